/-
  (package field) root, Sqrt: a square's root. Condition: the field of an odd prime; a number that is no square is known.
-/
import Derived.Test.YtkoonhiplicbkaaGreatQk35
set_option linter.unusedSimpArgs false
set_option linter.unusedVariables false
set_option maxHeartbeats 4000000
set_option maxRecDepth 100000
namespace Go.Proofs.YtkoonhiplicbkaaGreat.Cw
open Go Go.RowKit
attribute [local irreducible] pc ptc nc ac cuc fc gpt
attribute [local go_sem ↓ high] wn_eql wn_neq wn_lss wn_gtr wn_leq wn_geq wn_cells wRS wn_guard lit0 lit1
attribute [local go_sem high] wn_match wRS wn_eql wn_neq wn_lss wn_gtr wn_leq wn_geq
theorem fc_by (p d:Nat):∀ j,j<1→(fc p d)[9+j]?=(#[.pointer (some ⟨d,0,none⟩)]:Array Value)[j]?:=fun j hj=>by
 unfold fc
 rw [Array.getElem?_append_right (by rw [nS]; omega),nS,Nat.add_sub_cancel_left]
theorem Mem.del {w0 w:World} (L1 L2:List Blk) (e:Blk) (M:Mem w0 w (L1++e::L2)):Mem w0 w (L1++L2):=M.sub ((List.Sublist.refl L1).append (List.Sublist.cons e (List.Sublist.refl L2)))
theorem shl_odd {o s L:Nat} (h:o*2 ^ s=L) (he:o%2=0):o / 2*2 ^ (s+1)=L:=by
 rw [Nat.pow_succ,Nat.mul_comm (2 ^ s),← Nat.mul_assoc,show o / 2*2=o by omega,h]
theorem field_root (f p d a q:Nat) (w:World) (hp:Pr p) (h2:p%2=1) (ha:a<p) (hq2:2≤q) (hqp:q<p) (hq:q ^ ((p - 1) / 2)%p=p - 1) (hs:a ^ ((p - 1) / 2)%p=1) (H:FieldAt w f p d):Calls Tryz.prog 140 #[.pointer (some ⟨f,0,none⟩),.agg (nc a)] w fun e w'=>∃ r,e=.returned (.agg (nc r))∧(r<p∧r*r%p=a)∧Below w.heap.size w w':=by
 have HF:=Hd H
 obtain ⟨hp9,hp0,h2p,hd,hf⟩:=H
 have HFB:=Hd hf
 have HD:=Hd hd
 have P9:=Hd hp9
 have HP0:=Hd hp0
 have HPR:=Hd hp
 have hp1:=hp.1
 have HAP:=Hd ha
 have A9:=Hd (Nat.lt_trans ha hp9)
 have HQP:=Hd hqp
 have HQ:=Hd hq
 have HS:=Hd hs
 have HM:=Hd (show ∀ v,v%p<p from fun v=>Nat.mod_lt _ (by omega))
 obtain ⟨L,hL⟩:∃ L,L=p - 1:=⟨_,rfl⟩
 have HL:=Hd hL
 have hL0:0<L:=by omega
 have hLe:L%2=0:=by omega
 have L9:=Hd (show L<pw 9 by omega)
 have HDL:=Hd (show dif p 1 9=L by rw [hL]; unfold dif; rw [show p+pw 9 - 1=(p - 1)+pw 9 by omega,Nat.add_mod_right,Nat.mod_eq_of_lt (by omega)])
 have H9:=Hd (show L / 2<pw 9 by omega)
 have hodd9:=Hd (show ∀ o,o≤L→o+1<pw 9∧(o+1) / 2<pw 9∧o<pw 9 from fun o ho=>by omega)
 clear hp ha hqp hq hs hp9 h2p hd hf hL hp0
 go_enter Tryz.func140,Tryz.ntmps140
 go_upto_region 1 with fail
 rw [← nZ]
 have m0:=Mem.start2 w (nc a) (nc 0) 27 27
 obtain ⟨w1,hw1⟩:∃ w1:World,w1=((w.alloc (.cells (nc a) 27)).alloc (.cells (nc 0) 27)):=⟨_,rfl⟩
 rw [← hw1] at m0 ⊢
 clear hw1
 obtain ⟨g,hg⟩:∃ g,g=w.heap.size:=⟨_,rfl⟩
 rw [← hg] at m0 ⊢
 have HG:=Hd hg
 have M:=Hd m0
 clear hg m0
 have D2:=Hd (M.out.drew)
 clear M
 refine wp_region_growT 9 10 (by kernel_rfl) (by kernel_rfl) (fun d v c a w h=>by cases d <;> exact h) ?_
 simp only [List.take_succ_cons,List.take_zero]
 refine gK (.pointer (some ⟨f,0,none⟩)) ?_
 refine gK (.pointer (some ⟨f,0,none⟩)) ?_
 refine gK (.pointer (some ⟨f,0,none⟩)) ?_
 refine lN rfl (.tmp 21) rfl f 0 (by kernel_rfl) p (fun u hu=>grows_at HFB.out (gT _ _ _ D2.out.1 hu)) (fc_p p d) ?_
 refine fG rfl 137 (.func 137) #[] #[] rfl #[] #[] (by kernel_rfl) (by kernel_rfl) (fun u=>cE _ _ _ _ u Tryz.func137 (by kernel_rfl) (by kernel_rfl)) (.agg (nc 1)) (fun u hu=>by exact field_one u) ?_
 refine fG rfl 18 (.func 18) #[.tmp 22,.tmp 23] #[27,27] rfl #[] #[.agg (nc p),.agg (nc 1)] (by kernel_rfl) (by kernel_rfl) (fun u=>cE _ _ _ _ u Tryz.func18 (by kernel_rfl) (by kernel_rfl)) (.tuple #[.agg (nc L),.bool (decide (p<1))]) (fun u hu=>by exact HDL.out ▸ nat_sub p 1 u P9.out one_pw9) ?_
 refine gK (.tuple #[.agg (nc L),.bool (decide (p<1))]) ?_
 refine gK (.agg (nc L)) ?_
 refine gK (.bool (decide (p<1))) ?_
 refine gN ?_
 try simp only [Act.put,s_,t_,u_,v_,x_,y_]
 refine grow_alloc (i:=9) (f:=2) (by kernel_rfl) (by decide) rfl rfl 27 rfl (.agg (nc 0)) (by rw [nZ]; kernel_rfl) ?_
 intro lb v3 hx hx2 hgv hh
 have Nv3:=Hd (D2.out.new hgv hx hh)
 have Nv3:Hid (Mem w v3 [(g,nc a,27),(g+1,nc 0,27),(lb,nc 0,27)]):=Nv3
 clear hgv hx hx2 hh D2
 try simp only [Act.put,s_,t_,u_,v_,x_,y_]
 refine gS (rs:=[10]) (by kernel_rfl) (by decide) (fun w4 hg6=>?_)
 have Nw4:=Hd (Nv3.out.grow hg6)
 clear hg6 Nv3
 refine wpAny_ready (rs:=[10]) (by kernel_rfl) (by simp) ?_
 refine AllReady.cons rfl (fun K hK=>?_) AllReady.nil
 refine sK rfl 27 (.tmp 5) (.tmp 25) rfl lb rfl _ _ _ rfl (Nw4.out.at 2 rfl) (by rw [nS]; kernel_rfl) (by simp only [nS]) (nO _) (fun w5 hw hb hs=>hK _ _ ?_)
 have Nw5:=Hd (Nw4.out.store 2 rfl hb hs hw)
 clear hK hw hb hs Nw4
 try simp only [Act.put,s_,t_,u_,v_,x_,y_]
 refine wpAny_ready (rs:=[11]) (by kernel_rfl) (by simp) ?_
 refine AllReady.cons rfl (fun K hK=>?_) AllReady.nil
 go_simp
 refine hK _ _ ?_
 clear hK
 try simp only [Act.put,s_,t_,u_,v_,x_,y_]
 refine wpAny_done (by kernel_rfl) ?_ _
 try simp only [Act.put,s_,t_,u_,v_,x_,y_]
 go_upto_region 2 with (fail)
 refine wp_region_lit ?_
 refine l0N rfl (.tmp 5) rfl lb (by kernel_rfl) (Nw5.out.at 2 rfl) ?_
 refine nL rfl 27 rfl (.agg (nc 0)) (by rw [nZ]; kernel_rfl) ?_
 intro ob w6 hx hx2 hgv hh
 have Nw6:=Hd (show Mem w w6 [(g,nc a,27),(g+1,nc 0,27),(lb,nc L,27),(ob,nc 0,27)] from Nw5.out.new hgv (Nat.le_of_eq hx) hh)
 clear hx hx2 hgv hh Nw5
 refine sB rfl 27 (.tmp 7) (.tmp 27) rfl ob (by kernel_rfl) _ _ (nc L) (by kernel_rfl) (Nw6.out.at 3 rfl) (by rw [nS]; kernel_rfl) (by simp only [nS]) (nO _) ?_
 intro w7 hw hb hs
 have Nw7:=Hd (Nw6.out.store 3 rfl hb hs hw)
 clear hw hb hs Nw6
 refine pK (.int .i64 0) ?_
 refine wpList_nil ?_
 try simp only [Act.put,s_,t_,u_,v_,x_,y_]
 go_upto_region 3 with (fail)
 go_loopw [8] (fun iv wr=>∃ o s:Nat,iv=.int .i64 (s:Int)∧s≤576∧0<o∧o≤L∧Hid (o*2 ^ s=L)∧Mem w wr [(g,nc a,27),(g+1,nc 0,27),(lb,nc L,27),(ob,nc o,27)]) (fun _ wr=>natAt wr ob)
 case atStart=>exact ⟨L,0,rfl,by omega,hL0,Nat.le_refl _,Hd (by rw [Nat.pow_zero,Nat.mul_one]),Nw7.out⟩
 case round=>
  obtain ⟨o,s,rfl,hs5,ho0,hoL,hos,hm⟩:=hrel
  have M:=Hd hm
  have MK:=Hd hm
  clear hm
  have O9:=Hd (hodd9.out o hoL)
  rcases bit_or o 0 with hb | hb
  ·have heven:o%2=0:=by unfold bitN at hb; simpa using hb
   have hs6:s+1≤576:=by
    have h4:1*2 ^ s≤o*2 ^ s:=Nat.mul_le_mul_right _ (by omega)
    rw [hos.out,Nat.one_mul] at h4
    have h5:=(Nat.pow_lt_pow_iff_right (by decide:1<2)).1 (Nat.lt_of_le_of_lt h4 (bl_lt L))
    have h6:=bl_le576 L L9.out
    omega
   go_upto_region 3 with (fail)
   refine wp_region_lit ?_
   refine l0N rfl (.tmp 7) rfl ob (by kernel_rfl) (M.out.at 3 rfl) ?_
   refine fL rfl 51 (.func 51) #[.tmp 28,.const (.int .i64 0)] #[27,3] rfl #[] #[.agg (nc o),.int .i64 0] (by kernel_rfl) (by kernel_rfl) (fun u=>cE _ _ _ _ u Tryz.func51 (by kernel_rfl) (by kernel_rfl)) (.int .i64 ((0:Nat):Int)) ((hb ▸ nat_bit o 0 wr (by decide))) (fun w68 hb=>?_)
   have Nw68:=Hd (M.out.grow hb)
   clear hb M
   refine pK (.bool true) ?_
   refine wpList_nil ?_
   try simp only [Act.put,s_,t_,u_,v_,x_,y_]
   go_upto_region 4 with (fail)
   refine wp_region_lit ?_
   refine l0N rfl (.tmp 7) rfl ob (by kernel_rfl) (Nw68.out.at 3 rfl) ?_
   refine fL rfl 139 (.func 139) #[.tmp 31] #[27] rfl #[] #[.agg (nc o)] (by kernel_rfl) (by kernel_rfl) (fun u=>cE _ _ _ _ u Tryz.func139 (by kernel_rfl) (by kernel_rfl)) (.agg (nc ((o / 2)))) (field_half o w68 O9.out.2.2) (fun w69 hb=>?_)
   have Nw69:=Hd (Nw68.out.grow hb)
   clear hb Nw68
   refine pK (.int .i64 (s:Int)) ?_
   try simp only [Act.put,s_,t_,u_,v_,x_,y_]
   refine pL rfl (.int .i64 ((s+1:Nat):Int)) (fun u=>run_bini _ _ _ _ _ rfl (s:Int) ((1:Nat):Int) (by kernel_rfl) (by kernel_rfl) (bi_add _ (by omega)) u) ?_
   refine sB rfl 27 (.tmp 7) (.tmp 32) rfl ob (by kernel_rfl) _ _ (nc ((o / 2))) (by kernel_rfl) (Nw69.out.at 3 rfl) (by rw [nS]; kernel_rfl) (by simp only [nS]) (nO _) ?_
   intro w70 hw hb hs
   have Nw70:=Hd (Nw69.out.store 3 rfl hb hs hw)
   clear hw hb hs Nw69
   refine pK (.int .i64 ((s+1:Nat):Int)) ?_
   refine wpList_nil ?_
   try simp only [Act.put,s_,t_,u_,v_,x_,y_]
   have e1:=natAt_of (MK.out.at 3 rfl) O9.out.2.2
   have e2:=natAt_of (Nw70.out.at 3 rfl) (show o / 2<pw 9 by have:=O9.out.2.2; omega)
   go_wp2_with (fail)
   exact ⟨⟨o / 2,s+1,rfl,hs6,by omega,by omega,Hd (shl_odd hos.out heven),Nw70.out⟩,by rw [e1,e2]; omega⟩
  ·have hodd:o%2=1:=by unfold bitN at hb; simpa using hb
   have hs1:1≤s:=by
    rcases Nat.eq_zero_or_pos s with h | h
    ·exfalso
     have h1:=hos.out
     rw [h,Nat.pow_zero,Nat.mul_one] at h1
     omega
    ·exact h
   go_upto_region 3 with (fail)
   refine wp_region_lit ?_
   refine l0N rfl (.tmp 7) rfl ob (by kernel_rfl) (M.out.at 3 rfl) ?_
   refine fL rfl 51 (.func 51) #[.tmp 28,.const (.int .i64 0)] #[27,3] rfl #[] #[.agg (nc o),.int .i64 0] (by kernel_rfl) (by kernel_rfl) (fun u=>cE _ _ _ _ u Tryz.func51 (by kernel_rfl) (by kernel_rfl)) (.int .i64 ((1:Nat):Int)) ((hb ▸ nat_bit o 0 wr (by decide))) (fun w8 hb=>?_)
   have Nw8:=Hd (M.out.grow hb)
   clear hb M
   refine pK (.bool false) ?_
   refine wpList_nil ?_
   try simp only [Act.put,s_,t_,u_,v_,x_,y_]
   go_upto_region 5 with (fail)
   refine wp_region_lit ?_
   refine fL rfl 47 (.func 47) #[.const (.int .i64 2)] #[3] rfl #[] #[.int .i64 2] (by kernel_rfl) (by kernel_rfl) (fun u=>cE _ _ _ _ u Tryz.func47 (by kernel_rfl) (by kernel_rfl)) (.agg (nc 2)) (nat_small 2 w8 (by decide)) (fun w9 hb=>?_)
   have Nw9:=Hd (Nw8.out.grow hb)
   clear hb Nw8
   refine nL rfl 27 rfl (.agg (nc 0)) (by rw [nZ]; kernel_rfl) ?_
   intro nb w10 hx hx2 hgv hh
   have Nw10:=Hd (show Mem w w10 [(g,nc a,27),(g+1,nc 0,27),(lb,nc L,27),(ob,nc o,27),(nb,nc 0,27)] from Nw9.out.new hgv (Nat.le_of_eq hx) hh)
   clear hx hx2 hgv hh Nw9
   refine sB rfl 27 (.tmp 9) (.tmp 35) rfl nb (by kernel_rfl) _ _ (nc 2) (by kernel_rfl) (Nw10.out.at 4 rfl) (by rw [nS]; kernel_rfl) (by simp only [nS]) (nO _) ?_
   intro w11 hw hb hs
   have Nw11:=Hd (Nw10.out.store 4 rfl hb hs hw)
   clear hw hb hs Nw10
   refine wpList_nil ?_
   try simp only [Act.put,s_,t_,u_,v_,x_,y_]
   go_upto_region 6 with (fail)
   go_loopw [45] (fun _ wr=>∃ v:Nat,2≤v∧v≤q∧Mem w wr [(g,nc a,27),(g+1,nc 0,27),(lb,nc L,27),(ob,nc o,27),(nb,nc v,27)]) (fun _ wr=>q - natAt wr nb)
   case atStart=>exact ⟨2,Nat.le_refl _,hq2,Nw11.out⟩
   case round=>
    obtain ⟨v,hv2,hvq,hm⟩:=hrel
    have M:=Hd hm
    have MK:=Hd hm
    clear hm
    have V9:=Hd (show v<pw 9 by have:=HQP.out; have:=P9.out; omega)
    by_cases hv:v ^ (L / 2)%p=L
    rotate_left
    ·have HNE:=Hd hv
     go_upto_region 6 with (fail)
     have D72:=Hd (M.out.drew)
     clear M
     refine wp_region_growT 10 10 (by kernel_rfl) (by kernel_rfl) (fun d v c a w h=>by cases d <;> exact h) ?_
     simp only [List.take_succ_cons,List.take_zero]
     refine gK (.pointer (some ⟨f,0,none⟩)) ?_
     refine gK (.pointer (some ⟨f,0,none⟩)) ?_
     refine gK (.pointer (some ⟨f,9,none⟩)) ?_
     refine wpGrow_load_seg rfl 92 (.tmp 38) rfl f 9 1 (by kernel_rfl) (#[.pointer (some ⟨d,0,none⟩)]) _ Tryz.underlying92 rfl (by kernel_rfl) (rfl) (fun u hu=>grows_at HFB.out (gT _ _ _ D72.out.1 hu)) (fun j hj=>fc_by p d j hj) ?_
     refine lG rfl (.tmp 9) rfl nb (by kernel_rfl) (fun u hu=>D72.out.up 4 rfl hu) ?_
     refine lG rfl (.tmp 5) rfl lb (by kernel_rfl) (fun u hu=>D72.out.up 2 rfl hu) ?_
     refine fG rfl 139 (.func 139) #[.tmp 41] #[27] rfl #[] #[.agg (nc L)] (by kernel_rfl) (by kernel_rfl) (fun u=>cE _ _ _ _ u Tryz.func139 (by kernel_rfl) (by kernel_rfl)) (.agg (nc ((L / 2)))) (fun u hu=>by exact field_half L u L9.out) ?_
     refine fG rfl 138 (.func 138) #[.tmp 39,.tmp 40,.tmp 42] #[92,27,27] rfl #[] #[.agg #[.pointer (some ⟨d,0,none⟩)],.agg (nc v),.agg (nc ((L / 2)))] (by kernel_rfl) (by kernel_rfl) (fun u=>cE _ _ _ _ u Tryz.func138 (by kernel_rfl) (by kernel_rfl)) (.agg (nc ((v ^ (L / 2)%p)))) (fun u hu=>by exact modulus_pow d v (L / 2) p u V9.out H9.out P9.out HP0.out (HD.out.up (gT _ _ _ D72.out.1 hu))) ?_
     refine lG rfl (.tmp 5) rfl lb (by kernel_rfl) (fun u hu=>D72.out.up 2 rfl hu) ?_
     refine pG rfl (.bool true) (fun u=>by exact run_nen _ _ _ rfl (v ^ (L / 2)%p) L (by kernel_rfl) (by kernel_rfl) (Nat.lt_trans (HM.out _) P9.out) L9.out true (decide_eq_true HNE.out) u) ?_
     refine gN ?_
     try simp only [Act.put,s_,t_,u_,v_,x_,y_]
     intro w73 hg6
     refine ⟨by kernel_rfl,?_⟩
     have Nw73:=Hd (D72.out.grow hg6)
     clear hg6 D72
     try simp only [Act.put,s_,t_,u_,v_,x_,y_]
     have hvq2:v<q:=by
      rcases Nat.lt_or_ge v q with h | h
      ·exact h
      ·exfalso
       have e:v=q:=by omega
       exact HNE.out (by rw [e,HL.out]; exact HQ.out)
     go_upto_region 7 with (fail)
     have D74:=Hd (Nw73.out.drew)
     clear Nw73
     refine wp_region_growT 4 4 (by kernel_rfl) (by kernel_rfl) (fun d v c a w h=>by cases d <;> exact h) ?_
     simp only [List.take_succ_cons,List.take_zero]
     refine gK (.pointer (some ⟨f,0,none⟩)) ?_
     refine lG rfl (.tmp 9) rfl nb (by kernel_rfl) (fun u hu=>D74.out.up 4 rfl hu) ?_
     refine fG rfl 137 (.func 137) #[] #[] rfl #[] #[] (by kernel_rfl) (by kernel_rfl) (fun u=>cE _ _ _ _ u Tryz.func137 (by kernel_rfl) (by kernel_rfl)) (.agg (nc 1)) (fun u hu=>by exact field_one u) ?_
     refine fG rfl 73 (.func 73) #[.tmp 46,.tmp 47,.tmp 48] #[85,27,27] rfl #[] #[.pointer (some ⟨f,0,none⟩),.agg (nc v),.agg (nc 1)] (by kernel_rfl) (by kernel_rfl) (fun u=>cE _ _ _ _ u Tryz.func73 (by kernel_rfl) (by kernel_rfl)) (.agg (nc (((v+1)%p)))) (fun u hu=>by exact field_add f p d v 1 u (by have:=HQP.out; omega) (by omega) (HF.out.up (gT _ _ _ D74.out.1 hu))) ?_
     refine gN ?_
     try simp only [Act.put,s_,t_,u_,v_,x_,y_]
     refine gS (rs:=[4]) (by kernel_rfl) (by decide) (fun w75 hg6=>?_)
     have Nw75:=Hd (D74.out.grow hg6)
     clear hg6 D74
     refine wpAny_ready (rs:=[4]) (by kernel_rfl) (by simp) ?_
     refine AllReady.cons rfl (fun K hK=>?_) AllReady.nil
     refine sK rfl 27 (.tmp 9) (.tmp 49) rfl nb rfl _ _ _ rfl (Nw75.out.at 4 rfl) (by rw [nS]; kernel_rfl) (by simp only [nS]) (nO _) (fun w76 hw hb hs=>hK _ _ ?_)
     have Nw76:=Hd (Nw75.out.store 4 rfl hb hs hw)
     clear hK hw hb hs Nw75
     try simp only [Act.put,s_,t_,u_,v_,x_,y_]
     refine wpAny_done (by kernel_rfl) ?_ _
     try simp only [Act.put,s_,t_,u_,v_,x_,y_]
     have em:(v+1)%p=v+1:=Nat.mod_eq_of_lt (by have:=HQP.out; omega)
     have hfin:=Nw76.out
     rw [em] at hfin
     have e1:=natAt_of (MK.out.at 4 rfl) V9.out
     have e2:=natAt_of (hfin.at 4 rfl) (show v+1<pw 9 by have:=HQP.out; have:=P9.out; omega)
     go_wp2_with (fail)
     exact ⟨⟨v+1,by omega,by omega,hfin⟩,by rw [e1,e2]; omega⟩
    ·have HEQ:=Hd hv
     go_upto_region 6 with (fail)
     have D12:=Hd (M.out.drew)
     clear M
     refine wp_region_growT 10 10 (by kernel_rfl) (by kernel_rfl) (fun d v c a w h=>by cases d <;> exact h) ?_
     simp only [List.take_succ_cons,List.take_zero]
     refine gK (.pointer (some ⟨f,0,none⟩)) ?_
     refine gK (.pointer (some ⟨f,0,none⟩)) ?_
     refine gK (.pointer (some ⟨f,9,none⟩)) ?_
     refine wpGrow_load_seg rfl 92 (.tmp 38) rfl f 9 1 (by kernel_rfl) (#[.pointer (some ⟨d,0,none⟩)]) _ Tryz.underlying92 rfl (by kernel_rfl) (rfl) (fun u hu=>grows_at HFB.out (gT _ _ _ D12.out.1 hu)) (fun j hj=>fc_by p d j hj) ?_
     refine lG rfl (.tmp 9) rfl nb (by kernel_rfl) (fun u hu=>D12.out.up 4 rfl hu) ?_
     refine lG rfl (.tmp 5) rfl lb (by kernel_rfl) (fun u hu=>D12.out.up 2 rfl hu) ?_
     refine fG rfl 139 (.func 139) #[.tmp 41] #[27] rfl #[] #[.agg (nc L)] (by kernel_rfl) (by kernel_rfl) (fun u=>cE _ _ _ _ u Tryz.func139 (by kernel_rfl) (by kernel_rfl)) (.agg (nc ((L / 2)))) (fun u hu=>by exact field_half L u L9.out) ?_
     refine fG rfl 138 (.func 138) #[.tmp 39,.tmp 40,.tmp 42] #[92,27,27] rfl #[] #[.agg #[.pointer (some ⟨d,0,none⟩)],.agg (nc v),.agg (nc ((L / 2)))] (by kernel_rfl) (by kernel_rfl) (fun u=>cE _ _ _ _ u Tryz.func138 (by kernel_rfl) (by kernel_rfl)) (.agg (nc ((v ^ (L / 2)%p)))) (fun u hu=>by exact modulus_pow d v (L / 2) p u V9.out H9.out P9.out HP0.out (HD.out.up (gT _ _ _ D12.out.1 hu))) ?_
     refine lG rfl (.tmp 5) rfl lb (by kernel_rfl) (fun u hu=>D12.out.up 2 rfl hu) ?_
     refine pG rfl (.bool false) (fun u=>by exact run_nen _ _ _ rfl (v ^ (L / 2)%p) L (by kernel_rfl) (by kernel_rfl) (Nat.lt_trans (HM.out _) P9.out) L9.out false (decide_eq_false (fun h=>h HEQ.out)) u) ?_
     refine gN ?_
     try simp only [Act.put,s_,t_,u_,v_,x_,y_]
     intro w13 hg6
     refine ⟨by kernel_rfl,?_⟩
     have Nw13:=Hd (D12.out.grow hg6)
     clear hg6 D12
     try simp only [Act.put,s_,t_,u_,v_,x_,y_]
     have hts:=TS.start (a:=a) (q:=v) HPR.out.1 (by rw [← HL.out]; exact hos.out) hodd hs1 HS.out (by rw [← HL.out]; exact HEQ.out)
     go_upto_region 8 with (fail)
     have D14:=Hd (Nw13.out.drew)
     clear Nw13
     refine wp_region_growT 6 7 (by kernel_rfl) (by kernel_rfl) (fun d v c a w h=>by cases d <;> exact h) ?_
     simp only [List.take_succ_cons,List.take_zero]
     refine lG rfl (.tmp 7) rfl ob (by kernel_rfl) (fun u hu=>D14.out.up 3 rfl hu) ?_
     refine fG rfl 137 (.func 137) #[] #[] rfl #[] #[] (by kernel_rfl) (by kernel_rfl) (fun u=>cE _ _ _ _ u Tryz.func137 (by kernel_rfl) (by kernel_rfl)) (.agg (nc 1)) (fun u hu=>by exact field_one u) ?_
     refine fG rfl 17 (.func 17) #[.tmp 51,.tmp 52] #[27,27] rfl #[] #[.agg (nc o),.agg (nc 1)] (by kernel_rfl) (by kernel_rfl) (fun u=>cE _ _ _ _ u Tryz.func17 (by kernel_rfl) (by kernel_rfl)) (.tuple #[.agg (nc ((o+1))),.bool (decide (pw 9≤o+1))]) (fun u hu=>by exact nat_add o 1 u O9.out.2.2 one_pw9) ?_
     refine gK (.tuple #[.agg (nc ((o+1))),.bool (decide (pw 9≤o+1))]) ?_
     refine gK (.agg (nc ((o+1)))) ?_
     refine gK (.bool (decide (pw 9≤o+1))) ?_
     refine gN ?_
     try simp only [Act.put,s_,t_,u_,v_,x_,y_]
     refine grow_alloc (i:=6) (f:=2) (by kernel_rfl) (by decide) rfl rfl 27 rfl (.agg (nc 0)) (by rw [nZ]; kernel_rfl) ?_
     intro ub v15 hx hx2 hgv hh
     have Nv15:=Hd (D14.out.new hgv hx hh)
     have Nv15:Hid (Mem w v15 [(g,nc a,27),(g+1,nc 0,27),(lb,nc L,27),(ob,nc o,27),(nb,nc v,27),(ub,nc 0,27)]):=Nv15
     clear hgv hx hx2 hh D14
     try simp only [Act.put,s_,t_,u_,v_,x_,y_]
     refine gS (rs:=[7]) (by kernel_rfl) (by decide) (fun w16 hg6=>?_)
     have Nw16:=Hd (Nv15.out.grow hg6)
     clear hg6 Nv15
     refine wpAny_ready (rs:=[7]) (by kernel_rfl) (by simp) ?_
     refine AllReady.cons rfl (fun K hK=>?_) AllReady.nil
     refine sK rfl 27 (.tmp 10) (.tmp 54) rfl ub rfl _ _ _ rfl (Nw16.out.at 5 rfl) (by rw [nS]; kernel_rfl) (by simp only [nS]) (nO _) (fun w17 hw hb hs=>hK _ _ ?_)
     have Nw17:=Hd (Nw16.out.store 5 rfl hb hs hw)
     clear hK hw hb hs Nw16
     try simp only [Act.put,s_,t_,u_,v_,x_,y_]
     refine wpAny_ready (rs:=[8]) (by kernel_rfl) (by simp) ?_
     refine AllReady.cons rfl (fun K hK=>?_) AllReady.nil
     go_simp
     refine hK _ _ ?_
     clear hK
     try simp only [Act.put,s_,t_,u_,v_,x_,y_]
     refine wpAny_done (by kernel_rfl) ?_ _
     try simp only [Act.put,s_,t_,u_,v_,x_,y_]
     go_upto_region 9 with (fail)
     have D18:=Hd (Nw17.out.drew)
     clear Nw17
     refine wp_region_growT 22 25 (by kernel_rfl) (by kernel_rfl) (fun d v c a w h=>by cases d <;> exact h) ?_
     simp only [List.take_succ_cons,List.take_zero]
     refine gK (.pointer (some ⟨f,0,none⟩)) ?_
     refine gK (.pointer (some ⟨f,0,none⟩)) ?_
     refine gK (.pointer (some ⟨f,9,none⟩)) ?_
     refine wpGrow_load_seg rfl 92 (.tmp 58) rfl f 9 1 (by kernel_rfl) (#[.pointer (some ⟨d,0,none⟩)]) _ Tryz.underlying92 rfl (by kernel_rfl) (rfl) (fun u hu=>grows_at HFB.out (gT _ _ _ D18.out.1 hu)) (fun j hj=>fc_by p d j hj) ?_
     refine lG rfl (.tmp 9) rfl nb (by kernel_rfl) (fun u hu=>D18.out.up 4 rfl hu) ?_
     refine lG rfl (.tmp 7) rfl ob (by kernel_rfl) (fun u hu=>D18.out.up 3 rfl hu) ?_
     refine fG rfl 138 (.func 138) #[.tmp 59,.tmp 60,.tmp 61] #[92,27,27] rfl #[] #[.agg #[.pointer (some ⟨d,0,none⟩)],.agg (nc v),.agg (nc o)] (by kernel_rfl) (by kernel_rfl) (fun u=>cE _ _ _ _ u Tryz.func138 (by kernel_rfl) (by kernel_rfl)) (.agg (nc ((v ^ o%p)))) (fun u hu=>by exact modulus_pow d v o p u V9.out O9.out.2.2 P9.out HP0.out (HD.out.up (gT _ _ _ D18.out.1 hu))) ?_
     refine gK (.pointer (some ⟨f,0,none⟩)) ?_
     refine gK (.pointer (some ⟨f,0,none⟩)) ?_
     refine gK (.pointer (some ⟨f,9,none⟩)) ?_
     refine wpGrow_load_seg rfl 92 (.tmp 65) rfl f 9 1 (by kernel_rfl) (#[.pointer (some ⟨d,0,none⟩)]) _ Tryz.underlying92 rfl (by kernel_rfl) (rfl) (fun u hu=>grows_at HFB.out (gT _ _ _ D18.out.1 hu)) (fun j hj=>fc_by p d j hj) ?_
     refine lG rfl (.tmp 3) rfl g (by kernel_rfl) (fun u hu=>D18.out.up 0 rfl hu) ?_
     refine lG rfl (.tmp 10) rfl ub (by kernel_rfl) (fun u hu=>D18.out.up 5 rfl hu) ?_
     refine fG rfl 139 (.func 139) #[.tmp 68] #[27] rfl #[] #[.agg (nc ((o+1)))] (by kernel_rfl) (by kernel_rfl) (fun u=>cE _ _ _ _ u Tryz.func139 (by kernel_rfl) (by kernel_rfl)) (.agg (nc (((o+1) / 2)))) (fun u hu=>by exact field_half (o+1) u O9.out.1) ?_
     refine fG rfl 138 (.func 138) #[.tmp 66,.tmp 67,.tmp 69] #[92,27,27] rfl #[] #[.agg #[.pointer (some ⟨d,0,none⟩)],.agg (nc a),.agg (nc (((o+1) / 2)))] (by kernel_rfl) (by kernel_rfl) (fun u=>cE _ _ _ _ u Tryz.func138 (by kernel_rfl) (by kernel_rfl)) (.agg (nc ((a ^ ((o+1) / 2)%p)))) (fun u hu=>by exact modulus_pow d a (((o+1) / 2)) p u A9.out O9.out.2.1 P9.out HP0.out (HD.out.up (gT _ _ _ D18.out.1 hu))) ?_
     refine gK (.pointer (some ⟨f,0,none⟩)) ?_
     refine gK (.pointer (some ⟨f,0,none⟩)) ?_
     refine gK (.pointer (some ⟨f,9,none⟩)) ?_
     refine wpGrow_load_seg rfl 92 (.tmp 73) rfl f 9 1 (by kernel_rfl) (#[.pointer (some ⟨d,0,none⟩)]) _ Tryz.underlying92 rfl (by kernel_rfl) (rfl) (fun u hu=>grows_at HFB.out (gT _ _ _ D18.out.1 hu)) (fun j hj=>fc_by p d j hj) ?_
     refine lG rfl (.tmp 3) rfl g (by kernel_rfl) (fun u hu=>D18.out.up 0 rfl hu) ?_
     refine lG rfl (.tmp 7) rfl ob (by kernel_rfl) (fun u hu=>D18.out.up 3 rfl hu) ?_
     refine fG rfl 138 (.func 138) #[.tmp 74,.tmp 75,.tmp 76] #[92,27,27] rfl #[] #[.agg #[.pointer (some ⟨d,0,none⟩)],.agg (nc a),.agg (nc o)] (by kernel_rfl) (by kernel_rfl) (fun u=>cE _ _ _ _ u Tryz.func138 (by kernel_rfl) (by kernel_rfl)) (.agg (nc ((a ^ o%p)))) (fun u hu=>by exact modulus_pow d a o p u A9.out O9.out.2.2 P9.out HP0.out (HD.out.up (gT _ _ _ D18.out.1 hu))) ?_
     refine gN ?_
     try simp only [Act.put,s_,t_,u_,v_,x_,y_]
     refine grow_alloc3 (i:=22) (j:=23) (k:=24) (f:=3) (by kernel_rfl) (by decide) (by decide) (by decide) (by kernel_rfl) (by kernel_rfl) (by kernel_rfl) (by kernel_rfl) (by kernel_rfl) (by kernel_rfl) (by decide) (by decide) (by decide) rfl rfl rfl rfl rfl rfl (fun _ h=>by cases h; decide) (fun _ h=>by cases h; decide) (fun _ h=>by cases h; decide) 27 27 27 rfl rfl rfl (.agg (nc 0)) (.agg (nc 0)) (.agg (nc 0)) (by rw [nZ]; kernel_rfl) (by rw [nZ]; kernel_rfl) (by rw [nZ]; kernel_rfl) ?_
     intro cb xb tb v19 hx hx2 hy hy2 hz hz2 hxy hxz hyz hgv hh hh2 hh3
     have Nv19:=Hd (D18.out.new3 hgv hx hy hz hxy hxz hyz hh hh2 hh3)
     have Nv19:Hid (Mem w v19 [(g,nc a,27),(g+1,nc 0,27),(lb,nc L,27),(ob,nc o,27),(nb,nc v,27),(ub,nc ((o+1)),27),(cb,nc 0,27),(xb,nc 0,27),(tb,nc 0,27)]):=Nv19
     clear hgv hx hx2 hy hy2 hz hz2 hxy hxz hyz hh hh2 hh3 D18
     try simp only [Act.put,s_,t_,u_,v_,x_,y_]
     refine gS (rs:=[25]) (by kernel_rfl) (by decide) (fun w20 hg6=>?_)
     have Nw20:=Hd (Nv19.out.grow hg6)
     clear hg6 Nv19
     refine wpAny_ready (rs:=[25]) (by kernel_rfl) (by simp) ?_
     refine AllReady.cons rfl (fun K hK=>?_) AllReady.nil
     refine sK rfl 27 (.tmp 12) (.tmp 62) rfl cb rfl _ _ _ rfl (Nw20.out.at 6 rfl) (by rw [nS]; kernel_rfl) (by simp only [nS]) (nO _) (fun w21 hw hb hs=>hK _ _ ?_)
     have Nw21:=Hd (Nw20.out.store 6 rfl hb hs hw)
     clear hK hw hb hs Nw20
     try simp only [Act.put,s_,t_,u_,v_,x_,y_]
     refine wpAny_ready (rs:=[26]) (by kernel_rfl) (by simp) ?_
     refine AllReady.cons rfl (fun K hK=>?_) AllReady.nil
     refine sK rfl 27 (.tmp 13) (.tmp 70) rfl xb rfl _ _ _ rfl (Nw21.out.at 7 rfl) (by rw [nS]; kernel_rfl) (by simp only [nS]) (nO _) (fun w22 hw hb hs=>hK _ _ ?_)
     have Nw22:=Hd (Nw21.out.store 7 rfl hb hs hw)
     clear hK hw hb hs Nw21
     try simp only [Act.put,s_,t_,u_,v_,x_,y_]
     refine wpAny_ready (rs:=[27]) (by kernel_rfl) (by simp) ?_
     refine AllReady.cons rfl (fun K hK=>?_) AllReady.nil
     refine sK rfl 27 (.tmp 14) (.tmp 77) rfl tb rfl _ _ _ rfl (Nw22.out.at 8 rfl) (by rw [nS]; kernel_rfl) (by simp only [nS]) (nO _) (fun w23 hw hb hs=>hK _ _ ?_)
     have Nw23:=Hd (Nw22.out.store 8 rfl hb hs hw)
     clear hK hw hb hs Nw22
     try simp only [Act.put,s_,t_,u_,v_,x_,y_]
     refine wpAny_done (by kernel_rfl) ?_ _
     try simp only [Act.put,s_,t_,u_,v_,x_,y_]
     obtain ⟨x0,hx0⟩:∃ x0,x0=a ^ ((o+1) / 2)%p:=⟨_,rfl⟩
     obtain ⟨c0,hc0⟩:∃ c0,c0=v ^ o%p:=⟨_,rfl⟩
     obtain ⟨t0,ht0⟩:∃ t0,t0=a ^ o%p:=⟨_,rfl⟩
     rw [← hx0,← hc0,← ht0] at hts
     have HTS:=Hd hts
     have hm0:=Nw23.out
     rw [← hx0,← hc0,← ht0] at hm0
     have MM:=Hd hm0
     clear hm0 hts hx0 hc0 ht0 Nw23
     go_upto_region 10 with (fail)
     go_loopw [8] (fun nv wr=>∃ x c t n:Nat,nv=.int .i64 (n:Int)∧n≤576∧Hid (TS p a x c t n)∧Mem w wr [(g,nc a,27),(g+1,nc 0,27),(lb,nc L,27),(ob,nc o,27),(nb,nc v,27),(ub,nc ((o+1)),27),(cb,nc c,27),(xb,nc x,27),(tb,nc t,27)]) (fun nv _=>(intOf nv).toNat)
     case atStart=>exact ⟨x0,c0,t0,s,rfl,hs5,HTS,MM.out⟩
     case round=>
      obtain ⟨x,c,t,n,rfl,hn5,hts,hm⟩:=hrel
      have M:=Hd hm
      clear hm
      have HX:=Hd hts.out.xl
      have HC:=Hd hts.out.cl
      have HT:=Hd hts.out.tl
      have X9:=Hd (Nat.lt_trans hts.out.xl P9.out)
      have C9:=Hd (Nat.lt_trans hts.out.cl P9.out)
      have T9:=Hd (Nat.lt_trans hts.out.tl P9.out)
      by_cases h1:t=1
      ·have HEQ1:=Hd h1
       go_upto_region 10 with (fail)
       have D84:=Hd (M.out.drew)
       clear M
       refine wp_region_growT 3 3 (by kernel_rfl) (by kernel_rfl) (fun d v c a w h=>by cases d <;> exact h) ?_
       simp only [List.take_succ_cons,List.take_zero]
       refine lG rfl (.tmp 14) rfl tb (by kernel_rfl) (fun u hu=>D84.out.up 8 rfl hu) ?_
       refine fG rfl 137 (.func 137) #[] #[] rfl #[] #[] (by kernel_rfl) (by kernel_rfl) (fun u=>cE _ _ _ _ u Tryz.func137 (by kernel_rfl) (by kernel_rfl)) (.agg (nc 1)) (fun u hu=>by exact field_one u) ?_
       refine pG rfl (.bool false) (fun u=>by exact run_nen _ _ _ rfl t 1 (by kernel_rfl) (by kernel_rfl) T9.out one_pw9 false (decide_eq_false (fun h=>h HEQ1.out)) u) ?_
       refine gN ?_
       try simp only [Act.put,s_,t_,u_,v_,x_,y_]
       intro w85 hg6
       refine ⟨by kernel_rfl,?_⟩
       have Nw85:=Hd (D84.out.grow hg6)
       clear hg6 D84
       try simp only [Act.put,s_,t_,u_,v_,x_,y_]
       have hfin:=(show TS p a x c 1 n from HEQ1.out ▸ hts.out).fin HAP.out
       go_upto_region 25 with (fail)
       refine wp_region_lit ?_
       refine l0N rfl (.tmp 13) rfl xb (by kernel_rfl) (Nw85.out.at 7 rfl) ?_
       refine sB rfl 27 (.tmp 4) (.tmp 117) rfl (g+1) (by kernel_rfl) _ _ (nc x) (by kernel_rfl) (Nw85.out.at 1 rfl) (by rw [nS]; kernel_rfl) (by simp only [nS]) (nO _) ?_
       intro w86 hw hb hs
       have Nw86:=Hd (Nw85.out.store 1 rfl hb hs hw)
       clear hw hb hs Nw85
       refine wpList_nil ?_
       try simp only [Act.put,s_,t_,u_,v_,x_,y_]
       go_wp2_with (fail)
       exact bodyPost_ret (results_N rfl _ _ (g+1) _ _ _ rfl (Nw86.out.at 1 rfl)) rfl ⟨x,rfl,hfin,Nw86.out.below⟩
      ·have HN1:=Hd h1
       go_upto_region 10 with (fail)
       have D24:=Hd (M.out.drew)
       clear M
       refine wp_region_growT 3 3 (by kernel_rfl) (by kernel_rfl) (fun d v c a w h=>by cases d <;> exact h) ?_
       simp only [List.take_succ_cons,List.take_zero]
       refine lG rfl (.tmp 14) rfl tb (by kernel_rfl) (fun u hu=>D24.out.up 8 rfl hu) ?_
       refine fG rfl 137 (.func 137) #[] #[] rfl #[] #[] (by kernel_rfl) (by kernel_rfl) (fun u=>cE _ _ _ _ u Tryz.func137 (by kernel_rfl) (by kernel_rfl)) (.agg (nc 1)) (fun u hu=>by exact field_one u) ?_
       refine pG rfl (.bool true) (fun u=>by exact run_nen _ _ _ rfl t 1 (by kernel_rfl) (by kernel_rfl) T9.out one_pw9 true (decide_eq_true HN1.out) u) ?_
       refine gN ?_
       try simp only [Act.put,s_,t_,u_,v_,x_,y_]
       intro w25 hg6
       refine ⟨by kernel_rfl,?_⟩
       have Nw25:=Hd (D24.out.grow hg6)
       clear hg6 D24
       try simp only [Act.put,s_,t_,u_,v_,x_,y_]
       go_upto_region 11 with (fail)
       refine wp_region_lit ?_
       refine pK (.int .i64 0) ?_
       refine wpList_nil ?_
       try simp only [Act.put,s_,t_,u_,v_,x_,y_]
       go_upto_region 12 with (fail)
       refine wp_region_lit ?_
       refine l0N rfl (.tmp 14) rfl tb (by kernel_rfl) (Nw25.out.at 8 rfl) ?_
       refine nL rfl 27 rfl (.agg (nc 0)) (by rw [nZ]; kernel_rfl) ?_
       intro sb0 w26 hx hx2 hgv hh
       have Nw26:=Hd (show Mem w w26 [(g,nc a,27),(g+1,nc 0,27),(lb,nc L,27),(ob,nc o,27),(nb,nc v,27),(ub,nc ((o+1)),27),(cb,nc c,27),(xb,nc x,27),(tb,nc t,27),(sb0,nc 0,27)] from Nw25.out.new hgv (Nat.le_of_eq hx) hh)
       clear hx hx2 hgv hh Nw25
       refine sB rfl 27 (.tmp 16) (.tmp 81) rfl sb0 (by kernel_rfl) _ _ (nc t) (by kernel_rfl) (Nw26.out.at 9 rfl) (by rw [nS]; kernel_rfl) (by simp only [nS]) (nO _) ?_
       intro w27 hw hb hs
       have Nw27:=Hd (Nw26.out.store 9 rfl hb hs hw)
       clear hw hb hs Nw26
       refine wpList_nil ?_
       try simp only [Act.put,s_,t_,u_,v_,x_,y_]
       have ht0:t ^ 2 ^ 0%p=t:=by rw [Nat.pow_zero,Nat.pow_one]; exact Nat.mod_eq_of_lt HT.out
       have hm0:=Nw27.out
       go_upto_region 13 with (fail)
       go_loopw [15,16] (fun kv pv wr=>∃ j sb:Nat,kv=.int .i64 (j:Int)∧pv=.pointer (some ⟨sb,0,none⟩)∧j≤n - 1∧Hid (∀ i,i<j→t ^ 2 ^ i%p≠1)∧Mem w wr [(g,nc a,27),(g+1,nc 0,27),(lb,nc L,27),(ob,nc o,27),(nb,nc v,27),(ub,nc ((o+1)),27),(cb,nc c,27),(xb,nc x,27),(tb,nc t,27),(sb,nc ((t ^ 2 ^ j%p)),27)]) (fun kv _ _=>n - (intOf kv).toNat)
       case atStart=>exact ⟨0,sb0,rfl,rfl,by omega,Hd (fun i hi=>absurd hi (by omega)),by rw [ht0]; exact hm0⟩
       case round=>
        obtain ⟨j,sb,rfl,rfl,hjn,hlow,hm⟩:=hrel
        have M:=Hd hm
        clear hm hm0
        have hn1:=hts.out.n1
        obtain ⟨z,hz⟩:∃ z,z=t ^ 2 ^ j%p:=⟨_,rfl⟩
        rw [← hz] at M
        have HZ:=Hd (show z<p by rw [hz]; exact HM.out _)
        have Z9:=Hd (Nat.lt_trans HZ.out P9.out)
        have HZE:=Hd hz
        clear hz
        by_cases hz1:z=1
        rotate_left
        ·have HZN:=Hd hz1
         have hjlt:j<n - 1:=by
          rcases Nat.lt_or_ge j (n - 1) with h | h
          ·exact h
          ·exfalso
           have e:j=n - 1:=by omega
           exact HZN.out (by rw [HZE.out,e]; exact hts.out.tt)
         go_upto_region 13 with (fail)
         have D118:=Hd (M.out.drew)
         clear M
         refine wp_region_growT 3 3 (by kernel_rfl) (by kernel_rfl) (fun d v c a w h=>by cases d <;> exact h) ?_
         simp only [List.take_succ_cons,List.take_zero]
         refine lG rfl (.tmp 16) rfl sb (by kernel_rfl) (fun u hu=>D118.out.up 9 rfl hu) ?_
         refine fG rfl 137 (.func 137) #[] #[] rfl #[] #[] (by kernel_rfl) (by kernel_rfl) (fun u=>cE _ _ _ _ u Tryz.func137 (by kernel_rfl) (by kernel_rfl)) (.agg (nc 1)) (fun u hu=>by exact field_one u) ?_
         refine pG rfl (.bool true) (fun u=>by exact run_nen _ _ _ rfl z 1 (by kernel_rfl) (by kernel_rfl) Z9.out one_pw9 true (decide_eq_true HZN.out) u) ?_
         refine gN ?_
         try simp only [Act.put,s_,t_,u_,v_,x_,y_]
         intro w119 hg6
         refine ⟨by kernel_rfl,?_⟩
         have Nw119:=Hd (D118.out.grow hg6)
         clear hg6 D118
         try simp only [Act.put,s_,t_,u_,v_,x_,y_]
         go_upto_region 15 with (fail)
         refine wp_region_lit ?_
         refine pK (.int .i64 (j:Int)) ?_
         try simp only [Act.put,s_,t_,u_,v_,x_,y_]
         refine pL rfl (.int .i64 ((j+1:Nat):Int)) (fun u=>run_bini _ _ _ _ _ rfl (j:Int) ((1:Nat):Int) (by kernel_rfl) (by kernel_rfl) (bi_add _ (by omega)) u) ?_
         refine pK (.int .i64 ((j+1:Nat):Int)) ?_
         refine wpList_nil ?_
         try simp only [Act.put,s_,t_,u_,v_,x_,y_]
         go_upto_region 16 with (fail)
         refine wp_region_lit ?_
         refine l0N rfl (.tmp 16) rfl sb (by kernel_rfl) (Nw119.out.at 9 rfl) ?_
         refine wpList_nil ?_
         try simp only [Act.put,s_,t_,u_,v_,x_,y_]
         go_upto_region 17 with (fail)
         refine wp_region_lit ?_
         refine nL rfl 27 rfl (.agg (nc 0)) (by rw [nZ]; kernel_rfl) ?_
         intro sb2 w120 hx hx2 hgv hh
         have Nw120:=Hd (show Mem w w120 [(g,nc a,27),(g+1,nc 0,27),(lb,nc L,27),(ob,nc o,27),(nb,nc v,27),(ub,nc ((o+1)),27),(cb,nc c,27),(xb,nc x,27),(tb,nc t,27),(sb,nc z,27),(sb2,nc 0,27)] from Nw119.out.new hgv (Nat.le_of_eq hx) hh)
         clear hx hx2 hgv hh Nw119
         refine sB rfl 27 (.tmp 16) (.tmp 91) rfl sb2 (by kernel_rfl) _ _ (nc z) (by kernel_rfl) (Nw120.out.at 10 rfl) (by rw [nS]; kernel_rfl) (by simp only [nS]) (nO _) ?_
         intro w121 hw hb hs
         have Nw121:=Hd (Nw120.out.store 10 rfl hb hs hw)
         clear hw hb hs Nw120
         refine wpList_nil ?_
         try simp only [Act.put,s_,t_,u_,v_,x_,y_]
         go_upto_region 14 with (fail)
         refine wp_region_lit ?_
         refine pK (.pointer (some ⟨f,0,none⟩)) ?_
         refine l0N rfl (.tmp 16) rfl sb2 (by kernel_rfl) (Nw121.out.at 10 rfl) ?_
         refine l0N rfl (.tmp 16) rfl sb2 (by kernel_rfl) (Nw121.out.at 10 rfl) ?_
         refine fL rfl 89 (.func 89) #[.tmp 85,.tmp 86,.tmp 87] #[85,27,27] rfl #[] #[.pointer (some ⟨f,0,none⟩),.agg (nc z),.agg (nc z)] (by kernel_rfl) (by kernel_rfl) (fun u=>cE _ _ _ _ u Tryz.func89 (by kernel_rfl) (by kernel_rfl)) (.agg (nc ((z*z%p)))) (field_mul f p d z z w121 HZ.out HZ.out (HF.out.up Nw121.out.1)) (fun w122 hb=>?_)
         have Nw122:=Hd (Nw121.out.grow hb)
         clear hb Nw121
         refine sB rfl 27 (.tmp 16) (.tmp 88) rfl sb2 (by kernel_rfl) _ _ (nc ((z*z%p))) (by kernel_rfl) (Nw122.out.at 10 rfl) (by rw [nS]; kernel_rfl) (by simp only [nS]) (nO _) ?_
         intro w123 hw hb hs
         have Nw123:=Hd (Nw122.out.store 10 rfl hb hs hw)
         clear hw hb hs Nw122
         refine wpList_nil ?_
         try simp only [Act.put,s_,t_,u_,v_,x_,y_]
         have hsq:z*z%p=t ^ 2 ^ (j+1)%p:=by rw [HZE.out]; exact sqp p t j
         have hfin:=Mem.del [(g,nc a,27),(g+1,nc 0,27),(lb,nc L,27),(ob,nc o,27),(nb,nc v,27),(ub,nc ((o+1)),27),(cb,nc c,27),(xb,nc x,27),(tb,nc t,27)] [(sb2,nc ((z*z%p)),27)] (sb,nc z,27) Nw123.out
         rw [hsq] at hfin
         go_wp2_with (fail)
         exact ⟨⟨j+1,sb2,rfl,rfl,by omega,Hd (fun i hi=>by
          rcases Nat.lt_or_ge i j with h | h
          ·exact hlow.out i h
          ·have e:i=j:=by omega
           rw [e,← HZE.out]
           exact HZN.out),hfin⟩,by simp [intOf]; omega⟩
        ·have HZ1:=Hd hz1
         have hj1:1≤j:=by
          rcases Nat.eq_zero_or_pos j with h | h
          ·exfalso
           have e:=HZE.out
           rw [h,ht0,HZ1.out] at e
           exact HN1.out e.symm
          ·exact h
         have hst:=hts.out.step HPR.out hj1 (by rw [← HZE.out]; exact HZ1.out) hjn (hlow.out (j - 1) (by omega))
         go_upto_region 13 with (fail)
         have D28:=Hd (M.out.drew)
         clear M
         refine wp_region_growT 3 3 (by kernel_rfl) (by kernel_rfl) (fun d v c a w h=>by cases d <;> exact h) ?_
         simp only [List.take_succ_cons,List.take_zero]
         refine lG rfl (.tmp 16) rfl sb (by kernel_rfl) (fun u hu=>D28.out.up 9 rfl hu) ?_
         refine fG rfl 137 (.func 137) #[] #[] rfl #[] #[] (by kernel_rfl) (by kernel_rfl) (fun u=>cE _ _ _ _ u Tryz.func137 (by kernel_rfl) (by kernel_rfl)) (.agg (nc 1)) (fun u hu=>by exact field_one u) ?_
         refine pG rfl (.bool false) (fun u=>by exact run_nen _ _ _ rfl z 1 (by kernel_rfl) (by kernel_rfl) Z9.out one_pw9 false (decide_eq_false (fun h=>h HZ1.out)) u) ?_
         refine gN ?_
         try simp only [Act.put,s_,t_,u_,v_,x_,y_]
         intro w29 hg6
         refine ⟨by kernel_rfl,?_⟩
         have Nw29:=Hd (D28.out.grow hg6)
         clear hg6 D28
         try simp only [Act.put,s_,t_,u_,v_,x_,y_]
         go_upto_region 18 with (fail)
         refine wp_region_lit ?_
         refine l0N rfl (.tmp 12) rfl cb (by kernel_rfl) (Nw29.out.at 6 rfl) ?_
         refine nL rfl 27 rfl (.agg (nc 0)) (by rw [nZ]; kernel_rfl) ?_
         intro bb w30 hx hx2 hgv hh
         have Nw30:=Hd (show Mem w w30 [(g,nc a,27),(g+1,nc 0,27),(lb,nc L,27),(ob,nc o,27),(nb,nc v,27),(ub,nc ((o+1)),27),(cb,nc c,27),(xb,nc x,27),(tb,nc t,27),(sb,nc z,27),(bb,nc 0,27)] from Nw29.out.new hgv (Nat.le_of_eq hx) hh)
         clear hx hx2 hgv hh Nw29
         refine sB rfl 27 (.tmp 17) (.tmp 92) rfl bb (by kernel_rfl) _ _ (nc c) (by kernel_rfl) (Nw30.out.at 10 rfl) (by rw [nS]; kernel_rfl) (by simp only [nS]) (nO _) ?_
         intro w31 hw hb hs
         have Nw31:=Hd (Nw30.out.store 10 rfl hb hs hw)
         clear hw hb hs Nw30
         refine wpList_nil ?_
         try simp only [Act.put,s_,t_,u_,v_,x_,y_]
         go_upto_region 19 with (fail)
         refine wp_region_lit ?_
         refine pK (.int .i64 (n:Int)) ?_
         refine pK (.int .i64 (j:Int)) ?_
         try simp only [Act.put,s_,t_,u_,v_,x_,y_]
         refine pL rfl (.int .i64 ((n - j:Nat):Int)) (fun u=>run_bini _ _ _ _ _ rfl (n:Int) (j:Int) (by kernel_rfl) (by kernel_rfl) (bi_sub _ (by omega) (by omega)) u) ?_
         try simp only [Act.put,s_,t_,u_,v_,x_,y_]
         refine pL rfl (.int .i64 ((n - j - 1:Nat):Int)) (fun u=>run_bini _ _ _ _ _ rfl ((n - j:Nat):Int) ((1:Nat):Int) (by kernel_rfl) (by kernel_rfl) (bi_sub _ (by omega) (by omega)) u) ?_
         refine pK (.int .i64 0) ?_
         refine wpList_nil ?_
         try simp only [Act.put,s_,t_,u_,v_,x_,y_]
         have hc0:c ^ 2 ^ 0%p=c:=by rw [Nat.pow_zero,Nat.pow_one]; exact Nat.mod_eq_of_lt HC.out
         have hm0:=Nw31.out
         go_upto_region 20 with (fail)
         go_loopw [97] (fun iv wr=>∃ i:Nat,iv=.int .i64 (i:Int)∧i≤n - j - 1∧Mem w wr [(g,nc a,27),(g+1,nc 0,27),(lb,nc L,27),(ob,nc o,27),(nb,nc v,27),(ub,nc ((o+1)),27),(cb,nc c,27),(xb,nc x,27),(tb,nc t,27),(sb,nc z,27),(bb,nc ((c ^ 2 ^ i%p)),27)]) (fun iv _=>n - (intOf iv).toNat)
         case atStart=>exact ⟨0,rfl,by omega,by rw [hc0]; exact hm0⟩
         case round=>
          obtain ⟨i,rfl,hin,hm⟩:=hrel
          have M:=Hd hm
          clear hm hm0
          have hsb:=sqp p c i
          obtain ⟨y,hy⟩:∃ y,y=c ^ 2 ^ i%p:=⟨_,rfl⟩
          have HY:=Hd (show y<p by rw [hy]; exact HM.out _)
          have Y9:=Hd (Nat.lt_trans HY.out P9.out)
          rw [← hy] at M hsb
          by_cases hi:i<n - j - 1
          ·skip
           go_upto_region 21 with (fail)
           refine wp_region_lit ?_
           refine pK (.pointer (some ⟨f,0,none⟩)) ?_
           refine l0N rfl (.tmp 17) rfl bb (by kernel_rfl) (M.out.at 10 rfl) ?_
           refine l0N rfl (.tmp 17) rfl bb (by kernel_rfl) (M.out.at 10 rfl) ?_
           refine fL rfl 89 (.func 89) #[.tmp 99,.tmp 100,.tmp 101] #[85,27,27] rfl #[] #[.pointer (some ⟨f,0,none⟩),.agg (nc y),.agg (nc y)] (by kernel_rfl) (by kernel_rfl) (fun u=>cE _ _ _ _ u Tryz.func89 (by kernel_rfl) (by kernel_rfl)) (.agg (nc ((y*y%p)))) (field_mul f p d y y wr HY.out HY.out (HF.out.up M.out.1)) (fun w152 hb=>?_)
           have Nw152:=Hd (M.out.grow hb)
           clear hb M
           refine sB rfl 27 (.tmp 17) (.tmp 102) rfl bb (by kernel_rfl) _ _ (nc ((y*y%p))) (by kernel_rfl) (Nw152.out.at 10 rfl) (by rw [nS]; kernel_rfl) (by simp only [nS]) (nO _) ?_
           intro w153 hw hb hs
           have Nw153:=Hd (Nw152.out.store 10 rfl hb hs hw)
           clear hw hb hs Nw152
           refine wpList_nil ?_
           try simp only [Act.put,s_,t_,u_,v_,x_,y_]
           have hfin:=Nw153.out
           rw [hsb] at hfin
           go_wp2_with (fail)
           exact ⟨⟨i+1,by go_num,by omega,hfin⟩,by simp [intOf]; omega⟩
          ·have ei:i=n - j - 1:=by omega
           rw [← ei,← hy] at hst
           go_upto_region 23 with (fail)
           have D32:=Hd (M.out.drew)
           clear M
           refine wp_region_growT 8 8 (by kernel_rfl) (by kernel_rfl) (fun d v c a w h=>by cases d <;> exact h) ?_
           simp only [List.take_succ_cons,List.take_zero]
           refine gK (.pointer (some ⟨f,0,none⟩)) ?_
           refine lG rfl (.tmp 13) rfl xb (by kernel_rfl) (fun u hu=>D32.out.up 7 rfl hu) ?_
           refine lG rfl (.tmp 17) rfl bb (by kernel_rfl) (fun u hu=>D32.out.up 10 rfl hu) ?_
           refine fG rfl 89 (.func 89) #[.tmp 104,.tmp 105,.tmp 106] #[85,27,27] rfl #[] #[.pointer (some ⟨f,0,none⟩),.agg (nc x),.agg (nc y)] (by kernel_rfl) (by kernel_rfl) (fun u=>cE _ _ _ _ u Tryz.func89 (by kernel_rfl) (by kernel_rfl)) (.agg (nc ((x*y%p)))) (fun u hu=>by exact field_mul f p d x y u HX.out HY.out (HF.out.up (gT _ _ _ D32.out.1 hu))) ?_
           refine gK (.pointer (some ⟨f,0,none⟩)) ?_
           refine lG rfl (.tmp 17) rfl bb (by kernel_rfl) (fun u hu=>D32.out.up 10 rfl hu) ?_
           refine lG rfl (.tmp 17) rfl bb (by kernel_rfl) (fun u hu=>D32.out.up 10 rfl hu) ?_
           refine fG rfl 89 (.func 89) #[.tmp 108,.tmp 109,.tmp 110] #[85,27,27] rfl #[] #[.pointer (some ⟨f,0,none⟩),.agg (nc y),.agg (nc y)] (by kernel_rfl) (by kernel_rfl) (fun u=>cE _ _ _ _ u Tryz.func89 (by kernel_rfl) (by kernel_rfl)) (.agg (nc ((y*y%p)))) (fun u hu=>by exact field_mul f p d y y u HY.out HY.out (HF.out.up (gT _ _ _ D32.out.1 hu))) ?_
           refine gN ?_
           try simp only [Act.put,s_,t_,u_,v_,x_,y_]
           refine gS (rs:=[8]) (by kernel_rfl) (by decide) (fun w33 hg6=>?_)
           have Nw33:=Hd (D32.out.grow hg6)
           clear hg6 D32
           refine wpAny_ready (rs:=[8]) (by kernel_rfl) (by simp) ?_
           refine AllReady.cons rfl (fun K hK=>?_) AllReady.nil
           refine sK rfl 27 (.tmp 13) (.tmp 107) rfl xb rfl _ _ _ rfl (Nw33.out.at 7 rfl) (by rw [nS]; kernel_rfl) (by simp only [nS]) (nO _) (fun w34 hw hb hs=>hK _ _ ?_)
           have Nw34:=Hd (Nw33.out.store 7 rfl hb hs hw)
           clear hK hw hb hs Nw33
           try simp only [Act.put,s_,t_,u_,v_,x_,y_]
           refine wpAny_ready (rs:=[9]) (by kernel_rfl) (by simp) ?_
           refine AllReady.cons rfl (fun K hK=>?_) AllReady.nil
           refine sK rfl 27 (.tmp 12) (.tmp 111) rfl cb rfl _ _ _ rfl (Nw34.out.at 6 rfl) (by rw [nS]; kernel_rfl) (by simp only [nS]) (nO _) (fun w35 hw hb hs=>hK _ _ ?_)
           have Nw35:=Hd (Nw34.out.store 6 rfl hb hs hw)
           clear hK hw hb hs Nw34
           try simp only [Act.put,s_,t_,u_,v_,x_,y_]
           refine wpAny_done (by kernel_rfl) ?_ _
           try simp only [Act.put,s_,t_,u_,v_,x_,y_]
           go_upto_region 24 with (fail)
           refine wp_region_lit ?_
           refine pK (.pointer (some ⟨f,0,none⟩)) ?_
           refine l0N rfl (.tmp 14) rfl tb (by kernel_rfl) (Nw35.out.at 8 rfl) ?_
           refine l0N rfl (.tmp 12) rfl cb (by kernel_rfl) (Nw35.out.at 6 rfl) ?_
           refine fL rfl 89 (.func 89) #[.tmp 112,.tmp 113,.tmp 114] #[85,27,27] rfl #[] #[.pointer (some ⟨f,0,none⟩),.agg (nc t),.agg (nc ((y*y%p)))] (by kernel_rfl) (by kernel_rfl) (fun u=>cE _ _ _ _ u Tryz.func89 (by kernel_rfl) (by kernel_rfl)) (.agg (nc ((t*(y*y%p)%p)))) (field_mul f p d t ((y*y%p)) w35 HT.out (HM.out _) (HF.out.up Nw35.out.1)) (fun w36 hb=>?_)
           have Nw36:=Hd (Nw35.out.grow hb)
           clear hb Nw35
           refine pK (.int .i64 (j:Int)) ?_
           refine sB rfl 27 (.tmp 14) (.tmp 115) rfl tb (by kernel_rfl) _ _ (nc ((t*(y*y%p)%p))) (by kernel_rfl) (Nw36.out.at 8 rfl) (by rw [nS]; kernel_rfl) (by simp only [nS]) (nO _) ?_
           intro w37 hw hb hs
           have Nw37:=Hd (Nw36.out.store 8 rfl hb hs hw)
           clear hw hb hs Nw36
           refine pK (.int .i64 (j:Int)) ?_
           refine wpList_nil ?_
           try simp only [Act.put,s_,t_,u_,v_,x_,y_]
           go_wp2_with (fail)
           exact ⟨⟨_,_,_,j,rfl,by omega,Hd hst,Nw37.out.take 9⟩,by simp [intOf]; omega⟩
end Go.Proofs.YtkoonhiplicbkaaGreat.Cw
