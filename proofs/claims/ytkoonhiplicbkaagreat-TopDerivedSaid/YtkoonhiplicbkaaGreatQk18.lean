/-
  (package curve) Times: a triple so often. Condition: numbers below P.
  (package field) Inv; (package curve) Plain: a triple's point. Condition: numbers below P, the inverse being known.
-/
import Derived.Test.YtkoonhiplicbkaaGreatQk16
import Derived.Test.YtkoonhiplicbkaaGreatQk17
set_option linter.unusedSimpArgs false
set_option linter.unusedVariables false
set_option maxHeartbeats 4000000
set_option maxRecDepth 100000
namespace Go.Proofs.YtkoonhiplicbkaaGreat.Cw
open Go Go.RowKit
attribute [local irreducible] pc ptc nc ac cuc fc
attribute [local go_sem ↓ high] wn_eql wn_neq wn_lss wn_gtr wn_leq wn_geq wn_cells wRS wn_guard lit0 lit1
attribute [local go_sem high] wn_match wRS wn_eql wn_neq wn_lss wn_gtr wn_leq wn_geq
def Cv.sum (cu:Cv) (s q:Tri):Tri:=sum3 cu.p cu.a cu.b3 s q
theorem sum_in {cu:Cv} (h:cu.Ok) (s q:Tri):(cu.sum s q).In cu.p:=⟨fsb_lt _ _ h.1,fad_lt _ _ h.1,fad_lt _ _ h.1⟩
def tmsR (S:Tri→Tri→Tri) (P:Tri) (n:Nat):Nat→Tri→Tri
 | 0,o=>o
 | k+1,o=>tmsR S P n k (if bitN n k=1 then S (S o o) P else S o o)
theorem tmsR_0 (S:Tri→Tri→Tri) (P:Tri) (n k:Nat) (o:Tri) (h:bitN n k=0):tmsR S P n (k+1) o=tmsR S P n k (S o o):=by
 rw [tmsR,if_neg (by omega)]
theorem tmsR_1 (S:Tri→Tri→Tri) (P:Tri) (n k:Nat) (o:Tri) (h:bitN n k=1):tmsR S P n (k+1) o=tmsR S P n k (S (S o o) P):=by
 rw [tmsR,if_pos h]
def Cv.times (cu:Cv) (n:Nat) (P:Tri):Tri:=tmsR cu.sum P n (bl n) ⟨0,1,0⟩
theorem bl_le576 (n:Nat) (h:n<pw 9):bl n≤576:=by
 rcases Nat.eq_zero_or_pos n with rfl | hn
 ·exact Nat.zero_le _
 ·have h1:=bl_ge n (by omega)
  have h2:2 ^ (bl n - 1)<2 ^ 576:=Nat.lt_of_le_of_lt h1 (by rw [← pw_nine]; exact h)
  have h3:=(Nat.pow_lt_pow_iff_right (by decide:1<2)).1 h2
  omega
theorem one_lt_of {cu:Cv} (h:cu.Ok) (h1:1<cu.p):(⟨0,1,0⟩:Tri).In cu.p:=⟨Nat.pos_of_ne_zero h.1,h1,Nat.pos_of_ne_zero h.1⟩
theorem curve_times (c f d n:Nat) (q:Tri) (cu:Cv) (w:World) (hn:n<pw 9) (hq:q.In cu.p) (h1:1<cu.p) (H:CurveAt w c f d cu):Calls Tryz.prog 58 #[.pointer (some ⟨c,0,none⟩),.agg (nc n),.agg (pc q.x q.y q.z)] w fun e w'=>e=.returned (.agg (tc (cu.times n q)))∧Below w.heap.size w w':=by
 have HNN:=Hd (show (⟨0,1,0⟩:Tri).In cu.p from one_lt_of H.1 h1)
 have HC:=Hd H
 have HN:=Hd hn
 have HQ:=Hd hq
 have hbl:=bl_le576 n hn
 have HWR:=Hd (show IntKind.i64.wrap ((bl n:Int) - 1)=(bl n:Int) - 1 from IntWalk.i64_in _ (by omega))
 clear hn hq h1 H
 go_enter Tryz.func58,Tryz.ntmps58
 go_upto_region 1 with fail
 rw [← pc_zero]
 have m0:=Mem.start3 w (nc n) (pc q.x q.y q.z) (pc 0 0 0) 27 111 111
 obtain ⟨w1,hw1⟩:∃ w1:World,w1=(((w.alloc (.cells (nc n) 27)).alloc (.cells (pc q.x q.y q.z) 111)).alloc (.cells (pc 0 0 0) 111)):=⟨_,rfl⟩
 rw [← hw1] at m0 ⊢
 clear hw1
 obtain ⟨g,hg⟩:∃ g,g=w.heap.size:=⟨_,rfl⟩
 rw [← hg] at m0 ⊢
 have HG:=Hd hg
 have M:=Hd m0
 clear hg m0
 refine wp_region_lit ?_
 refine fL rfl 96 (.func 96) #[] #[] rfl #[] #[] (by kernel_rfl) (by kernel_rfl) (fun u=>cE _ _ _ _ u Tryz.func96 (by kernel_rfl) (by kernel_rfl)) (.agg (pc 0 1 0)) (curve_none w1) (fun w2 hb=>?_)
 have Nw2:=Hd (M.out.grow hb)
 clear hb M
 refine nL rfl 111 rfl (.agg (pc 0 0 0)) (by rw [pc_zero]; kernel_rfl) ?_
 intro x w3 hx hx2 hgv hh
 have Nw3:=Hd (show Mem w w3 [(g,nc n,27),(g+1,pc q.x q.y q.z,111),(g+1+1,pc 0 0 0,111),(x,pc 0 0 0,111)] from Nw2.out.new hgv (Nat.le_of_eq hx) hh)
 clear hx hx2 hgv hh Nw2
 refine sB rfl 111 (.tmp 7) (.tmp 9) rfl x (by kernel_rfl) _ _ (pc 0 1 0) (by kernel_rfl) (Nw3.out.at 3 rfl) (by rw [pc_size]; kernel_rfl) (by simp only [pc_size]) (pc_one _ _ _) ?_
 intro w4 hw hb hs
 have Nw4:=Hd (Nw3.out.store 3 rfl hb hs hw)
 clear hw hb hs Nw3
 refine wpList_nil ?_
 try simp only [Act.put,s_,t_,u_,v_,x_,y_]
 go_upto_region 2 with (fail)
 refine wp_region_lit ?_
 refine l0N rfl (.tmp 4) rfl g (by kernel_rfl) (Nw4.out.at 0 rfl) ?_
 refine fL rfl 72 (.func 72) #[.tmp 10] #[27] rfl #[] #[.agg (nc n)] (by kernel_rfl) (by kernel_rfl) (fun u=>cE _ _ _ _ u Tryz.func72 (by kernel_rfl) (by kernel_rfl)) (.int .i64 (bl n)) (nat_bits n w4 HN.out) (fun w5 hb=>?_)
 have Nw5:=Hd (Nw4.out.grow hb)
 clear hb Nw4
 try simp only [Act.put,s_,t_,u_,v_,x_,y_]
 refine pL rfl (.int .i64 ((bl n:Int) - 1)) (fun u=>by go_simp; exact HWR.out) ?_
 refine pK (.int .i64 ((bl n:Int) - 1)) ?_
 refine wpList_nil ?_
 try simp only [Act.put,s_,t_,u_,v_,x_,y_]
 go_upto_region 3 with (fail)
 go_loopw [8] (fun iv wr=>∃ (k:Nat) (o:Tri),k≤bl n∧iv=.int .i64 ((k:Int) - 1)∧o.In cu.p∧Hid (tmsR cu.sum q n k o=cu.times n q)∧Mem w wr [(g,nc n,27),(g+1,pc q.x q.y q.z,111),(g+1+1,pc 0 0 0,111),(x,pc o.x o.y o.z,111)]) (fun iv _=>(intOf iv+1).toNat)
 case atStart=>exact ⟨bl n,⟨0,1,0⟩,Nat.le_refl _,rfl,HNN.out,Hd rfl,Nw5.out⟩
 case round=>
  obtain ⟨k,o,hk,rfl,ho,he,hm⟩:=hrel
  have HO:=Hd ho
  have M:=Hd hm
  clear ho hm
  rcases Nat.eq_zero_or_pos k with rfl | hpos
  ·have HE:=Hd (show o=cu.times n q from he.out)
   go_upto_region 8 with (fail)
   refine wp_region_lit ?_
   refine lS rfl 111 (.tmp 7) rfl x 0 27 (by kernel_rfl) _ _ (pc o.x o.y o.z) _ _ (M.out.at 3 rfl) Tryz.underlying111 rfl (by kernel_rfl) (pc_size _ _ _) (fun j hj=>by rw [Nat.zero_add]) ?_
   refine sB rfl 111 (.tmp 6) (.tmp 29) rfl (g+1+1) (by kernel_rfl) _ _ (pc o.x o.y o.z) (by kernel_rfl) (M.out.at 2 rfl) (by rw [pc_size]; kernel_rfl) (by simp only [pc_size]) (pc_one _ _ _) ?_
   intro w6 hw hb hs
   have Nw6:=Hd (M.out.store 2 rfl hb hs hw)
   clear hw hb hs M
   refine wpList_nil ?_
   try simp only [Act.put,s_,t_,u_,v_,x_,y_]
   go_wp2_with (fail)
   exact bodyPost_ret (results_J rfl _ _ (g+1+1) _ _ _ _ _ rfl (Nw6.out.at 2 rfl)) rfl ⟨by rw [← HE.out]; rfl,Nw6.out.below⟩
  ·obtain ⟨m,rfl⟩:∃ m,k=m+1:=⟨k - 1,by omega⟩
   have em:((m+1:Nat):Int) - 1=(m:Int):=by omega
   rw [em]
   have hm576:m<576:=by omega
   rcases (show bitN n m=0∨bitN n m=1 from by have:=Nat.mod_lt (n / 2 ^ m) (show 0<2 by decide); unfold bitN; omega) with hb | hb
   ·have HE:=Hd (show tmsR cu.sum q n m (cu.sum o o)=cu.times n q by rw [← he.out,tmsR_0 _ _ _ _ _ hb])
    go_upto_region 5 with (fail)
    refine wp_region_lit ?_
    refine pK (.pointer (some ⟨c,0,none⟩)) ?_
    refine lS rfl 111 (.tmp 7) rfl x 0 27 (by kernel_rfl) _ _ (pc o.x o.y o.z) _ _ (M.out.at 3 rfl) Tryz.underlying111 rfl (by kernel_rfl) (pc_size _ _ _) (fun j hj=>by rw [Nat.zero_add]) ?_
    refine lS rfl 111 (.tmp 7) rfl x 0 27 (by kernel_rfl) _ _ (pc o.x o.y o.z) _ _ (M.out.at 3 rfl) Tryz.underlying111 rfl (by kernel_rfl) (pc_size _ _ _) (fun j hj=>by rw [Nat.zero_add]) ?_
    refine fL rfl 97 (.func 97) #[.tmp 17,.tmp 18,.tmp 19] #[70,111,111] rfl #[] #[.pointer (some ⟨c,0,none⟩),.agg (pc o.x o.y o.z),.agg (pc o.x o.y o.z)] (by kernel_rfl) (by kernel_rfl) (fun u=>cE _ _ _ _ u Tryz.func97 (by kernel_rfl) (by kernel_rfl)) (.agg (pc ((cu.sum o o).x) ((cu.sum o o).y) ((cu.sum o o).z))) (curve_sum c f d o.x o.y o.z o.x o.y o.z cu wr (HO.out) (HO.out) (HC.out.up M.out.1)) (fun w6 hb=>?_)
    have Nw6:=Hd (M.out.grow hb)
    clear hb M
    refine sB rfl 111 (.tmp 7) (.tmp 20) rfl x (by kernel_rfl) _ _ (pc ((cu.sum o o).x) ((cu.sum o o).y) ((cu.sum o o).z)) (by kernel_rfl) (Nw6.out.at 3 rfl) (by rw [pc_size]; kernel_rfl) (by simp only [pc_size]) (pc_one _ _ _) ?_
    intro w7 hw hb hs
    have Nw7:=Hd (Nw6.out.store 3 rfl hb hs hw)
    clear hw hb hs Nw6
    refine wpList_nil ?_
    try simp only [Act.put,s_,t_,u_,v_,x_,y_]
    go_upto_region 6 with (fail)
    refine wp_region_lit ?_
    refine l0N rfl (.tmp 4) rfl g (by kernel_rfl) (Nw7.out.at 0 rfl) ?_
    refine pK (.int .i64 (m:Int)) ?_
    refine fL rfl 51 (.func 51) #[.tmp 21,.tmp 22] #[27,3] rfl #[] #[.agg (nc n),.int .i64 (m:Int)] (by kernel_rfl) (by kernel_rfl) (fun u=>cE _ _ _ _ u Tryz.func51 (by kernel_rfl) (by kernel_rfl)) (.int .i64 ((0:Nat):Int)) ((hb ▸ nat_bit n m w7 hm576)) (fun w8 hb=>?_)
    have Nw8:=Hd (Nw7.out.grow hb)
    clear hb Nw7
    refine pK (.bool false) ?_
    refine wpList_nil ?_
    try simp only [Act.put,s_,t_,u_,v_,x_,y_]
    go_wp2_with (fail)
    exact ⟨⟨m,(cu.sum o o),by omega,by go_num,sum_in HC.out.1 o o,HE,Nw8.out⟩,by simp [intOf]⟩
   ·have HE:=Hd (show tmsR cu.sum q n m (cu.sum (cu.sum o o) q)=cu.times n q by rw [← he.out,tmsR_1 _ _ _ _ _ hb])
    go_upto_region 5 with (fail)
    refine wp_region_lit ?_
    refine pK (.pointer (some ⟨c,0,none⟩)) ?_
    refine lS rfl 111 (.tmp 7) rfl x 0 27 (by kernel_rfl) _ _ (pc o.x o.y o.z) _ _ (M.out.at 3 rfl) Tryz.underlying111 rfl (by kernel_rfl) (pc_size _ _ _) (fun j hj=>by rw [Nat.zero_add]) ?_
    refine lS rfl 111 (.tmp 7) rfl x 0 27 (by kernel_rfl) _ _ (pc o.x o.y o.z) _ _ (M.out.at 3 rfl) Tryz.underlying111 rfl (by kernel_rfl) (pc_size _ _ _) (fun j hj=>by rw [Nat.zero_add]) ?_
    refine fL rfl 97 (.func 97) #[.tmp 17,.tmp 18,.tmp 19] #[70,111,111] rfl #[] #[.pointer (some ⟨c,0,none⟩),.agg (pc o.x o.y o.z),.agg (pc o.x o.y o.z)] (by kernel_rfl) (by kernel_rfl) (fun u=>cE _ _ _ _ u Tryz.func97 (by kernel_rfl) (by kernel_rfl)) (.agg (pc ((cu.sum o o).x) ((cu.sum o o).y) ((cu.sum o o).z))) (curve_sum c f d o.x o.y o.z o.x o.y o.z cu wr (HO.out) (HO.out) (HC.out.up M.out.1)) (fun w6 hb=>?_)
    have Nw6:=Hd (M.out.grow hb)
    clear hb M
    refine sB rfl 111 (.tmp 7) (.tmp 20) rfl x (by kernel_rfl) _ _ (pc ((cu.sum o o).x) ((cu.sum o o).y) ((cu.sum o o).z)) (by kernel_rfl) (Nw6.out.at 3 rfl) (by rw [pc_size]; kernel_rfl) (by simp only [pc_size]) (pc_one _ _ _) ?_
    intro w7 hw hb hs
    have Nw7:=Hd (Nw6.out.store 3 rfl hb hs hw)
    clear hw hb hs Nw6
    refine wpList_nil ?_
    try simp only [Act.put,s_,t_,u_,v_,x_,y_]
    go_upto_region 6 with (fail)
    refine wp_region_lit ?_
    refine l0N rfl (.tmp 4) rfl g (by kernel_rfl) (Nw7.out.at 0 rfl) ?_
    refine pK (.int .i64 (m:Int)) ?_
    refine fL rfl 51 (.func 51) #[.tmp 21,.tmp 22] #[27,3] rfl #[] #[.agg (nc n),.int .i64 (m:Int)] (by kernel_rfl) (by kernel_rfl) (fun u=>cE _ _ _ _ u Tryz.func51 (by kernel_rfl) (by kernel_rfl)) (.int .i64 ((1:Nat):Int)) ((hb ▸ nat_bit n m w7 hm576)) (fun w8 hb=>?_)
    have Nw8:=Hd (Nw7.out.grow hb)
    clear hb Nw7
    refine pK (.bool true) ?_
    refine wpList_nil ?_
    try simp only [Act.put,s_,t_,u_,v_,x_,y_]
    go_upto_region 7 with (fail)
    refine wp_region_lit ?_
    refine pK (.pointer (some ⟨c,0,none⟩)) ?_
    refine lS rfl 111 (.tmp 7) rfl x 0 27 (by kernel_rfl) _ _ (pc ((cu.sum o o).x) ((cu.sum o o).y) ((cu.sum o o).z)) _ _ (Nw8.out.at 3 rfl) Tryz.underlying111 rfl (by kernel_rfl) (pc_size _ _ _) (fun j hj=>by rw [Nat.zero_add]) ?_
    refine lS rfl 111 (.tmp 5) rfl (g+1) 0 27 (by kernel_rfl) _ _ (pc q.x q.y q.z) _ _ (Nw8.out.at 1 rfl) Tryz.underlying111 rfl (by kernel_rfl) (pc_size _ _ _) (fun j hj=>by rw [Nat.zero_add]) ?_
    refine fL rfl 97 (.func 97) #[.tmp 25,.tmp 26,.tmp 27] #[70,111,111] rfl #[] #[.pointer (some ⟨c,0,none⟩),.agg (pc ((cu.sum o o).x) ((cu.sum o o).y) ((cu.sum o o).z)),.agg (pc q.x q.y q.z)] (by kernel_rfl) (by kernel_rfl) (fun u=>cE _ _ _ _ u Tryz.func97 (by kernel_rfl) (by kernel_rfl)) (.agg (pc ((cu.sum (cu.sum o o) q).x) ((cu.sum (cu.sum o o) q).y) ((cu.sum (cu.sum o o) q).z))) (curve_sum c f d (cu.sum o o).x (cu.sum o o).y (cu.sum o o).z q.x q.y q.z cu w8 (sum_in HC.out.1 o o) (HQ.out) (HC.out.up Nw8.out.1)) (fun w9 hb=>?_)
    have Nw9:=Hd (Nw8.out.grow hb)
    clear hb Nw8
    refine sB rfl 111 (.tmp 7) (.tmp 28) rfl x (by kernel_rfl) _ _ (pc ((cu.sum (cu.sum o o) q).x) ((cu.sum (cu.sum o o) q).y) ((cu.sum (cu.sum o o) q).z)) (by kernel_rfl) (Nw9.out.at 3 rfl) (by rw [pc_size]; kernel_rfl) (by simp only [pc_size]) (pc_one _ _ _) ?_
    intro w10 hw hb hs
    have Nw10:=Hd (Nw9.out.store 3 rfl hb hs hw)
    clear hw hb hs Nw9
    refine wpList_nil ?_
    try simp only [Act.put,s_,t_,u_,v_,x_,y_]
    go_wp2_with (fail)
    exact ⟨⟨m,(cu.sum (cu.sum o o) q),by omega,by go_num,sum_in HC.out.1 (cu.sum o o) q,HE,Nw10.out⟩,by simp [intOf]⟩
end Go.Proofs.YtkoonhiplicbkaaGreat.Cw
namespace Go.Proofs.YtkoonhiplicbkaaGreat.Cw
open Go Go.RowKit
attribute [local irreducible] pc ptc nc ac cuc fc
attribute [local go_sem ↓ high] wn_eql wn_neq wn_lss wn_gtr wn_leq wn_geq wn_cells wRS wn_guard lit0 lit1
attribute [local go_sem high] wn_match wRS wn_eql wn_neq wn_lss wn_gtr wn_leq wn_geq
theorem field_inv (f p d a t:Nat) (w:World) (ha:a<p) (ht:t<p) (hta:t*a%p=1) (H:FieldAt w f p d):Calls Tryz.prog 95 #[.pointer (some ⟨f,0,none⟩),.agg (nc a)] w fun e w'=>e=.returned (.agg (nc t))∧Below w.heap.size w w':=by
 obtain ⟨hp9,hp0,h2p,hd,hf⟩:=H
 have HFB:=Hd hf
 have hinv:=fun u=>div_inverse a p t u (Nat.lt_trans ha hp9) hp9 ht hta
 have HI:=Hd hinv
 clear ha ht hta hp9 hp0 h2p hd hf hinv
 go_enter Tryz.func95,Tryz.ntmps95
 go_upto_region 1 with fail
 rw [← nZ]
 have m0:=Mem.start2 w (nc a) (nc 0) 27 27
 obtain ⟨w1,hw1⟩:∃ w1:World,w1=((w.alloc (.cells (nc a) 27)).alloc (.cells (nc 0) 27)):=⟨_,rfl⟩
 rw [← hw1] at m0 ⊢
 clear hw1
 obtain ⟨g,hg⟩:∃ g,g=w.heap.size:=⟨_,rfl⟩
 rw [← hg] at m0 ⊢
 have HG:=Hd hg
 have M:=Hd m0
 clear hg m0
 have D2:=Hd (M.out.drew)
 clear M
 refine rGw 9 10 (by kernel_rfl) (by kernel_rfl) (fun d v c a w h=>by cases d <;> exact h) ?_
 simp only [List.take_succ_cons,List.take_zero]
 refine lG rfl (.tmp 3) rfl g (by kernel_rfl) (fun u hu=>D2.out.up 0 rfl hu) ?_
 refine gK (.pointer (some ⟨f,0,none⟩)) ?_
 refine gK (.pointer (some ⟨f,0,none⟩)) ?_
 refine gK (.pointer (some ⟨f,0,none⟩)) ?_
 refine lN rfl (.tmp 11) rfl f 0 (by kernel_rfl) p (fun u hu=>grows_at HFB.out (gT _ _ _ D2.out.1 hu)) (fc_p p d) ?_
 refine fG rfl 19 (.func 19) #[.tmp 8,.tmp 12] #[27,27] rfl #[] #[.agg (nc a),.agg (nc p)] (by kernel_rfl) (by kernel_rfl) (fun u=>cE _ _ _ _ u Tryz.func19 (by kernel_rfl) (by kernel_rfl)) (.tuple #[.agg (nc t),.int .i64 0]) (fun u hu=>by exact HI.out u) ?_
 refine gK (.tuple #[.agg (nc t),.int .i64 0]) ?_
 refine gK (.agg (nc t)) ?_
 refine gK (.int .i64 0) ?_
 refine gN ?_
 try simp only [Act.put,s_,t_,u_,v_,x_,y_]
 refine grow_alloc (i:=9) (f:=2) (by kernel_rfl) (by decide) rfl rfl 27 rfl (.agg (nc 0)) (by rw [nZ]; kernel_rfl) ?_
 intro x3 v4 hx hx2 hgv hh
 have Nv4:=Hd (D2.out.new hgv hx hh)
 have Nv4:Hid (Mem w v4 [(g,nc a,27),(g+1,nc 0,27),(x3,nc 0,27)]):=Nv4
 clear hgv hx hx2 hh D2
 try simp only [Act.put,s_,t_,u_,v_,x_,y_]
 refine gS (rs:=[10]) (by kernel_rfl) (by decide) (fun w5 hg6=>?_)
 have Nw5:=Hd (Nv4.out.grow hg6)
 clear hg6 Nv4
 refine wpAny_ready (rs:=[10]) (by kernel_rfl) (by simp) ?_
 refine AllReady.cons rfl (fun K hK=>?_) AllReady.nil
 refine sK rfl 27 (.tmp 5) (.tmp 14) rfl x3 rfl _ _ _ rfl (Nw5.out.at 2 rfl) (by rw [nS]; kernel_rfl) (by simp only [nS]) (nO _) (fun w6 hw hb hs=>hK _ _ ?_)
 have Nw6:=Hd (Nw5.out.store 2 rfl hb hs hw)
 clear hK hw hb hs Nw5
 try simp only [Act.put,s_,t_,u_,v_,x_,y_]
 refine wpAny_ready (rs:=[11]) (by kernel_rfl) (by simp) ?_
 refine AllReady.cons rfl (fun K hK=>?_) AllReady.nil
 go_simp
 refine hK _ _ ?_
 clear hK
 try simp only [Act.put,s_,t_,u_,v_,x_,y_]
 refine wpAny_done (by kernel_rfl) ?_ _
 try simp only [Act.put,s_,t_,u_,v_,x_,y_]
 go_upto_region 2 with (fail)
 refine wp_region_lit ?_
 refine l0N rfl (.tmp 5) rfl x3 (by kernel_rfl) (Nw6.out.at 2 rfl) ?_
 refine sB rfl 27 (.tmp 4) (.tmp 16) rfl (g+1) (by kernel_rfl) _ _ (nc t) (by kernel_rfl) (Nw6.out.at 1 rfl) (by rw [nS]; kernel_rfl) (by simp only [nS]) (nO _) ?_
 intro w7 hw hb hs
 have Nw7:=Hd (Nw6.out.store 1 rfl hb hs hw)
 clear hw hb hs Nw6
 refine wpList_nil ?_
 try simp only [Act.put,s_,t_,u_,v_,x_,y_]
 go_wp2_with (fail)
 refine bodyPost_ret (results_N rfl _ _ (g+1) _ _ _ rfl (Nw7.out.at 1 rfl)) rfl ⟨by first | rfl | simp only [*],Nw7.out.below⟩
theorem curve_plain_inf (c f d x y:Nat) (cu:Cv) (w:World):Calls Tryz.prog 57 #[.pointer (some ⟨c,0,none⟩),.agg (pc x y 0)] w fun e w'=>e=.returned (.agg (ptc 0 0 true))∧Below w.heap.size w w':=by
 go_enter Tryz.func57,Tryz.ntmps57
 go_upto_region 1 with fail
 rw [← ptc_zero]
 have m0:=Mem.start2 w (pc x y 0) (ptc 0 0 false) 111 41
 obtain ⟨w1,hw1⟩:∃ w1:World,w1=((w.alloc (.cells (pc x y 0) 111)).alloc (.cells (ptc 0 0 false) 41)):=⟨_,rfl⟩
 rw [← hw1] at m0 ⊢
 clear hw1
 obtain ⟨g,hg⟩:∃ g,g=w.heap.size:=⟨_,rfl⟩
 rw [← hg] at m0 ⊢
 have HG:=Hd hg
 have M:=Hd m0
 clear hg m0
 refine wp_region_lit ?_
 refine pK (.pointer (some ⟨g,18,none⟩)) ?_
 refine wpN_load rfl (.tmp 6) rfl g 18 (by kernel_rfl) (M.out.at 0 rfl) 0 (pc_z x y 0) ?_
 refine wpList_built rfl 27 #[] rfl ((nc 0)) (by kernel_rfl) ?_
 try simp only [Act.put,s_,t_,u_,v_,x_,y_]
 refine pL rfl (.bool true) (fun u=>by have hh:=fun w=>eq_nat 0 0 (pw_pos 9) (pw_pos 9) w; rw [show decide ((0:Nat)=0)=true from rfl] at hh; go_simp) ?_
 refine wpList_nil ?_
 try simp only [Act.put,s_,t_,u_,v_,x_,y_]
 go_upto_region 2 with (fail)
 refine wp_region_lit ?_
 refine wpList_built rfl 41 #[(2,.const (.bool true))] rfl ((ptc 0 0 true)) (by kernel_rfl) ?_
 refine sB rfl 41 (.tmp 4) (.tmp 10) rfl (g+1) (by kernel_rfl) _ _ (ptc 0 0 true) (by kernel_rfl) (M.out.at 1 rfl) (by rw [pS]; kernel_rfl) (by simp only [pS]) (ptc_one _ _ _) ?_
 intro w2 hw hb hs
 have Nw2:=Hd (M.out.store 1 rfl hb hs hw)
 clear hw hb hs M
 refine wpList_nil ?_
 try simp only [Act.put,s_,t_,u_,v_,x_,y_]
 go_wp2_with (fail)
 refine bodyPost_ret (results_O rfl _ _ (g+1) _ _ _ _ _ rfl (Nw2.out.at 1 rfl)) rfl ⟨by first | rfl | simp only [*],Nw2.out.below⟩
theorem curve_plain (c f d x y z t:Nat) (cu:Cv) (w:World) (hx:x<cu.p) (hy:y<cu.p) (hz:z<cu.p) (hz0:z≠0) (ht:t<cu.p) (htz:t*z%cu.p=1) (H:CurveAt w c f d cu):Calls Tryz.prog 57 #[.pointer (some ⟨c,0,none⟩),.agg (pc x y z)] w fun e w'=>e=.returned (.agg (ptc (fml cu.p x t) (fml cu.p y t) false))∧Below w.heap.size w w':=by
 obtain ⟨hk,hfd,hcb⟩:=H
 have HK:=Hd hk
 have HF:=Hd hfd
 have HCB:=Hd hcb
 have HX:=Hd hx
 have HY:=Hd hy
 have HZ:=Hd hz
 have HZ9:=Hd (Nat.lt_trans hz hfd.1)
 have HZ0:=Hd hz0
 have HTT:=Hd ht
 have HTZ:=Hd htz
 clear hk hfd hcb hx hy hz hz0 ht htz
 go_enter Tryz.func57,Tryz.ntmps57
 go_upto_region 1 with fail
 rw [← ptc_zero]
 have m0:=Mem.start2 w (pc x y z) (ptc 0 0 false) 111 41
 obtain ⟨w1,hw1⟩:∃ w1:World,w1=((w.alloc (.cells (pc x y z) 111)).alloc (.cells (ptc 0 0 false) 41)):=⟨_,rfl⟩
 rw [← hw1] at m0 ⊢
 clear hw1
 obtain ⟨g,hg⟩:∃ g,g=w.heap.size:=⟨_,rfl⟩
 rw [← hg] at m0 ⊢
 have HG:=Hd hg
 have M:=Hd m0
 clear hg m0
 refine wp_region_lit ?_
 refine pK (.pointer (some ⟨g,18,none⟩)) ?_
 refine wpN_load rfl (.tmp 6) rfl g 18 (by kernel_rfl) (M.out.at 0 rfl) z (pc_z x y z) ?_
 refine wpList_built rfl 27 #[] rfl ((nc 0)) (by kernel_rfl) ?_
 try simp only [Act.put,s_,t_,u_,v_,x_,y_]
 refine pL rfl (.bool false) (fun u=>by have hh:=fun w=>eq_nat z 0 HZ9.out (pw_pos 9) w; rw [decide_eq_false HZ0.out] at hh; go_simp) ?_
 refine wpList_nil ?_
 try simp only [Act.put,s_,t_,u_,v_,x_,y_]
 go_upto_region 3 with (fail)
 have D2:=Hd (M.out.drew)
 clear M
 refine rGw 7 8 (by kernel_rfl) (by kernel_rfl) (fun d v c a w h=>by cases d <;> exact h) ?_
 simp only [List.take_succ_cons,List.take_zero]
 refine gK (.pointer (some ⟨c,0,none⟩)) ?_
 refine gK (.pointer (some ⟨c,0,none⟩)) ?_
 refine gK (.pointer (some ⟨c,59,none⟩)) ?_
 refine wpGrow_load_cell rfl 85 (.tmp 13) rfl c 59 (by kernel_rfl) (.pointer (some ⟨f,0,none⟩)) _ Tryz.underlying85 rfl (fun u hu=>(cO (grows_at HCB.out (gT _ _ _ D2.out.1 hu)) 59).trans (cuc_f cu f)) ?_
 refine gK (.pointer (some ⟨g,18,none⟩)) ?_
 refine lN rfl (.tmp 15) rfl g 18 (by kernel_rfl) z (fun u hu=>D2.out.up 0 rfl hu) (pc_z x y z) ?_
 refine fG rfl 95 (.func 95) #[.tmp 14,.tmp 16] #[85,27] rfl #[] #[.pointer (some ⟨f,0,none⟩),.agg (nc z)] (by kernel_rfl) (by kernel_rfl) (fun u=>cE _ _ _ _ u Tryz.func95 (by kernel_rfl) (by kernel_rfl)) (.agg (nc t)) (fun u hu=>by exact field_inv f cu.p d z t u HZ.out HTT.out HTZ.out (HF.out.up (gT _ _ _ D2.out.1 hu))) ?_
 refine gN ?_
 try simp only [Act.put,s_,t_,u_,v_,x_,y_]
 refine grow_alloc (i:=7) (f:=1) (by kernel_rfl) (by decide) rfl rfl 27 rfl (.agg (nc 0)) (by rw [nZ]; kernel_rfl) ?_
 intro x3 v4 hx hx2 hgv hh
 have Nv4:=Hd (D2.out.new hgv hx hh)
 have Nv4:Hid (Mem w v4 [(g,pc x y z,111),(g+1,ptc 0 0 false,41),(x3,nc 0,27)]):=Nv4
 clear hgv hx hx2 hh D2
 try simp only [Act.put,s_,t_,u_,v_,x_,y_]
 refine gS (rs:=[8]) (by kernel_rfl) (by decide) (fun w5 hg6=>?_)
 have Nw5:=Hd (Nv4.out.grow hg6)
 clear hg6 Nv4
 refine wpAny_ready (rs:=[8]) (by kernel_rfl) (by simp) ?_
 refine AllReady.cons rfl (fun K hK=>?_) AllReady.nil
 refine sK rfl 27 (.tmp 5) (.tmp 17) rfl x3 rfl _ _ _ rfl (Nw5.out.at 2 rfl) (by rw [nS]; kernel_rfl) (by simp only [nS]) (nO _) (fun w6 hw hb hs=>hK _ _ ?_)
 have Nw6:=Hd (Nw5.out.store 2 rfl hb hs hw)
 clear hK hw hb hs Nw5
 try simp only [Act.put,s_,t_,u_,v_,x_,y_]
 refine wpAny_done (by kernel_rfl) ?_ _
 try simp only [Act.put,s_,t_,u_,v_,x_,y_]
 go_upto_region 4 with (fail)
 have D7:=Hd (Nw6.out.drew)
 clear Nw6
 refine rGw 17 17 (by kernel_rfl) (by kernel_rfl) (fun d v c a w h=>by cases d <;> exact h) ?_
 simp only [List.take_succ_cons,List.take_zero]
 refine gK (.pointer (some ⟨c,0,none⟩)) ?_
 refine gK (.pointer (some ⟨c,0,none⟩)) ?_
 refine gK (.pointer (some ⟨c,59,none⟩)) ?_
 refine wpGrow_load_cell rfl 85 (.tmp 20) rfl c 59 (by kernel_rfl) (.pointer (some ⟨f,0,none⟩)) _ Tryz.underlying85 rfl (fun u hu=>(cO (grows_at HCB.out (gT _ _ _ D7.out.1 hu)) 59).trans (cuc_f cu f)) ?_
 refine gK (.pointer (some ⟨g,0,none⟩)) ?_
 refine lN rfl (.tmp 22) rfl g 0 (by kernel_rfl) x (fun u hu=>D7.out.up 0 rfl hu) (pc_x x y z) ?_
 refine lG rfl (.tmp 5) rfl x3 (by kernel_rfl) (fun u hu=>D7.out.up 2 rfl hu) ?_
 refine fG rfl 89 (.func 89) #[.tmp 21,.tmp 23,.tmp 24] #[85,27,27] rfl #[] #[.pointer (some ⟨f,0,none⟩),.agg (nc x),.agg (nc t)] (by kernel_rfl) (by kernel_rfl) (fun u=>cE _ _ _ _ u Tryz.func89 (by kernel_rfl) (by kernel_rfl)) (.agg (nc (fml cu.p x t))) (fun u hu=>by exact field_mul f cu.p d x t u (HX.out) (HTT.out) (HF.out.up (gT _ _ _ D7.out.1 hu))) ?_
 refine gK (.pointer (some ⟨c,0,none⟩)) ?_
 refine gK (.pointer (some ⟨c,0,none⟩)) ?_
 refine gK (.pointer (some ⟨c,59,none⟩)) ?_
 refine wpGrow_load_cell rfl 85 (.tmp 28) rfl c 59 (by kernel_rfl) (.pointer (some ⟨f,0,none⟩)) _ Tryz.underlying85 rfl (fun u hu=>(cO (grows_at HCB.out (gT _ _ _ D7.out.1 hu)) 59).trans (cuc_f cu f)) ?_
 refine gK (.pointer (some ⟨g,9,none⟩)) ?_
 refine lN rfl (.tmp 30) rfl g 9 (by kernel_rfl) y (fun u hu=>D7.out.up 0 rfl hu) (pc_y x y z) ?_
 refine lG rfl (.tmp 5) rfl x3 (by kernel_rfl) (fun u hu=>D7.out.up 2 rfl hu) ?_
 refine fG rfl 89 (.func 89) #[.tmp 29,.tmp 31,.tmp 32] #[85,27,27] rfl #[] #[.pointer (some ⟨f,0,none⟩),.agg (nc y),.agg (nc t)] (by kernel_rfl) (by kernel_rfl) (fun u=>cE _ _ _ _ u Tryz.func89 (by kernel_rfl) (by kernel_rfl)) (.agg (nc (fml cu.p y t))) (fun u hu=>by exact field_mul f cu.p d y t u (HY.out) (HTT.out) (HF.out.up (gT _ _ _ D7.out.1 hu))) ?_
 refine wpGrow_built rfl 41 #[(0,.tmp 25),(1,.tmp 33)] rfl ((ptc (fml cu.p x t) (fml cu.p y t) false)) (by kernel_rfl) ?_
 refine gN ?_
 try simp only [Act.put,s_,t_,u_,v_,x_,y_]
 refine gS (rs:=[17]) (by kernel_rfl) (by decide) (fun w8 hg6=>?_)
 have Nw8:=Hd (D7.out.grow hg6)
 clear hg6 D7
 refine wpAny_ready (rs:=[17]) (by kernel_rfl) (by simp) ?_
 refine AllReady.cons rfl (fun K hK=>?_) AllReady.nil
 refine sK rfl 41 (.tmp 4) (.tmp 34) rfl (g+1) rfl _ _ _ rfl (Nw8.out.at 1 rfl) (by rw [pS]; kernel_rfl) (by simp only [pS]) (ptc_one _ _ _) (fun w9 hw hb hs=>hK _ _ ?_)
 have Nw9:=Hd (Nw8.out.store 1 rfl hb hs hw)
 clear hK hw hb hs Nw8
 try simp only [Act.put,s_,t_,u_,v_,x_,y_]
 refine wpAny_done (by kernel_rfl) ?_ _
 try simp only [Act.put,s_,t_,u_,v_,x_,y_]
 go_wp2_with (fail)
 refine bodyPost_ret (results_O rfl _ _ (g+1) _ _ _ _ _ rfl (Nw9.out.at 1 rfl)) rfl ⟨by first | rfl | simp only [*],Nw9.out.below⟩
end Go.Proofs.YtkoonhiplicbkaaGreat.Cw
