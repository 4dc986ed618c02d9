/-
  (package field) Sqrt: the even root of a square; (package key) Check, Public. Condition: the field of an odd prime; a number that is no square is known.
  (package nat) Bytes: a number's bytes; and back. Condition: the number has that many bytes, at most 72.
  Of each curve: a number that is no square, and that N times G is infinity and nothing less is. Condition: a curve's number from 1 to 15.
-/
import Derived.Test.YtkoonhiplicbkaaGreatQk36
import Derived.Test.YtkoonhiplicbkaaGreatQk34
import Derived.Test.YtkoonhiplicbkaaGreatQk35
import Derived.Test.YtkoonhiplicbkaaGreatQk33
set_option linter.unusedSimpArgs false
set_option linter.unusedVariables false
set_option maxHeartbeats 4000000
set_option maxRecDepth 100000
namespace Go.Proofs.YtkoonhiplicbkaaGreat.Cw
open Go Go.RowKit
attribute [local irreducible] pc ptc nc ac cuc fc gpt
attribute [local go_sem ↓ high] wn_eql wn_neq wn_lss wn_gtr wn_leq wn_geq wn_cells wRS wn_guard lit0 lit1
attribute [local go_sem high] wn_match wRS wn_eql wn_neq wn_lss wn_gtr wn_leq wn_geq
theorem run_eqz {ρ:Operand→Value} {o:Oper} (t2:TypeId) (x y:Operand) (ho:o.op=.binOp .eql 27 x y t2) (a b:Nat) (hx:ρ x=.agg (nc a)) (hy:ρ y=.agg (nc b)) (ha:a<pw 9) (hb:b<pw 9) (v:Bool) (hv:decide (a=b)=v) (u:World):(execOp ρ o).run Tryz.prog u=.ok (.value (.bool v)) u:=by
 obtain ⟨d,op,type,pos,after,guard⟩:=o
 subst ho
 simp only [execOp,hx,hy,Sem.run_bind,guard_aggZ _ _ (.inl rfl) (show Tryz.prog.eqGuardType Tryz.prog.depth 27=false by kernel_rfl),Result.andThen_ok,eq_nat a b ha hb,hv,Sem.run_pure]
theorem pr_ndvd {p y:Nat} (hy:y<p) (h0:y≠0):¬ p∣y:=fun h=>by have:=Nat.le_of_dvd (by omega) h; omega
theorem sq_euler {p y:Nat} (hp:Pr p) (h2:p%2=1) (hy:y<p) (h0:y≠0):y*y%p≠0∧(y*y%p) ^ ((p - 1) / 2)%p=1:=by
 constructor
 ·intro h
  rcases hp.dvd (Nat.dvd_of_mod_eq_zero h) with h3 | h3 <;> exact pr_ndvd hy h0 h3
 ·rw [← Nat.pow_mod,← Nat.pow_two,← Nat.pow_mul,show 2*((p - 1) / 2)=p - 1 by omega]
  exact fermat1 hp (pr_ndvd hy h0)
theorem neg_root {p r a:Nat} (hr:r<p) (h0:0<r) (h:r*r%p=a):(p - r)*(p - r)%p=a:=by
 obtain ⟨s,rfl⟩:∃ s,p=r+s:=⟨p - r,by omega⟩
 rw [Nat.add_sub_cancel_left]
 rw [← h]
 have e:s*s+(r+s)*r=r*r+(r+s)*s:=by
  rw [Nat.add_mul,Nat.add_mul]
  have:=Nat.mul_comm r s
  omega
 rw [← Nat.add_mul_mod_self_left (s*s) (r+s) r,e,Nat.add_mul_mod_self_left]
theorem field_sqrt (f p d y q:Nat) (w:World) (hp:Pr p) (h2:p%2=1) (hy:y<p) (hy0:y≠0) (hq2:2≤q) (hqp:q<p) (hq:q ^ ((p - 1) / 2)%p=p - 1) (H:FieldAt w f p d):Calls Tryz.prog 116 #[.pointer (some ⟨f,0,none⟩),.agg (nc (y*y%p))] w fun e w'=>∃ r,e=.returned (.tuple #[.agg (nc r),.bool true])∧(r<p∧r*r%p=y*y%p∧r%2=0)∧Below w.heap.size w w':=by
 have HF:=Hd H
 have he:=sq_euler hp h2 hy hy0
 have hp1:=hp.1
 obtain ⟨a,ha⟩:∃ a,a=y*y%p:=⟨_,rfl⟩
 rw [← ha] at he ⊢
 have hap:a<p:=by rw [ha]; exact Nat.mod_lt _ (by omega)
 have HROOT:=Hd (fun w (H:FieldAt w f p d)=>field_root f p d a q w hp h2 hap hq2 hqp hq he.2 H)
 obtain ⟨hp9,hp0,h2p,hd,hf⟩:=H
 have HFB:=Hd hf
 have HD:=Hd hd
 have P9:=Hd hp9
 have HP0:=Hd hp0
 have A0:=Hd he.1
 have AP:=Hd hap
 have A9:=Hd (Nat.lt_trans hap hp9)
 have HM:=Hd (show ∀ v,v%p<p from fun v=>Nat.mod_lt _ (by omega))
 obtain ⟨L,hL⟩:∃ L,L=p - 1:=⟨_,rfl⟩
 have L9:=Hd (show L<pw 9 by omega)
 have HDL:=Hd (show dif p 1 9=L by rw [hL]; unfold dif; rw [show p+pw 9 - 1=(p - 1)+pw 9 by omega,Nat.add_mod_right,Nat.mod_eq_of_lt (by omega)])
 have H9:=Hd (show L / 2<pw 9 by omega)
 have HE:=Hd (show a ^ (L / 2)%p=1 by rw [hL]; exact he.2)
 clear hp hap hq hp9 h2p hd hf hL hp0 ha he hy hy0 hqp hq2
 go_enter Tryz.func116,Tryz.ntmps116
 go_upto_region 1 with fail
 rw [← nZ]
 have m0:=Mem.start2 w (nc a) (nc 0) 27 27
 obtain ⟨w1,hw1⟩:∃ w1:World,w1=((w.alloc (.cells (nc a) 27)).alloc (.cells (nc 0) 27)):=⟨_,rfl⟩
 rw [← hw1] at m0 ⊢
 clear hw1
 obtain ⟨g,hg⟩:∃ g,g=w.heap.size:=⟨_,rfl⟩
 rw [← hg] at m0 ⊢
 have HG:=Hd hg
 have M:=Hd m0
 clear hg m0
 refine wp_region_lit ?_
 refine l0N rfl (.tmp 3) rfl g (by kernel_rfl) (M.out.at 0 rfl) ?_
 try simp only [Act.put,s_,t_,u_,v_,x_,y_]
 refine pL rfl (.agg (nc 0)) (fun u=>by rw [nZ]; kernel_rfl) ?_
 try simp only [Act.put,s_,t_,u_,v_,x_,y_]
 refine pL rfl (.bool false) (fun u=>(run_eqz _ _ _ rfl a 0 (by kernel_rfl) (by kernel_rfl) A9.out (pw_pos 9) false (decide_eq_false A0.out) u)) ?_
 refine wpList_nil ?_
 try simp only [Act.put,s_,t_,u_,v_,x_,y_]
 go_upto_region 3 with (fail)
 have D2:=Hd (M.out.drew)
 clear M
 refine wp_region_growT 9 10 (by kernel_rfl) (by kernel_rfl) (fun d v c a w h=>by cases d <;> exact h) ?_
 simp only [List.take_succ_cons,List.take_zero]
 refine gK (.pointer (some ⟨f,0,none⟩)) ?_
 refine gK (.pointer (some ⟨f,0,none⟩)) ?_
 refine gK (.pointer (some ⟨f,0,none⟩)) ?_
 refine lN rfl (.tmp 16) rfl f 0 (by kernel_rfl) p (fun u hu=>grows_at HFB.out (gT _ _ _ D2.out.1 hu)) (fc_p p d) ?_
 refine fG rfl 137 (.func 137) #[] #[] rfl #[] #[] (by kernel_rfl) (by kernel_rfl) (fun u=>cE _ _ _ _ u Tryz.func137 (by kernel_rfl) (by kernel_rfl)) (.agg (nc 1)) (fun u hu=>by exact field_one u) ?_
 refine fG rfl 18 (.func 18) #[.tmp 17,.tmp 18] #[27,27] rfl #[] #[.agg (nc p),.agg (nc 1)] (by kernel_rfl) (by kernel_rfl) (fun u=>cE _ _ _ _ u Tryz.func18 (by kernel_rfl) (by kernel_rfl)) (.tuple #[.agg (nc L),.bool (decide (p<1))]) (fun u hu=>by exact HDL.out ▸ nat_sub p 1 u P9.out one_pw9) ?_
 refine gK (.tuple #[.agg (nc L),.bool (decide (p<1))]) ?_
 refine gK (.agg (nc L)) ?_
 refine gK (.bool (decide (p<1))) ?_
 refine gN ?_
 try simp only [Act.put,s_,t_,u_,v_,x_,y_]
 refine grow_alloc (i:=9) (f:=2) (by kernel_rfl) (by decide) rfl rfl 27 rfl (.agg (nc 0)) (by rw [nZ]; kernel_rfl) ?_
 intro lb v3 hx hx2 hgv hh
 have Nv3:=Hd (D2.out.new hgv hx hh)
 have Nv3:Hid (Mem w v3 [(g,nc a,27),(g+1,nc 0,27),(lb,nc 0,27)]):=Nv3
 clear hgv hx hx2 hh D2
 try simp only [Act.put,s_,t_,u_,v_,x_,y_]
 refine gS (rs:=[10]) (by kernel_rfl) (by decide) (fun w4 hg6=>?_)
 have Nw4:=Hd (Nv3.out.grow hg6)
 clear hg6 Nv3
 refine wpAny_ready (rs:=[10]) (by kernel_rfl) (by simp) ?_
 refine AllReady.cons rfl (fun K hK=>?_) AllReady.nil
 refine sK rfl 27 (.tmp 6) (.tmp 20) rfl lb rfl _ _ _ rfl (Nw4.out.at 2 rfl) (by rw [nS]; kernel_rfl) (by simp only [nS]) (nO _) (fun w5 hw hb hs=>hK _ _ ?_)
 have Nw5:=Hd (Nw4.out.store 2 rfl hb hs hw)
 clear hK hw hb hs Nw4
 try simp only [Act.put,s_,t_,u_,v_,x_,y_]
 refine wpAny_ready (rs:=[11]) (by kernel_rfl) (by simp) ?_
 refine AllReady.cons rfl (fun K hK=>?_) AllReady.nil
 go_simp
 refine hK _ _ ?_
 clear hK
 try simp only [Act.put,s_,t_,u_,v_,x_,y_]
 refine wpAny_done (by kernel_rfl) ?_ _
 try simp only [Act.put,s_,t_,u_,v_,x_,y_]
 go_upto_region 4 with (fail)
 have D6:=Hd (Nw5.out.drew)
 clear Nw5
 refine wp_region_growT 10 10 (by kernel_rfl) (by kernel_rfl) (fun d v c a w h=>by cases d <;> exact h) ?_
 simp only [List.take_succ_cons,List.take_zero]
 refine gK (.pointer (some ⟨f,0,none⟩)) ?_
 refine gK (.pointer (some ⟨f,0,none⟩)) ?_
 refine gK (.pointer (some ⟨f,9,none⟩)) ?_
 refine wpGrow_load_seg rfl 92 (.tmp 24) rfl f 9 1 (by kernel_rfl) (#[.pointer (some ⟨d,0,none⟩)]) _ Tryz.underlying92 rfl (by kernel_rfl) (rfl) (fun u hu=>grows_at HFB.out (gT _ _ _ D6.out.1 hu)) (fun j hj=>fc_by p d j hj) ?_
 refine lG rfl (.tmp 3) rfl g (by kernel_rfl) (fun u hu=>D6.out.up 0 rfl hu) ?_
 refine lG rfl (.tmp 6) rfl lb (by kernel_rfl) (fun u hu=>D6.out.up 2 rfl hu) ?_
 refine fG rfl 139 (.func 139) #[.tmp 27] #[27] rfl #[] #[.agg (nc L)] (by kernel_rfl) (by kernel_rfl) (fun u=>cE _ _ _ _ u Tryz.func139 (by kernel_rfl) (by kernel_rfl)) (.agg (nc ((L / 2)))) (fun u hu=>by exact field_half L u L9.out) ?_
 refine fG rfl 138 (.func 138) #[.tmp 25,.tmp 26,.tmp 28] #[92,27,27] rfl #[] #[.agg #[.pointer (some ⟨d,0,none⟩)],.agg (nc a),.agg (nc ((L / 2)))] (by kernel_rfl) (by kernel_rfl) (fun u=>cE _ _ _ _ u Tryz.func138 (by kernel_rfl) (by kernel_rfl)) (.agg (nc 1)) (fun u hu=>by exact HE.out ▸ modulus_pow d a (L / 2) p u A9.out H9.out P9.out HP0.out (HD.out.up (gT _ _ _ D6.out.1 hu))) ?_
 refine fG rfl 137 (.func 137) #[] #[] rfl #[] #[] (by kernel_rfl) (by kernel_rfl) (fun u=>cE _ _ _ _ u Tryz.func137 (by kernel_rfl) (by kernel_rfl)) (.agg (nc 1)) (fun u hu=>by exact field_one u) ?_
 refine pG rfl (.bool false) (fun u=>by exact run_nen _ _ _ rfl 1 1 (by kernel_rfl) (by kernel_rfl) one_pw9 one_pw9 false (decide_eq_false (fun h=>h rfl)) u) ?_
 refine gN ?_
 try simp only [Act.put,s_,t_,u_,v_,x_,y_]
 intro w7 hg6
 refine ⟨by kernel_rfl,?_⟩
 have Nw7:=Hd (D6.out.grow hg6)
 clear hg6 D6
 try simp only [Act.put,s_,t_,u_,v_,x_,y_]
 go_upto_region 6 with (fail)
 refine wp_region_lit ?_
 refine pK (.pointer (some ⟨f,0,none⟩)) ?_
 refine l0N rfl (.tmp 3) rfl g (by kernel_rfl) (Nw7.out.at 0 rfl) ?_
 refine wpList_fnE rfl _ _ _ _ rfl #[] #[.pointer (some ⟨f,0,none⟩),.agg (nc a)] (by kernel_rfl) (by kernel_rfl) (fun u=>cE _ _ _ _ u Tryz.func140 (by kernel_rfl) (by kernel_rfl)) (T:=Nat) (fun r=>.agg (nc r)) (fun r w'=>(r<p∧r*r%p=a)∧Below w7.heap.size w7 w') (HROOT.out w7 (HF.out.up Nw7.out.1)) ?_
 rintro r w5 ⟨⟨hr1,hr2⟩,hb⟩
 have M5:=Hd (Nw7.out.grow hb)
 clear hb Nw7
 have HR1:=Hd hr1
 have HR2:=Hd hr2
 have R9:=Hd (Nat.lt_trans hr1 P9.out)
 refine nL rfl 27 rfl (.agg (nc 0)) (by rw [nZ]; kernel_rfl) ?_
 intro rb w6 hx hx2 hgv hh
 have M6:=Hd (show Mem w w6 [(g,nc a,27),(g+1,nc 0,27),(lb,nc L,27),(rb,nc 0,27)] from M5.out.new hgv (Nat.le_of_eq hx) hh)
 clear hx hx2 hgv hh M5
 refine sB rfl 27 (.tmp 8) (.tmp 35) rfl rb (by kernel_rfl) _ _ (nc r) (by kernel_rfl) (M6.out.at 3 rfl) (by rw [nS]; kernel_rfl) (by simp only [nS]) (nO _) ?_
 intro w7 hw hb hs
 have M7:=Hd (M6.out.store 3 rfl hb hs hw)
 clear hw hb hs M6
 refine wpList_nil ?_
 try simp only [Act.put,s_,t_,u_,v_,x_,y_]
 rcases bit_or r 0 with hb | hb
 ·have hpar:r%2=0:=by unfold bitN at hb; simpa using hb
  go_upto_region 7 with (fail)
  refine wp_region_lit ?_
  refine l0N rfl (.tmp 8) rfl rb (by kernel_rfl) (M7.out.at 3 rfl) ?_
  refine fL rfl 51 (.func 51) #[.tmp 36,.const (.int .i64 0)] #[27,3] rfl #[] #[.agg (nc r),.int .i64 0] (by kernel_rfl) (by kernel_rfl) (fun u=>cE _ _ _ _ u Tryz.func51 (by kernel_rfl) (by kernel_rfl)) (.int .i64 ((0:Nat):Int)) ((hb ▸ nat_bit r 0 w7 (by decide))) (fun w48 hb=>?_)
  have Nw48:=Hd (M7.out.grow hb)
  clear hb M7
  refine pK (.bool false) ?_
  refine wpList_nil ?_
  try simp only [Act.put,s_,t_,u_,v_,x_,y_]
  go_upto_region 9 with (fail)
  refine wp_region_lit ?_
  refine l0N rfl (.tmp 8) rfl rb (by kernel_rfl) (Nw48.out.at 3 rfl) ?_
  refine sB rfl 27 (.tmp 4) (.tmp 43) rfl (g+1) (by kernel_rfl) _ _ (nc r) (by kernel_rfl) (Nw48.out.at 1 rfl) (by rw [nS]; kernel_rfl) (by simp only [nS]) (nO _) ?_
  intro w49 hw hb hs
  have Nw49:=Hd (Nw48.out.store 1 rfl hb hs hw)
  clear hw hb hs Nw48
  refine pK (.bool true) ?_
  refine wpList_nil ?_
  try simp only [Act.put,s_,t_,u_,v_,x_,y_]
  go_wp2_with (fail)
  refine bodyPost_ret (results_N2 rfl _ _ (g+1) _ _ _ _ rfl rfl (Nw49.out.at 1 rfl)) rfl ⟨r,rfl,⟨hr1,hr2,hpar⟩,Nw49.out.below⟩
 ·have hpar:r%2=1:=by unfold bitN at hb; simpa using hb
  go_upto_region 7 with (fail)
  refine wp_region_lit ?_
  refine l0N rfl (.tmp 8) rfl rb (by kernel_rfl) (M7.out.at 3 rfl) ?_
  refine fL rfl 51 (.func 51) #[.tmp 36,.const (.int .i64 0)] #[27,3] rfl #[] #[.agg (nc r),.int .i64 0] (by kernel_rfl) (by kernel_rfl) (fun u=>cE _ _ _ _ u Tryz.func51 (by kernel_rfl) (by kernel_rfl)) (.int .i64 ((1:Nat):Int)) ((hb ▸ nat_bit r 0 w7 (by decide))) (fun w48 hb=>?_)
  have Nw48:=Hd (M7.out.grow hb)
  clear hb M7
  refine pK (.bool true) ?_
  refine wpList_nil ?_
  try simp only [Act.put,s_,t_,u_,v_,x_,y_]
  go_upto_region 8 with (fail)
  refine wp_region_lit ?_
  refine pK (.pointer (some ⟨f,0,none⟩)) ?_
  try simp only [Act.put,s_,t_,u_,v_,x_,y_]
  refine pL rfl (.agg (nc 0)) (fun u=>by rw [nZ]; kernel_rfl) ?_
  refine l0N rfl (.tmp 8) rfl rb (by kernel_rfl) (Nw48.out.at 3 rfl) ?_
  refine fL rfl 117 (.func 117) #[.tmp 39,.tmp 40,.tmp 41] #[85,27,27] rfl #[] #[.pointer (some ⟨f,0,none⟩),.agg (nc 0),.agg (nc r)] (by kernel_rfl) (by kernel_rfl) (fun u=>cE _ _ _ _ u Tryz.func117 (by kernel_rfl) (by kernel_rfl)) (.agg (nc ((fsb p 0 r)))) (field_sub f p d 0 r w48 (by omega) HR1.out (HF.out.up Nw48.out.1)) (fun w49 hb=>?_)
  have Nw49:=Hd (Nw48.out.grow hb)
  clear hb Nw48
  refine sB rfl 27 (.tmp 8) (.tmp 42) rfl rb (by kernel_rfl) _ _ (nc ((fsb p 0 r))) (by kernel_rfl) (Nw49.out.at 3 rfl) (by rw [nS]; kernel_rfl) (by simp only [nS]) (nO _) ?_
  intro w50 hw hb hs
  have Nw50:=Hd (Nw49.out.store 3 rfl hb hs hw)
  clear hw hb hs Nw49
  refine wpList_nil ?_
  try simp only [Act.put,s_,t_,u_,v_,x_,y_]
  have er:fsb p 0 r=p - r:=by unfold fsb; rw [Nat.zero_add]; exact Nat.mod_eq_of_lt (by omega)
  have hm:=Nw50.out
  rw [er] at hm
  have MM:=Hd hm
  clear hm Nw50
  go_upto_region 9 with (fail)
  refine wp_region_lit ?_
  refine l0N rfl (.tmp 8) rfl rb (by kernel_rfl) (MM.out.at 3 rfl) ?_
  refine sB rfl 27 (.tmp 4) (.tmp 43) rfl (g+1) (by kernel_rfl) _ _ (nc ((p - r))) (by kernel_rfl) (MM.out.at 1 rfl) (by rw [nS]; kernel_rfl) (by simp only [nS]) (nO _) ?_
  intro w51 hw hb hs
  have Nw51:=Hd (MM.out.store 1 rfl hb hs hw)
  clear hw hb hs MM
  refine pK (.bool true) ?_
  refine wpList_nil ?_
  try simp only [Act.put,s_,t_,u_,v_,x_,y_]
  go_wp2_with (fail)
  refine bodyPost_ret (results_N2 rfl _ _ (g+1) _ _ _ _ rfl rfl (Nw51.out.at 1 rfl)) rfl ⟨(p - r),rfl,⟨by omega,neg_root hr1 (by omega) hr2,by omega⟩,Nw51.out.below⟩
theorem key_check (k:CK) (n:Nat) (w:World) (h0:n≠0) (hn:n<k.c.n):Calls Tryz.prog 48 #[.int .i64 k.1,.agg (nc n)] w fun e w'=>e=.returned (.int .i64 0)∧Below w.heap.size w w':=by
 have n9:=Hd (show n<pw 9 from Nat.lt_trans hn k.n9)
 have HOK:=Hd (show decide (n≠0∧n<k.c.n)=true from decide_eq_true ⟨h0,hn⟩)
 clear h0 hn
 go_enter Tryz.func48,Tryz.ntmps48
 go_upto_region 1 with fail
 have m0:=Mem.start1 w (nc n) 27
 obtain ⟨w1,hw1⟩:∃ w1:World,w1=(w.alloc (.cells (nc n) 27)):=⟨_,rfl⟩
 rw [← hw1] at m0 ⊢
 clear hw1
 obtain ⟨g,hg⟩:∃ g,g=w.heap.size:=⟨_,rfl⟩
 rw [← hg] at m0 ⊢
 have HG:=Hd hg
 have M:=Hd m0
 clear hg m0
 go_upto_region 1 with (fail)
 refine wp_region_lit ?_
 refine pK (.int .i64 (k.1:Int)) ?_
 refine wpList_fnE rfl _ _ _ _ rfl #[] #[.int .i64 (k.1:Int)] (by kernel_rfl) (by kernel_rfl) (fun u=>cE _ _ _ _ u Tryz.func30 (by kernel_rfl) (by kernel_rfl)) (T:=Nat) (fun c=>.pointer (some ⟨c,0,none⟩)) (fun c w'=>∃ f d,CurveAt w' c f d k.c∧Below w1.heap.size w1 w') ((k.open_ w1).mono fun e w' ⟨c,f,d,he,hr,_,hb⟩=>⟨c,he,f,d,hr,hb⟩) ?_
 rintro c w2 ⟨f,d,hc,hb⟩
 have M2:=Hd (MC.of (M.out.grow hb) hc)
 clear hc hb M
 refine pK (.pointer (some ⟨c,0,none⟩)) ?_
 refine wpList_nil ?_
 try simp only [Act.put,s_,t_,u_,v_,x_,y_]
 go_upto_region 2 with (fail)
 refine wp_region_lit ?_
 refine pK (.pointer (some ⟨c,0,none⟩)) ?_
 refine pK (.bool false) ?_
 refine pK (.bool false) ?_
 refine wpList_nil ?_
 try simp only [Act.put,s_,t_,u_,v_,x_,y_]
 go_upto_region 4 with (fail)
 refine wp_region_lit ?_
 refine pK (.pointer (some ⟨c,0,none⟩)) ?_
 refine l0N rfl (.tmp 3) rfl g (by kernel_rfl) (M2.out.at 0 rfl) ?_
 refine fL rfl 31 (.func 31) #[.tmp 12,.tmp 13] #[70,27] rfl #[] #[.pointer (some ⟨c,0,none⟩),.agg (nc n)] (by kernel_rfl) (by kernel_rfl) (fun u=>cE _ _ _ _ u Tryz.func31 (by kernel_rfl) (by kernel_rfl)) (.bool true) (HOK.out ▸ curve_key k c f d n w2 n9.out M2.out.crv) (fun w2 hb=>?_)
 have Nw2:=Hd (M2.out.grow hb)
 clear hb M2
 refine pK (.bool false) ?_
 refine pK (.bool false) ?_
 refine wpList_nil ?_
 try simp only [Act.put,s_,t_,u_,v_,x_,y_]
 go_upto_region 6 with (fail)
 refine wp_region_lit ?_
 refine pK (.int .i64 0) ?_
 refine wpList_nil ?_
 try simp only [Act.put,s_,t_,u_,v_,x_,y_]
 go_wp2_with (fail)
 go_ret
 exact ⟨rfl,Nw2.out.below⟩
theorem key_public (k:CK) (n:Nat) (w:World) (h0:n≠0) (hn:n<k.c.n):Calls Tryz.prog 20 #[.pointer none,.int .i64 k.1,.agg (nc n)] w fun e w'=>e=.returned (.tuple #[.agg (gpt k n),.int .i64 0])∧Below w.heap.size w w':=by
 have H0:=Hd h0
 have HN:=Hd hn
 clear h0 hn
 go_enter Tryz.func20,Tryz.ntmps20
 go_upto_region 1 with fail
 rw [← ptc_zero]
 have m0:=Mem.start2 w (nc n) (ptc 0 0 false) 27 41
 obtain ⟨w1,hw1⟩:∃ w1:World,w1=((w.alloc (.cells (nc n) 27)).alloc (.cells (ptc 0 0 false) 41)):=⟨_,rfl⟩
 rw [← hw1] at m0 ⊢
 clear hw1
 obtain ⟨g,hg⟩:∃ g,g=w.heap.size:=⟨_,rfl⟩
 rw [← hg] at m0 ⊢
 have HG:=Hd hg
 have M:=Hd m0
 clear hg m0
 refine wp_region_lit ?_
 refine pK (.int .i64 (k.1:Int)) ?_
 refine l0N rfl (.tmp 5) rfl g (by kernel_rfl) (M.out.at 0 rfl) ?_
 refine fL rfl 48 (.func 48) #[.tmp 9,.tmp 10] #[3,27] rfl #[] #[.int .i64 (k.1:Int),.agg (nc n)] (by kernel_rfl) (by kernel_rfl) (fun u=>cE _ _ _ _ u Tryz.func48 (by kernel_rfl) (by kernel_rfl)) (.int .i64 0) (key_check k n w1 H0.out HN.out) (fun w2 hb=>?_)
 have Nw2:=Hd (M.out.grow hb)
 clear hb M
 refine pK (.int .i64 0) ?_
 refine wpList_nil ?_
 try simp only [Act.put,s_,t_,u_,v_,x_,y_]
 go_upto_region 2 with (fail)
 refine wp_region_lit ?_
 refine pK (.int .i64 0) ?_
 refine pK (.bool false) ?_
 refine wpList_nil ?_
 try simp only [Act.put,s_,t_,u_,v_,x_,y_]
 go_upto_region 4 with (fail)
 have D:=Hd (Nw2.out.drew)
 clear Nw2
 refine wp_region_cls (C:=(fun u=>Mem w u [(g,nc n,27)])) (fun u u2 hu hg=>Mem.grow hu hg) [0,1,3] (D.out.sub (by simp)) (by kernel_rfl) (by kernel_rfl) (fun d v c a w h=>by cases d <;> exact h) ?_
 simp only [pickOps,List.filterMap_cons,List.filterMap_nil,List.getElem?_cons_succ,List.getElem?_cons_zero]
 refine eK (.pointer none) ?_
 refine eK (.int .i64 (k.1:Int)) ?_
 refine wpE_loadN rfl (.tmp 5) rfl g 0 (by kernel_rfl) n (fun u hu=>⟨_,_,_,Mem.at hu 0 rfl,fun j hj=>by rw [Nat.zero_add]; exact nc_get _ j hj⟩) ?_
 refine wpE_nil ?_
 try simp only [Act.put,s_,t_,u_,v_,x_,y_]
 refine ready_E (rs:=[2]) (by kernel_rfl) (by simp) (fun u hgB=>?_)
 have N1:=Hd (D.out.grow hgB)
 clear hgB D
 refine EAll.cons rfl (fun K hK=>step_fnE rfl 30 (.func 30) #[.tmp 17] #[3] rfl #[] #[.int .i64 (k.1:Int)] (by kernel_rfl) (by kernel_rfl) (fun u=>cE _ _ _ _ u Tryz.func30 (by kernel_rfl) (by kernel_rfl)) (fun c:Nat=>.pointer (some ⟨c,0,none⟩)) (fun c w'=>(∃ f d,CurveAt w' c f d k.c)∧Below u.heap.size u w') ((k.open_ u).mono fun e w' ⟨c,f,d,he,hr,_,hb⟩=>⟨c,he,⟨f,d,hr⟩,hb⟩) (fun c u2 hR=>hK _ _ ((N1.out.grow hR.2).sub (by simp)) ?_)) EAll.nil
 have N2:=Hd (N1.out.grow hR.2)
 obtain ⟨f,d,hcv⟩:=hR.1
 have HC:=Hd hcv
 clear hR hcv N1
 try simp only [Act.put,s_,t_,u_,v_,x_,y_]
 refine ready_E (rs:=[4]) (by kernel_rfl) (by simp) (fun u3 hgB=>?_)
 have N3:=Hd (N2.out.grow hgB)
 have HC3:=Hd (HC.out.up hgB)
 clear hgB N2 HC
 refine EAll.cons rfl (fun K hK=>step_fnE rfl 37 (.func 37) #[.tmp 16,.tmp 18,.tmp 19] #[69,70,27] rfl #[] #[.pointer none,.pointer (some ⟨c,0,none⟩),.agg (nc n)] (by kernel_rfl) (by kernel_rfl) (fun u=>cE _ _ _ _ u Tryz.func37 (by kernel_rfl) (by kernel_rfl)) (fun _:Unit=>.agg (gpt k n)) (fun _ w'=>Below u3.heap.size u3 w') ((base_times k c f d n u3 HN.out HC3.out).mono fun e w' ⟨h1,h2⟩=>⟨(),h1,h2⟩) (fun _ u4 hR=>hK _ _ ((N3.out.grow hR).sub (by simp)) ?_)) EAll.nil
 have N4:=Hd (N3.out.grow hR)
 clear hR N3
 try simp only [Act.put,s_,t_,u_,v_,x_,y_]
 refine ready_E (rs:=[5]) (by kernel_rfl) (by simp) (fun u5 hgB=>?_)
 have N5:=Hd (N4.out.grow hgB)
 clear hgB N4
 refine EAll.cons rfl (fun K hK=>sK rfl 41 (.tmp 6) (.tmp 20) rfl (g+1) rfl _ _ (gpt k n) rfl (N5.out.at 1 rfl) (by rw [gpt_size]; kernel_rfl) (by simp only [gpt_size,pS]) (gpt_one _ _) (fun u6 hw hb hs=>hK _ _ ((N5.out.store 1 rfl hb hs hw).sub (by simp)) ?_)) EAll.nil
 have N6:=Hd (N5.out.store 1 rfl hb hs hw)
 clear hw hb hs N5
 try simp only [Act.put,s_,t_,u_,v_,x_,y_]
 refine ready_E (rs:=[6]) (by kernel_rfl) (by simp) (fun u7 hgB=>?_)
 have N7:=Hd (N6.out.grow hgB)
 clear hgB N6
 refine EAll.cons rfl (fun K hK=>step_pure rfl (.int .i64 0) (fun u=>by kernel_rfl) (hK _ _ (N7.out.sub (by simp)) ?_)) EAll.nil
 try simp only [Act.put,s_,t_,u_,v_,x_,y_]
 refine done_E (by kernel_rfl) (fun u8 hgB=>?_)
 have N8:=Hd (N7.out.grow hgB)
 clear hgB N7
 try simp only [Act.put,s_,t_,u_,v_,x_,y_]
 go_wp2_with (fail)
 exact bodyPost_ret (results_O2 rfl _ _ (g+1) _ _ _ _ (gpt_size _ _) rfl rfl (N8.out.at 1 rfl)) rfl ⟨rfl,N8.out.below⟩
end Go.Proofs.YtkoonhiplicbkaaGreat.Cw
set_option maxHeartbeats 4000000
set_option maxRecDepth 100000
namespace Go.Proofs.YtkoonhiplicbkaaGreat.Cw
open Go Go.RowKit
attribute [local irreducible] pc ptc nc ac cuc fc gpt
attribute [local go_sem ↓ high] wn_eql wn_neq wn_lss wn_gtr wn_leq wn_geq wn_cells wRS wn_guard lit0 lit1
attribute [local go_sem high] wn_match wRS wn_eql wn_neq wn_lss wn_gtr wn_leq wn_geq
def byD (a i:Nat):UInt8:=UInt8.ofNat (a / 256 ^ i%256)
def byB (a n:Nat):ByteArray:=⟨((List.range n).map fun j=>byD a (n - 1 - j)).toArray⟩
theorem byB_size (a n:Nat):(byB a n).size=n:=by show Array.size _=n; simp
theorem byB_at (a n j:Nat) (h:j<n):let8 (byB a n) j=a / 256 ^ (n - 1 - j)%256:=by
 unfold let8 byB byD
 have e:(((List.range n).map fun j=>UInt8.ofNat (a / 256 ^ (n - 1 - j)%256)).toArray.getD j 0)=UInt8.ofNat (a / 256 ^ (n - 1 - j)%256):=by
  simp [Array.getD,h]
 rw [e]
 simp
theorem byv_byB (a n:Nat):∀ i,i≤n→byv (byB a n) i=a%256 ^ i
 | 0,_=>by rw [Nat.pow_zero,Nat.mod_one]; rfl
 | i+1,h=>by
  rw [byv_succ,byv_byB a n i (by omega),byB_size,byB_at a n _ (by omega),show n - 1 - (n - 1 - i)=i by omega,Nat.pow_succ,Nat.mod_mul,Nat.mul_comm]
theorem byv_back (a n:Nat) (h:a<256 ^ n):byv (byB a n) (byB a n).size=a:=by
 rw [byB_size,byv_byB a n n (Nat.le_refl _),Nat.mod_eq_of_lt h]
def byF (a n i:Nat):Nat→UInt8:=fun j=>if n - i≤j then byD a (n - 1 - j) else 0
theorem byF_zero (a n:Nat):fa v8 n (byF a n 0)=nulls n:=fa_ext _ _ _ _ fun j hj=>by unfold byF; rw [if_neg (by omega)]
theorem byF_step (a n i:Nat) (h:i<n):fa v8 n (upd (byF a n i) (n - 1 - i) (byD a i))=fa v8 n (byF a n (i+1)):=fa_ext _ _ _ _ fun j hj=>by
 unfold upd byF
 by_cases e:j=n - 1 - i
 ·rw [if_pos e,if_pos (by omega),e,show n - 1 - (n - 1 - i)=i by omega]
 ·rw [if_neg e]
  by_cases e2:n - i≤j
  ·rw [if_pos e2,if_pos (by omega)]
  ·rw [if_neg e2,if_neg (by omega)]
theorem byF_all (a n:Nat):fa v8 n (byF a n n)=(((List.range n).map fun j=>byD a (n - 1 - j)).map v8).toArray:=by
 have e:fa v8 n (byF a n n)=fa v8 n (fun j=>byD a (n - 1 - j)):=fa_ext _ _ _ _ fun j hj=>by unfold byF; rw [if_pos (by omega)]
 rw [e]
 unfold fa
 rw [List.map_map]
 rfl
theorem by_dig (a i:Nat):dig a (i / 8) / 2 ^ (8*(i%8))%256=a / 256 ^ i%256:=by
 unfold dig
 rw [p256,← Nat.div_div_eq_div_mul]
 generalize a / pw (i / 8)=b
 have hr:i%8<8:=Nat.mod_lt _ (by decide)
 generalize i%8=r at *
 have e:(18446744073709551616:Nat)=2 ^ (8*r)*(256*2 ^ (56 - 8*r)):=by
  rw [show (256:Nat)=2 ^ 8 from rfl,← Nat.pow_add,← Nat.pow_add,show 8*r+(8+(56 - 8*r))=64 by omega]
 rw [e,Nat.mod_mul_right_div_self,Nat.mod_mul_right_mod]
theorem wpList_mkB {ops:Array Oper} {rest:List Oper} {o:Oper} {a:Act} {w:World} {Q:Exit→Act→World→Prop} (hgd:o.guard=none) (l c:Operand) (ho:o.op=.makeSlice 103 l c) (n:Nat) (hn:n≤1000) (hl:a.eval l=.int .i64 (n:Int)) (hc:a.eval c=.int .i64 (n:Int))
  (h:∀ x w',w.heap.size=x→Grows w w'→w'.heap[x]?=some (.cells (nulls n) 5 (0,0))→wpList Tryz.prog ops Q rest (a.put o.dst (.slice (some ⟨x,0,none⟩) n n)) w'):wpList Tryz.prog ops Q (o::rest) a w:=
 wpList_plain hgd fun K hK=>by
  unfold Oper.wp execOp
  simp only [ho,hl,hc,Sem.run_bind,Sem.run_pure,Result.andThen_ok,run_make_nulls n hn w]
  exact hK _ _ (h _ _ rfl (grows_alloc _ _) (new1 _ _))
theorem conv_u8 {P:Program} {ρ:Operand→Value} {o:Oper} (src dst:TypeId) (x:Operand) (ho:o.op=.convert src dst x) (q:Nat) (hx:ρ x=wn q) (hs:P.underlying src=some (.int .u64)) (hd:P.underlying dst=some (.int .u8)) (u:World) :
  (execOp ρ o).run P u=.ok (.value (v8 (UInt8.ofNat (q%256)))) u:=by
 obtain ⟨d,op,type,pos,after,guard⟩:=o
 subst ho
 have h:IntKind.u8.wrap (q:Int)=((q%256:Nat):Int):=by
  simp only [IntKind.wrap,IntKind.bits,IntKind.signed]
  simp
 have hx2:ρ x=.int .u64 (q:Int):=hx
 have h2:(UInt8.ofNat (q%256)).toNat=q%256:=by simp
 simp [execOp,hx2,convert,run_underlying hs,run_underlying hd,Conv.intToInt,h,v8]
theorem run_sv {P:Program} {ρ:Operand→Value} {o:Oper} (src dst e:TypeId) (x:Operand) (ho:o.op=.convert src dst x) {A:Option Addr} {n c:Nat} {l:List UInt8} {p:Nat→Prop} (w:World) (hr:Rd w p A n c l) (hx:ρ x=.slice A n c) (hs:P.underlying src=some (.slice e)) (he:P.underlying e=some (.int .u8)) (hd:P.underlying dst=some .string) :
  (execOp ρ o).run P w=.ok (.value (.string ⟨l.toArray⟩)) w:=by
 obtain ⟨d,op,type,pos,after,guard⟩:=o
 subst ho
 simp only [execOp,hx,Sem.run_bind,run_convert_rd hr src dst e hs he hd,Result.andThen_ok,Sem.run_pure]
theorem wpList_atw {P:Program} {ops:Array Oper} {rest:List Oper} {o:Oper} {a:Act} {w:World} {Q:Exit→Act→World→Prop} (hgd:o.guard=none) (v:Value) (hv:(execOp a.eval o).run P w=.ok (.value v) w) (h:wpList P ops Q rest (a.put o.dst v) w):wpList P ops Q (o::rest) a w:=
 wpList_plain hgd fun K hK=>by
  unfold Oper.wp
  rw [hv]
  exact hK _ _ h
theorem lss_no (t:TypeId) {p q:Int} (h:¬ p<q):binOp .lss t (.int .i64 p) (.int .i64 q)=pure (.bool false):=by
 show (pure (.bool (decide (p<q))):Sem Value)=_
 rw [decide_eq_false h]
theorem gtr_no (t:TypeId) {p q:Int} (h:¬ p>q):binOp .gtr t (.int .i64 p) (.int .i64 q)=pure (.bool false):=by
 show (pure (.bool (decide (p>q))):Sem Value)=_
 rw [decide_eq_false h]
theorem bi_rem (t:TypeId) {p q:Nat} (h:q≠0) (h2:p<9223372036854775808):binOp .rem t (.int .i64 (p:Int)) (.int .i64 (q:Int))=pure (.int .i64 ((p%q:Nat):Int)):=by
 have h1:((p%q:Nat):Int)<9223372036854775808:=by have:=Nat.mod_le p q; omega
 show Op.intDiv .rem .i64 (p:Int) (q:Int)=_
 unfold Op.intDiv
 have h3:¬ ((q:Int)=0):=by omega
 simp only [h3,if_false]
 rw [Int.tmod_eq_emod_of_nonneg (by omega),← Int.natCast_emod]
theorem nat_bytes (a n:Nat) (w:World) (ha:a<pw 9) (hn:n≤72) (hb:bl a≤8*n):Calls Tryz.prog 50 #[.agg (nc a),.int .i64 n] w fun e w'=>e=.returned (.tuple #[.string (byB a n),.int .i64 0])∧Below w.heap.size w w':=by
 have A9:=Hd ha
 have HBL:=Hd hb
 clear ha hb
 go_enter Tryz.func50,Tryz.ntmps50
 go_upto_region 1 with fail
 have m0:=Mem.start1 w (nc a) 27
 obtain ⟨w1,hw1⟩:∃ w1:World,w1=(w.alloc (.cells (nc a) 27)):=⟨_,rfl⟩
 rw [← hw1] at m0 ⊢
 clear hw1
 obtain ⟨g,hg⟩:∃ g,g=w.heap.size:=⟨_,rfl⟩
 rw [← hg] at m0 ⊢
 have HG:=Hd hg
 have M:=Hd m0
 clear hg m0
 refine wp_region_lit ?_
 refine pK (.int .i64 (n:Int)) ?_
 try simp only [Act.put,s_,t_,u_,v_,x_,y_]
 refine pL rfl (.bool false) (fun u=>run_bini _ _ _ _ _ rfl (n:Int) 0 (by kernel_rfl) (by kernel_rfl) (lss_no _ (by omega)) u) ?_
 refine pK (.bool false) ?_
 try simp only [Act.put,s_,t_,u_,v_,x_,y_]
 refine wK (.int .i64 (n:Int)) ?_
 try simp only [Act.put,s_,t_,u_,v_,x_,y_]
 refine wL (by kernel_rfl) (.bool false) (fun u=>run_bini _ _ _ _ _ rfl (n:Int) 72 (by kernel_rfl) (by kernel_rfl) (gtr_no _ (by omega)) u) ?_
 try simp only [Act.put,s_,t_,u_,v_,x_,y_]
 refine pK (.bool false) ?_
 refine pK (.bool false) ?_
 try simp only [Act.put,s_,t_,u_,v_,x_,y_]
 refine wpN_loadG2 (by kernel_rfl) (.tmp 2) rfl g 0 (by kernel_rfl) (M.out.at 0 rfl) (fun j hj=>by rw [Nat.zero_add]; exact nc_get _ j hj) ?_
 try simp only [Act.put,s_,t_,u_,v_,x_,y_]
 refine wpList_fnG (by kernel_rfl) _ _ _ _ rfl #[] #[.agg (nc a)] (by kernel_rfl) (by kernel_rfl) (fun u=>cE _ _ _ _ u Tryz.func72 (by kernel_rfl) (by kernel_rfl)) (.int .i64 (bl a:Int)) (nat_bits a w1 A9.out) (fun w2 hb=>?_)
 have Nw2:=Hd (M.out.grow hb)
 clear hb M
 try simp only [Act.put,s_,t_,u_,v_,x_,y_]
 refine wK (.int .i64 (n:Int)) ?_
 try simp only [Act.put,s_,t_,u_,v_,x_,y_]
 refine wL (by kernel_rfl) (.int .i64 ((8*n:Nat):Int)) (fun u=>run_bini _ _ _ _ _ rfl ((8:Nat):Int) (n:Int) (by kernel_rfl) (by kernel_rfl) (bi_mul _ (by omega)) u) ?_
 try simp only [Act.put,s_,t_,u_,v_,x_,y_]
 refine wL (by kernel_rfl) (.bool false) (fun u=>run_bini _ _ _ _ _ rfl (bl a:Int) ((8*n:Nat):Int) (by kernel_rfl) (by kernel_rfl) (gtr_no _ (by have:=HBL.out; omega)) u) ?_
 try simp only [Act.put,s_,t_,u_,v_,x_,y_]
 refine pK (.bool false) ?_
 refine wpList_nil ?_
 try simp only [Act.put,s_,t_,u_,v_,x_,y_]
 go_upto_region 3 with (fail)
 refine wp_region_lit ?_
 refine pK (.int .i64 (n:Int)) ?_
 refine wpList_mkB rfl (.tmp 21) (.tmp 21) rfl n (by omega) (by kernel_rfl) (by kernel_rfl) ?_
 intro bb w3 hx hgv hh
 have M3:=Hd (show Mem w w3 [(g,nc a,27),(bb,fa v8 n (byF a n 0),5)] from Nw2.out.new hgv (Nat.le_of_eq hx) (by rw [byF_zero]; exact hh))
 clear hx hgv hh Nw2
 refine pK (.slice (some ⟨bb,0,none⟩) n n) ?_
 refine wpList_nil ?_
 try simp only [Act.put,s_,t_,u_,v_,x_,y_]
 go_upto_region 4 with (fail)
 refine wp_region_lit ?_
 refine pK (.slice (some ⟨bb,0,none⟩) n n) ?_
 refine pK (.int .i64 (n:Int)) ?_
 refine pK (.int .i64 0) ?_
 refine wpList_nil ?_
 try simp only [Act.put,s_,t_,u_,v_,x_,y_]
 go_upto_region 5 with (fail)
 go_loopw [25] (fun iv wr=>∃ i:Nat,i≤n∧iv=.int .i64 (i:Int)∧Mem w wr [(g,nc a,27),(bb,fa v8 n (byF a n i),5)]) (fun iv _=>(n - intOf iv).toNat)
 case atStart=>exact ⟨0,Nat.zero_le _,rfl,M3.out⟩
 case round=>
  obtain ⟨i,hi,rfl,hm⟩:=hrel
  have M:=Hd hm
  clear hm
  by_cases hlt:i<n
  ·have hbd:=by_dig a i
   have hst:=byF_step a n i hlt
   obtain ⟨q,hq⟩:∃ q,q=i / 8:=⟨_,rfl⟩
   obtain ⟨rr,hr⟩:∃ rr,rr=i%8:=⟨_,rfl⟩
   rw [← hq,← hr] at hbd
   have HBD:=Hd (show UInt8.ofNat (dig a q / 2 ^ (8*rr)%256)=byD a i by unfold byD; rw [hbd])
   have HST:=Hd hst
   have hq9:q<9:=by omega
   have hr8:rr<8:=by omega
   have HQ:=Hd hq
   have HR:=Hd hr
   clear hbd hst
   go_upto_region 6 with (fail)
   refine wp_region_lit ?_
   refine pK (.int .i64 (i:Int)) ?_
   refine pK (.int .i64 (i:Int)) ?_
   refine wpList_nil ?_
   try simp only [Act.put,s_,t_,u_,v_,x_,y_]
   go_upto_region 7 with (fail)
   refine wp_region_lit ?_
   refine pK (.slice (some ⟨bb,0,none⟩) n n) ?_
   refine pK (.int .i64 (n:Int)) ?_
   refine pL rfl (.int .i64 ((n - 1:Nat):Int)) (fun u=>run_bini _ _ _ _ _ rfl (n:Int) ((1:Nat):Int) (by kernel_rfl) (by kernel_rfl) (bi_sub _ (by omega) (by omega)) u) ?_
   refine pK (.int .i64 (i:Int)) ?_
   refine pL rfl (.int .i64 ((n - 1 - i:Nat):Int)) (fun u=>run_bini _ _ _ _ _ rfl ((n - 1:Nat):Int) (i:Int) (by kernel_rfl) (by kernel_rfl) (bi_sub _ (by omega) (by omega)) u) ?_
   refine pK (.int .i64 (i:Int)) ?_
   refine pL rfl (.int .i64 ((q:Nat):Int)) (fun u=>by rw [HQ.out]; exact run_bini _ _ _ _ _ rfl (i:Int) ((8:Nat):Int) (by kernel_rfl) (by kernel_rfl) (bi_quo _ (by decide) (by omega)) u) ?_
   refine pK (.pointer (some ⟨g,0,none⟩)) ?_
   refine pL rfl (.pointer (some ⟨g,q,none⟩)) (fun u=>idx_arr 25 (.tmp 35) (.tmp 34) rfl g q 9 (by kernel_rfl) (by kernel_rfl) hq9 Tryz.underlying25 (by kernel_rfl) u) ?_
   refine lC rfl 24 (.tmp 36) rfl g q (by kernel_rfl) (wn (dig a q)) _ Tryz.underlying24 rfl ((cO (M.out.at 0 rfl) q).trans (nc_get _ _ hq9)) ?_
   refine pK (.int .i64 (i:Int)) ?_
   refine pL rfl (.int .i64 ((rr:Nat):Int)) (fun u=>by rw [HR.out]; exact run_bini _ _ _ _ _ rfl (i:Int) ((8:Nat):Int) (by kernel_rfl) (by kernel_rfl) (bi_rem _ (by decide) (by omega)) u) ?_
   refine pL rfl (.int .i64 ((8*rr:Nat):Int)) (fun u=>run_bini _ _ _ _ _ rfl ((8:Nat):Int) (rr:Int) (by kernel_rfl) (by kernel_rfl) (bi_mul _ (by omega)) u) ?_
   refine pL rfl (wn (dig a q / 2 ^ (8*rr))) (fun u=>run_wn _ _ _ _ _ rfl (dig a q) (.int .i64 ((8*rr:Nat):Int)) (by kernel_rfl) (by kernel_rfl) (wn_shr _ _ (dig_lt _ _) .i64 (8*rr)) u) ?_
   refine pL rfl (v8 (byD a i)) (fun u=>by rw [← HBD.out]; exact conv_u8 24 5 (.tmp 41) rfl (dig a q / 2 ^ (8*rr)) (by kernel_rfl) Tryz.underlying24 Tryz.underlying5 u) ?_
   refine pL rfl (.pointer (some ⟨bb,((n - 1 - i)*1),none⟩)) (fun u=>idx_slice 103 (.tmp 28) (.tmp 32) rfl bb n n (n - 1 - i) 1 (by kernel_rfl) (by kernel_rfl) (by omega) Tryz.underlying103 (by kernel_rfl) u) ?_
   refine wpList_store_cellL rfl 5 (.tmp 43) (.tmp 42) rfl bb ((n - 1 - i)*1) (by kernel_rfl) _ _ (v8 (byD a i)) (by kernel_rfl) rfl (M.out.at 1 rfl) (by kernel_rfl) (by rw [fS]; omega) rfl (fun w8 hw hb hs=>?_)
   rw [Nat.mul_one,fa_set,HST.out] at hw
   have M8:=Hd (M.out.store 1 rfl hb hs hw)
   clear hw hb hs M
   refine wpList_nil ?_
   try simp only [Act.put,s_,t_,u_,v_,x_,y_]
   go_wp2_with (fail)
   exact ⟨⟨i+1,by omega,by go_num,M8.out⟩,by simp [intOf]; omega⟩
  ·obtain rfl:i=n:=by omega
   have HRD:=Hd (Rd.row ((List.range i).map fun j=>byD a (i - 1 - j)) i (by simp) (fun _=>True) trivial (M.out.at 1 rfl) (byF_all a i))
   go_upto_region 9 with (fail)
   refine wp_region_lit ?_
   refine pK (.slice (some ⟨bb,0,none⟩) i i) ?_
   refine wpList_atw rfl (.string (byB a i)) (run_sv 103 9 5 (.tmp 45) rfl _ HRD.out (by kernel_rfl) Tryz.underlying103 Tryz.underlying5 Tryz.underlying9) ?_
   refine pK (.string (byB a i)) ?_
   refine pK (.int .i64 0) ?_
   refine wpList_nil ?_
   try simp only [Act.put,s_,t_,u_,v_,x_,y_]
   go_wp2_with (fail)
   go_ret2
   exact ⟨rfl,M.out.below⟩
end Go.Proofs.YtkoonhiplicbkaaGreat.Cw
namespace Go.Proofs.YtkoonhiplicbkaaGreat.Cw
open Go Go.RowKit
def nrT (k:Nat):Nat:=[0,11,11,3,19,3,3,3,3,11,5,2,2,2,7,7].getD k 0
noncomputable def nrB (k:Nat):Bool:=Nat.beq (powm (nrT k) (((cv k).p - 1) / 2) (cv k).p) ((cv k).p - 1) && (Nat.ble 2 (nrT k) && (Nat.blt (nrT k) (cv k).p && Nat.beq ((cv k).p%2) 1))
theorem nr_all:(List.range 15).all (fun i=>nrB (i+1))=true:=by decide +kernel
def CK.nr (k:CK):Nat:=nrT k.1
theorem CK.nr_ok (k:CK):k.nr ^ ((k.c.p - 1) / 2)%k.c.p=k.c.p - 1∧2≤k.nr∧k.nr<k.c.p∧k.c.p%2=1:=by
 have h:=nr_all
 rw [List.all_eq_true] at h
 have h2:=h (k.1 - 1) (List.mem_range.2 (by have:=k.2; omega))
 rw [Nat.sub_add_cancel k.2.1] at h2
 unfold nrB at h2
 simp only [Bool.and_eq_true] at h2
 obtain ⟨h3,h4,h5,h6⟩:=h2
 rw [powm_eq] at h3
 exact ⟨Nat.eq_of_beq_eq_true h3,Nat.le_of_ble_eq_true h4,Nat.le_of_ble_eq_true h5,Nat.eq_of_beq_eq_true h6⟩
noncomputable def forceT {β:Type} (s:Tri) (k:Tri→β):β:=force s.x fun x=>force s.y fun y=>force s.z fun z=>k ⟨x,y,z⟩
theorem forceT_eq {β:Type} (s:Tri) (k:Tri→β):forceT s k=k s:=by simp only [forceT,force_eq]
noncomputable def tmsF (p a b3:Nat) (P:Tri) (n:Nat):Nat→Tri→Tri
 | 0,o=>o
 | k+1,o=>forceT (sum3 p a b3 o o) fun d=>if bitN n k=1 then forceT (sum3 p a b3 d P) fun e=>tmsF p a b3 P n k e else tmsF p a b3 P n k d
theorem tmsF_eq (p a b3:Nat) (P:Tri) (n:Nat):∀ k o,tmsF p a b3 P n k o=tmsR (sum3 p a b3) P n k o
 | 0,o=>rfl
 | k+1,o=>by
  rw [tmsF,forceT_eq,tmsR]
  split
  ·rw [forceT_eq,tmsF_eq p a b3 P n k]
  ·rw [tmsF_eq p a b3 P n k]
noncomputable def infB (k:Nat):Bool:=(fun c:Cv=>force (bl c.n) fun b=>force c.p fun p=>force c.a fun a=>force c.b3 fun b3=>force c.n fun n=>Nat.beq (tmsF p a b3 ⟨c.gx,c.gy,1⟩ n b ⟨0,1,0⟩).z 0) (cv k)
theorem inf_all:(List.range 15).all (fun i=>infB (i+1))=true:=by decide +kernel
theorem CK.inf (k:CK):gm k k.c.n=none:=by
 have h:=inf_all
 rw [List.all_eq_true] at h
 have h2:=h (k.1 - 1) (List.mem_range.2 (by have:=k.2; omega))
 rw [Nat.sub_add_cancel k.2.1] at h2
 unfold infB at h2
 simp only [force_eq] at h2
 rw [tmsF_eq] at h2
 have h3:=Nat.eq_of_beq_eq_true h2
 have h4:=rp_times k (q:=⟨k.c.gx,k.c.gy,1⟩) (m:=1) k.c.n ?_
 ·rw [Nat.mul_one] at h4
  exact rp_inf k h4 h3
 ·have h1:=rp_trip k 1
  rw [gm_one] at h1
  obtain ⟨_,_,_,_,h5,h6,_⟩:=k.num
  have e:trN k (gG k)=⟨k.c.gx,k.c.gy,1⟩:=by
   show (⟨(cf k k.c.gx).val,(cf k k.c.gy).val,1⟩:Tri)=_
   rw [val_cf _ h5,val_cf _ h6]
  rwa [e] at h1
theorem gop_none (k:CK) (n:Nat):gop k none (gm k n)=gm k n:=by
 have e:=gm_add k 0 n
 rw [Nat.zero_add] at e
 exact e
theorem gm_mul_none (k:CK) {m:Nat} (h:gm k m=none):∀ q,gm k (q*m)=none
 | 0=>by rw [Nat.zero_mul]; rfl
 | q+1=>by
  have e:=gm_add k (q*m) m
  rw [Nat.add_mul,Nat.one_mul,← e,gm_mul_none k h q,h]
  exact gop_none k 0
theorem CK.fin (k:CK) {n:Nat} (h0:n≠0) (hn:n<k.c.n):gm k n≠none:=by
 suffices hs:∀ s n,n≤s→n≠0→n<k.c.n→gm k n≠none from hs n n (Nat.le_refl _) h0 hn
 intro s
 induction s with
 | zero=>intro n h1 h2; omega
 | succ s ih=>
  intro n h1 h2 h3 h4
  have hm:=Nat.div_add_mod k.c.n n
  have hlt:=Nat.mod_lt k.c.n (Nat.pos_of_ne_zero h2)
  have e:gm k (k.c.n%n)=none:=by
   have e1:=gm_add k (k.c.n / n*n) (k.c.n%n)
   rw [gm_mul_none k h4,gop_none,Nat.mul_comm,hm,k.inf] at e1
   exact e1
  rcases Nat.eq_zero_or_pos (k.c.n%n) with h5 | h5
  ·rcases k.Nprime.2 n (Nat.dvd_of_mod_eq_zero h5) with h6 | h6
   ·rw [h6,gm_one] at h4
    cases h4
   ·omega
  ·exact ih (k.c.n%n) (by omega) (by omega) (by omega) e
theorem CK.pt (k:CK) {n:Nat} (h0:n≠0) (hn:n<k.c.n):pI k (gm k n)=false∧pY k (gm k n)≠0∧fml k.c.p (pY k (gm k n)) (pY k (gm k n))=rgt k.c (pX k (gm k n)):=by
 have hf:=k.fin h0 hn
 have h:=gm_on k n
 have ho:=gm_onC k n
 rcases hg:gm k n with _ | ⟨x,y⟩
 ·exact absurd hg hf
 ·rw [hg] at h ho
  refine ⟨rfl,fun hy=>?_,?_⟩
  ·have h1:y*y=x*x*x+gA1 k*x+gB1 k:=h
   have h2:y=0:=Fin.ext hy
   rw [h2] at h1
   have hz:=(ck_ok k).root x
   exact hz (by rw [← h1]; clear hz h1 h2 hy; grind -lia -linarith -order (splits:=0) (ematch:=0))
  ·rcases ho with ⟨h1,_⟩ | ⟨_,_,_,h1⟩
   ·cases h1
   ·exact h1
end Go.Proofs.YtkoonhiplicbkaaGreat.Cw
