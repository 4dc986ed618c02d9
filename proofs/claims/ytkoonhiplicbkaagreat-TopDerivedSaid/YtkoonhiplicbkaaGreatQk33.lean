/-
  (package curvetlaw0) One, Num; (package curvettop) awake. No condition.
  A modulus's block; what Raw's steps come to in digits. Condition: none.
  (package mont) Raw: a product in Montgomery's way. Condition: a modulus's block; numbers of nine words, the second below the modulus.
  (package curve) Bytes, Key. Condition: an opened curve, a number of nine words.
  (package curvettop) short, pick; whole numbers as words. Condition: a text is one.
  (package divide) Modulus.Rest; (package mont) New. Condition: an odd modulus from 3 on.
-/
import Derived.Test.YtkoonhiplicbkaaGreatQk32
import Derived.Test.YtkoonhiplicbkaaGreatQk23
import Derived.Laws.CopyOwn
import Derived.Test.YtkoonhiplicbkaaGreatQk9
import Derived.Test.YtkoonhiplicbkaaGreatQk1
import Derived.Test.YtkoonhiplicbkaaGreatQk31
import Derived.Test.YtkoonhiplicbkaaGreatQk17
import Derived.Test.YtkoonhiplicbkaaGreatQk7
set_option linter.unusedSimpArgs false
set_option linter.unusedVariables false
set_option maxHeartbeats 4000000
set_option maxRecDepth 100000
namespace Go.Proofs.YtkoonhiplicbkaaGreat.Cw
open Go Go.RowKit
section
variable {P:Program} {ops:Array Oper} {rest:List Oper} {o:Oper} {a:Act} {w:World} {Q:Exit→Act→World→Prop}
theorem wpList_cellG (hwt:Region.wanted o (yielded ops a.tmps)=true) (ty:TypeId) (x:Operand) (ho:o.op=.load ty x) (g off:Nat) (hx:a.eval x=.pointer (some ⟨g,off,none⟩)) (v:Value) (d:TypeDesc)
  (hu:P.underlying ty=some d) (hd:isAggDesc d=false) (hc:w.cell? ⟨g,off,none⟩=some v) (h:wpList P ops Q rest (a.put o.dst v) w):wpList P ops Q (o::rest) a w:=by
 unfold wpList
 rw [if_pos hwt]
 refine .inl ?_
 unfold Oper.wp execOp
 simp only [ho,hx,Instr.loadAt,Instr.sureAddr,Sem.run_bind,Sem.run_pure,Result.andThen_ok,run_load_one w g off ty d hu hd v hc]
 exact h
end
theorem CK.id (k:CK):k.c.id=k.1:=(tab_open k.2.1 k.2.2).2.2.2.1
theorem ac_inf (cu:Cv):(ac cu)[55]?=some (.bool false):=by
 rw [show 55=37+18 from rfl,ac_g _ _ (by decide)]; exact ptc_inf _ _ _
theorem ac_sz (cu:Cv):(ac cu)[57]?=some (.int .i64 (cu.size:Int)):=by
 have:=ac_rest cu 1
 simpa using this
theorem eq_gpt (k:CK) (n m:Nat) (w:World):(binOp .eql 41 (.agg (gpt k n)) (.agg (gpt k m))).run Tryz.prog w=.ok (.bool (decide (gm k n=gm k m))) w:=by
 have h:=fun P=>Nat.lt_trans (pX_lt k P) k.p9
 have h2:=fun P=>Nat.lt_trans (pY_lt k P) k.p9
 unfold gpt
 rw [eq_point _ _ _ _ _ _ (h _) (h2 _) (h _) (h2 _)]
 congr 2
 rw [decide_eq_decide]
 refine ⟨fun ⟨a,b,c⟩=>p_inj k _ _ a b c,fun e=>by rw [e]; exact ⟨rfl,rfl,rfl⟩⟩
theorem guard_pt (x y:Operand) (a b:Array Value) (w:World):(eqGuard .eql 41 x y (.agg a) (.agg b)).run Tryz.prog w=.ok () w:=by
 have h:Tryz.prog.eqGuardType Tryz.prog.depth 41=false:=by kernel_rfl
 unfold eqGuard
 simp [Sem.run_bind,h]
theorem run_eqp {ρ:Operand→Value} {o:Oper} (t2:TypeId) (x y:Operand) (ho:o.op=.binOp .eql 41 x y t2) (k:CK) (n m:Nat) (hx:ρ x=.agg (gpt k n)) (hy:ρ y=.agg (gpt k m)) (b:Bool) (hb:decide (gm k n=gm k m)=b) (u:World):(execOp ρ o).run Tryz.prog u=.ok (.value (.bool b)) u:=by
 obtain ⟨d,op,type,pos,after,guard⟩:=o
 subst ho
 simp only [execOp,hx,hy,Sem.run_bind,guard_pt,Result.andThen_ok,eq_gpt,hb,Sem.run_pure]
theorem law_num (n:Int) (w:World):Calls Tryz.prog 11 #[.int .i64 n] w fun e w'=>e=.returned (.int .i64 n)∧Below w.heap.size w w':=by
 go_enter Tryz.func11,Tryz.ntmps11
 go_wp2
 go_ret
 exact ⟨rfl,Below.refl _ _⟩
theorem nc_set (n:Nat) (h:n<18446744073709551616):(nc 0).setIfInBounds 0 (wn n)=nc n:=by
 have e0:(nc 0).setIfInBounds 0 (wn n)=fa wn 9 (upd (dig 0) 0 n):=fa_set _ _ _ _ _
 rw [e0]
 refine fa_ext _ _ _ _ fun i hi=>?_
 rcases Nat.eq_zero_or_pos i with rfl | hp
 ·simp [upd,dig,pw,Nat.mod_eq_of_lt h]
 ·have hpw:n<pw i:=Nat.lt_of_lt_of_le h (by unfold pw; exact Nat.le_self_pow (by omega) _)
  simp [upd,dig,Nat.div_eq_of_lt hpw]
  omega
attribute [local irreducible] pc ptc nc ac cuc fc gpt
attribute [local go_sem ↓ high] wn_eql wn_neq wn_lss wn_gtr wn_leq wn_geq wn_cells wRS wn_guard lit0 lit1
attribute [local go_sem high] wn_match wRS wn_eql wn_neq wn_lss wn_gtr wn_leq wn_geq
theorem law_one (n:Nat) (w:World) (hn:n<18446744073709551616):Calls Tryz.prog 8 #[wn n] w fun e w'=>e=.returned (.agg (nc n))∧Below w.heap.size w w':=by
 have HN:=Hd hn
 clear hn
 go_enter Tryz.func8,Tryz.ntmps8
 go_upto_region 1 with fail
 rw [← nZ]
 have m0:=Mem.start1 w (nc 0) 27
 obtain ⟨w1,hw1⟩:∃ w1:World,w1=(w.alloc (.cells (nc 0) 27)):=⟨_,rfl⟩
 rw [← hw1] at m0 ⊢
 clear hw1
 obtain ⟨g,hg⟩:∃ g,g=w.heap.size:=⟨_,rfl⟩
 rw [← hg] at m0 ⊢
 have HG:=Hd hg
 have M:=Hd m0
 clear hg m0
 refine wp_region_lit ?_
 refine nL rfl 27 rfl (.agg (nc 0)) (by rw [nZ]; kernel_rfl) ?_
 intro x w2 hx hx2 hgv hh
 have Nw2:=Hd (show Mem w w2 [(g,nc 0,27),(x,nc 0,27)] from M.out.new hgv (Nat.le_of_eq hx) hh)
 clear hx hx2 hgv hh M
 refine wpList_nil ?_
 try simp only [Act.put,s_,t_,u_,v_,x_,y_]
 go_upto_region 2 with (fail)
 refine wp_region_lit ?_
 refine pK (wn n) ?_
 refine pK (.pointer (some ⟨x,0,none⟩)) ?_
 refine pK (.pointer (some ⟨x,0,none⟩)) ?_
 refine wpList_plain rfl fun K hK=>?_
 refine wp_store_val 24 (.tmp 6) (.tmp 4) rfl x 0 (by kernel_rfl) _ (nc 0) #[wn n] rfl (Nw2.out.at 1 rfl) (by kernel_rfl) (by rw [nS]; exact (by decide:0+1≤9)) (by intro u hu; simp at hu; subst hu; rfl) (fun w9 hw hb hs=>hK _ _ ?_)
 rw [splice_one (nc 0) (wn n) (by rw [nS]; decide),nc_set n HN.out] at hw
 have N9:=Hd (Nw2.out.store 1 rfl hb hs hw)
 clear hw hb hs hK Nw2
 refine wpList_nil ?_
 try simp only [Act.put,s_,t_,u_,v_,x_,y_]
 go_upto_region 3 with (fail)
 refine wp_region_lit ?_
 refine l0N rfl (.tmp 3) rfl x (by kernel_rfl) (N9.out.at 1 rfl) ?_
 refine sB rfl 27 (.tmp 2) (.tmp 7) rfl g (by kernel_rfl) _ _ (nc n) (by kernel_rfl) (N9.out.at 0 rfl) (by rw [nS]; kernel_rfl) (by simp only [nS]) (nO _) ?_
 intro w3 hw hb hs
 have Nw3:=Hd (N9.out.store 0 rfl hb hs hw)
 clear hw hb hs N9
 refine wpList_nil ?_
 try simp only [Act.put,s_,t_,u_,v_,x_,y_]
 go_wp2_with (fail)
 refine bodyPost_ret (results_N rfl _ _ g _ _ _ rfl (Nw3.out.at 0 rfl)) rfl ⟨by first | rfl | simp only [*],Nw3.out.below⟩
def k13:CK:=⟨13,by decide,by decide⟩
theorem g13:gm k13 k13.c.n=none:=by
 have h:=rp_times k13 (q:=⟨k13.c.gx,k13.c.gy,1⟩) (m:=1) k13.c.n ?_
 ·rw [Nat.mul_one] at h
  exact rp_inf k13 h (by decide +kernel)
 ·have h1:=rp_trip k13 1
  rw [gm_one] at h1
  obtain ⟨_,_,_,_,h5,h6,_⟩:=k13.num
  have e:trN k13 (gG k13)=⟨k13.c.gx,k13.c.gy,1⟩:=by
   show (⟨(cf k13 k13.c.gx).val,(cf k13 k13.c.gy).val,1⟩:Tri)=_
   rw [val_cf _ h5,val_cf _ h6]
  rwa [e] at h1
theorem awake_walk (w:World):Calls Tryz.prog 6 #[] w fun e w'=>e=.returned (.bool true)∧Below w.heap.size w w':=by
 obtain ⟨k,hk⟩:∃ k,k=k13:=⟨_,rfl⟩
 have hi:(13:Int)=(k.1:Int):=by rw [hk]; rfl
 have HG:=Hd (show gm k k.c.n=none by rw [hk]; exact g13)
 have HN9:=Hd k.n9
 have HN1:=Hd k.n1
 have HI:=Hd hi
 clear hi
 go_enter Tryz.func6,Tryz.ntmps6
 go_upto_region 1 with fail
 have HINF:=Hd (show gpt k (k.c.n*1)=ptc 0 0 true by rw [Nat.mul_one]; unfold gpt; rw [HG.out]; rfl)
 have M:=Hd (Mem.nil w)
 refine wp_region_lit ?_
 refine fL rfl 13 (.func 13) #[.const (.int .i64 13)] #[3] rfl #[] #[.int .i64 13] (by kernel_rfl) (by kernel_rfl) (fun u=>cE _ _ _ _ u Tryz.func13 (by kernel_rfl) (by kernel_rfl)) (.tuple #[.agg (ac k.c),.int .i64 0]) ((by have h:=curve_get k.1 w k.2.1 k.2.2; rw [← HI.out] at h; exact h)) (fun w2 hb=>?_)
 have Nw2:=Hd (M.out.grow hb)
 clear hb M
 refine pK (.tuple #[.agg (ac k.c),.int .i64 0]) ?_
 refine pK (.agg (ac k.c)) ?_
 refine pK (.int .i64 0) ?_
 refine nL rfl 43 rfl (.agg #[.int .i64 0,wn 0,wn 0,wn 0,wn 0,wn 0,wn 0,wn 0,wn 0,wn 0,wn 0,wn 0,wn 0,wn 0,wn 0,wn 0,wn 0,wn 0,wn 0,wn 0,wn 0,wn 0,wn 0,wn 0,wn 0,wn 0,wn 0,wn 0,wn 0,wn 0,wn 0,wn 0,wn 0,wn 0,wn 0,wn 0,wn 0,wn 0,wn 0,wn 0,wn 0,wn 0,wn 0,wn 0,wn 0,wn 0,wn 0,wn 0,wn 0,wn 0,wn 0,wn 0,wn 0,wn 0,wn 0,.bool false,.int .i64 0,.int .i64 0,.bool false]) (by kernel_rfl) ?_
 intro cx w3 hx hx2 hgv hh
 have Nw3:=Hd (show Mem w w3 [(cx,#[.int .i64 0,wn 0,wn 0,wn 0,wn 0,wn 0,wn 0,wn 0,wn 0,wn 0,wn 0,wn 0,wn 0,wn 0,wn 0,wn 0,wn 0,wn 0,wn 0,wn 0,wn 0,wn 0,wn 0,wn 0,wn 0,wn 0,wn 0,wn 0,wn 0,wn 0,wn 0,wn 0,wn 0,wn 0,wn 0,wn 0,wn 0,wn 0,wn 0,wn 0,wn 0,wn 0,wn 0,wn 0,wn 0,wn 0,wn 0,wn 0,wn 0,wn 0,wn 0,wn 0,wn 0,wn 0,wn 0,.bool false,.int .i64 0,.int .i64 0,.bool false],43)] from Nw2.out.new hgv (Nat.le_of_eq hx) hh)
 clear hx hx2 hgv hh Nw2
 refine sB rfl 43 (.tmp 1) (.tmp 9) rfl cx (by kernel_rfl) _ _ (ac k.c) (by kernel_rfl) (Nw3.out.at 0 rfl) (by rw [ac_size]; kernel_rfl) (by rw [ac_size]; rfl) (ac_one _) ?_
 intro w4 hw hb hs
 have Nw4:=Hd (Nw3.out.store 0 rfl hb hs hw)
 clear hw hb hs Nw3
 refine pK (.int .i64 0) ?_
 refine wpList_nil ?_
 try simp only [Act.put,s_,t_,u_,v_,x_,y_]
 go_upto_region 2 with (fail)
 refine wp_region_lit ?_
 refine pK (.pointer (some ⟨cx,28,none⟩)) ?_
 refine wpN_load rfl (.tmp 12) rfl cx 28 (by kernel_rfl) (Nw4.out.at 0 rfl) k.c.n (ac_n _) ?_
 refine pK (.pointer (some ⟨cx,37,none⟩)) ?_
 refine lS rfl 41 (.tmp 14) rfl cx 37 19 (by kernel_rfl) _ _ (gpt k 1) _ _ (Nw4.out.at 0 rfl) Tryz.underlying41 rfl (by kernel_rfl) (gpt_size _ _) (fun j hj=>by rw [gpt_g]; exact ac_g _ j hj) ?_
 refine fL rfl 24 (.func 24) #[.const (.int .i64 13),.tmp 13,.tmp 15] #[3,27,41] rfl #[] #[.int .i64 13,.agg (nc k.c.n),.agg (gpt k 1)] (by kernel_rfl) (by kernel_rfl) (fun u=>cE _ _ _ _ u Tryz.func24 (by kernel_rfl) (by kernel_rfl)) (.tuple #[.agg (ptc 0 0 true),.int .i64 0]) ((by have h:=affine_mul k k.c.n 1 w4 HN9.out; rw [HINF.out,← HI.out] at h; exact h)) (fun w5 hb=>?_)
 have Nw5:=Hd (Nw4.out.grow hb)
 clear hb Nw4
 refine pK (.tuple #[.agg (ptc 0 0 true),.int .i64 0]) ?_
 refine pK (.agg (ptc 0 0 true)) ?_
 refine pK (.int .i64 0) ?_
 refine nL rfl 41 rfl (.agg (ptc 0 0 false)) (by rw [ptc_zero]; kernel_rfl) ?_
 intro px w6 hx hx2 hgv hh
 have Nw6:=Hd (show Mem w w6 [(cx,ac k.c,43),(px,ptc 0 0 false,41)] from Nw5.out.new hgv (Nat.le_of_eq hx) hh)
 clear hx hx2 hgv hh Nw5
 refine sB rfl 41 (.tmp 3) (.tmp 17) rfl px (by kernel_rfl) _ _ (ptc 0 0 true) (by kernel_rfl) (Nw6.out.at 1 rfl) (by rw [pS]; kernel_rfl) (by simp only [pS]) (ptc_one _ _ _) ?_
 intro w7 hw hb hs
 have Nw7:=Hd (Nw6.out.store 1 rfl hb hs hw)
 clear hw hb hs Nw6
 refine pK (.int .i64 0) ?_
 refine wpList_nil ?_
 try simp only [Act.put,s_,t_,u_,v_,x_,y_]
 go_upto_region 3 with (fail)
 refine wp_region_lit ?_
 refine fL rfl 8 (.func 8) #[.const (.int .u64 1)] #[24] rfl #[] #[.int .u64 1] (by kernel_rfl) (by kernel_rfl) (fun u=>cE _ _ _ _ u Tryz.func8 (by kernel_rfl) (by kernel_rfl)) (.agg (nc 1)) ((by exact law_one 1 w7 (by decide))) (fun w8 hb=>?_)
 have Nw8:=Hd (Nw7.out.grow hb)
 clear hb Nw7
 refine fL rfl 25 (.func 25) #[.const (.pointer none),.const (.int .i64 13),.tmp 20] #[69,3,27] rfl #[] #[.pointer none,.int .i64 13,.agg (nc 1)] (by kernel_rfl) (by kernel_rfl) (fun u=>cE _ _ _ _ u Tryz.func25 (by kernel_rfl) (by kernel_rfl)) (.tuple #[.agg (gpt k 1),.int .i64 0]) ((by have h:=base_mul k 1 w8 HN1.out; rw [← HI.out] at h; exact h)) (fun w9 hb=>?_)
 have Nw9:=Hd (Nw8.out.grow hb)
 clear hb Nw8
 refine pK (.tuple #[.agg (gpt k 1),.int .i64 0]) ?_
 refine pK (.agg (gpt k 1)) ?_
 refine pK (.int .i64 0) ?_
 refine nL rfl 41 rfl (.agg (ptc 0 0 false)) (by rw [ptc_zero]; kernel_rfl) ?_
 intro qx w10 hx hx2 hgv hh
 have Nw10:=Hd (show Mem w w10 [(cx,ac k.c,43),(px,ptc 0 0 true,41),(qx,ptc 0 0 false,41)] from Nw9.out.new hgv (Nat.le_of_eq hx) hh)
 clear hx hx2 hgv hh Nw9
 refine sB rfl 41 (.tmp 5) (.tmp 22) rfl qx (by kernel_rfl) _ _ (gpt k 1) (by kernel_rfl) (Nw10.out.at 2 rfl) (by rw [gpt_size]; kernel_rfl) (by simp only [gpt_size,pS]) (gpt_one _ _) ?_
 intro w11 hw hb hs
 have Nw11:=Hd (Nw10.out.store 2 rfl hb hs hw)
 clear hw hb hs Nw10
 refine pK (.int .i64 0) ?_
 refine wpList_nil ?_
 try simp only [Act.put,s_,t_,u_,v_,x_,y_]
 go_upto_region 4 with (fail)
 refine wp_region_lit ?_
 refine pK (.int .i64 0) ?_
 refine fL rfl 11 (.func 11) #[.tmp 24] #[30] rfl #[] #[.int .i64 0] (by kernel_rfl) (by kernel_rfl) (fun u=>cE _ _ _ _ u Tryz.func11 (by kernel_rfl) (by kernel_rfl)) (.int .i64 0) (law_num 0 w11) (fun w12 hb=>?_)
 have Nw12:=Hd (Nw11.out.grow hb)
 clear hb Nw11
 refine pK (.bool true) ?_
 refine pK (.bool true) ?_
 try simp only [Act.put,s_,t_,u_,v_,x_,y_]
 refine wK (.int .i64 0) ?_
 try simp only [Act.put,s_,t_,u_,v_,x_,y_]
 refine wpList_fnG (by kernel_rfl) _ _ _ _ rfl #[] #[.int .i64 0] (by kernel_rfl) (by kernel_rfl) (fun u=>cE _ _ _ _ u Tryz.func11 (by kernel_rfl) (by kernel_rfl)) (.int .i64 0) (law_num 0 w12) (fun w13 hb=>?_)
 have Nw13:=Hd (Nw12.out.grow hb)
 clear hb Nw12
 try simp only [Act.put,s_,t_,u_,v_,x_,y_]
 refine wK (.bool true) ?_
 try simp only [Act.put,s_,t_,u_,v_,x_,y_]
 refine pK (.bool true) ?_
 refine pK (.bool true) ?_
 try simp only [Act.put,s_,t_,u_,v_,x_,y_]
 refine wK (.pointer (some ⟨px,18,none⟩)) ?_
 try simp only [Act.put,s_,t_,u_,v_,x_,y_]
 refine wpList_cellG (by kernel_rfl) 4 (.tmp 33) rfl px 18 (by kernel_rfl) (.bool true) _ Tryz.underlying4 rfl ((cO (Nw13.out.at 1 rfl) 18).trans (ptc_inf 0 0 true)) ?_
 try simp only [Act.put,s_,t_,u_,v_,x_,y_]
 refine pK (.bool true) ?_
 refine pK (.bool true) ?_
 try simp only [Act.put,s_,t_,u_,v_,x_,y_]
 refine wK (.int .i64 0) ?_
 try simp only [Act.put,s_,t_,u_,v_,x_,y_]
 refine wpList_fnG (by kernel_rfl) _ _ _ _ rfl #[] #[.int .i64 0] (by kernel_rfl) (by kernel_rfl) (fun u=>cE _ _ _ _ u Tryz.func11 (by kernel_rfl) (by kernel_rfl)) (.int .i64 0) (law_num 0 w13) (fun w14 hb=>?_)
 have Nw14:=Hd (Nw13.out.grow hb)
 clear hb Nw13
 try simp only [Act.put,s_,t_,u_,v_,x_,y_]
 refine wK (.bool true) ?_
 try simp only [Act.put,s_,t_,u_,v_,x_,y_]
 refine pK (.bool true) ?_
 refine pK (.bool true) ?_
 try simp only [Act.put,s_,t_,u_,v_,x_,y_]
 refine wpList_segG (by kernel_rfl) 41 (.tmp 5) rfl qx 0 19 (by kernel_rfl) (gpt k 1) (Nw14.out.at 2 rfl) _ Tryz.underlying41 rfl (by kernel_rfl) (gpt_size _ _) (fun j hj=>by rw [Nat.zero_add]) ?_
 try simp only [Act.put,s_,t_,u_,v_,x_,y_]
 refine wK (.pointer (some ⟨cx,37,none⟩)) ?_
 try simp only [Act.put,s_,t_,u_,v_,x_,y_]
 refine wpList_segG (by kernel_rfl) 41 (.tmp 43) rfl cx 37 19 (by kernel_rfl) (gpt k 1) (Nw14.out.at 0 rfl) _ Tryz.underlying41 rfl (by kernel_rfl) (gpt_size _ _) (fun j hj=>by rw [gpt_g]; exact ac_g _ j hj) ?_
 try simp only [Act.put,s_,t_,u_,v_,x_,y_]
 refine wL (by kernel_rfl) (.bool true) (fun u=>by exact run_eqp _ _ _ rfl k 1 1 (by kernel_rfl) (by kernel_rfl) true (decide_eq_true rfl) u) ?_
 try simp only [Act.put,s_,t_,u_,v_,x_,y_]
 refine pK (.bool true) ?_
 refine pK (.bool true) ?_
 try simp only [Act.put,s_,t_,u_,v_,x_,y_]
 refine wK (.pointer (some ⟨cx,37,none⟩)) ?_
 try simp only [Act.put,s_,t_,u_,v_,x_,y_]
 refine wK (.pointer (some ⟨cx,55,none⟩)) ?_
 try simp only [Act.put,s_,t_,u_,v_,x_,y_]
 refine wpList_cellG (by kernel_rfl) 4 (.tmp 49) rfl cx 55 (by kernel_rfl) (.bool false) _ Tryz.underlying4 rfl ((cO (Nw14.out.at 0 rfl) 55).trans (ac_inf _)) ?_
 try simp only [Act.put,s_,t_,u_,v_,x_,y_]
 refine wK (.bool true) ?_
 try simp only [Act.put,s_,t_,u_,v_,x_,y_]
 refine pK (.bool true) ?_
 refine pK (.bool true) ?_
 refine wpList_nil ?_
 try simp only [Act.put,s_,t_,u_,v_,x_,y_]
 go_wp2_with (fail)
 go_ret
 exact ⟨rfl,Nw14.out.below⟩
end Go.Proofs.YtkoonhiplicbkaaGreat.Cw
namespace Go.Proofs.YtkoonhiplicbkaaGreat.Cw
open Go Go.RowKit
def mtc (m n less rr:Nat):Array Value:=nc m++(#[.int .i64 (n:Int),wn less]++nc rr)
def MtAt (w:World) (x m n less:Nat):Prop:=(n≤9∧m<pw n∧less<18446744073709551616∧(less*m+1)%18446744073709551616=0∧1<m)∧w.heap[x]?=some (.cells (mtc m n less (pw n*pw n%m)) 179 (0,0))
theorem MtAt.up {w w':World} {x m n less:Nat} (h:MtAt w x m n less) (hg:Grows w w'):MtAt w' x m n less:=⟨h.1,(hg.block x (Array.getElem?_eq_some_iff.mp h.2).1).trans h.2⟩
end Go.Proofs.YtkoonhiplicbkaaGreat.Cw
namespace Go.Proofs.YtkoonhiplicbkaaGreat.Cw
open Go Go.RowKit
attribute [local go_sem ↓ high] wn_eql wn_neq wn_lss wn_gtr wn_leq wn_geq wn_cells wRS wn_guard lit0 lit1
attribute [local go_sem high] wn_match wRS wn_eql wn_neq wn_lss wn_gtr wn_leq wn_geq
theorem wpList_store_cellL {P:Program} {ops:Array Oper} {rest:List Oper} {o:Oper} {a:Act} {w:World} {Q:Exit→Act→World→Prop} (hgd:o.guard=none) (ty:TypeId) (x v:Operand) (ho:o.op=.store ty x v)
  (g off:Nat) (hx:a.eval x=.pointer (some ⟨g,off,none⟩)) (t:TypeId) (C:Array Value) (val:Value) (hv:a.eval v=val) (hval:val.cells=#[val]) (hg:w.heap[g]?=some (.cells C t (0,0)))
  (hi:(P.info? ty).map (·.size)=some 1) (hfit:off<C.size) (h1:val.oneCell'=true)
  (h:∀ w',w'.heap[g]?=some (.cells (C.setIfInBounds off val) t (0,0))→But g w w'→w'.heap.size=w.heap.size→wpList P ops Q rest (a.put o.dst undef) w'):wpList P ops Q (o::rest) a w:=
 wpList_plain hgd fun K hK=>wp_store_val ty x v ho g off hx t C #[val] (by rw [hv,hval]) hg hi (by show off+1≤C.size; omega) (by simpa using h1) fun w' h2 h3 h4=>hK _ _ (h w' (by rw [splice_one C val hfit] at h2; exact h2) h3 h4)
theorem type_neq {w:World} {g x:Nat} {C D:Array Value} {t u:TypeId} {fr fs:Nat × Nat} (h1:w.heap[g]?=some (.cells C t fr)) (h2:w.heap[x]?=some (.cells D u fs)) (h:t≠u):x≠g:=fun e=>by
 rw [e,h1] at h2
 simp at h2
 exact h h2.2.1
theorem idx_arr {P:Program} {ρ:Operand→Value} {o:Oper} (t:TypeId) (x i:Operand) (ho:o.op=.indexAddr t x i) (g q N:Nat) {e:TypeId} (hx:ρ x=.pointer (some ⟨g,0,none⟩)) (hi:ρ i=.int .i64 (q:Int)) (hq:q<N)
  (ht:P.underlying t=some (.array N e)) (hs:(P.info? e).map (·.size)=some 1) (u:World):(execOp ρ o).run P u=.ok (.value (.pointer (some ⟨g,q,none⟩))) u:=by
 obtain ⟨dst,op,type,pos,after,guard⟩:=o
 subst ho
 have h1:¬ ((q:Int)<0):=by omega
 have h2:((q:Int)<N):=by omega
 have h3:(q:Int).toNat=q:=rfl
 cases hie:P.info? e with
 | none=>simp [hie] at hs
 | some ie=>
  have hs2:ie.size=1:=by simpa [hie] using hs
  simp [execOp,Instr.indexAt,hx,hi,run_underlying ht,sizeOf,typeInfo,hie,hs2,hq,h1,h2,h3,Addr.add_lit,asIntOf,Instr.sureAddr]
attribute [local irreducible] nc mtc
end Go.Proofs.YtkoonhiplicbkaaGreat.Cw
set_option maxHeartbeats 4000000
set_option maxRecDepth 100000
namespace Go.Proofs.YtkoonhiplicbkaaGreat.Cw
open Go Go.RowKit
attribute [local irreducible] pc ptc nc ac cuc fc gpt
attribute [local go_sem ↓ high] wn_eql wn_neq wn_lss wn_gtr wn_leq wn_geq wn_cells wRS wn_guard lit0 lit1
attribute [local go_sem high] wn_match wRS wn_eql wn_neq wn_lss wn_gtr wn_leq wn_geq
theorem wpGrow_skip {P:Program} {ops:Array Oper} {rest:List Oper} {o:Oper} {a:Act} {w:World} {L:Act→Prop} (hwt:Region.wanted o (yielded ops a.tmps)=false) (hn:wpGrow P ops Grows w L rest (a.put o.dst undef)):wpGrow P ops Grows w L (o::rest) a:=by
 unfold wpGrow
 rw [if_neg (by rw [hwt]; decide)]
 exact hn
theorem guard_aggZ (t:TypeId) (op:BinOp) (h:op=.eql∨op=.neq) (ht:Tryz.prog.eqGuardType Tryz.prog.depth t=false) (x y:Operand) (a b:Array Value) (w:World):(eqGuard op t x y (.agg a) (.agg b)).run Tryz.prog w=.ok () w:=by
 rcases h with rfl | rfl <;> unfold eqGuard <;> simp [Sem.run_bind,ht]
theorem run_nen {ρ:Operand→Value} {o:Oper} (t2:TypeId) (x y:Operand) (ho:o.op=.binOp .neq 27 x y t2) (a b:Nat) (hx:ρ x=.agg (nc a)) (hy:ρ y=.agg (nc b)) (ha:a<pw 9) (hb:b<pw 9) (v:Bool) (hv:decide (a≠b)=v) (u:World):(execOp ρ o).run Tryz.prog u=.ok (.value (.bool v)) u:=by
 obtain ⟨d,op,type,pos,after,guard⟩:=o
 subst ho
 simp only [execOp,hx,hy,Sem.run_bind,guard_aggZ _ _ (.inr rfl) (show Tryz.prog.eqGuardType Tryz.prog.depth 27=false by kernel_rfl),Result.andThen_ok,neq_nat a b ha hb,hv,Sem.run_pure]
theorem cmp_lssV (t:TypeId) (a b:Nat):binOp .lss t (.int .i64 (cmpN a b)) (.int .i64 0)=pure (.bool (decide (a<b))):=congrArg (fun b=>(pure (Value.bool b):Sem Value)) (cmp_lss a b)
theorem curve_bytes (k:CK) (c f d:Nat) (w:World) (H:CurveAt w c f d k.c):Calls Tryz.prog 77 #[.pointer (some ⟨c,0,none⟩)] w fun e w'=>e=.returned (.int .i64 (((bl k.c.n+7) / 8:Nat):Int))∧Below w.heap.size w w':=by
 have HCB:=Hd H.2.2
 obtain ⟨b,hb⟩:∃ b,b=bl k.c.n:=⟨_,rfl⟩
 have hb2:b≤576:=by rw [hb]; exact k.blN.2
 have HB:=Hd hb
 have HB2:=Hd hb2
 rw [← hb]
 clear H hb hb2
 go_enter Tryz.func77,Tryz.ntmps77
 go_upto_region 1 with fail
 have M:=Hd (Mem.nil w)
 have HB8:=Hd (show b+7<9223372036854775808 by have:=HB2.out; omega)
 refine wp_region_lit ?_
 refine pK (.pointer (some ⟨c,0,none⟩)) ?_
 refine pK (.pointer (some ⟨c,0,none⟩)) ?_
 refine pK (.pointer (some ⟨c,0,none⟩)) ?_
 refine pK (.pointer (some ⟨c,56,none⟩)) ?_
 refine lC rfl 3 (.tmp 6) rfl c 56 (by kernel_rfl) (.int .i64 (b:Int)) _ Tryz.underlying3 rfl ((cO (grows_at HCB.out M.out.1) 56).trans (by rw [HB.out]; exact cuc_bits _ _)) ?_
 try simp only [Act.put,s_,t_,u_,v_,x_,y_]
 refine pL rfl (.int .i64 ((b+7:Nat):Int)) (fun u=>run_bini _ _ _ _ _ rfl (b:Int) ((7:Nat):Int) (by kernel_rfl) (by kernel_rfl) (bi_add _ HB8.out) u) ?_
 try simp only [Act.put,s_,t_,u_,v_,x_,y_]
 refine pL rfl (.int .i64 (((b+7) / 8:Nat):Int)) (fun u=>run_bini _ _ _ _ _ rfl ((b+7:Nat):Int) ((8:Nat):Int) (by kernel_rfl) (by kernel_rfl) (bi_quo _ (by decide) HB8.out) u) ?_
 refine pK (.int .i64 (((b+7) / 8:Nat):Int)) ?_
 refine wpList_nil ?_
 try simp only [Act.put,s_,t_,u_,v_,x_,y_]
 go_wp2_with (fail)
 go_ret
 exact ⟨rfl,M.out.1⟩
theorem curve_key (k:CK) (c f d n:Nat) (w:World) (hn:n<pw 9) (H:CurveAt w c f d k.c):Calls Tryz.prog 31 #[.pointer (some ⟨c,0,none⟩),.agg (nc n)] w fun e w'=>e=.returned (.bool (decide (n≠0∧n<k.c.n)))∧Below w.heap.size w w':=by
 have HCB:=Hd H.2.2
 have n9:=Hd hn
 have N9:=Hd k.n9
 clear H hn
 go_enter Tryz.func31,Tryz.ntmps31
 go_upto_region 1 with fail
 have m0:=Mem.start1 w (nc n) 27
 obtain ⟨w1,hw1⟩:∃ w1:World,w1=(w.alloc (.cells (nc n) 27)):=⟨_,rfl⟩
 rw [← hw1] at m0 ⊢
 clear hw1
 obtain ⟨g,hg⟩:∃ g,g=w.heap.size:=⟨_,rfl⟩
 rw [← hg] at m0 ⊢
 have HG:=Hd hg
 have M:=Hd m0
 clear hg m0
 by_cases hz:n=0
 ·skip
  have HZ:=Hd hz
  have e1:decide (n≠0∧n<k.c.n)=false:=by simp [hz]
  have E1:=Hd e1
  clear e1 hz
  have D2:=Hd (M.out.drew)
  clear M
  refine rGw 14 14 (by kernel_rfl) (by kernel_rfl) (fun d v c a w h=>by cases d <;> exact h) ?_
  simp only [List.take_succ_cons,List.take_zero]
  refine lG rfl (.tmp 3) rfl g (by kernel_rfl) (fun u hu=>D2.out.up 0 rfl hu) ?_
  refine pG rfl (.agg (nc 0)) (fun u=>by rw [nZ]; kernel_rfl) ?_
  refine pG rfl (.bool false) (fun u=>by exact run_nen _ _ _ rfl n 0 (by kernel_rfl) (by kernel_rfl) n9.out (pw_pos 9) false (decide_eq_false (fun h=>h HZ.out)) u) ?_
  refine gK (.bool false) ?_
  try simp only [Act.put,s_,t_,u_,v_,x_,y_]
  refine wpGrow_skip (by kernel_rfl) ?_
  try simp only [Act.put,s_,t_,u_,v_,x_,y_]
  refine wpGrow_skip (by kernel_rfl) ?_
  try simp only [Act.put,s_,t_,u_,v_,x_,y_]
  refine wpGrow_skip (by kernel_rfl) ?_
  try simp only [Act.put,s_,t_,u_,v_,x_,y_]
  refine wpGrow_skip (by kernel_rfl) ?_
  try simp only [Act.put,s_,t_,u_,v_,x_,y_]
  refine wpGrow_skip (by kernel_rfl) ?_
  try simp only [Act.put,s_,t_,u_,v_,x_,y_]
  refine wpGrow_skip (by kernel_rfl) ?_
  try simp only [Act.put,s_,t_,u_,v_,x_,y_]
  refine wpGrow_skip (by kernel_rfl) ?_
  try simp only [Act.put,s_,t_,u_,v_,x_,y_]
  refine wpGrow_skip (by kernel_rfl) ?_
  refine gK (.bool false) ?_
  refine gK (.bool false) ?_
  refine gN ?_
  try simp only [Act.put,s_,t_,u_,v_,x_,y_]
  intro w3 hg6
  refine ⟨by kernel_rfl,?_⟩
  have Nw3:=Hd (D2.out.grow hg6)
  clear hg6 D2
  try simp only [Act.put,s_,t_,u_,v_,x_,y_]
  go_wp2_with (fail)
  go_ret
  exact ⟨by rw [E1.out]; rfl,Nw3.out.below⟩
 ·skip
  have HZ:=Hd hz
  have e1:decide (n≠0∧n<k.c.n)=decide (n<k.c.n):=by simp [hz]
  have E1:=Hd e1
  clear e1 hz
  have D2:=Hd (M.out.drew)
  clear M
  refine rGw 14 14 (by kernel_rfl) (by kernel_rfl) (fun d v c a w h=>by cases d <;> exact h) ?_
  simp only [List.take_succ_cons,List.take_zero]
  refine lG rfl (.tmp 3) rfl g (by kernel_rfl) (fun u hu=>D2.out.up 0 rfl hu) ?_
  refine pG rfl (.agg (nc 0)) (fun u=>by rw [nZ]; kernel_rfl) ?_
  refine pG rfl (.bool true) (fun u=>by exact run_nen _ _ _ rfl n 0 (by kernel_rfl) (by kernel_rfl) n9.out (pw_pos 9) true (decide_eq_true HZ.out) u) ?_
  refine gK (.bool true) ?_
  try simp only [Act.put,s_,t_,u_,v_,x_,y_]
  refine lG rfl (.tmp 3) rfl g (by kernel_rfl) (fun u hu=>D2.out.up 0 rfl hu) ?_
  try simp only [Act.put,s_,t_,u_,v_,x_,y_]
  refine gK (.pointer (some ⟨c,0,none⟩)) ?_
  try simp only [Act.put,s_,t_,u_,v_,x_,y_]
  refine gK (.pointer (some ⟨c,0,none⟩)) ?_
  try simp only [Act.put,s_,t_,u_,v_,x_,y_]
  refine gK (.pointer (some ⟨c,0,none⟩)) ?_
  try simp only [Act.put,s_,t_,u_,v_,x_,y_]
  refine gK (.pointer (some ⟨c,28,none⟩)) ?_
  try simp only [Act.put,s_,t_,u_,v_,x_,y_]
  refine lN rfl (.tmp 13) rfl c 28 (by kernel_rfl) k.c.n (fun u hu=>grows_at HCB.out (gT _ _ _ D2.out.1 hu)) (cuc_n _ _) ?_
  try simp only [Act.put,s_,t_,u_,v_,x_,y_]
  refine fG rfl 60 (.func 60) #[.tmp 9,.tmp 14] #[27,27] rfl #[] #[.agg (nc n),.agg (nc k.c.n)] (by kernel_rfl) (by kernel_rfl) (fun u=>cE _ _ _ _ u Tryz.func60 (by kernel_rfl) (by kernel_rfl)) (.int .i64 (cmpN n k.c.n)) (fun u hu=>by exact nat_cmp n k.c.n u n9.out N9.out) ?_
  try simp only [Act.put,s_,t_,u_,v_,x_,y_]
  refine pG rfl (.bool (decide (n<k.c.n))) (fun u=>by exact run_bini _ _ _ _ _ rfl (cmpN n k.c.n) 0 (by kernel_rfl) (by kernel_rfl) (cmp_lssV _ _ _) u) ?_
  refine gK (.bool (decide (n<k.c.n))) ?_
  refine gK (.bool (decide (n<k.c.n))) ?_
  refine gN ?_
  try simp only [Act.put,s_,t_,u_,v_,x_,y_]
  intro w3 hg6
  refine ⟨by kernel_rfl,?_⟩
  have Nw3:=Hd (D2.out.grow hg6)
  clear hg6 D2
  try simp only [Act.put,s_,t_,u_,v_,x_,y_]
  go_wp2_with (fail)
  go_ret
  exact ⟨by rw [E1.out]; rfl,Nw3.out.below⟩
end Go.Proofs.YtkoonhiplicbkaaGreat.Cw
namespace Go.Proofs.YtkoonhiplicbkaaGreat.Cw
open Go Go.RowKit
def uw (a:Int):Nat:=(a%18446744073709551616).toNat
theorem uw_lt (a:Int):uw a<18446744073709551616:=by unfold uw; omega
theorem uw_wrap (a:Int):Value.int .u64 (IntKind.u64.wrap a)=wn (uw a):=by
 have h:IntKind.u64.wrap a=((uw a:Nat):Int):=by
  simp only [IntKind.wrap,IntKind.bits,IntKind.signed,uw]
  simp
  omega
 rw [h]; rfl
theorem conv_uw {P:Program} {ρ:Operand→Value} {o:Oper} (src dst:TypeId) (x:Operand) (ho:o.op=.convert src dst x) (q:Int) (hx:ρ x=.int .i64 q) (hs:P.underlying src=some (.int .i64)) (hd:P.underlying dst=some (.int .u64)) (u:World) :
  (execOp ρ o).run P u=.ok (.value (wn (uw q))) u:=by
 obtain ⟨d,op,type,pos,after,guard⟩:=o
 subst ho
 rw [← uw_wrap]
 simp [execOp,hx,convert,run_underlying hs,run_underlying hd,Conv.intToInt]
theorem idx_wn {P:Program} {ρ:Operand→Value} {o:Oper} (t:TypeId) (x i:Operand) (ho:o.op=.indexAddr t x i) (g n cap q sz:Nat) {e:TypeId} (hx:ρ x=.slice (some ⟨g,0,none⟩) n cap) (hi:ρ i=wn q) (hq:q<n)
  (ht:P.underlying t=some (.slice e)) (hs:(P.info? e).map (·.size)=some sz) (u:World):(execOp ρ o).run P u=.ok (.value (.pointer (some ⟨g,q*sz,none⟩))) u:=by
 obtain ⟨dst,op,type,pos,after,guard⟩:=o
 subst ho
 have h1:¬ ((q:Int)<0):=by omega
 have h2:((q:Int)<n):=by omega
 have h3:(q:Int).toNat=q:=rfl
 cases hie:P.info? e with
 | none=>simp [hie] at hs
 | some ie=>
  have hs2:ie.size=sz:=by simpa [hie] using hs
  have hi2:ρ i=.int .u64 (q:Int):=hi
  simp [execOp,Instr.indexAt,hx,hi2,run_underlying ht,sizeOf,typeInfo,hie,hs2,hq,h1,h2,h3,Addr.add_lit,asIntOf]
theorem short_calls (s:ByteArray) (w:World) (hs:s.size≤140737488355328):Calls Tryz.prog 10 #[.string s,.int .i64 100] w fun e w'=>e=.returned (.string (shortS s))∧w=w':=by
 go_enter Tryz.func10,Tryz.ntmps10
 by_cases h:100<s.size
 ·have e:shortS s=s.extract 0 100:=if_pos h
  go_wp2; go_ret; exact ⟨by rw [e]; rfl,rfl⟩
 ·have e:shortS s=s:=if_neg h
  go_wp2; go_ret; exact ⟨by rw [e]; rfl,rfl⟩
def pkI (i:Nat):Int:=[13,14,15,2,3,6,8,13,14,15,4,9,10,5,11,12].getD i 13
theorem pkI_k (i:Nat):∃ k:CK,pkI i=(k.1:Int):=by
 by_cases h:i<16
 ·have:∀ j,j<16→1≤pkI j∧pkI j≤15:=by decide
  obtain ⟨h1,h2⟩:=this i h
  exact ⟨⟨(pkI i).toNat,by omega,by omega⟩,by show pkI i=((pkI i).toNat:Int); omega⟩
 ·refine ⟨⟨13,by decide,by decide⟩,?_⟩
  show List.getD _ i 13=13
  rw [List.getD_eq_getElem?_getD,List.getElem?_eq_none (by simpa using h)]; rfl
attribute [local irreducible] pkI
theorem pick_calls (a:Int) (w:World):Calls Tryz.prog 7 #[.int .i64 a] w fun e w'=>e=.returned (.int .i64 (pkI (uw a%16)))∧Below w.heap.size w w':=by
 have HQ:=Hd (Nat.mod_lt (uw a) (show 0<16 by decide))
 go_enter Tryz.func7,Tryz.ntmps7
 go_upto_region 1 with fail
 refine wp_region_lit ?_
 refine wpList_buildSlice_fa (fun x:Int=>.int .i64 x) .i64 id (fun _=>rfl) rfl 64 3 16 _ rfl pkI Tryz.underlying64 (by kernel_rfl) (by kernel_rfl) (by decide) (by decide) (by kernel_rfl) ?_
 have H:=Hd (new1 w (.cells (fa (fun x:Int=>Value.int .i64 x) 16 pkI) 3 (0,0)))
 have B:=Hd (Below.alloc (Below.refl w.heap.size w) (Nat.le_refl _) (.cells (fa (fun x:Int=>Value.int .i64 x) 16 pkI) 3 (0,0)))
 generalize World.alloc _ _=w1 at H B ⊢
 obtain ⟨g,hg⟩:∃ g,g=w.heap.size:=⟨_,rfl⟩
 rw [← hg] at H ⊢
 refine pK (.slice (some ⟨g,0,none⟩) 16 16) ?_
 refine wpList_nil ?_
 try simp only [Act.put,s_,t_,u_,v_,x_,y_]
 go_upto_region 2 with (fail)
 refine wp_region_lit ?_
 refine pK (.slice (some ⟨g,0,none⟩) 16 16) ?_
 refine pK (.int .i64 a) ?_
 refine pL rfl (wn (uw a)) (conv_uw 3 46 (.tmp 6) rfl a (by kernel_rfl) Tryz.underlying3 Tryz.underlying46) ?_
 refine pL rfl (wn (uw a%16)) (run_wn _ _ _ _ _ rfl (uw a) (wn 16) (by kernel_rfl) (by kernel_rfl) (wn_rem _ _ _ (uw_lt _) (by decide))) ?_
 refine pL rfl (.pointer (some ⟨g,uw a%16*1,none⟩)) (idx_wn 64 (.tmp 5) (.tmp 8) rfl g 16 16 (uw a%16) 1 (by kernel_rfl) (by kernel_rfl) HQ.out Tryz.underlying64 (by kernel_rfl)) ?_
 refine lC rfl 3 (.tmp 9) rfl g (uw a%16*1) (by kernel_rfl) (.int .i64 (pkI (uw a%16))) _ Tryz.underlying3 rfl ((cO H.out _).trans (by rw [Nat.mul_one]; exact fa_get _ _ _ _ HQ.out)) ?_
 refine pK (.int .i64 (pkI (uw a%16))) ?_
 refine wpList_nil ?_
 try simp only [Act.put,s_,t_,u_,v_,x_,y_]
 go_wp2_with (fail)
 go_ret
 exact ⟨rfl,B.out⟩
end Go.Proofs.YtkoonhiplicbkaaGreat.Cw
namespace Go.Proofs.YtkoonhiplicbkaaGreat.Cw
open Go Go.RowKit
attribute [local go_sem ↓ high] wn_eql wn_neq wn_lss wn_gtr wn_leq wn_geq wn_cells wRS wn_guard lit0 lit1
attribute [local go_sem high] wn_match wRS wn_eql wn_neq wn_lss wn_gtr wn_leq wn_geq
theorem one_pw9:1<pw 9:=by decide +kernel
attribute [local irreducible] nc mtc wc
end Go.Proofs.YtkoonhiplicbkaaGreat.Cw
