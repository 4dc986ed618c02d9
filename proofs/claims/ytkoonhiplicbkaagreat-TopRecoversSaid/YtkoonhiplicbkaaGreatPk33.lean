/-
  (package curvetlaw0) One, Num; (package curvettop) awake. No condition.
  Products in Montgomery's way, in plain numbers: what the rounds give, modulo m. Condition: less * m + 1 is a multiple of W.
  Montgomery's products cancel: what mul and inv come to, in plain numbers. Condition: none.
  Montgomery's products word by word, in digits; 'copy' between rows of words. Condition: none.
  (package mont) round: a word times a number added in. Condition: the modulus's words are n, at most nine; the sum has n and two words.
-/
import Derived.Test.YtkoonhiplicbkaaGreatPk32
import Derived.Test.YtkoonhiplicbkaaGreatPk23
import Derived.Test.YtkoonhiplicbkaaGreatPk1
import Derived.Laws.CopyOwn
import Derived.Test.YtkoonhiplicbkaaGreatPk9
set_option linter.unusedSimpArgs false
set_option linter.unusedVariables false
set_option maxHeartbeats 4000000
set_option maxRecDepth 100000
namespace Go.Proofs.YtkoonhiplicbkaaGreat.Cw
open Go Go.RowKit
section
variable {P:Program} {ops:Array Oper} {rest:List Oper} {o:Oper} {a:Act} {w:World} {Q:Exit→Act→World→Prop}
theorem wpList_cellG (hwt:Region.wanted o (yielded ops a.tmps)=true) (ty:TypeId) (x:Operand) (ho:o.op=.load ty x) (g off:Nat) (hx:a.eval x=.pointer (some ⟨g,off,none⟩)) (v:Value) (d:TypeDesc)
  (hu:P.underlying ty=some d) (hd:isAggDesc d=false) (hc:w.cell? ⟨g,off,none⟩=some v) (h:wpList P ops Q rest (a.put o.dst v) w):wpList P ops Q (o::rest) a w:=by
 unfold wpList
 rw [if_pos hwt]
 refine .inl ?_
 unfold Oper.wp execOp
 simp only [ho,hx,Instr.loadAt,Instr.sureAddr,Sem.run_bind,Sem.run_pure,Result.andThen_ok,run_load_one w g off ty d hu hd v hc]
 exact h
end
theorem CK.id (k:CK):k.c.id=k.1:=(tab_open k.2.1 k.2.2).2.2.2.1
theorem ac_inf (cu:Cv):(ac cu)[55]?=some (.bool false):=by
 rw [show 55=37+18 from rfl,ac_g _ _ (by decide)]; exact ptc_inf _ _ _
theorem eq_gpt (k:CK) (n m:Nat) (w:World):(binOp .eql 41 (.agg (gpt k n)) (.agg (gpt k m))).run Tryz.prog w=.ok (.bool (decide (gm k n=gm k m))) w:=by
 have h:=fun P=>Nat.lt_trans (pX_lt k P) k.p9
 have h2:=fun P=>Nat.lt_trans (pY_lt k P) k.p9
 unfold gpt
 rw [eq_point _ _ _ _ _ _ (h _) (h2 _) (h _) (h2 _)]
 congr 2
 rw [decide_eq_decide]
 refine ⟨fun ⟨a,b,c⟩=>p_inj k _ _ a b c,fun e=>by rw [e]; exact ⟨rfl,rfl,rfl⟩⟩
theorem guard_pt (x y:Operand) (a b:Array Value) (w:World):(eqGuard .eql 41 x y (.agg a) (.agg b)).run Tryz.prog w=.ok () w:=by
 have h:Tryz.prog.eqGuardType Tryz.prog.depth 41=false:=by kernel_rfl
 unfold eqGuard
 simp [Sem.run_bind,h]
theorem run_eqp {ρ:Operand→Value} {o:Oper} (t2:TypeId) (x y:Operand) (ho:o.op=.binOp .eql 41 x y t2) (k:CK) (n m:Nat) (hx:ρ x=.agg (gpt k n)) (hy:ρ y=.agg (gpt k m)) (b:Bool) (hb:decide (gm k n=gm k m)=b) (u:World):(execOp ρ o).run Tryz.prog u=.ok (.value (.bool b)) u:=by
 obtain ⟨d,op,type,pos,after,guard⟩:=o
 subst ho
 simp only [execOp,hx,hy,Sem.run_bind,guard_pt,Result.andThen_ok,eq_gpt,hb,Sem.run_pure]
theorem law_num (n:Int) (w:World):Calls Tryz.prog 11 #[.int .i64 n] w fun e w'=>e=.returned (.int .i64 n)∧Below w.heap.size w w':=by
 go_enter Tryz.func11,Tryz.ntmps11
 go_wp2
 go_ret
 exact ⟨rfl,Below.refl _ _⟩
theorem nc_set (n:Nat) (h:n<18446744073709551616):(nc 0).setIfInBounds 0 (wn n)=nc n:=by
 have e0:(nc 0).setIfInBounds 0 (wn n)=fa wn 9 (upd (dig 0) 0 n):=fa_set _ _ _ _ _
 rw [e0]
 refine fa_ext _ _ _ _ fun i hi=>?_
 rcases Nat.eq_zero_or_pos i with rfl | hp
 ·simp [upd,dig,pw,Nat.mod_eq_of_lt h]
 ·have hpw:n<pw i:=Nat.lt_of_lt_of_le h (by unfold pw; exact Nat.le_self_pow (by omega) _)
  simp [upd,dig,Nat.div_eq_of_lt hpw]
  omega
attribute [local irreducible] pc ptc nc ac cuc fc gpt
attribute [local go_sem ↓ high] wn_eql wn_neq wn_lss wn_gtr wn_leq wn_geq wn_cells wRS wn_guard lit0 lit1
attribute [local go_sem high] wn_match wRS wn_eql wn_neq wn_lss wn_gtr wn_leq wn_geq
theorem law_one (n:Nat) (w:World) (hn:n<18446744073709551616):Calls Tryz.prog 8 #[wn n] w fun e w'=>e=.returned (.agg (nc n))∧Below w.heap.size w w':=by
 have HN:=Hd hn
 clear hn
 go_enter Tryz.func8,Tryz.ntmps8
 go_upto_region 1 with fail
 rw [← nZ]
 have m0:=Mem.start1 w (nc 0) 27
 obtain ⟨w1,hw1⟩:∃ w1:World,w1=(w.alloc (.cells (nc 0) 27)):=⟨_,rfl⟩
 rw [← hw1] at m0 ⊢
 clear hw1
 obtain ⟨g,hg⟩:∃ g,g=w.heap.size:=⟨_,rfl⟩
 rw [← hg] at m0 ⊢
 have HG:=Hd hg
 have M:=Hd m0
 clear hg m0
 refine wp_region_lit ?_
 refine nL rfl 27 rfl (.agg (nc 0)) (by rw [nZ]; kernel_rfl) ?_
 intro x w2 hx hx2 hgv hh
 have Nw2:=Hd (show Mem w w2 [(g,nc 0,27),(x,nc 0,27)] from M.out.new hgv (Nat.le_of_eq hx) hh)
 clear hx hx2 hgv hh M
 refine wpList_nil ?_
 try simp only [Act.put,s_,t_,u_,v_,x_,y_]
 go_upto_region 2 with (fail)
 refine wp_region_lit ?_
 refine pL rfl (wn n) (fun u=>by kernel_rfl) ?_
 refine pL rfl (.pointer (some ⟨x,0,none⟩)) (fun u=>by kernel_rfl) ?_
 refine pL rfl (.pointer (some ⟨x,0,none⟩)) (fun u=>by kernel_rfl) ?_
 refine wpList_plain rfl fun K hK=>?_
 refine wp_store_val 24 (.tmp 6) (.tmp 4) rfl x 0 (by kernel_rfl) _ (nc 0) #[wn n] rfl (Nw2.out.at 1 rfl) (by kernel_rfl) (by rw [nS]; exact (by decide:0+1≤9)) (by intro u hu; simp at hu; subst hu; rfl) (fun w9 hw hb hs=>hK _ _ ?_)
 rw [splice_one (nc 0) (wn n) (by rw [nS]; decide),nc_set n HN.out] at hw
 have N9:=Hd (Nw2.out.store 1 rfl hb hs hw)
 clear hw hb hs hK Nw2
 refine wpList_nil ?_
 try simp only [Act.put,s_,t_,u_,v_,x_,y_]
 go_upto_region 3 with (fail)
 refine wp_region_lit ?_
 refine l0N rfl (.tmp 3) rfl x (by kernel_rfl) (N9.out.at 1 rfl) ?_
 refine sB rfl 27 (.tmp 2) (.tmp 7) rfl g (by kernel_rfl) _ _ (nc n) (by kernel_rfl) (N9.out.at 0 rfl) (by rw [nS]; kernel_rfl) (by simp only [nS]) (nO _) ?_
 intro w3 hw hb hs
 have Nw3:=Hd (N9.out.store 0 rfl hb hs hw)
 clear hw hb hs N9
 refine wpList_nil ?_
 try simp only [Act.put,s_,t_,u_,v_,x_,y_]
 go_wp2_with (fail)
 refine bodyPost_ret (results_N rfl _ _ g _ _ _ rfl (Nw3.out.at 0 rfl)) rfl ⟨by first | rfl | simp only [*],Nw3.out.below⟩
def k13:CK:=⟨13,by decide,by decide⟩
theorem g13:gm k13 k13.c.n=none:=by
 have h:=rp_times k13 (q:=⟨k13.c.gx,k13.c.gy,1⟩) (m:=1) k13.c.n ?_
 ·rw [Nat.mul_one] at h
  exact rp_inf k13 h (by decide +kernel)
 ·have h1:=rp_trip k13 1
  rw [gm_one] at h1
  obtain ⟨_,_,_,_,h5,h6,_⟩:=k13.num
  have e:trN k13 (gG k13)=⟨k13.c.gx,k13.c.gy,1⟩:=by
   show (⟨(cf k13 k13.c.gx).val,(cf k13 k13.c.gy).val,1⟩:Tri)=_
   rw [val_cf _ h5,val_cf _ h6]
  rwa [e] at h1
theorem awake_walk (w:World):Calls Tryz.prog 6 #[] w fun e w'=>e=.returned (.bool true)∧Below w.heap.size w w':=by
 obtain ⟨k,hk⟩:∃ k,k=k13:=⟨_,rfl⟩
 have hi:(13:Int)=(k.1:Int):=by rw [hk]; rfl
 have HG:=Hd (show gm k k.c.n=none by rw [hk]; exact g13)
 have HN9:=Hd k.n9
 have HN1:=Hd k.n1
 have HI:=Hd hi
 clear hi
 go_enter Tryz.func6,Tryz.ntmps6
 go_upto_region 1 with fail
 have HINF:=Hd (show gpt k (k.c.n*1)=ptc 0 0 true by rw [Nat.mul_one]; unfold gpt; rw [HG.out]; rfl)
 have M:=Hd (Mem.nil w)
 refine wp_region_lit ?_
 refine fL rfl 13 (.func 13) #[.const (.int .i64 13)] #[3] rfl #[] #[.int .i64 13] (by kernel_rfl) (by kernel_rfl) (fun u=>cE _ _ _ _ u Tryz.func13 (by kernel_rfl) (by kernel_rfl)) (.tuple #[.agg (ac k.c),.int .i64 0]) ((by have h:=curve_get k.1 w k.2.1 k.2.2; rw [← HI.out] at h; exact h)) (fun w2 hb=>?_)
 have Nw2:=Hd (M.out.grow hb)
 clear hb M
 refine pL rfl (.tuple #[.agg (ac k.c),.int .i64 0]) (fun u=>by kernel_rfl) ?_
 refine pL rfl (.agg (ac k.c)) (fun u=>by kernel_rfl) ?_
 refine pL rfl (.int .i64 0) (fun u=>by kernel_rfl) ?_
 refine nL rfl 43 rfl (.agg #[.int .i64 0,wn 0,wn 0,wn 0,wn 0,wn 0,wn 0,wn 0,wn 0,wn 0,wn 0,wn 0,wn 0,wn 0,wn 0,wn 0,wn 0,wn 0,wn 0,wn 0,wn 0,wn 0,wn 0,wn 0,wn 0,wn 0,wn 0,wn 0,wn 0,wn 0,wn 0,wn 0,wn 0,wn 0,wn 0,wn 0,wn 0,wn 0,wn 0,wn 0,wn 0,wn 0,wn 0,wn 0,wn 0,wn 0,wn 0,wn 0,wn 0,wn 0,wn 0,wn 0,wn 0,wn 0,wn 0,.bool false,.int .i64 0,.int .i64 0,.bool false]) (by kernel_rfl) ?_
 intro cx w3 hx hx2 hgv hh
 have Nw3:=Hd (show Mem w w3 [(cx,#[.int .i64 0,wn 0,wn 0,wn 0,wn 0,wn 0,wn 0,wn 0,wn 0,wn 0,wn 0,wn 0,wn 0,wn 0,wn 0,wn 0,wn 0,wn 0,wn 0,wn 0,wn 0,wn 0,wn 0,wn 0,wn 0,wn 0,wn 0,wn 0,wn 0,wn 0,wn 0,wn 0,wn 0,wn 0,wn 0,wn 0,wn 0,wn 0,wn 0,wn 0,wn 0,wn 0,wn 0,wn 0,wn 0,wn 0,wn 0,wn 0,wn 0,wn 0,wn 0,wn 0,wn 0,wn 0,wn 0,.bool false,.int .i64 0,.int .i64 0,.bool false],43)] from Nw2.out.new hgv (Nat.le_of_eq hx) hh)
 clear hx hx2 hgv hh Nw2
 refine sB rfl 43 (.tmp 1) (.tmp 9) rfl cx (by kernel_rfl) _ _ (ac k.c) (by kernel_rfl) (Nw3.out.at 0 rfl) (by rw [ac_size]; kernel_rfl) (by rw [ac_size]; rfl) (ac_one _) ?_
 intro w4 hw hb hs
 have Nw4:=Hd (Nw3.out.store 0 rfl hb hs hw)
 clear hw hb hs Nw3
 refine pL rfl (.int .i64 0) (fun u=>by kernel_rfl) ?_
 refine wpList_nil ?_
 try simp only [Act.put,s_,t_,u_,v_,x_,y_]
 go_upto_region 2 with (fail)
 refine wp_region_lit ?_
 refine pL rfl (.pointer (some ⟨cx,28,none⟩)) (fun u=>by kernel_rfl) ?_
 refine wpN_load rfl (.tmp 12) rfl cx 28 (by kernel_rfl) (Nw4.out.at 0 rfl) k.c.n (ac_n _) ?_
 refine pL rfl (.pointer (some ⟨cx,37,none⟩)) (fun u=>by kernel_rfl) ?_
 refine lS rfl 41 (.tmp 14) rfl cx 37 19 (by kernel_rfl) _ _ (gpt k 1) _ _ (Nw4.out.at 0 rfl) Tryz.underlying41 rfl (by kernel_rfl) (gpt_size _ _) (fun j hj=>by rw [gpt_g]; exact ac_g _ j hj) ?_
 refine fL rfl 24 (.func 24) #[.const (.int .i64 13),.tmp 13,.tmp 15] #[3,27,41] rfl #[] #[.int .i64 13,.agg (nc k.c.n),.agg (gpt k 1)] (by kernel_rfl) (by kernel_rfl) (fun u=>cE _ _ _ _ u Tryz.func24 (by kernel_rfl) (by kernel_rfl)) (.tuple #[.agg (ptc 0 0 true),.int .i64 0]) ((by have h:=affine_mul k k.c.n 1 w4 HN9.out; rw [HINF.out,← HI.out] at h; exact h)) (fun w5 hb=>?_)
 have Nw5:=Hd (Nw4.out.grow hb)
 clear hb Nw4
 refine pL rfl (.tuple #[.agg (ptc 0 0 true),.int .i64 0]) (fun u=>by kernel_rfl) ?_
 refine pL rfl (.agg (ptc 0 0 true)) (fun u=>by kernel_rfl) ?_
 refine pL rfl (.int .i64 0) (fun u=>by kernel_rfl) ?_
 refine nL rfl 41 rfl (.agg (ptc 0 0 false)) (by rw [ptc_zero]; kernel_rfl) ?_
 intro px w6 hx hx2 hgv hh
 have Nw6:=Hd (show Mem w w6 [(cx,ac k.c,43),(px,ptc 0 0 false,41)] from Nw5.out.new hgv (Nat.le_of_eq hx) hh)
 clear hx hx2 hgv hh Nw5
 refine sB rfl 41 (.tmp 3) (.tmp 17) rfl px (by kernel_rfl) _ _ (ptc 0 0 true) (by kernel_rfl) (Nw6.out.at 1 rfl) (by rw [pS]; kernel_rfl) (by simp only [pS]) (ptc_one _ _ _) ?_
 intro w7 hw hb hs
 have Nw7:=Hd (Nw6.out.store 1 rfl hb hs hw)
 clear hw hb hs Nw6
 refine pL rfl (.int .i64 0) (fun u=>by kernel_rfl) ?_
 refine wpList_nil ?_
 try simp only [Act.put,s_,t_,u_,v_,x_,y_]
 go_upto_region 3 with (fail)
 refine wp_region_lit ?_
 refine fL rfl 8 (.func 8) #[.const (.int .u64 1)] #[24] rfl #[] #[.int .u64 1] (by kernel_rfl) (by kernel_rfl) (fun u=>cE _ _ _ _ u Tryz.func8 (by kernel_rfl) (by kernel_rfl)) (.agg (nc 1)) ((by exact law_one 1 w7 (by decide))) (fun w8 hb=>?_)
 have Nw8:=Hd (Nw7.out.grow hb)
 clear hb Nw7
 refine fL rfl 25 (.func 25) #[.const (.pointer none),.const (.int .i64 13),.tmp 20] #[69,3,27] rfl #[] #[.pointer none,.int .i64 13,.agg (nc 1)] (by kernel_rfl) (by kernel_rfl) (fun u=>cE _ _ _ _ u Tryz.func25 (by kernel_rfl) (by kernel_rfl)) (.tuple #[.agg (gpt k 1),.int .i64 0]) ((by have h:=base_mul k 1 w8 HN1.out; rw [← HI.out] at h; exact h)) (fun w9 hb=>?_)
 have Nw9:=Hd (Nw8.out.grow hb)
 clear hb Nw8
 refine pL rfl (.tuple #[.agg (gpt k 1),.int .i64 0]) (fun u=>by kernel_rfl) ?_
 refine pL rfl (.agg (gpt k 1)) (fun u=>by kernel_rfl) ?_
 refine pL rfl (.int .i64 0) (fun u=>by kernel_rfl) ?_
 refine nL rfl 41 rfl (.agg (ptc 0 0 false)) (by rw [ptc_zero]; kernel_rfl) ?_
 intro qx w10 hx hx2 hgv hh
 have Nw10:=Hd (show Mem w w10 [(cx,ac k.c,43),(px,ptc 0 0 true,41),(qx,ptc 0 0 false,41)] from Nw9.out.new hgv (Nat.le_of_eq hx) hh)
 clear hx hx2 hgv hh Nw9
 refine sB rfl 41 (.tmp 5) (.tmp 22) rfl qx (by kernel_rfl) _ _ (gpt k 1) (by kernel_rfl) (Nw10.out.at 2 rfl) (by rw [gpt_size]; kernel_rfl) (by simp only [gpt_size,pS]) (gpt_one _ _) ?_
 intro w11 hw hb hs
 have Nw11:=Hd (Nw10.out.store 2 rfl hb hs hw)
 clear hw hb hs Nw10
 refine pL rfl (.int .i64 0) (fun u=>by kernel_rfl) ?_
 refine wpList_nil ?_
 try simp only [Act.put,s_,t_,u_,v_,x_,y_]
 go_upto_region 4 with (fail)
 refine wp_region_lit ?_
 refine pL rfl (.int .i64 0) (fun u=>by kernel_rfl) ?_
 refine fL rfl 11 (.func 11) #[.tmp 24] #[30] rfl #[] #[.int .i64 0] (by kernel_rfl) (by kernel_rfl) (fun u=>cE _ _ _ _ u Tryz.func11 (by kernel_rfl) (by kernel_rfl)) (.int .i64 0) (law_num 0 w11) (fun w12 hb=>?_)
 have Nw12:=Hd (Nw11.out.grow hb)
 clear hb Nw11
 refine pL rfl (.bool true) (fun u=>by kernel_rfl) ?_
 refine pL rfl (.bool true) (fun u=>by kernel_rfl) ?_
 try simp only [Act.put,s_,t_,u_,v_,x_,y_]
 refine wL (by kernel_rfl) (.int .i64 0) (fun u=>by kernel_rfl) ?_
 try simp only [Act.put,s_,t_,u_,v_,x_,y_]
 refine wpList_fnG (by kernel_rfl) _ _ _ _ rfl #[] #[.int .i64 0] (by kernel_rfl) (by kernel_rfl) (fun u=>cE _ _ _ _ u Tryz.func11 (by kernel_rfl) (by kernel_rfl)) (.int .i64 0) (law_num 0 w12) (fun w13 hb=>?_)
 have Nw13:=Hd (Nw12.out.grow hb)
 clear hb Nw12
 try simp only [Act.put,s_,t_,u_,v_,x_,y_]
 refine wL (by kernel_rfl) (.bool true) (fun u=>by kernel_rfl) ?_
 try simp only [Act.put,s_,t_,u_,v_,x_,y_]
 refine pL rfl (.bool true) (fun u=>by kernel_rfl) ?_
 refine pL rfl (.bool true) (fun u=>by kernel_rfl) ?_
 try simp only [Act.put,s_,t_,u_,v_,x_,y_]
 refine wL (by kernel_rfl) (.pointer (some ⟨px,18,none⟩)) (fun u=>by kernel_rfl) ?_
 try simp only [Act.put,s_,t_,u_,v_,x_,y_]
 refine wpList_cellG (by kernel_rfl) 4 (.tmp 33) rfl px 18 (by kernel_rfl) (.bool true) _ Tryz.underlying4 rfl ((cO (Nw13.out.at 1 rfl) 18).trans (ptc_inf 0 0 true)) ?_
 try simp only [Act.put,s_,t_,u_,v_,x_,y_]
 refine pL rfl (.bool true) (fun u=>by kernel_rfl) ?_
 refine pL rfl (.bool true) (fun u=>by kernel_rfl) ?_
 try simp only [Act.put,s_,t_,u_,v_,x_,y_]
 refine wL (by kernel_rfl) (.int .i64 0) (fun u=>by kernel_rfl) ?_
 try simp only [Act.put,s_,t_,u_,v_,x_,y_]
 refine wpList_fnG (by kernel_rfl) _ _ _ _ rfl #[] #[.int .i64 0] (by kernel_rfl) (by kernel_rfl) (fun u=>cE _ _ _ _ u Tryz.func11 (by kernel_rfl) (by kernel_rfl)) (.int .i64 0) (law_num 0 w13) (fun w14 hb=>?_)
 have Nw14:=Hd (Nw13.out.grow hb)
 clear hb Nw13
 try simp only [Act.put,s_,t_,u_,v_,x_,y_]
 refine wL (by kernel_rfl) (.bool true) (fun u=>by kernel_rfl) ?_
 try simp only [Act.put,s_,t_,u_,v_,x_,y_]
 refine pL rfl (.bool true) (fun u=>by kernel_rfl) ?_
 refine pL rfl (.bool true) (fun u=>by kernel_rfl) ?_
 try simp only [Act.put,s_,t_,u_,v_,x_,y_]
 refine wpList_segG (by kernel_rfl) 41 (.tmp 5) rfl qx 0 19 (by kernel_rfl) (gpt k 1) (Nw14.out.at 2 rfl) _ Tryz.underlying41 rfl (by kernel_rfl) (gpt_size _ _) (fun j hj=>by rw [Nat.zero_add]) ?_
 try simp only [Act.put,s_,t_,u_,v_,x_,y_]
 refine wL (by kernel_rfl) (.pointer (some ⟨cx,37,none⟩)) (fun u=>by kernel_rfl) ?_
 try simp only [Act.put,s_,t_,u_,v_,x_,y_]
 refine wpList_segG (by kernel_rfl) 41 (.tmp 43) rfl cx 37 19 (by kernel_rfl) (gpt k 1) (Nw14.out.at 0 rfl) _ Tryz.underlying41 rfl (by kernel_rfl) (gpt_size _ _) (fun j hj=>by rw [gpt_g]; exact ac_g _ j hj) ?_
 try simp only [Act.put,s_,t_,u_,v_,x_,y_]
 refine wL (by kernel_rfl) (.bool true) (fun u=>by exact run_eqp _ _ _ rfl k 1 1 (by kernel_rfl) (by kernel_rfl) true (decide_eq_true rfl) u) ?_
 try simp only [Act.put,s_,t_,u_,v_,x_,y_]
 refine pL rfl (.bool true) (fun u=>by kernel_rfl) ?_
 refine pL rfl (.bool true) (fun u=>by kernel_rfl) ?_
 try simp only [Act.put,s_,t_,u_,v_,x_,y_]
 refine wL (by kernel_rfl) (.pointer (some ⟨cx,37,none⟩)) (fun u=>by kernel_rfl) ?_
 try simp only [Act.put,s_,t_,u_,v_,x_,y_]
 refine wL (by kernel_rfl) (.pointer (some ⟨cx,55,none⟩)) (fun u=>by kernel_rfl) ?_
 try simp only [Act.put,s_,t_,u_,v_,x_,y_]
 refine wpList_cellG (by kernel_rfl) 4 (.tmp 49) rfl cx 55 (by kernel_rfl) (.bool false) _ Tryz.underlying4 rfl ((cO (Nw14.out.at 0 rfl) 55).trans (ac_inf _)) ?_
 try simp only [Act.put,s_,t_,u_,v_,x_,y_]
 refine wL (by kernel_rfl) (.bool true) (fun u=>by kernel_rfl) ?_
 try simp only [Act.put,s_,t_,u_,v_,x_,y_]
 refine pL rfl (.bool true) (fun u=>by kernel_rfl) ?_
 refine pL rfl (.bool true) (fun u=>by kernel_rfl) ?_
 refine wpList_nil ?_
 try simp only [Act.put,s_,t_,u_,v_,x_,y_]
 go_wp2_with (fail)
 go_ret
 exact ⟨rfl,Nw14.out.below⟩
end Go.Proofs.YtkoonhiplicbkaaGreat.Cw
namespace Go.Proofs.YtkoonhiplicbkaaGreat.Cw
def mq (W less s:Nat):Nat:=s%W*less%W
def mstep (W m less b t x:Nat):Nat:=(t+x*b+mq W less (t+x*b)*m) / W
def mon (W m less b a:Nat):Nat→Nat
 | 0=>0
 | i+1=>mstep W m less b (mon W m less b a i) (a / W ^ i%W)
theorem mq_lt {W less s:Nat} (hW:0<W):mq W less s<W:=Nat.mod_lt _ hW
theorem mq_dvd {W m less s:Nat} (h:(less*m+1)%W=0):(s+mq W less s*m)%W=0:=by
 unfold mq
 rw [Nat.add_mod,Nat.mul_mod (s%W*less%W),Nat.mod_mod,← Nat.mul_mod,Nat.mul_assoc,Nat.mul_mod,Nat.mod_mod,← Nat.mul_mod,← Nat.add_mod]
 rw [show s+s*(less*m)=s*(less*m+1) by rw [Nat.mul_add,Nat.mul_one,Nat.add_comm],Nat.mul_mod,h,Nat.mul_zero,Nat.zero_mod]
theorem mstep_mul {W m less b t x:Nat} (h:(less*m+1)%W=0):mstep W m less b t x*W=t+x*b+mq W less (t+x*b)*m:=by
 unfold mstep
 exact Nat.div_mul_cancel (Nat.dvd_of_mod_eq_zero (mq_dvd h))
theorem mstep_lt {W m less b t x:Nat} (hW:0<W) (hx:x<W) (ht:t<m+b):mstep W m less b t x<m+b:=by
 unfold mstep
 rw [Nat.div_lt_iff_lt_mul hW]
 have h1:x*b≤(W - 1)*b:=Nat.mul_le_mul_right _ (by omega)
 have h2:mq W less (t+x*b)*m≤(W - 1)*m:=Nat.mul_le_mul_right _ (by have:=mq_lt (less:=less) (s:=t+x*b) hW; omega)
 obtain ⟨v,rfl⟩:∃ v,W=v+1:=⟨W - 1,by omega⟩
 rw [Nat.add_sub_cancel] at h1 h2
 have h3:(m+b)*(v+1)=v*b+v*m+(m+b):=by rw [Nat.mul_add,Nat.mul_one,Nat.add_mul,Nat.mul_comm m,Nat.mul_comm b]; omega
 rw [h3]
 omega
theorem mon_lt {W m less b a:Nat} (hW:0<W) (hm:0<m) (i:Nat):mon W m less b a i<m+b:=by
 induction i with
 | zero=>exact Nat.lt_of_lt_of_le hm (Nat.le_add_right _ _)
 | succ i ih=>exact mstep_lt hW (Nat.mod_lt _ hW) ih
theorem mon_mod {W m less b a:Nat} (hW:0<W) (h:(less*m+1)%W=0) (i:Nat):∃ q,mon W m less b a i*W ^ i=a%W ^ i*b+q*m:=by
 induction i with
 | zero=>exact ⟨0,by simp [mon,Nat.mod_one]⟩
 | succ i ih=>
  obtain ⟨q,hq⟩:=ih
  refine ⟨q+mq W less (mon W m less b a i+a / W ^ i%W*b)*W ^ i,?_⟩
  have e:mon W m less b a (i+1)*W=mon W m less b a i+a / W ^ i%W*b+mq W less (mon W m less b a i+a / W ^ i%W*b)*m:=mstep_mul h
  have e2:a%W ^ (i+1)=a%W ^ i+W ^ i*(a / W ^ i%W):=by rw [Nat.pow_succ,Nat.mod_mul]
  rw [e2,Nat.pow_succ,Nat.mul_comm (W ^ i) W,← Nat.mul_assoc,e]
  generalize mq W less _=z
  generalize a / W ^ i%W=x at *
  generalize mon W m less b a i=t at *
  generalize a%W ^ i=y at *
  generalize W ^ i=p at *
  have:t*p+x*b*p+z*m*p=y*b+q*m+x*b*p+z*m*p:=by rw [hq]
  rw [Nat.add_mul,Nat.add_mul,this]
  grind
def mraw (W m less n a b:Nat):Nat:=if m≤mon W m less b a n then mon W m less b a n - m else mon W m less b a n
theorem mraw_lt {W m less n a b:Nat} (hW:0<W) (hm:0<m) (hb:b<m):mraw W m less n a b<m:=by
 have h:=mon_lt (less:=less) (b:=b) (a:=a) hW hm n
 unfold mraw
 split <;> omega
theorem mraw_mod {W m less n a b:Nat} (hW:0<W) (h:(less*m+1)%W=0) (ha:a<W ^ n):mraw W m less n a b*W ^ n%m=a*b%m:=by
 obtain ⟨q,hq⟩:=mon_mod (b:=b) (a:=a) hW h n
 rw [Nat.mod_eq_of_lt ha] at hq
 have h1:mon W m less b a n*W ^ n%m=a*b%m:=by rw [hq,Nat.add_mul_mod_self_right]
 unfold mraw
 split
 ·next hle=>
  rw [← h1]
  obtain ⟨r,hr⟩:∃ r,mon W m less b a n=r+m:=⟨mon W m less b a n - m,by omega⟩
  rw [hr,Nat.add_sub_cancel,Nat.add_mul,Nat.mul_comm m,Nat.add_mul_mod_self_right]
 ·exact h1
def newt (m x:Nat):Nat:=x*((2+(18446744073709551616 - m*x%18446744073709551616))%18446744073709551616)%18446744073709551616
theorem newt_dvd {m x:Nat} {D E:Int} (hE:E∣D*D) (hW:E∣18446744073709551616) (h:D∣(m:Int)*x - 1):E∣(m:Int)*(newt m x:Nat) - 1:=by
 obtain ⟨t,ht⟩:=h
 obtain ⟨s,hs⟩:=hE
 obtain ⟨v,hv⟩:=hW
 have h1:∃ p:Int,((newt m x:Nat):Int)=x*(2 - m*x)+18446744073709551616*p:=by
  unfold newt
  generalize hy:m*x%18446744073709551616=y
  have hyl:y<18446744073709551616:=by rw [← hy]; exact Nat.mod_lt _ (by decide)
  obtain ⟨q,hq⟩:∃ q:Nat,m*x=y+18446744073709551616*q:=⟨m*x / 18446744073709551616,by have:=Nat.mod_add_div (m*x) 18446744073709551616; omega⟩
  obtain ⟨z,hz⟩:∃ z:Nat,z=(2+(18446744073709551616 - y))%18446744073709551616:=⟨_,rfl⟩
  obtain ⟨c,hc⟩:∃ c:Int,(z:Int)=2 - y+18446744073709551616*c:=by
   refine ⟨1 - ((2+(18446744073709551616 - y)) / 18446744073709551616:Nat),?_⟩
   omega
  rw [← hz]
  obtain ⟨b,hb⟩:∃ b:Int,((x*z%18446744073709551616:Nat):Int)=x*z+18446744073709551616*b:=by
   refine ⟨-((x*z / 18446744073709551616:Nat):Int),?_⟩
   have:=Nat.mod_add_div (x*z) 18446744073709551616
   have h2:((x*z:Nat):Int)=(x:Int)*z:=Int.natCast_mul ..
   generalize x*z=w at *
   omega
  have hq2:(m:Int)*x=y+18446744073709551616*q:=by rw [← Int.natCast_mul,hq]; omega
  refine ⟨b+x*q+x*c,?_⟩
  rw [hb,hc]
  generalize (x:Int)=X at *
  generalize (m:Int)=M at *
  generalize (y:Int)=Y at *
  generalize (q:Int)=Q at *
  clear hb hc hz hq hy
  have:Y=M*X - 18446744073709551616*Q:=by omega
  subst this
  grind
 obtain ⟨p,hp⟩:=h1
 rw [hp]
 refine ⟨v*m*p - s*t*t,?_⟩
 generalize (m:Int)=M at *
 generalize (x:Int)=X at *
 generalize ((newt _ _:Nat):Int)=N at *
 clear hp
 rw [hv]
 grind
def mless (m:Nat):Nat:=(18446744073709551616 - newt m (newt m (newt m (newt m (newt m (m%18446744073709551616)))))%18446744073709551616)%18446744073709551616
theorem mless_ok {m:Nat} (h:m%2=1):(mless m*m+1)%18446744073709551616=0:=by
 have h0:∃ y,y=m%18446744073709551616∧(8:Int)∣(m:Int)*y - 1:=by
  refine ⟨_,rfl,?_⟩
  have h8:∀ r:Fin 8,r.val%2=1→(r.val*r.val)%8=1:=by decide
  have h1:=h8 ⟨m%8,Nat.mod_lt _ (by decide)⟩ (by show m%8%2=1; omega)
  have h2:m*(m%18446744073709551616)%8=1:=by
   rw [Nat.mul_mod,Nat.mod_mod_of_dvd m (show 8∣18446744073709551616 by decide)]; exact h1
  have h3:((m*(m%18446744073709551616):Nat):Int)=(m:Int)*((m%18446744073709551616:Nat):Int):=Int.natCast_mul ..
  rw [← h3]
  generalize m*(m%18446744073709551616)=w at *
  omega
 obtain ⟨y,hy,hd⟩:=h0
 have d1:=newt_dvd (D:=8) (E:=64) ⟨1,by decide⟩ ⟨288230376151711744,by decide⟩ hd
 have d2:=newt_dvd (D:=64) (E:=4096) ⟨1,by decide⟩ ⟨4503599627370496,by decide⟩ d1
 have d3:=newt_dvd (D:=4096) (E:=16777216) ⟨1,by decide⟩ ⟨1099511627776,by decide⟩ d2
 have d4:=newt_dvd (D:=16777216) (E:=281474976710656) ⟨1,by decide⟩ ⟨65536,by decide⟩ d3
 have d5:=newt_dvd (D:=281474976710656) (E:=18446744073709551616) ⟨4294967296,by decide⟩ ⟨1,by decide⟩ d4
 unfold mless
 rw [← hy]
 generalize newt m (newt m (newt m (newt m (newt m y))))=z at *
 clear d1 d2 d3 d4 hd hy h
 obtain ⟨q,hq⟩:=d5
 have h3:((m*z:Nat):Int)=(m:Int)*z:=Int.natCast_mul ..
 rw [← h3] at hq
 obtain ⟨u,hu⟩:∃ u,u=(18446744073709551616 - z%18446744073709551616)%18446744073709551616:=⟨_,rfl⟩
 rw [← hu]
 obtain ⟨c,hc⟩:∃ c:Nat,u+z=18446744073709551616*c:=⟨(u+z) / 18446744073709551616,by omega⟩
 have h4:u*m+m*z=18446744073709551616*(c*m):=by rw [Nat.mul_comm m z,← Nat.add_mul,hc,Nat.mul_assoc]
 generalize u*m=a at *
 generalize m*z=b at *
 generalize c*m=e at *
 clear hu hc h3
 omega
end Go.Proofs.YtkoonhiplicbkaaGreat.Cw
namespace Go.Proofs.YtkoonhiplicbkaaGreat.Cw
theorem mun {W m less:Nat} (hW:0<W) (h:(less*m+1)%W=0):∀ n,∃ q:Nat,W ^ n*q%m=1%m
 | 0=>⟨1,by simp⟩
 | n+1=>by
  obtain ⟨q,hq⟩:=mun hW h n
  obtain ⟨u,hu⟩:∃ u,less*m+1=W*u:=⟨(less*m+1) / W,by have:=Nat.div_add_mod (less*m+1) W; omega⟩
  refine ⟨u*q,?_⟩
  have e:W ^ (n+1)*(u*q)=(W*u)*(W ^ n*q):=by rw [Nat.pow_succ]; simp only [Nat.mul_assoc,Nat.mul_left_comm]
  rw [e,← hu,Nat.mul_mod,hq,← Nat.mul_mod,Nat.mul_one,Nat.add_comm,Nat.add_mul_mod_self_right]
theorem mcancel {W m less n y z:Nat} (hW:0<W) (h:(less*m+1)%W=0) (hy:y<m) (hz:z<m) (e:y*W ^ n%m=z*W ^ n%m):y=z:=by
 obtain ⟨q,hq⟩:=mun hW h n
 have h1:∀ t,t<m→t*W ^ n*q%m=t:=fun t ht=>by
  rw [Nat.mul_assoc,Nat.mul_mod,hq,← Nat.mul_mod,Nat.mul_one,Nat.mod_eq_of_lt ht]
 rw [← h1 y hy,← h1 z hz,Nat.mul_mod,e,← Nat.mul_mod]
theorem mul_plain {W m less n a b:Nat} (hW:0<W) (h:(less*m+1)%W=0) (hm:m<W ^ n) (ha:a<m) (hb:b<m):mraw W m less n (mraw W m less n a (W ^ n*W ^ n%m)) b=a*b%m:=by
 have hm0:0<m:=by omega
 have hr:=Nat.mod_lt (W ^ n*W ^ n) hm0
 have l1:=mraw_lt (less:=less) (n:=n) (a:=a) hW hm0 hr
 have m1:=mraw_mod (less:=less) (n:=n) (a:=a) (b:=W ^ n*W ^ n%m) hW h (by omega)
 have m2:=mraw_mod (less:=less) (n:=n) (a:=mraw W m less n a (W ^ n*W ^ n%m)) (b:=b) hW h (by omega)
 refine mcancel (n:=n) hW h (mraw_lt hW hm0 hb) (Nat.mod_lt _ hm0) ?_
 rw [m2]
 refine mcancel (n:=n) hW h (Nat.mod_lt _ hm0) (Nat.mod_lt _ hm0) ?_
 rw [Nat.mod_mul_mod,Nat.mod_mul_mod]
 have e1:mraw W m less n a (W ^ n*W ^ n%m)*b*W ^ n%m=(mraw W m less n a (W ^ n*W ^ n%m)*W ^ n)%m*b%m:=by rw [Nat.mod_mul_mod,Nat.mul_right_comm]
 rw [e1,m1,Nat.mod_mul_mod]
 have e2:a*(W ^ n*W ^ n%m)*b=(W ^ n*W ^ n%m)*(a*b):=by simp only [Nat.mul_comm,Nat.mul_left_comm,Nat.mul_assoc]
 have e3:a*b%m*W ^ n*W ^ n=a*b%m*(W ^ n*W ^ n):=Nat.mul_assoc _ _ _
 rw [e2,e3,Nat.mod_mul_mod,Nat.mod_mul_mod,Nat.mul_comm (a*b)]
theorem inv_plain {W m less n a y t:Nat} (hW:0<W) (h:(less*m+1)%W=0) (hm:m<W ^ n) (h1:1<m) (ha:a<m) (hy:y<m) (hya:y*a%m=1) (ht:t<m) (hta:t*mraw W m less n a (W ^ n*W ^ n%m)%m=1) :
  mraw W m less n (mraw W m less n (mraw W m less n t (W ^ n*W ^ n%m)) (W ^ n*W ^ n%m)) 1=y:=by
 have hm0:0<m:=by omega
 have hr:=Nat.mod_lt (W ^ n*W ^ n) hm0
 have hone:W ^ n*W ^ n%m=W ^ n*W ^ n%m:=rfl
 obtain ⟨R,hR⟩:∃ R,R=W ^ n:=⟨_,rfl⟩
 have step:∀ x,x<m→mraw W m less n x (R*R%m)<m∧mraw W m less n x (R*R%m)=x*R%m:=fun x hx=>by
  rw [← hR] at hr hm
  have l:=mraw_lt (less:=less) (n:=n) (a:=x) hW hm0 hr
  refine ⟨l,mcancel (n:=n) hW h l (Nat.mod_lt _ hm0) ?_⟩
  rw [mraw_mod hW h (by omega),Nat.mod_mul_mod,← hR,Nat.mul_mod_mod,Nat.mul_assoc]
 rw [← hR] at hta ⊢
 rw [(step a ha).2] at hta
 have s1:=step t ht
 have s2:=step _ s1.1
 have lz:=mraw_lt (W:=W) (m:=m) (less:=less) (n:=n) (a:=mraw W m less n (mraw W m less n t (R*R%m)) (R*R%m)) hW hm0 h1
 have mz:=mraw_mod (W:=W) (m:=m) (less:=less) (n:=n) (a:=mraw W m less n (mraw W m less n t (R*R%m)) (R*R%m)) (b:=1) hW h (by omega)
 obtain ⟨z,hz⟩:∃ z,z=mraw W m less n (mraw W m less n (mraw W m less n t (R*R%m)) (R*R%m)) 1:=⟨_,rfl⟩
 rw [← hz] at lz mz ⊢
 rw [Nat.mul_one,s2.2,s1.2,Nat.mod_mod,← hR] at mz
 have ez:z=t*R%m:=mcancel (n:=n) hW h lz (Nat.mod_lt _ hm0) (by rw [← hR,mz])
 have eza:z*a%m=1:=by
  rw [ez,Nat.mod_mul_mod,← hta,Nat.mul_mod_mod,Nat.mul_assoc,Nat.mul_comm R a]
 have e1:z*(y*a%m)%m=z:=by rw [hya,Nat.mul_one,Nat.mod_eq_of_lt lz]
 have e2:y*(z*a%m)%m=y:=by rw [eza,Nat.mul_one,Nat.mod_eq_of_lt hy]
 have e3:z*(y*a%m)%m=y*(z*a%m)%m:=by rw [Nat.mul_mod_mod,Nat.mul_mod_mod,Nat.mul_left_comm]
 rw [e1,e2] at e3
 exact e3
end Go.Proofs.YtkoonhiplicbkaaGreat.Cw
namespace Go.Proofs.YtkoonhiplicbkaaGreat.Cw
open Go Go.RowKit
def rX (a b k:Nat):Nat:=a*(b%pw k)
theorem rX_zero (a b:Nat):rX a b 0=0:=by unfold rX; rw [mod_pw_zero,Nat.mul_zero]
theorem rX_succ (a b k:Nat):rX a b (k+1)=rX a b k+pw k*(a*dig b k):=by
 unfold rX
 rw [mod_pw_succ,Nat.mul_add,Nat.mul_left_comm a (pw k)]
theorem rX_cc (T a b k:Nat) (ha:a<18446744073709551616):cc T (rX a b k) k<18446744073709551616:=by
 unfold cc rX
 apply Nat.div_lt_of_lt_mul
 have h1:=Nat.mod_lt T (pw_pos k)
 have h2:a*(b%pw k)≤18446744073709551615*pw k:=Nat.mul_le_mul (by omega) (Nat.le_of_lt (Nat.mod_lt _ (pw_pos k)))
 omega
theorem macr_high2 (p t c:Nat) (hp:p≤18446744073709551615*18446744073709551615) (ht:t<18446744073709551616) (hc:c<18446744073709551616) :
  (p / 18446744073709551616+(p%18446744073709551616+c) / 18446744073709551616+(t+(p+c)%18446744073709551616) / 18446744073709551616)%18446744073709551616=(t+p+c) / 18446744073709551616:=by omega
theorem upd_two (V T n d1 d2:Nat) (h1:d1=dig V n) (h2:d2=dig V (n+1)) (hV:V<pw (n+2)) (hT:T<pw (n+2)):upd (upd (mixd V T n) n d1) (n+1) d2=dig V:=by
 subst h1 h2
 funext j
 simp only [upd,mixd]
 by_cases e1:j=n+1
 ·rw [if_pos e1,e1]
 ·rw [if_neg e1]
  by_cases e2:j=n
  ·rw [if_pos e2,e2]
  ·rw [if_neg e2]
   by_cases e3:j<n
   ·rw [if_pos e3]
   ·have hj:n+2≤j:=by omega
    rw [if_neg e3,dig_high _ (n+2) hV j hj,dig_high _ (n+2) hT j hj]
theorem cc_dig0 (T X s:Nat):dig (T+X) s=(dig T s+cc T X s)%18446744073709551616:=by
 have h:=cc_dig T X s 0
 rw [Nat.mul_zero,Nat.add_zero,Nat.add_zero] at h
 exact h
theorem cc_succ0 (T X s:Nat):cc T X (s+1)=(dig T s+cc T X s) / 18446744073709551616:=by
 have h:=cc_succ T X s 0
 rw [Nat.mul_zero,Nat.add_zero,Nat.add_zero] at h
 exact h
theorem rX_end (T a b n:Nat) (h:T+rX a b n<pw (n+2)) :
  upd (upd (mixd (T+rX a b n) T n) n ((dig T n+cc T (rX a b n) n)%18446744073709551616)) (n+1) ((dig T (n+1)+(dig T n+cc T (rX a b n) n) / 18446744073709551616)%18446744073709551616)=dig (T+rX a b n):=by
 rw [← cc_dig0,← cc_succ0,← cc_dig0]
 exact upd_two _ T n _ _ rfl rfl h (Nat.lt_of_le_of_lt (Nat.le_add_right _ _) h)
theorem dig_down (V j:Nat):dig (V / 18446744073709551616) j=dig V (j+1):=by
 unfold dig
 rw [Nat.div_div_eq_div_mul,Nat.mul_comm 18446744073709551616,← pw_succ]
theorem shift_all (V:Nat) (h:V<pw 11):fa wn 11 (upd (fun j=>if j<10 then dig V (j+1) else dig V j) 10 0)=fa wn 11 (dig (V / 18446744073709551616)):=fa_ext _ _ _ _ fun j hj=>by
 rw [dig_down]
 by_cases h1:j=10
 ·subst h1; rw [upd_at,dig_high V 11 h 11 (by omega)]
 ·rw [upd_ne _ _ _ _ h1,if_pos (by omega)]
def putd (f:Nat→Nat) (off n:Nat) (h:Nat→Nat):Nat→Nat:=fun j=>if off≤j∧j<off+n then h (j - off) else f j
theorem fa_splice (N:Nat) (f:Nat→Nat) (off n:Nat) (h:Nat→Nat) (hf:off+n≤N) :
  ((fa wn N f).toList.take off++(((List.range n).map fun j=>wn (h j))++(fa wn N f).toList.drop (off+((List.range n).map fun j=>wn (h j)).length))).toArray=fa wn N (putd f off n h):=by
 have e:(fa wn N (putd f off n h))=(((List.range N).map fun i=>wn (putd f off n h i))).toArray:=rfl
 rw [e]
 congr 1
 rw [fa_list]
 apply List.ext_getElem?
 intro j
 simp only [List.getElem?_append,List.getElem?_take,List.getElem?_drop,List.getElem?_map,List.length_take,List.length_map,List.length_range,List.getElem?_range']
 by_cases h1:j<off
 ·rw [if_pos (by omega),if_pos h1]
  rw [List.getElem?_range (by omega)]
  simp [putd,show ¬ off≤j by omega]
 ·rw [if_neg (by omega)]
  by_cases h2:j<off+n
  ·rw [if_pos (by omega),List.getElem?_range (by omega),List.getElem?_range (by omega)]
   simp [putd,show off≤j by omega,h2,show min off N=off by omega]
  ·rw [if_neg (by omega)]
   by_cases h3:j<N
   ·rw [List.getElem?_range (by omega),List.getElem?_range h3]
    simp [putd,h2]
    congr 2
    omega
   ·rw [List.getElem?_eq_none (by simp; omega),List.getElem?_eq_none (by simp; omega),Option.map_none,Option.map_none]
end Go.Proofs.YtkoonhiplicbkaaGreat.Cw
set_option maxHeartbeats 1000000
set_option maxRecDepth 100000
namespace Go.Proofs.YtkoonhiplicbkaaGreat.Cw
open Go Go.RowKit
attribute [local go_sem ↓ high] wn_add wn_sub wn_mul wn_eql wn_neq wn_lss wn_gtr wn_cells wRS wn_guard lit0 lit1 run_Add64
attribute [local go_sem high] wn_match wRS wn_add wn_sub wn_mul wn_eql wn_neq wn_lss wn_gtr
theorem mont_round (xg tg bg bo a b T n:Nat) (X B:Array Value) (tx tb:TypeId) (fx fb:Nat × Nat) (w:World) (hn:n≤9) (ha:a<18446744073709551616)
  (hx:w.heap[xg]?=some (.cells X tx fx)) (hxn:X[9]?=some (.int .i64 (n:Int))) (hb:w.heap[bg]?=some (.cells B tb fb)) (hbd:∀ j,j<n→B[bo+j]?=some (wn (dig b j)))
  (ht:w.heap[tg]?=some (.cells (fa wn 11 (dig T)) 223 (0,0))) (h1:xg≠tg) (h2:bg≠tg) (hT:T+rX a b n<pw (n+2)) :
  Calls Tryz.prog 135 #[.pointer (some ⟨xg,0,none⟩),.pointer (some ⟨tg,0,none⟩),wn a,.pointer (some ⟨bg,bo,none⟩)] w fun e w'=>e=.returned (.tuple #[])∧w'.heap[tg]?=some (.cells (fa wn 11 (dig (T+rX a b n))) 223 (0,0))∧But tg w w'∧w'.heap.size=w.heap.size:=by
 have HX:=Hd hx
 have HB:=Hd hb
 have HT:=Hd ht
 have HE:=Hd (rX_end T a b n hT)
 have HCC:=Hd (fun k=>rX_cc T a b k ha)
 have HXN:=Hd hxn
 have HBD:=Hd hbd
 have c9:w.cell? ⟨xg,9,none⟩=some (.int .i64 (n:Int)):=by rw [cO hx]; exact hxn
 clear hx hb ht hT hxn hbd
 go_enter Tryz.func135,Tryz.ntmps135
 go_wp2_with (fail)
 clear c9
 go_loopw [18,8] (fun kv cv wr=>∃ k:Nat,k≤n∧kv=.int .i64 k∧cv=wn (cc T (rX a b k) k)∧wr.heap[xg]?=some (.cells X tx fx)∧wr.heap[bg]?=some (.cells B tb fb)∧wr.heap[tg]?=some (.cells (fa wn 11 (mixd (T+rX a b k) T k)) 223 (0,0))∧But tg w wr∧wr.heap.size=w.heap.size) (fun kv _ _=>n - (intOf kv).toNat)
 case atStart=>exact ⟨0,by omega,rfl,by rw [rX_zero,cc_zero]; rfl,HX.out,HB.out,by
  have e:mixd (T+rX a b 0) T 0=dig T:=by rw [rX_zero]; funext j; simp [mixd]
  rw [e]
  exact HT.out,But.refl _ _,rfl⟩
 case round=>
  obtain ⟨k,hk,rfl,rfl,q1,q2,q3,hbr,hsz⟩:=hrel
  have G1:=Hd q1
  have G2:=Hd q2
  have G3:=Hd q3
  have hcl:=HCC.out k
  by_cases hlk:k<n
  ·have c2:wr.cell? ⟨bg,bo+k,none⟩=some (wn (dig b k)):=by rw [cO q2]; exact HBD.out k hlk
   have c3:wr.cell? ⟨tg,k,none⟩=some (wn (dig T k)):=by rw [cO q3,fa_get _ _ _ _ (by omega),mixd_at]
   have f3:=frozen_of q3 k
   have hyl:=dig_lt b k
   have htl:=dig_lt T k
   clear q1 q2 q3
   obtain ⟨p,hp⟩:∃ p,p=a*dig b k:=⟨_,rfl⟩
   have hpl:p≤18446744073709551615*18446744073709551615:=by rw [hp]; exact word_mul _ _ ha hyl
   have hmq:=fun w=>mul64_calls _ _ ha hyl w
   rw [← hp] at hmq
   have HMQ:=Hd hmq
   obtain ⟨c,hc⟩:∃ c,c=cc T (rX a b k) k:=⟨_,rfl⟩
   rw [← hc] at hcl ⊢
   obtain ⟨t,ht⟩:∃ t,t=dig T k:=⟨_,rfl⟩
   rw [← ht] at htl c3
   have hX:=rX_succ a b k
   have e1:=cc_succ T (rX a b k) k (a*dig b k)
   have e2:=cc_dig T (rX a b k) k (a*dig b k)
   have e3:=mixd_step (T+rX a b k) T k (a*dig b k)
   rw [← hp] at hX e1 e2 e3
   rw [← hc,← ht] at e1 e2
   obtain ⟨y,hy⟩:∃ y,y=dig (T+rX a b k+pw k*p) k:=⟨_,rfl⟩
   rw [← hy] at e2 e3
   rw [Nat.add_assoc T,← hX] at e3
   have E1:=Hd e1
   have E2:=Hd e2
   have E3:=Hd e3
   have HX':=Hd hX
   clear hp hmq hc ht hX hy e1 e2 e3
   go_wp2_with (first | (go_at_call 99; refine (HMQ.out _).mono ?_; rintro e w2 ⟨rfl,rfl⟩))
   go_region
   have eL:(t+(p+c))%18446744073709551616=(t+p+c)%18446744073709551616:=by rw [Nat.add_assoc]
   rw [eL,← E2.out]
   have h4:=set_of (w:=wr) G3.out k (wn y)
   rw [fa_set,E3.out] at h4
   have J3:=Hd (show (wr.setCell ⟨tg,k,none⟩ (wn y)).drew.heap[tg]?=_ from h4)
   have J1:=Hd (show (wr.setCell ⟨tg,k,none⟩ (wn y)).drew.heap[xg]?=_ from set_far (w:=wr) G1.out h1 k (wn y))
   have J2:=Hd (show (wr.setCell ⟨tg,k,none⟩ (wn y)).drew.heap[bg]?=_ from set_far (w:=wr) G2.out h2 k (wn y))
   have JB:=Hd (show But tg w (wr.setCell ⟨tg,k,none⟩ (wn y)).drew from (hbr.setCell (.inl rfl) _).drew)
   have JS:=Hd (show (wr.setCell ⟨tg,k,none⟩ (wn y)).drew.heap.size=w.heap.size from (size_set _ _ _).trans hsz)
   have MH:=Hd (macr_high2 p t c hpl htl hcl)
   clear h4 eL hbr c2 c3 f3 hsz
   generalize (wr.setCell ⟨tg,k,none⟩ (wn y)).drew=w3 at J1 J2 J3 JB JS ⊢
   go_wp2_with (fail)
   refine ⟨⟨k+1,by omega,by go_num,?_,J1.out,J2.out,J3.out,JB.out,JS.out⟩,by simp [intOf]; omega⟩
   rw [HX'.out,E1.out,← MH.out]
  ·obtain rfl:k=n:=by omega
   have c3:wr.cell? ⟨tg,k,none⟩=some (wn (dig T k)):=by rw [cO q3,fa_get _ _ _ _ (by omega),mixd_at]
   have m4:mixd (T+rX a b k) T k (k+1)=dig T (k+1):=by unfold mixd; rw [if_neg (by omega)]
   have c4:wr.cell? ⟨tg,k+1,none⟩=some (wn (dig T (k+1))):=by rw [cO q3,fa_get _ _ _ _ (by omega)]; unfold mixd; rw [if_neg (by omega)]
   have f3:=frozen_of q3 k
   have c9:wr.cell? ⟨xg,9,none⟩=some (.int .i64 (k:Int)):=by rw [cO q1]; exact HXN.out
   have htl:=dig_lt T k
   have he:=HE.out
   obtain ⟨c,hc⟩:∃ c,c=cc T (rX a b k) k:=⟨_,rfl⟩
   rw [← hc] at hcl he ⊢
   obtain ⟨t,ht⟩:∃ t,t=dig T k:=⟨_,rfl⟩
   rw [← ht] at htl c3 he
   obtain ⟨t1,ht1⟩:∃ t1,t1=dig T (k+1):=⟨_,rfl⟩
   rw [← ht1] at c4 he m4
   have HE2:=Hd he
   clear q1 q2 q3 hc ht ht1 he
   go_wp2_with (fail)
   go_region
   have h4:=set_of (w:=wr) G3.out k (wn ((t+c)%18446744073709551616))
   rw [fa_set] at h4
   obtain ⟨y,hy⟩:∃ y,y=(t+c)%18446744073709551616:=⟨_,rfl⟩
   obtain ⟨z,hz⟩:∃ z,z=(t+c) / 18446744073709551616:=⟨_,rfl⟩
   have he2:=HE2.out
   rw [← hy] at h4 he2
   rw [← hz] at he2
   rw [← hy,← hz]
   have q3:(wr.setCell ⟨tg,k,none⟩ (wn y)).drew.heap[tg]?=_:=h4
   have q1:(wr.setCell ⟨tg,k,none⟩ (wn y)).drew.heap[xg]?=_:=set_far (w:=wr) G1.out h1 k (wn y)
   have JB:=Hd (show But tg w (wr.setCell ⟨tg,k,none⟩ (wn y)).drew from (hbr.setCell (.inl rfl) _).drew)
   have JS:=Hd (show (wr.setCell ⟨tg,k,none⟩ (wn y)).drew.heap.size=w.heap.size from (size_set _ _ _).trans hsz)
   clear h4 hbr hsz c3 c4 c9 f3 G1 G2 G3 hy hz
   generalize (wr.setCell ⟨tg,k,none⟩ (wn y)).drew=w3 at q1 q3 JB JS ⊢
   have c4:w3.cell? ⟨tg,k+1,none⟩=some (wn t1):=by rw [cO q3,fa_get _ _ _ _ (by omega),upd_ne _ _ _ _ (by omega),m4]
   have f3:=frozen_of q3 (k+1)
   have c9:w3.cell? ⟨xg,9,none⟩=some (.int .i64 (k:Int)):=by rw [cO q1]; exact HXN.out
   have h5:=set_of (w:=w3) q3 (k+1) (wn ((t1+z)%18446744073709551616))
   rw [fa_set,he2] at h5
   have J3:=Hd h5
   have JB2:=Hd (show But tg w (w3.setCell ⟨tg,k+1,none⟩ (wn ((t1+z)%18446744073709551616))) from JB.out.setCell (.inl rfl) _)
   have JS2:=Hd (show (w3.setCell ⟨tg,k+1,none⟩ (wn ((t1+z)%18446744073709551616))).heap.size=w.heap.size from (size_set _ _ _).trans JS.out)
   clear q1 q3 h5 he2
   go_wp2_with (fail)
   go_region
   go_wp2_with (fail)
   go_end0
   exact ⟨rfl,J3.out,JB2.out.drew,JS2.out⟩
end Go.Proofs.YtkoonhiplicbkaaGreat.Cw
