/-
  (package curvetlaw0) One, Num; (package curvettop) awake. No condition.
-/
import Derived.Test.YtkoonhiplicbkaaAff
import Derived.Test.YtkoonhiplicbkaaGet
set_option linter.unusedSimpArgs false
set_option linter.unusedVariables false
namespace Go.Proofs.Ytkoonhiplicbkaa.Cw
open Go Go.RowKit
section
variable {P : Program} {ops : Array Oper} {rest : List Oper} {o : Oper} {a : Act} {w : World} {Q : Exit → Act → World → Prop}
theorem wpList_cellG (hwt : Region.wanted o (yielded ops a.tmps) = true) (ty : TypeId) (x : Operand) (ho : o.op = .load ty x) (g off : Nat) (hx : a.eval x = .pointer (some ⟨g, off, none⟩)) (v : Value) (d : TypeDesc)
    (hu : P.underlying ty = some d) (hd : isAggDesc d = false) (hc : w.cell? ⟨g, off, none⟩ = some v) (h : wpList P ops Q rest (a.put o.dst v) w) : wpList P ops Q (o :: rest) a w := by
  unfold wpList
  rw [if_pos hwt]
  refine .inl ?_
  unfold Oper.wp execOp
  simp only [ho, hx, Instr.loadAt, Instr.sureAddr, Sem.run_bind, Sem.run_pure, Result.andThen_ok, run_load_one w g off ty d hu hd v hc]
  exact h
end
theorem CK.id (k : CK) : k.c.id = k.1 := (tab_open k.2.1 k.2.2).2.2.2.1
theorem ac_idk (k : CK) : (ac k.c)[0]? = some (.int .i64 (k.1 : Int)) := by
  rw [← k.id]; unfold ac; rw [app_lo (by simp)]; rfl
theorem ac_inf (cu : Cv) : (ac cu)[55]? = some (.bool false) := by
  rw [show 55 = 37 + 18 from rfl, ac_g _ _ (by decide)]; exact ptc_inf _ _ _
theorem ac_sz (cu : Cv) : (ac cu)[57]? = some (.int .i64 (cu.size : Int)) := by
  have := ac_rest cu 1
  simpa using this
theorem eq_gpt (k : CK) (n m : Nat) (w : World) : (binOp .eql 28 (.agg (gpt k n)) (.agg (gpt k m))).run Try.prog w = .ok (.bool (decide (gm k n = gm k m))) w := by
  have h := fun P => Nat.lt_trans (pX_lt k P) k.p9
  have h2 := fun P => Nat.lt_trans (pY_lt k P) k.p9
  unfold gpt
  rw [eq_point _ _ _ _ _ _ (h _) (h2 _) (h _) (h2 _)]
  congr 2
  rw [decide_eq_decide]
  refine ⟨fun ⟨a, b, c⟩ => p_inj k _ _ a b c, fun e => by rw [e]; exact ⟨rfl, rfl, rfl⟩⟩
theorem guard_pt (x y : Operand) (a b : Array Value) (w : World) : (eqGuard .eql 28 x y (.agg a) (.agg b)).run Try.prog w = .ok () w := by
  have h : Try.prog.eqGuardType Try.prog.depth 28 = false := by kernel_rfl
  unfold eqGuard
  simp [Sem.run_bind, h]
theorem run_eqp {ρ : Operand → Value} {o : Oper} (t2 : TypeId) (x y : Operand) (ho : o.op = .binOp .eql 28 x y t2) (k : CK) (n m : Nat) (hx : ρ x = .agg (gpt k n)) (hy : ρ y = .agg (gpt k m)) (b : Bool) (hb : decide (gm k n = gm k m) = b) (u : World) : (execOp ρ o).run Try.prog u = .ok (.value (.bool b)) u := by
  obtain ⟨d, op, type, pos, after, guard⟩ := o
  subst ho
  simp only [execOp, hx, hy, Sem.run_bind, guard_pt, Result.andThen_ok, eq_gpt, hb, Sem.run_pure]
set_option maxRecDepth 100000 in
theorem law_num (n : Int) (w : World) : Calls Try.prog 9 #[.int .i64 n] w fun e w' => e = .returned (.int .i64 n) ∧ Below w.heap.size w w' := by
  go_enter Try.func9, Try.ntmps9
  go_wp2
  go_ret
  exact ⟨rfl, Below.refl _ _⟩
theorem nc_set (n : Nat) (h : n < 18446744073709551616) : (nc 0).setIfInBounds 0 (wn n) = nc n := by
  have e0 : (nc 0).setIfInBounds 0 (wn n) = fa wn 9 (upd (dig 0) 0 n) := fa_set _ _ _ _ _
  rw [e0]
  refine fa_ext _ _ _ _ fun i hi => ?_
  rcases Nat.eq_zero_or_pos i with rfl | hp
  · simp [upd, dig, pw, Nat.mod_eq_of_lt h]
  · have hpw : n < pw i := Nat.lt_of_lt_of_le h (by unfold pw; exact Nat.le_self_pow (by omega) _)
    simp [upd, dig, Nat.div_eq_of_lt hpw]
    omega
attribute [local irreducible] pc ptc nc ac cuc fc gpt
attribute [local go_sem ↓ high] wn_eql wn_neq wn_lss wn_gtr wn_leq wn_geq wn_cells wn_run_store wn_guard lit0 lit1
attribute [local go_sem high] wn_match wn_run_store wn_eql wn_neq wn_lss wn_gtr wn_leq wn_geq

set_option maxRecDepth 100000 in
set_option maxHeartbeats 4000000 in
theorem law_one (n : Nat) (w : World) (hn : n < 18446744073709551616) : Calls Try.prog 7 #[wn n] w fun e w' => e = .returned (.agg (nc n)) ∧ Below w.heap.size w w' := by
  have HN := Lib.hid hn
  clear hn
  go_enter Try.func7, Try.ntmps7
  go_upto_region 1 with fail
  rw [← nc_zero]
  have m0 := Mem.start1 w (nc 0) 26
  obtain ⟨w1, hw1⟩ : ∃ w1 : World, w1 = (w.alloc (.cells (nc 0) 26)) := ⟨_, rfl⟩
  rw [← hw1] at m0 ⊢
  clear hw1
  obtain ⟨g, hg⟩ : ∃ g, g = w.heap.size := ⟨_, rfl⟩
  rw [← hg] at m0 ⊢
  have HG := Lib.hid hg
  have M := Lib.hid m0
  clear hg m0
  refine wp_region_lit ?_
  refine wpList_new rfl 26 rfl (.agg (nc 0)) (by rw [nc_zero]; kernel_rfl) ?_
  intro x w2 hx hx2 hgv hh
  have Nw2 := Lib.hid (show Mem w w2 [(g, nc 0, 26), (x, nc 0, 26)] from M.out.new hgv (Nat.le_of_eq hx) hh)
  clear hx hx2 hgv hh M
  refine wpList_nil ?_
  try simp only [Act.put, sl1, sl2, sl3, sl4, sl5, sl6]
  go_upto_region 2 with (fail)
  refine wp_region_lit ?_
  refine wpList_pureL rfl (wn n) (fun u => by kernel_rfl) ?_
  refine wpList_pureL rfl (.pointer (some ⟨x, 0, none⟩)) (fun u => by kernel_rfl) ?_
  refine wpList_pureL rfl (.pointer (some ⟨x, 0, none⟩)) (fun u => by kernel_rfl) ?_
  refine wpList_plain rfl fun K hK => ?_
  refine wp_store_val 22 (.tmp 6) (.tmp 4) rfl x 0 (by kernel_rfl) _ (nc 0) #[wn n] rfl (Nw2.out.at 1 rfl) (by kernel_rfl) (by rw [nc_size]; exact (by decide : 0 + 1 ≤ 9)) (by intro u hu; simp at hu; subst hu; rfl) (fun w9 hw hb hs => hK _ _ ?_)
  rw [splice_one (nc 0) (wn n) (by rw [nc_size]; decide), nc_set n HN.out] at hw
  have N9 := Lib.hid (show Mem w w9 [(g, nc 0, 26), (x, nc n, 26)] from Nw2.out.store 1 rfl hb hs hw)
  clear hw hb hs hK Nw2
  refine wpList_nil ?_
  try simp only [Act.put, sl1, sl2, sl3, sl4, sl5, sl6]
  go_upto_region 3 with (fail)
  refine wp_region_lit ?_
  refine wpN_load0 rfl (.tmp 3) rfl x (by kernel_rfl) (N9.out.at 1 rfl) ?_
  refine wpList_store_blk rfl 26 (.tmp 2) (.tmp 7) rfl g (by kernel_rfl) _ _ (nc n) (by kernel_rfl) (N9.out.at 0 rfl) (by rw [nc_size]; kernel_rfl) (by simp only [nc_size]) (nc_one _) ?_
  intro w3 hw hb hs
  have Nw3 := Lib.hid (show Mem w w3 [(g, nc n, 26), (x, nc n, 26)] from N9.out.store 0 rfl hb hs hw)
  clear hw hb hs N9
  refine wpList_nil ?_
  try simp only [Act.put, sl1, sl2, sl3, sl4, sl5, sl6]
  go_wp2_with (fail)
  refine bodyPost_ret (results_N rfl _ _ g _ _ _ rfl (Nw3.out.at 0 rfl)) rfl ⟨by first | rfl | simp only [*], Nw3.out.below⟩
/-- the first of the tiny curves -/
def k13 : CK := ⟨13, by decide, by decide⟩
def n13B : Bool := Nat.beq k13.c.n 223
theorem n13 : k13.c.n = 223 := by decide +kernel
/-- a triple's point, reckoned: N G of the tiny curve is infinity -/
theorem g13 : gm k13 k13.c.n = none := by
  have h := rp_times k13 (q := ⟨k13.c.gx, k13.c.gy, 1⟩) (m := 1) k13.c.n ?_
  · rw [Nat.mul_one] at h
    exact rp_inf k13 h (by decide +kernel)
  · have h1 := rp_trip k13 1
    rw [gm_one] at h1
    obtain ⟨_, _, _, _, h5, h6, _⟩ := k13.num
    have e : trN k13 (gG k13) = ⟨k13.c.gx, k13.c.gy, 1⟩ := by
      show (⟨(cf k13 k13.c.gx).val, (cf k13 k13.c.gy).val, 1⟩ : Tri) = _
      rw [val_cf _ h5, val_cf _ h6]
    rwa [e] at h1
set_option maxRecDepth 100000 in
set_option maxHeartbeats 4000000 in
theorem awake_walk (w : World) : Calls Try.prog 5 #[] w fun e w' => e = .returned (.bool true) ∧ Below w.heap.size w w' := by
  obtain ⟨k, hk⟩ : ∃ k, k = k13 := ⟨_, rfl⟩
  have hi : (13 : Int) = (k.1 : Int) := by rw [hk]; rfl
  have HG := Lib.hid (show gm k k.c.n = none by rw [hk]; exact g13)
  have HN9 := Lib.hid k.n9
  have HN1 := Lib.hid k.n1
  have HI := Lib.hid hi
  clear hi
  go_enter Try.func5, Try.ntmps5
  go_upto_region 1 with fail
  have HINF := Lib.hid (show gpt k (k.c.n * 1) = ptc 0 0 true by rw [Nat.mul_one]; unfold gpt; rw [HG.out]; rfl)
  have M := Lib.hid (Mem.nil w)
  refine wp_region_lit ?_
  refine wpList_fnL rfl 6 (.func 6) #[.const (.int .i64 13)] #[3] rfl #[] #[.int .i64 13] (by kernel_rfl) (by kernel_rfl) (fun u => callFunc_enter _ _ _ _ u Try.func6 (by kernel_rfl) (by kernel_rfl)) (.tuple #[.agg (ac k.c), .int .i64 0]) ((by have h := curve_get k.1 w k.2.1 k.2.2; rw [← HI.out] at h; exact h)) (fun w2 hb => ?_)
  have Nw2 := Lib.hid (show Mem w w2 [] from M.out.grow hb)
  clear hb M
  refine wpList_pureL rfl (.tuple #[.agg (ac k.c), .int .i64 0]) (fun u => by kernel_rfl) ?_
  refine wpList_pureL rfl (.agg (ac k.c)) (fun u => by kernel_rfl) ?_
  refine wpList_pureL rfl (.int .i64 0) (fun u => by kernel_rfl) ?_
  refine wpList_new rfl 30 rfl (.agg #[.int .i64 0, wn 0, wn 0, wn 0, wn 0, wn 0, wn 0, wn 0, wn 0, wn 0, wn 0, wn 0, wn 0, wn 0, wn 0, wn 0, wn 0, wn 0, wn 0, wn 0, wn 0, wn 0, wn 0, wn 0, wn 0, wn 0, wn 0, wn 0, wn 0, wn 0, wn 0, wn 0, wn 0, wn 0, wn 0, wn 0, wn 0, wn 0, wn 0, wn 0, wn 0, wn 0, wn 0, wn 0, wn 0, wn 0, wn 0, wn 0, wn 0, wn 0, wn 0, wn 0, wn 0, wn 0, wn 0, .bool false, .int .i64 0, .int .i64 0, .bool false]) (by kernel_rfl) ?_
  intro cx w3 hx hx2 hgv hh
  have Nw3 := Lib.hid (show Mem w w3 [(cx, #[.int .i64 0, wn 0, wn 0, wn 0, wn 0, wn 0, wn 0, wn 0, wn 0, wn 0, wn 0, wn 0, wn 0, wn 0, wn 0, wn 0, wn 0, wn 0, wn 0, wn 0, wn 0, wn 0, wn 0, wn 0, wn 0, wn 0, wn 0, wn 0, wn 0, wn 0, wn 0, wn 0, wn 0, wn 0, wn 0, wn 0, wn 0, wn 0, wn 0, wn 0, wn 0, wn 0, wn 0, wn 0, wn 0, wn 0, wn 0, wn 0, wn 0, wn 0, wn 0, wn 0, wn 0, wn 0, wn 0, .bool false, .int .i64 0, .int .i64 0, .bool false], 30)] from Nw2.out.new hgv (Nat.le_of_eq hx) hh)
  clear hx hx2 hgv hh Nw2
  refine wpList_store_blk rfl 30 (.tmp 1) (.tmp 9) rfl cx (by kernel_rfl) _ _ (ac k.c) (by kernel_rfl) (Nw3.out.at 0 rfl) (by rw [ac_size]; kernel_rfl) (by rw [ac_size]; rfl) (ac_one _) ?_
  intro w4 hw hb hs
  have Nw4 := Lib.hid (show Mem w w4 [(cx, ac k.c, 30)] from Nw3.out.store 0 rfl hb hs hw)
  clear hw hb hs Nw3
  refine wpList_pureL rfl (.int .i64 0) (fun u => by kernel_rfl) ?_
  refine wpList_nil ?_
  try simp only [Act.put, sl1, sl2, sl3, sl4, sl5, sl6]
  go_upto_region 2 with (fail)
  refine wp_region_lit ?_
  refine wpList_pureL rfl (.pointer (some ⟨cx, 28, none⟩)) (fun u => by kernel_rfl) ?_
  refine wpN_load rfl (.tmp 12) rfl cx 28 (by kernel_rfl) (Nw4.out.at 0 rfl) k.c.n (ac_n _) ?_
  refine wpList_pureL rfl (.pointer (some ⟨cx, 37, none⟩)) (fun u => by kernel_rfl) ?_
  refine wpList_load_seg rfl 28 (.tmp 14) rfl cx 37 19 (by kernel_rfl) _ _ (gpt k 1) _ _ (Nw4.out.at 0 rfl) Try.underlying28 rfl (by kernel_rfl) (gpt_size _ _) (fun j hj => by rw [gpt_g]; exact ac_g _ j hj) ?_
  refine wpList_fnL rfl 11 (.func 11) #[.const (.int .i64 13), .tmp 13, .tmp 15] #[3, 26, 28] rfl #[] #[.int .i64 13, .agg (nc k.c.n), .agg (gpt k 1)] (by kernel_rfl) (by kernel_rfl) (fun u => callFunc_enter _ _ _ _ u Try.func11 (by kernel_rfl) (by kernel_rfl)) (.tuple #[.agg (ptc 0 0 true), .int .i64 0]) ((by have h := affine_mul k k.c.n 1 w4 HN9.out; rw [HINF.out, ← HI.out] at h; exact h)) (fun w5 hb => ?_)
  have Nw5 := Lib.hid (show Mem w w5 [(cx, ac k.c, 30)] from Nw4.out.grow hb)
  clear hb Nw4
  refine wpList_pureL rfl (.tuple #[.agg (ptc 0 0 true), .int .i64 0]) (fun u => by kernel_rfl) ?_
  refine wpList_pureL rfl (.agg (ptc 0 0 true)) (fun u => by kernel_rfl) ?_
  refine wpList_pureL rfl (.int .i64 0) (fun u => by kernel_rfl) ?_
  refine wpList_new rfl 28 rfl (.agg (ptc 0 0 false)) (by rw [ptc_zero]; kernel_rfl) ?_
  intro px w6 hx hx2 hgv hh
  have Nw6 := Lib.hid (show Mem w w6 [(cx, ac k.c, 30), (px, ptc 0 0 false, 28)] from Nw5.out.new hgv (Nat.le_of_eq hx) hh)
  clear hx hx2 hgv hh Nw5
  refine wpList_store_blk rfl 28 (.tmp 3) (.tmp 17) rfl px (by kernel_rfl) _ _ (ptc 0 0 true) (by kernel_rfl) (Nw6.out.at 1 rfl) (by rw [ptc_size]; kernel_rfl) (by simp only [ptc_size]) (ptc_one _ _ _) ?_
  intro w7 hw hb hs
  have Nw7 := Lib.hid (show Mem w w7 [(cx, ac k.c, 30), (px, ptc 0 0 true, 28)] from Nw6.out.store 1 rfl hb hs hw)
  clear hw hb hs Nw6
  refine wpList_pureL rfl (.int .i64 0) (fun u => by kernel_rfl) ?_
  refine wpList_nil ?_
  try simp only [Act.put, sl1, sl2, sl3, sl4, sl5, sl6]
  go_upto_region 3 with (fail)
  refine wp_region_lit ?_
  refine wpList_fnL rfl 7 (.func 7) #[.const (.int .u64 1)] #[22] rfl #[] #[.int .u64 1] (by kernel_rfl) (by kernel_rfl) (fun u => callFunc_enter _ _ _ _ u Try.func7 (by kernel_rfl) (by kernel_rfl)) (.agg (nc 1)) ((by exact law_one 1 w7 (by decide))) (fun w8 hb => ?_)
  have Nw8 := Lib.hid (show Mem w w8 [(cx, ac k.c, 30), (px, ptc 0 0 true, 28)] from Nw7.out.grow hb)
  clear hb Nw7
  refine wpList_fnL rfl 13 (.func 13) #[.const (.pointer none), .const (.int .i64 13), .tmp 20] #[71, 3, 26] rfl #[] #[.pointer none, .int .i64 13, .agg (nc 1)] (by kernel_rfl) (by kernel_rfl) (fun u => callFunc_enter _ _ _ _ u Try.func13 (by kernel_rfl) (by kernel_rfl)) (.tuple #[.agg (gpt k 1), .int .i64 0]) ((by have h := base_mul k 1 w8 HN1.out; rw [← HI.out] at h; exact h)) (fun w9 hb => ?_)
  have Nw9 := Lib.hid (show Mem w w9 [(cx, ac k.c, 30), (px, ptc 0 0 true, 28)] from Nw8.out.grow hb)
  clear hb Nw8
  refine wpList_pureL rfl (.tuple #[.agg (gpt k 1), .int .i64 0]) (fun u => by kernel_rfl) ?_
  refine wpList_pureL rfl (.agg (gpt k 1)) (fun u => by kernel_rfl) ?_
  refine wpList_pureL rfl (.int .i64 0) (fun u => by kernel_rfl) ?_
  refine wpList_new rfl 28 rfl (.agg (ptc 0 0 false)) (by rw [ptc_zero]; kernel_rfl) ?_
  intro qx w10 hx hx2 hgv hh
  have Nw10 := Lib.hid (show Mem w w10 [(cx, ac k.c, 30), (px, ptc 0 0 true, 28), (qx, ptc 0 0 false, 28)] from Nw9.out.new hgv (Nat.le_of_eq hx) hh)
  clear hx hx2 hgv hh Nw9
  refine wpList_store_blk rfl 28 (.tmp 5) (.tmp 22) rfl qx (by kernel_rfl) _ _ (gpt k 1) (by kernel_rfl) (Nw10.out.at 2 rfl) (by rw [gpt_size]; kernel_rfl) (by simp only [gpt_size, ptc_size]) (gpt_one _ _) ?_
  intro w11 hw hb hs
  have Nw11 := Lib.hid (show Mem w w11 [(cx, ac k.c, 30), (px, ptc 0 0 true, 28), (qx, gpt k 1, 28)] from Nw10.out.store 2 rfl hb hs hw)
  clear hw hb hs Nw10
  refine wpList_pureL rfl (.int .i64 0) (fun u => by kernel_rfl) ?_
  refine wpList_nil ?_
  try simp only [Act.put, sl1, sl2, sl3, sl4, sl5, sl6]
  go_upto_region 4 with (fail)
  refine wp_region_lit ?_
  refine wpList_pureL rfl (.int .i64 0) (fun u => by kernel_rfl) ?_
  refine wpList_fnL rfl 9 (.func 9) #[.tmp 24] #[31] rfl #[] #[.int .i64 0] (by kernel_rfl) (by kernel_rfl) (fun u => callFunc_enter _ _ _ _ u Try.func9 (by kernel_rfl) (by kernel_rfl)) (.int .i64 0) (law_num 0 w11) (fun w12 hb => ?_)
  have Nw12 := Lib.hid (show Mem w w12 [(cx, ac k.c, 30), (px, ptc 0 0 true, 28), (qx, gpt k 1, 28)] from Nw11.out.grow hb)
  clear hb Nw11
  refine wpList_pureL rfl (.bool true) (fun u => by kernel_rfl) ?_
  refine wpList_pureL rfl (.bool true) (fun u => by kernel_rfl) ?_
  try simp only [Act.put, sl1, sl2, sl3, sl4, sl5, sl6]
  refine wpList_wantL (by kernel_rfl) (.int .i64 0) (fun u => by kernel_rfl) ?_
  try simp only [Act.put, sl1, sl2, sl3, sl4, sl5, sl6]
  refine wpList_fnG (by kernel_rfl) 9 (.func 9) #[.tmp 28] #[31] rfl #[] #[.int .i64 0] (by kernel_rfl) (by kernel_rfl) (fun u => callFunc_enter _ _ _ _ u Try.func9 (by kernel_rfl) (by kernel_rfl)) (.int .i64 0) (law_num 0 w12) (fun w13 hb => ?_)
  have Nw13 := Lib.hid (show Mem w w13 [(cx, ac k.c, 30), (px, ptc 0 0 true, 28), (qx, gpt k 1, 28)] from Nw12.out.grow hb)
  clear hb Nw12
  try simp only [Act.put, sl1, sl2, sl3, sl4, sl5, sl6]
  refine wpList_wantL (by kernel_rfl) (.bool true) (fun u => by kernel_rfl) ?_
  try simp only [Act.put, sl1, sl2, sl3, sl4, sl5, sl6]
  refine wpList_pureL rfl (.bool true) (fun u => by kernel_rfl) ?_
  refine wpList_pureL rfl (.bool true) (fun u => by kernel_rfl) ?_
  try simp only [Act.put, sl1, sl2, sl3, sl4, sl5, sl6]
  refine wpList_wantL (by kernel_rfl) (.pointer (some ⟨px, 18, none⟩)) (fun u => by kernel_rfl) ?_
  try simp only [Act.put, sl1, sl2, sl3, sl4, sl5, sl6]
  refine wpList_cellG (by kernel_rfl) 4 (.tmp 33) rfl px 18 (by kernel_rfl) (.bool true) _ Try.underlying4 rfl ((cell_of (Nw13.out.at 1 rfl) 18).trans (ptc_inf 0 0 true)) ?_
  try simp only [Act.put, sl1, sl2, sl3, sl4, sl5, sl6]
  refine wpList_pureL rfl (.bool true) (fun u => by kernel_rfl) ?_
  refine wpList_pureL rfl (.bool true) (fun u => by kernel_rfl) ?_
  try simp only [Act.put, sl1, sl2, sl3, sl4, sl5, sl6]
  refine wpList_wantL (by kernel_rfl) (.int .i64 0) (fun u => by kernel_rfl) ?_
  try simp only [Act.put, sl1, sl2, sl3, sl4, sl5, sl6]
  refine wpList_fnG (by kernel_rfl) 9 (.func 9) #[.tmp 37] #[31] rfl #[] #[.int .i64 0] (by kernel_rfl) (by kernel_rfl) (fun u => callFunc_enter _ _ _ _ u Try.func9 (by kernel_rfl) (by kernel_rfl)) (.int .i64 0) (law_num 0 w13) (fun w14 hb => ?_)
  have Nw14 := Lib.hid (show Mem w w14 [(cx, ac k.c, 30), (px, ptc 0 0 true, 28), (qx, gpt k 1, 28)] from Nw13.out.grow hb)
  clear hb Nw13
  try simp only [Act.put, sl1, sl2, sl3, sl4, sl5, sl6]
  refine wpList_wantL (by kernel_rfl) (.bool true) (fun u => by kernel_rfl) ?_
  try simp only [Act.put, sl1, sl2, sl3, sl4, sl5, sl6]
  refine wpList_pureL rfl (.bool true) (fun u => by kernel_rfl) ?_
  refine wpList_pureL rfl (.bool true) (fun u => by kernel_rfl) ?_
  try simp only [Act.put, sl1, sl2, sl3, sl4, sl5, sl6]
  refine wpList_segG (by kernel_rfl) 28 (.tmp 5) rfl qx 0 19 (by kernel_rfl) (gpt k 1) (Nw14.out.at 2 rfl) _ Try.underlying28 rfl (by kernel_rfl) (gpt_size _ _) (fun j hj => by rw [Nat.zero_add]) ?_
  try simp only [Act.put, sl1, sl2, sl3, sl4, sl5, sl6]
  refine wpList_wantL (by kernel_rfl) (.pointer (some ⟨cx, 37, none⟩)) (fun u => by kernel_rfl) ?_
  try simp only [Act.put, sl1, sl2, sl3, sl4, sl5, sl6]
  refine wpList_segG (by kernel_rfl) 28 (.tmp 43) rfl cx 37 19 (by kernel_rfl) (gpt k 1) (Nw14.out.at 0 rfl) _ Try.underlying28 rfl (by kernel_rfl) (gpt_size _ _) (fun j hj => by rw [gpt_g]; exact ac_g _ j hj) ?_
  try simp only [Act.put, sl1, sl2, sl3, sl4, sl5, sl6]
  refine wpList_wantL (by kernel_rfl) (.bool true) (fun u => by exact run_eqp _ _ _ rfl k 1 1 (by kernel_rfl) (by kernel_rfl) true (decide_eq_true rfl) u) ?_
  try simp only [Act.put, sl1, sl2, sl3, sl4, sl5, sl6]
  refine wpList_pureL rfl (.bool true) (fun u => by kernel_rfl) ?_
  refine wpList_pureL rfl (.bool true) (fun u => by kernel_rfl) ?_
  try simp only [Act.put, sl1, sl2, sl3, sl4, sl5, sl6]
  refine wpList_wantL (by kernel_rfl) (.pointer (some ⟨cx, 37, none⟩)) (fun u => by kernel_rfl) ?_
  try simp only [Act.put, sl1, sl2, sl3, sl4, sl5, sl6]
  refine wpList_wantL (by kernel_rfl) (.pointer (some ⟨cx, 55, none⟩)) (fun u => by kernel_rfl) ?_
  try simp only [Act.put, sl1, sl2, sl3, sl4, sl5, sl6]
  refine wpList_cellG (by kernel_rfl) 4 (.tmp 49) rfl cx 55 (by kernel_rfl) (.bool false) _ Try.underlying4 rfl ((cell_of (Nw14.out.at 0 rfl) 55).trans (ac_inf _)) ?_
  try simp only [Act.put, sl1, sl2, sl3, sl4, sl5, sl6]
  refine wpList_wantL (by kernel_rfl) (.bool true) (fun u => by kernel_rfl) ?_
  try simp only [Act.put, sl1, sl2, sl3, sl4, sl5, sl6]
  refine wpList_pureL rfl (.bool true) (fun u => by kernel_rfl) ?_
  refine wpList_pureL rfl (.bool true) (fun u => by kernel_rfl) ?_
  refine wpList_nil ?_
  try simp only [Act.put, sl1, sl2, sl3, sl4, sl5, sl6]
  go_wp2_with (fail)
  go_ret
  exact ⟨rfl, Nw14.out.below⟩
end Go.Proofs.Ytkoonhiplicbkaa.Cw
