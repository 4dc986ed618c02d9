/-
  (package curvettop) TopWindows: a product gone through by digits is the product. No condition but that words are words.
  (package curvettop) TopWindows, at words as they come in. No condition.
-/
import Derived.Test.YtkoonhiplicbkaaAwk
set_option linter.unusedSimpArgs false
set_option linter.unusedVariables false
namespace Go.Proofs.Ytkoonhiplicbkaa.Cw
open Go Go.RowKit
/-- a whole number as a word -/
def uw (a : Int) : Nat := (a % 18446744073709551616).toNat
theorem uw_lt (a : Int) : uw a < 18446744073709551616 := by unfold uw; omega
theorem uw_wrap (a : Int) : Value.int .u64 (IntKind.u64.wrap a) = wn (uw a) := by
  have h : IntKind.u64.wrap a = ((uw a : Nat) : Int) := by
    simp only [IntKind.wrap, IntKind.bits, IntKind.signed, uw]
    simp
    omega
  rw [h]; rfl
theorem conv_uw {P : Program} {ρ : Operand → Value} {o : Oper} (src dst : TypeId) (x : Operand) (ho : o.op = .convert src dst x) (q : Int) (hx : ρ x = .int .i64 q) (hs : P.underlying src = some (.int .i64)) (hd : P.underlying dst = some (.int .u64)) (u : World) :
    (execOp ρ o).run P u = .ok (.value (wn (uw q))) u := by
  obtain ⟨d, op, type, pos, after, guard⟩ := o
  subst ho
  rw [← uw_wrap]
  simp [execOp, hx, convert, run_underlying hs, run_underlying hd, Conv.intToInt]
/-- what the first i of c digits of x bits say -/
def preW (d x c i : Nat) : Nat := d / 2 ^ ((c - i) * x)
theorem preW_zero {d b x : Nat} (hd : d < 2 ^ b) (hb : 0 < b) (hx : 0 < x) : preW d x (cntD b x) 0 = 0 := by
  unfold preW
  obtain ⟨_, _, h⟩ := cnt_le hx hb
  exact Nat.div_eq_of_lt (Nat.lt_of_lt_of_le hd (Nat.pow_le_pow_right (by decide) (by rw [Nat.sub_zero]; exact h)))
theorem preW_all (d x c : Nat) : preW d x c c = d := by simp [preW]
theorem preW_succ (d x c i : Nat) (h : i < c) : preW d x c (i + 1) = 2 ^ x * preW d x c i + dgt d x (c - 1 - i) := by
  unfold preW dgt
  obtain ⟨e, rfl⟩ : ∃ e, c = i + 1 + e := ⟨c - (i + 1), by omega⟩
  rw [show (i + 1 + e - i) * x = e * x + x by rw [show i + 1 + e - i = e + 1 by omega, Nat.add_mul, Nat.one_mul], show i + 1 + e - (i + 1) = e by omega, show i + 1 + e - 1 - i = e by omega, Nat.pow_add, ← Nat.div_div_eq_div_mul]
  have := Nat.div_add_mod (d / 2 ^ (e * x)) (2 ^ x)
  omega
attribute [local irreducible] pc ptc nc ac cuc fc gpt
attribute [local go_sem ↓ high] wn_eql wn_neq wn_lss wn_gtr wn_leq wn_geq wn_cells wn_run_store wn_guard lit0 lit1
attribute [local go_sem high] wn_match wn_run_store wn_eql wn_neq wn_lss wn_gtr wn_leq wn_geq

set_option maxRecDepth 100000 in
set_option maxHeartbeats 4000000 in
theorem windows_walk (a0 : Int) (n : Nat) (a2 : Int) (w : World) (hn : n < 18446744073709551616) : Calls Try.prog 3 #[.int .i64 a0, wn n, .int .i64 a2] w fun e w' => e = .returned (.bool true) ∧ Below w.heap.size w w' := by
  obtain ⟨r0, hr0⟩ : ∃ r, r = uw a0 % 15 := ⟨_, rfl⟩
  obtain ⟨r2, hr2⟩ : ∃ r, r = uw a2 % 6 := ⟨_, rfl⟩
  have h15 : r0 < 15 := by rw [hr0]; exact Nat.mod_lt _ (by decide)
  have h6 : r2 < 6 := by rw [hr2]; exact Nat.mod_lt _ (by decide)
  have HR0 := Lib.hid hr0
  have HR2 := Lib.hid hr2
  obtain ⟨k, hk⟩ : ∃ k : CK, k = ⟨1 + r0, by omega, by omega⟩ := ⟨⟨1 + r0, by omega, by omega⟩, rfl⟩
  have hk1 : k.1 = 1 + r0 := by rw [hk]
  obtain ⟨x, hx⟩ : ∃ x, x = 1 + r2 := ⟨_, rfl⟩
  have HK1 := Lib.hid hk1
  have HX := Lib.hid hx
  have HX1 := Lib.hid (show 1 ≤ x by omega)
  have HX2 := Lib.hid (show x ≤ 6 by omega)
  have HU0 := Lib.hid h15
  have HU2 := Lib.hid h6
  have HN := Lib.hid hn
  have HN9 := Lib.hid (show n < pw 9 from Nat.lt_of_lt_of_le hn (by unfold pw; exact Nat.le_self_pow (by decide) _))
  have HG0 := Lib.hid (show ptc 0 0 true = gpt k 0 by unfold gpt; rw [gm_zero]; rfl)
  have HND := Lib.hid (show n < 2 ^ 64 from hn)
  clear hk hk1 hx h15 h6 hn hr0 hr2
  go_enter Try.func3, Try.ntmps3
  go_upto_region 1 with fail
  have M := Lib.hid (Mem.nil w)
  refine wp_region_lit ?_
  refine wpList_fnL rfl 5 (.func 5) #[] #[] rfl #[] #[] (by kernel_rfl) (by kernel_rfl) (fun u => callFunc_enter _ _ _ _ u Try.func5 (by kernel_rfl) (by kernel_rfl)) (.bool true) (awake_walk w) (fun w2 hb => ?_)
  have Nw2 := Lib.hid (show Mem w w2 [] from M.out.grow hb)
  clear hb M
  refine wpList_pureL rfl (.bool false) (fun u => by kernel_rfl) ?_
  refine wpList_nil ?_
  try simp only [Act.put, List.setIfInBounds_toArray, List.set_cons_zero, List.set_cons_succ, List.getElem_toArray, List.getElem_cons_succ, List.getElem_cons_zero]
  go_upto_region 3 with (fail)
  refine wp_region_lit ?_
  refine wpList_pureL rfl (.int .i64 a0) (fun u => by kernel_rfl) ?_
  try simp only [Act.put, List.setIfInBounds_toArray, List.set_cons_zero, List.set_cons_succ, List.getElem_toArray, List.getElem_cons_succ, List.getElem_cons_zero]
  refine wpList_pureL rfl (wn (uw a0)) (fun u => by exact conv_uw 3 34 (.tmp 27) rfl a0 (by kernel_rfl) Try.underlying3 Try.underlying34 u) ?_
  try simp only [Act.put, List.setIfInBounds_toArray, List.set_cons_zero, List.set_cons_succ, List.getElem_toArray, List.getElem_cons_succ, List.getElem_cons_zero]
  refine wpList_pureL rfl (wn r0) (fun u => by exact run_wn _ _ _ _ _ rfl (uw a0) (wn 15) (by kernel_rfl) (by kernel_rfl) ((wn_rem _ _ _ (uw_lt _) (by decide)).trans (by rw [← HR0.out])) u) ?_
  try simp only [Act.put, List.setIfInBounds_toArray, List.set_cons_zero, List.set_cons_succ, List.getElem_toArray, List.getElem_cons_succ, List.getElem_cons_zero]
  refine wpList_pureL rfl (.int .i64 ((r0 : Nat) : Int)) (fun u => by exact conv_int 34 3 (.tmp 29) rfl r0 (by kernel_rfl) (by have := HU0.out; omega) Try.underlying34 Try.underlying3 u) ?_
  try simp only [Act.put, List.setIfInBounds_toArray, List.set_cons_zero, List.set_cons_succ, List.getElem_toArray, List.getElem_cons_succ, List.getElem_cons_zero]
  refine wpList_pureL rfl (.int .i64 (k.1 : Int)) (fun u => by exact run_bini _ _ _ _ _ rfl ((1 : Nat) : Int) (r0 : Int) (by kernel_rfl) (by kernel_rfl) ((bi_add _ (by have := HU0.out; omega)).trans (by rw [← HK1.out])) u) ?_
  refine wpList_fnL rfl 6 (.func 6) #[.tmp 31] #[3] rfl #[] #[.int .i64 (k.1 : Int)] (by kernel_rfl) (by kernel_rfl) (fun u => callFunc_enter _ _ _ _ u Try.func6 (by kernel_rfl) (by kernel_rfl)) (.tuple #[.agg (ac k.c), .int .i64 0]) (curve_get k.1 w2 k.2.1 k.2.2) (fun w3 hb => ?_)
  have Nw3 := Lib.hid (show Mem w w3 [] from Nw2.out.grow hb)
  clear hb Nw2
  refine wpList_pureL rfl (.tuple #[.agg (ac k.c), .int .i64 0]) (fun u => by kernel_rfl) ?_
  refine wpList_pureL rfl (.agg (ac k.c)) (fun u => by kernel_rfl) ?_
  refine wpList_pureL rfl (.int .i64 0) (fun u => by kernel_rfl) ?_
  refine wpList_new rfl 30 rfl (.agg #[.int .i64 0, wn 0, wn 0, wn 0, wn 0, wn 0, wn 0, wn 0, wn 0, wn 0, wn 0, wn 0, wn 0, wn 0, wn 0, wn 0, wn 0, wn 0, wn 0, wn 0, wn 0, wn 0, wn 0, wn 0, wn 0, wn 0, wn 0, wn 0, wn 0, wn 0, wn 0, wn 0, wn 0, wn 0, wn 0, wn 0, wn 0, wn 0, wn 0, wn 0, wn 0, wn 0, wn 0, wn 0, wn 0, wn 0, wn 0, wn 0, wn 0, wn 0, wn 0, wn 0, wn 0, wn 0, wn 0, .bool false, .int .i64 0, .int .i64 0, .bool false]) (by kernel_rfl) ?_
  intro cx w4 hx hx2 hgv hh
  have Nw4 := Lib.hid (show Mem w w4 [(cx, #[.int .i64 0, wn 0, wn 0, wn 0, wn 0, wn 0, wn 0, wn 0, wn 0, wn 0, wn 0, wn 0, wn 0, wn 0, wn 0, wn 0, wn 0, wn 0, wn 0, wn 0, wn 0, wn 0, wn 0, wn 0, wn 0, wn 0, wn 0, wn 0, wn 0, wn 0, wn 0, wn 0, wn 0, wn 0, wn 0, wn 0, wn 0, wn 0, wn 0, wn 0, wn 0, wn 0, wn 0, wn 0, wn 0, wn 0, wn 0, wn 0, wn 0, wn 0, wn 0, wn 0, wn 0, wn 0, wn 0, .bool false, .int .i64 0, .int .i64 0, .bool false], 30)] from Nw3.out.new hgv (Nat.le_of_eq hx) hh)
  clear hx hx2 hgv hh Nw3
  refine wpList_store_blk rfl 30 (.tmp 7) (.tmp 33) rfl cx (by kernel_rfl) _ _ (ac k.c) (by kernel_rfl) (Nw4.out.at 0 rfl) (by rw [ac_size]; kernel_rfl) (by rw [ac_size]; rfl) (ac_one _) ?_
  intro w5 hw hb hs
  have Nw5 := Lib.hid (show Mem w w5 [(cx, ac k.c, 30)] from Nw4.out.store 0 rfl hb hs hw)
  clear hw hb hs Nw4
  refine wpList_pureL rfl (.int .i64 0) (fun u => by kernel_rfl) ?_
  refine wpList_nil ?_
  try simp only [Act.put, List.setIfInBounds_toArray, List.set_cons_zero, List.set_cons_succ, List.getElem_toArray, List.getElem_cons_succ, List.getElem_cons_zero]
  go_upto_region 4 with (fail)
  refine wp_region_lit ?_
  refine wpList_pureL rfl (.int .i64 a2) (fun u => by kernel_rfl) ?_
  try simp only [Act.put, List.setIfInBounds_toArray, List.set_cons_zero, List.set_cons_succ, List.getElem_toArray, List.getElem_cons_succ, List.getElem_cons_zero]
  refine wpList_pureL rfl (wn (uw a2)) (fun u => by exact conv_uw 3 34 (.tmp 35) rfl a2 (by kernel_rfl) Try.underlying3 Try.underlying34 u) ?_
  try simp only [Act.put, List.setIfInBounds_toArray, List.set_cons_zero, List.set_cons_succ, List.getElem_toArray, List.getElem_cons_succ, List.getElem_cons_zero]
  refine wpList_pureL rfl (wn r2) (fun u => by exact run_wn _ _ _ _ _ rfl (uw a2) (wn 6) (by kernel_rfl) (by kernel_rfl) ((wn_rem _ _ _ (uw_lt _) (by decide)).trans (by rw [← HR2.out])) u) ?_
  try simp only [Act.put, List.setIfInBounds_toArray, List.set_cons_zero, List.set_cons_succ, List.getElem_toArray, List.getElem_cons_succ, List.getElem_cons_zero]
  refine wpList_pureL rfl (.int .i64 ((r2 : Nat) : Int)) (fun u => by exact conv_int 34 3 (.tmp 37) rfl r2 (by kernel_rfl) (by have := HU2.out; omega) Try.underlying34 Try.underlying3 u) ?_
  try simp only [Act.put, List.setIfInBounds_toArray, List.set_cons_zero, List.set_cons_succ, List.getElem_toArray, List.getElem_cons_succ, List.getElem_cons_zero]
  refine wpList_pureL rfl (.int .i64 (x : Int)) (fun u => by exact run_bini _ _ _ _ _ rfl ((1 : Nat) : Int) (r2 : Int) (by kernel_rfl) (by kernel_rfl) ((bi_add _ (by have := HU2.out; omega)).trans (by rw [← HX.out])) u) ?_
  refine wpList_pureL rfl (.int .i64 (x : Int)) (fun u => by kernel_rfl) ?_
  refine wpList_nil ?_
  try simp only [Act.put, List.setIfInBounds_toArray, List.set_cons_zero, List.set_cons_succ, List.getElem_toArray, List.getElem_cons_succ, List.getElem_cons_zero]
  go_upto_region 5 with (fail)
  refine wp_region_lit ?_
  refine wpList_pureL rfl (wn n) (fun u => by kernel_rfl) ?_
  refine wpList_fnL rfl 7 (.func 7) #[.tmp 40] #[22] rfl #[] #[wn n] (by kernel_rfl) (by kernel_rfl) (fun u => callFunc_enter _ _ _ _ u Try.func7 (by kernel_rfl) (by kernel_rfl)) (.agg (nc n)) (law_one n w5 HN.out) (fun w6 hb => ?_)
  have Nw6 := Lib.hid (show Mem w w6 [(cx, ac k.c, 30)] from Nw5.out.grow hb)
  clear hb Nw5
  refine wpList_new rfl 26 rfl (.agg (nc 0)) (by rw [nc_zero]; kernel_rfl) ?_
  intro dx w7 hx hx2 hgv hh
  have Nw7 := Lib.hid (show Mem w w7 [(cx, ac k.c, 30), (dx, nc 0, 26)] from Nw6.out.new hgv (Nat.le_of_eq hx) hh)
  clear hx hx2 hgv hh Nw6
  refine wpList_store_blk rfl 26 (.tmp 10) (.tmp 41) rfl dx (by kernel_rfl) _ _ (nc n) (by kernel_rfl) (Nw7.out.at 1 rfl) (by rw [nc_size]; kernel_rfl) (by simp only [nc_size]) (nc_one _) ?_
  intro w8 hw hb hs
  have Nw8 := Lib.hid (show Mem w w8 [(cx, ac k.c, 30), (dx, nc n, 26)] from Nw7.out.store 1 rfl hb hs hw)
  clear hw hb hs Nw7
  refine wpList_nil ?_
  try simp only [Act.put, List.setIfInBounds_toArray, List.set_cons_zero, List.set_cons_succ, List.getElem_toArray, List.getElem_cons_succ, List.getElem_cons_zero]
  go_upto_region 6 with (fail)
  refine wp_region_lit ?_
  refine wpN_load0 rfl (.tmp 10) rfl dx (by kernel_rfl) (Nw8.out.at 1 rfl) ?_
  refine wpList_pureL rfl (.int .i64 (x : Int)) (fun u => by kernel_rfl) ?_
  refine wpList_fnE rfl 8 (.func 8) #[.tmp 43, .const (.int .i64 64), .tmp 44] #[26, 3, 3] rfl #[] #[.agg (nc n), .int .i64 64, .int .i64 (x : Int)] (by kernel_rfl) (by kernel_rfl) (fun u => callFunc_enter _ _ _ _ u Try.func8 (by kernel_rfl) (by kernel_rfl)) (fun v : Value => .tuple #[v, .int .i64 0]) (fun v w' => Ow w' w8.heap.size 3 1 v (cntD 64 x) (dgs n x (cntD 64 x) (cntD 64 x)) ∧ Below w8.heap.size w8 w') (window_digits n 64 x w8 HND.out (by decide) (by decide) HX1.out HX2.out) (fun v u2 hR => ?_)
  have N2 := Lib.hid (MO.join Nw8.out hR.1 hR.2)
  clear hR Nw8
  refine wpList_pureL rfl (.tuple #[v, .int .i64 0]) (fun u => by kernel_rfl) ?_
  refine wpList_pureL rfl (v) (fun u => by kernel_rfl) ?_
  refine wpList_pureL rfl (.int .i64 0) (fun u => by kernel_rfl) ?_
  refine wpList_pureL rfl (v) (fun u => by kernel_rfl) ?_
  refine wpList_pureL rfl (.int .i64 0) (fun u => by kernel_rfl) ?_
  refine wpList_nil ?_
  try simp only [Act.put, List.setIfInBounds_toArray, List.set_cons_zero, List.set_cons_succ, List.getElem_toArray, List.getElem_cons_succ, List.getElem_cons_zero]
  obtain ⟨cd, hcd⟩ : ∃ y, y = cntD 64 x := ⟨_, rfl⟩
  rw [← hcd] at N2
  have HCD := Lib.hid hcd
  clear hcd
  have hcd1 : 1 ≤ cd := by rw [HCD.out]; exact (cnt_le HX1.out (by decide)).1
  have hcd2 : cd ≤ 64 := by rw [HCD.out]; unfold cntD; exact Nat.le_trans (Nat.div_le_div_right (c := x) (show 64 + x - 1 ≤ 64 * x by have := HX1.out; omega)) (by rw [Nat.mul_div_cancel _ (by have := HX1.out; omega)]; exact Nat.le_refl _)
  obtain ⟨gd, cap, rfl, _⟩ := N2.out.o.cell hcd1
  go_upto_region 7 with (fail)
  refine wp_region_lit ?_
  refine wpList_pureL rfl (.int .i64 0) (fun u => by kernel_rfl) ?_
  refine wpList_fnL rfl 9 (.func 9) #[.tmp 48] #[31] rfl #[] #[.int .i64 0] (by kernel_rfl) (by kernel_rfl) (fun u => callFunc_enter _ _ _ _ u Try.func9 (by kernel_rfl) (by kernel_rfl)) (.int .i64 0) (law_num 0 u2) (fun w9 hb => ?_)
  have Nw9 := Lib.hid (show MO 3 1 w w9 [(cx, ac k.c, 30), (dx, nc n, 26)] (.slice (some ⟨gd, 0, none⟩) cd cap) cd (dgs n x cd cd) from N2.out.grow hb)
  clear hb N2
  refine wpList_pureL rfl (.bool false) (fun u => by kernel_rfl) ?_
  refine wpList_pureL rfl (.bool false) (fun u => by kernel_rfl) ?_
  try simp only [Act.put, List.setIfInBounds_toArray, List.set_cons_zero, List.set_cons_succ, List.getElem_toArray, List.getElem_cons_succ, List.getElem_cons_zero]
  refine wpList_wantL (by kernel_rfl) (.int .i64 0) (fun u => by kernel_rfl) ?_
  try simp only [Act.put, List.setIfInBounds_toArray, List.set_cons_zero, List.set_cons_succ, List.getElem_toArray, List.getElem_cons_succ, List.getElem_cons_zero]
  try simp only [Act.put, List.setIfInBounds_toArray, List.set_cons_zero, List.set_cons_succ, List.getElem_toArray, List.getElem_cons_succ, List.getElem_cons_zero]
  refine wpList_fnG (by kernel_rfl) 9 (.func 9) #[.tmp 52] #[31] rfl #[] #[.int .i64 0] (by kernel_rfl) (by kernel_rfl) (fun u => callFunc_enter _ _ _ _ u Try.func9 (by kernel_rfl) (by kernel_rfl)) (.int .i64 0) (law_num 0 w9) (fun w10 hb => ?_)
  have Nw10 := Lib.hid (show MO 3 1 w w10 [(cx, ac k.c, 30), (dx, nc n, 26)] (.slice (some ⟨gd, 0, none⟩) cd cap) cd (dgs n x cd cd) from Nw9.out.grow hb)
  clear hb Nw9
  try simp only [Act.put, List.setIfInBounds_toArray, List.set_cons_zero, List.set_cons_succ, List.getElem_toArray, List.getElem_cons_succ, List.getElem_cons_zero]
  try simp only [Act.put, List.setIfInBounds_toArray, List.set_cons_zero, List.set_cons_succ, List.getElem_toArray, List.getElem_cons_succ, List.getElem_cons_zero]
  refine wpList_wantL (by kernel_rfl) (.bool false) (fun u => by kernel_rfl) ?_
  try simp only [Act.put, List.setIfInBounds_toArray, List.set_cons_zero, List.set_cons_succ, List.getElem_toArray, List.getElem_cons_succ, List.getElem_cons_zero]
  refine wpList_pureL rfl (.bool false) (fun u => by kernel_rfl) ?_
  refine wpList_nil ?_
  try simp only [Act.put, List.setIfInBounds_toArray, List.set_cons_zero, List.set_cons_succ, List.getElem_toArray, List.getElem_cons_succ, List.getElem_cons_zero]
  go_upto_region 9 with (fail)
  refine wp_region_lit ?_
  refine wpList_built rfl 28 #[(2, .const (.bool true))] rfl ((ptc 0 0 true)) (by kernel_rfl) ?_
  refine wpList_new rfl 28 rfl (.agg (ptc 0 0 false)) (by rw [ptc_zero]; kernel_rfl) ?_
  intro px w11 hx hx2 hgv hh
  have Nw11 := Lib.hid (show MO 3 1 w w11 [(cx, ac k.c, 30), (dx, nc n, 26), (px, ptc 0 0 false, 28)] (.slice (some ⟨gd, 0, none⟩) cd cap) cd (dgs n x cd cd) from Nw10.out.new hgv (Nat.le_of_eq hx) hh)
  clear hx hx2 hgv hh Nw10
  refine wpList_store_blk rfl 28 (.tmp 13) (.tmp 56) rfl px (by kernel_rfl) _ _ (ptc 0 0 true) (by kernel_rfl) (Nw11.out.at 2 rfl) (by rw [ptc_size]; kernel_rfl) (by simp only [ptc_size]) (ptc_one _ _ _) ?_
  intro w12 hw hb hs
  have Nw12 := Lib.hid (show MO 3 1 w w12 [(cx, ac k.c, 30), (dx, nc n, 26), (px, ptc 0 0 true, 28)] (.slice (some ⟨gd, 0, none⟩) cd cap) cd (dgs n x cd cd) from Nw11.out.store 2 rfl hb hs hw)
  clear hw hb hs Nw11
  refine wpList_nil ?_
  try simp only [Act.put, List.setIfInBounds_toArray, List.set_cons_zero, List.set_cons_succ, List.getElem_toArray, List.getElem_cons_succ, List.getElem_cons_zero]
  have NP := Nw12
  rw [HG0.out] at NP
  clear Nw12
  go_upto_region 10 with (fail)
  refine wp_region_lit ?_
  refine wpList_pureL rfl (.int .i64 0) (fun u => by kernel_rfl) ?_
  refine wpList_nil ?_
  try simp only [Act.put, List.setIfInBounds_toArray, List.set_cons_zero, List.set_cons_succ, List.getElem_toArray, List.getElem_cons_succ, List.getElem_cons_zero]
  go_upto_region 11 with (fail)
  go_loopw [14] (fun iv wr => ∃ i : Nat, i ≤ cd ∧ iv = .int .i64 (i : Int) ∧ MO 3 1 w wr [(cx, ac k.c, 30), (dx, nc n, 26), (px, gpt k (preW n x cd i), 28)] (.slice (some ⟨gd, 0, none⟩) cd cap) cd (dgs n x cd cd)) (fun iv _ => (cd - intOf iv).toNat)
  case atStart => exact ⟨0, Nat.zero_le _, rfl, by have h := NP.out; rw [HCD.out, preW_zero HND.out (by decide) HX1.out, ← HCD.out]; exact h⟩
  case round =>
    obtain ⟨i, hi, rfl, hm⟩ := hrel
    have M := Lib.hid hm
    clear hm NP
    by_cases hlt : i < cd
    · skip
      have HI := Lib.hid hlt
      have dl : decide ((i : Int) < cd) = true := decide_eq_true (by omega)
      obtain ⟨dg, hdg⟩ : ∃ y, y = dgt n x (cd - 1 - i) := ⟨_, rfl⟩
      have HDG := Lib.hid hdg
      clear hdg
      obtain ⟨pi, hpi⟩ : ∃ y, y = preW n x cd i := ⟨_, rfl⟩
      have HPI := Lib.hid hpi
      rw [← hpi] at M
      clear hpi
      have HDX := Lib.hid (show dg < 2 ^ x by rw [HDG.out]; exact dgt_lt _ _ _)
      have HDW := Lib.hid (show dg < 18446744073709551616 from Nat.lt_trans HDX.out (Nat.pow_lt_pow_right (by decide) (show x < 64 by have := HX2.out; omega)))
      have HD9 := Lib.hid (show dg < pw 9 from Nat.lt_of_lt_of_le HDW.out (by unfold pw; exact Nat.le_self_pow (by decide) _))
      go_upto_region 14 with (fail)
      go_loopw [15] (fun jv wr => ∃ j : Nat, j ≤ x ∧ jv = .int .i64 (j : Int) ∧ MO 3 1 w wr [(cx, ac k.c, 30), (dx, nc n, 26), (px, gpt k (2 ^ j * pi), 28)] (.slice (some ⟨gd, 0, none⟩) cd cap) cd (dgs n x cd cd)) (fun jv _ => (x - intOf jv).toNat)
      case atStart => exact ⟨0, Nat.zero_le _, rfl, by rw [Nat.pow_zero, Nat.one_mul]; exact M.out⟩
      case round =>
          obtain ⟨j, hj, rfl, hm⟩ := hrel
          have M2 := Lib.hid hm
          clear hm M
          obtain ⟨pj, hpj⟩ : ∃ y, y = 2 ^ j * pi := ⟨_, rfl⟩
          have HPJ := Lib.hid hpj
          rw [← hpj] at M2
          clear hpj
          by_cases hlj : j < x
          · skip
            have djl : decide ((j : Int) < x) = true := decide_eq_true (by omega)
            have hjv : j < 6 := by have := HX2.out; omega
            go_upto_region 16 with (fail)
            refine wp_region_lit ?_
            refine wpList_pureL rfl (.pointer (some ⟨cx, 0, none⟩)) (fun u => by kernel_rfl) ?_
            refine wpList_load_cell rfl 3 (.tmp 69) rfl cx 0 (by kernel_rfl) (.int .i64 (k.1 : Int)) _ Try.underlying3 rfl ((cell_of (M2.out.at 0 rfl) 0).trans (ac_idk _)) ?_
            refine wpList_load_seg rfl 28 (.tmp 13) rfl px 0 19 (by kernel_rfl) _ _ (gpt k pj) _ _ (M2.out.at 2 rfl) Try.underlying28 rfl (by kernel_rfl) (gpt_size _ _) (fun j hj => by rw [Nat.zero_add]) ?_
            refine wpList_load_seg rfl 28 (.tmp 13) rfl px 0 19 (by kernel_rfl) _ _ (gpt k pj) _ _ (M2.out.at 2 rfl) Try.underlying28 rfl (by kernel_rfl) (gpt_size _ _) (fun j hj => by rw [Nat.zero_add]) ?_
            refine wpList_fnL rfl 10 (.func 10) #[.tmp 70, .tmp 71, .tmp 72] #[3, 28, 28] rfl #[] #[.int .i64 (k.1 : Int), .agg (gpt k pj), .agg (gpt k pj)] (by kernel_rfl) (by kernel_rfl) (fun u => callFunc_enter _ _ _ _ u Try.func10 (by kernel_rfl) (by kernel_rfl)) (.tuple #[.agg (gpt k (pj + pj)), .int .i64 0]) (affine_add k pj pj wr) (fun w13 hb => ?_)
            have Nw13 := Lib.hid (show MO 3 1 w w13 [(cx, ac k.c, 30), (dx, nc n, 26), (px, gpt k pj, 28)] (.slice (some ⟨gd, 0, none⟩) cd cap) cd (dgs n x cd cd) from M2.out.grow hb)
            clear hb M2
            refine wpList_pureL rfl (.tuple #[.agg (gpt k (pj + pj)), .int .i64 0]) (fun u => by kernel_rfl) ?_
            refine wpList_pureL rfl (.agg (gpt k (pj + pj))) (fun u => by kernel_rfl) ?_
            refine wpList_pureL rfl (.int .i64 0) (fun u => by kernel_rfl) ?_
            refine wpList_new rfl 28 rfl (.agg (ptc 0 0 false)) (by rw [ptc_zero]; kernel_rfl) ?_
            intro qx w14 hx hx2 hgv hh
            have Nw14 := Lib.hid (show MO 3 1 w w14 [(cx, ac k.c, 30), (dx, nc n, 26), (px, gpt k pj, 28), (qx, ptc 0 0 false, 28)] (.slice (some ⟨gd, 0, none⟩) cd cap) cd (dgs n x cd cd) from Nw13.out.new hgv (Nat.le_of_eq hx) hh)
            clear hx hx2 hgv hh Nw13
            refine wpList_store_blk rfl 28 (.tmp 16) (.tmp 74) rfl qx (by kernel_rfl) _ _ (gpt k (pj + pj)) (by kernel_rfl) (Nw14.out.at 3 rfl) (by rw [gpt_size]; kernel_rfl) (by simp only [gpt_size, ptc_size]) (gpt_one _ _) ?_
            intro w15 hw hb hs
            have Nw15 := Lib.hid (show MO 3 1 w w15 [(cx, ac k.c, 30), (dx, nc n, 26), (px, gpt k pj, 28), (qx, gpt k (pj + pj), 28)] (.slice (some ⟨gd, 0, none⟩) cd cap) cd (dgs n x cd cd) from Nw14.out.store 3 rfl hb hs hw)
            clear hw hb hs Nw14
            refine wpList_pureL rfl (.int .i64 0) (fun u => by kernel_rfl) ?_
            refine wpList_nil ?_
            try simp only [Act.put, List.setIfInBounds_toArray, List.set_cons_zero, List.set_cons_succ, List.getElem_toArray, List.getElem_cons_succ, List.getElem_cons_zero]
            go_upto_region 17 with (fail)
            refine wp_region_lit ?_
            refine wpList_pureL rfl (.int .i64 0) (fun u => by kernel_rfl) ?_
            refine wpList_fnL rfl 9 (.func 9) #[.tmp 76] #[31] rfl #[] #[.int .i64 0] (by kernel_rfl) (by kernel_rfl) (fun u => callFunc_enter _ _ _ _ u Try.func9 (by kernel_rfl) (by kernel_rfl)) (.int .i64 0) (law_num 0 w15) (fun w16 hb => ?_)
            have Nw16 := Lib.hid (show MO 3 1 w w16 [(cx, ac k.c, 30), (dx, nc n, 26), (px, gpt k pj, 28), (qx, gpt k (pj + pj), 28)] (.slice (some ⟨gd, 0, none⟩) cd cap) cd (dgs n x cd cd) from Nw15.out.grow hb)
            clear hb Nw15
            refine wpList_pureL rfl (.bool false) (fun u => by kernel_rfl) ?_
            refine wpList_nil ?_
            try simp only [Act.put, List.setIfInBounds_toArray, List.set_cons_zero, List.set_cons_succ, List.getElem_toArray, List.getElem_cons_succ, List.getElem_cons_zero]
            go_upto_region 19 with (fail)
            refine wp_region_lit ?_
            refine wpList_load_seg rfl 28 (.tmp 16) rfl qx 0 19 (by kernel_rfl) _ _ (gpt k (pj + pj)) _ _ (Nw16.out.at 3 rfl) Try.underlying28 rfl (by kernel_rfl) (gpt_size _ _) (fun j hj => by rw [Nat.zero_add]) ?_
            refine wpList_store_blk rfl 28 (.tmp 13) (.tmp 79) rfl px (by kernel_rfl) _ _ (gpt k (pj + pj)) (by kernel_rfl) (Nw16.out.at 2 rfl) (by rw [gpt_size]; kernel_rfl) (by simp only [gpt_size, ptc_size]) (gpt_one _ _) ?_
            intro w17 hw hb hs
            have Nw17 := Lib.hid (show MO 3 1 w w17 [(cx, ac k.c, 30), (dx, nc n, 26), (px, gpt k (pj + pj), 28), (qx, gpt k (pj + pj), 28)] (.slice (some ⟨gd, 0, none⟩) cd cap) cd (dgs n x cd cd) from Nw16.out.store 2 rfl hb hs hw)
            clear hw hb hs Nw16
            refine wpList_nil ?_
            try simp only [Act.put, List.setIfInBounds_toArray, List.set_cons_zero, List.set_cons_succ, List.getElem_toArray, List.getElem_cons_succ, List.getElem_cons_zero]
            go_wp2_with (fail)
            go_roundw
            case rel => exact ⟨j + 1, by omega, by go_num, by have h := Nw17.out.take 3; rw [show pj + pj = 2 ^ (j + 1) * pi by rw [HPJ.out, Nat.pow_succ, Nat.mul_assoc, Nat.mul_comm 2, ← Nat.mul_assoc, Nat.mul_comm _ 2, Nat.two_mul]] at h; exact h⟩
            case measure => simp [intOf]; omega
          · obtain rfl : j = x := by omega
            have djl : decide ((j : Int) < j) = false := decide_eq_false (by omega)
            go_upto_region 20 with (fail)
            go_upto_region 20 with (fail)
            have D61 := Lib.hid (M2.out.drew)
            clear M2
            refine wp_region_grow 14 15 (by kernel_rfl) (by kernel_rfl) (fun d v c a w h => by cases d <;> exact h) ?_
            simp only [List.take_succ_cons, List.take_zero]
            refine wpGrow_pure rfl (.pointer (some ⟨cx, 0, none⟩)) (fun u => by kernel_rfl) ?_
            refine wpGrow_load_cell rfl 3 (.tmp 81) rfl cx 0 (by kernel_rfl) (.int .i64 (k.1 : Int)) _ Try.underlying3 rfl (fun u hu => (cell_of (D61.out.up 0 rfl hu) 0).trans (ac_idk _)) ?_
            refine wpGrow_pure rfl (.slice (some ⟨gd, 0, none⟩) cd cap) (fun u => by kernel_rfl) ?_
            refine wpGrow_pure rfl (.int .i64 (i : Int)) (fun u => by kernel_rfl) ?_
            refine wpGrow_pure rfl (.pointer (some ⟨gd, i * 1, none⟩)) (fun u => by exact idx_slice 36 (.tmp 83) (.tmp 84) rfl gd cd cap i 1 (by kernel_rfl) (by kernel_rfl) HI.out Try.underlying36 (by kernel_rfl) u) ?_
            refine wpGrow_load_cell rfl 3 (.tmp 85) rfl gd (i * 1) (by kernel_rfl) (.int .i64 ((dg : Nat) : Int)) _ Try.underlying3 rfl (fun u hu => by rw [Nat.mul_one, HDG.out]; exact (D61.out.o.below hu).get1 HI.out (dgs_get n _ cd cd i HI.out)) ?_
            refine wpGrow_pure rfl (wn dg) (fun u => by exact conv_wn 3 22 (.tmp 86) rfl dg (by kernel_rfl) HDW.out Try.underlying3 Try.underlying22 u) ?_
            refine wpGrow_fn rfl 7 (.func 7) #[.tmp 87] #[22] rfl #[] #[wn dg] (by kernel_rfl) (by kernel_rfl) (fun u => callFunc_enter _ _ _ _ u Try.func7 (by kernel_rfl) (by kernel_rfl)) (.agg (nc dg)) (fun u hu => by exact law_one dg u HDW.out) ?_
            refine wpGrow_pure rfl (.pointer (some ⟨cx, 37, none⟩)) (fun u => by kernel_rfl) ?_
            refine wpGrow_load_seg rfl 28 (.tmp 89) rfl cx 37 19 (by kernel_rfl) (gpt k 1) _ Try.underlying28 rfl (by kernel_rfl) (gpt_size _ _) (fun u hu => D61.out.up 0 rfl hu) (fun j hj => by rw [gpt_g]; exact ac_g _ j hj) ?_
            refine wpGrow_fn rfl 11 (.func 11) #[.tmp 82, .tmp 88, .tmp 90] #[3, 26, 28] rfl #[] #[.int .i64 (k.1 : Int), .agg (nc dg), .agg (gpt k 1)] (by kernel_rfl) (by kernel_rfl) (fun u => callFunc_enter _ _ _ _ u Try.func11 (by kernel_rfl) (by kernel_rfl)) (.tuple #[.agg (gpt k (dg * 1)), .int .i64 0]) (fun u hu => by exact affine_mul k dg 1 u HD9.out) ?_
            refine wpGrow_pure rfl (.tuple #[.agg (gpt k (dg * 1)), .int .i64 0]) (fun u => by kernel_rfl) ?_
            refine wpGrow_pure rfl (.agg (gpt k (dg * 1))) (fun u => by kernel_rfl) ?_
            refine wpGrow_pure rfl (.int .i64 0) (fun u => by kernel_rfl) ?_
            refine wpGrow_nil ?_
            try simp only [Act.put, List.setIfInBounds_toArray, List.set_cons_zero, List.set_cons_succ, List.getElem_toArray, List.getElem_cons_succ, List.getElem_cons_zero]
            refine grow_alloc (i := 14) (f := 2) (by kernel_rfl) (by decide) rfl rfl 28 rfl (.agg (ptc 0 0 false)) (by rw [ptc_zero]; kernel_rfl) ?_
            intro qx v62 hx hx2 hgv hh
            have Nv62 := Lib.hid (D61.out.new hgv hx hh)
            have Nv62 : Hid (MO 3 1 w v62 [(cx, ac k.c, 30), (dx, nc n, 26), (px, gpt k pj, 28), (qx, ptc 0 0 false, 28)] (.slice (some ⟨gd, 0, none⟩) cd cap) cd (dgs n j cd cd)) := Nv62
            clear hgv hx hx2 hh D61
            try simp only [Act.put, List.setIfInBounds_toArray, List.set_cons_zero, List.set_cons_succ, List.getElem_toArray, List.getElem_cons_succ, List.getElem_cons_zero]
            refine grow_stores (rs := [15]) (by kernel_rfl) (by decide) (fun w63 hg6 => ?_)
            have Nw63 := Lib.hid (Nv62.out.grow hg6)
            clear hg6 Nv62
            refine wpAny_ready (rs := [15]) (by kernel_rfl) (by simp) ?_
            refine AllReady.cons rfl (fun K hK => ?_) AllReady.nil
            refine step_store_blk rfl 28 (.tmp 18) (.tmp 92) rfl qx rfl _ _ _ rfl (Nw63.out.at 3 rfl) (by rw [gpt_size]; kernel_rfl) (by simp only [gpt_size, ptc_size]) (gpt_one _ _) (fun w64 hw hb hs => hK _ _ ?_)
            have Nw64 := Lib.hid (show MO 3 1 w w64 [(cx, ac k.c, 30), (dx, nc n, 26), (px, gpt k pj, 28), (qx, gpt k (dg * 1), 28)] (.slice (some ⟨gd, 0, none⟩) cd cap) cd (dgs n j cd cd) from Nw63.out.store 3 rfl hb hs hw)
            clear hK hw hb hs Nw63
            try simp only [Act.put, List.setIfInBounds_toArray, List.set_cons_zero, List.set_cons_succ, List.getElem_toArray, List.getElem_cons_succ, List.getElem_cons_zero]
            refine wpAny_ready (rs := [16]) (by kernel_rfl) (by simp) ?_
            refine AllReady.cons rfl (fun K hK => ?_) AllReady.nil
            go_simp
            refine hK _ _ ?_
            clear hK
            try simp only [Act.put, List.setIfInBounds_toArray, List.set_cons_zero, List.set_cons_succ, List.getElem_toArray, List.getElem_cons_succ, List.getElem_cons_zero]
            refine wpAny_done (by kernel_rfl) ?_ _
            try simp only [Act.put, List.setIfInBounds_toArray, List.set_cons_zero, List.set_cons_succ, List.getElem_toArray, List.getElem_cons_succ, List.getElem_cons_zero]
            go_upto_region 21 with (fail)
            refine wp_region_lit ?_
            refine wpList_pureL rfl (.pointer (some ⟨cx, 0, none⟩)) (fun u => by kernel_rfl) ?_
            refine wpList_load_cell rfl 3 (.tmp 95) rfl cx 0 (by kernel_rfl) (.int .i64 (k.1 : Int)) _ Try.underlying3 rfl ((cell_of (Nw64.out.at 0 rfl) 0).trans (ac_idk _)) ?_
            refine wpList_load_seg rfl 28 (.tmp 13) rfl px 0 19 (by kernel_rfl) _ _ (gpt k pj) _ _ (Nw64.out.at 2 rfl) Try.underlying28 rfl (by kernel_rfl) (gpt_size _ _) (fun j hj => by rw [Nat.zero_add]) ?_
            refine wpList_load_seg rfl 28 (.tmp 18) rfl qx 0 19 (by kernel_rfl) _ _ (gpt k (dg * 1)) _ _ (Nw64.out.at 3 rfl) Try.underlying28 rfl (by kernel_rfl) (gpt_size _ _) (fun j hj => by rw [Nat.zero_add]) ?_
            refine wpList_fnL rfl 10 (.func 10) #[.tmp 96, .tmp 97, .tmp 98] #[3, 28, 28] rfl #[] #[.int .i64 (k.1 : Int), .agg (gpt k pj), .agg (gpt k (dg * 1))] (by kernel_rfl) (by kernel_rfl) (fun u => callFunc_enter _ _ _ _ u Try.func10 (by kernel_rfl) (by kernel_rfl)) (.tuple #[.agg (gpt k (pj + dg * 1)), .int .i64 0]) (affine_add k pj (dg * 1) w64) (fun w65 hb => ?_)
            have Nw65 := Lib.hid (show MO 3 1 w w65 [(cx, ac k.c, 30), (dx, nc n, 26), (px, gpt k pj, 28), (qx, gpt k (dg * 1), 28)] (.slice (some ⟨gd, 0, none⟩) cd cap) cd (dgs n j cd cd) from Nw64.out.grow hb)
            clear hb Nw64
            refine wpList_pureL rfl (.tuple #[.agg (gpt k (pj + dg * 1)), .int .i64 0]) (fun u => by kernel_rfl) ?_
            refine wpList_pureL rfl (.agg (gpt k (pj + dg * 1))) (fun u => by kernel_rfl) ?_
            refine wpList_pureL rfl (.int .i64 0) (fun u => by kernel_rfl) ?_
            refine wpList_new rfl 28 rfl (.agg (ptc 0 0 false)) (by rw [ptc_zero]; kernel_rfl) ?_
            intro rx w66 hx hx2 hgv hh
            have Nw66 := Lib.hid (show MO 3 1 w w66 [(cx, ac k.c, 30), (dx, nc n, 26), (px, gpt k pj, 28), (qx, gpt k (dg * 1), 28), (rx, ptc 0 0 false, 28)] (.slice (some ⟨gd, 0, none⟩) cd cap) cd (dgs n j cd cd) from Nw65.out.new hgv (Nat.le_of_eq hx) hh)
            clear hx hx2 hgv hh Nw65
            refine wpList_store_blk rfl 28 (.tmp 20) (.tmp 100) rfl rx (by kernel_rfl) _ _ (gpt k (pj + dg * 1)) (by kernel_rfl) (Nw66.out.at 4 rfl) (by rw [gpt_size]; kernel_rfl) (by simp only [gpt_size, ptc_size]) (gpt_one _ _) ?_
            intro w67 hw hb hs
            have Nw67 := Lib.hid (show MO 3 1 w w67 [(cx, ac k.c, 30), (dx, nc n, 26), (px, gpt k pj, 28), (qx, gpt k (dg * 1), 28), (rx, gpt k (pj + dg * 1), 28)] (.slice (some ⟨gd, 0, none⟩) cd cap) cd (dgs n j cd cd) from Nw66.out.store 4 rfl hb hs hw)
            clear hw hb hs Nw66
            refine wpList_pureL rfl (.int .i64 0) (fun u => by kernel_rfl) ?_
            refine wpList_nil ?_
            try simp only [Act.put, List.setIfInBounds_toArray, List.set_cons_zero, List.set_cons_succ, List.getElem_toArray, List.getElem_cons_succ, List.getElem_cons_zero]
            go_upto_region 22 with (fail)
            refine wp_region_lit ?_
            refine wpList_pureL rfl (.int .i64 0) (fun u => by kernel_rfl) ?_
            refine wpList_fnL rfl 9 (.func 9) #[.tmp 102] #[31] rfl #[] #[.int .i64 0] (by kernel_rfl) (by kernel_rfl) (fun u => callFunc_enter _ _ _ _ u Try.func9 (by kernel_rfl) (by kernel_rfl)) (.int .i64 0) (law_num 0 w67) (fun w68 hb => ?_)
            have Nw68 := Lib.hid (show MO 3 1 w w68 [(cx, ac k.c, 30), (dx, nc n, 26), (px, gpt k pj, 28), (qx, gpt k (dg * 1), 28), (rx, gpt k (pj + dg * 1), 28)] (.slice (some ⟨gd, 0, none⟩) cd cap) cd (dgs n j cd cd) from Nw67.out.grow hb)
            clear hb Nw67
            refine wpList_pureL rfl (.bool false) (fun u => by kernel_rfl) ?_
            refine wpList_pureL rfl (.bool false) (fun u => by kernel_rfl) ?_
            try simp only [Act.put, List.setIfInBounds_toArray, List.set_cons_zero, List.set_cons_succ, List.getElem_toArray, List.getElem_cons_succ, List.getElem_cons_zero]
            refine wpList_wantL (by kernel_rfl) (.int .i64 0) (fun u => by kernel_rfl) ?_
            try simp only [Act.put, List.setIfInBounds_toArray, List.set_cons_zero, List.set_cons_succ, List.getElem_toArray, List.getElem_cons_succ, List.getElem_cons_zero]
            try simp only [Act.put, List.setIfInBounds_toArray, List.set_cons_zero, List.set_cons_succ, List.getElem_toArray, List.getElem_cons_succ, List.getElem_cons_zero]
            refine wpList_fnG (by kernel_rfl) 9 (.func 9) #[.tmp 106] #[31] rfl #[] #[.int .i64 0] (by kernel_rfl) (by kernel_rfl) (fun u => callFunc_enter _ _ _ _ u Try.func9 (by kernel_rfl) (by kernel_rfl)) (.int .i64 0) (law_num 0 w68) (fun w69 hb => ?_)
            have Nw69 := Lib.hid (show MO 3 1 w w69 [(cx, ac k.c, 30), (dx, nc n, 26), (px, gpt k pj, 28), (qx, gpt k (dg * 1), 28), (rx, gpt k (pj + dg * 1), 28)] (.slice (some ⟨gd, 0, none⟩) cd cap) cd (dgs n j cd cd) from Nw68.out.grow hb)
            clear hb Nw68
            try simp only [Act.put, List.setIfInBounds_toArray, List.set_cons_zero, List.set_cons_succ, List.getElem_toArray, List.getElem_cons_succ, List.getElem_cons_zero]
            try simp only [Act.put, List.setIfInBounds_toArray, List.set_cons_zero, List.set_cons_succ, List.getElem_toArray, List.getElem_cons_succ, List.getElem_cons_zero]
            refine wpList_wantL (by kernel_rfl) (.bool false) (fun u => by kernel_rfl) ?_
            try simp only [Act.put, List.setIfInBounds_toArray, List.set_cons_zero, List.set_cons_succ, List.getElem_toArray, List.getElem_cons_succ, List.getElem_cons_zero]
            refine wpList_pureL rfl (.bool false) (fun u => by kernel_rfl) ?_
            refine wpList_nil ?_
            try simp only [Act.put, List.setIfInBounds_toArray, List.set_cons_zero, List.set_cons_succ, List.getElem_toArray, List.getElem_cons_succ, List.getElem_cons_zero]
            go_upto_region 24 with (fail)
            refine wp_region_lit ?_
            refine wpList_load_seg rfl 28 (.tmp 20) rfl rx 0 19 (by kernel_rfl) _ _ (gpt k (pj + dg * 1)) _ _ (Nw69.out.at 4 rfl) Try.underlying28 rfl (by kernel_rfl) (gpt_size _ _) (fun j hj => by rw [Nat.zero_add]) ?_
            refine wpList_store_blk rfl 28 (.tmp 13) (.tmp 110) rfl px (by kernel_rfl) _ _ (gpt k (pj + dg * 1)) (by kernel_rfl) (Nw69.out.at 2 rfl) (by rw [gpt_size]; kernel_rfl) (by simp only [gpt_size, ptc_size]) (gpt_one _ _) ?_
            intro w70 hw hb hs
            have Nw70 := Lib.hid (show MO 3 1 w w70 [(cx, ac k.c, 30), (dx, nc n, 26), (px, gpt k (pj + dg * 1), 28), (qx, gpt k (dg * 1), 28), (rx, gpt k (pj + dg * 1), 28)] (.slice (some ⟨gd, 0, none⟩) cd cap) cd (dgs n j cd cd) from Nw69.out.store 2 rfl hb hs hw)
            clear hw hb hs Nw69
            refine wpList_nil ?_
            try simp only [Act.put, List.setIfInBounds_toArray, List.set_cons_zero, List.set_cons_succ, List.getElem_toArray, List.getElem_cons_succ, List.getElem_cons_zero]
            have hiv : i < 64 := by omega
            go_wp2_with (fail)
            go_roundw
            case rel => exact ⟨i + 1, by omega, by go_num, by have h := Nw70.out.take 3; rw [show pj + dg * 1 = preW n j cd (i + 1) by rw [preW_succ n j cd i HI.out, HPJ.out, HPI.out, HDG.out, Nat.mul_one]] at h; exact h⟩
            case measure => simp [intOf]; omega
    · obtain rfl : i = cd := by omega
      have dl : decide ((i : Int) < i) = false := decide_eq_false (by omega)
      rw [preW_all] at M
      go_upto_region 25 with (fail)
      refine wp_region_lit ?_
      refine wpList_pureL rfl (.pointer (some ⟨cx, 0, none⟩)) (fun u => by kernel_rfl) ?_
      refine wpList_load_cell rfl 3 (.tmp 112) rfl cx 0 (by kernel_rfl) (.int .i64 (k.1 : Int)) _ Try.underlying3 rfl ((cell_of (M.out.at 0 rfl) 0).trans (ac_idk _)) ?_
      refine wpN_load0 rfl (.tmp 10) rfl dx (by kernel_rfl) (M.out.at 1 rfl) ?_
      refine wpList_pureL rfl (.pointer (some ⟨cx, 37, none⟩)) (fun u => by kernel_rfl) ?_
      refine wpList_load_seg rfl 28 (.tmp 115) rfl cx 37 19 (by kernel_rfl) _ _ (gpt k 1) _ _ (M.out.at 0 rfl) Try.underlying28 rfl (by kernel_rfl) (gpt_size _ _) (fun j hj => by rw [gpt_g]; exact ac_g _ j hj) ?_
      refine wpList_fnL rfl 11 (.func 11) #[.tmp 113, .tmp 114, .tmp 116] #[3, 26, 28] rfl #[] #[.int .i64 (k.1 : Int), .agg (nc n), .agg (gpt k 1)] (by kernel_rfl) (by kernel_rfl) (fun u => callFunc_enter _ _ _ _ u Try.func11 (by kernel_rfl) (by kernel_rfl)) (.tuple #[.agg (gpt k (n * 1)), .int .i64 0]) (affine_mul k n 1 wr HN9.out) (fun w101 hb => ?_)
      have Nw101 := Lib.hid (show MO 3 1 w w101 [(cx, ac k.c, 30), (dx, nc n, 26), (px, gpt k n, 28)] (.slice (some ⟨gd, 0, none⟩) i cap) i (dgs n x i i) from M.out.grow hb)
      clear hb M
      refine wpList_pureL rfl (.tuple #[.agg (gpt k (n * 1)), .int .i64 0]) (fun u => by kernel_rfl) ?_
      refine wpList_pureL rfl (.agg (gpt k (n * 1))) (fun u => by kernel_rfl) ?_
      refine wpList_pureL rfl (.int .i64 0) (fun u => by kernel_rfl) ?_
      refine wpList_new rfl 28 rfl (.agg (ptc 0 0 false)) (by rw [ptc_zero]; kernel_rfl) ?_
      intro wx w102 hx hx2 hgv hh
      have Nw102 := Lib.hid (show MO 3 1 w w102 [(cx, ac k.c, 30), (dx, nc n, 26), (px, gpt k n, 28), (wx, ptc 0 0 false, 28)] (.slice (some ⟨gd, 0, none⟩) i cap) i (dgs n x i i) from Nw101.out.new hgv (Nat.le_of_eq hx) hh)
      clear hx hx2 hgv hh Nw101
      refine wpList_store_blk rfl 28 (.tmp 22) (.tmp 118) rfl wx (by kernel_rfl) _ _ (gpt k (n * 1)) (by kernel_rfl) (Nw102.out.at 3 rfl) (by rw [gpt_size]; kernel_rfl) (by simp only [gpt_size, ptc_size]) (gpt_one _ _) ?_
      intro w103 hw hb hs
      have Nw103 := Lib.hid (show MO 3 1 w w103 [(cx, ac k.c, 30), (dx, nc n, 26), (px, gpt k n, 28), (wx, gpt k (n * 1), 28)] (.slice (some ⟨gd, 0, none⟩) i cap) i (dgs n x i i) from Nw102.out.store 3 rfl hb hs hw)
      clear hw hb hs Nw102
      refine wpList_pureL rfl (.int .i64 0) (fun u => by kernel_rfl) ?_
      refine wpList_nil ?_
      try simp only [Act.put, List.setIfInBounds_toArray, List.set_cons_zero, List.set_cons_succ, List.getElem_toArray, List.getElem_cons_succ, List.getElem_cons_zero]
      go_upto_region 26 with (fail)
      refine wp_region_lit ?_
      refine wpList_pureL rfl (.int .i64 0) (fun u => by kernel_rfl) ?_
      refine wpList_fnL rfl 9 (.func 9) #[.tmp 120] #[31] rfl #[] #[.int .i64 0] (by kernel_rfl) (by kernel_rfl) (fun u => callFunc_enter _ _ _ _ u Try.func9 (by kernel_rfl) (by kernel_rfl)) (.int .i64 0) (law_num 0 w103) (fun w104 hb => ?_)
      have Nw104 := Lib.hid (show MO 3 1 w w104 [(cx, ac k.c, 30), (dx, nc n, 26), (px, gpt k n, 28), (wx, gpt k (n * 1), 28)] (.slice (some ⟨gd, 0, none⟩) i cap) i (dgs n x i i) from Nw103.out.grow hb)
      clear hb Nw103
      refine wpList_pureL rfl (.bool true) (fun u => by kernel_rfl) ?_
      refine wpList_pureL rfl (.bool true) (fun u => by kernel_rfl) ?_
      try simp only [Act.put, List.setIfInBounds_toArray, List.set_cons_zero, List.set_cons_succ, List.getElem_toArray, List.getElem_cons_succ, List.getElem_cons_zero]
      refine wpList_segG (by kernel_rfl) 28 (.tmp 13) rfl px 0 19 (by kernel_rfl) (gpt k n) (Nw104.out.at 2 rfl) _ Try.underlying28 rfl (by kernel_rfl) (gpt_size _ _) (fun j hj => by rw [Nat.zero_add]) ?_
      try simp only [Act.put, List.setIfInBounds_toArray, List.set_cons_zero, List.set_cons_succ, List.getElem_toArray, List.getElem_cons_succ, List.getElem_cons_zero]
      try simp only [Act.put, List.setIfInBounds_toArray, List.set_cons_zero, List.set_cons_succ, List.getElem_toArray, List.getElem_cons_succ, List.getElem_cons_zero]
      refine wpList_segG (by kernel_rfl) 28 (.tmp 22) rfl wx 0 19 (by kernel_rfl) (gpt k (n * 1)) (Nw104.out.at 3 rfl) _ Try.underlying28 rfl (by kernel_rfl) (gpt_size _ _) (fun j hj => by rw [Nat.zero_add]) ?_
      try simp only [Act.put, List.setIfInBounds_toArray, List.set_cons_zero, List.set_cons_succ, List.getElem_toArray, List.getElem_cons_succ, List.getElem_cons_zero]
      try simp only [Act.put, List.setIfInBounds_toArray, List.set_cons_zero, List.set_cons_succ, List.getElem_toArray, List.getElem_cons_succ, List.getElem_cons_zero]
      refine wpList_wantL (by kernel_rfl) (.bool true) (fun u => by exact run_eqp _ _ _ rfl k n (n * 1) (by kernel_rfl) (by kernel_rfl) true (decide_eq_true (by rw [Nat.mul_one])) u) ?_
      try simp only [Act.put, List.setIfInBounds_toArray, List.set_cons_zero, List.set_cons_succ, List.getElem_toArray, List.getElem_cons_succ, List.getElem_cons_zero]
      refine wpList_pureL rfl (.bool true) (fun u => by kernel_rfl) ?_
      refine wpList_pureL rfl (.bool true) (fun u => by kernel_rfl) ?_
      refine wpList_nil ?_
      try simp only [Act.put, List.setIfInBounds_toArray, List.set_cons_zero, List.set_cons_succ, List.getElem_toArray, List.getElem_cons_succ, List.getElem_cons_zero]
      go_wp2_with (fail)
      go_ret
      exact ⟨rfl, Nw104.out.below⟩
end Go.Proofs.Ytkoonhiplicbkaa.Cw

set_option linter.unusedSimpArgs false
set_option linter.unusedVariables false
namespace Go.Proofs.Ytkoonhiplicbkaa.Cw
open Go Go.RowKit
theorem wn_of_wf {a : Int} (h : (Lit.int .u64 a).wf = true) : ∃ n : Nat, n < 18446744073709551616 ∧ Value.int .u64 a = wn n := by
  simp only [Lit.wf, IntKind.min, IntKind.max, IntKind.bits, IntKind.signed, Bool.and_eq_true, decide_eq_true_eq] at h
  have h2 : 0 ≤ a ∧ a < 18446744073709551616 := by
    simp at h
    omega
  obtain ⟨n, rfl⟩ : ∃ n : Nat, a = (n : Int) := ⟨a.toNat, by omega⟩
  exact ⟨n, by omega, rfl⟩
theorem windows_row (a0 a1 a2 : Int) (w : World) (_ : (Lit.int .i64 a0).wf = true) (h : (Lit.int .u64 a1).wf = true) (_ : (Lit.int .i64 a2).wf = true) : Calls Try.prog 3 #[.int .i64 a0, .int .u64 a1, .int .i64 a2] w fun e w' => e = .returned (.bool true) ∧ Below w.heap.size w w' := by
  obtain ⟨n, hn, e⟩ := wn_of_wf h
  rw [e]
  exact windows_walk a0 n a2 w hn
end Go.Proofs.Ytkoonhiplicbkaa.Cw
