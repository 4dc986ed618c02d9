/-
  (package curvettop) TopProducts: all four ways to a product come to one point. No condition but that words are words.
-/
import Derived.Test.YtkoonhiplicbkaaPrj
set_option linter.unusedSimpArgs false
set_option linter.unusedVariables false
namespace Go.Proofs.Ytkoonhiplicbkaa.Cw
open Go Go.RowKit
/-- a whole number as a word -/
def uw (a : Int) : Nat := (a % 18446744073709551616).toNat
theorem uw_lt (a : Int) : uw a < 18446744073709551616 := by unfold uw; omega
theorem uw_wrap (a : Int) : Value.int .u64 (IntKind.u64.wrap a) = wn (uw a) := by
  have h : IntKind.u64.wrap a = ((uw a : Nat) : Int) := by
    simp only [IntKind.wrap, IntKind.bits, IntKind.signed, uw]
    simp
    omega
  rw [h]; rfl
theorem conv_uw {P : Program} {ρ : Operand → Value} {o : Oper} (src dst : TypeId) (x : Operand) (ho : o.op = .convert src dst x) (q : Int) (hx : ρ x = .int .i64 q) (hs : P.underlying src = some (.int .i64)) (hd : P.underlying dst = some (.int .u64)) (u : World) :
    (execOp ρ o).run P u = .ok (.value (wn (uw q))) u := by
  obtain ⟨d, op, type, pos, after, guard⟩ := o
  subst ho
  rw [← uw_wrap]
  simp [execOp, hx, convert, run_underlying hs, run_underlying hd, Conv.intToInt]
theorem wn_of_wf {a : Int} (h : (Lit.int .u64 a).wf = true) : ∃ n : Nat, n < 18446744073709551616 ∧ Value.int .u64 a = wn n := by
  simp only [Lit.wf, IntKind.min, IntKind.max, IntKind.bits, IntKind.signed, Bool.and_eq_true, decide_eq_true_eq] at h
  have h2 : 0 ≤ a ∧ a < 18446744073709551616 := by
    simp at h
    omega
  obtain ⟨n, rfl⟩ : ∃ n : Nat, a = (n : Int) := ⟨a.toNat, by omega⟩
  exact ⟨n, by omega, rfl⟩
def szB (k : Nat) : Bool := decide (211 ≤ (cv k).n) && (decide ((cv k).size ≤ 1) || decide (18446744073709551616 ≤ (cv k).n))
theorem sz_all : (List.range 15).all (fun i => szB (i + 1)) = true := by decide +kernel
theorem CK.sz (k : CK) : 211 ≤ k.c.n ∧ (1 < k.c.size → 18446744073709551616 ≤ k.c.n) := by
  have h := List.all_eq_true.1 sz_all (k.1 - 1) (List.mem_range.2 (by have := k.2.2; omega))
  have e : k.1 - 1 + 1 = k.1 := by have := k.2.1; omega
  rw [e] at h
  simp only [szB, Bool.and_eq_true, Bool.or_eq_true, decide_eq_true_eq] at h
  exact ⟨h.1, fun h2 => h.2.elim (fun h3 => absurd h2 (Nat.not_lt.2 h3)) (fun h4 => h4)⟩
attribute [local irreducible] pc ptc nc ac cuc fc gpt
attribute [local go_sem ↓ high] wn_eql wn_neq wn_lss wn_gtr wn_leq wn_geq wn_cells wn_run_store wn_guard lit0 lit1
attribute [local go_sem high] wn_match wn_run_store wn_eql wn_neq wn_lss wn_gtr wn_leq wn_geq

set_option maxRecDepth 100000 in
set_option maxHeartbeats 4000000 in
theorem products_walk (a0 : Int) (n : Nat) (w : World) (hn : n < 18446744073709551616) : Calls Try.prog 4 #[.int .i64 a0, wn n] w fun e w' => e = .returned (.bool true) ∧ Below w.heap.size w w' := by
  obtain ⟨r0, hr0⟩ : ∃ r, r = uw a0 % 15 := ⟨_, rfl⟩
  have h15 : r0 < 15 := by rw [hr0]; exact Nat.mod_lt _ (by decide)
  have HR0 := Lib.hid hr0
  obtain ⟨k, hk⟩ : ∃ k : CK, k = ⟨1 + r0, by omega, by omega⟩ := ⟨⟨1 + r0, by omega, by omega⟩, rfl⟩
  have hk1 : k.1 = 1 + r0 := by rw [hk]
  have HK1 := Lib.hid hk1
  have HU0 := Lib.hid h15
  have HN := Lib.hid hn
  obtain ⟨s, hs⟩ : ∃ s, s = k.c.size := ⟨_, rfl⟩
  have hsz := k.sz
  rw [← hs] at hsz
  have HSZ := Lib.hid hs
  obtain ⟨r, hr⟩ : ∃ r, r = n % 211 := ⟨_, rfl⟩
  have hrl : r < 211 := by rw [hr]; exact Nat.mod_lt _ (by decide)
  have HRR := Lib.hid hr
  have HRL := Lib.hid (show r < 18446744073709551616 by omega)
  clear hk hk1 h15 hn hr0 hr hs
  go_enter Try.func4, Try.ntmps4
  go_upto_region 1 with fail
  have M := Lib.hid (Mem.nil w)
  refine wp_region_lit ?_
  refine wpList_fnL rfl 5 (.func 5) #[] #[] rfl #[] #[] (by kernel_rfl) (by kernel_rfl) (fun u => callFunc_enter _ _ _ _ u Try.func5 (by kernel_rfl) (by kernel_rfl)) (.bool true) (awake_walk w) (fun w2 hb => ?_)
  have Nw2 := Lib.hid (M.out.grow hb)
  clear hb M
  refine wpList_pureL rfl (.bool false) (fun u => by kernel_rfl) ?_
  refine wpList_nil ?_
  try simp only [Act.put, sl1, sl2, sl3, sl4, sl5, sl6]
  go_upto_region 3 with (fail)
  refine wp_region_lit ?_
  refine wpList_pureL rfl (.int .i64 a0) (fun u => by kernel_rfl) ?_
  try simp only [Act.put, sl1, sl2, sl3, sl4, sl5, sl6]
  refine wpList_pureL rfl (wn (uw a0)) (fun u => by exact conv_uw 3 34 (.tmp 25) rfl a0 (by kernel_rfl) Try.underlying3 Try.underlying34 u) ?_
  try simp only [Act.put, sl1, sl2, sl3, sl4, sl5, sl6]
  refine wpList_pureL rfl (wn r0) (fun u => by exact run_wn _ _ _ _ _ rfl (uw a0) (wn 15) (by kernel_rfl) (by kernel_rfl) ((wn_rem _ _ _ (uw_lt _) (by decide)).trans (by rw [← HR0.out])) u) ?_
  try simp only [Act.put, sl1, sl2, sl3, sl4, sl5, sl6]
  refine wpList_pureL rfl (.int .i64 ((r0 : Nat) : Int)) (fun u => by exact conv_int 34 3 (.tmp 27) rfl r0 (by kernel_rfl) (by have := HU0.out; omega) Try.underlying34 Try.underlying3 u) ?_
  try simp only [Act.put, sl1, sl2, sl3, sl4, sl5, sl6]
  refine wpList_pureL rfl (.int .i64 (k.1 : Int)) (fun u => by exact run_bini _ _ _ _ _ rfl ((1 : Nat) : Int) (r0 : Int) (by kernel_rfl) (by kernel_rfl) ((bi_add _ (by have := HU0.out; omega)).trans (by rw [← HK1.out])) u) ?_
  refine wpList_fnL rfl 6 (.func 6) #[.tmp 29] #[3] rfl #[] #[.int .i64 (k.1 : Int)] (by kernel_rfl) (by kernel_rfl) (fun u => callFunc_enter _ _ _ _ u Try.func6 (by kernel_rfl) (by kernel_rfl)) (.tuple #[.agg (ac k.c), .int .i64 0]) (curve_get k.1 w2 k.2.1 k.2.2) (fun w3 hb => ?_)
  have Nw3 := Lib.hid (Nw2.out.grow hb)
  clear hb Nw2
  refine wpList_pureL rfl (.tuple #[.agg (ac k.c), .int .i64 0]) (fun u => by kernel_rfl) ?_
  refine wpList_pureL rfl (.agg (ac k.c)) (fun u => by kernel_rfl) ?_
  refine wpList_pureL rfl (.int .i64 0) (fun u => by kernel_rfl) ?_
  refine wpList_new rfl 30 rfl (.agg #[.int .i64 0, wn 0, wn 0, wn 0, wn 0, wn 0, wn 0, wn 0, wn 0, wn 0, wn 0, wn 0, wn 0, wn 0, wn 0, wn 0, wn 0, wn 0, wn 0, wn 0, wn 0, wn 0, wn 0, wn 0, wn 0, wn 0, wn 0, wn 0, wn 0, wn 0, wn 0, wn 0, wn 0, wn 0, wn 0, wn 0, wn 0, wn 0, wn 0, wn 0, wn 0, wn 0, wn 0, wn 0, wn 0, wn 0, wn 0, wn 0, wn 0, wn 0, wn 0, wn 0, wn 0, wn 0, wn 0, .bool false, .int .i64 0, .int .i64 0, .bool false]) (by kernel_rfl) ?_
  intro cx w4 hx hx2 hgv hh
  have Nw4 := Lib.hid (show Mem w w4 [(cx, #[.int .i64 0, wn 0, wn 0, wn 0, wn 0, wn 0, wn 0, wn 0, wn 0, wn 0, wn 0, wn 0, wn 0, wn 0, wn 0, wn 0, wn 0, wn 0, wn 0, wn 0, wn 0, wn 0, wn 0, wn 0, wn 0, wn 0, wn 0, wn 0, wn 0, wn 0, wn 0, wn 0, wn 0, wn 0, wn 0, wn 0, wn 0, wn 0, wn 0, wn 0, wn 0, wn 0, wn 0, wn 0, wn 0, wn 0, wn 0, wn 0, wn 0, wn 0, wn 0, wn 0, wn 0, wn 0, wn 0, .bool false, .int .i64 0, .int .i64 0, .bool false], 30)] from Nw3.out.new hgv (Nat.le_of_eq hx) hh)
  clear hx hx2 hgv hh Nw3
  refine wpList_store_blk rfl 30 (.tmp 5) (.tmp 31) rfl cx (by kernel_rfl) _ _ (ac k.c) (by kernel_rfl) (Nw4.out.at 0 rfl) (by rw [ac_size]; kernel_rfl) (by rw [ac_size]; rfl) (ac_one _) ?_
  intro w5 hw hb hs
  have Nw5 := Lib.hid (Nw4.out.store 0 rfl hb hs hw)
  clear hw hb hs Nw4
  refine wpList_pureL rfl (.int .i64 0) (fun u => by kernel_rfl) ?_
  refine wpList_nil ?_
  try simp only [Act.put, sl1, sl2, sl3, sl4, sl5, sl6]
  go_upto_region 4 with (fail)
  refine wp_region_lit ?_
  refine wpList_pureL rfl (.int .i64 0) (fun u => by kernel_rfl) ?_
  refine wpList_fnL rfl 9 (.func 9) #[.tmp 33] #[31] rfl #[] #[.int .i64 0] (by kernel_rfl) (by kernel_rfl) (fun u => callFunc_enter _ _ _ _ u Try.func9 (by kernel_rfl) (by kernel_rfl)) (.int .i64 0) (law_num 0 w5) (fun w6 hb => ?_)
  have Nw6 := Lib.hid (Nw5.out.grow hb)
  clear hb Nw5
  refine wpList_pureL rfl (.bool false) (fun u => by kernel_rfl) ?_
  refine wpList_nil ?_
  try simp only [Act.put, sl1, sl2, sl3, sl4, sl5, sl6]
  go_upto_region 6 with (fail)
  refine wp_region_lit ?_
  refine wpList_pureL rfl (wn n) (fun u => by kernel_rfl) ?_
  try simp only [Act.put, sl1, sl2, sl3, sl4, sl5, sl6]
  refine wpList_pureL rfl (wn r) (fun u => by exact run_wn _ _ _ _ _ rfl n (wn 211) (by kernel_rfl) (by kernel_rfl) ((wn_rem _ _ _ HN.out (by decide)).trans (by rw [← HRR.out])) u) ?_
  refine wpList_fnL rfl 7 (.func 7) #[.tmp 37] #[22] rfl #[] #[wn r] (by kernel_rfl) (by kernel_rfl) (fun u => callFunc_enter _ _ _ _ u Try.func7 (by kernel_rfl) (by kernel_rfl)) (.agg (nc r)) (law_one r w6 HRL.out) (fun w7 hb => ?_)
  have Nw7 := Lib.hid (Nw6.out.grow hb)
  clear hb Nw6
  refine wpList_new rfl 26 rfl (.agg (nc 0)) (by rw [nc_zero]; kernel_rfl) ?_
  intro dx w8 hx hx2 hgv hh
  have Nw8 := Lib.hid (show Mem w w8 [(cx, ac k.c, 30), (dx, nc 0, 26)] from Nw7.out.new hgv (Nat.le_of_eq hx) hh)
  clear hx hx2 hgv hh Nw7
  refine wpList_store_blk rfl 26 (.tmp 7) (.tmp 38) rfl dx (by kernel_rfl) _ _ (nc r) (by kernel_rfl) (Nw8.out.at 1 rfl) (by rw [nc_size]; kernel_rfl) (by simp only [nc_size]) (nc_one _) ?_
  intro w9 hw hb hs
  have Nw9 := Lib.hid (Nw8.out.store 1 rfl hb hs hw)
  clear hw hb hs Nw8
  refine wpList_nil ?_
  try simp only [Act.put, sl1, sl2, sl3, sl4, sl5, sl6]
  by_cases hs1 : 1 < s
  · skip
    have ds : decide ((s : Int) > 1) = true := decide_eq_true (by omega)
    have HDN := Lib.hid (show n < k.c.n by have := hsz.2 hs1; have := HN.out; omega)
    have HD9 := Lib.hid (show n < pw 9 from Nat.lt_trans HDN.out k.n9)
    have HZN := Lib.hid (show 0 < k.c.n by have := HDN.out; omega)
    have DS := Lib.hid ds
    clear hs1 ds hsz hrl
    go_upto_region 7 with (fail)
    refine wp_region_lit ?_
    refine wpList_pureL rfl (.pointer (some ⟨cx, 57, none⟩)) (fun u => by kernel_rfl) ?_
    refine wpList_load_cell rfl 3 (.tmp 39) rfl cx 57 (by kernel_rfl) (.int .i64 (s : Int)) _ Try.underlying3 rfl ((cell_of (Nw9.out.at 0 rfl) 57).trans (by rw [HSZ.out]; exact ac_sz _)) ?_
    try simp only [Act.put, sl1, sl2, sl3, sl4, sl5, sl6]
    refine wpList_pureL rfl (.bool true) (fun u => by exact run_bini _ _ _ _ _ rfl (s : Int) 1 (by kernel_rfl) (by kernel_rfl) (by rw [← DS.out]; rfl) u) ?_
    refine wpList_nil ?_
    try simp only [Act.put, sl1, sl2, sl3, sl4, sl5, sl6]
    go_upto_region 8 with (fail)
    refine wp_region_lit ?_
    refine wpList_pureL rfl (wn n) (fun u => by kernel_rfl) ?_
    refine wpList_fnL rfl 7 (.func 7) #[.tmp 42] #[22] rfl #[] #[wn n] (by kernel_rfl) (by kernel_rfl) (fun u => callFunc_enter _ _ _ _ u Try.func7 (by kernel_rfl) (by kernel_rfl)) (.agg (nc n)) (law_one n w9 HN.out) (fun w10 hb => ?_)
    have Nw10 := Lib.hid (Nw9.out.grow hb)
    clear hb Nw9
    refine wpList_store_blk rfl 26 (.tmp 7) (.tmp 43) rfl dx (by kernel_rfl) _ _ (nc n) (by kernel_rfl) (Nw10.out.at 1 rfl) (by rw [nc_size]; kernel_rfl) (by simp only [nc_size]) (nc_one _) ?_
    intro w11 hw hb hs
    have Nw11 := Lib.hid (Nw10.out.store 1 rfl hb hs hw)
    clear hw hb hs Nw10
    refine wpList_nil ?_
    try simp only [Act.put, sl1, sl2, sl3, sl4, sl5, sl6]
    go_upto_region 9 with (fail)
    refine wp_region_lit ?_
    refine wpList_pureL rfl (.pointer (some ⟨cx, 0, none⟩)) (fun u => by kernel_rfl) ?_
    refine wpList_load_cell rfl 3 (.tmp 45) rfl cx 0 (by kernel_rfl) (.int .i64 (k.1 : Int)) _ Try.underlying3 rfl ((cell_of (Nw11.out.at 0 rfl) 0).trans (ac_idk _)) ?_
    refine wpN_load0 rfl (.tmp 7) rfl dx (by kernel_rfl) (Nw11.out.at 1 rfl) ?_
    refine wpList_pureL rfl (.pointer (some ⟨cx, 37, none⟩)) (fun u => by kernel_rfl) ?_
    refine wpList_load_seg rfl 28 (.tmp 48) rfl cx 37 19 (by kernel_rfl) _ _ (gpt k 1) _ _ (Nw11.out.at 0 rfl) Try.underlying28 rfl (by kernel_rfl) (gpt_size _ _) (fun j hj => by rw [gpt_g]; exact ac_g _ j hj) ?_
    refine wpList_fnL rfl 11 (.func 11) #[.tmp 46, .tmp 47, .tmp 49] #[3, 26, 28] rfl #[] #[.int .i64 (k.1 : Int), .agg (nc n), .agg (gpt k 1)] (by kernel_rfl) (by kernel_rfl) (fun u => callFunc_enter _ _ _ _ u Try.func11 (by kernel_rfl) (by kernel_rfl)) (.tuple #[.agg (gpt k (n * 1)), .int .i64 0]) (affine_mul k n 1 w11 HD9.out) (fun w12 hb => ?_)
    have Nw12 := Lib.hid (Nw11.out.grow hb)
    clear hb Nw11
    refine wpList_pureL rfl (.tuple #[.agg (gpt k (n * 1)), .int .i64 0]) (fun u => by kernel_rfl) ?_
    refine wpList_pureL rfl (.agg (gpt k (n * 1))) (fun u => by kernel_rfl) ?_
    refine wpList_pureL rfl (.int .i64 0) (fun u => by kernel_rfl) ?_
    refine wpList_new rfl 28 rfl (.agg (ptc 0 0 false)) (by rw [ptc_zero]; kernel_rfl) ?_
    intro p1 w13 hx hx2 hgv hh
    have Nw13 := Lib.hid (show Mem w w13 [(cx, ac k.c, 30), (dx, nc n, 26), (p1, ptc 0 0 false, 28)] from Nw12.out.new hgv (Nat.le_of_eq hx) hh)
    clear hx hx2 hgv hh Nw12
    refine wpList_store_blk rfl 28 (.tmp 8) (.tmp 51) rfl p1 (by kernel_rfl) _ _ (gpt k (n * 1)) (by kernel_rfl) (Nw13.out.at 2 rfl) (by rw [gpt_size]; kernel_rfl) (by simp only [gpt_size, ptc_size]) (gpt_one _ _) ?_
    intro w14 hw hb hs
    have Nw14 := Lib.hid (Nw13.out.store 2 rfl hb hs hw)
    clear hw hb hs Nw13
    refine wpList_pureL rfl (.int .i64 0) (fun u => by kernel_rfl) ?_
    refine wpList_nil ?_
    try simp only [Act.put, sl1, sl2, sl3, sl4, sl5, sl6]
    go_upto_region 10 with (fail)
    refine wp_region_lit ?_
    refine wpList_pureL rfl (.pointer (some ⟨cx, 0, none⟩)) (fun u => by kernel_rfl) ?_
    refine wpList_load_cell rfl 3 (.tmp 54) rfl cx 0 (by kernel_rfl) (.int .i64 (k.1 : Int)) _ Try.underlying3 rfl ((cell_of (Nw14.out.at 0 rfl) 0).trans (ac_idk _)) ?_
    refine wpN_load0 rfl (.tmp 7) rfl dx (by kernel_rfl) (Nw14.out.at 1 rfl) ?_
    refine wpList_pureL rfl (.pointer (some ⟨cx, 37, none⟩)) (fun u => by kernel_rfl) ?_
    refine wpList_load_seg rfl 28 (.tmp 57) rfl cx 37 19 (by kernel_rfl) _ _ (gpt k 1) _ _ (Nw14.out.at 0 rfl) Try.underlying28 rfl (by kernel_rfl) (gpt_size _ _) (fun j hj => by rw [gpt_g]; exact ac_g _ j hj) ?_
    refine wpList_fnL rfl 12 (.func 12) #[.const (.pointer none), .tmp 55, .tmp 56, .tmp 58] #[71, 3, 26, 28] rfl #[] #[.pointer none, .int .i64 (k.1 : Int), .agg (nc n), .agg (gpt k 1)] (by kernel_rfl) (by kernel_rfl) (fun u => callFunc_enter _ _ _ _ u Try.func12 (by kernel_rfl) (by kernel_rfl)) (.tuple #[.agg (gpt k (n * 1)), .int .i64 0]) (mult_mul k n 1 w14 HDN.out) (fun w15 hb => ?_)
    have Nw15 := Lib.hid (Nw14.out.grow hb)
    clear hb Nw14
    refine wpList_pureL rfl (.tuple #[.agg (gpt k (n * 1)), .int .i64 0]) (fun u => by kernel_rfl) ?_
    refine wpList_pureL rfl (.agg (gpt k (n * 1))) (fun u => by kernel_rfl) ?_
    refine wpList_pureL rfl (.int .i64 0) (fun u => by kernel_rfl) ?_
    refine wpList_new rfl 28 rfl (.agg (ptc 0 0 false)) (by rw [ptc_zero]; kernel_rfl) ?_
    intro p2 w16 hx hx2 hgv hh
    have Nw16 := Lib.hid (show Mem w w16 [(cx, ac k.c, 30), (dx, nc n, 26), (p1, gpt k (n * 1), 28), (p2, ptc 0 0 false, 28)] from Nw15.out.new hgv (Nat.le_of_eq hx) hh)
    clear hx hx2 hgv hh Nw15
    refine wpList_store_blk rfl 28 (.tmp 10) (.tmp 60) rfl p2 (by kernel_rfl) _ _ (gpt k (n * 1)) (by kernel_rfl) (Nw16.out.at 3 rfl) (by rw [gpt_size]; kernel_rfl) (by simp only [gpt_size, ptc_size]) (gpt_one _ _) ?_
    intro w17 hw hb hs
    have Nw17 := Lib.hid (Nw16.out.store 3 rfl hb hs hw)
    clear hw hb hs Nw16
    refine wpList_pureL rfl (.int .i64 0) (fun u => by kernel_rfl) ?_
    refine wpList_nil ?_
    try simp only [Act.put, sl1, sl2, sl3, sl4, sl5, sl6]
    go_upto_region 11 with (fail)
    refine wp_region_lit ?_
    refine wpList_pureL rfl (.pointer (some ⟨cx, 0, none⟩)) (fun u => by kernel_rfl) ?_
    refine wpList_load_cell rfl 3 (.tmp 63) rfl cx 0 (by kernel_rfl) (.int .i64 (k.1 : Int)) _ Try.underlying3 rfl ((cell_of (Nw17.out.at 0 rfl) 0).trans (ac_idk _)) ?_
    refine wpN_load0 rfl (.tmp 7) rfl dx (by kernel_rfl) (Nw17.out.at 1 rfl) ?_
    refine wpList_fnL rfl 13 (.func 13) #[.const (.pointer none), .tmp 64, .tmp 65] #[71, 3, 26] rfl #[] #[.pointer none, .int .i64 (k.1 : Int), .agg (nc n)] (by kernel_rfl) (by kernel_rfl) (fun u => callFunc_enter _ _ _ _ u Try.func13 (by kernel_rfl) (by kernel_rfl)) (.tuple #[.agg (gpt k n), .int .i64 0]) (base_mul k n w17 HDN.out) (fun w18 hb => ?_)
    have Nw18 := Lib.hid (Nw17.out.grow hb)
    clear hb Nw17
    refine wpList_pureL rfl (.tuple #[.agg (gpt k n), .int .i64 0]) (fun u => by kernel_rfl) ?_
    refine wpList_pureL rfl (.agg (gpt k n)) (fun u => by kernel_rfl) ?_
    refine wpList_pureL rfl (.int .i64 0) (fun u => by kernel_rfl) ?_
    refine wpList_new rfl 28 rfl (.agg (ptc 0 0 false)) (by rw [ptc_zero]; kernel_rfl) ?_
    intro p3 w19 hx hx2 hgv hh
    have Nw19 := Lib.hid (show Mem w w19 [(cx, ac k.c, 30), (dx, nc n, 26), (p1, gpt k (n * 1), 28), (p2, gpt k (n * 1), 28), (p3, ptc 0 0 false, 28)] from Nw18.out.new hgv (Nat.le_of_eq hx) hh)
    clear hx hx2 hgv hh Nw18
    refine wpList_store_blk rfl 28 (.tmp 12) (.tmp 67) rfl p3 (by kernel_rfl) _ _ (gpt k n) (by kernel_rfl) (Nw19.out.at 4 rfl) (by rw [gpt_size]; kernel_rfl) (by simp only [gpt_size, ptc_size]) (gpt_one _ _) ?_
    intro w20 hw hb hs
    have Nw20 := Lib.hid (Nw19.out.store 4 rfl hb hs hw)
    clear hw hb hs Nw19
    refine wpList_pureL rfl (.int .i64 0) (fun u => by kernel_rfl) ?_
    refine wpList_nil ?_
    try simp only [Act.put, sl1, sl2, sl3, sl4, sl5, sl6]
    go_upto_region 12 with (fail)
    refine wp_region_lit ?_
    refine wpList_pureL rfl (.pointer (some ⟨cx, 0, none⟩)) (fun u => by kernel_rfl) ?_
    refine wpList_load_cell rfl 3 (.tmp 70) rfl cx 0 (by kernel_rfl) (.int .i64 (k.1 : Int)) _ Try.underlying3 rfl ((cell_of (Nw20.out.at 0 rfl) 0).trans (ac_idk _)) ?_
    refine wpN_load0 rfl (.tmp 7) rfl dx (by kernel_rfl) (Nw20.out.at 1 rfl) ?_
    try simp only [Act.put, sl1, sl2, sl3, sl4, sl5, sl6]
    refine wpList_pureL rfl (.agg (nc 0)) (fun u => by rw [nc_zero]; kernel_rfl) ?_
    refine wpList_pureL rfl (.pointer (some ⟨cx, 37, none⟩)) (fun u => by kernel_rfl) ?_
    refine wpList_load_seg rfl 28 (.tmp 74) rfl cx 37 19 (by kernel_rfl) _ _ (gpt k 1) _ _ (Nw20.out.at 0 rfl) Try.underlying28 rfl (by kernel_rfl) (gpt_size _ _) (fun j hj => by rw [gpt_g]; exact ac_g _ j hj) ?_
    refine wpList_fnL rfl 14 (.func 14) #[.tmp 71, .tmp 72, .tmp 73, .tmp 75] #[3, 26, 26, 28] rfl #[] #[.int .i64 (k.1 : Int), .agg (nc n), .agg (nc 0), .agg (gpt k 1)] (by kernel_rfl) (by kernel_rfl) (fun u => callFunc_enter _ _ _ _ u Try.func14 (by kernel_rfl) (by kernel_rfl)) (.tuple #[.agg (gpt k (n + 0 * 1)), .int .i64 0]) (dual_mul k n 0 1 w20 HDN.out HZN.out) (fun w21 hb => ?_)
    have Nw21 := Lib.hid (Nw20.out.grow hb)
    clear hb Nw20
    refine wpList_pureL rfl (.tuple #[.agg (gpt k (n + 0 * 1)), .int .i64 0]) (fun u => by kernel_rfl) ?_
    refine wpList_pureL rfl (.agg (gpt k (n + 0 * 1))) (fun u => by kernel_rfl) ?_
    refine wpList_pureL rfl (.int .i64 0) (fun u => by kernel_rfl) ?_
    refine wpList_new rfl 28 rfl (.agg (ptc 0 0 false)) (by rw [ptc_zero]; kernel_rfl) ?_
    intro p4 w22 hx hx2 hgv hh
    have Nw22 := Lib.hid (show Mem w w22 [(cx, ac k.c, 30), (dx, nc n, 26), (p1, gpt k (n * 1), 28), (p2, gpt k (n * 1), 28), (p3, gpt k n, 28), (p4, ptc 0 0 false, 28)] from Nw21.out.new hgv (Nat.le_of_eq hx) hh)
    clear hx hx2 hgv hh Nw21
    refine wpList_store_blk rfl 28 (.tmp 14) (.tmp 77) rfl p4 (by kernel_rfl) _ _ (gpt k (n + 0 * 1)) (by kernel_rfl) (Nw22.out.at 5 rfl) (by rw [gpt_size]; kernel_rfl) (by simp only [gpt_size, ptc_size]) (gpt_one _ _) ?_
    intro w23 hw hb hs
    have Nw23 := Lib.hid (Nw22.out.store 5 rfl hb hs hw)
    clear hw hb hs Nw22
    refine wpList_pureL rfl (.int .i64 0) (fun u => by kernel_rfl) ?_
    refine wpList_nil ?_
    try simp only [Act.put, sl1, sl2, sl3, sl4, sl5, sl6]
    go_upto_region 13 with (fail)
    refine wp_region_lit ?_
    refine wpList_pureL rfl (.pointer (some ⟨cx, 0, none⟩)) (fun u => by kernel_rfl) ?_
    refine wpList_load_cell rfl 3 (.tmp 80) rfl cx 0 (by kernel_rfl) (.int .i64 (k.1 : Int)) _ Try.underlying3 rfl ((cell_of (Nw23.out.at 0 rfl) 0).trans (ac_idk _)) ?_
    try simp only [Act.put, sl1, sl2, sl3, sl4, sl5, sl6]
    refine wpList_pureL rfl (.agg (nc 0)) (fun u => by rw [nc_zero]; kernel_rfl) ?_
    refine wpN_load0 rfl (.tmp 7) rfl dx (by kernel_rfl) (Nw23.out.at 1 rfl) ?_
    refine wpList_pureL rfl (.pointer (some ⟨cx, 37, none⟩)) (fun u => by kernel_rfl) ?_
    refine wpList_load_seg rfl 28 (.tmp 84) rfl cx 37 19 (by kernel_rfl) _ _ (gpt k 1) _ _ (Nw23.out.at 0 rfl) Try.underlying28 rfl (by kernel_rfl) (gpt_size _ _) (fun j hj => by rw [gpt_g]; exact ac_g _ j hj) ?_
    refine wpList_fnL rfl 14 (.func 14) #[.tmp 81, .tmp 82, .tmp 83, .tmp 85] #[3, 26, 26, 28] rfl #[] #[.int .i64 (k.1 : Int), .agg (nc 0), .agg (nc n), .agg (gpt k 1)] (by kernel_rfl) (by kernel_rfl) (fun u => callFunc_enter _ _ _ _ u Try.func14 (by kernel_rfl) (by kernel_rfl)) (.tuple #[.agg (gpt k (0 + n * 1)), .int .i64 0]) (dual_mul k 0 n 1 w23 HZN.out HDN.out) (fun w24 hb => ?_)
    have Nw24 := Lib.hid (Nw23.out.grow hb)
    clear hb Nw23
    refine wpList_pureL rfl (.tuple #[.agg (gpt k (0 + n * 1)), .int .i64 0]) (fun u => by kernel_rfl) ?_
    refine wpList_pureL rfl (.agg (gpt k (0 + n * 1))) (fun u => by kernel_rfl) ?_
    refine wpList_pureL rfl (.int .i64 0) (fun u => by kernel_rfl) ?_
    refine wpList_new rfl 28 rfl (.agg (ptc 0 0 false)) (by rw [ptc_zero]; kernel_rfl) ?_
    intro p5 w25 hx hx2 hgv hh
    have Nw25 := Lib.hid (show Mem w w25 [(cx, ac k.c, 30), (dx, nc n, 26), (p1, gpt k (n * 1), 28), (p2, gpt k (n * 1), 28), (p3, gpt k n, 28), (p4, gpt k (n + 0 * 1), 28), (p5, ptc 0 0 false, 28)] from Nw24.out.new hgv (Nat.le_of_eq hx) hh)
    clear hx hx2 hgv hh Nw24
    refine wpList_store_blk rfl 28 (.tmp 16) (.tmp 87) rfl p5 (by kernel_rfl) _ _ (gpt k (0 + n * 1)) (by kernel_rfl) (Nw25.out.at 6 rfl) (by rw [gpt_size]; kernel_rfl) (by simp only [gpt_size, ptc_size]) (gpt_one _ _) ?_
    intro w26 hw hb hs
    have Nw26 := Lib.hid (Nw25.out.store 6 rfl hb hs hw)
    clear hw hb hs Nw25
    refine wpList_pureL rfl (.int .i64 0) (fun u => by kernel_rfl) ?_
    refine wpList_nil ?_
    try simp only [Act.put, sl1, sl2, sl3, sl4, sl5, sl6]
    go_upto_region 14 with (fail)
    refine wp_region_lit ?_
    refine wpList_pureL rfl (.pointer (some ⟨cx, 0, none⟩)) (fun u => by kernel_rfl) ?_
    refine wpList_load_cell rfl 3 (.tmp 90) rfl cx 0 (by kernel_rfl) (.int .i64 (k.1 : Int)) _ Try.underlying3 rfl ((cell_of (Nw26.out.at 0 rfl) 0).trans (ac_idk _)) ?_
    refine wpList_load_seg rfl 28 (.tmp 8) rfl p1 0 19 (by kernel_rfl) _ _ (gpt k (n * 1)) _ _ (Nw26.out.at 2 rfl) Try.underlying28 rfl (by kernel_rfl) (gpt_size _ _) (fun j hj => by rw [Nat.zero_add j]) ?_
    refine wpList_fnL rfl 15 (.func 15) #[.tmp 91, .tmp 92] #[3, 28] rfl #[] #[.int .i64 (k.1 : Int), .agg (gpt k (n * 1))] (by kernel_rfl) (by kernel_rfl) (fun u => callFunc_enter _ _ _ _ u Try.func15 (by kernel_rfl) (by kernel_rfl)) (.tuple #[.agg (pc ((trN k (gm k (n * 1))).x) ((trN k (gm k (n * 1))).y) ((trN k (gm k (n * 1))).z)), .int .i64 0]) (proj_from k (n * 1) w26) (fun w27 hb => ?_)
    have Nw27 := Lib.hid (Nw26.out.grow hb)
    clear hb Nw26
    refine wpList_pureL rfl (.tuple #[.agg (pc ((trN k (gm k (n * 1))).x) ((trN k (gm k (n * 1))).y) ((trN k (gm k (n * 1))).z)), .int .i64 0]) (fun u => by kernel_rfl) ?_
    refine wpList_pureL rfl (.agg (pc ((trN k (gm k (n * 1))).x) ((trN k (gm k (n * 1))).y) ((trN k (gm k (n * 1))).z))) (fun u => by kernel_rfl) ?_
    refine wpList_pureL rfl (.int .i64 0) (fun u => by kernel_rfl) ?_
    refine wpList_new rfl 48 rfl (.agg (pc 0 0 0)) (by rw [pc_zero]; kernel_rfl) ?_
    intro tj w28 hx hx2 hgv hh
    have Nw28 := Lib.hid (show Mem w w28 [(cx, ac k.c, 30), (dx, nc n, 26), (p1, gpt k (n * 1), 28), (p2, gpt k (n * 1), 28), (p3, gpt k n, 28), (p4, gpt k (n + 0 * 1), 28), (p5, gpt k (0 + n * 1), 28), (tj, pc 0 0 0, 48)] from Nw27.out.new hgv (Nat.le_of_eq hx) hh)
    clear hx hx2 hgv hh Nw27
    refine wpList_store_blk rfl 48 (.tmp 18) (.tmp 94) rfl tj (by kernel_rfl) _ _ (pc ((trN k (gm k (n * 1))).x) ((trN k (gm k (n * 1))).y) ((trN k (gm k (n * 1))).z)) (by kernel_rfl) (Nw28.out.at 7 rfl) (by rw [pc_size]; kernel_rfl) (by simp only [pc_size]) (pc_one _ _ _) ?_
    intro w29 hw hb hs
    have Nw29 := Lib.hid (Nw28.out.store 7 rfl hb hs hw)
    clear hw hb hs Nw28
    refine wpList_pureL rfl (.int .i64 0) (fun u => by kernel_rfl) ?_
    refine wpList_nil ?_
    try simp only [Act.put, sl1, sl2, sl3, sl4, sl5, sl6]
    go_upto_region 15 with (fail)
    refine wp_region_lit ?_
    refine wpList_pureL rfl (.pointer (some ⟨cx, 0, none⟩)) (fun u => by kernel_rfl) ?_
    refine wpList_load_cell rfl 3 (.tmp 97) rfl cx 0 (by kernel_rfl) (.int .i64 (k.1 : Int)) _ Try.underlying3 rfl ((cell_of (Nw29.out.at 0 rfl) 0).trans (ac_idk _)) ?_
    refine wpList_load_seg rfl 48 (.tmp 18) rfl tj 0 27 (by kernel_rfl) _ _ (pc ((trN k (gm k (n * 1))).x) ((trN k (gm k (n * 1))).y) ((trN k (gm k (n * 1))).z)) _ _ (Nw29.out.at 7 rfl) Try.underlying48 rfl (by kernel_rfl) (pc_size _ _ _) (fun j hj => by rw [Nat.zero_add j]) ?_
    refine wpList_fnL rfl 16 (.func 16) #[.tmp 98, .tmp 99] #[3, 48] rfl #[] #[.int .i64 (k.1 : Int), .agg (pc ((trN k (gm k (n * 1))).x) ((trN k (gm k (n * 1))).y) ((trN k (gm k (n * 1))).z))] (by kernel_rfl) (by kernel_rfl) (fun u => callFunc_enter _ _ _ _ u Try.func16 (by kernel_rfl) (by kernel_rfl)) (.tuple #[.agg (gpt k (n * 1)), .int .i64 0]) (proj_to k (trN k (gm k (n * 1))) (n * 1) w29 (rp_trip k (n * 1))) (fun w30 hb => ?_)
    have Nw30 := Lib.hid (Nw29.out.grow hb)
    clear hb Nw29
    refine wpList_pureL rfl (.tuple #[.agg (gpt k (n * 1)), .int .i64 0]) (fun u => by kernel_rfl) ?_
    refine wpList_pureL rfl (.agg (gpt k (n * 1))) (fun u => by kernel_rfl) ?_
    refine wpList_pureL rfl (.int .i64 0) (fun u => by kernel_rfl) ?_
    refine wpList_new rfl 28 rfl (.agg (ptc 0 0 false)) (by rw [ptc_zero]; kernel_rfl) ?_
    intro p6 w31 hx hx2 hgv hh
    have Nw31 := Lib.hid (show Mem w w31 [(cx, ac k.c, 30), (dx, nc n, 26), (p1, gpt k (n * 1), 28), (p2, gpt k (n * 1), 28), (p3, gpt k n, 28), (p4, gpt k (n + 0 * 1), 28), (p5, gpt k (0 + n * 1), 28), (tj, pc ((trN k (gm k (n * 1))).x) ((trN k (gm k (n * 1))).y) ((trN k (gm k (n * 1))).z), 48), (p6, ptc 0 0 false, 28)] from Nw30.out.new hgv (Nat.le_of_eq hx) hh)
    clear hx hx2 hgv hh Nw30
    refine wpList_store_blk rfl 28 (.tmp 20) (.tmp 101) rfl p6 (by kernel_rfl) _ _ (gpt k (n * 1)) (by kernel_rfl) (Nw31.out.at 8 rfl) (by rw [gpt_size]; kernel_rfl) (by simp only [gpt_size, ptc_size]) (gpt_one _ _) ?_
    intro w32 hw hb hs
    have Nw32 := Lib.hid (Nw31.out.store 8 rfl hb hs hw)
    clear hw hb hs Nw31
    refine wpList_pureL rfl (.int .i64 0) (fun u => by kernel_rfl) ?_
    refine wpList_nil ?_
    try simp only [Act.put, sl1, sl2, sl3, sl4, sl5, sl6]
    go_upto_region 16 with (fail)
    refine wp_region_lit ?_
    refine wpList_pureL rfl (.int .i64 0) (fun u => by kernel_rfl) ?_
    refine wpList_fnL rfl 9 (.func 9) #[.tmp 103] #[31] rfl #[] #[.int .i64 0] (by kernel_rfl) (by kernel_rfl) (fun u => callFunc_enter _ _ _ _ u Try.func9 (by kernel_rfl) (by kernel_rfl)) (.int .i64 0) (law_num 0 w32) (fun w33 hb => ?_)
    have Nw33 := Lib.hid (Nw32.out.grow hb)
    clear hb Nw32
    refine wpList_pureL rfl (.bool true) (fun u => by kernel_rfl) ?_
    refine wpList_pureL rfl (.bool true) (fun u => by kernel_rfl) ?_
    try simp only [Act.put, sl1, sl2, sl3, sl4, sl5, sl6]
    refine wpList_wantL (by kernel_rfl) (.int .i64 0) (fun u => by kernel_rfl) ?_
    try simp only [Act.put, sl1, sl2, sl3, sl4, sl5, sl6]
    refine wpList_fnG (by kernel_rfl) 9 (.func 9) #[.tmp 107] #[31] rfl #[] #[.int .i64 0] (by kernel_rfl) (by kernel_rfl) (fun u => callFunc_enter _ _ _ _ u Try.func9 (by kernel_rfl) (by kernel_rfl)) (.int .i64 0) (law_num 0 w33) (fun w34 hb => ?_)
    have Nw34 := Lib.hid (Nw33.out.grow hb)
    clear hb Nw33
    try simp only [Act.put, sl1, sl2, sl3, sl4, sl5, sl6]
    refine wpList_wantL (by kernel_rfl) (.bool true) (fun u => by kernel_rfl) ?_
    try simp only [Act.put, sl1, sl2, sl3, sl4, sl5, sl6]
    refine wpList_pureL rfl (.bool true) (fun u => by kernel_rfl) ?_
    refine wpList_pureL rfl (.bool true) (fun u => by kernel_rfl) ?_
    try simp only [Act.put, sl1, sl2, sl3, sl4, sl5, sl6]
    refine wpList_wantL (by kernel_rfl) (.int .i64 0) (fun u => by kernel_rfl) ?_
    try simp only [Act.put, sl1, sl2, sl3, sl4, sl5, sl6]
    refine wpList_fnG (by kernel_rfl) 9 (.func 9) #[.tmp 112] #[31] rfl #[] #[.int .i64 0] (by kernel_rfl) (by kernel_rfl) (fun u => callFunc_enter _ _ _ _ u Try.func9 (by kernel_rfl) (by kernel_rfl)) (.int .i64 0) (law_num 0 w34) (fun w35 hb => ?_)
    have Nw35 := Lib.hid (Nw34.out.grow hb)
    clear hb Nw34
    try simp only [Act.put, sl1, sl2, sl3, sl4, sl5, sl6]
    refine wpList_wantL (by kernel_rfl) (.bool true) (fun u => by kernel_rfl) ?_
    try simp only [Act.put, sl1, sl2, sl3, sl4, sl5, sl6]
    refine wpList_pureL rfl (.bool true) (fun u => by kernel_rfl) ?_
    refine wpList_pureL rfl (.bool true) (fun u => by kernel_rfl) ?_
    try simp only [Act.put, sl1, sl2, sl3, sl4, sl5, sl6]
    refine wpList_wantL (by kernel_rfl) (.int .i64 0) (fun u => by kernel_rfl) ?_
    try simp only [Act.put, sl1, sl2, sl3, sl4, sl5, sl6]
    refine wpList_fnG (by kernel_rfl) 9 (.func 9) #[.tmp 117] #[31] rfl #[] #[.int .i64 0] (by kernel_rfl) (by kernel_rfl) (fun u => callFunc_enter _ _ _ _ u Try.func9 (by kernel_rfl) (by kernel_rfl)) (.int .i64 0) (law_num 0 w35) (fun w36 hb => ?_)
    have Nw36 := Lib.hid (Nw35.out.grow hb)
    clear hb Nw35
    try simp only [Act.put, sl1, sl2, sl3, sl4, sl5, sl6]
    refine wpList_wantL (by kernel_rfl) (.bool true) (fun u => by kernel_rfl) ?_
    try simp only [Act.put, sl1, sl2, sl3, sl4, sl5, sl6]
    refine wpList_pureL rfl (.bool true) (fun u => by kernel_rfl) ?_
    refine wpList_pureL rfl (.bool true) (fun u => by kernel_rfl) ?_
    try simp only [Act.put, sl1, sl2, sl3, sl4, sl5, sl6]
    refine wpList_wantL (by kernel_rfl) (.int .i64 0) (fun u => by kernel_rfl) ?_
    try simp only [Act.put, sl1, sl2, sl3, sl4, sl5, sl6]
    refine wpList_fnG (by kernel_rfl) 9 (.func 9) #[.tmp 122] #[31] rfl #[] #[.int .i64 0] (by kernel_rfl) (by kernel_rfl) (fun u => callFunc_enter _ _ _ _ u Try.func9 (by kernel_rfl) (by kernel_rfl)) (.int .i64 0) (law_num 0 w36) (fun w37 hb => ?_)
    have Nw37 := Lib.hid (Nw36.out.grow hb)
    clear hb Nw36
    try simp only [Act.put, sl1, sl2, sl3, sl4, sl5, sl6]
    refine wpList_wantL (by kernel_rfl) (.bool true) (fun u => by kernel_rfl) ?_
    try simp only [Act.put, sl1, sl2, sl3, sl4, sl5, sl6]
    refine wpList_pureL rfl (.bool true) (fun u => by kernel_rfl) ?_
    refine wpList_pureL rfl (.bool true) (fun u => by kernel_rfl) ?_
    try simp only [Act.put, sl1, sl2, sl3, sl4, sl5, sl6]
    refine wpList_wantL (by kernel_rfl) (.int .i64 0) (fun u => by kernel_rfl) ?_
    try simp only [Act.put, sl1, sl2, sl3, sl4, sl5, sl6]
    refine wpList_fnG (by kernel_rfl) 9 (.func 9) #[.tmp 127] #[31] rfl #[] #[.int .i64 0] (by kernel_rfl) (by kernel_rfl) (fun u => callFunc_enter _ _ _ _ u Try.func9 (by kernel_rfl) (by kernel_rfl)) (.int .i64 0) (law_num 0 w37) (fun w38 hb => ?_)
    have Nw38 := Lib.hid (Nw37.out.grow hb)
    clear hb Nw37
    try simp only [Act.put, sl1, sl2, sl3, sl4, sl5, sl6]
    refine wpList_wantL (by kernel_rfl) (.bool true) (fun u => by kernel_rfl) ?_
    try simp only [Act.put, sl1, sl2, sl3, sl4, sl5, sl6]
    refine wpList_pureL rfl (.bool true) (fun u => by kernel_rfl) ?_
    refine wpList_pureL rfl (.bool true) (fun u => by kernel_rfl) ?_
    try simp only [Act.put, sl1, sl2, sl3, sl4, sl5, sl6]
    refine wpList_wantL (by kernel_rfl) (.int .i64 0) (fun u => by kernel_rfl) ?_
    try simp only [Act.put, sl1, sl2, sl3, sl4, sl5, sl6]
    refine wpList_fnG (by kernel_rfl) 9 (.func 9) #[.tmp 132] #[31] rfl #[] #[.int .i64 0] (by kernel_rfl) (by kernel_rfl) (fun u => callFunc_enter _ _ _ _ u Try.func9 (by kernel_rfl) (by kernel_rfl)) (.int .i64 0) (law_num 0 w38) (fun w39 hb => ?_)
    have Nw39 := Lib.hid (Nw38.out.grow hb)
    clear hb Nw38
    try simp only [Act.put, sl1, sl2, sl3, sl4, sl5, sl6]
    refine wpList_wantL (by kernel_rfl) (.bool true) (fun u => by kernel_rfl) ?_
    try simp only [Act.put, sl1, sl2, sl3, sl4, sl5, sl6]
    refine wpList_pureL rfl (.bool true) (fun u => by kernel_rfl) ?_
    refine wpList_pureL rfl (.bool true) (fun u => by kernel_rfl) ?_
    try simp only [Act.put, sl1, sl2, sl3, sl4, sl5, sl6]
    refine wpList_segG (by kernel_rfl) 28 (.tmp 8) rfl p1 0 19 (by kernel_rfl) (gpt k (n * 1)) (Nw39.out.at 2 rfl) _ Try.underlying28 rfl (by kernel_rfl) (gpt_size _ _) (fun j hj => by rw [Nat.zero_add j]) ?_
    try simp only [Act.put, sl1, sl2, sl3, sl4, sl5, sl6]
    refine wpList_segG (by kernel_rfl) 28 (.tmp 10) rfl p2 0 19 (by kernel_rfl) (gpt k (n * 1)) (Nw39.out.at 3 rfl) _ Try.underlying28 rfl (by kernel_rfl) (gpt_size _ _) (fun j hj => by rw [Nat.zero_add j]) ?_
    try simp only [Act.put, sl1, sl2, sl3, sl4, sl5, sl6]
    refine wpList_wantL (by kernel_rfl) (.bool true) (fun u => by exact run_eqp _ _ _ rfl k (n * 1) (n * 1) (by kernel_rfl) (by kernel_rfl) true (decide_eq_true rfl) u) ?_
    try simp only [Act.put, sl1, sl2, sl3, sl4, sl5, sl6]
    refine wpList_pureL rfl (.bool true) (fun u => by kernel_rfl) ?_
    refine wpList_pureL rfl (.bool true) (fun u => by kernel_rfl) ?_
    try simp only [Act.put, sl1, sl2, sl3, sl4, sl5, sl6]
    refine wpList_segG (by kernel_rfl) 28 (.tmp 10) rfl p2 0 19 (by kernel_rfl) (gpt k (n * 1)) (Nw39.out.at 3 rfl) _ Try.underlying28 rfl (by kernel_rfl) (gpt_size _ _) (fun j hj => by rw [Nat.zero_add j]) ?_
    try simp only [Act.put, sl1, sl2, sl3, sl4, sl5, sl6]
    refine wpList_segG (by kernel_rfl) 28 (.tmp 12) rfl p3 0 19 (by kernel_rfl) (gpt k n) (Nw39.out.at 4 rfl) _ Try.underlying28 rfl (by kernel_rfl) (gpt_size _ _) (fun j hj => by rw [Nat.zero_add j]) ?_
    try simp only [Act.put, sl1, sl2, sl3, sl4, sl5, sl6]
    refine wpList_wantL (by kernel_rfl) (.bool true) (fun u => by exact run_eqp _ _ _ rfl k (n * 1) (n) (by kernel_rfl) (by kernel_rfl) true (decide_eq_true (by congr 1 <;> omega)) u) ?_
    try simp only [Act.put, sl1, sl2, sl3, sl4, sl5, sl6]
    refine wpList_pureL rfl (.bool true) (fun u => by kernel_rfl) ?_
    refine wpList_pureL rfl (.bool true) (fun u => by kernel_rfl) ?_
    try simp only [Act.put, sl1, sl2, sl3, sl4, sl5, sl6]
    refine wpList_segG (by kernel_rfl) 28 (.tmp 12) rfl p3 0 19 (by kernel_rfl) (gpt k n) (Nw39.out.at 4 rfl) _ Try.underlying28 rfl (by kernel_rfl) (gpt_size _ _) (fun j hj => by rw [Nat.zero_add j]) ?_
    try simp only [Act.put, sl1, sl2, sl3, sl4, sl5, sl6]
    refine wpList_segG (by kernel_rfl) 28 (.tmp 14) rfl p4 0 19 (by kernel_rfl) (gpt k (n + 0 * 1)) (Nw39.out.at 5 rfl) _ Try.underlying28 rfl (by kernel_rfl) (gpt_size _ _) (fun j hj => by rw [Nat.zero_add j]) ?_
    try simp only [Act.put, sl1, sl2, sl3, sl4, sl5, sl6]
    refine wpList_wantL (by kernel_rfl) (.bool true) (fun u => by exact run_eqp _ _ _ rfl k (n) (n + 0 * 1) (by kernel_rfl) (by kernel_rfl) true (decide_eq_true (by congr 1 <;> omega)) u) ?_
    try simp only [Act.put, sl1, sl2, sl3, sl4, sl5, sl6]
    refine wpList_pureL rfl (.bool true) (fun u => by kernel_rfl) ?_
    refine wpList_pureL rfl (.bool true) (fun u => by kernel_rfl) ?_
    try simp only [Act.put, sl1, sl2, sl3, sl4, sl5, sl6]
    refine wpList_segG (by kernel_rfl) 28 (.tmp 14) rfl p4 0 19 (by kernel_rfl) (gpt k (n + 0 * 1)) (Nw39.out.at 5 rfl) _ Try.underlying28 rfl (by kernel_rfl) (gpt_size _ _) (fun j hj => by rw [Nat.zero_add j]) ?_
    try simp only [Act.put, sl1, sl2, sl3, sl4, sl5, sl6]
    refine wpList_segG (by kernel_rfl) 28 (.tmp 16) rfl p5 0 19 (by kernel_rfl) (gpt k (0 + n * 1)) (Nw39.out.at 6 rfl) _ Try.underlying28 rfl (by kernel_rfl) (gpt_size _ _) (fun j hj => by rw [Nat.zero_add j]) ?_
    try simp only [Act.put, sl1, sl2, sl3, sl4, sl5, sl6]
    refine wpList_wantL (by kernel_rfl) (.bool true) (fun u => by exact run_eqp _ _ _ rfl k (n + 0 * 1) (0 + n * 1) (by kernel_rfl) (by kernel_rfl) true (decide_eq_true (by congr 1 <;> omega)) u) ?_
    try simp only [Act.put, sl1, sl2, sl3, sl4, sl5, sl6]
    refine wpList_pureL rfl (.bool true) (fun u => by kernel_rfl) ?_
    refine wpList_pureL rfl (.bool true) (fun u => by kernel_rfl) ?_
    try simp only [Act.put, sl1, sl2, sl3, sl4, sl5, sl6]
    refine wpList_segG (by kernel_rfl) 28 (.tmp 20) rfl p6 0 19 (by kernel_rfl) (gpt k (n * 1)) (Nw39.out.at 8 rfl) _ Try.underlying28 rfl (by kernel_rfl) (gpt_size _ _) (fun j hj => by rw [Nat.zero_add j]) ?_
    try simp only [Act.put, sl1, sl2, sl3, sl4, sl5, sl6]
    refine wpList_segG (by kernel_rfl) 28 (.tmp 8) rfl p1 0 19 (by kernel_rfl) (gpt k (n * 1)) (Nw39.out.at 2 rfl) _ Try.underlying28 rfl (by kernel_rfl) (gpt_size _ _) (fun j hj => by rw [Nat.zero_add j]) ?_
    try simp only [Act.put, sl1, sl2, sl3, sl4, sl5, sl6]
    refine wpList_wantL (by kernel_rfl) (.bool true) (fun u => by exact run_eqp _ _ _ rfl k (n * 1) (n * 1) (by kernel_rfl) (by kernel_rfl) true (decide_eq_true rfl) u) ?_
    try simp only [Act.put, sl1, sl2, sl3, sl4, sl5, sl6]
    refine wpList_pureL rfl (.bool true) (fun u => by kernel_rfl) ?_
    refine wpList_pureL rfl (.bool true) (fun u => by kernel_rfl) ?_
    try simp only [Act.put, sl1, sl2, sl3, sl4, sl5, sl6]
    refine wpList_wantL (by kernel_rfl) (.pointer (some ⟨cx, 0, none⟩)) (fun u => by kernel_rfl) ?_
    try simp only [Act.put, sl1, sl2, sl3, sl4, sl5, sl6]
    refine wpList_cellG (by kernel_rfl) 3 (.tmp 162) rfl cx 0 (by kernel_rfl) (.int .i64 (k.1 : Int)) _ Try.underlying3 rfl ((cell_of (Nw39.out.at 0 rfl) 0).trans (ac_idk _)) ?_
    try simp only [Act.put, sl1, sl2, sl3, sl4, sl5, sl6]
    refine wpList_segG (by kernel_rfl) 28 (.tmp 8) rfl p1 0 19 (by kernel_rfl) (gpt k (n * 1)) (Nw39.out.at 2 rfl) _ Try.underlying28 rfl (by kernel_rfl) (gpt_size _ _) (fun j hj => by rw [Nat.zero_add j]) ?_
    try simp only [Act.put, sl1, sl2, sl3, sl4, sl5, sl6]
    refine wpList_fnG (by kernel_rfl) 17 (.func 17) #[.tmp 163, .tmp 164] #[3, 28] rfl #[] #[.int .i64 (k.1 : Int), .agg (gpt k (n * 1))] (by kernel_rfl) (by kernel_rfl) (fun u => callFunc_enter _ _ _ _ u Try.func17 (by kernel_rfl) (by kernel_rfl)) (.bool true) (curve_on_fn k (n * 1) w39) (fun w40 hb => ?_)
    have Nw40 := Lib.hid (Nw39.out.grow hb)
    clear hb Nw39
    try simp only [Act.put, sl1, sl2, sl3, sl4, sl5, sl6]
    refine wpList_pureL rfl (.bool true) (fun u => by kernel_rfl) ?_
    refine wpList_pureL rfl (.bool true) (fun u => by kernel_rfl) ?_
    refine wpList_nil ?_
    try simp only [Act.put, sl1, sl2, sl3, sl4, sl5, sl6]
    go_wp2_with (fail)
    go_ret
    exact ⟨rfl, Nw40.out.below⟩
  · skip
    have ds : decide ((s : Int) > 1) = false := decide_eq_false (by omega)
    have HDN := Lib.hid (show r < k.c.n by omega)
    have HD9 := Lib.hid (show r < pw 9 from Nat.lt_trans HDN.out k.n9)
    have HZN := Lib.hid (show 0 < k.c.n by have := HDN.out; omega)
    have DS := Lib.hid ds
    clear hs1 ds hsz hrl
    go_upto_region 7 with (fail)
    refine wp_region_lit ?_
    refine wpList_pureL rfl (.pointer (some ⟨cx, 57, none⟩)) (fun u => by kernel_rfl) ?_
    refine wpList_load_cell rfl 3 (.tmp 39) rfl cx 57 (by kernel_rfl) (.int .i64 (s : Int)) _ Try.underlying3 rfl ((cell_of (Nw9.out.at 0 rfl) 57).trans (by rw [HSZ.out]; exact ac_sz _)) ?_
    try simp only [Act.put, sl1, sl2, sl3, sl4, sl5, sl6]
    refine wpList_pureL rfl (.bool false) (fun u => by exact run_bini _ _ _ _ _ rfl (s : Int) 1 (by kernel_rfl) (by kernel_rfl) (by rw [← DS.out]; rfl) u) ?_
    refine wpList_nil ?_
    try simp only [Act.put, sl1, sl2, sl3, sl4, sl5, sl6]
    go_upto_region 9 with (fail)
    refine wp_region_lit ?_
    refine wpList_pureL rfl (.pointer (some ⟨cx, 0, none⟩)) (fun u => by kernel_rfl) ?_
    refine wpList_load_cell rfl 3 (.tmp 45) rfl cx 0 (by kernel_rfl) (.int .i64 (k.1 : Int)) _ Try.underlying3 rfl ((cell_of (Nw9.out.at 0 rfl) 0).trans (ac_idk _)) ?_
    refine wpN_load0 rfl (.tmp 7) rfl dx (by kernel_rfl) (Nw9.out.at 1 rfl) ?_
    refine wpList_pureL rfl (.pointer (some ⟨cx, 37, none⟩)) (fun u => by kernel_rfl) ?_
    refine wpList_load_seg rfl 28 (.tmp 48) rfl cx 37 19 (by kernel_rfl) _ _ (gpt k 1) _ _ (Nw9.out.at 0 rfl) Try.underlying28 rfl (by kernel_rfl) (gpt_size _ _) (fun j hj => by rw [gpt_g]; exact ac_g _ j hj) ?_
    refine wpList_fnL rfl 11 (.func 11) #[.tmp 46, .tmp 47, .tmp 49] #[3, 26, 28] rfl #[] #[.int .i64 (k.1 : Int), .agg (nc r), .agg (gpt k 1)] (by kernel_rfl) (by kernel_rfl) (fun u => callFunc_enter _ _ _ _ u Try.func11 (by kernel_rfl) (by kernel_rfl)) (.tuple #[.agg (gpt k (r * 1)), .int .i64 0]) (affine_mul k r 1 w9 HD9.out) (fun w10 hb => ?_)
    have Nw10 := Lib.hid (Nw9.out.grow hb)
    clear hb Nw9
    refine wpList_pureL rfl (.tuple #[.agg (gpt k (r * 1)), .int .i64 0]) (fun u => by kernel_rfl) ?_
    refine wpList_pureL rfl (.agg (gpt k (r * 1))) (fun u => by kernel_rfl) ?_
    refine wpList_pureL rfl (.int .i64 0) (fun u => by kernel_rfl) ?_
    refine wpList_new rfl 28 rfl (.agg (ptc 0 0 false)) (by rw [ptc_zero]; kernel_rfl) ?_
    intro p1 w11 hx hx2 hgv hh
    have Nw11 := Lib.hid (show Mem w w11 [(cx, ac k.c, 30), (dx, nc r, 26), (p1, ptc 0 0 false, 28)] from Nw10.out.new hgv (Nat.le_of_eq hx) hh)
    clear hx hx2 hgv hh Nw10
    refine wpList_store_blk rfl 28 (.tmp 8) (.tmp 51) rfl p1 (by kernel_rfl) _ _ (gpt k (r * 1)) (by kernel_rfl) (Nw11.out.at 2 rfl) (by rw [gpt_size]; kernel_rfl) (by simp only [gpt_size, ptc_size]) (gpt_one _ _) ?_
    intro w12 hw hb hs
    have Nw12 := Lib.hid (Nw11.out.store 2 rfl hb hs hw)
    clear hw hb hs Nw11
    refine wpList_pureL rfl (.int .i64 0) (fun u => by kernel_rfl) ?_
    refine wpList_nil ?_
    try simp only [Act.put, sl1, sl2, sl3, sl4, sl5, sl6]
    go_upto_region 10 with (fail)
    refine wp_region_lit ?_
    refine wpList_pureL rfl (.pointer (some ⟨cx, 0, none⟩)) (fun u => by kernel_rfl) ?_
    refine wpList_load_cell rfl 3 (.tmp 54) rfl cx 0 (by kernel_rfl) (.int .i64 (k.1 : Int)) _ Try.underlying3 rfl ((cell_of (Nw12.out.at 0 rfl) 0).trans (ac_idk _)) ?_
    refine wpN_load0 rfl (.tmp 7) rfl dx (by kernel_rfl) (Nw12.out.at 1 rfl) ?_
    refine wpList_pureL rfl (.pointer (some ⟨cx, 37, none⟩)) (fun u => by kernel_rfl) ?_
    refine wpList_load_seg rfl 28 (.tmp 57) rfl cx 37 19 (by kernel_rfl) _ _ (gpt k 1) _ _ (Nw12.out.at 0 rfl) Try.underlying28 rfl (by kernel_rfl) (gpt_size _ _) (fun j hj => by rw [gpt_g]; exact ac_g _ j hj) ?_
    refine wpList_fnL rfl 12 (.func 12) #[.const (.pointer none), .tmp 55, .tmp 56, .tmp 58] #[71, 3, 26, 28] rfl #[] #[.pointer none, .int .i64 (k.1 : Int), .agg (nc r), .agg (gpt k 1)] (by kernel_rfl) (by kernel_rfl) (fun u => callFunc_enter _ _ _ _ u Try.func12 (by kernel_rfl) (by kernel_rfl)) (.tuple #[.agg (gpt k (r * 1)), .int .i64 0]) (mult_mul k r 1 w12 HDN.out) (fun w13 hb => ?_)
    have Nw13 := Lib.hid (Nw12.out.grow hb)
    clear hb Nw12
    refine wpList_pureL rfl (.tuple #[.agg (gpt k (r * 1)), .int .i64 0]) (fun u => by kernel_rfl) ?_
    refine wpList_pureL rfl (.agg (gpt k (r * 1))) (fun u => by kernel_rfl) ?_
    refine wpList_pureL rfl (.int .i64 0) (fun u => by kernel_rfl) ?_
    refine wpList_new rfl 28 rfl (.agg (ptc 0 0 false)) (by rw [ptc_zero]; kernel_rfl) ?_
    intro p2 w14 hx hx2 hgv hh
    have Nw14 := Lib.hid (show Mem w w14 [(cx, ac k.c, 30), (dx, nc r, 26), (p1, gpt k (r * 1), 28), (p2, ptc 0 0 false, 28)] from Nw13.out.new hgv (Nat.le_of_eq hx) hh)
    clear hx hx2 hgv hh Nw13
    refine wpList_store_blk rfl 28 (.tmp 10) (.tmp 60) rfl p2 (by kernel_rfl) _ _ (gpt k (r * 1)) (by kernel_rfl) (Nw14.out.at 3 rfl) (by rw [gpt_size]; kernel_rfl) (by simp only [gpt_size, ptc_size]) (gpt_one _ _) ?_
    intro w15 hw hb hs
    have Nw15 := Lib.hid (Nw14.out.store 3 rfl hb hs hw)
    clear hw hb hs Nw14
    refine wpList_pureL rfl (.int .i64 0) (fun u => by kernel_rfl) ?_
    refine wpList_nil ?_
    try simp only [Act.put, sl1, sl2, sl3, sl4, sl5, sl6]
    go_upto_region 11 with (fail)
    refine wp_region_lit ?_
    refine wpList_pureL rfl (.pointer (some ⟨cx, 0, none⟩)) (fun u => by kernel_rfl) ?_
    refine wpList_load_cell rfl 3 (.tmp 63) rfl cx 0 (by kernel_rfl) (.int .i64 (k.1 : Int)) _ Try.underlying3 rfl ((cell_of (Nw15.out.at 0 rfl) 0).trans (ac_idk _)) ?_
    refine wpN_load0 rfl (.tmp 7) rfl dx (by kernel_rfl) (Nw15.out.at 1 rfl) ?_
    refine wpList_fnL rfl 13 (.func 13) #[.const (.pointer none), .tmp 64, .tmp 65] #[71, 3, 26] rfl #[] #[.pointer none, .int .i64 (k.1 : Int), .agg (nc r)] (by kernel_rfl) (by kernel_rfl) (fun u => callFunc_enter _ _ _ _ u Try.func13 (by kernel_rfl) (by kernel_rfl)) (.tuple #[.agg (gpt k r), .int .i64 0]) (base_mul k r w15 HDN.out) (fun w16 hb => ?_)
    have Nw16 := Lib.hid (Nw15.out.grow hb)
    clear hb Nw15
    refine wpList_pureL rfl (.tuple #[.agg (gpt k r), .int .i64 0]) (fun u => by kernel_rfl) ?_
    refine wpList_pureL rfl (.agg (gpt k r)) (fun u => by kernel_rfl) ?_
    refine wpList_pureL rfl (.int .i64 0) (fun u => by kernel_rfl) ?_
    refine wpList_new rfl 28 rfl (.agg (ptc 0 0 false)) (by rw [ptc_zero]; kernel_rfl) ?_
    intro p3 w17 hx hx2 hgv hh
    have Nw17 := Lib.hid (show Mem w w17 [(cx, ac k.c, 30), (dx, nc r, 26), (p1, gpt k (r * 1), 28), (p2, gpt k (r * 1), 28), (p3, ptc 0 0 false, 28)] from Nw16.out.new hgv (Nat.le_of_eq hx) hh)
    clear hx hx2 hgv hh Nw16
    refine wpList_store_blk rfl 28 (.tmp 12) (.tmp 67) rfl p3 (by kernel_rfl) _ _ (gpt k r) (by kernel_rfl) (Nw17.out.at 4 rfl) (by rw [gpt_size]; kernel_rfl) (by simp only [gpt_size, ptc_size]) (gpt_one _ _) ?_
    intro w18 hw hb hs
    have Nw18 := Lib.hid (Nw17.out.store 4 rfl hb hs hw)
    clear hw hb hs Nw17
    refine wpList_pureL rfl (.int .i64 0) (fun u => by kernel_rfl) ?_
    refine wpList_nil ?_
    try simp only [Act.put, sl1, sl2, sl3, sl4, sl5, sl6]
    go_upto_region 12 with (fail)
    refine wp_region_lit ?_
    refine wpList_pureL rfl (.pointer (some ⟨cx, 0, none⟩)) (fun u => by kernel_rfl) ?_
    refine wpList_load_cell rfl 3 (.tmp 70) rfl cx 0 (by kernel_rfl) (.int .i64 (k.1 : Int)) _ Try.underlying3 rfl ((cell_of (Nw18.out.at 0 rfl) 0).trans (ac_idk _)) ?_
    refine wpN_load0 rfl (.tmp 7) rfl dx (by kernel_rfl) (Nw18.out.at 1 rfl) ?_
    try simp only [Act.put, sl1, sl2, sl3, sl4, sl5, sl6]
    refine wpList_pureL rfl (.agg (nc 0)) (fun u => by rw [nc_zero]; kernel_rfl) ?_
    refine wpList_pureL rfl (.pointer (some ⟨cx, 37, none⟩)) (fun u => by kernel_rfl) ?_
    refine wpList_load_seg rfl 28 (.tmp 74) rfl cx 37 19 (by kernel_rfl) _ _ (gpt k 1) _ _ (Nw18.out.at 0 rfl) Try.underlying28 rfl (by kernel_rfl) (gpt_size _ _) (fun j hj => by rw [gpt_g]; exact ac_g _ j hj) ?_
    refine wpList_fnL rfl 14 (.func 14) #[.tmp 71, .tmp 72, .tmp 73, .tmp 75] #[3, 26, 26, 28] rfl #[] #[.int .i64 (k.1 : Int), .agg (nc r), .agg (nc 0), .agg (gpt k 1)] (by kernel_rfl) (by kernel_rfl) (fun u => callFunc_enter _ _ _ _ u Try.func14 (by kernel_rfl) (by kernel_rfl)) (.tuple #[.agg (gpt k (r + 0 * 1)), .int .i64 0]) (dual_mul k r 0 1 w18 HDN.out HZN.out) (fun w19 hb => ?_)
    have Nw19 := Lib.hid (Nw18.out.grow hb)
    clear hb Nw18
    refine wpList_pureL rfl (.tuple #[.agg (gpt k (r + 0 * 1)), .int .i64 0]) (fun u => by kernel_rfl) ?_
    refine wpList_pureL rfl (.agg (gpt k (r + 0 * 1))) (fun u => by kernel_rfl) ?_
    refine wpList_pureL rfl (.int .i64 0) (fun u => by kernel_rfl) ?_
    refine wpList_new rfl 28 rfl (.agg (ptc 0 0 false)) (by rw [ptc_zero]; kernel_rfl) ?_
    intro p4 w20 hx hx2 hgv hh
    have Nw20 := Lib.hid (show Mem w w20 [(cx, ac k.c, 30), (dx, nc r, 26), (p1, gpt k (r * 1), 28), (p2, gpt k (r * 1), 28), (p3, gpt k r, 28), (p4, ptc 0 0 false, 28)] from Nw19.out.new hgv (Nat.le_of_eq hx) hh)
    clear hx hx2 hgv hh Nw19
    refine wpList_store_blk rfl 28 (.tmp 14) (.tmp 77) rfl p4 (by kernel_rfl) _ _ (gpt k (r + 0 * 1)) (by kernel_rfl) (Nw20.out.at 5 rfl) (by rw [gpt_size]; kernel_rfl) (by simp only [gpt_size, ptc_size]) (gpt_one _ _) ?_
    intro w21 hw hb hs
    have Nw21 := Lib.hid (Nw20.out.store 5 rfl hb hs hw)
    clear hw hb hs Nw20
    refine wpList_pureL rfl (.int .i64 0) (fun u => by kernel_rfl) ?_
    refine wpList_nil ?_
    try simp only [Act.put, sl1, sl2, sl3, sl4, sl5, sl6]
    go_upto_region 13 with (fail)
    refine wp_region_lit ?_
    refine wpList_pureL rfl (.pointer (some ⟨cx, 0, none⟩)) (fun u => by kernel_rfl) ?_
    refine wpList_load_cell rfl 3 (.tmp 80) rfl cx 0 (by kernel_rfl) (.int .i64 (k.1 : Int)) _ Try.underlying3 rfl ((cell_of (Nw21.out.at 0 rfl) 0).trans (ac_idk _)) ?_
    try simp only [Act.put, sl1, sl2, sl3, sl4, sl5, sl6]
    refine wpList_pureL rfl (.agg (nc 0)) (fun u => by rw [nc_zero]; kernel_rfl) ?_
    refine wpN_load0 rfl (.tmp 7) rfl dx (by kernel_rfl) (Nw21.out.at 1 rfl) ?_
    refine wpList_pureL rfl (.pointer (some ⟨cx, 37, none⟩)) (fun u => by kernel_rfl) ?_
    refine wpList_load_seg rfl 28 (.tmp 84) rfl cx 37 19 (by kernel_rfl) _ _ (gpt k 1) _ _ (Nw21.out.at 0 rfl) Try.underlying28 rfl (by kernel_rfl) (gpt_size _ _) (fun j hj => by rw [gpt_g]; exact ac_g _ j hj) ?_
    refine wpList_fnL rfl 14 (.func 14) #[.tmp 81, .tmp 82, .tmp 83, .tmp 85] #[3, 26, 26, 28] rfl #[] #[.int .i64 (k.1 : Int), .agg (nc 0), .agg (nc r), .agg (gpt k 1)] (by kernel_rfl) (by kernel_rfl) (fun u => callFunc_enter _ _ _ _ u Try.func14 (by kernel_rfl) (by kernel_rfl)) (.tuple #[.agg (gpt k (0 + r * 1)), .int .i64 0]) (dual_mul k 0 r 1 w21 HZN.out HDN.out) (fun w22 hb => ?_)
    have Nw22 := Lib.hid (Nw21.out.grow hb)
    clear hb Nw21
    refine wpList_pureL rfl (.tuple #[.agg (gpt k (0 + r * 1)), .int .i64 0]) (fun u => by kernel_rfl) ?_
    refine wpList_pureL rfl (.agg (gpt k (0 + r * 1))) (fun u => by kernel_rfl) ?_
    refine wpList_pureL rfl (.int .i64 0) (fun u => by kernel_rfl) ?_
    refine wpList_new rfl 28 rfl (.agg (ptc 0 0 false)) (by rw [ptc_zero]; kernel_rfl) ?_
    intro p5 w23 hx hx2 hgv hh
    have Nw23 := Lib.hid (show Mem w w23 [(cx, ac k.c, 30), (dx, nc r, 26), (p1, gpt k (r * 1), 28), (p2, gpt k (r * 1), 28), (p3, gpt k r, 28), (p4, gpt k (r + 0 * 1), 28), (p5, ptc 0 0 false, 28)] from Nw22.out.new hgv (Nat.le_of_eq hx) hh)
    clear hx hx2 hgv hh Nw22
    refine wpList_store_blk rfl 28 (.tmp 16) (.tmp 87) rfl p5 (by kernel_rfl) _ _ (gpt k (0 + r * 1)) (by kernel_rfl) (Nw23.out.at 6 rfl) (by rw [gpt_size]; kernel_rfl) (by simp only [gpt_size, ptc_size]) (gpt_one _ _) ?_
    intro w24 hw hb hs
    have Nw24 := Lib.hid (Nw23.out.store 6 rfl hb hs hw)
    clear hw hb hs Nw23
    refine wpList_pureL rfl (.int .i64 0) (fun u => by kernel_rfl) ?_
    refine wpList_nil ?_
    try simp only [Act.put, sl1, sl2, sl3, sl4, sl5, sl6]
    go_upto_region 14 with (fail)
    refine wp_region_lit ?_
    refine wpList_pureL rfl (.pointer (some ⟨cx, 0, none⟩)) (fun u => by kernel_rfl) ?_
    refine wpList_load_cell rfl 3 (.tmp 90) rfl cx 0 (by kernel_rfl) (.int .i64 (k.1 : Int)) _ Try.underlying3 rfl ((cell_of (Nw24.out.at 0 rfl) 0).trans (ac_idk _)) ?_
    refine wpList_load_seg rfl 28 (.tmp 8) rfl p1 0 19 (by kernel_rfl) _ _ (gpt k (r * 1)) _ _ (Nw24.out.at 2 rfl) Try.underlying28 rfl (by kernel_rfl) (gpt_size _ _) (fun j hj => by rw [Nat.zero_add j]) ?_
    refine wpList_fnL rfl 15 (.func 15) #[.tmp 91, .tmp 92] #[3, 28] rfl #[] #[.int .i64 (k.1 : Int), .agg (gpt k (r * 1))] (by kernel_rfl) (by kernel_rfl) (fun u => callFunc_enter _ _ _ _ u Try.func15 (by kernel_rfl) (by kernel_rfl)) (.tuple #[.agg (pc ((trN k (gm k (r * 1))).x) ((trN k (gm k (r * 1))).y) ((trN k (gm k (r * 1))).z)), .int .i64 0]) (proj_from k (r * 1) w24) (fun w25 hb => ?_)
    have Nw25 := Lib.hid (Nw24.out.grow hb)
    clear hb Nw24
    refine wpList_pureL rfl (.tuple #[.agg (pc ((trN k (gm k (r * 1))).x) ((trN k (gm k (r * 1))).y) ((trN k (gm k (r * 1))).z)), .int .i64 0]) (fun u => by kernel_rfl) ?_
    refine wpList_pureL rfl (.agg (pc ((trN k (gm k (r * 1))).x) ((trN k (gm k (r * 1))).y) ((trN k (gm k (r * 1))).z))) (fun u => by kernel_rfl) ?_
    refine wpList_pureL rfl (.int .i64 0) (fun u => by kernel_rfl) ?_
    refine wpList_new rfl 48 rfl (.agg (pc 0 0 0)) (by rw [pc_zero]; kernel_rfl) ?_
    intro tj w26 hx hx2 hgv hh
    have Nw26 := Lib.hid (show Mem w w26 [(cx, ac k.c, 30), (dx, nc r, 26), (p1, gpt k (r * 1), 28), (p2, gpt k (r * 1), 28), (p3, gpt k r, 28), (p4, gpt k (r + 0 * 1), 28), (p5, gpt k (0 + r * 1), 28), (tj, pc 0 0 0, 48)] from Nw25.out.new hgv (Nat.le_of_eq hx) hh)
    clear hx hx2 hgv hh Nw25
    refine wpList_store_blk rfl 48 (.tmp 18) (.tmp 94) rfl tj (by kernel_rfl) _ _ (pc ((trN k (gm k (r * 1))).x) ((trN k (gm k (r * 1))).y) ((trN k (gm k (r * 1))).z)) (by kernel_rfl) (Nw26.out.at 7 rfl) (by rw [pc_size]; kernel_rfl) (by simp only [pc_size]) (pc_one _ _ _) ?_
    intro w27 hw hb hs
    have Nw27 := Lib.hid (Nw26.out.store 7 rfl hb hs hw)
    clear hw hb hs Nw26
    refine wpList_pureL rfl (.int .i64 0) (fun u => by kernel_rfl) ?_
    refine wpList_nil ?_
    try simp only [Act.put, sl1, sl2, sl3, sl4, sl5, sl6]
    go_upto_region 15 with (fail)
    refine wp_region_lit ?_
    refine wpList_pureL rfl (.pointer (some ⟨cx, 0, none⟩)) (fun u => by kernel_rfl) ?_
    refine wpList_load_cell rfl 3 (.tmp 97) rfl cx 0 (by kernel_rfl) (.int .i64 (k.1 : Int)) _ Try.underlying3 rfl ((cell_of (Nw27.out.at 0 rfl) 0).trans (ac_idk _)) ?_
    refine wpList_load_seg rfl 48 (.tmp 18) rfl tj 0 27 (by kernel_rfl) _ _ (pc ((trN k (gm k (r * 1))).x) ((trN k (gm k (r * 1))).y) ((trN k (gm k (r * 1))).z)) _ _ (Nw27.out.at 7 rfl) Try.underlying48 rfl (by kernel_rfl) (pc_size _ _ _) (fun j hj => by rw [Nat.zero_add j]) ?_
    refine wpList_fnL rfl 16 (.func 16) #[.tmp 98, .tmp 99] #[3, 48] rfl #[] #[.int .i64 (k.1 : Int), .agg (pc ((trN k (gm k (r * 1))).x) ((trN k (gm k (r * 1))).y) ((trN k (gm k (r * 1))).z))] (by kernel_rfl) (by kernel_rfl) (fun u => callFunc_enter _ _ _ _ u Try.func16 (by kernel_rfl) (by kernel_rfl)) (.tuple #[.agg (gpt k (r * 1)), .int .i64 0]) (proj_to k (trN k (gm k (r * 1))) (r * 1) w27 (rp_trip k (r * 1))) (fun w28 hb => ?_)
    have Nw28 := Lib.hid (Nw27.out.grow hb)
    clear hb Nw27
    refine wpList_pureL rfl (.tuple #[.agg (gpt k (r * 1)), .int .i64 0]) (fun u => by kernel_rfl) ?_
    refine wpList_pureL rfl (.agg (gpt k (r * 1))) (fun u => by kernel_rfl) ?_
    refine wpList_pureL rfl (.int .i64 0) (fun u => by kernel_rfl) ?_
    refine wpList_new rfl 28 rfl (.agg (ptc 0 0 false)) (by rw [ptc_zero]; kernel_rfl) ?_
    intro p6 w29 hx hx2 hgv hh
    have Nw29 := Lib.hid (show Mem w w29 [(cx, ac k.c, 30), (dx, nc r, 26), (p1, gpt k (r * 1), 28), (p2, gpt k (r * 1), 28), (p3, gpt k r, 28), (p4, gpt k (r + 0 * 1), 28), (p5, gpt k (0 + r * 1), 28), (tj, pc ((trN k (gm k (r * 1))).x) ((trN k (gm k (r * 1))).y) ((trN k (gm k (r * 1))).z), 48), (p6, ptc 0 0 false, 28)] from Nw28.out.new hgv (Nat.le_of_eq hx) hh)
    clear hx hx2 hgv hh Nw28
    refine wpList_store_blk rfl 28 (.tmp 20) (.tmp 101) rfl p6 (by kernel_rfl) _ _ (gpt k (r * 1)) (by kernel_rfl) (Nw29.out.at 8 rfl) (by rw [gpt_size]; kernel_rfl) (by simp only [gpt_size, ptc_size]) (gpt_one _ _) ?_
    intro w30 hw hb hs
    have Nw30 := Lib.hid (Nw29.out.store 8 rfl hb hs hw)
    clear hw hb hs Nw29
    refine wpList_pureL rfl (.int .i64 0) (fun u => by kernel_rfl) ?_
    refine wpList_nil ?_
    try simp only [Act.put, sl1, sl2, sl3, sl4, sl5, sl6]
    go_upto_region 16 with (fail)
    refine wp_region_lit ?_
    refine wpList_pureL rfl (.int .i64 0) (fun u => by kernel_rfl) ?_
    refine wpList_fnL rfl 9 (.func 9) #[.tmp 103] #[31] rfl #[] #[.int .i64 0] (by kernel_rfl) (by kernel_rfl) (fun u => callFunc_enter _ _ _ _ u Try.func9 (by kernel_rfl) (by kernel_rfl)) (.int .i64 0) (law_num 0 w30) (fun w31 hb => ?_)
    have Nw31 := Lib.hid (Nw30.out.grow hb)
    clear hb Nw30
    refine wpList_pureL rfl (.bool true) (fun u => by kernel_rfl) ?_
    refine wpList_pureL rfl (.bool true) (fun u => by kernel_rfl) ?_
    try simp only [Act.put, sl1, sl2, sl3, sl4, sl5, sl6]
    refine wpList_wantL (by kernel_rfl) (.int .i64 0) (fun u => by kernel_rfl) ?_
    try simp only [Act.put, sl1, sl2, sl3, sl4, sl5, sl6]
    refine wpList_fnG (by kernel_rfl) 9 (.func 9) #[.tmp 107] #[31] rfl #[] #[.int .i64 0] (by kernel_rfl) (by kernel_rfl) (fun u => callFunc_enter _ _ _ _ u Try.func9 (by kernel_rfl) (by kernel_rfl)) (.int .i64 0) (law_num 0 w31) (fun w32 hb => ?_)
    have Nw32 := Lib.hid (Nw31.out.grow hb)
    clear hb Nw31
    try simp only [Act.put, sl1, sl2, sl3, sl4, sl5, sl6]
    refine wpList_wantL (by kernel_rfl) (.bool true) (fun u => by kernel_rfl) ?_
    try simp only [Act.put, sl1, sl2, sl3, sl4, sl5, sl6]
    refine wpList_pureL rfl (.bool true) (fun u => by kernel_rfl) ?_
    refine wpList_pureL rfl (.bool true) (fun u => by kernel_rfl) ?_
    try simp only [Act.put, sl1, sl2, sl3, sl4, sl5, sl6]
    refine wpList_wantL (by kernel_rfl) (.int .i64 0) (fun u => by kernel_rfl) ?_
    try simp only [Act.put, sl1, sl2, sl3, sl4, sl5, sl6]
    refine wpList_fnG (by kernel_rfl) 9 (.func 9) #[.tmp 112] #[31] rfl #[] #[.int .i64 0] (by kernel_rfl) (by kernel_rfl) (fun u => callFunc_enter _ _ _ _ u Try.func9 (by kernel_rfl) (by kernel_rfl)) (.int .i64 0) (law_num 0 w32) (fun w33 hb => ?_)
    have Nw33 := Lib.hid (Nw32.out.grow hb)
    clear hb Nw32
    try simp only [Act.put, sl1, sl2, sl3, sl4, sl5, sl6]
    refine wpList_wantL (by kernel_rfl) (.bool true) (fun u => by kernel_rfl) ?_
    try simp only [Act.put, sl1, sl2, sl3, sl4, sl5, sl6]
    refine wpList_pureL rfl (.bool true) (fun u => by kernel_rfl) ?_
    refine wpList_pureL rfl (.bool true) (fun u => by kernel_rfl) ?_
    try simp only [Act.put, sl1, sl2, sl3, sl4, sl5, sl6]
    refine wpList_wantL (by kernel_rfl) (.int .i64 0) (fun u => by kernel_rfl) ?_
    try simp only [Act.put, sl1, sl2, sl3, sl4, sl5, sl6]
    refine wpList_fnG (by kernel_rfl) 9 (.func 9) #[.tmp 117] #[31] rfl #[] #[.int .i64 0] (by kernel_rfl) (by kernel_rfl) (fun u => callFunc_enter _ _ _ _ u Try.func9 (by kernel_rfl) (by kernel_rfl)) (.int .i64 0) (law_num 0 w33) (fun w34 hb => ?_)
    have Nw34 := Lib.hid (Nw33.out.grow hb)
    clear hb Nw33
    try simp only [Act.put, sl1, sl2, sl3, sl4, sl5, sl6]
    refine wpList_wantL (by kernel_rfl) (.bool true) (fun u => by kernel_rfl) ?_
    try simp only [Act.put, sl1, sl2, sl3, sl4, sl5, sl6]
    refine wpList_pureL rfl (.bool true) (fun u => by kernel_rfl) ?_
    refine wpList_pureL rfl (.bool true) (fun u => by kernel_rfl) ?_
    try simp only [Act.put, sl1, sl2, sl3, sl4, sl5, sl6]
    refine wpList_wantL (by kernel_rfl) (.int .i64 0) (fun u => by kernel_rfl) ?_
    try simp only [Act.put, sl1, sl2, sl3, sl4, sl5, sl6]
    refine wpList_fnG (by kernel_rfl) 9 (.func 9) #[.tmp 122] #[31] rfl #[] #[.int .i64 0] (by kernel_rfl) (by kernel_rfl) (fun u => callFunc_enter _ _ _ _ u Try.func9 (by kernel_rfl) (by kernel_rfl)) (.int .i64 0) (law_num 0 w34) (fun w35 hb => ?_)
    have Nw35 := Lib.hid (Nw34.out.grow hb)
    clear hb Nw34
    try simp only [Act.put, sl1, sl2, sl3, sl4, sl5, sl6]
    refine wpList_wantL (by kernel_rfl) (.bool true) (fun u => by kernel_rfl) ?_
    try simp only [Act.put, sl1, sl2, sl3, sl4, sl5, sl6]
    refine wpList_pureL rfl (.bool true) (fun u => by kernel_rfl) ?_
    refine wpList_pureL rfl (.bool true) (fun u => by kernel_rfl) ?_
    try simp only [Act.put, sl1, sl2, sl3, sl4, sl5, sl6]
    refine wpList_wantL (by kernel_rfl) (.int .i64 0) (fun u => by kernel_rfl) ?_
    try simp only [Act.put, sl1, sl2, sl3, sl4, sl5, sl6]
    refine wpList_fnG (by kernel_rfl) 9 (.func 9) #[.tmp 127] #[31] rfl #[] #[.int .i64 0] (by kernel_rfl) (by kernel_rfl) (fun u => callFunc_enter _ _ _ _ u Try.func9 (by kernel_rfl) (by kernel_rfl)) (.int .i64 0) (law_num 0 w35) (fun w36 hb => ?_)
    have Nw36 := Lib.hid (Nw35.out.grow hb)
    clear hb Nw35
    try simp only [Act.put, sl1, sl2, sl3, sl4, sl5, sl6]
    refine wpList_wantL (by kernel_rfl) (.bool true) (fun u => by kernel_rfl) ?_
    try simp only [Act.put, sl1, sl2, sl3, sl4, sl5, sl6]
    refine wpList_pureL rfl (.bool true) (fun u => by kernel_rfl) ?_
    refine wpList_pureL rfl (.bool true) (fun u => by kernel_rfl) ?_
    try simp only [Act.put, sl1, sl2, sl3, sl4, sl5, sl6]
    refine wpList_wantL (by kernel_rfl) (.int .i64 0) (fun u => by kernel_rfl) ?_
    try simp only [Act.put, sl1, sl2, sl3, sl4, sl5, sl6]
    refine wpList_fnG (by kernel_rfl) 9 (.func 9) #[.tmp 132] #[31] rfl #[] #[.int .i64 0] (by kernel_rfl) (by kernel_rfl) (fun u => callFunc_enter _ _ _ _ u Try.func9 (by kernel_rfl) (by kernel_rfl)) (.int .i64 0) (law_num 0 w36) (fun w37 hb => ?_)
    have Nw37 := Lib.hid (Nw36.out.grow hb)
    clear hb Nw36
    try simp only [Act.put, sl1, sl2, sl3, sl4, sl5, sl6]
    refine wpList_wantL (by kernel_rfl) (.bool true) (fun u => by kernel_rfl) ?_
    try simp only [Act.put, sl1, sl2, sl3, sl4, sl5, sl6]
    refine wpList_pureL rfl (.bool true) (fun u => by kernel_rfl) ?_
    refine wpList_pureL rfl (.bool true) (fun u => by kernel_rfl) ?_
    try simp only [Act.put, sl1, sl2, sl3, sl4, sl5, sl6]
    refine wpList_segG (by kernel_rfl) 28 (.tmp 8) rfl p1 0 19 (by kernel_rfl) (gpt k (r * 1)) (Nw37.out.at 2 rfl) _ Try.underlying28 rfl (by kernel_rfl) (gpt_size _ _) (fun j hj => by rw [Nat.zero_add j]) ?_
    try simp only [Act.put, sl1, sl2, sl3, sl4, sl5, sl6]
    refine wpList_segG (by kernel_rfl) 28 (.tmp 10) rfl p2 0 19 (by kernel_rfl) (gpt k (r * 1)) (Nw37.out.at 3 rfl) _ Try.underlying28 rfl (by kernel_rfl) (gpt_size _ _) (fun j hj => by rw [Nat.zero_add j]) ?_
    try simp only [Act.put, sl1, sl2, sl3, sl4, sl5, sl6]
    refine wpList_wantL (by kernel_rfl) (.bool true) (fun u => by exact run_eqp _ _ _ rfl k (r * 1) (r * 1) (by kernel_rfl) (by kernel_rfl) true (decide_eq_true rfl) u) ?_
    try simp only [Act.put, sl1, sl2, sl3, sl4, sl5, sl6]
    refine wpList_pureL rfl (.bool true) (fun u => by kernel_rfl) ?_
    refine wpList_pureL rfl (.bool true) (fun u => by kernel_rfl) ?_
    try simp only [Act.put, sl1, sl2, sl3, sl4, sl5, sl6]
    refine wpList_segG (by kernel_rfl) 28 (.tmp 10) rfl p2 0 19 (by kernel_rfl) (gpt k (r * 1)) (Nw37.out.at 3 rfl) _ Try.underlying28 rfl (by kernel_rfl) (gpt_size _ _) (fun j hj => by rw [Nat.zero_add j]) ?_
    try simp only [Act.put, sl1, sl2, sl3, sl4, sl5, sl6]
    refine wpList_segG (by kernel_rfl) 28 (.tmp 12) rfl p3 0 19 (by kernel_rfl) (gpt k r) (Nw37.out.at 4 rfl) _ Try.underlying28 rfl (by kernel_rfl) (gpt_size _ _) (fun j hj => by rw [Nat.zero_add j]) ?_
    try simp only [Act.put, sl1, sl2, sl3, sl4, sl5, sl6]
    refine wpList_wantL (by kernel_rfl) (.bool true) (fun u => by exact run_eqp _ _ _ rfl k (r * 1) (r) (by kernel_rfl) (by kernel_rfl) true (decide_eq_true (by congr 1 <;> omega)) u) ?_
    try simp only [Act.put, sl1, sl2, sl3, sl4, sl5, sl6]
    refine wpList_pureL rfl (.bool true) (fun u => by kernel_rfl) ?_
    refine wpList_pureL rfl (.bool true) (fun u => by kernel_rfl) ?_
    try simp only [Act.put, sl1, sl2, sl3, sl4, sl5, sl6]
    refine wpList_segG (by kernel_rfl) 28 (.tmp 12) rfl p3 0 19 (by kernel_rfl) (gpt k r) (Nw37.out.at 4 rfl) _ Try.underlying28 rfl (by kernel_rfl) (gpt_size _ _) (fun j hj => by rw [Nat.zero_add j]) ?_
    try simp only [Act.put, sl1, sl2, sl3, sl4, sl5, sl6]
    refine wpList_segG (by kernel_rfl) 28 (.tmp 14) rfl p4 0 19 (by kernel_rfl) (gpt k (r + 0 * 1)) (Nw37.out.at 5 rfl) _ Try.underlying28 rfl (by kernel_rfl) (gpt_size _ _) (fun j hj => by rw [Nat.zero_add j]) ?_
    try simp only [Act.put, sl1, sl2, sl3, sl4, sl5, sl6]
    refine wpList_wantL (by kernel_rfl) (.bool true) (fun u => by exact run_eqp _ _ _ rfl k (r) (r + 0 * 1) (by kernel_rfl) (by kernel_rfl) true (decide_eq_true (by congr 1 <;> omega)) u) ?_
    try simp only [Act.put, sl1, sl2, sl3, sl4, sl5, sl6]
    refine wpList_pureL rfl (.bool true) (fun u => by kernel_rfl) ?_
    refine wpList_pureL rfl (.bool true) (fun u => by kernel_rfl) ?_
    try simp only [Act.put, sl1, sl2, sl3, sl4, sl5, sl6]
    refine wpList_segG (by kernel_rfl) 28 (.tmp 14) rfl p4 0 19 (by kernel_rfl) (gpt k (r + 0 * 1)) (Nw37.out.at 5 rfl) _ Try.underlying28 rfl (by kernel_rfl) (gpt_size _ _) (fun j hj => by rw [Nat.zero_add j]) ?_
    try simp only [Act.put, sl1, sl2, sl3, sl4, sl5, sl6]
    refine wpList_segG (by kernel_rfl) 28 (.tmp 16) rfl p5 0 19 (by kernel_rfl) (gpt k (0 + r * 1)) (Nw37.out.at 6 rfl) _ Try.underlying28 rfl (by kernel_rfl) (gpt_size _ _) (fun j hj => by rw [Nat.zero_add j]) ?_
    try simp only [Act.put, sl1, sl2, sl3, sl4, sl5, sl6]
    refine wpList_wantL (by kernel_rfl) (.bool true) (fun u => by exact run_eqp _ _ _ rfl k (r + 0 * 1) (0 + r * 1) (by kernel_rfl) (by kernel_rfl) true (decide_eq_true (by congr 1 <;> omega)) u) ?_
    try simp only [Act.put, sl1, sl2, sl3, sl4, sl5, sl6]
    refine wpList_pureL rfl (.bool true) (fun u => by kernel_rfl) ?_
    refine wpList_pureL rfl (.bool true) (fun u => by kernel_rfl) ?_
    try simp only [Act.put, sl1, sl2, sl3, sl4, sl5, sl6]
    refine wpList_segG (by kernel_rfl) 28 (.tmp 20) rfl p6 0 19 (by kernel_rfl) (gpt k (r * 1)) (Nw37.out.at 8 rfl) _ Try.underlying28 rfl (by kernel_rfl) (gpt_size _ _) (fun j hj => by rw [Nat.zero_add j]) ?_
    try simp only [Act.put, sl1, sl2, sl3, sl4, sl5, sl6]
    refine wpList_segG (by kernel_rfl) 28 (.tmp 8) rfl p1 0 19 (by kernel_rfl) (gpt k (r * 1)) (Nw37.out.at 2 rfl) _ Try.underlying28 rfl (by kernel_rfl) (gpt_size _ _) (fun j hj => by rw [Nat.zero_add j]) ?_
    try simp only [Act.put, sl1, sl2, sl3, sl4, sl5, sl6]
    refine wpList_wantL (by kernel_rfl) (.bool true) (fun u => by exact run_eqp _ _ _ rfl k (r * 1) (r * 1) (by kernel_rfl) (by kernel_rfl) true (decide_eq_true rfl) u) ?_
    try simp only [Act.put, sl1, sl2, sl3, sl4, sl5, sl6]
    refine wpList_pureL rfl (.bool true) (fun u => by kernel_rfl) ?_
    refine wpList_pureL rfl (.bool true) (fun u => by kernel_rfl) ?_
    try simp only [Act.put, sl1, sl2, sl3, sl4, sl5, sl6]
    refine wpList_wantL (by kernel_rfl) (.pointer (some ⟨cx, 0, none⟩)) (fun u => by kernel_rfl) ?_
    try simp only [Act.put, sl1, sl2, sl3, sl4, sl5, sl6]
    refine wpList_cellG (by kernel_rfl) 3 (.tmp 162) rfl cx 0 (by kernel_rfl) (.int .i64 (k.1 : Int)) _ Try.underlying3 rfl ((cell_of (Nw37.out.at 0 rfl) 0).trans (ac_idk _)) ?_
    try simp only [Act.put, sl1, sl2, sl3, sl4, sl5, sl6]
    refine wpList_segG (by kernel_rfl) 28 (.tmp 8) rfl p1 0 19 (by kernel_rfl) (gpt k (r * 1)) (Nw37.out.at 2 rfl) _ Try.underlying28 rfl (by kernel_rfl) (gpt_size _ _) (fun j hj => by rw [Nat.zero_add j]) ?_
    try simp only [Act.put, sl1, sl2, sl3, sl4, sl5, sl6]
    refine wpList_fnG (by kernel_rfl) 17 (.func 17) #[.tmp 163, .tmp 164] #[3, 28] rfl #[] #[.int .i64 (k.1 : Int), .agg (gpt k (r * 1))] (by kernel_rfl) (by kernel_rfl) (fun u => callFunc_enter _ _ _ _ u Try.func17 (by kernel_rfl) (by kernel_rfl)) (.bool true) (curve_on_fn k (r * 1) w37) (fun w38 hb => ?_)
    have Nw38 := Lib.hid (Nw37.out.grow hb)
    clear hb Nw37
    try simp only [Act.put, sl1, sl2, sl3, sl4, sl5, sl6]
    refine wpList_pureL rfl (.bool true) (fun u => by kernel_rfl) ?_
    refine wpList_pureL rfl (.bool true) (fun u => by kernel_rfl) ?_
    refine wpList_nil ?_
    try simp only [Act.put, sl1, sl2, sl3, sl4, sl5, sl6]
    go_wp2_with (fail)
    go_ret
    exact ⟨rfl, Nw38.out.below⟩
theorem products_row (a0 a1 : Int) (w : World) (_ : (Lit.int .i64 a0).wf = true) (h : (Lit.int .u64 a1).wf = true) : Calls Try.prog 4 #[.int .i64 a0, .int .u64 a1] w fun e w' => e = .returned (.bool true) ∧ Below w.heap.size w w' := by
  obtain ⟨n, hn, e⟩ := wn_of_wf h
  rw [e]
  exact products_walk a0 n w hn
end Go.Proofs.Ytkoonhiplicbkaa.Cw
