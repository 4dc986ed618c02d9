/-
  (package window) Digits: a number cut into digits, the highest first. Condition: digits of 1 to 6 bits, a number below 2^bits, at most 576 bits.
-/
import Derived.Test.YtkoonhiplicbkaaRw1
import Derived.Test.YtkoonhiplicbkaaOpn
import Derived.Test.YtkoonhiplicbkaaMsk
set_option linter.unusedSimpArgs false
set_option linter.unusedVariables false
namespace Go.Proofs.Ytkoonhiplicbkaa.Cw
open Go Go.RowKit
/-- a digit -/
def dgt (d x q : Nat) : Nat := d / 2 ^ (q * x) % 2 ^ x
/-- the first n of c digits, the highest first -/
def dgs (d x c : Nat) : Nat → List Value
  | 0 => []
  | n + 1 => dgs d x c n ++ [.int .i64 ((dgt d x (c - 1 - n) : Nat) : Int)]
theorem dgs_len (d x c : Nat) : ∀ n, (dgs d x c n).length = n
  | 0 => rfl
  | n + 1 => by simp [dgs, dgs_len d x c n]
theorem dgs_get (d x c : Nat) : ∀ n i, i < n → (dgs d x c n)[i]? = some (.int .i64 ((dgt d x (c - 1 - i) : Nat) : Int))
  | 0, i, h => by omega
  | n + 1, i, h => by
    rcases Nat.lt_or_ge i n with h1 | h1
    · rw [dgs, List.getElem?_append_left (by rw [dgs_len]; exact h1), dgs_get d x c n i h1]
    · obtain rfl : i = n := by omega
      rw [dgs, List.getElem?_append_right (by rw [dgs_len]; omega), dgs_len]
      simp
/-- how many digits -/
def cntD (b x : Nat) : Nat := (b + x - 1) / x
theorem dgt_lt (d x q : Nat) : dgt d x q < 2 ^ x := Nat.mod_lt _ (Nat.two_pow_pos x)
theorem cnt_le {b x : Nat} (hx : 0 < x) (hb : 0 < b) : 1 ≤ cntD b x ∧ (cntD b x - 1) * x ≤ b - 1 ∧ b ≤ cntD b x * x := by
  unfold cntD
  have h := Nat.div_add_mod (b + x - 1) x
  have h2 := Nat.mod_lt (b + x - 1) hx
  have h3 : 1 ≤ (b + x - 1) / x := (Nat.le_div_iff_mul_le hx).2 (by omega)
  generalize (b + x - 1) / x = c at *
  generalize (b + x - 1) % x = r at *
  obtain ⟨e, rfl⟩ : ∃ e, c = e + 1 := ⟨c - 1, by omega⟩
  rw [Nat.mul_comm x (e + 1), Nat.add_mul, Nat.one_mul] at h
  rw [Nat.add_sub_cancel, Nat.add_mul, Nat.one_mul]
  exact ⟨h3, by omega, by omega⟩
theorem info_int : ∃ ie, Try.prog.info? 3 = some ie ∧ ie.zero = some (.int .i64 0) ∧ ie.size = 1 ∧ ie.bytes = 8 := by
  have h : (Try.prog.info? 3).map (fun i => (i.zero, i.size, i.bytes)) = some (some (.int .i64 0), 1, 8) := by kernel_rfl
  obtain ⟨ie, h1, h2⟩ := Option.map_eq_some_iff.1 h
  injection h2 with h3 h4
  injection h4 with h5 h6
  exact ⟨ie, h1, h3, h5, h6⟩
theorem run_wn {P : Program} {ρ : Operand → Value} {o : Oper} {v : Value} (op : BinOp) (t t2 : TypeId) (x y : Operand) (ho : o.op = .binOp op t x y t2) (p : Nat) (b : Value) (hx : ρ x = wn p) (hy : ρ y = b) (h : binOp op t (wn p) b = pure v) (u : World) : (execOp ρ o).run P u = .ok (.value v) u := by
  obtain ⟨d, op, type, pos, after, guard⟩ := o
  subst ho
  simp only [execOp, hx, hy, wn_guard, h, Sem.run_bind, Sem.run_pure, Result.andThen_ok]
theorem dgt_and (d x q : Nat) (hx : x ≤ 6) : dig (d / 2 ^ (q * x)) 0 &&& (2 ^ x - 1) = dgt d x q := by
  rw [Nat.and_two_pow_sub_one_eq_mod]
  have e : dig (d / 2 ^ (q * x)) 0 = d / 2 ^ (q * x) % 2 ^ 64 := by simp [dig, pw]
  rw [e, Nat.mod_mod_of_dvd _ (Nat.pow_dvd_pow 2 (show x ≤ 64 by omega))]; rfl
theorem wpN_loadG {ops : Array Oper} {rest : List Oper} {o : Oper} {a : Act} {w : World} {Q : Exit → Act → World → Prop} (hwt : Region.wanted o (yielded ops a.tmps) = true) (x : Operand) (ho : o.op = .load 26 x) (g : Nat) (hx : a.eval x = .pointer (some ⟨g, 0, none⟩)) {t : TypeId} {fr : Nat × Nat} {n : Nat} (hg : w.heap[g]? = some (.cells (nc n) t fr))
    (h : wpList Try.prog ops Q rest (a.put o.dst (.agg (nc n))) w) : wpList Try.prog ops Q (o :: rest) a w := by
  unfold wpList
  rw [if_pos hwt]
  refine .inl ?_
  exact wp_load_seg 26 x ho g 0 9 hx t (nc n) (nc n) fr _ hg Try.underlying26 rfl (by kernel_rfl) (nc_size n) (fun j _ => by rw [Nat.zero_add]) h
attribute [local irreducible] pc ptc nc ac cuc fc
attribute [local go_sem ↓ high] wn_eql wn_neq wn_lss wn_gtr wn_leq wn_geq wn_cells wn_run_store wn_guard lit0 lit1
attribute [local go_sem high] wn_match wn_run_store wn_eql wn_neq wn_lss wn_gtr wn_leq wn_geq
set_option maxRecDepth 100000 in
theorem window_wide (x : Nat) (h1 : 1 ≤ x) (h2 : x ≤ 6) (w : World) : Calls Try.prog 19 #[.int .i64 x] w fun e w' => e = .returned (.bool true) ∧ Below w.heap.size w w' := by
  go_enter Try.func19, Try.ntmps19
  have d1 : decide ((x : Int) ≥ 1) = true := decide_eq_true (by omega)
  have d2 : decide ((x : Int) ≤ 6) = true := decide_eq_true (by omega)
  go_wp2
  all_goals first
    | (exfalso; omega)
    | (go_ret; exact ⟨rfl, Below.refl _ _⟩)

set_option maxRecDepth 100000 in
set_option maxHeartbeats 4000000 in
theorem window_digits (d b x : Nat) (w : World) (hd : d < 2 ^ b) (hb1 : 1 ≤ b) (hb2 : b ≤ 576) (hx1 : 1 ≤ x) (hx2 : x ≤ 6) : Calls Try.prog 8 #[.agg (nc d), .int .i64 b, .int .i64 x] w fun e w' => ∃ v, e = .returned (.tuple #[v, .int .i64 0]) ∧ Ow w' w.heap.size 3 1 v (cntD b x) (dgs d x (cntD b x) (cntD b x)) ∧ Below w.heap.size w w' := by
  have hd9 : d < pw 9 := Nat.lt_of_lt_of_le hd (Nat.le_trans (Nat.pow_le_pow_right Nat.zero_lt_two hb2) (Nat.le_of_eq pw_nine.symm))
  have hblb : bl d ≤ b := by
    rcases Nat.eq_zero_or_pos d with h0 | h0
    · rw [h0]; exact Nat.zero_le _
    · have h1 := bl_ge d (by omega)
      have h2 := (Nat.pow_lt_pow_iff_right (by decide : 1 < 2)).1 (Nat.lt_of_le_of_lt h1 hd)
      omega
  obtain ⟨hc1, hc2, hc3⟩ := cnt_le (b := b) (x := x) (by omega) (by omega)
  have HD9 := Lib.hid hd9
  have HX1 := Lib.hid hx1
  have HX2 := Lib.hid hx2
  have HDB := Lib.hid hd
  have HC2 := Lib.hid hc2
  have HB2 := Lib.hid hb2
  obtain ⟨ie, hie⟩ := info_int
  have HIE := Lib.hid hie
  have d1 : decide ((b : Int) < 1) = false := decide_eq_false (by omega)
  have d2 : decide ((b : Int) > 576) = false := decide_eq_false (by omega)
  have d3 : decide ((bl d : Int) > b) = false := decide_eq_false (by omega)
  obtain ⟨c, hc⟩ : ∃ c, c = cntD b x := ⟨_, rfl⟩
  rw [← hc]
  rw [← hc] at hc1 HC2
  have HCC := Lib.hid (show (b + x - 1) / x = c from hc.symm)
  have HC1 := Lib.hid hc1
  have HCB := Lib.hid (show c ≤ 576 by have := Nat.le_mul_of_pos_right (c - 1) (show 0 < x by omega); have := HC2.out; omega)
  clear hd hd9 hc2 hc3 hie hc hx1 hx2
  go_enter Try.func8, Try.ntmps8
  go_upto_region 1 with fail
  have m0 := Mem.start1 w (nc d) 26
  obtain ⟨w1, hw1⟩ : ∃ w1 : World, w1 = (w.alloc (.cells (nc d) 26)) := ⟨_, rfl⟩
  rw [← hw1] at m0 ⊢
  clear hw1
  obtain ⟨g, hg⟩ : ∃ g, g = w.heap.size := ⟨_, rfl⟩
  rw [← hg] at m0 ⊢
  have HG := Lib.hid hg
  have M := Lib.hid m0
  clear hg m0

  go_upto_region 3 with (first
    | (go_at_call 19; refine (window_wide x HX1.out HX2.out w1).mono ?_; rintro e w2 ⟨rfl, hb⟩; have M2 := Lib.hid (show Mem w w2 [(g, nc d, 26)] from M.out.grow hb); clear hb M)
    | (refine wpN_loadG rfl (.tmp 3) rfl g rfl (M2.out.at 0 rfl) ?_)
    | (go_at_call 20; refine (nat_bits d w2 HD9.out).mono ?_; rintro e w3 ⟨rfl, hb⟩; have M3 := Lib.hid (show Mem w w3 [(g, nc d, 26)] from M2.out.grow hb); clear hb M2))
  go_upto_region 4 with (fail)
  have hx1 := HX1.out
  have hx2 := HX2.out
  have hc1 := HC1.out
  have hcb := HCB.out
  refine wp_region_lit ?_
  refine wpList_pureL rfl (.int .i64 (b : Int)) (fun u => by kernel_rfl) ?_
  refine wpList_pureL rfl (.int .i64 (x : Int)) (fun u => by kernel_rfl) ?_
  try simp only [Act.put, sl1, sl2, sl3, sl4, sl5, sl6]
  refine wpList_pureL rfl (.int .i64 ((b + x : Nat) : Int)) (fun u => by exact run_bini _ _ _ _ _ rfl ((b : Int)) ((x : Int)) (by kernel_rfl) (by kernel_rfl) (bi_add _ (by omega)) u) ?_
  try simp only [Act.put, sl1, sl2, sl3, sl4, sl5, sl6]
  refine wpList_pureL rfl (.int .i64 ((b + x - 1 : Nat) : Int)) (fun u => by exact run_bini _ _ _ _ _ rfl (((b + x : Nat) : Int)) (((1 : Nat) : Int)) (by kernel_rfl) (by kernel_rfl) (bi_sub _ (by omega) (by omega)) u) ?_
  refine wpList_pureL rfl (.int .i64 (x : Int)) (fun u => by kernel_rfl) ?_
  try simp only [Act.put, sl1, sl2, sl3, sl4, sl5, sl6]
  refine wpList_pureL rfl (.int .i64 ((c : Nat) : Int)) (fun u => by exact run_bini _ _ _ _ _ rfl (((b + x - 1 : Nat) : Int)) ((x : Int)) (by kernel_rfl) (by kernel_rfl) ((bi_quo _ (by omega) (by omega)).trans (by rw [HCC.out])) u) ?_
  try simp only [Act.put, sl1, sl2, sl3, sl4, sl5, sl6]
  refine wpList_pureL rfl (.int .i64 ((c - 1 : Nat) : Int)) (fun u => by exact run_bini _ _ _ _ _ rfl ((c : Int)) (((1 : Nat) : Int)) (by kernel_rfl) (by kernel_rfl) (bi_sub _ (by omega) (by omega)) u) ?_
  refine wpList_pureL rfl (.int .i64 ((c - 1 : Nat) : Int)) (fun u => by kernel_rfl) ?_
  refine wpList_nil ?_
  try simp only [Act.put, sl1, sl2, sl3, sl4, sl5, sl6]
  have MO1 := Lib.hid (MO.start (e := 3) (size := 1) M3.out)
  clear M3
  go_upto_region 5 with (fail)
  go_loopw [9, 8] (fun iv vv wr => ∃ (n : Nat) (v : Value), n ≤ c ∧ iv = .int .i64 ((c : Int) - 1 - n) ∧ v = vv ∧ MO 3 1 w wr [(g, nc d, 26)] v n (dgs d x c n)) (fun iv _ _ => (intOf iv + 1).toNat)
  case atStart => exact ⟨0, _, Nat.zero_le _, by go_num, rfl, MO1.out⟩
  case round =>
    obtain ⟨n, v, hn, rfl, rfl, hm⟩ := hrel
    have M := Lib.hid hm
    clear hm MO1
    by_cases hlt : n < c
    · skip
      obtain ⟨q, hq⟩ : ∃ q, q = c - 1 - n := ⟨_, rfl⟩
      have e1 : (c : Int) - 1 - n = (q : Int) := by omega
      rw [e1]
      have hqx : q * x ≤ 575 := Nat.le_trans (Nat.mul_le_mul_right x (show q ≤ c - 1 by omega)) (by have := HC2.out; omega)
      have HQX := Lib.hid hqx
      have HQ := Lib.hid hq
      have HN := Lib.hid hlt
      have hq5 : q ≤ 575 := by omega
      have dl : decide ((q : Int) ≥ 0) = true := decide_eq_true (by omega)
      have HMX := Lib.hid (show q * x < 9223372036854775808 by omega)
      clear hqx e1
      go_upto_region 7 with (fail)
      refine wp_region_lit ?_
      refine wpN_load0 rfl (.tmp 3) rfl g (by kernel_rfl) (M.out.at 0 rfl) ?_
      refine wpList_pureL rfl (.int .i64 ((q : Nat) : Int)) (fun u => by kernel_rfl) ?_
      refine wpList_pureL rfl (.int .i64 (x : Int)) (fun u => by kernel_rfl) ?_
      try simp only [Act.put, sl1, sl2, sl3, sl4, sl5, sl6]
      refine wpList_pureL rfl (.int .i64 ((q * x : Nat) : Int)) (fun u => by exact run_bini _ _ _ _ _ rfl ((q : Int)) ((x : Int)) (by kernel_rfl) (by kernel_rfl) (bi_mul _ HMX.out) u) ?_
      try simp only [Act.put, sl1, sl2, sl3, sl4, sl5, sl6]
      refine wpList_pureL rfl (.int .i64 ((q * x : Nat) : Int)) (fun u => by exact run_min _ _ _ _ rfl (q * x) 576 (by kernel_rfl) (by kernel_rfl) (by have := HQX.out; omega) u) ?_
      refine wpList_fnL rfl 21 (.func 21) #[.tmp 41, .tmp 45] #[26, 3] rfl #[] #[.agg (nc d), .int .i64 ((q * x : Nat) : Int)] (by kernel_rfl) (by kernel_rfl) (fun u => callFunc_enter _ _ _ _ u Try.func21 (by kernel_rfl) (by kernel_rfl)) (.tuple #[.agg (nc (d / 2 ^ (q * x))), .int .i64 0]) (nat_shr d (q * x) wr HD9.out (by have := HQX.out; omega)) (fun w2 hb => ?_)
      have Nw2 := Lib.hid (show MO 3 1 w w2 [(g, nc d, 26)] v n (dgs d x c n) from M.out.grow hb)
      clear hb M
      refine wpList_pureL rfl (.tuple #[.agg (nc (d / 2 ^ (q * x))), .int .i64 0]) (fun u => by kernel_rfl) ?_
      refine wpList_pureL rfl (.agg (nc (d / 2 ^ (q * x)))) (fun u => by kernel_rfl) ?_
      refine wpList_pureL rfl (.int .i64 0) (fun u => by kernel_rfl) ?_
      refine wpList_new rfl 26 rfl (.agg (nc 0)) (by rw [nc_zero]; kernel_rfl) ?_
      intro xd w3 hx hx2 hgv hh
      have Nw3 := Lib.hid (show MO 3 1 w w3 [(g, nc d, 26), (xd, nc 0, 26)] v n (dgs d x c n) from Nw2.out.new hgv (Nat.le_of_eq hx) hh)
      clear hx hx2 hgv hh Nw2
      refine wpList_store_blk rfl 26 (.tmp 10) (.tmp 47) rfl xd (by kernel_rfl) _ _ (nc (d / 2 ^ (q * x))) (by kernel_rfl) (Nw3.out.at 1 rfl) (by rw [nc_size]; kernel_rfl) (by simp only [nc_size]) (nc_one _) ?_
      intro w4 hw hb hs
      have Nw4 := Lib.hid (show MO 3 1 w w4 [(g, nc d, 26), (xd, nc (d / 2 ^ (q * x)), 26)] v n (dgs d x c n) from Nw3.out.store 1 rfl hb hs hw)
      clear hw hb hs Nw3
      refine wpList_pureL rfl (.int .i64 0) (fun u => by kernel_rfl) ?_
      refine wpList_nil ?_
      try simp only [Act.put, sl1, sl2, sl3, sl4, sl5, sl6]
      go_upto_region 8 with (fail)
      have D := Lib.hid (Nw4.out.drew)
      clear Nw4
      have hC : ∀ u : World, MO 3 1 w u [(g, nc d, 26), (xd, nc (d / 2 ^ (q * x)), 26)] v n (dgs d x c n) → Mem w u [(g, nc d, 26), (xd, nc (d / 2 ^ (q * x)), 26)] := fun u h => h.m
      refine wp_region_cls (C := (fun u => Mem w u [(g, nc d, 26), (xd, nc (d / 2 ^ (q * x)), 26)])) (fun u u2 hu hg => Mem.grow hu hg) [0, 1, 2, 3, 4, 5, 6, 7, 8] (hC _ D.out) (by kernel_rfl) (by kernel_rfl) (fun d v c a w h => by cases d <;> exact h) ?_
      simp only [pickOps, List.filterMap_cons, List.filterMap_nil, List.getElem?_cons_succ, List.getElem?_cons_zero]
      have h2x : 1 * 2 ^ x % 18446744073709551616 = 2 ^ x ∧ subW (2 ^ x) 1 = 2 ^ x - 1 ∧ 2 ^ x - 1 < 18446744073709551616 ∧ 2 ^ x ≤ 64 := by
        obtain rfl | rfl | rfl | rfl | rfl | rfl : x = 1 ∨ x = 2 ∨ x = 3 ∨ x = 4 ∨ x = 5 ∨ x = 6 := by omega
        all_goals decide
      have H2X := Lib.hid h2x
      clear h2x
      refine wpE_pure rfl v (fun u => by kernel_rfl) ?_
      refine wpE_pure rfl (.pointer (some ⟨xd, 0, none⟩)) (fun u => by kernel_rfl) ?_
      refine wpE_pure rfl (.pointer (some ⟨xd, 0, none⟩)) (fun u => by kernel_rfl) ?_
      refine wpE_load_cell rfl 22 (.tmp 51) rfl xd 0 (by kernel_rfl) (wn (dig (d / 2 ^ (q * x)) 0)) _ Try.underlying22 rfl (fun u hu => (cell_of (Mem.at hu 1 rfl) 0).trans (nc_get _ 0 (by decide))) ?_
      refine wpE_pure rfl (.int .i64 (x : Int)) (fun u => by kernel_rfl) ?_
      refine wpE_pure rfl (wn (2 ^ x)) (fun u => by exact run_wn _ _ _ _ _ rfl 1 (.int .i64 (x : Int)) (by kernel_rfl) (by kernel_rfl) ((wn_shl _ 1 .i64 x).trans (by rw [H2X.out.1])) u) ?_
      refine wpE_pure rfl (wn (2 ^ x - 1)) (fun u => by exact run_wn _ _ _ _ _ rfl (2 ^ x) (wn 1) (by kernel_rfl) (by kernel_rfl) (by rw [wn_sub, H2X.out.2.1]) u) ?_
      refine wpE_pure rfl (wn (dgt d x q)) (fun u => by exact run_wn _ _ _ _ _ rfl (dig (d / 2 ^ (q * x)) 0) (wn (2 ^ x - 1)) (by kernel_rfl) (by kernel_rfl) (by rw [wn_and _ _ _ (dig_lt _ _) H2X.out.2.2.1, dgt_and d x q HX2.out]) u) ?_
      refine wpE_pure rfl (.int .i64 ((dgt d x q : Nat) : Int)) (fun u => by exact conv_int 22 3 (.tmp 56) rfl (dgt d x q) (by kernel_rfl) (by have := dgt_lt d x q; have := H2X.out.2.2.2; omega) Try.underlying22 Try.underlying3 u) ?_
      refine wpE_nil ?_
      try simp only [Act.put, sl1, sl2, sl3, sl4, sl5, sl6]
      refine ready_E (rs := [9]) (by kernel_rfl) (by simp) (fun u hgB => ?_)
      have N1 := Lib.hid (D.out.grow hgB)
      clear D
      clear hgB
      refine EAll.cons rfl (fun K hK => step_slice1 rfl 36 3 (.tmp 57) rfl (.int .i64 ((dgt d x q : Nat) : Int)) rfl ie (.int .i64 0) 1 (by decide) (by decide) Try.underlying36 HIE.out.1 HIE.out.2.1 HIE.out.2.2.1 rfl rfl (fun y u1 _ _ hgy hy => hK _ _ (hC _ (N1.out.grow hgy)) ?_)) EAll.nil
      try simp only [Act.put, sl1, sl2, sl3, sl4, sl5, sl6]
      have N2 := Lib.hid (N1.out.grow hgy)
      clear hgy N1
      refine ready_E (rs := [10]) (by kernel_rfl) (by simp) (fun u hgB => ?_)
      have N3 := Lib.hid (N2.out.grow hgB)
      clear N2
      have hy2 := grows_at hy hgB
      clear hgB
      refine EAll.cons rfl (fun K hK => step_app1 rfl (.tmp 49) (.tmp 58) 36 rfl 3 ie (.int .i64 0) 1 8 Try.underlying36 HIE.out.1 HIE.out.2.1 HIE.out.2.2.1 HIE.out.2.2.2 rfl v n (dgs d x c n) N3.out (by kernel_rfl) y (by kernel_rfl) #[.int .i64 ((dgt d x q : Nat) : Int)] hy2 rfl (by intro u hu; simp at hu; subst hu; rfl) (by have := HCB.out; have := HN.out; omega) (by have := HCB.out; have := HN.out; simp only [maxLen]; omega) (fun v2 u2 M2 => hK _ _ M2.m ?_)) EAll.nil
      try simp only [Act.put, sl1, sl2, sl3, sl4, sl5, sl6]
      have N4 := Lib.hid M2
      clear M2 N3
      refine ready_E (rs := [11]) (by kernel_rfl) (by simp) (fun u hgB => ?_)
      have N5 := Lib.hid (N4.out.grow hgB)
      clear N4
      clear hgB
      refine EAll.cons rfl (fun K hK => step_pure rfl v2 (fun u => by kernel_rfl) (hK _ _ N5.out.m ?_)) EAll.nil
      try simp only [Act.put, sl1, sl2, sl3, sl4, sl5, sl6]
      refine done_E (by kernel_rfl) (fun u9 hgB => ?_)
      have N6 := Lib.hid ((N5.out.grow hgB).take 1)
      clear hgB N5
      go_wp2_with (fail)
      go_roundw
      case rel => exact ⟨n + 1, v2, by have := HN.out; omega, by have := HQ.out; have := HN.out; go_num, rfl, by have h := N6.out; rw [HQ.out] at h; exact h⟩
      case measure => have := HQ.out; have := HN.out; simp [intOf]; omega
    · obtain rfl : n = c := by omega
      have dl : decide (((n : Int) - 1 - n) ≥ 0) = false := decide_eq_false (by omega)
      go_wp2_with (fail)
      exact bodyPost_ret (results_tmp2 rfl _ _ _) rfl ⟨v, rfl, M.out.o, M.out.below⟩
end Go.Proofs.Ytkoonhiplicbkaa.Cw
