/-
  (package mult) Times: a number times the point of a table, four bits at a time. Condition: multiples of G of one of the 15 curves, a number of at most as many bits as N has.
-/
import Derived.Test.YtkoonhiplicbkaaRw1
import Derived.Test.YtkoonhiplicbkaaDgs
import Derived.Test.YtkoonhiplicbkaaPick
set_option linter.unusedSimpArgs false
set_option linter.unusedVariables false
namespace Go.Proofs.Ytkoonhiplicbkaa.Cw
open Go Go.RowKit
/-- what the first i of c digits of 4 bits say -/
def pre (d c i : Nat) : Nat := d / 2 ^ ((c - i) * 4)
theorem pre_zero {d b : Nat} (hd : d < 2 ^ b) (hb : 0 < b) : pre d (cntD b 4) 0 = 0 := by
  unfold pre
  obtain ⟨_, _, h⟩ := cnt_le (b := b) (x := 4) (by decide) hb
  exact Nat.div_eq_of_lt (Nat.lt_of_lt_of_le hd (Nat.pow_le_pow_right (by decide) (by rw [Nat.sub_zero]; exact h)))
theorem pre_all (d c : Nat) : pre d c c = d := by simp [pre]
theorem pre_succ (d c i : Nat) (h : i < c) : pre d c (i + 1) = 16 * pre d c i + dgt d 4 (c - 1 - i) := by
  unfold pre dgt
  rw [show (c - i) * 4 = (c - 1 - i) * 4 + 4 by omega, show (c - (i + 1)) * 4 = (c - 1 - i) * 4 by omega, Nat.pow_add, ← Nat.div_div_eq_div_mul]
  have := Nat.div_add_mod (d / 2 ^ ((c - 1 - i) * 4)) (2 ^ 4)
  omega
attribute [local irreducible] pc ptc nc ac cuc fc gpt
attribute [local go_sem ↓ high] wn_eql wn_neq wn_lss wn_gtr wn_leq wn_geq wn_cells wn_run_store wn_guard lit0 lit1
attribute [local go_sem high] wn_match wn_run_store wn_eql wn_neq wn_lss wn_gtr wn_leq wn_geq

set_option maxRecDepth 100000 in
set_option maxHeartbeats 4000000 in
theorem mult_times (k : CK) (c f d t n m : Nat) (w : World) (hn : n < 2 ^ bl k.c.n) (hb1 : 1 ≤ bl k.c.n) (hb2 : bl k.c.n ≤ 576) (H : CurveAt w c f d k.c) (HT : TabAt k w t m 16) : Calls Try.prog 30 #[.pointer none, .pointer (some ⟨c, 0, none⟩), .agg (nc n), .pointer (some ⟨t, 0, none⟩)] w fun e w' => e = .returned (.agg (gpt k (n * m))) ∧ Below w.heap.size w w' := by
  have HC := Lib.hid H
  have HTB := Lib.hid HT
  have HNB := Lib.hid hn
  have HNN := Lib.hid (rp_none k)
  obtain ⟨b, hb⟩ : ∃ b, b = bl k.c.n := ⟨_, rfl⟩
  rw [← hb] at hb1 hb2 HNB
  have HBB := Lib.hid hb
  have HCB := Lib.hid H.2.2
  have HB1 := Lib.hid hb1
  have HB2 := Lib.hid hb2
  clear H HT hn hb
  go_enter Try.func30, Try.ntmps30
  go_upto_region 1 with fail
  rw [← ptc_zero]
  have m0 := Mem.start2 w (nc n) (ptc 0 0 false) 26 28
  obtain ⟨w1, hw1⟩ : ∃ w1 : World, w1 = ((w.alloc (.cells (nc n) 26)).alloc (.cells (ptc 0 0 false) 28)) := ⟨_, rfl⟩
  rw [← hw1] at m0 ⊢
  clear hw1
  obtain ⟨g, hg⟩ : ∃ g, g = w.heap.size := ⟨_, rfl⟩
  rw [← hg] at m0 ⊢
  have HG := Lib.hid hg
  have M := Lib.hid m0
  clear hg m0
  go_upto_region 1 with (fail)
  have D := Lib.hid (M.out.drew)
  clear M
  refine wp_region_cls (C := (fun u => Mem w u [(g, nc n, 26), (g + 1, ptc 0 0 false, 28)])) (fun u u2 hu hg => Mem.grow hu hg) [0, 1, 2, 3, 4, 5] D.out (by kernel_rfl) (by kernel_rfl) (fun d v c a w h => by cases d <;> exact h) ?_
  simp only [pickOps, List.filterMap_cons, List.filterMap_nil, List.getElem?_cons_succ, List.getElem?_cons_zero]
  refine wpE_loadN rfl (.tmp 6) rfl g 0 (by kernel_rfl) n (fun u hu => ⟨_, _, _, Mem.at hu 0 rfl, fun j hj => by rw [Nat.zero_add]; exact nc_get _ j hj⟩) ?_
  refine wpE_pure rfl (.pointer (some ⟨c, 0, none⟩)) (fun u => by kernel_rfl) ?_
  refine wpE_pure rfl (.pointer (some ⟨c, 0, none⟩)) (fun u => by kernel_rfl) ?_
  refine wpE_pure rfl (.pointer (some ⟨c, 0, none⟩)) (fun u => by kernel_rfl) ?_
  refine wpE_pure rfl (.pointer (some ⟨c, 56, none⟩)) (fun u => by kernel_rfl) ?_
  refine wpE_load_cell rfl 3 (.tmp 21) rfl c 56 (by kernel_rfl) (.int .i64 (b : Int)) _ Try.underlying3 rfl (fun u hu => by rw [cell_of (grows_at HCB.out hu.1), cuc_bits, HBB.out]) ?_
  refine wpE_nil ?_
  try simp only [Act.put, sl1, sl2, sl3, sl4, sl5, sl6]
  refine ready_E (rs := [6]) (by kernel_rfl) (by simp) (fun u hgB => ?_)
  have N1 := Lib.hid (D.out.grow hgB)
  clear hgB D
  refine EAll.cons rfl (fun K hK => step_fnE rfl 8 (.func 8) #[.tmp 17, .tmp 22, .const (.int .i64 4)] #[26, 3, 3] rfl #[] #[.agg (nc n), .int .i64 (b : Int), .int .i64 4] (by kernel_rfl) (by kernel_rfl) (fun u => callFunc_enter _ _ _ _ u Try.func8 (by kernel_rfl) (by kernel_rfl)) (fun v : Value => .tuple #[v, .int .i64 0]) (fun v w' => Ow w' u.heap.size 3 1 v (cntD b 4) (dgs n 4 (cntD b 4) (cntD b 4)) ∧ Below u.heap.size u w') (window_digits n b 4 u HNB.out HB1.out HB2.out (by decide) (by decide)) (fun v u2 hR => hK _ _ (N1.out.grow hR.2) ?_)) EAll.nil
  try simp only [Act.put, sl1, sl2, sl3, sl4, sl5, sl6]
  have N2 := Lib.hid (MO.join N1.out hR.1 hR.2)
  clear hR N1
  refine more_E (fun u u2 hu hg => Mem.grow hu hg) [7, 8, 9, 10, 11] 0 N2.out.m rfl (by kernel_rfl) (fun d v c a w h => by cases d <;> exact h) ?_
  simp only [pickOps, List.filterMap_cons, List.filterMap_nil, List.getElem?_cons_succ, List.getElem?_cons_zero]
  refine wpE_pure rfl (.tuple #[v, .int .i64 0]) (fun u => by kernel_rfl) ?_
  refine wpE_pure rfl (v) (fun u => by kernel_rfl) ?_
  refine wpE_pure rfl (.int .i64 0) (fun u => by kernel_rfl) ?_
  refine wpE_pure rfl (v) (fun u => by kernel_rfl) ?_
  refine wpE_pure rfl (.int .i64 0) (fun u => by kernel_rfl) ?_
  refine wpE_nil ?_
  try simp only [Act.put, sl1, sl2, sl3, sl4, sl5, sl6]
  refine done_E (by kernel_rfl) (fun u3 hgB => ?_)
  have N3 := Lib.hid (N2.out.grow hgB)
  clear hgB N2
  try simp only [Act.put, sl1, sl2, sl3, sl4, sl5, sl6]
  obtain ⟨cd, hcd⟩ : ∃ x, x = cntD b 4 := ⟨_, rfl⟩
  rw [← hcd] at N3
  have HCD := Lib.hid hcd
  clear hcd
  have hcd1 : 1 ≤ cd := by rw [HCD.out]; exact (cnt_le (by decide) HB1.out).1
  obtain ⟨gd, cap, rfl, _⟩ := N3.out.o.cell hcd1
  have hcd2 : cd ≤ 576 := by have h := (cnt_le (b := b) (x := 4) (by decide) HB1.out).2.1; rw [← HCD.out] at h; have := HB2.out; omega
  go_upto_region 2 with (fail)
  refine wp_region_lit ?_
  refine wpList_fnL rfl 47 (.func 47) #[] #[] rfl #[] #[] (by kernel_rfl) (by kernel_rfl) (fun u => callFunc_enter _ _ _ _ u Try.func47 (by kernel_rfl) (by kernel_rfl)) (.agg (pc 0 1 0)) (curve_none u3) (fun w2 hb => ?_)
  have Nw2 := Lib.hid (show MO 3 1 w w2 [(g, nc n, 26), (g + 1, ptc 0 0 false, 28)] (.slice (some ⟨gd, 0, none⟩) cd cap) cd (dgs n 4 cd cd) from N3.out.grow hb)
  clear hb N3
  refine wpList_new rfl 48 rfl (.agg (pc 0 0 0)) (by rw [pc_zero]; kernel_rfl) ?_
  intro xo w3 hx hx2 hgv hh
  have Nw3 := Lib.hid (show MO 3 1 w w3 [(g, nc n, 26), (g + 1, ptc 0 0 false, 28), (xo, pc 0 0 0, 48)] (.slice (some ⟨gd, 0, none⟩) cd cap) cd (dgs n 4 cd cd) from Nw2.out.new hgv (Nat.le_of_eq hx) hh)
  clear hx hx2 hgv hh Nw2
  refine wpList_store_blk rfl 48 (.tmp 11) (.tmp 26) rfl xo (by kernel_rfl) _ _ (pc 0 1 0) (by kernel_rfl) (Nw3.out.at 2 rfl) (by rw [pc_size]; kernel_rfl) (by simp only [pc_size]) (pc_one _ _ _) ?_
  intro w4 hw hb hs
  have Nw4 := Lib.hid (show MO 3 1 w w4 [(g, nc n, 26), (g + 1, ptc 0 0 false, 28), (xo, pc 0 1 0, 48)] (.slice (some ⟨gd, 0, none⟩) cd cap) cd (dgs n 4 cd cd) from Nw3.out.store 2 rfl hb hs hw)
  clear hw hb hs Nw3
  refine wpList_nil ?_
  try simp only [Act.put, sl1, sl2, sl3, sl4, sl5, sl6]
  go_upto_region 4 with (fail)
  go_loopw [29] (fun iv wr => ∃ (i : Nat) (o : Tri), i ≤ cd ∧ iv = .int .i64 (i : Int) ∧ Rp k o (pre n cd i * m) ∧ MO 3 1 w wr [(g, nc n, 26), (g + 1, ptc 0 0 false, 28), (xo, pc o.x o.y o.z, 48)] (.slice (some ⟨gd, 0, none⟩) cd cap) cd (dgs n 4 cd cd)) (fun iv _ => (cd - intOf iv).toNat)
  case atStart => exact ⟨0, ⟨0, 1, 0⟩, Nat.zero_le _, rfl, by rw [HCD.out, pre_zero HNB.out HB1.out, Nat.zero_mul]; exact HNN.out, Nw4.out⟩
  case round =>
    obtain ⟨i, o, hi, rfl, ho, hm⟩ := hrel
    have M := Lib.hid hm
    have RO := Lib.hid ho
    clear hm ho Nw4
    by_cases hlt : i < cd
    · skip
      have HI := Lib.hid hlt
      have dl : decide ((i : Int) < cd) = true := decide_eq_true (by omega)
      obtain ⟨dg, hdg⟩ : ∃ x, x = dgt n 4 (cd - 1 - i) := ⟨_, rfl⟩
      have HDG := Lib.hid hdg
      clear hdg
      go_upto_region 5 with (fail)
      refine wp_region_lit ?_
      refine wpList_pureL rfl (.pointer (some ⟨gd, i * 1, none⟩)) (idx_slice 36 (.tmp 27) (.tmp 29) rfl gd cd cap i 1 (by kernel_rfl) (by kernel_rfl) HI.out Try.underlying36 (by kernel_rfl)) ?_
      refine wpList_load_cell rfl 3 (.tmp 31) rfl gd (i * 1) (by kernel_rfl) (.int .i64 (dg : Int)) _ Try.underlying3 rfl (by rw [Nat.mul_one, HDG.out]; exact M.out.o.get1 HI.out (dgs_get n 4 cd cd i HI.out)) ?_
      refine wpList_pureL rfl (.int .i64 (dg : Int)) (fun u => by kernel_rfl) ?_
      refine wpList_nil ?_
      try simp only [Act.put, sl1, sl2, sl3, sl4, sl5, sl6]
      go_upto_region 7 with (fail)
      go_loopw [33] (fun jv wr2 => ∃ (j : Nat) (o2 : Tri), j ≤ 4 ∧ jv = .int .i64 (j : Int) ∧ Rp k o2 (2 ^ j * (pre n cd i * m)) ∧ MO 3 1 w wr2 [(g, nc n, 26), (g + 1, ptc 0 0 false, 28), (xo, pc o2.x o2.y o2.z, 48)] (.slice (some ⟨gd, 0, none⟩) cd cap) cd (dgs n 4 cd cd)) (fun jv _ => (4 - intOf jv).toNat)
      case atStart => exact ⟨0, o, by decide, rfl, by rw [Nat.pow_zero, Nat.one_mul]; exact RO.out, M.out⟩
      case round =>
          obtain ⟨j, o2, hj, rfl, ho2, hm⟩ := hrel
          have M2 := Lib.hid hm
          have RO2 := Lib.hid ho2
          clear hm ho2 M
          by_cases hlj : j < 4
          · skip
            have djl : decide ((j : Int) < 4) = true := decide_eq_true (by omega)
            go_upto_region 8 with (fail)
            refine wp_region_lit ?_
            refine wpList_pureL rfl (.pointer (some ⟨c, 0, none⟩)) (fun u => by kernel_rfl) ?_
            refine wpList_load_seg rfl 48 (.tmp 11) rfl xo 0 27 (by kernel_rfl) _ _ (pc o2.x o2.y o2.z) _ _ (M2.out.at 2 rfl) Try.underlying48 rfl (by kernel_rfl) (pc_size _ _ _) (fun j hj => by rw [Nat.zero_add]) ?_
            refine wpList_load_seg rfl 48 (.tmp 11) rfl xo 0 27 (by kernel_rfl) _ _ (pc o2.x o2.y o2.z) _ _ (M2.out.at 2 rfl) Try.underlying48 rfl (by kernel_rfl) (pc_size _ _ _) (fun j hj => by rw [Nat.zero_add]) ?_
            refine wpList_fnL rfl 48 (.func 48) #[.tmp 35, .tmp 36, .tmp 37] #[54, 48, 48] rfl #[] #[.pointer (some ⟨c, 0, none⟩), .agg (pc o2.x o2.y o2.z), .agg (pc o2.x o2.y o2.z)] (by kernel_rfl) (by kernel_rfl) (fun u => callFunc_enter _ _ _ _ u Try.func48 (by kernel_rfl) (by kernel_rfl)) (.agg (pc ((k.c.sum o2 o2).x) ((k.c.sum o2 o2).y) ((k.c.sum o2 o2).z))) (sum_rp k c f d wr RO2.out RO2.out (HC.out.up M2.out.1)) (fun w5 hb => ?_)
            have Nw5 := Lib.hid (show MO 3 1 w w5 [(g, nc n, 26), (g + 1, ptc 0 0 false, 28), (xo, pc o2.x o2.y o2.z, 48)] (.slice (some ⟨gd, 0, none⟩) cd cap) cd (dgs n 4 cd cd) from M2.out.grow hb)
            clear hb M2
            refine wpList_store_blk rfl 48 (.tmp 11) (.tmp 38) rfl xo (by kernel_rfl) _ _ (pc ((k.c.sum o2 o2).x) ((k.c.sum o2 o2).y) ((k.c.sum o2 o2).z)) (by kernel_rfl) (Nw5.out.at 2 rfl) (by rw [pc_size]; kernel_rfl) (by simp only [pc_size]) (pc_one _ _ _) ?_
            intro w6 hw hb hs
            have Nw6 := Lib.hid (show MO 3 1 w w6 [(g, nc n, 26), (g + 1, ptc 0 0 false, 28), (xo, pc ((k.c.sum o2 o2).x) ((k.c.sum o2 o2).y) ((k.c.sum o2 o2).z), 48)] (.slice (some ⟨gd, 0, none⟩) cd cap) cd (dgs n 4 cd cd) from Nw5.out.store 2 rfl hb hs hw)
            clear hw hb hs Nw5
            refine wpList_nil ?_
            try simp only [Act.put, sl1, sl2, sl3, sl4, sl5, sl6]
            go_wp2_with (fail)
            go_roundw
            case rel => exact ⟨j + 1, (k.c.sum o2 o2), by omega, by go_num, by rw [Nat.pow_succ, Nat.mul_assoc, Nat.mul_comm 2, ← Nat.mul_assoc, Nat.mul_comm _ 2, Nat.two_mul]; exact rp_sum k RO2.out RO2.out, Nw6.out⟩
            case measure => simp [intOf]; omega
          · obtain rfl : j = 4 := by omega
            have djl : decide (((4 : Nat) : Int) < 4) = false := by decide
            have hdg16 : dg < 16 := by rw [HDG.out]; exact dgt_lt n 4 _
            have HDL := Lib.hid hdg16
            go_upto_region 10 with (fail)
            refine wp_region_lit ?_
            refine wpList_pureL rfl (.pointer (some ⟨t, 0, none⟩)) (fun u => by kernel_rfl) ?_
            refine wpList_pureL rfl (.pointer none) (fun u => by kernel_rfl) ?_
            refine wpList_pureL rfl (.int .i64 (dg : Int)) (fun u => by kernel_rfl) ?_
            refine wpList_fnL rfl 52 (.func 52) #[.tmp 41, .tmp 42, .tmp 43] #[75, 71, 3] rfl #[] #[.pointer (some ⟨t, 0, none⟩), .pointer none, .int .i64 (dg : Int)] (by kernel_rfl) (by kernel_rfl) (fun u => callFunc_enter _ _ _ _ u Try.func52 (by kernel_rfl) (by kernel_rfl)) (.tuple #[.agg (gpt k (dg * m)), .int .i64 0]) (table_pick k t m 16 dg HDL.out (by decide) wr (HTB.out.up M2.out.1)) (fun w45 hb => ?_)
            have Nw45 := Lib.hid (show MO 3 1 w w45 [(g, nc n, 26), (g + 1, ptc 0 0 false, 28), (xo, pc o2.x o2.y o2.z, 48)] (.slice (some ⟨gd, 0, none⟩) cd cap) cd (dgs n 4 cd cd) from M2.out.grow hb)
            clear hb M2
            refine wpList_pureL rfl (.tuple #[.agg (gpt k (dg * m)), .int .i64 0]) (fun u => by kernel_rfl) ?_
            refine wpList_pureL rfl (.agg (gpt k (dg * m))) (fun u => by kernel_rfl) ?_
            refine wpList_pureL rfl (.int .i64 0) (fun u => by kernel_rfl) ?_
            refine wpList_new rfl 28 rfl (.agg (ptc 0 0 false)) (by rw [ptc_zero]; kernel_rfl) ?_
            intro xp w46 hx hx2 hgv hh
            have Nw46 := Lib.hid (show MO 3 1 w w46 [(g, nc n, 26), (g + 1, ptc 0 0 false, 28), (xo, pc o2.x o2.y o2.z, 48), (xp, ptc 0 0 false, 28)] (.slice (some ⟨gd, 0, none⟩) cd cap) cd (dgs n 4 cd cd) from Nw45.out.new hgv (Nat.le_of_eq hx) hh)
            clear hx hx2 hgv hh Nw45
            refine wpList_store_blk rfl 28 (.tmp 14) (.tmp 45) rfl xp (by kernel_rfl) _ _ (gpt k (dg * m)) (by kernel_rfl) (Nw46.out.at 3 rfl) (by rw [gpt_size]; kernel_rfl) (by simp only [gpt_size, ptc_size]) (gpt_one _ _) ?_
            intro w47 hw hb hs
            have Nw47 := Lib.hid (show MO 3 1 w w47 [(g, nc n, 26), (g + 1, ptc 0 0 false, 28), (xo, pc o2.x o2.y o2.z, 48), (xp, gpt k (dg * m), 28)] (.slice (some ⟨gd, 0, none⟩) cd cap) cd (dgs n 4 cd cd) from Nw46.out.store 3 rfl hb hs hw)
            clear hw hb hs Nw46
            refine wpList_pureL rfl (.int .i64 0) (fun u => by kernel_rfl) ?_
            refine wpList_nil ?_
            try simp only [Act.put, sl1, sl2, sl3, sl4, sl5, sl6]
            go_upto_region 11 with (fail)
            have D48 := Lib.hid (Nw47.out.drew)
            clear Nw47
            refine wp_region_grow 5 5 (by kernel_rfl) (by kernel_rfl) (fun d v c a w h => by cases d <;> exact h) ?_
            simp only [List.take_succ_cons, List.take_zero]
            refine wpGrow_pure rfl (.pointer (some ⟨c, 0, none⟩)) (fun u => by kernel_rfl) ?_
            refine wpGrow_load_seg rfl 48 (.tmp 11) rfl xo 0 27 (by kernel_rfl) (pc o2.x o2.y o2.z) _ Try.underlying48 rfl (by kernel_rfl) (pc_size _ _ _) (fun u hu => D48.out.up 2 rfl hu) (fun j hj => by rw [Nat.zero_add]) ?_
            refine wpGrow_load_seg rfl 28 (.tmp 14) rfl xp 0 19 (by kernel_rfl) (gpt k (dg * m)) _ Try.underlying28 rfl (by kernel_rfl) (gpt_size _ _) (fun u hu => D48.out.up 3 rfl hu) (fun j hj => by rw [Nat.zero_add]) ?_
            refine wpGrow_fn rfl 27 (.func 27) #[.tmp 49] #[28] rfl #[] #[.agg (gpt k (dg * m))] (by kernel_rfl) (by kernel_rfl) (fun u => callFunc_enter _ _ _ _ u Try.func27 (by kernel_rfl) (by kernel_rfl)) (.agg (pc ((trN k (gm k (dg * m))).x) ((trN k (gm k (dg * m))).y) ((trN k (gm k (dg * m))).z))) (fun u hu => by exact triple_rp k (dg * m) u) ?_
            refine wpGrow_fn rfl 48 (.func 48) #[.tmp 47, .tmp 48, .tmp 50] #[54, 48, 48] rfl #[] #[.pointer (some ⟨c, 0, none⟩), .agg (pc o2.x o2.y o2.z), .agg (pc ((trN k (gm k (dg * m))).x) ((trN k (gm k (dg * m))).y) ((trN k (gm k (dg * m))).z))] (by kernel_rfl) (by kernel_rfl) (fun u => callFunc_enter _ _ _ _ u Try.func48 (by kernel_rfl) (by kernel_rfl)) (.agg (pc ((k.c.sum o2 (trN k (gm k (dg * m)))).x) ((k.c.sum o2 (trN k (gm k (dg * m)))).y) ((k.c.sum o2 (trN k (gm k (dg * m)))).z))) (fun u hu => by exact sum_rp k c f d u RO2.out (rp_trip k _) (HC.out.up (grows_trans _ _ _ D48.out.1 hu))) ?_
            refine wpGrow_nil ?_
            try simp only [Act.put, sl1, sl2, sl3, sl4, sl5, sl6]
            refine grow_stores (rs := [5]) (by kernel_rfl) (by decide) (fun w49 hg6 => ?_)
            have Nw49 := Lib.hid (D48.out.grow hg6)
            clear hg6 D48
            refine wpAny_ready (rs := [5]) (by kernel_rfl) (by simp) ?_
            refine AllReady.cons rfl (fun K hK => ?_) AllReady.nil
            refine step_store_blk rfl 48 (.tmp 11) (.tmp 51) rfl xo rfl _ _ _ rfl (Nw49.out.at 2 rfl) (by rw [pc_size]; kernel_rfl) (by simp only [pc_size]) (pc_one _ _ _) (fun w50 hw hb hs => hK _ _ ?_)
            have Nw50 := Lib.hid (show MO 3 1 w w50 [(g, nc n, 26), (g + 1, ptc 0 0 false, 28), (xo, pc ((k.c.sum o2 (trN k (gm k (dg * m)))).x) ((k.c.sum o2 (trN k (gm k (dg * m)))).y) ((k.c.sum o2 (trN k (gm k (dg * m)))).z), 48), (xp, gpt k (dg * m), 28)] (.slice (some ⟨gd, 0, none⟩) cd cap) cd (dgs n 4 cd cd) from Nw49.out.store 2 rfl hb hs hw)
            clear hK hw hb hs Nw49
            try simp only [Act.put, sl1, sl2, sl3, sl4, sl5, sl6]
            refine wpAny_done (by kernel_rfl) ?_ _
            try simp only [Act.put, sl1, sl2, sl3, sl4, sl5, sl6]
            go_wp2_with (fail)
            go_roundw
            case rel => exact ⟨i + 1, (k.c.sum o2 (trN k (gm k (dg * m)))), by omega, by go_num, by rw [pre_succ n cd i HI.out, ← HDG.out, Nat.add_mul, Nat.mul_assoc]; exact rp_sum k RO2.out (rp_trip k _), Nw50.out.take 3⟩
            case measure => simp [intOf]; omega
    · obtain rfl : i = cd := by omega
      have dl : decide ((i : Int) < i) = false := decide_eq_false (by omega)
      have HPR := Lib.hid (show Rp k o (n * m) by have h := RO.out; rw [pre_all] at h; exact h)
      go_upto_region 13 with (fail)
      refine wp_region_lit ?_
      refine wpList_pureL rfl (.pointer (some ⟨c, 0, none⟩)) (fun u => by kernel_rfl) ?_
      refine wpList_load_seg rfl 48 (.tmp 11) rfl xo 0 27 (by kernel_rfl) _ _ (pc o.x o.y o.z) _ _ (M.out.at 2 rfl) Try.underlying48 rfl (by kernel_rfl) (pc_size _ _ _) (fun j hj => by rw [Nat.zero_add]) ?_
      refine wpList_fnL rfl 25 (.func 25) #[.tmp 53, .tmp 54] #[54, 48] rfl #[] #[.pointer (some ⟨c, 0, none⟩), .agg (pc o.x o.y o.z)] (by kernel_rfl) (by kernel_rfl) (fun u => callFunc_enter _ _ _ _ u Try.func25 (by kernel_rfl) (by kernel_rfl)) (.agg (gpt k (n * m))) (plain_rp k c f d wr HPR.out (HC.out.up M.out.1)) (fun w95 hb => ?_)
      have Nw95 := Lib.hid (show MO 3 1 w w95 [(g, nc n, 26), (g + 1, ptc 0 0 false, 28), (xo, pc o.x o.y o.z, 48)] (.slice (some ⟨gd, 0, none⟩) i cap) i (dgs n 4 i i) from M.out.grow hb)
      clear hb M
      refine wpList_store_blk rfl 28 (.tmp 8) (.tmp 55) rfl (g + 1) (by kernel_rfl) _ _ (gpt k (n * m)) (by kernel_rfl) (Nw95.out.at 1 rfl) (by rw [gpt_size]; kernel_rfl) (by simp only [gpt_size, ptc_size]) (gpt_one _ _) ?_
      intro w96 hw hb hs
      have Nw96 := Lib.hid (show MO 3 1 w w96 [(g, nc n, 26), (g + 1, gpt k (n * m), 28), (xo, pc o.x o.y o.z, 48)] (.slice (some ⟨gd, 0, none⟩) i cap) i (dgs n 4 i i) from Nw95.out.store 1 rfl hb hs hw)
      clear hw hb hs Nw95
      refine wpList_nil ?_
      try simp only [Act.put, sl1, sl2, sl3, sl4, sl5, sl6]
      go_wp2_with (fail)
      exact bodyPost_ret (results_blk rfl _ _ (g + 1) _ _ _ _ rfl (Nw96.out.at 1 rfl) Try.underlying28 rfl (by rw [gpt_size]; kernel_rfl)) rfl ⟨rfl, Nw96.out.below⟩
end Go.Proofs.Ytkoonhiplicbkaa.Cw
