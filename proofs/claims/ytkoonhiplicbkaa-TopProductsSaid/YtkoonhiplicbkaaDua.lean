/-
  (package dual) Times, Mul: two products at once. Condition: multiples of G of one of the 15 curves, numbers below N.
-/
import Derived.Test.YtkoonhiplicbkaaAwk
set_option linter.unusedSimpArgs false
set_option linter.unusedVariables false
namespace Go.Proofs.Ytkoonhiplicbkaa.Cw
open Go Go.RowKit
/-- four triples in a row -/
def all4 (a b c d : Tri) : Array Value := tc a ++ (tc b ++ (tc c ++ tc d))
theorem tc_size (t : Tri) : (tc t).size = 27 := pc_size _ _ _
theorem all4_size (a b c d : Tri) : (all4 a b c d).size = 108 := by simp [all4, tc_size]
theorem all4_0 (a b c d : Tri) : ∀ j, j < 27 → (all4 a b c d)[0 + j]? = (tc a)[j]? := fun j hj => by
  unfold all4; rw [Nat.zero_add, app_lo (by rw [tc_size]; exact hj)]
theorem all4_1 (a b c d : Tri) : ∀ j, j < 27 → (all4 a b c d)[27 + j]? = (tc b)[j]? := fun j hj => by
  unfold all4; rw [app_hi (tc_size a), app_lo (by rw [tc_size]; exact hj)]
theorem all4_2 (a b c d : Tri) : ∀ j, j < 27 → (all4 a b c d)[54 + j]? = (tc c)[j]? := fun j hj => by
  unfold all4; rw [show 54 + j = 27 + (27 + j) by omega, app_hi (tc_size a), app_hi (tc_size b), app_lo (by rw [tc_size]; exact hj)]
theorem all4_3 (a b c d : Tri) : ∀ j, j < 27 → (all4 a b c d)[81 + j]? = (tc d)[j]? := fun j hj => by
  unfold all4; rw [show 81 + j = 27 + (27 + (27 + j)) by omega, app_hi (tc_size a), app_hi (tc_size b), app_hi (tc_size c)]
theorem all4_one (a b c d : Tri) : ∀ u ∈ (all4 a b c d).toList, u.oneCell' = true := by
  intro u hu
  simp only [all4, Array.toList_append, List.mem_append] at hu
  rcases hu with hu | hu | hu | hu
  · exact pc_one _ _ _ u hu
  · exact pc_one _ _ _ u hu
  · exact pc_one _ _ _ u hu
  · exact pc_one _ _ _ u hu
theorem two_step {u v m j : Nat} : u / 2 ^ j + v / 2 ^ j * m = 2 * (u / 2 ^ (j + 1) + v / 2 ^ (j + 1) * m) + (bitN u j + bitN v j * m) := by
  have h : ∀ x : Nat, x / 2 ^ j = 2 * (x / 2 ^ (j + 1)) + bitN x j := fun x => by
    rw [bitN, Nat.pow_succ, ← Nat.div_div_eq_div_mul]
    have := Nat.div_add_mod (x / 2 ^ j) 2
    omega
  rw [h u, h v]
  generalize u / 2 ^ (j + 1) = a
  generalize v / 2 ^ (j + 1) = b
  generalize bitN u j = p
  generalize bitN v j = q
  grind
theorem bit01 (x j : Nat) : bitN x j = 0 ∨ bitN x j = 1 := by have := Nat.mod_lt (x / 2 ^ j) (show 0 < 2 by decide); unfold bitN; omega
attribute [local irreducible] all4
attribute [local irreducible] pc ptc nc ac cuc fc gpt
attribute [local go_sem ↓ high] wn_eql wn_neq wn_lss wn_gtr wn_leq wn_geq wn_cells wn_run_store wn_guard lit0 lit1
attribute [local go_sem high] wn_match wn_run_store wn_eql wn_neq wn_lss wn_gtr wn_leq wn_geq

set_option maxRecDepth 100000 in
set_option maxHeartbeats 4000000 in
theorem dual_times (k : CK) (c f d y z m : Nat) (w : World) (hu : y < 2 ^ bl k.c.n) (hv : z < 2 ^ bl k.c.n) (hu9 : y < pw 9) (hv9 : z < pw 9) (H : CurveAt w c f d k.c) : Calls Try.prog 33 #[.pointer (some ⟨c, 0, none⟩), .agg (nc y), .agg (nc z), .agg (gpt k m)] w fun e w' => e = .returned (.agg (gpt k (y + z * m))) ∧ Below w.heap.size w w' := by
  have HC := Lib.hid H
  have HCB := Lib.hid H.2.2
  have HNN := Lib.hid (rp_none k)
  obtain ⟨b, hb⟩ : ∃ b, b = bl k.c.n := ⟨_, rfl⟩
  rw [← hb] at hu hv
  have HB := Lib.hid hb
  have hb1 : 1 ≤ b := by rw [hb]; exact k.blN.1
  have hb2 : b ≤ 576 := by rw [hb]; exact k.blN.2
  have HB1 := Lib.hid hb1
  have HB2 := Lib.hid hb2
  have HU := Lib.hid hu
  have HV := Lib.hid hv
  clear H hu hv hb hu9 hv9
  go_enter Try.func33, Try.ntmps33
  go_upto_region 1 with fail
  rw [← ptc_zero]
  have m0 := Mem.start4 w (nc y) (nc z) (gpt k m) (ptc 0 0 false) 26 26 28 28
  obtain ⟨w1, hw1⟩ : ∃ w1 : World, w1 = ((((w.alloc (.cells (nc y) 26)).alloc (.cells (nc z) 26)).alloc (.cells (gpt k m) 28)).alloc (.cells (ptc 0 0 false) 28)) := ⟨_, rfl⟩
  rw [← hw1] at m0 ⊢
  clear hw1
  obtain ⟨g, hg⟩ : ∃ g, g = w.heap.size := ⟨_, rfl⟩
  rw [← hg] at m0 ⊢
  have HG := Lib.hid hg
  have M := Lib.hid m0
  clear hg m0
  have D2 := Lib.hid (M.out.drew)
  clear M
  rename_i K0 hK0
  have r3 : ∀ (xg xp : Nat) (w43 : World), Mem (w1.drew) w43 [(xg, pc ((trN k (gm k 1)).x) ((trN k (gm k 1)).y) ((trN k (gm k 1)).z), 48), (xp, pc ((trN k (gm k m)).x) ((trN k (gm k m)).y) ((trN k (gm k m)).z), 48)] → K0 { tmps := #[.pointer (some ⟨c, 0, none⟩), .agg (nc y), .agg (nc z), .agg (gpt k m), undef, .pointer (some ⟨g, 0, none⟩), .pointer (some ⟨g + 1, 0, none⟩), .pointer (some ⟨g + 1 + 1, 0, none⟩), .pointer (some ⟨g + 1 + 1 + 1, 0, none⟩), .pointer (some ⟨xg, 0, none⟩), .pointer (some ⟨xp, 0, none⟩), undef, undef, undef, undef, .pointer (some ⟨c, 0, none⟩), .pointer (some ⟨c, 0, none⟩), .pointer (some ⟨c, 0, none⟩), .pointer (some ⟨c, 37, none⟩), .agg (gpt k 1), .agg (pc ((trN k (gm k 1)).x) ((trN k (gm k 1)).y) ((trN k (gm k 1)).z)), .agg (gpt k m), .agg (pc ((trN k (gm k m)).x) ((trN k (gm k m)).y) ((trN k (gm k m)).z)), undef, undef, undef, undef, undef, undef, undef, undef, undef, undef, undef, undef, undef, undef, undef, undef, undef, undef, undef, undef, undef, undef, undef, undef, undef, undef, undef, undef, undef, undef, undef, undef, undef, undef, undef, undef, undef, undef, undef, undef, undef, undef], defers := [] } w43 := by
    intro xg xp w43 mm
    refine hK0 _ _ ?_
    clear hK0
    have N44 := Lib.hid (show Mem w w43 [(g, nc y, 26), (g + 1, nc z, 26), (g + 1 + 1, gpt k m, 28), (g + 1 + 1 + 1, ptc 0 0 false, 28), (xg, pc ((trN k (gm k 1)).x) ((trN k (gm k 1)).y) ((trN k (gm k 1)).z), 48), (xp, pc ((trN k (gm k m)).x) ((trN k (gm k m)).y) ((trN k (gm k m)).z), 48)] from D2.out.join mm)
    clear mm D2
    go_upto_region 2 with (fail)
    have D45 := Lib.hid (N44.out.drew)
    clear N44
    refine wp_region_grow 8 9 (by kernel_rfl) (by kernel_rfl) (fun d v c a w h => by cases d <;> exact h) ?_
    simp only [List.take_succ_cons, List.take_zero]
    refine wpGrow_fn rfl 47 (.func 47) #[] #[] rfl #[] #[] (by kernel_rfl) (by kernel_rfl) (fun u => callFunc_enter _ _ _ _ u Try.func47 (by kernel_rfl) (by kernel_rfl)) (.agg (pc 0 1 0)) (fun u hu => by exact curve_none u) ?_
    refine wpGrow_load_seg rfl 48 (.tmp 9) rfl xg 0 27 (by kernel_rfl) (pc ((trN k (gm k 1)).x) ((trN k (gm k 1)).y) ((trN k (gm k 1)).z)) _ Try.underlying48 rfl (by kernel_rfl) (pc_size _ _ _) (fun u hu => D45.out.up 4 rfl hu) (fun j hj => by rw [Nat.zero_add]) ?_
    refine wpGrow_load_seg rfl 48 (.tmp 10) rfl xp 0 27 (by kernel_rfl) (pc ((trN k (gm k m)).x) ((trN k (gm k m)).y) ((trN k (gm k m)).z)) _ Try.underlying48 rfl (by kernel_rfl) (pc_size _ _ _) (fun u hu => D45.out.up 5 rfl hu) (fun j hj => by rw [Nat.zero_add]) ?_
    refine wpGrow_pure rfl (.pointer (some ⟨c, 0, none⟩)) (fun u => by kernel_rfl) ?_
    refine wpGrow_load_seg rfl 48 (.tmp 9) rfl xg 0 27 (by kernel_rfl) (pc ((trN k (gm k 1)).x) ((trN k (gm k 1)).y) ((trN k (gm k 1)).z)) _ Try.underlying48 rfl (by kernel_rfl) (pc_size _ _ _) (fun u hu => D45.out.up 4 rfl hu) (fun j hj => by rw [Nat.zero_add]) ?_
    refine wpGrow_load_seg rfl 48 (.tmp 10) rfl xp 0 27 (by kernel_rfl) (pc ((trN k (gm k m)).x) ((trN k (gm k m)).y) ((trN k (gm k m)).z)) _ Try.underlying48 rfl (by kernel_rfl) (pc_size _ _ _) (fun u hu => D45.out.up 5 rfl hu) (fun j hj => by rw [Nat.zero_add]) ?_
    refine wpGrow_fn rfl 48 (.func 48) #[.tmp 26, .tmp 27, .tmp 28] #[54, 48, 48] rfl #[] #[.pointer (some ⟨c, 0, none⟩), .agg (pc ((trN k (gm k 1)).x) ((trN k (gm k 1)).y) ((trN k (gm k 1)).z)), .agg (pc ((trN k (gm k m)).x) ((trN k (gm k m)).y) ((trN k (gm k m)).z))] (by kernel_rfl) (by kernel_rfl) (fun u => callFunc_enter _ _ _ _ u Try.func48 (by kernel_rfl) (by kernel_rfl)) (.agg (pc ((k.c.sum (trN k (gm k 1)) (trN k (gm k m))).x) ((k.c.sum (trN k (gm k 1)) (trN k (gm k m))).y) ((k.c.sum (trN k (gm k 1)) (trN k (gm k m))).z))) (fun u hu => by exact sum_rp k c f d u (rp_trip k 1) (rp_trip k m) (HC.out.up (grows_trans _ _ _ D45.out.1 hu))) ?_
    refine wpGrow_built rfl 109 #[(0, .tmp 23), (1, .tmp 24), (2, .tmp 25), (3, .tmp 29)] rfl ((all4 ⟨0, 1, 0⟩ (trN k (gm k 1)) (trN k (gm k m)) (k.c.sum (trN k (gm k 1)) (trN k (gm k m))))) (by kernel_rfl) ?_
    refine wpGrow_nil ?_
    try simp only [Act.put, sl1, sl2, sl3, sl4, sl5, sl6]
    refine grow_alloc (i := 8) (f := 1) (by kernel_rfl) (by decide) rfl rfl 109 rfl (.agg (all4 ⟨0, 0, 0⟩ ⟨0, 0, 0⟩ ⟨0, 0, 0⟩ ⟨0, 0, 0⟩)) (by unfold all4 tc; rw [pc_zero]; kernel_rfl) ?_
    intro xa v46 hx hx2 hgv hh
    have Nv46 := Lib.hid (D45.out.new hgv hx hh)
    have Nv46 : Hid (Mem w v46 [(g, nc y, 26), (g + 1, nc z, 26), (g + 1 + 1, gpt k m, 28), (g + 1 + 1 + 1, ptc 0 0 false, 28), (xg, pc ((trN k (gm k 1)).x) ((trN k (gm k 1)).y) ((trN k (gm k 1)).z), 48), (xp, pc ((trN k (gm k m)).x) ((trN k (gm k m)).y) ((trN k (gm k m)).z), 48), (xa, all4 ⟨0, 0, 0⟩ ⟨0, 0, 0⟩ ⟨0, 0, 0⟩ ⟨0, 0, 0⟩, 109)]) := Nv46
    clear hgv hx hx2 hh D45
    try simp only [Act.put, sl1, sl2, sl3, sl4, sl5, sl6]
    refine grow_stores (rs := [9]) (by kernel_rfl) (by decide) (fun w47 hg6 => ?_)
    have Nw47 := Lib.hid (Nv46.out.grow hg6)
    clear hg6 Nv46
    refine wpAny_ready (rs := [9]) (by kernel_rfl) (by simp) ?_
    refine AllReady.cons rfl (fun K hK => ?_) AllReady.nil
    refine step_store_blk rfl 109 (.tmp 11) (.tmp 30) rfl xa rfl _ _ _ rfl (Nw47.out.at 6 rfl) (by rw [all4_size]; kernel_rfl) (by simp only [all4_size]) (all4_one _ _ _ _) (fun w48 hw hb hs => hK _ _ ?_)
    have Nw48 := Lib.hid (Nw47.out.store 6 rfl hb hs hw)
    clear hK hw hb hs Nw47
    try simp only [Act.put, sl1, sl2, sl3, sl4, sl5, sl6]
    refine wpAny_done (by kernel_rfl) ?_ _
    try simp only [Act.put, sl1, sl2, sl3, sl4, sl5, sl6]
    go_upto_region 3 with (fail)
    refine wp_region_lit ?_
    refine wpList_fnL rfl 47 (.func 47) #[] #[] rfl #[] #[] (by kernel_rfl) (by kernel_rfl) (fun u => callFunc_enter _ _ _ _ u Try.func47 (by kernel_rfl) (by kernel_rfl)) (.agg (pc 0 1 0)) (curve_none w48) (fun w49 hb => ?_)
    have Nw49 := Lib.hid (Nw48.out.grow hb)
    clear hb Nw48
    refine wpList_new rfl 48 rfl (.agg (pc 0 0 0)) (by rw [pc_zero]; kernel_rfl) ?_
    intro xo w50 hx hx2 hgv hh
    have Nw50 := Lib.hid (show Mem w w50 [(g, nc y, 26), (g + 1, nc z, 26), (g + 1 + 1, gpt k m, 28), (g + 1 + 1 + 1, ptc 0 0 false, 28), (xg, pc ((trN k (gm k 1)).x) ((trN k (gm k 1)).y) ((trN k (gm k 1)).z), 48), (xp, pc ((trN k (gm k m)).x) ((trN k (gm k m)).y) ((trN k (gm k m)).z), 48), (xa, all4 ⟨0, 1, 0⟩ (trN k (gm k 1)) (trN k (gm k m)) (k.c.sum (trN k (gm k 1)) (trN k (gm k m))), 109), (xo, pc 0 0 0, 48)] from Nw49.out.new hgv (Nat.le_of_eq hx) hh)
    clear hx hx2 hgv hh Nw49
    refine wpList_store_blk rfl 48 (.tmp 12) (.tmp 31) rfl xo (by kernel_rfl) _ _ (pc 0 1 0) (by kernel_rfl) (Nw50.out.at 7 rfl) (by rw [pc_size]; kernel_rfl) (by simp only [pc_size]) (pc_one _ _ _) ?_
    intro w51 hw hb hs
    have Nw51 := Lib.hid (Nw50.out.store 7 rfl hb hs hw)
    clear hw hb hs Nw50
    refine wpList_nil ?_
    try simp only [Act.put, sl1, sl2, sl3, sl4, sl5, sl6]
    have hb1 := HB1.out
    have hb2 := HB2.out
    go_upto_region 4 with (fail)
    refine wp_region_lit ?_
    refine wpList_pureL rfl (.pointer (some ⟨c, 0, none⟩)) (fun u => by kernel_rfl) ?_
    refine wpList_pureL rfl (.pointer (some ⟨c, 0, none⟩)) (fun u => by kernel_rfl) ?_
    refine wpList_pureL rfl (.pointer (some ⟨c, 0, none⟩)) (fun u => by kernel_rfl) ?_
    refine wpList_pureL rfl (.pointer (some ⟨c, 56, none⟩)) (fun u => by kernel_rfl) ?_
    refine wpList_load_cell rfl 3 (.tmp 35) rfl c 56 (by kernel_rfl) (.int .i64 (b : Int)) _ Try.underlying3 rfl ((cell_of (grows_at HCB.out Nw51.out.1) 56).trans (by rw [HB.out]; exact cuc_bits _ _)) ?_
    try simp only [Act.put, sl1, sl2, sl3, sl4, sl5, sl6]
    refine wpList_pureL rfl (.int .i64 ((b : Int) - 1)) (fun u => by go_simp; exact IntWalk.i64_in _ (by omega)) ?_
    refine wpList_pureL rfl (.int .i64 ((b : Int) - 1)) (fun u => by kernel_rfl) ?_
    refine wpList_nil ?_
    try simp only [Act.put, sl1, sl2, sl3, sl4, sl5, sl6]
    go_upto_region 5 with (fail)
    go_loopw [13] (fun iv wr => ∃ (j : Nat) (o : Tri), j ≤ b ∧ iv = .int .i64 ((j : Int) - 1) ∧ Rp k o (y / 2 ^ j + z / 2 ^ j * m) ∧ Mem w wr [(g, nc y, 26), (g + 1, nc z, 26), (g + 1 + 1, gpt k m, 28), (g + 1 + 1 + 1, ptc 0 0 false, 28), (xg, pc ((trN k (gm k 1)).x) ((trN k (gm k 1)).y) ((trN k (gm k 1)).z), 48), (xp, pc ((trN k (gm k m)).x) ((trN k (gm k m)).y) ((trN k (gm k m)).z), 48), (xa, all4 ⟨0, 1, 0⟩ (trN k (gm k 1)) (trN k (gm k m)) (k.c.sum (trN k (gm k 1)) (trN k (gm k m))), 109), (xo, pc o.x o.y o.z, 48)]) (fun iv _ => (intOf iv + 1).toNat)
    case atStart => exact ⟨b, ⟨0, 1, 0⟩, Nat.le_refl _, rfl, by rw [Nat.div_eq_of_lt HU.out, Nat.div_eq_of_lt HV.out, Nat.zero_mul]; exact HNN.out, Nw51.out⟩
    case round =>
    obtain ⟨j, o, hj, rfl, ho, hm⟩ := hrel
    have RO := Lib.hid ho
    have M := Lib.hid hm
    clear ho hm Nw51
    rcases Nat.eq_zero_or_pos j with rfl | hpos
    · skip
      have dl : decide ((((0 : Nat) : Int) - 1) ≥ 0) = false := by decide
      have HPR := Lib.hid (show Rp k o (y + z * m) by have h := RO.out; rw [Nat.pow_zero, Nat.div_one, Nat.div_one] at h; exact h)
      go_upto_region 11 with (fail)
      refine wp_region_lit ?_
      refine wpList_pureL rfl (.pointer (some ⟨c, 0, none⟩)) (fun u => by kernel_rfl) ?_
      refine wpList_load_seg rfl 48 (.tmp 12) rfl xo 0 27 (by kernel_rfl) _ _ (pc o.x o.y o.z) _ _ (M.out.at 7 rfl) Try.underlying48 rfl (by kernel_rfl) (pc_size _ _ _) (fun j hj => by rw [Nat.zero_add]) ?_
      refine wpList_fnL rfl 25 (.func 25) #[.tmp 62, .tmp 63] #[54, 48] rfl #[] #[.pointer (some ⟨c, 0, none⟩), .agg (pc o.x o.y o.z)] (by kernel_rfl) (by kernel_rfl) (fun u => callFunc_enter _ _ _ _ u Try.func25 (by kernel_rfl) (by kernel_rfl)) (.agg (gpt k (y + z * m))) (plain_rp k c f d wr HPR.out (HC.out.up M.out.1)) (fun w52 hb => ?_)
      have Nw52 := Lib.hid (M.out.grow hb)
      clear hb M
      refine wpList_store_blk rfl 28 (.tmp 8) (.tmp 64) rfl (g + 1 + 1 + 1) (by kernel_rfl) _ _ (gpt k (y + z * m)) (by kernel_rfl) (Nw52.out.at 3 rfl) (by rw [gpt_size]; kernel_rfl) (by simp only [gpt_size, ptc_size]) (gpt_one _ _) ?_
      intro w53 hw hb hs
      have Nw53 := Lib.hid (Nw52.out.store 3 rfl hb hs hw)
      clear hw hb hs Nw52
      refine wpList_nil ?_
      try simp only [Act.put, sl1, sl2, sl3, sl4, sl5, sl6]
      go_wp2_with (fail)
      exact bodyPost_ret (results_blk rfl _ _ (g + 1 + 1 + 1) _ _ _ _ rfl (Nw53.out.at 3 rfl) Try.underlying28 rfl (by rw [gpt_size]; kernel_rfl)) rfl ⟨rfl, Nw53.out.below⟩
    · obtain ⟨i, rfl⟩ : ∃ i, j = i + 1 := ⟨j - 1, by omega⟩
      have ei : ((i + 1 : Nat) : Int) - 1 = (i : Int) := by omega
      rw [ei]
      have HI := Lib.hid (show i < 576 by omega)
      have hi6 : i < 576 := by omega
      have dl : decide ((i : Int) ≥ 0) = true := decide_eq_true (by omega)
      rcases bit01 y i with hbu | hbu
      · have HBU := Lib.hid hbu
        clear hbu
        rcases bit01 z i with hbv | hbv
        · have HBV := Lib.hid hbv
          clear hbv
          go_upto_region 7 with (fail)
          refine wp_region_lit ?_
          refine wpList_pureL rfl (.pointer (some ⟨c, 0, none⟩)) (fun u => by kernel_rfl) ?_
          refine wpList_load_seg rfl 48 (.tmp 12) rfl xo 0 27 (by kernel_rfl) _ _ (pc o.x o.y o.z) _ _ (M.out.at 7 rfl) Try.underlying48 rfl (by kernel_rfl) (pc_size _ _ _) (fun j hj => by rw [Nat.zero_add]) ?_
          refine wpList_load_seg rfl 48 (.tmp 12) rfl xo 0 27 (by kernel_rfl) _ _ (pc o.x o.y o.z) _ _ (M.out.at 7 rfl) Try.underlying48 rfl (by kernel_rfl) (pc_size _ _ _) (fun j hj => by rw [Nat.zero_add]) ?_
          refine wpList_fnL rfl 48 (.func 48) #[.tmp 42, .tmp 43, .tmp 44] #[54, 48, 48] rfl #[] #[.pointer (some ⟨c, 0, none⟩), .agg (pc o.x o.y o.z), .agg (pc o.x o.y o.z)] (by kernel_rfl) (by kernel_rfl) (fun u => callFunc_enter _ _ _ _ u Try.func48 (by kernel_rfl) (by kernel_rfl)) (.agg (pc ((k.c.sum o o).x) ((k.c.sum o o).y) ((k.c.sum o o).z))) (sum_rp k c f d wr RO.out RO.out (HC.out.up M.out.1)) (fun w102 hb => ?_)
          have Nw102 := Lib.hid (M.out.grow hb)
          clear hb M
          refine wpList_store_blk rfl 48 (.tmp 12) (.tmp 45) rfl xo (by kernel_rfl) _ _ (pc ((k.c.sum o o).x) ((k.c.sum o o).y) ((k.c.sum o o).z)) (by kernel_rfl) (Nw102.out.at 7 rfl) (by rw [pc_size]; kernel_rfl) (by simp only [pc_size]) (pc_one _ _ _) ?_
          intro w103 hw hb hs
          have Nw103 := Lib.hid (Nw102.out.store 7 rfl hb hs hw)
          clear hw hb hs Nw102
          refine wpList_nil ?_
          try simp only [Act.put, sl1, sl2, sl3, sl4, sl5, sl6]
          go_upto_region 8 with (fail)
          have D104 := Lib.hid (Nw103.out.drew)
          clear Nw103
          refine wp_region_grow 9 9 (by kernel_rfl) (by kernel_rfl) (fun d v c a w h => by cases d <;> exact h) ?_
          simp only [List.take_succ_cons, List.take_zero]
          refine wpGrow_loadN0 rfl (.tmp 5) rfl g (by kernel_rfl) (fun u hu => D104.out.up 0 rfl hu) ?_
          refine wpGrow_pure rfl (.int .i64 (i : Int)) (fun u => by kernel_rfl) ?_
          refine wpGrow_fn rfl 49 (.func 49) #[.tmp 46, .tmp 47] #[26, 3] rfl #[] #[.agg (nc y), .int .i64 (i : Int)] (by kernel_rfl) (by kernel_rfl) (fun u => callFunc_enter _ _ _ _ u Try.func49 (by kernel_rfl) (by kernel_rfl)) (.int .i64 ((0 : Nat) : Int)) (fun u hu => by have hcc := nat_bit y i u HI.out; rw [HBU.out] at hcc; exact hcc) ?_
          refine wpGrow_loadN0 rfl (.tmp 6) rfl (g + 1) (by kernel_rfl) (fun u hu => D104.out.up 1 rfl hu) ?_
          refine wpGrow_pure rfl (.int .i64 (i : Int)) (fun u => by kernel_rfl) ?_
          refine wpGrow_fn rfl 49 (.func 49) #[.tmp 49, .tmp 50] #[26, 3] rfl #[] #[.agg (nc z), .int .i64 (i : Int)] (by kernel_rfl) (by kernel_rfl) (fun u => callFunc_enter _ _ _ _ u Try.func49 (by kernel_rfl) (by kernel_rfl)) (.int .i64 ((0 : Nat) : Int)) (fun u hu => by have hcc := nat_bit z i u HI.out; rw [HBV.out] at hcc; exact hcc) ?_
          refine wpGrow_pure rfl (.int .i64 0) (fun u => by kernel_rfl) ?_
          refine wpGrow_pure rfl (.int .i64 0) (fun u => by kernel_rfl) ?_
          refine wpGrow_pure rfl (.int .i64 0) (fun u => by kernel_rfl) ?_
          refine wpGrow_nil ?_
          try simp only [Act.put, sl1, sl2, sl3, sl4, sl5, sl6]
          intro w105 hg6
          refine ⟨by kernel_rfl, ?_⟩
          have Nw105 := Lib.hid (D104.out.grow hg6)
          clear hg6 D104
          try simp only [Act.put, sl1, sl2, sl3, sl4, sl5, sl6]
          go_upto_region 9 with (fail)
          refine wp_region_lit ?_
          refine wpList_pureL rfl (.int .i64 0) (fun u => by kernel_rfl) ?_
          refine wpList_pureL rfl (.bool false) (fun u => by kernel_rfl) ?_
          refine wpList_nil ?_
          try simp only [Act.put, sl1, sl2, sl3, sl4, sl5, sl6]
          go_wp2_with (fail)
          go_roundw
          case rel => exact ⟨i, (k.c.sum o o), by omega, by go_num, by have h := (rp_sum k RO.out RO.out); rw [two_step, HBU.out, HBV.out]; rw [show y / 2 ^ (i + 1) + z / 2 ^ (i + 1) * m + (y / 2 ^ (i + 1) + z / 2 ^ (i + 1) * m) = 2 * (y / 2 ^ (i + 1) + z / 2 ^ (i + 1) * m) + (0 + 0 * m) by omega] at h; exact h, Nw105.out⟩
          case measure => simp [intOf]
        · have HBV := Lib.hid hbv
          clear hbv
          go_upto_region 7 with (fail)
          refine wp_region_lit ?_
          refine wpList_pureL rfl (.pointer (some ⟨c, 0, none⟩)) (fun u => by kernel_rfl) ?_
          refine wpList_load_seg rfl 48 (.tmp 12) rfl xo 0 27 (by kernel_rfl) _ _ (pc o.x o.y o.z) _ _ (M.out.at 7 rfl) Try.underlying48 rfl (by kernel_rfl) (pc_size _ _ _) (fun j hj => by rw [Nat.zero_add]) ?_
          refine wpList_load_seg rfl 48 (.tmp 12) rfl xo 0 27 (by kernel_rfl) _ _ (pc o.x o.y o.z) _ _ (M.out.at 7 rfl) Try.underlying48 rfl (by kernel_rfl) (pc_size _ _ _) (fun j hj => by rw [Nat.zero_add]) ?_
          refine wpList_fnL rfl 48 (.func 48) #[.tmp 42, .tmp 43, .tmp 44] #[54, 48, 48] rfl #[] #[.pointer (some ⟨c, 0, none⟩), .agg (pc o.x o.y o.z), .agg (pc o.x o.y o.z)] (by kernel_rfl) (by kernel_rfl) (fun u => callFunc_enter _ _ _ _ u Try.func48 (by kernel_rfl) (by kernel_rfl)) (.agg (pc ((k.c.sum o o).x) ((k.c.sum o o).y) ((k.c.sum o o).z))) (sum_rp k c f d wr RO.out RO.out (HC.out.up M.out.1)) (fun w102 hb => ?_)
          have Nw102 := Lib.hid (M.out.grow hb)
          clear hb M
          refine wpList_store_blk rfl 48 (.tmp 12) (.tmp 45) rfl xo (by kernel_rfl) _ _ (pc ((k.c.sum o o).x) ((k.c.sum o o).y) ((k.c.sum o o).z)) (by kernel_rfl) (Nw102.out.at 7 rfl) (by rw [pc_size]; kernel_rfl) (by simp only [pc_size]) (pc_one _ _ _) ?_
          intro w103 hw hb hs
          have Nw103 := Lib.hid (Nw102.out.store 7 rfl hb hs hw)
          clear hw hb hs Nw102
          refine wpList_nil ?_
          try simp only [Act.put, sl1, sl2, sl3, sl4, sl5, sl6]
          go_upto_region 8 with (fail)
          have D104 := Lib.hid (Nw103.out.drew)
          clear Nw103
          refine wp_region_grow 9 9 (by kernel_rfl) (by kernel_rfl) (fun d v c a w h => by cases d <;> exact h) ?_
          simp only [List.take_succ_cons, List.take_zero]
          refine wpGrow_loadN0 rfl (.tmp 5) rfl g (by kernel_rfl) (fun u hu => D104.out.up 0 rfl hu) ?_
          refine wpGrow_pure rfl (.int .i64 (i : Int)) (fun u => by kernel_rfl) ?_
          refine wpGrow_fn rfl 49 (.func 49) #[.tmp 46, .tmp 47] #[26, 3] rfl #[] #[.agg (nc y), .int .i64 (i : Int)] (by kernel_rfl) (by kernel_rfl) (fun u => callFunc_enter _ _ _ _ u Try.func49 (by kernel_rfl) (by kernel_rfl)) (.int .i64 ((0 : Nat) : Int)) (fun u hu => by have hcc := nat_bit y i u HI.out; rw [HBU.out] at hcc; exact hcc) ?_
          refine wpGrow_loadN0 rfl (.tmp 6) rfl (g + 1) (by kernel_rfl) (fun u hu => D104.out.up 1 rfl hu) ?_
          refine wpGrow_pure rfl (.int .i64 (i : Int)) (fun u => by kernel_rfl) ?_
          refine wpGrow_fn rfl 49 (.func 49) #[.tmp 49, .tmp 50] #[26, 3] rfl #[] #[.agg (nc z), .int .i64 (i : Int)] (by kernel_rfl) (by kernel_rfl) (fun u => callFunc_enter _ _ _ _ u Try.func49 (by kernel_rfl) (by kernel_rfl)) (.int .i64 ((1 : Nat) : Int)) (fun u hu => by have hcc := nat_bit z i u HI.out; rw [HBV.out] at hcc; exact hcc) ?_
          refine wpGrow_pure rfl (.int .i64 2) (fun u => by kernel_rfl) ?_
          refine wpGrow_pure rfl (.int .i64 2) (fun u => by kernel_rfl) ?_
          refine wpGrow_pure rfl (.int .i64 2) (fun u => by kernel_rfl) ?_
          refine wpGrow_nil ?_
          try simp only [Act.put, sl1, sl2, sl3, sl4, sl5, sl6]
          intro w105 hg6
          refine ⟨by kernel_rfl, ?_⟩
          have Nw105 := Lib.hid (D104.out.grow hg6)
          clear hg6 D104
          try simp only [Act.put, sl1, sl2, sl3, sl4, sl5, sl6]
          go_upto_region 9 with (fail)
          refine wp_region_lit ?_
          refine wpList_pureL rfl (.int .i64 2) (fun u => by kernel_rfl) ?_
          refine wpList_pureL rfl (.bool true) (fun u => by kernel_rfl) ?_
          refine wpList_nil ?_
          try simp only [Act.put, sl1, sl2, sl3, sl4, sl5, sl6]
          go_upto_region 10 with (fail)
          have D106 := Lib.hid (Nw105.out.drew)
          clear Nw105
          refine wp_region_grow 6 6 (by kernel_rfl) (by kernel_rfl) (fun d v c a w h => by cases d <;> exact h) ?_
          simp only [List.take_succ_cons, List.take_zero]
          refine wpGrow_pure rfl (.pointer (some ⟨c, 0, none⟩)) (fun u => by kernel_rfl) ?_
          refine wpGrow_load_seg rfl 48 (.tmp 12) rfl xo 0 27 (by kernel_rfl) (pc ((k.c.sum o o).x) ((k.c.sum o o).y) ((k.c.sum o o).z)) _ Try.underlying48 rfl (by kernel_rfl) (pc_size _ _ _) (fun u hu => D106.out.up 7 rfl hu) (fun j hj => by rw [Nat.zero_add]) ?_
          refine wpGrow_pure rfl (.int .i64 2) (fun u => by kernel_rfl) ?_
          refine wpGrow_pure rfl (.pointer (some ⟨xa, 54, none⟩)) (fun u => by kernel_rfl) ?_
          refine wpGrow_load_seg rfl 48 (.tmp 59) rfl xa 54 27 (by kernel_rfl) (tc (trN k (gm k m))) _ Try.underlying48 rfl (by kernel_rfl) (pc_size _ _ _) (fun u hu => D106.out.up 6 rfl hu) (all4_2 _ _ _ _) ?_
          refine wpGrow_fn rfl 48 (.func 48) #[.tmp 56, .tmp 57, .tmp 60] #[54, 48, 48] rfl #[] #[.pointer (some ⟨c, 0, none⟩), .agg (pc ((k.c.sum o o).x) ((k.c.sum o o).y) ((k.c.sum o o).z)), .agg (pc ((trN k (gm k m)).x) ((trN k (gm k m)).y) ((trN k (gm k m)).z))] (by kernel_rfl) (by kernel_rfl) (fun u => callFunc_enter _ _ _ _ u Try.func48 (by kernel_rfl) (by kernel_rfl)) (.agg (pc ((k.c.sum (k.c.sum o o) (trN k (gm k m))).x) ((k.c.sum (k.c.sum o o) (trN k (gm k m))).y) ((k.c.sum (k.c.sum o o) (trN k (gm k m))).z))) (fun u hu => by exact sum_rp k c f d u (rp_sum k RO.out RO.out) (rp_trip k m) (HC.out.up (grows_trans _ _ _ D106.out.1 hu))) ?_
          refine wpGrow_nil ?_
          try simp only [Act.put, sl1, sl2, sl3, sl4, sl5, sl6]
          refine grow_stores (rs := [6]) (by kernel_rfl) (by decide) (fun w107 hg6 => ?_)
          have Nw107 := Lib.hid (D106.out.grow hg6)
          clear hg6 D106
          refine wpAny_ready (rs := [6]) (by kernel_rfl) (by simp) ?_
          refine AllReady.cons rfl (fun K hK => ?_) AllReady.nil
          refine step_store_blk rfl 48 (.tmp 12) (.tmp 61) rfl xo rfl _ _ _ rfl (Nw107.out.at 7 rfl) (by rw [pc_size]; kernel_rfl) (by simp only [pc_size]) (pc_one _ _ _) (fun w108 hw hb hs => hK _ _ ?_)
          have Nw108 := Lib.hid (Nw107.out.store 7 rfl hb hs hw)
          clear hK hw hb hs Nw107
          try simp only [Act.put, sl1, sl2, sl3, sl4, sl5, sl6]
          refine wpAny_done (by kernel_rfl) ?_ _
          try simp only [Act.put, sl1, sl2, sl3, sl4, sl5, sl6]
          go_wp2_with (fail)
          go_roundw
          case rel => exact ⟨i, (k.c.sum (k.c.sum o o) (trN k (gm k m))), by omega, by go_num, by have h := (rp_sum k (rp_sum k RO.out RO.out) (rp_trip k m)); rw [two_step, HBU.out, HBV.out]; rw [show y / 2 ^ (i + 1) + z / 2 ^ (i + 1) * m + (y / 2 ^ (i + 1) + z / 2 ^ (i + 1) * m) + m = 2 * (y / 2 ^ (i + 1) + z / 2 ^ (i + 1) * m) + (0 + 1 * m) by omega] at h; exact h, Nw108.out⟩
          case measure => simp [intOf]
      · have HBU := Lib.hid hbu
        clear hbu
        rcases bit01 z i with hbv | hbv
        · have HBV := Lib.hid hbv
          clear hbv
          go_upto_region 7 with (fail)
          refine wp_region_lit ?_
          refine wpList_pureL rfl (.pointer (some ⟨c, 0, none⟩)) (fun u => by kernel_rfl) ?_
          refine wpList_load_seg rfl 48 (.tmp 12) rfl xo 0 27 (by kernel_rfl) _ _ (pc o.x o.y o.z) _ _ (M.out.at 7 rfl) Try.underlying48 rfl (by kernel_rfl) (pc_size _ _ _) (fun j hj => by rw [Nat.zero_add]) ?_
          refine wpList_load_seg rfl 48 (.tmp 12) rfl xo 0 27 (by kernel_rfl) _ _ (pc o.x o.y o.z) _ _ (M.out.at 7 rfl) Try.underlying48 rfl (by kernel_rfl) (pc_size _ _ _) (fun j hj => by rw [Nat.zero_add]) ?_
          refine wpList_fnL rfl 48 (.func 48) #[.tmp 42, .tmp 43, .tmp 44] #[54, 48, 48] rfl #[] #[.pointer (some ⟨c, 0, none⟩), .agg (pc o.x o.y o.z), .agg (pc o.x o.y o.z)] (by kernel_rfl) (by kernel_rfl) (fun u => callFunc_enter _ _ _ _ u Try.func48 (by kernel_rfl) (by kernel_rfl)) (.agg (pc ((k.c.sum o o).x) ((k.c.sum o o).y) ((k.c.sum o o).z))) (sum_rp k c f d wr RO.out RO.out (HC.out.up M.out.1)) (fun w102 hb => ?_)
          have Nw102 := Lib.hid (M.out.grow hb)
          clear hb M
          refine wpList_store_blk rfl 48 (.tmp 12) (.tmp 45) rfl xo (by kernel_rfl) _ _ (pc ((k.c.sum o o).x) ((k.c.sum o o).y) ((k.c.sum o o).z)) (by kernel_rfl) (Nw102.out.at 7 rfl) (by rw [pc_size]; kernel_rfl) (by simp only [pc_size]) (pc_one _ _ _) ?_
          intro w103 hw hb hs
          have Nw103 := Lib.hid (Nw102.out.store 7 rfl hb hs hw)
          clear hw hb hs Nw102
          refine wpList_nil ?_
          try simp only [Act.put, sl1, sl2, sl3, sl4, sl5, sl6]
          go_upto_region 8 with (fail)
          have D104 := Lib.hid (Nw103.out.drew)
          clear Nw103
          refine wp_region_grow 9 9 (by kernel_rfl) (by kernel_rfl) (fun d v c a w h => by cases d <;> exact h) ?_
          simp only [List.take_succ_cons, List.take_zero]
          refine wpGrow_loadN0 rfl (.tmp 5) rfl g (by kernel_rfl) (fun u hu => D104.out.up 0 rfl hu) ?_
          refine wpGrow_pure rfl (.int .i64 (i : Int)) (fun u => by kernel_rfl) ?_
          refine wpGrow_fn rfl 49 (.func 49) #[.tmp 46, .tmp 47] #[26, 3] rfl #[] #[.agg (nc y), .int .i64 (i : Int)] (by kernel_rfl) (by kernel_rfl) (fun u => callFunc_enter _ _ _ _ u Try.func49 (by kernel_rfl) (by kernel_rfl)) (.int .i64 ((1 : Nat) : Int)) (fun u hu => by have hcc := nat_bit y i u HI.out; rw [HBU.out] at hcc; exact hcc) ?_
          refine wpGrow_loadN0 rfl (.tmp 6) rfl (g + 1) (by kernel_rfl) (fun u hu => D104.out.up 1 rfl hu) ?_
          refine wpGrow_pure rfl (.int .i64 (i : Int)) (fun u => by kernel_rfl) ?_
          refine wpGrow_fn rfl 49 (.func 49) #[.tmp 49, .tmp 50] #[26, 3] rfl #[] #[.agg (nc z), .int .i64 (i : Int)] (by kernel_rfl) (by kernel_rfl) (fun u => callFunc_enter _ _ _ _ u Try.func49 (by kernel_rfl) (by kernel_rfl)) (.int .i64 ((0 : Nat) : Int)) (fun u hu => by have hcc := nat_bit z i u HI.out; rw [HBV.out] at hcc; exact hcc) ?_
          refine wpGrow_pure rfl (.int .i64 0) (fun u => by kernel_rfl) ?_
          refine wpGrow_pure rfl (.int .i64 1) (fun u => by kernel_rfl) ?_
          refine wpGrow_pure rfl (.int .i64 1) (fun u => by kernel_rfl) ?_
          refine wpGrow_nil ?_
          try simp only [Act.put, sl1, sl2, sl3, sl4, sl5, sl6]
          intro w105 hg6
          refine ⟨by kernel_rfl, ?_⟩
          have Nw105 := Lib.hid (D104.out.grow hg6)
          clear hg6 D104
          try simp only [Act.put, sl1, sl2, sl3, sl4, sl5, sl6]
          go_upto_region 9 with (fail)
          refine wp_region_lit ?_
          refine wpList_pureL rfl (.int .i64 1) (fun u => by kernel_rfl) ?_
          refine wpList_pureL rfl (.bool true) (fun u => by kernel_rfl) ?_
          refine wpList_nil ?_
          try simp only [Act.put, sl1, sl2, sl3, sl4, sl5, sl6]
          go_upto_region 10 with (fail)
          have D106 := Lib.hid (Nw105.out.drew)
          clear Nw105
          refine wp_region_grow 6 6 (by kernel_rfl) (by kernel_rfl) (fun d v c a w h => by cases d <;> exact h) ?_
          simp only [List.take_succ_cons, List.take_zero]
          refine wpGrow_pure rfl (.pointer (some ⟨c, 0, none⟩)) (fun u => by kernel_rfl) ?_
          refine wpGrow_load_seg rfl 48 (.tmp 12) rfl xo 0 27 (by kernel_rfl) (pc ((k.c.sum o o).x) ((k.c.sum o o).y) ((k.c.sum o o).z)) _ Try.underlying48 rfl (by kernel_rfl) (pc_size _ _ _) (fun u hu => D106.out.up 7 rfl hu) (fun j hj => by rw [Nat.zero_add]) ?_
          refine wpGrow_pure rfl (.int .i64 1) (fun u => by kernel_rfl) ?_
          refine wpGrow_pure rfl (.pointer (some ⟨xa, 27, none⟩)) (fun u => by kernel_rfl) ?_
          refine wpGrow_load_seg rfl 48 (.tmp 59) rfl xa 27 27 (by kernel_rfl) (tc (trN k (gm k 1))) _ Try.underlying48 rfl (by kernel_rfl) (pc_size _ _ _) (fun u hu => D106.out.up 6 rfl hu) (all4_1 _ _ _ _) ?_
          refine wpGrow_fn rfl 48 (.func 48) #[.tmp 56, .tmp 57, .tmp 60] #[54, 48, 48] rfl #[] #[.pointer (some ⟨c, 0, none⟩), .agg (pc ((k.c.sum o o).x) ((k.c.sum o o).y) ((k.c.sum o o).z)), .agg (pc ((trN k (gm k 1)).x) ((trN k (gm k 1)).y) ((trN k (gm k 1)).z))] (by kernel_rfl) (by kernel_rfl) (fun u => callFunc_enter _ _ _ _ u Try.func48 (by kernel_rfl) (by kernel_rfl)) (.agg (pc ((k.c.sum (k.c.sum o o) (trN k (gm k 1))).x) ((k.c.sum (k.c.sum o o) (trN k (gm k 1))).y) ((k.c.sum (k.c.sum o o) (trN k (gm k 1))).z))) (fun u hu => by exact sum_rp k c f d u (rp_sum k RO.out RO.out) (rp_trip k 1) (HC.out.up (grows_trans _ _ _ D106.out.1 hu))) ?_
          refine wpGrow_nil ?_
          try simp only [Act.put, sl1, sl2, sl3, sl4, sl5, sl6]
          refine grow_stores (rs := [6]) (by kernel_rfl) (by decide) (fun w107 hg6 => ?_)
          have Nw107 := Lib.hid (D106.out.grow hg6)
          clear hg6 D106
          refine wpAny_ready (rs := [6]) (by kernel_rfl) (by simp) ?_
          refine AllReady.cons rfl (fun K hK => ?_) AllReady.nil
          refine step_store_blk rfl 48 (.tmp 12) (.tmp 61) rfl xo rfl _ _ _ rfl (Nw107.out.at 7 rfl) (by rw [pc_size]; kernel_rfl) (by simp only [pc_size]) (pc_one _ _ _) (fun w108 hw hb hs => hK _ _ ?_)
          have Nw108 := Lib.hid (Nw107.out.store 7 rfl hb hs hw)
          clear hK hw hb hs Nw107
          try simp only [Act.put, sl1, sl2, sl3, sl4, sl5, sl6]
          refine wpAny_done (by kernel_rfl) ?_ _
          try simp only [Act.put, sl1, sl2, sl3, sl4, sl5, sl6]
          go_wp2_with (fail)
          go_roundw
          case rel => exact ⟨i, (k.c.sum (k.c.sum o o) (trN k (gm k 1))), by omega, by go_num, by have h := (rp_sum k (rp_sum k RO.out RO.out) (rp_trip k 1)); rw [two_step, HBU.out, HBV.out]; rw [show y / 2 ^ (i + 1) + z / 2 ^ (i + 1) * m + (y / 2 ^ (i + 1) + z / 2 ^ (i + 1) * m) + 1 = 2 * (y / 2 ^ (i + 1) + z / 2 ^ (i + 1) * m) + (1 + 0 * m) by omega] at h; exact h, Nw108.out⟩
          case measure => simp [intOf]
        · have HBV := Lib.hid hbv
          clear hbv
          go_upto_region 7 with (fail)
          refine wp_region_lit ?_
          refine wpList_pureL rfl (.pointer (some ⟨c, 0, none⟩)) (fun u => by kernel_rfl) ?_
          refine wpList_load_seg rfl 48 (.tmp 12) rfl xo 0 27 (by kernel_rfl) _ _ (pc o.x o.y o.z) _ _ (M.out.at 7 rfl) Try.underlying48 rfl (by kernel_rfl) (pc_size _ _ _) (fun j hj => by rw [Nat.zero_add]) ?_
          refine wpList_load_seg rfl 48 (.tmp 12) rfl xo 0 27 (by kernel_rfl) _ _ (pc o.x o.y o.z) _ _ (M.out.at 7 rfl) Try.underlying48 rfl (by kernel_rfl) (pc_size _ _ _) (fun j hj => by rw [Nat.zero_add]) ?_
          refine wpList_fnL rfl 48 (.func 48) #[.tmp 42, .tmp 43, .tmp 44] #[54, 48, 48] rfl #[] #[.pointer (some ⟨c, 0, none⟩), .agg (pc o.x o.y o.z), .agg (pc o.x o.y o.z)] (by kernel_rfl) (by kernel_rfl) (fun u => callFunc_enter _ _ _ _ u Try.func48 (by kernel_rfl) (by kernel_rfl)) (.agg (pc ((k.c.sum o o).x) ((k.c.sum o o).y) ((k.c.sum o o).z))) (sum_rp k c f d wr RO.out RO.out (HC.out.up M.out.1)) (fun w102 hb => ?_)
          have Nw102 := Lib.hid (M.out.grow hb)
          clear hb M
          refine wpList_store_blk rfl 48 (.tmp 12) (.tmp 45) rfl xo (by kernel_rfl) _ _ (pc ((k.c.sum o o).x) ((k.c.sum o o).y) ((k.c.sum o o).z)) (by kernel_rfl) (Nw102.out.at 7 rfl) (by rw [pc_size]; kernel_rfl) (by simp only [pc_size]) (pc_one _ _ _) ?_
          intro w103 hw hb hs
          have Nw103 := Lib.hid (Nw102.out.store 7 rfl hb hs hw)
          clear hw hb hs Nw102
          refine wpList_nil ?_
          try simp only [Act.put, sl1, sl2, sl3, sl4, sl5, sl6]
          go_upto_region 8 with (fail)
          have D104 := Lib.hid (Nw103.out.drew)
          clear Nw103
          refine wp_region_grow 9 9 (by kernel_rfl) (by kernel_rfl) (fun d v c a w h => by cases d <;> exact h) ?_
          simp only [List.take_succ_cons, List.take_zero]
          refine wpGrow_loadN0 rfl (.tmp 5) rfl g (by kernel_rfl) (fun u hu => D104.out.up 0 rfl hu) ?_
          refine wpGrow_pure rfl (.int .i64 (i : Int)) (fun u => by kernel_rfl) ?_
          refine wpGrow_fn rfl 49 (.func 49) #[.tmp 46, .tmp 47] #[26, 3] rfl #[] #[.agg (nc y), .int .i64 (i : Int)] (by kernel_rfl) (by kernel_rfl) (fun u => callFunc_enter _ _ _ _ u Try.func49 (by kernel_rfl) (by kernel_rfl)) (.int .i64 ((1 : Nat) : Int)) (fun u hu => by have hcc := nat_bit y i u HI.out; rw [HBU.out] at hcc; exact hcc) ?_
          refine wpGrow_loadN0 rfl (.tmp 6) rfl (g + 1) (by kernel_rfl) (fun u hu => D104.out.up 1 rfl hu) ?_
          refine wpGrow_pure rfl (.int .i64 (i : Int)) (fun u => by kernel_rfl) ?_
          refine wpGrow_fn rfl 49 (.func 49) #[.tmp 49, .tmp 50] #[26, 3] rfl #[] #[.agg (nc z), .int .i64 (i : Int)] (by kernel_rfl) (by kernel_rfl) (fun u => callFunc_enter _ _ _ _ u Try.func49 (by kernel_rfl) (by kernel_rfl)) (.int .i64 ((1 : Nat) : Int)) (fun u hu => by have hcc := nat_bit z i u HI.out; rw [HBV.out] at hcc; exact hcc) ?_
          refine wpGrow_pure rfl (.int .i64 2) (fun u => by kernel_rfl) ?_
          refine wpGrow_pure rfl (.int .i64 3) (fun u => by kernel_rfl) ?_
          refine wpGrow_pure rfl (.int .i64 3) (fun u => by kernel_rfl) ?_
          refine wpGrow_nil ?_
          try simp only [Act.put, sl1, sl2, sl3, sl4, sl5, sl6]
          intro w105 hg6
          refine ⟨by kernel_rfl, ?_⟩
          have Nw105 := Lib.hid (D104.out.grow hg6)
          clear hg6 D104
          try simp only [Act.put, sl1, sl2, sl3, sl4, sl5, sl6]
          go_upto_region 9 with (fail)
          refine wp_region_lit ?_
          refine wpList_pureL rfl (.int .i64 3) (fun u => by kernel_rfl) ?_
          refine wpList_pureL rfl (.bool true) (fun u => by kernel_rfl) ?_
          refine wpList_nil ?_
          try simp only [Act.put, sl1, sl2, sl3, sl4, sl5, sl6]
          go_upto_region 10 with (fail)
          have D106 := Lib.hid (Nw105.out.drew)
          clear Nw105
          refine wp_region_grow 6 6 (by kernel_rfl) (by kernel_rfl) (fun d v c a w h => by cases d <;> exact h) ?_
          simp only [List.take_succ_cons, List.take_zero]
          refine wpGrow_pure rfl (.pointer (some ⟨c, 0, none⟩)) (fun u => by kernel_rfl) ?_
          refine wpGrow_load_seg rfl 48 (.tmp 12) rfl xo 0 27 (by kernel_rfl) (pc ((k.c.sum o o).x) ((k.c.sum o o).y) ((k.c.sum o o).z)) _ Try.underlying48 rfl (by kernel_rfl) (pc_size _ _ _) (fun u hu => D106.out.up 7 rfl hu) (fun j hj => by rw [Nat.zero_add]) ?_
          refine wpGrow_pure rfl (.int .i64 3) (fun u => by kernel_rfl) ?_
          refine wpGrow_pure rfl (.pointer (some ⟨xa, 81, none⟩)) (fun u => by kernel_rfl) ?_
          refine wpGrow_load_seg rfl 48 (.tmp 59) rfl xa 81 27 (by kernel_rfl) (tc (k.c.sum (trN k (gm k 1)) (trN k (gm k m)))) _ Try.underlying48 rfl (by kernel_rfl) (pc_size _ _ _) (fun u hu => D106.out.up 6 rfl hu) (all4_3 _ _ _ _) ?_
          refine wpGrow_fn rfl 48 (.func 48) #[.tmp 56, .tmp 57, .tmp 60] #[54, 48, 48] rfl #[] #[.pointer (some ⟨c, 0, none⟩), .agg (pc ((k.c.sum o o).x) ((k.c.sum o o).y) ((k.c.sum o o).z)), .agg (pc ((k.c.sum (trN k (gm k 1)) (trN k (gm k m))).x) ((k.c.sum (trN k (gm k 1)) (trN k (gm k m))).y) ((k.c.sum (trN k (gm k 1)) (trN k (gm k m))).z))] (by kernel_rfl) (by kernel_rfl) (fun u => callFunc_enter _ _ _ _ u Try.func48 (by kernel_rfl) (by kernel_rfl)) (.agg (pc ((k.c.sum (k.c.sum o o) (k.c.sum (trN k (gm k 1)) (trN k (gm k m)))).x) ((k.c.sum (k.c.sum o o) (k.c.sum (trN k (gm k 1)) (trN k (gm k m)))).y) ((k.c.sum (k.c.sum o o) (k.c.sum (trN k (gm k 1)) (trN k (gm k m)))).z))) (fun u hu => by exact sum_rp k c f d u (rp_sum k RO.out RO.out) (rp_sum k (rp_trip k 1) (rp_trip k m)) (HC.out.up (grows_trans _ _ _ D106.out.1 hu))) ?_
          refine wpGrow_nil ?_
          try simp only [Act.put, sl1, sl2, sl3, sl4, sl5, sl6]
          refine grow_stores (rs := [6]) (by kernel_rfl) (by decide) (fun w107 hg6 => ?_)
          have Nw107 := Lib.hid (D106.out.grow hg6)
          clear hg6 D106
          refine wpAny_ready (rs := [6]) (by kernel_rfl) (by simp) ?_
          refine AllReady.cons rfl (fun K hK => ?_) AllReady.nil
          refine step_store_blk rfl 48 (.tmp 12) (.tmp 61) rfl xo rfl _ _ _ rfl (Nw107.out.at 7 rfl) (by rw [pc_size]; kernel_rfl) (by simp only [pc_size]) (pc_one _ _ _) (fun w108 hw hb hs => hK _ _ ?_)
          have Nw108 := Lib.hid (Nw107.out.store 7 rfl hb hs hw)
          clear hK hw hb hs Nw107
          try simp only [Act.put, sl1, sl2, sl3, sl4, sl5, sl6]
          refine wpAny_done (by kernel_rfl) ?_ _
          try simp only [Act.put, sl1, sl2, sl3, sl4, sl5, sl6]
          go_wp2_with (fail)
          go_roundw
          case rel => exact ⟨i, (k.c.sum (k.c.sum o o) (k.c.sum (trN k (gm k 1)) (trN k (gm k m)))), by omega, by go_num, by have h := (rp_sum k (rp_sum k RO.out RO.out) (rp_sum k (rp_trip k 1) (rp_trip k m))); rw [two_step, HBU.out, HBV.out]; rw [show y / 2 ^ (i + 1) + z / 2 ^ (i + 1) * m + (y / 2 ^ (i + 1) + z / 2 ^ (i + 1) * m) + (1 + m) = 2 * (y / 2 ^ (i + 1) + z / 2 ^ (i + 1) * m) + (1 + 1 * m) by omega] at h; exact h, Nw108.out⟩
          case measure => simp [intOf]
  refine wp_region_growB 8 (by kernel_rfl) (by kernel_rfl) (fun d v c a w h => by cases d <;> exact h) ?_
  simp only [List.take_succ_cons, List.take_zero]
  refine wpGrow_pure rfl (.pointer (some ⟨c, 0, none⟩)) (fun u => by kernel_rfl) ?_
  refine wpGrow_pure rfl (.pointer (some ⟨c, 0, none⟩)) (fun u => by kernel_rfl) ?_
  refine wpGrow_pure rfl (.pointer (some ⟨c, 0, none⟩)) (fun u => by kernel_rfl) ?_
  refine wpGrow_pure rfl (.pointer (some ⟨c, 37, none⟩)) (fun u => by kernel_rfl) ?_
  refine wpGrow_load_seg rfl 28 (.tmp 18) rfl c 37 19 (by kernel_rfl) (gpt k 1) _ Try.underlying28 rfl (by kernel_rfl) (gpt_size _ _) (fun u hu => grows_at HCB.out (grows_trans _ _ _ D2.out.1 hu)) (fun j hj => by rw [gpt_g]; exact cuc_g _ _ j hj) ?_
  refine wpGrow_fn rfl 27 (.func 27) #[.tmp 19] #[28] rfl #[] #[.agg (gpt k 1)] (by kernel_rfl) (by kernel_rfl) (fun u => callFunc_enter _ _ _ _ u Try.func27 (by kernel_rfl) (by kernel_rfl)) (.agg (pc ((trN k (gm k 1)).x) ((trN k (gm k 1)).y) ((trN k (gm k 1)).z))) (fun u hu => by exact triple_rp k 1 u) ?_
  refine wpGrow_load_seg rfl 28 (.tmp 7) rfl (g + 1 + 1) 0 19 (by kernel_rfl) (gpt k m) _ Try.underlying28 rfl (by kernel_rfl) (gpt_size _ _) (fun u hu => D2.out.up 2 rfl hu) (fun j hj => by rw [Nat.zero_add]) ?_
  refine wpGrow_fn rfl 27 (.func 27) #[.tmp 21] #[28] rfl #[] #[.agg (gpt k m)] (by kernel_rfl) (by kernel_rfl) (fun u => callFunc_enter _ _ _ _ u Try.func27 (by kernel_rfl) (by kernel_rfl)) (.agg (pc ((trN k (gm k m)).x) ((trN k (gm k m)).y) ((trN k (gm k m)).z))) (fun u hu => by exact triple_rp k m u) ?_
  refine wpGrow_nil ?_
  try simp only [Act.put, sl1, sl2, sl3, sl4, sl5, sl6]
  have B4 := Lib.hid (Mem.nil (w1.drew))
  refine grow_readyB (rs := [8, 9]) (by kernel_rfl) (by simp) (fun u5 hgB => ?_)
  have B6 := Lib.hid (B4.out.grow hgB)
  clear hgB B4
  refine BAll.alloc rfl rfl 48 rfl (.agg (pc 0 0 0)) (by rw [pc_zero]; kernel_rfl) B6.out ?_ ?_
  · intro y7 u8 mm
    have B9 := Lib.hid (show Mem (w1.drew) u8 [(y7, pc 0 0 0, 48)] from mm)
    clear mm B6
    try simp only [Act.put, sl1, sl2, sl3, sl4, sl5, sl6]
    refine grow_readyB (rs := [9]) (by kernel_rfl) (by simp) (fun u10 hgB => ?_)
    have B11 := Lib.hid (B9.out.grow hgB)
    clear hgB B9
    refine BAll.alloc rfl rfl 48 rfl (.agg (pc 0 0 0)) (by rw [pc_zero]; kernel_rfl) B11.out ?_ BAll.nil
    · intro y12 u13 mm
      have B14 := Lib.hid (show Mem (w1.drew) u13 [(y7, pc 0 0 0, 48), (y12, pc 0 0 0, 48)] from mm)
      clear mm B11
      try simp only [Act.put, sl1, sl2, sl3, sl4, sl5, sl6]
      refine grow_readyB (rs := [10]) (by kernel_rfl) (by simp) (fun u15 hgB => ?_)
      have B16 := Lib.hid (B14.out.grow hgB)
      clear hgB B14
      refine BAll.store rfl rfl 48 (.tmp 9) (.tmp 20) rfl B16.out 0 y7 rfl _ _ _ rfl rfl (by rw [pc_size]; kernel_rfl) (by simp only [pc_size]) (pc_one _ _ _) ?_ BAll.nil
      · intro u18 mm
        have B19 := Lib.hid (show Mem (w1.drew) u18 [(y7, pc ((trN k (gm k 1)).x) ((trN k (gm k 1)).y) ((trN k (gm k 1)).z), 48), (y12, pc 0 0 0, 48)] from mm)
        clear mm B16
        try simp only [Act.put, sl1, sl2, sl3, sl4, sl5, sl6]
        refine grow_readyB (rs := [11]) (by kernel_rfl) (by simp) (fun u20 hgB => ?_)
        have B21 := Lib.hid (B19.out.grow hgB)
        clear hgB B19
        refine BAll.store rfl rfl 48 (.tmp 10) (.tmp 22) rfl B21.out 1 y12 rfl _ _ _ rfl rfl (by rw [pc_size]; kernel_rfl) (by simp only [pc_size]) (pc_one _ _ _) ?_ BAll.nil
        · intro u23 mm
          have B24 := Lib.hid (show Mem (w1.drew) u23 [(y7, pc ((trN k (gm k 1)).x) ((trN k (gm k 1)).y) ((trN k (gm k 1)).z), 48), (y12, pc ((trN k (gm k m)).x) ((trN k (gm k m)).y) ((trN k (gm k m)).z), 48)] from mm)
          clear mm B21
          try simp only [Act.put, sl1, sl2, sl3, sl4, sl5, sl6]
          refine grow_doneB (by kernel_rfl) (fun u1 hgB => ?_)
          exact r3 y7 y12 _ ((B24.out.grow hgB).perm (List.Perm.refl _))
  refine BAll.alloc rfl rfl 48 rfl (.agg (pc 0 0 0)) (by rw [pc_zero]; kernel_rfl) B6.out ?_ BAll.nil
  · intro y25 u26 mm
    have B27 := Lib.hid (show Mem (w1.drew) u26 [(y25, pc 0 0 0, 48)] from mm)
    clear mm B6
    try simp only [Act.put, sl1, sl2, sl3, sl4, sl5, sl6]
    refine grow_readyB (rs := [8]) (by kernel_rfl) (by simp) (fun u28 hgB => ?_)
    have B29 := Lib.hid (B27.out.grow hgB)
    clear hgB B27
    refine BAll.alloc rfl rfl 48 rfl (.agg (pc 0 0 0)) (by rw [pc_zero]; kernel_rfl) B29.out ?_ BAll.nil
    · intro y30 u31 mm
      have B32 := Lib.hid (show Mem (w1.drew) u31 [(y25, pc 0 0 0, 48), (y30, pc 0 0 0, 48)] from mm)
      clear mm B29
      try simp only [Act.put, sl1, sl2, sl3, sl4, sl5, sl6]
      refine grow_readyB (rs := [10]) (by kernel_rfl) (by simp) (fun u33 hgB => ?_)
      have B34 := Lib.hid (B32.out.grow hgB)
      clear hgB B32
      refine BAll.store rfl rfl 48 (.tmp 9) (.tmp 20) rfl B34.out 1 y30 rfl _ _ _ rfl rfl (by rw [pc_size]; kernel_rfl) (by simp only [pc_size]) (pc_one _ _ _) ?_ BAll.nil
      · intro u36 mm
        have B37 := Lib.hid (show Mem (w1.drew) u36 [(y25, pc 0 0 0, 48), (y30, pc ((trN k (gm k 1)).x) ((trN k (gm k 1)).y) ((trN k (gm k 1)).z), 48)] from mm)
        clear mm B34
        try simp only [Act.put, sl1, sl2, sl3, sl4, sl5, sl6]
        refine grow_readyB (rs := [11]) (by kernel_rfl) (by simp) (fun u38 hgB => ?_)
        have B39 := Lib.hid (B37.out.grow hgB)
        clear hgB B37
        refine BAll.store rfl rfl 48 (.tmp 10) (.tmp 22) rfl B39.out 0 y25 rfl _ _ _ rfl rfl (by rw [pc_size]; kernel_rfl) (by simp only [pc_size]) (pc_one _ _ _) ?_ BAll.nil
        · intro u41 mm
          have B42 := Lib.hid (show Mem (w1.drew) u41 [(y25, pc ((trN k (gm k m)).x) ((trN k (gm k m)).y) ((trN k (gm k m)).z), 48), (y30, pc ((trN k (gm k 1)).x) ((trN k (gm k 1)).y) ((trN k (gm k 1)).z), 48)] from mm)
          clear mm B39
          try simp only [Act.put, sl1, sl2, sl3, sl4, sl5, sl6]
          refine grow_doneB (by kernel_rfl) (fun u1 hgB => ?_)
          exact r3 y30 y25 _ ((B42.out.grow hgB).perm (List.Perm.swap _ _ _))
set_option maxRecDepth 100000 in
set_option maxHeartbeats 4000000 in
theorem dual_mul (k : CK) (y z m : Nat) (w : World) (hu : y < k.c.n) (hv : z < k.c.n) : Calls Try.prog 14 #[.int .i64 k.1, .agg (nc y), .agg (nc z), .agg (gpt k m)] w fun e w' => e = .returned (.tuple #[.agg (gpt k (y + z * m)), .int .i64 0]) ∧ Below w.heap.size w w' := by
  have HLT := Lib.hid hu
  have HLV := Lib.hid hv
  have u9 := Lib.hid (show y < pw 9 from Nat.lt_trans hu k.n9)
  have v9 := Lib.hid (show z < pw 9 from Nat.lt_trans hv k.n9)
  have N9 := Lib.hid k.n9
  clear hu hv
  go_enter Try.func14, Try.ntmps14
  go_upto_region 1 with fail
  rw [← ptc_zero]
  have m0 := Mem.start4 w (nc y) (nc z) (gpt k m) (ptc 0 0 false) 26 26 28 28
  obtain ⟨w1, hw1⟩ : ∃ w1 : World, w1 = ((((w.alloc (.cells (nc y) 26)).alloc (.cells (nc z) 26)).alloc (.cells (gpt k m) 28)).alloc (.cells (ptc 0 0 false) 28)) := ⟨_, rfl⟩
  rw [← hw1] at m0 ⊢
  clear hw1
  obtain ⟨g, hg⟩ : ∃ g, g = w.heap.size := ⟨_, rfl⟩
  rw [← hg] at m0 ⊢
  have HG := Lib.hid hg
  have M := Lib.hid m0
  clear hg m0
  go_upto_region 1 with (fail)
  refine wp_region_lit ?_
  refine wpList_pureL rfl (.int .i64 (k.1 : Int)) (fun u => by kernel_rfl) ?_
  refine wpList_fnE rfl 18 (.func 18) #[.tmp 11] #[3] rfl #[] #[.int .i64 (k.1 : Int)] (by kernel_rfl) (by kernel_rfl) (fun u => callFunc_enter _ _ _ _ u Try.func18 (by kernel_rfl) (by kernel_rfl)) (T := Nat) (fun c => .pointer (some ⟨c, 0, none⟩)) (fun c w' => ∃ f d, CurveAt w' c f d k.c ∧ Below w1.heap.size w1 w') ((k.open_ w1).mono fun e w' ⟨c, f, d, he, hr, _, hb⟩ => ⟨c, he, f, d, hr, hb⟩) ?_
  rintro c w2 ⟨f, d, hc, hb⟩
  have M2 := Lib.hid (MC.of (M.out.grow hb) hc)
  clear hc hb M
  refine wpList_pureL rfl (.pointer (some ⟨c, 0, none⟩)) (fun u => by kernel_rfl) ?_
  refine wpList_nil ?_
  try simp only [Act.put, sl1, sl2, sl3, sl4, sl5, sl6]
  go_upto_region 2 with (fail)
  refine wp_region_lit ?_
  refine wpList_pureL rfl (.pointer (some ⟨c, 0, none⟩)) (fun u => by kernel_rfl) ?_
  refine wpList_pureL rfl (.bool false) (fun u => by kernel_rfl) ?_
  refine wpList_pureL rfl (.bool false) (fun u => by kernel_rfl) ?_
  refine wpList_nil ?_
  try simp only [Act.put, sl1, sl2, sl3, sl4, sl5, sl6]
  go_upto_region 4 with (fail)
  refine wp_region_lit ?_
  refine wpList_pureL rfl (.pointer (some ⟨c, 0, none⟩)) (fun u => by kernel_rfl) ?_
  refine wpList_load_seg rfl 28 (.tmp 7) rfl (g + 1 + 1) 0 19 (by kernel_rfl) _ _ (gpt k m) _ _ (M2.out.at 2 rfl) Try.underlying28 rfl (by kernel_rfl) (gpt_size _ _) (fun j hj => by rw [Nat.zero_add]) ?_
  refine wpList_fnL rfl 28 (.func 28) #[.tmp 18, .tmp 19] #[54, 28] rfl #[] #[.pointer (some ⟨c, 0, none⟩), .agg (gpt k m)] (by kernel_rfl) (by kernel_rfl) (fun u => callFunc_enter _ _ _ _ u Try.func28 (by kernel_rfl) (by kernel_rfl)) (.bool true) (on_rp k m c f d w2 M2.out.crv) (fun w2 hb => ?_)
  have Nw2 := Lib.hid (M2.out.grow hb)
  clear hb M2
  refine wpList_pureL rfl (.bool false) (fun u => by kernel_rfl) ?_
  refine wpList_pureL rfl (.bool false) (fun u => by kernel_rfl) ?_
  refine wpList_nil ?_
  try simp only [Act.put, sl1, sl2, sl3, sl4, sl5, sl6]
  go_upto_region 6 with (fail)
  have D3 := Lib.hid (Nw2.out.drew)
  clear Nw2
  refine wp_region_grow 19 19 (by kernel_rfl) (by kernel_rfl) (fun d v c a w h => by cases d <;> exact h) ?_
  simp only [List.take_succ_cons, List.take_zero]
  refine wpGrow_loadN0 rfl (.tmp 5) rfl g (by kernel_rfl) (fun u hu => D3.out.up 0 rfl hu) ?_
  refine wpGrow_pure rfl (.pointer (some ⟨c, 0, none⟩)) (fun u => by kernel_rfl) ?_
  refine wpGrow_pure rfl (.pointer (some ⟨c, 0, none⟩)) (fun u => by kernel_rfl) ?_
  refine wpGrow_pure rfl (.pointer (some ⟨c, 0, none⟩)) (fun u => by kernel_rfl) ?_
  refine wpGrow_pure rfl (.pointer (some ⟨c, 28, none⟩)) (fun u => by kernel_rfl) ?_
  refine wpGrow_loadN rfl (.tmp 28) rfl c 28 (by kernel_rfl) k.c.n (fun u hu => grows_at D3.out.crv.2.2 hu) (cuc_n _ _) ?_
  refine wpGrow_fn rfl 29 (.func 29) #[.tmp 24, .tmp 29] #[26, 26] rfl #[] #[.agg (nc y), .agg (nc k.c.n)] (by kernel_rfl) (by kernel_rfl) (fun u => callFunc_enter _ _ _ _ u Try.func29 (by kernel_rfl) (by kernel_rfl)) (.int .i64 (cmpN y k.c.n)) (fun u hu => by exact nat_cmp y k.c.n u u9.out N9.out) ?_
  refine wpGrow_pure rfl (.bool false) (fun u => by exact run_bini _ _ _ _ _ rfl (cmpN y k.c.n) 0 (by kernel_rfl) (by kernel_rfl) (cmp_geq HLT.out) u) ?_
  refine wpGrow_pure rfl (.bool false) (fun u => by kernel_rfl) ?_
  try simp only [Act.put, sl1, sl2, sl3, sl4, sl5, sl6]
  refine wpGrow_loadN0 rfl (.tmp 6) rfl (g + 1) (by kernel_rfl) (fun u hu => D3.out.up 1 rfl hu) ?_
  try simp only [Act.put, sl1, sl2, sl3, sl4, sl5, sl6]
  refine wpGrow_pure rfl (.pointer (some ⟨c, 0, none⟩)) (fun u => by kernel_rfl) ?_
  try simp only [Act.put, sl1, sl2, sl3, sl4, sl5, sl6]
  refine wpGrow_pure rfl (.pointer (some ⟨c, 0, none⟩)) (fun u => by kernel_rfl) ?_
  try simp only [Act.put, sl1, sl2, sl3, sl4, sl5, sl6]
  refine wpGrow_pure rfl (.pointer (some ⟨c, 0, none⟩)) (fun u => by kernel_rfl) ?_
  try simp only [Act.put, sl1, sl2, sl3, sl4, sl5, sl6]
  refine wpGrow_pure rfl (.pointer (some ⟨c, 28, none⟩)) (fun u => by kernel_rfl) ?_
  try simp only [Act.put, sl1, sl2, sl3, sl4, sl5, sl6]
  refine wpGrow_loadN rfl (.tmp 37) rfl c 28 (by kernel_rfl) k.c.n (fun u hu => grows_at D3.out.crv.2.2 hu) (cuc_n _ _) ?_
  try simp only [Act.put, sl1, sl2, sl3, sl4, sl5, sl6]
  refine wpGrow_fn rfl 29 (.func 29) #[.tmp 33, .tmp 38] #[26, 26] rfl #[] #[.agg (nc z), .agg (nc k.c.n)] (by kernel_rfl) (by kernel_rfl) (fun u => callFunc_enter _ _ _ _ u Try.func29 (by kernel_rfl) (by kernel_rfl)) (.int .i64 (cmpN z k.c.n)) (fun u hu => by exact nat_cmp z k.c.n u v9.out N9.out) ?_
  try simp only [Act.put, sl1, sl2, sl3, sl4, sl5, sl6]
  refine wpGrow_pure rfl (.bool false) (fun u => by exact run_bini _ _ _ _ _ rfl (cmpN z k.c.n) 0 (by kernel_rfl) (by kernel_rfl) (cmp_geq HLV.out) u) ?_
  refine wpGrow_pure rfl (.bool false) (fun u => by kernel_rfl) ?_
  refine wpGrow_pure rfl (.bool false) (fun u => by kernel_rfl) ?_
  refine wpGrow_nil ?_
  try simp only [Act.put, sl1, sl2, sl3, sl4, sl5, sl6]
  intro w4 hg6
  refine ⟨by kernel_rfl, ?_⟩
  have Nw4 := Lib.hid (D3.out.grow hg6)
  clear hg6 D3
  try simp only [Act.put, sl1, sl2, sl3, sl4, sl5, sl6]
  go_upto_region 8 with (fail)
  refine wp_region_lit ?_
  refine wpList_pureL rfl (.pointer (some ⟨c, 0, none⟩)) (fun u => by kernel_rfl) ?_
  refine wpN_load0 rfl (.tmp 5) rfl g (by kernel_rfl) (Nw4.out.at 0 rfl) ?_
  refine wpN_load0 rfl (.tmp 6) rfl (g + 1) (by kernel_rfl) (Nw4.out.at 1 rfl) ?_
  refine wpList_load_seg rfl 28 (.tmp 7) rfl (g + 1 + 1) 0 19 (by kernel_rfl) _ _ (gpt k m) _ _ (Nw4.out.at 2 rfl) Try.underlying28 rfl (by kernel_rfl) (gpt_size _ _) (fun j hj => by rw [Nat.zero_add]) ?_
  refine wpList_fnL rfl 33 (.func 33) #[.tmp 43, .tmp 44, .tmp 45, .tmp 46] #[54, 26, 26, 28] rfl #[] #[.pointer (some ⟨c, 0, none⟩), .agg (nc y), .agg (nc z), .agg (gpt k m)] (by kernel_rfl) (by kernel_rfl) (fun u => callFunc_enter _ _ _ _ u Try.func33 (by kernel_rfl) (by kernel_rfl)) (.agg (gpt k (y + z * m))) (dual_times k c f d y z m w4 (Nat.lt_trans HLT.out (bl_lt _)) (Nat.lt_trans HLV.out (bl_lt _)) u9.out v9.out Nw4.out.crv) (fun w5 hb => ?_)
  have Nw5 := Lib.hid (Nw4.out.grow hb)
  clear hb Nw4
  refine wpList_store_blk rfl 28 (.tmp 8) (.tmp 47) rfl (g + 1 + 1 + 1) (by kernel_rfl) _ _ (gpt k (y + z * m)) (by kernel_rfl) (Nw5.out.at 3 rfl) (by rw [gpt_size]; kernel_rfl) (by simp only [gpt_size, ptc_size]) (gpt_one _ _) ?_
  intro w6 hw hb hs
  have Nw6 := Lib.hid (Nw5.out.store 3 rfl hb hs hw)
  clear hw hb hs Nw5
  refine wpList_pureL rfl (.int .i64 0) (fun u => by kernel_rfl) ?_
  refine wpList_nil ?_
  try simp only [Act.put, sl1, sl2, sl3, sl4, sl5, sl6]
  go_wp2_with (fail)
  exact bodyPost_ret (results_O2 rfl _ _ (g + 1 + 1 + 1) _ _ _ _ (gpt_size _ _) rfl rfl (Nw6.out.at 3 rfl)) rfl ⟨rfl, Nw6.out.below⟩
end Go.Proofs.Ytkoonhiplicbkaa.Cw
