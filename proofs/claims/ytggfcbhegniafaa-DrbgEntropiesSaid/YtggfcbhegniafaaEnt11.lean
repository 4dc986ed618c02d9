/-
  (package curvetlaw11) The walk of DrbgEntropies: true. No condition.
-/
import Derived.Test.YtggfcbhegniafaaGm3
import Derived.Deep.RegionWith
set_option linter.unusedSimpArgs false
set_option linter.unusedVariables false
namespace Go.Proofs.Ytggfcbhegniafaa.Cw
open Go Go.RowKit

set_option maxRecDepth 100000 in
set_option maxHeartbeats 8000000 in
theorem drbgEntropies_walk (c c1 c2 : Int) (w : World) (hc : (Lit.int .i64 c).wf = true) (hc1 : (Lit.int .i64 c1).wf = true) (hc2 : (Lit.int .i64 c2).wf = true) : Calls Try.prog 4 #[.int .i64 c, .int .i64 c1, .int .i64 c2] w fun e w' => e = .returned (.bool true) ∧ Below w.heap.size w w' := by
  clear hc hc1 hc2
  go_enter Try.func4, Try.ntmps4
  obtain ⟨k, id, hk, he, hw, hi⟩ := pick_is c
  have HK := Lib.hid hk
  clear hk
  obtain ⟨j, hj, hj5⟩ := and511 c1
  obtain ⟨m, hm, hm5⟩ := and511 c2
  have HJ := Lib.hid hj
  have HM := Lib.hid hm
  clear hj hm
  have hmk := fun w => run_make_nulls j (by omega) w
  have hmm := fun w => run_make_nulls m (by omega) w
  have HMK := Lib.hid hmk
  have HMM := Lib.hid hmm
  clear hmk hmm
  go_wp2_with (go_at_call 13; refine (num_calls _ _).mono ?_; rintro e w9 ⟨rfl, rfl⟩)
  first | (with_reducible refine (awake_calls _).mono ?_) | (refine (awake_calls _).mono ?_)
  rintro e w1 ⟨rfl, hb1⟩
  have hB1 := hb1
  have hk := HK.out
  have hj := HJ.out
  have hm := HM.out
  go_wp2_with (go_at_call 13; refine (num_calls _ _).mono ?_; rintro e w9 ⟨rfl, rfl⟩)
  clear hj hm
  have hmk := HMK.out
  have hmm := HMM.out
  have cAj : ∀ W : World, (convert 32 9 (.slice (some ⟨W.heap.size, 0, none⟩) j j)).run Try.prog (W.alloc (.cells (nulls j) 5)).drew = .ok (.string (noughts j)) (W.alloc (.cells (nulls j) 5)).drew := fun W => convert_nulls j _ _ (by omega) (new1 W _)
  have cBj : ∀ (W : World) o, (convert 32 9 (.slice (some ⟨W.heap.size, 0, none⟩) j j)).run Try.prog ((W.alloc (.cells (nulls j) 5)).alloc o).drew = .ok (.string (noughts j)) ((W.alloc (.cells (nulls j) 5)).alloc o).drew := fun W o => convert_nulls j _ _ (by omega) (new2a W _ _)
  have cCj : ∀ (W : World) o, (convert 32 9 (.slice (some ⟨W.heap.size + 1, 0, none⟩) j j)).run Try.prog ((W.alloc o).alloc (.cells (nulls j) 5)).drew = .ok (.string (noughts j)) ((W.alloc o).alloc (.cells (nulls j) 5)).drew := fun W o => convert_nulls j _ _ (by omega) (new2 W _ _)
  have cAm : ∀ W : World, (convert 32 9 (.slice (some ⟨W.heap.size, 0, none⟩) m m)).run Try.prog (W.alloc (.cells (nulls m) 5)).drew = .ok (.string (noughts m)) (W.alloc (.cells (nulls m) 5)).drew := fun W => convert_nulls m _ _ (by omega) (new1 W _)
  have cBm : ∀ (W : World) o, (convert 32 9 (.slice (some ⟨W.heap.size, 0, none⟩) m m)).run Try.prog ((W.alloc (.cells (nulls m) 5)).alloc o).drew = .ok (.string (noughts m)) ((W.alloc (.cells (nulls m) 5)).alloc o).drew := fun W o => convert_nulls m _ _ (by omega) (new2a W _ _)
  have cCm : ∀ (W : World) o, (convert 32 9 (.slice (some ⟨W.heap.size + 1, 0, none⟩) m m)).run Try.prog ((W.alloc o).alloc (.cells (nulls m) 5)).drew = .ok (.string (noughts m)) ((W.alloc o).alloc (.cells (nulls m) 5)).drew := fun W o => convert_nulls m _ _ (by omega) (new2 W _ _)
  have zj := noughts_size j
  have zm := noughts_size m
  have zs := szOf_pos id
  have hfree : ∀ (A B : Obj) (e : World), Below ((w1.alloc A).alloc B).drew.heap.size ((w1.alloc A).alloc B).drew e → Below w.heap.size w e := fun A B e h => (((hB1.alloc hB1.size _).alloc (Nat.le_trans hB1.size (by simp)) _).drew).trans (h.mono (by have := hB1.size; simp; omega))
  have HF := Lib.hid hfree
  clear hfree
  by_cases hb : mayB id (noughts j) [noughts m, ByteArray.empty] = true
  · have hle := may2_le hb
    have hh := may2_half hb
    have HB := Lib.hid hb
    clear hb
    rw [zj] at hh
    rw [zj, zm] at hle
    obtain ⟨l1, l2, l3⟩ := hle
    go_region_with
      (first
       | (with_reducible refine (dnew_ok id (noughts j) (noughts m) ByteArray.empty _ hi HB.out).mono ?_)
       | (refine (dnew_ok id (noughts j) (noughts m) ByteArray.empty _ hi HB.out).mono ?_)
       rintro e w2 ⟨d, rfl, hd2, hl2, hb2⟩
       have HB2 := Lib.hid (HF.out _ _ _ hb2)
       clear hd2 hl2 hb2)
    all_goals
      go_wp2_with (first
        | (go_at_call 13; refine (num_calls _ _).mono ?_; rintro e w9 ⟨rfl, rfl⟩)
        | (go_at_call 16; refine (rsize id hi _).mono ?_; rintro e w9 ⟨rfl, rfl⟩))
      have b2 : decide ((m : Int) ≤ 256) = true := decide_eq_true (by omega)
      with_reducible refine (dnew_none 0 _ _ _ _ (by omega)).mono ?_
      rintro e w3 ⟨rfl, hb3⟩
      have hB3 := HB2.out.trans (hb3.mono HB2.out.size)
      go_wp2_with (first
        | (go_at_call 13; refine (num_calls _ _).mono ?_; rintro e w9 ⟨rfl, rfl⟩)
        | (go_at_call 16; refine (rsize id hi _).mono ?_; rintro e w9 ⟨rfl, rfl⟩))
      go_ret
      exact ⟨by simp [b2], hB3⟩
  · have hcs := may2_cases (by simpa using hb : mayB id (noughts j) [noughts m, ByteArray.empty] = false)
    have HB := Lib.hid (show mayB id (noughts j) [noughts m, ByteArray.empty] = false by simpa using hb)
    clear hb
    rw [zj, zm, show ByteArray.empty.size = 0 from rfl] at hcs
    rcases hcs with h1 | ⟨h1, h2 | ⟨h2, h3 | ⟨h3, h4⟩⟩⟩
    rotate_right
    · omega
    all_goals
      go_region_with
        (refine (dnew_no id (noughts j) (noughts m) ByteArray.empty _ hi HB.out).mono ?_
         rintro e w2 ⟨rfl, hb2⟩
         have HB2 := Lib.hid (HF.out _ _ _ hb2)
         clear hb2)
    all_goals
      go_wp2_with (first
        | (go_at_call 13; refine (num_calls _ _).mono ?_; rintro e w9 ⟨rfl, rfl⟩)
        | (go_at_call 16; refine (rsize id hi _).mono ?_; rintro e w9 ⟨rfl, rfl⟩))
      with_reducible refine (dnew_none 0 _ _ _ _ (by omega)).mono ?_
      rintro e w3 ⟨rfl, hb3⟩
      have hB3 := HB2.out.trans (hb3.mono HB2.out.size)
      go_wp2_with (first
        | (go_at_call 13; refine (num_calls _ _).mono ?_; rintro e w9 ⟨rfl, rfl⟩)
        | (go_at_call 16; refine (rsize id hi _).mono ?_; rintro e w9 ⟨rfl, rfl⟩))
      go_ret
      exact ⟨by simp [*]; try omega, hB3⟩
  
end Go.Proofs.Ytggfcbhegniafaa.Cw
