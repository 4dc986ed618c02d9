/-
  (package curvetlaw12) What awake answers: true. No condition.
-/
import Derived.Test.YtkkfpgkogggfdaaKdf
set_option linter.unusedSimpArgs false
set_option linter.unusedVariables false
namespace Go.Proofs.Ytkkfpgkogggfdaa.Cw
open Go Go.RowKit

set_option maxRecDepth 100000 in
set_option maxHeartbeats 1000000 in
theorem awake_calls (w : World) : Calls Try.prog 10 #[] w fun e w' => e = .returned (.bool true) ∧ Below w.heap.size w w' := by
  go_enter Try.func10, Try.ntmps10
  have i2 : isId 2 := ⟨by decide, by decide⟩
  go_wp2_with (go_at_call 9; refine (num_calls _ _).mono ?_; rintro e w9 ⟨rfl, rfl⟩)
  refine (kdf_yes 2 _ _ 50 _ i2 (by decide) (by decide)).mono ?_
  rintro e w1 ⟨rfl, hb1⟩
  have hB1 := hb1
  go_wp2_with (go_at_call 9; refine (num_calls _ _).mono ?_; rintro e w9 ⟨rfl, rfl⟩)
  refine (refKdf_yes 2 _ _ 50 _ i2 (by decide) (by decide)).mono ?_
  rintro e w2 ⟨rfl, hb2⟩
  have hB2 := hB1.trans (hb2.mono hB1.size)
  go_wp2_with (go_at_call 9; refine (num_calls _ _).mono ?_; rintro e w9 ⟨rfl, rfl⟩)
  refine (kdf_long 2 _ _ 1025 _ i2 (by decide)).mono ?_
  rintro e w3 ⟨rfl, hb3⟩
  have hB3 := hB2.trans (hb3.mono hB2.size)
  go_wp2_with (go_at_call 9; refine (num_calls _ _).mono ?_; rintro e w9 ⟨rfl, rfl⟩)
  refine (kdf_no 0 _ _ 5 _ (by decide)).mono ?_
  rintro e w4 ⟨rfl, hb4⟩
  have hB4 := hB3.trans (hb4.mono hB3.size)
  go_wp2_with (go_at_call 9; refine (num_calls _ _).mono ?_; rintro e w9 ⟨rfl, rfl⟩)
  go_ret
  exact ⟨rfl, hB4⟩
end Go.Proofs.Ytkkfpgkogggfdaa.Cw
