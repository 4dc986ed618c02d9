/-
  (package curvetlaw9) What awake answers: true. No condition.
-/
import Derived.Test.YtppcclhchlallaaNine
set_option linter.unusedSimpArgs false
set_option linter.unusedVariables false
namespace Go.Proofs.Ytppcclhchlallaa.Cw
open Go Go.RowKit

set_option maxRecDepth 100000 in
set_option maxHeartbeats 1000000 in
theorem awake_calls (w : World) : Calls Try.prog 15 #[] w fun e w' => e = .returned (.bool true) ∧ Below w.heap.size w w' := by
  go_enter Try.func15, Try.ntmps15
  go_wp2_with (go_at_call 14; refine (num_calls _ _).mono ?_; rintro e w9 ⟨rfl, rfl⟩)
  refine (hashOf_yes 3 _ _ ⟨by decide, by decide⟩ (by decide)).mono ?_
  rintro e w1 ⟨rfl, hb1⟩
  have hB1 := hb1
  go_wp2_with (go_at_call 14; refine (num_calls _ _).mono ?_; rintro e w9 ⟨rfl, rfl⟩)
  refine (hashOf_no 0 _ _ (by decide)).mono ?_
  rintro e w2 ⟨rfl, hb2⟩
  have hB2 := hB1.trans (hb2.mono hB1.size)
  go_wp2_with (go_at_call 14; refine (num_calls _ _).mono ?_; rintro e w9 ⟨rfl, rfl⟩)
  refine (hsize 4 ⟨by decide, by decide⟩ _).mono ?_
  rintro e w3 ⟨rfl, hb3⟩
  have hB3 := hB2.trans (hb3.mono hB2.size)
  rw [show szOf 4 = 64 from rfl]
  go_wp2_with (go_at_call 14; refine (num_calls _ _).mono ?_; rintro e w9 ⟨rfl, rfl⟩)
  refine (block_yes 1 ⟨by decide, by decide⟩ _).mono ?_
  rintro e w4 ⟨rfl, hb4⟩
  have hB4 := hB3.trans (hb4.mono hB3.size)
  rw [show blockOf 1 = 64 from rfl]
  go_wp2_with (go_at_call 14; refine (num_calls _ _).mono ?_; rintro e w9 ⟨rfl, rfl⟩)
  refine (size_no 9 (by decide) _).mono ?_
  rintro e w5 ⟨rfl, hb5⟩
  have hB5 := hB4.trans (hb5.mono hB4.size)
  go_wp2_with (go_at_call 14; refine (num_calls _ _).mono ?_; rintro e w9 ⟨rfl, rfl⟩)
  refine (refOf_id 3 _ _ ⟨by decide, by decide⟩ (by decide)).mono ?_
  rintro e w6 ⟨rfl, hb6⟩
  have hB6 := hB5.trans (hb6.mono hB5.size)
  go_wp2_with (go_at_call 14; refine (num_calls _ _).mono ?_; rintro e w9 ⟨rfl, rfl⟩)
  go_ret
  exact ⟨by simp, hB6⟩
end Go.Proofs.Ytppcclhchlallaa.Cw
