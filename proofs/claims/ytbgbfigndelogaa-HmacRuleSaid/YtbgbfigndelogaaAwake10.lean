/-
  (package curvetlaw10) What awake answers: true. No condition.
-/
import Derived.Test.YtbgbfigndelogaaXor
set_option linter.unusedSimpArgs false
set_option linter.unusedVariables false
namespace Go.Proofs.Ytbgbfigndelogaa.Cw
open Go Go.RowKit

theorem mac_write0 (m b id : Nat) (p : Nat → Prop) (key t : ByteArray) (w : World) (hp : ∀ g, w.heap.size ≤ g → p g) (hpb : ∀ g, p g → g ≠ b) (hs : t.size ≤ 140737488355200) (hh : MacAt w m b id p key ByteArray.empty) :
    Calls Try.prog 13 #[.pointer (some ⟨m, 0, none⟩), .string t] w fun e w' => e = .returned (.int .i64 0) ∧ MacAt w' m b id p key t ∧ But b w w' :=
  (mac_write m b id p key ByteArray.empty t w hp hpb hs hh).mono fun _ _ ⟨h1, h2, h3⟩ => ⟨h1, by simpa using h2, h3⟩
set_option maxRecDepth 100000 in
set_option maxHeartbeats 1000000 in
theorem awake_calls (w : World) : Calls Try.prog 12 #[] w fun e w' => e = .returned (.bool true) ∧ Below w.heap.size w w' := by
  go_enter Try.func12, Try.ntmps12
  have i2 : isId 2 := ⟨by decide, by decide⟩
  go_wp2_with (go_at_call 11; refine (num_calls _ _).mono ?_; rintro e w9 ⟨rfl, rfl⟩)
  first | (with_reducible refine (hmacOf_yes 2 _ _ _ i2 (by decide) (by decide)).mono ?_) | (refine (hmacOf_yes 2 _ _ _ i2 (by decide) (by decide)).mono ?_)
  rintro e w1 ⟨rfl, hb1⟩
  have hB1 := hb1
  go_wp2_with (go_at_call 11; refine (num_calls _ _).mono ?_; rintro e w9 ⟨rfl, rfl⟩)
  first | (with_reducible refine (hmacOf_no 5 _ _ _ (by decide)).mono ?_) | (refine (hmacOf_no 5 _ _ _ (by decide)).mono ?_)
  rintro e w2 ⟨rfl, hb2⟩
  have hB2 := hB1.trans (hb2.mono hB1.size)
  go_wp2_with (go_at_call 11; refine (num_calls _ _).mono ?_; rintro e w9 ⟨rfl, rfl⟩)
  first | (with_reducible refine (refHmac_calls 2 _ _ _ i2 (by decide) (by decide)).mono ?_) | (refine (refHmac_calls 2 _ _ _ i2 (by decide) (by decide)).mono ?_)
  rintro e w3 ⟨rfl, hb3⟩
  have hB3 := hB2.trans (hb3.mono hB2.size)
  go_wp2_with (go_at_call 11; refine (num_calls _ _).mono ?_; rintro e w9 ⟨rfl, rfl⟩)
  go_ret
  exact ⟨by simp, hB3⟩
end Go.Proofs.Ytbgbfigndelogaa.Cw
