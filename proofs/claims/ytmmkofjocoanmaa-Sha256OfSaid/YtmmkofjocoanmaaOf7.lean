/-
  (package curvetlaw7) The walk of Sha256Of: true. Condition: the text takes at most 2^46 bytes.
-/
import Derived.Test.YtmmkofjocoanmaaLawA
set_option linter.unusedSimpArgs false
set_option linter.unusedVariables false
namespace Go.Proofs.Ytmmkofjocoanmaa.Cw
open Go Go.RowKit

set_option maxRecDepth 100000 in
set_option maxHeartbeats 1000000 in
theorem sha256Of_walk (c : Int) (s : ByteArray) (w : World) (hs : s.size ≤ 140737488351232) : Calls Try.prog 4 #[.int .i64 c, .string s] w fun e w' => e = .returned (.bool true) ∧ Below w.heap.size w w' := by
  go_enter Try.func4, Try.ntmps4
  by_cases hb : c = 224 ∨ c = 256
  · obtain ⟨bits, rfl⟩ : ∃ bits : Nat, c = (bits : Int) := ⟨c.toNat, by omega⟩
    have hb' : isBits bits := by unfold isBits; omega
    have hid : ((idOf bits : Nat) : Int) ≠ 0 := by unfold idOf; split <;> decide
    clear hb
    go_wp2_with (first
      | (go_at_call 20; refine (of_yes bits s _ hb' (by omega)).mono ?_; rintro e w1 ⟨rfl, hb1⟩)
      | (go_at_call 21; refine (id_yes bits _ hb').mono ?_; rintro e w9 ⟨rfl, rfl⟩)
      | (go_at_call 22; refine (num_calls _ _).mono ?_; rintro e w9 ⟨rfl, rfl⟩)
      | (go_at_call 24; refine (refOf_calls bits _ _ hb' hs).mono ?_; rintro e w2 ⟨rfl, hb2⟩)
      | (go_at_call 23; refine (awake_calls _).mono ?_; rintro e w3 ⟨rfl, hb3⟩))
    go_ret
    exact ⟨rfl, hb1.trans ((hb2.mono hb1.size).trans (hb3.mono (by have := hb1.size; have := hb2.size; omega)))⟩
  · go_wp2_with (first
      | (go_at_call 20; refine (of32_no c s _ (by omega) (by omega)).mono ?_; rintro e w1 ⟨rfl, hb1⟩)
      | (go_at_call 21; refine (id_no c _ (by omega) (by omega)).mono ?_; rintro e w9 ⟨rfl, rfl⟩)
      | (go_at_call 22; refine (num_calls _ _).mono ?_; rintro e w9 ⟨rfl, rfl⟩)
      | (go_at_call 23; refine (awake_calls _).mono ?_; rintro e w3 ⟨rfl, hb3⟩))
    go_ret
    exact ⟨rfl, hb1.trans (hb3.mono hb1.size)⟩
theorem sha256Of_rows (c : Int) (s : ByteArray) (w : World) (hc : (Lit.int .i64 c).wf = true) (hs : s.size ≤ 140737488351232) : Calls Try.prog 4 #[.int .i64 c, .string s] w fun e w' => e = .returned (.bool true) ∧ Below w.heap.size w w' := sha256Of_walk c s w hs
end Go.Proofs.Ytmmkofjocoanmaa.Cw
