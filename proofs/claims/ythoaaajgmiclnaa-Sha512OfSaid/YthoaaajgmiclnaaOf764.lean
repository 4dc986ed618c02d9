/-
  (package curvetlaw8) The walk of Sha512Of: true. Condition: the text takes at most 2^46 bytes.
-/
import Derived.Test.YthoaaajgmiclnaaLawA64
set_option linter.unusedSimpArgs false
set_option linter.unusedVariables false
namespace Go.Proofs.Ythoaaajgmiclnaa.Cw
open Go Go.RowKit

set_option maxRecDepth 100000 in
set_option maxHeartbeats 1000000 in
theorem sha512Of_walkL (c : Int) (s : ByteArray) (w : World) (hs : s.size ≤ 140737488351232) : Calls Try.prog 3 #[.int .i64 c, .string s] w fun e w' => e = .returned (.bool true) ∧ Below w.heap.size w w' := by
  go_enter Try.func3, Try.ntmps3
  by_cases hb : c = 384 ∨ c = 512
  · obtain ⟨bits, rfl⟩ : ∃ bits : Nat, c = (bits : Int) := ⟨c.toNat, by omega⟩
    have hb' : isBitsL bits := by unfold isBitsL; omega
    have hid : ((idOfL bits : Nat) : Int) ≠ 0 := by unfold idOfL; split <;> decide
    clear hb
    go_wp2_with (first
      | (go_at_call 8; refine (of_yesL bits s _ hb' (by omega)).mono ?_; rintro e w1 ⟨rfl, hb1⟩)
      | (go_at_call 9; refine (id_yesL bits _ hb').mono ?_; rintro e w9 ⟨rfl, rfl⟩)
      | (go_at_call 10; refine (num_calls _ _).mono ?_; rintro e w9 ⟨rfl, rfl⟩)
      | (go_at_call 12; refine (refOf_callsL bits _ _ hb' hs).mono ?_; rintro e w2 ⟨rfl, hb2⟩)
      | (go_at_call 11; refine (awake_callsL _).mono ?_; rintro e w3 ⟨rfl, hb3⟩))
    go_ret
    exact ⟨rfl, hb1.trans ((hb2.mono hb1.size).trans (hb3.mono (by have := hb1.size; have := hb2.size; omega)))⟩
  · go_wp2_with (first
      | (go_at_call 8; refine (of64_no c s _ (by omega) (by omega)).mono ?_; rintro e w1 ⟨rfl, hb1⟩)
      | (go_at_call 9; refine (id_noL c _ (by omega) (by omega)).mono ?_; rintro e w9 ⟨rfl, rfl⟩)
      | (go_at_call 10; refine (num_calls _ _).mono ?_; rintro e w9 ⟨rfl, rfl⟩)
      | (go_at_call 11; refine (awake_callsL _).mono ?_; rintro e w3 ⟨rfl, hb3⟩))
    go_ret
    exact ⟨rfl, hb1.trans (hb3.mono hb1.size)⟩
theorem sha512Of_rowsL (c : Int) (s : ByteArray) (w : World) (hc : (Lit.int .i64 c).wf = true) (hs : s.size ≤ 140737488351232) : Calls Try.prog 3 #[.int .i64 c, .string s] w fun e w' => e = .returned (.bool true) ∧ Below w.heap.size w w' := sha512Of_walkL c s w hs
end Go.Proofs.Ythoaaajgmiclnaa.Cw
