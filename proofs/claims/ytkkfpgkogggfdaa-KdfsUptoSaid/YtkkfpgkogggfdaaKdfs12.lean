/-
  (package curvetlaw12) The walk of Kdfs: true. Condition: the two texts take at most 2^20 bytes together.
-/
import Derived.Test.YtkkfpgkogggfdaaAwake12
set_option linter.unusedSimpArgs false
set_option linter.unusedVariables false
namespace Go.Proofs.Ytkkfpgkogggfdaa.Cw
open Go Go.RowKit

set_option maxRecDepth 100000 in
set_option maxHeartbeats 1000000 in
theorem kdfs_walk (c : Int) (z info : ByteArray) (size : Int) (w : World) (hc : (Lit.int .i64 c).wf = true) (h1 : z.size ≤ 1048576) (h2 : info.size ≤ 1048576) (hs : (Lit.int .i64 size).wf = true) : Calls Try.prog 3 #[.int .i64 c, .string z, .string info, .int .i64 size] w fun e w' => e = .returned (.bool true) ∧ Below w.heap.size w w' := by
  go_enter Try.func3, Try.ntmps3
  by_cases hi : 1 ≤ c ∧ c ≤ 4
  · obtain ⟨id, rfl⟩ : ∃ id : Nat, c = (id : Int) := ⟨c.toNat, by omega⟩
    have hi' : isId id := by unfold isId; omega
    by_cases hl : size < 0 ∨ 1024 < size
    · go_wp2_with (go_at_call 9; refine (num_calls _ _).mono ?_; rintro e w9 ⟨rfl, rfl⟩)
      first | (with_reducible refine (kdf_long id _ _ size _ hi' hl).mono ?_) | (refine (kdf_long id _ _ size _ hi' hl).mono ?_)
      rintro e w1 ⟨rfl, hb1⟩
      have hB1 := hb1
      go_wp2_with (go_at_call 9; refine (num_calls _ _).mono ?_; rintro e w9 ⟨rfl, rfl⟩)
      refine (refKdf_long id _ _ size _ hi' hl).mono ?_
      rintro e w2 ⟨rfl, rfl⟩
      go_wp2_with (go_at_call 9; refine (num_calls _ _).mono ?_; rintro e w9 ⟨rfl, rfl⟩)
      first | (with_reducible refine (awake_calls _).mono ?_) | (refine (awake_calls _).mono ?_)
      rintro e w3 ⟨rfl, hb3⟩
      have hB3 := hB1.trans (hb3.mono hB1.size)
      go_wp2_with (go_at_call 9; refine (num_calls _ _).mono ?_; rintro e w9 ⟨rfl, rfl⟩)
      go_ret
      exact ⟨rfl, hB3⟩
    · obtain ⟨sz, rfl⟩ : ∃ sz : Nat, size = (sz : Int) := ⟨size.toNat, by omega⟩
      go_wp2_with (go_at_call 9; refine (num_calls _ _).mono ?_; rintro e w9 ⟨rfl, rfl⟩)
      first | (with_reducible refine (kdf_yes id _ _ sz _ hi' (by omega) (by omega)).mono ?_) | (refine (kdf_yes id _ _ sz _ hi' (by omega) (by omega)).mono ?_)
      rintro e w1 ⟨rfl, hb1⟩
      have hB1 := hb1
      go_wp2_with (go_at_call 9; refine (num_calls _ _).mono ?_; rintro e w9 ⟨rfl, rfl⟩)
      first | (with_reducible refine (refKdf_yes id _ _ sz _ hi' (by omega) (by omega)).mono ?_) | (refine (refKdf_yes id _ _ sz _ hi' (by omega) (by omega)).mono ?_)
      rintro e w2 ⟨rfl, hb2⟩
      have hB2 := hB1.trans (hb2.mono hB1.size)
      go_wp2_with (go_at_call 9; refine (num_calls _ _).mono ?_; rintro e w9 ⟨rfl, rfl⟩)
      first | (with_reducible refine (awake_calls _).mono ?_) | (refine (awake_calls _).mono ?_)
      rintro e w3 ⟨rfl, hb3⟩
      have hB3 := hB2.trans (hb3.mono hB2.size)
      go_wp2_with (go_at_call 9; refine (num_calls _ _).mono ?_; rintro e w9 ⟨rfl, rfl⟩)
      go_ret
      exact ⟨rfl, hB3⟩
  · go_wp2_with (go_at_call 9; refine (num_calls _ _).mono ?_; rintro e w9 ⟨rfl, rfl⟩)
    first | (with_reducible refine (kdf_no c _ _ size _ hi).mono ?_) | (refine (kdf_no c _ _ size _ hi).mono ?_)
    rintro e w1 ⟨rfl, hb1⟩
    have hB1 := hb1
    go_wp2_with (go_at_call 9; refine (num_calls _ _).mono ?_; rintro e w9 ⟨rfl, rfl⟩)
    refine (refKdf_no c _ _ size _ hi).mono ?_
    rintro e w2 ⟨rfl, rfl⟩
    go_wp2_with (go_at_call 9; refine (num_calls _ _).mono ?_; rintro e w9 ⟨rfl, rfl⟩)
    first | (with_reducible refine (awake_calls _).mono ?_) | (refine (awake_calls _).mono ?_)
    rintro e w3 ⟨rfl, hb3⟩
    have hB3 := hB1.trans (hb3.mono hB1.size)
    go_wp2_with (go_at_call 9; refine (num_calls _ _).mono ?_; rintro e w9 ⟨rfl, rfl⟩)
    go_ret
    exact ⟨rfl, hB3⟩
end Go.Proofs.Ytkkfpgkogggfdaa.Cw
