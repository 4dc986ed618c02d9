/-
  (package curvetref7) Reseed's and NewDrbg's refusals, of texts of any size. No condition.
-/
import Derived.Test.YtggfcbhegniafaaActs0
import Derived.Deep.Quiet
import Derived.Deep.QuietTactic
set_option linter.unusedSimpArgs false
set_option linter.unusedVariables false
namespace Go.Proofs.Ytggfcbhegniafaa.Cw
open Go Go.RowKit
set_option maxRecDepth 100000 in
theorem rreseed_any (d id : Nat) (kv : ByteArray × ByteArray) (n : Int) (ent a : ByteArray) (w : World) (hi : isId id) (hl : ent.size ≤ maxLen) (hm : mayB id ent [a] = false) (hd : RDrbgAt w d id kv n) :
    Calls Try.prog 22 #[.pointer (some ⟨d, 0, none⟩), .string ent, .string a] w fun e w' => e = .returned (.int .i64 1101) ∧ w = w' := by
  by_cases hs : ent.size ≤ 140737488351232
  · exact rreseed_no d id kv n ent a w hi hs hm hd
  have c0 := cell_of hd 0
  simp at c0
  have hsp := szOf_pos id
  simp only [maxLen] at hl
  clear hm hd
  obtain ⟨m, hmw⟩ : ∃ m : Int, wrap64 (2 * (ent.size : Int)) = m := ⟨_, rfl⟩
  by_cases hlt : m < (szOf id : Int)
  all_goals
    go_enter Try.func22, Try.ntmps22
    go_wp2_with (go_at_call 16; refine (rsize id hi _).mono ?_; rintro e w1 ⟨rfl, rfl⟩)
    go_ret
    exact ⟨rfl, rfl⟩
theorem dcount_quiet (d id : Nat) (kv : ByteArray × ByteArray) (n : Int) (w : World) (m : Nat) (hd : DrbgAt w d id kv n) :
    Calls Try.prog 15 #[.pointer (some ⟨d, 0, none⟩)] (w.drewN m) fun e w' => e = .returned (.int .i64 n) ∧ ∃ m, w' = w.drewN m :=
  Calls.quiet_of_same ((dcount_calls d id kv n (w.drewN m) hd).mono fun _ _ h => ⟨h.1, h.2.symm⟩)
theorem num_quiet (c : Int) (w : World) (m : Nat) : Calls Try.prog 13 #[.int .i64 c] (w.drewN m) fun e w' => e = .returned (.int .i64 c) ∧ ∃ m, w' = w.drewN m :=
  Calls.quiet_of_same ((num_calls c (w.drewN m)).mono fun _ _ h => ⟨h.1, h.2.symm⟩)
theorem rreseed_quiet (d id : Nat) (kv : ByteArray × ByteArray) (n : Int) (ent a : ByteArray) (w : World) (m : Nat) (hi : isId id) (hl : ent.size ≤ maxLen) (hm : mayB id ent [a] = false) (hd : RDrbgAt w d id kv n) :
    Calls Try.prog 22 #[.pointer (some ⟨d, 0, none⟩), .string ent, .string a] (w.drewN m) fun e w' => e = .returned (.int .i64 1101) ∧ ∃ m, w' = w.drewN m :=
  Calls.quiet_of_same ((rreseed_any d id kv n ent a (w.drewN m) hi hl hm hd).mono fun _ _ h => ⟨h.1, h.2.symm⟩)
end Go.Proofs.Ytggfcbhegniafaa.Cw
