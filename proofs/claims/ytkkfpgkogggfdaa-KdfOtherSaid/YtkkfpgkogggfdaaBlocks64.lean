/-
  (package sha512) What blocks computes, handed a hash's turn: it goes over all whole blocks of a slice, and gives what is left. Condition: the slice's bytes lie elsewhere than the hash's struct.
-/
import Derived.Test.YtkkfpgkogggfdaaTurn64
import Derived.Test.YtkkfpgkogggfdaaRead
import Derived.Test.YtkkfpgkogggfdaaMsg64
set_option linter.unusedSimpArgs false
set_option linter.unusedVariables false
namespace Go.Proofs.Ytkkfpgkogggfdaa.Cw
open Go Go.RowKit

set_option maxRecDepth 100000 in
set_option maxHeartbeats 2000000 in
theorem blocks64_calls (b : Nat) (A : Option Addr) (n c : Nat) (l : List UInt8) (size rest len : Value) (h : Nat → UInt64) (w : World) (hn : n ≤ 9223372036854775807) (hr : Rd w (· ≠ b) A n c l)
    (ho : w.heap[b]? = some (.cells (hobj v64 80 size h k512 rest len) 92 (0, 0))) :
    Calls Try.prog 50 #[.func (.func 51) #[.pointer (some ⟨b, 0, none⟩)] #[], .slice A n c] w fun e w' => ∃ A' c', e = .returned (.slice A' (n % 128) c') ∧
      w'.heap[b]? = some (.cells (hobj v64 80 size (abs64 k512 h l (n / 128)) k512 rest len) 92 (0, 0)) ∧ Rd w' (· ≠ b) A' (n % 128) c' (l.drop (128 * (n / 128))) ∧ But b w w' := by
  have HR := Lib.hid hr
  have HO := Lib.hid ho
  have hbl := lt_of ho
  clear hr ho
  go_enter Try.func50, Try.ntmps50
  go_wp2
  go_loopw [1] (fun s wr => ∃ (j : Nat) (A' : Option Addr) (c' : Nat), 128 * j ≤ n ∧ s = .slice A' (n - 128 * j) c' ∧ wr.heap[b]? = some (.cells (hobj v64 80 size (abs64 k512 h l j) k512 rest len) 92 (0, 0)) ∧ Rd wr (· ≠ b) A' (n - 128 * j) c' (l.drop (128 * j)) ∧ But b w wr) (fun s _ => slen s)
  case atStart => exact ⟨0, A, c, by omega, by simp, HO.out, by simpa using HR.out, But.refl _ _⟩
  case round =>
    obtain ⟨j, A', c', hj, rfl, ho, hr, hb⟩ := hrel
    have HO2 := Lib.hid ho
    have HR2 := Lib.hid hr
    have hcap := hr.cap
    by_cases hlt : 128 ≤ n - 128 * j
    · obtain ⟨g, off, rfl, hgb, hg, hc⟩ := hr.2.2 (by omega)
      have HC := Lib.hid (show ∀ i, i < 128 → wr.cell? ⟨g, off + i, none⟩ = some (v8 ((fun i => l.getD (128 * j + i) 0) i)) from fun i hi => by
        rw [hc i (by omega)]; simp)
      clear ho hr hc
      by_cases hcc : c' = 128
      · subst hcc
        go_wp2_with (go_at_call 51; refine (turn64_calls b g off _ (fun i => l.getD (128 * j + i) 0) size rest len _ k512 _ hg HC.out HO2.out).mono ?_; rintro e w1 ⟨rfl, ho1, hb1⟩; have HO3 := Lib.hid ho1; clear ho1)
        go_roundw
        case rel =>
          refine ⟨j + 1, _, 0, by omega, by congr 1; omega, HO3.out, ?_, hb.trans hb1⟩
          have := (HR2.out.but hb1 fun _ h => h).drop (k := 128) (by omega) (some ⟨g, off, none⟩) (fun g' off' e h => by omega)
          rw [List.drop_drop, show n - 128 * j - 128 = n - 128 * (j + 1) from by omega] at this
          exact this
        case measure => simp [slen]; omega
      · go_wp2_with (go_at_call 51; refine (turn64_calls b g off _ (fun i => l.getD (128 * j + i) 0) size rest len _ k512 _ hg HC.out HO2.out).mono ?_; rintro e w1 ⟨rfl, ho1, hb1⟩; have HO3 := Lib.hid ho1; clear ho1)
        go_roundw
        case rel =>
          refine ⟨j + 1, some ⟨g, off + 128, none⟩, c' - 128, by omega, by rw [show n - 128 * j - 128 = n - 128 * (j + 1) from by omega], HO3.out, ?_, hb.trans hb1⟩
          have := (HR2.out.but hb1 fun _ h => h).drop (k := 128) (by omega) (some ⟨g, off + 128, none⟩) (fun g' off' e h => by injection e with e; injection e with e1 e2; subst e1 e2; rfl)
          rw [List.drop_drop, show n - 128 * j - 128 = n - 128 * (j + 1) from by omega] at this
          exact this
        case measure => simp [slen]; omega
    · have hj2 : j = n / 128 := by omega
      clear ho hr
      go_wp2
      go_ret
      refine ⟨A', c', ?_, ?_, ?_, hb⟩
      · rw [show n % 128 = n - 128 * j from by omega]; rfl
      · rw [← hj2]; exact HO2.out
      · rw [← hj2, show n % 128 = n - 128 * j from by omega]; exact HR2.out
end Go.Proofs.Ytkkfpgkogggfdaa.Cw
