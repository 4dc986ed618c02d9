/-
  The hashes of one package over texts: what New, Write, Sum, Of and the reference's Of give, in short. Condition: a text takes at most 2^47 - 4096 bytes.
-/
import Derived.Test.YtkkfpgkogggfdaaNew64
import Derived.Test.YtkkfpgkogggfdaaRefD64
set_option linter.unusedSimpArgs false
set_option linter.unusedVariables false
namespace Go.Proofs.Ytkkfpgkogggfdaa.Cw
open Go Go.RowKit

/-- a text's digest, as a text -/
def d64 (bits : Nat) (s : ByteArray) : ByteArray := ⟨(dig64 bits s.data.toList).toArray⟩
/-- a hash into which a text was written -/
def HashSL (w : World) (b bits : Nat) (s : ByteArray) : Prop := HashAtL w b (· ≠ b) bits s.data.toList
def isBitsL (bits : Nat) : Prop := bits = 384 ∨ bits = 512
def idOfL (bits : Nat) : Nat := if bits = 384 then 3 else 4

theorem HashSL.lt {w : World} {b bits : Nat} {s : ByteArray} (h : HashSL w b bits s) : b < w.heap.size := HashAtL.lt h
theorem HashSL.below {w w' : World} {b bits : Nat} {s : ByteArray} (h : HashSL w b bits s) (hb : Below w.heap.size w w') : HashSL w' b bits s :=
  HashAtL.keep h hb.size (hb.block b h.lt) fun g _ hg => hb.block g hg

theorem new_yesL (bits : Nat) (w : World) (hb : isBitsL bits) : Calls Try.prog 32 #[.int .i64 bits] w fun e w' => ∃ b, e = .returned (.tuple #[.pointer (some ⟨b, 0, none⟩), .int .i64 0]) ∧ HashSL w' b bits ByteArray.empty ∧ w.heap.size ≤ b ∧ Below w.heap.size w w' :=
  (new64_yes bits w hb).mono fun _ _ ⟨b, h1, h2, h3, h4⟩ => ⟨b, h1, h2 _, h3, h4⟩
theorem write_callsL (b bits : Nat) (m s : ByteArray) (w : World) (hs : s.size ≤ 140737488355200) (hh : HashSL w b bits m) :
    Calls Try.prog 34 #[.pointer (some ⟨b, 0, none⟩), .string s] w fun e w' => e = .returned (.int .i64 0) ∧ HashSL w' b bits (m ++ s) ∧ But b w w' :=
  (write64_calls b (· ≠ b) bits m.data.toList s w (fun g hg => by have := hh.lt; omega) (fun _ h => h) hs hh).mono fun _ _ ⟨h1, h2, h3⟩ => ⟨h1, by unfold HashSL; simpa using h2, h3⟩
theorem sum_callsL (b bits : Nat) (m : ByteArray) (w : World) (hb : isBitsL bits) (hh : HashSL w b bits m) :
    Calls Try.prog 35 #[.pointer (some ⟨b, 0, none⟩)] w fun e w' => e = .returned (.string (d64 bits m)) ∧ Below w.heap.size w w' :=
  sum64_calls b _ bits _ w hb hh
theorem refOf_callsL (bits : Nat) (s : ByteArray) (w : World) (hb : isBitsL bits) (hs : s.size ≤ 140737488351232) :
    Calls Try.prog 14 #[.int .i64 (idOfL bits), .string s] w fun e w' => e = .returned (.string (d64 bits s)) ∧ Below w.heap.size w w' :=
  refOf64_calls (idOfL bits) bits s w (by rcases hb with rfl | rfl; exact .inl ⟨rfl, rfl⟩; exact .inr ⟨rfl, rfl⟩) hs
theorem d64_size (bits : Nat) (s : ByteArray) (hb : isBitsL bits) : (d64 bits s).size = bits / 8 := by
  have h : (dig64 bits s.data.toList).length = bits / 8 := by
    unfold dig64
    rw [List.length_take, out64_length]
    rcases hb with rfl | rfl <;> rfl
  show (dig64 bits s.data.toList).toArray.size = _
  simpa using h
end Go.Proofs.Ytkkfpgkogggfdaa.Cw
