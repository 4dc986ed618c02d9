/-
  The hashes of one package over texts: what New, Write, Sum, Of and the reference's Of give, in short. Condition: a text takes at most 2^47 - 4096 bytes.
-/
import Derived.Test.YtkkfpgkogggfdaaNew
import Derived.Test.YtkkfpgkogggfdaaRefD
set_option linter.unusedSimpArgs false
set_option linter.unusedVariables false
namespace Go.Proofs.Ytkkfpgkogggfdaa.Cw
open Go Go.RowKit

/-- a text's digest, as a text -/
def d32 (bits : Nat) (s : ByteArray) : ByteArray := ⟨(dig32 bits s.data.toList).toArray⟩
/-- a hash into which a text was written -/
def HashS (w : World) (b bits : Nat) (s : ByteArray) : Prop := HashAt w b (· ≠ b) bits s.data.toList
def isBits (bits : Nat) : Prop := bits = 224 ∨ bits = 256
def idOf (bits : Nat) : Nat := if bits = 224 then 1 else 2

theorem HashS.lt {w : World} {b bits : Nat} {s : ByteArray} (h : HashS w b bits s) : b < w.heap.size := HashAt.lt h
theorem HashS.below {w w' : World} {b bits : Nat} {s : ByteArray} (h : HashS w b bits s) (hb : Below w.heap.size w w') : HashS w' b bits s :=
  HashAt.keep h hb.size (hb.block b h.lt) fun g _ hg => hb.block g hg

theorem new_yes (bits : Nat) (w : World) (hb : isBits bits) : Calls Try.prog 28 #[.int .i64 bits] w fun e w' => ∃ b, e = .returned (.tuple #[.pointer (some ⟨b, 0, none⟩), .int .i64 0]) ∧ HashS w' b bits ByteArray.empty ∧ w.heap.size ≤ b ∧ Below w.heap.size w w' :=
  (new32_yes bits w hb).mono fun _ _ ⟨b, h1, h2, h3, h4⟩ => ⟨b, h1, h2 _, h3, h4⟩
theorem write_calls (b bits : Nat) (m s : ByteArray) (w : World) (hs : s.size ≤ 140737488355264) (hh : HashS w b bits m) :
    Calls Try.prog 30 #[.pointer (some ⟨b, 0, none⟩), .string s] w fun e w' => e = .returned (.int .i64 0) ∧ HashS w' b bits (m ++ s) ∧ But b w w' :=
  (write32_calls b (· ≠ b) bits m.data.toList s w (fun g hg => by have := hh.lt; omega) (fun _ h => h) hs hh).mono fun _ _ ⟨h1, h2, h3⟩ => ⟨h1, by unfold HashS; simpa using h2, h3⟩
theorem sum_calls (b bits : Nat) (m : ByteArray) (w : World) (hb : isBits bits) (hh : HashS w b bits m) :
    Calls Try.prog 31 #[.pointer (some ⟨b, 0, none⟩)] w fun e w' => e = .returned (.string (d32 bits m)) ∧ Below w.heap.size w w' :=
  sum32_calls b _ bits _ w hb hh
theorem refOf_calls (bits : Nat) (s : ByteArray) (w : World) (hb : isBits bits) (hs : s.size ≤ 140737488351232) :
    Calls Try.prog 14 #[.int .i64 (idOf bits), .string s] w fun e w' => e = .returned (.string (d32 bits s)) ∧ Below w.heap.size w w' :=
  refOf32_calls (idOf bits) bits s w (by rcases hb with rfl | rfl; exact .inl ⟨rfl, rfl⟩; exact .inr ⟨rfl, rfl⟩) hs
theorem d32_size (bits : Nat) (s : ByteArray) (hb : isBits bits) : (d32 bits s).size = bits / 8 := by
  have h : (dig32 bits s.data.toList).length = bits / 8 := by
    unfold dig32
    rw [List.length_take, out32_length]
    rcases hb with rfl | rfl <;> rfl
  show (dig32 bits s.data.toList).toArray.size = _
  simpa using h
end Go.Proofs.Ytkkfpgkogggfdaa.Cw
