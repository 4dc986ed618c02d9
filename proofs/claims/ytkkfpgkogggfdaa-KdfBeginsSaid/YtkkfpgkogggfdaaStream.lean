/-
  (package hash) What a stream is in memory, and what New, Write, Sum do with it; a hash by its number. Condition: a text takes at most 2^47 - 4096 bytes.
-/
import Derived.Test.YtkkfpgkogggfdaaD
import Derived.Test.YtkkfpgkogggfdaaD64
set_option linter.unusedSimpArgs false
set_option linter.unusedVariables false
namespace Go.Proofs.Ytkkfpgkogggfdaa.Cw
open Go Go.RowKit

/-- the bits of a hash -/
def bitsOf (id : Nat) : Nat := if id = 1 then 224 else if id = 2 then 256 else if id = 3 then 384 else 512
/-- a text's digest by a hash's number -/
def dg (id : Nat) (s : ByteArray) : ByteArray := if id ≤ 2 then d32 (bitsOf id) s else d64 (bitsOf id) s
def isId (id : Nat) : Prop := 1 ≤ id ∧ id ≤ 4

/-- a hash at block b into which a text was written -/
def Inner (w : World) (b id : Nat) (p : Nat → Prop) (m : ByteArray) : Prop := if id ≤ 2 then HashAt w b p (bitsOf id) m.data.toList else HashAtL w b p (bitsOf id) m.data.toList
/-- a stream at block s over a hash at block b; all of its blocks but b are such of which p holds -/
def StreamAt (w : World) (s b id : Nat) (p : Nat → Prop) (m : ByteArray) : Prop :=
  ∃ cw ch cs, Inner w b id p m ∧ p s ∧ p cw ∧ p ch ∧ p cs ∧
    w.heap[s]? = some (.cells #[.func (.func (if id ≤ 2 then 42 else 48)) #[] #[.pointer (some ⟨cw, 0, none⟩), .pointer (some ⟨ch, 0, none⟩)], .func (.func (if id ≤ 2 then 43 else 49)) #[] #[.pointer (some ⟨cs, 0, none⟩), .pointer (some ⟨ch, 0, none⟩)]] 59 (0, 0)) ∧
    w.cell? ⟨cw, 0, none⟩ = some (.func (.func (if id ≤ 2 then 30 else 34)) #[] #[]) ∧
    w.cell? ⟨cs, 0, none⟩ = some (.func (.func (if id ≤ 2 then 31 else 35)) #[] #[]) ∧
    w.cell? ⟨ch, 0, none⟩ = some (.pointer (some ⟨b, 0, none⟩))
end Go.Proofs.Ytkkfpgkogggfdaa.Cw
