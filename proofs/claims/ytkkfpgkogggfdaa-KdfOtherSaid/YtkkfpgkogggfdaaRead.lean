/-
  A slice of bytes that reads as a list of bytes, nil let in; how such a reading is kept, cut and appended. Whatever the program. No condition.
-/
import Derived.Test.YtkkfpgkogggfdaaBase
set_option linter.unusedSimpArgs false
set_option linter.unusedVariables false
namespace Go.Proofs.Ytkkfpgkogggfdaa.Cw
open Go Go.RowKit

/-- the slice '.slice A n c' reads as the bytes l; its cells lie in a block of which p holds -/
def Rd (w : World) (p : Nat → Prop) (A : Option Addr) (n c : Nat) (l : List UInt8) : Prop :=
  l.length = n ∧ n ≤ c ∧ (0 < n → ∃ g off, A = some ⟨g, off, none⟩ ∧ p g ∧ g < w.heap.size ∧ ∀ i, i < n → w.cell? ⟨g, off + i, none⟩ = some (v8 (l.getD i 0)))
section
variable {w w' : World} {p : Nat → Prop} {A : Option Addr} {n c : Nat} {l : List UInt8}
theorem Rd.len (h : Rd w p A n c l) : l.length = n := h.1
theorem Rd.cap (h : Rd w p A n c l) : n ≤ c := h.2.1
theorem Rd.nil (w : World) (p : Nat → Prop) (A : Option Addr) (c : Nat) : Rd w p A 0 c [] := ⟨rfl, Nat.zero_le _, fun h => absurd h (by omega)⟩
theorem Rd.keep (h : Rd w p A n c l) (hs : w.heap.size ≤ w'.heap.size) (hk : ∀ g, p g → g < w.heap.size → w'.heap[g]? = w.heap[g]?) : Rd w' p A n c l := by
  refine ⟨h.1, h.2.1, fun hn => ?_⟩
  obtain ⟨g, off, e, hp, hg, hc⟩ := h.2.2 hn
  refine ⟨g, off, e, hp, Nat.lt_of_lt_of_le hg hs, fun i hi => ?_⟩
  rw [← hc i hi]
  exact World.cell?_of_block (hk g hp hg)
theorem Rd.weak {q : Nat → Prop} (h : Rd w p A n c l) (hq : ∀ g, g < w.heap.size → p g → q g) : Rd w q A n c l := by
  refine ⟨h.1, h.2.1, fun hn => ?_⟩
  obtain ⟨g, off, e, hp, hg, hc⟩ := h.2.2 hn
  exact ⟨g, off, e, hq g hg hp, hg, hc⟩
theorem Rd.but {b : Nat} (h : Rd w p A n c l) (hb : But b w w') (hp : ∀ g, p g → g ≠ b) : Rd w' p A n c l :=
  h.keep hb.size fun g hg hlt => hb.block g hlt (by simpa using hp g hg)
theorem Rd.below (h : Rd w p A n c l) (hb : Below w.heap.size w w') : Rd w' p A n c l := h.keep hb.size fun g _ hlt => hb.block g hlt
theorem Rd.drewN (h : Rd w p A n c l) (k : Nat) : Rd (w.drewN k) p A n c l := h
theorem Rd.drew (h : Rd w p A n c l) : Rd w.drew p A n c l := h
theorem Rd.alloc (h : Rd w p A n c l) (o : Obj) : Rd (w.alloc o) p A n c l := h.keep (by simp) fun g _ hlt => heap_alloc_old w o hlt
/-- behind a cut from k on -/
theorem Rd.drop (h : Rd w p A n c l) {k : Nat} (hk : k ≤ n) (A' : Option Addr) (hA : ∀ g off, A = some ⟨g, off, none⟩ → k < n → A' = some ⟨g, off + k, none⟩) : Rd w p A' (n - k) (c - k) (l.drop k) := by
  refine ⟨by simp [h.1], by have := h.2.1; omega, fun hn => ?_⟩
  obtain ⟨g, off, e, hp, hg, hc⟩ := h.2.2 (by omega)
  refine ⟨g, off + k, hA g off e (by omega), hp, hg, fun i hi => ?_⟩
  rw [Nat.add_assoc, hc (k + i) (by omega)]
  simp
/-- up to k -/
theorem Rd.take (h : Rd w p A n c l) {k : Nat} (hk : k ≤ n) : Rd w p A k c (l.take k) := by
  refine ⟨by simp [h.1]; omega, by have := h.2.1; omega, fun hn => ?_⟩
  obtain ⟨g, off, e, hp, hg, hc⟩ := h.2.2 (by omega)
  refine ⟨g, off, e, hp, hg, fun i hi => ?_⟩
  rw [hc i (by omega)]
  simp [List.getElem?_take, hi]
end

/-- a length, for a loop's measure -/
def slen : Value → Nat | .slice _ n _ => n | _ => 0

end Go.Proofs.Ytkkfpgkogggfdaa.Cw
