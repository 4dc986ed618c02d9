/-
  A slice of texts that came in, opened; and what the second form's bound says of texts. No program's function.
-/
import Derived.Test.YtkkfpgkogggfdaaRows
import Derived.Test.YtkkfpgkogggfdaaRead
import Derived.SliceStrings
set_option linter.unusedVariables false
namespace Go.Proofs.Ytkkfpgkogggfdaa.Cw
open Go Go.RowKit Go.ChangeShapes Go.WideShapes

/-- a slice of texts: nil; or a row of 'cap' cells, texts, of which the first 'len' are its elements -/
def IsStrs (w : World) (a : Option Addr) (len cap : Nat) (zs : List ByteArray) : Prop :=
  (a = none ∧ len = 0 ∧ cap = 0 ∧ zs = []) ∨
  ∃ x, a = some x ∧ len ≤ cap ∧ cap ≤ maxLen ∧ zs.length = cap ∧ ∀ i, i < zs.length → w.cell? (x.add i) = some (.string (zs.getD i ByteArray.empty))
/-- bytes of all -/
def sizes (zs : List ByteArray) : Nat := (zs.map ByteArray.size).sum

theorem toList_size (s : ByteArray) : s.data.toList.length = s.size := by simp
theorem bulk_string {H : Type} (bytes : List UInt8) : Rows.uptoBulk (DataW.lit (H := H) (.string bytes)) = bytes.length + 1 := by
  simp [Rows.uptoBulk]
theorem bulk_of {H : Type} {l : List (DataW H)} (hk : Rows.uptoSmall H l = true) : Rows.uptoBulkAll l ≤ 1048576 := of_decide_eq_true hk
theorem bulk_strs {H : Type} (l : List ByteArray) : sizes l ≤ Rows.uptoBulkAll (strs (H := H) l) := by
  induction l with
  | nil => simp [sizes]
  | cons s l ih =>
    have e : Rows.uptoBulkAll (strs (H := H) (s :: l)) = s.data.toList.length + 1 + Rows.uptoBulkAll (strs (H := H) l) := by
      show Rows.uptoBulk (DataW.lit (H := H) (.string s.data.toList)) + _ = _
      rw [bulk_string]; rfl
    rw [e, toList_size]
    simp only [sizes, List.map_cons, List.sum_cons] at ih ⊢
    omega
theorem sizes_append (a b : List ByteArray) : sizes (a ++ b) = sizes a + sizes b := by simp [sizes]
theorem open_row {H : Type} {enc : TypeId × Value → H} {P : Program} {w : World} {base : Nat} {held : Bool} {t e : TypeId} {a : Option Addr} {len cap : Nat} {d : DataW H} {ps : List MemPlace} (ht : P.underlying t = some (.slice e)) (he : P.underlying e = some .string) (hc : P.cellsOf e = 1)
    (h : DataW.Trod enc P w base (fun _ => true) held t (.slice a len cap) d ps) : ∃ zs, IsStrs w a len cap zs ∧ sizes zs ≤ Rows.uptoBulk d := by
  obtain ⟨fuel, hf⟩ := h
  rcases open_strings ht he hc hf with ⟨hcs, hx⟩ | ⟨x, l, c, zs, hcs, _, hl, hm, hz, hx, hcell, _⟩
  · simp [Value.cells] at hcs
    obtain ⟨rfl, rfl, rfl⟩ := hcs
    exact ⟨[], .inl ⟨rfl, rfl, rfl, rfl⟩, by simp [sizes]⟩
  · simp [Value.cells] at hcs
    obtain ⟨rfl, rfl, rfl⟩ := hcs
    refine ⟨zs, .inr ⟨_, rfl, hl, hm, by simpa using hz, hcell⟩, ?_⟩
    injection hx with hd _
    subst hd
    have h1 := bulk_strs (H := H) (zs.take len)
    have h2 := bulk_strs (H := H) (zs.drop len)
    have h3 : sizes zs = sizes (zs.take len) + sizes (zs.drop len) := by rw [← sizes_append, List.take_append_drop]
    simp only [Rows.uptoBulk]
    omega
end Go.Proofs.Ytkkfpgkogggfdaa.Cw
