/-
  A slice of acts that came in, opened. No program's function.
-/
import Derived.Test.YtggfcbhegniafaaRnd11
import Derived.Test.YtggfcbhegniafaaRows
import Derived.Deep.Slices
import Derived.Deep.Fields
import Derived.ChangeSame
set_option linter.unusedSimpArgs false
set_option linter.unusedVariables false
namespace Go.Proofs.Ytggfcbhegniafaa.Cw
open Go Go.RowKit Go.ChangeShapes Go.WideShapes
/-- a slice of acts: nil; or a row whose first 'len' elements are read so -/
def IsActs (w : World) (a : Option Addr) (len cap : Nat) : Prop :=
  len ≤ maxLen ∧ ((a = none ∧ len = 0) ∨
  ∃ x, a = some x ∧ ∀ i, i < len → ∃ (k n : Int) (s t : ByteArray), (Lit.int .i64 k).wf = true ∧ (Lit.int .i64 n).wf = true ∧ s.size ≤ maxLen ∧ t.size ≤ maxLen ∧
    w.cell? (x.add (i * 4)) = some (.int .i64 k) ∧ w.cell? (x.add (i * 4 + 1)) = some (.int .i64 n) ∧ w.cell? (x.add (i * 4 + 2)) = some (.string s) ∧ w.cell? (x.add (i * 4 + 3)) = some (.string t))
set_option maxRecDepth 10000 in
theorem open_acts {H : Type} {enc : TypeId × Value → H} {w : World} {base : Nat} {held : Bool} {a : Option Addr} {len cap : Nat} {d : DataW H} {ps : List MemPlace}
    (h : DataW.Trod enc Try.prog w base (fun _ => true) held 41 (.slice a len cap) d ps) : IsActs w a len cap := by
  obtain ⟨fuel, hf⟩ := h
  rcases Go.Deep.open_slice Try.underlying41 hf with ⟨hcs, hx⟩ | ⟨x, l, c, m, n, D, Pl, hcs, _, hl, hm, hmm, hx, hi⟩
  · simp [Value.cells] at hcs
    obtain ⟨rfl, rfl, rfl⟩ := hcs
    exact ⟨by simp [maxLen], .inl ⟨rfl, rfl⟩⟩
  · simp [Value.cells] at hcs
    obtain ⟨rfl, rfl, rfl⟩ := hcs
    refine ⟨by omega, .inr ⟨_, rfl, fun i hil => ?_⟩⟩
    obtain ⟨cs', hc, ht⟩ := hi i (by simp at hmm; omega)
    have h4 : Try.prog.cellsOf 46 = 4 := by kernel_rfl
    rw [h4] at hc
    obtain ⟨xs, n', _, _, _, hlen, hfs⟩ := DataW.trod_struct Try.underlying46 ht
    obtain ⟨_, hcl, hat⟩ := World.cells?_some hc
    have hlen4 : xs.length = 4 := hlen
    clear hlen
    have e1 : Try.prog.cellsOf 3 = 1 := by kernel_rfl
    have e2 : Try.prog.cellsOf 9 = 1 := by kernel_rfl
    match cs', hcl with
    | [c0, c1, c2, c3], _ =>
      match xs, hlen4 with
      | [y0, y1, y2, y3], _ =>
        have f0 := hfs 0 _ rfl
        have f1 := hfs 1 _ rfl
        have f2 := hfs 2 _ rfl
        have f3 := hfs 3 _ rfl
        simp at f0 f1 f2 f3
        rw [e1] at f0 f1
        rw [e2] at f2 f3
        obtain ⟨k, hk, _, wk⟩ := DataW.trod_int Try.underlying3 f0
        obtain ⟨n, hn, _, wn⟩ := DataW.trod_int Try.underlying3 f1
        obtain ⟨s, hs, _, ws⟩ := DataW.trod_string Try.underlying9 f2
        obtain ⟨t, hq, _, wt⟩ := DataW.trod_string Try.underlying9 f3
        simp at hk hn hs hq
        subst hk hn hs hq
        have a0 := hat 0 (by decide)
        have a1 := hat 1 (by decide)
        have a2 := hat 2 (by decide)
        have a3 := hat 3 (by decide)
        rw [Go.Deep.add_add] at a0 a1 a2 a3
        exact ⟨k, n, s, t, wk, wn, ws, wt, a0, a1, a2, a3⟩
theorem add_at (p : Addr) (n j : Nat) (h : j ≠ 0) : p.add (n + j) = ⟨(p.add n).block, (p.add n).off + j, none⟩ := by
  rw [← Go.Deep.add_add]
  unfold Addr.add
  rw [if_neg h]
theorem cellp_lt {w : World} {p : Addr} {v : Value} (h : w.cell? p = some v) : p.block < w.heap.size := by
  rcases Nat.lt_or_ge p.block w.heap.size with h1 | h1
  · exact h1
  · have e : w.heap[p.block]? = none := by simpa using h1
    rw [World.cell?, e] at h
    cases h
end Go.Proofs.Ytggfcbhegniafaa.Cw
