/-
  (package hash) What bind makes of a hash's methods: two closures over three cells. No condition.
-/
import Derived.Test.YtkkfpgkogggfdaaCom
set_option linter.unusedSimpArgs false
set_option linter.unusedVariables false
namespace Go.Proofs.Ytkkfpgkogggfdaa.Cw
open Go Go.RowKit

theorem new3 (w : World) (A B C : Obj) : (((w.alloc A).alloc B).alloc C).heap[w.heap.size + 1 + 1]? = some C := by
  have := heap_alloc_new ((w.alloc A).alloc B) C
  simpa using this
theorem new3b (w : World) (A B C : Obj) : (((w.alloc A).alloc B).alloc C).heap[w.heap.size + 1]? = some B := by
  have := heap_alloc_old ((w.alloc A).alloc B) C (show w.heap.size + 1 < ((w.alloc A).alloc B).heap.size from by simp)
  rw [this]; exact new2 w A B
theorem new3a (w : World) (A B C : Obj) : (((w.alloc A).alloc B).alloc C).heap[w.heap.size]? = some A := by
  have := heap_alloc_old ((w.alloc A).alloc B) C (show w.heap.size < ((w.alloc A).alloc B).heap.size from by simp; omega)
  rw [this]; exact new2a w A B

set_option maxRecDepth 100000 in
theorem bind32_calls (b : Nat) (w : World) : Calls Try.prog 29 #[.pointer (some ⟨b, 0, none⟩), .func (.func 30) #[] #[], .func (.func 31) #[] #[]] w fun e w' => ∃ cw ch cs, e = .returned (.tuple #[.func (.func 42) #[] #[.pointer (some ⟨cw, 0, none⟩), .pointer (some ⟨ch, 0, none⟩)], .func (.func 43) #[] #[.pointer (some ⟨cs, 0, none⟩), .pointer (some ⟨ch, 0, none⟩)]]) ∧
      w.heap.size ≤ cw ∧ w.heap.size ≤ ch ∧ w.heap.size ≤ cs ∧ w'.cell? ⟨cw, 0, none⟩ = some (.func (.func 30) #[] #[]) ∧ w'.cell? ⟨cs, 0, none⟩ = some (.func (.func 31) #[] #[]) ∧ w'.cell? ⟨ch, 0, none⟩ = some (.pointer (some ⟨b, 0, none⟩)) ∧ Below w.heap.size w w' := by
  go_enter Try.func29, Try.ntmps29
  go_wp2
  go_ret2
  refine ⟨_, _, _, rfl, ?_, ?_, ?_, cell_of (new3b _ _ _ _) 0, cell_of (new3 _ _ _ _) 0, cell_of (new3a _ _ _ _) 0, (((Below.refl _ _).alloc (Nat.le_refl _) _).alloc (by simp) _).alloc (by simp; omega) _⟩ <;> omega
set_option maxRecDepth 100000 in
theorem bind64_calls (b : Nat) (w : World) : Calls Try.prog 33 #[.pointer (some ⟨b, 0, none⟩), .func (.func 34) #[] #[], .func (.func 35) #[] #[]] w fun e w' => ∃ cw ch cs, e = .returned (.tuple #[.func (.func 48) #[] #[.pointer (some ⟨cw, 0, none⟩), .pointer (some ⟨ch, 0, none⟩)], .func (.func 49) #[] #[.pointer (some ⟨cs, 0, none⟩), .pointer (some ⟨ch, 0, none⟩)]]) ∧
      w.heap.size ≤ cw ∧ w.heap.size ≤ ch ∧ w.heap.size ≤ cs ∧ w'.cell? ⟨cw, 0, none⟩ = some (.func (.func 34) #[] #[]) ∧ w'.cell? ⟨cs, 0, none⟩ = some (.func (.func 35) #[] #[]) ∧ w'.cell? ⟨ch, 0, none⟩ = some (.pointer (some ⟨b, 0, none⟩)) ∧ Below w.heap.size w w' := by
  go_enter Try.func33, Try.ntmps33
  go_wp2
  go_ret2
  refine ⟨_, _, _, rfl, ?_, ?_, ?_, cell_of (new3b _ _ _ _) 0, cell_of (new3 _ _ _ _) 0, cell_of (new3a _ _ _ _) 0, (((Below.refl _ _).alloc (Nat.le_refl _) _).alloc (by simp) _).alloc (by simp; omega) _⟩ <;> omega
end Go.Proofs.Ytkkfpgkogggfdaa.Cw
