/-
  (package hash) Block. No condition.
-/
import Derived.Test.YtbgbfigndelogaaStreamN
set_option linter.unusedSimpArgs false
set_option linter.unusedVariables false
namespace Go.Proofs.Ytbgbfigndelogaa.Cw
open Go Go.RowKit

theorem block_yes (id : Nat) (h : isId id) (w : World) : Calls Try.prog 16 #[.int .i64 id] w fun e w' => e = .returned (.int .i64 (blockOf id)) ∧ Below w.heap.size w w' := by
  go_enter Try.func16, Try.ntmps16
  go_wp2_with (first
    | (go_at_call 27; refine (kind_yes id h w).mono ?_; rintro e w1 ⟨rfl, hb1⟩)
    | (refine wpList_store_blk rfl 52 _ _ rfl w1.heap.size rfl _ _ #[.int .i64 (bitsOf id), .int .i64 (bitsOf id / 8 : Nat), .int .i64 (blockOf id)] rfl (new1 _ _) (by kernel_rfl) (by kernel_rfl) (by intro u hu; simp at hu; rcases hu with rfl | rfl | rfl <;> rfl) ?_
       intro w2 hw2 hb2 hs2
       have c0 := cell_of hw2 0
       have c1 := cell_of hw2 1
       have c2 := cell_of hw2 2
       simp at c0 c1 c2
       have hB2 : Below w.heap.size w w2 := But.below (hb1.alloc hb1.size _) hb2 hb1.size (by have := hb1.size; simp; omega)
       clear hs2))
  go_ret
  exact ⟨rfl, hB2⟩
theorem block_no (c : Int) (h : ¬ (1 ≤ c ∧ c ≤ 4)) (w : World) : Calls Try.prog 16 #[.int .i64 c] w fun e w' => e = .returned (.int .i64 0) ∧ Below w.heap.size w w' := by
  go_enter Try.func16, Try.ntmps16
  go_wp2_with (first
    | (go_at_call 27; refine (kind_no c h w).mono ?_; rintro e w1 ⟨rfl, hb1⟩)
    | (refine wpList_store_blk rfl 52 _ _ rfl w1.heap.size rfl _ _ #[.int .i64 0, .int .i64 0, .int .i64 0] rfl (new1 _ _) (by kernel_rfl) (by kernel_rfl) (by intro u hu; simp at hu; rcases hu with rfl | rfl | rfl <;> rfl) ?_
       intro w2 hw2 hb2 hs2
       have c0 := cell_of hw2 0
       have c1 := cell_of hw2 1
       have c2 := cell_of hw2 2
       simp at c0 c1 c2
       have hB2 : Below w.heap.size w w2 := But.below (hb1.alloc hb1.size _) hb2 hb1.size (by have := hb1.size; simp; omega)
       clear hs2))
  go_ret
  exact ⟨rfl, hB2⟩
end Go.Proofs.Ytbgbfigndelogaa.Cw
