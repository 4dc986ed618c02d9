/-
  (package hash) hash.of, Size, Block, and New. No condition.
-/
import Derived.Test.YtkkfpgkogggfdaaStream
set_option linter.unusedSimpArgs false
set_option linter.unusedVariables false
namespace Go.Proofs.Ytkkfpgkogggfdaa.Cw
open Go Go.RowKit

def blockOf (id : Nat) : Nat := if id ≤ 2 then 64 else 128
set_option maxRecDepth 100000 in
theorem kind_yes (id : Nat) (h : isId id) (w : World) : Calls Try.prog 15 #[.int .i64 id] w fun e w' => e = .returned (.tuple #[.agg #[.int .i64 (bitsOf id), .int .i64 (bitsOf id / 8 : Nat), .int .i64 (blockOf id)], .bool true]) ∧ Below w.heap.size w w' := by
  go_enter Try.func15, Try.ntmps15
  obtain ⟨h1, h2⟩ := h
  match id, h1, h2 with
  | 1, _, _ =>
    go_wp2_with (refine wpList_store_blk rfl 37 _ _ rfl w.heap.size rfl _ _ #[.int .i64 224, .int .i64 28, .int .i64 64] rfl (new1 _ _) (by kernel_rfl) (by kernel_rfl) (by decide) ?_
                 intro w2 hw2 hb2 hs2)
    exact bodyPost_ret (results_blk2 rfl _ _ w.heap.size _ _ _ _ _ rfl rfl hw2 Try.underlying37 rfl (by kernel_rfl)) rfl ⟨rfl, But.below ((Below.refl _ _).alloc (Nat.le_refl _) _) hb2 (Nat.le_refl _) (by simp)⟩
  | 2, _, _ =>
    go_wp2_with (refine wpList_store_blk rfl 37 _ _ rfl w.heap.size rfl _ _ #[.int .i64 256, .int .i64 32, .int .i64 64] rfl (new1 _ _) (by kernel_rfl) (by kernel_rfl) (by decide) ?_
                 intro w2 hw2 hb2 hs2)
    exact bodyPost_ret (results_blk2 rfl _ _ w.heap.size _ _ _ _ _ rfl rfl hw2 Try.underlying37 rfl (by kernel_rfl)) rfl ⟨rfl, But.below ((Below.refl _ _).alloc (Nat.le_refl _) _) hb2 (Nat.le_refl _) (by simp)⟩
  | 3, _, _ =>
    go_wp2_with (refine wpList_store_blk rfl 37 _ _ rfl w.heap.size rfl _ _ #[.int .i64 384, .int .i64 48, .int .i64 128] rfl (new1 _ _) (by kernel_rfl) (by kernel_rfl) (by decide) ?_
                 intro w2 hw2 hb2 hs2)
    exact bodyPost_ret (results_blk2 rfl _ _ w.heap.size _ _ _ _ _ rfl rfl hw2 Try.underlying37 rfl (by kernel_rfl)) rfl ⟨rfl, But.below ((Below.refl _ _).alloc (Nat.le_refl _) _) hb2 (Nat.le_refl _) (by simp)⟩
  | 4, _, _ =>
    go_wp2_with (refine wpList_store_blk rfl 37 _ _ rfl w.heap.size rfl _ _ #[.int .i64 512, .int .i64 64, .int .i64 128] rfl (new1 _ _) (by kernel_rfl) (by kernel_rfl) (by decide) ?_
                 intro w2 hw2 hb2 hs2)
    exact bodyPost_ret (results_blk2 rfl _ _ w.heap.size _ _ _ _ _ rfl rfl hw2 Try.underlying37 rfl (by kernel_rfl)) rfl ⟨rfl, But.below ((Below.refl _ _).alloc (Nat.le_refl _) _) hb2 (Nat.le_refl _) (by simp)⟩

set_option maxRecDepth 100000 in
theorem kind_no (c : Int) (h : ¬ (1 ≤ c ∧ c ≤ 4)) (w : World) : Calls Try.prog 15 #[.int .i64 c] w fun e w' => e = .returned (.tuple #[.agg #[.int .i64 0, .int .i64 0, .int .i64 0], .bool false]) ∧ Below w.heap.size w w' := by
  go_enter Try.func15, Try.ntmps15
  have e1 : (c == 1) = false := by simp; omega
  have e2 : (c == 2) = false := by simp; omega
  have e3 : (c == 3) = false := by simp; omega
  have e4 : (c == 4) = false := by simp; omega
  go_wp2_with (refine wpList_store_blk rfl 37 _ _ rfl w.heap.size rfl _ _ #[.int .i64 0, .int .i64 0, .int .i64 0] rfl (new1 _ _) (by kernel_rfl) (by kernel_rfl) (by decide) ?_
               intro w2 hw2 hb2 hs2)
  exact bodyPost_ret (results_blk2 rfl _ _ w.heap.size _ _ _ _ _ rfl rfl hw2 Try.underlying37 rfl (by kernel_rfl)) rfl ⟨rfl, But.below ((Below.refl _ _).alloc (Nat.le_refl _) _) hb2 (Nat.le_refl _) (by simp)⟩

theorem size_yes (id : Nat) (h : isId id) (w : World) : Calls Try.prog 11 #[.int .i64 id] w fun e w' => e = .returned (.int .i64 (bitsOf id / 8 : Nat)) ∧ Below w.heap.size w w' := by
  go_enter Try.func11, Try.ntmps11
  go_wp2_with (first
    | (go_at_call 15; refine (kind_yes id h w).mono ?_; rintro e w1 ⟨rfl, hb1⟩)
    | (refine wpList_store_blk rfl 37 _ _ rfl w1.heap.size rfl _ _ #[.int .i64 (bitsOf id), .int .i64 (bitsOf id / 8 : Nat), .int .i64 (blockOf id)] rfl (new1 _ _) (by kernel_rfl) (by kernel_rfl) (by intro u hu; simp at hu; rcases hu with rfl | rfl | rfl <;> rfl) ?_
       intro w2 hw2 hb2 hs2
       have c0 := cell_of hw2 0
       have c1 := cell_of hw2 1
       have c2 := cell_of hw2 2
       simp at c0 c1 c2
       have hB2 : Below w.heap.size w w2 := But.below (hb1.alloc hb1.size _) hb2 hb1.size (by have := hb1.size; simp; omega)
       clear hs2))
  go_ret
  exact ⟨rfl, hB2⟩
theorem size_no (c : Int) (h : ¬ (1 ≤ c ∧ c ≤ 4)) (w : World) : Calls Try.prog 11 #[.int .i64 c] w fun e w' => e = .returned (.int .i64 0) ∧ Below w.heap.size w w' := by
  go_enter Try.func11, Try.ntmps11
  go_wp2_with (first
    | (go_at_call 15; refine (kind_no c h w).mono ?_; rintro e w1 ⟨rfl, hb1⟩)
    | (refine wpList_store_blk rfl 37 _ _ rfl w1.heap.size rfl _ _ #[.int .i64 0, .int .i64 0, .int .i64 0] rfl (new1 _ _) (by kernel_rfl) (by kernel_rfl) (by intro u hu; simp at hu; rcases hu with rfl | rfl | rfl <;> rfl) ?_
       intro w2 hw2 hb2 hs2
       have c0 := cell_of hw2 0
       have c1 := cell_of hw2 1
       have c2 := cell_of hw2 2
       simp at c0 c1 c2
       have hB2 : Below w.heap.size w w2 := But.below (hb1.alloc hb1.size _) hb2 hb1.size (by have := hb1.size; simp; omega)
       clear hs2))
  go_ret
  exact ⟨rfl, hB2⟩
end Go.Proofs.Ytkkfpgkogggfdaa.Cw
