/-
  (package sha256) What New makes of 224 and of 256, and of any other number; and what Of gives of a text. Condition: a text takes at most 2^46 bytes.
-/
import Derived.Test.YtkkfpgkogggfdaaSum
import Derived.Test.YtkkfpgkogggfdaaBuild
import Derived.BigQuiet
set_option linter.unusedSimpArgs false
set_option linter.unusedVariables false
namespace Go.Proofs.Ytkkfpgkogggfdaa.Cw
open Go Go.RowKit
attribute [local go_sem ↓ high] cells_v32 cells_v8 cells_v64 run_store_v32 run_store_v8 run_store_v64
attribute [local go_sem high] match_v32 match_v8 match_v64 run_store_v32 run_store_v8 run_store_v64

set_option maxRecDepth 100000 in
theorem constants32_calls (w : World) : Calls Try.prog 41 #[] w fun e w' => e = .returned (.agg (fa v32 64 k256)) ∧ Below w.heap.size w w' := by
  go_enter Try.func41, Try.ntmps41
  go_wp2_with (first
    | (refine wpList_build_fa v32 .u32 (fun x => (x.toNat : Int)) (fun _ => rfl) rfl 80 50 64 _ rfl k256 Try.underlying80 (by kernel_rfl) (by kernel_rfl) (by kernel_rfl) ?_)
    | (refine wpList_store_blk rfl 80 _ _ rfl w.heap.size rfl _ _ (fa v32 64 k256) rfl (new1 _ _) (by rw [fa_size]; kernel_rfl) (by rw [fa_size]; kernel_rfl) (one_fa _ _ _ one_v32) ?_
       intro w2 hw2 hb2 hs2))
  exact bodyPost_ret (results_blk rfl _ _ w.heap.size _ _ _ _ rfl hw2 Try.underlying80 rfl (by rw [fa_size]; kernel_rfl)) rfl ⟨rfl, But.below ((Below.refl _ _).alloc (Nat.le_refl _) _) hb2 (Nat.le_refl _) (by simp)⟩


set_option maxRecDepth 100000 in
theorem beginning32_calls (c : Int) (w : World) : Calls Try.prog 40 #[.int .i64 c] w fun e w' => (c = 224 ∧ e = .returned (.tuple #[.agg (fa v32 8 h224), .bool true]) ∨ c = 256 ∧ e = .returned (.tuple #[.agg (fa v32 8 h256), .bool true]) ∨ c ≠ 224 ∧ c ≠ 256 ∧ ∃ h, e = .returned (.tuple #[.agg (fa v32 8 h), .bool false])) ∧ Below w.heap.size w w' := by
  go_enter Try.func40, Try.ntmps40
  by_cases h1 : c = 224
  · subst h1
    go_wp2_with (first
      | (refine wpList_build_fa v32 .u32 (fun x => (x.toNat : Int)) (fun _ => rfl) rfl 77 50 8 _ rfl h224 Try.underlying77 (by kernel_rfl) (by kernel_rfl) (by kernel_rfl) ?_)
      | (refine wpList_store_blk rfl 77 _ _ rfl w.heap.size rfl _ _ (fa v32 8 h224) rfl (new1 _ _) (by rw [fa_size]; kernel_rfl) (by rw [fa_size]; kernel_rfl) (one_fa _ _ _ one_v32) ?_
         intro w2 hw2 hb2 hs2))
    exact bodyPost_ret (results_blk2 rfl _ _ w.heap.size _ _ _ _ _ rfl rfl hw2 Try.underlying77 rfl (by rw [fa_size]; kernel_rfl)) rfl ⟨rfl, But.below ((Below.refl _ _).alloc (Nat.le_refl _) _) hb2 (Nat.le_refl _) (by simp)⟩
  · by_cases h2 : c = 256
    · subst h2
      go_wp2_with (first
        | (refine wpList_build_fa v32 .u32 (fun x => (x.toNat : Int)) (fun _ => rfl) rfl 77 50 8 _ rfl h256 Try.underlying77 (by kernel_rfl) (by kernel_rfl) (by kernel_rfl) ?_)
        | (refine wpList_store_blk rfl 77 _ _ rfl w.heap.size rfl _ _ (fa v32 8 h256) rfl (new1 _ _) (by rw [fa_size]; kernel_rfl) (by rw [fa_size]; kernel_rfl) (one_fa _ _ _ one_v32) ?_
           intro w2 hw2 hb2 hs2))
      exact bodyPost_ret (results_blk2 rfl _ _ w.heap.size _ _ _ _ _ rfl rfl hw2 Try.underlying77 rfl (by rw [fa_size]; kernel_rfl)) rfl ⟨rfl, But.below ((Below.refl _ _).alloc (Nat.le_refl _) _) hb2 (Nat.le_refl _) (by simp)⟩
    · go_wp2_with (first
        | (refine wpList_buildTo rfl 77 _ rfl _ rfl (fa v32 8 fun _ => 0) (by kernel_rfl) ?_)
        | (refine wpList_store_blk rfl 77 _ _ rfl w.heap.size rfl _ _ (fa v32 8 fun _ => 0) rfl (new1 _ _) (by rw [fa_size]; kernel_rfl) (by rw [fa_size]; kernel_rfl) (one_fa _ _ _ one_v32) ?_
           intro w2 hw2 hb2 hs2))
      exact bodyPost_ret (results_blk2 rfl _ _ w.heap.size _ _ _ _ _ rfl rfl hw2 Try.underlying77 rfl (by rw [fa_size]; kernel_rfl)) rfl ⟨.inr (.inr ⟨h1, h2, _, rfl⟩), But.below ((Below.refl _ _).alloc (Nat.le_refl _) _) hb2 (Nat.le_refl _) (by simp)⟩

theorem built32 (size : Int) (h k : Nat → UInt32) : (Try.prog).built 83 [(0, .int .i64 size), (1, .agg (fa v32 8 h)), (2, .agg (fa v32 64 k))] = some (hobj v32 64 (.int .i64 size) h k (.slice none 0 0) (v64 0)) := by
  kernel_rfl

set_option maxRecDepth 100000 in
set_option maxHeartbeats 1000000 in
theorem new32_yes (bits : Nat) (w : World) (hbits : bits = 224 ∨ bits = 256) :
    Calls Try.prog 28 #[.int .i64 bits] w fun e w' => ∃ b, e = .returned (.tuple #[.pointer (some ⟨b, 0, none⟩), .int .i64 0]) ∧ (∀ p, HashAt w' b p bits []) ∧ w.heap.size ≤ b ∧ Below w.heap.size w w' := by
  go_enter Try.func28, Try.ntmps28
  go_wp2_with (first
    | (go_at_call 40
       refine (beginning32_calls bits w).mono ?_
       rintro e w1 ⟨he, hb1⟩
       obtain rfl : e = .returned (.tuple #[.agg (fa v32 8 (beg32 bits)), .bool true]) := by
         rcases he with ⟨hc, he⟩ | ⟨hc, he⟩ | ⟨hc, hd, _⟩
         · obtain rfl : bits = 224 := by omega
           exact he
         · obtain rfl : bits = 256 := by omega
           exact he
         · omega
       clear he)
    | (refine wpList_store_blk rfl 77 _ _ rfl w1.heap.size rfl _ _ (fa v32 8 (beg32 bits)) rfl (new1 _ _) (by rw [fa_size]; kernel_rfl) (by rw [fa_size]; kernel_rfl) (one_fa _ _ _ one_v32) ?_
       intro w2 hw2 hb2 hs2))
  have hB2 : Below w.heap.size w w2 := But.below (hb1.alloc hb1.size _) hb2 hb1.size (by have := hb1.size; simp; omega)
  refine wp_region_class_tail (fun w' => w'.heap[w1.heap.size]? = some (.cells (fa v32 8 (beg32 bits)) 77 (0, 0)) ∧ Below w.heap.size w w') ⟨hw2, hB2.drew⟩ 3 (by kernel_rfl) (by kernel_rfl) ?_
  simp only [List.take_succ_cons, List.take_zero, List.drop_succ_cons, List.drop_zero]
  go_big_quiet_step (fail)
  refine BigFrame.wpQuiet_want rfl fun K hK => quiet_load_blk 77 _ rfl w1.heap.size rfl _ _ _ _ (fun w' h => h.1) Try.underlying77 rfl (by rw [fa_size]; kernel_rfl) (hK _ ?_)
  refine BigFrame.wpQuiet_want rfl fun K hK => ⟨.agg (fa v32 64 k256), fun w' hw' => ?_, hK _ ?_⟩
  · obtain ⟨hg, hb⟩ := hw'
    go_simp
    exact (constants32_calls w').mono fun e w'' ⟨he, hb'⟩ => ⟨he, below_heap hb' (lt_of hg) hg, hb.trans (hb'.mono hb.size)⟩
  clear hK K
  refine wpQuiet_nil ?_
  rintro w3 ⟨hw3, hb3⟩
  go_wp2_with (refine wpList_buildTo rfl 83 _ rfl (some 16) rfl (hobj v32 64 (.int .i64 bits) (beg32 bits) k256 (.slice none 0 0) (v64 0)) (by kernel_rfl) ?_)
  go_ret2
  exact ⟨w3.heap.size, rfl, fun p => ⟨none, 0, new1 _ _, Rd.nil _ _ _ _⟩, hb3.size, hb3.alloc hb3.size _⟩

set_option maxRecDepth 100000 in
theorem new32_no (c : Int) (w : World) (h1 : c ≠ 224) (h2 : c ≠ 256) :
    Calls Try.prog 28 #[.int .i64 c] w fun e w' => e = .returned (.tuple #[.pointer none, .int .i64 700]) ∧ Below w.heap.size w w' := by
  go_enter Try.func28, Try.ntmps28
  go_wp2_with (first
    | (go_at_call 40
       refine (beginning32_calls c w).mono ?_
       rintro e w1 ⟨he, hb1⟩
       obtain ⟨h, rfl⟩ : ∃ h, e = .returned (.tuple #[.agg (fa v32 8 h), .bool false]) := by
         rcases he with ⟨hc, he⟩ | ⟨hc, he⟩ | ⟨_, _, he⟩
         · omega
         · omega
         · exact he
       clear he)
    | (refine wpList_store_blk rfl 77 _ _ rfl w1.heap.size rfl _ _ (fa v32 8 h) rfl (new1 _ _) (by rw [fa_size]; kernel_rfl) (by rw [fa_size]; kernel_rfl) (one_fa _ _ _ one_v32) ?_
       intro w2 hw2 hb2 hs2))
  go_ret2
  exact ⟨rfl, But.below (hb1.alloc hb1.size _) hb2 hb1.size (by have := hb1.size; simp; omega)⟩

end Go.Proofs.Ytkkfpgkogggfdaa.Cw
