/-
  (package sha512) What New makes of 384 and of 512, and of any other number; and what Of gives of a text. Condition: a text takes at most 2^46 bytes.
-/
import Derived.Test.YtkkfpgkogggfdaaSum64
import Derived.Test.YtkkfpgkogggfdaaBuild
import Derived.BigQuiet
set_option linter.unusedSimpArgs false
set_option linter.unusedVariables false
namespace Go.Proofs.Ytkkfpgkogggfdaa.Cw
open Go Go.RowKit
attribute [local go_sem ↓ high] cells_v8 cells_v64 run_store_v8 run_store_v64
attribute [local go_sem high] match_v8 match_v64 run_store_v8 run_store_v64

set_option maxRecDepth 100000 in
theorem constants64_calls (w : World) : Calls Try.prog 47 #[] w fun e w' => e = .returned (.agg (fa v64 80 k512)) ∧ Below w.heap.size w w' := by
  go_enter Try.func47, Try.ntmps47
  go_wp2_with (first
    | (refine wpList_build_fa v64 .u64 (fun x => (x.toNat : Int)) (fun _ => rfl) rfl 89 55 80 _ rfl k512 Try.underlying89 (by kernel_rfl) (by kernel_rfl) (by kernel_rfl) ?_)
    | (refine wpList_alloc_zero rfl 89 rfl (.agg (fa v64 80 fun _ => 0)) (by kernel_rfl) ?_)
    | (refine wpList_store_blk rfl 89 _ _ rfl w.heap.size rfl _ _ (fa v64 80 k512) rfl (new1 _ _) (by rw [fa_size]; kernel_rfl) (by rw [fa_size]; kernel_rfl) (one_fa _ _ _ one_v64) ?_
       intro w2 hw2 hb2 hs2))
  exact bodyPost_ret (results_blk rfl _ _ w.heap.size _ _ _ _ rfl hw2 Try.underlying89 rfl (by rw [fa_size]; kernel_rfl)) rfl ⟨rfl, But.below ((Below.refl _ _).alloc (Nat.le_refl _) _) hb2 (Nat.le_refl _) (by simp)⟩


set_option maxRecDepth 100000 in
theorem beginning64_calls (c : Int) (w : World) : Calls Try.prog 46 #[.int .i64 c] w fun e w' => (c = 384 ∧ e = .returned (.tuple #[.agg (fa v64 8 h384), .bool true]) ∨ c = 512 ∧ e = .returned (.tuple #[.agg (fa v64 8 h512), .bool true]) ∨ c ≠ 384 ∧ c ≠ 512 ∧ ∃ h, e = .returned (.tuple #[.agg (fa v64 8 h), .bool false])) ∧ Below w.heap.size w w' := by
  go_enter Try.func46, Try.ntmps46
  by_cases h1 : c = 384
  · subst h1
    go_wp2_with (first
      | (refine wpList_build_fa v64 .u64 (fun x => (x.toNat : Int)) (fun _ => rfl) rfl 86 55 8 _ rfl h384 Try.underlying86 (by kernel_rfl) (by kernel_rfl) (by kernel_rfl) ?_)
      | (refine wpList_store_blk rfl 86 _ _ rfl w.heap.size rfl _ _ (fa v64 8 h384) rfl (new1 _ _) (by rw [fa_size]; kernel_rfl) (by rw [fa_size]; kernel_rfl) (one_fa _ _ _ one_v64) ?_
         intro w2 hw2 hb2 hs2))
    exact bodyPost_ret (results_blk2 rfl _ _ w.heap.size _ _ _ _ _ rfl rfl hw2 Try.underlying86 rfl (by rw [fa_size]; kernel_rfl)) rfl ⟨rfl, But.below ((Below.refl _ _).alloc (Nat.le_refl _) _) hb2 (Nat.le_refl _) (by simp)⟩
  · by_cases h2 : c = 512
    · subst h2
      go_wp2_with (first
        | (refine wpList_build_fa v64 .u64 (fun x => (x.toNat : Int)) (fun _ => rfl) rfl 86 55 8 _ rfl h512 Try.underlying86 (by kernel_rfl) (by kernel_rfl) (by kernel_rfl) ?_)
        | (refine wpList_store_blk rfl 86 _ _ rfl w.heap.size rfl _ _ (fa v64 8 h512) rfl (new1 _ _) (by rw [fa_size]; kernel_rfl) (by rw [fa_size]; kernel_rfl) (one_fa _ _ _ one_v64) ?_
           intro w2 hw2 hb2 hs2))
      exact bodyPost_ret (results_blk2 rfl _ _ w.heap.size _ _ _ _ _ rfl rfl hw2 Try.underlying86 rfl (by rw [fa_size]; kernel_rfl)) rfl ⟨rfl, But.below ((Below.refl _ _).alloc (Nat.le_refl _) _) hb2 (Nat.le_refl _) (by simp)⟩
    · go_wp2_with (first
        | (refine wpList_buildTo rfl 86 _ rfl _ rfl (fa v64 8 fun _ => 0) (by kernel_rfl) ?_)
        | (refine wpList_store_blk rfl 86 _ _ rfl w.heap.size rfl _ _ (fa v64 8 fun _ => 0) rfl (new1 _ _) (by rw [fa_size]; kernel_rfl) (by rw [fa_size]; kernel_rfl) (one_fa _ _ _ one_v64) ?_
           intro w2 hw2 hb2 hs2))
      exact bodyPost_ret (results_blk2 rfl _ _ w.heap.size _ _ _ _ _ rfl rfl hw2 Try.underlying86 rfl (by rw [fa_size]; kernel_rfl)) rfl ⟨.inr (.inr ⟨h1, h2, _, rfl⟩), But.below ((Below.refl _ _).alloc (Nat.le_refl _) _) hb2 (Nat.le_refl _) (by simp)⟩

theorem built64 (size : Int) (h k : Nat → UInt64) : (Try.prog).built 92 [(0, .int .i64 size), (1, .agg (fa v64 8 h)), (2, .agg (fa v64 80 k))] = some (hobj v64 80 (.int .i64 size) h k (.slice none 0 0) (v64 0)) := by
  kernel_rfl

set_option maxRecDepth 100000 in
set_option maxHeartbeats 1000000 in
theorem new64_yes (bits : Nat) (w : World) (hbits : bits = 384 ∨ bits = 512) :
    Calls Try.prog 32 #[.int .i64 bits] w fun e w' => ∃ b, e = .returned (.tuple #[.pointer (some ⟨b, 0, none⟩), .int .i64 0]) ∧ (∀ p, HashAtL w' b p bits []) ∧ w.heap.size ≤ b ∧ Below w.heap.size w w' := by
  go_enter Try.func32, Try.ntmps32
  go_wp2_with (first
    | (go_at_call 46
       refine (beginning64_calls bits w).mono ?_
       rintro e w1 ⟨he, hb1⟩
       obtain rfl : e = .returned (.tuple #[.agg (fa v64 8 (beg64 bits)), .bool true]) := by
         rcases he with ⟨hc, he⟩ | ⟨hc, he⟩ | ⟨hc, hd, _⟩
         · obtain rfl : bits = 384 := by omega
           exact he
         · obtain rfl : bits = 512 := by omega
           exact he
         · omega
       clear he)
    | (refine wpList_store_blk rfl 86 _ _ rfl w1.heap.size rfl _ _ (fa v64 8 (beg64 bits)) rfl (new1 _ _) (by rw [fa_size]; kernel_rfl) (by rw [fa_size]; kernel_rfl) (one_fa _ _ _ one_v64) ?_
       intro w2 hw2 hb2 hs2))
  have hB2 : Below w.heap.size w w2 := But.below (hb1.alloc hb1.size _) hb2 hb1.size (by have := hb1.size; simp; omega)
  refine wp_region_class_tail (fun w' => w'.heap[w1.heap.size]? = some (.cells (fa v64 8 (beg64 bits)) 86 (0, 0)) ∧ Below w.heap.size w w') ⟨hw2, hB2.drew⟩ 3 (by kernel_rfl) (by kernel_rfl) ?_
  simp only [List.take_succ_cons, List.take_zero, List.drop_succ_cons, List.drop_zero]
  go_big_quiet_step (fail)
  refine BigFrame.wpQuiet_want rfl fun K hK => quiet_load_blk 86 _ rfl w1.heap.size rfl _ _ _ _ (fun w' h => h.1) Try.underlying86 rfl (by rw [fa_size]; kernel_rfl) (hK _ ?_)
  refine BigFrame.wpQuiet_want rfl fun K hK => ⟨.agg (fa v64 80 k512), fun w' hw' => ?_, hK _ ?_⟩
  · obtain ⟨hg, hb⟩ := hw'
    go_simp
    exact (constants64_calls w').mono fun e w'' ⟨he, hb'⟩ => ⟨he, below_heap hb' (lt_of hg) hg, hb.trans (hb'.mono hb.size)⟩
  clear hK K
  refine wpQuiet_nil ?_
  rintro w3 ⟨hw3, hb3⟩
  go_wp2_with (refine wpList_buildTo rfl 92 _ rfl (some 16) rfl (hobj v64 80 (.int .i64 bits) (beg64 bits) k512 (.slice none 0 0) (v64 0)) (by kernel_rfl) ?_)
  go_ret2
  exact ⟨w3.heap.size, rfl, fun p => ⟨none, 0, new1 _ _, Rd.nil _ _ _ _⟩, hb3.size, hb3.alloc hb3.size _⟩

set_option maxRecDepth 100000 in
theorem new64_no (c : Int) (w : World) (h1 : c ≠ 384) (h2 : c ≠ 512) :
    Calls Try.prog 32 #[.int .i64 c] w fun e w' => e = .returned (.tuple #[.pointer none, .int .i64 800]) ∧ Below w.heap.size w w' := by
  go_enter Try.func32, Try.ntmps32
  go_wp2_with (first
    | (go_at_call 46
       refine (beginning64_calls c w).mono ?_
       rintro e w1 ⟨he, hb1⟩
       obtain ⟨h, rfl⟩ : ∃ h, e = .returned (.tuple #[.agg (fa v64 8 h), .bool false]) := by
         rcases he with ⟨hc, he⟩ | ⟨hc, he⟩ | ⟨_, _, he⟩
         · omega
         · omega
         · exact he
       clear he)
    | (refine wpList_store_blk rfl 86 _ _ rfl w1.heap.size rfl _ _ (fa v64 8 h) rfl (new1 _ _) (by rw [fa_size]; kernel_rfl) (by rw [fa_size]; kernel_rfl) (one_fa _ _ _ one_v64) ?_
       intro w2 hw2 hb2 hs2))
  go_ret2
  exact ⟨rfl, But.below (hb1.alloc hb1.size _) hb2 hb1.size (by have := hb1.size; simp; omega)⟩

end Go.Proofs.Ytkkfpgkogggfdaa.Cw
