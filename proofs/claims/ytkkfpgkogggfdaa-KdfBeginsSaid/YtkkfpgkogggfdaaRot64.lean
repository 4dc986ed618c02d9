/-
  (package sha512) What rotate, RotateLeft64 and schedule compute: the plain functions rr64 and sch64, in whatever memory; of what memory held before nothing turns. Condition: a block has 128 bytes.
-/
import Derived.Test.YtkkfpgkogggfdaaProg
import Derived.Test.YtkkfpgkogggfdaaSha64
import Derived.Test.YtkkfpgkogggfdaaCom
import Derived.Deep.QuietTactic
import Derived.BigQuiet
import Derived.Outline
set_option linter.unusedSimpArgs false
set_option linter.unusedVariables false
namespace Go.Proofs.Ytkkfpgkogggfdaa.Cw
open Go Go.RowKit
attribute [local go_sem ↓ high] bin_or64 bin_xor64 bin_and64 bin_add64 bin_shr64 bin_shl64 un_xor64
attribute [local go_sem ↓ high] cells_v64 cells_v8 run_store_v64 run_store_v8
attribute [local go_sem high] match_v64 match_v8 run_store_v64 run_store_v8

theorem run_conv8_64 (x : UInt8) (w : World) : (convert 5 55 (v8 x)).run Try.prog w = .ok (v64 x.toUInt64) w := by
  unfold v8 v64
  simp [convert, run_underlying Try.underlying5, run_underlying Try.underlying55, Conv.intToInt]
  rw [wrap64_nat _ (by have := x.toNat_lt; omega)]
attribute [local go_sem ↓ high] run_conv8_64

theorem ret_vL {x y : UInt64} (h : x = y) : Ending.returned (v64 x) = .returned (v64 y) := by rw [h]
theorem rot_eqL (x : UInt64) (m : Nat) (h : m < 64) : (x <<< UInt64.ofNat (64 - m) ||| x >>> UInt64.ofNat (64 - (64 - m))) = rr64 x (UInt64.ofNat (m : Int).toNat) := by
  unfold rr64
  rw [show 64 - (64 - m) = m from by omega, Int.toNat_natCast]
  have e : UInt64.ofNat (64 - m) = 64 - UInt64.ofNat m := by
    have : ∀ k : Fin 64, UInt64.ofNat (64 - k.val) = 64 - UInt64.ofNat k.val := by decide
    exact this ⟨m, h⟩
  rw [e, UInt64.or_comm]

theorem neg_and31L (c : Int) (h0 : 0 < c) (h1 : c < 64) : bits BinOp.and IntKind.u64 (IntKind.u64.wrap (-c)) 63 = 64 - c := by
  obtain ⟨m, rfl⟩ := Int.eq_ofNat_of_zero_le (Int.le_of_lt h0)
  have hm : m < 64 := by omega
  have : ∀ m : Fin 64, 0 < m.val → bits BinOp.and IntKind.u64 (IntKind.u64.wrap (-(m.val : Int))) 63 = 64 - (m.val : Int) := by decide
  exact this ⟨m, hm⟩ (by show 0 < m; omega)

set_option maxHeartbeats 400000 in
theorem rotl64_calls (x : UInt64) (c : Int) (h0 : 0 < c) (h1 : c < 64) (w : World) : Calls Try.prog 57 #[v64 x, .int .i64 (-c)] w fun e w' => e = .returned (v64 (rr64 x (UInt64.ofNat c.toNat))) ∧ w = w' := by
  obtain ⟨m, rfl⟩ := Int.eq_ofNat_of_zero_le (Int.le_of_lt h0)
  have hb := neg_and31L m h0 h1
  have hc : 0 ≤ 64 - (m : Int) ∧ 64 - (m : Int) < 64 := by omega
  go_enter Try.func57, Try.ntmps57
  go_wp2
  go_ret
  refine ⟨ret_vL (rot_eqL x m (by omega)), rfl⟩

set_option maxHeartbeats 400000 in
theorem rotate64_calls (x : UInt64) (c : Int) (h0 : 0 < c) (h1 : c < 64) (w : World) : Calls Try.prog 55 #[v64 x, .int .i64 c] w fun e w' => e = .returned (v64 (rr64 x (UInt64.ofNat c.toNat))) ∧ w = w' := by
  go_enter Try.func55, Try.ntmps55
  go_wp2_with (go_at_call 57; refine (rotl64_calls _ _ h0 h1 _).mono ?_; rintro e w' ⟨rfl, rfl⟩)
  go_ret
  exact ⟨rfl, rfl⟩

set_option maxHeartbeats 1000000 in
theorem schedule64_calls (g off cap : Nat) (b : Nat → UInt8) (w : World) (hg : g < w.heap.size) (hb : ∀ i, i < 128 → w.cell? ⟨g, off + i, none⟩ = some (v8 (b i))) : Calls Try.prog 54 #[.slice (some ⟨g, off, none⟩) 128 cap] w fun e w' => e = .returned (.agg (fa v64 80 (sch64 b))) ∧ Below w.heap.size w w' := by
  have HB := Lib.hid hb
  clear hb
  go_enter Try.func54, Try.ntmps54
  go_wp2_with (refine wpList_alloc_zero rfl 89 rfl (.agg (fa v64 80 fun _ => 0)) (by kernel_rfl) ?_)
  go_loopw [11] (fun i wr => ∃ k : Nat, k ≤ 16 ∧ i = .int .i64 k ∧ wr.heap[w.heap.size]? = some (.cells (fa v64 80 fun _ => 0) 89 (0, 0)) ∧ wr.heap[w.heap.size + 1]? = some (.cells (fa v64 80 (fun j => if j < k then sch64 b j else 0)) 89 (0,0)) ∧ Below w.heap.size w wr) (fun i _ => 16 - (intOf i).toNat)
  case atStart => exact ⟨0, by omega, rfl, (new2a w _ _).trans (congrArg some (by kernel_rfl)), (new2 w _ _).trans (congrArg some (by kernel_rfl)), ((Below.refl _ _).alloc (Nat.le_refl _) _).alloc (by simp) _⟩
  case round =>
    obtain ⟨k, hk, rfl, hr, hf, hbl⟩ := hrel
    have HF := Lib.hid hf
    have HR := Lib.hid hr
    clear hf hr
    by_cases hlt : k < 16
    · go_wp2
      obtain ⟨wo, rfl⟩ : ∃ wo : World, wo = wr := ⟨_, rfl⟩
      go_loopw [14] (fun i wr => ∃ m : Nat, m ≤ 8 ∧ i = .int .i64 m ∧ wr.heap[w.heap.size]? = some (.cells (fa v64 80 fun _ => 0) 89 (0, 0)) ∧ wr.heap[w.heap.size + 1]? = some (.cells (fa v64 80 (upd (fun j => if j < k then sch64 b j else 0) k (pw64 b k m))) 89 (0,0)) ∧ Below w.heap.size w wr) (fun i _ => 8 - (intOf i).toNat)
      case atStart => 
        refine ⟨0, by omega, rfl, HR.out, HF.out.trans ?_, hbl⟩
        congr 3
        funext j
        simp only [upd, pw64]
        by_cases h : j = k
        · subst h; simp
        · simp [h]
      case round =>
        obtain ⟨m, hm, rfl, hr, hf, hbl⟩ := hrel
        by_cases hlt : m < 8
        · have hc1 : wr.cell? ⟨w.heap.size + 1, k, none⟩ = some (v64 (pw64 b k m)) := by rw [cell_of hf, fa_get _ _ _ _ (by omega), upd_at]
          have hc2 : wr.cell? ⟨g, off + (8 * k + m), none⟩ = some (v8 (b (8 * k + m))) := by rw [← HB.out _ (by omega)]; exact hbl.cell (p := ⟨g, _, none⟩) hg
          have hfr : wr.frozen? ⟨w.heap.size + 1, k, none⟩ = false := frozen_of hf k
          have HF2 := Lib.hid hf
          have HR2 := Lib.hid hr
          clear hf hr
          go_wp2
          go_region
          go_wp2
          go_roundw
          case rel =>
            refine ⟨m + 1, by omega, by go_num, (set_far HR2.out (by simp) _ _), (set_of HF2.out _ _).trans ?_, hbl.drew.setCell (by simp) _⟩
            rw [fa_set, upd_upd]; rfl
          case measure => simp [intOf]; omega
        · obtain rfl : m = 8 := by omega
          have HF2 := Lib.hid hf
          have HR2 := Lib.hid hr
          clear hf hr
          go_wp2
          go_roundw
          case rel =>
            refine ⟨k + 1, by omega, by go_num, HR2.out, HF2.out.trans ?_, hbl⟩
            congr 3
            funext j
            simp only [upd]
            by_cases h : j = k
            · subst h; simp [sch64_lo b j hlt]
            · have : j < k + 1 ↔ j < k := by omega
              simp [h, this]
          case measure => simp [intOf]; omega
    · obtain rfl : k = 16 := by omega
      clear hk hlt
      go_wp2
      obtain ⟨wo, rfl⟩ : ∃ wo : World, wo = wr := ⟨_, rfl⟩
      go_loopw [6] (fun i wr => ∃ k : Nat, 16 ≤ k ∧ k ≤ 80 ∧ i = .int .i64 k ∧ wr.heap[w.heap.size]? = some (.cells (fa v64 80 fun _ => 0) 89 (0, 0)) ∧ wr.heap[w.heap.size + 1]? = some (.cells (fa v64 80 (fun j => if j < k then sch64 b j else 0)) 89 (0,0)) ∧ Below w.heap.size w wr) (fun i _ => 80 - (intOf i).toNat)
      case atStart => exact ⟨16, by omega, by omega, rfl, HR.out, HF.out, hbl⟩
      case round =>
        obtain ⟨k, hk0, hk, rfl, hr, hf, hbl⟩ := hrel
        by_cases hlt : k < 80
        · have hg : ∀ j, j < k → wr.cell? ⟨w.heap.size + 1, j, none⟩ = some (v64 (sch64 b j)) := fun j hj => by rw [cell_of hf, fa_get _ _ _ _ (by omega), if_pos hj]
          have h15 := hg (k - 15) (by omega)
          have h2 := hg (k - 2) (by omega)
          have h16 := hg (k - 16) (by omega)
          have h7 := hg (k - 7) (by omega)
          have hk1 : wr.cell? ⟨w.heap.size + 1, k, none⟩ = some (v64 0) := by rw [cell_of hf, fa_get _ _ _ _ (by omega), if_neg (by omega)]
          have hfr : wr.frozen? ⟨w.heap.size + 1, k, none⟩ = false := frozen_of hf k
          have HF2 := Lib.hid hf
          have HR2 := Lib.hid hr
          clear hf hr hg
          go_wp2
          go_quiet (fail)
          go_wp2_with (go_at_call 55; refine (rotate64_calls _ _ (by omega) (by omega) _).mono ?_; rintro e w' ⟨rfl, rfl⟩)
          go_region
          go_wp2
          go_roundw
          case rel =>
            repeat apply Exists.intro
            refine ⟨⟨k + 1, by omega, by omega, by go_num, (set_far HR2.out (by simp) _ _), (set_of HF2.out _ _).trans ?_, (Below.drewN hbl _).drew.setCell (by simp) _⟩, rfl⟩
            rw [fa_set]
            congr 3
            funext j
            simp only [upd]
            by_cases h : j = k
            · subst h; simp [sch64_hi b j (by omega)]; rfl
            · have : j < k + 1 ↔ j < k := by omega
              simp [h, this]
          case measure => simp [intOf]; omega
        · obtain rfl : k = 80 := by omega
          have hf' := hf.trans (congrArg (fun c => some (Obj.cells c 89 (0, 0))) (fa_ext v64 80 _ (sch64 b) fun j hj => by rw [if_pos hj]))
          have HF2 := Lib.hid hf'
          have HR2 := Lib.hid hr
          clear hf hf' hr
          go_wp2_with (first
            | (refine wpList_load_blk rfl 89 _ rfl (w.heap.size + 1) rfl _ _ _ _ HF2.out Try.underlying89 rfl (by rw [fa_size]; kernel_rfl) ?_)
            | (refine wpList_store_blk rfl 89 _ _ rfl w.heap.size rfl _ _ (fa v64 80 (sch64 b)) rfl HR2.out (by rw [fa_size]; kernel_rfl) (by rw [fa_size, fa_size]) (one_fa _ _ _ one_v64) ?_; intro w2 hw2 hb2 hs2))
          exact bodyPost_ret (results_blk rfl _ _ w.heap.size _ _ _ _ rfl hw2 Try.underlying89 rfl (by rw [fa_size]; kernel_rfl)) rfl ⟨rfl, But.below hbl hb2 (Nat.le_refl _) hbl.size⟩
end Go.Proofs.Ytkkfpgkogggfdaa.Cw
