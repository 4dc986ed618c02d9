/-
  (package sha256) What rotate, RotateLeft32 and schedule compute: the plain functions rr32 and sch32, in whatever memory; of what memory held before nothing turns. Condition: a block has 64 bytes.
-/
import Derived.Test.YtkkfpgkogggfdaaProg
import Derived.Test.YtkkfpgkogggfdaaSha
import Derived.Deep.QuietTactic
import Derived.BigQuiet
import Derived.Outline
set_option linter.unusedSimpArgs false
set_option linter.unusedVariables false
namespace Go.Proofs.Ytkkfpgkogggfdaa.Cw
open Go Go.RowKit
attribute [local go_sem ↓ high] bin_or32 bin_xor32 bin_and32 bin_add32 bin_shr32 bin_shl32 un_xor32
attribute [local go_sem ↓ high] cells_v32 cells_v8 run_store_v32 run_store_v8
attribute [local go_sem high] match_v32 match_v8 run_store_v32 run_store_v8

theorem run_conv8_32 (x : UInt8) (w : World) : (convert 5 50 (v8 x)).run Try.prog w = .ok (v32 x.toUInt32) w := by
  unfold v8 v32
  simp [convert, run_underlying Try.underlying5, run_underlying Try.underlying50, Conv.intToInt]
  rw [wrap32_nat _ (by have := x.toNat_lt; omega)]
attribute [local go_sem ↓ high] run_conv8_32

theorem ret_v {x y : UInt32} (h : x = y) : Ending.returned (v32 x) = .returned (v32 y) := by rw [h]
theorem rot_eq (x : UInt32) (m : Nat) (h : m < 32) : (x <<< UInt32.ofNat (32 - m) ||| x >>> UInt32.ofNat (32 - (32 - m))) = rr32 x (UInt32.ofNat (m : Int).toNat) := by
  unfold rr32
  rw [show 32 - (32 - m) = m from by omega, Int.toNat_natCast]
  have e : UInt32.ofNat (32 - m) = 32 - UInt32.ofNat m := by
    have : ∀ k : Fin 32, UInt32.ofNat (32 - k.val) = 32 - UInt32.ofNat k.val := by decide
    exact this ⟨m, h⟩
  rw [e, UInt32.or_comm]

theorem neg_and31 (c : Int) (h0 : 0 < c) (h1 : c < 32) : bits BinOp.and IntKind.u64 (IntKind.u64.wrap (-c)) 31 = 32 - c := by
  obtain ⟨m, rfl⟩ := Int.eq_ofNat_of_zero_le (Int.le_of_lt h0)
  have hm : m < 32 := by omega
  have : ∀ m : Fin 32, 0 < m.val → bits BinOp.and IntKind.u64 (IntKind.u64.wrap (-(m.val : Int))) 31 = 32 - (m.val : Int) := by decide
  exact this ⟨m, hm⟩ (by show 0 < m; omega)

set_option maxHeartbeats 400000 in
theorem rotl32_calls (x : UInt32) (c : Int) (h0 : 0 < c) (h1 : c < 32) (w : World) : Calls Try.prog 56 #[v32 x, .int .i64 (-c)] w fun e w' => e = .returned (v32 (rr32 x (UInt32.ofNat c.toNat))) ∧ w = w' := by
  obtain ⟨m, rfl⟩ := Int.eq_ofNat_of_zero_le (Int.le_of_lt h0)
  have hb := neg_and31 m h0 h1
  have hc : 0 ≤ 32 - (m : Int) ∧ 32 - (m : Int) < 32 := by omega
  go_enter Try.func56, Try.ntmps56
  go_wp2
  go_ret
  refine ⟨ret_v (rot_eq x m (by omega)), rfl⟩

set_option maxHeartbeats 400000 in
theorem rotate32_calls (x : UInt32) (c : Int) (h0 : 0 < c) (h1 : c < 32) (w : World) : Calls Try.prog 53 #[v32 x, .int .i64 c] w fun e w' => e = .returned (v32 (rr32 x (UInt32.ofNat c.toNat))) ∧ w = w' := by
  go_enter Try.func53, Try.ntmps53
  go_wp2_with (go_at_call 56; refine (rotl32_calls _ _ h0 h1 _).mono ?_; rintro e w' ⟨rfl, rfl⟩)
  go_ret
  exact ⟨rfl, rfl⟩

set_option maxHeartbeats 1000000 in
theorem schedule32_calls (g off cap : Nat) (b : Nat → UInt8) (w : World) (hg : g < w.heap.size) (hb : ∀ i, i < 64 → w.cell? ⟨g, off + i, none⟩ = some (v8 (b i))) : Calls Try.prog 52 #[.slice (some ⟨g, off, none⟩) 64 cap] w fun e w' => e = .returned (.agg (fa v32 64 (sch32 b))) ∧ Below w.heap.size w w' := by
  have HB := Lib.hid hb
  clear hb
  go_enter Try.func52, Try.ntmps52
  go_wp2
  go_loopw [11] (fun i wr => ∃ k : Nat, k ≤ 16 ∧ i = .int .i64 k ∧ wr.heap[w.heap.size]? = some (.cells (fa v32 64 fun _ => 0) 80 (0, 0)) ∧ wr.heap[w.heap.size + 1]? = some (.cells (fa v32 64 (fun j => if j < k then sch32 b j else 0)) 80 (0,0)) ∧ Below w.heap.size w wr) (fun i _ => 16 - (intOf i).toNat)
  case atStart => exact ⟨0, by omega, rfl, (new2a w _ _).trans (congrArg some (by kernel_rfl)), (new2 w _ _).trans (congrArg some (by kernel_rfl)), ((Below.refl _ _).alloc (Nat.le_refl _) _).alloc (by simp) _⟩
  case round =>
    obtain ⟨k, hk, rfl, hr, hf, hbl⟩ := hrel
    have HF := Lib.hid hf
    have HR := Lib.hid hr
    clear hf hr
    by_cases hlt : k < 16
    · go_wp2
      obtain ⟨wo, rfl⟩ : ∃ wo : World, wo = wr := ⟨_, rfl⟩
      go_loopw [14] (fun i wr => ∃ m : Nat, m ≤ 4 ∧ i = .int .i64 m ∧ wr.heap[w.heap.size]? = some (.cells (fa v32 64 fun _ => 0) 80 (0, 0)) ∧ wr.heap[w.heap.size + 1]? = some (.cells (fa v32 64 (upd (fun j => if j < k then sch32 b j else 0) k (pw32 b k m))) 80 (0,0)) ∧ Below w.heap.size w wr) (fun i _ => 4 - (intOf i).toNat)
      case atStart => 
        refine ⟨0, by omega, rfl, HR.out, HF.out.trans ?_, hbl⟩
        congr 3
        funext j
        simp only [upd, pw32]
        by_cases h : j = k
        · subst h; simp
        · simp [h]
      case round =>
        obtain ⟨m, hm, rfl, hr, hf, hbl⟩ := hrel
        by_cases hlt : m < 4
        · have hc1 : wr.cell? ⟨w.heap.size + 1, k, none⟩ = some (v32 (pw32 b k m)) := by rw [cell_of hf, fa_get _ _ _ _ (by omega), upd_at]
          have hc2 : wr.cell? ⟨g, off + (4 * k + m), none⟩ = some (v8 (b (4 * k + m))) := by rw [← HB.out _ (by omega)]; exact hbl.cell (p := ⟨g, _, none⟩) hg
          have hfr : wr.frozen? ⟨w.heap.size + 1, k, none⟩ = false := frozen_of hf k
          have HF2 := Lib.hid hf
          have HR2 := Lib.hid hr
          clear hf hr
          go_wp2
          go_region
          go_wp2
          go_roundw
          case rel =>
            refine ⟨m + 1, by omega, by go_num, (set_far HR2.out (by simp) _ _), (set_of HF2.out _ _).trans ?_, hbl.drew.setCell (by simp) _⟩
            rw [fa_set, upd_upd]; rfl
          case measure => simp [intOf]; omega
        · obtain rfl : m = 4 := by omega
          have HF2 := Lib.hid hf
          have HR2 := Lib.hid hr
          clear hf hr
          go_wp2
          go_roundw
          case rel =>
            refine ⟨k + 1, by omega, by go_num, HR2.out, HF2.out.trans ?_, hbl⟩
            congr 3
            funext j
            simp only [upd]
            by_cases h : j = k
            · subst h; simp [sch32_lo b j hlt]
            · have : j < k + 1 ↔ j < k := by omega
              simp [h, this]
          case measure => simp [intOf]; omega
    · obtain rfl : k = 16 := by omega
      clear hk hlt
      go_wp2
      obtain ⟨wo, rfl⟩ : ∃ wo : World, wo = wr := ⟨_, rfl⟩
      go_loopw [6] (fun i wr => ∃ k : Nat, 16 ≤ k ∧ k ≤ 64 ∧ i = .int .i64 k ∧ wr.heap[w.heap.size]? = some (.cells (fa v32 64 fun _ => 0) 80 (0, 0)) ∧ wr.heap[w.heap.size + 1]? = some (.cells (fa v32 64 (fun j => if j < k then sch32 b j else 0)) 80 (0,0)) ∧ Below w.heap.size w wr) (fun i _ => 64 - (intOf i).toNat)
      case atStart => exact ⟨16, by omega, by omega, rfl, HR.out, HF.out, hbl⟩
      case round =>
        obtain ⟨k, hk0, hk, rfl, hr, hf, hbl⟩ := hrel
        by_cases hlt : k < 64
        · have hg : ∀ j, j < k → wr.cell? ⟨w.heap.size + 1, j, none⟩ = some (v32 (sch32 b j)) := fun j hj => by rw [cell_of hf, fa_get _ _ _ _ (by omega), if_pos hj]
          have h15 := hg (k - 15) (by omega)
          have h2 := hg (k - 2) (by omega)
          have h16 := hg (k - 16) (by omega)
          have h7 := hg (k - 7) (by omega)
          have hk1 : wr.cell? ⟨w.heap.size + 1, k, none⟩ = some (v32 0) := by rw [cell_of hf, fa_get _ _ _ _ (by omega), if_neg (by omega)]
          have hfr : wr.frozen? ⟨w.heap.size + 1, k, none⟩ = false := frozen_of hf k
          have HF2 := Lib.hid hf
          have HR2 := Lib.hid hr
          clear hf hr hg
          go_wp2
          go_quiet (fail)
          go_wp2_with (go_at_call 53; refine (rotate32_calls _ _ (by omega) (by omega) _).mono ?_; rintro e w' ⟨rfl, rfl⟩)
          go_region
          go_wp2
          go_roundw
          case rel =>
            repeat apply Exists.intro
            refine ⟨⟨k + 1, by omega, by omega, by go_num, (set_far HR2.out (by simp) _ _), (set_of HF2.out _ _).trans ?_, (Below.drewN hbl _).drew.setCell (by simp) _⟩, rfl⟩
            rw [fa_set]
            congr 3
            funext j
            simp only [upd]
            by_cases h : j = k
            · subst h; simp [sch32_hi b j (by omega)]; rfl
            · have : j < k + 1 ↔ j < k := by omega
              simp [h, this]
          case measure => simp [intOf]; omega
        · obtain rfl : k = 64 := by omega
          have hf' := hf.trans (congrArg (fun c => some (Obj.cells c 80 (0, 0))) (fa_ext v32 64 _ (sch32 b) fun j hj => by rw [if_pos hj]))
          have HF2 := Lib.hid hf'
          have HR2 := Lib.hid hr
          clear hf hf' hr
          go_wp2_with (first
            | (refine wpList_load_blk rfl 80 _ rfl (w.heap.size + 1) rfl _ _ _ _ HF2.out Try.underlying80 rfl (by rw [fa_size]; kernel_rfl) ?_)
            | (refine wpList_store_blk rfl 80 _ _ rfl w.heap.size rfl _ _ (fa v32 64 (sch32 b)) rfl HR2.out (by rw [fa_size]; kernel_rfl) (by rw [fa_size, fa_size]) (one_fa _ _ _ one_v32) ?_; intro w2 hw2 hb2 hs2))
          exact bodyPost_ret (results_blk rfl _ _ w.heap.size _ _ _ _ rfl hw2 Try.underlying80 rfl (by rw [fa_size]; kernel_rfl)) rfl ⟨rfl, But.below hbl hb2 (Nat.le_refl _) hbl.size⟩
end Go.Proofs.Ytkkfpgkogggfdaa.Cw
