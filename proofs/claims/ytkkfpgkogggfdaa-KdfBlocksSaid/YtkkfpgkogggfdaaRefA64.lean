/-
  (package curvetref7, 64 bits) What rot64 and words64 compute: the plain functions rr64 and sch64, in whatever memory; of what memory held before nothing turns. Condition: a block has 128 bytes.
-/
import Derived.Test.YtkkfpgkogggfdaaProg
import Derived.Test.YtkkfpgkogggfdaaSha64
import Derived.Deep.QuietTactic
import Derived.BigQuiet
import Derived.Outline
import Derived.Test.YtkkfpgkogggfdaaTail
set_option linter.unusedSimpArgs false
set_option linter.unusedVariables false
namespace Go.Proofs.Ytkkfpgkogggfdaa.Cw
open Go Go.RowKit
attribute [local go_sem ↓ high] bin_or64 bin_xor64 bin_and64 bin_add64 bin_shr64 bin_shl64 un_xor64
attribute [local go_sem ↓ high] cells_v64 cells_v8 run_store_v64 run_store_v8
attribute [local go_sem high] match_v64 match_v8 run_store_v64 run_store_v8

theorem rconv8_64 (x : UInt8) (w : World) : (convert 5 55 (v8 x)).run Try.prog w = .ok (v64 x.toUInt64) w := by
  unfold v8 v64
  simp [convert, run_underlying Try.underlying5, run_underlying Try.underlying55, Conv.intToInt]
  rw [wrap64_nat _ (by have := x.toNat_lt; omega)]
attribute [local go_sem ↓ high] rconv8_64

theorem rot64_eq (x : UInt64) (m : Nat) (h : m < 64) : (x >>> UInt64.ofNat m ||| x <<< UInt64.ofNat (64 - m)) = rr64 x (UInt64.ofNat (m : Int).toNat) := by
  unfold rr64
  rw [Int.toNat_natCast]
  have e : UInt64.ofNat (64 - m) = 64 - UInt64.ofNat m := by
    have : ∀ k : Fin 64, UInt64.ofNat (64 - k.val) = 64 - UInt64.ofNat k.val := by decide
    exact this ⟨m, h⟩
  rw [e]
theorem rot64_calls (x : UInt64) (c : Int) (h0 : 0 < c) (h1 : c < 64) (w : World) : Calls Try.prog 39 #[v64 x, .int .i64 c] w fun e w' => e = .returned (v64 (rr64 x (UInt64.ofNat c.toNat))) ∧ ∃ n, w' = w.drewN n := by
  obtain ⟨m, rfl⟩ := Int.eq_ofNat_of_zero_le (Int.le_of_lt h0)
  go_enter Try.func39, Try.ntmps39
  go_wp2
  go_quiet (fail)
  go_wp2
  go_ret
  exact ⟨by rw [← rot64_eq x m (by omega)]; rfl, _, rfl⟩
theorem rot64_quiet (x : UInt64) (c : Int) (h0 : 0 < c) (h1 : c < 64) (w : World) {C : World → Prop} (h : ∀ n, C (w.drewN n)) : Calls Try.prog 39 #[v64 x, .int .i64 c] w fun e w'' => e = .returned (v64 (rr64 x (UInt64.ofNat c.toNat))) ∧ C w'' :=
  (rot64_calls x c h0 h1 _).mono fun _ _ ⟨he, n, hw⟩ => ⟨he, by rw [hw]; exact h n⟩

set_option maxRecDepth 100000 in
set_option maxHeartbeats 1000000 in
theorem words64_calls (g off cap : Nat) (b : Nat → UInt8) (w : World) (hg : g < w.heap.size) (hb : ∀ i, i < 128 → w.cell? ⟨g, off + i, none⟩ = some (v8 (b i))) : Calls Try.prog 38 #[.slice (some ⟨g, off, none⟩) 128 cap] w fun e w' => ∃ q, e = .returned (.slice (some ⟨q, 0, none⟩) 80 80) ∧ w.heap.size ≤ q ∧ w'.heap[q]? = some (.cells (fa v64 80 (sch64 b)) 55 (0, 0)) ∧ Below w.heap.size w w' := by
  have HB := Lib.hid hb
  clear hb
  have hmk : ∀ w, (Instr.makeSlice 51 (.int .i64 80) (.int .i64 80)).run Try.prog w = .ok (.slice (some ⟨w.heap.size, 0, none⟩) 80 80) (w.alloc (.cells (fa v64 80 fun _ => 0) 55)) := fun _ => by kernel_rfl
  go_enter Try.func38, Try.ntmps38
  go_wp2
  go_loopw [4] (fun i wr => ∃ k : Nat, k ≤ 16 ∧ i = .int .i64 k ∧ wr.heap[w.heap.size]? = some (.cells (fa v64 80 (fun j => if j < k then sch64 b j else 0)) 55 (0,0)) ∧ Below w.heap.size w wr) (fun i _ => 16 - (intOf i).toNat)
  case atStart => exact ⟨0, by omega, rfl, new1 w _, (Below.refl _ _).alloc (Nat.le_refl _) _⟩
  case round =>
    obtain ⟨k, hk, rfl, hf, hbl⟩ := hrel
    have HF := Lib.hid hf
    clear hf
    by_cases hlt : k < 16
    · go_wp2
      obtain ⟨wo, rfl⟩ : ∃ wo : World, wo = wr := ⟨_, rfl⟩
      go_loopw [5] (fun i wr => ∃ m : Nat, m ≤ 8 ∧ i = .int .i64 m ∧ wr.heap[w.heap.size]? = some (.cells (fa v64 80 (upd (fun j => if j < k then sch64 b j else 0) k (pw64 b k m))) 55 (0,0)) ∧ Below w.heap.size w wr) (fun i _ => 8 - (intOf i).toNat)
      case atStart =>
        refine ⟨0, by omega, rfl, HF.out.trans ?_, hbl⟩
        congr 3
        funext j
        simp only [upd, pw64]
        by_cases h : j = k
        · subst h; simp
        · simp [h]
      case round =>
        obtain ⟨m, hm, rfl, hf, hbl⟩ := hrel
        by_cases hlt : m < 8
        · have hc1 : wr.cell? ⟨w.heap.size, k, none⟩ = some (v64 (pw64 b k m)) := by rw [cell_of hf, fa_get _ _ _ _ (by omega), upd_at]
          have hc2 : wr.cell? ⟨g, off + (8 * k + m), none⟩ = some (v8 (b (8 * k + m))) := by rw [← HB.out _ (by omega)]; exact hbl.cell (p := ⟨g, _, none⟩) hg
          have hfr : wr.frozen? ⟨w.heap.size, k, none⟩ = false := frozen_of hf k
          have HF2 := Lib.hid hf
          clear hf
          go_wp2
          go_region
          go_wp2
          go_roundw
          case rel =>
            refine ⟨m + 1, by omega, by go_num, (set_of HF2.out _ _).trans ?_, hbl.drew.setCell (by simp) _⟩
            rw [fa_set, upd_upd]; rfl
          case measure => simp [intOf]; omega
        · obtain rfl : m = 8 := by omega
          have HF2 := Lib.hid hf
          clear hf
          go_wp2
          go_roundw
          case rel =>
            refine ⟨k + 1, by omega, by go_num, HF2.out.trans ?_, hbl⟩
            congr 3
            funext j
            simp only [upd]
            by_cases h : j = k
            · subst h; simp [sch64_lo b j (by omega)]
            · have : j < k + 1 ↔ j < k := by omega
              simp [h, this]
          case measure => simp [intOf]; omega
    · obtain rfl : k = 16 := by omega
      clear hk hlt
      go_wp2
      obtain ⟨wo, rfl⟩ : ∃ wo : World, wo = wr := ⟨_, rfl⟩
      go_loopw [6] (fun i wr => ∃ k : Nat, 16 ≤ k ∧ k ≤ 80 ∧ i = .int .i64 k ∧ wr.heap[w.heap.size]? = some (.cells (fa v64 80 (fun j => if j < k then sch64 b j else 0)) 55 (0,0)) ∧ Below w.heap.size w wr) (fun i _ => 80 - (intOf i).toNat)
      case atStart => exact ⟨16, by omega, by omega, rfl, HF.out, hbl⟩
      case round =>
        obtain ⟨k, hk0, hk, rfl, hf, hbl⟩ := hrel
        have HF2 := Lib.hid hf
        by_cases hlt : k < 80
        · have hg : ∀ j, j < k → wr.cell? ⟨w.heap.size, j, none⟩ = some (v64 (sch64 b j)) := fun j hj => by rw [cell_of hf, fa_get _ _ _ _ (by omega), if_pos hj]
          have h15 := hg (k - 15) (by omega)
          have h2 := hg (k - 2) (by omega)
          have h16 := hg (k - 16) (by omega)
          have h7 := hg (k - 7) (by omega)
          have hk1 : wr.cell? ⟨w.heap.size, k, none⟩ = some (v64 0) := by rw [cell_of hf, fa_get _ _ _ _ (by omega), if_neg (by omega)]
          have hfr : wr.frozen? ⟨w.heap.size, k, none⟩ = false := frozen_of hf k
          clear hf hg
          go_wp2
          go_quiet (fail)
          go_wp2
          refine wp_region_quiet_tail 32 (by kernel_rfl) (by kernel_rfl) ?_
          simp only [List.take_succ_cons, List.take_zero, List.drop_succ_cons, List.drop_zero]
          repeat (go_big_quiet_step ((go_at_call 39; exact rot64_quiet _ _ (by omega) (by omega) _ (fun n => ⟨_, by simp only [World.drewN_drewN, Nat.add_assoc]; rfl⟩))))
          refine wpQuiet_nil ?_
          intro _ hw'
          obtain ⟨nq, hw''⟩ := hw'
          subst hw''
          go_wp2
          go_roundw
          case rel =>
            refine ⟨k + 1, by omega, by omega, by go_num, (set_of HF2.out _ _).trans ?_, Below.setCell (Below.drewN hbl _) (by simp) _⟩
            rw [fa_set]
            congr 3
            funext j
            simp only [upd]
            by_cases h : j = k
            · subst h; simp [sch64_hi b j (by omega)]; rfl
            · have : j < k + 1 ↔ j < k := by omega
              simp [h, this]
          case measure => simp [intOf]; omega
        · obtain rfl : k = 80 := by omega
          have HF3 := Lib.hid (hf.trans (congrArg (fun c => some (Obj.cells c 55 (0, 0))) (fa_ext v64 80 _ (sch64 b) fun j hj => by rw [if_pos hj])))
          clear hf
          go_wp2
          go_ret
          exact ⟨_, rfl, Nat.le_refl _, HF3.out, hbl⟩
end Go.Proofs.Ytkkfpgkogggfdaa.Cw
