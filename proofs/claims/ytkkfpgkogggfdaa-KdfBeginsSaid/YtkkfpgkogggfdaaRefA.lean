/-
  (package curvetref7, 32 bits) What rot32 and words32 compute: the plain functions rr32 and sch32, in whatever memory; of what memory held before nothing turns. Condition: a block has 64 bytes.
-/
import Derived.Test.YtkkfpgkogggfdaaProg
import Derived.Test.YtkkfpgkogggfdaaSha
import Derived.Deep.QuietTactic
import Derived.BigQuiet
import Derived.Outline
import Derived.Test.YtkkfpgkogggfdaaTail
set_option linter.unusedVariables false
set_option linter.unusedSimpArgs false
set_option linter.unusedVariables false
namespace Go.Proofs.Ytkkfpgkogggfdaa.Cw
open Go Go.RowKit
attribute [local go_sem ↓ high] bin_or32 bin_xor32 bin_and32 bin_add32 bin_shr32 bin_shl32 un_xor32
attribute [local go_sem ↓ high] cells_v32 cells_v8 run_store_v32 run_store_v8
attribute [local go_sem high] match_v32 match_v8 run_store_v32 run_store_v8

theorem rconv8_32 (x : UInt8) (w : World) : (convert 5 50 (v8 x)).run Try.prog w = .ok (v32 x.toUInt32) w := by
  unfold v8 v32
  simp [convert, run_underlying Try.underlying5, run_underlying Try.underlying50, Conv.intToInt]
  rw [wrap32_nat _ (by have := x.toNat_lt; omega)]
attribute [local go_sem ↓ high] rconv8_32

theorem rot32_eq (x : UInt32) (m : Nat) (h : m < 32) : (x >>> UInt32.ofNat m ||| x <<< UInt32.ofNat (32 - m)) = rr32 x (UInt32.ofNat (m : Int).toNat) := by
  unfold rr32
  rw [Int.toNat_natCast]
  have e : UInt32.ofNat (32 - m) = 32 - UInt32.ofNat m := by
    have : ∀ k : Fin 32, UInt32.ofNat (32 - k.val) = 32 - UInt32.ofNat k.val := by decide
    exact this ⟨m, h⟩
  rw [e]
theorem rot32_calls (x : UInt32) (c : Int) (h0 : 0 < c) (h1 : c < 32) (w : World) : Calls Try.prog 37 #[v32 x, .int .i64 c] w fun e w' => e = .returned (v32 (rr32 x (UInt32.ofNat c.toNat))) ∧ ∃ n, w' = w.drewN n := by
  obtain ⟨m, rfl⟩ := Int.eq_ofNat_of_zero_le (Int.le_of_lt h0)
  go_enter Try.func37, Try.ntmps37
  go_wp2
  go_quiet (fail)
  go_wp2
  go_ret
  exact ⟨by rw [← rot32_eq x m (by omega)]; rfl, _, rfl⟩
theorem rot32_quiet (x : UInt32) (c : Int) (h0 : 0 < c) (h1 : c < 32) (w : World) {C : World → Prop} (h : ∀ n, C (w.drewN n)) : Calls Try.prog 37 #[v32 x, .int .i64 c] w fun e w'' => e = .returned (v32 (rr32 x (UInt32.ofNat c.toNat))) ∧ C w'' :=
  (rot32_calls x c h0 h1 _).mono fun _ _ ⟨he, n, hw⟩ => ⟨he, by rw [hw]; exact h n⟩

theorem be4 (b : Nat → UInt8) (i : Nat) : pw32 b i 4 = (b (4 * i)).toUInt32 <<< 24 ||| (b (4 * i + 1)).toUInt32 <<< 16 ||| (b (4 * i + 2)).toUInt32 <<< 8 ||| (b (4 * i + 3)).toUInt32 := by
  have z : (0 : UInt32) ||| (b (4 * i)).toUInt32 = (b (4 * i)).toUInt32 := UInt32.zero_or
  have h16 : ∀ x : UInt32, x <<< 8 <<< 8 = x <<< 16 := fun x => (UInt32.shiftLeft_add (a := x) (b := 8) (c := 8) (by decide) (by decide) (by decide)).symm
  have h24 : ∀ x : UInt32, x <<< 16 <<< 8 = x <<< 24 := fun x => (UInt32.shiftLeft_add (a := x) (b := 16) (c := 8) (by decide) (by decide) (by decide)).symm
  simp only [pw32, Nat.add_zero, UInt32.zero_shiftLeft, z, UInt32.shiftLeft_or, h16, h24]

set_option maxRecDepth 100000 in
set_option maxHeartbeats 1000000 in
theorem words32_calls (g off cap : Nat) (b : Nat → UInt8) (w : World) (hg : g < w.heap.size) (hb : ∀ i, i < 64 → w.cell? ⟨g, off + i, none⟩ = some (v8 (b i))) : Calls Try.prog 36 #[.slice (some ⟨g, off, none⟩) 64 cap] w fun e w' => ∃ q, e = .returned (.slice (some ⟨q, 0, none⟩) 64 64) ∧ w.heap.size ≤ q ∧ w'.heap[q]? = some (.cells (fa v32 64 (sch32 b)) 50 (0, 0)) ∧ Below w.heap.size w w' := by
  have HB := Lib.hid hb
  clear hb
  have hmk : ∀ w, (Instr.makeSlice 45 (.int .i64 64) (.int .i64 64)).run Try.prog w = .ok (.slice (some ⟨w.heap.size, 0, none⟩) 64 64) (w.alloc (.cells (fa v32 64 fun _ => 0) 50)) := fun _ => by kernel_rfl
  go_enter Try.func36, Try.ntmps36
  go_wp2
  go_loopw [4] (fun i wr => ∃ k : Nat, k ≤ 16 ∧ i = .int .i64 k ∧ wr.heap[w.heap.size]? = some (.cells (fa v32 64 (fun j => if j < k then sch32 b j else 0)) 50 (0,0)) ∧ Below w.heap.size w wr) (fun i _ => 16 - (intOf i).toNat)
  case atStart => exact ⟨0, by omega, rfl, new1 w _, (Below.refl _ _).alloc (Nat.le_refl _) _⟩
  case round =>
    obtain ⟨k, hk, rfl, hf, hbl⟩ := hrel
    have HF := Lib.hid hf
    by_cases hlt : k < 16
    · have hc : ∀ j, j < 64 → wr.cell? ⟨g, off + j, none⟩ = some (v8 (b j)) := fun j hj => by rw [← HB.out j hj]; exact hbl.cell (p := ⟨g, _, none⟩) hg
      have hc0 : wr.cell? ⟨g, off + 4 * k, none⟩ = some (v8 (b (4 * k))) := hc _ (by omega)
      have hc1 : wr.cell? ⟨g, off + (4 * k + 1), none⟩ = some (v8 (b (4 * k + 1))) := hc _ (by omega)
      have hc2 : wr.cell? ⟨g, off + (4 * k + 2), none⟩ = some (v8 (b (4 * k + 2))) := hc _ (by omega)
      have hc3 : wr.cell? ⟨g, off + (4 * k + 3), none⟩ = some (v8 (b (4 * k + 3))) := hc _ (by omega)
      have hk1 : wr.cell? ⟨w.heap.size, k, none⟩ = some (v32 0) := by rw [cell_of hf, fa_get _ _ _ _ (by omega), if_neg (by omega)]
      have hfr : wr.frozen? ⟨w.heap.size, k, none⟩ = false := frozen_of hf k
      clear hf hc
      go_wp2
      go_region
      go_wp2
      go_roundw
      case rel =>
        refine ⟨k + 1, by omega, by go_num, (set_of HF.out _ _).trans ?_, hbl.drew.setCell (by simp) _⟩
        rw [fa_set]
        congr 3
        funext j
        simp only [upd]
        by_cases h : j = k
        · subst h; simp [sch32_lo b j hlt, be4]
        · have : j < k + 1 ↔ j < k := by omega
          simp [h, this]
      case measure => simp [intOf]; omega
    · obtain rfl : k = 16 := by omega
      clear hk hlt hf
      go_wp2
      obtain ⟨wo, rfl⟩ : ∃ wo : World, wo = wr := ⟨_, rfl⟩
      go_loopw [5] (fun i wr => ∃ k : Nat, 16 ≤ k ∧ k ≤ 64 ∧ i = .int .i64 k ∧ wr.heap[w.heap.size]? = some (.cells (fa v32 64 (fun j => if j < k then sch32 b j else 0)) 50 (0,0)) ∧ Below w.heap.size w wr) (fun i _ => 64 - (intOf i).toNat)
      case atStart => exact ⟨16, by omega, by omega, rfl, HF.out, hbl⟩
      case round =>
        obtain ⟨k, hk0, hk, rfl, hf, hbl⟩ := hrel
        have HF2 := Lib.hid hf
        by_cases hlt : k < 64
        · have hg : ∀ j, j < k → wr.cell? ⟨w.heap.size, j, none⟩ = some (v32 (sch32 b j)) := fun j hj => by rw [cell_of hf, fa_get _ _ _ _ (by omega), if_pos hj]
          have h15 := hg (k - 15) (by omega)
          have h2 := hg (k - 2) (by omega)
          have h16 := hg (k - 16) (by omega)
          have h7 := hg (k - 7) (by omega)
          have hk1 : wr.cell? ⟨w.heap.size, k, none⟩ = some (v32 0) := by rw [cell_of hf, fa_get _ _ _ _ (by omega), if_neg (by omega)]
          have hfr : wr.frozen? ⟨w.heap.size, k, none⟩ = false := frozen_of hf k
          clear hf hg
          go_wp2
          go_quiet (fail)
          go_wp2
          refine wp_region_quiet_tail 32 (by kernel_rfl) (by kernel_rfl) ?_
          simp only [List.take_succ_cons, List.take_zero, List.drop_succ_cons, List.drop_zero]
          repeat (go_big_quiet_step ((go_at_call 37; exact rot32_quiet _ _ (by omega) (by omega) _ (fun n => ⟨_, by simp only [World.drewN_drewN, Nat.add_assoc]; rfl⟩))))
          refine wpQuiet_nil ?_
          intro _ hw'
          obtain ⟨nq, hw''⟩ := hw'
          subst hw''
          go_wp2
          go_roundw
          case rel =>
            refine ⟨k + 1, by omega, by omega, by go_num, (set_of HF2.out _ _).trans ?_, Below.setCell (Below.drewN hbl _) (by simp) _⟩
            rw [fa_set]
            congr 3
            funext j
            simp only [upd]
            by_cases h : j = k
            · subst h; simp [sch32_hi b j (by omega)]; rfl
            · have : j < k + 1 ↔ j < k := by omega
              simp [h, this]
          case measure => simp [intOf]; omega
        · obtain rfl : k = 64 := by omega
          have HF3 := Lib.hid (hf.trans (congrArg (fun c => some (Obj.cells c 50 (0, 0))) (fa_ext v32 64 _ (sch32 b) fun j hj => by rw [if_pos hj])))
          clear hf
          go_wp2
          go_ret
          exact ⟨_, rfl, Nat.le_refl _, HF3.out, hbl⟩
end Go.Proofs.Ytkkfpgkogggfdaa.Cw
