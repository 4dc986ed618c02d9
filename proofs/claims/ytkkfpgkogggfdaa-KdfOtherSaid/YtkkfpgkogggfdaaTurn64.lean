/-
  (package sha512) What a block's turn computes: the hash's words become blk64 of them and of the block; the rest of the struct, and all that memory held besides, stays. Condition: the block has 64 bytes, and lies elsewhere than the struct.
-/
import Derived.Test.YtkkfpgkogggfdaaRot64
set_option linter.unusedSimpArgs false
set_option linter.unusedVariables false
namespace Go.Proofs.Ytkkfpgkogggfdaa.Cw
open Go Go.RowKit
attribute [local go_sem ↓ high] bin_or64 bin_xor64 bin_and64 bin_add64 bin_shr64 bin_shl64 un_xor64 run_conv8_64
attribute [local go_sem ↓ high] cells_v64 cells_v8 run_store_v64 run_store_v8
attribute [local go_sem high] match_v64 match_v8 run_store_v64 run_store_v8

theorem rotate64_quiet (x : UInt64) (c : Int) (h0 : 0 < c) (h1 : c < 64) (w : World) {C : World → Prop} (h : C w) : Calls Try.prog 55 #[v64 x, .int .i64 c] w fun e w'' => e = .returned (v64 (rr64 x (UInt64.ofNat c.toNat))) ∧ C w'' :=
  (rotate64_calls x c h0 h1 _).mono fun _ _ ⟨he, hw⟩ => ⟨he, by rw [← hw]; exact h⟩

set_option maxRecDepth 100000 in
set_option maxHeartbeats 2000000 in
theorem turn64_calls (b g off cap : Nat) (bs : Nat → UInt8) (size rest len : Value) (h k : Nat → UInt64) (w : World) (hg : g < w.heap.size)
    (hb : ∀ i, i < 128 → w.cell? ⟨g, off + i, none⟩ = some (v8 (bs i))) (ho : w.heap[b]? = some (.cells (hobj v64 80 size h k rest len) 92 (0, 0))) :
    Calls Try.prog 51 #[.pointer (some ⟨b, 0, none⟩), .slice (some ⟨g, off, none⟩) 128 cap] w fun e w' => e = .returned (.tuple #[]) ∧ w'.heap[b]? = some (.cells (hobj v64 80 size (blk64 k h bs) k rest len) 92 (0, 0)) ∧ But b w w' := by
  have hbl := lt_of ho
  have HO := Lib.hid ho
  have HB := Lib.hid hb
  clear ho hb
  go_enter Try.func51, Try.ntmps51
  go_wp2_with (first
    | (go_at_call 54; refine (schedule64_calls g off cap bs _ hg HB.out).mono ?_; rintro e w1 ⟨rfl, hb1⟩)
    | (refine wpList_alloc_zero rfl 89 rfl (.agg (fa v64 80 fun _ => 0)) (by kernel_rfl) ?_)
    | (refine wpList_store_blk rfl 89 _ _ rfl w1.heap.size rfl _ _ (fa v64 80 (sch64 bs)) rfl (new1 _ _) (by rw [fa_size]; kernel_rfl) (by rw [fa_size]; kernel_rfl) (one_fa _ _ _ one_v64) ?_
       intro w2 hw2 hb2 hs2
       have hB2 : Below w.heap.size w w2 := But.below (hb1.alloc hb1.size _) hb2 hb1.size (by have := hb1.size; simp; omega)
       have HO2 := Lib.hid (below_heap hB2 hbl HO.out)
       have HW2 := Lib.hid hw2
       have hl2 := lt_of hw2
       clear hb2 hs2 hw2)
    | (refine wpList_load_seg rfl 86 _ rfl b 1 8 rfl _ _ (fa v64 8 h) _ _ HO2.out Try.underlying86 rfl (by kernel_rfl) (fa_size _ _ _) (fun j hj => by rw [hobj_h _ _ _ _ _ _ _ _ hj, fa_get _ _ _ _ hj]) ?_)
    | (refine wpList_store_blk rfl 86 _ _ rfl w2.heap.size rfl _ _ (fa v64 8 h) rfl (new1 _ _) (by rw [fa_size]; kernel_rfl) (by rw [fa_size]; kernel_rfl) (one_fa _ _ _ one_v64) ?_
       intro w3 hw3 hb3 hs3
       have hB3 : Below w.heap.size w w3 := But.below (hB2.alloc hB2.size _) hb3 hB2.size (by have := hB2.size; simp; omega)
       have HO3 := Lib.hid (below_heap hB3 hbl HO.out)
       have HW3 := Lib.hid hw3
       have HV3 := Lib.hid (But.heap hb3 (by omega) (alloc_far HW2.out _))
       have hl3 := lt_of hw3
       clear hb3 hs3 hw3))
  go_loopw [19] (fun i wr => ∃ m : Nat, m ≤ 80 ∧ i = .int .i64 m ∧ wr.heap[w1.heap.size]? = some (.cells (fa v64 80 (sch64 bs)) 89 (0, 0)) ∧ wr.heap[w2.heap.size]? = some (.cells (fa v64 8 (rs64 k (sch64 bs) h m)) 86 (0, 0)) ∧ Below w.heap.size w wr) (fun i _ => 80 - (intOf i).toNat)
  case atStart => exact ⟨0, by omega, rfl, HV3.out, HW3.out, hB3⟩
  case round =>
    obtain ⟨m, hm, rfl, hs, hx, hbw⟩ := hrel
    have HS := Lib.hid hs
    have HX := Lib.hid hx
    have hO := below_heap hbw hbl HO.out
    have HOr := Lib.hid hO
    by_cases hlt : m < 80
    · have hsm : wr.cell? ⟨w1.heap.size, m, none⟩ = some (v64 (sch64 bs m)) := by rw [cell_of hs, fa_get _ _ _ _ hlt]
      have hkm : wr.cell? ⟨b, 9 + m, none⟩ = some (v64 (k m)) := by rw [cell_of hO, hobj_k _ _ _ _ _ _ _ _ hlt]
      obtain ⟨X, hXe⟩ : ∃ X, X = rs64 k (sch64 bs) h m := ⟨_, rfl⟩
      rw [← hXe] at hx
      have hx0 : wr.cell? ⟨w2.heap.size, 0, none⟩ = some (v64 (X 0)) := by rw [cell_of hx, fa_get _ _ _ _ (by omega)]
      have hx1 : wr.cell? ⟨w2.heap.size, 1, none⟩ = some (v64 (X 1)) := by rw [cell_of hx, fa_get _ _ _ _ (by omega)]
      have hx2 : wr.cell? ⟨w2.heap.size, 2, none⟩ = some (v64 (X 2)) := by rw [cell_of hx, fa_get _ _ _ _ (by omega)]
      have hx3 : wr.cell? ⟨w2.heap.size, 3, none⟩ = some (v64 (X 3)) := by rw [cell_of hx, fa_get _ _ _ _ (by omega)]
      have hx4 : wr.cell? ⟨w2.heap.size, 4, none⟩ = some (v64 (X 4)) := by rw [cell_of hx, fa_get _ _ _ _ (by omega)]
      have hx5 : wr.cell? ⟨w2.heap.size, 5, none⟩ = some (v64 (X 5)) := by rw [cell_of hx, fa_get _ _ _ _ (by omega)]
      have hx6 : wr.cell? ⟨w2.heap.size, 6, none⟩ = some (v64 (X 6)) := by rw [cell_of hx, fa_get _ _ _ _ (by omega)]
      have hx7 : wr.cell? ⟨w2.heap.size, 7, none⟩ = some (v64 (X 7)) := by rw [cell_of hx, fa_get _ _ _ _ (by omega)]
      have HXE := Lib.hid hXe
      clear hs hx hO hXe
      go_wp2
      go_quiet ((go_at_call 55; exact rotate64_quiet _ _ (by omega) (by omega) _ ⟨_, rfl⟩))
      go_wp2
      go_quiet (fail)
      go_wp2
      go_quiet ((go_at_call 55; exact rotate64_quiet _ _ (by omega) (by omega) _ ⟨_, rfl⟩))
      go_wp2_with (refine wpList_store_blk rfl 86 _ _ rfl w2.heap.size rfl _ _ (fa v64 8 (rnd64 (k m) (sch64 bs m) X)) rfl HX.out (by rw [fa_size]; kernel_rfl) (by rw [fa_size, fa_size]) (one_fa _ _ _ one_v64) ?_; intro w5 hw5 hb5 hs5)
      have hb5' := But.of_drewN hb5
      go_roundw
      case rel => exact ⟨m + 1, by omega, by go_num, But.heap hb5' (by omega) HS.out, by rw [hw5, HXE.out]; rfl, But.below hbw hb5' (by have := hB2.size; omega) hbw.size⟩
      case measure => simp [intOf]; omega
    · obtain rfl : m = 80 := by omega
      clear hs hx hO
      go_wp2
      obtain ⟨X, hXe⟩ : ∃ X, X = rs64 k (sch64 bs) h 80 := ⟨_, rfl⟩
      have HXE := Lib.hid hXe
      have HX2 := Lib.hid (show wr.heap[w2.heap.size]? = some (.cells (fa v64 8 X) 86 (0, 0)) from by rw [hXe]; exact HX.out)
      clear hXe HX
      obtain ⟨wo, rfl⟩ : ∃ wo : World, wo = wr := ⟨_, rfl⟩
      have hq := hB2.size
      go_loopw [113] (fun i wr => ∃ m : Nat, m ≤ 8 ∧ i = .int .i64 m ∧ wr.heap[b]? = some (.cells (hobj v64 80 size (fun j => if j < m then h j + X j else h j) k rest len) 92 (0, 0)) ∧ wr.heap[w2.heap.size]? = some (.cells (fa v64 8 X) 86 (0, 0)) ∧ But b w wr) (fun i _ => 8 - (intOf i).toNat)
      case atStart => exact ⟨0, by omega, rfl, by simpa using HOr.out, HX2.out, But.of_below hbw⟩
      case round =>
        obtain ⟨m, hm, rfl, ho, hx, hbt⟩ := hrel
        have HO5 := Lib.hid ho
        have HX5 := Lib.hid hx
        by_cases hlt : m < 8
        · have hc1 : wr.cell? ⟨b, 1 + m, none⟩ = some (v64 (h m)) := by rw [cell_of ho, hobj_h _ _ _ _ _ _ _ _ hlt, if_neg (by omega)]
          have hc2 : wr.cell? ⟨w2.heap.size, m, none⟩ = some (v64 (X m)) := by rw [cell_of hx, fa_get _ _ _ _ hlt]
          have hfr : wr.frozen? ⟨b, 1 + m, none⟩ = false := frozen_of ho _
          clear ho hx
          go_wp2
          go_region
          go_wp2
          go_roundw
          case rel =>
            refine ⟨m + 1, by omega, by go_num, (set_of HO5.out _ _).trans ?_, set_far HX5.out (by omega) _ _, But.setCell (But.drew hbt) (.inl rfl) _⟩
            rw [hobj_set_h _ _ _ _ _ _ _ _ hlt]
            congr 3
            funext j
            simp only [upd]
            by_cases e : j = m
            · subst e; simp
            · have : j < m + 1 ↔ j < m := by omega
              simp [e, this]
          case measure => simp [intOf]; omega
        · obtain rfl : m = 8 := by omega
          clear ho hx
          go_wp2
          go_end0
          refine ⟨rfl, HO5.out.trans ?_, hbt⟩
          rw [hobj_ext v64 80 size _ k rest len (blk64 k h bs) (fun i hi => by rw [if_pos hi, HXE.out]; rfl)]
end Go.Proofs.Ytkkfpgkogggfdaa.Cw
