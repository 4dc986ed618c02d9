/-
  (package curvetref7) What the document's own Of gives at hashes 1 and 2: dig32. Condition: a text takes at most 2^46 bytes.
-/
import Derived.Test.YtkkfpgkogggfdaaRefC
import Derived.BigQuiet
import Derived.Deep.RegionHeld3
set_option linter.unusedSimpArgs false
set_option linter.unusedVariables false
namespace Go.Proofs.Ytkkfpgkogggfdaa.Cw
open Go Go.RowKit
attribute [local go_sem ↓ high] bin_or64 bin_xor64 bin_and64 bin_add64 bin_shr64 bin_shl64 bin_or32 bin_shr32 bin_mul64_8 bin_and64_255 bin_and32_255 conv_len run_conv64_8 run_conv32_8
attribute [local go_sem ↓ high] cells_v32 cells_v8 cells_v64 run_store_v32 run_store_v8 run_store_v64
attribute [local go_sem high] match_v32 match_v8 match_v64 run_store_v32 run_store_v8 run_store_v64

theorem wb32_four (x : UInt32) : wb32 x = [(x >>> 24).toUInt8, (x >>> 16).toUInt8, (x >>> 8).toUInt8, x.toUInt8] := by
  simp [wb32, List.range_succ]

set_option maxRecDepth 100000 in
set_option maxHeartbeats 4000000 in
theorem refOf32_calls (id bits : Nat) (s : ByteArray) (w : World) (hid : id = 1 ∧ bits = 224 ∨ id = 2 ∧ bits = 256) (hs : s.size ≤ 140737488351232) :
    Calls Try.prog 14 #[.int .i64 id, .string s] w fun e w' => e = .returned (.string ⟨(dig32 bits s.data.toList).toArray⟩) ∧ Below w.heap.size w w' := by
  obtain ⟨i0, hi, hz0, hz1, hz2⟩ := info_parts info_u8
  have HI := Lib.hid hi
  have HZ0 := Lib.hid hz0
  have HZ1 := Lib.hid hz1
  have HZ2 := Lib.hid hz2
  clear hi hz0 hz1 hz2
  go_enter Try.func14, Try.ntmps14
  have hblk : (if (id : Int) = 1 ∨ (id : Int) = 2 then (64 : Int) else if (id : Int) = 3 ∨ (id : Int) = 4 then 128 else 0) = 64 := by rw [if_pos (by omega)]
  have hbeg : (if (id : Int) = 1 then h224 else h256) = beg32 bits := by
    rcases hid with ⟨rfl, rfl⟩ | ⟨rfl, rfl⟩ <;> rfl
  have hsz : refSize (id : Int) = bits / 8 := by
    rcases hid with ⟨rfl, rfl⟩ | ⟨rfl, rfl⟩ <;> rfl
  obtain ⟨L, hL⟩ : ∃ L, L = s.data.toList ++ tail32 s.size := ⟨_, rfl⟩
  obtain ⟨N, hN⟩ : ∃ N, N = s.size + (tail32 s.size).length := ⟨_, rfl⟩
  have hNm : N % 64 = 0 := by rw [hN]; exact tail32_length _
  have hNs : N ≤ 140737488351232 + 200 := by rw [hN, tail32]; simp [len8_length]; omega
  have HBLK := Lib.hid hblk
  have HBEG := Lib.hid hbeg
  have HSZ := Lib.hid hsz
  have HL := Lib.hid hL
  have HN := Lib.hid hN
  clear hblk hbeg hsz hL hN
  go_wp2_with (first
    | (go_at_call 19; refine (refBlock_calls _ _).mono ?_; rintro e w1 ⟨rfl, rfl⟩; rw [HBLK.out])
    | (go_at_call 20; refine (begin32_calls _ _).mono ?_; rintro e w1 ⟨rfl, hh1, hb1, hs1⟩; rw [HBEG.out] at hh1; have HH1 := Lib.hid hh1; have HS1 := Lib.hid hs1; clear hh1 hs1)
    | (go_at_call 21; refine (k32_calls _).mono ?_; rintro e w2 ⟨rfl, hk2, hb2, hs2⟩; have HK2 := Lib.hid hk2; have HS2 := Lib.hid hs2; clear hk2 hs2)
    | (go_at_call 22; refine (padded_calls s _ hs).mono ?_; rintro e w3 ⟨g, c, rfl, how3, hb3⟩; rw [← HN.out, ← HL.out] at how3; have HW3 := Lib.hid how3; clear how3; rw [← HN.out]))
  have z1 := hb1.size
  have z2 := hb2.size
  have z3 := hb3.size
  have zq := lt_of HH1.out
  have zk := lt_of HK2.out
  have HHq := Lib.hid (below_heap hb3 (by omega) (below_heap hb2 zq HH1.out))
  have HKq := Lib.hid (below_heap hb3 zk HK2.out)
  have HRd := Lib.hid (HW3.out.rd (fun g => w2.heap.size ≤ g) (fun g h => h))
  have hgb : w2.heap.size ≤ g ∧ g < w3.heap.size := HW3.out.lt g rfl
  have hB3 : Below w.heap.size w w3 := hb1.trans ((hb2.mono z1).trans (hb3.mono (by omega)))
  go_loopw [9] (fun i wr => ∃ j : Nat, 64 * j ≤ N ∧ i = .int .i64 (64 * (j : Int)) ∧ wr.heap[w.heap.size]? = some (.cells (fa v32 8 (abs32 k256 (beg32 bits) L j)) 50 (0, 0)) ∧ But w.heap.size w3 wr) (fun i _ => N - (intOf i).toNat)
  case atStart => exact ⟨0, by omega, rfl, HHq.out, But.refl _ _⟩
  case round =>
    obtain ⟨j, hj, rfl, hh, hb⟩ := hrel
    have HH := Lib.hid hh
    clear hh
    have zr := hb.size
    have HR2 := Lib.hid (HRd.out.but hb (fun g h => by omega))
    have HK := Lib.hid (hb.heap (by omega) HKq.out)
    have hcap := HR2.out.cap
    by_cases hlt : 64 * j < N
    · have hj2 : 64 * j + 64 ≤ N := by omega
      have HC := Lib.hid (show ∀ i, i < 64 → wr.cell? ⟨g, 64 * j + i, none⟩ = some (v8 ((fun i => L.getD (64 * j + i) 0) i)) from fun i hi => by
        obtain ⟨g', off, e, _, _, hc⟩ := HR2.out.2.2 (by omega)
        injection e with e
        injection e with e1 e2 e3
        subst e1 e2
        have := hc (64 * j + i) (by omega)
        rw [Nat.zero_add] at this
        exact this)
      go_wp2_with (go_at_call 23; refine (block32_calls w.heap.size 8 w1.heap.size 64 g (64 * j) _ (fun i => L.getD (64 * j + i) 0) _ k256 _ (by omega) HC.out HH.out HK.out).mono ?_; rintro e w4 ⟨rfl, hh4, hb4⟩; have HH4 := Lib.hid hh4; clear hh4)
      go_roundw
      case rel => exact ⟨j + 1, by omega, by go_num, HH4.out, hb.trans hb4⟩
      case measure => simp [intOf]; omega
    · obtain rfl : j = N / 64 := by omega
      obtain ⟨H, hH⟩ : ∃ H, H = abs32 k256 (beg32 bits) L (N / 64) := ⟨_, rfl⟩
      rw [← hH] at HH
      have HHe := Lib.hid hH
      have hBr : Below w.heap.size w wr := But.below hB3 hb (Nat.le_refl _) (by omega)
      clear hH hlt hj
      go_wp2
      obtain ⟨wo, rfl⟩ : ∃ wo : World, wo = wr := ⟨_, rfl⟩
      go_loopw [10, 5] (fun i sv wr => ∃ n : Nat, n ≤ 8 ∧ i = .int .i64 n ∧ Ow wr wo.heap.size 5 1 sv (4 * n) ((out32 H n).map v8) ∧ Below wo.heap.size wo wr) (fun i _ _ => 8 - (intOf i).toNat)
      case atStart => exact ⟨0, by omega, rfl, by simpa [out32] using Ow.nil _ _ _ _, Below.refl _ _⟩
      case round =>
        obtain ⟨n, hn, rfl, hown, hbn⟩ := hrel
        obtain ⟨A2, c2, rfl, hc2⟩ := hown.slice
        have HWn := Lib.hid hown
        have hsn := hbn.size
        clear hown
        by_cases hlt : n < 8
        · have hcell : wr.cell? ⟨w.heap.size, n, none⟩ = some (v32 (H n)) := by rw [cell_of (below_heap hbn (lt_of HH.out) HH.out), fa_get _ _ _ _ hlt]
          go_wp2
          go_region_held3 (fun w' => w'.cell? ⟨w.heap.size, n, none⟩ = some (v32 (H n))) (go_keep)
            ((refine step_append_rd (by rfl) (.tmp 43) (.tmp 70) 33 (by rfl) wo.heap.size 5 i0 Try.underlying33 HI.out HZ0.out HZ1.out HZ2.out (.slice A2 (4 * n) c2) (4 * n) (out32 H n) (by rfl) (HWn.out.alloc _) (some ⟨wr.heap.size, 0, none⟩) 4 4 [(H n >>> 24).toUInt8, ((H n >>> 16).toUInt8 &&& 255), ((H n >>> 8).toUInt8 &&& 255), ((H n).toUInt8 &&& 255)] (fun _ => True) (by rfl) (Rd.row [_, _, _, _] 4 rfl _ trivial (new1 wr _) rfl) (by omega) (by simp; omega) ?_
              intro v3 w5 hown3 hg3 hat3
              have hb5 : Below wo.heap.size wo w5 := (Below.drew (hbn.alloc (by omega) _)).grown hg3 (by simp; omega) (fun k hk => (HWn.out.lt k hk).1)
              have kp : w5.cell? ⟨w.heap.size, n, none⟩ = some (v32 (H n)) := by rw [cell_of (below_heap hb5 (lt_of HH.out) HH.out), fa_get _ _ _ _ hlt]
              have HW5 := Lib.hid hown3
              clear hat3 hg3 hown3))
          go_wp2
          go_roundw
          case rel =>
            repeat apply Exists.intro
            refine ⟨⟨n + 1, by omega, by go_num, ?_, hb5⟩, rfl⟩
            have e := HW5.out
            rw [out32_succ, wb32_four]
            rw [all8, all8, all8] at e
            exact e
          case measure => simp [intOf]; omega
        · obtain rfl : n = 8 := by omega
          have hBn : Below w.heap.size w wr := hBr.trans (hbn.mono hBr.size)
          have hH2 : dig32 bits s.data.toList = (out32 H 8).take (bits / 8) := by
            unfold dig32 fin32
            have e1 : s.data.toList.length = s.size := by simp
            rw [e1, ← HL.out, HHe.out]
            congr 2
            rw [HN.out, HL.out, List.length_append, e1]
          have hrd := HWn.out.rd (fun _ => True) (fun _ _ => trivial)
          have HRD := Lib.hid hrd
          have hb8 : bits / 8 ≤ 32 := by rcases hid with ⟨_, rfl⟩ | ⟨_, rfl⟩ <;> decide
          have hcv := run_convert_rd (P := Try.prog) (HRD.out.take (k := bits / 8) (by omega)) 33 9 5 Try.underlying33 Try.underlying5 Try.underlying9
          clear hrd
          go_wp2_with (go_at_call 13; refine (refSize_calls _ _).mono ?_; rintro e w4 ⟨rfl, rfl⟩; rw [HSZ.out])
          go_ret
          exact ⟨by rw [hH2]; rfl, hBn⟩
end Go.Proofs.Ytkkfpgkogggfdaa.Cw
