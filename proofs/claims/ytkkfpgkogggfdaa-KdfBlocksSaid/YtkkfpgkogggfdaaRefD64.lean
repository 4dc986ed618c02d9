/-
  (package curvetref7) What the document's own Of gives at hashes 3 and 4: dig64. Condition: a text takes at most 2^47 - 4096 bytes.
-/
import Derived.Test.YtkkfpgkogggfdaaRefC64
import Derived.BigQuiet
set_option linter.unusedSimpArgs false
set_option linter.unusedVariables false
namespace Go.Proofs.Ytkkfpgkogggfdaa.Cw
open Go Go.RowKit
attribute [local go_sem ↓ high] bin_or64 bin_xor64 bin_and64 bin_add64 bin_shr64 bin_shl64 bin_mul64_8 bin_and64_255 conv_len run_conv64_8
attribute [local go_sem ↓ high] cells_v8 cells_v64 run_store_v8 run_store_v64
attribute [local go_sem high] match_v8 match_v64 run_store_v8 run_store_v64

theorem wb64_step (x : UInt64) (k : Nat) (hk : k < 8) (q : Nat) (hq : q = 7 - k) : (wb64 x).take k ++ [(x >>> (8 * UInt64.ofNat q)).toUInt8 &&& 255] = (wb64 x).take (k + 1) := by
  subst hq
  rw [all8, show (8 : UInt64) = UInt64.ofNat 8 from rfl, ← UInt64.ofNat_mul, ← wb64_take x k hk, show 8 * (7 - k) = 56 - 8 * k from by omega]

set_option maxRecDepth 100000 in
set_option maxHeartbeats 4000000 in
theorem refOf64_calls (id bits : Nat) (s : ByteArray) (w : World) (hid : id = 3 ∧ bits = 384 ∨ id = 4 ∧ bits = 512) (hs : s.size ≤ 140737488351232) :
    Calls Try.prog 14 #[.int .i64 id, .string s] w fun e w' => e = .returned (.string ⟨(dig64 bits s.data.toList).toArray⟩) ∧ Below w.heap.size w w' := by
  obtain ⟨i0, hi, hz0, hz1, hz2⟩ := info_parts info_u8
  have HI := Lib.hid hi
  have HZ0 := Lib.hid hz0
  have HZ1 := Lib.hid hz1
  have HZ2 := Lib.hid hz2
  clear hi hz0 hz1 hz2
  go_enter Try.func14, Try.ntmps14
  have hblk : (if (id : Int) = 1 ∨ (id : Int) = 2 then (64 : Int) else if (id : Int) = 3 ∨ (id : Int) = 4 then 128 else 0) = 128 := by rw [if_neg (by omega), if_pos (by omega)]
  have hbeg : (if (id : Int) = 3 then h384 else h512) = beg64 bits := by
    rcases hid with ⟨rfl, rfl⟩ | ⟨rfl, rfl⟩ <;> rfl
  have hsz : refSize (id : Int) = bits / 8 := by
    rcases hid with ⟨rfl, rfl⟩ | ⟨rfl, rfl⟩ <;> rfl
  obtain ⟨L, hL⟩ : ∃ L, L = s.data.toList ++ tail64 s.size := ⟨_, rfl⟩
  obtain ⟨N, hN⟩ : ∃ N, N = s.size + (tail64 s.size).length := ⟨_, rfl⟩
  have hNm : N % 128 = 0 := by rw [hN]; exact tail64_length _
  have hNs : N ≤ 140737488351232 + 400 := by rw [hN, tail64]; simp [len8_length]; omega
  have HBLK := Lib.hid hblk
  have HBEG := Lib.hid hbeg
  have HSZ := Lib.hid hsz
  have HL := Lib.hid hL
  have HN := Lib.hid hN
  clear hblk hbeg hsz hL hN
  go_wp2_with (first
    | (go_at_call 19; refine (refBlock_calls _ _).mono ?_; rintro e w1 ⟨rfl, rfl⟩; rw [HBLK.out])
    | (go_at_call 24; refine (begin64_calls _ _).mono ?_; rintro e w1 ⟨rfl, hh1, hb1, hs1⟩; rw [HBEG.out] at hh1; have HH1 := Lib.hid hh1; have HS1 := Lib.hid hs1; clear hh1 hs1)
    | (go_at_call 25; refine (k64_calls _).mono ?_; rintro e w2 ⟨rfl, hk2, hb2, hs2⟩; have HK2 := Lib.hid hk2; have HS2 := Lib.hid hs2; clear hk2 hs2)
    | (go_at_call 26; refine (long_calls s _ hs).mono ?_; rintro e w3 ⟨g, c, rfl, how3, hb3⟩; rw [← HN.out, ← HL.out] at how3; have HW3 := Lib.hid how3; clear how3; rw [← HN.out]))
  have z1 := hb1.size
  have z2 := hb2.size
  have z3 := hb3.size
  have zq := lt_of HH1.out
  have zk := lt_of HK2.out
  have HHq := Lib.hid (below_heap hb3 (by omega) (below_heap hb2 zq HH1.out))
  have HKq := Lib.hid (below_heap hb3 zk HK2.out)
  have HRd := Lib.hid (HW3.out.rd (fun g => w2.heap.size ≤ g) (fun g h => h))
  have hgb : w2.heap.size ≤ g ∧ g < w3.heap.size := HW3.out.lt g rfl
  have hB3 : Below w.heap.size w w3 := hb1.trans ((hb2.mono z1).trans (hb3.mono (by omega)))
  go_loopw [14] (fun i wr => ∃ j : Nat, 128 * j ≤ N ∧ i = .int .i64 (128 * (j : Int)) ∧ wr.heap[w.heap.size]? = some (.cells (fa v64 8 (abs64 k512 (beg64 bits) L j)) 55 (0, 0)) ∧ But w.heap.size w3 wr) (fun i _ => N - (intOf i).toNat)
  case atStart => exact ⟨0, by omega, rfl, HHq.out, But.refl _ _⟩
  case round =>
    obtain ⟨j, hj, rfl, hh, hb⟩ := hrel
    have HH := Lib.hid hh
    clear hh
    have zr := hb.size
    have HR2 := Lib.hid (HRd.out.but hb (fun g h => by omega))
    have HK := Lib.hid (hb.heap (by omega) HKq.out)
    have hcap := HR2.out.cap
    by_cases hlt : 128 * j < N
    · have hj2 : 128 * j + 128 ≤ N := by omega
      have HC := Lib.hid (show ∀ i, i < 128 → wr.cell? ⟨g, 128 * j + i, none⟩ = some (v8 ((fun i => L.getD (128 * j + i) 0) i)) from fun i hi => by
        obtain ⟨g', off, e, _, _, hc⟩ := HR2.out.2.2 (by omega)
        injection e with e
        injection e with e1 e2 e3
        subst e1 e2
        have := hc (128 * j + i) (by omega)
        rw [Nat.zero_add] at this
        exact this)
      go_wp2_with (go_at_call 27; refine (block64_calls w.heap.size 8 w1.heap.size 80 g (128 * j) _ (fun i => L.getD (128 * j + i) 0) _ k512 _ (by omega) HC.out HH.out HK.out).mono ?_; rintro e w4 ⟨rfl, hh4, hb4⟩; have HH4 := Lib.hid hh4; clear hh4)
      go_roundw
      case rel => exact ⟨j + 1, by omega, by go_num, HH4.out, hb.trans hb4⟩
      case measure => simp [intOf]; omega
    · obtain rfl : N = 128 * j := by omega
      obtain ⟨H, hH⟩ : ∃ H, H = abs64 k512 (beg64 bits) L j := ⟨_, rfl⟩
      rw [← hH] at HH
      have HHe := Lib.hid hH
      have hBr : Below w.heap.size w wr := But.below hB3 hb (Nat.le_refl _) (by omega)
      clear hH hlt hj
      go_wp2
      obtain ⟨wo, rfl⟩ : ∃ wo : World, wo = wr := ⟨_, rfl⟩
      go_loopw [15, 5] (fun i sv wr => ∃ n : Nat, n ≤ 8 ∧ i = .int .i64 n ∧ Ow wr wo.heap.size 5 1 sv (8 * n) ((out64 H n).map v8) ∧ Below wo.heap.size wo wr) (fun i _ _ => 8 - (intOf i).toNat)
      case atStart => exact ⟨0, by omega, rfl, by simpa [out64] using Ow.nil _ _ _ _, Below.refl _ _⟩
      case round =>
        obtain ⟨n, hn, rfl, hown, hbn⟩ := hrel
        obtain ⟨A2, c2, rfl, hc2⟩ := hown.slice
        have HWn := Lib.hid hown
        have hsn := hbn.size
        clear hown
        by_cases hlt : n < 8
        · have hv8 : decide ((n : Int) < 8) = true := by simp; omega
          go_wp2
          obtain ⟨wp, rfl⟩ : ∃ wp : World, wp = wr := ⟨_, rfl⟩
          go_loopw [16, 5] (fun i sv wr => ∃ k : Nat, k ≤ 8 ∧ i = .int .i64 (7 - (k : Int)) ∧ Ow wr wo.heap.size 5 1 sv (8 * n + k) ((out64 H n ++ (wb64 (H n)).take k).map v8) ∧ Below wo.heap.size wo wr) (fun i _ _ => (intOf i + 1).toNat)
          case atStart => exact ⟨0, by omega, rfl, by simpa using HWn.out, hbn⟩
          case round =>
            obtain ⟨k, hk, rfl, hown, hbx⟩ := hrel
            obtain ⟨A2, c2, rfl, hc2⟩ := hown.slice
            have HWx := Lib.hid hown
            have hsx := hbx.size
            clear hown
            by_cases hlt8 : k < 8
            · obtain ⟨q, hq⟩ : ∃ q : Nat, q = 7 - k := ⟨_, rfl⟩
              have hqe : (7 : Int) - (k : Int) = (q : Int) := by omega
              have hq8 : q < 8 := by omega
              have hcell : wr.cell? ⟨w.heap.size, n, none⟩ = some (v64 (H n)) := by rw [cell_of (below_heap hbx (lt_of HH.out) HH.out), fa_get _ _ _ _ hlt]
              rw [hqe]
              go_wp2_with (at_builtin; go_must (
                 refine wpList_append_rd rfl (.tmp 104) (.tmp 114) 33 rfl wo.heap.size 5 i0 Try.underlying33 HI.out HZ0.out HZ1.out HZ2.out _ (8 * n + k) (out64 H n ++ (wb64 (H n)).take k) rfl (HWx.out.alloc _) (some ⟨wr.heap.size, 0, none⟩) 1 1 [_] (fun _ => True) rfl (Rd.one _ _ trivial (new1 wr _)) (by omega) (by simp; omega) ?_
                 intro v3 w5 hown3 hg3 hat3
                 have hb5 : Below wo.heap.size wo w5 := (hbx.alloc (by omega) _).grown hg3 (by simp; omega) (fun k hk => (HWx.out.lt k hk).1)
                 have HW5 := Lib.hid hown3
                 clear hat3 hg3 hown3))
              go_roundw
              case rel =>
                refine ⟨k + 1, by omega, by congr 1; omega, ?_, hb5⟩
                have e := HW5.out
                rw [List.append_assoc, wb64_step _ _ hlt8 _ rfl] at e
                exact e
              case measure => simp [intOf]; omega
            · obtain rfl : k = 8 := by omega
              go_wp2
              go_roundw
              case rel => exact ⟨n + 1, by omega, by go_num, by have e := HWx.out; rw [wb64_all, ← out64_succ] at e; exact e, hbx⟩
              case measure => simp [intOf]; omega
        · obtain rfl : n = 8 := by omega
          have hBn : Below w.heap.size w wr := hBr.trans (hbn.mono hBr.size)
          have hH2 : dig64 bits s.data.toList = (out64 H 8).take (bits / 8) := by
            unfold dig64 fin64
            have e1 : s.data.toList.length = s.size := by simp
            rw [e1, ← HL.out, HHe.out]
            have e2 : L.length = 128 * j := by rw [HL.out, List.length_append, e1, ← HN.out]
            rw [e2, Nat.mul_div_cancel_left j (by decide)]
          have hrd := HWn.out.rd (fun _ => True) (fun _ _ => trivial)
          have HRD := Lib.hid hrd
          have hb8 : bits / 8 ≤ 64 := by rcases hid with ⟨_, rfl⟩ | ⟨_, rfl⟩ <;> decide
          have hcv := run_convert_rd (P := Try.prog) (HRD.out.take (k := bits / 8) (by omega)) 33 9 5 Try.underlying33 Try.underlying5 Try.underlying9
          clear hrd
          go_wp2_with (go_at_call 13; refine (refSize_calls _ _).mono ?_; rintro e w4 ⟨rfl, rfl⟩; rw [HSZ.out])
          go_ret
          exact ⟨by rw [hH2]; rfl, hBn⟩
end Go.Proofs.Ytkkfpgkogggfdaa.Cw
