/-
  (package sha256) What Sum gives: dig32 of what was written. Condition: the hash holds what was written.
-/
import Derived.Test.YtkkfpgkogggfdaaHash
import Derived.Laws.IdiomStrings
import Derived.Laws.BytesArg
set_option linter.unusedSimpArgs false
set_option linter.unusedVariables false
namespace Go.Proofs.Ytkkfpgkogggfdaa.Cw
open Go Go.RowKit
attribute [local go_sem ↓ high] run_conv64_8 run_conv32_8
attribute [local go_sem ↓ high] bin_or64 bin_xor64 bin_and64 bin_add64 bin_shr64 bin_shl64 bin_or32 bin_shr32
attribute [local go_sem ↓ high] cells_v32 cells_v8 cells_v64 run_store_v32 run_store_v8 run_store_v64
attribute [local go_sem high] match_v32 match_v8 match_v64 run_store_v32 run_store_v8 run_store_v64


/-- the bytes of a word, the highest first -/
def wb32 (x : UInt32) : List UInt8 := (List.range 4).map fun k => (x >>> UInt32.ofNat (24 - 8 * k)).toUInt8
theorem wb32_length (x : UInt32) : (wb32 x).length = 4 := by simp [wb32]
theorem wb32_take (x : UInt32) (k : Nat) (hk : k < 4) : (wb32 x).take k ++ [(x >>> UInt32.ofNat (24 - 8 * k)).toUInt8] = (wb32 x).take (k + 1) := by
  rw [List.take_succ_eq_append_getElem (by rw [wb32_length]; exact hk)]
  congr 2
  simp only [wb32, List.getElem_map, List.getElem_range]
theorem wb32_all (x : UInt32) : (wb32 x).take 4 = wb32 x := by rw [← wb32_length x, List.take_length]
theorem out32_succ (h : Nat → UInt32) (n : Nat) : out32 h (n + 1) = out32 h n ++ wb32 (h n) := by
  unfold out32 wb32
  rw [@List.range_succ n, List.flatMap_append]
  simp

set_option maxRecDepth 100000 in
set_option maxHeartbeats 400000 in
theorem sum32_calls (b : Nat) (p : Nat → Prop) (bits : Nat) (m : List UInt8) (w : World) (hbits : bits = 224 ∨ bits = 256) (hh : HashAt w b p bits m) :
    Calls Try.prog 31 #[.pointer (some ⟨b, 0, none⟩)] w fun e w' => e = .returned (.string ⟨(dig32 bits m).toArray⟩) ∧ Below w.heap.size w w' := by
  obtain ⟨A, c, ho, hr⟩ := hh
  have hbl := lt_of ho
  obtain ⟨i0, hi, hz0, hz1, hz2⟩ := info_parts info_u8
  have HI := Lib.hid hi
  have HZ0 := Lib.hid hz0
  have HZ1 := Lib.hid hz1
  have HZ2 := Lib.hid hz2
  clear hi hz0 hz1 hz2
  have h74 : w.cell? ⟨b, 74, none⟩ = some (v64 (UInt64.ofNat m.length)) := (cell_of ho _).trans (hobj_len v32 64 _ _ _ _ _)
  have h73 : w.cell? ⟨b, 73, none⟩ = some (.slice A (m.length % 64) c) := (cell_of ho _).trans (hobj_rest v32 64 _ _ _ _ _)
  have HO := Lib.hid ho
  have HR := Lib.hid hr
  clear ho hr
  go_enter Try.func31, Try.ntmps31
  obtain ⟨L, hL⟩ : ∃ L, L = m.drop (64 * (m.length / 64)) := ⟨_, rfl⟩
  obtain ⟨r, hr⟩ : ∃ r, r = m.length % 64 := ⟨_, rfl⟩
  rw [← hL, ← hr] at HR
  rw [← hr] at HO h73
  have hr64 : r < 64 := by omega
  have HL := Lib.hid hL
  have Hr := Lib.hid hr
  clear hL hr
  have tok1 : True := trivial
  have tok2 : True := trivial
  go_wp2_with (first
    | (refine wpList_load_blk rfl 83 _ rfl b rfl _ _ _ _ HO.out Try.underlying83 rfl (by rw [hobj_size]; kernel_rfl) ?_)
    | (refine wpList_alloc_zero rfl 83 rfl (.agg (hobj v32 64 (.int .i64 0) (fun _ => 0) (fun _ => 0) (.slice none 0 0) (v64 0))) (by kernel_rfl) ?_)
    | (refine wpList_store_blk rfl 83 _ _ rfl w.heap.size rfl _ _ _ rfl (new1 _ _) (by rw [hobj_size]; kernel_rfl) (by rw [hobj_size]; kernel_rfl) (hobj_one _ _ _ _ _ _ _ one_v32 rfl rfl rfl) ?_
       intro w2 hw2 hb2 hs2
       have hs2' : w2.heap.size = w.heap.size + 1 := by rw [hs2]; simp
       have hB2 : Below w.heap.size w w2 := But.below ((Below.refl _ _).alloc (Nat.le_refl _) _) hb2 (Nat.le_refl _) (by simp)
       have ho2 := below_heap hB2 hbl HO.out
       have HO2 := Lib.hid ho2
       have g73 := (cell_of ho2 73).trans (hobj_rest v32 64 _ _ _ _ _)
       have g74 := (cell_of ho2 74).trans (hobj_len v32 64 _ _ _ _ _)
       have HR2 := Lib.hid (HR.out.below hB2)
       have HG := Lib.hid hw2
       clear hw2 hb2 hs2 ho2)
    | (at_builtin
       have _t := tok1
       go_must (
         refine wpList_append_rd rfl (.const (.slice none 0 0)) (.tmp 18) 33 rfl (w.heap.size + 1) 5 i0 Try.underlying33 HI.out HZ0.out HZ1.out HZ2.out (.slice none 0 0) 0 [] rfl (Ow.nil _ _ _ _) A r c L p rfl HR2.out (by omega) (by omega) ?_
         intro v1 w3 hown1 hg1 hat1
         simp only [Nat.zero_add, List.nil_append] at hown1
         have hb3 : Below (w.heap.size + 1) w2 w3 := (Below.refl _ _).grown hg1 (by omega) (fun k hk => by simp [Value.ownBlock] at hk)
         have HW3 := Lib.hid hown1
         have hs3 := hb3.size
         clear hat1 hg1 hown1 tok1 _t))
    | (at_builtin
       have _t := tok2
       go_must (
         refine wpList_append_rd rfl (.tmp 19) (.tmp 20) 33 rfl (w.heap.size + 1) 5 i0 Try.underlying33 HI.out HZ0.out HZ1.out HZ2.out v1 r L rfl (HW3.out.alloc _) (some ⟨w3.heap.size, 0, none⟩) 1 1 [128] (fun _ => True) rfl (Rd.one 128 _ trivial (new1 w3 _)) (by omega) (by simp; omega) ?_
         intro v2 w4 hown2 hg2 hat2
         have hb4 : Below (w.heap.size + 1) w2 w4 := (hb3.alloc (by omega) _).grown hg2 (by simp; omega) (fun k hk => (HW3.out.lt k hk).1)
         have HW4 := Lib.hid hown2
         clear hat2 hg2 hown2 tok2 _t))
    )
  obtain ⟨z, hz⟩ : ∃ z, z = (119 - m.length % 64) % 64 := ⟨_, rfl⟩
  go_loopw [4] (fun s wr => ∃ j : Nat, j ≤ z ∧ Ow wr (w.heap.size + 1) 5 1 s (r + 1 + j) ((L ++ [128] ++ List.replicate j 0).map v8) ∧ Below (w.heap.size + 1) w2 wr) (fun s _ => r + 200 - slen s)
  case atStart => exact ⟨0, by omega, by simpa using HW4.out, hb4⟩
  case round =>
    obtain ⟨j, hj, hown, hbr⟩ := hrel
    obtain ⟨A', c', rfl, hc'⟩ := hown.slice
    have HWr := Lib.hid hown
    have hsr := hbr.size
    have hzr : (r + 1 + z) % 64 = 56 := by have := Hr.out; omega
    have hzlt : z < 64 := by omega
    clear hown
    by_cases hlt : j < z
    · have hne : (r + 1 + j) % 64 ≠ 56 := by omega
      go_wp2_with (at_builtin; go_must (
           refine wpList_append_rd rfl (.tmp 26) (.tmp 27) 33 rfl (w.heap.size + 1) 5 i0 Try.underlying33 HI.out HZ0.out HZ1.out HZ2.out _ (r + 1 + j) (L ++ [128] ++ List.replicate j 0) rfl (HWr.out.alloc _) (some ⟨wr.heap.size, 0, none⟩) 1 1 [0] (fun _ => True) rfl (Rd.one 0 _ trivial (new1 wr _)) (by omega) (by simp; omega) ?_
           intro v3 w5 hown3 hg3 hat3
           have hb5 : Below (w.heap.size + 1) w2 w5 := (hbr.alloc (by omega) _).grown hg3 (by simp; omega) (fun k hk => (HWr.out.lt k hk).1)
           have HW5 := Lib.hid hown3
           clear hat3 hg3 hown3))
      go_roundw
      case rel => exact ⟨j + 1, by omega, by have := HW5.out; rw [List.append_assoc, ← List.replicate_succ'] at this; exact this, hb5⟩
      case measure =>
        obtain ⟨A2, c2, rfl, _⟩ := HW5.out.slice
        simp only [slen]
        omega
    · obtain rfl : j = z := by omega
      have HZ := Lib.hid hz
      have hv : (((r : Int) + 1 + (j : Int)) % 64 != 56) = false := by simp; omega
      clear hlt hj hz
      go_wp2
      obtain ⟨wo, rfl⟩ : ∃ wo : World, wo = wr := ⟨_, rfl⟩
      go_loopw [29, 4] (fun i s wr => i = .int .i64 0 ∧ s = .slice A' (r + 1 + j) c' ∧ wr = wo) (fun _ _ _ => 0)
      case atStart => exact ⟨rfl, rfl, rfl⟩
      case round =>
        obtain ⟨rfl, rfl, rfl⟩ := hrel
        go_wp2
        obtain ⟨wo, rfl⟩ : ∃ wo : World, wo = wr := ⟨_, rfl⟩
        go_loopw [35, 4] (fun i s wr => ∃ k : Nat, k ≤ 8 ∧ i = .int .i64 k ∧ Ow wr (w.heap.size + 1) 5 1 s (r + 1 + j + k) ((L ++ [128] ++ List.replicate j 0 ++ (len8 (UInt64.ofNat m.length)).take k).map v8) ∧ Below (w.heap.size + 1) w2 wr) (fun i _ _ => 8 - (intOf i).toNat)
        case atStart => exact ⟨0, by omega, rfl, by simpa using HWr.out, hbr⟩
        case round =>
          obtain ⟨k, hk, rfl, hown, hbx⟩ := hrel
          obtain ⟨A2, c2, rfl, hc2⟩ := hown.slice
          have HWx := Lib.hid hown
          have hsx := hbx.size
          clear hown
          by_cases hlt : k < 8
          · have hox := below_heap hbx (by omega) HO2.out
            have k74 := (cell_of hox 74).trans (hobj_len v32 64 _ _ _ _ _)
            clear hox
            have hsh : (0 : Int) ≤ 56 - 8 * (k : Int) ∧ (56 - 8 * (k : Int)) < 64 := by omega
            go_wp2_with (at_builtin; go_must (
               refine wpList_append_rd rfl (.tmp 38) (.tmp 49) 33 rfl (w.heap.size + 1) 5 i0 Try.underlying33 HI.out HZ0.out HZ1.out HZ2.out _ (r + 1 + j + k) (L ++ [128] ++ List.replicate j 0 ++ (len8 (UInt64.ofNat m.length)).take k) rfl (HWx.out.alloc _) (some ⟨wr.heap.size, 0, none⟩) 1 1 [_] (fun _ => True) rfl (Rd.one _ _ trivial (new1 wr _)) (by omega) (by simp; omega) ?_
               intro v3 w5 hown3 hg3 hat3
               have hb5 : Below (w.heap.size + 1) w2 w5 := (hbx.alloc (by omega) _).grown hg3 (by simp; omega) (fun k hk => (HWx.out.lt k hk).1)
               have HW5 := Lib.hid hown3
               clear hat3 hg3 hown3))
            go_roundw
            case rel =>
              refine ⟨k + 1, by omega, by go_num, ?_, hb5⟩
              have e := HW5.out
              rw [List.append_assoc, len8_take _ _ hlt] at e
              exact e
            case measure => simp [intOf]; omega
          · obtain rfl : k = 8 := by omega
            rw [len8_all, show L ++ [128] ++ List.replicate j 0 ++ len8 (UInt64.ofNat m.length) = L ++ tail32 m.length from by simp [tail32, ← HZ.out]] at HWx
            have HG2 := Lib.hid (below_heap hbx (by omega) HG.out)
            have HRx := Lib.hid (HWx.out.rd (· ≠ w.heap.size) (fun g h => by omega))
            go_wp2_with (first
              | (go_at_call 44
                 go_must (
                   refine (blocks32_calls w.heap.size A2 _ c2 _ _ _ _ _ wr (by omega) HRx.out HG2.out).mono ?_
                   rintro e w6 ⟨A3, c3, rfl, ho3, hr3, hb3⟩
                   have HG3 := Lib.hid ho3
                   have hB6 : Below w.heap.size w w6 := But.below (hB2.trans (hbx.mono (by omega))) hb3 (Nat.le_refl _) (by omega)
                   have hs6 := hb3.size
                   clear ho3 hr3))
              | (refine wpList_load_seg rfl 77 _ rfl w.heap.size 1 8 rfl _ _ (fa v32 8 _) _ _ HG3.out Try.underlying77 rfl (by kernel_rfl) (fa_size _ _ _) (fun j hj => by rw [hobj_h _ _ _ _ _ _ _ _ hj, fa_get _ _ _ _ hj]) ?_))
            obtain ⟨H, hH⟩ : ∃ H, H = abs32 k256 (abs32 k256 (beg32 bits) m (m.length / 64)) (L ++ tail32 m.length) ((r + 1 + j + 8) / 64) := ⟨_, rfl⟩
            rw [← hH]
            have HH := Lib.hid hH
            clear hH
            go_loopw [57, 6] (fun i s wr => ∃ n : Nat, n ≤ 8 ∧ i = .int .i64 n ∧ Ow wr w6.heap.size 5 1 s (4 * n) ((out32 H n).map v8) ∧ Below w6.heap.size w6 wr) (fun i _ _ => 8 - (intOf i).toNat)
            case atStart => exact ⟨0, by omega, rfl, by simpa [out32] using Ow.nil _ _ _ _, Below.refl _ _⟩
            case round =>
              obtain ⟨n, hn, rfl, hown, hbn⟩ := hrel
              have HWn := Lib.hid hown
              have hsn := hbn.size
              by_cases hlt : n < 8
              · have hfa : (fa v32 8 H)[n]? = some (v32 (H n)) := fa_get _ _ _ _ hlt
                clear hown
                go_wp2_with (refine wpList_index_fa rfl 77 _ _ rfl v32 8 H n rfl rfl hlt 50 _ Try.underlying77 Try.underlying50 rfl (by kernel_rfl) ?_)
                obtain ⟨wo, rfl⟩ : ∃ wo : World, wo = wr := ⟨_, rfl⟩
                go_loopw [60, 6] (fun i s wr => ∃ k : Nat, k ≤ 4 ∧ i = .int .i64 k ∧ Ow wr w6.heap.size 5 1 s (4 * n + k) ((out32 H n ++ (wb32 (H n)).take k).map v8) ∧ Below w6.heap.size w6 wr) (fun i _ _ => 4 - (intOf i).toNat)
                case atStart => exact ⟨0, by omega, rfl, by simpa using HWn.out, hbn⟩
                case round =>
                  obtain ⟨k, hk, rfl, hown, hbx⟩ := hrel
                  obtain ⟨A2, c2, rfl, hc2⟩ := hown.slice
                  have HWx := Lib.hid hown
                  have hsx := hbx.size
                  clear hown
                  by_cases hlt4 : k < 4
                  · have hsh : (0 : Int) ≤ 24 - 8 * (k : Int) ∧ (24 - 8 * (k : Int)) < 32 := by omega
                    go_wp2_with (at_builtin; go_must (
                      refine wpList_append_rd rfl (.tmp 63) (.tmp 70) 33 rfl w6.heap.size 5 i0 Try.underlying33 HI.out HZ0.out HZ1.out HZ2.out _ (4 * n + k) (out32 H n ++ (wb32 (H n)).take k) rfl (HWx.out.alloc _) (some ⟨wr.heap.size, 0, none⟩) 1 1 [_] (fun _ => True) rfl (Rd.one _ _ trivial (new1 wr _)) (by omega) (by simp; omega) ?_
                      intro v3 w5 hown3 hg3 hat3
                      have hb5 : Below w6.heap.size w6 w5 := (hbx.alloc (by omega) _).grown hg3 (by simp; omega) (fun k hk => (HWx.out.lt k hk).1)
                      have HW5 := Lib.hid hown3
                      clear hat3 hg3 hown3))
                    go_roundw
                    case rel =>
                      refine ⟨k + 1, by omega, by go_num, ?_, hb5⟩
                      have e := HW5.out
                      rw [List.append_assoc, wb32_take _ _ hlt4] at e
                      exact e
                    case measure => simp [intOf]; omega
                  · obtain rfl : k = 4 := by omega
                    go_wp2
                    go_roundw
                    case rel => exact ⟨n + 1, by omega, by go_num, by have e := HWx.out; rw [wb32_all, ← out32_succ] at e; exact e, hbx⟩
                    case measure => simp [intOf]; omega
              · obtain rfl : n = 8 := by omega
                obtain ⟨A3, c3, rfl, hc3⟩ := hown.slice
                have hBn : Below w.heap.size w wr := hB6.trans (hbn.mono hB6.size)
                have hon := below_heap hBn hbl HO.out
                have k0 := (cell_of hon 0).trans (hobj_0 v32 64 _ _ _ _ _)
                have hH2 : dig32 bits m = (out32 H 8).take (bits / 8) := by
                  unfold dig32
                  rw [fin32_rest, HH.out, ← HL.out, List.length_append, HR.out.len, tail32]
                  simp only [List.length_append, List.length_cons, List.length_replicate, len8_length, ← HZ.out]
                  rw [show r + (j + 1 + 8) = r + 1 + j + 8 from by omega]
                have hrd := hown.rd (fun _ => True) (fun _ _ => trivial)
                have HRD := Lib.hid hrd
                clear hrd hown hon
                rcases hbits with rfl | rfl
                · have hcv := run_convert_rd (P := Try.prog) (HRD.out.take (k := 28) (by omega)) 33 9 5 Try.underlying33 Try.underlying5 Try.underlying9
                  go_wp2
                  go_ret
                  exact ⟨by rw [hH2]; rfl, hBn⟩
                · have hcv := run_convert_rd (P := Try.prog) (HRD.out.take (k := 32) (by omega)) 33 9 5 Try.underlying33 Try.underlying5 Try.underlying9
                  go_wp2
                  go_ret
                  exact ⟨by rw [hH2]; rfl, hBn⟩
end Go.Proofs.Ytkkfpgkogggfdaa.Cw
