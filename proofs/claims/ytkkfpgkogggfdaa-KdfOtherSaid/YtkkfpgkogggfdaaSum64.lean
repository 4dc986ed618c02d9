/-
  (package sha512) What Sum gives: dig64 of what was written. Condition: the hash holds what was written.
-/
import Derived.Test.YtkkfpgkogggfdaaHash64
import Derived.Laws.IdiomStrings
import Derived.Laws.BytesArg
set_option linter.unusedSimpArgs false
set_option linter.unusedVariables false
namespace Go.Proofs.Ytkkfpgkogggfdaa.Cw
open Go Go.RowKit
attribute [local go_sem ↓ high] run_conv64_8 run_conv32_8
attribute [local go_sem ↓ high] bin_or64 bin_xor64 bin_and64 bin_add64 bin_shr64 bin_shl64
attribute [local go_sem ↓ high] cells_v8 cells_v64 run_store_v8 run_store_v64
attribute [local go_sem high] match_v8 match_v64 run_store_v8 run_store_v64


/-- the bytes of a word, the highest first -/
def wb64 (x : UInt64) : List UInt8 := (List.range 8).map fun k => (x >>> UInt64.ofNat (56 - 8 * k)).toUInt8
theorem wb64_length (x : UInt64) : (wb64 x).length = 8 := by simp [wb64]
theorem wb64_take (x : UInt64) (k : Nat) (hk : k < 8) : (wb64 x).take k ++ [(x >>> UInt64.ofNat (56 - 8 * k)).toUInt8] = (wb64 x).take (k + 1) := by
  rw [List.take_succ_eq_append_getElem (by rw [wb64_length]; exact hk)]
  congr 2
  simp only [wb64, List.getElem_map, List.getElem_range]
theorem wb64_all (x : UInt64) : (wb64 x).take 8 = wb64 x := by rw [← wb64_length x, List.take_length]
theorem out64_succ (h : Nat → UInt64) (n : Nat) : out64 h (n + 1) = out64 h n ++ wb64 (h n) := by
  unfold out64 wb64
  rw [@List.range_succ n, List.flatMap_append]
  simp

set_option maxRecDepth 100000 in
set_option maxHeartbeats 400000 in
theorem sum64_calls (b : Nat) (p : Nat → Prop) (bits : Nat) (m : List UInt8) (w : World) (hbits : bits = 384 ∨ bits = 512) (hh : HashAtL w b p bits m) :
    Calls Try.prog 35 #[.pointer (some ⟨b, 0, none⟩)] w fun e w' => e = .returned (.string ⟨(dig64 bits m).toArray⟩) ∧ Below w.heap.size w w' := by
  obtain ⟨A, c, ho, hr⟩ := hh
  have hbl := lt_of ho
  obtain ⟨i0, hi, hz0, hz1, hz2⟩ := info_parts info_u8
  have HI := Lib.hid hi
  have HZ0 := Lib.hid hz0
  have HZ1 := Lib.hid hz1
  have HZ2 := Lib.hid hz2
  clear hi hz0 hz1 hz2
  have h74 : w.cell? ⟨b, 90, none⟩ = some (v64 (UInt64.ofNat m.length)) := (cell_of ho _).trans (hobj_len v64 80 _ _ _ _ _)
  have h73 : w.cell? ⟨b, 89, none⟩ = some (.slice A (m.length % 128) c) := (cell_of ho _).trans (hobj_rest v64 80 _ _ _ _ _)
  have HO := Lib.hid ho
  have HR := Lib.hid hr
  clear ho hr
  go_enter Try.func35, Try.ntmps35
  obtain ⟨L, hL⟩ : ∃ L, L = m.drop (128 * (m.length / 128)) := ⟨_, rfl⟩
  obtain ⟨r, hr⟩ : ∃ r, r = m.length % 128 := ⟨_, rfl⟩
  rw [← hL, ← hr] at HR
  rw [← hr] at HO h73
  have hr64 : r < 128 := by omega
  have HL := Lib.hid hL
  have Hr := Lib.hid hr
  clear hL hr
  have tok1 : True := trivial
  have tok2 : True := trivial
  go_wp2_with (first
    | (refine wpList_load_blk rfl 92 _ rfl b rfl _ _ _ _ HO.out Try.underlying92 rfl (by rw [hobj_size]; kernel_rfl) ?_)
    | (refine wpList_alloc_zero rfl 92 rfl (.agg (hobj v64 80 (.int .i64 0) (fun _ => 0) (fun _ => 0) (.slice none 0 0) (v64 0))) (by kernel_rfl) ?_)
    | (refine wpList_store_blk rfl 92 _ _ rfl w.heap.size rfl _ _ _ rfl (new1 _ _) (by rw [hobj_size]; kernel_rfl) (by rw [hobj_size]; kernel_rfl) (hobj_one _ _ _ _ _ _ _ one_v64 rfl rfl rfl) ?_
       intro w2 hw2 hb2 hs2
       have hs2' : w2.heap.size = w.heap.size + 1 := by rw [hs2]; simp
       have hB2 : Below w.heap.size w w2 := But.below ((Below.refl _ _).alloc (Nat.le_refl _) _) hb2 (Nat.le_refl _) (by simp)
       have ho2 := below_heap hB2 hbl HO.out
       have HO2 := Lib.hid ho2
       have g73 := (cell_of ho2 89).trans (hobj_rest v64 80 _ _ _ _ _)
       have g74 := (cell_of ho2 90).trans (hobj_len v64 80 _ _ _ _ _)
       have HR2 := Lib.hid (HR.out.below hB2)
       have HG := Lib.hid hw2
       clear hw2 hb2 hs2 ho2)
    | (at_builtin
       have _t := tok1
       go_must (
         refine wpList_append_rd rfl (.const (.slice none 0 0)) (.tmp 18) 33 rfl (w.heap.size + 1) 5 i0 Try.underlying33 HI.out HZ0.out HZ1.out HZ2.out (.slice none 0 0) 0 [] rfl (Ow.nil _ _ _ _) A r c L p rfl HR2.out (by omega) (by omega) ?_
         intro v1 w3 hown1 hg1 hat1
         simp only [Nat.zero_add, List.nil_append] at hown1
         have hb3 : Below (w.heap.size + 1) w2 w3 := (Below.refl _ _).grown hg1 (by omega) (fun k hk => by simp [Value.ownBlock] at hk)
         have HW3 := Lib.hid hown1
         have hs3 := hb3.size
         clear hat1 hg1 hown1 tok1 _t))
    | (at_builtin
       have _t := tok2
       go_must (
         refine wpList_append_rd rfl (.tmp 19) (.tmp 20) 33 rfl (w.heap.size + 1) 5 i0 Try.underlying33 HI.out HZ0.out HZ1.out HZ2.out v1 r L rfl (HW3.out.alloc _) (some ⟨w3.heap.size, 0, none⟩) 1 1 [128] (fun _ => True) rfl (Rd.one 128 _ trivial (new1 w3 _)) (by omega) (by simp; omega) ?_
         intro v2 w4 hown2 hg2 hat2
         have hb4 : Below (w.heap.size + 1) w2 w4 := (hb3.alloc (by omega) _).grown hg2 (by simp; omega) (fun k hk => (HW3.out.lt k hk).1)
         have HW4 := Lib.hid hown2
         clear hat2 hg2 hown2 tok2 _t))
    )
  obtain ⟨z, hz⟩ : ∃ z, z = (239 - m.length % 128) % 128 := ⟨_, rfl⟩
  go_loopw [4] (fun s wr => ∃ j : Nat, j ≤ z ∧ Ow wr (w.heap.size + 1) 5 1 s (r + 1 + j) ((L ++ [128] ++ List.replicate j 0).map v8) ∧ Below (w.heap.size + 1) w2 wr) (fun s _ => r + 400 - slen s)
  case atStart => exact ⟨0, by omega, by simpa using HW4.out, hb4⟩
  case round =>
    obtain ⟨j, hj, hown, hbr⟩ := hrel
    obtain ⟨A', c', rfl, hc'⟩ := hown.slice
    have HWr := Lib.hid hown
    have hsr := hbr.size
    have hzr : (r + 1 + z) % 128 = 112 := by have := Hr.out; omega
    have hzlt : z < 128 := by omega
    clear hown
    by_cases hlt : j < z
    · have hne : (r + 1 + j) % 128 ≠ 112 := by omega
      go_wp2_with (at_builtin; go_must (
           refine wpList_append_rd rfl (.tmp 26) (.tmp 27) 33 rfl (w.heap.size + 1) 5 i0 Try.underlying33 HI.out HZ0.out HZ1.out HZ2.out _ (r + 1 + j) (L ++ [128] ++ List.replicate j 0) rfl (HWr.out.alloc _) (some ⟨wr.heap.size, 0, none⟩) 1 1 [0] (fun _ => True) rfl (Rd.one 0 _ trivial (new1 wr _)) (by omega) (by simp; omega) ?_
           intro v3 w5 hown3 hg3 hat3
           have hb5 : Below (w.heap.size + 1) w2 w5 := (hbr.alloc (by omega) _).grown hg3 (by simp; omega) (fun k hk => (HWr.out.lt k hk).1)
           have HW5 := Lib.hid hown3
           clear hat3 hg3 hown3))
      go_roundw
      case rel => exact ⟨j + 1, by omega, by have := HW5.out; rw [List.append_assoc, ← List.replicate_succ'] at this; exact this, hb5⟩
      case measure =>
        obtain ⟨A2, c2, rfl, _⟩ := HW5.out.slice
        simp only [slen]
        omega
    · obtain rfl : j = z := by omega
      have HZ := Lib.hid hz
      have hv : (((r : Int) + 1 + (j : Int)) % 128 != 112) = false := by simp; omega
      clear hlt hj hz
      go_wp2
      obtain ⟨wo, rfl⟩ : ∃ wo : World, wo = wr := ⟨_, rfl⟩
      go_loopw [29, 4] (fun i s wr => ∃ q : Nat, q ≤ 8 ∧ i = .int .i64 q ∧ Ow wr (w.heap.size + 1) 5 1 s (r + 1 + (j + q)) ((L ++ [128] ++ List.replicate (j + q) 0).map v8) ∧ Below (w.heap.size + 1) w2 wr) (fun i _ _ => 8 - (intOf i).toNat)
      case atStart => exact ⟨0, by omega, rfl, HWr.out, hbr⟩
      case round =>
       obtain ⟨q, hq, rfl, hown, hbr⟩ := hrel
       obtain ⟨A', c', rfl, hc'⟩ := hown.slice
       have HWr := Lib.hid hown
       have hsr := hbr.size
       clear hown
       by_cases hlt : q < 8
       · go_wp2_with (at_builtin; go_must (
           refine wpList_append_rd rfl (.tmp 31) (.tmp 32) 33 rfl (w.heap.size + 1) 5 i0 Try.underlying33 HI.out HZ0.out HZ1.out HZ2.out _ (r + 1 + (j + q)) (L ++ [128] ++ List.replicate (j + q) 0) rfl (HWr.out.alloc _) (some ⟨wr.heap.size, 0, none⟩) 1 1 [0] (fun _ => True) rfl (Rd.one 0 _ trivial (new1 wr _)) (by omega) (by simp; omega) ?_
           intro v3 w5 hown3 hg3 hat3
           have hb5 : Below (w.heap.size + 1) w2 w5 := (hbr.alloc (by omega) _).grown hg3 (by simp; omega) (fun k hk => (HWr.out.lt k hk).1)
           have HW5 := Lib.hid hown3
           clear hat3 hg3 hown3))
         go_roundw
         case rel => exact ⟨q + 1, by omega, by go_num, by have := HW5.out; rw [List.append_assoc, ← List.replicate_succ'] at this; exact this, hb5⟩
         case measure => simp [intOf]; omega
       · obtain rfl : q = 8 := by omega
         clear hlt hq
         have HZ := Lib.hid (show j + 8 = (239 - m.length % 128) % 128 + 8 from by rw [← HZ.out])
         generalize hjn : j + 8 = jn at HWr HZ
         go_wp2
         obtain ⟨wo, rfl⟩ : ∃ wo : World, wo = wr := ⟨_, rfl⟩
         go_loopw [35, 4] (fun i s wr => ∃ k : Nat, k ≤ 8 ∧ i = .int .i64 k ∧ Ow wr (w.heap.size + 1) 5 1 s (r + 1 + jn + k) ((L ++ [128] ++ List.replicate jn 0 ++ (len8 (UInt64.ofNat m.length)).take k).map v8) ∧ Below (w.heap.size + 1) w2 wr) (fun i _ _ => 8 - (intOf i).toNat)
         case atStart => exact ⟨0, by omega, rfl, by simpa using HWr.out, hbr⟩
         case round =>
           obtain ⟨k, hk, rfl, hown, hbx⟩ := hrel
           obtain ⟨A2, c2, rfl, hc2⟩ := hown.slice
           have HWx := Lib.hid hown
           have hsx := hbx.size
           clear hown
           by_cases hlt : k < 8
           · have hox := below_heap hbx (by omega) HO2.out
             have k74 := (cell_of hox 90).trans (hobj_len v64 80 _ _ _ _ _)
             clear hox
             have hsh : (0 : Int) ≤ 56 - 8 * (k : Int) ∧ (56 - 8 * (k : Int)) < 64 := by omega
             go_wp2_with (at_builtin; go_must (
                refine wpList_append_rd rfl (.tmp 38) (.tmp 49) 33 rfl (w.heap.size + 1) 5 i0 Try.underlying33 HI.out HZ0.out HZ1.out HZ2.out _ (r + 1 + jn + k) (L ++ [128] ++ List.replicate jn 0 ++ (len8 (UInt64.ofNat m.length)).take k) rfl (HWx.out.alloc _) (some ⟨wr.heap.size, 0, none⟩) 1 1 [_] (fun _ => True) rfl (Rd.one _ _ trivial (new1 wr _)) (by omega) (by simp; omega) ?_
                intro v3 w5 hown3 hg3 hat3
                have hb5 : Below (w.heap.size + 1) w2 w5 := (hbx.alloc (by omega) _).grown hg3 (by simp; omega) (fun k hk => (HWx.out.lt k hk).1)
                have HW5 := Lib.hid hown3
                clear hat3 hg3 hown3))
             go_roundw
             case rel =>
               repeat apply Exists.intro
               refine ⟨?_, rfl⟩
               refine ⟨k + 1, by omega, by go_num, ?_, hb5⟩
               have e := HW5.out
               rw [List.append_assoc, len8_take _ _ hlt] at e
               exact e
             case measure => simp [intOf]; omega
           · obtain rfl : k = 8 := by omega
             rw [len8_all, show L ++ [128] ++ List.replicate jn 0 ++ len8 (UInt64.ofNat m.length) = L ++ tail64 m.length from by simp [tail64, ← HZ.out]] at HWx
             have HG2 := Lib.hid (below_heap hbx (by omega) HG.out)
             have HRx := Lib.hid (HWx.out.rd (· ≠ w.heap.size) (fun g h => by omega))
             go_wp2_with (first
               | (go_at_call 50
                  go_must (
                    refine (blocks64_calls w.heap.size A2 _ c2 _ _ _ _ _ wr (by omega) HRx.out HG2.out).mono ?_
                    rintro e w6 ⟨A3, c3, rfl, ho3, hr3, hb3⟩
                    have HG3 := Lib.hid ho3
                    have hB6 : Below w.heap.size w w6 := But.below (hB2.trans (hbx.mono (by omega))) hb3 (Nat.le_refl _) (by omega)
                    have hs6 := hb3.size
                    clear ho3 hr3))
               | (refine wpList_load_seg rfl 86 _ rfl w.heap.size 1 8 rfl _ _ (fa v64 8 _) _ _ HG3.out Try.underlying86 rfl (by kernel_rfl) (fa_size _ _ _) (fun j hj => by rw [hobj_h _ _ _ _ _ _ _ _ hj, fa_get _ _ _ _ hj]) ?_))
             obtain ⟨H, hH⟩ : ∃ H, H = abs64 k512 (abs64 k512 (beg64 bits) m (m.length / 128)) (L ++ tail64 m.length) ((r + 1 + jn + 8) / 128) := ⟨_, rfl⟩
             rw [← hH]
             have HH := Lib.hid hH
             clear hH
             go_loopw [57, 6] (fun i s wr => ∃ n : Nat, n ≤ 8 ∧ i = .int .i64 n ∧ Ow wr w6.heap.size 5 1 s (8 * n) ((out64 H n).map v8) ∧ Below w6.heap.size w6 wr) (fun i _ _ => 8 - (intOf i).toNat)
             case atStart => exact ⟨0, by omega, rfl, by simpa [out64] using Ow.nil _ _ _ _, Below.refl _ _⟩
             case round =>
               obtain ⟨n, hn, rfl, hown, hbn⟩ := hrel
               have HWn := Lib.hid hown
               have hsn := hbn.size
               by_cases hlt : n < 8
               · have hfa : (fa v64 8 H)[n]? = some (v64 (H n)) := fa_get _ _ _ _ hlt
                 clear hown
                 go_wp2_with (refine wpList_index_fa rfl 86 _ _ rfl v64 8 H n rfl rfl hlt 55 _ Try.underlying86 Try.underlying55 rfl (by kernel_rfl) ?_)
                 obtain ⟨wo, rfl⟩ : ∃ wo : World, wo = wr := ⟨_, rfl⟩
                 go_loopw [60, 6] (fun i s wr => ∃ k : Nat, k ≤ 8 ∧ i = .int .i64 k ∧ Ow wr w6.heap.size 5 1 s (8 * n + k) ((out64 H n ++ (wb64 (H n)).take k).map v8) ∧ Below w6.heap.size w6 wr) (fun i _ _ => 8 - (intOf i).toNat)
                 case atStart => exact ⟨0, by omega, rfl, by simpa using HWn.out, hbn⟩
                 case round =>
                   obtain ⟨k, hk, rfl, hown, hbx⟩ := hrel
                   obtain ⟨A2, c2, rfl, hc2⟩ := hown.slice
                   have HWx := Lib.hid hown
                   have hsx := hbx.size
                   clear hown
                   by_cases hlt4 : k < 8
                   · have hsh : (0 : Int) ≤ 56 - 8 * (k : Int) ∧ (56 - 8 * (k : Int)) < 64 := by omega
                     go_wp2_with (at_builtin; go_must (
                       refine wpList_append_rd rfl (.tmp 63) (.tmp 70) 33 rfl w6.heap.size 5 i0 Try.underlying33 HI.out HZ0.out HZ1.out HZ2.out _ (8 * n + k) (out64 H n ++ (wb64 (H n)).take k) rfl (HWx.out.alloc _) (some ⟨wr.heap.size, 0, none⟩) 1 1 [_] (fun _ => True) rfl (Rd.one _ _ trivial (new1 wr _)) (by omega) (by simp; omega) ?_
                       intro v3 w5 hown3 hg3 hat3
                       have hb5 : Below w6.heap.size w6 w5 := (hbx.alloc (by omega) _).grown hg3 (by simp; omega) (fun k hk => (HWx.out.lt k hk).1)
                       have HW5 := Lib.hid hown3
                       clear hat3 hg3 hown3))
                     go_roundw
                     case rel =>
                       refine ⟨k + 1, by omega, by go_num, ?_, hb5⟩
                       have e := HW5.out
                       rw [List.append_assoc, wb64_take _ _ hlt4] at e
                       exact e
                     case measure => simp [intOf]; omega
                   · obtain rfl : k = 8 := by omega
                     go_wp2
                     go_roundw
                     case rel => exact ⟨n + 1, by omega, by go_num, by have e := HWx.out; rw [wb64_all, ← out64_succ] at e; exact e, hbx⟩
                     case measure => simp [intOf]; omega
               · obtain rfl : n = 8 := by omega
                 obtain ⟨A3, c3, rfl, hc3⟩ := hown.slice
                 have hBn : Below w.heap.size w wr := hB6.trans (hbn.mono hB6.size)
                 have hon := below_heap hBn hbl HO.out
                 have k0 := (cell_of hon 0).trans (hobj_0 v64 80 _ _ _ _ _)
                 have hH2 : dig64 bits m = (out64 H 8).take (bits / 8) := by
                   unfold dig64
                   rw [fin64_rest, HH.out, ← HL.out, List.length_append, HR.out.len, tail64]
                   simp only [List.length_append, List.length_cons, List.length_replicate, len8_length, ← HZ.out]
                   rw [show r + (jn + 1 + 8) = r + 1 + jn + 8 from by omega]
                 have hrd := hown.rd (fun _ => True) (fun _ _ => trivial)
                 have HRD := Lib.hid hrd
                 clear hrd hown hon
                 rcases hbits with rfl | rfl
                 · have hcv := run_convert_rd (P := Try.prog) (HRD.out.take (k := 48) (by omega)) 33 9 5 Try.underlying33 Try.underlying5 Try.underlying9
                   go_wp2
                   go_ret
                   exact ⟨by rw [hH2]; rfl, hBn⟩
                 · have hcv := run_convert_rd (P := Try.prog) (HRD.out.take (k := 64) (by omega)) 33 9 5 Try.underlying33 Try.underlying5 Try.underlying9
                   go_wp2
                   go_ret
                   exact ⟨by rw [hH2]; rfl, hBn⟩
end Go.Proofs.Ytkkfpgkogggfdaa.Cw
