/-
  (package curvetref7) What the document's own answer does with a text ahead of its blocks: padded; the sizes, the beginnings, the constants. Condition: a text takes at most 2^46 bytes.
-/
import Derived.Test.YtkkfpgkogggfdaaRefB64
import Derived.Test.YtkkfpgkogggfdaaStr
import Derived.Test.YtkkfpgkogggfdaaSum64
import Derived.Test.YtkkfpgkogggfdaaBuild
set_option linter.unusedSimpArgs false
set_option linter.unusedVariables false
namespace Go.Proofs.Ytkkfpgkogggfdaa.Cw
open Go Go.RowKit
attribute [local go_sem ↓ high] bin_or64 bin_xor64 bin_and64 bin_add64 bin_shr64 bin_shl64 bin_mul64_8 bin_and64_255 bin_and32_255 conv_len run_conv64_8 run_conv32_8
attribute [local go_sem ↓ high] cells_v8 cells_v64 run_store_v8 run_store_v64
attribute [local go_sem high] match_v8 match_v64 run_store_v8 run_store_v64

set_option maxRecDepth 100000 in
theorem k64_calls (w : World) : Calls Try.prog 25 #[] w fun e w' => e = .returned (.slice (some ⟨w.heap.size, 0, none⟩) 80 80) ∧ w'.heap[w.heap.size]? = some (.cells (fa v64 80 k512) 55 (0, 0)) ∧ Below w.heap.size w w' ∧ w'.heap.size = w.heap.size + 1 := by
  go_enter Try.func25, Try.ntmps25
  go_wp2_with (refine wpList_buildSlice_fa v64 .u64 (fun x => (x.toNat : Int)) (fun _ => rfl) rfl 51 55 80 _ rfl k512 Try.underlying51 (by kernel_rfl) (by kernel_rfl) (by omega) (by omega) (by kernel_rfl) ?_)
  go_ret
  exact ⟨rfl, new1 _ _, (Below.refl _ _).alloc (Nat.le_refl _) _, by simp⟩

set_option maxRecDepth 100000 in
theorem begin64_calls (c : Int) (w : World) : Calls Try.prog 24 #[.int .i64 c] w fun e w' => e = .returned (.slice (some ⟨w.heap.size, 0, none⟩) 8 8) ∧ w'.heap[w.heap.size]? = some (.cells (fa v64 8 (if c = 3 then h384 else h512)) 55 (0, 0)) ∧ Below w.heap.size w w' ∧ w'.heap.size = w.heap.size + 1 := by
  go_enter Try.func24, Try.ntmps24
  by_cases h1 : c = 3
  · subst h1
    go_wp2_with (refine wpList_buildSlice_fa v64 .u64 (fun x => (x.toNat : Int)) (fun _ => rfl) rfl 51 55 8 _ rfl h384 Try.underlying51 (by kernel_rfl) (by kernel_rfl) (by omega) (by omega) (by kernel_rfl) ?_)
    go_ret
    exact ⟨rfl, new1 _ _, (Below.refl _ _).alloc (Nat.le_refl _) _, by simp⟩
  · go_wp2_with (refine wpList_buildSlice_fa v64 .u64 (fun x => (x.toNat : Int)) (fun _ => rfl) rfl 51 55 8 _ rfl h512 Try.underlying51 (by kernel_rfl) (by kernel_rfl) (by omega) (by omega) (by kernel_rfl) ?_)
    go_ret
    exact ⟨rfl, new1 _ _, (Below.refl _ _).alloc (Nat.le_refl _) _, by simp⟩

set_option maxRecDepth 100000 in
set_option maxHeartbeats 400000 in
theorem long_calls (s : ByteArray) (w : World) (hs : s.size ≤ 140737488351232) :
    Calls Try.prog 26 #[.string s] w fun e w' => ∃ g c, e = .returned (.slice (some ⟨g, 0, none⟩) (s.size + (tail64 s.size).length) c) ∧ Ow w' w.heap.size 5 1 (.slice (some ⟨g, 0, none⟩) (s.size + (tail64 s.size).length) c) (s.size + (tail64 s.size).length) ((s.data.toList ++ tail64 s.size).map v8) ∧ Below w.heap.size w w' := by
  obtain ⟨i0, hi, hz0, hz1, hz2⟩ := info_parts info_u8
  have HI := Lib.hid hi
  have HZ0 := Lib.hid hz0
  have HZ1 := Lib.hid hz1
  have HZ2 := Lib.hid hz2
  clear hi hz0 hz1 hz2
  go_enter Try.func26, Try.ntmps26
  obtain ⟨L, hL⟩ : ∃ L, L = s.data.toList := ⟨_, rfl⟩
  go_wp2_with (first
    | (refine wpList_conv_bytes rfl 9 33 5 _ rfl s rfl Try.underlying9 Try.underlying33 Try.underlying5 (by simp only [maxLen]; omega) ?_
       intro c1 w1 how1 hb1 hs1
       have HW1 := Lib.hid how1
       have hs1' := hb1.size
       clear how1 hs1)
    | (at_builtin; go_must (
         refine wpList_append_rd rfl (.tmp 8) (.tmp 9) 33 rfl w.heap.size 5 i0 Try.underlying33 HI.out HZ0.out HZ1.out HZ2.out _ s.size s.data.toList rfl (HW1.out.alloc _) (some ⟨w1.heap.size, 0, none⟩) 1 1 [128] (fun _ => True) rfl (Rd.one 128 _ trivial (new1 w1 _)) (by omega) (by simp; omega) ?_
         intro v2 w4 hown2 hg2 hat2
         have hb4 : Below w.heap.size w w4 := (hb1.alloc hb1.size _).grown hg2 (by simp; omega) (fun k hk => (HW1.out.lt k hk).1)
         have HW4 := Lib.hid hown2
         clear hat2 hg2 hown2)))
  obtain ⟨z, hz⟩ : ∃ z, z = (239 - s.size % 128) % 128 := ⟨_, rfl⟩
  rw [← hL] at HW4
  go_loopw [3] (fun sv wr => ∃ j : Nat, j ≤ z ∧ Ow wr w.heap.size 5 1 sv (s.size + 1 + j) ((L ++ [128] ++ List.replicate j 0).map v8) ∧ Below w.heap.size w wr) (fun sv _ => s.size + 400 - slen sv)
  case atStart => exact ⟨0, by omega, by simpa using HW4.out, hb4⟩
  case round =>
    obtain ⟨j, hj, hown, hbr⟩ := hrel
    obtain ⟨A', c', rfl, hc'⟩ := hown.slice
    have HWr := Lib.hid hown
    have hsr := hbr.size
    have hzr : (s.size + 1 + z) % 128 = 112 := by omega
    have hzlt : z < 128 := by omega
    clear hown
    by_cases hlt : j < z
    · have hne : (s.size + 1 + j) % 128 ≠ 112 := by omega
      go_wp2_with (at_builtin; go_must (
           refine wpList_append_rd rfl (.tmp 15) (.tmp 16) 33 rfl w.heap.size 5 i0 Try.underlying33 HI.out HZ0.out HZ1.out HZ2.out _ (s.size + 1 + j) (L ++ [128] ++ List.replicate j 0) rfl (HWr.out.alloc _) (some ⟨wr.heap.size, 0, none⟩) 1 1 [0] (fun _ => True) rfl (Rd.one 0 _ trivial (new1 wr _)) (by omega) (by simp; omega) ?_
           intro v3 w5 hown3 hg3 hat3
           have hb5 : Below w.heap.size w w5 := (hbr.alloc (by omega) _).grown hg3 (by simp; omega) (fun k hk => (HWr.out.lt k hk).1)
           have HW5 := Lib.hid hown3
           clear hat3 hg3 hown3))
      go_roundw
      case rel => exact ⟨j + 1, by omega, by have := HW5.out; rw [List.append_assoc, ← List.replicate_succ'] at this; exact this, hb5⟩
      case measure =>
        obtain ⟨A2, c2, rfl, _⟩ := HW5.out.slice
        simp only [slen]
        omega
    · obtain rfl : j = z := by omega
      have HZ := Lib.hid hz
      have hv : (((s.size : Int) + 1 + (j : Int)) % 128 != 112) = false := by simp; omega
      have hLn := hL
      clear hlt hj hz
      go_wp2
      obtain ⟨wo, rfl⟩ : ∃ wo : World, wo = wr := ⟨_, rfl⟩
      go_loopw [4, 3] (fun i sv wr => ∃ q : Nat, q ≤ 8 ∧ i = .int .i64 q ∧ Ow wr w.heap.size 5 1 sv (s.size + 1 + (j + q)) ((L ++ [128] ++ List.replicate (j + q) 0).map v8) ∧ Below w.heap.size w wr) (fun i _ _ => 8 - (intOf i).toNat)
      case atStart => exact ⟨0, by omega, rfl, HWr.out, hbr⟩
      case round =>
       obtain ⟨q, hq, rfl, hown, hbr⟩ := hrel
       obtain ⟨A', c', rfl, hc'⟩ := hown.slice
       have HWr := Lib.hid hown
       have hsr := hbr.size
       clear hown
       by_cases hlt : q < 8
       · go_wp2_with (at_builtin; go_must (
           refine wpList_append_rd rfl (.tmp 22) (.tmp 23) 33 rfl w.heap.size 5 i0 Try.underlying33 HI.out HZ0.out HZ1.out HZ2.out _ (s.size + 1 + (j + q)) (L ++ [128] ++ List.replicate (j + q) 0) rfl (HWr.out.alloc _) (some ⟨wr.heap.size, 0, none⟩) 1 1 [0] (fun _ => True) rfl (Rd.one 0 _ trivial (new1 wr _)) (by omega) (by simp; omega) ?_
           intro v3 w5 hown3 hg3 hat3
           have hb5 : Below w.heap.size w w5 := (hbr.alloc (by omega) _).grown hg3 (by simp; omega) (fun k hk => (HWr.out.lt k hk).1)
           have HW5 := Lib.hid hown3
           clear hat3 hg3 hown3))
         go_roundw
         case rel =>
           exact ⟨q + 1, by omega, by go_num, by have := HW5.out; rw [List.append_assoc, ← List.replicate_succ'] at this; exact this, hb5⟩
         case measure => simp [intOf]; omega
       · obtain rfl : q = 8 := by omega
         clear hlt hq
         have HZ := Lib.hid (show j + 8 = (239 - s.size % 128) % 128 + 8 from by rw [← HZ.out])
         generalize hjn : j + 8 = jn at HWr HZ
         go_wp2
         go_loopw [6, 3] (fun i sv wr => ∃ k : Nat, k ≤ 8 ∧ i = .int .i64 (7 - (k : Int)) ∧ Ow wr w.heap.size 5 1 sv (s.size + 1 + jn + k) ((L ++ [128] ++ List.replicate jn 0 ++ (len8 (UInt64.ofNat s.size)).take k).map v8) ∧ Below w.heap.size w wr) (fun i _ _ => (intOf i + 1).toNat)
         case atStart => exact ⟨0, by omega, rfl, by simpa using HWr.out, hbr⟩
         case round =>
           obtain ⟨k, hk, rfl, hown, hbx⟩ := hrel
           obtain ⟨A2, c2, rfl, hc2⟩ := hown.slice
           have HWx := Lib.hid hown
           have hsx := hbx.size
           clear hown
           by_cases hlt : k < 8
           · obtain ⟨q, hq⟩ : ∃ q : Nat, q = 7 - k := ⟨_, rfl⟩
             have hqe : (7 : Int) - (k : Int) = (q : Int) := by omega
             have hq8 : q < 8 := by omega
             rw [hqe]
             go_wp2_with (at_builtin; go_must (
                refine wpList_append_rd rfl (.tmp 33) (.tmp 40) 33 rfl w.heap.size 5 i0 Try.underlying33 HI.out HZ0.out HZ1.out HZ2.out _ (s.size + 1 + jn + k) (L ++ [128] ++ List.replicate jn 0 ++ (len8 (UInt64.ofNat s.size)).take k) rfl (HWx.out.alloc _) (some ⟨wr.heap.size, 0, none⟩) 1 1 [_] (fun _ => True) rfl (Rd.one _ _ trivial (new1 wr _)) (by omega) (by simp; omega) ?_
                intro v3 w5 hown3 hg3 hat3
                have hb5 : Below w.heap.size w w5 := (hbx.alloc (by omega) _).grown hg3 (by simp; omega) (fun k hk => (HWx.out.lt k hk).1)
                have HW5 := Lib.hid hown3
                clear hat3 hg3 hown3))
             go_roundw
             case rel =>
               repeat apply Exists.intro
               refine ⟨?_, rfl⟩
               refine ⟨k + 1, by omega, by congr 1; omega, ?_, hb5⟩
               have e := HW5.out
               rw [List.append_assoc, len8_step _ _ hlt _ rfl] at e
               exact e
             case measure => simp [intOf]; omega
           · obtain rfl : k = 8 := by omega
             go_wp2
             go_ret
             have e := HWx.out
             rw [len8_all, show L ++ [128] ++ List.replicate jn 0 ++ len8 (UInt64.ofNat s.size) = L ++ tail64 s.size from by simp [tail64, ← HZ.out]] at e
             have hn : s.size + 1 + jn + 8 = s.size + (tail64 s.size).length := by
               rw [tail64]
               simp only [List.length_append, List.length_cons, List.length_replicate, len8_length, ← HZ.out]
               omega
             rw [hn, hL] at e
             obtain ⟨g, cap, cur, fr, hv, _⟩ := e.form (by omega)
             injection hv with h1 h2 h3
             subst h1
             rw [hn]
             exact ⟨g, c2, rfl, e, hbx⟩
end Go.Proofs.Ytkkfpgkogggfdaa.Cw
