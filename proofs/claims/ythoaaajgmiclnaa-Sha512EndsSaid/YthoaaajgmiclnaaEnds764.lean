/-
  (package curvetlaw8) The walk of Sha512Ends: true. No condition.
-/
import Derived.Test.YthoaaajgmiclnaaLawA64
import Derived.IntWalk
set_option linter.unusedSimpArgs false
set_option linter.unusedVariables false
namespace Go.Proofs.Ythoaaajgmiclnaa.Cw
open Go Go.RowKit

set_option maxRecDepth 100000 in
set_option maxHeartbeats 2000000 in
theorem sha512Ends_walkL (c : Int) (wide : Bool) (w : World) (hc : (Lit.int .i64 c).wf = true) : Calls Try.prog 6 #[.int .i64 c, .bool wide] w fun e w' => e = .returned (.bool true) ∧ Below w.heap.size w w' := by
  clear hc
  obtain ⟨k, hk, hk2⟩ := and255 c
  go_enter Try.func6, Try.ntmps6
  have b1 : isBitsL 512 := .inr rfl
  have b2 : isBitsL 384 := .inl rfl
  have d1 := d64_size 512 (noughts k) b1
  have d2 := d64_size 384 (noughts k) b2
  obtain ⟨i0, hi, hz0, hz1, hz2⟩ := info_parts info_u8
  have HI := Lib.hid hi
  have HZ0 := Lib.hid hz0
  have HZ1 := Lib.hid hz1
  have HZ2 := Lib.hid hz2
  clear hi hz0 hz1 hz2
  cases wide
  · go_wp2_with (first
        | (go_at_call 11; refine (awake_callsL _).mono ?_; rintro e w0 ⟨rfl, hb0⟩)
        | (go_at_call 10; refine (num_calls _ _).mono ?_; rintro e w9 ⟨rfl, rfl⟩)
        | (refine wpList_make_bytes rfl (.tmp 19) (.tmp 19) 39 rfl w0.heap.size 5 i0 Try.underlying39 HI.out HZ0.out HZ1.out HZ2.out .i64 .i64 (k : Int) (k : Int) k rfl rfl rfl rfl (by omega) (Nat.le_refl _) ?_
           intro wm how hgm
           have hbm : Below w0.heap.size w0 wm := (Below.refl _ _).grown hgm (Nat.le_refl _) (fun k hk => by cases hk)
           have hcv := run_convert_rd (P := Try.prog) (how.rd (fun _ => True) (fun _ _ => trivial)) 39 9 5 Try.underlying39 Try.underlying5 Try.underlying9
           rw [show ({ data := (List.replicate k (0 : UInt8)).toArray } : ByteArray) = noughts k from rfl] at hcv
           clear how hgm)
        | (go_at_call 13; refine (new_yesL 384 _ b2).mono ?_; rintro e w2 ⟨b, rfl, hh2, hbl, hb2⟩; have HH2 := Lib.hid hh2; clear hh2)
        | (go_at_call 8; refine (of_yesL 384 (noughts k) _ b2 (by rw [noughts_size]; omega)).mono ?_; rintro e w1 ⟨rfl, hb1⟩))
    have z0 := hb0.size
    have zm := hbm.size
    have z1 := hb1.size
    have z2 := hb2.size
    have hbw : w.heap.size ≤ b := by omega
    go_loopw [12] (fun i wr => ∃ n : Nat, n ≤ k ∧ i = .int .i64 n ∧ HashSL wr b 384 (noughts n) ∧ Below w.heap.size w wr) (fun i _ => k - (intOf i).toNat)
    case atStart => exact ⟨0, by omega, rfl, HH2.out, (((hb0.trans (hbm.mono (by omega))).trans (hb1.mono (by omega))).trans (hb2.mono (by omega)))⟩
    case round =>
      obtain ⟨n, hn, rfl, hh, hbr⟩ := hrel
      have HH := Lib.hid hh
      have hz := hbr.size
      clear hh
      by_cases hlt : n < k
      · go_wp2_with (go_at_call 14; refine (write_callsL b 384 _ _ _ (by decide) HH.out).mono ?_; rintro e w3 ⟨rfl, hh3, hb3⟩; rw [noughts_succ] at hh3; have HH3 := Lib.hid hh3; clear hh3)
        go_roundw
        case rel => exact ⟨n + 1, by omega, by go_num, HH3.out, But.below hbr hb3 (by omega) hz⟩
        case measure => simp [intOf]; omega
      · obtain rfl : n = k := by omega
        go_wp2_with (first
          | (go_at_call 10; refine (num_calls _ _).mono ?_; rintro e w9 ⟨rfl, rfl⟩)
          | (go_at_call 14; refine (write_callsL b 384 _ _ _ (by decide) HH.out).mono ?_; rintro e w3 ⟨rfl, hh3, hb3⟩; have HH3 := Lib.hid (show HashSL w3 b 384 (noughts n) from by have hem : ({ data := #[] } : ByteArray) = ByteArray.empty := rfl; simpa [hem] using hh3); clear hh3)
          | (go_at_call 15; refine (sum_callsL b 384 _ _ b2 HH3.out).mono ?_; rintro e w4 ⟨rfl, hb4⟩))
        go_ret
        have e3 := But.below hbr hb3 (by omega) hz
        exact ⟨rfl, e3.trans (hb4.mono e3.size)⟩
  · go_wp2_with (first
        | (go_at_call 11; refine (awake_callsL _).mono ?_; rintro e w0 ⟨rfl, hb0⟩)
        | (go_at_call 10; refine (num_calls _ _).mono ?_; rintro e w9 ⟨rfl, rfl⟩)
        | (refine wpList_make_bytes rfl (.tmp 19) (.tmp 19) 39 rfl w0.heap.size 5 i0 Try.underlying39 HI.out HZ0.out HZ1.out HZ2.out .i64 .i64 (k : Int) (k : Int) k rfl rfl rfl rfl (by omega) (Nat.le_refl _) ?_
           intro wm how hgm
           have hbm : Below w0.heap.size w0 wm := (Below.refl _ _).grown hgm (Nat.le_refl _) (fun k hk => by cases hk)
           have hcv := run_convert_rd (P := Try.prog) (how.rd (fun _ => True) (fun _ _ => trivial)) 39 9 5 Try.underlying39 Try.underlying5 Try.underlying9
           rw [show ({ data := (List.replicate k (0 : UInt8)).toArray } : ByteArray) = noughts k from rfl] at hcv
           clear how hgm)
        | (go_at_call 13; refine (new_yesL 512 _ b1).mono ?_; rintro e w2 ⟨b, rfl, hh2, hbl, hb2⟩; have HH2 := Lib.hid hh2; clear hh2)
        | (go_at_call 8; refine (of_yesL 512 (noughts k) _ b1 (by rw [noughts_size]; omega)).mono ?_; rintro e w1 ⟨rfl, hb1⟩))
    have z0 := hb0.size
    have zm := hbm.size
    have z1 := hb1.size
    have z2 := hb2.size
    have hbw : w.heap.size ≤ b := by omega
    go_loopw [12] (fun i wr => ∃ n : Nat, n ≤ k ∧ i = .int .i64 n ∧ HashSL wr b 512 (noughts n) ∧ Below w.heap.size w wr) (fun i _ => k - (intOf i).toNat)
    case atStart => exact ⟨0, by omega, rfl, HH2.out, (((hb0.trans (hbm.mono (by omega))).trans (hb1.mono (by omega))).trans (hb2.mono (by omega)))⟩
    case round =>
      obtain ⟨n, hn, rfl, hh, hbr⟩ := hrel
      have HH := Lib.hid hh
      have hz := hbr.size
      clear hh
      by_cases hlt : n < k
      · go_wp2_with (go_at_call 14; refine (write_callsL b 512 _ _ _ (by decide) HH.out).mono ?_; rintro e w3 ⟨rfl, hh3, hb3⟩; rw [noughts_succ] at hh3; have HH3 := Lib.hid hh3; clear hh3)
        go_roundw
        case rel => exact ⟨n + 1, by omega, by go_num, HH3.out, But.below hbr hb3 (by omega) hz⟩
        case measure => simp [intOf]; omega
      · obtain rfl : n = k := by omega
        go_wp2_with (first
          | (go_at_call 10; refine (num_calls _ _).mono ?_; rintro e w9 ⟨rfl, rfl⟩)
          | (go_at_call 14; refine (write_callsL b 512 _ _ _ (by decide) HH.out).mono ?_; rintro e w3 ⟨rfl, hh3, hb3⟩; have HH3 := Lib.hid (show HashSL w3 b 512 (noughts n) from by have hem : ({ data := #[] } : ByteArray) = ByteArray.empty := rfl; simpa [hem] using hh3); clear hh3)
          | (go_at_call 15; refine (sum_callsL b 512 _ _ b1 HH3.out).mono ?_; rintro e w4 ⟨rfl, hb4⟩))
        go_ret
        have e3 := But.below hbr hb3 (by omega) hz
        exact ⟨rfl, e3.trans (hb4.mono e3.size)⟩
end Go.Proofs.Ythoaaajgmiclnaa.Cw
