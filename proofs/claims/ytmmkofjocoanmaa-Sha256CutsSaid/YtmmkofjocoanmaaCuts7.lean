/-
  (package curvetlaw7) The walk of Sha256Cuts: true. Condition: the text takes at most 2^47 - 4096 bytes.
-/
import Derived.Test.YtmmkofjocoanmaaLawA
import Derived.IntWalk
set_option linter.unusedSimpArgs false
set_option linter.unusedVariables false
namespace Go.Proofs.Ytmmkofjocoanmaa.Cw
open Go Go.RowKit

theorem cut_int (c : Int) (n : Nat) (hn : n ≤ 140737488351232) : ∃ k : Nat, wrap64 ((IntKind.u64.wrap c).tmod ((n : Int) + 1)) = (k : Int) ∧ k ≤ n := by
  have h0 : 0 ≤ IntKind.u64.wrap c := by
    simp only [IntKind.wrap, IntKind.bits, IntKind.signed]; simp; omega
  obtain ⟨X, hX⟩ := Int.eq_ofNat_of_zero_le h0
  have h1 : ((X : Int)).tmod ((n : Int) + 1) = ((X % (n + 1) : Nat) : Int) := by
    rw [Int.tmod_eq_emod_of_nonneg (by omega), Int.natCast_emod]; rfl
  have h2 : X % (n + 1) < n + 1 := Nat.mod_lt _ (by omega)
  refine ⟨X % (n + 1), ?_, by omega⟩
  rw [hX, h1]
  exact IntWalk.wrap64_in ((X % (n + 1) : Nat) : Int) (by omega)
theorem cut_join (s : ByteArray) (k : Nat) (hk : k ≤ s.size) : s.extract 0 k ++ s.extract k s.size = s := by
  rw [ByteArray.extract_append_extract]
  simp [Nat.max_eq_right hk]

set_option maxRecDepth 100000 in
set_option maxHeartbeats 2000000 in
theorem sha256Cuts_walk (s : ByteArray) (c : Int) (wide : Bool) (w : World) (hs : s.size ≤ 140737488351232) (hc : (Lit.int .i64 c).wf = true) : Calls Try.prog 6 #[.string s, .int .i64 c, .bool wide] w fun e w' => e = .returned (.bool true) ∧ Below w.heap.size w w' := by
  have hx : -9223372036854775808 ≤ c ∧ c ≤ 9223372036854775807 := by simpa [Lit.wf, IntKind.min, IntKind.max, IntKind.signed, IntKind.bits] using hc
  clear hc
  obtain ⟨k, hk, hks⟩ := cut_int c s.size hs
  go_enter Try.func6, Try.ntmps6
  have b1 : isBits 256 := .inr rfl
  have b2 : isBits 224 := .inl rfl
  have hj := cut_join s k hks
  have hj0 : s.extract 0 0 ++ s.extract 0 s.size = s := cut_join s 0 (by omega)
  have hz : (s.extract 0 k).size ≤ s.size := by simp; omega
  have hz2 : (s.extract k s.size).size ≤ s.size := by simp
  have hz0 : (s.extract 0 0).size ≤ s.size := by simp
  have HJ := Lib.hid hj
  have HJ0 := Lib.hid hj0
  have d1 := d32_size 256 s b1
  have d2 := d32_size 224 s b2
  have tok1 : True := trivial
  have tok2 : True := trivial
  have tok3 : True := trivial
  have tok4 : True := trivial
  clear hj hj0
  cases wide
  · by_cases h0 : 0 < s.size
    · go_wp2_with (first
        | (go_at_call 23; refine (awake_calls _).mono ?_; rintro e w0 ⟨rfl, hb0⟩)
        | (go_at_call 22; refine (num_calls _ _).mono ?_; rintro e w9 ⟨rfl, rfl⟩)
        | (go_at_call 25; refine (new_yes 224 _ b2).mono ?_; rintro e w1 ⟨b, rfl, hh1, hbl, hb1⟩; have HH1 := Lib.hid hh1; clear hh1)
        | (have _t := tok1; go_at_call 26; refine (write_calls b 224 _ _ _ (by first | omega | (simp; try omega)) HH1.out).mono ?_; rintro e w2 ⟨rfl, hh2, hb2⟩; have HH2 := Lib.hid hh2; clear hh2 tok1 _t)
        | (have _t := tok2; go_at_call 27; refine (sum_calls b 224 _ _ b2 HH2.out).mono ?_; rintro e w3 ⟨rfl, hb3⟩; have HH3 := Lib.hid (HH2.out.below hb3); clear tok2 _t)
        | (have _t := tok3; go_at_call 26; refine (write_calls b 224 _ _ _ (by decide) HH3.out).mono ?_; rintro e w4 ⟨rfl, hh4, hb4⟩; have HH4 := Lib.hid hh4; clear hh4 tok3 _t)
        | (go_at_call 26; refine (write_calls b 224 _ _ _ (by first | omega | (simp; try omega)) HH4.out).mono ?_; rintro e w5 ⟨rfl, hh5, hb5⟩; have HH5 := Lib.hid (show HashS w5 b 224 s from by have hem : ({ data := #[] } : ByteArray) = ByteArray.empty := rfl; simpa [hem, HJ.out] using hh5); clear hh5)
        | (have _t := tok4; go_at_call 20; refine (of_yes 224 s _ b2 (by omega)).mono ?_; rintro e w6 ⟨rfl, hb6⟩; clear tok4 _t)
        | (go_at_call 20; refine (of_yes 224 _ _ b2 (by first | omega | (simp; try omega))).mono ?_; rintro e w7 ⟨rfl, hb7⟩)
        | (go_at_call 27; refine (sum_calls b 224 _ _ b2 ((HH5.out.below hb6).below hb7)).mono ?_; rintro e w8 ⟨rfl, hb8⟩))
      go_ret
      have z0 := hb0.size
      have e1 := hb0.trans (hb1.mono z0)
      have e2 := But.below e1 hb2 (by omega) e1.size
      have e3 := e2.trans (hb3.mono e2.size)
      have e4 := But.below e3 hb4 (by omega) e3.size
      have e5 := But.below e4 hb5 (by omega) e4.size
      have e6 := e5.trans (hb6.mono e5.size)
      have e7 := e6.trans (hb7.mono e6.size)
      exact ⟨rfl, e7.trans (hb8.mono e7.size)⟩
    · go_wp2_with (first
        | (go_at_call 23; refine (awake_calls _).mono ?_; rintro e w0 ⟨rfl, hb0⟩)
        | (go_at_call 22; refine (num_calls _ _).mono ?_; rintro e w9 ⟨rfl, rfl⟩)
        | (go_at_call 25; refine (new_yes 224 _ b2).mono ?_; rintro e w1 ⟨b, rfl, hh1, hbl, hb1⟩; have HH1 := Lib.hid hh1; clear hh1)
        | (have _t := tok1; go_at_call 26; refine (write_calls b 224 _ _ _ (by first | omega | (simp; try omega)) HH1.out).mono ?_; rintro e w2 ⟨rfl, hh2, hb2⟩; have HH2 := Lib.hid hh2; clear hh2 tok1 _t)
        | (have _t := tok2; go_at_call 27; refine (sum_calls b 224 _ _ b2 HH2.out).mono ?_; rintro e w3 ⟨rfl, hb3⟩; have HH3 := Lib.hid (HH2.out.below hb3); clear tok2 _t)
        | (have _t := tok3; go_at_call 26; refine (write_calls b 224 _ _ _ (by decide) HH3.out).mono ?_; rintro e w4 ⟨rfl, hh4, hb4⟩; have HH4 := Lib.hid hh4; clear hh4 tok3 _t)
        | (go_at_call 26; refine (write_calls b 224 _ _ _ (by first | omega | (simp; try omega)) HH4.out).mono ?_; rintro e w5 ⟨rfl, hh5, hb5⟩; have HH5 := Lib.hid (show HashS w5 b 224 s from by have hem : ({ data := #[] } : ByteArray) = ByteArray.empty := rfl; simpa [hem, HJ.out] using hh5); clear hh5)
        | (have _t := tok4; go_at_call 20; refine (of_yes 224 s _ b2 (by omega)).mono ?_; rintro e w6 ⟨rfl, hb6⟩; clear tok4 _t)
        | (go_at_call 20; refine (of_yes 224 _ _ b2 (by first | omega | (simp; try omega))).mono ?_; rintro e w7 ⟨rfl, hb7⟩)
        | (go_at_call 27; refine (sum_calls b 224 _ _ b2 ((HH5.out.below hb6).below hb7)).mono ?_; rintro e w8 ⟨rfl, hb8⟩))
      go_ret
      have z0 := hb0.size
      have e1 := hb0.trans (hb1.mono z0)
      have e2 := But.below e1 hb2 (by omega) e1.size
      have e3 := e2.trans (hb3.mono e2.size)
      have e4 := But.below e3 hb4 (by omega) e3.size
      have e5 := But.below e4 hb5 (by omega) e4.size
      have e6 := e5.trans (hb6.mono e5.size)
      have e7 := e6.trans (hb7.mono e6.size)
      exact ⟨rfl, e7.trans (hb8.mono e7.size)⟩
  · by_cases h0 : 0 < s.size
    · go_wp2_with (first
        | (go_at_call 23; refine (awake_calls _).mono ?_; rintro e w0 ⟨rfl, hb0⟩)
        | (go_at_call 22; refine (num_calls _ _).mono ?_; rintro e w9 ⟨rfl, rfl⟩)
        | (go_at_call 25; refine (new_yes 256 _ b1).mono ?_; rintro e w1 ⟨b, rfl, hh1, hbl, hb1⟩; have HH1 := Lib.hid hh1; clear hh1)
        | (have _t := tok1; go_at_call 26; refine (write_calls b 256 _ _ _ (by first | omega | (simp; try omega)) HH1.out).mono ?_; rintro e w2 ⟨rfl, hh2, hb2⟩; have HH2 := Lib.hid hh2; clear hh2 tok1 _t)
        | (have _t := tok2; go_at_call 27; refine (sum_calls b 256 _ _ b1 HH2.out).mono ?_; rintro e w3 ⟨rfl, hb3⟩; have HH3 := Lib.hid (HH2.out.below hb3); clear tok2 _t)
        | (have _t := tok3; go_at_call 26; refine (write_calls b 256 _ _ _ (by decide) HH3.out).mono ?_; rintro e w4 ⟨rfl, hh4, hb4⟩; have HH4 := Lib.hid hh4; clear hh4 tok3 _t)
        | (go_at_call 26; refine (write_calls b 256 _ _ _ (by first | omega | (simp; try omega)) HH4.out).mono ?_; rintro e w5 ⟨rfl, hh5, hb5⟩; have HH5 := Lib.hid (show HashS w5 b 256 s from by have hem : ({ data := #[] } : ByteArray) = ByteArray.empty := rfl; simpa [hem, HJ.out] using hh5); clear hh5)
        | (have _t := tok4; go_at_call 20; refine (of_yes 256 s _ b1 (by omega)).mono ?_; rintro e w6 ⟨rfl, hb6⟩; clear tok4 _t)
        | (go_at_call 20; refine (of_yes 256 _ _ b1 (by first | omega | (simp; try omega))).mono ?_; rintro e w7 ⟨rfl, hb7⟩)
        | (go_at_call 27; refine (sum_calls b 256 _ _ b1 ((HH5.out.below hb6).below hb7)).mono ?_; rintro e w8 ⟨rfl, hb8⟩))
      go_ret
      have z0 := hb0.size
      have e1 := hb0.trans (hb1.mono z0)
      have e2 := But.below e1 hb2 (by omega) e1.size
      have e3 := e2.trans (hb3.mono e2.size)
      have e4 := But.below e3 hb4 (by omega) e3.size
      have e5 := But.below e4 hb5 (by omega) e4.size
      have e6 := e5.trans (hb6.mono e5.size)
      have e7 := e6.trans (hb7.mono e6.size)
      exact ⟨rfl, e7.trans (hb8.mono e7.size)⟩
    · go_wp2_with (first
        | (go_at_call 23; refine (awake_calls _).mono ?_; rintro e w0 ⟨rfl, hb0⟩)
        | (go_at_call 22; refine (num_calls _ _).mono ?_; rintro e w9 ⟨rfl, rfl⟩)
        | (go_at_call 25; refine (new_yes 256 _ b1).mono ?_; rintro e w1 ⟨b, rfl, hh1, hbl, hb1⟩; have HH1 := Lib.hid hh1; clear hh1)
        | (have _t := tok1; go_at_call 26; refine (write_calls b 256 _ _ _ (by first | omega | (simp; try omega)) HH1.out).mono ?_; rintro e w2 ⟨rfl, hh2, hb2⟩; have HH2 := Lib.hid hh2; clear hh2 tok1 _t)
        | (have _t := tok2; go_at_call 27; refine (sum_calls b 256 _ _ b1 HH2.out).mono ?_; rintro e w3 ⟨rfl, hb3⟩; have HH3 := Lib.hid (HH2.out.below hb3); clear tok2 _t)
        | (have _t := tok3; go_at_call 26; refine (write_calls b 256 _ _ _ (by decide) HH3.out).mono ?_; rintro e w4 ⟨rfl, hh4, hb4⟩; have HH4 := Lib.hid hh4; clear hh4 tok3 _t)
        | (go_at_call 26; refine (write_calls b 256 _ _ _ (by first | omega | (simp; try omega)) HH4.out).mono ?_; rintro e w5 ⟨rfl, hh5, hb5⟩; have HH5 := Lib.hid (show HashS w5 b 256 s from by have hem : ({ data := #[] } : ByteArray) = ByteArray.empty := rfl; simpa [hem, HJ.out] using hh5); clear hh5)
        | (have _t := tok4; go_at_call 20; refine (of_yes 256 s _ b1 (by omega)).mono ?_; rintro e w6 ⟨rfl, hb6⟩; clear tok4 _t)
        | (go_at_call 20; refine (of_yes 256 _ _ b1 (by first | omega | (simp; try omega))).mono ?_; rintro e w7 ⟨rfl, hb7⟩)
        | (go_at_call 27; refine (sum_calls b 256 _ _ b1 ((HH5.out.below hb6).below hb7)).mono ?_; rintro e w8 ⟨rfl, hb8⟩))
      go_ret
      have z0 := hb0.size
      have e1 := hb0.trans (hb1.mono z0)
      have e2 := But.below e1 hb2 (by omega) e1.size
      have e3 := e2.trans (hb3.mono e2.size)
      have e4 := But.below e3 hb4 (by omega) e3.size
      have e5 := But.below e4 hb5 (by omega) e4.size
      have e6 := e5.trans (hb6.mono e5.size)
      have e7 := e6.trans (hb7.mono e6.size)
      exact ⟨rfl, e7.trans (hb8.mono e7.size)⟩
end Go.Proofs.Ytmmkofjocoanmaa.Cw
