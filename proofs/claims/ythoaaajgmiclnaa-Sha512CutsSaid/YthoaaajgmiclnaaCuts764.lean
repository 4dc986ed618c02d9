/-
  (package curvetlaw8) The walk of Sha512Cuts: true. Condition: the text takes at most 2^47 - 4096 bytes.
-/
import Derived.Test.YthoaaajgmiclnaaLawA64
import Derived.IntWalk
set_option linter.unusedSimpArgs false
set_option linter.unusedVariables false
namespace Go.Proofs.Ythoaaajgmiclnaa.Cw
open Go Go.RowKit

set_option maxRecDepth 100000 in
set_option maxHeartbeats 2000000 in
theorem sha512Cuts_walkL (s : ByteArray) (c : Int) (wide : Bool) (w : World) (hs : s.size ≤ 140737488351232) (hc : (Lit.int .i64 c).wf = true) : Calls Try.prog 5 #[.string s, .int .i64 c, .bool wide] w fun e w' => e = .returned (.bool true) ∧ Below w.heap.size w w' := by
  have hx : -9223372036854775808 ≤ c ∧ c ≤ 9223372036854775807 := by simpa [Lit.wf, IntKind.min, IntKind.max, IntKind.signed, IntKind.bits] using hc
  clear hc
  obtain ⟨k, hk, hks⟩ := cut_int c s.size hs
  go_enter Try.func5, Try.ntmps5
  have b1 : isBitsL 512 := .inr rfl
  have b2 : isBitsL 384 := .inl rfl
  have hj := cut_join s k hks
  have hj0 : s.extract 0 0 ++ s.extract 0 s.size = s := cut_join s 0 (by omega)
  have hz : (s.extract 0 k).size ≤ s.size := by simp; omega
  have hz2 : (s.extract k s.size).size ≤ s.size := by simp
  have hz0 : (s.extract 0 0).size ≤ s.size := by simp
  have HJ := Lib.hid hj
  have HJ0 := Lib.hid hj0
  have d1 := d64_size 512 s b1
  have d2 := d64_size 384 s b2
  have tok1 : True := trivial
  have tok2 : True := trivial
  have tok3 : True := trivial
  have tok4 : True := trivial
  clear hj hj0
  cases wide
  · by_cases h0 : 0 < s.size
    · go_wp2_with (first
        | (go_at_call 11; refine (awake_callsL _).mono ?_; rintro e w0 ⟨rfl, hb0⟩)
        | (go_at_call 10; refine (num_calls _ _).mono ?_; rintro e w9 ⟨rfl, rfl⟩)
        | (go_at_call 13; refine (new_yesL 384 _ b2).mono ?_; rintro e w1 ⟨b, rfl, hh1, hbl, hb1⟩; have HH1 := Lib.hid hh1; clear hh1)
        | (have _t := tok1; go_at_call 14; refine (write_callsL b 384 _ _ _ (by first | omega | (simp; try omega)) HH1.out).mono ?_; rintro e w2 ⟨rfl, hh2, hb2⟩; have HH2 := Lib.hid hh2; clear hh2 tok1 _t)
        | (have _t := tok2; go_at_call 15; refine (sum_callsL b 384 _ _ b2 HH2.out).mono ?_; rintro e w3 ⟨rfl, hb3⟩; have HH3 := Lib.hid (HH2.out.below hb3); clear tok2 _t)
        | (have _t := tok3; go_at_call 14; refine (write_callsL b 384 _ _ _ (by decide) HH3.out).mono ?_; rintro e w4 ⟨rfl, hh4, hb4⟩; have HH4 := Lib.hid hh4; clear hh4 tok3 _t)
        | (go_at_call 14; refine (write_callsL b 384 _ _ _ (by first | omega | (simp; try omega)) HH4.out).mono ?_; rintro e w5 ⟨rfl, hh5, hb5⟩; have HH5 := Lib.hid (show HashSL w5 b 384 s from by have hem : ({ data := #[] } : ByteArray) = ByteArray.empty := rfl; simpa [hem, HJ.out] using hh5); clear hh5)
        | (have _t := tok4; go_at_call 8; refine (of_yesL 384 s _ b2 (by omega)).mono ?_; rintro e w6 ⟨rfl, hb6⟩; clear tok4 _t)
        | (go_at_call 8; refine (of_yesL 384 _ _ b2 (by first | omega | (simp; try omega))).mono ?_; rintro e w7 ⟨rfl, hb7⟩)
        | (go_at_call 15; refine (sum_callsL b 384 _ _ b2 ((HH5.out.below hb6).below hb7)).mono ?_; rintro e w8 ⟨rfl, hb8⟩))
      go_ret
      have z0 := hb0.size
      have e1 := hb0.trans (hb1.mono z0)
      have e2 := But.below e1 hb2 (by omega) e1.size
      have e3 := e2.trans (hb3.mono e2.size)
      have e4 := But.below e3 hb4 (by omega) e3.size
      have e5 := But.below e4 hb5 (by omega) e4.size
      have e6 := e5.trans (hb6.mono e5.size)
      have e7 := e6.trans (hb7.mono e6.size)
      exact ⟨rfl, e7.trans (hb8.mono e7.size)⟩
    · go_wp2_with (first
        | (go_at_call 11; refine (awake_callsL _).mono ?_; rintro e w0 ⟨rfl, hb0⟩)
        | (go_at_call 10; refine (num_calls _ _).mono ?_; rintro e w9 ⟨rfl, rfl⟩)
        | (go_at_call 13; refine (new_yesL 384 _ b2).mono ?_; rintro e w1 ⟨b, rfl, hh1, hbl, hb1⟩; have HH1 := Lib.hid hh1; clear hh1)
        | (have _t := tok1; go_at_call 14; refine (write_callsL b 384 _ _ _ (by first | omega | (simp; try omega)) HH1.out).mono ?_; rintro e w2 ⟨rfl, hh2, hb2⟩; have HH2 := Lib.hid hh2; clear hh2 tok1 _t)
        | (have _t := tok2; go_at_call 15; refine (sum_callsL b 384 _ _ b2 HH2.out).mono ?_; rintro e w3 ⟨rfl, hb3⟩; have HH3 := Lib.hid (HH2.out.below hb3); clear tok2 _t)
        | (have _t := tok3; go_at_call 14; refine (write_callsL b 384 _ _ _ (by decide) HH3.out).mono ?_; rintro e w4 ⟨rfl, hh4, hb4⟩; have HH4 := Lib.hid hh4; clear hh4 tok3 _t)
        | (go_at_call 14; refine (write_callsL b 384 _ _ _ (by first | omega | (simp; try omega)) HH4.out).mono ?_; rintro e w5 ⟨rfl, hh5, hb5⟩; have HH5 := Lib.hid (show HashSL w5 b 384 s from by have hem : ({ data := #[] } : ByteArray) = ByteArray.empty := rfl; simpa [hem, HJ.out] using hh5); clear hh5)
        | (have _t := tok4; go_at_call 8; refine (of_yesL 384 s _ b2 (by omega)).mono ?_; rintro e w6 ⟨rfl, hb6⟩; clear tok4 _t)
        | (go_at_call 8; refine (of_yesL 384 _ _ b2 (by first | omega | (simp; try omega))).mono ?_; rintro e w7 ⟨rfl, hb7⟩)
        | (go_at_call 15; refine (sum_callsL b 384 _ _ b2 ((HH5.out.below hb6).below hb7)).mono ?_; rintro e w8 ⟨rfl, hb8⟩))
      go_ret
      have z0 := hb0.size
      have e1 := hb0.trans (hb1.mono z0)
      have e2 := But.below e1 hb2 (by omega) e1.size
      have e3 := e2.trans (hb3.mono e2.size)
      have e4 := But.below e3 hb4 (by omega) e3.size
      have e5 := But.below e4 hb5 (by omega) e4.size
      have e6 := e5.trans (hb6.mono e5.size)
      have e7 := e6.trans (hb7.mono e6.size)
      exact ⟨rfl, e7.trans (hb8.mono e7.size)⟩
  · by_cases h0 : 0 < s.size
    · go_wp2_with (first
        | (go_at_call 11; refine (awake_callsL _).mono ?_; rintro e w0 ⟨rfl, hb0⟩)
        | (go_at_call 10; refine (num_calls _ _).mono ?_; rintro e w9 ⟨rfl, rfl⟩)
        | (go_at_call 13; refine (new_yesL 512 _ b1).mono ?_; rintro e w1 ⟨b, rfl, hh1, hbl, hb1⟩; have HH1 := Lib.hid hh1; clear hh1)
        | (have _t := tok1; go_at_call 14; refine (write_callsL b 512 _ _ _ (by first | omega | (simp; try omega)) HH1.out).mono ?_; rintro e w2 ⟨rfl, hh2, hb2⟩; have HH2 := Lib.hid hh2; clear hh2 tok1 _t)
        | (have _t := tok2; go_at_call 15; refine (sum_callsL b 512 _ _ b1 HH2.out).mono ?_; rintro e w3 ⟨rfl, hb3⟩; have HH3 := Lib.hid (HH2.out.below hb3); clear tok2 _t)
        | (have _t := tok3; go_at_call 14; refine (write_callsL b 512 _ _ _ (by decide) HH3.out).mono ?_; rintro e w4 ⟨rfl, hh4, hb4⟩; have HH4 := Lib.hid hh4; clear hh4 tok3 _t)
        | (go_at_call 14; refine (write_callsL b 512 _ _ _ (by first | omega | (simp; try omega)) HH4.out).mono ?_; rintro e w5 ⟨rfl, hh5, hb5⟩; have HH5 := Lib.hid (show HashSL w5 b 512 s from by have hem : ({ data := #[] } : ByteArray) = ByteArray.empty := rfl; simpa [hem, HJ.out] using hh5); clear hh5)
        | (have _t := tok4; go_at_call 8; refine (of_yesL 512 s _ b1 (by omega)).mono ?_; rintro e w6 ⟨rfl, hb6⟩; clear tok4 _t)
        | (go_at_call 8; refine (of_yesL 512 _ _ b1 (by first | omega | (simp; try omega))).mono ?_; rintro e w7 ⟨rfl, hb7⟩)
        | (go_at_call 15; refine (sum_callsL b 512 _ _ b1 ((HH5.out.below hb6).below hb7)).mono ?_; rintro e w8 ⟨rfl, hb8⟩))
      go_ret
      have z0 := hb0.size
      have e1 := hb0.trans (hb1.mono z0)
      have e2 := But.below e1 hb2 (by omega) e1.size
      have e3 := e2.trans (hb3.mono e2.size)
      have e4 := But.below e3 hb4 (by omega) e3.size
      have e5 := But.below e4 hb5 (by omega) e4.size
      have e6 := e5.trans (hb6.mono e5.size)
      have e7 := e6.trans (hb7.mono e6.size)
      exact ⟨rfl, e7.trans (hb8.mono e7.size)⟩
    · go_wp2_with (first
        | (go_at_call 11; refine (awake_callsL _).mono ?_; rintro e w0 ⟨rfl, hb0⟩)
        | (go_at_call 10; refine (num_calls _ _).mono ?_; rintro e w9 ⟨rfl, rfl⟩)
        | (go_at_call 13; refine (new_yesL 512 _ b1).mono ?_; rintro e w1 ⟨b, rfl, hh1, hbl, hb1⟩; have HH1 := Lib.hid hh1; clear hh1)
        | (have _t := tok1; go_at_call 14; refine (write_callsL b 512 _ _ _ (by first | omega | (simp; try omega)) HH1.out).mono ?_; rintro e w2 ⟨rfl, hh2, hb2⟩; have HH2 := Lib.hid hh2; clear hh2 tok1 _t)
        | (have _t := tok2; go_at_call 15; refine (sum_callsL b 512 _ _ b1 HH2.out).mono ?_; rintro e w3 ⟨rfl, hb3⟩; have HH3 := Lib.hid (HH2.out.below hb3); clear tok2 _t)
        | (have _t := tok3; go_at_call 14; refine (write_callsL b 512 _ _ _ (by decide) HH3.out).mono ?_; rintro e w4 ⟨rfl, hh4, hb4⟩; have HH4 := Lib.hid hh4; clear hh4 tok3 _t)
        | (go_at_call 14; refine (write_callsL b 512 _ _ _ (by first | omega | (simp; try omega)) HH4.out).mono ?_; rintro e w5 ⟨rfl, hh5, hb5⟩; have HH5 := Lib.hid (show HashSL w5 b 512 s from by have hem : ({ data := #[] } : ByteArray) = ByteArray.empty := rfl; simpa [hem, HJ.out] using hh5); clear hh5)
        | (have _t := tok4; go_at_call 8; refine (of_yesL 512 s _ b1 (by omega)).mono ?_; rintro e w6 ⟨rfl, hb6⟩; clear tok4 _t)
        | (go_at_call 8; refine (of_yesL 512 _ _ b1 (by first | omega | (simp; try omega))).mono ?_; rintro e w7 ⟨rfl, hb7⟩)
        | (go_at_call 15; refine (sum_callsL b 512 _ _ b1 ((HH5.out.below hb6).below hb7)).mono ?_; rintro e w8 ⟨rfl, hb8⟩))
      go_ret
      have z0 := hb0.size
      have e1 := hb0.trans (hb1.mono z0)
      have e2 := But.below e1 hb2 (by omega) e1.size
      have e3 := e2.trans (hb3.mono e2.size)
      have e4 := But.below e3 hb4 (by omega) e3.size
      have e5 := But.below e4 hb5 (by omega) e4.size
      have e6 := e5.trans (hb6.mono e5.size)
      have e7 := e6.trans (hb7.mono e6.size)
      exact ⟨rfl, e7.trans (hb8.mono e7.size)⟩
end Go.Proofs.Ythoaaajgmiclnaa.Cw
