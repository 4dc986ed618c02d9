/-
  (package curvetlaw8) The walk of Sha512Streams: true. Condition: the texts take at most 2^20 bytes together.
-/
import Derived.Test.YthoaaajgmiclnaaLawA64
import Derived.Test.YthoaaajgmiclnaaStrs
set_option linter.unusedSimpArgs false
set_option linter.unusedVariables false
namespace Go.Proofs.Ythoaaajgmiclnaa.Cw
open Go Go.RowKit

set_option maxRecDepth 100000 in
set_option maxHeartbeats 2000000 in
theorem sha512Streams_walkL (c : Int) (A : Option Addr) (len cap : Nat) (zs : List ByteArray) (w : World) (hc : (Lit.int .i64 c).wf = true) (hr : IsStrs w A len cap zs) (hs : sizes zs ≤ 1048576) : Calls Try.prog 4 #[.int .i64 c, .slice A len cap] w fun e w' => e = .returned (.bool true) ∧ Below w.heap.size w w' := by
  have HR := Lib.hid hr
  have hlen := hr.len
  simp only [maxLen] at hlen
  clear hr
  go_enter Try.func4, Try.ntmps4
  by_cases hb : c = 384 ∨ c = 512
  · obtain ⟨bits, rfl⟩ : ∃ bits : Nat, c = (bits : Int) := ⟨c.toNat, by omega⟩
    have hb' : isBitsL bits := by unfold isBitsL; omega
    have hid : ((idOfL bits : Nat) : Int) ≠ 0 := by unfold idOfL; split <;> decide
    clear hb
    go_wp2_with (first
      | (go_at_call 13; refine (new_yesL bits _ hb').mono ?_; rintro e w1 ⟨b, rfl, hh1, hbl, hb1⟩; have HH1 := Lib.hid hh1; clear hh1)
      | (go_at_call 9; refine (id_yesL bits _ hb').mono ?_; rintro e w9 ⟨rfl, rfl⟩)
      | (go_at_call 10; refine (num_calls _ _).mono ?_; rintro e w9 ⟨rfl, rfl⟩))
    go_loopw [8, 7] (fun i sv wr => ∃ n : Nat, n ≤ len ∧ n ≤ 12 ∧ i = .int .i64 n ∧ sv = .string (joined zs n) ∧ HashSL wr b bits (joined zs n) ∧ Below w.heap.size w wr) (fun i _ _ => 12 - (intOf i).toNat)
    case atStart => exact ⟨0, by omega, by omega, rfl, rfl, HH1.out, hb1⟩
    case round =>
      obtain ⟨n, hn, hn12, rfl, rfl, hh, hbr⟩ := hrel
      have HH := Lib.hid hh
      have hz := hbr.size
      have hbs := hh.lt
      have hj := joined_size zs n
      have hj2 := joined_size zs (n + 1)
      have hp := part_size zs n
      clear hh
      by_cases hlt : n < len ∧ n < 12
      · obtain ⟨x, rfl, hxb, hcell⟩ := HR.out.at hlt.1
        have hcr : wr.cell? (x.add n) = some (.string (nthS zs n)) := (hbr.cell hxb).trans hcell
        obtain ⟨h1, h2⟩ := hlt
        by_cases h3 : n % 3 = 0
        · go_wp2_with (first
            | (go_at_call 14; refine (write_callsL b bits _ _ _ (by omega) HH.out).mono ?_; rintro e w2 ⟨rfl, hh2, hb2⟩; have HH2 := Lib.hid hh2; have hcr2 : w2.cell? (x.add n) = some (.string (nthS zs n)) := (World.cell?_of_block (hb2.block _ (by omega) (by simp; omega))).trans hcr; have hB2 : Below w.heap.size w w2 := But.below hbr hb2 hbl hz; clear hh2)
            | (go_at_call 10; refine (num_calls _ _).mono ?_; rintro e w9 ⟨rfl, rfl⟩)
            | (go_at_call 15; refine (sum_callsL b bits _ _ hb' HH2.out).mono ?_; rintro e w3 ⟨rfl, hb3⟩)
            | (go_at_call 9; refine (id_yesL bits _ hb').mono ?_; rintro e w9 ⟨rfl, rfl⟩)
            | (go_at_call 12; refine (refOf_callsL bits (joined zs n ++ nthS zs n) _ hb' (by have := joined_size zs (n + 1); simp only [joined] at this; omega)).mono ?_; rintro e w4 ⟨rfl, hb4⟩))
          go_roundw
          case rel => exact ⟨n + 1, by omega, by omega, by go_num, rfl, (HH2.out.below hb3).below hb4, (hB2.trans (hb3.mono hB2.size)).trans (hb4.mono (by have := hB2.size; have := hb3.size; omega))⟩
          case measure => simp [intOf]; omega
        · go_wp2_with (first
            | (go_at_call 14; refine (write_callsL b bits _ _ _ (by omega) HH.out).mono ?_; rintro e w2 ⟨rfl, hh2, hb2⟩; have HH2 := Lib.hid hh2; have hcr2 : w2.cell? (x.add n) = some (.string (nthS zs n)) := (World.cell?_of_block (hb2.block _ (by omega) (by simp; omega))).trans hcr; have hB2 : Below w.heap.size w w2 := But.below hbr hb2 hbl hz; clear hh2)
            | (go_at_call 10; refine (num_calls _ _).mono ?_; rintro e w9 ⟨rfl, rfl⟩)
            | (go_at_call 15; refine (sum_callsL b bits _ _ hb' HH2.out).mono ?_; rintro e w3 ⟨rfl, hb3⟩)
            | (go_at_call 9; refine (id_yesL bits _ hb').mono ?_; rintro e w9 ⟨rfl, rfl⟩)
            | (go_at_call 12; refine (refOf_callsL bits (joined zs n ++ nthS zs n) _ hb' (by have := joined_size zs (n + 1); simp only [joined] at this; omega)).mono ?_; rintro e w4 ⟨rfl, hb4⟩))
          go_roundw
          case rel => exact ⟨n + 1, by omega, by omega, by go_num, rfl, HH2.out, hB2⟩
          case measure => simp [intOf]; omega
      · have tok1 : True := trivial
        have tok2 : True := trivial
        have tok3 : True := trivial
        by_cases h1 : n < len
        · have h2 : ¬ n < 12 := by omega
          clear hlt
          go_wp2_with (first
            | (go_at_call 9; refine (id_yesL bits _ hb').mono ?_; rintro e w9 ⟨rfl, rfl⟩)
            | (have _t := tok1; go_at_call 15; refine (sum_callsL b bits (joined zs n) _ hb' HH.out).mono ?_; rintro e w2 ⟨rfl, hb2⟩; have HH2 := Lib.hid (HH.out.below hb2); clear tok1 _t)
            | (have _t := tok2; go_at_call 12; refine (refOf_callsL bits (joined zs n) _ hb' (by omega)).mono ?_; rintro e w3 ⟨rfl, hb3⟩; have HH3 := Lib.hid (HH2.out.below hb3); clear tok2 _t)
            | (have _t := tok3; go_at_call 15; refine (sum_callsL b bits (joined zs n) _ hb' HH3.out).mono ?_; rintro e w4 ⟨rfl, hb4⟩; clear tok3 _t)
            | (go_at_call 12; refine (refOf_callsL bits (joined zs n) _ hb' (by omega)).mono ?_; rintro e w5 ⟨rfl, hb5⟩)
            | (go_at_call 11; refine (awake_callsL _).mono ?_; rintro e w6 ⟨rfl, hb6⟩))
          go_ret
          have z2 := hb2.size
          have z3 := hb3.size
          have z4 := hb4.size
          have z5 := hb5.size
          exact ⟨rfl, ((((hbr.trans (hb2.mono (by omega))).trans (hb3.mono (by omega))).trans (hb4.mono (by omega))).trans (hb5.mono (by omega))).trans (hb6.mono (by omega))⟩
        · clear hlt
          go_wp2_with (first
            | (go_at_call 9; refine (id_yesL bits _ hb').mono ?_; rintro e w9 ⟨rfl, rfl⟩)
            | (have _t := tok1; go_at_call 15; refine (sum_callsL b bits (joined zs n) _ hb' HH.out).mono ?_; rintro e w2 ⟨rfl, hb2⟩; have HH2 := Lib.hid (HH.out.below hb2); clear tok1 _t)
            | (have _t := tok2; go_at_call 12; refine (refOf_callsL bits (joined zs n) _ hb' (by omega)).mono ?_; rintro e w3 ⟨rfl, hb3⟩; have HH3 := Lib.hid (HH2.out.below hb3); clear tok2 _t)
            | (have _t := tok3; go_at_call 15; refine (sum_callsL b bits (joined zs n) _ hb' HH3.out).mono ?_; rintro e w4 ⟨rfl, hb4⟩; clear tok3 _t)
            | (go_at_call 12; refine (refOf_callsL bits (joined zs n) _ hb' (by omega)).mono ?_; rintro e w5 ⟨rfl, hb5⟩)
            | (go_at_call 11; refine (awake_callsL _).mono ?_; rintro e w6 ⟨rfl, hb6⟩))
          go_ret
          have z2 := hb2.size
          have z3 := hb3.size
          have z4 := hb4.size
          have z5 := hb5.size
          exact ⟨rfl, ((((hbr.trans (hb2.mono (by omega))).trans (hb3.mono (by omega))).trans (hb4.mono (by omega))).trans (hb5.mono (by omega))).trans (hb6.mono (by omega))⟩
  · go_wp2_with (first
      | (go_at_call 13; refine (new64_no c _ (by omega) (by omega)).mono ?_; rintro e w1 ⟨rfl, hb1⟩)
      | (go_at_call 9; refine (id_noL c _ (by omega) (by omega)).mono ?_; rintro e w9 ⟨rfl, rfl⟩)
      | (go_at_call 10; refine (num_calls _ _).mono ?_; rintro e w9 ⟨rfl, rfl⟩)
      | (go_at_call 11; refine (awake_callsL _).mono ?_; rintro e w3 ⟨rfl, hb3⟩))
    go_ret
    exact ⟨rfl, hb1.trans (hb3.mono hb1.size)⟩
end Go.Proofs.Ythoaaajgmiclnaa.Cw
