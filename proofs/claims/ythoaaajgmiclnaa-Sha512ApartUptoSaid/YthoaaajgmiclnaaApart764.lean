/-
  (package curvetlaw8) The walk of Sha512Apart: true. Condition: the texts take at most 2^20 bytes together.
-/
import Derived.Test.YthoaaajgmiclnaaStreams764
set_option linter.unusedSimpArgs false
set_option linter.unusedVariables false
namespace Go.Proofs.Ythoaaajgmiclnaa.Cw
open Go Go.RowKit

theorem HashAtL.but {w w' : World} {b b' : Nat} {p : Nat → Prop} {bits : Nat} {m : List UInt8} (h : HashAtL w b p bits m) (hb : But b' w w') (hne : b ≠ b') (hp : ∀ g, p g → g ≠ b') : HashAtL w' b p bits m :=
  h.keep hb.size (hb.block b h.lt (by simpa using hne)) fun g hg hlt => hb.block g hlt (by simpa using hp g hg)
theorem HashAtL.below {w w' : World} {b : Nat} {p : Nat → Prop} {bits : Nat} {m : List UInt8} (h : HashAtL w b p bits m) (hb : Below w.heap.size w w') : HashAtL w' b p bits m :=
  h.keep hb.size (hb.block b h.lt) fun g _ hg => hb.block g hg
/-- of two hashes the one, of which the other knows nothing -/
def HashTL (w : World) (x y b bits : Nat) (s : ByteArray) : Prop := HashAtL w b (fun g => g ≠ x ∧ g ≠ y) bits s.data.toList
theorem HashTL.below {w w' : World} {x y b bits : Nat} {s : ByteArray} (h : HashTL w x y b bits s) (hb : Below w.heap.size w w') : HashTL w' x y b bits s := HashAtL.below h hb
theorem writeT_callsL (x y b bits : Nat) (m s : ByteArray) (w : World) (hbx : b = x ∨ b = y) (hx : x < w.heap.size) (hy : y < w.heap.size) (hs : s.size ≤ 140737488355200) (hh : HashTL w x y b bits m) :
    Calls Try.prog 14 #[.pointer (some ⟨b, 0, none⟩), .string s] w fun e w' => e = .returned (.int .i64 0) ∧ HashTL w' x y b bits (m ++ s) ∧ But b w w' :=
  (write64_calls b _ bits m.data.toList s w (fun g hg => by constructor <;> omega) (fun g h => by rcases hbx with rfl | rfl; exact h.1; exact h.2) hs hh).mono fun _ _ ⟨h1, h2, h3⟩ => ⟨h1, by unfold HashTL; simpa using h2, h3⟩
theorem sumT_callsL (x y b bits : Nat) (m : ByteArray) (w : World) (hb : isBitsL bits) (hh : HashTL w x y b bits m) :
    Calls Try.prog 15 #[.pointer (some ⟨b, 0, none⟩)] w fun e w' => e = .returned (.string (d64 bits m)) ∧ Below w.heap.size w w' :=
  sum64_calls b _ bits _ w hb hh

set_option maxRecDepth 100000 in
set_option maxHeartbeats 2000000 in
theorem sha512Apart_walkL (A : Option Addr) (len cap : Nat) (zs : List ByteArray) (wide : Bool) (w : World) (hr : IsStrs w A len cap zs) (hs : sizes zs ≤ 1048576) : Calls Try.prog 7 #[.slice A len cap, .bool wide] w fun e w' => e = .returned (.bool true) ∧ Below w.heap.size w w' := by
  have HR := Lib.hid hr
  have hlen := hr.len
  simp only [maxLen] at hlen
  clear hr
  go_enter Try.func7, Try.ntmps7
  have b1 : isBitsL 512 := .inr rfl
  have b2 : isBitsL 384 := .inl rfl
  have tok1 : True := trivial
  have tok2 : True := trivial
  have tok3 : True := trivial
  have tok4 : True := trivial
  have tok5 : True := trivial
  go_wp2_with (first
      | (go_at_call 11; refine (awake_callsL _).mono ?_; rintro e w0 ⟨rfl, hb0⟩)
      | (have _t := tok1; go_at_call 13; refine (new64_yes 384 _ b2).mono ?_; rintro e w1 ⟨x, rfl, hh1, hxl, hb1⟩; have HH1 := Lib.hid hh1; clear hh1 tok1 _t)
      | (have _t := tok2; go_at_call 13; refine (new64_yes 512 _ b1).mono ?_; rintro e w2 ⟨y, rfl, hh2, hyl, hb2⟩; have HH2 := Lib.hid hh2; clear hh2 tok2 _t)
      | (go_at_call 10; refine (num_calls _ _).mono ?_; rintro e w9 ⟨rfl, rfl⟩))
  have z0 := hb0.size
  have z1 := hb1.size
  have z2 := hb2.size
  have hxs := (HH1.out (fun g => g ≠ x ∧ g ≠ y)).lt
  have hys := (HH2.out (fun g => g ≠ x ∧ g ≠ y)).lt
  have hxw : w.heap.size ≤ x := by omega
  have hyw : w.heap.size ≤ y := by omega
  have hxy : x ≠ y := by omega
  have HX := Lib.hid (show HashTL w2 x y x 384 ByteArray.empty from (HH1.out _).below hb2)
  have HY := Lib.hid (show HashTL w2 x y y 512 ByteArray.empty from HH2.out _)
  have hB2 : Below w.heap.size w w2 := (hb0.trans (hb1.mono z0)).trans (hb2.mono (by omega))
  go_loopw [10, 9] (fun i sv wr => ∃ n : Nat, n ≤ len ∧ n ≤ 10 ∧ i = .int .i64 n ∧ sv = .string (joined zs n) ∧ HashTL wr x y x 384 (joined zs n) ∧ HashTL wr x y y 512 (joined zs n) ∧ Below w.heap.size w wr ∧ w2.heap.size ≤ wr.heap.size) (fun i _ _ => 10 - (intOf i).toNat)
  case atStart => exact ⟨0, by omega, by omega, rfl, rfl, HX.out, HY.out, hB2, Nat.le_refl _⟩
  case round =>
    obtain ⟨n, hn, hn12, rfl, rfl, hhx, hhy, hbr, hsz⟩ := hrel
    have HHX := Lib.hid hhx
    have HHY := Lib.hid hhy
    have hz := hbr.size
    have hj := joined_size zs n
    have hp := part_size zs n
    clear hhx hhy
    by_cases hlt : n < len ∧ n < 10
    · obtain ⟨a, rfl, hxb, hcell⟩ := HR.out.at hlt.1
      have hcr : wr.cell? (a.add n) = some (.string (nthS zs n)) := (hbr.cell hxb).trans hcell
      obtain ⟨h1, h2⟩ := hlt
      cases wide
      · go_wp2_with (first
          | (have _t := tok3; go_at_call 14
             refine (writeT_callsL x y x 384 _ _ _ (.inl rfl) (by omega) (by omega) (by omega) HHX.out).mono ?_
             rintro e w3 ⟨rfl, hh3, hb3⟩
             have HHX3 := Lib.hid hh3
             have HHY3 := Lib.hid (show HashTL w3 x y y 512 (joined zs n) from HashAtL.but HHY.out hb3 (by omega) (fun g h => h.1))
             have hcr3 : w3.cell? (a.add n) = some (.string (nthS zs n)) := (World.cell?_of_block (hb3.block _ (by omega) (by simp; omega))).trans hcr
             have hB3 : Below w.heap.size w w3 := But.below hbr hb3 hxw hz
             have z3 := hb3.size
             clear hh3 tok3 _t)
          | (go_at_call 14
             refine (writeT_callsL x y y 512 _ _ _ (.inr rfl) (by omega) (by omega) (by omega) HHY3.out).mono ?_
             rintro e w4 ⟨rfl, hh4, hb4⟩
             have HHY4 := Lib.hid hh4
             have HHX4 := Lib.hid (show HashTL w4 x y x 384 (joined zs n ++ nthS zs n) from HashAtL.but HHX3.out hb4 (by omega) (fun g h => h.2))
             have hcr4 : w4.cell? (a.add n) = some (.string (nthS zs n)) := (World.cell?_of_block (hb4.block _ (by omega) (by simp; omega))).trans hcr3
             have hB4 : Below w.heap.size w w4 := But.below hB3 hb4 hyw hB3.size
             have z4 := hb4.size
             clear hh4))
        go_roundw
        case rel => exact ⟨n + 1, by omega, by omega, by go_num, rfl, HHX4.out, HHY4.out, hB4, by omega⟩
        case measure => simp [intOf]; omega
      · go_wp2_with (first
          | (have _t := tok3; go_at_call 14
             refine (writeT_callsL x y x 384 _ _ _ (.inl rfl) (by omega) (by omega) (by omega) HHX.out).mono ?_
             rintro e w3 ⟨rfl, hh3, hb3⟩
             have HHX3 := Lib.hid hh3
             have HHY3 := Lib.hid (show HashTL w3 x y y 512 (joined zs n) from HashAtL.but HHY.out hb3 (by omega) (fun g h => h.1))
             have hcr3 : w3.cell? (a.add n) = some (.string (nthS zs n)) := (World.cell?_of_block (hb3.block _ (by omega) (by simp; omega))).trans hcr
             have hB3 : Below w.heap.size w w3 := But.below hbr hb3 hxw hz
             have z3 := hb3.size
             clear hh3 tok3 _t)
          | (go_at_call 15
             refine (sumT_callsL x y x 384 _ _ b2 HHX3.out).mono ?_
             rintro e w5 ⟨rfl, hb5⟩
             have HHX5 := Lib.hid (HHX3.out.below hb5)
             have HHY5 := Lib.hid (HHY3.out.below hb5)
             have hcr5 : w5.cell? (a.add n) = some (.string (nthS zs n)) := (hb5.cell (by omega)).trans hcr3
             have hB5 := hB3.trans (hb5.mono hB3.size)
             have z5 := hb5.size)
          | (go_at_call 14
             refine (writeT_callsL x y y 512 _ _ _ (.inr rfl) (by omega) (by omega) (by omega) HHY5.out).mono ?_
             rintro e w4 ⟨rfl, hh4, hb4⟩
             have HHY4 := Lib.hid hh4
             have HHX4 := Lib.hid (show HashTL w4 x y x 384 (joined zs n ++ nthS zs n) from HashAtL.but HHX5.out hb4 (by omega) (fun g h => h.2))
             have hcr4 : w4.cell? (a.add n) = some (.string (nthS zs n)) := (World.cell?_of_block (hb4.block _ (by omega) (by simp; omega))).trans hcr5
             have hB4 : Below w.heap.size w w4 := But.below hB5 hb4 hyw hB5.size
             have z4 := hb4.size
             clear hh4))
        go_roundw
        case rel => exact ⟨n + 1, by omega, by omega, by go_num, rfl, HHX4.out, HHY4.out, hB4, by omega⟩
        case measure => simp [intOf]; omega
    · by_cases h1 : n < len
      · have h2 : ¬ n < 10 := by omega
        clear hlt
        go_wp2_with (first
          | (go_at_call 10; refine (num_calls _ _).mono ?_; rintro e w9 ⟨rfl, rfl⟩)
          | (have _t := tok3; go_at_call 8; refine (of_yesL 384 _ _ b2 (by omega)).mono ?_; rintro e w3 ⟨rfl, hb3⟩; have HX3 := Lib.hid (HHX.out.below hb3); have HY3 := Lib.hid (HHY.out.below hb3); clear tok3 _t)
          | (go_at_call 8; refine (of_yesL 512 _ _ b1 (by omega)).mono ?_; rintro e w4 ⟨rfl, hb4⟩; have HX4 := Lib.hid (HX3.out.below hb4); have HY4 := Lib.hid (HY3.out.below hb4))
          | (have _t := tok4; go_at_call 15; refine (sumT_callsL x y x 384 _ _ b2 HX4.out).mono ?_; rintro e w5 ⟨rfl, hb5⟩; have HX5 := Lib.hid (HX4.out.below hb5); have HY5 := Lib.hid (HY4.out.below hb5); clear tok4 _t)
          | (have _t := tok5; go_at_call 15; refine (sumT_callsL x y y 512 _ _ b1 HY5.out).mono ?_; rintro e w6 ⟨rfl, hb6⟩; have HX6 := Lib.hid (HX5.out.below hb6); clear tok5 _t)
          | (go_at_call 15; refine (sumT_callsL x y x 384 _ _ b2 HX6.out).mono ?_; rintro e w7 ⟨rfl, hb7⟩))
        go_ret
        have z3 := hb3.size
        have z4 := hb4.size
        have z5 := hb5.size
        have z6 := hb6.size
        exact ⟨rfl, ((((hbr.trans (hb3.mono (by omega))).trans (hb4.mono (by omega))).trans (hb5.mono (by omega))).trans (hb6.mono (by omega))).trans (hb7.mono (by omega))⟩
      · clear hlt
        go_wp2_with (first
          | (go_at_call 10; refine (num_calls _ _).mono ?_; rintro e w9 ⟨rfl, rfl⟩)
          | (have _t := tok3; go_at_call 8; refine (of_yesL 384 _ _ b2 (by omega)).mono ?_; rintro e w3 ⟨rfl, hb3⟩; have HX3 := Lib.hid (HHX.out.below hb3); have HY3 := Lib.hid (HHY.out.below hb3); clear tok3 _t)
          | (go_at_call 8; refine (of_yesL 512 _ _ b1 (by omega)).mono ?_; rintro e w4 ⟨rfl, hb4⟩; have HX4 := Lib.hid (HX3.out.below hb4); have HY4 := Lib.hid (HY3.out.below hb4))
          | (have _t := tok4; go_at_call 15; refine (sumT_callsL x y x 384 _ _ b2 HX4.out).mono ?_; rintro e w5 ⟨rfl, hb5⟩; have HX5 := Lib.hid (HX4.out.below hb5); have HY5 := Lib.hid (HY4.out.below hb5); clear tok4 _t)
          | (have _t := tok5; go_at_call 15; refine (sumT_callsL x y y 512 _ _ b1 HY5.out).mono ?_; rintro e w6 ⟨rfl, hb6⟩; have HX6 := Lib.hid (HX5.out.below hb6); clear tok5 _t)
          | (go_at_call 15; refine (sumT_callsL x y x 384 _ _ b2 HX6.out).mono ?_; rintro e w7 ⟨rfl, hb7⟩))
        go_ret
        have z3 := hb3.size
        have z4 := hb4.size
        have z5 := hb5.size
        have z6 := hb6.size
        exact ⟨rfl, ((((hbr.trans (hb3.mono (by omega))).trans (hb4.mono (by omega))).trans (hb5.mono (by omega))).trans (hb6.mono (by omega))).trans (hb7.mono (by omega))⟩
end Go.Proofs.Ythoaaajgmiclnaa.Cw
