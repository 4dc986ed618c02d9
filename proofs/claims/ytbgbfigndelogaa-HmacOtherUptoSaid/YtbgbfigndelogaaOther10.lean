/-
  (package curvetlaw10) The walk of HmacOther: true. Condition: key and texts take at most 2^20 bytes together.
-/
import Derived.Test.YtbgbfigndelogaaMake
import Derived.Test.YtbgbfigndelogaaStrs
set_option linter.unusedSimpArgs false
set_option linter.unusedVariables false
namespace Go.Proofs.Ytbgbfigndelogaa.Cw
open Go Go.RowKit

set_option maxRecDepth 100000 in
set_option maxHeartbeats 1000000 in
theorem hmacOther_walk (c : Int) (key : ByteArray) (A : Option Addr) (len cap : Nat) (zs : List ByteArray) (w : World) (hc : (Lit.int .i64 c).wf = true) (hq : key.size ≤ 1048576) (hr : IsStrs w A len cap zs) (hs : sizes zs ≤ 1048576) : Calls Try.prog 5 #[.int .i64 c, .string key, .slice A len cap] w fun e w' => e = .returned (.bool true) ∧ Below w.heap.size w w' := by
  clear hc
  have HR := Lib.hid hr
  have hlen := hr.len
  simp only [maxLen] at hlen
  clear hr
  have hk9 : key.size ≤ 140737488351232 := by omega
  go_enter Try.func5, Try.ntmps5
  obtain ⟨k, id, hk, he, hw, hi⟩ := pick_is c
  have HK := Lib.hid hk
  clear hk
  go_wp2_with (go_at_call 11; refine (num_calls _ _).mono ?_; rintro e w9 ⟨rfl, rfl⟩)
  first | (with_reducible refine (awake_calls _).mono ?_) | (refine (awake_calls _).mono ?_)
  rintro e w1 ⟨rfl, hb1⟩
  have hB1 := hb1
  have hk := HK.out
  go_wp2_with (go_at_call 11; refine (num_calls _ _).mono ?_; rintro e w9 ⟨rfl, rfl⟩)
  first | (with_reducible refine (mac_yes id key hi hk9 _).mono ?_) | (refine (mac_yes id key hi hk9 _).mono ?_)
  rintro e w2 ⟨s, x, rfl, hh2, hbl2, hl2, hb2⟩
  clear hk
  have HH2 := Lib.hid (hh2 (· ≠ x) fun g _ h => h)
  clear hh2
  have hB2 := hB1.trans (hb2.mono hB1.size)
  go_wp2_with (go_at_call 11; refine (num_calls _ _).mono ?_; rintro e w9 ⟨rfl, rfl⟩)
  first | (with_reducible refine (mac_yes id key hi hk9 _).mono ?_) | (refine (mac_yes id key hi hk9 _).mono ?_)
  rintro e w3 ⟨t, y, rfl, hh3, hbl3, hl3, hb3⟩
  have hB3 := hB2.trans (hb3.mono hB2.size)
  go_wp2_with (go_at_call 11; refine (num_calls _ _).mono ?_; rintro e w9 ⟨rfl, rfl⟩)
  have z1 := hB1.size
  have z2 := hb2.size
  have z3 := hb3.size
  have hxw : w.heap.size ≤ x := by omega
  have hyw : w.heap.size ≤ y := by omega
  have hxy : x ≠ y := by omega
  have HX := Lib.hid (show MacAt w3 s x id (fun g => g ≠ x ∧ g ≠ y) key ByteArray.empty from MacAt.below (HH2.out.weak fun g h1 h2 => ⟨h2, by omega⟩) hl2 hb3)
  have HY := Lib.hid (hh3 (fun g => g ≠ x ∧ g ≠ y) fun g h1 h2 => ⟨by omega, h2⟩)
  clear hh3
  go_loopw [13, 12] (fun i sv wr => ∃ n : Nat, n ≤ len ∧ n ≤ 10 ∧ i = .int .i64 n ∧ sv = .string (joined zs n) ∧ MacAt wr s x id (fun g => g ≠ x ∧ g ≠ y) key (joined zs n) ∧ MacAt wr t y id (fun g => g ≠ x ∧ g ≠ y) key ByteArray.empty ∧ Below w.heap.size w wr ∧ w3.heap.size ≤ wr.heap.size) (fun i _ _ => 10 - (intOf i).toNat)
  case atStart => exact ⟨0, by omega, by omega, rfl, rfl, HX.out, HY.out, hB3, Nat.le_refl _⟩
  case round =>
    obtain ⟨n, hn, hn12, rfl, rfl, hhx, hhy, hbr, hsz⟩ := hrel
    have HHX := Lib.hid hhx
    have HHY := Lib.hid hhy
    have hz := hbr.size
    have ja := joined_size zs n
    have hp := part_size zs n
    clear hhx hhy
    by_cases hlt : n < len ∧ n < 10
    · obtain ⟨a, rfl, hxb, hcell⟩ := HR.out.at hlt.1
      have hcr : wr.cell? (a.add n) = some (.string (nthS zs n)) := (hbr.cell hxb).trans hcell
      obtain ⟨h1, h2⟩ := hlt
      go_wp2_with (fail)
      with_reducible refine (mac_write s x id (fun g => g ≠ x ∧ g ≠ y) key (joined zs n) (nthS zs n) wr (fun g hg => by constructor <;> omega) (fun g h => h.1) (by omega) HHX.out).mono ?_
      rintro e w4 ⟨rfl, hh4, hb4⟩
      have HHX4 := Lib.hid hh4
      have HHY4 := Lib.hid (HHY.out.but hb4 (by omega) (fun g h => h.1))
      have hcr4 : w4.cell? (a.add n) = some (.string (nthS zs n)) := (World.cell?_of_block (hb4.block _ (by omega) (by simp; omega))).trans hcr
      have hB4 : Below w.heap.size w w4 := But.below hbr hb4 hxw hz
      have z4 := hb4.size
      clear hh4
      go_wp2
      go_roundw
      case rel => exact ⟨n + 1, by omega, by omega, by go_num, rfl, HHX4.out, HHY4.out, hB4, by omega⟩
      case measure => simp [intOf]; omega
    · obtain ⟨J, hJ⟩ : ∃ J, joined zs n = J := ⟨_, rfl⟩
      rw [hJ] at HHX ja ⊢
      have hJ9 : J.size ≤ 140737488351232 := by omega
      have hJm : (J ++ ⟨#[109, 111, 114, 101]⟩ : ByteArray).size ≤ 140737488351232 := by
        have e4 : (⟨#[109, 111, 114, 101]⟩ : ByteArray).size = 4 := rfl
        rw [ByteArray.size_append, e4]; omega
      have h49 : (⟨#[109, 111, 114, 101]⟩ : ByteArray).size ≤ 140737488351232 := by decide
      clear hJ
      by_cases h1 : n < len
      · have h2 : ¬ n < 10 := by omega
        clear hlt
        go_wp2_with (go_at_call 11; refine (num_calls _ _).mono ?_; rintro e w9 ⟨rfl, rfl⟩)
        first | (with_reducible refine (mac_write0 t y id (fun g => g ≠ x ∧ g ≠ y) key J wr (fun g hg => by constructor <;> omega) (fun g h => h.2) hJ9 HHY.out).mono ?_) | (refine (mac_write0 t y id (fun g => g ≠ x ∧ g ≠ y) key J wr (fun g hg => by constructor <;> omega) (fun g h => h.2) hJ9 HHY.out).mono ?_)
        rintro e w10 ⟨rfl, hh10, hb10⟩
        have HHY10 := Lib.hid hh10
        clear hh10
        have HHX10 := Lib.hid (HHX.out.but hb10 (by omega) (fun g h => h.2))
        have hB10 : Below w.heap.size w w10 := But.below hbr hb10 hyw hbr.size
        have zz10 := hb10.size
        go_wp2_with (go_at_call 11; refine (num_calls _ _).mono ?_; rintro e w9 ⟨rfl, rfl⟩)
        first | (with_reducible refine (hmacOf_yes id key J _ hi hk9 hJ9).mono ?_) | (refine (hmacOf_yes id key J _ hi hk9 hJ9).mono ?_)
        rintro e w11 ⟨rfl, hb11⟩
        have hB11 := hB10.trans (hb11.mono hB10.size)
        have HHX11 := Lib.hid (HHX10.out.below HHX10.out.lt hb11)
        have HHY11 := Lib.hid (HHY10.out.below HHY10.out.lt hb11)
        have zz11 := hb11.size
        go_wp2_with (go_at_call 11; refine (num_calls _ _).mono ?_; rintro e w9 ⟨rfl, rfl⟩)
        first | (with_reducible refine (mac_sum s x id (fun g => g ≠ x ∧ g ≠ y) key _ _ hi HHX11.out).mono ?_) | (refine (mac_sum s x id (fun g => g ≠ x ∧ g ≠ y) key _ _ hi HHX11.out).mono ?_)
        rintro e w12 ⟨rfl, hb12⟩
        have hB12 := hB11.trans (hb12.mono hB11.size)
        have HHX12 := Lib.hid (HHX11.out.below HHX11.out.lt hb12)
        have HHY12 := Lib.hid (HHY11.out.below HHY11.out.lt hb12)
        have zz12 := hb12.size
        go_wp2_with (go_at_call 11; refine (num_calls _ _).mono ?_; rintro e w9 ⟨rfl, rfl⟩)
        first | (with_reducible refine (mac_write s x id (fun g => g ≠ x ∧ g ≠ y) key J ⟨#[109, 111, 114, 101]⟩ w12 (fun g hg => by constructor <;> omega) (fun g h => h.1) h49 HHX12.out).mono ?_) | (refine (mac_write s x id (fun g => g ≠ x ∧ g ≠ y) key J ⟨#[109, 111, 114, 101]⟩ w12 (fun g hg => by constructor <;> omega) (fun g h => h.1) h49 HHX12.out).mono ?_)
        rintro e w13 ⟨rfl, hh13, hb13⟩
        have HHX13 := Lib.hid hh13
        clear hh13
        have HHY13 := Lib.hid (HHY12.out.but hb13 (by omega) (fun g h => h.1))
        have hB13 : Below w.heap.size w w13 := But.below hB12 hb13 hxw hB12.size
        have zz13 := hb13.size
        go_wp2_with (go_at_call 11; refine (num_calls _ _).mono ?_; rintro e w9 ⟨rfl, rfl⟩)
        first | (with_reducible refine (hmacOf_yes id key (J ++ ⟨#[109, 111, 114, 101]⟩) _ hi hk9 hJm).mono ?_) | (refine (hmacOf_yes id key (J ++ ⟨#[109, 111, 114, 101]⟩) _ hi hk9 hJm).mono ?_)
        rintro e w14 ⟨rfl, hb14⟩
        have hB14 := hB13.trans (hb14.mono hB13.size)
        have HHX14 := Lib.hid (HHX13.out.below HHX13.out.lt hb14)
        have HHY14 := Lib.hid (HHY13.out.below HHY13.out.lt hb14)
        go_wp2_with (go_at_call 11; refine (num_calls _ _).mono ?_; rintro e w9 ⟨rfl, rfl⟩)
        first | (with_reducible refine (mac_sum t y id (fun g => g ≠ x ∧ g ≠ y) key _ _ hi HHY14.out).mono ?_) | (refine (mac_sum t y id (fun g => g ≠ x ∧ g ≠ y) key _ _ hi HHY14.out).mono ?_)
        rintro e w15 ⟨rfl, hb15⟩
        have hB15 := hB14.trans (hb15.mono hB14.size)
        have HHX15 := Lib.hid (HHX14.out.below HHX14.out.lt hb15)
        have HHY15 := Lib.hid (HHY14.out.below HHY14.out.lt hb15)
        go_wp2_with (go_at_call 11; refine (num_calls _ _).mono ?_; rintro e w9 ⟨rfl, rfl⟩)
        first | (with_reducible refine (mac_sum s x id (fun g => g ≠ x ∧ g ≠ y) key _ _ hi HHX15.out).mono ?_) | (refine (mac_sum s x id (fun g => g ≠ x ∧ g ≠ y) key _ _ hi HHX15.out).mono ?_)
        rintro e w16 ⟨rfl, hb16⟩
        have hB16 := hB15.trans (hb16.mono hB15.size)
        go_wp2_with (go_at_call 11; refine (num_calls _ _).mono ?_; rintro e w9 ⟨rfl, rfl⟩)
        go_ret
        exact ⟨rfl, hB16⟩
      · clear hlt
        go_wp2_with (go_at_call 11; refine (num_calls _ _).mono ?_; rintro e w9 ⟨rfl, rfl⟩)
        first | (with_reducible refine (mac_write0 t y id (fun g => g ≠ x ∧ g ≠ y) key J wr (fun g hg => by constructor <;> omega) (fun g h => h.2) hJ9 HHY.out).mono ?_) | (refine (mac_write0 t y id (fun g => g ≠ x ∧ g ≠ y) key J wr (fun g hg => by constructor <;> omega) (fun g h => h.2) hJ9 HHY.out).mono ?_)
        rintro e w10 ⟨rfl, hh10, hb10⟩
        have HHY10 := Lib.hid hh10
        clear hh10
        have HHX10 := Lib.hid (HHX.out.but hb10 (by omega) (fun g h => h.2))
        have hB10 : Below w.heap.size w w10 := But.below hbr hb10 hyw hbr.size
        have zz10 := hb10.size
        go_wp2_with (go_at_call 11; refine (num_calls _ _).mono ?_; rintro e w9 ⟨rfl, rfl⟩)
        first | (with_reducible refine (hmacOf_yes id key J _ hi hk9 hJ9).mono ?_) | (refine (hmacOf_yes id key J _ hi hk9 hJ9).mono ?_)
        rintro e w11 ⟨rfl, hb11⟩
        have hB11 := hB10.trans (hb11.mono hB10.size)
        have HHX11 := Lib.hid (HHX10.out.below HHX10.out.lt hb11)
        have HHY11 := Lib.hid (HHY10.out.below HHY10.out.lt hb11)
        have zz11 := hb11.size
        go_wp2_with (go_at_call 11; refine (num_calls _ _).mono ?_; rintro e w9 ⟨rfl, rfl⟩)
        first | (with_reducible refine (mac_sum s x id (fun g => g ≠ x ∧ g ≠ y) key _ _ hi HHX11.out).mono ?_) | (refine (mac_sum s x id (fun g => g ≠ x ∧ g ≠ y) key _ _ hi HHX11.out).mono ?_)
        rintro e w12 ⟨rfl, hb12⟩
        have hB12 := hB11.trans (hb12.mono hB11.size)
        have HHX12 := Lib.hid (HHX11.out.below HHX11.out.lt hb12)
        have HHY12 := Lib.hid (HHY11.out.below HHY11.out.lt hb12)
        have zz12 := hb12.size
        go_wp2_with (go_at_call 11; refine (num_calls _ _).mono ?_; rintro e w9 ⟨rfl, rfl⟩)
        first | (with_reducible refine (mac_write s x id (fun g => g ≠ x ∧ g ≠ y) key J ⟨#[109, 111, 114, 101]⟩ w12 (fun g hg => by constructor <;> omega) (fun g h => h.1) h49 HHX12.out).mono ?_) | (refine (mac_write s x id (fun g => g ≠ x ∧ g ≠ y) key J ⟨#[109, 111, 114, 101]⟩ w12 (fun g hg => by constructor <;> omega) (fun g h => h.1) h49 HHX12.out).mono ?_)
        rintro e w13 ⟨rfl, hh13, hb13⟩
        have HHX13 := Lib.hid hh13
        clear hh13
        have HHY13 := Lib.hid (HHY12.out.but hb13 (by omega) (fun g h => h.1))
        have hB13 : Below w.heap.size w w13 := But.below hB12 hb13 hxw hB12.size
        have zz13 := hb13.size
        go_wp2_with (go_at_call 11; refine (num_calls _ _).mono ?_; rintro e w9 ⟨rfl, rfl⟩)
        first | (with_reducible refine (hmacOf_yes id key (J ++ ⟨#[109, 111, 114, 101]⟩) _ hi hk9 hJm).mono ?_) | (refine (hmacOf_yes id key (J ++ ⟨#[109, 111, 114, 101]⟩) _ hi hk9 hJm).mono ?_)
        rintro e w14 ⟨rfl, hb14⟩
        have hB14 := hB13.trans (hb14.mono hB13.size)
        have HHX14 := Lib.hid (HHX13.out.below HHX13.out.lt hb14)
        have HHY14 := Lib.hid (HHY13.out.below HHY13.out.lt hb14)
        go_wp2_with (go_at_call 11; refine (num_calls _ _).mono ?_; rintro e w9 ⟨rfl, rfl⟩)
        first | (with_reducible refine (mac_sum t y id (fun g => g ≠ x ∧ g ≠ y) key _ _ hi HHY14.out).mono ?_) | (refine (mac_sum t y id (fun g => g ≠ x ∧ g ≠ y) key _ _ hi HHY14.out).mono ?_)
        rintro e w15 ⟨rfl, hb15⟩
        have hB15 := hB14.trans (hb15.mono hB14.size)
        have HHX15 := Lib.hid (HHX14.out.below HHX14.out.lt hb15)
        have HHY15 := Lib.hid (HHY14.out.below HHY14.out.lt hb15)
        go_wp2_with (go_at_call 11; refine (num_calls _ _).mono ?_; rintro e w9 ⟨rfl, rfl⟩)
        first | (with_reducible refine (mac_sum s x id (fun g => g ≠ x ∧ g ≠ y) key _ _ hi HHX15.out).mono ?_) | (refine (mac_sum s x id (fun g => g ≠ x ∧ g ≠ y) key _ _ hi HHX15.out).mono ?_)
        rintro e w16 ⟨rfl, hb16⟩
        have hB16 := hB15.trans (hb16.mono hB15.size)
        go_wp2_with (go_at_call 11; refine (num_calls _ _).mono ?_; rintro e w9 ⟨rfl, rfl⟩)
        go_ret
        exact ⟨rfl, hB16⟩
end Go.Proofs.Ytbgbfigndelogaa.Cw
