/-
  (package curvetlaw9) The walk of HashApart: true. Condition: the texts take at most 2^20 bytes together.
-/
import Derived.Test.YtppcclhchlallaaAwake9

set_option linter.unusedSimpArgs false
set_option linter.unusedVariables false
namespace Go.Proofs.Ytppcclhchlallaa.Cw
open Go Go.RowKit

set_option maxRecDepth 100000 in
set_option maxHeartbeats 1000000 in
theorem hashApart_walk (A : Option Addr) (len cap : Nat) (zs : List ByteArray) (c c2 : Int) (w : World) (hr : IsStrs w A len cap zs) (hs : sizes zs ≤ 1048576) (hc : (Lit.int .i64 c).wf = true) (hc2 : (Lit.int .i64 c2).wf = true) : Calls Try.prog 5 #[.slice A len cap, .int .i64 c, .int .i64 c2] w fun e w' => e = .returned (.bool true) ∧ Below w.heap.size w w' := by
  have HR := Lib.hid hr
  have hlen := hr.len
  simp only [maxLen] at hlen
  clear hr hc hc2
  go_enter Try.func5, Try.ntmps5
  obtain ⟨k, id, hk, he, hw, hi⟩ := pick_is c
  obtain ⟨k2, id2, hk2, he2, hw2, hi2⟩ := pick_is c2
  go_wp2_with (go_at_call 14; refine (num_calls _ _).mono ?_; rintro e w9 ⟨rfl, rfl⟩)
  refine (awake_calls _).mono ?_
  rintro e w1 ⟨rfl, hb1⟩
  have hB1 := hb1
  go_wp2_with (go_at_call 14; refine (num_calls _ _).mono ?_; rintro e w9 ⟨rfl, rfl⟩)
  refine (strm_yes id hi _).mono ?_
  rintro e w2 ⟨s, x, rfl, hh2, hbl2, hl2, hb2⟩
  have HH2 := Lib.hid (hh2 (· ≠ x) fun g _ h => h)
  clear hh2
  have hB2 := hB1.trans (hb2.mono hB1.size)
  go_wp2_with (go_at_call 14; refine (num_calls _ _).mono ?_; rintro e w9 ⟨rfl, rfl⟩)
  refine (strm_yes id2 hi2 _).mono ?_
  rintro e w3 ⟨t, y, rfl, hh3, hbl3, hl3, hb3⟩
  have hB3 := hB2.trans (hb3.mono hB2.size)
  go_wp2_with (go_at_call 14; refine (num_calls _ _).mono ?_; rintro e w9 ⟨rfl, rfl⟩)
  have z1 := hB1.size
  have z2 := hb2.size
  have z3 := hb3.size
  have hxw : w.heap.size ≤ x := by omega
  have hyw : w.heap.size ≤ y := by omega
  have hxy : x ≠ y := by omega
  have HX := Lib.hid (show StreamAt w3 s x id (fun g => g ≠ x ∧ g ≠ y) ByteArray.empty from StreamAt.below (HH2.out.weak fun g h1 h2 => ⟨h2, by omega⟩) hl2 hb3)
  have HY := Lib.hid (hh3 (fun g => g ≠ x ∧ g ≠ y) fun g h1 h2 => ⟨by omega, h2⟩)
  clear hh3
  go_loopw [15, 13, 14] (fun i sv tv wr => ∃ n : Nat, n ≤ len ∧ n ≤ 12 ∧ i = .int .i64 n ∧ sv = .string (alt zs 0 n) ∧ tv = .string (alt zs 1 n) ∧ StreamAt wr s x id (fun g => g ≠ x ∧ g ≠ y) (alt zs 0 n) ∧ StreamAt wr t y id2 (fun g => g ≠ x ∧ g ≠ y) (alt zs 1 n) ∧ Below w.heap.size w wr ∧ w3.heap.size ≤ wr.heap.size) (fun i _ _ _ => 12 - (intOf i).toNat)
  case atStart => exact ⟨0, by omega, by omega, rfl, rfl, rfl, HX.out, HY.out, hB3, Nat.le_refl _⟩
  case round =>
    obtain ⟨n, hn, hn12, rfl, rfl, rfl, hhx, hhy, hbr, hsz⟩ := hrel
    have HHX := Lib.hid hhx
    have HHY := Lib.hid hhy
    have hz := hbr.size
    have ja := alt_size zs 0 n
    have jb := alt_size zs 1 n
    have hp := part_size zs n
    clear hhx hhy
    by_cases hlt : n < len ∧ n < 12
    · obtain ⟨a, rfl, hxb, hcell⟩ := HR.out.at hlt.1
      have hcr : wr.cell? (a.add n) = some (.string (nthS zs n)) := (hbr.cell hxb).trans hcell
      obtain ⟨h1, h2⟩ := hlt
      have hand := and1 n (by omega)
      by_cases hpar : n % 2 = 0
      · rw [hpar] at hand
        go_wp2_with (fail)
        refine (strm_write s x id (fun g => g ≠ x ∧ g ≠ y) (alt zs 0 n) (nthS zs n) wr (fun g hg => by constructor <;> omega) (fun g h => h.1) (by omega) HHX.out).mono ?_
        rintro e w4 ⟨rfl, hh4, hb4⟩
        have HHX4 := Lib.hid hh4
        have HHY4 := Lib.hid (HHY.out.but hb4 (by omega) (fun g h => h.1))
        have hcr4 : w4.cell? (a.add n) = some (.string (nthS zs n)) := (World.cell?_of_block (hb4.block _ (by omega) (by simp; omega))).trans hcr
        have hB4 : Below w.heap.size w w4 := But.below hbr hb4 hxw hz
        have z4 := hb4.size
        clear hh4
        have A0 := Lib.hid (show alt zs 0 n ++ nthS zs n = alt zs 0 (n + 1) by simp [alt, hpar])
        have A1 := Lib.hid (show alt zs 1 n = alt zs 1 (n + 1) by simp [alt, hpar])
        go_wp2
        go_roundw
        case rel => exact ⟨n + 1, by omega, by omega, by go_num, by rw [A0.out], by rw [A1.out], by rw [← A0.out]; exact HHX4.out, by rw [← A1.out]; exact HHY4.out, hB4, by omega⟩
        case measure => simp [intOf]; omega
      · have hpar1 : n % 2 = 1 := by omega
        rw [hpar1] at hand
        go_wp2_with (fail)
        refine (strm_write t y id2 (fun g => g ≠ x ∧ g ≠ y) (alt zs 1 n) (nthS zs n) wr (fun g hg => by constructor <;> omega) (fun g h => h.2) (by omega) HHY.out).mono ?_
        rintro e w4 ⟨rfl, hh4, hb4⟩
        have HHY4 := Lib.hid hh4
        have HHX4 := Lib.hid (HHX.out.but hb4 (by omega) (fun g h => h.2))
        have hcr4 : w4.cell? (a.add n) = some (.string (nthS zs n)) := (World.cell?_of_block (hb4.block _ (by omega) (by simp; omega))).trans hcr
        have hB4 : Below w.heap.size w w4 := But.below hbr hb4 hyw hz
        have z4 := hb4.size
        clear hh4
        have A1 := Lib.hid (show alt zs 1 n ++ nthS zs n = alt zs 1 (n + 1) by simp [alt, hpar1])
        have A0 := Lib.hid (show alt zs 0 n = alt zs 0 (n + 1) by simp [alt, hpar1])
        go_wp2
        go_roundw
        case rel => exact ⟨n + 1, by omega, by omega, by go_num, by rw [A0.out], by rw [A1.out], by rw [← A0.out]; exact HHX4.out, by rw [← A1.out]; exact HHY4.out, hB4, by omega⟩
        case measure => simp [intOf]; omega
    · have hdz := dg_sz hi (alt zs 0 n)
      by_cases h1 : n < len
      · have h2 : ¬ n < 12 := by omega
        clear hlt
        go_wp2_with (go_at_call 14; refine (num_calls _ _).mono ?_; rintro e w9 ⟨rfl, rfl⟩)
        refine (hashOf_yes id (alt zs 0 n) _ hi (by omega)).mono ?_
        rintro e w10 ⟨rfl, hb10⟩
        have hB10 := hbr.trans (hb10.mono hbr.size)
        have HHX10 := Lib.hid (HHX.out.below HHX.out.lt hb10)
        have HHY10 := Lib.hid (HHY.out.below HHY.out.lt hb10)
        go_wp2_with (go_at_call 14; refine (num_calls _ _).mono ?_; rintro e w9 ⟨rfl, rfl⟩)
        refine (hashOf_yes id2 (alt zs 1 n) _ hi2 (by omega)).mono ?_
        rintro e w11 ⟨rfl, hb11⟩
        have hB11 := hB10.trans (hb11.mono hB10.size)
        have HHX11 := Lib.hid (HHX10.out.below HHX10.out.lt hb11)
        have HHY11 := Lib.hid (HHY10.out.below HHY10.out.lt hb11)
        go_wp2_with (go_at_call 14; refine (num_calls _ _).mono ?_; rintro e w9 ⟨rfl, rfl⟩)
        refine (strm_sum s x id (fun g => g ≠ x ∧ g ≠ y) _ _ hi HHX11.out).mono ?_
        rintro e w12 ⟨rfl, hb12⟩
        have hB12 := hB11.trans (hb12.mono hB11.size)
        have HHX12 := Lib.hid (HHX11.out.below HHX11.out.lt hb12)
        have HHY12 := Lib.hid (HHY11.out.below HHY11.out.lt hb12)
        go_wp2_with (go_at_call 14; refine (num_calls _ _).mono ?_; rintro e w9 ⟨rfl, rfl⟩)
        refine (strm_sum t y id2 (fun g => g ≠ x ∧ g ≠ y) _ _ hi2 HHY12.out).mono ?_
        rintro e w13 ⟨rfl, hb13⟩
        have hB13 := hB12.trans (hb13.mono hB12.size)
        have HHX13 := Lib.hid (HHX12.out.below HHX12.out.lt hb13)
        have HHY13 := Lib.hid (HHY12.out.below HHY12.out.lt hb13)
        go_wp2_with (go_at_call 14; refine (num_calls _ _).mono ?_; rintro e w9 ⟨rfl, rfl⟩)
        refine (hsize id hi _).mono ?_
        rintro e w14 ⟨rfl, hb14⟩
        have hB14 := hB13.trans (hb14.mono hB13.size)
        go_wp2_with (go_at_call 14; refine (num_calls _ _).mono ?_; rintro e w9 ⟨rfl, rfl⟩)
        go_ret
        exact ⟨rfl, hB14⟩
      · clear hlt
        go_wp2_with (go_at_call 14; refine (num_calls _ _).mono ?_; rintro e w9 ⟨rfl, rfl⟩)
        refine (hashOf_yes id (alt zs 0 n) _ hi (by omega)).mono ?_
        rintro e w10 ⟨rfl, hb10⟩
        have hB10 := hbr.trans (hb10.mono hbr.size)
        have HHX10 := Lib.hid (HHX.out.below HHX.out.lt hb10)
        have HHY10 := Lib.hid (HHY.out.below HHY.out.lt hb10)
        go_wp2_with (go_at_call 14; refine (num_calls _ _).mono ?_; rintro e w9 ⟨rfl, rfl⟩)
        refine (hashOf_yes id2 (alt zs 1 n) _ hi2 (by omega)).mono ?_
        rintro e w11 ⟨rfl, hb11⟩
        have hB11 := hB10.trans (hb11.mono hB10.size)
        have HHX11 := Lib.hid (HHX10.out.below HHX10.out.lt hb11)
        have HHY11 := Lib.hid (HHY10.out.below HHY10.out.lt hb11)
        go_wp2_with (go_at_call 14; refine (num_calls _ _).mono ?_; rintro e w9 ⟨rfl, rfl⟩)
        refine (strm_sum s x id (fun g => g ≠ x ∧ g ≠ y) _ _ hi HHX11.out).mono ?_
        rintro e w12 ⟨rfl, hb12⟩
        have hB12 := hB11.trans (hb12.mono hB11.size)
        have HHX12 := Lib.hid (HHX11.out.below HHX11.out.lt hb12)
        have HHY12 := Lib.hid (HHY11.out.below HHY11.out.lt hb12)
        go_wp2_with (go_at_call 14; refine (num_calls _ _).mono ?_; rintro e w9 ⟨rfl, rfl⟩)
        refine (strm_sum t y id2 (fun g => g ≠ x ∧ g ≠ y) _ _ hi2 HHY12.out).mono ?_
        rintro e w13 ⟨rfl, hb13⟩
        have hB13 := hB12.trans (hb13.mono hB12.size)
        have HHX13 := Lib.hid (HHX12.out.below HHX12.out.lt hb13)
        have HHY13 := Lib.hid (HHY12.out.below HHY12.out.lt hb13)
        go_wp2_with (go_at_call 14; refine (num_calls _ _).mono ?_; rintro e w9 ⟨rfl, rfl⟩)
        refine (hsize id hi _).mono ?_
        rintro e w14 ⟨rfl, hb14⟩
        have hB14 := hB13.trans (hb14.mono hB13.size)
        go_wp2_with (go_at_call 14; refine (num_calls _ _).mono ?_; rintro e w9 ⟨rfl, rfl⟩)
        go_ret
        exact ⟨rfl, hB14⟩
  
end Go.Proofs.Ytppcclhchlallaa.Cw
