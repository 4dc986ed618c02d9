/-
  (package curvetlaw7) The walk of Sha256Streams: true. Condition: the texts take at most 2^20 bytes together.
-/
import Derived.Test.YtmmkofjocoanmaaLawA
import Derived.Test.YtmmkofjocoanmaaStrs
set_option linter.unusedSimpArgs false
set_option linter.unusedVariables false
namespace Go.Proofs.Ytmmkofjocoanmaa.Cw
open Go Go.RowKit

/-- text number n -/
def nthS (zs : List ByteArray) (n : Nat) : ByteArray := zs.getD n ByteArray.empty
/-- the first n texts in a row -/
def joined (zs : List ByteArray) : Nat → ByteArray
  | 0 => ByteArray.empty
  | n + 1 => joined zs n ++ nthS zs n
theorem joined_size (zs : List ByteArray) : ∀ n, (joined zs n).size ≤ sizes zs := by
  have h : ∀ n, (joined zs n).size ≤ sizes (zs.take n) := by
    intro n
    induction n with
    | zero => simp [joined]
    | succ n ih =>
      simp only [joined, ByteArray.size_append]
      rw [List.take_add_one, sizes_append]
      have : (nthS zs n).size ≤ sizes zs[n]?.toList := by
        unfold nthS
        cases h : zs[n]? <;> simp [sizes, h]
      omega
  intro n
  have e : sizes zs = sizes (zs.take n) + sizes (zs.drop n) := by rw [← sizes_append, List.take_append_drop]
  have := h n
  omega
theorem part_size (zs : List ByteArray) (n : Nat) : (nthS zs n).size ≤ sizes zs := by
  unfold nthS
  cases h : zs[n]? with
  | none => simp [h]
  | some x =>
    simp only [List.getD_eq_getElem?_getD, h, Option.getD_some]
    have hm := List.mem_of_getElem? h
    clear h
    induction zs with
    | nil => cases hm
    | cons y r ih =>
      simp only [sizes, List.map_cons, List.sum_cons]
      rcases List.mem_cons.1 hm with rfl | hm
      · omega
      · have := ih hm; simp only [sizes] at this; omega

theorem add_block (x : Addr) (i : Nat) : (x.add i).block = x.block := by unfold Addr.add; split <;> rfl
/-- what a walk needs of a slice of texts -/
theorem IsStrs.at {w : World} {a : Option Addr} {len cap : Nat} {zs : List ByteArray} (h : IsStrs w a len cap zs) {i : Nat} (hi : i < len) : ∃ x, a = some x ∧ (x.add i).block < w.heap.size ∧ w.cell? (x.add i) = some (.string (nthS zs i)) := by
  rcases h with ⟨_, rfl, _, _⟩ | ⟨x, rfl, hl, _, hz, hc⟩
  · omega
  · refine ⟨x, rfl, ?_, hc i (by omega)⟩
    have := hc i (by omega)
    rcases Nat.lt_or_ge (x.add i).block w.heap.size with h | h
    · exact h
    · have e : w.heap[(x.add i).block]? = none := by simpa using h
      rw [World.cell?, e] at this
      cases this
theorem IsStrs.len {w : World} {a : Option Addr} {len cap : Nat} {zs : List ByteArray} (h : IsStrs w a len cap zs) : len ≤ maxLen := by
  rcases h with ⟨_, rfl, _, _⟩ | ⟨x, rfl, hl, hm, hz, hc⟩
  · simp
  · omega

set_option maxRecDepth 100000 in
set_option maxHeartbeats 2000000 in
theorem sha256Streams_walk (c : Int) (A : Option Addr) (len cap : Nat) (zs : List ByteArray) (w : World) (hc : (Lit.int .i64 c).wf = true) (hr : IsStrs w A len cap zs) (hs : sizes zs ≤ 1048576) : Calls Try.prog 5 #[.int .i64 c, .slice A len cap] w fun e w' => e = .returned (.bool true) ∧ Below w.heap.size w w' := by
  have HR := Lib.hid hr
  have hlen := hr.len
  simp only [maxLen] at hlen
  clear hr
  go_enter Try.func5, Try.ntmps5
  by_cases hb : c = 224 ∨ c = 256
  · obtain ⟨bits, rfl⟩ : ∃ bits : Nat, c = (bits : Int) := ⟨c.toNat, by omega⟩
    have hb' : isBits bits := by unfold isBits; omega
    have hid : ((idOf bits : Nat) : Int) ≠ 0 := by unfold idOf; split <;> decide
    clear hb
    go_wp2_with (first
      | (go_at_call 25; refine (new_yes bits _ hb').mono ?_; rintro e w1 ⟨b, rfl, hh1, hbl, hb1⟩; have HH1 := Lib.hid hh1; clear hh1)
      | (go_at_call 21; refine (id_yes bits _ hb').mono ?_; rintro e w9 ⟨rfl, rfl⟩)
      | (go_at_call 22; refine (num_calls _ _).mono ?_; rintro e w9 ⟨rfl, rfl⟩))
    go_loopw [8, 7] (fun i sv wr => ∃ n : Nat, n ≤ len ∧ n ≤ 12 ∧ i = .int .i64 n ∧ sv = .string (joined zs n) ∧ HashS wr b bits (joined zs n) ∧ Below w.heap.size w wr) (fun i _ _ => 12 - (intOf i).toNat)
    case atStart => exact ⟨0, by omega, by omega, rfl, rfl, HH1.out, hb1⟩
    case round =>
      obtain ⟨n, hn, hn12, rfl, rfl, hh, hbr⟩ := hrel
      have HH := Lib.hid hh
      have hz := hbr.size
      have hbs := hh.lt
      have hj := joined_size zs n
      have hj2 := joined_size zs (n + 1)
      have hp := part_size zs n
      clear hh
      by_cases hlt : n < len ∧ n < 12
      · obtain ⟨x, rfl, hxb, hcell⟩ := HR.out.at hlt.1
        have hcr : wr.cell? (x.add n) = some (.string (nthS zs n)) := (hbr.cell hxb).trans hcell
        obtain ⟨h1, h2⟩ := hlt
        by_cases h3 : n % 3 = 0
        · go_wp2_with (first
            | (go_at_call 26; refine (write_calls b bits _ _ _ (by omega) HH.out).mono ?_; rintro e w2 ⟨rfl, hh2, hb2⟩; have HH2 := Lib.hid hh2; have hcr2 : w2.cell? (x.add n) = some (.string (nthS zs n)) := (World.cell?_of_block (hb2.block _ (by omega) (by simp; omega))).trans hcr; have hB2 : Below w.heap.size w w2 := But.below hbr hb2 hbl hz; clear hh2)
            | (go_at_call 22; refine (num_calls _ _).mono ?_; rintro e w9 ⟨rfl, rfl⟩)
            | (go_at_call 27; refine (sum_calls b bits _ _ hb' HH2.out).mono ?_; rintro e w3 ⟨rfl, hb3⟩)
            | (go_at_call 21; refine (id_yes bits _ hb').mono ?_; rintro e w9 ⟨rfl, rfl⟩)
            | (go_at_call 24; refine (refOf_calls bits (joined zs n ++ nthS zs n) _ hb' (by have := joined_size zs (n + 1); simp only [joined] at this; omega)).mono ?_; rintro e w4 ⟨rfl, hb4⟩))
          go_roundw
          case rel => exact ⟨n + 1, by omega, by omega, by go_num, rfl, (HH2.out.below hb3).below hb4, (hB2.trans (hb3.mono hB2.size)).trans (hb4.mono (by have := hB2.size; have := hb3.size; omega))⟩
          case measure => simp [intOf]; omega
        · go_wp2_with (first
            | (go_at_call 26; refine (write_calls b bits _ _ _ (by omega) HH.out).mono ?_; rintro e w2 ⟨rfl, hh2, hb2⟩; have HH2 := Lib.hid hh2; have hcr2 : w2.cell? (x.add n) = some (.string (nthS zs n)) := (World.cell?_of_block (hb2.block _ (by omega) (by simp; omega))).trans hcr; have hB2 : Below w.heap.size w w2 := But.below hbr hb2 hbl hz; clear hh2)
            | (go_at_call 22; refine (num_calls _ _).mono ?_; rintro e w9 ⟨rfl, rfl⟩)
            | (go_at_call 27; refine (sum_calls b bits _ _ hb' HH2.out).mono ?_; rintro e w3 ⟨rfl, hb3⟩)
            | (go_at_call 21; refine (id_yes bits _ hb').mono ?_; rintro e w9 ⟨rfl, rfl⟩)
            | (go_at_call 24; refine (refOf_calls bits (joined zs n ++ nthS zs n) _ hb' (by have := joined_size zs (n + 1); simp only [joined] at this; omega)).mono ?_; rintro e w4 ⟨rfl, hb4⟩))
          go_roundw
          case rel => exact ⟨n + 1, by omega, by omega, by go_num, rfl, HH2.out, hB2⟩
          case measure => simp [intOf]; omega
      · have tok1 : True := trivial
        have tok2 : True := trivial
        have tok3 : True := trivial
        by_cases h1 : n < len
        · have h2 : ¬ n < 12 := by omega
          clear hlt
          go_wp2_with (first
            | (go_at_call 21; refine (id_yes bits _ hb').mono ?_; rintro e w9 ⟨rfl, rfl⟩)
            | (have _t := tok1; go_at_call 27; refine (sum_calls b bits (joined zs n) _ hb' HH.out).mono ?_; rintro e w2 ⟨rfl, hb2⟩; have HH2 := Lib.hid (HH.out.below hb2); clear tok1 _t)
            | (have _t := tok2; go_at_call 24; refine (refOf_calls bits (joined zs n) _ hb' (by omega)).mono ?_; rintro e w3 ⟨rfl, hb3⟩; have HH3 := Lib.hid (HH2.out.below hb3); clear tok2 _t)
            | (have _t := tok3; go_at_call 27; refine (sum_calls b bits (joined zs n) _ hb' HH3.out).mono ?_; rintro e w4 ⟨rfl, hb4⟩; clear tok3 _t)
            | (go_at_call 24; refine (refOf_calls bits (joined zs n) _ hb' (by omega)).mono ?_; rintro e w5 ⟨rfl, hb5⟩)
            | (go_at_call 23; refine (awake_calls _).mono ?_; rintro e w6 ⟨rfl, hb6⟩))
          go_ret
          have z2 := hb2.size
          have z3 := hb3.size
          have z4 := hb4.size
          have z5 := hb5.size
          exact ⟨rfl, ((((hbr.trans (hb2.mono (by omega))).trans (hb3.mono (by omega))).trans (hb4.mono (by omega))).trans (hb5.mono (by omega))).trans (hb6.mono (by omega))⟩
        · clear hlt
          go_wp2_with (first
            | (go_at_call 21; refine (id_yes bits _ hb').mono ?_; rintro e w9 ⟨rfl, rfl⟩)
            | (have _t := tok1; go_at_call 27; refine (sum_calls b bits (joined zs n) _ hb' HH.out).mono ?_; rintro e w2 ⟨rfl, hb2⟩; have HH2 := Lib.hid (HH.out.below hb2); clear tok1 _t)
            | (have _t := tok2; go_at_call 24; refine (refOf_calls bits (joined zs n) _ hb' (by omega)).mono ?_; rintro e w3 ⟨rfl, hb3⟩; have HH3 := Lib.hid (HH2.out.below hb3); clear tok2 _t)
            | (have _t := tok3; go_at_call 27; refine (sum_calls b bits (joined zs n) _ hb' HH3.out).mono ?_; rintro e w4 ⟨rfl, hb4⟩; clear tok3 _t)
            | (go_at_call 24; refine (refOf_calls bits (joined zs n) _ hb' (by omega)).mono ?_; rintro e w5 ⟨rfl, hb5⟩)
            | (go_at_call 23; refine (awake_calls _).mono ?_; rintro e w6 ⟨rfl, hb6⟩))
          go_ret
          have z2 := hb2.size
          have z3 := hb3.size
          have z4 := hb4.size
          have z5 := hb5.size
          exact ⟨rfl, ((((hbr.trans (hb2.mono (by omega))).trans (hb3.mono (by omega))).trans (hb4.mono (by omega))).trans (hb5.mono (by omega))).trans (hb6.mono (by omega))⟩
  · go_wp2_with (first
      | (go_at_call 25; refine (new32_no c _ (by omega) (by omega)).mono ?_; rintro e w1 ⟨rfl, hb1⟩)
      | (go_at_call 21; refine (id_no c _ (by omega) (by omega)).mono ?_; rintro e w9 ⟨rfl, rfl⟩)
      | (go_at_call 22; refine (num_calls _ _).mono ?_; rintro e w9 ⟨rfl, rfl⟩)
      | (go_at_call 23; refine (awake_calls _).mono ?_; rintro e w3 ⟨rfl, hb3⟩))
    go_ret
    exact ⟨rfl, hb1.trans (hb3.mono hb1.size)⟩
end Go.Proofs.Ytmmkofjocoanmaa.Cw
