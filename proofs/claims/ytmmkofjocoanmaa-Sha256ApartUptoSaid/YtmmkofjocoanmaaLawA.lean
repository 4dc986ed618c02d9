/-
  (package curvetlaw7) What the statements of chapter 7 share: numbers of errors, of hashes, and that the program answers as every program does. No condition.
-/
import Derived.Test.YtmmkofjocoanmaaNew
import Derived.Test.YtmmkofjocoanmaaRefD
set_option linter.unusedSimpArgs false
set_option linter.unusedVariables false
namespace Go.Proofs.Ytmmkofjocoanmaa.Cw
open Go Go.RowKit

/-- a text's digest, as a text -/
def d32 (bits : Nat) (s : ByteArray) : ByteArray := ⟨(dig32 bits s.data.toList).toArray⟩
/-- a hash into which a text was written -/
def HashS (w : World) (b bits : Nat) (s : ByteArray) : Prop := HashAt w b (· ≠ b) bits s.data.toList
def isBits (bits : Nat) : Prop := bits = 224 ∨ bits = 256
def idOf (bits : Nat) : Nat := if bits = 224 then 1 else 2

theorem HashS.lt {w : World} {b bits : Nat} {s : ByteArray} (h : HashS w b bits s) : b < w.heap.size := HashAt.lt h
theorem HashS.below {w w' : World} {b bits : Nat} {s : ByteArray} (h : HashS w b bits s) (hb : Below w.heap.size w w') : HashS w' b bits s :=
  HashAt.keep h hb.size (hb.block b h.lt) fun g _ hg => hb.block g hg

theorem new_yes (bits : Nat) (w : World) (hb : isBits bits) : Calls Try.prog 25 #[.int .i64 bits] w fun e w' => ∃ b, e = .returned (.tuple #[.pointer (some ⟨b, 0, none⟩), .int .i64 0]) ∧ HashS w' b bits ByteArray.empty ∧ w.heap.size ≤ b ∧ Below w.heap.size w w' :=
  (new32_yes bits w hb).mono fun _ _ ⟨b, h1, h2, h3, h4⟩ => ⟨b, h1, h2 _, h3, h4⟩
theorem write_calls (b bits : Nat) (m s : ByteArray) (w : World) (hs : s.size ≤ 140737488355264) (hh : HashS w b bits m) :
    Calls Try.prog 26 #[.pointer (some ⟨b, 0, none⟩), .string s] w fun e w' => e = .returned (.int .i64 0) ∧ HashS w' b bits (m ++ s) ∧ But b w w' :=
  (write32_calls b (· ≠ b) bits m.data.toList s w (fun g hg => by have := hh.lt; omega) (fun _ h => h) hs hh).mono fun _ _ ⟨h1, h2, h3⟩ => ⟨h1, by unfold HashS; simpa using h2, h3⟩
theorem sum_calls (b bits : Nat) (m : ByteArray) (w : World) (hb : isBits bits) (hh : HashS w b bits m) :
    Calls Try.prog 27 #[.pointer (some ⟨b, 0, none⟩)] w fun e w' => e = .returned (.string (d32 bits m)) ∧ Below w.heap.size w w' :=
  sum32_calls b _ bits _ w hb hh
theorem of_yes (bits : Nat) (s : ByteArray) (w : World) (hb : isBits bits) (hs : s.size ≤ 140737488355264) :
    Calls Try.prog 20 #[.int .i64 bits, .string s] w fun e w' => e = .returned (.tuple #[.string (d32 bits s), .int .i64 0]) ∧ Below w.heap.size w w' := of32_yes bits s w hb hs
theorem refOf_calls (bits : Nat) (s : ByteArray) (w : World) (hb : isBits bits) (hs : s.size ≤ 140737488351232) :
    Calls Try.prog 24 #[.int .i64 (idOf bits), .string s] w fun e w' => e = .returned (.string (d32 bits s)) ∧ Below w.heap.size w w' :=
  refOf32_calls (idOf bits) bits s w (by rcases hb with rfl | rfl; exact .inl ⟨rfl, rfl⟩; exact .inr ⟨rfl, rfl⟩) hs
theorem d32_size (bits : Nat) (s : ByteArray) (hb : isBits bits) : (d32 bits s).size = bits / 8 := by
  have h : (dig32 bits s.data.toList).length = bits / 8 := by
    unfold dig32
    rw [List.length_take, out32_length]
    rcases hb with rfl | rfl <;> rfl
  show (dig32 bits s.data.toList).toArray.size = _
  simpa using h

theorem num_calls (c : Int) (w : World) : Calls Try.prog 22 #[.int .i64 c] w fun e w' => e = .returned (.int .i64 c) ∧ w = w' := by
  go_enter Try.func22, Try.ntmps22
  go_wp2; go_ret; exact ⟨rfl, rfl⟩
theorem id_yes (bits : Nat) (w : World) (hb : isBits bits) : Calls Try.prog 21 #[.int .i64 bits] w fun e w' => e = .returned (.int .i64 (idOf bits)) ∧ w = w' := by
  go_enter Try.func21, Try.ntmps21
  rcases hb with rfl | rfl
  · go_wp2; go_ret; exact ⟨rfl, rfl⟩
  · go_wp2; go_ret; exact ⟨rfl, rfl⟩
theorem id_no (c : Int) (w : World) (h1 : c ≠ 224) (h2 : c ≠ 256) : Calls Try.prog 21 #[.int .i64 c] w fun e w' => e = .returned (.int .i64 0) ∧ w = w' := by
  go_enter Try.func21, Try.ntmps21
  go_wp2; go_ret; exact ⟨rfl, rfl⟩

set_option maxRecDepth 100000 in
set_option maxHeartbeats 1000000 in
theorem awake_calls (w : World) : Calls Try.prog 23 #[] w fun e w' => e = .returned (.bool true) ∧ Below w.heap.size w w' := by
  go_enter Try.func23, Try.ntmps23
  have b1 : isBits 256 := .inr rfl
  have b2 : isBits 224 := .inl rfl
  obtain ⟨abc, habc⟩ : ∃ x : ByteArray, x = ⟨#[97, 98, 99]⟩ := ⟨_, rfl⟩
  have tok1 : True := trivial
  have tok2 : True := trivial
  have tok3 : True := trivial
  have tok4 : True := trivial
  have tok5 : True := trivial
  have tok6 : True := trivial
  go_wp2_with (first
    | (have _t := tok1; go_at_call 20; refine (of_yes 256 ⟨#[97, 98, 99]⟩ _ b1 (by decide)).mono ?_; rintro e w1 ⟨rfl, hb1⟩; clear tok1 _t)
    | (have _t := tok2; go_at_call 20; refine (of32_no 1 _ _ (by omega) (by omega)).mono ?_; rintro e w2 ⟨rfl, hb2⟩; clear tok2 _t)
    | (go_at_call 25; refine (new_yes 224 _ b2).mono ?_; rintro e w3 ⟨b, rfl, hh3, hbl, hb3⟩; have HH3 := Lib.hid hh3; clear hh3)
    | (go_at_call 22; refine (num_calls _ _).mono ?_; rintro e w9 ⟨rfl, rfl⟩)
    | (have _t := tok3; go_at_call 26; refine (write_calls b 224 _ _ _ (by decide) HH3.out).mono ?_; rintro e w4 ⟨rfl, hh4, hb4⟩; have HH4 := Lib.hid hh4; clear hh4 tok3 _t)
    | (have _t := tok4; go_at_call 26; refine (write_calls b 224 _ _ _ (by decide) HH4.out).mono ?_; rintro e w5 ⟨rfl, hh5, hb5⟩; have HH5 := Lib.hid hh5; clear hh5 tok4 _t)
    | (have _t := tok5; go_at_call 24; refine (refOf_calls 256 _ _ b1 (by decide)).mono ?_; rintro e w6 ⟨rfl, hb6⟩; clear tok5 _t)
    | (go_at_call 27; refine (sum_calls b 224 _ _ b2 (HH5.out.below hb6)).mono ?_; rintro e w7 ⟨rfl, hb7⟩)
    | (have _t := tok6; go_at_call 24; refine (refOf_calls 224 _ _ b2 (by decide)).mono ?_; rintro e w8 ⟨rfl, hb8⟩; clear tok6 _t))
  go_ret
  have z1 := hb1.size
  have z2 := hb2.size
  have z3 := hb3.size
  have e3 : Below w.heap.size w w3 := hb1.trans ((hb2.mono z1).trans (hb3.mono (by omega)))
  have e4 : Below w.heap.size w w4 := But.below e3 hb4 (by omega) (by omega)
  have e5 : Below w.heap.size w w5 := But.below e4 hb5 (by omega) e4.size
  have e6 := e5.trans (hb6.mono e5.size)
  have e7 := e6.trans (hb7.mono e6.size)
  have e8 := e7.trans (hb8.mono e7.size)
  refine ⟨?_, e8⟩
  rw [show (({ data := #[97, 98] } : ByteArray) ++ { data := #[99] }) = { data := #[97, 98, 99] } from rfl]
  simp
end Go.Proofs.Ytmmkofjocoanmaa.Cw
