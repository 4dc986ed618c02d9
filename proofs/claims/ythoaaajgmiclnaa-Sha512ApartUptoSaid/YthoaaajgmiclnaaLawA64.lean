/-
  (package curvetlaw8) What the statements of chapter 7 share: numbers of errors, of hashes, and that the program answers as every program does. No condition.
-/
import Derived.Test.YthoaaajgmiclnaaNew64
import Derived.Test.YthoaaajgmiclnaaRefD64
set_option linter.unusedSimpArgs false
set_option linter.unusedVariables false
namespace Go.Proofs.Ythoaaajgmiclnaa.Cw
open Go Go.RowKit

/-- a text's digest, as a text -/
def d64 (bits : Nat) (s : ByteArray) : ByteArray := ⟨(dig64 bits s.data.toList).toArray⟩
/-- a hash into which a text was written -/
def HashSL (w : World) (b bits : Nat) (s : ByteArray) : Prop := HashAtL w b (· ≠ b) bits s.data.toList
def isBitsL (bits : Nat) : Prop := bits = 384 ∨ bits = 512
def idOfL (bits : Nat) : Nat := if bits = 384 then 3 else 4

theorem HashSL.lt {w : World} {b bits : Nat} {s : ByteArray} (h : HashSL w b bits s) : b < w.heap.size := HashAtL.lt h
theorem HashSL.below {w w' : World} {b bits : Nat} {s : ByteArray} (h : HashSL w b bits s) (hb : Below w.heap.size w w') : HashSL w' b bits s :=
  HashAtL.keep h hb.size (hb.block b h.lt) fun g _ hg => hb.block g hg

theorem new_yesL (bits : Nat) (w : World) (hb : isBitsL bits) : Calls Try.prog 13 #[.int .i64 bits] w fun e w' => ∃ b, e = .returned (.tuple #[.pointer (some ⟨b, 0, none⟩), .int .i64 0]) ∧ HashSL w' b bits ByteArray.empty ∧ w.heap.size ≤ b ∧ Below w.heap.size w w' :=
  (new64_yes bits w hb).mono fun _ _ ⟨b, h1, h2, h3, h4⟩ => ⟨b, h1, h2 _, h3, h4⟩
theorem write_callsL (b bits : Nat) (m s : ByteArray) (w : World) (hs : s.size ≤ 140737488355200) (hh : HashSL w b bits m) :
    Calls Try.prog 14 #[.pointer (some ⟨b, 0, none⟩), .string s] w fun e w' => e = .returned (.int .i64 0) ∧ HashSL w' b bits (m ++ s) ∧ But b w w' :=
  (write64_calls b (· ≠ b) bits m.data.toList s w (fun g hg => by have := hh.lt; omega) (fun _ h => h) hs hh).mono fun _ _ ⟨h1, h2, h3⟩ => ⟨h1, by unfold HashSL; simpa using h2, h3⟩
theorem sum_callsL (b bits : Nat) (m : ByteArray) (w : World) (hb : isBitsL bits) (hh : HashSL w b bits m) :
    Calls Try.prog 15 #[.pointer (some ⟨b, 0, none⟩)] w fun e w' => e = .returned (.string (d64 bits m)) ∧ Below w.heap.size w w' :=
  sum64_calls b _ bits _ w hb hh
theorem of_yesL (bits : Nat) (s : ByteArray) (w : World) (hb : isBitsL bits) (hs : s.size ≤ 140737488355200) :
    Calls Try.prog 8 #[.int .i64 bits, .string s] w fun e w' => e = .returned (.tuple #[.string (d64 bits s), .int .i64 0]) ∧ Below w.heap.size w w' := of64_yes bits s w hb hs
theorem refOf_callsL (bits : Nat) (s : ByteArray) (w : World) (hb : isBitsL bits) (hs : s.size ≤ 140737488351232) :
    Calls Try.prog 12 #[.int .i64 (idOfL bits), .string s] w fun e w' => e = .returned (.string (d64 bits s)) ∧ Below w.heap.size w w' :=
  refOf64_calls (idOfL bits) bits s w (by rcases hb with rfl | rfl; exact .inl ⟨rfl, rfl⟩; exact .inr ⟨rfl, rfl⟩) hs
theorem d64_size (bits : Nat) (s : ByteArray) (hb : isBitsL bits) : (d64 bits s).size = bits / 8 := by
  have h : (dig64 bits s.data.toList).length = bits / 8 := by
    unfold dig64
    rw [List.length_take, out64_length]
    rcases hb with rfl | rfl <;> rfl
  show (dig64 bits s.data.toList).toArray.size = _
  simpa using h

theorem id_yesL (bits : Nat) (w : World) (hb : isBitsL bits) : Calls Try.prog 9 #[.int .i64 bits] w fun e w' => e = .returned (.int .i64 (idOfL bits)) ∧ w = w' := by
  go_enter Try.func9, Try.ntmps9
  rcases hb with rfl | rfl
  · go_wp2; go_ret; exact ⟨rfl, rfl⟩
  · go_wp2; go_ret; exact ⟨rfl, rfl⟩
theorem id_noL (c : Int) (w : World) (h1 : c ≠ 384) (h2 : c ≠ 512) : Calls Try.prog 9 #[.int .i64 c] w fun e w' => e = .returned (.int .i64 0) ∧ w = w' := by
  go_enter Try.func9, Try.ntmps9
  go_wp2; go_ret; exact ⟨rfl, rfl⟩

set_option maxRecDepth 100000 in
set_option maxHeartbeats 1000000 in
theorem awake_callsL (w : World) : Calls Try.prog 11 #[] w fun e w' => e = .returned (.bool true) ∧ Below w.heap.size w w' := by
  go_enter Try.func11, Try.ntmps11
  have b1 : isBitsL 512 := .inr rfl
  have b2 : isBitsL 384 := .inl rfl
  obtain ⟨abc, habc⟩ : ∃ x : ByteArray, x = ⟨#[97, 98, 99]⟩ := ⟨_, rfl⟩
  have tok1 : True := trivial
  have tok2 : True := trivial
  have tok3 : True := trivial
  have tok4 : True := trivial
  have tok5 : True := trivial
  have tok6 : True := trivial
  go_wp2_with (first
    | (have _t := tok1; go_at_call 8; refine (of_yesL 512 ⟨#[97, 98, 99]⟩ _ b1 (by decide)).mono ?_; rintro e w1 ⟨rfl, hb1⟩; clear tok1 _t)
    | (have _t := tok2; go_at_call 8; refine (of64_no 1 _ _ (by omega) (by omega)).mono ?_; rintro e w2 ⟨rfl, hb2⟩; clear tok2 _t)
    | (go_at_call 13; refine (new_yesL 384 _ b2).mono ?_; rintro e w3 ⟨b, rfl, hh3, hbl, hb3⟩; have HH3 := Lib.hid hh3; clear hh3)
    | (go_at_call 10; refine (num_calls _ _).mono ?_; rintro e w9 ⟨rfl, rfl⟩)
    | (have _t := tok3; go_at_call 14; refine (write_callsL b 384 _ _ _ (by decide) HH3.out).mono ?_; rintro e w4 ⟨rfl, hh4, hb4⟩; have HH4 := Lib.hid hh4; clear hh4 tok3 _t)
    | (have _t := tok4; go_at_call 14; refine (write_callsL b 384 _ _ _ (by decide) HH4.out).mono ?_; rintro e w5 ⟨rfl, hh5, hb5⟩; have HH5 := Lib.hid hh5; clear hh5 tok4 _t)
    | (have _t := tok5; go_at_call 12; refine (refOf_callsL 512 _ _ b1 (by decide)).mono ?_; rintro e w6 ⟨rfl, hb6⟩; clear tok5 _t)
    | (go_at_call 15; refine (sum_callsL b 384 _ _ b2 (HH5.out.below hb6)).mono ?_; rintro e w7 ⟨rfl, hb7⟩)
    | (have _t := tok6; go_at_call 12; refine (refOf_callsL 384 _ _ b2 (by decide)).mono ?_; rintro e w8 ⟨rfl, hb8⟩; clear tok6 _t))
  go_ret
  have z1 := hb1.size
  have z2 := hb2.size
  have z3 := hb3.size
  have e3 : Below w.heap.size w w3 := hb1.trans ((hb2.mono z1).trans (hb3.mono (by omega)))
  have e4 : Below w.heap.size w w4 := But.below e3 hb4 (by omega) (by omega)
  have e5 : Below w.heap.size w w5 := But.below e4 hb5 (by omega) e4.size
  have e6 := e5.trans (hb6.mono e5.size)
  have e7 := e6.trans (hb7.mono e6.size)
  have e8 := e7.trans (hb8.mono e7.size)
  refine ⟨?_, e8⟩
  rw [show (({ data := #[97, 98] } : ByteArray) ++ { data := #[99] }) = { data := #[97, 98, 99] } from rfl]
  simp
end Go.Proofs.Ythoaaajgmiclnaa.Cw
