/-
  (package hmac) New, Write, Sum, Of: a keyed hash. Condition: key and text take at most 2^46 bytes each.
-/
import Derived.Test.YtbgbfigndelogaaPad
import Derived.Test.YtbgbfigndelogaaBk
import Derived.Test.YtbgbfigndelogaaShelf
import Derived.Deep.RegionHeld3
set_option linter.unusedSimpArgs false
set_option linter.unusedVariables false
namespace Go.Proofs.Ytbgbfigndelogaa.Cw
open Go Go.RowKit

/-- a key, over a block -/
def kp (id : Nat) (key : ByteArray) : ByteArray := if blockOf id < key.size then dg id key ++ noughts (blockOf id - szOf id) else key ++ noughts (blockOf id - key.size)
/-- what is written ahead of a text -/
def ipad (id : Nat) (key : ByteArray) : ByteArray := xb 54 (kp id key)
def opad (id : Nat) (key : ByteArray) : ByteArray := xb 92 (kp id key)
/-- a text's mac -/
def hm (id : Nat) (key msg : ByteArray) : ByteArray := dg id (opad id key ++ dg id (ipad id key ++ msg))
theorem kp_size {id : Nat} (h : isId id) (key : ByteArray) : (kp id key).size = blockOf id := by
  unfold kp
  have hb := blk_lt h
  split
  · rw [ByteArray.size_append, dg_sz h, noughts_size]; omega
  · rw [ByteArray.size_append, noughts_size]; omega
theorem ipad_size {id : Nat} (h : isId id) (key : ByteArray) : (ipad id key).size = blockOf id := by rw [ipad, xb_size, kp_size h]
theorem opad_size {id : Nat} (h : isId id) (key : ByteArray) : (opad id key).size = blockOf id := by rw [opad, xb_size, kp_size h]
theorem hm_size {id : Nat} (h : isId id) (key msg : ByteArray) : (hm id key msg).size = szOf id := dg_sz h _
theorem pad54 (s : ByteArray) (w : World) (hs : s.size ≤ 140737488355200) : Calls Try.prog 23 #[.string s, .int .u8 54] w fun e w' => e = .returned (.string (xb 54 s)) ∧ Below w.heap.size w w' := pad_calls s 54 w hs
theorem pad92 (s : ByteArray) (w : World) (hs : s.size ≤ 140737488355200) : Calls Try.prog 23 #[.string s, .int .u8 92] w fun e w' => e = .returned (.string (xb 92 s)) ∧ Below w.heap.size w w' := pad_calls s 92 w hs
theorem repeat0 (k : Nat) (w : World) (h : k ≤ 1000) : Calls Try.prog 21 #[.string ⟨#[0]⟩, .int .i64 k] w fun e w' => e = .returned (.string (noughts k)) ∧ Below w.heap.size w w' := by
  have e1 : (⟨#[0]⟩ : ByteArray).size = 1 := rfl
  have e2 : ∀ k, Lib.repeatL (⟨#[0]⟩ : ByteArray).data.toList k = List.replicate k 0 := by
    intro k
    induction k with
    | zero => rfl
    | succ k ih => show (⟨#[0]⟩ : ByteArray).data.toList ++ Lib.repeatL (⟨#[0]⟩ : ByteArray).data.toList k = _; rw [ih]; rfl
  have := Try.strings_Repeat ⟨#[0]⟩ k w (by omega) (by rw [e1]; omega)
  rw [e2] at this
  exact this

/-- a mac at block m into which a text was written; all of its blocks but the hash's are such of which p holds -/
def MacAt (w : World) (m b id : Nat) (p : Nat → Prop) (key msg : ByteArray) : Prop :=
  ∃ s, p m ∧ w.heap[m]? = some (.cells #[.int .i64 id, .string (opad id key), .pointer (some ⟨s, 0, none⟩)] 48 (0, 0)) ∧ StreamAt w s b id p (ipad id key ++ msg)
theorem MacAt.keep {w w' : World} {m b id : Nat} {p : Nat → Prop} {key msg : ByteArray} (h : MacAt w m b id p key msg) (hs : w.heap.size ≤ w'.heap.size) (hb : w'.heap[b]? = w.heap[b]?) (hk : ∀ g, p g → g < w.heap.size → w'.heap[g]? = w.heap[g]?) : MacAt w' m b id p key msg := by
  obtain ⟨s, pm, hm, hst⟩ := h
  exact ⟨s, pm, (hk _ pm (lt_of hm)).trans hm, hst.keep hs hb hk⟩
theorem MacAt.lt {w : World} {m b id : Nat} {p : Nat → Prop} {key msg : ByteArray} (h : MacAt w m b id p key msg) : b < w.heap.size := by
  obtain ⟨s, pm, hm, hst⟩ := h
  exact hst.lt
theorem MacAt.below {w w' : World} {m b id : Nat} {p : Nat → Prop} {key msg : ByteArray} (h : MacAt w m b id p key msg) (hl : b < w.heap.size) (hb : Below w.heap.size w w') : MacAt w' m b id p key msg :=
  h.keep hb.size (hb.block b hl) fun g _ hg => hb.block g hg
theorem MacAt.weak {w : World} {m b id : Nat} {p q : Nat → Prop} {key msg : ByteArray} (h : MacAt w m b id p key msg) (hq : ∀ g, g < w.heap.size → p g → q g) : MacAt w m b id q key msg := by
  obtain ⟨s, pm, hm, hst⟩ := h
  exact ⟨s, hq _ (lt_of hm) pm, hm, hst.weak hq⟩
theorem MacAt.but {w w' : World} {m b b' id : Nat} {p : Nat → Prop} {key msg : ByteArray} (h : MacAt w m b id p key msg) (hb : But b' w w') (hne : b ≠ b') (hp : ∀ g, p g → g ≠ b') : MacAt w' m b id p key msg :=
  h.keep hb.size (hb.block b h.lt (by simpa using hne)) fun g hg hlt => hb.block g hlt (by simpa using hp g hg)

theorem mac_no (c : Int) (key : ByteArray) (h : ¬ (1 ≤ c ∧ c ≤ 4)) (w : World) : Calls Try.prog 9 #[.int .i64 c, .string key] w fun e w' => e = .returned (.tuple #[.pointer none, .int .i64 1000]) ∧ Below w.heap.size w w' := by
  go_enter Try.func9, Try.ntmps9
  go_wp2_with (fail)
  refine (strm_no c h w).mono ?_
  rintro e w1 ⟨rfl, hb1⟩
  go_wp2
  go_ret2
  exact ⟨rfl, hb1⟩

set_option maxRecDepth 100000 in
set_option maxHeartbeats 1000000 in
theorem mac_yes (id : Nat) (key : ByteArray) (hi : isId id) (hs : key.size ≤ 140737488355200) (w : World) : Calls Try.prog 9 #[.int .i64 id, .string key] w fun e w' => ∃ m b, e = .returned (.tuple #[.pointer (some ⟨m, 0, none⟩), .int .i64 0]) ∧ (∀ p : Nat → Prop, (∀ g, w.heap.size ≤ g → g ≠ b → p g) → MacAt w' m b id p key ByteArray.empty) ∧ w.heap.size ≤ b ∧ b < w'.heap.size ∧ Below w.heap.size w w' := by
  have hbp := blockOf_pos id
  have hsp := szOf_pos id
  have hbs := blk_lt hi
  go_enter Try.func9, Try.ntmps9
  go_wp2_with (fail)
  first | (with_reducible refine (strm_yes id hi _).mono ?_) | fail
  rintro e w1 ⟨s, b, rfl, hh1, hbl, hbs1, hb1⟩
  have HH1 := Lib.hid (hh1 (fun g => w.heap.size ≤ g ∧ g ≠ b) fun g h1 h => ⟨h1, h⟩)
  clear hh1
  go_wp2_with (fail)
  with_reducible refine (block_yes id hi _).mono ?_
  rintro e w2 ⟨rfl, hb2⟩
  have hB2 := hb1.trans (hb2.mono hb1.size)
  by_cases hl : blockOf id < key.size
  · go_wp2_with (fail)
    with_reducible refine (hashOf_yes id key _ hi hs).mono ?_
    rintro e w3 ⟨rfl, hb3⟩
    have hB3 := hB2.trans (hb3.mono hB2.size)
    obtain ⟨r, hr⟩ : ∃ r, r = blockOf id - szOf id := ⟨_, rfl⟩
    have er : (blockOf id : Int) - (szOf id : Int) = (r : Int) := by omega
    have r1 : r ≤ 1000 := by omega
    have hdz := dg_sz hi key
    have hkp := Lib.hid (show dg id key ++ noughts r = kp id key by rw [hr]; unfold kp; rw [if_pos hl])
    have hnz := noughts_size r
    have hkz := kp_size hi key
    have hk9 : (kp id key).size ≤ 140737488355200 := by omega
    have hi9 : (xb 54 (kp id key)).size ≤ 140737488355200 := by rw [xb_size]; exact hk9
    have hks : key.size ≤ 9223372036854775807 := by omega
    clear hr
    go_wp2_with (fail)
    with_reducible refine (repeat0 r _ r1).mono ?_
    rintro e w4 ⟨rfl, hb4⟩
    have hB4 := hB3.trans (hb4.mono hB3.size)
    have hkp' := hkp.out
    go_wp2_with (fail)
    with_reducible refine (pad54 (kp id key) _ hk9).mono ?_
    rintro e w5 ⟨rfl, hb5⟩
    have hB5 := hB4.trans (hb5.mono hB4.size)
    have z1 := hb2.size
    have z2 := hb3.size
    have z3 := hb4.size
    have z4 := hb5.size
    have HH5 := Lib.hid ((((HH1.out.below HH1.out.lt hb2).below (by omega) hb3).below (by omega) hb4).below (by omega) hb5)
    go_wp2_with (fail)
    with_reducible refine (strm_write0 s b id (fun g => w.heap.size ≤ g ∧ g ≠ b) (xb 54 (kp id key)) w5 (fun g hg => by constructor <;> omega) (fun g h => h.2) hi9 HH5.out).mono ?_
    rintro e w6 ⟨rfl, hh6, hb6⟩
    have HH6 := Lib.hid hh6
    clear hh6
    have hB6 : Below w.heap.size w w6 := But.below hB5 hb6 hbl hB5.size
    go_wp2_with (fail)
    with_reducible refine (pad92 (kp id key) _ hk9).mono ?_
    rintro e w7 ⟨rfl, hb7⟩
    have HH7 := Lib.hid (HH6.out.below HH6.out.lt hb7)
    have hB7 := hB6.trans (hb7.mono hB6.size)
    go_wp2
    go_ret2
    have z5 := hB6.size
    have z6 := hb7.size
    have z7 := hB5.size
    have z8 := HH7.out.lt
    have z9 := hB7.size
    refine ⟨w7.heap.size, b, rfl, fun p hp => ⟨s, hp _ z9 (by omega), new1 w7 _, ?_⟩, hbl, by simp; omega, hB7.alloc z9 _⟩
    rw [ByteArray.append_empty]
    exact ((HH7.out.weak (q := p) fun g _ h => hp g h.1 h.2).below z8 ((Below.refl _ _).alloc (Nat.le_refl _) _))
  · obtain ⟨w3, rfl⟩ : ∃ w3, w3 = w2 := ⟨_, rfl⟩
    have hB3 := hB2
    have hb3 := Below.refl w3.heap.size w3
    obtain ⟨r, hr⟩ : ∃ r, r = blockOf id - key.size := ⟨_, rfl⟩
    have er : (blockOf id : Int) - (key.size : Int) = (r : Int) := by omega
    have r1 : r ≤ 1000 := by omega
    have hkp := Lib.hid (show key ++ noughts r = kp id key by rw [hr]; unfold kp; rw [if_neg hl])
    have hnz := noughts_size r
    have hkz := kp_size hi key
    have hk9 : (kp id key).size ≤ 140737488355200 := by omega
    have hi9 : (xb 54 (kp id key)).size ≤ 140737488355200 := by rw [xb_size]; exact hk9
    have hks : key.size ≤ 9223372036854775807 := by omega
    clear hr
    go_wp2_with (fail)
    with_reducible refine (repeat0 r _ r1).mono ?_
    rintro e w4 ⟨rfl, hb4⟩
    have hB4 := hB3.trans (hb4.mono hB3.size)
    have hkp' := hkp.out
    go_wp2_with (fail)
    with_reducible refine (pad54 (kp id key) _ hk9).mono ?_
    rintro e w5 ⟨rfl, hb5⟩
    have hB5 := hB4.trans (hb5.mono hB4.size)
    have z1 := hb2.size
    have z2 := hb3.size
    have z3 := hb4.size
    have z4 := hb5.size
    have HH5 := Lib.hid ((((HH1.out.below HH1.out.lt hb2).below (by omega) hb3).below (by omega) hb4).below (by omega) hb5)
    go_wp2_with (fail)
    with_reducible refine (strm_write0 s b id (fun g => w.heap.size ≤ g ∧ g ≠ b) (xb 54 (kp id key)) w5 (fun g hg => by constructor <;> omega) (fun g h => h.2) hi9 HH5.out).mono ?_
    rintro e w6 ⟨rfl, hh6, hb6⟩
    have HH6 := Lib.hid hh6
    clear hh6
    have hB6 : Below w.heap.size w w6 := But.below hB5 hb6 hbl hB5.size
    go_wp2_with (fail)
    with_reducible refine (pad92 (kp id key) _ hk9).mono ?_
    rintro e w7 ⟨rfl, hb7⟩
    have HH7 := Lib.hid (HH6.out.below HH6.out.lt hb7)
    have hB7 := hB6.trans (hb7.mono hB6.size)
    go_wp2
    go_ret2
    have z5 := hB6.size
    have z6 := hb7.size
    have z7 := hB5.size
    have z8 := HH7.out.lt
    have z9 := hB7.size
    refine ⟨w7.heap.size, b, rfl, fun p hp => ⟨s, hp _ z9 (by omega), new1 w7 _, ?_⟩, hbl, by simp; omega, hB7.alloc z9 _⟩
    rw [ByteArray.append_empty]
    exact ((HH7.out.weak (q := p) fun g _ h => hp g h.1 h.2).below z8 ((Below.refl _ _).alloc (Nat.le_refl _) _))
end Go.Proofs.Ytbgbfigndelogaa.Cw
