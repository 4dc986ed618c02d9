/-
  Hashes by their number, in short: sizes, blocks, what the program and the reference answer. Condition: a text takes at most 2^47 - 4096 bytes.
-/
import Derived.Test.YtkkfpgkogggfdaaStreamW
set_option linter.unusedSimpArgs false
set_option linter.unusedVariables false
namespace Go.Proofs.Ytkkfpgkogggfdaa.Cw
open Go Go.RowKit

/-- how many bytes a digest has -/
def szOf (id : Nat) : Nat := bitsOf id / 8
theorem szOf_pos (id : Nat) : 28 ≤ szOf id ∧ szOf id ≤ 64 := by
  unfold szOf bitsOf
  repeat' split
  all_goals omega
theorem szOf_ne (id : Nat) : (((szOf id : Nat) : Int) == 0) = false := by
  have := szOf_pos id
  simp; omega
theorem blockOf_pos (id : Nat) : blockOf id = 64 ∨ blockOf id = 128 := by unfold blockOf; split; exact .inl rfl; exact .inr rfl
theorem dg_sz {id : Nat} (h : isId id) (m : ByteArray) : (dg id m).size = szOf id := dg_size h m
theorem hsize (id : Nat) (h : isId id) (w : World) : Calls Try.prog 11 #[.int .i64 id] w fun e w' => e = .returned (.int .i64 (szOf id)) ∧ Below w.heap.size w w' := size_yes id h w
theorem rsize (id : Nat) (h : isId id) (w : World) : Calls Try.prog 13 #[.int .i64 id] w fun e w' => e = .returned (.int .i64 (szOf id)) ∧ w = w' := by
  have e : refSize (id : Int) = szOf id := by
    obtain ⟨h1, h2⟩ := h
    rcases (show id = 1 ∨ id = 2 ∨ id = 3 ∨ id = 4 by omega) with rfl | rfl | rfl | rfl <;> rfl
  have := refSize_calls (id : Int) w
  rw [e] at this
  exact this
theorem rsize_no (c : Int) (h : ¬ (1 ≤ c ∧ c ≤ 4)) (w : World) : Calls Try.prog 13 #[.int .i64 c] w fun e w' => e = .returned (.int .i64 0) ∧ w = w' := by
  have e : refSize c = 0 := by unfold refSize; rw [if_neg (by omega), if_neg (by omega), if_neg (by omega), if_neg (by omega)]
  have := refSize_calls c w
  rw [e] at this
  exact this
theorem rblock (id : Nat) (h : isId id) (w : World) : Calls Try.prog 19 #[.int .i64 id] w fun e w' => e = .returned (.int .i64 (blockOf id)) ∧ w = w' := by
  have e : (if (id : Int) = 1 ∨ (id : Int) = 2 then 64 else if (id : Int) = 3 ∨ (id : Int) = 4 then 128 else 0 : Int) = blockOf id := by
    obtain ⟨h1, h2⟩ := h
    rcases (show id = 1 ∨ id = 2 ∨ id = 3 ∨ id = 4 by omega) with rfl | rfl | rfl | rfl <;> rfl
  have := refBlock_calls (id : Int) w
  rw [e] at this
  exact this
theorem rblock_no (c : Int) (h : ¬ (1 ≤ c ∧ c ≤ 4)) (w : World) : Calls Try.prog 19 #[.int .i64 c] w fun e w' => e = .returned (.int .i64 0) ∧ w = w' := by
  have e : (if c = 1 ∨ c = 2 then 64 else if c = 3 ∨ c = 4 then 128 else 0 : Int) = 0 := by rw [if_neg (by omega), if_neg (by omega)]
  have := refBlock_calls c w
  rw [e] at this
  exact this
/-- what the laws make of a number -/
theorem pick_id (c : Int) : ∃ k : Nat, bits BinOp.and IntKind.i64 c 3 = (k : Int) ∧ k < 4 := by
  have h : ((BitVec.ofInt 64 c) &&& (BitVec.ofInt 64 3)).toNat < 4 := by
    rw [BitVec.toNat_and]
    exact Nat.lt_of_le_of_lt Nat.and_le_right (by decide)
  refine ⟨((BitVec.ofInt 64 c) &&& (BitVec.ofInt 64 3)).toNat, ?_, h⟩
  show IntKind.i64.wrap (((BitVec.ofInt 64 c) &&& (BitVec.ofInt 64 3)).toNat : Int) = _
  exact IntWalk.i64_in _ (by omega)
theorem is_pick {k : Nat} (h : k < 4) : isId (1 + k) := ⟨by omega, by omega⟩
theorem strm_write0 (s b id : Nat) (p : Nat → Prop) (t : ByteArray) (w : World) (hp : ∀ g, w.heap.size ≤ g → p g) (hpb : ∀ g, p g → g ≠ b) (hs : t.size ≤ 140737488351232) (hh : StreamAt w s b id p ByteArray.empty) :
    Calls Try.prog 17 #[.pointer (some ⟨s, 0, none⟩), .string t] w fun e w' => e = .returned (.int .i64 0) ∧ StreamAt w' s b id p t ∧ But b w w' :=
  (strm_write s b id p ByteArray.empty t w hp hpb hs hh).mono fun _ _ ⟨h1, h2, h3⟩ => ⟨h1, by simpa using h2, h3⟩
theorem pick_is (c : Int) : ∃ k id : Nat, bits BinOp.and IntKind.i64 c 3 = (k : Int) ∧ 1 + (k : Int) = (id : Int) ∧ wrap64 (id : Int) = (id : Int) ∧ isId id := by
  obtain ⟨k, hk, hk4⟩ := pick_id c
  exact ⟨k, 1 + k, hk, by omega, IntWalk.wrap64_in _ (by omega), is_pick hk4⟩
theorem blk_lt {id : Nat} (h : isId id) : blockOf id = 64 ∧ (szOf id : Int) < 64 ∨ blockOf id = 128 ∧ (szOf id : Int) < 128 := by
  obtain ⟨h1, h2⟩ := h
  rcases (show id = 1 ∨ id = 2 ∨ id = 3 ∨ id = 4 by omega) with rfl | rfl | rfl | rfl <;> decide
theorem StreamAt.weak {w : World} {s b id : Nat} {p q : Nat → Prop} {m : ByteArray} (h : StreamAt w s b id p m) (hq : ∀ g, g < w.heap.size → p g → q g) : StreamAt w s b id q m := by
  obtain ⟨cw, ch, cs, h1, p1, p2, p3, p4, h2, d1, d2, d3⟩ := h
  refine ⟨cw, ch, cs, ?_, hq _ (lt_of h2) p1, hq _ (cell_lt d1) p2, hq _ (cell_lt d3) p3, hq _ (cell_lt d2) p4, h2, d1, d2, d3⟩
  unfold Inner at h1 ⊢
  split at h1
  · rw [if_pos ‹_›]; exact h1.weak hq
  · rw [if_neg ‹_›]; exact HashAtL.weak h1 hq
theorem StreamAt.but {w w' : World} {s b b' id : Nat} {p : Nat → Prop} {m : ByteArray} (h : StreamAt w s b id p m) (hb : But b' w w') (hne : b ≠ b') (hp : ∀ g, p g → g ≠ b') : StreamAt w' s b id p m :=
  h.keep hb.size (hb.block b h.lt (by simpa using hne)) fun g hg hlt => hb.block g hlt (by simpa using hp g hg)
/-- all texts of one parity, joined -/
def alt (zs : List ByteArray) (r : Nat) : Nat → ByteArray
  | 0 => ByteArray.empty
  | n + 1 => if n % 2 = r then alt zs r n ++ nthS zs n else alt zs r n
theorem alt_size (zs : List ByteArray) (r n : Nat) : (alt zs r n).size ≤ sizes zs := by
  have h : ∀ n, (alt zs r n).size ≤ (joined zs n).size := by
    intro n
    induction n with
    | zero => exact Nat.le_refl _
    | succ n ih =>
      simp only [alt, joined, ByteArray.size_append]
      split
      · rw [ByteArray.size_append]; omega
      · omega
  exact Nat.le_trans (h n) (joined_size zs n)
theorem and1 (n : Nat) (h : n < 9223372036854775808) : bits BinOp.and IntKind.i64 (n : Int) 1 = ((n % 2 : Nat) : Int) := by
  have e : ((BitVec.ofInt 64 (n : Int)) &&& (BitVec.ofInt 64 1)).toNat = n % 2 := by
    rw [BitVec.toNat_and, BitVec.ofInt_natCast, show BitVec.ofInt 64 1 = BitVec.ofNat 64 1 from rfl]
    simp only [BitVec.toNat_ofNat]
    rw [show 1 % 2 ^ 64 = 1 from rfl, Nat.mod_eq_of_lt (by omega)]
    exact Nat.and_one_is_mod n
  show IntKind.i64.wrap (((BitVec.ofInt 64 (n : Int)) &&& (BitVec.ofInt 64 1)).toNat : Int) = _
  rw [e]
  exact IntWalk.i64_in _ (by omega)
end Go.Proofs.Ytkkfpgkogggfdaa.Cw
