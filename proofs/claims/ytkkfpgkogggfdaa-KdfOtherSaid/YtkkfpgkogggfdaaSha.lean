/-
  The plain functions of chapters 7 and 8, on words and bytes: rotations, the schedule, a round, a block. No program in sight. No condition.
-/
import Derived.Test.YtkkfpgkogggfdaaBase
set_option linter.unusedSimpArgs false
set_option linter.unusedVariables false
namespace Go.Proofs.Ytkkfpgkogggfdaa.Cw

/-! ### 32 bits -/
def rr32 (x : UInt32) (k : UInt32) : UInt32 := (x >>> k) ||| (x <<< (32 - k))
/-- the begin of a word of a block: k bytes of the i-th -/
def pw32 (b : Nat → UInt8) (i : Nat) : Nat → UInt32
  | 0 => 0
  | k + 1 => (pw32 b i k <<< 8) ||| (b (4 * i + k)).toUInt32
def s0_32 (x : UInt32) : UInt32 := rr32 x 7 ^^^ rr32 x 18 ^^^ (x >>> 3)
def s1_32 (x : UInt32) : UInt32 := rr32 x 17 ^^^ rr32 x 19 ^^^ (x >>> 10)
def sch32 (b : Nat → UInt8) (j : Nat) : UInt32 :=
  if _h : j < 16 then pw32 b j 4 else sch32 b (j - 16) + s0_32 (sch32 b (j - 15)) + sch32 b (j - 7) + s1_32 (sch32 b (j - 2))
termination_by j
theorem sch32_lo (b : Nat → UInt8) (k : Nat) (h : k < 16) : sch32 b k = pw32 b k 4 := by rw [sch32, dif_pos h]
theorem sch32_hi (b : Nat → UInt8) (k : Nat) (h : ¬ k < 16) : sch32 b k = sch32 b (k - 16) + s0_32 (sch32 b (k - 15)) + sch32 b (k - 7) + s1_32 (sch32 b (k - 2)) := by
  rw [sch32, dif_neg h]

def S0_32 (x : UInt32) : UInt32 := rr32 x 2 ^^^ rr32 x 13 ^^^ rr32 x 22
def S1_32 (x : UInt32) : UInt32 := rr32 x 6 ^^^ rr32 x 11 ^^^ rr32 x 25
def ch32 (x y z : UInt32) : UInt32 := x &&& y ^^^ ~~~x &&& z
def maj32 (x y z : UInt32) : UInt32 := x &&& y ^^^ x &&& z ^^^ y &&& z
def t1_32 (k w : UInt32) (x : Nat → UInt32) : UInt32 := x 7 + S1_32 (x 4) + ch32 (x 4) (x 5) (x 6) + k + w
/-- a round -/
def rnd32 (k w : UInt32) (x : Nat → UInt32) : Nat → UInt32
  | 0 => t1_32 k w x + S0_32 (x 0) + maj32 (x 0) (x 1) (x 2)
  | 4 => x 3 + t1_32 k w x
  | i + 1 => x i
def rs32 (k w x : Nat → UInt32) : Nat → Nat → UInt32
  | 0 => x
  | i + 1 => rnd32 (k i) (w i) (rs32 k w x i)
/-- a block -/
def blk32 (k h : Nat → UInt32) (b : Nat → UInt8) : Nat → UInt32 := fun i => h i + rs32 k (sch32 b) h 64 i

/-- a hash's struct, cell by cell -/
def hobj {α : Type} (v : α → Value) (n : Nat) (size : Value) (h k : Nat → α) (rest len : Value) : Array Value := #[size] ++ fa v 8 h ++ fa v n k ++ #[rest, len]
section
variable {α : Type} (v : α → Value) (n : Nat) (size : Value) (h k : Nat → α) (rest len : Value)
theorem hobj_ext (h' : Nat → α) (e : ∀ i, i < 8 → h i = h' i) : hobj v n size h k rest len = hobj v n size h' k rest len := by
  unfold hobj; rw [fa_ext v 8 h h' e]
theorem hobj_size : (hobj v n size h k rest len).size = n + 11 := by simp [hobj, fa_size]; omega
theorem hobj_h (i : Nat) (hi : i < 8) : (hobj v n size h k rest len)[1 + i]? = some (v (h i)) := by
  unfold hobj
  rw [Array.getElem?_append_left (by simp [fa_size]; omega), Array.getElem?_append_left (by simp [fa_size]; try omega), Array.getElem?_append_right (by simp)]
  simp [fa_get _ _ _ _ hi]
theorem hobj_k (i : Nat) (hi : i < n) : (hobj v n size h k rest len)[9 + i]? = some (v (k i)) := by
  unfold hobj
  rw [Array.getElem?_append_left (by simp [fa_size]; omega), Array.getElem?_append_right (by simp [fa_size])]
  have e : 9 + i - (#[size] ++ fa v 8 h).size = i := by simp [fa_size]
  rw [e]; exact fa_get _ _ _ _ hi
theorem hobj_0 : (hobj v n size h k rest len)[0]? = some size := by
  unfold hobj
  rw [Array.getElem?_append_left (by simp [fa_size]; omega), Array.getElem?_append_left (by simp [fa_size]), Array.getElem?_append_left (by simp)]
  rfl
theorem hobj_rest : (hobj v n size h k rest len)[9 + n]? = some rest := by
  unfold hobj
  rw [Array.getElem?_append_right (by simp [fa_size]; omega)]
  have e : 9 + n - (#[size] ++ fa v 8 h ++ fa v n k).size = 0 := by simp [fa_size]; omega
  rw [e]; rfl
theorem hobj_len : (hobj v n size h k rest len)[10 + n]? = some len := by
  unfold hobj
  rw [Array.getElem?_append_right (by simp [fa_size]; omega)]
  have e : 10 + n - (#[size] ++ fa v 8 h ++ fa v n k).size = 1 := by simp [fa_size]; omega
  rw [e]; rfl
theorem hobj_set_h (i : Nat) (hi : i < 8) (x : α) : (hobj v n size h k rest len).setIfInBounds (1 + i) (v x) = hobj v n size (upd h i x) k rest len := by
  unfold hobj
  rw [Array.setIfInBounds_append_left (by simp [fa_size]; omega), Array.setIfInBounds_append_left (by simp [fa_size]; omega), Array.setIfInBounds_append_right (by simp)]
  congr 3
  have e : 1 + i - (#[size] : Array Value).size = i := by simp
  rw [e, fa_set]
theorem hobj_set_rest (x : Value) : (hobj v n size h k rest len).setIfInBounds (9 + n) x = hobj v n size h k x len := by
  unfold hobj
  rw [Array.setIfInBounds_append_right (by simp [fa_size]; omega)]
  have e : 9 + n - (#[size] ++ fa v 8 h ++ fa v n k).size = 0 := by simp [fa_size]; omega
  rw [e]; rfl
theorem hobj_set_len (x : Value) : (hobj v n size h k rest len).setIfInBounds (10 + n) x = hobj v n size h k rest x := by
  unfold hobj
  rw [Array.setIfInBounds_append_right (by simp [fa_size]; omega)]
  have e : 10 + n - (#[size] ++ fa v 8 h ++ fa v n k).size = 1 := by simp [fa_size]; omega
  rw [e]; rfl
end

end Go.Proofs.Ytkkfpgkogggfdaa.Cw
