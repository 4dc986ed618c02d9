/-
  The plain functions of chapter 8 on words and blocks, as the document's rules have them. No program in sight. No condition.
-/
import Derived.Test.YtkkfpgkogggfdaaSha
set_option linter.unusedSimpArgs false
set_option linter.unusedVariables false
namespace Go.Proofs.Ytkkfpgkogggfdaa.Cw
/-! ### 64 bits -/
def rr64 (x : UInt64) (k : UInt64) : UInt64 := (x >>> k) ||| (x <<< (64 - k))
/-- the begin of a word of a block: k bytes of the i-th -/
def pw64 (b : Nat → UInt8) (i : Nat) : Nat → UInt64
  | 0 => 0
  | k + 1 => (pw64 b i k <<< 8) ||| (b (8 * i + k)).toUInt64
def s0_64 (x : UInt64) : UInt64 := rr64 x 1 ^^^ rr64 x 8 ^^^ (x >>> 7)
def s1_64 (x : UInt64) : UInt64 := rr64 x 19 ^^^ rr64 x 61 ^^^ (x >>> 6)
def sch64 (b : Nat → UInt8) (j : Nat) : UInt64 :=
  if _h : j < 16 then pw64 b j 8 else sch64 b (j - 16) + s0_64 (sch64 b (j - 15)) + sch64 b (j - 7) + s1_64 (sch64 b (j - 2))
termination_by j
theorem sch64_lo (b : Nat → UInt8) (k : Nat) (h : k < 16) : sch64 b k = pw64 b k 8 := by rw [sch64, dif_pos h]
theorem sch64_hi (b : Nat → UInt8) (k : Nat) (h : ¬ k < 16) : sch64 b k = sch64 b (k - 16) + s0_64 (sch64 b (k - 15)) + sch64 b (k - 7) + s1_64 (sch64 b (k - 2)) := by
  rw [sch64, dif_neg h]

def S0_64 (x : UInt64) : UInt64 := rr64 x 28 ^^^ rr64 x 34 ^^^ rr64 x 39
def S1_64 (x : UInt64) : UInt64 := rr64 x 14 ^^^ rr64 x 18 ^^^ rr64 x 41
def ch64 (x y z : UInt64) : UInt64 := x &&& y ^^^ ~~~x &&& z
def maj64 (x y z : UInt64) : UInt64 := x &&& y ^^^ x &&& z ^^^ y &&& z
def t1_64 (k w : UInt64) (x : Nat → UInt64) : UInt64 := x 7 + S1_64 (x 4) + ch64 (x 4) (x 5) (x 6) + k + w
/-- a round -/
def rnd64 (k w : UInt64) (x : Nat → UInt64) : Nat → UInt64
  | 0 => t1_64 k w x + S0_64 (x 0) + maj64 (x 0) (x 1) (x 2)
  | 4 => x 3 + t1_64 k w x
  | i + 1 => x i
def rs64 (k w x : Nat → UInt64) : Nat → Nat → UInt64
  | 0 => x
  | i + 1 => rnd64 (k i) (w i) (rs64 k w x i)
/-- a block -/
def blk64 (k h : Nat → UInt64) (b : Nat → UInt8) : Nat → UInt64 := fun i => h i + rs64 k (sch64 b) h 80 i

end Go.Proofs.Ytkkfpgkogggfdaa.Cw
