/-
  The plain functions of chapter 7 on whole messages: blocks in a row, what is put behind a message, the digest; and that it does not matter how a message is cut. No program in sight. No condition.
-/
import Derived.Test.YtkkfpgkogggfdaaCom
import Derived.Test.YtkkfpgkogggfdaaSha
set_option linter.unusedSimpArgs false
set_option linter.unusedVariables false
namespace Go.Proofs.Ytkkfpgkogggfdaa.Cw

def k256 (i : Nat) : UInt32 := [0x428a2f98, 0x71374491, 0xb5c0fbcf, 0xe9b5dba5, 0x3956c25b, 0x59f111f1, 0x923f82a4, 0xab1c5ed5, 0xd807aa98, 0x12835b01, 0x243185be, 0x550c7dc3, 0x72be5d74, 0x80deb1fe, 0x9bdc06a7, 0xc19bf174, 0xe49b69c1, 0xefbe4786, 0x0fc19dc6, 0x240ca1cc, 0x2de92c6f, 0x4a7484aa, 0x5cb0a9dc, 0x76f988da, 0x983e5152, 0xa831c66d, 0xb00327c8, 0xbf597fc7, 0xc6e00bf3, 0xd5a79147, 0x06ca6351, 0x14292967, 0x27b70a85, 0x2e1b2138, 0x4d2c6dfc, 0x53380d13, 0x650a7354, 0x766a0abb, 0x81c2c92e, 0x92722c85, 0xa2bfe8a1, 0xa81a664b, 0xc24b8b70, 0xc76c51a3, 0xd192e819, 0xd6990624, 0xf40e3585, 0x106aa070, 0x19a4c116, 0x1e376c08, 0x2748774c, 0x34b0bcb5, 0x391c0cb3, 0x4ed8aa4a, 0x5b9cca4f, 0x682e6ff3, 0x748f82ee, 0x78a5636f, 0x84c87814, 0x8cc70208, 0x90befffa, 0xa4506ceb, 0xbef9a3f7, 0xc67178f2].getD i 0
def h224 (i : Nat) : UInt32 := [0xc1059ed8, 0x367cd507, 0x3070dd17, 0xf70e5939, 0xffc00b31, 0x68581511, 0x64f98fa7, 0xbefa4fa4].getD i 0
def h256 (i : Nat) : UInt32 := [0x6a09e667, 0xbb67ae85, 0x3c6ef372, 0xa54ff53a, 0x510e527f, 0x9b05688c, 0x1f83d9ab, 0x5be0cd19].getD i 0

/-- the first n blocks of a message -/
def abs32 (k h : Nat → UInt32) (m : List UInt8) : Nat → Nat → UInt32
  | 0 => h
  | n + 1 => blk32 k (abs32 k h m n) fun i => m.getD (64 * n + i) 0

theorem blk32_congr (k h : Nat → UInt32) (b c : Nat → UInt8) (e : ∀ i, i < 64 → b i = c i) : blk32 k h b = blk32 k h c := by
  have hp : ∀ j, j < 16 → ∀ n, n ≤ 4 → pw32 b j n = pw32 c j n := by
    intro j hj n
    induction n with
    | zero => intro _; rfl
    | succ n ih => intro hn; simp only [pw32]; rw [ih (by omega), e _ (by omega)]
  have hs : ∀ j, sch32 b j = sch32 c j := by
    intro j
    induction j using Nat.strongRecOn with
    | _ j ih =>
      by_cases h : j < 16
      · rw [sch32_lo b j h, sch32_lo c j h, hp j h 4 (by omega)]
      · rw [sch32_hi b j h, sch32_hi c j h, ih _ (by omega), ih _ (by omega), ih _ (by omega), ih _ (by omega)]
  have hs' : sch32 b = sch32 c := funext hs
  unfold blk32
  rw [hs']

/-- what was gone over, and what is gone over then -/
theorem abs32_add (k h : Nat → UInt32) (m s : List UInt8) (a : Nat) (ha : 64 * a ≤ m.length) : ∀ j, 64 * (a + j) ≤ (m ++ s).length → abs32 k h (m ++ s) (a + j) = abs32 k (abs32 k h m a) (m.drop (64 * a) ++ s) j := by
  have hlow : ∀ a, 64 * a ≤ m.length → abs32 k h (m ++ s) a = abs32 k h m a := by
    intro a
    induction a with
    | zero => intro _; rfl
    | succ a ih =>
      intro ha
      simp only [abs32]
      rw [ih (by omega)]
      refine blk32_congr _ _ _ _ fun i hi => ?_
      simp only [List.getD_eq_getElem?_getD]
      rw [List.getElem?_append_left (by omega)]
  intro j
  induction j with
  | zero => intro _; exact hlow a ha
  | succ j ih =>
    intro hj
    rw [← Nat.add_assoc]
    simp only [abs32]
    rw [ih (by omega)]
    refine blk32_congr _ _ _ _ fun i hi => ?_
    simp only [List.getD_eq_getElem?_getD]
    congr 1
    by_cases hc : 64 * (a + j) + i < m.length
    · rw [List.getElem?_append_left hc, List.getElem?_append_left (by simp; omega), List.getElem?_drop]
      congr 1; omega
    · rw [List.getElem?_append_right (by omega), List.getElem?_append_right (by simp; omega)]
      congr 1; simp; omega

/-- what stands behind a message of n bytes -/
def tail32 (n : Nat) : List UInt8 := 128 :: List.replicate ((119 - n % 64) % 64) 0 ++ len8 (UInt64.ofNat n)
theorem tail32_length (n : Nat) : (n + (tail32 n).length) % 64 = 0 := by simp [tail32, len8_length]; omega
/-- the eight words of a message's digest -/
def fin32 (h : Nat → UInt32) (m : List UInt8) : Nat → UInt32 := abs32 k256 h (m ++ tail32 m.length) ((m ++ tail32 m.length).length / 64)
/-- words as bytes, the highest first -/
def out32 (h : Nat → UInt32) (n : Nat) : List UInt8 := (List.range n).flatMap fun i => (List.range 4).map fun k => (h i >>> UInt32.ofNat (24 - 8 * k)).toUInt8
theorem out32_length (h : Nat → UInt32) (n : Nat) : (out32 h n).length = 4 * n := by
  unfold out32
  induction n with
  | zero => rfl
  | succ n ih => rw [@List.range_succ n, List.flatMap_append, List.length_append, ih]; simp; omega
def beg32 (bits : Nat) : Nat → UInt32 := if bits = 224 then h224 else h256
def dig32 (bits : Nat) (m : List UInt8) : List UInt8 := (out32 (fin32 (beg32 bits) m) 8).take (bits / 8)

/-- the digest, from what was gone over and what is left -/
theorem fin32_rest (h : Nat → UInt32) (m : List UInt8) :
    fin32 h m = abs32 k256 (abs32 k256 h m (m.length / 64)) (m.drop (64 * (m.length / 64)) ++ tail32 m.length) ((m.drop (64 * (m.length / 64)) ++ tail32 m.length).length / 64) := by
  unfold fin32
  have ht := tail32_length m.length
  rw [← abs32_add k256 h m _ (m.length / 64) (by omega) _ (by simp; omega)]
  congr 1
  simp only [List.length_append, List.length_drop]
  omega

section
variable (k h : Nat → UInt32) (m s : List UInt8)
theorem app_div : (m ++ s).length / 64 = m.length / 64 + (m.length % 64 + s.length) / 64 := by rw [List.length_append]; omega
theorem app_mod : (m ++ s).length % 64 = (m.length % 64 + s.length) % 64 := by rw [List.length_append]; omega
theorem app_abs : abs32 k h (m ++ s) ((m ++ s).length / 64) = abs32 k (abs32 k h m (m.length / 64)) (m.drop (64 * (m.length / 64)) ++ s) ((m.length % 64 + s.length) / 64) := by
  rw [app_div]
  exact abs32_add k h m s _ (by omega) _ (by rw [List.length_append]; omega)
theorem app_rest : (m ++ s).drop (64 * ((m ++ s).length / 64)) = (m.drop (64 * (m.length / 64)) ++ s).drop (64 * ((m.length % 64 + s.length) / 64)) := by
  rw [app_div, Nat.mul_add, ← List.drop_drop, List.drop_append_of_le_length (by omega)]
end

end Go.Proofs.Ytkkfpgkogggfdaa.Cw
