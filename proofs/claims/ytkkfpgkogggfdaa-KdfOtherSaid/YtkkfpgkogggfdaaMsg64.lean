/-
  The plain functions of chapter 7 on whole messages: blocks in a row, what is put behind a message, the digest; and that it does not matter how a message is cut. No program in sight. No condition.
-/
import Derived.Test.YtkkfpgkogggfdaaCom
import Derived.Test.YtkkfpgkogggfdaaSha64
set_option linter.unusedSimpArgs false
set_option linter.unusedVariables false
namespace Go.Proofs.Ytkkfpgkogggfdaa.Cw

def k512 (i : Nat) : UInt64 := [0x428a2f98d728ae22, 0x7137449123ef65cd, 0xb5c0fbcfec4d3b2f, 0xe9b5dba58189dbbc, 0x3956c25bf348b538, 0x59f111f1b605d019, 0x923f82a4af194f9b, 0xab1c5ed5da6d8118, 0xd807aa98a3030242, 0x12835b0145706fbe, 0x243185be4ee4b28c, 0x550c7dc3d5ffb4e2, 0x72be5d74f27b896f, 0x80deb1fe3b1696b1, 0x9bdc06a725c71235, 0xc19bf174cf692694, 0xe49b69c19ef14ad2, 0xefbe4786384f25e3, 0x0fc19dc68b8cd5b5, 0x240ca1cc77ac9c65, 0x2de92c6f592b0275, 0x4a7484aa6ea6e483, 0x5cb0a9dcbd41fbd4, 0x76f988da831153b5, 0x983e5152ee66dfab, 0xa831c66d2db43210, 0xb00327c898fb213f, 0xbf597fc7beef0ee4, 0xc6e00bf33da88fc2, 0xd5a79147930aa725, 0x06ca6351e003826f, 0x142929670a0e6e70, 0x27b70a8546d22ffc, 0x2e1b21385c26c926, 0x4d2c6dfc5ac42aed, 0x53380d139d95b3df, 0x650a73548baf63de, 0x766a0abb3c77b2a8, 0x81c2c92e47edaee6, 0x92722c851482353b, 0xa2bfe8a14cf10364, 0xa81a664bbc423001, 0xc24b8b70d0f89791, 0xc76c51a30654be30, 0xd192e819d6ef5218, 0xd69906245565a910, 0xf40e35855771202a, 0x106aa07032bbd1b8, 0x19a4c116b8d2d0c8, 0x1e376c085141ab53, 0x2748774cdf8eeb99, 0x34b0bcb5e19b48a8, 0x391c0cb3c5c95a63, 0x4ed8aa4ae3418acb, 0x5b9cca4f7763e373, 0x682e6ff3d6b2b8a3, 0x748f82ee5defb2fc, 0x78a5636f43172f60, 0x84c87814a1f0ab72, 0x8cc702081a6439ec, 0x90befffa23631e28, 0xa4506cebde82bde9, 0xbef9a3f7b2c67915, 0xc67178f2e372532b, 0xca273eceea26619c, 0xd186b8c721c0c207, 0xeada7dd6cde0eb1e, 0xf57d4f7fee6ed178, 0x06f067aa72176fba, 0x0a637dc5a2c898a6, 0x113f9804bef90dae, 0x1b710b35131c471b, 0x28db77f523047d84, 0x32caab7b40c72493, 0x3c9ebe0a15c9bebc, 0x431d67c49c100d4c, 0x4cc5d4becb3e42b6, 0x597f299cfc657e2a, 0x5fcb6fab3ad6faec, 0x6c44198c4a475817].getD i 0
def h384 (i : Nat) : UInt64 := [0xcbbb9d5dc1059ed8, 0x629a292a367cd507, 0x9159015a3070dd17, 0x152fecd8f70e5939, 0x67332667ffc00b31, 0x8eb44a8768581511, 0xdb0c2e0d64f98fa7, 0x47b5481dbefa4fa4].getD i 0
def h512 (i : Nat) : UInt64 := [0x6a09e667f3bcc908, 0xbb67ae8584caa73b, 0x3c6ef372fe94f82b, 0xa54ff53a5f1d36f1, 0x510e527fade682d1, 0x9b05688c2b3e6c1f, 0x1f83d9abfb41bd6b, 0x5be0cd19137e2179].getD i 0

/-- the first n blocks of a message -/
def abs64 (k h : Nat → UInt64) (m : List UInt8) : Nat → Nat → UInt64
  | 0 => h
  | n + 1 => blk64 k (abs64 k h m n) fun i => m.getD (128 * n + i) 0

theorem blk64_congr (k h : Nat → UInt64) (b c : Nat → UInt8) (e : ∀ i, i < 128 → b i = c i) : blk64 k h b = blk64 k h c := by
  have hp : ∀ j, j < 16 → ∀ n, n ≤ 8 → pw64 b j n = pw64 c j n := by
    intro j hj n
    induction n with
    | zero => intro _; rfl
    | succ n ih => intro hn; simp only [pw64]; rw [ih (by omega), e _ (by omega)]
  have hs : ∀ j, sch64 b j = sch64 c j := by
    intro j
    induction j using Nat.strongRecOn with
    | _ j ih =>
      by_cases h : j < 16
      · rw [sch64_lo b j h, sch64_lo c j h, hp j h 8 (by omega)]
      · rw [sch64_hi b j h, sch64_hi c j h, ih _ (by omega), ih _ (by omega), ih _ (by omega), ih _ (by omega)]
  have hs' : sch64 b = sch64 c := funext hs
  unfold blk64
  rw [hs']

/-- what was gone over, and what is gone over then -/
theorem abs64_add (k h : Nat → UInt64) (m s : List UInt8) (a : Nat) (ha : 128 * a ≤ m.length) : ∀ j, 128 * (a + j) ≤ (m ++ s).length → abs64 k h (m ++ s) (a + j) = abs64 k (abs64 k h m a) (m.drop (128 * a) ++ s) j := by
  have hlow : ∀ a, 128 * a ≤ m.length → abs64 k h (m ++ s) a = abs64 k h m a := by
    intro a
    induction a with
    | zero => intro _; rfl
    | succ a ih =>
      intro ha
      simp only [abs64]
      rw [ih (by omega)]
      refine blk64_congr _ _ _ _ fun i hi => ?_
      simp only [List.getD_eq_getElem?_getD]
      rw [List.getElem?_append_left (by omega)]
  intro j
  induction j with
  | zero => intro _; exact hlow a ha
  | succ j ih =>
    intro hj
    rw [← Nat.add_assoc]
    simp only [abs64]
    rw [ih (by omega)]
    refine blk64_congr _ _ _ _ fun i hi => ?_
    simp only [List.getD_eq_getElem?_getD]
    congr 1
    by_cases hc : 128 * (a + j) + i < m.length
    · rw [List.getElem?_append_left hc, List.getElem?_append_left (by simp; omega), List.getElem?_drop]
      congr 1; omega
    · rw [List.getElem?_append_right (by omega), List.getElem?_append_right (by simp; omega)]
      congr 1; simp; omega

/-- what stands behind a message of n bytes -/
def tail64 (n : Nat) : List UInt8 := 128 :: List.replicate ((239 - n % 128) % 128 + 8) 0 ++ len8 (UInt64.ofNat n)
theorem tail64_length (n : Nat) : (n + (tail64 n).length) % 128 = 0 := by simp [tail64, len8_length]; omega
/-- the eight words of a message's digest -/
def fin64 (h : Nat → UInt64) (m : List UInt8) : Nat → UInt64 := abs64 k512 h (m ++ tail64 m.length) ((m ++ tail64 m.length).length / 128)
/-- words as bytes, the highest first -/
def out64 (h : Nat → UInt64) (n : Nat) : List UInt8 := (List.range n).flatMap fun i => (List.range 8).map fun k => (h i >>> UInt64.ofNat (56 - 8 * k)).toUInt8
theorem out64_length (h : Nat → UInt64) (n : Nat) : (out64 h n).length = 8 * n := by
  unfold out64
  induction n with
  | zero => rfl
  | succ n ih => rw [@List.range_succ n, List.flatMap_append, List.length_append, ih]; simp; omega
def beg64 (bits : Nat) : Nat → UInt64 := if bits = 384 then h384 else h512
def dig64 (bits : Nat) (m : List UInt8) : List UInt8 := (out64 (fin64 (beg64 bits) m) 8).take (bits / 8)

/-- the digest, from what was gone over and what is left -/
theorem fin64_rest (h : Nat → UInt64) (m : List UInt8) :
    fin64 h m = abs64 k512 (abs64 k512 h m (m.length / 128)) (m.drop (128 * (m.length / 128)) ++ tail64 m.length) ((m.drop (128 * (m.length / 128)) ++ tail64 m.length).length / 128) := by
  unfold fin64
  have ht := tail64_length m.length
  rw [← abs64_add k512 h m _ (m.length / 128) (by omega) _ (by simp; omega)]
  congr 1
  simp only [List.length_append, List.length_drop]
  omega

section
variable (k h : Nat → UInt64) (m s : List UInt8)
theorem app_divL : (m ++ s).length / 128 = m.length / 128 + (m.length % 128 + s.length) / 128 := by rw [List.length_append]; omega
theorem app_modL : (m ++ s).length % 128 = (m.length % 128 + s.length) % 128 := by rw [List.length_append]; omega
theorem app_absL : abs64 k h (m ++ s) ((m ++ s).length / 128) = abs64 k (abs64 k h m (m.length / 128)) (m.drop (128 * (m.length / 128)) ++ s) ((m.length % 128 + s.length) / 128) := by
  rw [app_divL]
  exact abs64_add k h m s _ (by omega) _ (by rw [List.length_append]; omega)
theorem app_restL : (m ++ s).drop (128 * ((m ++ s).length / 128)) = (m.drop (128 * (m.length / 128)) ++ s).drop (128 * ((m.length % 128 + s.length) / 128)) := by
  rw [app_divL, Nat.mul_add, ← List.drop_drop, List.drop_append_of_le_length (by omega)]
end

end Go.Proofs.Ytkkfpgkogggfdaa.Cw
