/-
  Plain laws of derived keys: how long they are, how they begin, their blocks; and of masks. No condition.
-/
import Derived.Test.YtkkfpgkogggfdaaKdf
set_option linter.unusedSimpArgs false
set_option linter.unusedVariables false
namespace Go.Proofs.Ytkkfpgkogggfdaa.Cw
open Go Go.RowKit
theorem kd_size {id : Nat} (h : isId id) (z info : ByteArray) (size : Nat) (hs : size ≤ 1024) : (kd id z info size).size = size := by
  unfold kd
  have := szOf_pos id
  rw [ByteArray.size_extract, kdN_size h]
  omega
theorem kd_pre {id : Nat} (h : isId id) (z info : ByteArray) (k m : Nat) (hk : k ≤ m) : (kd id z info m).extract 0 k = kd id z info k := by
  unfold kd
  rw [ByteArray.extract_extract]
  simp [Nat.min_eq_left hk]
theorem extract_self (a : ByteArray) (n : Nat) (h : a.size = n) : a.extract 0 n = a := by
  subst h
  simp
theorem kd_first {id : Nat} (h : isId id) (z info : ByteArray) : kd id z info (szOf id) = kdB id z info 1 := by
  rw [← kd_at h z info 1 (szOf id) (by omega) (by omega)]
  have e : kdN id z info 1 = kdB id z info 1 := by simp [kdN]
  rw [e]
  exact extract_self _ _ (dg_sz h _)
theorem kd_blk {id : Nat} (h : isId id) (z info : ByteArray) (i : Nat) (hi : i < 64) : (kd id z info (szOf id * (i + 1))).extract (szOf id * i) (szOf id * (i + 1)) = kdB id z info (i + 1) := by
  rw [← kd_at h z info (i + 1) (szOf id * (i + 1)) (by rw [Nat.mul_comm]; exact Nat.le_refl _) (by omega)]
  rw [extract_self _ _ (by rw [kdN_size h, Nat.mul_comm]), kdN]
  apply ByteArray.extract_append_eq_right
  · rw [kdN_size h, Nat.mul_comm]
  · rw [kdN_size h, kdB, dg_sz h, Nat.mul_comm]; rw [Nat.add_mul]; omega
theorem kd_cut (id : Nat) (z info z2 info2 : ByteArray) (h : z ++ info = z2 ++ info2) (size : Nat) : kd id z info size = kd id z2 info2 size := by
  have e : ∀ n, kdN id z info n = kdN id z2 info2 n := by
    intro n
    induction n with
    | zero => rfl
    | succ n ih =>
      unfold kdN kdB
      rw [ih, ByteArray.append_assoc, ByteArray.append_assoc, h]
  unfold kd
  rw [e]
theorem and_nat (c : Int) (m : Nat) (hm : m < 4611686018427387904) : ∃ k : Nat, bits BinOp.and IntKind.i64 c (m : Int) = (k : Int) ∧ k ≤ m := by
  have h : ((BitVec.ofInt 64 c) &&& (BitVec.ofInt 64 (m : Int))).toNat ≤ m := by
    rw [BitVec.toNat_and, BitVec.ofInt_natCast]
    refine Nat.le_trans Nat.and_le_right ?_
    rw [BitVec.toNat_ofNat]
    exact Nat.mod_le _ _
  refine ⟨((BitVec.ofInt 64 c) &&& (BitVec.ofInt 64 (m : Int))).toNat, ?_, h⟩
  show IntKind.i64.wrap (((BitVec.ofInt 64 c) &&& (BitVec.ofInt 64 (m : Int))).toNat : Int) = _
  exact IntWalk.i64_in _ (by omega)
theorem and511 (c : Int) : ∃ k : Nat, bits BinOp.and IntKind.i64 c 511 = (k : Int) ∧ k ≤ 511 := and_nat c 511 (by decide)
theorem andb255 (c : Int) : ∃ k : Nat, bits BinOp.and IntKind.i64 c 255 = (k : Int) ∧ k ≤ 255 := and_nat c 255 (by decide)
theorem and127 (c : Int) : ∃ k : Nat, bits BinOp.and IntKind.i64 c 127 = (k : Int) ∧ k ≤ 127 := and_nat c 127 (by decide)
theorem and15 (c : Int) : ∃ k : Nat, bits BinOp.and IntKind.i64 c 15 = (k : Int) ∧ k ≤ 15 := and_nat c 15 (by decide)
theorem and7 (c : Int) : ∃ k : Nat, bits BinOp.and IntKind.i64 c 7 = (k : Int) ∧ k ≤ 7 := and_nat c 7 (by decide)
theorem conv4i (w : World) (n : Nat) (h : n < 200) : (convert 33 9 (.slice (some ⟨w.heap.size, 0, none⟩) 4 4)).run Try.prog (w.alloc (.cells #[.int .u8 0, .int .u8 0, .int .u8 0, .int .u8 (n : Int)] 5)) = .ok (.string (num4 n)) (w.alloc (.cells #[.int .u8 0, .int .u8 0, .int .u8 0, .int .u8 (n : Int)] 5)) := by
  have e : v8 (UInt8.ofNat n) = .int .u8 (n : Int) := by
    unfold v8
    rw [UInt8.toNat_ofNat', Nat.mod_eq_of_lt (by omega)]
  exact run_convert_rd (Rd.row [0, 0, 0, UInt8.ofNat n] 4 rfl (fun _ => True) trivial (new1 w _) (by simp only [List.map_cons, List.map_nil, e]; rfl)) 33 9 5 Try.underlying33 Try.underlying5 Try.underlying9
theorem blk_facts (s n : Nat) (h : s ≤ 64) (hn : n ≤ 7) : ∃ i M M2 : Nat, 1 + (n : Int) = (i : Int) ∧ wrap64 (i : Int) = (i : Int) ∧ (i : Int) - 1 = (n : Int) ∧ wrap64 (n : Int) = (n : Int) ∧ wrap64 ((s : Int) * (i : Int)) = (M : Int) ∧ wrap64 ((s : Int) * (n : Int)) = (M2 : Int) ∧
     M2 ≤ M ∧ M ≤ 1024 ∧ i = n + 1 ∧ M = s * (n + 1) ∧ M2 = s * n ∧ i < 200 := by
  have a1 : s * (n + 1) ≤ 64 * 8 := Nat.mul_le_mul h (by omega)
  have a2 : s * n ≤ s * (n + 1) := Nat.mul_le_mul_left _ (by omega)
  have w1 : wrap64 ((n + 1 : Nat) : Int) = ((n + 1 : Nat) : Int) := IntWalk.wrap64_in _ (by omega)
  have w2 : wrap64 (n : Int) = (n : Int) := IntWalk.wrap64_in _ (by omega)
  have c1 : (s : Int) * ((n + 1 : Nat) : Int) = ((s * (n + 1) : Nat) : Int) := (Int.natCast_mul _ _).symm
  have c2 : (s : Int) * (n : Int) = ((s * n : Nat) : Int) := (Int.natCast_mul _ _).symm
  obtain ⟨M, hM⟩ : ∃ M, M = s * (n + 1) := ⟨_, rfl⟩
  obtain ⟨M2, hM2⟩ : ∃ M2, M2 = s * n := ⟨_, rfl⟩
  rw [← hM] at a1 a2 c1
  rw [← hM2] at a2 c2
  refine ⟨n + 1, M, M2, by omega, w1, by omega, w2, ?_, ?_, a2, ?_, rfl, hM, hM2, by omega⟩
  · rw [c1]; clear c1 c2 hM hM2; exact IntWalk.wrap64_in _ (by omega)
  · rw [c2]; clear c1 c2 hM hM2; exact IntWalk.wrap64_in _ (by omega)
  · clear c1 c2 hM hM2; omega
theorem cat4_size (i : Nat) (z info : ByteArray) (h : z.size + info.size ≤ 281474976702464) : (num4 i ++ z ++ info : ByteArray).size ≤ 281474976710656 := by
  simp only [ByteArray.size_append]; rw [num4_size]; omega
theorem kdf_zero (id : Nat) (z info : ByteArray) (w : World) (hi : isId id) (hs : z.size + info.size ≤ 281474976702464) :
    Calls Try.prog 7 #[.int .i64 id, .string z, .string info, .int .i64 0] w fun e w' => e = .returned (.tuple #[.string ⟨#[]⟩, .int .i64 0]) ∧ Below w.heap.size w w' := by
  have h := kdf_yes id z info 0 w hi (by decide) hs
  have gk : kd id z info 0 = ⟨#[]⟩ := by
    have e : kd id z info 0 = ByteArray.empty := by unfold kd; simp
    exact e
  rw [gk] at h
  exact h
theorem kdf_minus (id : Nat) (z info : ByteArray) (w : World) (hi : isId id) :
    Calls Try.prog 7 #[.int .i64 id, .string z, .string info, .int .i64 (-1)] w fun e w' => e = .returned (.tuple #[.string ByteArray.empty, .int .i64 1201]) ∧ Below w.heap.size w w' := kdf_long id z info (-1) w hi (by decide)
end Go.Proofs.Ytkkfpgkogggfdaa.Cw
