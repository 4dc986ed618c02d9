/-
  'string(make([]byte, n))': so many noughts; and what noughts do to a key. Condition: n is at most 2^40.
-/
import Derived.Test.YtbgbfigndelogaaAwake10
set_option linter.unusedSimpArgs false
set_option linter.unusedVariables false
namespace Go.Proofs.Ytbgbfigndelogaa.Cw
open Go Go.RowKit
section
variable {ops : Array Oper} {rest : List Oper} {o : Oper} {a : Act} {w : World} {Q : Exit → Act → World → Prop}
theorem wpList_make_noughts (hg : o.guard = none) (l c : Operand) (hop : o.op = Op.makeSlice 35 l c) (n : Nat) (hl : a.eval l = .int .i64 (n : Int)) (hc : a.eval c = .int .i64 (n : Int)) (hn : n ≤ 1099511627776)
    (hK : ∀ w', Below w.heap.size w w' → (convert 35 9 (.slice (some ⟨w.heap.size, 0, none⟩) n n)).run Try.prog w' = .ok (.string (noughts n)) w' → wpList Try.prog ops Q rest (a.put o.dst (.slice (some ⟨w.heap.size, 0, none⟩) n n)) w') :
    wpList Try.prog ops Q (o :: rest) a w := by
  obtain ⟨i0, hi, hz0, hz1, hz2⟩ := info_parts info_u8
  refine wpList_make_bytes hg l c 35 hop w.heap.size 5 i0 Try.underlying35 hi hz0 hz1 hz2 .i64 .i64 (n : Int) (n : Int) n hl hc rfl rfl (by omega) (Nat.le_refl _) ?_
  intro wm how hgm
  refine hK wm ((Below.refl _ _).grown hgm (Nat.le_refl _) (fun k hk => by cases hk)) ?_
  exact run_convert_rd (P := Try.prog) (how.rd (fun _ => True) (fun _ _ => trivial)) 35 9 5 Try.underlying35 Try.underlying5 Try.underlying9
end
theorem noughts_add (a b : Nat) : noughts a ++ noughts b = noughts (a + b) := by
  apply ByteArray.ext
  rw [ByteArray.data_append]
  show (List.replicate a (0 : UInt8)).toArray ++ (List.replicate b (0 : UInt8)).toArray = (List.replicate (a + b) (0 : UInt8)).toArray
  rw [← List.replicate_append_replicate]
  simp
theorem hm_noughts {id : Nat} (hi : isId id) (key msg : ByteArray) (j : Nat) (h : key.size + j ≤ blockOf id) : hm id (key ++ noughts j) msg = hm id key msg := by
  have e : kp id (key ++ noughts j) = kp id key := by
    unfold kp
    have h1 : (key ++ noughts j).size = key.size + j := by rw [ByteArray.size_append, noughts_size]
    rw [h1, if_neg (by omega), if_neg (by omega), ByteArray.append_assoc, noughts_add, show j + (blockOf id - (key.size + j)) = blockOf id - key.size by omega]
  unfold hm ipad opad
  rw [e]
theorem hm_long {id : Nat} (hi : isId id) (key msg : ByteArray) (h : blockOf id < key.size) : hm id key msg = hm id (dg id key) msg := by
  have hb := blk_lt hi
  have e : kp id (dg id key) = kp id key := by
    unfold kp
    rw [dg_sz hi, if_neg (by omega), if_pos h]
  unfold hm ipad opad
  rw [e]
theorem and15 (c : Int) : ∃ k : Nat, bits BinOp.and IntKind.i64 c 15 = (k : Int) ∧ k ≤ 15 := by
  have h : ((BitVec.ofInt 64 c) &&& (BitVec.ofInt 64 15)).toNat < 16 := by
    rw [BitVec.toNat_and]
    exact Nat.lt_of_le_of_lt Nat.and_le_right (by decide)
  refine ⟨((BitVec.ofInt 64 c) &&& (BitVec.ofInt 64 15)).toNat, ?_, by omega⟩
  show IntKind.i64.wrap (((BitVec.ofInt 64 c) &&& (BitVec.ofInt 64 15)).toNat : Int) = _
  exact IntWalk.i64_in _ (by omega)
end Go.Proofs.Ytbgbfigndelogaa.Cw
