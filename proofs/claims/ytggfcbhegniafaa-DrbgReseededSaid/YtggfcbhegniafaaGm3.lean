/-
  'make([]byte, n)' and 'string(..)' of it: so many noughts; small numbers behind a mask. Condition: n is at most a thousand.
  Plain facts on what a generator gives: a longer request begins as a shorter one; when entropy may be. No condition but what each says.
-/
import Derived.Test.YtggfcbhegniafaaGm2
import Derived.Test.YtggfcbhegniafaaPad
set_option linter.unusedSimpArgs false
set_option linter.unusedVariables false
namespace Go.Proofs.Ytggfcbhegniafaa.Cw
open Go Go.RowKit
section
variable {ops : Array Oper} {rest : List Oper} {o : Oper} {a : Act} {w : World} {Q : Exit → Act → World → Prop}
theorem wpList_make_noughts (hg : o.guard = none) (l c : Operand) (hop : o.op = Op.makeSlice 32 l c) (n : Nat) (hl : a.eval l = .int .i64 (n : Int)) (hc : a.eval c = .int .i64 (n : Int)) (hn : n ≤ 1099511627776)
    (hK : ∀ w', Below w.heap.size w w' → (convert 32 9 (.slice (some ⟨w.heap.size, 0, none⟩) n n)).run Try.prog w' = .ok (.string (noughts n)) w' → wpList Try.prog ops Q rest (a.put o.dst (.slice (some ⟨w.heap.size, 0, none⟩) n n)) w') :
    wpList Try.prog ops Q (o :: rest) a w := by
  obtain ⟨i0, hi, hz0, hz1, hz2⟩ := info_parts info_u8
  refine wpList_make_bytes hg l c 32 hop w.heap.size 5 i0 Try.underlying32 hi hz0 hz1 hz2 .i64 .i64 (n : Int) (n : Int) n hl hc rfl rfl (by omega) (Nat.le_refl _) ?_
  intro wm how hgm
  refine hK wm ((Below.refl _ _).grown hgm (Nat.le_refl _) (fun k hk => by cases hk)) ?_
  exact run_convert_rd (P := Try.prog) (how.rd (fun _ => True) (fun _ _ => trivial)) 32 9 5 Try.underlying32 Try.underlying5 Try.underlying9
end
theorem and15 (c : Int) : ∃ k : Nat, bits BinOp.and IntKind.i64 c 15 = (k : Int) ∧ k ≤ 15 := by
  have h : ((BitVec.ofInt 64 c) &&& (BitVec.ofInt 64 15)).toNat < 16 := by
    rw [BitVec.toNat_and]
    exact Nat.lt_of_le_of_lt Nat.and_le_right (by decide)
  refine ⟨((BitVec.ofInt 64 c) &&& (BitVec.ofInt 64 15)).toNat, ?_, by omega⟩
  show IntKind.i64.wrap (((BitVec.ofInt 64 c) &&& (BitVec.ofInt 64 15)).toNat : Int) = _
  exact IntWalk.i64_in _ (by omega)
theorem and127 (c : Int) : ∃ k : Nat, bits BinOp.and IntKind.i64 c 127 = (k : Int) ∧ k ≤ 127 := by
  have h : ((BitVec.ofInt 64 c) &&& (BitVec.ofInt 64 127)).toNat < 128 := by
    rw [BitVec.toNat_and]
    exact Nat.lt_of_le_of_lt Nat.and_le_right (by decide)
  refine ⟨((BitVec.ofInt 64 c) &&& (BitVec.ofInt 64 127)).toNat, ?_, by omega⟩
  show IntKind.i64.wrap (((BitVec.ofInt 64 c) &&& (BitVec.ofInt 64 127)).toNat : Int) = _
  exact IntWalk.i64_in _ (by omega)
theorem and511 (c : Int) : ∃ k : Nat, bits BinOp.and IntKind.i64 c 511 = (k : Int) ∧ k ≤ 511 := by
  have h : ((BitVec.ofInt 64 c) &&& (BitVec.ofInt 64 511)).toNat < 512 := by
    rw [BitVec.toNat_and]
    exact Nat.lt_of_le_of_lt Nat.and_le_right (by decide)
  refine ⟨((BitVec.ofInt 64 c) &&& (BitVec.ofInt 64 511)).toNat, ?_, by omega⟩
  show IntKind.i64.wrap (((BitVec.ofInt 64 c) &&& (BitVec.ofInt 64 511)).toNat : Int) = _
  exact IntWalk.i64_in _ (by omega)
theorem and7 (c : Int) : ∃ k : Nat, bits BinOp.and IntKind.i64 c 7 = (k : Int) ∧ k ≤ 7 := by
  have h : ((BitVec.ofInt 64 c) &&& (BitVec.ofInt 64 7)).toNat < 8 := by
    rw [BitVec.toNat_and]
    exact Nat.lt_of_le_of_lt Nat.and_le_right (by decide)
  refine ⟨((BitVec.ofInt 64 c) &&& (BitVec.ofInt 64 7)).toNat, ?_, by omega⟩
  show IntKind.i64.wrap (((BitVec.ofInt 64 c) &&& (BitVec.ofInt 64 7)).toNat : Int) = _
  exact IntWalk.i64_in _ (by omega)
/-- so many noughts, as cells -/
def nulls (n : Nat) : Array Value := fa v8 n fun _ => 0
theorem run_make_nulls (n : Nat) (hn : n ≤ 1000) (w : World) : (Instr.makeSlice 32 (.int .i64 (n : Int)) (.int .i64 (n : Int))).run Try.prog w = .ok (.slice (some ⟨w.heap.size, 0, none⟩) n n) (w.alloc (.cells (nulls n) 5)) := by
  obtain ⟨i0, hi, hz0, hz1, hz2⟩ := info_parts info_u8
  have h := run_make w 32 5 i0 (.int .u8 0) Try.underlying32 hi hz0 .i64 .i64 (n : Int) (n : Int) (by omega) (Int.le_refl _) (by rw [hz2]; omega) (by omega)
  rw [Int.toNat_natCast, hz1] at h
  have e : madeCells (Value.int .u8 0).cells (n * 1) = nulls n := by
    apply Array.ext
    · simp [madeCells, nulls, fa_size]
    · intro i h1 h2
      simp [madeCells, nulls, fa, Value.cells, v8, Nat.mod_one]
  rw [e] at h
  exact h
theorem Ow.nulls {w : World} {B g n : Nat} (hn : n ≤ 1000) (hB : B ≤ g) (h : w.heap[g]? = some (.cells (nulls n) 5 (0, 0))) : Ow w B 5 1 (.slice (some ⟨g, 0, none⟩) n n) n ((List.replicate n (0 : UInt8)).map v8) := by
  refine ⟨by simp, .inr ⟨g, n, _, (0, 0), rfl, hB, h, .inl rfl, Nat.le_refl _, by simp only [maxLen]; omega, by simp [Cw.nulls, fa_size], ?_⟩⟩
  rw [Cw.nulls, fa_list, Nat.mul_one, List.take_of_length_le (by simp)]
  refine List.ext_getElem (by simp) fun i h1 h2 => by simp
theorem convert_nulls (k : Nat) (g : Nat) (W : World) (hk : k ≤ 1000) (h : W.heap[g]? = some (.cells (nulls k) 5 (0, 0))) : (convert 32 9 (.slice (some ⟨g, 0, none⟩) k k)).run Try.prog W = .ok (.string (noughts k)) W := by
  have hda := (Ow.nulls (B := 0) hk (Nat.zero_le _) h).rd (fun _ => True) (fun g hg => trivial)
  have e := run_convert_rd (P := Try.prog) hda 32 9 5 Try.underlying32 Try.underlying5 Try.underlying9
  exact e
end Go.Proofs.Ytggfcbhegniafaa.Cw

set_option linter.unusedSimpArgs false
set_option linter.unusedVariables false
namespace Go.Proofs.Ytggfcbhegniafaa.Cw
open Go Go.RowKit
theorem oN_add (id : Nat) (kv : ByteArray × ByteArray) (a : Nat) : ∀ b, ∃ r, oN id kv (a + b) = oN id kv a ++ r
  | 0 => ⟨ByteArray.empty, by simp⟩
  | b + 1 => by
    obtain ⟨r, hr⟩ := oN_add id kv a b
    exact ⟨r ++ vN id kv (a + b + 1), by rw [show a + (b + 1) = a + b + 1 from rfl, oN, hr, ByteArray.append_assoc]⟩
theorem nbl_mono {id : Nat} {a b : Nat} (h : a ≤ b) : nbl id a ≤ nbl id b := Nat.div_le_div_right (by omega)
theorem nbl_le (id size : Nat) : size ≤ nbl id size * szOf id := by
  have hs := szOf_pos id
  unfold nbl
  have h1 := Nat.div_add_mod (size + szOf id - 1) (szOf id)
  have h2 := Nat.mod_lt (size + szOf id - 1) (show 0 < szOf id by omega)
  rw [Nat.mul_comm] at h1
  omega
theorem genO_pre {id : Nat} (hi : isId id) (kv : ByteArray × ByteArray) (k m : Nat) (t : ByteArray) (h : k ≤ m) : (genO id kv m t).extract 0 k = genO id kv k t := by
  unfold genO
  obtain ⟨kv', hkv⟩ : ∃ kv', kv' = pre id t kv := ⟨_, rfl⟩
  rw [← hkv]
  obtain ⟨r, hr⟩ := oN_add id kv' (nbl id k) (nbl id m - nbl id k)
  rw [Nat.add_sub_cancel' (nbl_mono h)] at hr
  have h1 := nbl_le id k
  have h2 := oN_size hi kv' (nbl id k)
  rw [hr, ByteArray.extract_extract]
  apply ByteArray.ext
  rw [ByteArray.data_extract, ByteArray.data_extract, ByteArray.data_append]
  have h3 : (oN id kv' (nbl id k)).data.size = nbl id k * szOf id := h2
  rw [Array.extract_append, h3]
  have e : min (0 + k) m = k := by omega
  simp only [Nat.add_zero, e]
  rw [show k - nbl id k * szOf id = 0 by omega]
  simp
theorem szOf_le (id : Nat) (hi : isId id) : 28 ≤ szOf id ∧ szOf id ≤ 64 := by
  obtain ⟨h1, h2⟩ := hi
  rcases (show id = 1 ∨ id = 2 ∨ id = 3 ∨ id = 4 by omega) with rfl | rfl | rfl | rfl <;> decide
theorem may2_ok {id : Nat} (hi : isId id) {S a b : ByteArray} (h1 : 32 ≤ S.size) (h2 : S.size ≤ 256) (h3 : a.size ≤ 256) (h4 : b.size ≤ 256) : mayB id S [a, b] = true := by
  have := szOf_le id hi
  simp [mayB]
  omega
theorem may1_ok {id : Nat} (hi : isId id) {S a : ByteArray} (h1 : 32 ≤ S.size) (h2 : S.size ≤ 256) (h3 : a.size ≤ 256) : mayB id S [a] = true := by
  have := szOf_le id hi
  simp [mayB]
  omega
theorem genO_zero {id : Nat} (hi : isId id) (kv : ByteArray × ByteArray) (t : ByteArray) : genO id kv 0 t = ByteArray.empty := by
  apply ByteArray.ext
  have : (genO id kv 0 t).size = 0 := genO_size hi kv 0 t
  exact Array.eq_empty_of_size_eq_zero this
/-- at most a hundred bytes of a text -/
def shortS (s : ByteArray) : ByteArray := if 100 < s.size then s.extract 0 100 else s
theorem shortS_size (s : ByteArray) : (shortS s).size ≤ 100 := by
  unfold shortS
  split
  · rw [ByteArray.size_extract]; omega
  · omega
theorem short_calls (s : ByteArray) (w : World) (hs : s.size ≤ 140737488351232) : Calls Try.prog 17 #[.string s] w fun e w' => e = .returned (.string (shortS s)) ∧ w = w' := by
  go_enter Try.func17, Try.ntmps17
  by_cases h : 100 < s.size
  · have e : shortS s = s.extract 0 100 := if_pos h
    go_wp2; go_ret; exact ⟨by rw [e]; rfl, rfl⟩
  · have e : shortS s = s := if_neg h
    go_wp2; go_ret; exact ⟨by rw [e]; rfl, rfl⟩
theorem dgen_zero (d id : Nat) (kv : ByteArray × ByteArray) (n : Int) (w : World) (hi : isId id) (hf : fit id kv) (hn0 : 0 ≤ n) (hn : n ≤ 64) (hd : DrbgAt w d id kv n) :
    Calls Try.prog 14 #[.pointer (some ⟨d, 0, none⟩), .int .i64 0, .string ⟨#[]⟩] w fun e w' => e = .returned (.tuple #[.string ⟨#[]⟩, .int .i64 0]) ∧ DrbgAt w' d id (genK id kv 0 ⟨#[]⟩) (n + 1) ∧ But d w w' :=
  (dgen_ok d id kv n 0 0 ⟨#[]⟩ w hi hf rfl (by decide) (by decide) hn0 hn hd).mono fun e w' ⟨h1, h2, h3⟩ => ⟨by rw [h1, genO_zero hi]; rfl, h2, h3⟩
theorem mayB_none {id : Nat} (hi : isId id) (zs : List ByteArray) : mayB id ⟨#[]⟩ zs = false := by
  have := szOf_le id hi
  have e : (⟨#[]⟩ : ByteArray).size = 0 := rfl
  unfold mayB
  rw [e, decide_eq_false (by omega), Bool.false_and]
end Go.Proofs.Ytggfcbhegniafaa.Cw
