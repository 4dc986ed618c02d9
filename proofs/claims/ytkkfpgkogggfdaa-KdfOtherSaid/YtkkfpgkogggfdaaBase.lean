/-
  What these proofs say of words, of arrays of words and of blocks of memory, whatever the program: values of words, operations on them, a block that is known whole. No condition.
-/
import Derived.WalkKit
import Derived.WalkLawsBesides
import Derived.WalkSpells
import Derived.Lib.Hide
namespace Go.Proofs.Ytkkfpgkogggfdaa.Cw
open Go Go.RowKit

section u8
/-- a word of 8 bits as a value -/
def v8 (x : UInt8) : Value := .int .u8 (x.toNat : Int)
theorem wrap8_nat (n : Nat) (h : n < 256) : IntKind.u8.wrap (n : Int) = n := by
  simp only [IntKind.wrap, IntKind.bits, IntKind.signed]; simp; omega
theorem wrap8_any (n : Nat) : IntKind.u8.wrap (n : Int) = ((n % 256 : Nat) : Int) := by
  simp only [IntKind.wrap, IntKind.bits, IntKind.signed]; simp
variable (t : TypeId) (x y : UInt8)
theorem bits8 (f : BitVec 8) (g : UInt8) (h : f.toNat = g.toNat) : (pure (.int .u8 (IntKind.u8.wrap f.toNat)) : Sem Value) = pure (v8 g) := by
  rw [h, wrap8_nat _ g.toNat_lt]; rfl
theorem bin_xor8 : binOp .xor t (v8 x) (v8 y) = pure (v8 (x ^^^ y)) := by
  refine bits8 _ _ ?_
  show (BitVec.ofInt 8 (x.toNat : Int) ^^^ BitVec.ofInt 8 (y.toNat : Int)).toNat = _
  rw [BitVec.ofInt_natCast, BitVec.ofInt_natCast]; simp
theorem bin_and8 : binOp .and t (v8 x) (v8 y) = pure (v8 (x &&& y)) := by
  refine bits8 _ _ ?_
  show (BitVec.ofInt 8 (x.toNat : Int) &&& BitVec.ofInt 8 (y.toNat : Int)).toNat = _
  rw [BitVec.ofInt_natCast, BitVec.ofInt_natCast]; simp
theorem bin_or8 : binOp .or t (v8 x) (v8 y) = pure (v8 (x ||| y)) := by
  refine bits8 _ _ ?_
  show (BitVec.ofInt 8 (x.toNat : Int) ||| BitVec.ofInt 8 (y.toNat : Int)).toNat = _
  rw [BitVec.ofInt_natCast, BitVec.ofInt_natCast]; simp
theorem bin_add8 : binOp .add t (v8 x) (v8 y) = pure (v8 (x + y)) := by
  show (pure (.int .u8 (IntKind.u8.wrap ((x.toNat : Int) + y.toNat))) : Sem Value) = _
  have h : IntKind.u8.wrap ((x.toNat : Int) + y.toNat) = ((x + y).toNat : Int) := by
    simp only [IntKind.wrap, IntKind.bits, IntKind.signed, UInt8.toNat_add]; simp
  rw [h]; rfl
theorem bin_shr8 (k : IntKind) (c : Int) : binOp .shr t (v8 x) (.int k c) = if 0 ≤ c ∧ c < 8 then pure (v8 (x >>> UInt8.ofNat c.toNat)) else Op.shift .shr .u8 x.toNat k c := by
  split
  · rename_i h
    obtain ⟨m, rfl⟩ := Int.eq_ofNat_of_zero_le h.1
    have hm : m < 8 := by omega
    show Op.shift .shr .u8 (x.toNat : Int) k (m : Int) = _
    unfold Op.shift
    rw [if_neg (by omega)]
    have e : min (m : Int).toNat IntKind.u8.bits = m := by show min m 8 = m; omega
    simp only [e]
    have h2 : (x.toNat : Int).fdiv (2 ^ m) = ((x >>> UInt8.ofNat (m : Int).toNat).toNat : Int) := by
      rw [Int.toNat_natCast, UInt8.toNat_shiftRight, UInt8.toNat_ofNat', Nat.mod_mod_of_dvd _ (by decide), Nat.mod_eq_of_lt hm, Nat.shiftRight_eq_div_pow]
      rw [Int.fdiv_eq_ediv_of_nonneg _ (Int.le_of_lt (Int.pow_pos (by decide)))]
      simp
    rw [h2]; rfl
  · cases k <;> rfl
theorem bin_shl8 (k : IntKind) (c : Int) : binOp .shl t (v8 x) (.int k c) = if 0 ≤ c ∧ c < 8 then pure (v8 (x <<< UInt8.ofNat c.toNat)) else Op.shift .shl .u8 x.toNat k c := by
  split
  · rename_i h
    obtain ⟨m, rfl⟩ := Int.eq_ofNat_of_zero_le h.1
    have hm : m < 8 := by omega
    show Op.shift .shl .u8 (x.toNat : Int) k (m : Int) = _
    unfold Op.shift
    rw [if_neg (by omega)]
    have e : min (m : Int).toNat IntKind.u8.bits = m := by show min m 8 = m; omega
    simp only [e]
    have h2 : IntKind.u8.wrap ((x.toNat : Int) * 2 ^ m) = ((x <<< UInt8.ofNat (m : Int).toNat).toNat : Int) := by
      rw [Int.toNat_natCast, UInt8.toNat_shiftLeft, UInt8.toNat_ofNat', Nat.mod_mod_of_dvd _ (by decide), Nat.mod_eq_of_lt hm, Nat.shiftLeft_eq]
      simp only [IntKind.wrap, IntKind.bits, IntKind.signed]; simp
    rw [h2]; rfl
  · cases k <;> rfl
theorem un_xor8 : Op.unary .xor (v8 x) = pure (v8 (~~~ x)) := by
  refine bits8 _ _ ?_
  show (BitVec.ofInt 8 (IntKind.u8.max) ^^^ BitVec.ofInt 8 (x.toNat : Int)).toNat = _
  rw [BitVec.ofInt_natCast, show IntKind.u8.max = ((255 : Nat) : Int) from by decide, BitVec.ofInt_natCast, show BitVec.ofNat 8 255 = BitVec.allOnes 8 from by decide, BitVec.allOnes_xor]
  simp
theorem cells_v8 : (v8 x).cells = #[v8 x] := rfl
theorem match_v8 : Value.cells.match_1 (fun _ => Array Value) (v8 x) (fun cs => cs) (fun v => #[v]) = #[v8 x] := rfl
theorem run_store_v8 (P : Program) (w : World) (a : Addr) (m : Mode) : (store a (v8 x) m).run P w = stored P w a (v8 x) m := run_store P w a _ m rfl
theorem one_v8 : (v8 x).oneCell' = true := rfl
theorem v8_inj (h : v8 x = v8 y) : x = y := by
  unfold v8 at h
  injection h with _ h
  exact UInt8.toNat_inj.1 (by omega)
theorem cmp_eq8 : binOp .eql t (v8 x) (v8 y) = pure (.bool (x == y)) := by
  show (pure (.bool ((x.toNat : Int) == (y.toNat : Int))) : Sem Value) = _
  congr 2
  rw [Bool.eq_iff_iff, beq_iff_eq, beq_iff_eq, ← UInt8.toNat_inj]; omega
theorem guard_v8 (op : BinOp) (a b : Operand) (u : Value) : eqGuard op t a b (v8 x) u = pure () := eqGuard_at_int op t a b u .u8 _
end u8

section u32
/-- a word of 32 bits as a value -/
def v32 (x : UInt32) : Value := .int .u32 (x.toNat : Int)
theorem wrap32_nat (n : Nat) (h : n < 4294967296) : IntKind.u32.wrap (n : Int) = n := by
  simp only [IntKind.wrap, IntKind.bits, IntKind.signed]; simp; omega
theorem wrap32_any (n : Nat) : IntKind.u32.wrap (n : Int) = ((n % 4294967296 : Nat) : Int) := by
  simp only [IntKind.wrap, IntKind.bits, IntKind.signed]; simp
variable (t : TypeId) (x y : UInt32)
theorem bits32 (f : BitVec 32) (g : UInt32) (h : f.toNat = g.toNat) : (pure (.int .u32 (IntKind.u32.wrap f.toNat)) : Sem Value) = pure (v32 g) := by
  rw [h, wrap32_nat _ g.toNat_lt]; rfl
theorem bin_xor32 : binOp .xor t (v32 x) (v32 y) = pure (v32 (x ^^^ y)) := by
  refine bits32 _ _ ?_
  show (BitVec.ofInt 32 (x.toNat : Int) ^^^ BitVec.ofInt 32 (y.toNat : Int)).toNat = _
  rw [BitVec.ofInt_natCast, BitVec.ofInt_natCast]; simp
theorem bin_and32 : binOp .and t (v32 x) (v32 y) = pure (v32 (x &&& y)) := by
  refine bits32 _ _ ?_
  show (BitVec.ofInt 32 (x.toNat : Int) &&& BitVec.ofInt 32 (y.toNat : Int)).toNat = _
  rw [BitVec.ofInt_natCast, BitVec.ofInt_natCast]; simp
theorem bin_or32 : binOp .or t (v32 x) (v32 y) = pure (v32 (x ||| y)) := by
  refine bits32 _ _ ?_
  show (BitVec.ofInt 32 (x.toNat : Int) ||| BitVec.ofInt 32 (y.toNat : Int)).toNat = _
  rw [BitVec.ofInt_natCast, BitVec.ofInt_natCast]; simp
theorem bin_add32 : binOp .add t (v32 x) (v32 y) = pure (v32 (x + y)) := by
  show (pure (.int .u32 (IntKind.u32.wrap ((x.toNat : Int) + y.toNat))) : Sem Value) = _
  have h : IntKind.u32.wrap ((x.toNat : Int) + y.toNat) = ((x + y).toNat : Int) := by
    simp only [IntKind.wrap, IntKind.bits, IntKind.signed, UInt32.toNat_add]; simp
  rw [h]; rfl
theorem bin_shr32 (k : IntKind) (c : Int) : binOp .shr t (v32 x) (.int k c) = if 0 ≤ c ∧ c < 32 then pure (v32 (x >>> UInt32.ofNat c.toNat)) else Op.shift .shr .u32 x.toNat k c := by
  split
  · rename_i h
    obtain ⟨m, rfl⟩ := Int.eq_ofNat_of_zero_le h.1
    have hm : m < 32 := by omega
    show Op.shift .shr .u32 (x.toNat : Int) k (m : Int) = _
    unfold Op.shift
    rw [if_neg (by omega)]
    have e : min (m : Int).toNat IntKind.u32.bits = m := by show min m 32 = m; omega
    simp only [e]
    have h2 : (x.toNat : Int).fdiv (2 ^ m) = ((x >>> UInt32.ofNat (m : Int).toNat).toNat : Int) := by
      rw [Int.toNat_natCast, UInt32.toNat_shiftRight, UInt32.toNat_ofNat', Nat.mod_mod_of_dvd _ (by decide), Nat.mod_eq_of_lt hm, Nat.shiftRight_eq_div_pow]
      rw [Int.fdiv_eq_ediv_of_nonneg _ (Int.le_of_lt (Int.pow_pos (by decide)))]
      simp
    rw [h2]; rfl
  · cases k <;> rfl
theorem bin_shl32 (k : IntKind) (c : Int) : binOp .shl t (v32 x) (.int k c) = if 0 ≤ c ∧ c < 32 then pure (v32 (x <<< UInt32.ofNat c.toNat)) else Op.shift .shl .u32 x.toNat k c := by
  split
  · rename_i h
    obtain ⟨m, rfl⟩ := Int.eq_ofNat_of_zero_le h.1
    have hm : m < 32 := by omega
    show Op.shift .shl .u32 (x.toNat : Int) k (m : Int) = _
    unfold Op.shift
    rw [if_neg (by omega)]
    have e : min (m : Int).toNat IntKind.u32.bits = m := by show min m 32 = m; omega
    simp only [e]
    have h2 : IntKind.u32.wrap ((x.toNat : Int) * 2 ^ m) = ((x <<< UInt32.ofNat (m : Int).toNat).toNat : Int) := by
      rw [Int.toNat_natCast, UInt32.toNat_shiftLeft, UInt32.toNat_ofNat', Nat.mod_mod_of_dvd _ (by decide), Nat.mod_eq_of_lt hm, Nat.shiftLeft_eq]
      simp only [IntKind.wrap, IntKind.bits, IntKind.signed]; simp
    rw [h2]; rfl
  · cases k <;> rfl
theorem un_xor32 : Op.unary .xor (v32 x) = pure (v32 (~~~ x)) := by
  refine bits32 _ _ ?_
  show (BitVec.ofInt 32 (IntKind.u32.max) ^^^ BitVec.ofInt 32 (x.toNat : Int)).toNat = _
  rw [BitVec.ofInt_natCast, show IntKind.u32.max = ((4294967295 : Nat) : Int) from by decide, BitVec.ofInt_natCast, show BitVec.ofNat 32 4294967295 = BitVec.allOnes 32 from by decide, BitVec.allOnes_xor]
  simp
theorem cells_v32 : (v32 x).cells = #[v32 x] := rfl
theorem match_v32 : Value.cells.match_1 (fun _ => Array Value) (v32 x) (fun cs => cs) (fun v => #[v]) = #[v32 x] := rfl
theorem run_store_v32 (P : Program) (w : World) (a : Addr) (m : Mode) : (store a (v32 x) m).run P w = stored P w a (v32 x) m := run_store P w a _ m rfl
theorem one_v32 : (v32 x).oneCell' = true := rfl
theorem v32_inj (h : v32 x = v32 y) : x = y := by
  unfold v32 at h
  injection h with _ h
  exact UInt32.toNat_inj.1 (by omega)
theorem cmp_eq32 : binOp .eql t (v32 x) (v32 y) = pure (.bool (x == y)) := by
  show (pure (.bool ((x.toNat : Int) == (y.toNat : Int))) : Sem Value) = _
  congr 2
  rw [Bool.eq_iff_iff, beq_iff_eq, beq_iff_eq, ← UInt32.toNat_inj]; omega
theorem guard_v32 (op : BinOp) (a b : Operand) (u : Value) : eqGuard op t a b (v32 x) u = pure () := eqGuard_at_int op t a b u .u32 _
end u32

section u64
/-- a word of 64 bits as a value -/
def v64 (x : UInt64) : Value := .int .u64 (x.toNat : Int)
theorem wrap64_nat (n : Nat) (h : n < 18446744073709551616) : IntKind.u64.wrap (n : Int) = n := by
  simp only [IntKind.wrap, IntKind.bits, IntKind.signed]; simp; omega
theorem wrap64_any (n : Nat) : IntKind.u64.wrap (n : Int) = ((n % 18446744073709551616 : Nat) : Int) := by
  simp only [IntKind.wrap, IntKind.bits, IntKind.signed]; simp
variable (t : TypeId) (x y : UInt64)
theorem bits64 (f : BitVec 64) (g : UInt64) (h : f.toNat = g.toNat) : (pure (.int .u64 (IntKind.u64.wrap f.toNat)) : Sem Value) = pure (v64 g) := by
  rw [h, wrap64_nat _ g.toNat_lt]; rfl
theorem bin_xor64 : binOp .xor t (v64 x) (v64 y) = pure (v64 (x ^^^ y)) := by
  refine bits64 _ _ ?_
  show (BitVec.ofInt 64 (x.toNat : Int) ^^^ BitVec.ofInt 64 (y.toNat : Int)).toNat = _
  rw [BitVec.ofInt_natCast, BitVec.ofInt_natCast]; simp
theorem bin_and64 : binOp .and t (v64 x) (v64 y) = pure (v64 (x &&& y)) := by
  refine bits64 _ _ ?_
  show (BitVec.ofInt 64 (x.toNat : Int) &&& BitVec.ofInt 64 (y.toNat : Int)).toNat = _
  rw [BitVec.ofInt_natCast, BitVec.ofInt_natCast]; simp
theorem bin_or64 : binOp .or t (v64 x) (v64 y) = pure (v64 (x ||| y)) := by
  refine bits64 _ _ ?_
  show (BitVec.ofInt 64 (x.toNat : Int) ||| BitVec.ofInt 64 (y.toNat : Int)).toNat = _
  rw [BitVec.ofInt_natCast, BitVec.ofInt_natCast]; simp
theorem bin_add64 : binOp .add t (v64 x) (v64 y) = pure (v64 (x + y)) := by
  show (pure (.int .u64 (IntKind.u64.wrap ((x.toNat : Int) + y.toNat))) : Sem Value) = _
  have h : IntKind.u64.wrap ((x.toNat : Int) + y.toNat) = ((x + y).toNat : Int) := by
    simp only [IntKind.wrap, IntKind.bits, IntKind.signed, UInt64.toNat_add]; simp
  rw [h]; rfl
theorem bin_shr64 (k : IntKind) (c : Int) : binOp .shr t (v64 x) (.int k c) = if 0 ≤ c ∧ c < 64 then pure (v64 (x >>> UInt64.ofNat c.toNat)) else Op.shift .shr .u64 x.toNat k c := by
  split
  · rename_i h
    obtain ⟨m, rfl⟩ := Int.eq_ofNat_of_zero_le h.1
    have hm : m < 64 := by omega
    show Op.shift .shr .u64 (x.toNat : Int) k (m : Int) = _
    unfold Op.shift
    rw [if_neg (by omega)]
    have e : min (m : Int).toNat IntKind.u64.bits = m := by show min m 64 = m; omega
    simp only [e]
    have h2 : (x.toNat : Int).fdiv (2 ^ m) = ((x >>> UInt64.ofNat (m : Int).toNat).toNat : Int) := by
      rw [Int.toNat_natCast, UInt64.toNat_shiftRight, UInt64.toNat_ofNat', Nat.mod_mod_of_dvd _ (by decide), Nat.mod_eq_of_lt hm, Nat.shiftRight_eq_div_pow]
      rw [Int.fdiv_eq_ediv_of_nonneg _ (Int.le_of_lt (Int.pow_pos (by decide)))]
      simp
    rw [h2]; rfl
  · cases k <;> rfl
theorem bin_shl64 (k : IntKind) (c : Int) : binOp .shl t (v64 x) (.int k c) = if 0 ≤ c ∧ c < 64 then pure (v64 (x <<< UInt64.ofNat c.toNat)) else Op.shift .shl .u64 x.toNat k c := by
  split
  · rename_i h
    obtain ⟨m, rfl⟩ := Int.eq_ofNat_of_zero_le h.1
    have hm : m < 64 := by omega
    show Op.shift .shl .u64 (x.toNat : Int) k (m : Int) = _
    unfold Op.shift
    rw [if_neg (by omega)]
    have e : min (m : Int).toNat IntKind.u64.bits = m := by show min m 64 = m; omega
    simp only [e]
    have h2 : IntKind.u64.wrap ((x.toNat : Int) * 2 ^ m) = ((x <<< UInt64.ofNat (m : Int).toNat).toNat : Int) := by
      rw [Int.toNat_natCast, UInt64.toNat_shiftLeft, UInt64.toNat_ofNat', Nat.mod_mod_of_dvd _ (by decide), Nat.mod_eq_of_lt hm, Nat.shiftLeft_eq]
      simp only [IntKind.wrap, IntKind.bits, IntKind.signed]; simp
    rw [h2]; rfl
  · cases k <;> rfl
theorem un_xor64 : Op.unary .xor (v64 x) = pure (v64 (~~~ x)) := by
  refine bits64 _ _ ?_
  show (BitVec.ofInt 64 (IntKind.u64.max) ^^^ BitVec.ofInt 64 (x.toNat : Int)).toNat = _
  rw [BitVec.ofInt_natCast, show IntKind.u64.max = ((18446744073709551615 : Nat) : Int) from by decide, BitVec.ofInt_natCast, show BitVec.ofNat 64 18446744073709551615 = BitVec.allOnes 64 from by decide, BitVec.allOnes_xor]
  simp
theorem cells_v64 : (v64 x).cells = #[v64 x] := rfl
theorem match_v64 : Value.cells.match_1 (fun _ => Array Value) (v64 x) (fun cs => cs) (fun v => #[v]) = #[v64 x] := rfl
theorem run_store_v64 (P : Program) (w : World) (a : Addr) (m : Mode) : (store a (v64 x) m).run P w = stored P w a (v64 x) m := run_store P w a _ m rfl
theorem one_v64 : (v64 x).oneCell' = true := rfl
theorem v64_inj (h : v64 x = v64 y) : x = y := by
  unfold v64 at h
  injection h with _ h
  exact UInt64.toNat_inj.1 (by omega)
theorem cmp_eq64 : binOp .eql t (v64 x) (v64 y) = pure (.bool (x == y)) := by
  show (pure (.bool ((x.toNat : Int) == (y.toNat : Int))) : Sem Value) = _
  congr 2
  rw [Bool.eq_iff_iff, beq_iff_eq, beq_iff_eq, ← UInt64.toNat_inj]; omega
theorem guard_v64 (op : BinOp) (a b : Operand) (u : Value) : eqGuard op t a b (v64 x) u = pure () := eqGuard_at_int op t a b u .u64 _
end u64


section arrays
variable {α : Type}
/-- an array of n values, given by a function -/
def fa (v : α → Value) (n : Nat) (f : Nat → α) : Array Value := ((List.range n).map fun i => v (f i)).toArray
def upd (f : Nat → α) (i : Nat) (x : α) : Nat → α := fun j => if j = i then x else f j
theorem fa_size (v : α → Value) (n : Nat) (f : Nat → α) : (fa v n f).size = n := by simp [fa]
theorem fa_get (v : α → Value) (n : Nat) (f : Nat → α) (i : Nat) (h : i < n) : (fa v n f)[i]? = some (v (f i)) := by simp [fa, h]
theorem fa_out (v : α → Value) (n : Nat) (f : Nat → α) (i : Nat) (h : n ≤ i) : (fa v n f)[i]? = none := by simp [fa, h]
theorem fa_set (v : α → Value) (n : Nat) (f : Nat → α) (i : Nat) (x : α) : (fa v n f).setIfInBounds i (v x) = fa v n (upd f i x) := by
  apply Array.ext_getElem?
  intro j
  simp only [Array.getElem?_setIfInBounds]
  unfold fa upd
  simp only [List.getElem?_toArray, List.getElem?_map, List.size_toArray, List.length_map, List.length_range]
  by_cases h : i = j
  · subst h; by_cases h2 : i < n <;> simp [h2]
  · have h' : ¬ j = i := fun e => h e.symm
    rw [if_neg h]
    by_cases h2 : j < n <;> simp [h2, h']
theorem fa_ext (v : α → Value) (n : Nat) (f g : Nat → α) (h : ∀ i, i < n → f i = g i) : fa v n f = fa v n g := by
  unfold fa
  congr 1
  exact List.map_congr_left fun i hi => by rw [h i (List.mem_range.1 hi)]
theorem fa_list (v : α → Value) (n : Nat) (f : Nat → α) : (fa v n f).toList = (List.range n).map fun i => v (f i) := rfl
theorem upd_upd (f : Nat → α) (i : Nat) (x y : α) : upd (upd f i x) i y = upd f i y := by
  funext j; simp only [upd]; split <;> rfl
theorem upd_at (f : Nat → α) (i : Nat) (x : α) : upd f i x i = x := by simp [upd]
theorem upd_ne (f : Nat → α) (i j : Nat) (x : α) (h : j ≠ i) : upd f i x j = f j := by simp [upd, h]
theorem upd_same (f : Nat → α) (i : Nat) (x : α) (h : f i = x) : upd f i x = f := by
  funext j; simp only [upd]; split
  · rename_i e; rw [e, h]
  · rfl
end arrays

section heap
theorem new1 (w : World) (A : Obj) : (w.alloc A).heap[w.heap.size]? = some A := heap_alloc_new w A
theorem new2 (w : World) (A B : Obj) : ((w.alloc A).alloc B).heap[w.heap.size + 1]? = some B := heap_alloc2_new w A B
theorem new2a (w : World) (A B : Obj) : ((w.alloc A).alloc B).heap[w.heap.size]? = some A := heap_alloc2_old w A B
variable {w : World} {g : Nat} {cs : Array Value} {t : TypeId} {fr : Nat × Nat}
theorem cell_of (h : w.heap[g]? = some (.cells cs t fr)) (i : Nat) : w.cell? ⟨g, i, none⟩ = cs[i]? := by
  simp [World.cell?, h]
theorem frozen_of (h : w.heap[g]? = some (.cells cs t (0, 0))) (i : Nat) : w.frozen? ⟨g, i, none⟩ = false := by
  simp [World.frozen?, h]
theorem set_of (h : w.heap[g]? = some (.cells cs t fr)) (i : Nat) (v : Value) : (w.setCell ⟨g, i, none⟩ v).heap[g]? = some (.cells (cs.setIfInBounds i v) t fr) := by
  simp [World.setCell, Array.getElem?_modify, h]
theorem lt_of {o : Obj} (h : w.heap[g]? = some o) : g < w.heap.size := (Array.getElem?_eq_some_iff.1 h).1
theorem set_far {g' : Nat} {o : Obj} (h : w.heap[g]? = some o) (hne : g ≠ g') (i : Nat) (v : Value) : (w.setCell ⟨g', i, none⟩ v).heap[g]? = some o :=
  (RowKit.Below.heap_setCell w ⟨g', i, none⟩ v g hne).trans h
theorem alloc_far {o : Obj} (h : w.heap[g]? = some o) (A : Obj) : (w.alloc A).heap[g]? = some o := (heap_alloc_old w A (lt_of h)).trans h
theorem below_heap {B : Nat} {w w' : World} {g : Nat} {o : Obj} (hb : Below B w w') (hg : g < B) (h : w.heap[g]? = some o) : w'.heap[g]? = some o := (hb.block g hg).trans h
theorem size_set (w : World) (a : Addr) (v : Value) : (w.setCell a v).heap.size = w.heap.size := by simp [World.setCell]
theorem size_set_le {n : Nat} {w : World} (a : Addr) (v : Value) (h : n ≤ w.heap.size) : n ≤ (w.setCell a v).heap.size := by rw [size_set]; exact h

/-- what holds of all but one block: 'w'' is 'w' with block 'b' written and new blocks -/
def But (b : Nat) (w w' : World) : Prop := w.grownBy w' (some b)
theorem But.refl (b : Nat) (w : World) : But b w w := ⟨rfl, rfl, rfl, Nat.le_refl _, fun _ _ _ => rfl⟩
theorem But.trans {b : Nat} {w w1 w2 : World} (h : But b w w1) (k : But b w1 w2) : But b w w2 :=
  ⟨k.os.trans h.os, k.tape.trans h.tape, k.output.trans h.output, Nat.le_trans h.size k.size, fun i hi hne => (k.block i (Nat.lt_of_lt_of_le hi h.size) hne).trans (h.block i hi hne)⟩
theorem But.of_below {b : Nat} {w w' : World} (h : Below w.heap.size w w') : But b w w' := ⟨h.os, h.tape, h.output, h.size, fun i hi _ => h.block i hi⟩
theorem But.drew {b : Nat} {w w' : World} (h : But b w w') : But b w w'.drew := ⟨h.os, h.tape, h.output, h.size, h.block⟩
theorem But.drewN {b : Nat} {w w' : World} (h : But b w w') (n : Nat) : But b w (w'.drewN n) := ⟨h.os, h.tape, h.output, h.size, h.block⟩
theorem But.of_drewN {b n : Nat} {w w' : World} (h : But b (w.drewN n) w') : But b w w' := ⟨h.os, h.tape, h.output, h.size, h.block⟩
theorem But.alloc {b : Nat} {w w' : World} (h : But b w w') (o : Obj) : But b w (w'.alloc o) := h.trans (World.grownBy_alloc _ _ _)
theorem But.setCell {b : Nat} {w w' : World} (h : But b w w') {a : Addr} (ha : a.block = b ∨ w.heap.size ≤ a.block) (v : Value) : But b w (w'.setCell a v) := by
  refine ⟨h.os, h.tape, h.output, by rw [size_set]; exact h.size, fun i hi hne => ?_⟩
  have hn : i ≠ a.block := by
    rcases ha with e | e
    · intro e'; exact hne (by rw [e', e])
    · omega
  exact (RowKit.Below.heap_setCell _ _ _ _ hn).trans (h.block i hi hne)
theorem But.heap {b : Nat} {w w' : World} (h : But b w w') {g : Nat} {o : Obj} (hne : g ≠ b) (hg : w.heap[g]? = some o) : w'.heap[g]? = some o :=
  (h.block g (lt_of hg) (by simpa using hne)).trans hg
/-- of a block of the call's own: below the call's beginning nothing has turned -/
theorem But.below {b B : Nat} {w0 w w' : World} (hb : Below B w0 w) (h : But b w w') (hB : B ≤ b) (hs : B ≤ w.heap.size) : Below B w0 w' :=
  hb.trans ⟨h.os, h.tape, h.output, h.size, fun i hi => h.block i (by omega) (by simp; omega)⟩
theorem Below.drewN {B : Nat} {a w : World} (h : Below B a w) (n : Nat) : Below B a (w.drewN n) := ⟨h.os, h.tape, h.output, h.size, h.block⟩
theorem Below.then {w w1 w2 : World} (h : Below w.heap.size w w1) (k : Below w1.heap.size w1 w2) : Below w.heap.size w w2 := h.trans (k.mono h.size)
end heap

section segments
variable {P : Program} {ops : Array Oper} {rest : List Oper} {o : Oper} {a : Act} {w : World} {Q : Exit → Act → World → Prop}
def isAggDesc : TypeDesc → Bool | .struct _ | .array _ _ => true | _ => false

theorem run_load_seg (w : World) (g off n : Nat) (t ty : TypeId) (C cs : Array Value) (fr : Nat × Nat) (d : TypeDesc) (hg : w.heap[g]? = some (.cells C t fr))
    (hu : P.underlying ty = some d) (hd : isAggDesc d = true) (hi : (P.info? ty).map (·.size) = some n) (hn : cs.size = n) (hcs : ∀ j, j < n → C[off + j]? = cs[j]?) :
    (loadVar ty ⟨g, off, none⟩).run P w = .ok (.agg cs) w := by
  have hl : (loadCells ⟨g, off, none⟩ cs.toList.length).run P w = .ok cs.toList.toArray w :=
    run_loadCells_list (P := P) w ⟨g, off, none⟩ cs.toList (fun j v hv => by
      have hlt : j < cs.size := by
        rcases Nat.lt_or_ge j cs.size with h | h
        · exact h
        · simp [h] at hv
      rw [Addr.add_lit, cell_of hg, hcs j (by omega)]
      simpa using hv)
  cases hq : P.info? ty with
  | none => simp [hq] at hi
  | some i =>
    have hs : i.size = cs.size := by rw [hn]; simpa [hq] using hi
    have hagg : (isAgg ty).run P w = .ok true w := by
      unfold isAgg
      rw [Sem.run_bind, run_underlying hu w]
      cases d <;> simp_all [isAggDesc]
    simp only [Array.length_toList, Array.toArray_toList] at hl
    simp [loadVar, Sem.run_bind, hagg, sizeOf, typeInfo, hq, hs, hl]

theorem wp_load_seg {K : Act → World → Prop} (ty : TypeId) (x : Operand) (ho : o.op = .load ty x)
    (g off n : Nat) (hx : a.eval x = .pointer (some ⟨g, off, none⟩)) (t : TypeId) (C cs : Array Value) (fr : Nat × Nat) (d : TypeDesc) (hg : w.heap[g]? = some (.cells C t fr))
    (hu : P.underlying ty = some d) (hd : isAggDesc d = true) (hi : (P.info? ty).map (·.size) = some n) (hn : cs.size = n) (hcs : ∀ j, j < n → C[off + j]? = cs[j]?)
    (h : K (a.put o.dst (.agg cs)) w) : o.wp P a w K Q := by
  unfold Oper.wp execOp
  simp only [ho, hx, Instr.loadAt, Instr.sureAddr, Sem.run_bind, Sem.run_pure, Result.andThen_ok, run_load_seg w g off n t ty C cs fr d hg hu hd hi hn hcs]
  exact h

theorem wpList_load_seg (hgd : o.guard = none) (ty : TypeId) (x : Operand) (ho : o.op = .load ty x)
    (g off n : Nat) (hx : a.eval x = .pointer (some ⟨g, off, none⟩)) (t : TypeId) (C cs : Array Value) (fr : Nat × Nat) (d : TypeDesc) (hg : w.heap[g]? = some (.cells C t fr))
    (hu : P.underlying ty = some d) (hd : isAggDesc d = true) (hi : (P.info? ty).map (·.size) = some n) (hn : cs.size = n) (hcs : ∀ j, j < n → C[off + j]? = cs[j]?)
    (h : wpList P ops Q rest (a.put o.dst (.agg cs)) w) : wpList P ops Q (o :: rest) a w :=
  wpList_plain hgd fun _ hK => wp_load_seg ty x ho g off n hx t C cs fr d hg hu hd hi hn hcs (hK _ _ h)

/-- a whole block read -/
theorem wpList_load_blk (hgd : o.guard = none) (ty : TypeId) (x : Operand) (ho : o.op = .load ty x)
    (g : Nat) (hx : a.eval x = .pointer (some ⟨g, 0, none⟩)) (t : TypeId) (cs : Array Value) (fr : Nat × Nat) (d : TypeDesc) (hg : w.heap[g]? = some (.cells cs t fr))
    (hu : P.underlying ty = some d) (hd : isAggDesc d = true) (hi : (P.info? ty).map (·.size) = some cs.size)
    (h : wpList P ops Q rest (a.put o.dst (.agg cs)) w) : wpList P ops Q (o :: rest) a w :=
  wpList_load_seg hgd ty x ho g 0 cs.size hx t cs cs fr d hg hu hd hi rfl (fun j _ => by rw [Nat.zero_add]) h

theorem setRow_but (w : World) (g : Nat) (C : Array Value) : But g w (w.setRow g C) :=
  ⟨rfl, rfl, rfl, by simp [World.setRow], fun k _ hk => setRow_other w g k _ (fun e => hk (by rw [e]))⟩
theorem setRow_size (w : World) (g : Nat) (C : Array Value) : (w.setRow g C).heap.size = w.heap.size := by simp [World.setRow]

/-- a whole array, or struct, of one-cell values written into a block from 'off' on -/
def splice (C : Array Value) (off : Nat) (cs : Array Value) : Array Value := (C.toList.take off ++ cs.toList ++ C.toList.drop (off + cs.size)).toArray

theorem wp_store_seg {K : Act → World → Prop} (ty : TypeId) (x v : Operand) (ho : o.op = .store ty x v)
    (g off : Nat) (hx : a.eval x = .pointer (some ⟨g, off, none⟩)) (t : TypeId) (C cs : Array Value) (hv : a.eval v = .agg cs) (hg : w.heap[g]? = some (.cells C t (0, 0)))
    (hi : (P.info? ty).map (·.size) = some cs.size) (hfit : off + cs.size ≤ C.size) (h1 : ∀ u ∈ cs.toList, u.oneCell' = true)
    (h : ∀ w', w'.heap[g]? = some (.cells (splice C off cs) t (0, 0)) → But g w w' → w'.heap.size = w.heap.size → K (a.put o.dst undef) w') : o.wp P a w K Q := by
  have hst := run_storeCells_at P g off t cs.toList 0 C w hg (by simpa using hfit) h1
  simp only [Nat.add_zero, Array.length_toList] at hst
  cases hq : P.info? ty with
  | none => simp [hq] at hi
  | some i =>
    have hs : i.size = cs.size := by simpa [hq] using hi
    unfold Oper.wp execOp
    simp only [ho, hx, hv, Instr.storeAt, Instr.sureAddr, storeVar, sizeOf, typeInfo, Value.cells, Sem.run_bind, Sem.run_pure, Result.andThen_ok]
    simp [hq, hs, hst]
    rw [← List.append_assoc]
    exact h _ (setRow_heap w g C _ t _ hg) (setRow_but _ _ _) (setRow_size _ _ _)

theorem wpList_store_seg (hgd : o.guard = none) (ty : TypeId) (x v : Operand) (ho : o.op = .store ty x v)
    (g off : Nat) (hx : a.eval x = .pointer (some ⟨g, off, none⟩)) (t : TypeId) (C cs : Array Value) (hv : a.eval v = .agg cs) (hg : w.heap[g]? = some (.cells C t (0, 0)))
    (hi : (P.info? ty).map (·.size) = some cs.size) (hfit : off + cs.size ≤ C.size) (h1 : ∀ u ∈ cs.toList, u.oneCell' = true)
    (h : ∀ w', w'.heap[g]? = some (.cells (splice C off cs) t (0, 0)) → But g w w' → w'.heap.size = w.heap.size → wpList P ops Q rest (a.put o.dst undef) w') : wpList P ops Q (o :: rest) a w :=
  wpList_plain hgd fun _ hK => wp_store_seg ty x v ho g off hx t C cs hv hg hi hfit h1 fun w' a1 a2 a3 => hK _ _ (h w' a1 a2 a3)

theorem splice_all (C cs : Array Value) (h : cs.size = C.size) : splice C 0 cs = cs := by
  unfold splice
  rw [Nat.zero_add, h, ← Array.length_toList, List.drop_length]
  simp
theorem one_fa {α : Type} (v : α → Value) (n : Nat) (f : Nat → α) (h : ∀ x, (v x).oneCell' = true) : ∀ u ∈ (fa v n f).toList, u.oneCell' = true := by
  intro u hu
  rw [fa_list] at hu
  obtain ⟨i, _, rfl⟩ := List.mem_map.1 hu
  exact h _
/-- a whole block written -/
theorem wpList_store_blk (hgd : o.guard = none) (ty : TypeId) (x v : Operand) (ho : o.op = .store ty x v)
    (g : Nat) (hx : a.eval x = .pointer (some ⟨g, 0, none⟩)) (t : TypeId) (C cs : Array Value) (hv : a.eval v = .agg cs) (hg : w.heap[g]? = some (.cells C t (0, 0)))
    (hi : (P.info? ty).map (·.size) = some cs.size) (hfit : cs.size = C.size) (h1 : ∀ u ∈ cs.toList, u.oneCell' = true)
    (h : ∀ w', w'.heap[g]? = some (.cells cs t (0, 0)) → But g w w' → w'.heap.size = w.heap.size → wpList P ops Q rest (a.put o.dst undef) w') : wpList P ops Q (o :: rest) a w :=
  wpList_store_seg hgd ty x v ho g 0 hx t C cs hv hg hi (by omega) h1 fun w' h2 h3 h4 => h w' (by rw [splice_all _ _ hfit] at h2; exact h2) h3 h4

theorem results_blk {fn : Func} {p : Tmp} {ty : TypeId} (h : fn.results = #[.cell p ty]) (tmps : Array Value) (w : World) (g : Nat) (t : TypeId) (cs : Array Value) (fr : Nat × Nat) (d : TypeDesc)
    (hp : tmps.getD p undef = .pointer (some ⟨g, 0, none⟩)) (hg : w.heap[g]? = some (.cells cs t fr))
    (hu : P.underlying ty = some d) (hd : isAggDesc d = true) (hi : (P.info? ty).map (·.size) = some cs.size) :
    (results fn tmps).run P w = .ok (.agg cs) w := by
  have hp' : tmps[p]?.getD undef = .pointer (some ⟨g, 0, none⟩) := by simpa using hp
  simp [results, h, hp', asAddr, run_load_seg w g 0 cs.size t ty cs cs fr d hg hu hd hi rfl (fun j _ => by rw [Nat.zero_add])]
end segments

section rows
variable {α : Type}
theorem app_get (v : α → Value) (n : Nat) (f : Nat → α) (Z : Array Value) (i : Nat) (h : i < n) : (fa v n f ++ Z)[i]? = some (v (f i)) := by
  rw [Array.getElem?_append_left (by rw [fa_size]; exact h), fa_get _ _ _ _ h]
theorem app_set (v : α → Value) (n : Nat) (f : Nat → α) (Z : Array Value) (i : Nat) (h : i < n) (x : α) : (fa v n f ++ Z).setIfInBounds i (v x) = fa v n (upd f i x) ++ Z := by
  rw [Array.setIfInBounds_append_left (by rw [fa_size]; exact h), fa_set]
/-- a row of the call's own that is not empty: its block -/
theorem own_prefix {w : World} {base e n : Nat} {v : Value} {xs : List Value} (h : w.ownsRow base e 1 v n xs) (hn : 0 < n) :
    ∃ g cap Z, v = .slice (some ⟨g, 0, none⟩) n cap ∧ base ≤ g ∧ w.heap[g]? = some (.cells (xs.toArray ++ Z) e (0, 0)) ∧ n ≤ cap ∧ cap ≤ maxLen := by
  rcases h.2 with ⟨_, h0⟩ | ⟨g, cap, cur, hv, hb, hg, hnc, hcm, hcs, ht⟩
  · omega
  · refine ⟨g, cap, (cur.toList.drop n).toArray, hv, hb, ?_, hnc, hcm⟩
    rw [hg, ← ht, Nat.mul_one]
    congr 2
    rw [List.append_toArray, List.take_append_drop]
theorem fa_toList (v : α → Value) (n : Nat) (f : Nat → α) : (fa v n f).toList.toArray = fa v n f := rfl
theorem cells_row {w : World} {g e : Nat} {cs : Array Value} {fr : Nat × Nat} (h : w.heap[g]? = some (.cells cs e fr)) (off : Nat) (xs : List Value) (hx : ∀ j u, xs[j]? = some u → cs[off + j]? = some u) :
    ∀ j u, xs[j]? = some u → w.cell? ((⟨g, off, none⟩ : Addr).add j) = some u := fun j u hu => by rw [Addr.add_lit, cell_of h]; exact hx j u hu
theorem bin_xor_ones32 (t : TypeId) (x : UInt32) : binOp .xor t (v32 x) (.int .u32 4294967295) = pure (v32 (~~~ x)) := by
  have := bin_xor32 t x 4294967295
  have e : x ^^^ 4294967295 = ~~~ x := by
    rw [show (4294967295 : UInt32) = -1 from by decide, UInt32.xor_neg_one]
  rw [e] at this
  exact this
theorem bin_xor_ones64 (t : TypeId) (x : UInt64) : binOp .xor t (v64 x) (.int .u64 18446744073709551615) = pure (v64 (~~~ x)) := by
  have := bin_xor64 t x 18446744073709551615
  have e : x ^^^ 18446744073709551615 = ~~~ x := by
    rw [show (18446744073709551615 : UInt64) = -1 from by decide, UInt64.xor_neg_one]
  rw [e] at this
  exact this
end rows
end Go.Proofs.Ytkkfpgkogggfdaa.Cw
