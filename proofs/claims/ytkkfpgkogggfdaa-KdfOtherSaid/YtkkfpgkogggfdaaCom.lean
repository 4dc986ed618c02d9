/-
  What the texts on hashes share: bytes, texts, literals, a few laws on operations; and the smallest functions of the reference. No condition of a program's but what each says.
-/
import Derived.Test.YtkkfpgkogggfdaaProg
import Derived.Test.YtkkfpgkogggfdaaOwn
import Derived.Test.YtkkfpgkogggfdaaStr
import Derived.Test.YtkkfpgkogggfdaaStrs
import Derived.Test.YtkkfpgkogggfdaaSha
import Derived.Test.YtkkfpgkogggfdaaBuild
import Derived.Laws.IdiomStrings
import Derived.Laws.BytesArg
import Derived.IntWalk
import Derived.Outline
set_option linter.unusedSimpArgs false
set_option linter.unusedVariables false
namespace Go.Proofs.Ytkkfpgkogggfdaa.Cw
open Go Go.RowKit
/-- the length's eight bytes -/
def len8 (n : UInt64) : List UInt8 := (List.range 8).map fun i => (n <<< 3 >>> UInt64.ofNat (56 - 8 * i)).toUInt8
theorem len8_length (n : UInt64) : (len8 n).length = 8 := by simp [len8]
theorem info_u8 : (Try.prog.info? 5).map (fun i => (i.zero, i.size, i.bytes)) = some (some (.int .u8 0), 1, 1) := by kernel_rfl

theorem conv_len (n : Nat) (w : World) : (convert 3 55 (.int .i64 (n : Int))).run Try.prog w = .ok (v64 (UInt64.ofNat n)) w := by
  unfold v64
  simp [convert, run_underlying Try.underlying3, run_underlying Try.underlying55, Conv.intToInt]
  rw [wrap64_any]
  simp
attribute [local go_sem ↓ high] conv_len

theorem run_conv64_8 (x : UInt64) (w : World) : (convert 55 5 (v64 x)).run Try.prog w = .ok (v8 x.toUInt8) w := by
  unfold v8 v64
  simp [convert, run_underlying Try.underlying5, run_underlying Try.underlying55, Conv.intToInt]
  rw [wrap8_any]
  rfl
theorem run_conv32_8 (x : UInt32) (w : World) : (convert 50 5 (v32 x)).run Try.prog w = .ok (v8 x.toUInt8) w := by
  unfold v8 v32
  simp [convert, run_underlying Try.underlying5, run_underlying Try.underlying50, Conv.intToInt]
  rw [wrap8_any]
  rfl
attribute [local go_sem ↓ high] run_conv64_8 run_conv32_8

theorem run_convert_rd {P : Program} {w : World} {p : Nat → Prop} {A : Option Addr} {n c : Nat} {l : List UInt8} (hr : Rd w p A n c l) (src dst e : TypeId) (hs : P.underlying src = some (.slice e)) (he : P.underlying e = some (.int .u8)) (hd : P.underlying dst = some .string) :
    (convert src dst (.slice A n c)).run P w = .ok (.string ⟨l.toArray⟩) w := by
  have hl := hr.len
  subst hl
  rcases A with _ | a
  · have : l = [] := by
      rcases l with _ | ⟨x, l⟩
      · rfl
      · obtain ⟨g, off, h, _⟩ := hr.2.2 (by simp)
        cases h
    subst this
    rw [run_convert_bytes_string w src dst e _ _ _ hs he hd]
    rfl
  · refine run_convert_bytes_back w src dst e a c l hs he hd fun j hj => ?_
    obtain ⟨g, off, h, _, _, hc⟩ := hr.2.2 (by omega)
    injection h with h
    subst h
    rw [Addr.add_lit, hc j hj]
    simp [v8, hj]

theorem len8_take (n : UInt64) (k : Nat) (hk : k < 8) : (len8 n).take k ++ [(n <<< 3 >>> UInt64.ofNat (56 - 8 * k)).toUInt8] = (len8 n).take (k + 1) := by
  rw [List.take_succ_eq_append_getElem (by rw [len8_length]; exact hk)]
  congr 2
  simp only [len8, List.getElem_map, List.getElem_range]
theorem len8_all (n : UInt64) : (len8 n).take 8 = len8 n := by rw [← len8_length n, List.take_length]
section
variable {P : Program} {ops : Array Oper} {rest : List Oper} {o : Oper} {a : Act} {w : World} {Q : Exit → Act → World → Prop}
/-- a new variable of whatever type -/
theorem wpList_alloc_zero (hgd : o.guard = none) (t : TypeId) (ho : o.op = .alloc t) (z : Value) (hz : (P.info? t).map (·.zero) = some (some z))
    (h : wpList P ops Q rest (a.put o.dst (.pointer (some ⟨w.heap.size, 0, none⟩))) (w.alloc (.cells z.cells t))) : wpList P ops Q (o :: rest) a w := by
  refine wpList_plain hgd fun K hK => ?_
  cases hq : P.info? t with
  | none => simp [hq] at hz
  | some i =>
    have hz' : i.zero = some z := by simpa [hq] using hz
    have hzv : (zeroValue t).run P w = .ok z w := by simp [zeroValue, typeInfo, hq, hz']
    unfold Oper.wp execOp
    simp only [ho, Instr.alloc, newVar, Sem.run_bind, Sem.run_pure, hzv, Result.andThen_ok]
    exact hK _ _ h
/-- an array's element, the array a value -/
theorem wpList_index_fa {α : Type} (hgd : o.guard = none) (t : TypeId) (x i : Operand) (ho : o.op = .index t x i) (v : α → Value) (n : Nat) (f : Nat → α) (j : Nat) (hx : a.eval x = .agg (fa v n f)) (hj : a.eval i = .int .i64 (j : Int)) (hlt : j < n)
    (e : TypeId) (d : TypeDesc) (hu : P.underlying t = some (.array n e)) (hue : P.underlying e = some d) (hd : isAggDesc d = false) (hs : (P.info? e).map (·.size) = some 1)
    (h : wpList P ops Q rest (a.put o.dst (v (f j))) w) : wpList P ops Q (o :: rest) a w := by
  refine wpList_plain hgd fun K hK => ?_
  cases hq : P.info? e with
  | none => simp [hq] at hs
  | some ie =>
    have hs' : ie.size = 1 := by simpa [hq] using hs
    have hagg : (isAgg e).run P w = .ok false w := by
      unfold isAgg
      rw [Sem.run_bind, run_underlying hue w]
      cases d <;> simp_all [isAggDesc]
    have hc : 0 ≤ (j : Int) ∧ (j : Int) < n := by omega
    have hr : (Instr.index t (.agg (fa v n f)) (.int .i64 (j : Int))).run P w = .ok (v (f j)) w := by
      simp [Instr.index, asIntOf, run_underlying hu, hlt, sizeOf, typeInfo, hq, hs', part, hagg, fa_get _ _ _ _ hlt]
    unfold Oper.wp execOp
    simp only [ho, hx, hj, Sem.run_bind, Sem.run_pure, hr, Result.andThen_ok]
    exact hK _ _ h
end

theorem hobj_one {α : Type} (v : α → Value) (n : Nat) (size : Value) (h k : Nat → α) (rest len : Value) (h1 : ∀ x, (v x).oneCell' = true) (a1 : size.oneCell' = true) (a2 : rest.oneCell' = true) (a3 : len.oneCell' = true) : ∀ u ∈ (hobj v n size h k rest len).toList, u.oneCell' = true := by
  intro u hu
  unfold hobj at hu
  simp only [Array.toList_append, List.mem_append] at hu
  rcases hu with ((hu | hu) | hu) | hu
  · simp at hu; subst hu; exact a1
  · exact one_fa v _ _ h1 u hu
  · exact one_fa v _ _ h1 u hu
  · simp at hu; rcases hu with rfl | rfl
    · exact a2
    · exact a3

theorem Rd.one {w : World} {g : Nat} {t : TypeId} {fr : Nat × Nat} (x : UInt8) (p : Nat → Prop) (hp : p g) (h : w.heap[g]? = some (.cells #[v8 x] t fr)) : Rd w p (some ⟨g, 0, none⟩) 1 1 [x] := by
  refine ⟨rfl, Nat.le_refl _, fun _ => ⟨g, 0, rfl, hp, lt_of h, fun i hi => ?_⟩⟩
  obtain rfl : i = 0 := by omega
  rw [cell_of h]; rfl

theorem refBlock_calls (c : Int) (w : World) : Calls Try.prog 19 #[.int .i64 c] w fun e w' => e = .returned (.int .i64 (if c = 1 ∨ c = 2 then 64 else if c = 3 ∨ c = 4 then 128 else 0)) ∧ w = w' := by
  go_enter Try.func19, Try.ntmps19
  by_cases h1 : c = 1
  · subst h1; go_wp2; go_ret; exact ⟨rfl, rfl⟩
  by_cases h2 : c = 2
  · subst h2; go_wp2; go_ret; exact ⟨rfl, rfl⟩
  by_cases h3 : c = 3
  · subst h3; go_wp2; go_ret; exact ⟨rfl, rfl⟩
  by_cases h4 : c = 4
  · subst h4; go_wp2; go_ret; exact ⟨rfl, rfl⟩
  have e1 : (c == 1) = false := by simp [h1]
  have e2 : (c == 2) = false := by simp [h2]
  have e3 : (c == 3) = false := by simp [h3]
  have e4 : (c == 4) = false := by simp [h4]
  go_wp2; go_ret; exact ⟨by simp [h1, h2, h3, h4], rfl⟩

def refSize (c : Int) : Nat := if c = 1 then 28 else if c = 2 then 32 else if c = 3 then 48 else if c = 4 then 64 else 0
theorem refSize_calls (c : Int) (w : World) : Calls Try.prog 13 #[.int .i64 c] w fun e w' => e = .returned (.int .i64 (refSize c)) ∧ w = w' := by
  go_enter Try.func13, Try.ntmps13
  by_cases h1 : c = 1
  · subst h1; go_wp2; go_ret; exact ⟨rfl, rfl⟩
  by_cases h2 : c = 2
  · subst h2; go_wp2; go_ret; exact ⟨rfl, rfl⟩
  by_cases h3 : c = 3
  · subst h3; go_wp2; go_ret; exact ⟨rfl, rfl⟩
  by_cases h4 : c = 4
  · subst h4; go_wp2; go_ret; exact ⟨rfl, rfl⟩
  have e1 : (c == 1) = false := by simp [h1]
  have e2 : (c == 2) = false := by simp [h2]
  have e3 : (c == 3) = false := by simp [h3]
  have e4 : (c == 4) = false := by simp [h4]
  go_wp2; go_ret; exact ⟨by simp [refSize, h1, h2, h3, h4], rfl⟩

theorem all8 (x : UInt8) : x &&& 255 = x := by
  rw [show (255 : UInt8) = -1 from rfl]; exact UInt8.and_neg_one
theorem len8_step (n : UInt64) (k : Nat) (hk : k < 8) (q : Nat) (hq : q = 7 - k) : (len8 n).take k ++ [(n <<< 3 >>> (8 * UInt64.ofNat q)).toUInt8 &&& 255] = (len8 n).take (k + 1) := by
  subst hq
  rw [all8, show (8 : UInt64) = UInt64.ofNat 8 from rfl, ← UInt64.ofNat_mul, ← len8_take n k hk, show 8 * (7 - k) = 56 - 8 * k from by omega]

theorem Rd.row {w : World} {g : Nat} {cs : Array Value} {t : TypeId} {fr : Nat × Nat} (l : List UInt8) (n : Nat) (hn : l.length = n) (p : Nat → Prop) (hp : p g) (h : w.heap[g]? = some (.cells cs t fr)) (hc : cs = (l.map v8).toArray) : Rd w p (some ⟨g, 0, none⟩) n n l := by
  refine ⟨hn, Nat.le_refl _, fun _ => ⟨g, 0, rfl, hp, lt_of h, fun i hi => ?_⟩⟩
  rw [cell_of h, hc]
  simp [show i < l.length from by omega]

theorem and255 (c : Int) : ∃ k : Nat, bits BinOp.and IntKind.i64 c 255 = (k : Int) ∧ k < 256 := by
  have h : ((BitVec.ofInt 64 c) &&& (BitVec.ofInt 64 255)).toNat < 256 := by
    rw [BitVec.toNat_and]
    exact Nat.lt_of_le_of_lt Nat.and_le_right (by decide)
  refine ⟨((BitVec.ofInt 64 c) &&& (BitVec.ofInt 64 255)).toNat, ?_, h⟩
  show IntKind.i64.wrap (((BitVec.ofInt 64 c) &&& (BitVec.ofInt 64 255)).toNat : Int) = _
  exact IntWalk.i64_in _ (by omega)

/-- so many noughts -/
def noughts (k : Nat) : ByteArray := ⟨(List.replicate k 0).toArray⟩
theorem noughts_size (k : Nat) : (noughts k).size = k := by show (List.replicate k (0 : UInt8)).toArray.size = k; simp
theorem noughts_succ (k : Nat) : noughts k ++ ⟨#[0]⟩ = noughts (k + 1) := by
  apply ByteArray.ext
  rw [ByteArray.data_append]
  show (List.replicate k (0 : UInt8)).toArray ++ #[0] = (List.replicate (k + 1) (0 : UInt8)).toArray
  rw [List.replicate_succ', List.append_toArray]

section
variable {P : Program} {ops : Array Oper} {rest : List Oper} {o : Oper} {a : Act} {w : World} {Q : Exit → Act → World → Prop}
theorem Ow.of_own {B e size n : Nat} {v : Value} {xs : List Value} (h : w.ownsRow B e size v n xs) : Ow w B e size v n xs := by
  refine ⟨h.1, ?_⟩
  rcases h.2 with ⟨rfl, h0⟩ | ⟨g, cap, cur, hv, hb, hg, hnc, hcm, hcs, ht⟩
  · exact .inl ⟨rfl, h0⟩
  · exact .inr ⟨g, cap, cur, _, hv, hb, hg, .inl rfl, hnc, hcm, hcs, ht⟩
/-- 'make([]byte, n)' -/
theorem wpList_make_bytes (hg : o.guard = none) (l c : Operand) (t : TypeId) (hop : o.op = Op.makeSlice t l c)
    (B : Nat) (e : TypeId) (i : TypeInfo) (h1 : P.underlying t = some (.slice e)) (h2 : P.info? e = some i) (h3 : i.zero = some (.int .u8 0)) (h4 : i.size = 1) (h5 : i.bytes = 1)
    (kl kc : IntKind) (L C : Int) (n : Nat) (hl : a.eval l = .int kl L) (hc : a.eval c = .int kc C) (hL : L = (n : Int)) (hC : C = (n : Int)) (b2 : n ≤ 281474976710656) (b4 : B ≤ w.heap.size)
    (hK : ∀ w', Ow w' B e 1 (.slice (some ⟨w.heap.size, 0, none⟩) n n) n ((List.replicate n (0 : UInt8)).map v8) → w.grownBy w' none → wpList P ops Q rest (a.put o.dst (.slice (some ⟨w.heap.size, 0, none⟩) n n)) w') :
    wpList P ops Q (o :: rest) a w := by
  refine wpList_make_full w hg l c t hop B e i (.int .u8 0) 1 h1 h2 h3 h4 kl kc L C n hl hc hL hC (by rw [h5]; omega) (by simp only [maxLen]; omega) b4 fun w' ho hgr => hK w' ?_ hgr
  have e1 : (madeCells (Value.int .u8 0).cells (n * 1)).toList = (List.replicate n (0 : UInt8)).map v8 := by
    refine List.ext_getElem (by simp [madeCells]) fun j h1 h2 => ?_
    simp [madeCells, Value.cells, v8, Nat.mod_one]
  rw [e1] at ho
  exact Ow.of_own ho
end

/-- text number n -/
def nthS (zs : List ByteArray) (n : Nat) : ByteArray := zs.getD n ByteArray.empty
/-- the first n texts in a row -/
def joined (zs : List ByteArray) : Nat → ByteArray
  | 0 => ByteArray.empty
  | n + 1 => joined zs n ++ nthS zs n
theorem joined_size (zs : List ByteArray) : ∀ n, (joined zs n).size ≤ sizes zs := by
  have h : ∀ n, (joined zs n).size ≤ sizes (zs.take n) := by
    intro n
    induction n with
    | zero => simp [joined]
    | succ n ih =>
      simp only [joined, ByteArray.size_append]
      rw [List.take_add_one, sizes_append]
      have : (nthS zs n).size ≤ sizes zs[n]?.toList := by
        unfold nthS
        cases h : zs[n]? <;> simp [sizes, h]
      omega
  intro n
  have e : sizes zs = sizes (zs.take n) + sizes (zs.drop n) := by rw [← sizes_append, List.take_append_drop]
  have := h n
  omega
theorem part_size (zs : List ByteArray) (n : Nat) : (nthS zs n).size ≤ sizes zs := by
  unfold nthS
  cases h : zs[n]? with
  | none => simp [h]
  | some x =>
    simp only [List.getD_eq_getElem?_getD, h, Option.getD_some]
    have hm := List.mem_of_getElem? h
    clear h
    induction zs with
    | nil => cases hm
    | cons y r ih =>
      simp only [sizes, List.map_cons, List.sum_cons]
      rcases List.mem_cons.1 hm with rfl | hm
      · omega
      · have := ih hm; simp only [sizes] at this; omega

theorem add_block (x : Addr) (i : Nat) : (x.add i).block = x.block := by unfold Addr.add; split <;> rfl
/-- what a walk needs of a slice of texts -/
theorem IsStrs.at {w : World} {a : Option Addr} {len cap : Nat} {zs : List ByteArray} (h : IsStrs w a len cap zs) {i : Nat} (hi : i < len) : ∃ x, a = some x ∧ (x.add i).block < w.heap.size ∧ w.cell? (x.add i) = some (.string (nthS zs i)) := by
  rcases h with ⟨_, rfl, _, _⟩ | ⟨x, rfl, hl, _, hz, hc⟩
  · omega
  · refine ⟨x, rfl, ?_, hc i (by omega)⟩
    have := hc i (by omega)
    rcases Nat.lt_or_ge (x.add i).block w.heap.size with h | h
    · exact h
    · have e : w.heap[(x.add i).block]? = none := by simpa using h
      rw [World.cell?, e] at this
      cases this
theorem IsStrs.len {w : World} {a : Option Addr} {len cap : Nat} {zs : List ByteArray} (h : IsStrs w a len cap zs) : len ≤ maxLen := by
  rcases h with ⟨_, rfl, _, _⟩ | ⟨x, rfl, hl, hm, hz, hc⟩
  · simp
  · omega

theorem cut_int (c : Int) (n : Nat) (hn : n ≤ 281474976710656) : ∃ k : Nat, wrap64 ((IntKind.u64.wrap c).tmod ((n : Int) + 1)) = (k : Int) ∧ k ≤ n := by
  have h0 : 0 ≤ IntKind.u64.wrap c := by
    simp only [IntKind.wrap, IntKind.bits, IntKind.signed]; simp; omega
  obtain ⟨X, hX⟩ := Int.eq_ofNat_of_zero_le h0
  have h1 : ((X : Int)).tmod ((n : Int) + 1) = ((X % (n + 1) : Nat) : Int) := by
    rw [Int.tmod_eq_emod_of_nonneg (by omega), Int.natCast_emod]; rfl
  have h2 : X % (n + 1) < n + 1 := Nat.mod_lt _ (by omega)
  refine ⟨X % (n + 1), ?_, by omega⟩
  rw [hX, h1]
  exact IntWalk.wrap64_in ((X % (n + 1) : Nat) : Int) (by omega)
theorem cut_join (s : ByteArray) (k : Nat) (hk : k ≤ s.size) : s.extract 0 k ++ s.extract k s.size = s := by
  rw [ByteArray.extract_append_extract]
  simp [Nat.max_eq_right hk]

theorem num_calls (c : Int) (w : World) : Calls Try.prog 9 #[.int .i64 c] w fun e w' => e = .returned (.int .i64 c) ∧ w = w' := by
  go_enter Try.func9, Try.ntmps9
  go_wp2; go_ret; exact ⟨rfl, rfl⟩

end Go.Proofs.Ytkkfpgkogggfdaa.Cw
