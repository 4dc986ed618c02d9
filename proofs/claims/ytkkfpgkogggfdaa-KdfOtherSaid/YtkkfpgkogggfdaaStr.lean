/-
  Texts as slices of bytes, and a few laws on words with a constant. Whatever the program. No condition but a text's length.
-/
import Derived.Test.YtkkfpgkogggfdaaOwn
import Derived.Lib.ConvBytes
set_option linter.unusedSimpArgs false
set_option linter.unusedVariables false
namespace Go.Proofs.Ytkkfpgkogggfdaa.Cw
open Go Go.RowKit

theorem bin_and64_255 (t : TypeId) (x : UInt64) : binOp .and t (v64 x) (.int .u64 255) = pure (v64 (x &&& 255)) := bin_and64 t x 255
theorem bin_and32_255 (t : TypeId) (x : UInt32) : binOp .and t (v32 x) (.int .u32 255) = pure (v32 (x &&& 255)) := bin_and32 t x 255
theorem bin_mul64_8 (t : TypeId) (x : UInt64) : binOp .mul t (v64 x) (.int .u64 8) = pure (v64 (x <<< 3)) := by
  show (pure (.int .u64 (IntKind.u64.wrap ((x.toNat : Int) * 8))) : Sem Value) = _
  have h : IntKind.u64.wrap ((x.toNat : Int) * 8) = ((x <<< 3).toNat : Int) := by
    simp only [IntKind.wrap, IntKind.bits, IntKind.signed, UInt64.toNat_shiftLeft, UInt64.reduceToNat, Nat.shiftLeft_eq]; simp
  rw [h]; rfl
theorem low64 (x : UInt64) : (x &&& 255).toUInt8 = x.toUInt8 := by
  apply UInt8.toNat_inj.1
  simp only [UInt64.toNat_toUInt8, UInt64.toNat_and]
  rw [show (255 : UInt64).toNat = 2 ^ 8 - 1 from rfl, Nat.and_two_pow_sub_one_eq_mod]
  simp
theorem low32 (x : UInt32) : (x &&& 255).toUInt8 = x.toUInt8 := by
  apply UInt8.toNat_inj.1
  simp only [UInt32.toNat_toUInt8, UInt32.toNat_and]
  rw [show (255 : UInt32).toNat = 2 ^ 8 - 1 from rfl, Nat.and_two_pow_sub_one_eq_mod]
  simp

section
variable {P : Program} {ops : Array Oper} {rest : List Oper} {o : Oper} {a : Act} {w : World} {Q : Exit → Act → World → Prop}
/-- append(s, x...) of bytes onto bytes, at the operation -/
theorem wp_append_rd {K : Act → World → Prop} (s x : Operand) (t : TypeId) (ho : o.op = .call { callee := .builtin .append, args := #[s, x], argTypes := #[t, t] })
    (B : Nat) (e : TypeId) (i : TypeInfo) (ht : P.underlying t = some (.slice e)) (hi : P.info? e = some i) (hz : i.zero = some (.int .u8 0)) (hsize : i.size = 1) (hby : i.bytes = 1)
    (v : Value) (n : Nat) (l : List UInt8) (hs : a.eval s = v) (hown : Ow w B e 1 v n (l.map v8))
    (A : Option Addr) (m c : Nat) (k : List UInt8) (p : Nat → Prop) (hx : a.eval x = .slice A m c) (hr : Rd w p A m c k) (hbytes : n + m ≤ 140737488355328) (hB : B ≤ w.heap.size)
    (h : ∀ v' w', Ow w' B e 1 v' (n + m) ((l ++ k).map v8) → w.grownBy w' v.ownBlock → (v'.ownBlock = v.ownBlock ∨ v'.ownBlock = some w.heap.size) → K (a.put o.dst v') w') : o.wp P a w K Q := by
  refine wp_append s x t t ho B e i (.int .u8 0) 1 1 (.slice e) ht ht (.inl ⟨e, rfl⟩) hi hz hsize hby rfl v n (l.map v8) hs hown (.slice A m c) hx m (k.map v8) (fun _ => rfl) ?_ (by simp [hr.len]) ?_ (by simp only [maxLen]; omega) (by omega) hB ?_
  · intro w' hw
    rcases Nat.eq_zero_or_pos m with h0 | h0
    · subst h0
      have : k = [] := List.eq_nil_of_length_eq_zero hr.len
      subst this
      cases A with
      | none => exact run_firstCells_none w' 1 0 0 c
      | some ad => exact run_firstCells_some w' 1 0 ad 0 c [] rfl (fun j u hj => by simp at hj)
    · obtain ⟨g, off, rfl, _, _, hc⟩ := hr.2.2 h0
      refine run_firstCells_some w' 1 m ⟨g, off, none⟩ m c (k.map v8) (by simp [hr.len]) fun j u hj => ?_
      have hj' : j < k.length := by
        rcases Nat.lt_or_ge j k.length with h | h
        · exact h
        · simp [h] at hj
      rw [Addr.add_lit, World.cell?_of_block (w := w) (w' := w') (by rw [hw]), hc j (by rw [← hr.len]; exact hj')]
      simp [hj'] at hj
      rw [← hj]
      simp [hj']
  · intro u hu
    obtain ⟨b, _, rfl⟩ := List.mem_map.1 hu
    rfl
  · intro v' w' h2 h3 h4
    refine h v' w' ?_ h3 h4
    rw [List.map_append]; exact h2

/-- and at a step of a region that draws -/
theorem step_append_rd {K : Act → World → Prop} {E : Prop} (hgd : o.guard = none) (s x : Operand) (t : TypeId) (ho : o.op = .call { callee := .builtin .append, args := #[s, x], argTypes := #[t, t] })
    (B : Nat) (e : TypeId) (i : TypeInfo) (ht : P.underlying t = some (.slice e)) (hi : P.info? e = some i) (hz : i.zero = some (.int .u8 0)) (hsize : i.size = 1) (hby : i.bytes = 1)
    (v : Value) (n : Nat) (l : List UInt8) (hs : a.eval s = v) (hown : Ow w B e 1 v n (l.map v8))
    (A : Option Addr) (m c : Nat) (k : List UInt8) (p : Nat → Prop) (hx : a.eval x = .slice A m c) (hr : Rd w p A m c k) (hbytes : n + m ≤ 140737488355328) (hB : B ≤ w.heap.size)
    (h : ∀ v' w', Ow w' B e 1 v' (n + m) ((l ++ k).map v8) → w.grownBy w' v.ownBlock → (v'.ownBlock = v.ownBlock ∨ v'.ownBlock = some w.heap.size) → K (a.put o.dst v') w') :
    if Region.wanted o (yielded ops a.tmps) = true then Oper.wp P o a w K Q else E := by
  have hw : Region.wanted o (yielded ops a.tmps) = true := by simp [Region.wanted, hgd]
  rw [if_pos hw]
  exact wp_append_rd s x t ho B e i ht hi hz hsize hby v n l hs hown A m c k p hx hr hbytes hB h
/-- a text made a slice of bytes -/
theorem wpList_conv_bytes (hgd : o.guard = none) (src dst e : TypeId) (x : Operand) (ho : o.op = .convert src dst x) (s : ByteArray) (hx : a.eval x = .string s) {u : TypeDesc}
    (hs : P.underlying src = some u) (hd : P.underlying dst = some (.slice e)) (he : P.underlying e = some (.int .u8)) (hn : s.size ≤ maxLen)
    (h : ∀ c w', Ow w' w.heap.size e 1 (.slice (some ⟨w.heap.size, 0, none⟩) s.size c) s.size (s.data.toList.map v8) → Below w.heap.size w w' → w'.heap.size = w.heap.size + 1 → wpList P ops Q rest (a.put o.dst (.slice (some ⟨w.heap.size, 0, none⟩) s.size c)) w') : wpList P ops Q (o :: rest) a w := by
  refine wpList_plain hgd fun K hK => ?_
  unfold Oper.wp execOp
  simp only [ho, hx, Sem.run_bind, Sem.run_pure, Lib.run_convert_string_bytes w src dst e s hs hd he, Result.andThen_ok]
  refine hK _ _ (h _ _ ⟨by simp, .inr ⟨w.heap.size, _, _, _, rfl, Nat.le_refl _, Lib.bytesWorld_at_new w e s, .inr (Nat.le_refl _), grownCap_ge w _ _ _, grownCap_le_maxLen w _ _ _ hn, ?_, ?_⟩⟩ ?_ ?_)
  · have := grownCap_ge w s.size 0 e
    have e1 : s.data.size = s.size := rfl
    simp [Lib.bytesCells]
    omega
  · have e1 : s.data.toList.length = s.size := by simp
    simp only [Lib.bytesCells, Array.toList_append, Array.toList_map, Nat.mul_one]
    rw [List.take_left' (by simp)]
    rfl
  · exact ⟨rfl, rfl, rfl, by rw [Lib.bytesWorld_size]; omega, fun g hg => Lib.bytesWorld_at_old w e s g hg⟩
  · exact Lib.bytesWorld_size w e s
end
end Go.Proofs.Ytkkfpgkogggfdaa.Cw
