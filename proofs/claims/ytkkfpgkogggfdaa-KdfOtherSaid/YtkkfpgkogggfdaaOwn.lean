/-
  A slice of the call's own, and what append makes of it: one law for every source (a slice, nil or not; a string), also where the row bears the mark that a conversion from a string leaves behind its end. Whatever the program. Condition: what comes of it takes at most 2^47 bytes.
-/
import Derived.Test.YtkkfpgkogggfdaaRead
set_option linter.unusedSimpArgs false
set_option linter.unusedVariables false
namespace Go.Proofs.Ytkkfpgkogggfdaa.Cw
open Go Go.RowKit

/-- nothing of the first n cells is frozen -/
def Clear (fr : Nat × Nat) (n : Nat) : Prop := fr = (0, 0) ∨ n ≤ fr.1
theorem Clear.free {w : World} {g : Nat} {cs : Array Value} {t : TypeId} {fr : Nat × Nat} {n : Nat} (h : w.heap[g]? = some (.cells cs t fr)) (hc : Clear fr n) (i : Nat) (hi : i < n) : w.frozen? ⟨g, i, none⟩ = false := by
  rcases hc with rfl | hc
  · simp [World.frozen?, h]
  · obtain ⟨lo, hi'⟩ := fr
    simp [World.frozen?, h]
    intro h1
    simp at hc
    omega

/-- the slice v owns the n elements xs, in a block from B on -/
def Ow (w : World) (B e size : Nat) (v : Value) (n : Nat) (xs : List Value) : Prop :=
  xs.length = n * size ∧ ((v = .slice none 0 0 ∧ n = 0) ∨
    ∃ g cap cur fr, v = .slice (some ⟨g, 0, none⟩) n cap ∧ B ≤ g ∧ w.heap[g]? = some (.cells cur e fr) ∧ Clear fr cur.size ∧ n ≤ cap ∧ cap ≤ maxLen ∧ cur.size = cap * size ∧ cur.toList.take (n * size) = xs)

theorem Ow.nil (w : World) (B e size : Nat) : Ow w B e size (.slice none 0 0) 0 [] := ⟨by simp, .inl ⟨rfl, rfl⟩⟩
section
variable {w w' : World} {B e size n : Nat} {v : Value} {xs : List Value}
theorem Ow.lt (h : Ow w B e size v n xs) : ∀ k, v.ownBlock = some k → B ≤ k ∧ k < w.heap.size := by
  intro k hk
  rcases h.2 with ⟨rfl, _⟩ | ⟨g, cap, cur, fr, rfl, hb, hg, _⟩
  · simp [Value.ownBlock] at hk
  · simp [Value.ownBlock] at hk
    subst hk
    exact ⟨hb, lt_of hg⟩
theorem Ow.keep (h : Ow w B e size v n xs) (hk : ∀ g, v.ownBlock = some g → w'.heap[g]? = w.heap[g]?) : Ow w' B e size v n xs := by
  refine ⟨h.1, ?_⟩
  rcases h.2 with h0 | ⟨g, cap, cur, fr, rfl, hb, hg, r⟩
  · exact .inl h0
  · exact .inr ⟨g, cap, cur, fr, rfl, hb, by rw [hk g rfl]; exact hg, r⟩
theorem Ow.but {b : Nat} (h : Ow w B e size v n xs) (hb : But b w w') (hne : v.ownBlock ≠ some b) : Ow w' B e size v n xs :=
  h.keep fun g hg => hb.block g (h.lt g hg).2 (by rw [← hg]; exact hne)
theorem Ow.below (h : Ow w B e size v n xs) (hb : Below w.heap.size w w') : Ow w' B e size v n xs := h.keep fun g hg => hb.block g (h.lt g hg).2
theorem Ow.alloc (h : Ow w B e size v n xs) (o : Obj) : Ow (w.alloc o) B e size v n xs := h.keep fun g hg => heap_alloc_old w o (h.lt g hg).2
theorem Ow.drewN (h : Ow w B e size v n xs) (k : Nat) : Ow (w.drewN k) B e size v n xs := h
theorem Ow.drew (h : Ow w B e size v n xs) : Ow w.drew B e size v n xs := h
/-- its form, where it is not empty -/
theorem Ow.form (h : Ow w B e size v n xs) (hn : 0 < n) : ∃ g cap cur fr, v = .slice (some ⟨g, 0, none⟩) n cap ∧ B ≤ g ∧ w.heap[g]? = some (.cells cur e fr) ∧ Clear fr cur.size ∧ n ≤ cap ∧ cap ≤ maxLen ∧ cur.size = cap * size ∧ cur.toList.take (n * size) = xs := by
  rcases h.2 with ⟨_, h0⟩ | h2
  · omega
  · exact h2
theorem Ow.slice (h : Ow w B e size v n xs) : ∃ A c, v = .slice A n c ∧ n ≤ c := by
  rcases h.2 with ⟨rfl, rfl⟩ | ⟨g, cap, cur, fr, rfl, _, _, _, hn, _⟩
  · exact ⟨_, _, rfl, Nat.le_refl _⟩
  · exact ⟨_, _, rfl, hn⟩
/-- bytes that are owned read as bytes -/
theorem Ow.rd {l : List UInt8} {A : Option Addr} {c : Nat} (h : Ow w B e 1 (.slice A n c) n (l.map v8)) (p : Nat → Prop) (hp : ∀ g, B ≤ g → p g) : Rd w p A n c l := by
  have hl : l.length = n := by simpa using h.1
  rcases h.2 with ⟨hv, rfl⟩ | ⟨g, cap, cur, fr, hv, hb, hg, _, hn, _, hs, ht⟩
  · injection hv with h1 h2 h3
    have : l = [] := List.eq_nil_of_length_eq_zero hl
    subst this
    exact Rd.nil _ _ _ _
  · injection hv with h1 h2 h3
    subst h1 h3
    refine ⟨hl, hn, fun _ => ⟨g, 0, rfl, hp g hb, lt_of hg, fun i hi => ?_⟩⟩
    rw [Nat.zero_add, cell_of hg]
    have e1 : (cur.toList.take (n * 1))[i]? = some (v8 (l.getD i 0)) := by
      rw [ht]
      simp [List.getElem?_map, show i < l.length from by omega]
    rw [List.getElem?_take, if_pos (by omega)] at e1
    simpa using e1
end

theorem storeCells_clear {P : Program} (g o : Nat) (t : TypeId) (fr : Nat × Nat) : ∀ (vs : List Value) (i : Nat) (cur : Array Value) (w : World), w.heap[g]? = some (.cells cur t fr) → Clear fr cur.size → o + i + vs.length ≤ cur.size → (∀ v ∈ vs, v.oneCell' = true) →
    (storeCells ⟨g, o, none⟩ vs i).run P w = .ok () (w.setRow g (cur.toList.take (o + i) ++ vs ++ cur.toList.drop (o + i + vs.length)).toArray)
  | [], i, cur, w, hg, _, _, _ => by
    simp only [storeCells, List.append_nil, List.length_nil, Nat.add_zero, List.take_append_drop, Array.toArray_toList]
    rw [setRow_self w g cur t fr hg]
    rfl
  | v :: rest, i, cur, w, hg, hc, hl, h1 => by
    have hi : o + i < cur.size := by simp at hl; omega
    have hadd : (⟨g, o, none⟩ : Addr).add i = ⟨g, o + i, none⟩ := Addr.add_lit _ _ _
    have hcell : w.cell? ⟨g, o + i, none⟩ = some cur[o + i] := by simp [World.cell?, hg, hi]
    have hfro : w.frozen? ⟨g, o + i, none⟩ = false := Clear.free hg hc _ hi
    have hst : (store ((⟨g, o, none⟩ : Addr).add i) v).run P w = .ok () (w.setRow g (cur.setIfInBounds (o + i) v)) := by
      rw [hadd, run_store P w _ v _ (h1 v (by simp)), hcell]
      simp [hfro, setCell_eq_setRow w g (o + i) cur t fr v hg]
    have ih := storeCells_clear (P := P) g o t fr rest (i + 1) (cur.setIfInBounds (o + i) v) (w.setRow g (cur.setIfInBounds (o + i) v)) (setRow_heap w g cur _ t _ hg) (by simpa using hc) (by simp at hl ⊢; omega) (fun x hx => h1 x (by simp [hx]))
    simp only [storeCells, Sem.run_bind, hst, Result.andThen_ok, ih, setRow_setRow]
    congr 3
    have e := list_seg_step cur.toList (o + i) v rest (by simp at hl ⊢; omega)
    simpa [Array.toList_setIfInBounds, Nat.add_assoc] using e

set_option maxHeartbeats 1000000 in
theorem run_append {P : Program} (w : World) (B : Nat) (t u ty e : TypeId) (i : TypeInfo) (z : Value) (size bytes : Nat) (d : TypeDesc) (ht : P.underlying t = some (.slice e)) (hu : P.underlying u = some d) (hd : (∃ e', d = .slice e') ∨ d = .string)
    (hi : P.info? e = some i) (hz : i.zero = some z) (hsize : i.size = size) (hby : i.bytes = bytes) (hzs : z.cells.size = size)
    (v : Value) (n : Nat) (xs : List Value) (hown : Ow w B e size v n xs)
    (x : Value) (m : Nat) (news : List Value) (hlen : ∀ w, (Builtin.lenOf x).run P w = .ok m w) (hf : ∀ w' : World, w'.heap = w.heap → (Builtin.firstCells size m x).run P w' = .ok news.toArray w')
    (hl : news.length = m * size) (h1 : ∀ u ∈ news, u.oneCell' = true)
    (h63 : n + m ≤ maxLen) (hbytes : (n + m) * bytes ≤ 140737488355328) (hB : B ≤ w.heap.size) :
    ∃ v' w', (Builtin.append_ #[t, u] ty #[v, x]).run P w = .ok v' w' ∧ Ow w' B e size v' (n + m) (xs ++ news) ∧ w.grownBy w' v.ownBlock ∧ (v'.ownBlock = v.ownBlock ∨ v'.ownBlock = some w.heap.size) := by
  subst hsize
  subst hby
  have hsmall : n + m ≤ 9223372036854775807 := by simp only [maxLen] at h63; omega
  have hlen2 : (xs ++ news).length = (n + m) * i.size := by rw [List.length_append, hown.1, hl, Nat.add_mul]
  have grown : ∀ old, old < n + m → ∀ row : Option Nat,
      Ow (w.drew.alloc (.cells (xs.toArray ++ news.toArray ++ Builtin.zeroCells z.cells (grownCap w (n + m) old e - (n + m))) e)) B e i.size (.slice (some ⟨w.heap.size, 0, none⟩) (n + m) (grownCap w (n + m) old e)) (n + m) (xs ++ news) ∧
      w.grownBy (w.drew.alloc (.cells (xs.toArray ++ news.toArray ++ Builtin.zeroCells z.cells (grownCap w (n + m) old e - (n + m))) e)) row := by
    intro old ho row
    have hge := grownCap_ge w (n + m) old e
    have hcm : grownCap w (n + m) old e ≤ maxLen := grownCap_le_maxLen w (n + m) old e h63
    refine ⟨⟨hlen2, .inr ⟨w.heap.size, _, _, (0, 0), rfl, hB, heap_alloc_new w.drew _, .inl rfl, hge, hcm, ?_, ?_⟩⟩, ⟨rfl, rfl, rfl, by simp, fun k hk _ => heap_alloc_old w.drew _ hk⟩⟩
    · simp only [Array.size_append, List.size_toArray, size_zeroCells, hzs, hown.1, hl, ← Nat.add_mul]
      congr 1
      omega
    · simp only [Array.toList_append, List.append_assoc]
      rw [← List.append_assoc, ← hlen2]
      exact List.take_left
  rcases hown.2 with ⟨rfl, rfl⟩ | ⟨g, cap, cur, fr, rfl, hbg, hg, hc, hnc, hcm, hcs, htake⟩
  · have hx : xs = [] := List.eq_nil_of_length_eq_zero (by simpa using hown.1)
    subst hx
    by_cases hm : m = 0
    · subst hm
      have hn : news = [] := List.eq_nil_of_length_eq_zero (by simpa using hl)
      subst hn
      refine ⟨.slice none 0 0, w, ?_, Ow.nil w B e i.size, World.grownBy.refl w _, .inl rfl⟩
      have hf' := hf w rfl
      rcases hd with ⟨e', rfl⟩ | rfl <;> simp [Builtin.append_, run_underlying ht, run_underlying hu, sizeOf, typeInfo, hi, hlen, hf', hl]
    · have hgr := grown 0 (by omega) (Value.ownBlock (.slice none 0 0))
      simp only [Nat.zero_add, List.nil_append, Array.empty_append] at hgr ⊢
      refine ⟨_, _, ?_, hgr.1, hgr.2, .inr rfl⟩
      have h63' : ¬ (9223372036854775807 < (m : Int)) := by omega
      have h48' : ¬ (281474976710656 < Builtin.nextslicecap m 0 * i.bytes) := by rw [nextslicecap_zero (by omega)]; have := hbytes; simp only [Nat.zero_add] at this; omega
      have hf' := hf w.drew rfl
      rcases hd with ⟨e', rfl⟩ | rfl <;> simp [Builtin.append_, run_underlying ht, run_underlying hu, sizeOf, typeInfo, zeroValue, hi, hz, hlen, hm, h63', h48', Question.forced, run_firstCells_none, hf', newRow, grownCap]
  · have hap : ∀ j, (⟨g, 0, none⟩ : Addr).add j = ⟨g, j, none⟩ := fun j => by rw [Addr.add_lit, Nat.zero_add]
    by_cases hroom : n + m ≤ cap
    · have hfit : n * i.size + news.length ≤ cur.size := by rw [hl, hcs, ← Nat.add_mul]; exact Nat.mul_le_mul_right _ hroom
      have hst := storeCells_clear (P := P) g (n * i.size) e fr news 0 cur w hg hc (by simpa using hfit) h1
      simp only [Nat.add_zero] at hst
      have hf' := hf w rfl
      refine ⟨.slice (some ⟨g, 0, none⟩) (n + m) cap, w.setRow g (cur.toList.take (n * i.size) ++ news ++ cur.toList.drop (n * i.size + news.length)).toArray, ?_, ⟨hlen2, .inr ⟨g, cap, (cur.toList.take (n * i.size) ++ news ++ cur.toList.drop (n * i.size + news.length)).toArray, fr, rfl, hbg, setRow_heap w g cur _ e _ hg, ?_, hroom, hcm, ?_, ?_⟩⟩, (setRow_but w g _), .inl rfl⟩
      · rcases hd with ⟨e', rfl⟩ | rfl <;> simp [Builtin.append_, run_underlying ht, run_underlying hu, sizeOf, typeInfo, hi, hlen, hroom, hf', Addr.add_lit, hst]
      · simp only [List.size_toArray, List.length_append, List.length_take, List.length_drop, Array.length_toList]
        rw [show min (n * i.size) cur.size + news.length + (cur.size - (n * i.size + news.length)) = cur.size from by omega]
        exact hc
      · simp only [List.size_toArray, List.length_append, List.length_take, List.length_drop, Array.length_toList]
        omega
      · rw [htake, ← hlen2]
        exact List.take_left
    · have holds : ∀ j u, xs[j]? = some u → w.cell? ((⟨g, 0, none⟩ : Addr).add j) = some u := by
        intro j u hj
        rw [hap, cell_of hg]
        rw [← htake, List.getElem?_take] at hj
        split at hj
        · simpa using hj
        · cases hj
      have hgr := grown cap (by omega) (Value.ownBlock (.slice (some ⟨g, 0, none⟩) n cap))
      refine ⟨_, _, ?_, hgr.1, hgr.2, .inr rfl⟩
      have hn : ¬ (n + m ≤ cap) := hroom
      have h63' : ¬ (9223372036854775807 < ((n : Int) + (m : Int))) := by omega
      have h48' : ¬ (281474976710656 < Builtin.nextslicecap (n + m) cap * i.bytes) := by have := growslice_fits (old := cap) (bytes := i.bytes) (show cap < n + m by omega) hbytes; omega
      have hf' := hf w.drew rfl
      have hfo := run_firstCells_some (P := P) w.drew i.size n ⟨g, 0, none⟩ n cap xs hown.1 (by simpa using holds)
      rcases hd with ⟨e', rfl⟩ | rfl <;> simp [Builtin.append_, run_underlying ht, run_underlying hu, sizeOf, typeInfo, zeroValue, hi, hz, hlen, hn, h63', h48', Question.forced, hf', hfo, newRow, grownCap]
      all_goals (congr 2; apply Array.ext'; simp [List.append_assoc])


section
variable {P : Program} {ops : Array Oper} {rest : List Oper} {o : Oper} {a : Act} {w : World} {Q : Exit → Act → World → Prop}
theorem wp_append {K : Act → World → Prop} (s x : Operand) (t u : TypeId) (ho : o.op = .call { callee := .builtin .append, args := #[s, x], argTypes := #[t, u] })
    (B : Nat) (e : TypeId) (i : TypeInfo) (z : Value) (size bytes : Nat) (d : TypeDesc) (ht : P.underlying t = some (.slice e)) (hu : P.underlying u = some d) (hd : (∃ e', d = .slice e') ∨ d = .string)
    (hi : P.info? e = some i) (hz : i.zero = some z) (hsize : i.size = size) (hby : i.bytes = bytes) (hzs : z.cells.size = size)
    (v : Value) (n : Nat) (xs : List Value) (hs : a.eval s = v) (hown : Ow w B e size v n xs)
    (y : Value) (hx : a.eval x = y) (m : Nat) (news : List Value) (hlen : ∀ w, (Builtin.lenOf y).run P w = .ok m w) (hf : ∀ w' : World, w'.heap = w.heap → (Builtin.firstCells size m y).run P w' = .ok news.toArray w')
    (hl : news.length = m * size) (h1 : ∀ u ∈ news, u.oneCell' = true)
    (h63 : n + m ≤ maxLen) (hbytes : (n + m) * bytes ≤ 140737488355328) (hB : B ≤ w.heap.size)
    (h : ∀ v' w', Ow w' B e size v' (n + m) (xs ++ news) → w.grownBy w' v.ownBlock → (v'.ownBlock = v.ownBlock ∨ v'.ownBlock = some w.heap.size) → K (a.put o.dst v') w') : o.wp P a w K Q := by
  obtain ⟨v', w', hr, h2, h3, h4⟩ := run_append w B t u o.type e i z size bytes d ht hu hd hi hz hsize hby hzs v n xs hown y m news hlen hf hl h1 h63 hbytes hB
  unfold Oper.wp execOp
  simp only [ho, resolve, invoke, builtin, Sem.run_bind, Sem.run_pure, Result.andThen_ok, List.map_toArray, List.map_cons, List.map_nil, hs, hx, hr]
  exact h v' w' h2 h3 h4

/-- append(s, x...) of bytes onto bytes -/
theorem wpList_append_rd (hgd : o.guard = none) (s x : Operand) (t : TypeId) (ho : o.op = .call { callee := .builtin .append, args := #[s, x], argTypes := #[t, t] })
    (B : Nat) (e : TypeId) (i : TypeInfo) (ht : P.underlying t = some (.slice e)) (hi : P.info? e = some i) (hz : i.zero = some (.int .u8 0)) (hsize : i.size = 1) (hby : i.bytes = 1)
    (v : Value) (n : Nat) (l : List UInt8) (hs : a.eval s = v) (hown : Ow w B e 1 v n (l.map v8))
    (A : Option Addr) (m c : Nat) (k : List UInt8) (p : Nat → Prop) (hx : a.eval x = .slice A m c) (hr : Rd w p A m c k) (hbytes : n + m ≤ 140737488355328) (hB : B ≤ w.heap.size)
    (h : ∀ v' w', Ow w' B e 1 v' (n + m) ((l ++ k).map v8) → w.grownBy w' v.ownBlock → (v'.ownBlock = v.ownBlock ∨ v'.ownBlock = some w.heap.size) → wpList P ops Q rest (a.put o.dst v') w') : wpList P ops Q (o :: rest) a w := by
  refine wpList_plain hgd fun K hK => ?_
  refine wp_append s x t t ho B e i (.int .u8 0) 1 1 (.slice e) ht ht (.inl ⟨e, rfl⟩) hi hz hsize hby rfl v n (l.map v8) hs hown (.slice A m c) hx m (k.map v8) (fun _ => rfl) ?_ (by simp [hr.len]) ?_ (by simp only [maxLen]; omega) (by omega) hB ?_
  · intro w' hw
    rcases Nat.eq_zero_or_pos m with h0 | h0
    · subst h0
      have : k = [] := List.eq_nil_of_length_eq_zero hr.len
      subst this
      cases A with
      | none => exact run_firstCells_none w' 1 0 0 c
      | some ad => exact run_firstCells_some w' 1 0 ad 0 c [] rfl (fun j u hj => by simp at hj)
    · obtain ⟨g, off, rfl, _, _, hc⟩ := hr.2.2 h0
      refine run_firstCells_some w' 1 m ⟨g, off, none⟩ m c (k.map v8) (by simp [hr.len]) fun j u hj => ?_
      have hj' : j < k.length := by
        rcases Nat.lt_or_ge j k.length with h | h
        · exact h
        · simp [h] at hj
      rw [Addr.add_lit, World.cell?_of_block (w := w) (w' := w') (by rw [hw]), hc j (by rw [← hr.len]; exact hj')]
      simp [hj'] at hj
      rw [← hj]
      simp [hj']
  · intro u hu
    obtain ⟨b, _, rfl⟩ := List.mem_map.1 hu
    rfl
  · intro v' w' h2 h3 h4
    refine hK _ _ (h v' w' ?_ h3 h4)
    rw [List.map_append]; exact h2

/-- append(s, x...) of a string onto bytes -/
theorem wpList_append_str (hgd : o.guard = none) (s x : Operand) (t u : TypeId) (ho : o.op = .call { callee := .builtin .append, args := #[s, x], argTypes := #[t, u] })
    (B : Nat) (e : TypeId) (i : TypeInfo) (ht : P.underlying t = some (.slice e)) (hu : P.underlying u = some .string) (hi : P.info? e = some i) (hz : i.zero = some (.int .u8 0)) (hsize : i.size = 1) (hby : i.bytes = 1)
    (v : Value) (n : Nat) (l : List UInt8) (hs : a.eval s = v) (hown : Ow w B e 1 v n (l.map v8))
    (b : ByteArray) (hx : a.eval x = .string b) (hbytes : n + b.size ≤ 140737488355328) (hB : B ≤ w.heap.size)
    (h : ∀ v' w', Ow w' B e 1 v' (n + b.size) ((l ++ b.data.toList).map v8) → w.grownBy w' v.ownBlock → (v'.ownBlock = v.ownBlock ∨ v'.ownBlock = some w.heap.size) → wpList P ops Q rest (a.put o.dst v') w') : wpList P ops Q (o :: rest) a w := by
  refine wpList_plain hgd fun K hK => ?_
  refine wp_append s x t u ho B e i (.int .u8 0) 1 1 .string ht hu (.inr rfl) hi hz hsize hby rfl v n (l.map v8) hs hown (.string b) hx b.size (b.data.toList.map v8) (fun _ => rfl) ?_ (by simp) ?_ (by simp only [maxLen]; omega) (by omega) hB ?_
  · intro w' _
    have e1 : (b.data.toList.map v8).toArray = (b.extract 0 b.size).data.map fun b => Value.int .u8 b.toNat := by
      have : b.extract 0 b.size = b := by simp
      rw [this]
      apply Array.ext'
      simp
      intro a _
      rfl
    rw [e1]
    simp [Builtin.firstCells]
  · intro u hu
    obtain ⟨b, _, rfl⟩ := List.mem_map.1 hu
    rfl
  · intro v' w' h2 h3 h4
    refine hK _ _ (h v' w' ?_ h3 h4)
    rw [List.map_append]; exact h2
end

/-- append(nil, x...) where x is empty: nil -/
theorem wpList_append_none {P : Program} {ops : Array Oper} {rest : List Oper} {o : Oper} {a : Act} {w : World} {Q : Exit → Act → World → Prop} (hgd : o.guard = none) (s x : Operand) (t : TypeId) (ho : o.op = .call { callee := .builtin .append, args := #[s, x], argTypes := #[t, t] })
    (e : TypeId) (i : TypeInfo) (ht : P.underlying t = some (.slice e)) (hi : P.info? e = some i)
    (hs : a.eval s = .slice none 0 0) (A : Option Addr) (m c : Nat) (hx : a.eval x = .slice A m c) (hm : m = 0)
    (h : wpList P ops Q rest (a.put o.dst (.slice none 0 0)) w) : wpList P ops Q (o :: rest) a w := by
  subst hm
  refine wpList_plain hgd fun K hK => ?_
  have hr : (Builtin.append_ #[t, t] o.type #[.slice none 0 0, .slice A 0 c]).run P w = .ok (.slice none 0 0) w := by
    have hf : (Builtin.firstCells i.size 0 (.slice A 0 c)).run P w = .ok (([] : List Value).toArray) w := by
      cases A with
      | none => exact run_firstCells_none w i.size 0 0 c
      | some ad => exact run_firstCells_some w i.size 0 ad 0 c [] (by simp) (fun j u hj => by simp at hj)
    simp [Builtin.append_, run_underlying ht, sizeOf, typeInfo, hi, Builtin.lenOf, hf]
  unfold Oper.wp execOp
  simp only [ho, resolve, invoke, builtin, Sem.run_bind, Sem.run_pure, Result.andThen_ok, List.map_toArray, List.map_cons, List.map_nil, hs, hx, hr]
  exact hK _ _ h

set_option maxHeartbeats 1000000 in
/-- append(nil, s...) of a string: as many bytes as there may be -/
theorem run_append_fresh {P : Program} (w : World) (B : Nat) (t u ty e : TypeId) (i : TypeInfo) (ht : P.underlying t = some (.slice e)) (hu : P.underlying u = some .string)
    (hi : P.info? e = some i) (hz : i.zero = some (.int .u8 0)) (hsize : i.size = 1) (hby : i.bytes = 1) (b : ByteArray) (hbytes : b.size ≤ 281474976710656) (hB : B ≤ w.heap.size) :
    ∃ v' w', (Builtin.append_ #[t, u] ty #[.slice none 0 0, .string b]).run P w = .ok v' w' ∧ Ow w' B e 1 v' b.size (b.data.toList.map v8) ∧ w.grownBy w' none := by
  obtain ⟨m, hm⟩ : ∃ m, m = b.size := ⟨_, rfl⟩
  obtain ⟨news, hn⟩ : ∃ news, news = b.data.toList.map v8 := ⟨_, rfl⟩
  have hl : news.length = m := by rw [hn, hm]; simp
  have hf : ∀ w' : World, (Builtin.firstCells 1 m (.string b)).run P w' = .ok news.toArray w' := by
    intro w'
    have e1 : news.toArray = (b.extract 0 b.size).data.map fun b => Value.int .u8 b.toNat := by
      have : b.extract 0 b.size = b := by simp
      rw [this, hn]
      apply Array.ext'
      simp
      intro a _
      rfl
    rw [e1, hm]
    simp [Builtin.firstCells]
  have hlen : ∀ w', (Builtin.lenOf (.string b)).run P w' = .ok m w' := by intro w'; rw [hm]; rfl
  rw [← hm] at hbytes ⊢
  rw [← hn]
  clear hn hm
  have h63 : m ≤ maxLen := by simp only [maxLen]; omega
  by_cases h0 : m = 0
  · subst h0
    have hn : news = [] := List.eq_nil_of_length_eq_zero hl
    subst hn
    refine ⟨.slice none 0 0, w, ?_, Ow.nil w B e 1, World.grownBy.refl w _⟩
    have hf' := hf w
    simp [Builtin.append_, run_underlying ht, run_underlying hu, sizeOf, typeInfo, hi, hsize, hlen, hf']
  · have hge := grownCap_ge w m 0 e
    have hcm : grownCap w m 0 e ≤ maxLen := grownCap_le_maxLen w m 0 e h63
    have h63' : ¬ (9223372036854775807 < (m : Int)) := by omega
    have h48' : ¬ (281474976710656 < Builtin.nextslicecap m 0 * i.bytes) := by rw [nextslicecap_zero (by omega), hby]; omega
    have hf' := hf w.drew
    refine ⟨.slice (some ⟨w.heap.size, 0, none⟩) m (grownCap w m 0 e), w.drew.alloc (.cells (news.toArray ++ Builtin.zeroCells (Value.int .u8 0).cells (grownCap w m 0 e - m)) e), ?_, ⟨by simpa using hl, .inr ⟨w.heap.size, _, _, (0, 0), rfl, hB, heap_alloc_new w.drew _, .inl rfl, hge, hcm, ?_, ?_⟩⟩, ⟨rfl, rfl, rfl, by simp, fun k hk _ => heap_alloc_old w.drew _ hk⟩⟩
    · rw [hby, Nat.mul_one] at h48'
      simp [Builtin.append_, run_underlying ht, run_underlying hu, sizeOf, typeInfo, zeroValue, hi, hz, hsize, hby, hlen, h0, h63', h48', Question.forced, run_firstCells_none, hf', newRow, grownCap]
    · simp only [Array.size_append, List.size_toArray, size_zeroCells, hl, Nat.mul_one]
      show m + (grownCap w m 0 e - m) * 1 = grownCap w m 0 e
      omega
    · simp only [Array.toList_append, Nat.mul_one]
      rw [← hl]
      exact List.take_left

theorem wpList_append_fresh {P : Program} {ops : Array Oper} {rest : List Oper} {o : Oper} {a : Act} {w : World} {Q : Exit → Act → World → Prop} (hgd : o.guard = none) (s x : Operand) (t u : TypeId) (ho : o.op = .call { callee := .builtin .append, args := #[s, x], argTypes := #[t, u] })
    (B : Nat) (e : TypeId) (i : TypeInfo) (ht : P.underlying t = some (.slice e)) (hu : P.underlying u = some .string) (hi : P.info? e = some i) (hz : i.zero = some (.int .u8 0)) (hsize : i.size = 1) (hby : i.bytes = 1)
    (hs : a.eval s = .slice none 0 0) (b : ByteArray) (hx : a.eval x = .string b) (hbytes : b.size ≤ 281474976710656) (hB : B ≤ w.heap.size)
    (h : ∀ v' w', Ow w' B e 1 v' b.size (b.data.toList.map v8) → w.grownBy w' none → wpList P ops Q rest (a.put o.dst v') w') : wpList P ops Q (o :: rest) a w := by
  refine wpList_plain hgd fun K hK => ?_
  obtain ⟨v', w', hr, h2, h3⟩ := run_append_fresh w B t u o.type e i ht hu hi hz hsize hby b hbytes hB
  unfold Oper.wp execOp
  simp only [ho, resolve, invoke, builtin, Sem.run_bind, Sem.run_pure, Result.andThen_ok, List.map_toArray, List.map_cons, List.map_nil, hs, hx, hr]
  exact hK _ _ (h v' w' h2 h3)

end Go.Proofs.Ytkkfpgkogggfdaa.Cw
