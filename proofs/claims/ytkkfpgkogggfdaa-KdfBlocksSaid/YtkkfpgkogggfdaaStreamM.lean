/-
  (package hash) New makes a stream over a hash into which nothing was written. No condition.
-/
import Derived.Test.YtkkfpgkogggfdaaStreamN
import Derived.Test.YtkkfpgkogggfdaaBind
import Derived.Laws.EntriesVeiled
set_option linter.unusedSimpArgs false
set_option linter.unusedVariables false
namespace Go.Proofs.Ytkkfpgkogggfdaa.Cw
open Go Go.RowKit

theorem cell_lt {w : World} {g i : Nat} {v : Value} (h : w.cell? ⟨g, i, none⟩ = some v) : g < w.heap.size := by
  rcases Nat.lt_or_ge g w.heap.size with h1 | h1
  · exact h1
  · have e : w.heap[g]? = none := by simpa using h1
    rw [World.cell?, e] at h
    cases h
theorem But.cell {b : Nat} {w w' : World} (h : But b w w') {g i : Nat} {v : Value} (hne : g ≠ b) (hc : w.cell? ⟨g, i, none⟩ = some v) : w'.cell? ⟨g, i, none⟩ = some v :=
  (World.cell?_of_block (h.block g (cell_lt hc) (by simpa using hne))).trans hc

theorem HashAt.below' {w w' : World} {b : Nat} {p : Nat → Prop} {bits : Nat} {m : List UInt8} (h : HashAt w b p bits m) (hb : Below w.heap.size w w') : HashAt w' b p bits m :=
  h.keep hb.size (hb.block b h.lt) fun g _ hg => hb.block g hg
theorem HashAtL.below' {w w' : World} {b : Nat} {p : Nat → Prop} {bits : Nat} {m : List UInt8} (h : HashAtL w b p bits m) (hb : Below w.heap.size w w') : HashAtL w' b p bits m :=
  h.keep hb.size (hb.block b h.lt) fun g _ hg => hb.block g hg
theorem HashAt.weak {w : World} {b : Nat} {p q : Nat → Prop} {bits : Nat} {m : List UInt8} (h : HashAt w b p bits m) (hq : ∀ g, g < w.heap.size → p g → q g) : HashAt w b q bits m := by
  obtain ⟨A, c, h1, h2⟩ := h
  exact ⟨A, c, h1, h2.weak hq⟩
theorem HashAtL.weak {w : World} {b : Nat} {p q : Nat → Prop} {bits : Nat} {m : List UInt8} (h : HashAtL w b p bits m) (hq : ∀ g, g < w.heap.size → p g → q g) : HashAtL w b q bits m := by
  obtain ⟨A, c, h1, h2⟩ := h
  exact ⟨A, c, h1, h2.weak hq⟩
theorem stream_mk32 {w : World} {s cw ch cs b id : Nat} {p : Nat → Prop} (h2 : id ≤ 2) (hs : w.heap[s]? = some (.cells #[.nilFunc, .nilFunc] 59 (0, 0))) (hh : ∀ p, HashAt w b p (bitsOf id) [])
    (e1 : s ≠ b) (e2 : cw ≠ s) (e3 : ch ≠ s) (e4 : cs ≠ s) (d1 : w.cell? ⟨cw, 0, none⟩ = some (.func (.func 30) #[] #[])) (d2 : w.cell? ⟨cs, 0, none⟩ = some (.func (.func 31) #[] #[])) (d3 : w.cell? ⟨ch, 0, none⟩ = some (.pointer (some ⟨b, 0, none⟩)))
    (p1 : p s) (p2 : p cw) (p3 : p ch) (p4 : p cs) : StreamAt ((w.setCell ⟨s, 0, none⟩ (.func (.func 42) #[] #[.pointer (some ⟨cw, 0, none⟩), .pointer (some ⟨ch, 0, none⟩)])).setCell ⟨s, 1, none⟩ (.func (.func 43) #[] #[.pointer (some ⟨cs, 0, none⟩), .pointer (some ⟨ch, 0, none⟩)])) s b id p ByteArray.empty := by
  have hB := ((But.refl s w).setCell (a := ⟨s, 0, none⟩) (.inl rfl) (.func (.func 42) #[] #[.pointer (some ⟨cw, 0, none⟩), .pointer (some ⟨ch, 0, none⟩)])).setCell (a := ⟨s, 1, none⟩) (.inl rfl) (.func (.func 43) #[] #[.pointer (some ⟨cs, 0, none⟩), .pointer (some ⟨ch, 0, none⟩)])
  refine ⟨cw, ch, cs, ?_, p1, p2, p3, p4, (set_of (set_of hs 0 _) 1 _).trans ?_, ?_, ?_, hB.cell e3 d3⟩
  · simp only [Inner, if_pos h2]
    refine HashAt.weak (p := fun _ => False) (HashAt.keep (hh _) hB.size (hB.block b (hh p).lt (by simpa using fun e => e1 e.symm)) (fun g h => h.elim)) (fun g _ h => h.elim)
  · simp only [if_pos h2]; rfl
  · simp only [if_pos h2]; exact hB.cell e2 d1
  · simp only [if_pos h2]; exact hB.cell e4 d2
theorem stream_mk64 {w : World} {s cw ch cs b id : Nat} {p : Nat → Prop} (h2 : ¬ id ≤ 2) (hs : w.heap[s]? = some (.cells #[.nilFunc, .nilFunc] 59 (0, 0))) (hh : ∀ p, HashAtL w b p (bitsOf id) [])
    (e1 : s ≠ b) (e2 : cw ≠ s) (e3 : ch ≠ s) (e4 : cs ≠ s) (d1 : w.cell? ⟨cw, 0, none⟩ = some (.func (.func 34) #[] #[])) (d2 : w.cell? ⟨cs, 0, none⟩ = some (.func (.func 35) #[] #[])) (d3 : w.cell? ⟨ch, 0, none⟩ = some (.pointer (some ⟨b, 0, none⟩)))
    (p1 : p s) (p2 : p cw) (p3 : p ch) (p4 : p cs) : StreamAt ((w.setCell ⟨s, 0, none⟩ (.func (.func 48) #[] #[.pointer (some ⟨cw, 0, none⟩), .pointer (some ⟨ch, 0, none⟩)])).setCell ⟨s, 1, none⟩ (.func (.func 49) #[] #[.pointer (some ⟨cs, 0, none⟩), .pointer (some ⟨ch, 0, none⟩)])) s b id p ByteArray.empty := by
  have hB := ((But.refl s w).setCell (a := ⟨s, 0, none⟩) (.inl rfl) (.func (.func 48) #[] #[.pointer (some ⟨cw, 0, none⟩), .pointer (some ⟨ch, 0, none⟩)])).setCell (a := ⟨s, 1, none⟩) (.inl rfl) (.func (.func 49) #[] #[.pointer (some ⟨cs, 0, none⟩), .pointer (some ⟨ch, 0, none⟩)])
  refine ⟨cw, ch, cs, ?_, p1, p2, p3, p4, (set_of (set_of hs 0 _) 1 _).trans ?_, ?_, ?_, hB.cell e3 d3⟩
  · simp only [Inner, if_neg h2]
    refine HashAtL.weak (p := fun _ => False) (HashAtL.keep (hh _) hB.size (hB.block b (hh p).lt (by simpa using fun e => e1 e.symm)) (fun g h => h.elim)) (fun g _ h => h.elim)
  · simp only [if_neg h2]; rfl
  · simp only [if_neg h2]; exact hB.cell e2 d1
  · simp only [if_neg h2]; exact hB.cell e4 d2

set_option maxRecDepth 100000 in
theorem strm_no (c : Int) (h : ¬ (1 ≤ c ∧ c ≤ 4)) (w : World) : Calls Try.prog 16 #[.int .i64 c] w fun e w' => e = .returned (.tuple #[.pointer none, .int .i64 900]) ∧ Below w.heap.size w w' := by
  go_enter Try.func16, Try.ntmps16
  go_wp2_with (first
    | (go_at_call 15; refine (kind_no c h w).mono ?_; rintro e w1 ⟨rfl, hb1⟩)
    | (refine wpList_store_blk rfl 37 _ _ rfl w1.heap.size rfl _ _ #[.int .i64 0, .int .i64 0, .int .i64 0] rfl (new1 _ _) (by kernel_rfl) (by kernel_rfl) (by intro u hu; simp at hu; rcases hu with rfl | rfl | rfl <;> rfl) ?_
       intro w2 hw2 hb2 hs2
       have hB2 : Below w.heap.size w w2 := But.below (hb1.alloc hb1.size _) hb2 hb1.size (by have := hb1.size; simp; omega)
       clear hs2))
  go_ret2
  exact ⟨rfl, hB2⟩

set_option maxRecDepth 100000 in
theorem strm_yes (id : Nat) (h : isId id) (w : World) : Calls Try.prog 16 #[.int .i64 id] w fun e w' => ∃ s b, e = .returned (.tuple #[.pointer (some ⟨s, 0, none⟩), .int .i64 0]) ∧ (∀ p : Nat → Prop, (∀ g, w.heap.size ≤ g → g ≠ b → p g) → StreamAt w' s b id p ByteArray.empty) ∧ w.heap.size ≤ b ∧ b < w'.heap.size ∧ Below w.heap.size w w' := by
  go_enter Try.func16, Try.ntmps16
  by_cases h2 : id ≤ 2
  · have hbl : blockOf id = 64 := if_pos h2
    have hbits : bitsOf id = 224 ∨ bitsOf id = 256 := by unfold bitsOf; unfold isId at h; split; exact .inl rfl; split; exact .inr rfl; omega
    go_wp2_with (first
      | (go_at_call 15; refine (kind_yes id h w).mono ?_; rintro e w1 ⟨rfl, hb1⟩)
      | (go_at_call 28; refine (new32_yes _ _ hbits).mono ?_; rintro e w3 ⟨b, rfl, hh, hbl3, hb3⟩
         have hs3 := below_heap hb3 (by simp) (new2 _ _ _)
         have HS3 := Lib.hid hs3
         have HH := Lib.hid hh; clear hh hs3)
      | (go_at_call 29; refine (bind32_calls b w3).mono ?_; rintro e w4 ⟨cw, ch, cs, rfl, g1, g2, g3, d1, d2, d3, hb4⟩
         have hs4 := below_heap hb4 (lt_of HS3.out) HS3.out
         have HS4 := Lib.hid hs4
         have c0 := cell_of hs4 0
         have c1 := cell_of hs4 1
         simp at c0 c1
         have f0 := frozen_of hs4 0
         have f1 := frozen_of hs4 1
         clear hs4))
    go_ret2
    have z1 := hb1.size
    have z3 := hb3.size
    have z4 := hb4.size
    simp at z3 hbl3
    have hbl4 := (HH.out (fun _ => True)).lt
    refine ⟨_, b, rfl, fun p hp => stream_mk32 h2 HS4.out (fun p => HashAt.below' (HH.out p) hb4) (by omega) (by omega) (by omega) (by omega) d1 d2 d3 (hp _ (by omega) (by omega)) (hp _ (by omega) (by omega)) (hp _ (by omega) (by omega)) (hp _ (by omega) (by omega)), by omega, by simp; omega, ?_⟩
    exact ((((((hb1.alloc hb1.size _).alloc (by simp; omega) _).trans (hb3.mono (by simp; omega))).trans (hb4.mono (by omega))).setCell (by simp; omega) _).setCell (by simp; omega) _)
  · have hbl : blockOf id = 128 := if_neg h2
    have hbits : bitsOf id = 384 ∨ bitsOf id = 512 := by unfold bitsOf; unfold isId at h; rw [if_neg (by omega), if_neg (by omega)]; split; exact .inl rfl; exact .inr rfl
    go_wp2_with (first
      | (go_at_call 15; refine (kind_yes id h w).mono ?_; rintro e w1 ⟨rfl, hb1⟩)
      | (go_at_call 32; refine (new64_yes _ _ hbits).mono ?_; rintro e w3 ⟨b, rfl, hh, hbl3, hb3⟩
         have hs3 := below_heap hb3 (by simp) (new2 _ _ _)
         have HS3 := Lib.hid hs3
         have HH := Lib.hid hh; clear hh hs3)
      | (go_at_call 33; refine (bind64_calls b w3).mono ?_; rintro e w4 ⟨cw, ch, cs, rfl, g1, g2, g3, d1, d2, d3, hb4⟩
         have hs4 := below_heap hb4 (lt_of HS3.out) HS3.out
         have HS4 := Lib.hid hs4
         have c0 := cell_of hs4 0
         have c1 := cell_of hs4 1
         simp at c0 c1
         have f0 := frozen_of hs4 0
         have f1 := frozen_of hs4 1
         clear hs4))
    go_ret2
    have z1 := hb1.size
    have z3 := hb3.size
    have z4 := hb4.size
    simp at z3 hbl3
    have hbl4 := (HH.out (fun _ => True)).lt
    refine ⟨_, b, rfl, fun p hp => stream_mk64 h2 HS4.out (fun p => HashAtL.below' (HH.out p) hb4) (by omega) (by omega) (by omega) (by omega) d1 d2 d3 (hp _ (by omega) (by omega)) (hp _ (by omega) (by omega)) (hp _ (by omega) (by omega)) (hp _ (by omega) (by omega)), by omega, by simp; omega, ?_⟩
    exact ((((((hb1.alloc hb1.size _).alloc (by simp; omega) _).trans (hb3.mono (by simp; omega))).trans (hb4.mono (by omega))).setCell (by simp; omega) _).setCell (by simp; omega) _)
end Go.Proofs.Ytkkfpgkogggfdaa.Cw
