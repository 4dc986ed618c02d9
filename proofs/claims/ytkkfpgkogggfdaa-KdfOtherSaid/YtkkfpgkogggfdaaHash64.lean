/-
  (package sha512) What New, Write, Sum and Of do: a hash holds what was written; its digest is dig64. Condition: a text takes at most 2^46 bytes.
-/
import Derived.Test.YtkkfpgkogggfdaaCom
import Derived.Test.YtkkfpgkogggfdaaBlocks64
import Derived.Test.YtkkfpgkogggfdaaOwn
import Derived.Deep.DeepMust
set_option linter.unusedSimpArgs false
set_option linter.unusedVariables false
namespace Go.Proofs.Ytkkfpgkogggfdaa.Cw
open Go Go.RowKit
attribute [local go_sem ↓ high] conv_len
attribute [local go_sem ↓ high] bin_or64 bin_xor64 bin_and64 bin_add64 bin_shr64 bin_shl64
attribute [local go_sem ↓ high] cells_v8 cells_v64 run_store_v8 run_store_v64
attribute [local go_sem high] match_v8 match_v64 run_store_v8 run_store_v64

/-- a hash into which m was written, at block b; what is left of m lies in a block of which p holds -/
def HashAtL (w : World) (b : Nat) (p : Nat → Prop) (bits : Nat) (m : List UInt8) : Prop :=
  ∃ A c, w.heap[b]? = some (.cells (hobj v64 80 (.int .i64 bits) (abs64 k512 (beg64 bits) m (m.length / 128)) k512 (.slice A (m.length % 128) c) (v64 (UInt64.ofNat m.length))) 92 (0, 0)) ∧ Rd w p A (m.length % 128) c (m.drop (128 * (m.length / 128)))

theorem HashAtL.keep {w w' : World} {b : Nat} {p : Nat → Prop} {bits : Nat} {m : List UInt8} (h : HashAtL w b p bits m) (hs : w.heap.size ≤ w'.heap.size) (hb : w'.heap[b]? = w.heap[b]?) (hk : ∀ g, p g → g < w.heap.size → w'.heap[g]? = w.heap[g]?) : HashAtL w' b p bits m := by
  obtain ⟨A, c, h1, h2⟩ := h
  exact ⟨A, c, hb.trans h1, h2.keep hs hk⟩
theorem HashAtL.lt {w : World} {b : Nat} {p : Nat → Prop} {bits : Nat} {m : List UInt8} (h : HashAtL w b p bits m) : b < w.heap.size := by
  obtain ⟨A, c, h1, h2⟩ := h
  exact lt_of h1

set_option maxRecDepth 100000 in
set_option maxHeartbeats 400000 in
theorem write64_calls (b : Nat) (p : Nat → Prop) (bits : Nat) (m : List UInt8) (s : ByteArray) (w : World) (hp : ∀ g, w.heap.size ≤ g → p g) (hpb : ∀ g, p g → g ≠ b) (hs : s.size ≤ 140737488355200) (hh : HashAtL w b p bits m) :
    Calls Try.prog 34 #[.pointer (some ⟨b, 0, none⟩), .string s] w fun e w' => e = .returned (.int .i64 0) ∧ HashAtL w' b p bits (m ++ s.data.toList) ∧ But b w w' := by
  obtain ⟨A, c, ho, hr⟩ := hh
  have hbl := lt_of ho
  obtain ⟨i0, hi, hz0, hz1, hz2⟩ := info_parts info_u8
  have HI := Lib.hid hi
  have HZ0 := Lib.hid hz0
  have HZ1 := Lib.hid hz1
  have HZ2 := Lib.hid hz2
  clear hi hz0 hz1 hz2
  have h74 : w.cell? ⟨b, 90, none⟩ = some (v64 (UInt64.ofNat m.length)) := (cell_of ho _).trans (hobj_len v64 80 _ _ _ _ _)
  have f74 : w.frozen? ⟨b, 90, none⟩ = false := frozen_of ho _
  have h73 : w.cell? ⟨b, 89, none⟩ = some (.slice A (m.length % 128) c) := (cell_of ho _).trans (hobj_rest v64 80 _ _ _ _ _)
  have HO := Lib.hid ho
  have HR := Lib.hid hr
  clear ho hr
  go_enter Try.func34, Try.ntmps34
  obtain ⟨L, hL⟩ : ∃ L, L = m.drop (128 * (m.length / 128)) := ⟨_, rfl⟩
  obtain ⟨r, hr⟩ : ∃ r, r = m.length % 128 := ⟨_, rfl⟩
  rw [← hL, ← hr] at HR
  rw [← hr] at HO h73
  have hr64 : r < 128 := by omega
  have HL := Lib.hid hL
  have Hr := Lib.hid hr
  clear hL hr
  have tok1 : True := trivial
  have tok2 : True := trivial
  go_wp2_with (first
    | (at_builtin
       have _t := tok1
       refine wpList_append_rd rfl (.const (.slice none 0 0)) (.tmp 21) 33 rfl w.heap.size 5 i0 Try.underlying33 HI.out HZ0.out HZ1.out HZ2.out (.slice none 0 0) 0 [] rfl (Ow.nil _ _ _ _) A r c L p rfl (HR.out.but ((But.refl b w).setCell (.inl rfl) _) hpb) (by omega) (by rw [size_set]; exact Nat.le_refl _) ?_
       intro v1 w1 hown1 hg1 hat1
       simp only [Nat.zero_add, List.nil_append] at hown1
       have hb1 : Below w.heap.size (w.setCell ⟨b, 90, none⟩ (v64 (UInt64.ofNat m.length + UInt64.ofNat s.size))) w1 := (Below.refl _ _).grown hg1 (by rw [size_set]; exact Nat.le_refl _) (fun k hk => by simp [Value.ownBlock] at hk)
       have hs1 : w.heap.size ≤ w1.heap.size := by have := hb1.size; rw [size_set] at this; exact this
       have HAT := Lib.hid hat1
       clear hat1 hg1 tok1 _t
       skip)
    | (at_builtin
       have _t := tok2
       refine wpList_append_str rfl (.tmp 22) (.tmp 23) 33 9 rfl w.heap.size 5 i0 Try.underlying33 Try.underlying9 HI.out HZ0.out HZ1.out HZ2.out v1 r L rfl hown1 s rfl (by omega) hs1 ?_
       intro v2 w2 hown2 hg2 hat2
       have hb2 := hb1.grown hg2 hs1 (fun k hk => (hown1.lt k hk).1)
       have hs2 : w.heap.size ≤ w2.heap.size := by have := hb2.size; rw [size_set] at this; exact this
       have HG2 := Lib.hid hg2
       clear hat2 hg2
       obtain ⟨A2, c2, rfl, hc2⟩ := hown2.slice
       have hr2 := hown2.rd (fun g => w.heap.size ≤ g) (fun g h => h)
       have HR2 := Lib.hid hr2
       have HO2 := Lib.hid (below_heap hb2 hbl ((set_of HO.out 90 (v64 (UInt64.ofNat m.length + UInt64.ofNat s.size))).trans (congrArg (fun c => some (Obj.cells c 92 (0, 0))) (hobj_set_len v64 80 _ _ _ _ _ _))))
       have HW2 := Lib.hid hown2
       clear hr2 hown2 tok2 _t
       skip)
    | (go_at_call 50
       refine (blocks64_calls b A2 _ c2 _ _ _ _ _ w2 (by omega) (HR2.out.weak fun g _ h => by omega) HO2.out).mono ?_
       rintro e w3 ⟨A3, c3, rfl, ho3, hr3, hb3⟩
       have HO3 := Lib.hid ho3
       have HR3 := Lib.hid hr3
       have hs3 := hb3.size
       clear ho3 hr3
       skip)
    | (at_builtin
       go_must (
         refine wpList_append_rd rfl (.const (.slice none 0 0)) (.tmp 29) 33 rfl w.heap.size 5 i0 Try.underlying33 HI.out HZ0.out HZ1.out HZ2.out (.slice none 0 0) 0 [] rfl (Ow.nil _ _ _ _) A3 ((r + s.size) % 128) c3 _ (· ≠ b) rfl HR3.out (by omega) (by omega) ?_
         intro v4 w4 hown4 hg4 hat4
         simp only [Nat.zero_add, List.nil_append] at hown4
         have hb4 : Below w3.heap.size w3 w4 := (Below.refl _ _).grown hg4 (Nat.le_refl _) (fun k hk => by simp [Value.ownBlock] at hk)
         have ho4 := below_heap hb4 (by omega) HO3.out
         have HO4 := Lib.hid ho4
         obtain ⟨A4, c4, rfl, hc4⟩ := hown4.slice
         have HR4 := Lib.hid (hown4.rd p hp)
         have g73 := (cell_of ho4 89).trans (hobj_rest v64 80 _ _ _ _ _)
         have e73 : w4.frozen? ⟨b, 89, none⟩ = false := frozen_of ho4 _
         clear hat4 hg4 hown4 ho4)))
  go_ret
  refine ⟨rfl, ⟨A4, c4, ?_, ?_⟩, ?_⟩
  · refine (set_of HO4.out 89 _).trans ?_
    rw [show (89 : Nat) = 9 + 80 from rfl, hobj_set_rest, app_absL, app_modL, ← Hr.out, ← HL.out, List.length_append, UInt64.ofNat_add]
    rfl
  · have := Rd.but HR4.out ((But.refl b w4).setCell (a := ⟨b, 89, none⟩) (.inl rfl) (.slice A4 ((r + s.size) % 128) c4)) hpb
    rw [app_modL, app_restL, ← Hr.out, ← HL.out]
    exact this
  · refine But.setCell ?_ (.inl rfl) _
    have e2 : But b w w2 := But.trans ((But.refl b w).setCell (.inl rfl) _) ⟨hb2.os, hb2.tape, hb2.output, hb2.size, fun i hi _ => hb2.block i (by rw [size_set] at hi; exact hi)⟩
    exact (e2.trans hb3).trans (But.of_below hb4)
set_option maxRecDepth 100000 in
set_option maxHeartbeats 400000 in
theorem write64_fresh (b : Nat) (p : Nat → Prop) (bits : Nat) (m : List UInt8) (s : ByteArray) (w : World) (hp : ∀ g, w.heap.size ≤ g → p g) (hpb : ∀ g, p g → g ≠ b) (hs : s.size ≤ 281474976710656) (hm : m = []) (hh : HashAtL w b p bits m) :
    Calls Try.prog 34 #[.pointer (some ⟨b, 0, none⟩), .string s] w fun e w' => e = .returned (.int .i64 0) ∧ HashAtL w' b p bits (m ++ s.data.toList) ∧ But b w w' := by
  obtain ⟨A, c, ho, hr⟩ := hh
  have hbl := lt_of ho
  obtain ⟨i0, hi, hz0, hz1, hz2⟩ := info_parts info_u8
  have HI := Lib.hid hi
  have HZ0 := Lib.hid hz0
  have HZ1 := Lib.hid hz1
  have HZ2 := Lib.hid hz2
  clear hi hz0 hz1 hz2
  have h74 : w.cell? ⟨b, 90, none⟩ = some (v64 (UInt64.ofNat m.length)) := (cell_of ho _).trans (hobj_len v64 80 _ _ _ _ _)
  have f74 : w.frozen? ⟨b, 90, none⟩ = false := frozen_of ho _
  have h73 : w.cell? ⟨b, 89, none⟩ = some (.slice A (m.length % 128) c) := (cell_of ho _).trans (hobj_rest v64 80 _ _ _ _ _)
  have HO := Lib.hid ho
  have HR := Lib.hid hr
  clear ho hr
  go_enter Try.func34, Try.ntmps34
  obtain ⟨L, hL⟩ : ∃ L, L = m.drop (128 * (m.length / 128)) := ⟨_, rfl⟩
  obtain ⟨r, hr⟩ : ∃ r, r = m.length % 128 := ⟨_, rfl⟩
  rw [← hL, ← hr] at HR
  rw [← hr] at HO h73
  have hr64 : r < 128 := by omega
  have HR0 := Lib.hid (show r = 0 by rw [hr, hm]; rfl)
  have HL0 := Lib.hid (show L = [] by rw [hL, hm]; rfl)
  clear hm
  have HL := Lib.hid hL
  have Hr := Lib.hid hr
  clear hL hr
  have tok1 : True := trivial
  have tok2 : True := trivial
  go_wp2_with (first
    | (at_builtin
       have _t := tok1
       refine wpList_append_none rfl (.const (.slice none 0 0)) (.tmp 21) 33 rfl 5 i0 Try.underlying33 HI.out rfl A r c rfl HR0.out ?_
       have hb1 : Below w.heap.size (w.setCell ⟨b, 90, none⟩ (v64 (UInt64.ofNat m.length + UInt64.ofNat s.size))) (w.setCell ⟨b, 90, none⟩ (v64 (UInt64.ofNat m.length + UInt64.ofNat s.size))) := Below.refl _ _
       have hs1 : w.heap.size ≤ (w.setCell ⟨b, 90, none⟩ (v64 (UInt64.ofNat m.length + UInt64.ofNat s.size))).heap.size := by rw [size_set]; exact Nat.le_refl _
       clear tok1 _t
       skip)
    | (at_builtin
       have _t := tok2
       refine wpList_append_fresh rfl (.tmp 22) (.tmp 23) 33 9 rfl w.heap.size 5 i0 Try.underlying33 Try.underlying9 HI.out HZ0.out HZ1.out HZ2.out rfl s rfl hs hs1 ?_
       intro v2 w2 hown2 hg2
       have hown2 : Ow w2 w.heap.size 5 1 v2 (r + s.size) ((L ++ s.data.toList).map v8) := by rw [HR0.out, HL0.out, Nat.zero_add, List.nil_append]; exact hown2
       have hb2 := hb1.grown hg2 hs1 (fun k hk => by simp at hk)
       have hs2 : w.heap.size ≤ w2.heap.size := by have := hb2.size; rw [size_set] at this; exact this
       have HG2 := Lib.hid hg2
       clear hg2
       obtain ⟨A2, c2, rfl, hc2⟩ := hown2.slice
       have hr2 := hown2.rd (fun g => w.heap.size ≤ g) (fun g h => h)
       have HR2 := Lib.hid hr2
       have HO2 := Lib.hid (below_heap hb2 hbl ((set_of HO.out 90 (v64 (UInt64.ofNat m.length + UInt64.ofNat s.size))).trans (congrArg (fun c => some (Obj.cells c 92 (0, 0))) (hobj_set_len v64 80 _ _ _ _ _ _))))
       have HW2 := Lib.hid hown2
       clear hr2 hown2 tok2 _t
       skip)
    | (go_at_call 50
       refine (blocks64_calls b A2 _ c2 _ _ _ _ _ w2 (by omega) (HR2.out.weak fun g _ h => by omega) HO2.out).mono ?_
       rintro e w3 ⟨A3, c3, rfl, ho3, hr3, hb3⟩
       have HO3 := Lib.hid ho3
       have HR3 := Lib.hid hr3
       have hs3 := hb3.size
       clear ho3 hr3
       skip)
    | (at_builtin
       go_must (
         refine wpList_append_rd rfl (.const (.slice none 0 0)) (.tmp 29) 33 rfl w.heap.size 5 i0 Try.underlying33 HI.out HZ0.out HZ1.out HZ2.out (.slice none 0 0) 0 [] rfl (Ow.nil _ _ _ _) A3 ((r + s.size) % 128) c3 _ (· ≠ b) rfl HR3.out (by omega) (by omega) ?_
         intro v4 w4 hown4 hg4 hat4
         simp only [Nat.zero_add, List.nil_append] at hown4
         have hb4 : Below w3.heap.size w3 w4 := (Below.refl _ _).grown hg4 (Nat.le_refl _) (fun k hk => by simp [Value.ownBlock] at hk)
         have ho4 := below_heap hb4 (by omega) HO3.out
         have HO4 := Lib.hid ho4
         obtain ⟨A4, c4, rfl, hc4⟩ := hown4.slice
         have HR4 := Lib.hid (hown4.rd p hp)
         have g73 := (cell_of ho4 89).trans (hobj_rest v64 80 _ _ _ _ _)
         have e73 : w4.frozen? ⟨b, 89, none⟩ = false := frozen_of ho4 _
         clear hat4 hg4 hown4 ho4)))
  go_ret
  refine ⟨rfl, ⟨A4, c4, ?_, ?_⟩, ?_⟩
  · refine (set_of HO4.out 89 _).trans ?_
    rw [show (89 : Nat) = 9 + 80 from rfl, hobj_set_rest, app_absL, app_modL, ← Hr.out, ← HL.out, List.length_append, UInt64.ofNat_add]
    rfl
  · have := Rd.but HR4.out ((But.refl b w4).setCell (a := ⟨b, 89, none⟩) (.inl rfl) (.slice A4 ((r + s.size) % 128) c4)) hpb
    rw [app_modL, app_restL, ← Hr.out, ← HL.out]
    exact this
  · refine But.setCell ?_ (.inl rfl) _
    have e2 : But b w w2 := But.trans ((But.refl b w).setCell (.inl rfl) _) ⟨hb2.os, hb2.tape, hb2.output, hb2.size, fun i hi _ => hb2.block i (by rw [size_set] at hi; exact hi)⟩
    exact (e2.trans hb3).trans (But.of_below hb4)
end Go.Proofs.Ytkkfpgkogggfdaa.Cw
