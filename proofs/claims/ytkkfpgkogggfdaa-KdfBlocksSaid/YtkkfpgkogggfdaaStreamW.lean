/-
  (package hash) Write and Sum of a stream. Condition: a text takes at most 2^47 - 4096 bytes.
-/
import Derived.Test.YtkkfpgkogggfdaaStreamM
import Derived.BigQuiet
import Derived.Deep.QuietTactic
set_option linter.unusedSimpArgs false
set_option linter.unusedVariables false
namespace Go.Proofs.Ytkkfpgkogggfdaa.Cw
open Go Go.RowKit

theorem StreamAt.keep {w w' : World} {s b id : Nat} {p : Nat → Prop} {m : ByteArray} (h : StreamAt w s b id p m) (hs : w.heap.size ≤ w'.heap.size) (hb : w'.heap[b]? = w.heap[b]?) (hk : ∀ g, p g → g < w.heap.size → w'.heap[g]? = w.heap[g]?) : StreamAt w' s b id p m := by
  obtain ⟨cw, ch, cs, h1, p1, p2, p3, p4, h2, d1, d2, d3⟩ := h
  refine ⟨cw, ch, cs, ?_, p1, p2, p3, p4, (hk _ p1 (lt_of h2)).trans h2, (World.cell?_of_block (hk _ p2 (cell_lt d1))).trans d1, (World.cell?_of_block (hk _ p4 (cell_lt d2))).trans d2, (World.cell?_of_block (hk _ p3 (cell_lt d3))).trans d3⟩
  unfold Inner at h1 ⊢
  split at h1
  · rw [if_pos ‹_›]; exact HashAt.keep h1 hs hb hk
  · rw [if_neg ‹_›]; exact HashAtL.keep h1 hs hb hk
theorem StreamAt.below {w w' : World} {s b id : Nat} {p : Nat → Prop} {m : ByteArray} (h : StreamAt w s b id p m) (hl : b < w.heap.size) (hb : Below w.heap.size w w') : StreamAt w' s b id p m :=
  h.keep hb.size (hb.block b hl) fun g _ hg => hb.block g hg
theorem StreamAt.lt {w : World} {s b id : Nat} {p : Nat → Prop} {m : ByteArray} (h : StreamAt w s b id p m) : b < w.heap.size := by
  obtain ⟨cw, ch, cs, h1, _⟩ := h
  unfold Inner at h1
  split at h1
  · exact h1.lt
  · exact h1.lt

theorem eqin_writing (f : Fn) (a b : Array Value) (w : World) (d : Nat) : (Op.equalIn (d + 1) 56 (.func f a b) .nilFunc).run Try.prog w = .ok false w := by
  simp [Op.equalIn, run_underlying Try.underlying56]
theorem eql_writing (f : Fn) (a b : Array Value) (w : World) : (binOp .eql 56 (.func f a b) .nilFunc).run Try.prog w = .ok (.bool false) w := by
  simp only [binOp]
  simp [Op.equal, Op.maxDepth, eqin_writing f a b w 9999]
theorem eqin_summing (f : Fn) (a b : Array Value) (w : World) (d : Nat) : (Op.equalIn (d + 1) 57 (.func f a b) .nilFunc).run Try.prog w = .ok false w := by
  simp [Op.equalIn, run_underlying Try.underlying57]
theorem eql_summing (f : Fn) (a b : Array Value) (w : World) : (binOp .eql 57 (.func f a b) .nilFunc).run Try.prog w = .ok (.bool false) w := by
  simp only [binOp]
  simp [Op.equal, Op.maxDepth, eqin_summing f a b w 9999]
attribute [local go_sem ↓ high] eql_writing eql_summing
set_option maxRecDepth 100000 in
theorem cl32_write (b cw ch : Nat) (p : Nat → Prop) (bits : Nat) (m : List UInt8) (t : ByteArray) (w : World) (hp : ∀ g, w.heap.size ≤ g → p g) (hpb : ∀ g, p g → g ≠ b) (hs : t.size ≤ 140737488351232) (hh : HashAt w b p bits m)
    (d1 : w.cell? ⟨cw, 0, none⟩ = some (.func (.func 30) #[] #[])) (d3 : w.cell? ⟨ch, 0, none⟩ = some (.pointer (some ⟨b, 0, none⟩))) :
    Calls Try.prog 42 #[.string t, .pointer (some ⟨cw, 0, none⟩), .pointer (some ⟨ch, 0, none⟩)] w fun e w' => e = .returned (.int .i64 0) ∧ HashAt w' b p bits (m ++ t.data.toList) ∧ But b w w' := by
  have HH := Lib.hid hh
  clear hh
  go_enter Try.func42, Try.ntmps42
  go_wp2_with (go_at_call 30; refine (write32_calls b p bits m t w hp hpb (by omega) HH.out).mono ?_; rintro e w1 ⟨rfl, hh1, hb1⟩; have HH1 := Lib.hid hh1; clear hh1)
  go_ret
  exact ⟨rfl, HH1.out, hb1⟩
set_option maxRecDepth 100000 in
theorem cl32_sum (b cs ch : Nat) (p : Nat → Prop) (bits : Nat) (m : List UInt8) (w : World) (hbits : bits = 224 ∨ bits = 256) (hh : HashAt w b p bits m)
    (d1 : w.cell? ⟨cs, 0, none⟩ = some (.func (.func 31) #[] #[])) (d3 : w.cell? ⟨ch, 0, none⟩ = some (.pointer (some ⟨b, 0, none⟩))) :
    Calls Try.prog 43 #[.pointer (some ⟨cs, 0, none⟩), .pointer (some ⟨ch, 0, none⟩)] w fun e w' => e = .returned (.string ⟨(dig32 bits m).toArray⟩) ∧ Below w.heap.size w w' := by
  have HH := Lib.hid hh
  clear hh
  go_enter Try.func43, Try.ntmps43
  go_wp2_with (fail)
  refine (sum32_calls b p bits m w hbits HH.out).mono ?_
  rintro e w1 ⟨rfl, hb1⟩
  go_wp2
  go_ret
  exact ⟨rfl, hb1⟩
set_option maxRecDepth 100000 in
theorem cl64_write (b cw ch : Nat) (p : Nat → Prop) (bits : Nat) (m : List UInt8) (t : ByteArray) (w : World) (hp : ∀ g, w.heap.size ≤ g → p g) (hpb : ∀ g, p g → g ≠ b) (hs : t.size ≤ 140737488351232) (hh : HashAtL w b p bits m)
    (d1 : w.cell? ⟨cw, 0, none⟩ = some (.func (.func 34) #[] #[])) (d3 : w.cell? ⟨ch, 0, none⟩ = some (.pointer (some ⟨b, 0, none⟩))) :
    Calls Try.prog 48 #[.string t, .pointer (some ⟨cw, 0, none⟩), .pointer (some ⟨ch, 0, none⟩)] w fun e w' => e = .returned (.int .i64 0) ∧ HashAtL w' b p bits (m ++ t.data.toList) ∧ But b w w' := by
  have HH := Lib.hid hh
  clear hh
  go_enter Try.func48, Try.ntmps48
  go_wp2_with (go_at_call 34; refine (write64_calls b p bits m t w hp hpb (by omega) HH.out).mono ?_; rintro e w1 ⟨rfl, hh1, hb1⟩; have HH1 := Lib.hid hh1; clear hh1)
  go_ret
  exact ⟨rfl, HH1.out, hb1⟩
set_option maxRecDepth 100000 in
theorem cl64_sum (b cs ch : Nat) (p : Nat → Prop) (bits : Nat) (m : List UInt8) (w : World) (hbits : bits = 384 ∨ bits = 512) (hh : HashAtL w b p bits m)
    (d1 : w.cell? ⟨cs, 0, none⟩ = some (.func (.func 35) #[] #[])) (d3 : w.cell? ⟨ch, 0, none⟩ = some (.pointer (some ⟨b, 0, none⟩))) :
    Calls Try.prog 49 #[.pointer (some ⟨cs, 0, none⟩), .pointer (some ⟨ch, 0, none⟩)] w fun e w' => e = .returned (.string ⟨(dig64 bits m).toArray⟩) ∧ Below w.heap.size w w' := by
  have HH := Lib.hid hh
  clear hh
  go_enter Try.func49, Try.ntmps49
  go_wp2_with (fail)
  refine (sum64_calls b p bits m w hbits HH.out).mono ?_
  rintro e w1 ⟨rfl, hb1⟩
  go_wp2
  go_ret
  exact ⟨rfl, hb1⟩

set_option maxRecDepth 100000 in
theorem strm_write (s b id : Nat) (p : Nat → Prop) (m t : ByteArray) (w : World) (hp : ∀ g, w.heap.size ≤ g → p g) (hpb : ∀ g, p g → g ≠ b) (hs : t.size ≤ 140737488351232) (hh : StreamAt w s b id p m) :
    Calls Try.prog 17 #[.pointer (some ⟨s, 0, none⟩), .string t] w fun e w' => e = .returned (.int .i64 0) ∧ StreamAt w' s b id p (m ++ t) ∧ But b w w' := by
  have h0 := hh
  obtain ⟨cw, ch, cs, h1, p1, p2, p3, p4, h2, d1, d2, d3⟩ := hh
  have HS := Lib.hid h0
  have H1 := Lib.hid h1
  have H2 := Lib.hid h2
  have c0 := cell_of h2 0
  have c1 := cell_of h2 1
  simp at c0 c1
  clear h0 h1 h2
  by_cases hid : id ≤ 2
  · simp only [if_pos hid] at c0 c1 d1 d2
    have HI := Lib.hid (show HashAt w b p (bitsOf id) m.data.toList from by have := H1.out; unfold Inner at this; rw [if_pos hid] at this; exact this)
    go_enter Try.func17, Try.ntmps17
    go_wp2_with (go_at_call 42; refine (cl32_write b cw ch p _ _ t w hp hpb hs HI.out d1 d3).mono ?_; rintro e w1 ⟨rfl, hh1, hb1⟩; have HH1 := Lib.hid hh1; clear hh1)
    go_ret
    exact ⟨rfl, ⟨cw, ch, cs, by unfold Inner; rw [if_pos hid]; simpa using HH1.out, p1, p2, p3, p4, hb1.heap (hpb _ p1) H2.out, by rw [if_pos hid]; exact hb1.cell (hpb _ p2) d1, by rw [if_pos hid]; exact hb1.cell (hpb _ p4) d2, hb1.cell (hpb _ p3) d3⟩, hb1⟩
  · simp only [if_neg hid] at c0 c1 d1 d2
    have HI := Lib.hid (show HashAtL w b p (bitsOf id) m.data.toList from by have := H1.out; unfold Inner at this; rw [if_neg hid] at this; exact this)
    go_enter Try.func17, Try.ntmps17
    go_wp2_with (go_at_call 48; refine (cl64_write b cw ch p _ _ t w hp hpb hs HI.out d1 d3).mono ?_; rintro e w1 ⟨rfl, hh1, hb1⟩; have HH1 := Lib.hid hh1; clear hh1)
    go_ret
    exact ⟨rfl, ⟨cw, ch, cs, by unfold Inner; rw [if_neg hid]; simpa using HH1.out, p1, p2, p3, p4, hb1.heap (hpb _ p1) H2.out, by rw [if_neg hid]; exact hb1.cell (hpb _ p2) d1, by rw [if_neg hid]; exact hb1.cell (hpb _ p4) d2, hb1.cell (hpb _ p3) d3⟩, hb1⟩

set_option maxRecDepth 100000 in
theorem cl32_fresh (b cw ch : Nat) (p : Nat → Prop) (bits : Nat) (m : List UInt8) (t : ByteArray) (w : World) (hp : ∀ g, w.heap.size ≤ g → p g) (hpb : ∀ g, p g → g ≠ b) (hs : t.size ≤ 281474976710656) (hm : m = []) (hh : HashAt w b p bits m)
    (d1 : w.cell? ⟨cw, 0, none⟩ = some (.func (.func 30) #[] #[])) (d3 : w.cell? ⟨ch, 0, none⟩ = some (.pointer (some ⟨b, 0, none⟩))) :
    Calls Try.prog 42 #[.string t, .pointer (some ⟨cw, 0, none⟩), .pointer (some ⟨ch, 0, none⟩)] w fun e w' => e = .returned (.int .i64 0) ∧ HashAt w' b p bits (m ++ t.data.toList) ∧ But b w w' := by
  have HH := Lib.hid hh
  clear hh
  go_enter Try.func42, Try.ntmps42
  go_wp2_with (go_at_call 30; refine (write32_fresh b p bits m t w hp hpb hs hm HH.out).mono ?_; rintro e w1 ⟨rfl, hh1, hb1⟩; have HH1 := Lib.hid hh1; clear hh1)
  go_ret
  exact ⟨rfl, HH1.out, hb1⟩
set_option maxRecDepth 100000 in
theorem cl64_fresh (b cw ch : Nat) (p : Nat → Prop) (bits : Nat) (m : List UInt8) (t : ByteArray) (w : World) (hp : ∀ g, w.heap.size ≤ g → p g) (hpb : ∀ g, p g → g ≠ b) (hs : t.size ≤ 281474976710656) (hm : m = []) (hh : HashAtL w b p bits m)
    (d1 : w.cell? ⟨cw, 0, none⟩ = some (.func (.func 34) #[] #[])) (d3 : w.cell? ⟨ch, 0, none⟩ = some (.pointer (some ⟨b, 0, none⟩))) :
    Calls Try.prog 48 #[.string t, .pointer (some ⟨cw, 0, none⟩), .pointer (some ⟨ch, 0, none⟩)] w fun e w' => e = .returned (.int .i64 0) ∧ HashAtL w' b p bits (m ++ t.data.toList) ∧ But b w w' := by
  have HH := Lib.hid hh
  clear hh
  go_enter Try.func48, Try.ntmps48
  go_wp2_with (go_at_call 34; refine (write64_fresh b p bits m t w hp hpb hs hm HH.out).mono ?_; rintro e w1 ⟨rfl, hh1, hb1⟩; have HH1 := Lib.hid hh1; clear hh1)
  go_ret
  exact ⟨rfl, HH1.out, hb1⟩
set_option maxRecDepth 100000 in
theorem strm_fresh (s b id : Nat) (p : Nat → Prop) (m t : ByteArray) (w : World) (hp : ∀ g, w.heap.size ≤ g → p g) (hpb : ∀ g, p g → g ≠ b) (hs : t.size ≤ 281474976710656) (hm : m.data.toList = []) (hh : StreamAt w s b id p m) :
    Calls Try.prog 17 #[.pointer (some ⟨s, 0, none⟩), .string t] w fun e w' => e = .returned (.int .i64 0) ∧ StreamAt w' s b id p (m ++ t) ∧ But b w w' := by
  have h0 := hh
  obtain ⟨cw, ch, cs, h1, p1, p2, p3, p4, h2, d1, d2, d3⟩ := hh
  have HS := Lib.hid h0
  have H1 := Lib.hid h1
  have H2 := Lib.hid h2
  have c0 := cell_of h2 0
  have c1 := cell_of h2 1
  simp at c0 c1
  clear h0 h1 h2
  by_cases hid : id ≤ 2
  · simp only [if_pos hid] at c0 c1 d1 d2
    have HI := Lib.hid (show HashAt w b p (bitsOf id) m.data.toList from by have := H1.out; unfold Inner at this; rw [if_pos hid] at this; exact this)
    go_enter Try.func17, Try.ntmps17
    go_wp2_with (go_at_call 42; refine (cl32_fresh b cw ch p _ _ t w hp hpb hs hm HI.out d1 d3).mono ?_; rintro e w1 ⟨rfl, hh1, hb1⟩; have HH1 := Lib.hid hh1; clear hh1)
    go_ret
    exact ⟨rfl, ⟨cw, ch, cs, by unfold Inner; rw [if_pos hid]; simpa using HH1.out, p1, p2, p3, p4, hb1.heap (hpb _ p1) H2.out, by rw [if_pos hid]; exact hb1.cell (hpb _ p2) d1, by rw [if_pos hid]; exact hb1.cell (hpb _ p4) d2, hb1.cell (hpb _ p3) d3⟩, hb1⟩
  · simp only [if_neg hid] at c0 c1 d1 d2
    have HI := Lib.hid (show HashAtL w b p (bitsOf id) m.data.toList from by have := H1.out; unfold Inner at this; rw [if_neg hid] at this; exact this)
    go_enter Try.func17, Try.ntmps17
    go_wp2_with (go_at_call 48; refine (cl64_fresh b cw ch p _ _ t w hp hpb hs hm HI.out d1 d3).mono ?_; rintro e w1 ⟨rfl, hh1, hb1⟩; have HH1 := Lib.hid hh1; clear hh1)
    go_ret
    exact ⟨rfl, ⟨cw, ch, cs, by unfold Inner; rw [if_neg hid]; simpa using HH1.out, p1, p2, p3, p4, hb1.heap (hpb _ p1) H2.out, by rw [if_neg hid]; exact hb1.cell (hpb _ p2) d1, by rw [if_neg hid]; exact hb1.cell (hpb _ p4) d2, hb1.cell (hpb _ p3) d3⟩, hb1⟩


theorem dg_32 {id : Nat} (h : id ≤ 2) (m : ByteArray) : (⟨(dig32 (bitsOf id) m.data.toList).toArray⟩ : ByteArray) = dg id m := by unfold dg; rw [if_pos h]; rfl
theorem dg_64 {id : Nat} (h : ¬ id ≤ 2) (m : ByteArray) : (⟨(dig64 (bitsOf id) m.data.toList).toArray⟩ : ByteArray) = dg id m := by unfold dg; rw [if_neg h]; rfl
theorem bits_32 {id : Nat} (h : isId id) (h2 : id ≤ 2) : bitsOf id = 224 ∨ bitsOf id = 256 := by unfold bitsOf; unfold isId at h; split; exact .inl rfl; split; exact .inr rfl; omega
theorem bits_64 {id : Nat} (h : isId id) (h2 : ¬ id ≤ 2) : bitsOf id = 384 ∨ bitsOf id = 512 := by unfold bitsOf; unfold isId at h; rw [if_neg (by omega), if_neg (by omega)]; split; exact .inl rfl; exact .inr rfl

set_option maxRecDepth 100000 in
theorem strm_sum (s b id : Nat) (p : Nat → Prop) (m : ByteArray) (w : World) (hi : isId id) (hh : StreamAt w s b id p m) :
    Calls Try.prog 18 #[.pointer (some ⟨s, 0, none⟩)] w fun e w' => e = .returned (.string (dg id m)) ∧ Below w.heap.size w w' := by
  obtain ⟨cw, ch, cs, h1, p1, p2, p3, p4, h2, d1, d2, d3⟩ := hh
  have H1 := Lib.hid h1
  have H2 := Lib.hid h2
  have c0 := cell_of h2 0
  have c1 := cell_of h2 1
  simp at c0 c1
  clear h1 h2
  by_cases hid : id ≤ 2
  · simp only [if_pos hid] at c0 c1 d1 d2
    have HI := Lib.hid (show HashAt w b p (bitsOf id) m.data.toList from by have := H1.out; unfold Inner at this; rw [if_pos hid] at this; exact this)
    have HD := Lib.hid (dg_32 hid m)
    go_enter Try.func18, Try.ntmps18
    go_wp2_with (fail)
    refine (cl32_sum b cs ch p _ _ w (bits_32 hi hid) HI.out d2 d3).mono ?_
    rintro e w1 ⟨he, hb1⟩
    rw [HD.out] at he
    subst he
    go_wp2
    go_ret
    exact ⟨rfl, hb1⟩
  · simp only [if_neg hid] at c0 c1 d1 d2
    have HI := Lib.hid (show HashAtL w b p (bitsOf id) m.data.toList from by have := H1.out; unfold Inner at this; rw [if_neg hid] at this; exact this)
    have HD := Lib.hid (dg_64 hid m)
    go_enter Try.func18, Try.ntmps18
    go_wp2_with (fail)
    refine (cl64_sum b cs ch p _ _ w (bits_64 hi hid) HI.out d2 d3).mono ?_
    rintro e w1 ⟨he, hb1⟩
    rw [HD.out] at he
    subst he
    go_wp2
    go_ret
    exact ⟨rfl, hb1⟩

theorem dg_size {id : Nat} (h : isId id) (m : ByteArray) : (dg id m).size = bitsOf id / 8 := by
  unfold dg
  split
  · exact d32_size _ _ (bits_32 h ‹_›)
  · exact d64_size _ _ (bits_64 h ‹_›)

set_option maxRecDepth 100000 in
theorem hashOf_yes (id : Nat) (t : ByteArray) (w : World) (hi : isId id) (hs : t.size ≤ 281474976710656) :
    Calls Try.prog 12 #[.int .i64 id, .string t] w fun e w' => e = .returned (.tuple #[.string (dg id t), .int .i64 0]) ∧ Below w.heap.size w w' := by
  go_enter Try.func12, Try.ntmps12
  go_wp2_with (fail)
  refine (strm_yes id hi w).mono ?_
  rintro e w1 ⟨s, b, rfl, hh1, hbl, hbs, hb1⟩
  have HH1 := Lib.hid (hh1 (· ≠ b) fun g _ h => h)
  clear hh1
  go_wp2_with (fail)
  refine (strm_fresh s b id (· ≠ b) ByteArray.empty t w1 (fun g hg => by omega) (fun g h => h) hs rfl HH1.out).mono ?_
  rintro e w2 ⟨rfl, hh2, hb2⟩
  have HH2 := Lib.hid hh2
  clear hh2
  have hB2 : Below w.heap.size w w2 := But.below hb1 hb2 hbl hb1.size
  go_wp2_with (fail)
  refine (strm_sum s b id (· ≠ b) _ w2 hi HH2.out).mono ?_
  rintro e w3 ⟨rfl, hb3⟩
  go_wp2
  go_ret2
  refine ⟨?_, hB2.trans (hb3.mono hB2.size)⟩
  simp
theorem hashOf_no (c : Int) (t : ByteArray) (w : World) (h : ¬ (1 ≤ c ∧ c ≤ 4)) :
    Calls Try.prog 12 #[.int .i64 c, .string t] w fun e w' => e = .returned (.tuple #[.string ByteArray.empty, .int .i64 900]) ∧ Below w.heap.size w w' := by
  go_enter Try.func12, Try.ntmps12
  go_wp2_with (fail)
  refine (strm_no c h w).mono ?_
  rintro e w1 ⟨rfl, hb1⟩
  go_wp2
  go_ret2
  exact ⟨rfl, hb1⟩
theorem refOf_id (id : Nat) (t : ByteArray) (w : World) (hi : isId id) (hs : t.size ≤ 140737488351232) :
    Calls Try.prog 14 #[.int .i64 id, .string t] w fun e w' => e = .returned (.string (dg id t)) ∧ Below w.heap.size w w' := by
  by_cases h : id ≤ 2
  · rw [← dg_32 h]
    refine refOf32_calls id (bitsOf id) t w ?_ hs
    obtain ⟨h1, h2⟩ := hi
    rcases (show id = 1 ∨ id = 2 by omega) with rfl | rfl
    · exact .inl ⟨rfl, rfl⟩
    · exact .inr ⟨rfl, rfl⟩
  · rw [← dg_64 h]
    refine refOf64_calls id (bitsOf id) t w ?_ hs
    obtain ⟨h1, h2⟩ := hi
    rcases (show id = 3 ∨ id = 4 by omega) with rfl | rfl
    · exact .inl ⟨rfl, rfl⟩
    · exact .inr ⟨rfl, rfl⟩
end Go.Proofs.Ytkkfpgkogggfdaa.Cw
