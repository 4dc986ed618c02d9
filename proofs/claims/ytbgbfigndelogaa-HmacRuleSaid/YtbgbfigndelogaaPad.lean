/-
  (package hmac) pad: a text, each byte xored; and rows of bytes written in place. Condition: a text takes at most 2^47 - 4096 bytes.
-/
import Derived.Test.YtbgbfigndelogaaNine
set_option linter.unusedSimpArgs false
set_option linter.unusedVariables false
namespace Go.Proofs.Ytbgbfigndelogaa.Cw
open Go Go.RowKit
attribute [local go_sem ↓ high] cells_v8 run_store_v8 bin_xor8
attribute [local go_sem high] match_v8 run_store_v8

theorem Ow.cel {w : World} {B e n c g : Nat} {l : List UInt8} (h : Ow w B e 1 (.slice (some ⟨g, 0, none⟩) n c) n (l.map v8)) (i : Nat) (hi : i < n) :
    w.cell? ⟨g, i, none⟩ = some (v8 (l.getD i 0)) ∧ w.frozen? ⟨g, i, none⟩ = false := by
  obtain ⟨g', cap, cur, fr, hv, hb, hg, hc, hn, hm, hs, ht⟩ := h.form (by omega)
  injection hv with h1 h2 h3
  injection h1 with h1
  injection h1 with h1
  subst h1
  have hl : l.length = n := by simpa using h.1
  refine ⟨?_, Clear.free hg hc i (by omega)⟩
  rw [cell_of hg]
  have e1 : (cur.toList.take (n * 1))[i]? = some (v8 (l.getD i 0)) := by
    rw [ht]
    simp [List.getElem?_map, show i < l.length from by omega]
  rw [List.getElem?_take, if_pos (by omega)] at e1
  simpa using e1
theorem Ow.set {w : World} {B e n c g : Nat} {l : List UInt8} (h : Ow w B e 1 (.slice (some ⟨g, 0, none⟩) n c) n (l.map v8)) (i : Nat) (hi : i < n) (y : UInt8) :
    Ow (w.setCell ⟨g, i, none⟩ (v8 y)) B e 1 (.slice (some ⟨g, 0, none⟩) n c) n ((l.set i y).map v8) := by
  obtain ⟨g', cap, cur, fr, hv, hb, hg, hc, hn, hm, hs, ht⟩ := h.form (by omega)
  injection hv with h1 h2 h3
  injection h1 with h1
  injection h1 with h1
  subst h1 h3
  refine ⟨by simpa using h.1, .inr ⟨g, c, cur.setIfInBounds i (v8 y), fr, rfl, hb, set_of hg i _, by simpa using hc, hn, hm, by simpa using hs, ?_⟩⟩
  rw [Array.toList_setIfInBounds, List.take_set, ht, List.map_set]
def xl (x : UInt8) (l : List UInt8) : List UInt8 := l.map (· ^^^ x)
/-- the first k bytes xored -/
def xlk (x : UInt8) (l : List UInt8) (k : Nat) : List UInt8 := xl x (l.take k) ++ l.drop k
theorem xlk_get (x : UInt8) (l : List UInt8) (k : Nat) (h : k < l.length) : (xlk x l k).getD k 0 = l.getD k 0 := by
  unfold xlk xl
  simp only [List.getD_eq_getElem?_getD]
  rw [List.getElem?_append_right (by simp; omega)]
  simp [show min k l.length = k by omega]
theorem xlk_set (x : UInt8) (l : List UInt8) (k : Nat) (h : k < l.length) : (xlk x l k).set k (l.getD k 0 ^^^ x) = xlk x l (k + 1) := by
  unfold xlk xl
  rw [List.set_append_right _ _ (by simp; omega)]
  rw [List.take_succ_eq_append_getElem h, List.map_append, List.append_assoc]
  congr 1
  simp only [List.length_map, List.length_take, show min k l.length = k by omega, Nat.sub_self]
  have e : l.getD k 0 = l[k] := by simp [h]
  rw [List.drop_eq_getElem_cons h, e]
  rfl
theorem xlk_all (x : UInt8) (l : List UInt8) (k : Nat) (h : l.length ≤ k) : xlk x l k = xl x l := by
  unfold xlk
  rw [List.take_of_length_le h, List.drop_eq_nil_of_le h, List.append_nil]
theorem xlk_zero (x : UInt8) (l : List UInt8) : xlk x l 0 = l := by simp [xlk, xl]
/-- a text, each byte xored -/
def xb (x : UInt8) (s : ByteArray) : ByteArray := ⟨(xl x s.data.toList).toArray⟩
theorem xb_size (x : UInt8) (s : ByteArray) : (xb x s).size = s.size := by
  show (xl x s.data.toList).toArray.size = s.size
  simp [xl]

set_option maxRecDepth 100000 in
set_option maxHeartbeats 1000000 in
theorem pad_calls (s : ByteArray) (x : UInt8) (w : World) (hs : s.size ≤ 140737488355200) :
    Calls Try.prog 23 #[.string s, v8 x] w fun e w' => e = .returned (.string (xb x s)) ∧ Below w.heap.size w w' := by
  go_enter Try.func23, Try.ntmps23
  obtain ⟨L, hL⟩ : ∃ L, L = s.data.toList := ⟨_, rfl⟩
  have hLl : L.length = s.size := by rw [hL]; simp
  have HL := Lib.hid hL
  have HLl := Lib.hid hLl
  go_wp2_with (refine wpList_conv_bytes rfl 9 35 5 _ rfl s rfl Try.underlying9 Try.underlying35 Try.underlying5 (by simp only [maxLen]; omega) ?_
               intro c1 w1 how1 hb1 hs1
               rw [← HL.out] at how1
               have HW1 := Lib.hid how1
               have hs1' : w.heap.size < w1.heap.size := by omega
               clear how1 hs1)
  clear hL hLl
  go_loopw [11] (fun i wr => ∃ k : Nat, k ≤ s.size ∧ i = .int .i64 k ∧ Ow wr w.heap.size 5 1 (.slice (some ⟨w.heap.size, 0, none⟩) s.size c1) s.size ((xlk x L k).map v8) ∧ Below w.heap.size w wr ∧ w.heap.size < wr.heap.size) (fun i _ => s.size - (intOf i).toNat)
  case atStart => exact ⟨0, by omega, rfl, by rw [xlk_zero]; exact HW1.out, hb1, hs1'⟩
  case round =>
    obtain ⟨k, hk, rfl, hown, hbr, hzr⟩ := hrel
    have HWr := Lib.hid hown
    clear hown
    by_cases hlt : k < s.size
    · have hc := (HWr.out.cel k hlt).1
      have hf := (HWr.out.cel k hlt).2
      rw [xlk_get x L k (by rw [HLl.out]; exact hlt)] at hc
      have HS := Lib.hid (HWr.out.set k hlt (L.getD k 0 ^^^ x))
      have HXS := Lib.hid (xlk_set x L k (by rw [HLl.out]; exact hlt))
      rw [HXS.out] at HS
      go_wp2
      go_roundw
      case rel => exact ⟨k + 1, by omega, by go_num, HS.out, hbr.setCell (by simp) _, by simpa using hzr⟩
      case measure => simp [intOf]; omega
    · obtain rfl : k = s.size := by omega
      have hrd := HWr.out.rd (fun _ => True) (fun _ _ => trivial)
      rw [xlk_all x L _ (by rw [HLl.out]; exact Nat.le_refl _)] at hrd
      have hcv := run_convert_rd (P := Try.prog) hrd 35 9 5 Try.underlying35 Try.underlying5 Try.underlying9
      clear hrd
      go_wp2
      go_ret
      exact ⟨by rw [HL.out]; rfl, hbr⟩
end Go.Proofs.Ytbgbfigndelogaa.Cw
