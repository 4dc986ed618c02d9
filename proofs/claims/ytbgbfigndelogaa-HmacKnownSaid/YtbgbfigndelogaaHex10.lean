/-
  (package curvetlaw10) hex: a text's hexadecimal digits; and the walk of HmacKnown: true. No condition.
-/
import Derived.Test.YtbgbfigndelogaaMake
import Derived.Test.YtbgbfigndelogaaFast
import Derived.Deep.RegionHeld3
set_option linter.unusedSimpArgs false
set_option linter.unusedVariables false
namespace Go.Proofs.Ytbgbfigndelogaa.Cw
open Go Go.RowKit

attribute [local go_sem ↓ high] cells_v8 run_store_v8
attribute [local go_sem high] match_v8 run_store_v8
def hexC (k : Nat) : UInt8 := if k < 10 then UInt8.ofNat (48 + k) else UInt8.ofNat (87 + k)
def hexL (l : List UInt8) : List UInt8 := l.flatMap fun x => [hexC (x.toNat / 16), hexC (x.toNat % 16)]

theorem str_index (d : ByteArray) (n : Nat) (h : n < d.size) (w : World) : (Instr.index 9 (.string d) (.int .i64 n)).run Try.prog w = .ok (v8 d[n]) w := by
  simp [Instr.index, asIntOf, run_underlying Try.underlying9, h, v8]
theorem quo16 (t : TypeId) (x : UInt8) : binOp .quo t (v8 x) (.int .u8 16) = pure (.int .u8 (x.toNat / 16 : Nat)) := by
  have e : binOp .quo t (v8 x) (.int .u8 16) = (pure (.int .u8 (IntKind.u8.wrap ((x.toNat : Int).tdiv 16))) : Sem Value) := rfl
  have e2 : (x.toNat : Int).tdiv 16 = ((x.toNat / 16 : Nat) : Int) := by rw [Int.tdiv_eq_ediv_of_nonneg (by omega)]; rfl
  rw [e, e2, wrap8_nat _ (by have := x.toNat_lt; omega)]
theorem rem16 (t : TypeId) (x : UInt8) : binOp .rem t (v8 x) (.int .u8 16) = pure (.int .u8 (x.toNat % 16 : Nat)) := by
  have e : binOp .rem t (v8 x) (.int .u8 16) = (pure (.int .u8 ((x.toNat : Int).tmod 16)) : Sem Value) := rfl
  have e2 : (x.toNat : Int).tmod 16 = ((x.toNat % 16 : Nat) : Int) := by rw [Int.tmod_eq_emod_of_nonneg (by omega)]; rfl
  rw [e, e2]
theorem hex_index (q : Nat) (h : q < 16) (w : World) : (Instr.index 9 (.string ⟨#[48, 49, 50, 51, 52, 53, 54, 55, 56, 57, 97, 98, 99, 100, 101, 102]⟩) (.int .u8 q)).run Try.prog w = .ok (v8 (hexC q)) w := by
  have h2 : q < (⟨#[48, 49, 50, 51, 52, 53, 54, 55, 56, 57, 97, 98, 99, 100, 101, 102]⟩ : ByteArray).size := h
  have e : (⟨#[48, 49, 50, 51, 52, 53, 54, 55, 56, 57, 97, 98, 99, 100, 101, 102]⟩ : ByteArray)[q] = hexC q := by
    rcases (show q = 0 ∨ q = 1 ∨ q = 2 ∨ q = 3 ∨ q = 4 ∨ q = 5 ∨ q = 6 ∨ q = 7 ∨ q = 8 ∨ q = 9 ∨ q = 10 ∨ q = 11 ∨ q = 12 ∨ q = 13 ∨ q = 14 ∨ q = 15 by omega) with rfl | rfl | rfl | rfl | rfl | rfl | rfl | rfl | rfl | rfl | rfl | rfl | rfl | rfl | rfl | rfl <;> rfl
  rw [← e]
  simp [Instr.index, asIntOf, run_underlying Try.underlying9, h2, v8]
theorem hexL_succ (d : ByteArray) (n : Nat) (h : n < d.size) : hexL (d.data.toList.take (n + 1)) = hexL (d.data.toList.take n) ++ [hexC (d[n].toNat / 16), hexC (d[n].toNat % 16)] := by
  have e : d.data.toList.take (n + 1) = d.data.toList.take n ++ [d[n]] := by
    rw [List.take_succ_eq_append_getElem (by simpa using h)]; rfl
  rw [e]
  unfold hexL
  rw [List.flatMap_append]
  rfl

set_option maxRecDepth 100000 in
set_option maxHeartbeats 1000000 in
theorem hex_calls (d : ByteArray) (w : World) (hdz : d.size ≤ 64) : Calls Try.prog 18 #[.string d] w fun e w' => e = .returned (.string ⟨(hexL d.data.toList).toArray⟩) ∧ Below w.heap.size w w' := by
  go_enter Try.func18, Try.ntmps18
  go_wp2
  obtain ⟨i0, hi0, hz0, hz1, hz2⟩ := info_parts info_u8
  have HI := Lib.hid hi0
  have HZ0 := Lib.hid hz0
  have HZ1 := Lib.hid hz1
  have HZ2 := Lib.hid hz2
  clear hi0 hz0 hz1 hz2
  go_loopw [5, 4] (fun i v wr => ∃ n : Nat, n ≤ d.size ∧ i = .int .i64 n ∧ Ow wr w.heap.size 5 1 v (2 * n) ((hexL (d.data.toList.take n)).map v8) ∧ Below w.heap.size w wr) (fun i _ _ => d.size - (intOf i).toNat)
  case atStart => exact ⟨0, by omega, rfl, by simpa [hexL] using Ow.nil _ _ _ _, Below.refl _ _⟩
  case round =>
    obtain ⟨n, hn, rfl, hown, hbr⟩ := hrel
    obtain ⟨A2, c2, rfl, hc2⟩ := hown.slice
    have HWn := Lib.hid hown
    have hsn := hbr.size
    clear hown
    by_cases hlt : n < d.size
    · obtain ⟨x, hx⟩ : ∃ x, x = d[n] := ⟨_, rfl⟩
      obtain ⟨q, hq⟩ : ∃ q, q = x.toNat / 16 := ⟨_, rfl⟩
      obtain ⟨r, hr⟩ : ∃ r, r = x.toNat % 16 := ⟨_, rfl⟩
      have hidx : ∀ w, (Instr.index 9 (.string d) (.int .i64 n)).run Try.prog w = .ok (v8 x) w := by
        intro w; rw [hx]; exact str_index d n hlt w
      have hquo : binOp .quo 5 (v8 x) (.int .u8 16) = pure (.int .u8 q) := by rw [hq]; exact quo16 _ x
      have hrem : binOp .rem 5 (v8 x) (.int .u8 16) = pure (.int .u8 r) := by rw [hr]; exact rem16 _ x
      have hi1 : ∀ w, (Instr.index 9 (.string ⟨#[48, 49, 50, 51, 52, 53, 54, 55, 56, 57, 97, 98, 99, 100, 101, 102]⟩) (.int .u8 q)).run Try.prog w = .ok (v8 (hexC q)) w := fun w => hex_index q (by have := x.toNat_lt; omega) w
      have hi2 : ∀ w, (Instr.index 9 (.string ⟨#[48, 49, 50, 51, 52, 53, 54, 55, 56, 57, 97, 98, 99, 100, 101, 102]⟩) (.int .u8 r)).run Try.prog w = .ok (v8 (hexC r)) w := fun w => hex_index r (by omega) w
      have HX := Lib.hid hx
      have HQ := Lib.hid hq
      have HRm := Lib.hid hr
      clear hx hq hr
      go_wp2
      go_region_held3 (fun w' => True) (go_keep)
            ((refine step_append_rd (by rfl) (.tmp 12) (.tmp 25) 35 (by rfl) w.heap.size 5 i0 Try.underlying35 HI.out HZ0.out HZ1.out HZ2.out (.slice A2 (2 * n) c2) (2 * n) (hexL (d.data.toList.take n)) (by rfl) (HWn.out.alloc _) (some ⟨wr.heap.size, 0, none⟩) 2 2 [hexC q, hexC r] (fun _ => True) (by rfl) (Rd.row [_, _] 2 rfl _ trivial (new1 wr _) rfl) (by omega) (by simp; omega) ?_
              intro v3 w5 hown3 hg3 hat3
              have hb5 : Below w.heap.size w w5 := (Below.drew (hbr.alloc (by omega) _)).grown hg3 (by simp; omega) (fun k hk => (HWn.out.lt k hk).1)
              have kp : True := trivial
              have HW5 := Lib.hid hown3
              clear hat3 hg3 hown3))
      all_goals
        go_wp2
        go_roundw
        case rel =>
          have e := HW5.out
          rw [HX.out] at HQ HRm
          refine ⟨n + 1, by omega, by go_num, ?_, hb5⟩
          rw [hexL_succ d n hlt, ← HQ.out, ← HRm.out]
          exact e
        case measure => simp [intOf]; omega
    · obtain rfl : n = d.size := by omega
      have hrd := HWn.out.rd (fun _ => True) (fun _ _ => trivial)
      have htk : d.data.toList.take d.size = d.data.toList := List.take_of_length_le (by simp)
      rw [htk] at hrd
      have HRD := Lib.hid hrd
      have hcv := run_convert_rd (P := Try.prog) HRD.out 35 9 5 Try.underlying35 Try.underlying5 Try.underlying9
      clear hrd
      go_wp2
      go_ret
      exact ⟨rfl, hbr⟩

end Go.Proofs.Ytbgbfigndelogaa.Cw
