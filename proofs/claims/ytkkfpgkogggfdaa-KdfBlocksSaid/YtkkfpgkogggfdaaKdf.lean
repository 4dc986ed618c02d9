/-
  (package kdf) What Of gives, and what the reference's Kdf gives: the same bytes. Condition: the secret and the rest take at most 2^48 - 8192 bytes together (the reference: 2^47 - 4328).
-/
import Derived.Test.YtkkfpgkogggfdaaNine
set_option linter.unusedSimpArgs false
set_option linter.unusedVariables false
namespace Go.Proofs.Ytkkfpgkogggfdaa.Cw
open Go Go.RowKit

def num4 (k : Nat) : ByteArray := ⟨#[0, 0, 0, UInt8.ofNat k]⟩
/-- a block of a key -/
def kdB (id : Nat) (z info : ByteArray) (k : Nat) : ByteArray := dg id (num4 k ++ z ++ info)
/-- so many blocks -/
def kdN (id : Nat) (z info : ByteArray) : Nat → ByteArray
  | 0 => ByteArray.empty
  | n + 1 => kdN id z info n ++ kdB id z info (n + 1)
theorem kdN_size {id : Nat} (h : isId id) (z info : ByteArray) : ∀ n, (kdN id z info n).size = n * szOf id
  | 0 => by simp [kdN]
  | n + 1 => by rw [kdN, ByteArray.size_append, kdN_size h z info n, kdB, dg_sz h, Nat.add_mul, Nat.one_mul]
/-- a key -/
def kd (id : Nat) (z info : ByteArray) (size : Nat) : ByteArray := (kdN id z info 64).extract 0 size
theorem kdN_pre {id : Nat} (h : isId id) (z info : ByteArray) (n size : Nat) (hn : size ≤ n * szOf id) : ∀ m, (kdN id z info (n + m)).extract 0 size = (kdN id z info n).extract 0 size
  | 0 => rfl
  | m + 1 => by
    rw [← Nat.add_assoc, kdN, ← kdN_pre h z info n size hn m]
    apply ByteArray.ext
    simp only [ByteArray.data_extract, ByteArray.data_append]
    have hs : size ≤ (kdN id z info (n + m)).data.size := by
      show size ≤ (kdN id z info (n + m)).size
      rw [kdN_size h, Nat.add_mul]
      exact Nat.le_trans hn (Nat.le_add_right _ _)
    rw [Array.extract_append, show size - (kdN id z info (n + m)).data.size = 0 by omega]
    simp
theorem kd_at {id : Nat} (h : isId id) (z info : ByteArray) (n size : Nat) (hn : size ≤ n * szOf id) (hm : n ≤ 64) : (kdN id z info n).extract 0 size = kd id z info size := by
  have := kdN_pre h z info n size hn (64 - n)
  rw [show n + (64 - n) = 64 by omega] at this
  exact this.symm

theorem num4_size (k : Nat) : (num4 k).size = 4 := rfl
theorem conv4 (w : World) (n : Nat) (h : n < 200) : (convert 33 9 (.slice (some ⟨w.heap.size, 0, none⟩) 4 4)).run Try.prog (w.alloc (.cells #[.int .u8 0, .int .u8 0, .int .u8 0, .int .u8 ((n : Int) + 1)] 5)) = .ok (.string (num4 (n + 1))) (w.alloc (.cells #[.int .u8 0, .int .u8 0, .int .u8 0, .int .u8 ((n : Int) + 1)] 5)) := by
  have e : v8 (UInt8.ofNat (n + 1)) = .int .u8 ((n : Int) + 1) := by
    unfold v8
    rw [UInt8.toNat_ofNat', Nat.mod_eq_of_lt (by omega)]
    simp
  exact run_convert_rd (Rd.row [0, 0, 0, UInt8.ofNat (n + 1)] 4 rfl (fun _ => True) trivial (new1 w _) (by simp only [List.map_cons, List.map_nil, e]; rfl)) 33 9 5 Try.underlying33 Try.underlying5 Try.underlying9

theorem kdf_no (c : Int) (z info : ByteArray) (size : Int) (w : World) (h : ¬ (1 ≤ c ∧ c ≤ 4)) :
    Calls Try.prog 7 #[.int .i64 c, .string z, .string info, .int .i64 size] w fun e w' => e = .returned (.tuple #[.string ByteArray.empty, .int .i64 1200]) ∧ Below w.heap.size w w' := by
  go_enter Try.func7, Try.ntmps7
  go_wp2_with (fail)
  refine (size_no c h _).mono ?_
  rintro e w1 ⟨rfl, hb1⟩
  go_wp2
  go_ret2
  exact ⟨rfl, hb1⟩
theorem refKdf_no (c : Int) (z info : ByteArray) (size : Int) (w : World) (h : ¬ (1 ≤ c ∧ c ≤ 4)) :
    Calls Try.prog 8 #[.int .i64 c, .string z, .string info, .int .i64 size] w fun e w' => e = .returned (.tuple #[.string ByteArray.empty, .int .i64 1200]) ∧ w = w' := by
  go_enter Try.func8, Try.ntmps8
  go_wp2_with (fail)
  refine (rsize_no c h _).mono ?_
  rintro e w1 ⟨rfl, rfl⟩
  go_wp2
  go_ret2
  exact ⟨rfl, rfl⟩
theorem kdf_long (id : Nat) (z info : ByteArray) (size : Int) (w : World) (hi : isId id) (h : size < 0 ∨ 1024 < size) :
    Calls Try.prog 7 #[.int .i64 id, .string z, .string info, .int .i64 size] w fun e w' => e = .returned (.tuple #[.string ByteArray.empty, .int .i64 1201]) ∧ Below w.heap.size w w' := by
  have hz := szOf_ne id
  go_enter Try.func7, Try.ntmps7
  go_wp2_with (fail)
  refine (hsize id hi _).mono ?_
  rintro e w1 ⟨rfl, hb1⟩
  rcases h with h | h
  · go_wp2
    go_ret2
    exact ⟨rfl, hb1⟩
  · have h' : ¬ size < 0 := by omega
    go_wp2
    go_ret2
    exact ⟨rfl, hb1⟩
theorem refKdf_long (id : Nat) (z info : ByteArray) (size : Int) (w : World) (hi : isId id) (h : size < 0 ∨ 1024 < size) :
    Calls Try.prog 8 #[.int .i64 id, .string z, .string info, .int .i64 size] w fun e w' => e = .returned (.tuple #[.string ByteArray.empty, .int .i64 1201]) ∧ w = w' := by
  have hz := szOf_ne id
  go_enter Try.func8, Try.ntmps8
  go_wp2_with (fail)
  refine (rsize id hi _).mono ?_
  rintro e w1 ⟨rfl, rfl⟩
  rcases h with h | h
  · go_wp2
    go_ret2
    exact ⟨rfl, rfl⟩
  · have h' : ¬ size < 0 := by omega
    go_wp2
    go_ret2
    exact ⟨rfl, rfl⟩

set_option maxRecDepth 100000 in
set_option maxHeartbeats 1000000 in
theorem kdf_yes (id : Nat) (z info : ByteArray) (size : Nat) (w : World) (hi : isId id) (h : size ≤ 1024) (hs : z.size + info.size ≤ 281474976702464) :
    Calls Try.prog 7 #[.int .i64 id, .string z, .string info, .int .i64 size] w fun e w' => e = .returned (.tuple #[.string (kd id z info size), .int .i64 0]) ∧ Below w.heap.size w w' := by
  have hz := szOf_ne id
  have hsp := szOf_pos id
  have hd0 : decide ((size : Int) < 0) = false := by simp; try omega
  have hd1 : decide (1024 < (size : Int)) = false := by simp; omega
  go_enter Try.func7, Try.ntmps7
  go_wp2_with (fail)
  refine (hsize id hi _).mono ?_
  rintro e w1 ⟨rfl, hb1⟩
  go_wp2
  go_loopw [11, 10] (fun k v wr => ∃ n : Nat, n ≤ 37 ∧ k = .int .i64 ((n : Int) + 1) ∧ v = .string (kdN id z info n) ∧ Below w.heap.size w wr) (fun k _ _ => 40 - (intOf k).toNat)
  case atStart => exact ⟨0, by omega, rfl, rfl, hb1⟩
  case round =>
    obtain ⟨n, hn, rfl, rfl, hbr⟩ := hrel
    obtain ⟨L, hL⟩ : ∃ L, L = n * szOf id := ⟨_, rfl⟩
    have hsz : (kdN id z info n).size = L := by rw [hL]; exact kdN_size hi z info n
    have hL28 : n * 28 ≤ L := by rw [hL]; exact Nat.mul_le_mul_left _ hsp.1
    have HL := Lib.hid hL
    clear hL
    by_cases hlt : L < size
    · have e24 : ((n : Int) + 1) / 16777216 = 0 := by omega
      have e16 : ((n : Int) + 1) / 65536 = 0 := by omega
      have e8 : ((n : Int) + 1) / 256 = 0 := by omega
      have hcv := conv4 wr n (by omega)
      have hn4 := num4_size (n + 1)
      have hz2 : z.size ≤ 281474976702464 := by omega
      have hi2 : info.size ≤ 281474976702464 := by omega
      go_wp2_with (fail)
      refine (hashOf_yes id (num4 (n + 1) ++ z ++ info) _ hi (by simp [ByteArray.size_append]; rw [num4_size]; omega)).mono ?_
      rintro e w2 ⟨rfl, hb2⟩
      have hdz := dg_sz hi (num4 (n + 1) ++ z ++ info)
      have hBr : Below w.heap.size w w2 := (hbr.alloc hbr.size _).trans (hb2.mono (by have := hbr.size; simp; omega))
      go_wp2
      go_roundw
      case rel => exact ⟨n + 1, by omega, by go_num, rfl, hBr⟩
      case measure => simp [intOf]; omega
    · go_wp2
      go_ret2
      refine ⟨?_, hbr⟩
      show Ending.returned (.tuple #[.string ((kdN id z info n).extract 0 size), .int .i64 0]) = _
      rw [kd_at hi z info n size (by rw [← HL.out]; omega) (by omega)]
set_option maxRecDepth 100000 in
set_option maxHeartbeats 1000000 in
theorem refKdf_yes (id : Nat) (z info : ByteArray) (size : Nat) (w : World) (hi : isId id) (h : size ≤ 1024) (hs : z.size + info.size ≤ 140737488351000) :
    Calls Try.prog 8 #[.int .i64 id, .string z, .string info, .int .i64 size] w fun e w' => e = .returned (.tuple #[.string (kd id z info size), .int .i64 0]) ∧ Below w.heap.size w w' := by
  have hz := szOf_ne id
  have hsp := szOf_pos id
  have hd0 : decide ((size : Int) < 0) = false := by simp; try omega
  have hd1 : decide (1024 < (size : Int)) = false := by simp; omega
  go_enter Try.func8, Try.ntmps8
  go_wp2_with (fail)
  refine (rsize id hi _).mono ?_
  rintro e w1 ⟨rfl, rfl⟩
  go_wp2
  go_loopw [11, 10] (fun k v wr => ∃ n : Nat, n ≤ 37 ∧ k = .int .i64 ((n : Int) + 1) ∧ v = .string (kdN id z info n) ∧ Below w.heap.size w wr) (fun k _ _ => 40 - (intOf k).toNat)
  case atStart => exact ⟨0, by omega, rfl, rfl, Below.refl _ _⟩
  case round =>
    obtain ⟨n, hn, rfl, rfl, hbr⟩ := hrel
    obtain ⟨L, hL⟩ : ∃ L, L = n * szOf id := ⟨_, rfl⟩
    have hsz : (kdN id z info n).size = L := by rw [hL]; exact kdN_size hi z info n
    have hL28 : n * 28 ≤ L := by rw [hL]; exact Nat.mul_le_mul_left _ hsp.1
    have HL := Lib.hid hL
    clear hL
    by_cases hlt : L < size
    · have e24 : ((n : Int) + 1) / 16777216 = 0 := by omega
      have e16 : ((n : Int) + 1) / 65536 = 0 := by omega
      have e8 : ((n : Int) + 1) / 256 = 0 := by omega
      have em : ((n : Int) + 1) % 256 = (n : Int) + 1 := by omega
      have hcv := conv4 wr n (by omega)
      have hn4 := num4_size (n + 1)
      have hz2 : z.size ≤ 140737488351000 := by omega
      have hi2 : info.size ≤ 140737488351000 := by omega
      go_wp2_with (fail)
      refine (refOf_id id (num4 (n + 1) ++ z ++ info) _ hi (by simp [ByteArray.size_append]; rw [num4_size]; omega)).mono ?_
      rintro e w2 ⟨rfl, hb2⟩
      have hdz := dg_sz hi (num4 (n + 1) ++ z ++ info)
      have hBr : Below w.heap.size w w2 := (hbr.alloc hbr.size _).trans (hb2.mono (by have := hbr.size; simp; omega))
      go_wp2
      go_roundw
      case rel => exact ⟨n + 1, by omega, by go_num, rfl, hBr⟩
      case measure => simp [intOf]; omega
    · go_wp2
      go_ret2
      refine ⟨?_, hbr⟩
      show Ending.returned (.tuple #[.string ((kdN id z info n).extract 0 size), .int .i64 0]) = _
      rw [kd_at hi z info n size (by rw [← HL.out]; omega) (by omega)]
end Go.Proofs.Ytkkfpgkogggfdaa.Cw
