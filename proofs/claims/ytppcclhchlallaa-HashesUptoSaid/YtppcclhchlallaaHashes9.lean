/-
  (package curvetlaw9) The walk of Hashes: true. Condition: the two texts take at most 2^20 bytes together.
-/
import Derived.Test.YtppcclhchlallaaAwake9

set_option linter.unusedSimpArgs false
set_option linter.unusedVariables false
namespace Go.Proofs.Ytppcclhchlallaa.Cw
open Go Go.RowKit

set_option maxRecDepth 100000 in
set_option maxHeartbeats 1000000 in
theorem hashes_walk (c : Int) (u v : ByteArray) (w : World) (hc : (Lit.int .i64 c).wf = true) (ha : u.size ≤ 1048576) (hb : v.size ≤ 1048576) : Calls Try.prog 4 #[.int .i64 c, .string u, .string v] w fun e w' => e = .returned (.bool true) ∧ Below w.heap.size w w' := by
  have hab : (u ++ v).size ≤ 2097152 := by rw [ByteArray.size_append]; omega
  go_enter Try.func4, Try.ntmps4
  by_cases hi : 1 ≤ c ∧ c ≤ 4
  · obtain ⟨id, rfl⟩ : ∃ id : Nat, c = (id : Int) := ⟨c.toNat, by omega⟩
    have hi' : isId id := by unfold isId; omega
    have hz := szOf_ne id
    clear hi hc
    go_wp2_with (first
          | (go_at_call 14; refine (num_calls _ _).mono ?_; rintro e w9 ⟨rfl, rfl⟩)
          | (go_at_call 11; refine (rsize id hi' _).mono ?_; rintro e w9 ⟨rfl, rfl⟩)
          | (go_at_call 13; refine (rblock id hi' _).mono ?_; rintro e w9 ⟨rfl, rfl⟩))
    refine (hashOf_yes id _ _ hi' (by omega)).mono ?_
    rintro e w1 ⟨rfl, hb1⟩
    have hB1 := hb1
    go_wp2_with (first
          | (go_at_call 14; refine (num_calls _ _).mono ?_; rintro e w9 ⟨rfl, rfl⟩)
          | (go_at_call 11; refine (rsize id hi' _).mono ?_; rintro e w9 ⟨rfl, rfl⟩)
          | (go_at_call 13; refine (rblock id hi' _).mono ?_; rintro e w9 ⟨rfl, rfl⟩))
    refine (strm_yes id hi' _).mono ?_
    rintro e w2 ⟨s, b, rfl, hh2, hbl2, hl2, hb2⟩
    have HH2 := Lib.hid (hh2 (· ≠ b) fun g _ h => h)
    clear hh2
    have hbl : w.heap.size ≤ b := Nat.le_trans hB1.size hbl2
    have hB2 := hB1.trans (hb2.mono hB1.size)
    go_wp2_with (first
          | (go_at_call 14; refine (num_calls _ _).mono ?_; rintro e w9 ⟨rfl, rfl⟩)
          | (go_at_call 11; refine (rsize id hi' _).mono ?_; rintro e w9 ⟨rfl, rfl⟩)
          | (go_at_call 13; refine (rblock id hi' _).mono ?_; rintro e w9 ⟨rfl, rfl⟩))
    refine (hsize id hi' _).mono ?_
    rintro e w3 ⟨rfl, hb3⟩
    have hB3 := hB2.trans (hb3.mono hB2.size)
    have HH3 := Lib.hid (HH2.out.below HH2.out.lt hb3)
    have hl3 := HH3.out.lt
    go_wp2_with (first
          | (go_at_call 14; refine (num_calls _ _).mono ?_; rintro e w9 ⟨rfl, rfl⟩)
          | (go_at_call 11; refine (rsize id hi' _).mono ?_; rintro e w9 ⟨rfl, rfl⟩)
          | (go_at_call 13; refine (rblock id hi' _).mono ?_; rintro e w9 ⟨rfl, rfl⟩))
    refine (block_yes id hi' _).mono ?_
    rintro e w4 ⟨rfl, hb4⟩
    have hB4 := hB3.trans (hb4.mono hB3.size)
    have HH4 := Lib.hid (HH3.out.below HH3.out.lt hb4)
    have hl4 := HH4.out.lt
    go_wp2_with (first
          | (go_at_call 14; refine (num_calls _ _).mono ?_; rintro e w9 ⟨rfl, rfl⟩)
          | (go_at_call 11; refine (rsize id hi' _).mono ?_; rintro e w9 ⟨rfl, rfl⟩)
          | (go_at_call 13; refine (rblock id hi' _).mono ?_; rintro e w9 ⟨rfl, rfl⟩))
    refine (strm_write0 s b id (· ≠ b) u w4 (fun g hg => by omega) (fun g h => h) (by omega) HH4.out).mono ?_
    rintro e w5 ⟨rfl, hh5, hb5⟩
    have HH5 := Lib.hid hh5
    have hl5 := hh5.lt
    clear hh5
    have hB5 : Below w.heap.size w w5 := But.below hB4 hb5 hbl hB4.size
    go_wp2_with (first
          | (go_at_call 14; refine (num_calls _ _).mono ?_; rintro e w9 ⟨rfl, rfl⟩)
          | (go_at_call 11; refine (rsize id hi' _).mono ?_; rintro e w9 ⟨rfl, rfl⟩)
          | (go_at_call 13; refine (rblock id hi' _).mono ?_; rintro e w9 ⟨rfl, rfl⟩))
    refine (strm_sum s b id (· ≠ b) _ _ hi' HH5.out).mono ?_
    rintro e w6 ⟨rfl, hb6⟩
    have hB6 := hB5.trans (hb6.mono hB5.size)
    have HH6 := Lib.hid (HH5.out.below HH5.out.lt hb6)
    have hl6 := HH6.out.lt
    go_wp2_with (first
          | (go_at_call 14; refine (num_calls _ _).mono ?_; rintro e w9 ⟨rfl, rfl⟩)
          | (go_at_call 11; refine (rsize id hi' _).mono ?_; rintro e w9 ⟨rfl, rfl⟩)
          | (go_at_call 13; refine (rblock id hi' _).mono ?_; rintro e w9 ⟨rfl, rfl⟩))
    refine (strm_write s b id (· ≠ b) u v w6 (fun g hg => by omega) (fun g h => h) (by omega) HH6.out).mono ?_
    rintro e w7 ⟨rfl, hh7, hb7⟩
    have HH7 := Lib.hid hh7
    have hl7 := hh7.lt
    clear hh7
    have hB7 : Below w.heap.size w w7 := But.below hB6 hb7 hbl hB6.size
    go_wp2_with (first
          | (go_at_call 14; refine (num_calls _ _).mono ?_; rintro e w9 ⟨rfl, rfl⟩)
          | (go_at_call 11; refine (rsize id hi' _).mono ?_; rintro e w9 ⟨rfl, rfl⟩)
          | (go_at_call 13; refine (rblock id hi' _).mono ?_; rintro e w9 ⟨rfl, rfl⟩))
    refine (refOf_id id _ _ hi' (by omega)).mono ?_
    rintro e w8 ⟨rfl, hb8⟩
    have hB8 := hB7.trans (hb8.mono hB7.size)
    have HH8 := Lib.hid (HH7.out.below HH7.out.lt hb8)
    have hl8 := HH8.out.lt
    go_wp2_with (first
          | (go_at_call 14; refine (num_calls _ _).mono ?_; rintro e w9 ⟨rfl, rfl⟩)
          | (go_at_call 11; refine (rsize id hi' _).mono ?_; rintro e w9 ⟨rfl, rfl⟩)
          | (go_at_call 13; refine (rblock id hi' _).mono ?_; rintro e w9 ⟨rfl, rfl⟩))
    refine (strm_sum s b id (· ≠ b) _ _ hi' HH8.out).mono ?_
    rintro e w9 ⟨rfl, hb9⟩
    have hB9 := hB8.trans (hb9.mono hB8.size)
    have HH9 := Lib.hid (HH8.out.below HH8.out.lt hb9)
    have hl9 := HH9.out.lt
    go_wp2_with (first
          | (go_at_call 14; refine (num_calls _ _).mono ?_; rintro e w9 ⟨rfl, rfl⟩)
          | (go_at_call 11; refine (rsize id hi' _).mono ?_; rintro e w9 ⟨rfl, rfl⟩)
          | (go_at_call 13; refine (rblock id hi' _).mono ?_; rintro e w9 ⟨rfl, rfl⟩))
    refine (refOf_id id _ _ hi' (by omega)).mono ?_
    rintro e w10 ⟨rfl, hb10⟩
    have hB10 := hB9.trans (hb10.mono hB9.size)
    go_wp2_with (first
          | (go_at_call 14; refine (num_calls _ _).mono ?_; rintro e w9 ⟨rfl, rfl⟩)
          | (go_at_call 11; refine (rsize id hi' _).mono ?_; rintro e w9 ⟨rfl, rfl⟩)
          | (go_at_call 13; refine (rblock id hi' _).mono ?_; rintro e w9 ⟨rfl, rfl⟩))
    refine (awake_calls _).mono ?_
    rintro e w11 ⟨rfl, hb11⟩
    have hB11 := hB10.trans (hb11.mono hB10.size)
    go_wp2_with (first
          | (go_at_call 14; refine (num_calls _ _).mono ?_; rintro e w9 ⟨rfl, rfl⟩)
          | (go_at_call 11; refine (rsize id hi' _).mono ?_; rintro e w9 ⟨rfl, rfl⟩)
          | (go_at_call 13; refine (rblock id hi' _).mono ?_; rintro e w9 ⟨rfl, rfl⟩))
    go_ret
    exact ⟨by simp, hB11⟩
  · go_wp2_with (first
          | (go_at_call 14; refine (num_calls _ _).mono ?_; rintro e w9 ⟨rfl, rfl⟩)
          | (go_at_call 11; refine (rsize_no c hi _).mono ?_; rintro e w9 ⟨rfl, rfl⟩)
          | (go_at_call 13; refine (rblock_no c hi _).mono ?_; rintro e w9 ⟨rfl, rfl⟩))
    refine (hashOf_no c _ _ hi).mono ?_
    rintro e w1 ⟨rfl, hb1⟩
    have hB1 := hb1
    go_wp2_with (first
          | (go_at_call 14; refine (num_calls _ _).mono ?_; rintro e w9 ⟨rfl, rfl⟩)
          | (go_at_call 11; refine (rsize_no c hi _).mono ?_; rintro e w9 ⟨rfl, rfl⟩)
          | (go_at_call 13; refine (rblock_no c hi _).mono ?_; rintro e w9 ⟨rfl, rfl⟩))
    refine (strm_no c hi _).mono ?_
    rintro e w2 ⟨rfl, hb2⟩
    have hB2 := hB1.trans (hb2.mono hB1.size)
    go_wp2_with (first
          | (go_at_call 14; refine (num_calls _ _).mono ?_; rintro e w9 ⟨rfl, rfl⟩)
          | (go_at_call 11; refine (rsize_no c hi _).mono ?_; rintro e w9 ⟨rfl, rfl⟩)
          | (go_at_call 13; refine (rblock_no c hi _).mono ?_; rintro e w9 ⟨rfl, rfl⟩))
    refine (size_no c hi _).mono ?_
    rintro e w3 ⟨rfl, hb3⟩
    have hB3 := hB2.trans (hb3.mono hB2.size)
    go_wp2_with (first
          | (go_at_call 14; refine (num_calls _ _).mono ?_; rintro e w9 ⟨rfl, rfl⟩)
          | (go_at_call 11; refine (rsize_no c hi _).mono ?_; rintro e w9 ⟨rfl, rfl⟩)
          | (go_at_call 13; refine (rblock_no c hi _).mono ?_; rintro e w9 ⟨rfl, rfl⟩))
    refine (block_no c hi _).mono ?_
    rintro e w4 ⟨rfl, hb4⟩
    have hB4 := hB3.trans (hb4.mono hB3.size)
    go_wp2_with (first
          | (go_at_call 14; refine (num_calls _ _).mono ?_; rintro e w9 ⟨rfl, rfl⟩)
          | (go_at_call 11; refine (rsize_no c hi _).mono ?_; rintro e w9 ⟨rfl, rfl⟩)
          | (go_at_call 13; refine (rblock_no c hi _).mono ?_; rintro e w9 ⟨rfl, rfl⟩))
    refine (awake_calls _).mono ?_
    rintro e w5 ⟨rfl, hb5⟩
    have hB5 := hB4.trans (hb5.mono hB4.size)
    go_wp2_with (first
          | (go_at_call 14; refine (num_calls _ _).mono ?_; rintro e w9 ⟨rfl, rfl⟩)
          | (go_at_call 11; refine (rsize_no c hi _).mono ?_; rintro e w9 ⟨rfl, rfl⟩)
          | (go_at_call 13; refine (rblock_no c hi _).mono ?_; rintro e w9 ⟨rfl, rfl⟩))
    go_ret
    exact ⟨rfl, hB5⟩
end Go.Proofs.Ytppcclhchlallaa.Cw
