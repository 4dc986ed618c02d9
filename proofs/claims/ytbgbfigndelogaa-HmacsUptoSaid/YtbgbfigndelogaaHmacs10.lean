/-
  (package curvetlaw10) The walk of Hmacs: true. Condition: key and texts take at most 2^20 bytes together.
-/
import Derived.Test.YtbgbfigndelogaaAwake10
set_option linter.unusedSimpArgs false
set_option linter.unusedVariables false
namespace Go.Proofs.Ytbgbfigndelogaa.Cw
open Go Go.RowKit

set_option maxRecDepth 100000 in
set_option maxHeartbeats 1000000 in
theorem hmacs_walk (c : Int) (key u v : ByteArray) (w : World) (hc : (Lit.int .i64 c).wf = true) (hq : key.size ≤ 1048576) (h1 : u.size ≤ 1048576) (h2 : v.size ≤ 1048576) : Calls Try.prog 3 #[.int .i64 c, .string key, .string u, .string v] w fun e w' => e = .returned (.bool true) ∧ Below w.heap.size w w' := by
  clear hc
  have hab : (u ++ v).size ≤ 140737488351000 := by rw [ByteArray.size_append]; omega
  have hab2 : (u ++ v).size ≤ 140737488351232 := by omega
  have hk9 : key.size ≤ 140737488351232 := by omega
  have hu9 : u.size ≤ 140737488351000 := by omega
  have hu2 : u.size ≤ 140737488351232 := by omega
  have hv2 : v.size ≤ 140737488351232 := by omega
  go_enter Try.func3, Try.ntmps3
  by_cases hi : 1 ≤ c ∧ c ≤ 4
  · obtain ⟨id, rfl⟩ : ∃ id : Nat, c = (id : Int) := ⟨c.toNat, by omega⟩
    have hi' : isId id := by unfold isId; omega
    have hz := szOf_ne id
    clear hi
    go_wp2_with (first
          | (go_at_call 11; refine (num_calls _ _).mono ?_; rintro e w9 ⟨rfl, rfl⟩)
          | (go_at_call 10; refine (rsize id hi' _).mono ?_; rintro e w9 ⟨rfl, rfl⟩))
    first | (with_reducible refine (hmacOf_yes id _ _ _ hi' hk9 hab2).mono ?_) | (refine (hmacOf_yes id _ _ _ hi' hk9 hab2).mono ?_)
    rintro e w1 ⟨rfl, hb1⟩
    have hB1 := hb1
    go_wp2_with (first
          | (go_at_call 11; refine (num_calls _ _).mono ?_; rintro e w9 ⟨rfl, rfl⟩)
          | (go_at_call 10; refine (rsize id hi' _).mono ?_; rintro e w9 ⟨rfl, rfl⟩))
    first | (with_reducible refine (mac_yes id key hi' hk9 _).mono ?_) | (refine (mac_yes id key hi' hk9 _).mono ?_)
    rintro e w2 ⟨m, b, rfl, hh2, hbl2, hl2, hb2⟩
    have HH2 := Lib.hid (hh2 (· ≠ b) fun g _ h => h)
    clear hh2
    have hbl : w.heap.size ≤ b := Nat.le_trans hB1.size hbl2
    have hB2 := hB1.trans (hb2.mono hB1.size)
    go_wp2_with (first
          | (go_at_call 11; refine (num_calls _ _).mono ?_; rintro e w9 ⟨rfl, rfl⟩)
          | (go_at_call 10; refine (rsize id hi' _).mono ?_; rintro e w9 ⟨rfl, rfl⟩))
    first | (with_reducible refine (mac_write0 m b id (· ≠ b) key u w2 (fun g hg => by omega) (fun g h => h) hu2 HH2.out).mono ?_) | (refine (mac_write0 m b id (· ≠ b) key u w2 (fun g hg => by omega) (fun g h => h) hu2 HH2.out).mono ?_)
    rintro e w3 ⟨rfl, hh3, hb3⟩
    have HH3 := Lib.hid hh3
    have hl3 := hh3.lt
    clear hh3
    have hB3 : Below w.heap.size w w3 := But.below hB2 hb3 hbl hB2.size
    go_wp2_with (first
          | (go_at_call 11; refine (num_calls _ _).mono ?_; rintro e w9 ⟨rfl, rfl⟩)
          | (go_at_call 10; refine (rsize id hi' _).mono ?_; rintro e w9 ⟨rfl, rfl⟩))
    first | (with_reducible refine (mac_sum m b id (· ≠ b) _ _ _ hi' HH3.out).mono ?_) | (refine (mac_sum m b id (· ≠ b) _ _ _ hi' HH3.out).mono ?_)
    rintro e w4 ⟨rfl, hb4⟩
    have hB4 := hB3.trans (hb4.mono hB3.size)
    have HH4 := Lib.hid (HH3.out.below HH3.out.lt hb4)
    have hl4 := HH4.out.lt
    go_wp2_with (first
          | (go_at_call 11; refine (num_calls _ _).mono ?_; rintro e w9 ⟨rfl, rfl⟩)
          | (go_at_call 10; refine (rsize id hi' _).mono ?_; rintro e w9 ⟨rfl, rfl⟩))
    first | (with_reducible refine (mac_write m b id (· ≠ b) key u v w4 (fun g hg => by omega) (fun g h => h) hv2 HH4.out).mono ?_) | (refine (mac_write m b id (· ≠ b) key u v w4 (fun g hg => by omega) (fun g h => h) hv2 HH4.out).mono ?_)
    rintro e w5 ⟨rfl, hh5, hb5⟩
    have HH5 := Lib.hid hh5
    have hl5 := hh5.lt
    clear hh5
    have hB5 : Below w.heap.size w w5 := But.below hB4 hb5 hbl hB4.size
    go_wp2_with (first
          | (go_at_call 11; refine (num_calls _ _).mono ?_; rintro e w9 ⟨rfl, rfl⟩)
          | (go_at_call 10; refine (rsize id hi' _).mono ?_; rintro e w9 ⟨rfl, rfl⟩))
    first | (with_reducible refine (refHmac_calls id _ _ _ hi' hk9 hu9).mono ?_) | (refine (refHmac_calls id _ _ _ hi' hk9 hu9).mono ?_)
    rintro e w6 ⟨rfl, hb6⟩
    have hB6 := hB5.trans (hb6.mono hB5.size)
    have HH6 := Lib.hid (HH5.out.below HH5.out.lt hb6)
    have hl6 := HH6.out.lt
    go_wp2_with (first
          | (go_at_call 11; refine (num_calls _ _).mono ?_; rintro e w9 ⟨rfl, rfl⟩)
          | (go_at_call 10; refine (rsize id hi' _).mono ?_; rintro e w9 ⟨rfl, rfl⟩))
    first | (with_reducible refine (mac_sum m b id (· ≠ b) _ _ _ hi' HH6.out).mono ?_) | (refine (mac_sum m b id (· ≠ b) _ _ _ hi' HH6.out).mono ?_)
    rintro e w7 ⟨rfl, hb7⟩
    have hB7 := hB6.trans (hb7.mono hB6.size)
    have HH7 := Lib.hid (HH6.out.below HH6.out.lt hb7)
    have hl7 := HH7.out.lt
    go_wp2_with (first
          | (go_at_call 11; refine (num_calls _ _).mono ?_; rintro e w9 ⟨rfl, rfl⟩)
          | (go_at_call 10; refine (rsize id hi' _).mono ?_; rintro e w9 ⟨rfl, rfl⟩))
    first | (with_reducible refine (refHmac_calls id _ _ _ hi' hk9 hab).mono ?_) | (refine (refHmac_calls id _ _ _ hi' hk9 hab).mono ?_)
    rintro e w8 ⟨rfl, hb8⟩
    have hB8 := hB7.trans (hb8.mono hB7.size)
    go_wp2_with (first
          | (go_at_call 11; refine (num_calls _ _).mono ?_; rintro e w9 ⟨rfl, rfl⟩)
          | (go_at_call 10; refine (rsize id hi' _).mono ?_; rintro e w9 ⟨rfl, rfl⟩))
    first | (with_reducible refine (awake_calls _).mono ?_) | (refine (awake_calls _).mono ?_)
    rintro e w9 ⟨rfl, hb9⟩
    have hB9 := hB8.trans (hb9.mono hB8.size)
    go_wp2_with (first
          | (go_at_call 11; refine (num_calls _ _).mono ?_; rintro e w9 ⟨rfl, rfl⟩)
          | (go_at_call 10; refine (rsize id hi' _).mono ?_; rintro e w9 ⟨rfl, rfl⟩))
    go_ret
    exact ⟨by simp, hB9⟩
  · go_wp2_with (first
          | (go_at_call 11; refine (num_calls _ _).mono ?_; rintro e w9 ⟨rfl, rfl⟩)
          | (go_at_call 10; refine (rsize_no c hi _).mono ?_; rintro e w9 ⟨rfl, rfl⟩))
    first | (with_reducible refine (hmacOf_no c _ _ _ hi).mono ?_) | (refine (hmacOf_no c _ _ _ hi).mono ?_)
    rintro e w1 ⟨rfl, hb1⟩
    have hB1 := hb1
    go_wp2_with (first
          | (go_at_call 11; refine (num_calls _ _).mono ?_; rintro e w9 ⟨rfl, rfl⟩)
          | (go_at_call 10; refine (rsize_no c hi _).mono ?_; rintro e w9 ⟨rfl, rfl⟩))
    first | (with_reducible refine (mac_no c _ hi _).mono ?_) | (refine (mac_no c _ hi _).mono ?_)
    rintro e w2 ⟨rfl, hb2⟩
    have hB2 := hB1.trans (hb2.mono hB1.size)
    go_wp2_with (first
          | (go_at_call 11; refine (num_calls _ _).mono ?_; rintro e w9 ⟨rfl, rfl⟩)
          | (go_at_call 10; refine (rsize_no c hi _).mono ?_; rintro e w9 ⟨rfl, rfl⟩))
    first | (with_reducible refine (awake_calls _).mono ?_) | (refine (awake_calls _).mono ?_)
    rintro e w3 ⟨rfl, hb3⟩
    have hB3 := hB2.trans (hb3.mono hB2.size)
    go_wp2_with (first
          | (go_at_call 11; refine (num_calls _ _).mono ?_; rintro e w9 ⟨rfl, rfl⟩)
          | (go_at_call 10; refine (rsize_no c hi _).mono ?_; rintro e w9 ⟨rfl, rfl⟩))
    go_ret
    exact ⟨rfl, hB3⟩
end Go.Proofs.Ytbgbfigndelogaa.Cw
