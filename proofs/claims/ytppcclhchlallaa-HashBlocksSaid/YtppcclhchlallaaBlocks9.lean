/-
  (package curvetlaw9) The walk of HashBlocks: true. Condition: the text takes at most 2^47 - 4096 bytes.
-/
import Derived.Test.YtppcclhchlallaaAwake9

set_option linter.unusedSimpArgs false
set_option linter.unusedVariables false
namespace Go.Proofs.Ytppcclhchlallaa.Cw
open Go Go.RowKit

set_option maxRecDepth 100000 in
set_option maxHeartbeats 500000 in
theorem hashBlocks_walk (c : Int) (u : ByteArray) (w : World) (hc : (Lit.int .i64 c).wf = true) (hs : u.size ≤ 140737488351232) : Calls Try.prog 6 #[.int .i64 c, .string u] w fun e w' => e = .returned (.bool true) ∧ Below w.heap.size w w' := by
  go_enter Try.func6, Try.ntmps6
  obtain ⟨k, id, hk, he, hw, hi'⟩ := pick_is c
  have hz := szOf_ne id
  have hsz := szOf_pos id
  have hdz := dg_sz hi' u
  rcases blk_lt hi' with ⟨hbk, hlt⟩ | ⟨hbk, hlt⟩
  all_goals
    go_wp2_with (go_at_call 14; refine (num_calls _ _).mono ?_; rintro e w9 ⟨rfl, rfl⟩)
    refine (awake_calls _).mono ?_
    rintro e w1 ⟨rfl, hb1⟩
    have hB1 := hb1
    go_wp2_with (go_at_call 14; refine (num_calls _ _).mono ?_; rintro e w9 ⟨rfl, rfl⟩)
    refine (hashOf_yes id _ _ hi' hs).mono ?_
    rintro e w2 ⟨rfl, hb2⟩
    have hB2 := hB1.trans (hb2.mono hB1.size)
    go_wp2_with (go_at_call 14; refine (num_calls _ _).mono ?_; rintro e w9 ⟨rfl, rfl⟩)
    refine (strm_yes id hi' _).mono ?_
    rintro e w3 ⟨s, b, rfl, hh3, hbl3, hl3, hb3⟩
    have HH3 := Lib.hid (hh3 (· ≠ b) fun g _ h => h)
    clear hh3
    have hB3 := hB2.trans (hb3.mono hB2.size)
    go_wp2_with (go_at_call 14; refine (num_calls _ _).mono ?_; rintro e w9 ⟨rfl, rfl⟩)
    refine (strm_sum s b id (· ≠ b) ⟨#[]⟩ _ hi' HH3.out).mono ?_
    rintro e w4 ⟨rfl, hb4⟩
    have hB4 := hB3.trans (hb4.mono hB3.size)
    go_wp2_with (go_at_call 14; refine (num_calls _ _).mono ?_; rintro e w9 ⟨rfl, rfl⟩)
    refine (hashOf_yes id _ _ hi' (by decide)).mono ?_
    rintro e w5 ⟨rfl, hb5⟩
    have hB5 := hB4.trans (hb5.mono hB4.size)
    go_wp2_with (go_at_call 14; refine (num_calls _ _).mono ?_; rintro e w9 ⟨rfl, rfl⟩)
    refine (hsize id hi' _).mono ?_
    rintro e w6 ⟨rfl, hb6⟩
    have hB6 := hB5.trans (hb6.mono hB5.size)
    go_wp2_with (go_at_call 14; refine (num_calls _ _).mono ?_; rintro e w9 ⟨rfl, rfl⟩)
    refine (block_yes id hi' _).mono ?_
    rintro e w7 ⟨rfl, hb7⟩
    have hB7 := hB6.trans (hb7.mono hB6.size)
    go_wp2_with (go_at_call 14; refine (num_calls _ _).mono ?_; rintro e w9 ⟨rfl, rfl⟩)
    refine (block_yes id hi' _).mono ?_
    rintro e w8 ⟨rfl, hb8⟩
    have hB8 := hB7.trans (hb8.mono hB7.size)
    go_wp2_with (go_at_call 14; refine (num_calls _ _).mono ?_; rintro e w9 ⟨rfl, rfl⟩)
    refine (hsize id hi' _).mono ?_
    rintro e w9 ⟨rfl, hb9⟩
    have hB9 := hB8.trans (hb9.mono hB8.size)
    go_wp2_with (go_at_call 14; refine (num_calls _ _).mono ?_; rintro e w9 ⟨rfl, rfl⟩)
    refine (size_no 0 (by decide) _).mono ?_
    rintro e w10 ⟨rfl, hb10⟩
    have hB10 := hB9.trans (hb10.mono hB9.size)
    go_wp2_with (go_at_call 14; refine (num_calls _ _).mono ?_; rintro e w9 ⟨rfl, rfl⟩)
    refine (block_no 5 (by decide) _).mono ?_
    rintro e w11 ⟨rfl, hb11⟩
    have hB11 := hB10.trans (hb11.mono hB10.size)
    go_wp2_with (go_at_call 14; refine (num_calls _ _).mono ?_; rintro e w9 ⟨rfl, rfl⟩)
    go_ret
    exact ⟨rfl, hB11⟩
end Go.Proofs.Ytppcclhchlallaa.Cw
