/-
  (package curvetlaw12) The walk of KdfBlocks: true. Condition: each of the two texts takes at most 2^47 - 4096 bytes (what the form itself lets in).
-/
import Derived.Test.YtkkfpgkogggfdaaAwake12
import Derived.Test.YtkkfpgkogggfdaaKdfP
set_option linter.unusedSimpArgs false
set_option linter.unusedVariables false
namespace Go.Proofs.Ytkkfpgkogggfdaa.Cw
open Go Go.RowKit

set_option maxRecDepth 100000 in
set_option maxHeartbeats 1000000 in
theorem kdfBlocks_walk (c : Int) (z info : ByteArray) (c1 : Int) (w : World) (hc : (Lit.int .i64 c).wf = true) (h1 : z.size ≤ 140737488351232) (h2 : info.size ≤ 140737488351232) (hs1 : (Lit.int .i64 c1).wf = true) : Calls Try.prog 5 #[.int .i64 c, .string z, .string info, .int .i64 c1] w fun e w' => e = .returned (.bool true) ∧ Below w.heap.size w w' := by
  clear hc hs1
  go_enter Try.func5, Try.ntmps5
  obtain ⟨k, id, hk, he, hw, hi⟩ := pick_is c
  have HK := Lib.hid hk
  clear hk
  obtain ⟨n, hn, hn5⟩ := and7 c1
  have HN := Lib.hid hn
  clear hn
  have hsz := szOf_pos id
  have q0 : z.size + info.size ≤ 281474976702464 := by omega
  have q4 : (-1 : Int) < 0 ∨ 1024 < (-1 : Int) := by decide
  have q5 : n < 64 := by omega
  obtain ⟨i, M, M2, ei, ei2, ein, ein2, eW, eW2, b2, q1, hi1, hM, hM2, q6⟩ := blk_facts (szOf id) n hsz.2 hn5
  have hn4 := num4_size i
  have q3 : (num4 i ++ z ++ info : ByteArray).size ≤ 281474976710656 := cat4_size i z info q0
  have hcv := fun w => conv4i w i q6
  have g1 := kd_size hi z info M q1
  have g2 : (kd id z info M).extract M2 M = dg id (num4 i ++ z ++ info) := by
    have := kd_blk hi z info n q5
    rw [hM, hM2, hi1]
    exact this
  clear hi1 hM hM2
  go_wp2_with (go_at_call 9; refine (num_calls _ _).mono ?_; rintro e w9 ⟨rfl, rfl⟩)
  first | (with_reducible refine (awake_calls _).mono ?_) | (refine (awake_calls _).mono ?_)
  rintro e w1 ⟨rfl, hb1⟩
  have hB1 := hb1
  have hk := HK.out
  have hn := HN.out
  go_wp2_with (go_at_call 9; refine (num_calls _ _).mono ?_; rintro e w9 ⟨rfl, rfl⟩)
  clear hk
  go_wp2_with (go_at_call 9; refine (num_calls _ _).mono ?_; rintro e w9 ⟨rfl, rfl⟩)
  first | (with_reducible refine (hsize id hi _).mono ?_) | (refine (hsize id hi _).mono ?_)
  rintro e w2 ⟨rfl, hb2⟩
  have hB2 := hB1.trans (hb2.mono hB1.size)
  go_wp2_with (go_at_call 9; refine (num_calls _ _).mono ?_; rintro e w9 ⟨rfl, rfl⟩)
  clear hn
  go_wp2_with (go_at_call 9; refine (num_calls _ _).mono ?_; rintro e w9 ⟨rfl, rfl⟩)
  first | (with_reducible refine (kdf_yes id _ _ M _ hi q1 q0).mono ?_) | (refine (kdf_yes id _ _ M _ hi q1 q0).mono ?_)
  rintro e w3 ⟨rfl, hb3⟩
  have hB3 := hB2.trans (hb3.mono hB2.size)
  go_wp2_with (go_at_call 9; refine (num_calls _ _).mono ?_; rintro e w9 ⟨rfl, rfl⟩)
  first | (with_reducible refine (hashOf_yes id (num4 i ++ z ++ info) _ hi q3).mono ?_) | (refine (hashOf_yes id (num4 i ++ z ++ info) _ hi q3).mono ?_)
  rintro e w4 ⟨rfl, hb4⟩
  have hB4 : Below w.heap.size w w4 := (hB3.alloc hB3.size _).trans (hb4.mono (Nat.le_trans hB3.size (by simp)))
  go_wp2_with (go_at_call 9; refine (num_calls _ _).mono ?_; rintro e w9 ⟨rfl, rfl⟩)
  first | (with_reducible refine (kdf_zero id _ _ _ hi q0).mono ?_) | (refine (kdf_zero id _ _ _ hi q0).mono ?_)
  rintro e w5 ⟨rfl, hb5⟩
  have hB5 := hB4.trans (hb5.mono hB4.size)
  go_wp2_with (go_at_call 9; refine (num_calls _ _).mono ?_; rintro e w9 ⟨rfl, rfl⟩)
  first | (with_reducible refine (kdf_minus id _ _ _ hi).mono ?_) | (refine (kdf_minus id _ _ _ hi).mono ?_)
  rintro e w6 ⟨rfl, hb6⟩
  have hB6 := hB5.trans (hb6.mono hB5.size)
  go_wp2_with (go_at_call 9; refine (num_calls _ _).mono ?_; rintro e w9 ⟨rfl, rfl⟩)
  go_ret
  exact ⟨rfl, hB6⟩
end Go.Proofs.Ytkkfpgkogggfdaa.Cw
