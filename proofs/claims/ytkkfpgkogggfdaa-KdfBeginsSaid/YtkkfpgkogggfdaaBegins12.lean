/-
  (package curvetlaw12) The walk of KdfBegins: true. Condition: each of the two texts takes at most 2^47 - 4096 bytes (what the form itself lets in).
-/
import Derived.Test.YtkkfpgkogggfdaaAwake12
import Derived.Test.YtkkfpgkogggfdaaKdfP
set_option linter.unusedSimpArgs false
set_option linter.unusedVariables false
namespace Go.Proofs.Ytkkfpgkogggfdaa.Cw
open Go Go.RowKit

set_option maxRecDepth 100000 in
set_option maxHeartbeats 1000000 in
theorem kdfBegins_walk (c : Int) (z info : ByteArray) (c1 c2 : Int) (w : World) (hc : (Lit.int .i64 c).wf = true) (h1 : z.size ≤ 140737488351232) (h2 : info.size ≤ 140737488351232) (hs1 : (Lit.int .i64 c1).wf = true) (hs2 : (Lit.int .i64 c2).wf = true) : Calls Try.prog 4 #[.int .i64 c, .string z, .string info, .int .i64 c1, .int .i64 c2] w fun e w' => e = .returned (.bool true) ∧ Below w.heap.size w w' := by
  clear hc hs1 hs2
  go_enter Try.func4, Try.ntmps4
  obtain ⟨k, id, hk, he, hw, hi⟩ := pick_is c
  have HK := Lib.hid hk
  clear hk
  obtain ⟨n, hn, hn5⟩ := and511 c1
  have HN := Lib.hid hn
  clear hn
  obtain ⟨n2, hn2, hn25⟩ := and511 c2
  have HN2 := Lib.hid hn2
  clear hn2
  obtain ⟨m, hm⟩ : ∃ m, m = n + n2 := ⟨_, rfl⟩
  have em : (n : Int) + (n2 : Int) = (m : Int) := by omega
  have em2 : wrap64 (m : Int) = (m : Int) := IntWalk.wrap64_in _ (by omega)
  have hnm : n ≤ m := by omega
  have hm2 : m ≤ 1024 := by omega
  have hsz := szOf_pos id
  have g5 : (⟨#[0, 0, 0, 1]⟩ : ByteArray).size = 4 := rfl
  have q0 : z.size + info.size ≤ 281474976702464 := by omega
  have q1 : n ≤ 1024 := by omega
  have q2 : szOf id ≤ 1024 := by omega
  have q3 : (⟨#[0, 0, 0, 1]⟩ ++ z ++ info : ByteArray).size ≤ 281474976710656 := by simp only [ByteArray.size_append]; rw [g5]; omega
  have g1 := kd_size hi z info n q1
  have g2 := kd_size hi z info m hm2
  have g3 := kd_pre hi z info n m hnm
  have g4 : kd id z info (szOf id) = dg id (⟨#[0, 0, 0, 1]⟩ ++ z ++ info) := kd_first hi z info
  clear hm
  go_wp2_with (go_at_call 9; refine (num_calls _ _).mono ?_; rintro e w9 ⟨rfl, rfl⟩)
  first | (with_reducible refine (awake_calls _).mono ?_) | (refine (awake_calls _).mono ?_)
  rintro e w1 ⟨rfl, hb1⟩
  have hB1 := hb1
  have hk := HK.out
  have hn := HN.out
  have hn2 := HN2.out
  go_wp2_with (go_at_call 9; refine (num_calls _ _).mono ?_; rintro e w9 ⟨rfl, rfl⟩)
  clear hk hn hn2
  go_wp2_with (go_at_call 9; refine (num_calls _ _).mono ?_; rintro e w9 ⟨rfl, rfl⟩)
  first | (with_reducible refine (kdf_yes id _ _ n _ hi q1 q0).mono ?_) | (refine (kdf_yes id _ _ n _ hi q1 q0).mono ?_)
  rintro e w2 ⟨rfl, hb2⟩
  have hB2 := hB1.trans (hb2.mono hB1.size)
  go_wp2_with (go_at_call 9; refine (num_calls _ _).mono ?_; rintro e w9 ⟨rfl, rfl⟩)
  first | (with_reducible refine (kdf_yes id _ _ m _ hi hm2 q0).mono ?_) | (refine (kdf_yes id _ _ m _ hi hm2 q0).mono ?_)
  rintro e w3 ⟨rfl, hb3⟩
  have hB3 := hB2.trans (hb3.mono hB2.size)
  go_wp2_with (go_at_call 9; refine (num_calls _ _).mono ?_; rintro e w9 ⟨rfl, rfl⟩)
  first | (with_reducible refine (hsize id hi _).mono ?_) | (refine (hsize id hi _).mono ?_)
  rintro e w4 ⟨rfl, hb4⟩
  have hB4 := hB3.trans (hb4.mono hB3.size)
  go_wp2_with (go_at_call 9; refine (num_calls _ _).mono ?_; rintro e w9 ⟨rfl, rfl⟩)
  first | (with_reducible refine (kdf_yes id _ _ (szOf id) _ hi q2 q0).mono ?_) | (refine (kdf_yes id _ _ (szOf id) _ hi q2 q0).mono ?_)
  rintro e w5 ⟨rfl, hb5⟩
  have hB5 := hB4.trans (hb5.mono hB4.size)
  go_wp2_with (go_at_call 9; refine (num_calls _ _).mono ?_; rintro e w9 ⟨rfl, rfl⟩)
  first | (with_reducible refine (hashOf_yes id (⟨#[0, 0, 0, 1]⟩ ++ z ++ info) _ hi q3).mono ?_) | (refine (hashOf_yes id (⟨#[0, 0, 0, 1]⟩ ++ z ++ info) _ hi q3).mono ?_)
  rintro e w6 ⟨rfl, hb6⟩
  have hB6 := hB5.trans (hb6.mono hB5.size)
  go_wp2_with (go_at_call 9; refine (num_calls _ _).mono ?_; rintro e w9 ⟨rfl, rfl⟩)
  go_ret
  exact ⟨rfl, hB6⟩
end Go.Proofs.Ytkkfpgkogggfdaa.Cw
