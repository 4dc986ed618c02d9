/-
  (package curvetlaw11) The walk of DrbgOnce: true. Condition: the text takes at most 2^47 - 4096 bytes.
-/
import Derived.Test.YtggfcbhegniafaaGm3
set_option linter.unusedSimpArgs false
set_option linter.unusedVariables false
namespace Go.Proofs.Ytggfcbhegniafaa.Cw
open Go Go.RowKit

set_option maxRecDepth 100000 in
set_option maxHeartbeats 4000000 in
theorem drbgOnce_walk (c : Int) (u : ByteArray) (c1 c2 : Int) (w : World) (hc : (Lit.int .i64 c).wf = true) (hu : u.size ≤ 140737488351232) (hc1 : (Lit.int .i64 c1).wf = true) (hc2 : (Lit.int .i64 c2).wf = true) : Calls Try.prog 3 #[.int .i64 c, .string u, .int .i64 c1, .int .i64 c2] w fun e w' => e = .returned (.bool true) ∧ Below w.heap.size w w' := by
  clear hc hc1 hc2
  go_enter Try.func3, Try.ntmps3
  obtain ⟨k, id, hk, he, hw, hi⟩ := pick_is c
  have HK := Lib.hid hk
  clear hk
  obtain ⟨j, hj, hj5⟩ := and127 c1
  obtain ⟨m, hm, hm5⟩ := and127 c2
  have HJ := Lib.hid hj
  have HM := Lib.hid hm
  clear hj hm
  have hls : (⟨#[48, 49, 50, 51, 52, 53, 54, 55, 56, 57, 97, 98, 99, 100, 101, 102, 48, 49, 50, 51, 52, 53, 54, 55, 56, 57, 97, 98, 99, 100, 101, 102]⟩ : ByteArray).size = 32 := rfl
  have hcat : (u ++ (⟨#[48, 49, 50, 51, 52, 53, 54, 55, 56, 57, 97, 98, 99, 100, 101, 102, 48, 49, 50, 51, 52, 53, 54, 55, 56, 57, 97, 98, 99, 100, 101, 102]⟩ : ByteArray)).size = u.size + 32 := by rw [ByteArray.size_append, hls]
  have e200 : ((u ++ (⟨#[48, 49, 50, 51, 52, 53, 54, 55, 56, 57, 97, 98, 99, 100, 101, 102, 48, 49, 50, 51, 52, 53, 54, 55, 56, 57, 97, 98, 99, 100, 101, 102]⟩ : ByteArray)).extract 0 200).size = min 200 (u.size + 32) := by rw [ByteArray.size_extract, hcat]; omega
  by_cases h200 : 200 < u.size + 32
  · skip
    obtain ⟨S, hS⟩ : ∃ S : ByteArray, S = ((u ++ (⟨#[48, 49, 50, 51, 52, 53, 54, 55, 56, 57, 97, 98, 99, 100, 101, 102, 48, 49, 50, 51, 52, 53, 54, 55, 56, 57, 97, 98, 99, 100, 101, 102]⟩ : ByteArray)).extract 0 200) := ⟨_, rfl⟩
    have hS1 : 32 ≤ S.size := by rw [hS]; rw [e200]; omega
    have hS2 : S.size ≤ 200 := by rw [hS]; rw [e200]; omega
    have HS := Lib.hid hS
    clear hS
    go_wp2_with (go_at_call 13; refine (num_calls _ _).mono ?_; rintro e w9 ⟨rfl, rfl⟩)
    first | (with_reducible refine (awake_calls _).mono ?_) | (refine (awake_calls _).mono ?_)
    rintro e w1 ⟨rfl, hb1⟩
    have hB1 := hb1
    have hk := HK.out
    go_wp2_with (go_at_call 13; refine (num_calls _ _).mono ?_; rintro e w9 ⟨rfl, rfl⟩)
    rw [← HS.out]
    clear hk hcat e200 hls
    go_wp2_with (go_at_call 13; refine (num_calls _ _).mono ?_; rintro e w9 ⟨rfl, rfl⟩)
    first | (with_reducible refine (dnew_ok id S _ _ _ hi (may2_ok hi hS1 (by omega) (by decide) (by decide))).mono ?_) | (refine (dnew_ok id S _ _ _ hi (may2_ok hi hS1 (by omega) (by decide) (by decide))).mono ?_)
    rintro e w2 ⟨ga, rfl, hd2, hl2, hb2⟩
    have hltga := lt_of hd2
    have Hga2 := Lib.hid hd2
    clear hd2
    have lowga : w.heap.size ≤ ga := (Nat.le_trans hB1.size hl2)
    have hB2 := hB1.trans (hb2.mono hB1.size)
    go_wp2_with (go_at_call 13; refine (num_calls _ _).mono ?_; rintro e w9 ⟨rfl, rfl⟩)
    first | (with_reducible refine (dnew_ok id S _ _ _ hi (may2_ok hi hS1 (by omega) (by decide) (by decide))).mono ?_) | (refine (dnew_ok id S _ _ _ hi (may2_ok hi hS1 (by omega) (by decide) (by decide))).mono ?_)
    rintro e w3 ⟨gb, rfl, hd3, hl3, hb3⟩
    have hltgb := lt_of hd3
    have Hgb3 := Lib.hid hd3
    clear hd3
    have lowgb : w.heap.size ≤ gb := (Nat.le_trans hB2.size hl3)
    have ne_ga_gb : ga ≠ gb := by omega
    have ne_gb_ga : gb ≠ ga := by omega
    have Hga3 := Lib.hid (DrbgAt.below Hga2.out hb3)
    have hB3 := hB2.trans (hb3.mono hB2.size)
    have hltga := lt_of Hga3.out
    go_wp2_with (go_at_call 13; refine (num_calls _ _).mono ?_; rintro e w9 ⟨rfl, rfl⟩)
    first | (with_reducible refine (dnew_ok id S _ _ _ hi (may2_ok hi hS1 (by omega) (by decide) (by decide))).mono ?_) | (refine (dnew_ok id S _ _ _ hi (may2_ok hi hS1 (by omega) (by decide) (by decide))).mono ?_)
    rintro e w4 ⟨gc, rfl, hd4, hl4, hb4⟩
    have hltgc := lt_of hd4
    have Hgc4 := Lib.hid hd4
    clear hd4
    have lowgc : w.heap.size ≤ gc := (Nat.le_trans hB3.size hl4)
    have ne_ga_gc : ga ≠ gc := by omega
    have ne_gc_ga : gc ≠ ga := by omega
    have ne_gb_gc : gb ≠ gc := by omega
    have ne_gc_gb : gc ≠ gb := by omega
    have Hga4 := Lib.hid (DrbgAt.below Hga3.out hb4)
    have Hgb4 := Lib.hid (DrbgAt.below Hgb3.out hb4)
    have hB4 := hB3.trans (hb4.mono hB3.size)
    have hltga := lt_of Hga4.out
    have hltgb := lt_of Hgb4.out
    have hj := HJ.out
    have hm := HM.out
    go_wp2_with (go_at_call 13; refine (num_calls _ _).mono ?_; rintro e w9 ⟨rfl, rfl⟩)
    first | (with_reducible refine (dgen_ok ga id (kv0 id (S ++ _ ++ _)) (1) _ j _ _ hi (kv0_fit hi _) rfl (by omega) (by decide) (by omega) (by omega) Hga4.out).mono ?_) | (refine (dgen_ok ga id (kv0 id (S ++ _ ++ _)) (1) _ j _ _ hi (kv0_fit hi _) rfl (by omega) (by decide) (by omega) (by omega) Hga4.out).mono ?_)
    rintro e w5 ⟨rfl, hd5, hb5⟩
    have Hga5 := Lib.hid hd5
    clear hd5
    have Hgb5 := Lib.hid (DrbgAt.but Hgb4.out hb5 ne_gb_ga)
    have Hgc5 := Lib.hid (DrbgAt.but Hgc4.out hb5 ne_gc_ga)
    have hB5 : Below w.heap.size w w5 := But.below hB4 hb5 lowga hB4.size
    go_wp2_with (go_at_call 13; refine (num_calls _ _).mono ?_; rintro e w9 ⟨rfl, rfl⟩)
    first | (with_reducible refine (dgen_ok gb id (kv0 id (S ++ _ ++ _)) (1) _ j _ _ hi (kv0_fit hi _) rfl (by omega) (by decide) (by omega) (by omega) Hgb5.out).mono ?_) | (refine (dgen_ok gb id (kv0 id (S ++ _ ++ _)) (1) _ j _ _ hi (kv0_fit hi _) rfl (by omega) (by decide) (by omega) (by omega) Hgb5.out).mono ?_)
    rintro e w6 ⟨rfl, hd6, hb6⟩
    have Hgb6 := Lib.hid hd6
    clear hd6
    have Hga6 := Lib.hid (DrbgAt.but Hga5.out hb6 ne_ga_gb)
    have Hgc6 := Lib.hid (DrbgAt.but Hgc5.out hb6 ne_gc_gb)
    have hB6 : Below w.heap.size w w6 := But.below hB5 hb6 lowgb hB5.size
    go_wp2_with (go_at_call 13; refine (num_calls _ _).mono ?_; rintro e w9 ⟨rfl, rfl⟩)
    first | (with_reducible refine (dgen_ok gc id (kv0 id (S ++ _ ++ _)) (1) _ (j + m) _ _ hi (kv0_fit hi _) (by simp) (by omega) (by decide) (by omega) (by omega) Hgc6.out).mono ?_) | (refine (dgen_ok gc id (kv0 id (S ++ _ ++ _)) (1) _ (j + m) _ _ hi (kv0_fit hi _) (by simp) (by omega) (by decide) (by omega) (by omega) Hgc6.out).mono ?_)
    rintro e w7 ⟨rfl, hd7, hb7⟩
    have Hgc7 := Lib.hid hd7
    clear hd7
    have Hga7 := Lib.hid (DrbgAt.but Hga6.out hb7 ne_ga_gc)
    have Hgb7 := Lib.hid (DrbgAt.but Hgb6.out hb7 ne_gb_gc)
    have hB7 : Below w.heap.size w w7 := But.below hB6 hb7 lowgc hB6.size
    clear hj hm
    go_wp2_with (go_at_call 13; refine (num_calls _ _).mono ?_; rintro e w9 ⟨rfl, rfl⟩)
    first | (with_reducible refine (dgen_ok ga id (genK id (kv0 id (S ++ _ ++ _)) j _) (1 + 1) _ 16 _ _ hi (genK_fit hi _ _ _) rfl (by decide) (by decide) (by omega) (by omega) Hga7.out).mono ?_) | (refine (dgen_ok ga id (genK id (kv0 id (S ++ _ ++ _)) j _) (1 + 1) _ 16 _ _ hi (genK_fit hi _ _ _) rfl (by decide) (by decide) (by omega) (by omega) Hga7.out).mono ?_)
    rintro e w8 ⟨rfl, hd8, hb8⟩
    have Hga8 := Lib.hid hd8
    clear hd8
    have Hgb8 := Lib.hid (DrbgAt.but Hgb7.out hb8 ne_gb_ga)
    have Hgc8 := Lib.hid (DrbgAt.but Hgc7.out hb8 ne_gc_ga)
    have hB8 : Below w.heap.size w w8 := But.below hB7 hb8 lowga hB7.size
    go_wp2_with (go_at_call 13; refine (num_calls _ _).mono ?_; rintro e w9 ⟨rfl, rfl⟩)
    first | (with_reducible refine (dgen_ok gb id (genK id (kv0 id (S ++ _ ++ _)) j _) (1 + 1) _ 16 _ _ hi (genK_fit hi _ _ _) rfl (by decide) (by decide) (by omega) (by omega) Hgb8.out).mono ?_) | (refine (dgen_ok gb id (genK id (kv0 id (S ++ _ ++ _)) j _) (1 + 1) _ 16 _ _ hi (genK_fit hi _ _ _) rfl (by decide) (by decide) (by omega) (by omega) Hgb8.out).mono ?_)
    rintro e w9 ⟨rfl, hd9, hb9⟩
    have Hgb9 := Lib.hid hd9
    clear hd9
    have Hga9 := Lib.hid (DrbgAt.but Hga8.out hb9 ne_ga_gb)
    have Hgc9 := Lib.hid (DrbgAt.but Hgc8.out hb9 ne_gc_gb)
    have hB9 : Below w.heap.size w w9 := But.below hB8 hb9 lowgb hB8.size
    have hz1 := genO_size hi (kv0 id (S ++ ⟨#[]⟩ ++ ⟨#[112]⟩)) (j + m) ⟨#[]⟩
    have hpr := genO_pre hi (kv0 id (S ++ ⟨#[]⟩ ++ ⟨#[112]⟩)) j (j + m) ⟨#[]⟩ (by omega)
    go_wp2_with (go_at_call 13; refine (num_calls _ _).mono ?_; rintro e w9 ⟨rfl, rfl⟩)
    first | (with_reducible refine (dcount_calls ga id (genK id (genK id (kv0 id (S ++ _ ++ _)) j _) 16 _) _ _ Hga9.out).mono ?_) | (refine (dcount_calls ga id (genK id (genK id (kv0 id (S ++ _ ++ _)) j _) 16 _) _ _ Hga9.out).mono ?_)
    rintro e w10 ⟨rfl, rfl⟩
    go_wp2_with (go_at_call 13; refine (num_calls _ _).mono ?_; rintro e w9 ⟨rfl, rfl⟩)
    go_ret
    exact ⟨by simp, hB9⟩
  · skip
    obtain ⟨S, hS⟩ : ∃ S : ByteArray, S = (u ++ (⟨#[48, 49, 50, 51, 52, 53, 54, 55, 56, 57, 97, 98, 99, 100, 101, 102, 48, 49, 50, 51, 52, 53, 54, 55, 56, 57, 97, 98, 99, 100, 101, 102]⟩ : ByteArray)) := ⟨_, rfl⟩
    have hS1 : 32 ≤ S.size := by rw [hS]; rw [hcat]; omega
    have hS2 : S.size ≤ 200 := by rw [hS]; rw [hcat]; omega
    have HS := Lib.hid hS
    clear hS
    go_wp2_with (go_at_call 13; refine (num_calls _ _).mono ?_; rintro e w9 ⟨rfl, rfl⟩)
    first | (with_reducible refine (awake_calls _).mono ?_) | (refine (awake_calls _).mono ?_)
    rintro e w1 ⟨rfl, hb1⟩
    have hB1 := hb1
    have hk := HK.out
    go_wp2_with (go_at_call 13; refine (num_calls _ _).mono ?_; rintro e w9 ⟨rfl, rfl⟩)
    rw [← HS.out]
    clear hk hcat e200 hls
    go_wp2_with (go_at_call 13; refine (num_calls _ _).mono ?_; rintro e w9 ⟨rfl, rfl⟩)
    first | (with_reducible refine (dnew_ok id S _ _ _ hi (may2_ok hi hS1 (by omega) (by decide) (by decide))).mono ?_) | (refine (dnew_ok id S _ _ _ hi (may2_ok hi hS1 (by omega) (by decide) (by decide))).mono ?_)
    rintro e w2 ⟨ga, rfl, hd2, hl2, hb2⟩
    have hltga := lt_of hd2
    have Hga2 := Lib.hid hd2
    clear hd2
    have lowga : w.heap.size ≤ ga := (Nat.le_trans hB1.size hl2)
    have hB2 := hB1.trans (hb2.mono hB1.size)
    go_wp2_with (go_at_call 13; refine (num_calls _ _).mono ?_; rintro e w9 ⟨rfl, rfl⟩)
    first | (with_reducible refine (dnew_ok id S _ _ _ hi (may2_ok hi hS1 (by omega) (by decide) (by decide))).mono ?_) | (refine (dnew_ok id S _ _ _ hi (may2_ok hi hS1 (by omega) (by decide) (by decide))).mono ?_)
    rintro e w3 ⟨gb, rfl, hd3, hl3, hb3⟩
    have hltgb := lt_of hd3
    have Hgb3 := Lib.hid hd3
    clear hd3
    have lowgb : w.heap.size ≤ gb := (Nat.le_trans hB2.size hl3)
    have ne_ga_gb : ga ≠ gb := by omega
    have ne_gb_ga : gb ≠ ga := by omega
    have Hga3 := Lib.hid (DrbgAt.below Hga2.out hb3)
    have hB3 := hB2.trans (hb3.mono hB2.size)
    have hltga := lt_of Hga3.out
    go_wp2_with (go_at_call 13; refine (num_calls _ _).mono ?_; rintro e w9 ⟨rfl, rfl⟩)
    first | (with_reducible refine (dnew_ok id S _ _ _ hi (may2_ok hi hS1 (by omega) (by decide) (by decide))).mono ?_) | (refine (dnew_ok id S _ _ _ hi (may2_ok hi hS1 (by omega) (by decide) (by decide))).mono ?_)
    rintro e w4 ⟨gc, rfl, hd4, hl4, hb4⟩
    have hltgc := lt_of hd4
    have Hgc4 := Lib.hid hd4
    clear hd4
    have lowgc : w.heap.size ≤ gc := (Nat.le_trans hB3.size hl4)
    have ne_ga_gc : ga ≠ gc := by omega
    have ne_gc_ga : gc ≠ ga := by omega
    have ne_gb_gc : gb ≠ gc := by omega
    have ne_gc_gb : gc ≠ gb := by omega
    have Hga4 := Lib.hid (DrbgAt.below Hga3.out hb4)
    have Hgb4 := Lib.hid (DrbgAt.below Hgb3.out hb4)
    have hB4 := hB3.trans (hb4.mono hB3.size)
    have hltga := lt_of Hga4.out
    have hltgb := lt_of Hgb4.out
    have hj := HJ.out
    have hm := HM.out
    go_wp2_with (go_at_call 13; refine (num_calls _ _).mono ?_; rintro e w9 ⟨rfl, rfl⟩)
    first | (with_reducible refine (dgen_ok ga id (kv0 id (S ++ _ ++ _)) (1) _ j _ _ hi (kv0_fit hi _) rfl (by omega) (by decide) (by omega) (by omega) Hga4.out).mono ?_) | (refine (dgen_ok ga id (kv0 id (S ++ _ ++ _)) (1) _ j _ _ hi (kv0_fit hi _) rfl (by omega) (by decide) (by omega) (by omega) Hga4.out).mono ?_)
    rintro e w5 ⟨rfl, hd5, hb5⟩
    have Hga5 := Lib.hid hd5
    clear hd5
    have Hgb5 := Lib.hid (DrbgAt.but Hgb4.out hb5 ne_gb_ga)
    have Hgc5 := Lib.hid (DrbgAt.but Hgc4.out hb5 ne_gc_ga)
    have hB5 : Below w.heap.size w w5 := But.below hB4 hb5 lowga hB4.size
    go_wp2_with (go_at_call 13; refine (num_calls _ _).mono ?_; rintro e w9 ⟨rfl, rfl⟩)
    first | (with_reducible refine (dgen_ok gb id (kv0 id (S ++ _ ++ _)) (1) _ j _ _ hi (kv0_fit hi _) rfl (by omega) (by decide) (by omega) (by omega) Hgb5.out).mono ?_) | (refine (dgen_ok gb id (kv0 id (S ++ _ ++ _)) (1) _ j _ _ hi (kv0_fit hi _) rfl (by omega) (by decide) (by omega) (by omega) Hgb5.out).mono ?_)
    rintro e w6 ⟨rfl, hd6, hb6⟩
    have Hgb6 := Lib.hid hd6
    clear hd6
    have Hga6 := Lib.hid (DrbgAt.but Hga5.out hb6 ne_ga_gb)
    have Hgc6 := Lib.hid (DrbgAt.but Hgc5.out hb6 ne_gc_gb)
    have hB6 : Below w.heap.size w w6 := But.below hB5 hb6 lowgb hB5.size
    go_wp2_with (go_at_call 13; refine (num_calls _ _).mono ?_; rintro e w9 ⟨rfl, rfl⟩)
    first | (with_reducible refine (dgen_ok gc id (kv0 id (S ++ _ ++ _)) (1) _ (j + m) _ _ hi (kv0_fit hi _) (by simp) (by omega) (by decide) (by omega) (by omega) Hgc6.out).mono ?_) | (refine (dgen_ok gc id (kv0 id (S ++ _ ++ _)) (1) _ (j + m) _ _ hi (kv0_fit hi _) (by simp) (by omega) (by decide) (by omega) (by omega) Hgc6.out).mono ?_)
    rintro e w7 ⟨rfl, hd7, hb7⟩
    have Hgc7 := Lib.hid hd7
    clear hd7
    have Hga7 := Lib.hid (DrbgAt.but Hga6.out hb7 ne_ga_gc)
    have Hgb7 := Lib.hid (DrbgAt.but Hgb6.out hb7 ne_gb_gc)
    have hB7 : Below w.heap.size w w7 := But.below hB6 hb7 lowgc hB6.size
    clear hj hm
    go_wp2_with (go_at_call 13; refine (num_calls _ _).mono ?_; rintro e w9 ⟨rfl, rfl⟩)
    first | (with_reducible refine (dgen_ok ga id (genK id (kv0 id (S ++ _ ++ _)) j _) (1 + 1) _ 16 _ _ hi (genK_fit hi _ _ _) rfl (by decide) (by decide) (by omega) (by omega) Hga7.out).mono ?_) | (refine (dgen_ok ga id (genK id (kv0 id (S ++ _ ++ _)) j _) (1 + 1) _ 16 _ _ hi (genK_fit hi _ _ _) rfl (by decide) (by decide) (by omega) (by omega) Hga7.out).mono ?_)
    rintro e w8 ⟨rfl, hd8, hb8⟩
    have Hga8 := Lib.hid hd8
    clear hd8
    have Hgb8 := Lib.hid (DrbgAt.but Hgb7.out hb8 ne_gb_ga)
    have Hgc8 := Lib.hid (DrbgAt.but Hgc7.out hb8 ne_gc_ga)
    have hB8 : Below w.heap.size w w8 := But.below hB7 hb8 lowga hB7.size
    go_wp2_with (go_at_call 13; refine (num_calls _ _).mono ?_; rintro e w9 ⟨rfl, rfl⟩)
    first | (with_reducible refine (dgen_ok gb id (genK id (kv0 id (S ++ _ ++ _)) j _) (1 + 1) _ 16 _ _ hi (genK_fit hi _ _ _) rfl (by decide) (by decide) (by omega) (by omega) Hgb8.out).mono ?_) | (refine (dgen_ok gb id (genK id (kv0 id (S ++ _ ++ _)) j _) (1 + 1) _ 16 _ _ hi (genK_fit hi _ _ _) rfl (by decide) (by decide) (by omega) (by omega) Hgb8.out).mono ?_)
    rintro e w9 ⟨rfl, hd9, hb9⟩
    have Hgb9 := Lib.hid hd9
    clear hd9
    have Hga9 := Lib.hid (DrbgAt.but Hga8.out hb9 ne_ga_gb)
    have Hgc9 := Lib.hid (DrbgAt.but Hgc8.out hb9 ne_gc_gb)
    have hB9 : Below w.heap.size w w9 := But.below hB8 hb9 lowgb hB8.size
    have hz1 := genO_size hi (kv0 id (S ++ ⟨#[]⟩ ++ ⟨#[112]⟩)) (j + m) ⟨#[]⟩
    have hpr := genO_pre hi (kv0 id (S ++ ⟨#[]⟩ ++ ⟨#[112]⟩)) j (j + m) ⟨#[]⟩ (by omega)
    go_wp2_with (go_at_call 13; refine (num_calls _ _).mono ?_; rintro e w9 ⟨rfl, rfl⟩)
    first | (with_reducible refine (dcount_calls ga id (genK id (genK id (kv0 id (S ++ _ ++ _)) j _) 16 _) _ _ Hga9.out).mono ?_) | (refine (dcount_calls ga id (genK id (genK id (kv0 id (S ++ _ ++ _)) j _) 16 _) _ _ Hga9.out).mono ?_)
    rintro e w10 ⟨rfl, rfl⟩
    go_wp2_with (go_at_call 13; refine (num_calls _ _).mono ?_; rintro e w9 ⟨rfl, rfl⟩)
    go_ret
    exact ⟨by simp, hB9⟩
end Go.Proofs.Ytggfcbhegniafaa.Cw
