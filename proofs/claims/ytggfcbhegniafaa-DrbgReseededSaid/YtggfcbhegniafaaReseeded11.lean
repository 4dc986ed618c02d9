/-
  (package curvetlaw11) The walk of DrbgReseeded: true. Condition: a text takes at most 2^47 - 4096 bytes.
-/
import Derived.Test.YtggfcbhegniafaaGm3
set_option linter.unusedSimpArgs false
set_option linter.unusedVariables false
namespace Go.Proofs.Ytggfcbhegniafaa.Cw
open Go Go.RowKit

set_option maxRecDepth 100000 in
set_option maxHeartbeats 4000000 in
theorem drbgReseeded_walk (c : Int) (u v : ByteArray) (c1 : Int) (w : World) (hc : (Lit.int .i64 c).wf = true) (hu : u.size ≤ 140737488351232) (hv : v.size ≤ 140737488351232) (hc1 : (Lit.int .i64 c1).wf = true) : Calls Try.prog 10 #[.int .i64 c, .string u, .string v, .int .i64 c1] w fun e w' => e = .returned (.bool true) ∧ Below w.heap.size w w' := by
  clear hc hc1
  go_enter Try.func10, Try.ntmps10
  obtain ⟨k, id, hk, he, hw, hi⟩ := pick_is c
  have HK := Lib.hid hk
  clear hk
  obtain ⟨j, hj, hj5⟩ := and15 c1
  have HJ := Lib.hid hj
  clear hj
  have hss := shortS_size u
  have hls : (⟨#[48, 49, 50, 51, 52, 53, 54, 55, 56, 57, 97, 98, 99, 100, 101, 102, 48, 49, 50, 51, 52, 53, 54, 55, 56, 57, 97, 98, 99, 100, 101, 102]⟩ : ByteArray).size = 32 := rfl
  obtain ⟨S, hS⟩ : ∃ S : ByteArray, S = (⟨#[48, 49, 50, 51, 52, 53, 54, 55, 56, 57, 97, 98, 99, 100, 101, 102, 48, 49, 50, 51, 52, 53, 54, 55, 56, 57, 97, 98, 99, 100, 101, 102]⟩ : ByteArray) ++ shortS u := ⟨_, rfl⟩
  have hS1 : 32 ≤ S.size := by rw [hS, ByteArray.size_append, hls]; omega
  have hS2 : S.size ≤ 200 := by rw [hS, ByteArray.size_append, hls]; omega
  have HS := Lib.hid hS
  clear hS
  have hvv := shortS_size v
  obtain ⟨V, hV⟩ : ∃ V, V = shortS v := ⟨_, rfl⟩
  have hV2 : V.size ≤ 256 := by rw [hV]; omega
  have hsv : ∀ w, Calls Try.prog 17 #[.string v] w fun e w' => e = .returned (.string V) ∧ w = w' := fun w => by rw [hV]; exact short_calls v w hv
  have HSV := Lib.hid hsv
  clear hV hvv hsv
  go_wp2_with (first
        | (go_at_call 13; refine (num_calls _ _).mono ?_; rintro e w9 ⟨rfl, rfl⟩)
        | (go_at_call 17; refine (short_calls _ _ (by assumption)).mono ?_; rintro e w9 ⟨rfl, rfl⟩))
  first | (with_reducible refine (awake_calls _).mono ?_) | (refine (awake_calls _).mono ?_)
  rintro e w1 ⟨rfl, hb1⟩
  have hB1 := hb1
  have hk := HK.out
  go_wp2_with (first
        | (go_at_call 13; refine (num_calls _ _).mono ?_; rintro e w9 ⟨rfl, rfl⟩)
        | (go_at_call 17; refine (short_calls _ _ (by assumption)).mono ?_; rintro e w9 ⟨rfl, rfl⟩))
  rw [← HS.out]
  clear hk hls hss
  go_wp2_with (go_at_call 13; refine (num_calls _ _).mono ?_; rintro e w9 ⟨rfl, rfl⟩)
  first | (with_reducible refine (dnew_ok id S _ _ _ hi (may2_ok hi hS1 (by omega) (by decide) (by decide))).mono ?_) | (refine (dnew_ok id S _ _ _ hi (may2_ok hi hS1 (by omega) (by decide) (by decide))).mono ?_)
  rintro e w2 ⟨ga, rfl, hd2, hl2, hb2⟩
  have hltga := lt_of hd2
  have Hga2 := Lib.hid hd2
  clear hd2
  have lowga : w.heap.size ≤ ga := (Nat.le_trans hB1.size hl2)
  have hB2 := hB1.trans (hb2.mono hB1.size)
  go_wp2_with (go_at_call 13; refine (num_calls _ _).mono ?_; rintro e w9 ⟨rfl, rfl⟩)
  first | (with_reducible refine (dnew_ok id S _ _ _ hi (may2_ok hi hS1 (by omega) (by decide) (by decide))).mono ?_) | (refine (dnew_ok id S _ _ _ hi (may2_ok hi hS1 (by omega) (by decide) (by decide))).mono ?_)
  rintro e w3 ⟨gb, rfl, hd3, hl3, hb3⟩
  have hltgb := lt_of hd3
  have Hgb3 := Lib.hid hd3
  clear hd3
  have lowgb : w.heap.size ≤ gb := (Nat.le_trans hB2.size hl3)
  have ne_ga_gb : ga ≠ gb := by omega
  have ne_gb_ga : gb ≠ ga := by omega
  have Hga3 := Lib.hid (DrbgAt.below Hga2.out hb3)
  have hB3 := hB2.trans (hb3.mono hB2.size)
  have hltga := lt_of Hga3.out
  go_wp2_with (go_at_call 13; refine (num_calls _ _).mono ?_; rintro e w9 ⟨rfl, rfl⟩)
  have hj := HJ.out
  go_loopw [15] (fun i wr => ∃ q : Nat, ∃ kv n, q ≤ j ∧ i = .int .i64 q ∧ fit id kv ∧ n = 1 + (q : Int) ∧ DrbgAt wr ga id kv n ∧ DrbgAt wr gb id kv n ∧ Below w.heap.size w wr) (fun i _ => j - (intOf i).toNat)
  case atStart => exact ⟨0, _, 1, by omega, rfl, kv0_fit hi _, rfl, Hga3.out, Hgb3.out, hB3⟩
  case round =>
    obtain ⟨q, kv, n, hq, rfl, hft, hn, hga, hgb, hbr⟩ := hrel
    have Hga := Lib.hid hga
    have Hgb := Lib.hid hgb
    clear hga hgb
    by_cases hlt : q < j
    · skip
      have hsz := genO_size hi kv q V
      go_wp2_with (first
            | (go_at_call 13; refine (num_calls _ _).mono ?_; rintro e w9 ⟨rfl, rfl⟩)
            | (go_at_call 17; refine (HSV.out _).mono ?_; rintro e w9 ⟨rfl, rfl⟩))
      first | (with_reducible refine (dgen_ok ga id kv (n) _ q V _ hi hft rfl (by omega) hV2 (by omega) (by omega) Hga.out).mono ?_) | (refine (dgen_ok ga id kv (n) _ q V _ hi hft rfl (by omega) hV2 (by omega) (by omega) Hga.out).mono ?_)
      rintro e w11 ⟨rfl, hd11, hb11⟩
      have Hga11 := Lib.hid hd11
      clear hd11
      have Hgb11 := Lib.hid (DrbgAt.but Hgb.out hb11 ne_gb_ga)
      have hB11 : Below w.heap.size w w11 := But.below hbr hb11 lowga hbr.size
      go_wp2_with (first
            | (go_at_call 13; refine (num_calls _ _).mono ?_; rintro e w9 ⟨rfl, rfl⟩)
            | (go_at_call 17; refine (HSV.out _).mono ?_; rintro e w9 ⟨rfl, rfl⟩))
      first | (with_reducible refine (dgen_ok gb id kv (n) _ q V _ hi hft rfl (by omega) hV2 (by omega) (by omega) Hgb11.out).mono ?_) | (refine (dgen_ok gb id kv (n) _ q V _ hi hft rfl (by omega) hV2 (by omega) (by omega) Hgb11.out).mono ?_)
      rintro e w12 ⟨rfl, hd12, hb12⟩
      have Hgb12 := Lib.hid hd12
      clear hd12
      have Hga12 := Lib.hid (DrbgAt.but Hga11.out hb12 ne_ga_gb)
      have hB12 : Below w.heap.size w w12 := But.below hB11 hb12 lowgb hB11.size
      go_wp2_with (go_at_call 13; refine (num_calls _ _).mono ?_; rintro e w9 ⟨rfl, rfl⟩)
      go_roundw
      case rel => exact ⟨q + 1, _, n + 1, by omega, by go_num, genK_fit hi _ _ _, by omega, Hga12.out, Hgb12.out, hB12⟩
      case measure => simp [intOf]; omega
    · skip
      have eqj : q = j := by omega
      go_wp2_with (first
            | (go_at_call 13; refine (num_calls _ _).mono ?_; rintro e w9 ⟨rfl, rfl⟩)
            | (go_at_call 17; refine (HSV.out _).mono ?_; rintro e w9 ⟨rfl, rfl⟩))
      first | (with_reducible refine (dreseed_ok ga id kv (n) S V _ hi hft (may1_ok hi hS1 (by omega) hV2) Hga.out).mono ?_) | (refine (dreseed_ok ga id kv (n) S V _ hi hft (may1_ok hi hS1 (by omega) hV2) Hga.out).mono ?_)
      rintro e w11 ⟨rfl, hd11, hb11⟩
      have Hga11 := Lib.hid hd11
      clear hd11
      have Hgb11 := Lib.hid (DrbgAt.but Hgb.out hb11 ne_gb_ga)
      have hB11 : Below w.heap.size w w11 := But.below hbr hb11 lowga hbr.size
      go_wp2_with (first
            | (go_at_call 13; refine (num_calls _ _).mono ?_; rintro e w9 ⟨rfl, rfl⟩)
            | (go_at_call 17; refine (HSV.out _).mono ?_; rintro e w9 ⟨rfl, rfl⟩))
      first | (with_reducible refine (dreseed_ok gb id kv (n) S V _ hi hft (may1_ok hi hS1 (by omega) hV2) Hgb11.out).mono ?_) | (refine (dreseed_ok gb id kv (n) S V _ hi hft (may1_ok hi hS1 (by omega) hV2) Hgb11.out).mono ?_)
      rintro e w12 ⟨rfl, hd12, hb12⟩
      have Hgb12 := Lib.hid hd12
      clear hd12
      have Hga12 := Lib.hid (DrbgAt.but Hga11.out hb12 ne_ga_gb)
      have hB12 : Below w.heap.size w w12 := But.below hB11 hb12 lowgb hB11.size
      go_wp2_with (first
            | (go_at_call 13; refine (num_calls _ _).mono ?_; rintro e w9 ⟨rfl, rfl⟩)
            | (go_at_call 17; refine (HSV.out _).mono ?_; rintro e w9 ⟨rfl, rfl⟩))
      first | (with_reducible refine (dgen_ok ga id (upd2 id (S ++ V) kv) (1) _ 32 _ _ hi (upd2_fit hi _ _) rfl (by decide) (by decide) (by omega) (by omega) Hga12.out).mono ?_) | (refine (dgen_ok ga id (upd2 id (S ++ V) kv) (1) _ 32 _ _ hi (upd2_fit hi _ _) rfl (by decide) (by decide) (by omega) (by omega) Hga12.out).mono ?_)
      rintro e w13 ⟨rfl, hd13, hb13⟩
      have Hga13 := Lib.hid hd13
      clear hd13
      have Hgb13 := Lib.hid (DrbgAt.but Hgb12.out hb13 ne_gb_ga)
      have hB13 : Below w.heap.size w w13 := But.below hB12 hb13 lowga hB12.size
      go_wp2_with (first
            | (go_at_call 13; refine (num_calls _ _).mono ?_; rintro e w9 ⟨rfl, rfl⟩)
            | (go_at_call 17; refine (HSV.out _).mono ?_; rintro e w9 ⟨rfl, rfl⟩))
      first | (with_reducible refine (dgen_ok gb id (upd2 id (S ++ V) kv) (1) _ 32 _ _ hi (upd2_fit hi _ _) rfl (by decide) (by decide) (by omega) (by omega) Hgb13.out).mono ?_) | (refine (dgen_ok gb id (upd2 id (S ++ V) kv) (1) _ 32 _ _ hi (upd2_fit hi _ _) rfl (by decide) (by decide) (by omega) (by omega) Hgb13.out).mono ?_)
      rintro e w14 ⟨rfl, hd14, hb14⟩
      have Hgb14 := Lib.hid hd14
      clear hd14
      have Hga14 := Lib.hid (DrbgAt.but Hga13.out hb14 ne_ga_gb)
      have hB14 : Below w.heap.size w w14 := But.below hB13 hb14 lowgb hB13.size
      go_wp2_with (first
            | (go_at_call 13; refine (num_calls _ _).mono ?_; rintro e w9 ⟨rfl, rfl⟩)
            | (go_at_call 17; refine (HSV.out _).mono ?_; rintro e w9 ⟨rfl, rfl⟩))
      first | (with_reducible refine (dcount_calls ga id (genK id (upd2 id (S ++ V) kv) 32 _) _ _ Hga14.out).mono ?_) | (refine (dcount_calls ga id (genK id (upd2 id (S ++ V) kv) 32 _) _ _ Hga14.out).mono ?_)
      rintro e w15 ⟨rfl, rfl⟩
      go_wp2_with (go_at_call 13; refine (num_calls _ _).mono ?_; rintro e w9 ⟨rfl, rfl⟩)
      go_ret
      exact ⟨by simp, hB14⟩
end Go.Proofs.Ytggfcbhegniafaa.Cw
