/-
  (package curvetlaw11) The walk of DrbgLimits: true. Condition: the text takes at most 2^47 - 4096 bytes.
-/
import Derived.Test.YtggfcbhegniafaaGm3
set_option linter.unusedSimpArgs false
set_option linter.unusedVariables false
namespace Go.Proofs.Ytggfcbhegniafaa.Cw
open Go Go.RowKit

set_option maxRecDepth 100000 in
set_option maxHeartbeats 4000000 in
theorem drbgLimits_walk (u : ByteArray) (c : Int) (c1 : Int) (w : World) (hu : u.size ≤ 140737488351232) (hc : (Lit.int .i64 c).wf = true) (hc1 : (Lit.int .i64 c1).wf = true) : Calls Try.prog 9 #[.string u, .int .i64 c, .int .i64 c1] w fun e w' => e = .returned (.bool true) ∧ Below w.heap.size w w' := by
  clear hc hc1
  go_enter Try.func9, Try.ntmps9
  obtain ⟨k, id, hk, he, hw, hi⟩ := pick_is c
  have HK := Lib.hid hk
  clear hk
  obtain ⟨j, hj, hj5⟩ := and7 c1
  have HJ := Lib.hid hj
  clear hj
  have hls : (⟨#[48, 49, 50, 51, 52, 53, 54, 55, 56, 57, 97, 98, 99, 100, 101, 102, 48, 49, 50, 51, 52, 53, 54, 55, 56, 57, 97, 98, 99, 100, 101, 102]⟩ : ByteArray).size = 32 := rfl
  have hcat : ((⟨#[48, 49, 50, 51, 52, 53, 54, 55, 56, 57, 97, 98, 99, 100, 101, 102, 48, 49, 50, 51, 52, 53, 54, 55, 56, 57, 97, 98, 99, 100, 101, 102]⟩ : ByteArray) ++ u).size = 32 + u.size := by rw [ByteArray.size_append, hls]
  have e100 : (((⟨#[48, 49, 50, 51, 52, 53, 54, 55, 56, 57, 97, 98, 99, 100, 101, 102, 48, 49, 50, 51, 52, 53, 54, 55, 56, 57, 97, 98, 99, 100, 101, 102]⟩ : ByteArray) ++ u).extract 0 100).size = min 100 (32 + u.size) := by rw [ByteArray.size_extract, hcat]; omega
  by_cases h100 : 100 < 32 + u.size
  · skip
    obtain ⟨S, hS⟩ : ∃ S : ByteArray, S = (((⟨#[48, 49, 50, 51, 52, 53, 54, 55, 56, 57, 97, 98, 99, 100, 101, 102, 48, 49, 50, 51, 52, 53, 54, 55, 56, 57, 97, 98, 99, 100, 101, 102]⟩ : ByteArray) ++ u).extract 0 100) := ⟨_, rfl⟩
    have hS1 : 32 ≤ S.size := by rw [hS]; rw [e100]; omega
    have hS2 : S.size ≤ 200 := by rw [hS]; rw [e100]; omega
    have HS := Lib.hid hS
    clear hS
    go_wp2_with (go_at_call 13; refine (num_calls _ _).mono ?_; rintro e w9 ⟨rfl, rfl⟩)
    first | (with_reducible refine (awake_calls _).mono ?_) | (refine (awake_calls _).mono ?_)
    rintro e w1 ⟨rfl, hb1⟩
    have hB1 := hb1
    have hk := HK.out
    go_wp2_with (go_at_call 13; refine (num_calls _ _).mono ?_; rintro e w9 ⟨rfl, rfl⟩)
    rw [← HS.out]
    clear hk hcat e100 hls
    go_wp2_with (go_at_call 13; refine (num_calls _ _).mono ?_; rintro e w9 ⟨rfl, rfl⟩)
    first | (with_reducible refine (dnew_ok id S _ _ _ hi (may2_ok hi hS1 (by omega) (by decide) (by decide))).mono ?_) | (refine (dnew_ok id S _ _ _ hi (may2_ok hi hS1 (by omega) (by decide) (by decide))).mono ?_)
    rintro e w2 ⟨ga, rfl, hd2, hl2, hb2⟩
    have hltga := lt_of hd2
    have Hga2 := Lib.hid hd2
    clear hd2
    have lowga : w.heap.size ≤ ga := (Nat.le_trans hB1.size hl2)
    have hB2 := hB1.trans (hb2.mono hB1.size)
    go_wp2_with (go_at_call 13; refine (num_calls _ _).mono ?_; rintro e w9 ⟨rfl, rfl⟩)
    go_loopw [11] (fun i wr => ∃ q : Nat, ∃ kv n, q ≤ 64 ∧ i = .int .i64 q ∧ fit id kv ∧ n = 1 + (q : Int) ∧ DrbgAt wr ga id kv n ∧ Below w.heap.size w wr) (fun i _ => 64 - (intOf i).toNat)
    case atStart => exact ⟨0, _, 1, by omega, rfl, kv0_fit hi _, rfl, Hga2.out, hB2⟩
    case round =>
      obtain ⟨q, kv, n, hq, rfl, hft, hn, hga, hbr⟩ := hrel
      have Hga := Lib.hid hga
      have hj := HJ.out
      clear hga
      by_cases hlt : q < 64
      · skip
        go_wp2_with (go_at_call 13; refine (num_calls _ _).mono ?_; rintro e w9 ⟨rfl, rfl⟩)
        first | (with_reducible refine (dgen_ok ga id kv (n) _ j _ _ hi hft rfl (by omega) (by decide) (by omega) (by omega) Hga.out).mono ?_) | (refine (dgen_ok ga id kv (n) _ j _ _ hi hft rfl (by omega) (by decide) (by omega) (by omega) Hga.out).mono ?_)
        rintro e w11 ⟨rfl, hd11, hb11⟩
        have Hga11 := Lib.hid hd11
        clear hd11
        have hB11 : Below w.heap.size w w11 := But.below hbr hb11 lowga hbr.size
        go_wp2_with (go_at_call 13; refine (num_calls _ _).mono ?_; rintro e w9 ⟨rfl, rfl⟩)
        go_roundw
        case rel => exact ⟨q + 1, _, n + 1, by omega, by go_num, genK_fit hi _ _ _, by omega, Hga11.out, hB11⟩
        case measure => simp [intOf]; omega
      · skip
        have eqj : q = 64 := by omega
        subst eqj
        go_wp2_with (go_at_call 13; refine (num_calls _ _).mono ?_; rintro e w9 ⟨rfl, rfl⟩)
        first | (with_reducible refine (dgen_reseed ga id kv n _ _ _ (by omega) (by omega) (by decide) (by omega) Hga.out).mono ?_) | (refine (dgen_reseed ga id kv n _ _ _ (by omega) (by omega) (by decide) (by omega) Hga.out).mono ?_)
        rintro e w11 ⟨rfl, rfl⟩
        go_wp2_with (go_at_call 13; refine (num_calls _ _).mono ?_; rintro e w9 ⟨rfl, rfl⟩)
        first | (with_reducible refine (dreseed_no ga id kv n _ _ _ hi (mayB_none hi _) Hga.out).mono ?_) | (refine (dreseed_no ga id kv n _ _ _ hi (mayB_none hi _) Hga.out).mono ?_)
        rintro e w12 ⟨rfl, hb12⟩
        have Hga12 := Lib.hid (DrbgAt.below Hga.out hb12)
        have hB12 := hbr.trans (hb12.mono hbr.size)
        go_wp2_with (go_at_call 13; refine (num_calls _ _).mono ?_; rintro e w9 ⟨rfl, rfl⟩)
        first | (with_reducible refine (dgen_reseed ga id kv n _ _ _ (by omega) (by omega) (by decide) (by omega) Hga12.out).mono ?_) | (refine (dgen_reseed ga id kv n _ _ _ (by omega) (by omega) (by decide) (by omega) Hga12.out).mono ?_)
        rintro e w13 ⟨rfl, rfl⟩
        go_wp2_with (go_at_call 13; refine (num_calls _ _).mono ?_; rintro e w9 ⟨rfl, rfl⟩)
        first | (with_reducible refine (dreseed_ok ga id kv (n) S _ _ hi hft (may1_ok hi hS1 (by omega) (by decide)) Hga12.out).mono ?_) | (refine (dreseed_ok ga id kv (n) S _ _ hi hft (may1_ok hi hS1 (by omega) (by decide)) Hga12.out).mono ?_)
        rintro e w14 ⟨rfl, hd14, hb14⟩
        have Hga14 := Lib.hid hd14
        clear hd14
        have hB14 : Below w.heap.size w w14 := But.below hB12 hb14 lowga hB12.size
        have hsz : ∀ kv t, (genO id kv 8 t).size = 8 := fun kv t => genO_size hi kv 8 t
        go_wp2_with (go_at_call 13; refine (num_calls _ _).mono ?_; rintro e w9 ⟨rfl, rfl⟩)
        first | (with_reducible refine (dgen_ok ga id (upd2 id (S ++ _) kv) (1) _ 8 _ _ hi (upd2_fit hi _ _) rfl (by decide) (by decide) (by omega) (by omega) Hga14.out).mono ?_) | (refine (dgen_ok ga id (upd2 id (S ++ _) kv) (1) _ 8 _ _ hi (upd2_fit hi _ _) rfl (by decide) (by decide) (by omega) (by omega) Hga14.out).mono ?_)
        rintro e w15 ⟨rfl, hd15, hb15⟩
        have Hga15 := Lib.hid hd15
        clear hd15
        have hB15 : Below w.heap.size w w15 := But.below hB14 hb15 lowga hB14.size
        go_wp2_with (go_at_call 13; refine (num_calls _ _).mono ?_; rintro e w9 ⟨rfl, rfl⟩)
        first | (with_reducible refine (dcount_calls ga id (genK id (upd2 id (S ++ _) kv) 8 _) _ _ Hga15.out).mono ?_) | (refine (dcount_calls ga id (genK id (upd2 id (S ++ _) kv) 8 _) _ _ Hga15.out).mono ?_)
        rintro e w16 ⟨rfl, rfl⟩
        go_wp2_with (go_at_call 13; refine (num_calls _ _).mono ?_; rintro e w9 ⟨rfl, rfl⟩)
        go_ret
        exact ⟨by simp, hB15⟩
  · skip
    obtain ⟨S, hS⟩ : ∃ S : ByteArray, S = ((⟨#[48, 49, 50, 51, 52, 53, 54, 55, 56, 57, 97, 98, 99, 100, 101, 102, 48, 49, 50, 51, 52, 53, 54, 55, 56, 57, 97, 98, 99, 100, 101, 102]⟩ : ByteArray) ++ u) := ⟨_, rfl⟩
    have hS1 : 32 ≤ S.size := by rw [hS]; rw [hcat]; omega
    have hS2 : S.size ≤ 200 := by rw [hS]; rw [hcat]; omega
    have HS := Lib.hid hS
    clear hS
    go_wp2_with (go_at_call 13; refine (num_calls _ _).mono ?_; rintro e w9 ⟨rfl, rfl⟩)
    first | (with_reducible refine (awake_calls _).mono ?_) | (refine (awake_calls _).mono ?_)
    rintro e w1 ⟨rfl, hb1⟩
    have hB1 := hb1
    have hk := HK.out
    go_wp2_with (go_at_call 13; refine (num_calls _ _).mono ?_; rintro e w9 ⟨rfl, rfl⟩)
    rw [← HS.out]
    clear hk hcat e100 hls
    go_wp2_with (go_at_call 13; refine (num_calls _ _).mono ?_; rintro e w9 ⟨rfl, rfl⟩)
    first | (with_reducible refine (dnew_ok id S _ _ _ hi (may2_ok hi hS1 (by omega) (by decide) (by decide))).mono ?_) | (refine (dnew_ok id S _ _ _ hi (may2_ok hi hS1 (by omega) (by decide) (by decide))).mono ?_)
    rintro e w2 ⟨ga, rfl, hd2, hl2, hb2⟩
    have hltga := lt_of hd2
    have Hga2 := Lib.hid hd2
    clear hd2
    have lowga : w.heap.size ≤ ga := (Nat.le_trans hB1.size hl2)
    have hB2 := hB1.trans (hb2.mono hB1.size)
    go_wp2_with (go_at_call 13; refine (num_calls _ _).mono ?_; rintro e w9 ⟨rfl, rfl⟩)
    go_loopw [11] (fun i wr => ∃ q : Nat, ∃ kv n, q ≤ 64 ∧ i = .int .i64 q ∧ fit id kv ∧ n = 1 + (q : Int) ∧ DrbgAt wr ga id kv n ∧ Below w.heap.size w wr) (fun i _ => 64 - (intOf i).toNat)
    case atStart => exact ⟨0, _, 1, by omega, rfl, kv0_fit hi _, rfl, Hga2.out, hB2⟩
    case round =>
      obtain ⟨q, kv, n, hq, rfl, hft, hn, hga, hbr⟩ := hrel
      have Hga := Lib.hid hga
      have hj := HJ.out
      clear hga
      by_cases hlt : q < 64
      · skip
        go_wp2_with (go_at_call 13; refine (num_calls _ _).mono ?_; rintro e w9 ⟨rfl, rfl⟩)
        first | (with_reducible refine (dgen_ok ga id kv (n) _ j _ _ hi hft rfl (by omega) (by decide) (by omega) (by omega) Hga.out).mono ?_) | (refine (dgen_ok ga id kv (n) _ j _ _ hi hft rfl (by omega) (by decide) (by omega) (by omega) Hga.out).mono ?_)
        rintro e w11 ⟨rfl, hd11, hb11⟩
        have Hga11 := Lib.hid hd11
        clear hd11
        have hB11 : Below w.heap.size w w11 := But.below hbr hb11 lowga hbr.size
        go_wp2_with (go_at_call 13; refine (num_calls _ _).mono ?_; rintro e w9 ⟨rfl, rfl⟩)
        go_roundw
        case rel => exact ⟨q + 1, _, n + 1, by omega, by go_num, genK_fit hi _ _ _, by omega, Hga11.out, hB11⟩
        case measure => simp [intOf]; omega
      · skip
        have eqj : q = 64 := by omega
        subst eqj
        go_wp2_with (go_at_call 13; refine (num_calls _ _).mono ?_; rintro e w9 ⟨rfl, rfl⟩)
        first | (with_reducible refine (dgen_reseed ga id kv n _ _ _ (by omega) (by omega) (by decide) (by omega) Hga.out).mono ?_) | (refine (dgen_reseed ga id kv n _ _ _ (by omega) (by omega) (by decide) (by omega) Hga.out).mono ?_)
        rintro e w11 ⟨rfl, rfl⟩
        go_wp2_with (go_at_call 13; refine (num_calls _ _).mono ?_; rintro e w9 ⟨rfl, rfl⟩)
        first | (with_reducible refine (dreseed_no ga id kv n _ _ _ hi (mayB_none hi _) Hga.out).mono ?_) | (refine (dreseed_no ga id kv n _ _ _ hi (mayB_none hi _) Hga.out).mono ?_)
        rintro e w12 ⟨rfl, hb12⟩
        have Hga12 := Lib.hid (DrbgAt.below Hga.out hb12)
        have hB12 := hbr.trans (hb12.mono hbr.size)
        go_wp2_with (go_at_call 13; refine (num_calls _ _).mono ?_; rintro e w9 ⟨rfl, rfl⟩)
        first | (with_reducible refine (dgen_reseed ga id kv n _ _ _ (by omega) (by omega) (by decide) (by omega) Hga12.out).mono ?_) | (refine (dgen_reseed ga id kv n _ _ _ (by omega) (by omega) (by decide) (by omega) Hga12.out).mono ?_)
        rintro e w13 ⟨rfl, rfl⟩
        go_wp2_with (go_at_call 13; refine (num_calls _ _).mono ?_; rintro e w9 ⟨rfl, rfl⟩)
        first | (with_reducible refine (dreseed_ok ga id kv (n) S _ _ hi hft (may1_ok hi hS1 (by omega) (by decide)) Hga12.out).mono ?_) | (refine (dreseed_ok ga id kv (n) S _ _ hi hft (may1_ok hi hS1 (by omega) (by decide)) Hga12.out).mono ?_)
        rintro e w14 ⟨rfl, hd14, hb14⟩
        have Hga14 := Lib.hid hd14
        clear hd14
        have hB14 : Below w.heap.size w w14 := But.below hB12 hb14 lowga hB12.size
        have hsz : ∀ kv t, (genO id kv 8 t).size = 8 := fun kv t => genO_size hi kv 8 t
        go_wp2_with (go_at_call 13; refine (num_calls _ _).mono ?_; rintro e w9 ⟨rfl, rfl⟩)
        first | (with_reducible refine (dgen_ok ga id (upd2 id (S ++ _) kv) (1) _ 8 _ _ hi (upd2_fit hi _ _) rfl (by decide) (by decide) (by omega) (by omega) Hga14.out).mono ?_) | (refine (dgen_ok ga id (upd2 id (S ++ _) kv) (1) _ 8 _ _ hi (upd2_fit hi _ _) rfl (by decide) (by decide) (by omega) (by omega) Hga14.out).mono ?_)
        rintro e w15 ⟨rfl, hd15, hb15⟩
        have Hga15 := Lib.hid hd15
        clear hd15
        have hB15 : Below w.heap.size w w15 := But.below hB14 hb15 lowga hB14.size
        go_wp2_with (go_at_call 13; refine (num_calls _ _).mono ?_; rintro e w9 ⟨rfl, rfl⟩)
        first | (with_reducible refine (dcount_calls ga id (genK id (upd2 id (S ++ _) kv) 8 _) _ _ Hga15.out).mono ?_) | (refine (dcount_calls ga id (genK id (upd2 id (S ++ _) kv) 8 _) _ _ Hga15.out).mono ?_)
        rintro e w16 ⟨rfl, rfl⟩
        go_wp2_with (go_at_call 13; refine (num_calls _ _).mono ?_; rintro e w9 ⟨rfl, rfl⟩)
        go_ret
        exact ⟨by simp, hB15⟩
end Go.Proofs.Ytggfcbhegniafaa.Cw
