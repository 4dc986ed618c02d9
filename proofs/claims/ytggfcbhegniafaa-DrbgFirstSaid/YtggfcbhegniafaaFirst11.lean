/-
  (package curvetlaw11) The walk of DrbgFirst: true. Condition: a text takes at most 2^47 - 4096 bytes.
-/
import Derived.Test.YtggfcbhegniafaaRnd11
set_option linter.unusedSimpArgs false
set_option linter.unusedVariables false
namespace Go.Proofs.Ytggfcbhegniafaa.Cw
open Go Go.RowKit

set_option maxRecDepth 100000 in
set_option maxHeartbeats 8000000 in
theorem drbgFirst_walk (c : Int) (u v : ByteArray) (w : World) (hc : (Lit.int .i64 c).wf = true) (hu : u.size ≤ 140737488351232) (hv : v.size ≤ 140737488351232) : Calls Try.prog 5 #[.int .i64 c, .string u, .string v] w fun e w' => e = .returned (.bool true) ∧ Below w.heap.size w w' := by
  clear hc
  go_enter Try.func5, Try.ntmps5
  obtain ⟨k, id, hk, he, hw, hi⟩ := pick_is c
  have HK := Lib.hid hk
  clear hk
  have hss := shortS_size u
  have hls : (⟨#[48, 49, 50, 51, 52, 53, 54, 55, 56, 57, 97, 98, 99, 100, 101, 102, 48, 49, 50, 51, 52, 53, 54, 55, 56, 57, 97, 98, 99, 100, 101, 102]⟩ : ByteArray).size = 32 := rfl
  obtain ⟨S, hS⟩ : ∃ S : ByteArray, S = (⟨#[48, 49, 50, 51, 52, 53, 54, 55, 56, 57, 97, 98, 99, 100, 101, 102, 48, 49, 50, 51, 52, 53, 54, 55, 56, 57, 97, 98, 99, 100, 101, 102]⟩ : ByteArray) ++ shortS u := ⟨_, rfl⟩
  have hS1 : 32 ≤ S.size := by rw [hS, ByteArray.size_append, hls]; omega
  have hS2 : S.size ≤ 200 := by rw [hS, ByteArray.size_append, hls]; omega
  have HS := Lib.hid hS
  clear hS
  have hvv := shortS_size v
  obtain ⟨V, hV⟩ : ∃ V, V = shortS v := ⟨_, rfl⟩
  have hV2 : V.size ≤ 256 := by rw [hV]; omega
  have hsv : ∀ w, Calls Try.prog 17 #[.string v] w fun e w' => e = .returned (.string V) ∧ w = w' := fun w => by rw [hV]; exact short_calls v w hv
  have HSV := Lib.hid hsv
  clear hV hvv hsv
  have hsz := szOf_le id hi
  have hrow := fun W => sizes_row hi W 3
  have hid5 : id < 5 := by have := hi.2; omega
  obtain ⟨n, hn⟩ : ∃ n, n = szOf id := ⟨_, rfl⟩
  rw [← hn] at hrow hsz
  have HN := Lib.hid hn
  clear hn
  have hmk := fun w => run_make_nulls n (by omega) w
  have hcv : ∀ (W : World) o, (convert 32 9 (.slice (some ⟨W.heap.size + 1, 0, none⟩) n n)).run Try.prog ((W.alloc o).alloc (.cells (nulls n) 5)) = .ok (.string (noughts n)) ((W.alloc o).alloc (.cells (nulls n) 5)) := fun W o => convert_nulls n _ _ (by omega) (new2 W _ _)
  go_wp2_with (first
        | (go_at_call 13; refine (num_calls _ _).mono ?_; rintro e w9 ⟨rfl, rfl⟩)
        | (go_at_call 17; refine (short_calls _ _ (by assumption)).mono ?_; rintro e w9 ⟨rfl, rfl⟩))
  first | (with_reducible refine (awake_calls _).mono ?_) | (refine (awake_calls _).mono ?_)
  rintro e w1 ⟨rfl, hb1⟩
  have hB1 := hb1
  have hk := HK.out
  go_wp2_with (first
        | (go_at_call 13; refine (num_calls _ _).mono ?_; rintro e w9 ⟨rfl, rfl⟩)
        | (go_at_call 17; refine (short_calls _ _ (by assumption)).mono ?_; rintro e w9 ⟨rfl, rfl⟩))
  rw [← HS.out]
  clear hk hls hss hrow hid5 hmk hcv
  obtain ⟨w2, hw2⟩ : ∃ w2 : World, w2 = (w1.alloc (.cells #[.int .i64 0, .int .i64 28, .int .i64 32, .int .i64 48, .int .i64 64] 3)).alloc (.cells (nulls n) 5) := ⟨_, rfl⟩
  have hB2 : Below w.heap.size w w2 := by rw [hw2]; exact (hB1.alloc hB1.size _).alloc (Nat.le_trans hB1.size (by simp)) _
  rw [← hw2]
  clear hw2
  have HN2 := noughts_size n
  go_loop [12, 11] (fun i x => ∃ q : Nat, q ≤ n ∧ i = .int .i64 q ∧ x = .string (ones q)) (fun i _ => n - (intOf i).toNat)
  case atStart => exact ⟨0, by omega, rfl, rfl⟩
  case round =>
    obtain ⟨q, hq, rfl, rfl⟩ := hrel
    have hos := ones_size q
    have hoc := ones_succ q
    by_cases hlt : q < n
    · go_wp2
      go_round
      case rel => exact ⟨q + 1, by omega, by go_num, rfl⟩
      case measure => simp [intOf]; omega
    · obtain rfl : q = n := by omega
      go_wp2
      obtain ⟨kv, hkv⟩ : ∃ kv : ByteArray × ByteArray, kv = (noughts q, ones q) := ⟨_, rfl⟩
      have hft : fit id kv := by rw [hkv]; exact ⟨by rw [← HN.out]; exact HN2, by rw [← HN.out]; exact hos⟩
      have e1 : noughts q = kv.1 := by rw [hkv]
      have e2 : ones q = kv.2 := by rw [hkv]
      have HKV := Lib.hid hkv
      rw [e1, e2]
      clear hkv e1 e2 HN2 hos hoc hlt hq
      obtain ⟨T, hT⟩ : ∃ T : ByteArray, T = S ++ V := ⟨_, rfl⟩
      have hT1 : T.size ≠ 0 ∧ T.size ≤ 1000 := by rw [hT, ByteArray.size_append]; omega
      have HT := Lib.hid hT
      clear hT
      go_loopw [13, 10, 11] (fun i x y wr => ∃ r : Nat, r ≤ 2 ∧ i = .int .i64 r ∧ x = .string (rnds id T kv r).1 ∧ y = .string (rnds id T kv r).2 ∧ Below w.heap.size w wr) (fun i _ _ _ => 2 - (intOf i).toNat)
      case atStart => exact ⟨0, by omega, rfl, rfl, rfl, hB2⟩
      case round =>
        obtain ⟨r, hr, rfl, rfl, rfl, hbr⟩ := hrel
        have hfr := rnds_fit hi T kv hft r
        obtain ⟨k', hk'⟩ : ∃ k', k' = (rnds id T kv r).1 := ⟨_, rfl⟩
        obtain ⟨v', hv'⟩ : ∃ v', v' = (rnds id T kv r).2 := ⟨_, rfl⟩
        have hk9 : k'.size ≤ 140737488351232 := by rw [hk', hfr.1, ← HN.out]; omega
        have hv9 : v'.size ≤ 140737488351232 := by rw [hv', hfr.2, ← HN.out]; omega
        have hv8 : v'.size ≤ 1000 := by rw [hv', hfr.2, ← HN.out]; omega
        rw [← hk', ← hv']
        have HK' := Lib.hid hk'
        have HV' := Lib.hid hv'
        clear hk' hv' hfr
        rcases (show r = 0 ∨ r = 1 ∨ r = 2 by omega) with rfl | rfl | rfl
        · have e0 : IntKind.u8.wrap 0 = 0 := by decide
          have hcv := b0_convert
          have zb : b0.size = 1 := rfl
          have hz : (v' ++ b0 ++ S ++ V).size ≤ 140737488351232 := by simp only [ByteArray.size_append, zb]; omega
          have hst : (hm id k' (v' ++ b0 ++ S ++ V), hm id (hm id k' (v' ++ b0 ++ S ++ V)) v') = rnds id T kv 1 := by
            have : v' ++ b0 ++ S ++ V = v' ++ b0 ++ T := by rw [HT.out, ByteArray.append_assoc]
            rw [this]
            show stp id T b0 (k', v') = _
            rw [HK'.out, HV'.out]
            rfl
          have HST := Lib.hid hst
          have hk29 : (hm id k' (v' ++ b0 ++ S ++ V)).size ≤ 140737488351232 := by rw [hm_size hi, ← HN.out]; omega
          have hB4 : ∀ o e, Below (wr.alloc o).drew.heap.size (wr.alloc o).drew e → Below w.heap.size w e := fun o e h => ((hbr.alloc hbr.size _).drew).trans (h.mono (by have := hbr.size; simp; omega))
          have HB4 := Lib.hid hB4
          clear hst hB4
          go_wp2
          go_region_with
            (first
             | (go_at_call 17; refine (HSV.out _).mono ?_; rintro e w9 ⟨rfl, rfl⟩)
             | (go_at_call 18; refine (hmacOf_yes id k' (v' ++ b0 ++ S ++ V) _ hi hk9 hz).mono ?_
                rintro e w4 ⟨rfl, hb4⟩
                have HB4' := Lib.hid (HB4.out _ _ hb4)
                clear hb4))
          all_goals
            go_wp2_with (go_at_call 13; refine (num_calls _ _).mono ?_; rintro e w9 ⟨rfl, rfl⟩)
            with_reducible refine (hmacOf_yes id _ v' _ hi hk29 hv9).mono ?_
            rintro e w5 ⟨rfl, hb5⟩
            have hB5 := HB4'.out.trans (hb5.mono HB4'.out.size)
            go_wp2_with (go_at_call 13; refine (num_calls _ _).mono ?_; rintro e w9 ⟨rfl, rfl⟩)
            go_roundw
            case rel => exact ⟨1, by omega, rfl, by rw [← HST.out], by rw [← HST.out], hB5⟩
            case measure => simp [intOf]
        · have e0 : IntKind.u8.wrap 1 = 1 := by decide
          have hcv := b1_convert
          have zb : b1.size = 1 := rfl
          have hz : (v' ++ b1 ++ S ++ V).size ≤ 140737488351232 := by simp only [ByteArray.size_append, zb]; omega
          have hst : (hm id k' (v' ++ b1 ++ S ++ V), hm id (hm id k' (v' ++ b1 ++ S ++ V)) v') = rnds id T kv 2 := by
            have : v' ++ b1 ++ S ++ V = v' ++ b1 ++ T := by rw [HT.out, ByteArray.append_assoc]
            rw [this]
            show stp id T b1 (k', v') = _
            rw [HK'.out, HV'.out]
            rfl
          have HST := Lib.hid hst
          have hk29 : (hm id k' (v' ++ b1 ++ S ++ V)).size ≤ 140737488351232 := by rw [hm_size hi, ← HN.out]; omega
          have hB4 : ∀ o e, Below (wr.alloc o).drew.heap.size (wr.alloc o).drew e → Below w.heap.size w e := fun o e h => ((hbr.alloc hbr.size _).drew).trans (h.mono (by have := hbr.size; simp; omega))
          have HB4 := Lib.hid hB4
          clear hst hB4
          go_wp2
          go_region_with
            (first
             | (go_at_call 17; refine (HSV.out _).mono ?_; rintro e w9 ⟨rfl, rfl⟩)
             | (go_at_call 18; refine (hmacOf_yes id k' (v' ++ b1 ++ S ++ V) _ hi hk9 hz).mono ?_
                rintro e w4 ⟨rfl, hb4⟩
                have HB4' := Lib.hid (HB4.out _ _ hb4)
                clear hb4))
          all_goals
            go_wp2_with (go_at_call 13; refine (num_calls _ _).mono ?_; rintro e w9 ⟨rfl, rfl⟩)
            with_reducible refine (hmacOf_yes id _ v' _ hi hk29 hv9).mono ?_
            rintro e w5 ⟨rfl, hb5⟩
            have hB5 := HB4'.out.trans (hb5.mono HB4'.out.size)
            go_wp2_with (go_at_call 13; refine (num_calls _ _).mono ?_; rintro e w9 ⟨rfl, rfl⟩)
            go_roundw
            case rel => exact ⟨2, by omega, rfl, by rw [← HST.out], by rw [← HST.out], hB5⟩
            case measure => simp [intOf]
        · skip
          have hb := show (S ++ V ++ ⟨#[]⟩ : ByteArray) = T by rw [HT.out]; exact ByteArray.append_empty
          have hkv0 : kv0 id (S ++ V ++ ⟨#[]⟩) = (k', v') := by
            rw [hb, HK'.out, HV'.out]
            show upd2 id T (noughts (szOf id), ones (szOf id)) = _
            rw [← HN.out, ← HKV.out, upd2_rnds id T kv hT1.1]
          have hgo : genO id (kv0 id (S ++ V ++ ⟨#[]⟩)) q ⟨#[]⟩ = hm id k' v' := by
            rw [HN.out, genO_one hi, pre_none, hkv0]
          have HGO := Lib.hid hgo
          clear hb hkv0 hgo
          go_wp2_with (first
                | (go_at_call 13; refine (num_calls _ _).mono ?_; rintro e w9 ⟨rfl, rfl⟩)
                | (go_at_call 17; refine (HSV.out _).mono ?_; rintro e w9 ⟨rfl, rfl⟩))
          first | (with_reducible refine (hmacOf_yes id k' v' _ hi hk9 hv9).mono ?_) | (refine (hmacOf_yes id k' v' _ hi hk9 hv9).mono ?_)
          rintro e w11 ⟨rfl, hb11⟩
          have hB11 := hbr.trans (hb11.mono hbr.size)
          go_wp2_with (first
                | (go_at_call 13; refine (num_calls _ _).mono ?_; rintro e w9 ⟨rfl, rfl⟩)
                | (go_at_call 17; refine (HSV.out _).mono ?_; rintro e w9 ⟨rfl, rfl⟩))
          first | (with_reducible refine (dnew_ok id S V _ _ hi (may2_ok hi hS1 (by omega) hV2 (by decide))).mono ?_) | (refine (dnew_ok id S V _ _ hi (may2_ok hi hS1 (by omega) hV2 (by decide))).mono ?_)
          rintro e w12 ⟨ga, rfl, hd12, hl12, hb12⟩
          have hltga := lt_of hd12
          have Hga12 := Lib.hid hd12
          clear hd12
          have lowga : w.heap.size ≤ ga := (Nat.le_trans hB11.size hl12)
          have hB12 := hB11.trans (hb12.mono hB11.size)
          have hgo := HGO.out
          go_wp2_with (first
                | (go_at_call 13; refine (num_calls _ _).mono ?_; rintro e w9 ⟨rfl, rfl⟩)
                | (go_at_call 17; refine (HSV.out _).mono ?_; rintro e w9 ⟨rfl, rfl⟩))
          first | (with_reducible refine (dgen_ok ga id (kv0 id (S ++ V ++ _)) (1) _ q _ _ hi (kv0_fit hi _) rfl (by omega) (by decide) (by omega) (by omega) Hga12.out).mono ?_) | (refine (dgen_ok ga id (kv0 id (S ++ V ++ _)) (1) _ q _ _ hi (kv0_fit hi _) rfl (by omega) (by decide) (by omega) (by omega) Hga12.out).mono ?_)
          rintro e w13 ⟨rfl, hd13, hb13⟩
          have Hga13 := Lib.hid hd13
          clear hd13
          have hB13 : Below w.heap.size w w13 := But.below hB12 hb13 lowga hB12.size
          go_wp2_with (go_at_call 13; refine (num_calls _ _).mono ?_; rintro e w9 ⟨rfl, rfl⟩)
          go_ret
          exact ⟨by simp [hgo], hB13⟩
end Go.Proofs.Ytggfcbhegniafaa.Cw
