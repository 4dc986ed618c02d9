/-
  (package curvetlaw11) The walk of DrbgMore: true. Condition: a text takes at most 2^47 - 4096 bytes.
-/
import Derived.Test.YtggfcbhegniafaaRnd11
set_option linter.unusedSimpArgs false
set_option linter.unusedVariables false
namespace Go.Proofs.Ytggfcbhegniafaa.Cw
open Go Go.RowKit

/-- the rule's rounds: two of a text, two of another -/
def rnd4 (id : Nat) (t s : ByteArray) (kv : ByteArray × ByteArray) : Nat → ByteArray × ByteArray
  | 0 => kv
  | 1 => stp id t b0 kv
  | 2 => stp id t b1 (stp id t b0 kv)
  | 3 => stp id s b0 (stp id t b1 (stp id t b0 kv))
  | _ => stp id s b1 (stp id s b0 (stp id t b1 (stp id t b0 kv)))
theorem rnd4_fit {id : Nat} (hi : isId id) (t s : ByteArray) (kv : ByteArray × ByteArray) (h : fit id kv) : ∀ n, fit id (rnd4 id t s kv n)
  | 0 => h
  | 1 => stp_fit hi _ _ _
  | 2 => stp_fit hi _ _ _
  | 3 => stp_fit hi _ _ _
  | _ + 4 => stp_fit hi _ _ _
theorem upd2_rnd4 (id : Nat) (t s : ByteArray) (kv : ByteArray × ByteArray) (ht : t.size ≠ 0) (hs : s.size ≠ 0) : upd2 id s (upd2 id t kv) = rnd4 id t s kv 4 := by
  have e1 : upd2 id t kv = stp id t b1 (stp id t b0 kv) := if_neg ht
  have e2 : ∀ kv, upd2 id s kv = stp id s b1 (stp id s b0 kv) := fun kv => if_neg hs
  rw [e1, e2]
  rfl
theorem four_cells {w : World} {g : Nat} {a b c d : ByteArray} {t : TypeId} {fr : Nat × Nat} (h : w.heap[g]? = some (.cells #[.string a, .string b, .string c, .string d] t fr)) (i : Nat) (hi : i < 4) : w.cell? ⟨g, i, none⟩ = some (.string ([a, b, c, d].getD i ByteArray.empty)) := by
  rw [cell_of h]
  have : i = 0 ∨ i = 1 ∨ i = 2 ∨ i = 3 := by omega
  rcases this with rfl | rfl | rfl | rfl <;> rfl
set_option maxRecDepth 100000 in
set_option maxHeartbeats 16000000 in
theorem drbgMore_walk (c : Int) (u v : ByteArray) (w : World) (hc : (Lit.int .i64 c).wf = true) (hu : u.size ≤ 140737488351232) (hv : v.size ≤ 140737488351232) : Calls Try.prog 7 #[.int .i64 c, .string u, .string v] w fun e w' => e = .returned (.bool true) ∧ Below w.heap.size w w' := by
  clear hc
  go_enter Try.func7, Try.ntmps7
  obtain ⟨k, id, hk, he, hw, hi⟩ := pick_is c
  have HK := Lib.hid hk
  clear hk
  have hss := shortS_size u
  have hls : (⟨#[48, 49, 50, 51, 52, 53, 54, 55, 56, 57, 97, 98, 99, 100, 101, 102, 48, 49, 50, 51, 52, 53, 54, 55, 56, 57, 97, 98, 99, 100, 101, 102]⟩ : ByteArray).size = 32 := rfl
  obtain ⟨S, hS⟩ : ∃ S : ByteArray, S = (⟨#[48, 49, 50, 51, 52, 53, 54, 55, 56, 57, 97, 98, 99, 100, 101, 102, 48, 49, 50, 51, 52, 53, 54, 55, 56, 57, 97, 98, 99, 100, 101, 102]⟩ : ByteArray) ++ shortS u := ⟨_, rfl⟩
  have hS1 : 32 ≤ S.size := by rw [hS, ByteArray.size_append, hls]; omega
  have hS2 : S.size ≤ 200 := by rw [hS, ByteArray.size_append, hls]; omega
  have HS := Lib.hid hS
  clear hS
  have hvv := shortS_size v
  have h33 : (⟨#[33]⟩ : ByteArray).size = 1 := rfl
  obtain ⟨V, hV⟩ : ∃ V : ByteArray, V = shortS v ++ ⟨#[33]⟩ := ⟨_, rfl⟩
  have hV1 : V.size ≠ 0 := by rw [hV, ByteArray.size_append, h33]; omega
  have hV2 : V.size ≤ 256 := by rw [hV, ByteArray.size_append, h33]; omega
  have HV := Lib.hid hV
  clear hV
  have hsz := szOf_le id hi
  have hrow := fun W => sizes_row hi W 3
  have hid5 : id < 5 := by have := hi.2; omega
  obtain ⟨n, hn⟩ : ∃ n, n = szOf id := ⟨_, rfl⟩
  rw [← hn] at hrow hsz
  have HN := Lib.hid hn
  clear hn
  have hmk := fun w => run_make_nulls n (by omega) w
  have hcv : ∀ (W : World) o, (convert 32 9 (.slice (some ⟨W.heap.size + 1, 0, none⟩) n n)).run Try.prog ((W.alloc o).alloc (.cells (nulls n) 5)) = .ok (.string (noughts n)) ((W.alloc o).alloc (.cells (nulls n) 5)) := fun W o => convert_nulls n _ _ (by omega) (new2 W _ _)
  go_wp2_with (first
        | (go_at_call 13; refine (num_calls _ _).mono ?_; rintro e w9 ⟨rfl, rfl⟩)
        | (go_at_call 17; refine (short_calls _ _ (by assumption)).mono ?_; rintro e w9 ⟨rfl, rfl⟩))
  first | (with_reducible refine (awake_calls _).mono ?_) | (refine (awake_calls _).mono ?_)
  rintro e w1 ⟨rfl, hb1⟩
  have hB1 := hb1
  have hk := HK.out
  go_wp2_with (first
        | (go_at_call 13; refine (num_calls _ _).mono ?_; rintro e w9 ⟨rfl, rfl⟩)
        | (go_at_call 17; refine (short_calls _ _ (by assumption)).mono ?_; rintro e w9 ⟨rfl, rfl⟩))
  rw [← HS.out, ← HV.out]
  clear hk hls hss hrow hid5 hmk hcv hvv h33
  obtain ⟨w2, hw2⟩ : ∃ w2 : World, w2 = (w1.alloc (.cells #[.int .i64 0, .int .i64 28, .int .i64 32, .int .i64 48, .int .i64 64] 3)).alloc (.cells (nulls n) 5) := ⟨_, rfl⟩
  have hB2 : Below w.heap.size w w2 := by rw [hw2]; exact (hB1.alloc hB1.size _).alloc (Nat.le_trans hB1.size (by simp)) _
  rw [← hw2]
  clear hw2
  have HN2 := noughts_size n
  go_loop [13, 12] (fun i x => ∃ q : Nat, q ≤ n ∧ i = .int .i64 q ∧ x = .string (ones q)) (fun i _ => n - (intOf i).toNat)
  case atStart => exact ⟨0, by omega, rfl, rfl⟩
  case round =>
    obtain ⟨q, hq, rfl, rfl⟩ := hrel
    have hos := ones_size q
    have hoc := ones_succ q
    by_cases hlt : q < n
    · go_wp2
      go_round
      case rel => exact ⟨q + 1, by omega, by go_num, rfl⟩
      case measure => simp [intOf]; omega
    · obtain rfl : q = n := by omega
      go_wp2
      obtain ⟨w3, hw3⟩ : ∃ w3 : World, w3 = w2.alloc (.cells #[.string S, .string S, .string V, .string V] 9) := ⟨_, rfl⟩
      have hB3 : Below w.heap.size w w3 := by rw [hw3]; exact hB2.alloc hB2.size _
      have hP3 : w3.heap[w2.heap.size]? = some (.cells #[.string S, .string S, .string V, .string V] 9 (0, 0)) := by rw [hw3]; exact new1 w2 _
      obtain ⟨g, hg⟩ : ∃ g, g = w2.heap.size := ⟨_, rfl⟩
      rw [← hg] at hP3
      rw [← hg, ← hw3]
      have hgl := lt_of hP3
      have HP3 := Lib.hid hP3
      clear hw3 hg hP3
      obtain ⟨kv, hkv⟩ : ∃ kv : ByteArray × ByteArray, kv = (noughts q, ones q) := ⟨_, rfl⟩
      have hft : fit id kv := by rw [hkv]; exact ⟨by rw [← HN.out]; exact HN2, by rw [← HN.out]; exact hos⟩
      have e1 : noughts q = kv.1 := by rw [hkv]
      have e2 : ones q = kv.2 := by rw [hkv]
      have HKV := Lib.hid hkv
      rw [e1, e2]
      clear hkv e1 e2 HN2 hos hoc hlt hq
      go_loopw [15, 11, 12] (fun i x y wr => ∃ r : Nat, r ≤ 4 ∧ i = .int .i64 r ∧ x = .string (rnd4 id S V kv r).1 ∧ y = .string (rnd4 id S V kv r).2 ∧ Below w.heap.size w wr ∧ Below w3.heap.size w3 wr) (fun i _ _ _ => 4 - (intOf i).toNat)
      case atStart => exact ⟨0, by omega, rfl, rfl, rfl, hB3, Below.refl _ _⟩
      case round =>
        obtain ⟨r, hr, rfl, rfl, rfl, hbr, hb3⟩ := hrel
        have hfr := rnd4_fit hi S V kv hft r
        obtain ⟨k', hk'⟩ : ∃ k', k' = (rnd4 id S V kv r).1 := ⟨_, rfl⟩
        obtain ⟨v', hv'⟩ : ∃ v', v' = (rnd4 id S V kv r).2 := ⟨_, rfl⟩
        have hk9 : k'.size ≤ 140737488351232 := by rw [hk', hfr.1, ← HN.out]; omega
        have hv9 : v'.size ≤ 140737488351232 := by rw [hv', hfr.2, ← HN.out]; omega
        have hv8 : v'.size ≤ 1000 := by rw [hv', hfr.2, ← HN.out]; omega
        rw [← hk', ← hv']
        have HK' := Lib.hid hk'
        have HV' := Lib.hid hv'
        clear hk' hv' hfr
        have HP := Lib.hid ((hb3.block g hgl).trans HP3.out)
        have hgr := lt_of HP.out
        rcases (show r = 0 ∨ r = 1 ∨ r = 2 ∨ r = 3 ∨ r = 4 by omega) with rfl | rfl | rfl | rfl | rfl
        · have e0 : IntKind.u8.wrap 0 = 0 := by decide
          have eb : bits BinOp.and IntKind.i64 0 1 = 0 := by decide
          have hcv := b0_convert
          have zb : b0.size = 1 := rfl
          have hz : (v' ++ b0 ++ S).size ≤ 140737488351232 := by simp only [ByteArray.size_append, zb]; omega
          have hst : (hm id k' (v' ++ b0 ++ S), hm id (hm id k' (v' ++ b0 ++ S)) v') = rnd4 id S V kv 1 := by
            show stp id S b0 (k', v') = _
            rw [HK'.out, HV'.out]
            rfl
          have HST := Lib.hid hst
          have hk29 : (hm id k' (v' ++ b0 ++ S)).size ≤ 140737488351232 := by rw [hm_size hi, ← HN.out]; omega
          have hB4 : ∀ o e, Below (wr.alloc o).drew.heap.size (wr.alloc o).drew e → Below w.heap.size w e ∧ Below w3.heap.size w3 e := fun o e h => ⟨((hbr.alloc hbr.size _).drew).trans (h.mono (by have := hbr.size; simp; omega)), ((hb3.alloc hb3.size _).drew).trans (h.mono (by have := hb3.size; simp; omega))⟩
          have HB4 := Lib.hid hB4
          have hc1 : wr.cell? ⟨g, 0, none⟩ = some (.string S) := four_cells HP.out 0 (by decide)
          have hc2 : ∀ o, (wr.alloc o).cell? ⟨g, 0, none⟩ = some (.string S) := fun o => four_cells (alloc_far HP.out o) 0 (by decide)
          clear hst hB4
          go_wp2
          go_region_with
            (refine (hmacOf_yes id k' (v' ++ b0 ++ S) _ hi hk9 hz).mono ?_
             rintro e w4 ⟨rfl, hb4⟩
             have HB4' := Lib.hid (HB4.out _ _ hb4)
             clear hb4)
          all_goals
            go_wp2_with (go_at_call 13; refine (num_calls _ _).mono ?_; rintro e w9 ⟨rfl, rfl⟩)
            with_reducible refine (hmacOf_yes id _ v' _ hi hk29 hv9).mono ?_
            rintro e w5 ⟨rfl, hb5⟩
            have hB5 := HB4'.out.1.trans (hb5.mono HB4'.out.1.size)
            have hB6 := HB4'.out.2.trans (hb5.mono HB4'.out.2.size)
            go_wp2_with (go_at_call 13; refine (num_calls _ _).mono ?_; rintro e w9 ⟨rfl, rfl⟩)
            go_roundw
            case rel => exact ⟨1, by omega, rfl, by rw [← HST.out], by rw [← HST.out], hB5, hB6⟩
            case measure => simp [intOf]
        · have e0 : IntKind.u8.wrap 1 = 1 := by decide
          have eb : bits BinOp.and IntKind.i64 1 1 = 1 := by decide
          have hcv := b1_convert
          have zb : b1.size = 1 := rfl
          have hz : (v' ++ b1 ++ S).size ≤ 140737488351232 := by simp only [ByteArray.size_append, zb]; omega
          have hst : (hm id k' (v' ++ b1 ++ S), hm id (hm id k' (v' ++ b1 ++ S)) v') = rnd4 id S V kv 2 := by
            show stp id S b1 (k', v') = _
            rw [HK'.out, HV'.out]
            rfl
          have HST := Lib.hid hst
          have hk29 : (hm id k' (v' ++ b1 ++ S)).size ≤ 140737488351232 := by rw [hm_size hi, ← HN.out]; omega
          have hB4 : ∀ o e, Below (wr.alloc o).drew.heap.size (wr.alloc o).drew e → Below w.heap.size w e ∧ Below w3.heap.size w3 e := fun o e h => ⟨((hbr.alloc hbr.size _).drew).trans (h.mono (by have := hbr.size; simp; omega)), ((hb3.alloc hb3.size _).drew).trans (h.mono (by have := hb3.size; simp; omega))⟩
          have HB4 := Lib.hid hB4
          have hc1 : wr.cell? ⟨g, 1, none⟩ = some (.string S) := four_cells HP.out 1 (by decide)
          have hc2 : ∀ o, (wr.alloc o).cell? ⟨g, 1, none⟩ = some (.string S) := fun o => four_cells (alloc_far HP.out o) 1 (by decide)
          clear hst hB4
          go_wp2
          go_region_with
            (refine (hmacOf_yes id k' (v' ++ b1 ++ S) _ hi hk9 hz).mono ?_
             rintro e w4 ⟨rfl, hb4⟩
             have HB4' := Lib.hid (HB4.out _ _ hb4)
             clear hb4)
          all_goals
            go_wp2_with (go_at_call 13; refine (num_calls _ _).mono ?_; rintro e w9 ⟨rfl, rfl⟩)
            with_reducible refine (hmacOf_yes id _ v' _ hi hk29 hv9).mono ?_
            rintro e w5 ⟨rfl, hb5⟩
            have hB5 := HB4'.out.1.trans (hb5.mono HB4'.out.1.size)
            have hB6 := HB4'.out.2.trans (hb5.mono HB4'.out.2.size)
            go_wp2_with (go_at_call 13; refine (num_calls _ _).mono ?_; rintro e w9 ⟨rfl, rfl⟩)
            go_roundw
            case rel => exact ⟨2, by omega, rfl, by rw [← HST.out], by rw [← HST.out], hB5, hB6⟩
            case measure => simp [intOf]
        · have e0 : IntKind.u8.wrap 0 = 0 := by decide
          have eb : bits BinOp.and IntKind.i64 2 1 = 0 := by decide
          have hcv := b0_convert
          have zb : b0.size = 1 := rfl
          have hz : (v' ++ b0 ++ V).size ≤ 140737488351232 := by simp only [ByteArray.size_append, zb]; omega
          have hst : (hm id k' (v' ++ b0 ++ V), hm id (hm id k' (v' ++ b0 ++ V)) v') = rnd4 id S V kv 3 := by
            show stp id V b0 (k', v') = _
            rw [HK'.out, HV'.out]
            rfl
          have HST := Lib.hid hst
          have hk29 : (hm id k' (v' ++ b0 ++ V)).size ≤ 140737488351232 := by rw [hm_size hi, ← HN.out]; omega
          have hB4 : ∀ o e, Below (wr.alloc o).drew.heap.size (wr.alloc o).drew e → Below w.heap.size w e ∧ Below w3.heap.size w3 e := fun o e h => ⟨((hbr.alloc hbr.size _).drew).trans (h.mono (by have := hbr.size; simp; omega)), ((hb3.alloc hb3.size _).drew).trans (h.mono (by have := hb3.size; simp; omega))⟩
          have HB4 := Lib.hid hB4
          have hc1 : wr.cell? ⟨g, 2, none⟩ = some (.string V) := four_cells HP.out 2 (by decide)
          have hc2 : ∀ o, (wr.alloc o).cell? ⟨g, 2, none⟩ = some (.string V) := fun o => four_cells (alloc_far HP.out o) 2 (by decide)
          clear hst hB4
          go_wp2
          go_region_with
            (refine (hmacOf_yes id k' (v' ++ b0 ++ V) _ hi hk9 hz).mono ?_
             rintro e w4 ⟨rfl, hb4⟩
             have HB4' := Lib.hid (HB4.out _ _ hb4)
             clear hb4)
          all_goals
            go_wp2_with (go_at_call 13; refine (num_calls _ _).mono ?_; rintro e w9 ⟨rfl, rfl⟩)
            with_reducible refine (hmacOf_yes id _ v' _ hi hk29 hv9).mono ?_
            rintro e w5 ⟨rfl, hb5⟩
            have hB5 := HB4'.out.1.trans (hb5.mono HB4'.out.1.size)
            have hB6 := HB4'.out.2.trans (hb5.mono HB4'.out.2.size)
            go_wp2_with (go_at_call 13; refine (num_calls _ _).mono ?_; rintro e w9 ⟨rfl, rfl⟩)
            go_roundw
            case rel => exact ⟨3, by omega, rfl, by rw [← HST.out], by rw [← HST.out], hB5, hB6⟩
            case measure => simp [intOf]
        · have e0 : IntKind.u8.wrap 1 = 1 := by decide
          have eb : bits BinOp.and IntKind.i64 3 1 = 1 := by decide
          have hcv := b1_convert
          have zb : b1.size = 1 := rfl
          have hz : (v' ++ b1 ++ V).size ≤ 140737488351232 := by simp only [ByteArray.size_append, zb]; omega
          have hst : (hm id k' (v' ++ b1 ++ V), hm id (hm id k' (v' ++ b1 ++ V)) v') = rnd4 id S V kv 4 := by
            show stp id V b1 (k', v') = _
            rw [HK'.out, HV'.out]
            rfl
          have HST := Lib.hid hst
          have hk29 : (hm id k' (v' ++ b1 ++ V)).size ≤ 140737488351232 := by rw [hm_size hi, ← HN.out]; omega
          have hB4 : ∀ o e, Below (wr.alloc o).drew.heap.size (wr.alloc o).drew e → Below w.heap.size w e ∧ Below w3.heap.size w3 e := fun o e h => ⟨((hbr.alloc hbr.size _).drew).trans (h.mono (by have := hbr.size; simp; omega)), ((hb3.alloc hb3.size _).drew).trans (h.mono (by have := hb3.size; simp; omega))⟩
          have HB4 := Lib.hid hB4
          have hc1 : wr.cell? ⟨g, 3, none⟩ = some (.string V) := four_cells HP.out 3 (by decide)
          have hc2 : ∀ o, (wr.alloc o).cell? ⟨g, 3, none⟩ = some (.string V) := fun o => four_cells (alloc_far HP.out o) 3 (by decide)
          clear hst hB4
          go_wp2
          go_region_with
            (refine (hmacOf_yes id k' (v' ++ b1 ++ V) _ hi hk9 hz).mono ?_
             rintro e w4 ⟨rfl, hb4⟩
             have HB4' := Lib.hid (HB4.out _ _ hb4)
             clear hb4)
          all_goals
            go_wp2_with (go_at_call 13; refine (num_calls _ _).mono ?_; rintro e w9 ⟨rfl, rfl⟩)
            with_reducible refine (hmacOf_yes id _ v' _ hi hk29 hv9).mono ?_
            rintro e w5 ⟨rfl, hb5⟩
            have hB5 := HB4'.out.1.trans (hb5.mono HB4'.out.1.size)
            have hB6 := HB4'.out.2.trans (hb5.mono HB4'.out.2.size)
            go_wp2_with (go_at_call 13; refine (num_calls _ _).mono ?_; rintro e w9 ⟨rfl, rfl⟩)
            go_roundw
            case rel => exact ⟨4, by omega, rfl, by rw [← HST.out], by rw [← HST.out], hB5, hB6⟩
            case measure => simp [intOf]
        · skip
          have hb := show (S ++ ⟨#[]⟩ ++ ⟨#[]⟩ : ByteArray) = S by show S ++ ByteArray.empty ++ ByteArray.empty = S; rw [ByteArray.append_empty, ByteArray.append_empty]
          have hgo : genO id (kv0 id (S ++ ⟨#[]⟩ ++ ⟨#[]⟩)) q V = hm id k' v' := by
            have e1 : pre id V (kv0 id (S ++ ⟨#[]⟩ ++ ⟨#[]⟩)) = (k', v') := by
              rw [hb, HK'.out, HV'.out]
              show pre id V (upd2 id S (noughts (szOf id), ones (szOf id))) = _
              rw [← HN.out, ← HKV.out]
              unfold pre
              rw [if_neg hV1, upd2_rnd4 id S V kv (by omega) hV1]
            rw [HN.out, genO_one hi, e1]
          have HGO := Lib.hid hgo
          clear hb hgo
          go_wp2_with (go_at_call 13; refine (num_calls _ _).mono ?_; rintro e w9 ⟨rfl, rfl⟩)
          first | (with_reducible refine (hmacOf_yes id k' v' _ hi hk9 hv9).mono ?_) | (refine (hmacOf_yes id k' v' _ hi hk9 hv9).mono ?_)
          rintro e w11 ⟨rfl, hb11⟩
          have hB11 := hbr.trans (hb11.mono hbr.size)
          go_wp2_with (go_at_call 13; refine (num_calls _ _).mono ?_; rintro e w9 ⟨rfl, rfl⟩)
          first | (with_reducible refine (dnew_ok id S _ _ _ hi (may2_ok hi hS1 (by omega) (by decide) (by decide))).mono ?_) | (refine (dnew_ok id S _ _ _ hi (may2_ok hi hS1 (by omega) (by decide) (by decide))).mono ?_)
          rintro e w12 ⟨ga, rfl, hd12, hl12, hb12⟩
          have hltga := lt_of hd12
          have Hga12 := Lib.hid hd12
          clear hd12
          have lowga : w.heap.size ≤ ga := (Nat.le_trans hB11.size hl12)
          have hB12 := hB11.trans (hb12.mono hB11.size)
          have hgo := HGO.out
          go_wp2_with (go_at_call 13; refine (num_calls _ _).mono ?_; rintro e w9 ⟨rfl, rfl⟩)
          first | (with_reducible refine (dgen_ok ga id (kv0 id (S ++ _ ++ _)) (1) _ q _ _ hi (kv0_fit hi _) rfl (by omega) hV2 (by omega) (by omega) Hga12.out).mono ?_) | (refine (dgen_ok ga id (kv0 id (S ++ _ ++ _)) (1) _ q _ _ hi (kv0_fit hi _) rfl (by omega) hV2 (by omega) (by omega) Hga12.out).mono ?_)
          rintro e w13 ⟨rfl, hd13, hb13⟩
          have Hga13 := Lib.hid hd13
          clear hd13
          have hB13 : Below w.heap.size w w13 := But.below hB12 hb13 lowga hB12.size
          go_wp2_with (go_at_call 13; refine (num_calls _ _).mono ?_; rintro e w9 ⟨rfl, rfl⟩)
          go_ret
          exact ⟨by simp [hgo], hB13⟩
end Go.Proofs.Ytggfcbhegniafaa.Cw
