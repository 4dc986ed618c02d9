/-
  (package curvetlaw11) The walk of DrbgActs: true. Condition: a text handed over takes at most 2^47 - 4096 bytes.
-/
import Derived.Test.YtggfcbhegniafaaActs1
import Derived.Deep.Quiet
import Derived.Deep.QuietTactic
set_option linter.unusedSimpArgs false
set_option linter.unusedVariables false
namespace Go.Proofs.Ytggfcbhegniafaa.Cw
open Go Go.RowKit

set_option maxRecDepth 100000 in
set_option maxHeartbeats 8000000 in
theorem drbgActs_walk (c : Int) (u v x : ByteArray) (A : Option Addr) (len cap : Nat) (w : World) (hc : (Lit.int .i64 c).wf = true) (hu : u.size ≤ 140737488351232) (hv : v.size ≤ 140737488351232) (hx : x.size ≤ 140737488351232) (ha : IsActs w A len cap) : Calls Try.prog 8 #[.int .i64 c, .string u, .string v, .string x, .slice A len cap] w fun e w' => e = .returned (.bool true) ∧ Below w.heap.size w w' := by
  clear hc
  go_enter Try.func8, Try.ntmps8
  have HA := Lib.hid ha
  have hlen := ha.1
  simp only [maxLen] at hlen
  clear ha
  by_cases hi : 1 ≤ c ∧ c ≤ 4
  · obtain ⟨id, rfl⟩ : ∃ id : Nat, c = (id : Int) := ⟨c.toNat, by omega⟩
    have hi' : isId id := by unfold isId; omega
    clear hi
    by_cases hm : mayB id u [v, x] = true
    · have HM := Lib.hid hm
      clear hm
      go_wp2_with (go_at_call 13; refine (num_calls _ _).mono ?_; rintro e w9 ⟨rfl, rfl⟩)
      first | (with_reducible refine (dnew_ok id u v x _ hi' HM.out).mono ?_) | (refine (dnew_ok id u v x _ hi' HM.out).mono ?_)
      rintro e w1 ⟨ga, rfl, hd1, hl1, hb1⟩
      have hltga := lt_of hd1
      have Hga1 := Lib.hid hd1
      clear hd1
      have lowga : w.heap.size ≤ ga := hl1
      have hB1 := hb1
      go_wp2_with (go_at_call 13; refine (num_calls _ _).mono ?_; rintro e w9 ⟨rfl, rfl⟩)
      first | (with_reducible refine (rnew_ok id u v x _ hi' HM.out).mono ?_) | (refine (rnew_ok id u v x _ hi' HM.out).mono ?_)
      rintro e w2 ⟨gb, rfl, hd2, hl2, hb2⟩
      have hltgb := lt_of hd2
      have Hgb2 := Lib.hid hd2
      clear hd2
      have lowgb : w.heap.size ≤ gb := (Nat.le_trans hB1.size hl2)
      have ne_ga_gb : ga ≠ gb := by omega
      have ne_gb_ga : gb ≠ ga := by omega
      have Hga2 := Lib.hid (DrbgAt.below Hga1.out hb2)
      have hB2 := hB1.trans (hb2.mono hB1.size)
      have hltga := lt_of Hga2.out
      go_wp2_with (go_at_call 13; refine (num_calls _ _).mono ?_; rintro e w9 ⟨rfl, rfl⟩)
      go_loopw [15] (fun i wr => ∃ q : Nat, ∃ kv n, q ≤ len ∧ q ≤ 80 ∧ i = .int .i64 q ∧ fit id kv ∧ 0 ≤ n ∧ n ≤ 65 ∧ DrbgAt wr ga id kv n ∧ RDrbgAt wr gb id kv n ∧ Below w.heap.size w wr) (fun i _ => 80 - (intOf i).toNat)
      case atStart => exact ⟨0, _, 1, by omega, by omega, rfl, kv0_fit hi' _, by omega, by omega, Hga2.out, Hgb2.out, hB2⟩
      case round =>
        obtain ⟨q, kv, n, hq, hq8, rfl, hft, hn0, hn, hga, hgb, hbr⟩ := hrel
        have Hga := Lib.hid hga
        have Hgb := Lib.hid hgb
        clear hga hgb
        by_cases hlt : q < len ∧ q < 80
        · obtain ⟨a, rfl, hat⟩ := HA.out.2.resolve_left (fun h => by omega)
          obtain ⟨k, sz, s, t, wk, wn, ws, wt, a0, a1, a2, a3⟩ := hat q hlt.1
          have b0 := (hbr.cell (cellp_lt a0)).trans a0
          have b1 := (hbr.cell (cellp_lt a1)).trans a1
          have b2 := (hbr.cell (cellp_lt a2)).trans a2
          have b3 := (hbr.cell (cellp_lt a3)).trans a3
          obtain ⟨h1, h2⟩ := hlt
          rw [add_at _ _ _ (by decide)] at b1 b2 b3
          clear a0 a1 a2 a3 hat
          obtain ⟨g, hg⟩ : ∃ g, g = wr.heap.size := ⟨_, rfl⟩
          obtain ⟨w4, hw4⟩ : ∃ w4 : World, w4 = wr.alloc (.cells #[.int .i64 k, .int .i64 sz, .string s, .string t] 46) := ⟨_, rfl⟩
          have hb4 : Below wr.heap.size wr w4 := by rw [hw4]; exact (Below.refl _ _).alloc (Nat.le_refl _) _
          have Bg4 := Lib.hid (show w4.heap[g]? = some (.cells #[.int .i64 k, .int .i64 sz, .string s, .string t] 46 (0, 0)) by rw [hw4, hg]; exact new1 wr _)
          have ne_g_ga : g ≠ ga := by have := lt_of Hga.out; omega
          have ne_g_gb : g ≠ gb := by have := lt_of Hgb.out; omega
          have Hga4 := Lib.hid (DrbgAt.below Hga.out hb4)
          have Hgb4 := Lib.hid (RDrbgAt.below Hgb.out hb4)
          have hB4 := hbr.trans (hb4.mono hbr.size)
          have HG := Lib.hid hg
          have HW4 := Lib.hid hw4
          clear hg hw4 hb4
          by_cases hk7 : k < 7
          · go_wp2_with (fail)
            rw [← HW4.out, ← HG.out]
            clear b0 b1 b2 b3
            have cg0_10 := cell_of Bg4.out 0
            have cg1_10 := cell_of Bg4.out 1
            have cg2_10 := cell_of Bg4.out 2
            have cg3_10 := cell_of Bg4.out 3
            simp at cg0_10 cg1_10 cg2_10 cg3_10
            by_cases hl : sz < 0 ∨ 256 < sz ∨ 256 < s.size
            · skip
              go_wp2_with (go_at_call 13; refine (num_calls _ _).mono ?_; rintro e w9 ⟨rfl, rfl⟩)
              first | (with_reducible refine (dgen_long ga sz s _ hl).mono ?_) | (refine (dgen_long ga sz s _ hl).mono ?_)
              rintro e w11 ⟨rfl, rfl⟩
              go_wp2_with (go_at_call 13; refine (num_calls _ _).mono ?_; rintro e w9 ⟨rfl, rfl⟩)
              first | (with_reducible refine (rgen_long gb sz s _ hl).mono ?_) | (refine (rgen_long gb sz s _ hl).mono ?_)
              rintro e w12 ⟨rfl, rfl⟩
              go_wp2_with (fail)
              have cr3 := cell_of Hgb4.out 3
              simp at cr3
              go_quiet (first
                | (go_at_call 13; exact num_quiet _ _ _)
                | (go_at_call 15; exact dcount_quiet ga id kv (n) _ _ Hga4.out))
              go_wp2
              go_roundw
              case rel => exact ⟨q + 1, kv, n, by omega, by omega, by go_num, hft, by omega, by omega, Hga4.out, Hgb4.out, Below.drewN hB4 _⟩
              case measure => simp [intOf]; omega
            · skip
              have l1 : 0 ≤ sz := by omega
              have l2 : sz ≤ 256 := by omega
              have l3 : s.size ≤ 256 := by omega
              by_cases h64 : 64 < n
              · skip
                go_wp2_with (go_at_call 13; refine (num_calls _ _).mono ?_; rintro e w9 ⟨rfl, rfl⟩)
                first | (with_reducible refine (dgen_reseed ga id kv n sz s _ l1 l2 l3 h64 Hga4.out).mono ?_) | (refine (dgen_reseed ga id kv n sz s _ l1 l2 l3 h64 Hga4.out).mono ?_)
                rintro e w11 ⟨rfl, rfl⟩
                go_wp2_with (go_at_call 13; refine (num_calls _ _).mono ?_; rintro e w9 ⟨rfl, rfl⟩)
                first | (with_reducible refine (rgen_reseed gb id kv n sz s _ l1 l2 l3 h64 Hgb4.out).mono ?_) | (refine (rgen_reseed gb id kv n sz s _ l1 l2 l3 h64 Hgb4.out).mono ?_)
                rintro e w12 ⟨rfl, rfl⟩
                go_wp2_with (fail)
                have cr3 := cell_of Hgb4.out 3
                simp at cr3
                go_quiet (first
                  | (go_at_call 13; exact num_quiet _ _ _)
                  | (go_at_call 15; exact dcount_quiet ga id kv (n) _ _ Hga4.out))
                go_wp2
                go_roundw
                case rel => exact ⟨q + 1, kv, n, by omega, by omega, by go_num, hft, by omega, by omega, Hga4.out, Hgb4.out, Below.drewN hB4 _⟩
                case measure => simp [intOf]; omega
              · skip
                obtain ⟨z, rfl⟩ : ∃ z : Nat, sz = (z : Int) := ⟨sz.toNat, by omega⟩
                have hz9 : z ≤ 256 := by omega
                clear hl
                go_wp2_with (go_at_call 13; refine (num_calls _ _).mono ?_; rintro e w9 ⟨rfl, rfl⟩)
                first | (with_reducible refine (dgen_ok ga id kv (n) _ z s _ hi' hft rfl hz9 l3 (by omega) (by omega) Hga4.out).mono ?_) | (refine (dgen_ok ga id kv (n) _ z s _ hi' hft rfl hz9 l3 (by omega) (by omega) Hga4.out).mono ?_)
                rintro e w11 ⟨rfl, hd11, hb11⟩
                have Hga11 := Lib.hid hd11
                clear hd11
                have Hgb11 := Lib.hid (RDrbgAt.but Hgb4.out hb11 ne_gb_ga)
                have Bg11 := Lib.hid (hb11.heap ne_g_ga Bg4.out)
                have hB11 : Below w.heap.size w w11 := But.below hB4 hb11 lowga hB4.size
                have cg0_11 := cell_of Bg11.out 0
                have cg1_11 := cell_of Bg11.out 1
                have cg2_11 := cell_of Bg11.out 2
                have cg3_11 := cell_of Bg11.out 3
                simp at cg0_11 cg1_11 cg2_11 cg3_11
                go_wp2_with (go_at_call 13; refine (num_calls _ _).mono ?_; rintro e w9 ⟨rfl, rfl⟩)
                first | (with_reducible refine (rgen_ok gb id kv (n) _ z s _ hi' hft rfl hz9 l3 (by omega) (by omega) Hgb11.out).mono ?_) | (refine (rgen_ok gb id kv (n) _ z s _ hi' hft rfl hz9 l3 (by omega) (by omega) Hgb11.out).mono ?_)
                rintro e w12 ⟨rfl, hd12, hb12⟩
                have Hgb12 := Lib.hid hd12
                clear hd12
                have Hga12 := Lib.hid (DrbgAt.but Hga11.out hb12 ne_ga_gb)
                have Bg12 := Lib.hid (hb12.heap ne_g_gb Bg11.out)
                have hB12 : Below w.heap.size w w12 := But.below hB11 hb12 lowgb hB11.size
                go_wp2_with (fail)
                have cr3 := cell_of Hgb12.out 3
                simp at cr3
                go_quiet (first
                  | (go_at_call 13; exact num_quiet _ _ _)
                  | (go_at_call 15; exact dcount_quiet ga id (genK id kv z s) (n + 1) _ _ Hga12.out))
                go_wp2
                go_roundw
                case rel => exact ⟨q + 1, (genK id kv z s), n + 1, by omega, by omega, by go_num, (genK_fit hi' _ _ _), by omega, by omega, Hga12.out, Hgb12.out, Below.drewN hB12 _⟩
                case measure => simp [intOf]; omega
          · go_wp2_with (fail)
            rw [← HW4.out, ← HG.out]
            clear b0 b1 b2 b3
            have cg0_10 := cell_of Bg4.out 0
            have cg1_10 := cell_of Bg4.out 1
            have cg2_10 := cell_of Bg4.out 2
            have cg3_10 := cell_of Bg4.out 3
            simp at cg0_10 cg1_10 cg2_10 cg3_10
            by_cases hm : mayB id s [t] = true
            · skip
              go_wp2_with (go_at_call 13; refine (num_calls _ _).mono ?_; rintro e w9 ⟨rfl, rfl⟩)
              first | (with_reducible refine (dreseed_ok ga id kv (n) s t _ hi' hft hm Hga4.out).mono ?_) | (refine (dreseed_ok ga id kv (n) s t _ hi' hft hm Hga4.out).mono ?_)
              rintro e w11 ⟨rfl, hd11, hb11⟩
              have Hga11 := Lib.hid hd11
              clear hd11
              have Hgb11 := Lib.hid (RDrbgAt.but Hgb4.out hb11 ne_gb_ga)
              have Bg11 := Lib.hid (hb11.heap ne_g_ga Bg4.out)
              have hB11 : Below w.heap.size w w11 := But.below hB4 hb11 lowga hB4.size
              have cg0_11 := cell_of Bg11.out 0
              have cg1_11 := cell_of Bg11.out 1
              have cg2_11 := cell_of Bg11.out 2
              have cg3_11 := cell_of Bg11.out 3
              simp at cg0_11 cg1_11 cg2_11 cg3_11
              have HM2 := Lib.hid hm
              clear hm
              go_wp2_with (fail)
              go_region_with (first
                | (go_at_call 13; refine (num_calls _ _).mono ?_; rintro e w9 ⟨rfl, rfl⟩)
                | (go_at_call 22; refine (rreseed_ok gb id kv n s t w11.drew hi' hft HM2.out Hgb11.out).mono ?_
                   rintro e w20 ⟨rfl, hd20, hb20⟩
                   have cr3 := cell_of hd20 3
                   simp at cr3
                   have Hgb20 := Lib.hid hd20
                   have Hga20 := Lib.hid (DrbgAt.but Hga11.out (But.of_drewN (n := 1) hb20) ne_ga_gb)
                   have HB20 := Lib.hid (But.below hB11 (But.of_drewN (n := 1) hb20) lowgb hB11.size)
                   clear hd20 hb20)
                | (go_at_call 15; refine (dcount_calls ga id _ _ _ Hga20.out).mono ?_; rintro e w9 ⟨rfl, rfl⟩))
              all_goals
                go_wp2
                go_roundw
                case rel => exact ⟨q + 1, _, 1, by omega, by omega, by go_num, upd2_fit hi' _ _, by omega, by omega, Hga20.out, Hgb20.out, HB20.out⟩
                case measure => simp [intOf]; omega
            · skip
              have hm2 : mayB id s [t] = false := by simpa using hm
              have HM2 := Lib.hid hm2
              clear hm hm2
              go_wp2_with (go_at_call 13; refine (num_calls _ _).mono ?_; rintro e w9 ⟨rfl, rfl⟩)
              first | (with_reducible refine (dreseed_no ga id kv n s t _ hi' HM2.out Hga4.out).mono ?_) | (refine (dreseed_no ga id kv n s t _ hi' HM2.out Hga4.out).mono ?_)
              rintro e w11 ⟨rfl, hb11⟩
              have Hga11 := Lib.hid (DrbgAt.below Hga4.out hb11)
              have Hgb11 := Lib.hid (RDrbgAt.below Hgb4.out hb11)
              have Bg11 := Lib.hid ((hb11.block g (lt_of Bg4.out)).trans Bg4.out)
              have hB11 := hB4.trans (hb11.mono hB4.size)
              have cg0_11 := cell_of Bg11.out 0
              have cg1_11 := cell_of Bg11.out 1
              have cg2_11 := cell_of Bg11.out 2
              have cg3_11 := cell_of Bg11.out 3
              simp at cg0_11 cg1_11 cg2_11 cg3_11
              go_wp2_with (fail)
              have cr3 := cell_of Hgb11.out 3
              simp at cr3
              go_quiet (first
                | (go_at_call 13; exact num_quiet _ _ _)
                | (go_at_call 15; exact dcount_quiet ga id kv (n) _ _ Hga11.out)
                | (exact rreseed_quiet gb id kv n s t _ _ hi' ws HM2.out Hgb11.out))
              go_wp2
              go_roundw
              case rel => exact ⟨q + 1, kv, n, by omega, by omega, by go_num, hft, by omega, by omega, Hga11.out, Hgb11.out, Below.drewN hB11 _⟩
              case measure => simp [intOf]; omega
        · by_cases h1 : q < len
          · have h2 : ¬ q < 80 := fun h => hlt ⟨h1, h⟩
            go_wp2_with (fail)
            with_reducible refine (awake_calls _).mono ?_
            rintro e w30 ⟨rfl, hb30⟩
            have hB30 := hbr.trans (hb30.mono hbr.size)
            go_wp2
            go_ret
            exact ⟨rfl, hB30⟩
          · go_wp2_with (fail)
            with_reducible refine (awake_calls _).mono ?_
            rintro e w30 ⟨rfl, hb30⟩
            have hB30 := hbr.trans (hb30.mono hbr.size)
            go_wp2
            go_ret
            exact ⟨rfl, hB30⟩
    · skip
      have hm2 : mayB id u [v, x] = false := by simpa using hm
      have HM := Lib.hid hm2
      clear hm hm2
      go_wp2_with (go_at_call 13; refine (num_calls _ _).mono ?_; rintro e w9 ⟨rfl, rfl⟩)
      first | (with_reducible refine (dnew_no id u v x _ hi' HM.out).mono ?_) | (refine (dnew_no id u v x _ hi' HM.out).mono ?_)
      rintro e w1 ⟨rfl, hb1⟩
      have hB1 := hb1
      go_wp2_with (go_at_call 13; refine (num_calls _ _).mono ?_; rintro e w9 ⟨rfl, rfl⟩)
      first | (with_reducible refine (rnew_no id u v x _ hi' hu HM.out).mono ?_) | (refine (rnew_no id u v x _ hi' hu HM.out).mono ?_)
      rintro e w2 ⟨rfl, rfl⟩
      go_wp2_with (go_at_call 13; refine (num_calls _ _).mono ?_; rintro e w9 ⟨rfl, rfl⟩)
      first | (with_reducible refine (awake_calls _).mono ?_) | (refine (awake_calls _).mono ?_)
      rintro e w3 ⟨rfl, hb3⟩
      have hB3 := hB1.trans (hb3.mono hB1.size)
      go_wp2_with (go_at_call 13; refine (num_calls _ _).mono ?_; rintro e w9 ⟨rfl, rfl⟩)
      go_ret
      exact ⟨rfl, hB3⟩
  · skip
    go_wp2_with (go_at_call 13; refine (num_calls _ _).mono ?_; rintro e w9 ⟨rfl, rfl⟩)
    first | (with_reducible refine (dnew_none c u v x _ hi).mono ?_) | (refine (dnew_none c u v x _ hi).mono ?_)
    rintro e w1 ⟨rfl, hb1⟩
    have hB1 := hb1
    go_wp2_with (go_at_call 13; refine (num_calls _ _).mono ?_; rintro e w9 ⟨rfl, rfl⟩)
    first | (with_reducible refine (rnew_none c u v x _ hi).mono ?_) | (refine (rnew_none c u v x _ hi).mono ?_)
    rintro e w2 ⟨rfl, rfl⟩
    go_wp2_with (go_at_call 13; refine (num_calls _ _).mono ?_; rintro e w9 ⟨rfl, rfl⟩)
    first | (with_reducible refine (awake_calls _).mono ?_) | (refine (awake_calls _).mono ?_)
    rintro e w3 ⟨rfl, hb3⟩
    have hB3 := hB1.trans (hb3.mono hB1.size)
    go_wp2_with (go_at_call 13; refine (num_calls _ _).mono ?_; rintro e w9 ⟨rfl, rfl⟩)
    go_ret
    exact ⟨rfl, hB3⟩
end Go.Proofs.Ytggfcbhegniafaa.Cw
