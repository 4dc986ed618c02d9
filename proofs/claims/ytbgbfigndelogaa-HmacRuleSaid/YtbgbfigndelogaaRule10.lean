/-
  (package curvetlaw10) The walk of HmacRule: true. Condition: key and text take at most 2^47 - 4096 bytes each (what the form itself lets in).
-/
import Derived.Test.YtbgbfigndelogaaMake
import Derived.RegionTactic
import Derived.ChangeAlike
set_option linter.unusedSimpArgs false
set_option linter.unusedVariables false
namespace Go.Proofs.Ytbgbfigndelogaa.Cw
open Go Go.RowKit

theorem xor8_54 (t : TypeId) (x : UInt8) : binOp .xor t (v8 x) (.int .u8 54) = pure (v8 (x ^^^ 54)) := bin_xor8 t x 54
theorem xor8_92 (t : TypeId) (x : UInt8) : binOp .xor t (v8 x) (.int .u8 92) = pure (v8 (x ^^^ 92)) := bin_xor8 t x 92
attribute [local go_sem ↓ high] xor8_54 xor8_92
attribute [local go_sem ↓ high] cells_v8 run_store_v8 bin_xor8
attribute [local go_sem high] match_v8 run_store_v8
/-- so many noughts, as cells -/
def nulls (n : Nat) : Array Value := fa v8 n fun _ => 0
theorem run_make_nulls (n : Nat) (hn : n ≤ 1000) (w : World) : (Instr.makeSlice 35 (.int .i64 (n : Int)) (.int .i64 (n : Int))).run Try.prog w = .ok (.slice (some ⟨w.heap.size, 0, none⟩) n n) (w.alloc (.cells (nulls n) 5)) := by
  obtain ⟨i0, hi, hz0, hz1, hz2⟩ := info_parts info_u8
  have h := run_make w 35 5 i0 (.int .u8 0) Try.underlying35 hi hz0 .i64 .i64 (n : Int) (n : Int) (by omega) (Int.le_refl _) (by rw [hz2]; omega) (by omega)
  rw [Int.toNat_natCast, hz1] at h
  have e : madeCells (Value.int .u8 0).cells (n * 1) = nulls n := by
    apply Array.ext
    · simp [madeCells, nulls, fa_size]
    · intro i h1 h2
      simp [madeCells, nulls, fa, Value.cells, v8, Nat.mod_one]
  rw [e] at h
  exact h
theorem Ow.nulls {w : World} {B g n : Nat} (hn : n ≤ 1000) (hB : B ≤ g) (h : w.heap[g]? = some (.cells (nulls n) 5 (0, 0))) : Ow w B 5 1 (.slice (some ⟨g, 0, none⟩) n n) n ((List.replicate n (0 : UInt8)).map v8) := by
  refine ⟨by simp, .inr ⟨g, n, _, (0, 0), rfl, hB, h, .inl rfl, Nat.le_refl _, by simp only [maxLen]; omega, by simp [Cw.nulls, fa_size], ?_⟩⟩
  rw [Cw.nulls, fa_list, Nat.mul_one, List.take_of_length_le (by simp)]
  refine List.ext_getElem (by simp) fun i h1 h2 => by simp
set_option maxRecDepth 100000 in
set_option maxHeartbeats 1000000 in
theorem hmacRule_walk (c : Int) (key msg : ByteArray) (w : World) (hc : (Lit.int .i64 c).wf = true) (hq : key.size ≤ 140737488351232) (h2 : msg.size ≤ 140737488351232) : Calls Try.prog 4 #[.int .i64 c, .string key, .string msg] w fun e w' => e = .returned (.bool true) ∧ Below w.heap.size w w' := by
  clear hc
  go_enter Try.func4, Try.ntmps4
  obtain ⟨k, id, hk, he, hw, hi⟩ := pick_is c
  have HK := Lib.hid hk
  clear hk
  obtain ⟨n, hn⟩ : ∃ n, n = blockOf id := ⟨_, rfl⟩
  have hn9 : n ≤ 128 := by have := blockOf_pos id; omega
  go_wp2_with (go_at_call 11; refine (num_calls _ _).mono ?_; rintro e w9 ⟨rfl, rfl⟩)
  first | (with_reducible refine (awake_calls _).mono ?_) | (refine (awake_calls _).mono ?_)
  rintro e w1 ⟨rfl, hb1⟩
  have hB1 := hb1
  have hk := HK.out
  go_wp2_with (go_at_call 11; refine (num_calls _ _).mono ?_; rintro e w9 ⟨rfl, rfl⟩)
  first | (with_reducible refine (block_yes id hi _).mono ?_) | (refine (block_yes id hi _).mono ?_)
  rintro e w2 ⟨rfl, hb2⟩
  have hB2 := hB1.trans (hb2.mono hB1.size)
  clear hk
  rw [← hn]
  have HN := Lib.hid hn
  clear hn
  by_cases hl : n < key.size
  · go_wp2
    go_ret
    exact ⟨rfl, hB2⟩
  · have hmk := fun w => run_make_nulls n (by omega) w
    go_wp2
    go_region
    · obtain ⟨w3, hw3⟩ : ∃ w3 : World, w3 = ((w2.alloc (.cells (nulls n) 5)).alloc (.cells (nulls n) 5)).drew := ⟨_, rfl⟩
      rw [← hw3]
      have A : w3.heap[w2.heap.size]? = some (.cells (nulls n) 5 (0, 0)) := by rw [hw3]; exact new2a w2 _ _
      have B : w3.heap[w2.heap.size + 1]? = some (.cells (nulls n) 5 (0, 0)) := by rw [hw3]; exact new2 w2 _ _
      have hB3 : Below w.heap.size w w3 := by rw [hw3]; exact ((hB2.alloc hB2.size _).alloc (by have := hB2.size; simp; omega) _).drew
      have z2 := hB2.size
      clear hw3 hmk
      obtain ⟨ga, hga⟩ : ∃ g, g = w2.heap.size := ⟨_, rfl⟩
      obtain ⟨gb, hgb⟩ : ∃ g, g = w2.heap.size + 1 := ⟨_, rfl⟩
      rw [← hgb, ← hga]
      rw [← hgb] at B
      rw [← hga] at A
      have hne : ga ≠ gb := by omega
      have hne' : gb ≠ ga := by omega
      have la : w.heap.size ≤ ga := by omega
      have lb : w.heap.size ≤ gb := by omega
      clear hga hgb
      have OA := Lib.hid (Ow.nulls (B := w.heap.size) (by omega) la A)
      have OB := Lib.hid (Ow.nulls (B := w.heap.size) (by omega) lb B)
      clear A B
      go_wp2_with (first
          | (refine wpList_copy_str rfl (.tmp 33) (.tmp 34) 35 9 rfl 5 Try.underlying35 (fun w => by kernel_rfl) w.heap.size 5 ga n n (List.replicate n 0) rfl key rfl (by omega) OA.out ?_
             intro w4 how4 hb4 hs4
             have OA4 := Lib.hid how4
             have OB4 := Lib.hid (OB.out.but hb4 (by simpa [Value.ownBlock] using hne'))
             clear how4)
          | (refine wpList_copy_str rfl (.tmp 36) (.tmp 37) 35 9 rfl 5 Try.underlying35 (fun w => by kernel_rfl) w.heap.size 5 gb n n (List.replicate n 0) rfl key rfl (by omega) OB4.out ?_
             intro w5 how5 hb5 hs5
             have OB5 := Lib.hid how5
             have OA5 := Lib.hid (OA4.out.but hb5 (by simpa [Value.ownBlock] using hne))
             clear how5))
      obtain ⟨L, hL⟩ : ∃ L, L = key.data.toList ++ (List.replicate n 0).drop key.size := ⟨_, rfl⟩
      have hLn : L.length = n := by rw [hL]; simp; omega
      rw [← hL] at OA5 OB5
      have hB5 : Below w.heap.size w w5 := But.below (But.below hB3 hb4 la hB3.size) hb5 lb (But.below hB3 hb4 la hB3.size).size
      have HL := Lib.hid hL
      have HLn := Lib.hid hLn
      clear hL hLn
      go_loopw [11] (fun i wr => ∃ k : Nat, k ≤ n ∧ i = .int .i64 k ∧ Ow wr w.heap.size 5 1 (.slice (some ⟨ga, 0, none⟩) n n) n ((xlk 54 L k).map v8) ∧ Ow wr w.heap.size 5 1 (.slice (some ⟨gb, 0, none⟩) n n) n ((xlk 92 L k).map v8) ∧ Below w.heap.size w wr) (fun i _ => n - (intOf i).toNat)
      case atStart => exact ⟨0, by omega, rfl, by rw [xlk_zero]; exact OA5.out, by rw [xlk_zero]; exact OB5.out, hB5⟩
      case round =>
        obtain ⟨q, hq1, rfl, howa, howb, hbr⟩ := hrel
        have HA := Lib.hid howa
        have HB := Lib.hid howb
        clear howa howb
        by_cases hlt : q < n
        · have hc := (HA.out.cel q hlt).1
          have hf := (HA.out.cel q hlt).2
          obtain ⟨x, hx⟩ : ∃ x, x = L.getD q 0 := ⟨_, rfl⟩
          have x54 := xlk_set 54 L q (by rw [HLn.out]; exact hlt)
          have x92 := xlk_set 92 L q (by rw [HLn.out]; exact hlt)
          rw [← hx] at x54 x92
          rw [xlk_get 54 L q (by rw [HLn.out]; exact hlt), ← hx] at hc
          have hb1 := (But.refl ga wr).setCell (a := ⟨ga, q, none⟩) (.inl rfl) (v8 (x ^^^ 54))
          have HA1 := Lib.hid (HA.out.set q hlt (x ^^^ 54))
          have HB1 := Lib.hid (HB.out.but hb1 (by simpa [Value.ownBlock] using hne'))
          rw [x54] at HA1
          have hc2 := (HB1.out.cel q hlt).1
          have hf2 := (HB1.out.cel q hlt).2
          rw [xlk_get 92 L q (by rw [HLn.out]; exact hlt), ← hx] at hc2
          have hb2' := (But.refl gb (wr.setCell ⟨ga, q, none⟩ (v8 (x ^^^ 54)))).setCell (a := ⟨gb, q, none⟩) (.inl rfl) (v8 (x ^^^ 92))
          have HB2 := Lib.hid (HB1.out.set q hlt (x ^^^ 92))
          have HA2 := Lib.hid (HA1.out.but hb2' (by simpa [Value.ownBlock] using hne))
          rw [x92] at HB2
          have hBq : Below w.heap.size w ((wr.setCell ⟨ga, q, none⟩ (v8 (x ^^^ 54))).setCell ⟨gb, q, none⟩ (v8 (x ^^^ 92))) := (hbr.setCell la _).setCell lb _
          clear x54 x92 hx
          clear hb1 hb2'
          go_wp2
          go_roundw
          case rel => exact ⟨q + 1, by omega, by go_num, HA2.out, HB2.out, hBq⟩
          case measure => simp [intOf]; omega
        · obtain rfl : q = n := by omega
          have hda := HA.out.rd (fun _ => True) (fun g hg => trivial)
          have hdb := HB.out.rd (fun _ => True) (fun g hg => trivial)
          rw [xlk_all 54 L _ (by rw [HLn.out]; exact Nat.le_refl _)] at hda
          rw [xlk_all 92 L _ (by rw [HLn.out]; exact Nat.le_refl _)] at hdb
          have eK : ∀ x, (⟨(xl x L).toArray⟩ : ByteArray) = xb x (kp id key) := by
            intro x
            unfold xb kp
            rw [← HN.out, if_neg hl, HL.out, List.drop_replicate]
            congr 3
          have hcvA := run_convert_rd (P := Try.prog) hda 35 9 5 Try.underlying35 Try.underlying5 Try.underlying9
          rw [eK 54] at hcvA
          have HDB := Lib.hid hdb
          have hiz : (xb 54 (kp id key)).size = q := by rw [xb_size, kp_size hi, HN.out]
          have hoz : (xb 92 (kp id key)).size = q := by rw [xb_size, kp_size hi, HN.out]
          have hsp := szOf_pos id
          have z1 : (xb 54 (kp id key) ++ msg).size ≤ 140737488355200 := by rw [ByteArray.size_append, hiz]; omega
          have hdz := dg_sz hi (xb 54 (kp id key) ++ msg)
          have z2' : (xb 92 (kp id key) ++ dg id (xb 54 (kp id key) ++ msg)).size ≤ 140737488355200 := by rw [ByteArray.size_append, hoz, hdz]; omega
          have zk : key.size ≤ 140737488355200 := by omega
          have zm : msg.size ≤ 140737488355200 := by omega
          have ehm : hm id key msg = dg id (xb 92 (kp id key) ++ dg id (xb 54 (kp id key) ++ msg)) := rfl
          have EK := Lib.hid eK
          clear hda hdb eK
          go_wp2_with (fail)
          with_reducible refine (hashOf_yes id _ _ hi z1).mono ?_
          rintro e w7 ⟨rfl, hb7⟩
          have hB7 := hbr.trans (hb7.mono hbr.size)
          have hcvB := run_convert_rd (P := Try.prog) (HDB.out.below hb7) 35 9 5 Try.underlying35 Try.underlying5 Try.underlying9
          rw [EK.out 92] at hcvB
          go_wp2_with (fail)
          with_reducible refine (hashOf_yes id _ _ hi z2').mono ?_
          rintro e w8 ⟨rfl, hb8⟩
          have hB8 := hB7.trans (hb8.mono hB7.size)
          go_wp2_with (fail)
          with_reducible refine (hmacOf_yes id key msg _ hi zk zm).mono ?_
          rintro e w6 ⟨he, hb6⟩
          rw [ehm] at he
          subst he
          have hB6 := hB8.trans (hb6.mono hB8.size)
          clear ehm
          go_wp2_with (go_at_call 11; refine (num_calls _ _).mono ?_; rintro e w9 ⟨rfl, rfl⟩)
          go_ret
          exact ⟨rfl, hB6⟩
    · obtain ⟨w3, hw3⟩ : ∃ w3 : World, w3 = ((w2.alloc (.cells (nulls n) 5)).alloc (.cells (nulls n) 5)).drew := ⟨_, rfl⟩
      rw [← hw3]
      have A : w3.heap[w2.heap.size]? = some (.cells (nulls n) 5 (0, 0)) := by rw [hw3]; exact new2a w2 _ _
      have B : w3.heap[w2.heap.size + 1]? = some (.cells (nulls n) 5 (0, 0)) := by rw [hw3]; exact new2 w2 _ _
      have hB3 : Below w.heap.size w w3 := by rw [hw3]; exact ((hB2.alloc hB2.size _).alloc (by have := hB2.size; simp; omega) _).drew
      have z2 := hB2.size
      clear hw3 hmk
      obtain ⟨ga, hga⟩ : ∃ g, g = w2.heap.size + 1 := ⟨_, rfl⟩
      obtain ⟨gb, hgb⟩ : ∃ g, g = w2.heap.size := ⟨_, rfl⟩
      rw [← hga, ← hgb]
      rw [← hga] at B
      rw [← hgb] at A
      have hne : ga ≠ gb := by omega
      have hne' : gb ≠ ga := by omega
      have la : w.heap.size ≤ ga := by omega
      have lb : w.heap.size ≤ gb := by omega
      clear hga hgb
      have OA := Lib.hid (Ow.nulls (B := w.heap.size) (by omega) la B)
      have OB := Lib.hid (Ow.nulls (B := w.heap.size) (by omega) lb A)
      clear A B
      go_wp2_with (first
          | (refine wpList_copy_str rfl (.tmp 33) (.tmp 34) 35 9 rfl 5 Try.underlying35 (fun w => by kernel_rfl) w.heap.size 5 ga n n (List.replicate n 0) rfl key rfl (by omega) OA.out ?_
             intro w4 how4 hb4 hs4
             have OA4 := Lib.hid how4
             have OB4 := Lib.hid (OB.out.but hb4 (by simpa [Value.ownBlock] using hne'))
             clear how4)
          | (refine wpList_copy_str rfl (.tmp 36) (.tmp 37) 35 9 rfl 5 Try.underlying35 (fun w => by kernel_rfl) w.heap.size 5 gb n n (List.replicate n 0) rfl key rfl (by omega) OB4.out ?_
             intro w5 how5 hb5 hs5
             have OB5 := Lib.hid how5
             have OA5 := Lib.hid (OA4.out.but hb5 (by simpa [Value.ownBlock] using hne))
             clear how5))
      obtain ⟨L, hL⟩ : ∃ L, L = key.data.toList ++ (List.replicate n 0).drop key.size := ⟨_, rfl⟩
      have hLn : L.length = n := by rw [hL]; simp; omega
      rw [← hL] at OA5 OB5
      have hB5 : Below w.heap.size w w5 := But.below (But.below hB3 hb4 la hB3.size) hb5 lb (But.below hB3 hb4 la hB3.size).size
      have HL := Lib.hid hL
      have HLn := Lib.hid hLn
      clear hL hLn
      go_loopw [11] (fun i wr => ∃ k : Nat, k ≤ n ∧ i = .int .i64 k ∧ Ow wr w.heap.size 5 1 (.slice (some ⟨ga, 0, none⟩) n n) n ((xlk 54 L k).map v8) ∧ Ow wr w.heap.size 5 1 (.slice (some ⟨gb, 0, none⟩) n n) n ((xlk 92 L k).map v8) ∧ Below w.heap.size w wr) (fun i _ => n - (intOf i).toNat)
      case atStart => exact ⟨0, by omega, rfl, by rw [xlk_zero]; exact OA5.out, by rw [xlk_zero]; exact OB5.out, hB5⟩
      case round =>
        obtain ⟨q, hq1, rfl, howa, howb, hbr⟩ := hrel
        have HA := Lib.hid howa
        have HB := Lib.hid howb
        clear howa howb
        by_cases hlt : q < n
        · have hc := (HA.out.cel q hlt).1
          have hf := (HA.out.cel q hlt).2
          obtain ⟨x, hx⟩ : ∃ x, x = L.getD q 0 := ⟨_, rfl⟩
          have x54 := xlk_set 54 L q (by rw [HLn.out]; exact hlt)
          have x92 := xlk_set 92 L q (by rw [HLn.out]; exact hlt)
          rw [← hx] at x54 x92
          rw [xlk_get 54 L q (by rw [HLn.out]; exact hlt), ← hx] at hc
          have hb1 := (But.refl ga wr).setCell (a := ⟨ga, q, none⟩) (.inl rfl) (v8 (x ^^^ 54))
          have HA1 := Lib.hid (HA.out.set q hlt (x ^^^ 54))
          have HB1 := Lib.hid (HB.out.but hb1 (by simpa [Value.ownBlock] using hne'))
          rw [x54] at HA1
          have hc2 := (HB1.out.cel q hlt).1
          have hf2 := (HB1.out.cel q hlt).2
          rw [xlk_get 92 L q (by rw [HLn.out]; exact hlt), ← hx] at hc2
          have hb2' := (But.refl gb (wr.setCell ⟨ga, q, none⟩ (v8 (x ^^^ 54)))).setCell (a := ⟨gb, q, none⟩) (.inl rfl) (v8 (x ^^^ 92))
          have HB2 := Lib.hid (HB1.out.set q hlt (x ^^^ 92))
          have HA2 := Lib.hid (HA1.out.but hb2' (by simpa [Value.ownBlock] using hne))
          rw [x92] at HB2
          have hBq : Below w.heap.size w ((wr.setCell ⟨ga, q, none⟩ (v8 (x ^^^ 54))).setCell ⟨gb, q, none⟩ (v8 (x ^^^ 92))) := (hbr.setCell la _).setCell lb _
          clear x54 x92 hx
          clear hb1 hb2'
          go_wp2
          go_roundw
          case rel => exact ⟨q + 1, by omega, by go_num, HA2.out, HB2.out, hBq⟩
          case measure => simp [intOf]; omega
        · obtain rfl : q = n := by omega
          have hda := HA.out.rd (fun _ => True) (fun g hg => trivial)
          have hdb := HB.out.rd (fun _ => True) (fun g hg => trivial)
          rw [xlk_all 54 L _ (by rw [HLn.out]; exact Nat.le_refl _)] at hda
          rw [xlk_all 92 L _ (by rw [HLn.out]; exact Nat.le_refl _)] at hdb
          have eK : ∀ x, (⟨(xl x L).toArray⟩ : ByteArray) = xb x (kp id key) := by
            intro x
            unfold xb kp
            rw [← HN.out, if_neg hl, HL.out, List.drop_replicate]
            congr 3
          have hcvA := run_convert_rd (P := Try.prog) hda 35 9 5 Try.underlying35 Try.underlying5 Try.underlying9
          rw [eK 54] at hcvA
          have HDB := Lib.hid hdb
          have hiz : (xb 54 (kp id key)).size = q := by rw [xb_size, kp_size hi, HN.out]
          have hoz : (xb 92 (kp id key)).size = q := by rw [xb_size, kp_size hi, HN.out]
          have hsp := szOf_pos id
          have z1 : (xb 54 (kp id key) ++ msg).size ≤ 140737488355200 := by rw [ByteArray.size_append, hiz]; omega
          have hdz := dg_sz hi (xb 54 (kp id key) ++ msg)
          have z2' : (xb 92 (kp id key) ++ dg id (xb 54 (kp id key) ++ msg)).size ≤ 140737488355200 := by rw [ByteArray.size_append, hoz, hdz]; omega
          have zk : key.size ≤ 140737488355200 := by omega
          have zm : msg.size ≤ 140737488355200 := by omega
          have ehm : hm id key msg = dg id (xb 92 (kp id key) ++ dg id (xb 54 (kp id key) ++ msg)) := rfl
          have EK := Lib.hid eK
          clear hda hdb eK
          go_wp2_with (fail)
          with_reducible refine (hashOf_yes id _ _ hi z1).mono ?_
          rintro e w7 ⟨rfl, hb7⟩
          have hB7 := hbr.trans (hb7.mono hbr.size)
          have hcvB := run_convert_rd (P := Try.prog) (HDB.out.below hb7) 35 9 5 Try.underlying35 Try.underlying5 Try.underlying9
          rw [EK.out 92] at hcvB
          go_wp2_with (fail)
          with_reducible refine (hashOf_yes id _ _ hi z2').mono ?_
          rintro e w8 ⟨rfl, hb8⟩
          have hB8 := hB7.trans (hb8.mono hB7.size)
          go_wp2_with (fail)
          with_reducible refine (hmacOf_yes id key msg _ hi zk zm).mono ?_
          rintro e w6 ⟨he, hb6⟩
          rw [ehm] at he
          subst he
          have hB6 := hB8.trans (hb6.mono hB8.size)
          clear ehm
          go_wp2_with (go_at_call 11; refine (num_calls _ _).mono ?_; rintro e w9 ⟨rfl, rfl⟩)
          go_ret
          exact ⟨rfl, hB6⟩
end Go.Proofs.Ytbgbfigndelogaa.Cw
