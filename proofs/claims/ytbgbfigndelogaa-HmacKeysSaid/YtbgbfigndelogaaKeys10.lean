/-
  (package curvetlaw10) The walk of HmacKeys: true. Condition: key and text take at most 2^47 - 8192 bytes each.
-/
import Derived.Test.YtbgbfigndelogaaMake
set_option linter.unusedSimpArgs false
set_option linter.unusedVariables false
namespace Go.Proofs.Ytbgbfigndelogaa.Cw
open Go Go.RowKit

theorem keyfacts {id : Nat} (hi : isId id) (K : ByteArray) (msg : ByteArray) (j : Nat) (hK : K.size ≤ 40) (hj : j ≤ 15) : hm id (K ++ noughts j) msg = hm id K msg ∧ hm id (K ++ noughts 129) msg = hm id (dg id (K ++ noughts 129)) msg ∧
    (K ++ noughts j).size ≤ 140737488351232 ∧ (K ++ noughts 129).size ≤ 140737488351232 ∧ (dg id (K ++ noughts 129)).size ≤ 140737488351232 ∧ K.size ≤ 140737488351232 := by
  have hb := blockOf_pos id
  have hs := szOf_pos id
  refine ⟨hm_noughts hi K msg j (by omega), hm_long hi _ msg (by rw [ByteArray.size_append, noughts_size]; omega), ?_, ?_, ?_, by omega⟩
  · rw [ByteArray.size_append, noughts_size]; omega
  · rw [ByteArray.size_append, noughts_size]; omega
  · rw [dg_sz hi]; omega
set_option maxRecDepth 100000 in
set_option maxHeartbeats 1000000 in
theorem hmacKeys_walk (c : Int) (key msg : ByteArray) (c1 : Int) (w : World) (hc : (Lit.int .i64 c).wf = true) (hq : key.size ≤ 140737488351232) (h2 : msg.size ≤ 140737488351232) (hc1 : (Lit.int .i64 c1).wf = true) : Calls Try.prog 7 #[.int .i64 c, .string key, .string msg, .int .i64 c1] w fun e w' => e = .returned (.bool true) ∧ Below w.heap.size w w' := by
  clear hc hc1
  go_enter Try.func7, Try.ntmps7
  obtain ⟨k, id, hk, he, hw, hi⟩ := pick_is c
  have HK := Lib.hid hk
  clear hk
  obtain ⟨j, hj, hj15⟩ := and15 c1
  have HJ := Lib.hid hj
  clear hj
  have e40 : (key.extract 0 40).size = min 40 key.size := by rw [ByteArray.size_extract]; omega
  by_cases h40 : 40 < key.size
  · have hKs : (key.extract 0 40).size ≤ 40 := by rw [e40]; omega
    obtain ⟨K, hKe⟩ : ∃ K, (key.extract 0 40) = K := ⟨_, rfl⟩
    rw [hKe] at hKs
    obtain ⟨e1, e2, s1, s2, s3, s4⟩ := keyfacts hi K msg j hKs hj15
    have E1 := Lib.hid e1
    have E2 := Lib.hid e2
    clear e1 e2
    have hd9 := hm_size hi K msg
    clear e40
    go_wp2_with (go_at_call 11; refine (num_calls _ _).mono ?_; rintro e w9 ⟨rfl, rfl⟩)
    first | (with_reducible refine (awake_calls _).mono ?_) | (refine (awake_calls _).mono ?_)
    rintro e w1 ⟨rfl, hb1⟩
    have hB1 := hb1
    have hk := HK.out
    go_wp2_with (go_at_call 11; refine (num_calls _ _).mono ?_; rintro e w9 ⟨rfl, rfl⟩)
    first | (with_reducible refine (hmacOf_yes id K msg _ hi s4 h2).mono ?_) | (refine (hmacOf_yes id K msg _ hi s4 h2).mono ?_)
    rintro e w2 ⟨rfl, hb2⟩
    have hB2 := hB1.trans (hb2.mono hB1.size)
    clear hk
    have hj := HJ.out
    have hnz := noughts_size j
    have hnz2 := noughts_size 129
    go_wp2_with (first
          | (refine wpList_make_noughts rfl (.tmp 44) (.tmp 44) rfl j rfl rfl (by omega) ?_; intro wm hbm hcv)
          | (go_at_call 11; refine (num_calls _ _).mono ?_; rintro e w9 ⟨rfl, rfl⟩))
    clear hj
    have hBm := hB2.trans (hbm.mono hB2.size)
    first | (with_reducible refine (hmacOf_yes id (K ++ noughts j) msg _ hi s1 h2).mono ?_) | fail
    rintro e w3 ⟨he, hb3⟩
    rw [E1.out] at he
    subst he
    have hB3 := hBm.trans (hb3.mono hBm.size)
    go_wp2_with (first
          | (refine wpList_make_noughts rfl (.const (.int .i64 129)) (.const (.int .i64 129)) rfl 129 rfl rfl (by omega) ?_; intro wk hbk hcv2)
          | (go_at_call 11; refine (num_calls _ _).mono ?_; rintro e w9 ⟨rfl, rfl⟩))
    have hBk := hB3.trans (hbk.mono hB3.size)
    first | (with_reducible refine (hmacOf_yes id (K ++ noughts 129) msg _ hi s2 h2).mono ?_) | fail
    rintro e w4 ⟨he, hb4⟩
    rw [E2.out] at he
    subst he
    have hB4 := hBk.trans (hb4.mono hBk.size)
    go_wp2_with (go_at_call 11; refine (num_calls _ _).mono ?_; rintro e w9 ⟨rfl, rfl⟩)
    first | (with_reducible refine (hashOf_yes id (K ++ noughts 129) _ hi s2).mono ?_) | (refine (hashOf_yes id (K ++ noughts 129) _ hi s2).mono ?_)
    rintro e w5 ⟨rfl, hb5⟩
    have hB5 := hB4.trans (hb5.mono hB4.size)
    go_wp2_with (go_at_call 11; refine (num_calls _ _).mono ?_; rintro e w9 ⟨rfl, rfl⟩)
    first | (with_reducible refine (hmacOf_yes id (dg id (K ++ noughts 129)) msg _ hi s3 h2).mono ?_) | (refine (hmacOf_yes id (dg id (K ++ noughts 129)) msg _ hi s3 h2).mono ?_)
    rintro e w6 ⟨rfl, hb6⟩
    have hB6 := hB5.trans (hb6.mono hB5.size)
    go_wp2_with (go_at_call 11; refine (num_calls _ _).mono ?_; rintro e w9 ⟨rfl, rfl⟩)
    first | (with_reducible refine (hsize id hi _).mono ?_) | (refine (hsize id hi _).mono ?_)
    rintro e w7 ⟨rfl, hb7⟩
    have hB7 := hB6.trans (hb7.mono hB6.size)
    go_wp2_with (go_at_call 11; refine (num_calls _ _).mono ?_; rintro e w9 ⟨rfl, rfl⟩)
    go_ret
    exact ⟨rfl, hB7⟩
  · have hKs : key.size ≤ 40 := by omega
    obtain ⟨e1, e2, s1, s2, s3, s4⟩ := keyfacts hi key msg j hKs hj15
    have E1 := Lib.hid e1
    have E2 := Lib.hid e2
    clear e1 e2
    have hd9 := hm_size hi key msg
    clear e40
    go_wp2_with (go_at_call 11; refine (num_calls _ _).mono ?_; rintro e w9 ⟨rfl, rfl⟩)
    first | (with_reducible refine (awake_calls _).mono ?_) | (refine (awake_calls _).mono ?_)
    rintro e w1 ⟨rfl, hb1⟩
    have hB1 := hb1
    have hk := HK.out
    go_wp2_with (go_at_call 11; refine (num_calls _ _).mono ?_; rintro e w9 ⟨rfl, rfl⟩)
    first | (with_reducible refine (hmacOf_yes id key msg _ hi s4 h2).mono ?_) | (refine (hmacOf_yes id key msg _ hi s4 h2).mono ?_)
    rintro e w2 ⟨rfl, hb2⟩
    have hB2 := hB1.trans (hb2.mono hB1.size)
    clear hk
    have hj := HJ.out
    have hnz := noughts_size j
    have hnz2 := noughts_size 129
    go_wp2_with (first
          | (refine wpList_make_noughts rfl (.tmp 44) (.tmp 44) rfl j rfl rfl (by omega) ?_; intro wm hbm hcv)
          | (go_at_call 11; refine (num_calls _ _).mono ?_; rintro e w9 ⟨rfl, rfl⟩))
    clear hj
    have hBm := hB2.trans (hbm.mono hB2.size)
    first | (with_reducible refine (hmacOf_yes id (key ++ noughts j) msg _ hi s1 h2).mono ?_) | fail
    rintro e w3 ⟨he, hb3⟩
    rw [E1.out] at he
    subst he
    have hB3 := hBm.trans (hb3.mono hBm.size)
    go_wp2_with (first
          | (refine wpList_make_noughts rfl (.const (.int .i64 129)) (.const (.int .i64 129)) rfl 129 rfl rfl (by omega) ?_; intro wk hbk hcv2)
          | (go_at_call 11; refine (num_calls _ _).mono ?_; rintro e w9 ⟨rfl, rfl⟩))
    have hBk := hB3.trans (hbk.mono hB3.size)
    first | (with_reducible refine (hmacOf_yes id (key ++ noughts 129) msg _ hi s2 h2).mono ?_) | fail
    rintro e w4 ⟨he, hb4⟩
    rw [E2.out] at he
    subst he
    have hB4 := hBk.trans (hb4.mono hBk.size)
    go_wp2_with (go_at_call 11; refine (num_calls _ _).mono ?_; rintro e w9 ⟨rfl, rfl⟩)
    first | (with_reducible refine (hashOf_yes id (key ++ noughts 129) _ hi s2).mono ?_) | (refine (hashOf_yes id (key ++ noughts 129) _ hi s2).mono ?_)
    rintro e w5 ⟨rfl, hb5⟩
    have hB5 := hB4.trans (hb5.mono hB4.size)
    go_wp2_with (go_at_call 11; refine (num_calls _ _).mono ?_; rintro e w9 ⟨rfl, rfl⟩)
    first | (with_reducible refine (hmacOf_yes id (dg id (key ++ noughts 129)) msg _ hi s3 h2).mono ?_) | (refine (hmacOf_yes id (dg id (key ++ noughts 129)) msg _ hi s3 h2).mono ?_)
    rintro e w6 ⟨rfl, hb6⟩
    have hB6 := hB5.trans (hb6.mono hB5.size)
    go_wp2_with (go_at_call 11; refine (num_calls _ _).mono ?_; rintro e w9 ⟨rfl, rfl⟩)
    first | (with_reducible refine (hsize id hi _).mono ?_) | (refine (hsize id hi _).mono ?_)
    rintro e w7 ⟨rfl, hb7⟩
    have hB7 := hB6.trans (hb7.mono hB6.size)
    go_wp2_with (go_at_call 11; refine (num_calls _ _).mono ?_; rintro e w9 ⟨rfl, rfl⟩)
    go_ret
    exact ⟨rfl, hB7⟩
end Go.Proofs.Ytbgbfigndelogaa.Cw
