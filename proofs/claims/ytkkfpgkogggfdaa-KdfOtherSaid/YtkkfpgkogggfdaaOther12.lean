/-
  (package curvetlaw12) The walk of KdfOther: true. Condition: each of the two texts takes at most 2^47 - 4096 bytes (what the form itself lets in).
-/
import Derived.Test.YtkkfpgkogggfdaaAwake12
import Derived.Test.YtkkfpgkogggfdaaKdfP
import Derived.Test.YtkkfpgkogggfdaaTail
import Derived.BigQuiet
import Derived.Deep.QuietTactic
set_option linter.unusedSimpArgs false
set_option linter.unusedVariables false
namespace Go.Proofs.Ytkkfpgkogggfdaa.Cw
open Go Go.RowKit

theorem cut_fact (id : Nat) (z info al : ByteArray) (h : z ++ info = al) (k m : Nat) (hk : k ≤ al.size) : kd id (al.extract 0 k) (al.extract k al.size) m = kd id z info m :=
  kd_cut id _ _ _ _ ((cut_join al k hk).trans h.symm) m
theorem cut_size (al : ByteArray) (k : Nat) (hk : k ≤ al.size) (h : al.size ≤ 281474976702464) : (al.extract 0 k).size + (al.extract k al.size).size ≤ 281474976702464 := by
  rw [ByteArray.size_extract, ByteArray.size_extract]; omega
set_option maxRecDepth 100000 in
set_option maxHeartbeats 1000000 in
theorem kdfOther_walk (c : Int) (z info : ByteArray) (c1 c2 : Int) (w : World) (hc : (Lit.int .i64 c).wf = true) (h1 : z.size ≤ 140737488351232) (h2 : info.size ≤ 140737488351232) (hs1 : (Lit.int .i64 c1).wf = true) (hs2 : (Lit.int .i64 c2).wf = true) : Calls Try.prog 6 #[.int .i64 c, .string z, .string info, .int .i64 c1, .int .i64 c2] w fun e w' => e = .returned (.bool true) ∧ Below w.heap.size w w' := by
  have hx : -9223372036854775808 ≤ c1 ∧ c1 ≤ 9223372036854775807 := by simpa [Lit.wf, IntKind.min, IntKind.max, IntKind.signed, IntKind.bits] using hs1
  clear hc hs1 hs2
  go_enter Try.func6, Try.ntmps6
  obtain ⟨al, hal⟩ : ∃ al, z ++ info = al := ⟨_, rfl⟩
  have hals : al.size ≤ 281474976702464 := by rw [← hal, ByteArray.size_append]; omega
  have q0 : z.size + info.size ≤ 281474976702464 := by omega
  obtain ⟨k0, hk0, hks⟩ := cut_int c1 al.size (by omega)
  obtain ⟨k, id, hk, he, hw, hi⟩ := pick_is c
  obtain ⟨m, hm, hm5⟩ := andb255 c2
  have qm : m ≤ 1024 := Nat.le_trans hm5 (by decide)
  have q1 := cut_size al k0 hks hals
  have q2 : (ByteArray.empty : ByteArray).size + al.size ≤ 281474976702464 := by have e0 : (ByteArray.empty : ByteArray).size = 0 := rfl; omega
  have G := Lib.hid (cut_fact id z info al hal k0 m hks)
  have G0 := Lib.hid (show kd id ByteArray.empty al m = kd id z info m from kd_cut id _ _ _ _ (by rw [ByteArray.empty_append]; exact hal.symm) m)
  by_cases h0 : 0 < al.size
  · go_wp2_with (go_at_call 9; refine (num_calls _ _).mono ?_; rintro e w9 ⟨rfl, rfl⟩)
    first | (with_reducible refine (awake_calls _).mono ?_) | (refine (awake_calls _).mono ?_)
    rintro e w1 ⟨rfl, hb1⟩
    have hB1 := hb1
    go_wp2_with (go_at_call 9; refine (num_calls _ _).mono ?_; rintro e w9 ⟨rfl, rfl⟩)
    first | (with_reducible refine (kdf_yes id _ _ m _ hi qm q0).mono ?_) | (refine (kdf_yes id _ _ m _ hi qm q0).mono ?_)
    rintro e w2 ⟨rfl, hb2⟩
    have hB2 := hB1.trans (hb2.mono hB1.size)
    go_wp2_with (go_at_call 9; refine (num_calls _ _).mono ?_; rintro e w9 ⟨rfl, rfl⟩)
    clear hk0 hk he hw hx hals h1 h2 q0
    refine wp_region_class_tail (fun w' => Below w2.heap.size w2 w') (Below.refl _ _).drew 14 (by kernel_rfl) (by kernel_rfl) ?_
    simp only [List.take_succ_cons, List.take_zero, List.drop_succ_cons, List.drop_zero]
    iterate 9 go_big_quiet_step ((exact fun _ => rfl))
    refine BigFrame.wpQuiet_want rfl fun K hK => ⟨.tuple #[.string (kd id z info m), .int .i64 0], fun w' hw' => ?_, hK _ ?_⟩
    · go_simp
      refine (kdf_yes id _ _ m w' hi qm q1).mono ?_
      rintro e w'' ⟨he, hb'⟩
      rw [G.out] at he
      exact ⟨he, hw'.trans (hb'.mono hw'.size)⟩
    clear hK K
    simp only [Act.put, List.setIfInBounds_toArray, List.set_cons_zero, List.set_cons_succ]
    iterate 4 go_big_quiet_step ((exact fun _ => rfl))
    refine wpQuiet_nil ?_
    rintro w3 hb3
    have hB3 := hB2.trans (hb3.mono hB2.size)
    go_wp2_with (go_at_call 9; refine (num_calls _ _).mono ?_; rintro e w9 ⟨rfl, rfl⟩)
    go_ret
    exact ⟨rfl, hB3⟩
  · go_wp2_with (go_at_call 9; refine (num_calls _ _).mono ?_; rintro e w9 ⟨rfl, rfl⟩)
    first | (with_reducible refine (awake_calls _).mono ?_) | (refine (awake_calls _).mono ?_)
    rintro e w1 ⟨rfl, hb1⟩
    have hB1 := hb1
    go_wp2_with (go_at_call 9; refine (num_calls _ _).mono ?_; rintro e w9 ⟨rfl, rfl⟩)
    first | (with_reducible refine (kdf_yes id _ _ m _ hi qm q0).mono ?_) | (refine (kdf_yes id _ _ m _ hi qm q0).mono ?_)
    rintro e w2 ⟨rfl, hb2⟩
    have hB2 := hB1.trans (hb2.mono hB1.size)
    go_wp2_with (go_at_call 9; refine (num_calls _ _).mono ?_; rintro e w9 ⟨rfl, rfl⟩)
    clear hk0 hk he hw hx hals h1 h2 q0
    refine wp_region_class_tail (fun w' => Below w2.heap.size w2 w') (Below.refl _ _).drew 14 (by kernel_rfl) (by kernel_rfl) ?_
    simp only [List.take_succ_cons, List.take_zero, List.drop_succ_cons, List.drop_zero]
    iterate 9 go_big_quiet_step ((exact fun _ => rfl))
    refine BigFrame.wpQuiet_want rfl fun K hK => ⟨.tuple #[.string (kd id z info m), .int .i64 0], fun w' hw' => ?_, hK _ ?_⟩
    · go_simp
      refine (kdf_yes id ByteArray.empty al m w' hi qm q2).mono ?_
      rintro e w'' ⟨he, hb'⟩
      rw [G0.out] at he
      exact ⟨he, hw'.trans (hb'.mono hw'.size)⟩
    clear hK K
    simp only [Act.put, List.setIfInBounds_toArray, List.set_cons_zero, List.set_cons_succ]
    iterate 4 go_big_quiet_step ((exact fun _ => rfl))
    refine wpQuiet_nil ?_
    rintro w3 hb3
    have hB3 := hB2.trans (hb3.mono hB2.size)
    go_wp2_with (go_at_call 9; refine (num_calls _ _).mono ?_; rintro e w9 ⟨rfl, rfl⟩)
    go_ret
    exact ⟨rfl, hB3⟩
end Go.Proofs.Ytkkfpgkogggfdaa.Cw
