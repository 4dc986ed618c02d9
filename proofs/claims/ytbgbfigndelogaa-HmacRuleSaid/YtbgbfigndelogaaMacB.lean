/-
  (package hmac) Write, Sum, Of; and the reference's Hmac. Condition: key and text take at most 2^46 bytes each.
-/
import Derived.Test.YtbgbfigndelogaaMac
import Derived.Test.YtbgbfigndelogaaTail
import Derived.BigQuiet
import Derived.Deep.QuietTactic
set_option linter.unusedSimpArgs false
set_option linter.unusedVariables false
namespace Go.Proofs.Ytbgbfigndelogaa.Cw
open Go Go.RowKit

theorem mac_write (m b id : Nat) (p : Nat → Prop) (key msg t : ByteArray) (w : World) (hp : ∀ g, w.heap.size ≤ g → p g) (hpb : ∀ g, p g → g ≠ b) (hs : t.size ≤ 140737488355200) (hh : MacAt w m b id p key msg) :
    Calls Try.prog 13 #[.pointer (some ⟨m, 0, none⟩), .string t] w fun e w' => e = .returned (.int .i64 0) ∧ MacAt w' m b id p key (msg ++ t) ∧ But b w w' := by
  obtain ⟨s, pm, hm, hst⟩ := hh
  have HM := Lib.hid hm
  have HS := Lib.hid hst
  have c2 := cell_of hm 2
  simp at c2
  clear hm hst
  go_enter Try.func13, Try.ntmps13
  go_wp2_with (fail)
  with_reducible refine (strm_write s b id p _ t w hp hpb hs HS.out).mono ?_
  rintro e w1 ⟨rfl, hh1, hb1⟩
  have HH1 := Lib.hid hh1
  clear hh1
  go_wp2
  go_ret
  exact ⟨rfl, ⟨s, pm, hb1.heap (hpb _ pm) HM.out, by rw [← ByteArray.append_assoc]; exact HH1.out⟩, hb1⟩

set_option maxRecDepth 100000 in
theorem mac_sum (m b id : Nat) (p : Nat → Prop) (key msg : ByteArray) (w : World) (hi : isId id) (hh : MacAt w m b id p key msg) :
    Calls Try.prog 14 #[.pointer (some ⟨m, 0, none⟩)] w fun e w' => e = .returned (.string (hm id key msg)) ∧ Below w.heap.size w w' := by
  obtain ⟨s, pm, hmm, hst⟩ := hh
  have HM := Lib.hid hmm
  have HS := Lib.hid hst
  have c0 := cell_of hmm 0
  have c1 := cell_of hmm 1
  have c2 := cell_of hmm 2
  have hlt := lt_of hmm
  have hbl := hst.lt
  have hoz := opad_size hi key
  have hdz := dg_sz hi (ipad id key ++ msg)
  have hbp := blockOf_pos id
  have hsp := szOf_pos id
  have hz9 : (opad id key ++ dg id (ipad id key ++ msg)).size ≤ 140737488355200 := by rw [ByteArray.size_append, hoz, hdz]; omega
  simp at c0 c1 c2
  clear hmm hst
  go_enter Try.func14, Try.ntmps14
  go_wp2
  refine wp_region_class_tail (fun w' => Below w.heap.size w w') (Below.refl _ _).drew 19 (by kernel_rfl) (by kernel_rfl) ?_
  simp only [List.take_succ_cons, List.take_zero, List.drop_succ_cons, List.drop_zero]
  iterate 3 go_big_quiet_step ((exact fun _ => rfl))
  go_big_quiet_step ((intro hB; rw [hB.cell (p := ⟨m, 0, none⟩) hlt, c0]; exact ⟨rfl, rfl⟩))
  iterate 3 go_big_quiet_step ((exact fun _ => rfl))
  go_big_quiet_step ((intro hB; rw [hB.cell (p := ⟨m, 1, none⟩) hlt, c1]; exact ⟨rfl, rfl⟩))
  iterate 3 go_big_quiet_step ((exact fun _ => rfl))
  go_big_quiet_step ((intro hB; rw [hB.cell (p := ⟨m, 2, none⟩) hlt, c2]; exact ⟨rfl, rfl⟩))
  refine BigFrame.wpQuiet_want rfl fun K hK => ⟨.string (dg id (ipad id key ++ msg)), fun w' hw' => ?_, hK _ ?_⟩
  · go_simp
    refine (strm_sum s b id p _ w' hi (HS.out.below hbl hw')).mono ?_
    rintro e w'' ⟨he, hb'⟩
    exact ⟨he, hw'.trans (hb'.mono hw'.size)⟩
  clear hK K
  simp only [Act.put, List.setIfInBounds_toArray, List.set_cons_zero, List.set_cons_succ]
  go_big_quiet_step ((exact fun _ => rfl))
  refine BigFrame.wpQuiet_want rfl fun K hK => ⟨.tuple #[.string (hm id key msg), .int .i64 0], fun w' hw' => ?_, hK _ ?_⟩
  · go_simp
    refine (hashOf_yes id _ w' hi hz9).mono ?_
    rintro e w'' ⟨he, hb'⟩
    exact ⟨he, hw'.trans (hb'.mono hw'.size)⟩
  clear hK K
  simp only [Act.put, List.setIfInBounds_toArray, List.set_cons_zero, List.set_cons_succ]
  iterate 4 go_big_quiet_step ((exact fun _ => rfl))
  refine wpQuiet_nil ?_
  rintro w1 hb1
  go_wp2
  go_ret
  exact ⟨rfl, hb1⟩

set_option maxRecDepth 100000 in
theorem hmacOf_yes (id : Nat) (key t : ByteArray) (w : World) (hi : isId id) (hk : key.size ≤ 140737488355200) (hs : t.size ≤ 140737488355200) :
    Calls Try.prog 8 #[.int .i64 id, .string key, .string t] w fun e w' => e = .returned (.tuple #[.string (hm id key t), .int .i64 0]) ∧ Below w.heap.size w w' := by
  go_enter Try.func8, Try.ntmps8
  go_wp2_with (fail)
  with_reducible refine (mac_yes id key hi hk w).mono ?_
  rintro e w1 ⟨m, b, rfl, hh1, hbl, hbs, hb1⟩
  have HH1 := Lib.hid (hh1 (· ≠ b) fun g _ h => h)
  clear hh1
  go_wp2_with (fail)
  with_reducible refine (mac_write m b id (· ≠ b) key ByteArray.empty t w1 (fun g hg => by omega) (fun g h => h) hs HH1.out).mono ?_
  rintro e w2 ⟨rfl, hh2, hb2⟩
  rw [ByteArray.empty_append] at hh2
  have HH2 := Lib.hid hh2
  clear hh2
  have hB2 : Below w.heap.size w w2 := But.below hb1 hb2 hbl hb1.size
  go_wp2_with (fail)
  with_reducible refine (mac_sum m b id (· ≠ b) key t w2 hi HH2.out).mono ?_
  rintro e w3 ⟨rfl, hb3⟩
  go_wp2
  go_ret2
  exact ⟨rfl, hB2.trans (hb3.mono hB2.size)⟩
theorem hmacOf_no (c : Int) (key t : ByteArray) (w : World) (h : ¬ (1 ≤ c ∧ c ≤ 4)) :
    Calls Try.prog 8 #[.int .i64 c, .string key, .string t] w fun e w' => e = .returned (.tuple #[.string ByteArray.empty, .int .i64 1000]) ∧ Below w.heap.size w w' := by
  go_enter Try.func8, Try.ntmps8
  go_wp2_with (fail)
  with_reducible refine (mac_no c key h w).mono ?_
  rintro e w1 ⟨rfl, hb1⟩
  go_wp2
  go_ret2
  exact ⟨rfl, hb1⟩
end Go.Proofs.Ytbgbfigndelogaa.Cw
