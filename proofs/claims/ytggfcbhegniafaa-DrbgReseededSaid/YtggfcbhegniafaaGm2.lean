/-
  (package curvetref7) The reference's generator: what it is in memory; update. Condition: a text takes at most 2^46 bytes.
  (package curvetref7) same: so many bytes of one value. Condition: at most a thousand.
  (package curvetref7) NewDrbg, Reseed. Condition: none but what each says.
  (package curvetref7) Reseed; Generate's refusals. Condition: none but what each says.
  (package curvetref7) Generate, its good way: the bytes, and what is kept. Condition: the request is fine.
  The two generators' methods once more, over a pair. Condition: none but what each says.
  (package curvetlaw11) What awake answers: true. No condition.
-/
import Derived.Test.YtggfcbhegniafaaGm1
import Derived.Test.YtggfcbhegniafaaXor
set_option linter.unusedSimpArgs false
set_option linter.unusedVariables false
namespace Go.Proofs.Ytggfcbhegniafaa.Cw
open Go Go.RowKit
/-- the reference's generator at block d -/
def RDrbgAt (w : World) (d id : Nat) (kv : ByteArray × ByteArray) (n : Int) : Prop := w.heap[d]? = some (.cells #[.int .i64 id, .string kv.1, .string kv.2, .int .i64 n] 50 (0, 0))
theorem RDrbgAt.below {w w' : World} {d id : Nat} {kv : ByteArray × ByteArray} {n : Int} (h : RDrbgAt w d id kv n) (hb : Below w.heap.size w w') : RDrbgAt w' d id kv n := (hb.block d (lt_of h)).trans h
theorem RDrbgAt.but {w w' : World} {d d' id : Nat} {kv : ByteArray × ByteArray} {n : Int} (h : RDrbgAt w d id kv n) (hb : But d' w w') (hne : d ≠ d') : RDrbgAt w' d id kv n := hb.heap hne h
set_option maxRecDepth 100000 in
set_option maxHeartbeats 1000000 in
theorem rupd_calls (d id : Nat) (k v : ByteArray) (n : Int) (t : ByteArray) (w : World) (hi : isId id) (hf : fit id (k, v)) (ht : t.size ≤ 140737488350000) (hd0 : RDrbgAt w d id (k, v) n) :
    Calls Try.prog 32 #[.pointer (some ⟨d, 0, none⟩), .string t] w fun e w' => e = .returned (.tuple #[]) ∧ RDrbgAt w' d id (upd2 id t (k, v)) n ∧ But d w w' := by
  have hsp := szOf_pos id
  have HD := Lib.hid hd0
  have zk : k.size = szOf id := hf.1
  have zv : v.size = szOf id := hf.2
  have z0 : (⟨#[0]⟩ : ByteArray).size = 1 := rfl
  have zc : (v ++ ⟨#[0]⟩ ++ t).size ≤ 140737488351000 := by rw [ByteArray.size_append, ByteArray.size_append, z0]; omega
  have k9 : k.size ≤ 140737488351232 := by omega
  have v9 : v.size ≤ 140737488351000 := by omega
  obtain ⟨K1, hK1⟩ : ∃ K1, K1 = hm id k (v ++ ⟨#[0]⟩ ++ t) := ⟨_, rfl⟩
  have zk1 : K1.size = szOf id := by rw [hK1]; exact hm_size hi _ _
  have k19 : K1.size ≤ 140737488351232 := by omega
  obtain ⟨V1, hV1⟩ : ∃ V1, V1 = hm id K1 v := ⟨_, rfl⟩
  have HK1 := Lib.hid hK1
  have HV1 := Lib.hid hV1
  clear hK1 hV1
  clear hd0
  go_enter Try.func32, Try.ntmps32
  have hd := HD.out
  have c0 := cell_of hd 0
  have c1 := cell_of hd 1
  have c2 := cell_of hd 2
  have hlt := lt_of hd
  simp at c0 c1 c2
  clear hd
  go_wp2
  refine wp_region_class_tail (fun w' => Below w.heap.size w w') (Below.refl _ _).drew 19 (by kernel_rfl) (by kernel_rfl) ?_
  simp only [List.take_succ_cons, List.take_zero, List.drop_succ_cons, List.drop_zero]
  go_big_quiet_step ((exact fun _ => rfl))
  iterate 3 go_big_quiet_step ((exact fun _ => rfl))
  go_big_quiet_step ((intro hB; rw [hB.cell (p := ⟨d, 0, none⟩) hlt, c0]; exact ⟨rfl, rfl⟩))
  iterate 3 go_big_quiet_step ((exact fun _ => rfl))
  go_big_quiet_step ((intro hB; rw [hB.cell (p := ⟨d, 1, none⟩) hlt, c1]; exact ⟨rfl, rfl⟩))
  iterate 3 go_big_quiet_step ((exact fun _ => rfl))
  go_big_quiet_step ((intro hB; rw [hB.cell (p := ⟨d, 2, none⟩) hlt, c2]; exact ⟨rfl, rfl⟩))
  iterate 3 go_big_quiet_step ((exact fun _ => rfl))
  refine BigFrame.wpQuiet_want rfl fun K hK => ⟨.string K1, fun w' hw' => ?_, hK _ ?_⟩
  · go_simp
    with_reducible refine (refHmac_calls id k (v ++ ⟨#[0]⟩ ++ t) w' hi k9 zc).mono ?_
    rintro e w'' ⟨he, hb'⟩
    rw [← HK1.out] at he
    exact ⟨he, hw'.trans (hb'.mono hw'.size)⟩
  clear hK K
  simp only [Act.put, List.setIfInBounds_toArray, List.set_cons_zero, List.set_cons_succ]
  iterate 2 go_big_quiet_step ((exact fun _ => rfl))
  refine wpQuiet_nil ?_
  rintro w1 hbw1
  clear c0 c1 c2 hlt
  have hd := RDrbgAt.below HD.out hbw1
  have cc := cell_of hd 1
  have ff := frozen_of hd 1
  simp at cc
  have H1 := Lib.hid (show RDrbgAt (w1.setCell ⟨d, 1, none⟩ (.string K1)) d id (K1, v) n from set_of hd 1 (.string K1))
  clear hd
  obtain ⟨wa, hwa⟩ : ∃ wa, wa = w1.setCell ⟨d, 1, none⟩ (.string K1) := ⟨_, rfl⟩
  have HBa := Lib.hid (show But d w wa from by rw [hwa]; exact (But.of_below hbw1).setCell (.inl rfl) _)
  rw [← hwa] at H1
  have HWA := Lib.hid hwa
  clear hwa
  go_wp2
  rw [← HWA.out]
  clear cc ff
  have hd := H1.out
  have c0 := cell_of hd 0
  have c1 := cell_of hd 1
  have c2 := cell_of hd 2
  have hlt := lt_of hd
  simp at c0 c1 c2
  clear hd
  refine wp_region_class_tail (fun w' => Below wa.heap.size wa w') (Below.refl _ _).drew 16 (by kernel_rfl) (by kernel_rfl) ?_
  simp only [List.take_succ_cons, List.take_zero, List.drop_succ_cons, List.drop_zero]
  go_big_quiet_step ((exact fun _ => rfl))
  iterate 3 go_big_quiet_step ((exact fun _ => rfl))
  go_big_quiet_step ((intro hB; rw [hB.cell (p := ⟨d, 0, none⟩) hlt, c0]; exact ⟨rfl, rfl⟩))
  iterate 3 go_big_quiet_step ((exact fun _ => rfl))
  go_big_quiet_step ((intro hB; rw [hB.cell (p := ⟨d, 1, none⟩) hlt, c1]; exact ⟨rfl, rfl⟩))
  iterate 3 go_big_quiet_step ((exact fun _ => rfl))
  go_big_quiet_step ((intro hB; rw [hB.cell (p := ⟨d, 2, none⟩) hlt, c2]; exact ⟨rfl, rfl⟩))
  refine BigFrame.wpQuiet_want rfl fun K hK => ⟨.string V1, fun w' hw' => ?_, hK _ ?_⟩
  · go_simp
    with_reducible refine (refHmac_calls id K1 v w' hi k19 v9).mono ?_
    rintro e w'' ⟨he, hb'⟩
    rw [← HV1.out] at he
    exact ⟨he, hw'.trans (hb'.mono hw'.size)⟩
  clear hK K
  simp only [Act.put, List.setIfInBounds_toArray, List.set_cons_zero, List.set_cons_succ]
  iterate 2 go_big_quiet_step ((exact fun _ => rfl))
  refine wpQuiet_nil ?_
  rintro w2 hbw2
  clear c0 c1 c2 hlt
  have hd := RDrbgAt.below H1.out hbw2
  have cc := cell_of hd 2
  have ff := frozen_of hd 2
  simp at cc
  have H2 := Lib.hid (show RDrbgAt (w2.setCell ⟨d, 2, none⟩ (.string V1)) d id (K1, V1) n from set_of hd 2 (.string V1))
  clear hd
  obtain ⟨wb, hwb⟩ : ∃ wb, wb = w2.setCell ⟨d, 2, none⟩ (.string V1) := ⟨_, rfl⟩
  have HBb := Lib.hid (show But d w wb from by rw [hwb]; exact (HBa.out.trans (But.of_below hbw2)).setCell (.inl rfl) _)
  rw [← hwb] at H2
  have HWB := Lib.hid hwb
  clear hwb
  have hst : (K1, V1) = stp id t b0 (k, v) := by unfold stp; rw [HV1.out, HK1.out]; rfl
  have HST := Lib.hid hst
  clear hst
  by_cases ht0 : t.size = 0
  · have ht1 := empty_list ht0
    go_wp2
    rw [← HWB.out]
    go_end0
    refine ⟨rfl, ?_, HBb.out⟩
    unfold upd2
    rw [if_pos ht0, ← HST.out]
    exact H2.out
  · have ht1 := filled_list ht0
    obtain ⟨K2, hK2⟩ : ∃ K2, K2 = hm id K1 (V1 ++ ⟨#[1]⟩ ++ t) := ⟨_, rfl⟩
    have zv1 : V1.size = szOf id := by rw [HV1.out]; exact hm_size hi _ _
    have z1 : (⟨#[1]⟩ : ByteArray).size = 1 := rfl
    have zc1 : (V1 ++ ⟨#[1]⟩ ++ t).size ≤ 140737488351000 := by rw [ByteArray.size_append, ByteArray.size_append, z1]; omega
    have zk2 : K2.size = szOf id := by rw [hK2]; exact hm_size hi _ _
    have k29 : K2.size ≤ 140737488351232 := by omega
    have v19 : V1.size ≤ 140737488351000 := by omega
    obtain ⟨V2, hV2⟩ : ∃ V2, V2 = hm id K2 V1 := ⟨_, rfl⟩
    have HK2 := Lib.hid hK2
    have HV2 := Lib.hid hV2
    clear hK2 hV2
    go_wp2
    rw [← HWB.out]
    clear cc ff
    have hd := H2.out
    have c0 := cell_of hd 0
    have c1 := cell_of hd 1
    have c2 := cell_of hd 2
    have hlt := lt_of hd
    simp at c0 c1 c2
    clear hd
    refine wp_region_class_tail (fun w' => Below wb.heap.size wb w') (Below.refl _ _).drew 19 (by kernel_rfl) (by kernel_rfl) ?_
    simp only [List.take_succ_cons, List.take_zero, List.drop_succ_cons, List.drop_zero]
    go_big_quiet_step ((exact fun _ => rfl))
    iterate 3 go_big_quiet_step ((exact fun _ => rfl))
    go_big_quiet_step ((intro hB; rw [hB.cell (p := ⟨d, 0, none⟩) hlt, c0]; exact ⟨rfl, rfl⟩))
    iterate 3 go_big_quiet_step ((exact fun _ => rfl))
    go_big_quiet_step ((intro hB; rw [hB.cell (p := ⟨d, 1, none⟩) hlt, c1]; exact ⟨rfl, rfl⟩))
    iterate 3 go_big_quiet_step ((exact fun _ => rfl))
    go_big_quiet_step ((intro hB; rw [hB.cell (p := ⟨d, 2, none⟩) hlt, c2]; exact ⟨rfl, rfl⟩))
    iterate 3 go_big_quiet_step ((exact fun _ => rfl))
    refine BigFrame.wpQuiet_want rfl fun K hK => ⟨.string K2, fun w' hw' => ?_, hK _ ?_⟩
    · go_simp
      with_reducible refine (refHmac_calls id K1 (V1 ++ ⟨#[1]⟩ ++ t) w' hi k19 zc1).mono ?_
      rintro e w'' ⟨he, hb'⟩
      rw [← HK2.out] at he
      exact ⟨he, hw'.trans (hb'.mono hw'.size)⟩
    clear hK K
    simp only [Act.put, List.setIfInBounds_toArray, List.set_cons_zero, List.set_cons_succ]
    iterate 2 go_big_quiet_step ((exact fun _ => rfl))
    refine wpQuiet_nil ?_
    rintro w3 hbw3
    clear c0 c1 c2 hlt
    have hd := RDrbgAt.below H2.out hbw3
    have cc := cell_of hd 1
    have ff := frozen_of hd 1
    simp at cc
    have H3 := Lib.hid (show RDrbgAt (w3.setCell ⟨d, 1, none⟩ (.string K2)) d id (K2, V1) n from set_of hd 1 (.string K2))
    clear hd
    obtain ⟨wc, hwc⟩ : ∃ wc, wc = w3.setCell ⟨d, 1, none⟩ (.string K2) := ⟨_, rfl⟩
    have HBc := Lib.hid (show But d w wc from by rw [hwc]; exact (HBb.out.trans (But.of_below hbw3)).setCell (.inl rfl) _)
    rw [← hwc] at H3
    have HWC := Lib.hid hwc
    clear hwc
    go_wp2
    rw [← HWC.out]
    clear cc ff
    have hd := H3.out
    have c0 := cell_of hd 0
    have c1 := cell_of hd 1
    have c2 := cell_of hd 2
    have hlt := lt_of hd
    simp at c0 c1 c2
    clear hd
    refine wp_region_class_tail (fun w' => Below wc.heap.size wc w') (Below.refl _ _).drew 16 (by kernel_rfl) (by kernel_rfl) ?_
    simp only [List.take_succ_cons, List.take_zero, List.drop_succ_cons, List.drop_zero]
    go_big_quiet_step ((exact fun _ => rfl))
    iterate 3 go_big_quiet_step ((exact fun _ => rfl))
    go_big_quiet_step ((intro hB; rw [hB.cell (p := ⟨d, 0, none⟩) hlt, c0]; exact ⟨rfl, rfl⟩))
    iterate 3 go_big_quiet_step ((exact fun _ => rfl))
    go_big_quiet_step ((intro hB; rw [hB.cell (p := ⟨d, 1, none⟩) hlt, c1]; exact ⟨rfl, rfl⟩))
    iterate 3 go_big_quiet_step ((exact fun _ => rfl))
    go_big_quiet_step ((intro hB; rw [hB.cell (p := ⟨d, 2, none⟩) hlt, c2]; exact ⟨rfl, rfl⟩))
    refine BigFrame.wpQuiet_want rfl fun K hK => ⟨.string V2, fun w' hw' => ?_, hK _ ?_⟩
    · go_simp
      with_reducible refine (refHmac_calls id K2 V1 w' hi k29 v19).mono ?_
      rintro e w'' ⟨he, hb'⟩
      rw [← HV2.out] at he
      exact ⟨he, hw'.trans (hb'.mono hw'.size)⟩
    clear hK K
    simp only [Act.put, List.setIfInBounds_toArray, List.set_cons_zero, List.set_cons_succ]
    iterate 2 go_big_quiet_step ((exact fun _ => rfl))
    refine wpQuiet_nil ?_
    rintro w4 hbw4
    clear c0 c1 c2 hlt
    have hd := RDrbgAt.below H3.out hbw4
    have cc := cell_of hd 2
    have ff := frozen_of hd 2
    simp at cc
    have H4 := Lib.hid (show RDrbgAt (w4.setCell ⟨d, 2, none⟩ (.string V2)) d id (K2, V2) n from set_of hd 2 (.string V2))
    clear hd
    go_wp2
    go_end0
    refine ⟨rfl, ?_, (HBc.out.trans (But.of_below hbw4)).setCell (.inl rfl) _⟩
    unfold upd2
    rw [if_neg ht0, ← HST.out]
    have e : (K2, V2) = stp id t b1 (K1, V1) := by unfold stp; rw [HV2.out, HK2.out]; rfl
    rw [← e]
    exact H4.out
end Go.Proofs.Ytggfcbhegniafaa.Cw

set_option linter.unusedSimpArgs false
set_option linter.unusedVariables false
namespace Go.Proofs.Ytggfcbhegniafaa.Cw
open Go Go.RowKit
attribute [local go_sem ↓ high] cells_v8 run_store_v8
attribute [local go_sem high] match_v8 run_store_v8
/-- n bytes, the first k of them x -/
def fill (x : UInt8) (n k : Nat) : List UInt8 := List.replicate k x ++ List.replicate (n - k) 0
theorem fill_set (x : UInt8) (n k : Nat) (h : k < n) : (fill x n k).set k x = fill x n (k + 1) := by
  unfold fill
  rw [List.set_append_right _ _ (by simp), List.length_replicate, Nat.sub_self, show n - k = (n - (k + 1)) + 1 by omega, List.replicate_succ, List.set_cons_zero, List.replicate_succ', List.append_assoc]
  rfl
set_option maxRecDepth 100000 in
theorem same_calls (n : Nat) (x : UInt8) (w : World) (hn : n ≤ 1000) : Calls Try.prog 31 #[.int .i64 n, v8 x] w fun e w' => e = .returned (.string ⟨(List.replicate n x).toArray⟩) ∧ Below w.heap.size w w' := by
  obtain ⟨i0, hi0, hz0, hz1, hz2⟩ := info_parts info_u8
  have HI := Lib.hid hi0
  have HZ0 := Lib.hid hz0
  have HZ1 := Lib.hid hz1
  have HZ2 := Lib.hid hz2
  clear hi0 hz0 hz1 hz2
  go_enter Try.func31, Try.ntmps31
  go_wp2_with (refine wpList_make_bytes rfl (.tmp 7) (.tmp 7) 32 rfl w.heap.size 5 i0 Try.underlying32 HI.out HZ0.out HZ1.out HZ2.out .i64 .i64 n n n rfl rfl rfl rfl (by omega) (Nat.le_refl _) ?_
               intro w1 how1 hg1
               have HW1 := Lib.hid how1
               have HG1 := Lib.hid hg1
               clear how1 hg1)
  have hB1 : Below w.heap.size w w1 := ⟨HG1.out.os, HG1.out.tape, HG1.out.output, HG1.out.size, fun i hi => HG1.out.block i hi (by simp)⟩
  go_loopw [6] (fun i wr => ∃ k : Nat, k ≤ n ∧ i = .int .i64 k ∧ Ow wr w.heap.size 5 1 (.slice (some ⟨w.heap.size, 0, none⟩) n n) n ((fill x n k).map v8) ∧ Below w.heap.size w wr) (fun i _ => n - (intOf i).toNat)
  case atStart => exact ⟨0, by omega, rfl, by simpa [fill] using HW1.out, hB1⟩
  case round =>
    obtain ⟨k, hk, rfl, hown, hbr⟩ := hrel
    have HWr := Lib.hid hown
    clear hown
    by_cases hlt : k < n
    · have hc := (HWr.out.cel k hlt).1
      have hf := (HWr.out.cel k hlt).2
      have HS := Lib.hid (HWr.out.set k hlt x)
      rw [fill_set x n k hlt] at HS
      obtain ⟨y, hy⟩ : ∃ y, y = (fill x n k).getD k 0 := ⟨_, rfl⟩
      rw [← hy] at hc
      clear hy
      go_wp2
      go_roundw
      case rel => exact ⟨k + 1, by omega, by go_num, HS.out, hbr.setCell (by simp) _⟩
      case measure => simp [intOf]; omega
    · obtain rfl : k = n := by omega
      have hrd := HWr.out.rd (fun _ => True) (fun _ _ => trivial)
      have ef : fill x k k = List.replicate k x := by simp [fill]
      rw [ef] at hrd
      have hcv := run_convert_rd (P := Try.prog) hrd 32 9 5 Try.underlying32 Try.underlying5 Try.underlying9
      clear hrd ef
      go_wp2
      go_ret
      exact ⟨rfl, hbr⟩
theorem same0 (n : Nat) (w : World) (hn : n ≤ 1000) : Calls Try.prog 31 #[.int .i64 n, .int .u8 0] w fun e w' => e = .returned (.string (noughts n)) ∧ Below w.heap.size w w' := same_calls n 0 w hn
theorem same1 (n : Nat) (w : World) (hn : n ≤ 1000) : Calls Try.prog 31 #[.int .i64 n, .int .u8 1] w fun e w' => e = .returned (.string (ones n)) ∧ Below w.heap.size w w' := same_calls n 1 w hn
end Go.Proofs.Ytggfcbhegniafaa.Cw

set_option linter.unusedSimpArgs false
set_option linter.unusedVariables false
namespace Go.Proofs.Ytggfcbhegniafaa.Cw
open Go Go.RowKit
theorem szOf_even (id : Nat) : szOf id % 2 = 0 := by
  unfold szOf bitsOf
  repeat' split
  all_goals rfl
theorem may2_cases {id : Nat} {ent a b : ByteArray} (h : mayB id ent [a, b] = false) : 2 * ent.size < szOf id ∨ ¬ 2 * ent.size < szOf id ∧ (256 < ent.size ∨ ent.size ≤ 256 ∧ (256 < a.size ∨ a.size ≤ 256 ∧ 256 < b.size)) := by
  have he := szOf_even id
  have e : ¬ ((szOf id / 2 ≤ ent.size ∧ ent.size ≤ 256) ∧ a.size ≤ 256 ∧ b.size ≤ 256) := by
    intro h2
    have : mayB id ent [a, b] = true := by simp [mayB, h2]
    rw [this] at h
    cases h
  omega
theorem may2_half {id : Nat} {ent a b : ByteArray} (h : mayB id ent [a, b] = true) : ¬ 2 * ent.size < szOf id := by
  have he := szOf_even id
  simp [mayB] at h
  omega
theorem rnew_none (c : Int) (ent a b : ByteArray) (w : World) (h : ¬ (1 ≤ c ∧ c ≤ 4)) :
    Calls Try.prog 19 #[.int .i64 c, .string ent, .string a, .string b] w fun e w' => e = .returned (.tuple #[.pointer none, .int .i64 1100]) ∧ w = w' := by
  go_enter Try.func19, Try.ntmps19
  go_wp2_with (fail)
  with_reducible refine (rsize_no c h _).mono ?_
  rintro e w1 ⟨rfl, rfl⟩
  go_wp2
  go_ret2
  exact ⟨rfl, rfl⟩
set_option maxRecDepth 100000 in
theorem rnew_no (id : Nat) (ent a b : ByteArray) (w : World) (hi : isId id) (hl : ent.size ≤ 140737488351232) (hm : mayB id ent [a, b] = false) :
    Calls Try.prog 19 #[.int .i64 id, .string ent, .string a, .string b] w fun e w' => e = .returned (.tuple #[.pointer none, .int .i64 1101]) ∧ w = w' := by
  have hz := szOf_ne id
  have hsp := szOf_pos id
  have hc := may2_cases hm
  clear hm
  go_enter Try.func19, Try.ntmps19
  rcases hc with h1 | ⟨h1, h2 | ⟨h2, h3 | ⟨h3, h4⟩⟩⟩
  all_goals
    go_wp2_with (go_at_call 16; refine (rsize id hi _).mono ?_; rintro e w1 ⟨rfl, rfl⟩)
    go_ret2
    exact ⟨rfl, rfl⟩
set_option maxRecDepth 100000 in
theorem rnew_yes (id : Nat) (ent a b : ByteArray) (w : World) (hi : isId id) (hm : mayB id ent [a, b] = true) :
    Calls Try.prog 19 #[.int .i64 id, .string ent, .string a, .string b] w fun e w' => ∃ d, e = .returned (.tuple #[.pointer (some ⟨d, 0, none⟩), .int .i64 0]) ∧ RDrbgAt w' d id (upd2 id (ent ++ a ++ b) (noughts (szOf id), ones (szOf id))) 1 ∧ w.heap.size ≤ d ∧ Below w.heap.size w w' := by
  have hz := szOf_ne id
  have hsp := szOf_pos id
  have hle := may2_le hm
  have hh := may2_half hm
  have hs9 : szOf id ≤ 1000 := by omega
  have hcat : (ent ++ a ++ b).size ≤ 140737488350000 := by rw [ByteArray.size_append, ByteArray.size_append]; omega
  have z1 : ent.size ≤ 256 := hle.1
  have z2 : a.size ≤ 256 := hle.2.1
  have z3 : b.size ≤ 256 := hle.2.2
  have hfit : fit id (noughts (szOf id), ones (szOf id)) := ⟨noughts_size _, ones_size _⟩
  clear hm
  go_enter Try.func19, Try.ntmps19
  go_wp2_with (go_at_call 16; refine (rsize id hi _).mono ?_; rintro e w1 ⟨rfl, rfl⟩)
  with_reducible refine (same0 (szOf id) _ hs9).mono ?_
  rintro e w3 ⟨rfl, hb3⟩
  go_wp2_with (go_at_call 16; refine (rsize id hi _).mono ?_; rintro e w1 ⟨rfl, rfl⟩)
  with_reducible refine (same1 (szOf id) _ hs9).mono ?_
  rintro e w4 ⟨rfl, hb4⟩
  have hB4 := hb3.trans (hb4.mono hb3.size)
  go_wp2_with (fail)
  first | (with_reducible refine (rupd_calls w4.heap.size id (noughts (szOf id)) (ones (szOf id)) 1 (ent ++ a ++ b) _ hi hfit hcat (new1 w4 _)).mono ?_) | (refine (rupd_calls w4.heap.size id (noughts (szOf id)) (ones (szOf id)) 1 (ent ++ a ++ b) _ hi hfit hcat (new1 w4 _)).mono ?_)
  rintro e w5 ⟨rfl, hd5, hb5⟩
  have HD5 := Lib.hid hd5
  clear hd5
  have hB5 : Below w.heap.size w w5 := But.below (hB4.alloc hB4.size _) hb5 hB4.size (Nat.le_trans hB4.size (by simp))
  go_wp2
  go_ret2
  exact ⟨_, rfl, HD5.out, hB4.size, hB5⟩
end Go.Proofs.Ytggfcbhegniafaa.Cw

set_option linter.unusedSimpArgs false
set_option linter.unusedVariables false
namespace Go.Proofs.Ytggfcbhegniafaa.Cw
open Go Go.RowKit
theorem may1_cases {id : Nat} {ent a : ByteArray} (h : mayB id ent [a] = false) : 2 * ent.size < szOf id ∨ ¬ 2 * ent.size < szOf id ∧ (256 < ent.size ∨ ent.size ≤ 256 ∧ 256 < a.size) := by
  have he := szOf_even id
  have e : ¬ ((szOf id / 2 ≤ ent.size ∧ ent.size ≤ 256) ∧ a.size ≤ 256) := by
    intro h2
    have : mayB id ent [a] = true := by simp [mayB, h2]
    rw [this] at h
    cases h
  omega
theorem may1_half {id : Nat} {ent a : ByteArray} (h : mayB id ent [a] = true) : ¬ 2 * ent.size < szOf id := by
  have he := szOf_even id
  simp [mayB] at h
  omega
set_option maxRecDepth 100000 in
theorem rreseed_no (d id : Nat) (kv : ByteArray × ByteArray) (n : Int) (ent a : ByteArray) (w : World) (hi : isId id) (hl : ent.size ≤ 140737488351232) (hm : mayB id ent [a] = false) (hd : RDrbgAt w d id kv n) :
    Calls Try.prog 22 #[.pointer (some ⟨d, 0, none⟩), .string ent, .string a] w fun e w' => e = .returned (.int .i64 1101) ∧ w = w' := by
  have c0 := cell_of hd 0
  simp at c0
  have hc := may1_cases hm
  have hsp := szOf_pos id
  clear hm hd
  go_enter Try.func22, Try.ntmps22
  rcases hc with h1 | ⟨h1, h2 | ⟨h2, h3⟩⟩
  all_goals
    go_wp2_with (go_at_call 16; refine (rsize id hi _).mono ?_; rintro e w1 ⟨rfl, rfl⟩)
    go_ret
    exact ⟨rfl, rfl⟩
set_option maxRecDepth 100000 in
theorem rreseed_yes (d id : Nat) (k v : ByteArray) (n : Int) (ent a : ByteArray) (w : World) (hi : isId id) (hf : fit id (k, v)) (hm : mayB id ent [a] = true) (hd : RDrbgAt w d id (k, v) n) :
    Calls Try.prog 22 #[.pointer (some ⟨d, 0, none⟩), .string ent, .string a] w fun e w' => e = .returned (.int .i64 0) ∧ RDrbgAt w' d id (upd2 id (ent ++ a) (k, v)) 1 ∧ But d w w' := by
  have c0 := cell_of hd 0
  simp at c0
  have hsp := szOf_pos id
  have hle := may1_le hm
  have hh := may1_half hm
  have z1 : ent.size ≤ 256 := hle.1
  have z2 : a.size ≤ 256 := hle.2
  have hcat : (ent ++ a).size ≤ 140737488350000 := by rw [ByteArray.size_append]; omega
  have HD := Lib.hid hd
  clear hm hd
  go_enter Try.func22, Try.ntmps22
  go_wp2_with (go_at_call 16; refine (rsize id hi _).mono ?_; rintro e w1 ⟨rfl, rfl⟩)
  with_reducible refine (rupd_calls d id k v n (ent ++ a) _ hi hf hcat HD.out).mono ?_
  rintro e w3 ⟨rfl, hd3, hb3⟩
  have c3 := cell_of hd3 3
  have f3 := frozen_of hd3 3
  simp at c3
  have HD4 := Lib.hid (show RDrbgAt (w3.setCell ⟨d, 3, none⟩ (.int .i64 1)) d id (upd2 id (ent ++ a) (k, v)) 1 from set_of hd3 3 (.int .i64 1))
  clear hd3
  go_wp2
  go_ret
  exact ⟨rfl, HD4.out, hb3.setCell (.inl rfl) _⟩
theorem rgen_long (d : Nat) (size : Int) (more : ByteArray) (w : World) (h : size < 0 ∨ 256 < size ∨ 256 < more.size) :
    Calls Try.prog 20 #[.pointer (some ⟨d, 0, none⟩), .int .i64 size, .string more] w fun e w' => e = .returned (.tuple #[.string ByteArray.empty, .int .i64 1102]) ∧ w = w' := by
  go_enter Try.func20, Try.ntmps20
  by_cases h1 : size < 0
  · go_wp2; go_ret2; exact ⟨rfl, rfl⟩
  · by_cases h2 : 256 < size
    · go_wp2; go_ret2; exact ⟨rfl, rfl⟩
    · have h3 : 256 < more.size := by omega
      have d3 : decide (256 < more.size) = true := decide_eq_true h3
      clear h
      go_wp2; go_ret2; exact ⟨rfl, rfl⟩
theorem rgen_reseed (d id : Nat) (kv : ByteArray × ByteArray) (n : Int) (size : Int) (more : ByteArray) (w : World) (h0 : 0 ≤ size) (h1 : size ≤ 256) (h2 : more.size ≤ 256) (hn : 64 < n) (hd : RDrbgAt w d id kv n) :
    Calls Try.prog 20 #[.pointer (some ⟨d, 0, none⟩), .int .i64 size, .string more] w fun e w' => e = .returned (.tuple #[.string ByteArray.empty, .int .i64 1103]) ∧ w = w' := by
  have c3 := cell_of hd 3
  simp at c3
  have e1 : ¬ size < 0 := by omega
  have e2 : ¬ 256 < size := by omega
  have d3 : decide (256 < more.size) = false := decide_eq_false (by omega)
  clear hd
  go_enter Try.func20, Try.ntmps20
  go_wp2; go_ret2; exact ⟨rfl, rfl⟩
end Go.Proofs.Ytggfcbhegniafaa.Cw

set_option linter.unusedSimpArgs false
set_option linter.unusedVariables false
namespace Go.Proofs.Ytggfcbhegniafaa.Cw
open Go Go.RowKit
set_option maxRecDepth 100000 in
set_option maxHeartbeats 1000000 in
theorem rgen_yes (d id : Nat) (k v : ByteArray) (n : Int) (size : Nat) (more : ByteArray) (w : World) (hi : isId id) (hf : fit id (k, v)) (h1 : size ≤ 256) (h2 : more.size ≤ 256) (hn0 : 0 ≤ n) (hn : n ≤ 64) (hd : RDrbgAt w d id (k, v) n) :
    Calls Try.prog 20 #[.pointer (some ⟨d, 0, none⟩), .int .i64 size, .string more] w fun e w' => e = .returned (.tuple #[.string (genO id (k, v) size more), .int .i64 0]) ∧ RDrbgAt w' d id (genK id (k, v) size more) (n + 1) ∧ But d w w' := by
  have c3 := cell_of hd 3
  simp at c3
  have hsp := szOf_pos id
  have d1 : decide ((size : Int) < 0) = false := by simp; try omega
  have d2 : decide (256 < (size : Int)) = false := by simp; omega
  have d3 : decide (256 < more.size) = false := decide_eq_false (by omega)
  have d4 : decide (64 < n) = false := decide_eq_false (by omega)
  have hm9 : more.size ≤ 140737488350000 := by omega
  have HD := Lib.hid hd
  clear hd
  go_enter Try.func20, Try.ntmps20
  by_cases hm0 : more.size = 0
  · have hl := empty_list hm0
    have HP' := Lib.hid (show (k, v) = pre id more (k, v) by unfold pre; rw [if_pos hm0])
    obtain ⟨kv1, hkv⟩ : ∃ kv1, kv1 = (k, v) := ⟨_, rfl⟩
    have HP := Lib.hid (show kv1 = pre id more (k, v) by rw [hkv]; exact HP'.out)
    have HD1 := Lib.hid (show RDrbgAt w d id kv1 n by rw [hkv]; exact HD.out)
    have hf1 : fit id kv1 := by rw [hkv]; exact hf
    have hB1 := But.refl d w
    clear hm0 hkv
    go_wp2
    obtain ⟨k1, v1⟩ := kv1
    go_loopw [8] (fun v wr => ∃ q L : Nat, q ≤ 10 ∧ Hid (L = q * szOf id) ∧ L < size + szOf id ∧ v = .string (oN id (k1, v1) q) ∧ RDrbgAt wr d id (k1, vN id (k1, v1) q) n ∧ But d w wr) (fun v _ => size + 100 - strSize v)
    case atStart => exact ⟨0, 0, by omega, Lib.hid (by omega), by omega, rfl, HD1.out, hB1⟩
    case round =>
      obtain ⟨q, L, hq, HL, hLs, rfl, hdr, hbr⟩ := hrel
      have HR := Lib.hid hdr
      have c2 := cell_of hdr 2
      have f2 := frozen_of hdr 2
      simp at c2
      have hsz : (oN id (k1, v1) q).size = L := by rw [oN_size hi, HL.out]
      have hL28 : q * 28 ≤ L := by rw [HL.out]; exact Nat.mul_le_mul_left _ hsp.1
      have hvz := vN_size hi (k1, v1) hf1.2 q
      have hv9 : (vN id (k1, v1) q).size ≤ 140737488351232 := by omega
      have hk9 : k1.size ≤ 1000 := by have := hf1.1; simp only at this; omega
      clear hdr
      by_cases hlt : L < size
      · skip
        have HV := Lib.hid (show vN id (k1, v1) (q + 1) = hm id k1 (vN id (k1, v1) q) from rfl)
        obtain ⟨V0, hV0⟩ : ∃ V0, V0 = vN id (k1, v1) q := ⟨_, rfl⟩
        obtain ⟨V1, hV1⟩ : ∃ V1, V1 = vN id (k1, v1) (q + 1) := ⟨_, rfl⟩
        rw [← hV0] at HR HV c2 hvz hv9
        rw [← hV1] at HV
        have hv19 : V1.size = szOf id := by rw [HV.out]; exact hm_size hi _ _
        have k19 : k1.size ≤ 140737488351232 := by omega
        have v19 : V0.size ≤ 140737488351000 := by omega
        have HV0 := Lib.hid hV0
        have HV1 := Lib.hid hV1
        clear hV0 hV1
        go_wp2_with (fail)
        have hd := HR.out
        have c0 := cell_of hd 0
        have c1 := cell_of hd 1
        have hltd := lt_of hd
        simp at c0 c1
        clear hd
        refine wp_region_class_tail (fun w' => Below wr.heap.size wr w') (Below.refl _ _).drew 16 (by kernel_rfl) (by kernel_rfl) ?_
        simp only [List.take_succ_cons, List.take_zero, List.drop_succ_cons, List.drop_zero]
        go_big_quiet_step ((exact fun _ => rfl))
        iterate 3 go_big_quiet_step ((exact fun _ => rfl))
        go_big_quiet_step ((intro hB; rw [hB.cell (p := ⟨d, 0, none⟩) hltd, c0]; exact ⟨rfl, rfl⟩))
        iterate 3 go_big_quiet_step ((exact fun _ => rfl))
        go_big_quiet_step ((intro hB; rw [hB.cell (p := ⟨d, 1, none⟩) hltd, c1]; exact ⟨rfl, rfl⟩))
        iterate 3 go_big_quiet_step ((exact fun _ => rfl))
        go_big_quiet_step ((intro hB; rw [hB.cell (p := ⟨d, 2, none⟩) hltd, c2]; exact ⟨rfl, rfl⟩))
        refine BigFrame.wpQuiet_want rfl fun K hK => ⟨.string V1, fun w' hw' => ?_, hK _ ?_⟩
        · go_simp
          with_reducible refine (refHmac_calls id k1 V0 w' hi k19 v19).mono ?_
          rintro e w'' ⟨he, hb'⟩
          rw [← HV.out] at he
          exact ⟨he, hw'.trans (hb'.mono hw'.size)⟩
        clear hK K
        simp only [Act.put, List.setIfInBounds_toArray, List.set_cons_zero, List.set_cons_succ]
        iterate 2 go_big_quiet_step ((exact fun _ => rfl))
        refine wpQuiet_nil ?_
        rintro w4 hb4
        clear c0 c1 c2 f2 hltd
        have hd4 := RDrbgAt.below HR.out hb4
        have c2' := cell_of hd4 2
        have f2' := frozen_of hd4 2
        simp at c2'
        have HD5 := Lib.hid (show RDrbgAt (w4.setCell ⟨d, 2, none⟩ (.string V1)) d id (k1, V1) n from set_of hd4 2 (.string V1))
        have c25 := cell_of HD5.out 2
        simp at c25
        have hB5 := ((hbr.trans (But.of_below hb4)).setCell (a := ⟨d, 2, none⟩) (.inl rfl) (.string V1))
        have HB5 := Lib.hid hB5
        have HL1 := Lib.hid (show L + szOf id = (q + 1) * szOf id by rw [Nat.add_mul, Nat.one_mul, ← HL.out])
        have hsz5 : (oN id (k1, v1) (q + 1)).size = L + szOf id := by rw [oN_size hi, HL1.out]
        clear hd4 hB5
        go_wp2
        go_roundw
        case rel => exact ⟨q + 1, L + szOf id, by omega, HL1, by omega, by rw [HV1.out]; rfl, by rw [← HV1.out]; exact HD5.out, HB5.out⟩
        case measure => show size + 100 - (oN id (k1, v1) q ++ V1).size < size + 100 - (oN id (k1, v1) q).size; rw [hsz, ByteArray.size_append, hsz, hv19]; omega
      · have hnb := nbl_eq id size q (by rw [← HL.out]; omega) (by rw [← HL.out]; exact hLs)
        have HNB := Lib.hid hnb
        clear hnb
        have hfq : fit id (k1, vN id (k1, v1) q) := ⟨hf1.1, hvz⟩
        go_wp2_with (fail)
        with_reducible refine (rupd_calls d id k1 (vN id (k1, v1) q) n more _ hi hfq hm9 HR.out).mono ?_
        rintro e w5 ⟨rfl, hd5, hb5⟩
        have c3' := cell_of hd5 3
        have f3' := frozen_of hd5 3
        simp at c3'
        have HD6 := Lib.hid (show RDrbgAt (w5.setCell ⟨d, 3, none⟩ (.int .i64 (n + 1))) d id (upd2 id more (k1, vN id (k1, v1) q)) (n + 1) from set_of hd5 3 (.int .i64 (n + 1)))
        have HB6 := Lib.hid ((hbr.trans hb5).setCell (a := ⟨d, 3, none⟩) (.inl rfl) (.int .i64 (n + 1)))
        clear hd5
        go_wp2
        go_ret2
        refine ⟨?_, ?_, HB6.out⟩
        · show Ending.returned (.tuple #[.string ((oN id (k1, v1) q).extract 0 size), .int .i64 0]) = _
          unfold genO
          rw [← HP.out, ← HNB.out]
        · unfold genK
          rw [← HP.out, ← HNB.out]
          exact HD6.out
  · have hl := filled_list hm0
    go_wp2_with (fail)
    with_reducible refine (rupd_calls d id k v n more _ hi hf hm9 HD.out).mono ?_
    rintro e w1 ⟨rfl, hd1, hB1⟩
    obtain ⟨kv1, hkv⟩ : ∃ kv1, kv1 = upd2 id more (k, v) := ⟨_, rfl⟩
    have HP := Lib.hid (show kv1 = pre id more (k, v) by rw [hkv]; unfold pre; rw [if_neg hm0])
    rw [← hkv] at hd1
    have HD1 := Lib.hid hd1
    have hf1 : fit id kv1 := by rw [hkv]; exact upd2_fit hi _ _
    clear hm0 hkv hd1 c3
    go_wp2
    obtain ⟨k1, v1⟩ := kv1
    go_loopw [8] (fun v wr => ∃ q L : Nat, q ≤ 10 ∧ Hid (L = q * szOf id) ∧ L < size + szOf id ∧ v = .string (oN id (k1, v1) q) ∧ RDrbgAt wr d id (k1, vN id (k1, v1) q) n ∧ But d w wr) (fun v _ => size + 100 - strSize v)
    case atStart => exact ⟨0, 0, by omega, Lib.hid (by omega), by omega, rfl, HD1.out, hB1⟩
    case round =>
      obtain ⟨q, L, hq, HL, hLs, rfl, hdr, hbr⟩ := hrel
      have HR := Lib.hid hdr
      have c2 := cell_of hdr 2
      have f2 := frozen_of hdr 2
      simp at c2
      have hsz : (oN id (k1, v1) q).size = L := by rw [oN_size hi, HL.out]
      have hL28 : q * 28 ≤ L := by rw [HL.out]; exact Nat.mul_le_mul_left _ hsp.1
      have hvz := vN_size hi (k1, v1) hf1.2 q
      have hv9 : (vN id (k1, v1) q).size ≤ 140737488351232 := by omega
      have hk9 : k1.size ≤ 1000 := by have := hf1.1; simp only at this; omega
      clear hdr
      by_cases hlt : L < size
      · skip
        have HV := Lib.hid (show vN id (k1, v1) (q + 1) = hm id k1 (vN id (k1, v1) q) from rfl)
        obtain ⟨V0, hV0⟩ : ∃ V0, V0 = vN id (k1, v1) q := ⟨_, rfl⟩
        obtain ⟨V1, hV1⟩ : ∃ V1, V1 = vN id (k1, v1) (q + 1) := ⟨_, rfl⟩
        rw [← hV0] at HR HV c2 hvz hv9
        rw [← hV1] at HV
        have hv19 : V1.size = szOf id := by rw [HV.out]; exact hm_size hi _ _
        have k19 : k1.size ≤ 140737488351232 := by omega
        have v19 : V0.size ≤ 140737488351000 := by omega
        have HV0 := Lib.hid hV0
        have HV1 := Lib.hid hV1
        clear hV0 hV1
        go_wp2_with (fail)
        have hd := HR.out
        have c0 := cell_of hd 0
        have c1 := cell_of hd 1
        have hltd := lt_of hd
        simp at c0 c1
        clear hd
        refine wp_region_class_tail (fun w' => Below wr.heap.size wr w') (Below.refl _ _).drew 16 (by kernel_rfl) (by kernel_rfl) ?_
        simp only [List.take_succ_cons, List.take_zero, List.drop_succ_cons, List.drop_zero]
        go_big_quiet_step ((exact fun _ => rfl))
        iterate 3 go_big_quiet_step ((exact fun _ => rfl))
        go_big_quiet_step ((intro hB; rw [hB.cell (p := ⟨d, 0, none⟩) hltd, c0]; exact ⟨rfl, rfl⟩))
        iterate 3 go_big_quiet_step ((exact fun _ => rfl))
        go_big_quiet_step ((intro hB; rw [hB.cell (p := ⟨d, 1, none⟩) hltd, c1]; exact ⟨rfl, rfl⟩))
        iterate 3 go_big_quiet_step ((exact fun _ => rfl))
        go_big_quiet_step ((intro hB; rw [hB.cell (p := ⟨d, 2, none⟩) hltd, c2]; exact ⟨rfl, rfl⟩))
        refine BigFrame.wpQuiet_want rfl fun K hK => ⟨.string V1, fun w' hw' => ?_, hK _ ?_⟩
        · go_simp
          with_reducible refine (refHmac_calls id k1 V0 w' hi k19 v19).mono ?_
          rintro e w'' ⟨he, hb'⟩
          rw [← HV.out] at he
          exact ⟨he, hw'.trans (hb'.mono hw'.size)⟩
        clear hK K
        simp only [Act.put, List.setIfInBounds_toArray, List.set_cons_zero, List.set_cons_succ]
        iterate 2 go_big_quiet_step ((exact fun _ => rfl))
        refine wpQuiet_nil ?_
        rintro w4 hb4
        clear c0 c1 c2 f2 hltd
        have hd4 := RDrbgAt.below HR.out hb4
        have c2' := cell_of hd4 2
        have f2' := frozen_of hd4 2
        simp at c2'
        have HD5 := Lib.hid (show RDrbgAt (w4.setCell ⟨d, 2, none⟩ (.string V1)) d id (k1, V1) n from set_of hd4 2 (.string V1))
        have c25 := cell_of HD5.out 2
        simp at c25
        have hB5 := ((hbr.trans (But.of_below hb4)).setCell (a := ⟨d, 2, none⟩) (.inl rfl) (.string V1))
        have HB5 := Lib.hid hB5
        have HL1 := Lib.hid (show L + szOf id = (q + 1) * szOf id by rw [Nat.add_mul, Nat.one_mul, ← HL.out])
        have hsz5 : (oN id (k1, v1) (q + 1)).size = L + szOf id := by rw [oN_size hi, HL1.out]
        clear hd4 hB5
        go_wp2
        go_roundw
        case rel => exact ⟨q + 1, L + szOf id, by omega, HL1, by omega, by rw [HV1.out]; rfl, by rw [← HV1.out]; exact HD5.out, HB5.out⟩
        case measure => show size + 100 - (oN id (k1, v1) q ++ V1).size < size + 100 - (oN id (k1, v1) q).size; rw [hsz, ByteArray.size_append, hsz, hv19]; omega
      · have hnb := nbl_eq id size q (by rw [← HL.out]; omega) (by rw [← HL.out]; exact hLs)
        have HNB := Lib.hid hnb
        clear hnb
        have hfq : fit id (k1, vN id (k1, v1) q) := ⟨hf1.1, hvz⟩
        go_wp2_with (fail)
        with_reducible refine (rupd_calls d id k1 (vN id (k1, v1) q) n more _ hi hfq hm9 HR.out).mono ?_
        rintro e w5 ⟨rfl, hd5, hb5⟩
        have c3' := cell_of hd5 3
        have f3' := frozen_of hd5 3
        simp at c3'
        have HD6 := Lib.hid (show RDrbgAt (w5.setCell ⟨d, 3, none⟩ (.int .i64 (n + 1))) d id (upd2 id more (k1, vN id (k1, v1) q)) (n + 1) from set_of hd5 3 (.int .i64 (n + 1)))
        have HB6 := Lib.hid ((hbr.trans hb5).setCell (a := ⟨d, 3, none⟩) (.inl rfl) (.int .i64 (n + 1)))
        clear hd5
        go_wp2
        go_ret2
        refine ⟨?_, ?_, HB6.out⟩
        · show Ending.returned (.tuple #[.string ((oN id (k1, v1) q).extract 0 size), .int .i64 0]) = _
          unfold genO
          rw [← HP.out, ← HNB.out]
        · unfold genK
          rw [← HP.out, ← HNB.out]
          exact HD6.out
end Go.Proofs.Ytggfcbhegniafaa.Cw

set_option linter.unusedSimpArgs false
set_option linter.unusedVariables false
namespace Go.Proofs.Ytggfcbhegniafaa.Cw
open Go Go.RowKit
theorem genO_size {id : Nat} (hi : isId id) (kv : ByteArray × ByteArray) (size : Nat) (more : ByteArray) : (genO id kv size more).size = size := by
  have hs := szOf_pos id
  unfold genO
  rw [ByteArray.size_extract, oN_size hi]
  unfold nbl
  have h1 := Nat.div_add_mod (size + szOf id - 1) (szOf id)
  have h2 := Nat.mod_lt (size + szOf id - 1) (show 0 < szOf id by omega)
  rw [Nat.mul_comm] at h1
  omega
theorem dgen_ok (d id : Nat) (kv : ByteArray × ByteArray) (n c : Int) (size : Nat) (more : ByteArray) (w : World) (hi : isId id) (hf : fit id kv) (hc : c = (size : Int)) (h1 : size ≤ 256) (h2 : more.size ≤ 256) (hn0 : 0 ≤ n) (hn : n ≤ 64) (hd : DrbgAt w d id kv n) :
    Calls Try.prog 14 #[.pointer (some ⟨d, 0, none⟩), .int .i64 c, .string more] w fun e w' => e = .returned (.tuple #[.string (genO id kv size more), .int .i64 0]) ∧ DrbgAt w' d id (genK id kv size more) (n + 1) ∧ But d w w' := by
  subst hc
  obtain ⟨k, v⟩ := kv
  exact dgen_yes d id k v n size more w hi hf h1 h2 hn0 hn hd
theorem rgen_ok (d id : Nat) (kv : ByteArray × ByteArray) (n c : Int) (size : Nat) (more : ByteArray) (w : World) (hi : isId id) (hf : fit id kv) (hc : c = (size : Int)) (h1 : size ≤ 256) (h2 : more.size ≤ 256) (hn0 : 0 ≤ n) (hn : n ≤ 64) (hd : RDrbgAt w d id kv n) :
    Calls Try.prog 20 #[.pointer (some ⟨d, 0, none⟩), .int .i64 c, .string more] w fun e w' => e = .returned (.tuple #[.string (genO id kv size more), .int .i64 0]) ∧ RDrbgAt w' d id (genK id kv size more) (n + 1) ∧ But d w w' := by
  subst hc
  obtain ⟨k, v⟩ := kv
  exact rgen_yes d id k v n size more w hi hf h1 h2 hn0 hn hd
theorem dreseed_ok (d id : Nat) (kv : ByteArray × ByteArray) (n : Int) (ent a : ByteArray) (w : World) (hi : isId id) (hf : fit id kv) (hm : mayB id ent [a] = true) (hd : DrbgAt w d id kv n) :
    Calls Try.prog 21 #[.pointer (some ⟨d, 0, none⟩), .string ent, .string a] w fun e w' => e = .returned (.int .i64 0) ∧ DrbgAt w' d id (upd2 id (ent ++ a) kv) 1 ∧ But d w w' := by
  obtain ⟨k, v⟩ := kv
  exact dreseed_yes d id k v n ent a w hi hf hm hd
theorem rreseed_ok (d id : Nat) (kv : ByteArray × ByteArray) (n : Int) (ent a : ByteArray) (w : World) (hi : isId id) (hf : fit id kv) (hm : mayB id ent [a] = true) (hd : RDrbgAt w d id kv n) :
    Calls Try.prog 22 #[.pointer (some ⟨d, 0, none⟩), .string ent, .string a] w fun e w' => e = .returned (.int .i64 0) ∧ RDrbgAt w' d id (upd2 id (ent ++ a) kv) 1 ∧ But d w w' := by
  obtain ⟨k, v⟩ := kv
  exact rreseed_yes d id k v n ent a w hi hf hm hd
/-- key and value of a new generator -/
def kv0 (id : Nat) (t : ByteArray) : ByteArray × ByteArray := upd2 id t (noughts (szOf id), ones (szOf id))
theorem kv0_fit {id : Nat} (hi : isId id) (t : ByteArray) : fit id (kv0 id t) := upd2_fit hi _ _
theorem dnew_ok (id : Nat) (ent a b : ByteArray) (w : World) (hi : isId id) (hm : mayB id ent [a, b] = true) :
    Calls Try.prog 12 #[.int .i64 id, .string ent, .string a, .string b] w fun e w' => ∃ d, e = .returned (.tuple #[.pointer (some ⟨d, 0, none⟩), .int .i64 0]) ∧ DrbgAt w' d id (kv0 id (ent ++ a ++ b)) 1 ∧ w.heap.size ≤ d ∧ Below w.heap.size w w' := dnew_yes id ent a b w hi hm
theorem rnew_ok (id : Nat) (ent a b : ByteArray) (w : World) (hi : isId id) (hm : mayB id ent [a, b] = true) :
    Calls Try.prog 19 #[.int .i64 id, .string ent, .string a, .string b] w fun e w' => ∃ d, e = .returned (.tuple #[.pointer (some ⟨d, 0, none⟩), .int .i64 0]) ∧ RDrbgAt w' d id (kv0 id (ent ++ a ++ b)) 1 ∧ w.heap.size ≤ d ∧ Below w.heap.size w w' := rnew_yes id ent a b w hi hm
end Go.Proofs.Ytggfcbhegniafaa.Cw

set_option linter.unusedSimpArgs false
set_option linter.unusedVariables false
namespace Go.Proofs.Ytggfcbhegniafaa.Cw
open Go Go.RowKit

set_option maxRecDepth 100000 in
set_option maxHeartbeats 1000000 in
theorem awake_calls (w : World) : Calls Try.prog 11 #[] w fun e w' => e = .returned (.bool true) ∧ Below w.heap.size w w' := by
  go_enter Try.func11, Try.ntmps11
  have i2 : isId 2 := ⟨by decide, by decide⟩
  obtain ⟨E, hE⟩ : ∃ E : ByteArray, E = ⟨#[48, 49, 50, 51, 52, 53, 54, 55, 56, 57, 97, 98, 99, 100, 101, 102]⟩ := ⟨_, rfl⟩
  obtain ⟨Nn, hN⟩ : ∃ Nn : ByteArray, Nn = ⟨#[110]⟩ := ⟨_, rfl⟩
  have hm : mayB 2 E [Nn, ByteArray.empty] = true := by rw [hE, hN]; decide
  have hn : mayB 2 ⟨#[115, 104, 111, 114, 116]⟩ [Nn, ByteArray.empty] = false := by rw [hN]; decide
  have h40 : ∀ kv, (genO 2 kv 40 ByteArray.empty).size = 40 := fun kv => genO_size i2 kv _ _
  obtain ⟨s, hs⟩ : ∃ s : ByteArray, s = ⟨#[115, 104, 111, 114, 116]⟩ := ⟨_, rfl⟩
  rw [← hs] at hn

  go_wp2_with (go_at_call 13; refine (num_calls _ _).mono ?_; rintro e w9 ⟨rfl, rfl⟩)
  first | (with_reducible refine (dnew_ok 2 _ _ _ _ i2 (by rw [hE, hN] at hm; exact hm)).mono ?_) | (refine (dnew_ok 2 _ _ _ _ i2 (by rw [hE, hN] at hm; exact hm)).mono ?_)
  rintro e w1 ⟨d, rfl, hd1, hl1, hb1⟩
  have hltd := lt_of hd1
  have Hd1 := Lib.hid hd1
  clear hd1
  have lowd : w.heap.size ≤ d := hl1
  have hB1 := hb1
  go_wp2_with (go_at_call 13; refine (num_calls _ _).mono ?_; rintro e w9 ⟨rfl, rfl⟩)
  first | (with_reducible refine (rnew_ok 2 _ _ _ _ i2 (by rw [hE, hN] at hm; exact hm)).mono ?_) | (refine (rnew_ok 2 _ _ _ _ i2 (by rw [hE, hN] at hm; exact hm)).mono ?_)
  rintro e w2 ⟨r, rfl, hd2, hl2, hb2⟩
  have hltr := lt_of hd2
  have Hr2 := Lib.hid hd2
  clear hd2
  have lowr : w.heap.size ≤ r := (Nat.le_trans hB1.size hl2)
  have ne_d_r : d ≠ r := by omega
  have ne_r_d : r ≠ d := by omega
  have Hd2 := Lib.hid (DrbgAt.below Hd1.out hb2)
  have hB2 := hB1.trans (hb2.mono hB1.size)
  have hltd := lt_of Hd2.out
  go_wp2_with (go_at_call 13; refine (num_calls _ _).mono ?_; rintro e w9 ⟨rfl, rfl⟩)
  first | (with_reducible refine (dgen_ok d 2 (kv0 2 (_ ++ _ ++ _)) (1) _ 40 _ _ i2 (kv0_fit i2 _) rfl (by decide) (by decide) (by omega) (by omega) Hd2.out).mono ?_) | (refine (dgen_ok d 2 (kv0 2 (_ ++ _ ++ _)) (1) _ 40 _ _ i2 (kv0_fit i2 _) rfl (by decide) (by decide) (by omega) (by omega) Hd2.out).mono ?_)
  rintro e w3 ⟨rfl, hd3, hb3⟩
  have Hd3 := Lib.hid hd3
  clear hd3
  have Hr3 := Lib.hid (RDrbgAt.but Hr2.out hb3 ne_r_d)
  have hB3 : Below w.heap.size w w3 := But.below hB2 hb3 lowd hB2.size
  go_wp2_with (go_at_call 13; refine (num_calls _ _).mono ?_; rintro e w9 ⟨rfl, rfl⟩)
  first | (with_reducible refine (rgen_ok r 2 (kv0 2 (_ ++ _ ++ _)) (1) _ 40 _ _ i2 (kv0_fit i2 _) rfl (by decide) (by decide) (by omega) (by omega) Hr3.out).mono ?_) | (refine (rgen_ok r 2 (kv0 2 (_ ++ _ ++ _)) (1) _ 40 _ _ i2 (kv0_fit i2 _) rfl (by decide) (by decide) (by omega) (by omega) Hr3.out).mono ?_)
  rintro e w4 ⟨rfl, hd4, hb4⟩
  have Hr4 := Lib.hid hd4
  clear hd4
  have Hd4 := Lib.hid (DrbgAt.but Hd3.out hb4 ne_d_r)
  have hB4 : Below w.heap.size w w4 := But.below hB3 hb4 lowr hB3.size
  go_wp2_with (go_at_call 13; refine (num_calls _ _).mono ?_; rintro e w9 ⟨rfl, rfl⟩)
  first | (with_reducible refine (dnew_no 2 _ _ _ _ i2 (by rw [hs, hN] at hn; exact hn)).mono ?_) | (refine (dnew_no 2 _ _ _ _ i2 (by rw [hs, hN] at hn; exact hn)).mono ?_)
  rintro e w5 ⟨rfl, hb5⟩
  have Hd5 := Lib.hid (DrbgAt.below Hd4.out hb5)
  have Hr5 := Lib.hid (RDrbgAt.below Hr4.out hb5)
  have hB5 := hB4.trans (hb5.mono hB4.size)
  go_wp2_with (go_at_call 13; refine (num_calls _ _).mono ?_; rintro e w9 ⟨rfl, rfl⟩)
  first | (with_reducible refine (dgen_long d _ _ _ (.inr (.inl (by decide)))).mono ?_) | (refine (dgen_long d _ _ _ (.inr (.inl (by decide)))).mono ?_)
  rintro e w6 ⟨rfl, rfl⟩
  go_wp2_with (go_at_call 13; refine (num_calls _ _).mono ?_; rintro e w9 ⟨rfl, rfl⟩)
  first | (with_reducible refine (dcount_calls d 2 (genK 2 (kv0 2 (_ ++ _ ++ _)) 40 _) _ _ Hd5.out).mono ?_) | (refine (dcount_calls d 2 (genK 2 (kv0 2 (_ ++ _ ++ _)) 40 _) _ _ Hd5.out).mono ?_)
  rintro e w7 ⟨rfl, rfl⟩
  go_wp2_with (go_at_call 13; refine (num_calls _ _).mono ?_; rintro e w9 ⟨rfl, rfl⟩)
  go_ret
  exact ⟨by simp, hB5⟩
end Go.Proofs.Ytggfcbhegniafaa.Cw
