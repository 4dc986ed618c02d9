/-
  (package proj) has, open, From, To at multiples of G; (package curve) On. Condition: one of the 15 curves.
-/
import Derived.Test.YtkoonhiplicbkaaDua
set_option linter.unusedSimpArgs false
set_option linter.unusedVariables false
namespace Go.Proofs.Ytkoonhiplicbkaa.Cw
open Go Go.RowKit
attribute [local irreducible] pc ptc nc ac cuc fc gpt
attribute [local go_sem ↓ high] wn_eql wn_neq wn_lss wn_gtr wn_leq wn_geq wn_cells wn_run_store wn_guard lit0 lit1
attribute [local go_sem high] wn_match wn_run_store wn_eql wn_neq wn_lss wn_gtr wn_leq wn_geq

theorem guard_agg (t : TypeId) (ht : Try.prog.eqGuardType Try.prog.depth t = false) (x y : Operand) (a b : Array Value) (w : World) : (eqGuard .eql t x y (.agg a) (.agg b)).run Try.prog w = .ok () w := by
  unfold eqGuard
  simp [Sem.run_bind, ht]
theorem run_eqn {ρ : Operand → Value} {o : Oper} (t2 : TypeId) (x y : Operand) (ho : o.op = .binOp .eql 26 x y t2) (a b : Nat) (hx : ρ x = .agg (nc a)) (hy : ρ y = .agg (nc b)) (ha : a < pw 9) (hb : b < pw 9) (v : Bool) (hv : decide (a = b) = v) (u : World) : (execOp ρ o).run Try.prog u = .ok (.value (.bool v)) u := by
  obtain ⟨d, op, type, pos, after, guard⟩ := o
  subst ho
  simp only [execOp, hx, hy, Sem.run_bind, guard_agg _ (show Try.prog.eqGuardType Try.prog.depth 26 = false by kernel_rfl), Result.andThen_ok, eq_nat a b ha hb, hv, Sem.run_pure]
theorem run_eqj {ρ : Operand → Value} {o : Oper} (t2 : TypeId) (x y : Operand) (ho : o.op = .binOp .eql 48 x y t2) (a b c a' b' c' : Nat) (hx : ρ x = .agg (pc a b c)) (hy : ρ y = .agg (pc a' b' c')) (h1 : a < pw 9) (h2 : b < pw 9) (h3 : c < pw 9) (h4 : a' < pw 9) (h5 : b' < pw 9) (h6 : c' < pw 9) (v : Bool) (hv : decide (a = a' ∧ b = b' ∧ c = c') = v) (u : World) : (execOp ρ o).run Try.prog u = .ok (.value (.bool v)) u := by
  obtain ⟨d, op, type, pos, after, guard⟩ := o
  subst ho
  simp only [execOp, hx, hy, Sem.run_bind, guard_agg _ (show Try.prog.eqGuardType Try.prog.depth 48 = false by kernel_rfl), Result.andThen_ok, eq_proj a b c a' b' c' h1 h2 h3 h4 h5 h6, hv, Sem.run_pure]
set_option maxRecDepth 100000 in
set_option maxHeartbeats 4000000 in
theorem proj_has (c f d x y z : Nat) (cu : Cv) (w : World) (hx : x < cu.p) (hy : y < cu.p) (hz : z < cu.p) (hnz : ¬ (x = 0 ∧ y = 0 ∧ z = 0)) (heq : fml cu.p (fml cu.p y y) z = fad cu.p (fml cu.p (fad cu.p (fml cu.p x x) (fml cu.p cu.a (fml cu.p z z))) x) (fml cu.p cu.b (fml cu.p (fml cu.p z z) z))) (H : CurveAt w c f d cu) : Calls Try.prog 53 #[.pointer (some ⟨c, 0, none⟩), .agg (pc x y z)] w fun e w' => e = .returned (.bool true) ∧ Below w.heap.size w w' := by
  obtain ⟨hk, hfd, hcb⟩ := H
  have HK := Lib.hid hk
  have HF := Lib.hid hfd
  have HCB := Lib.hid hcb
  have Hx := Lib.hid hx
  have Hy := Lib.hid hy
  have Hz := Lib.hid hz
  have HNZ := Lib.hid hnz
  have HP9 := Lib.hid hfd.1
  clear hk hfd hcb hx hy hz hnz
  obtain ⟨k0, e0⟩ : ∃ v, v = fml cu.p z z := ⟨_, rfl⟩
  obtain ⟨k1, e1⟩ : ∃ v, v = fml cu.p y y := ⟨_, rfl⟩
  obtain ⟨k2, e2⟩ : ∃ v, v = fml cu.p k1 z := ⟨_, rfl⟩
  obtain ⟨k3, e3⟩ : ∃ v, v = fml cu.p x x := ⟨_, rfl⟩
  obtain ⟨k4, e4⟩ : ∃ v, v = fml cu.p cu.a k0 := ⟨_, rfl⟩
  obtain ⟨k5, e5⟩ : ∃ v, v = fad cu.p k3 k4 := ⟨_, rfl⟩
  obtain ⟨k6, e6⟩ : ∃ v, v = fml cu.p k5 x := ⟨_, rfl⟩
  obtain ⟨k7, e7⟩ : ∃ v, v = fml cu.p k0 z := ⟨_, rfl⟩
  obtain ⟨k8, e8⟩ : ∃ v, v = fml cu.p cu.b k7 := ⟨_, rfl⟩
  obtain ⟨k9, e9⟩ : ∃ v, v = fad cu.p k6 k8 := ⟨_, rfl⟩
  have HEQ := Lib.hid (show k2 = k9 by subst e0 e1 e2 e3 e4 e5 e6 e7 e8 e9; exact heq)
  have E0 := Lib.hid e0
  have L0 := Lib.hid (show k0 < cu.p by rw [E0.out]; exact fml_lt _ _ HK.out.1)
  clear e0
  have E1 := Lib.hid e1
  have L1 := Lib.hid (show k1 < cu.p by rw [E1.out]; exact fml_lt _ _ HK.out.1)
  clear e1
  have E2 := Lib.hid e2
  have L2 := Lib.hid (show k2 < cu.p by rw [E2.out]; exact fml_lt _ _ HK.out.1)
  clear e2
  have E3 := Lib.hid e3
  have L3 := Lib.hid (show k3 < cu.p by rw [E3.out]; exact fml_lt _ _ HK.out.1)
  clear e3
  have E4 := Lib.hid e4
  have L4 := Lib.hid (show k4 < cu.p by rw [E4.out]; exact fml_lt _ _ HK.out.1)
  clear e4
  have E5 := Lib.hid e5
  have L5 := Lib.hid (show k5 < cu.p by rw [E5.out]; exact fad_lt _ _ HK.out.1)
  clear e5
  have E6 := Lib.hid e6
  have L6 := Lib.hid (show k6 < cu.p by rw [E6.out]; exact fml_lt _ _ HK.out.1)
  clear e6
  have E7 := Lib.hid e7
  have L7 := Lib.hid (show k7 < cu.p by rw [E7.out]; exact fml_lt _ _ HK.out.1)
  clear e7
  have E8 := Lib.hid e8
  have L8 := Lib.hid (show k8 < cu.p by rw [E8.out]; exact fml_lt _ _ HK.out.1)
  clear e8
  have E9 := Lib.hid e9
  have L9 := Lib.hid (show k9 < cu.p by rw [E9.out]; exact fad_lt _ _ HK.out.1)
  clear e9
  clear heq
  go_enter Try.func53, Try.ntmps53
  go_upto_region 1 with fail
  have m0 := Mem.start1 w (pc x y z) 48
  obtain ⟨w1, hw1⟩ : ∃ w1 : World, w1 = (w.alloc (.cells (pc x y z) 48)) := ⟨_, rfl⟩
  rw [← hw1] at m0 ⊢
  clear hw1
  obtain ⟨g, hg⟩ : ∃ g, g = w.heap.size := ⟨_, rfl⟩
  rw [← hg] at m0 ⊢
  have HG := Lib.hid hg
  have M := Lib.hid m0
  clear hg m0
  refine wp_region_lit ?_
  refine wpList_pureL rfl (.pointer (some ⟨c, 0, none⟩)) (fun u => by kernel_rfl) ?_
  refine wpList_pureL rfl (.pointer (some ⟨c, 0, none⟩)) (fun u => by kernel_rfl) ?_
  refine wpList_pureL rfl (.pointer (some ⟨c, 59, none⟩)) (fun u => by kernel_rfl) ?_
  refine wpList_load_cell rfl 56 (.tmp 11) rfl c 59 (by kernel_rfl) (.pointer (some ⟨f, 0, none⟩)) _ Try.underlying56 rfl ((cell_of (grows_at HCB.out M.out.1) 59).trans (cuc_f cu f)) ?_
  refine wpList_pureL rfl (.pointer (some ⟨f, 0, none⟩)) (fun u => by kernel_rfl) ?_
  refine wpList_nil ?_
  try simp only [Act.put, sl1, sl2, sl3, sl4, sl5, sl6]
  go_upto_region 2 with (fail)
  refine wp_region_lit ?_
  refine wpList_pureL rfl (.pointer (some ⟨f, 0, none⟩)) (fun u => by kernel_rfl) ?_
  refine wpList_pureL rfl (.pointer (some ⟨g, 0, none⟩)) (fun u => by kernel_rfl) ?_
  refine wpN_load rfl (.tmp 14) rfl g 0 (by kernel_rfl) (M.out.at 0 rfl) x (pc_x x y z) ?_
  refine wpList_fnL rfl 50 (.func 50) #[.tmp 13, .tmp 15] #[56, 26] rfl #[] #[.pointer (some ⟨f, 0, none⟩), .agg (nc x)] (by kernel_rfl) (by kernel_rfl) (fun u => callFunc_enter _ _ _ _ u Try.func50 (by kernel_rfl) (by kernel_rfl)) (.bool true) ((by have h := field_has f cu.p d x w1 (Nat.lt_trans Hx.out HP9.out) (HF.out.up M.out.1); rw [decide_eq_true Hx.out] at h; exact h)) (fun w2 hb => ?_)
  have Nw2 := Lib.hid (M.out.grow hb)
  clear hb M
  refine wpList_pureL rfl (.bool false) (fun u => by kernel_rfl) ?_
  refine wpList_pureL rfl (.bool false) (fun u => by kernel_rfl) ?_
  try simp only [Act.put, sl1, sl2, sl3, sl4, sl5, sl6]
  refine wpList_wantL (by kernel_rfl) (.pointer (some ⟨f, 0, none⟩)) (fun u => by kernel_rfl) ?_
  try simp only [Act.put, sl1, sl2, sl3, sl4, sl5, sl6]
  refine wpList_wantL (by kernel_rfl) (.pointer (some ⟨g, 9, none⟩)) (fun u => by kernel_rfl) ?_
  try simp only [Act.put, sl1, sl2, sl3, sl4, sl5, sl6]
  refine wpN_loadG2 (by kernel_rfl) (.tmp 20) rfl g 9 (by kernel_rfl) (Nw2.out.at 0 rfl) (pc_y x y z) ?_
  try simp only [Act.put, sl1, sl2, sl3, sl4, sl5, sl6]
  refine wpList_fnG (by kernel_rfl) 50 (.func 50) #[.tmp 19, .tmp 21] #[56, 26] rfl #[] #[.pointer (some ⟨f, 0, none⟩), .agg (nc y)] (by kernel_rfl) (by kernel_rfl) (fun u => callFunc_enter _ _ _ _ u Try.func50 (by kernel_rfl) (by kernel_rfl)) (.bool true) ((by have h := field_has f cu.p d y w2 (Nat.lt_trans Hy.out HP9.out) (HF.out.up Nw2.out.1); rw [decide_eq_true Hy.out] at h; exact h)) (fun w3 hb => ?_)
  have Nw3 := Lib.hid (Nw2.out.grow hb)
  clear hb Nw2
  try simp only [Act.put, sl1, sl2, sl3, sl4, sl5, sl6]
  refine wpList_wantL (by kernel_rfl) (.bool false) (fun u => by kernel_rfl) ?_
  try simp only [Act.put, sl1, sl2, sl3, sl4, sl5, sl6]
  refine wpList_pureL rfl (.bool false) (fun u => by kernel_rfl) ?_
  refine wpList_pureL rfl (.bool false) (fun u => by kernel_rfl) ?_
  try simp only [Act.put, sl1, sl2, sl3, sl4, sl5, sl6]
  refine wpList_wantL (by kernel_rfl) (.pointer (some ⟨f, 0, none⟩)) (fun u => by kernel_rfl) ?_
  try simp only [Act.put, sl1, sl2, sl3, sl4, sl5, sl6]
  refine wpList_wantL (by kernel_rfl) (.pointer (some ⟨g, 18, none⟩)) (fun u => by kernel_rfl) ?_
  try simp only [Act.put, sl1, sl2, sl3, sl4, sl5, sl6]
  refine wpN_loadG2 (by kernel_rfl) (.tmp 27) rfl g 18 (by kernel_rfl) (Nw3.out.at 0 rfl) (pc_z x y z) ?_
  try simp only [Act.put, sl1, sl2, sl3, sl4, sl5, sl6]
  refine wpList_fnG (by kernel_rfl) 50 (.func 50) #[.tmp 26, .tmp 28] #[56, 26] rfl #[] #[.pointer (some ⟨f, 0, none⟩), .agg (nc z)] (by kernel_rfl) (by kernel_rfl) (fun u => callFunc_enter _ _ _ _ u Try.func50 (by kernel_rfl) (by kernel_rfl)) (.bool true) ((by have h := field_has f cu.p d z w3 (Nat.lt_trans Hz.out HP9.out) (HF.out.up Nw3.out.1); rw [decide_eq_true Hz.out] at h; exact h)) (fun w4 hb => ?_)
  have Nw4 := Lib.hid (Nw3.out.grow hb)
  clear hb Nw3
  try simp only [Act.put, sl1, sl2, sl3, sl4, sl5, sl6]
  refine wpList_wantL (by kernel_rfl) (.bool false) (fun u => by kernel_rfl) ?_
  try simp only [Act.put, sl1, sl2, sl3, sl4, sl5, sl6]
  refine wpList_pureL rfl (.bool false) (fun u => by kernel_rfl) ?_
  refine wpList_pureL rfl (.bool false) (fun u => by kernel_rfl) ?_
  try simp only [Act.put, sl1, sl2, sl3, sl4, sl5, sl6]
  refine wpList_segG (by kernel_rfl) 48 (.tmp 3) rfl g 0 27 (by kernel_rfl) (pc x y z) (Nw4.out.at 0 rfl) _ Try.underlying48 rfl (by kernel_rfl) (pc_size _ _ _) (fun j hj => by rw [Nat.zero_add]) ?_
  try simp only [Act.put, sl1, sl2, sl3, sl4, sl5, sl6]
  refine wpList_wantL (by kernel_rfl) (.agg (pc 0 0 0)) (fun u => by rw [pc_zero]; kernel_rfl) ?_
  try simp only [Act.put, sl1, sl2, sl3, sl4, sl5, sl6]
  refine wpList_wantL (by kernel_rfl) (.bool false) (fun u => by exact run_eqj _ _ _ rfl x y z 0 0 0 (by kernel_rfl) (by kernel_rfl) (Nat.lt_trans Hx.out HP9.out) (Nat.lt_trans Hy.out HP9.out) (Nat.lt_trans Hz.out HP9.out) (pw_pos 9) (pw_pos 9) (pw_pos 9) false (decide_eq_false HNZ.out) u) ?_
  try simp only [Act.put, sl1, sl2, sl3, sl4, sl5, sl6]
  refine wpList_pureL rfl (.bool false) (fun u => by kernel_rfl) ?_
  refine wpList_nil ?_
  try simp only [Act.put, sl1, sl2, sl3, sl4, sl5, sl6]
  go_upto_region 4 with (fail)
  refine wp_region_lit ?_
  refine wpList_pureL rfl (.pointer (some ⟨f, 0, none⟩)) (fun u => by kernel_rfl) ?_
  refine wpList_pureL rfl (.pointer (some ⟨g, 18, none⟩)) (fun u => by kernel_rfl) ?_
  refine wpN_load rfl (.tmp 38) rfl g 18 (by kernel_rfl) (Nw4.out.at 0 rfl) z (pc_z x y z) ?_
  refine wpList_pureL rfl (.pointer (some ⟨g, 18, none⟩)) (fun u => by kernel_rfl) ?_
  refine wpN_load rfl (.tmp 40) rfl g 18 (by kernel_rfl) (Nw4.out.at 0 rfl) z (pc_z x y z) ?_
  have hcc := field_mul f cu.p d z z w4 (Hz.out) (Hz.out) (HF.out.up Nw4.out.1); rw [← E0.out] at hcc
  refine wpList_fnL rfl 44 (.func 44) #[.tmp 37, .tmp 39, .tmp 41] #[56, 26, 26] rfl #[] #[.pointer (some ⟨f, 0, none⟩), .agg (nc z), .agg (nc z)] (by kernel_rfl) (by kernel_rfl) (fun u => callFunc_enter _ _ _ _ u Try.func44 (by kernel_rfl) (by kernel_rfl)) (.agg (nc k0)) (hcc) (fun w5 hb => ?_)
  have Nw5 := Lib.hid (Nw4.out.grow hb)
  clear hb Nw4 hcc
  refine wpList_new rfl 26 rfl (.agg (nc 0)) (by rw [nc_zero]; kernel_rfl) ?_
  intro zz w6 hx hx2 hgv hh
  have Nw6 := Lib.hid (show Mem w w6 [(g, pc x y z, 48), (zz, nc 0, 26)] from Nw5.out.new hgv (Nat.le_of_eq hx) hh)
  clear hx hx2 hgv hh Nw5
  refine wpList_store_blk rfl 26 (.tmp 6) (.tmp 42) rfl zz (by kernel_rfl) _ _ (nc k0) (by kernel_rfl) (Nw6.out.at 1 rfl) (by rw [nc_size]; kernel_rfl) (by simp only [nc_size]) (nc_one _) ?_
  intro w7 hw hb hs
  have Nw7 := Lib.hid (Nw6.out.store 1 rfl hb hs hw)
  clear hw hb hs Nw6
  refine wpList_nil ?_
  try simp only [Act.put, sl1, sl2, sl3, sl4, sl5, sl6]
  go_upto_region 5 with (fail)
  have D8 := Lib.hid (Nw7.out.drew)
  clear Nw7
  refine wp_region_grow 10 11 (by kernel_rfl) (by kernel_rfl) (fun d v c a w h => by cases d <;> exact h) ?_
  simp only [List.take_succ_cons, List.take_zero]
  refine wpGrow_pure rfl (.pointer (some ⟨f, 0, none⟩)) (fun u => by kernel_rfl) ?_
  refine wpGrow_pure rfl (.pointer (some ⟨f, 0, none⟩)) (fun u => by kernel_rfl) ?_
  refine wpGrow_pure rfl (.pointer (some ⟨g, 9, none⟩)) (fun u => by kernel_rfl) ?_
  refine wpGrow_loadN rfl (.tmp 45) rfl g 9 (by kernel_rfl) y (fun u hu => D8.out.up 0 rfl hu) (pc_y x y z) ?_
  refine wpGrow_pure rfl (.pointer (some ⟨g, 9, none⟩)) (fun u => by kernel_rfl) ?_
  refine wpGrow_loadN rfl (.tmp 47) rfl g 9 (by kernel_rfl) y (fun u hu => D8.out.up 0 rfl hu) (pc_y x y z) ?_
  refine wpGrow_fn rfl 44 (.func 44) #[.tmp 44, .tmp 46, .tmp 48] #[56, 26, 26] rfl #[] #[.pointer (some ⟨f, 0, none⟩), .agg (nc y), .agg (nc y)] (by kernel_rfl) (by kernel_rfl) (fun u => callFunc_enter _ _ _ _ u Try.func44 (by kernel_rfl) (by kernel_rfl)) (.agg (nc k1)) (fun u hu => by have hcc := field_mul f cu.p d y y u (Hy.out) (Hy.out) (HF.out.up (grows_trans _ _ _ D8.out.1 hu)); rw [← E1.out] at hcc; exact hcc) ?_
  refine wpGrow_pure rfl (.pointer (some ⟨g, 18, none⟩)) (fun u => by kernel_rfl) ?_
  refine wpGrow_loadN rfl (.tmp 50) rfl g 18 (by kernel_rfl) z (fun u hu => D8.out.up 0 rfl hu) (pc_z x y z) ?_
  refine wpGrow_fn rfl 44 (.func 44) #[.tmp 43, .tmp 49, .tmp 51] #[56, 26, 26] rfl #[] #[.pointer (some ⟨f, 0, none⟩), .agg (nc k1), .agg (nc z)] (by kernel_rfl) (by kernel_rfl) (fun u => callFunc_enter _ _ _ _ u Try.func44 (by kernel_rfl) (by kernel_rfl)) (.agg (nc k2)) (fun u hu => by have hcc := field_mul f cu.p d k1 z u (L1.out) (Hz.out) (HF.out.up (grows_trans _ _ _ D8.out.1 hu)); rw [← E2.out] at hcc; exact hcc) ?_
  refine wpGrow_nil ?_
  try simp only [Act.put, sl1, sl2, sl3, sl4, sl5, sl6]
  refine grow_alloc (i := 10) (f := 1) (by kernel_rfl) (by decide) rfl rfl 26 rfl (.agg (nc 0)) (by rw [nc_zero]; kernel_rfl) ?_
  intro le v9 hx hx2 hgv hh
  have Nv9 := Lib.hid (D8.out.new hgv hx hh)
  have Nv9 : Hid (Mem w v9 [(g, pc x y z, 48), (zz, nc k0, 26), (le, nc 0, 26)]) := Nv9
  clear hgv hx hx2 hh D8
  try simp only [Act.put, sl1, sl2, sl3, sl4, sl5, sl6]
  refine grow_stores (rs := [11]) (by kernel_rfl) (by decide) (fun w10 hg6 => ?_)
  have Nw10 := Lib.hid (Nv9.out.grow hg6)
  clear hg6 Nv9
  refine wpAny_ready (rs := [11]) (by kernel_rfl) (by simp) ?_
  refine AllReady.cons rfl (fun K hK => ?_) AllReady.nil
  refine step_store_blk rfl 26 (.tmp 7) (.tmp 52) rfl le rfl _ _ _ rfl (Nw10.out.at 2 rfl) (by rw [nc_size]; kernel_rfl) (by simp only [nc_size]) (nc_one _) (fun w11 hw hb hs => hK _ _ ?_)
  have Nw11 := Lib.hid (Nw10.out.store 2 rfl hb hs hw)
  clear hK hw hb hs Nw10
  try simp only [Act.put, sl1, sl2, sl3, sl4, sl5, sl6]
  refine wpAny_done (by kernel_rfl) ?_ _
  try simp only [Act.put, sl1, sl2, sl3, sl4, sl5, sl6]
  go_upto_region 6 with (fail)
  have D12 := Lib.hid (Nw11.out.drew)
  clear Nw11
  refine wp_region_grow 34 35 (by kernel_rfl) (by kernel_rfl) (fun d v c a w h => by cases d <;> exact h) ?_
  simp only [List.take_succ_cons, List.take_zero]
  refine wpGrow_pure rfl (.pointer (some ⟨f, 0, none⟩)) (fun u => by kernel_rfl) ?_
  refine wpGrow_pure rfl (.pointer (some ⟨f, 0, none⟩)) (fun u => by kernel_rfl) ?_
  refine wpGrow_pure rfl (.pointer (some ⟨f, 0, none⟩)) (fun u => by kernel_rfl) ?_
  refine wpGrow_pure rfl (.pointer (some ⟨f, 0, none⟩)) (fun u => by kernel_rfl) ?_
  refine wpGrow_pure rfl (.pointer (some ⟨g, 0, none⟩)) (fun u => by kernel_rfl) ?_
  refine wpGrow_loadN rfl (.tmp 57) rfl g 0 (by kernel_rfl) x (fun u hu => D12.out.up 0 rfl hu) (pc_x x y z) ?_
  refine wpGrow_pure rfl (.pointer (some ⟨g, 0, none⟩)) (fun u => by kernel_rfl) ?_
  refine wpGrow_loadN rfl (.tmp 59) rfl g 0 (by kernel_rfl) x (fun u hu => D12.out.up 0 rfl hu) (pc_x x y z) ?_
  refine wpGrow_fn rfl 44 (.func 44) #[.tmp 56, .tmp 58, .tmp 60] #[56, 26, 26] rfl #[] #[.pointer (some ⟨f, 0, none⟩), .agg (nc x), .agg (nc x)] (by kernel_rfl) (by kernel_rfl) (fun u => callFunc_enter _ _ _ _ u Try.func44 (by kernel_rfl) (by kernel_rfl)) (.agg (nc k3)) (fun u hu => by have hcc := field_mul f cu.p d x x u (Hx.out) (Hx.out) (HF.out.up (grows_trans _ _ _ D12.out.1 hu)); rw [← E3.out] at hcc; exact hcc) ?_
  refine wpGrow_pure rfl (.pointer (some ⟨f, 0, none⟩)) (fun u => by kernel_rfl) ?_
  refine wpGrow_pure rfl (.pointer (some ⟨c, 0, none⟩)) (fun u => by kernel_rfl) ?_
  refine wpGrow_pure rfl (.pointer (some ⟨c, 0, none⟩)) (fun u => by kernel_rfl) ?_
  refine wpGrow_pure rfl (.pointer (some ⟨c, 0, none⟩)) (fun u => by kernel_rfl) ?_
  refine wpGrow_pure rfl (.pointer (some ⟨c, 10, none⟩)) (fun u => by kernel_rfl) ?_
  refine wpGrow_loadN rfl (.tmp 66) rfl c 10 (by kernel_rfl) cu.a (fun u hu => grows_at HCB.out (grows_trans _ _ _ D12.out.1 hu)) (cuc_a cu f) ?_
  refine wpGrow_loadN0 rfl (.tmp 6) rfl zz (by kernel_rfl) (fun u hu => D12.out.up 1 rfl hu) ?_
  refine wpGrow_fn rfl 44 (.func 44) #[.tmp 62, .tmp 67, .tmp 68] #[56, 26, 26] rfl #[] #[.pointer (some ⟨f, 0, none⟩), .agg (nc cu.a), .agg (nc k0)] (by kernel_rfl) (by kernel_rfl) (fun u => callFunc_enter _ _ _ _ u Try.func44 (by kernel_rfl) (by kernel_rfl)) (.agg (nc k4)) (fun u hu => by have hcc := field_mul f cu.p d cu.a k0 u (HK.out.2.1) (L0.out) (HF.out.up (grows_trans _ _ _ D12.out.1 hu)); rw [← E4.out] at hcc; exact hcc) ?_
  refine wpGrow_fn rfl 40 (.func 40) #[.tmp 55, .tmp 61, .tmp 69] #[56, 26, 26] rfl #[] #[.pointer (some ⟨f, 0, none⟩), .agg (nc k3), .agg (nc k4)] (by kernel_rfl) (by kernel_rfl) (fun u => callFunc_enter _ _ _ _ u Try.func40 (by kernel_rfl) (by kernel_rfl)) (.agg (nc k5)) (fun u hu => by have hcc := field_add f cu.p d k3 k4 u (L3.out) (L4.out) (HF.out.up (grows_trans _ _ _ D12.out.1 hu)); rw [← E5.out] at hcc; exact hcc) ?_
  refine wpGrow_pure rfl (.pointer (some ⟨g, 0, none⟩)) (fun u => by kernel_rfl) ?_
  refine wpGrow_loadN rfl (.tmp 71) rfl g 0 (by kernel_rfl) x (fun u hu => D12.out.up 0 rfl hu) (pc_x x y z) ?_
  refine wpGrow_fn rfl 44 (.func 44) #[.tmp 54, .tmp 70, .tmp 72] #[56, 26, 26] rfl #[] #[.pointer (some ⟨f, 0, none⟩), .agg (nc k5), .agg (nc x)] (by kernel_rfl) (by kernel_rfl) (fun u => callFunc_enter _ _ _ _ u Try.func44 (by kernel_rfl) (by kernel_rfl)) (.agg (nc k6)) (fun u hu => by have hcc := field_mul f cu.p d k5 x u (L5.out) (Hx.out) (HF.out.up (grows_trans _ _ _ D12.out.1 hu)); rw [← E6.out] at hcc; exact hcc) ?_
  refine wpGrow_pure rfl (.pointer (some ⟨f, 0, none⟩)) (fun u => by kernel_rfl) ?_
  refine wpGrow_pure rfl (.pointer (some ⟨c, 0, none⟩)) (fun u => by kernel_rfl) ?_
  refine wpGrow_pure rfl (.pointer (some ⟨c, 0, none⟩)) (fun u => by kernel_rfl) ?_
  refine wpGrow_pure rfl (.pointer (some ⟨c, 0, none⟩)) (fun u => by kernel_rfl) ?_
  refine wpGrow_pure rfl (.pointer (some ⟨c, 19, none⟩)) (fun u => by kernel_rfl) ?_
  refine wpGrow_loadN rfl (.tmp 78) rfl c 19 (by kernel_rfl) cu.b (fun u hu => grows_at HCB.out (grows_trans _ _ _ D12.out.1 hu)) (cuc_b cu f) ?_
  refine wpGrow_pure rfl (.pointer (some ⟨f, 0, none⟩)) (fun u => by kernel_rfl) ?_
  refine wpGrow_loadN0 rfl (.tmp 6) rfl zz (by kernel_rfl) (fun u hu => D12.out.up 1 rfl hu) ?_
  refine wpGrow_pure rfl (.pointer (some ⟨g, 18, none⟩)) (fun u => by kernel_rfl) ?_
  refine wpGrow_loadN rfl (.tmp 82) rfl g 18 (by kernel_rfl) z (fun u hu => D12.out.up 0 rfl hu) (pc_z x y z) ?_
  refine wpGrow_fn rfl 44 (.func 44) #[.tmp 80, .tmp 81, .tmp 83] #[56, 26, 26] rfl #[] #[.pointer (some ⟨f, 0, none⟩), .agg (nc k0), .agg (nc z)] (by kernel_rfl) (by kernel_rfl) (fun u => callFunc_enter _ _ _ _ u Try.func44 (by kernel_rfl) (by kernel_rfl)) (.agg (nc k7)) (fun u hu => by have hcc := field_mul f cu.p d k0 z u (L0.out) (Hz.out) (HF.out.up (grows_trans _ _ _ D12.out.1 hu)); rw [← E7.out] at hcc; exact hcc) ?_
  refine wpGrow_fn rfl 44 (.func 44) #[.tmp 74, .tmp 79, .tmp 84] #[56, 26, 26] rfl #[] #[.pointer (some ⟨f, 0, none⟩), .agg (nc cu.b), .agg (nc k7)] (by kernel_rfl) (by kernel_rfl) (fun u => callFunc_enter _ _ _ _ u Try.func44 (by kernel_rfl) (by kernel_rfl)) (.agg (nc k8)) (fun u hu => by have hcc := field_mul f cu.p d cu.b k7 u (HK.out.2.2.1) (L7.out) (HF.out.up (grows_trans _ _ _ D12.out.1 hu)); rw [← E8.out] at hcc; exact hcc) ?_
  refine wpGrow_fn rfl 40 (.func 40) #[.tmp 53, .tmp 73, .tmp 85] #[56, 26, 26] rfl #[] #[.pointer (some ⟨f, 0, none⟩), .agg (nc k6), .agg (nc k8)] (by kernel_rfl) (by kernel_rfl) (fun u => callFunc_enter _ _ _ _ u Try.func40 (by kernel_rfl) (by kernel_rfl)) (.agg (nc k9)) (fun u hu => by have hcc := field_add f cu.p d k6 k8 u (L6.out) (L8.out) (HF.out.up (grows_trans _ _ _ D12.out.1 hu)); rw [← E9.out] at hcc; exact hcc) ?_
  refine wpGrow_nil ?_
  try simp only [Act.put, sl1, sl2, sl3, sl4, sl5, sl6]
  refine grow_alloc (i := 34) (f := 1) (by kernel_rfl) (by decide) rfl rfl 26 rfl (.agg (nc 0)) (by rw [nc_zero]; kernel_rfl) ?_
  intro ri v13 hx hx2 hgv hh
  have Nv13 := Lib.hid (D12.out.new hgv hx hh)
  have Nv13 : Hid (Mem w v13 [(g, pc x y z, 48), (zz, nc k0, 26), (le, nc k2, 26), (ri, nc 0, 26)]) := Nv13
  clear hgv hx hx2 hh D12
  try simp only [Act.put, sl1, sl2, sl3, sl4, sl5, sl6]
  refine grow_stores (rs := [35]) (by kernel_rfl) (by decide) (fun w14 hg6 => ?_)
  have Nw14 := Lib.hid (Nv13.out.grow hg6)
  clear hg6 Nv13
  refine wpAny_ready (rs := [35]) (by kernel_rfl) (by simp) ?_
  refine AllReady.cons rfl (fun K hK => ?_) AllReady.nil
  refine step_store_blk rfl 26 (.tmp 8) (.tmp 86) rfl ri rfl _ _ _ rfl (Nw14.out.at 3 rfl) (by rw [nc_size]; kernel_rfl) (by simp only [nc_size]) (nc_one _) (fun w15 hw hb hs => hK _ _ ?_)
  have Nw15 := Lib.hid (Nw14.out.store 3 rfl hb hs hw)
  clear hK hw hb hs Nw14
  try simp only [Act.put, sl1, sl2, sl3, sl4, sl5, sl6]
  refine wpAny_done (by kernel_rfl) ?_ _
  try simp only [Act.put, sl1, sl2, sl3, sl4, sl5, sl6]
  go_upto_region 7 with (fail)
  refine wp_region_lit ?_
  refine wpN_load0 rfl (.tmp 7) rfl le (by kernel_rfl) (Nw15.out.at 2 rfl) ?_
  refine wpN_load0 rfl (.tmp 8) rfl ri (by kernel_rfl) (Nw15.out.at 3 rfl) ?_
  try simp only [Act.put, sl1, sl2, sl3, sl4, sl5, sl6]
  refine wpList_pureL rfl (.bool true) (fun u => by exact run_eqn _ _ _ rfl k2 k9 (by kernel_rfl) (by kernel_rfl) (Nat.lt_trans L2.out HP9.out) (Nat.lt_trans L9.out HP9.out) true (decide_eq_true HEQ.out) u) ?_
  refine wpList_pureL rfl (.bool true) (fun u => by kernel_rfl) ?_
  refine wpList_nil ?_
  try simp only [Act.put, sl1, sl2, sl3, sl4, sl5, sl6]
  go_wp2_with (fail)
  go_ret
  exact ⟨rfl, Nw15.out.below⟩
theorem has_rp (k : CK) {t : Tri} {n : Nat} (c f d : Nat) (w : World) (h : Rp k t n) (H : CurveAt w c f d k.c) : Calls Try.prog 53 #[.pointer (some ⟨c, 0, none⟩), .agg (pc t.x t.y t.z)] w fun e w' => e = .returned (.bool true) ∧ Below w.heap.size w w' := by
  obtain ⟨⟨hx, hy, hz⟩, hr⟩ := h
  have hon := gm_on k n
  refine proj_has c f d t.x t.y t.z k.c w hx hy hz ?_ ?_ H
  · rintro ⟨e1, e2, e3⟩
    rcases hg : gm k n with _ | ⟨a, b⟩
    · rw [hg] at hr
      exact hr.2.2 (by show cf k t.y = 0; rw [e2]; rfl)
    · rw [hg] at hr
      exact hr.1 (by show cf k t.z = 0; rw [e3]; rfl)
  · have e : cf k (fml k.c.p (fml k.c.p t.y t.y) t.z) = cf k (fad k.c.p (fml k.c.p (fad k.c.p (fml k.c.p t.x t.x) (fml k.c.p k.c.a (fml k.c.p t.z t.z))) t.x) (fml k.c.p k.c.b (fml k.c.p (fml k.c.p t.z t.z) t.z))) := by
      simp only [cf_fml, cf_fad]
      rcases hg : gm k n with _ | ⟨a, b⟩
      · rw [hg] at hr
        have h1 : cf k t.x = 0 := hr.1
        have h2 : cf k t.z = 0 := hr.2.1
        rw [h1, h2]
        clear hr hon h1 h2 hg
        grind -lia -linarith -order (splits := 0) (ematch := 0)
      · rw [hg] at hr hon
        have h1 : cf k t.x = a * cf k t.z := hr.2.1
        have h2 : cf k t.y = b * cf k t.z := hr.2.2
        have h3 : b * b = a * a * a + cf k k.c.a * a + cf k k.c.b := hon
        rw [h1, h2]
        generalize cf k t.z = z
        generalize cf k k.c.a = A at *
        generalize cf k k.c.b = B at *
        have e2 : b * z * (b * z) * z = (b * b) * (z * z * z) := by clear h1 h2 h3 hr hon hg; grind -lia -linarith -order (splits := 0) (ematch := 0)
        rw [e2, h3]
        clear h1 h2 h3 hr hon hg e2
        grind -lia -linarith -order (splits := 0) (ematch := 0)
    have h := congrArg Fin.val e
    rwa [val_cf k (fml_lt _ _ k.p0), val_cf k (fad_lt _ _ k.p0)] at h
set_option maxRecDepth 100000 in
set_option maxHeartbeats 4000000 in
theorem proj_open0 (k : CK) (w : World) : Calls Try.prog 34 #[.int .i64 k.1, .slice none 0 0] w fun e w' => ∃ c f d, e = .returned (.tuple #[.pointer (some ⟨c, 0, none⟩), .int .i64 0]) ∧ CurveAt w' c f d k.c ∧ Below w.heap.size w w' := by
  go_enter Try.func34, Try.ntmps34
  go_upto_region 1 with fail
  have M := Lib.hid (Mem.nil w)
  refine wp_region_lit ?_
  refine wpList_pureL rfl (.int .i64 (k.1 : Int)) (fun u => by kernel_rfl) ?_
  refine wpList_fnE rfl 18 (.func 18) #[.tmp 9] #[3] rfl #[] #[.int .i64 (k.1 : Int)] (by kernel_rfl) (by kernel_rfl) (fun u => callFunc_enter _ _ _ _ u Try.func18 (by kernel_rfl) (by kernel_rfl)) (T := Nat) (fun c => .pointer (some ⟨c, 0, none⟩)) (fun c w' => ∃ f d, CurveAt w' c f d k.c ∧ Below w.heap.size w w') ((k.open_ w).mono fun e w' ⟨c, f, d, he, hr, _, hb⟩ => ⟨c, he, f, d, hr, hb⟩) ?_
  rintro c w2 ⟨f, d, hc, hb⟩
  have M2 := Lib.hid (MC.of (M.out.grow hb) hc)
  clear hc hb M
  refine wpList_pureL rfl (.pointer (some ⟨c, 0, none⟩)) (fun u => by kernel_rfl) ?_
  refine wpList_nil ?_
  try simp only [Act.put, sl1, sl2, sl3, sl4, sl5, sl6]
  go_upto_region 2 with (fail)
  refine wp_region_lit ?_
  refine wpList_pureL rfl (.pointer (some ⟨c, 0, none⟩)) (fun u => by kernel_rfl) ?_
  refine wpList_pureL rfl (.bool false) (fun u => by kernel_rfl) ?_
  refine wpList_nil ?_
  try simp only [Act.put, sl1, sl2, sl3, sl4, sl5, sl6]
  go_upto_region 5 with (fail)
  go_loopw [15] (fun iv wr => iv = .int .i64 0 ∧ MC w wr [] c f d k.c) (fun _ _ => 0)
  case atStart => exact ⟨rfl, M2.out⟩
  case round =>
    obtain ⟨rfl, hm⟩ := hrel
    have M := Lib.hid hm
    clear hm M2
    go_wp2_with (fail)
    exact bodyPost_ret (results_tmp2 rfl _ _ _) rfl ⟨c, f, d, rfl, M.out.crv, M.out.below⟩
set_option maxRecDepth 100000 in
set_option maxHeartbeats 4000000 in
theorem proj_open1 (k : CK) (t : Tri) (n y : Nat) (fr : Nat × Nat) (w : World) (ht : Rp k t n) (hy : w.heap[y]? = some (.cells (pc t.x t.y t.z) 48 fr)) : Calls Try.prog 34 #[.int .i64 k.1, .slice (some ⟨y, 0, none⟩) 1 1] w fun e w' => ∃ c f d, e = .returned (.tuple #[.pointer (some ⟨c, 0, none⟩), .int .i64 0]) ∧ CurveAt w' c f d k.c ∧ Below w.heap.size w w' := by
  have HT := Lib.hid ht
  have HY := Lib.hid hy
  clear ht hy
  go_enter Try.func34, Try.ntmps34
  go_upto_region 1 with fail
  have M := Lib.hid (Mem.nil w)
  refine wp_region_lit ?_
  refine wpList_pureL rfl (.int .i64 (k.1 : Int)) (fun u => by kernel_rfl) ?_
  refine wpList_fnE rfl 18 (.func 18) #[.tmp 9] #[3] rfl #[] #[.int .i64 (k.1 : Int)] (by kernel_rfl) (by kernel_rfl) (fun u => callFunc_enter _ _ _ _ u Try.func18 (by kernel_rfl) (by kernel_rfl)) (T := Nat) (fun c => .pointer (some ⟨c, 0, none⟩)) (fun c w' => ∃ f d, CurveAt w' c f d k.c ∧ Below w.heap.size w w') ((k.open_ w).mono fun e w' ⟨c, f, d, he, hr, _, hb⟩ => ⟨c, he, f, d, hr, hb⟩) ?_
  rintro c w2 ⟨f, d, hc, hb⟩
  have M2 := Lib.hid (MC.of (M.out.grow hb) hc)
  clear hc hb M
  refine wpList_pureL rfl (.pointer (some ⟨c, 0, none⟩)) (fun u => by kernel_rfl) ?_
  refine wpList_nil ?_
  try simp only [Act.put, sl1, sl2, sl3, sl4, sl5, sl6]
  go_upto_region 2 with (fail)
  refine wp_region_lit ?_
  refine wpList_pureL rfl (.pointer (some ⟨c, 0, none⟩)) (fun u => by kernel_rfl) ?_
  refine wpList_pureL rfl (.bool false) (fun u => by kernel_rfl) ?_
  refine wpList_nil ?_
  try simp only [Act.put, sl1, sl2, sl3, sl4, sl5, sl6]
  go_upto_region 5 with (fail)
  go_loopw [15] (fun iv wr => ∃ q : Nat, q ≤ 1 ∧ iv = .int .i64 (q : Int) ∧ MC w wr [] c f d k.c) (fun iv _ => (1 - intOf iv).toNat)
  case atStart => exact ⟨0, by decide, rfl, M2.out⟩
  case round =>
    obtain ⟨q, hq, rfl, hm⟩ := hrel
    have N := Lib.hid hm
    clear hm M2
    rcases (show q = 0 ∨ q = 1 by omega) with rfl | rfl
    · skip
      go_upto_region 6 with (fail)
      refine wp_region_lit ?_
      try simp only [Act.put, sl1, sl2, sl3, sl4, sl5, sl6]
      refine wpList_pureL rfl (.pointer (some ⟨y, 0 * 27, none⟩)) (idx_slice 110 (.tmp 13) (.tmp 15) rfl y 1 1 0 27 (by kernel_rfl) (by kernel_rfl) (by decide) Try.underlying110 (by kernel_rfl)) ?_
      refine wpList_load_seg rfl 48 (.tmp 17) rfl y (0 * 27) 27 (by kernel_rfl) _ _ (pc t.x t.y t.z) _ _ (grows_at HY.out N.out.1) Try.underlying48 rfl (by kernel_rfl) (pc_size _ _ _) (fun j hj => by rw [Nat.zero_mul, Nat.zero_add]) ?_
      refine wpList_new rfl 48 rfl (.agg (pc 0 0 0)) (by rw [pc_zero]; kernel_rfl) ?_
      intro xp w2 hx hx2 hgv hh
      have Nw2 := Lib.hid (show MC w w2 [(xp, pc 0 0 0, 48)] c f d k.c from N.out.new hgv (Nat.le_of_eq hx) hh)
      clear hx hx2 hgv hh N
      refine wpList_store_blk rfl 48 (.tmp 8) (.tmp 18) rfl xp (by kernel_rfl) _ _ (pc t.x t.y t.z) (by kernel_rfl) (Nw2.out.at 0 rfl) (by rw [pc_size]; kernel_rfl) (by simp only [pc_size]) (pc_one _ _ _) ?_
      intro w3 hw hb hs
      have Nw3 := Lib.hid (Nw2.out.store 0 rfl hb hs hw)
      clear hw hb hs Nw2
      refine wpList_nil ?_
      try simp only [Act.put, sl1, sl2, sl3, sl4, sl5, sl6]
      go_upto_region 7 with (fail)
      refine wp_region_lit ?_
      refine wpList_pureL rfl (.pointer (some ⟨c, 0, none⟩)) (fun u => by kernel_rfl) ?_
      refine wpList_load_seg rfl 48 (.tmp 8) rfl xp 0 27 (by kernel_rfl) _ _ (pc t.x t.y t.z) _ _ (Nw3.out.at 0 rfl) Try.underlying48 rfl (by kernel_rfl) (pc_size _ _ _) (fun j hj => by rw [Nat.zero_add]) ?_
      refine wpList_fnL rfl 53 (.func 53) #[.tmp 19, .tmp 20] #[54, 48] rfl #[] #[.pointer (some ⟨c, 0, none⟩), .agg (pc t.x t.y t.z)] (by kernel_rfl) (by kernel_rfl) (fun u => callFunc_enter _ _ _ _ u Try.func53 (by kernel_rfl) (by kernel_rfl)) (.bool true) (has_rp k c f d w3 HT.out Nw3.out.crv) (fun w4 hb => ?_)
      have Nw4 := Lib.hid (Nw3.out.grow hb)
      clear hb Nw3
      refine wpList_pureL rfl (.bool false) (fun u => by kernel_rfl) ?_
      refine wpList_nil ?_
      try simp only [Act.put, sl1, sl2, sl3, sl4, sl5, sl6]
      go_wp2_with (fail)
      go_roundw
      case rel => exact ⟨1, by omega, by go_num, Nw4.out.take 0⟩
      case measure => simp [intOf]
    · go_wp2_with (fail)
      exact bodyPost_ret (results_tmp2 rfl _ _ _) rfl ⟨c, f, d, rfl, N.out.crv, N.out.below⟩
theorem results_J2 {fn : Func} {p q : Tmp} (h : fn.results = #[.cell p 48, .tmp q]) (tmps : Array Value) (w : World) (g : Nat) (t : TypeId) (x y z : Nat) (fr : Nat × Nat) (v : Value)
    (hp : tmps.getD p undef = .pointer (some ⟨g, 0, none⟩)) (hq : tmps.getD q undef = v) (hg : w.heap[g]? = some (.cells (pc x y z) t fr)) :
    (results fn tmps).run Try.prog w = .ok (.tuple #[.agg (pc x y z), v]) w := by
  have hp' : tmps[p]?.getD undef = .pointer (some ⟨g, 0, none⟩) := by simpa using hp
  have hq' : tmps[q]?.getD undef = v := by simpa using hq
  simp [results, h, hp', hq', asAddr, run_load_seg w g 0 27 t 48 (pc x y z) (pc x y z) fr _ hg Try.underlying48 rfl (by kernel_rfl) (pc_size _ _ _) (fun j _ => by rw [Nat.zero_add])]
set_option maxRecDepth 100000 in
set_option maxHeartbeats 4000000 in
theorem proj_from (k : CK) (n : Nat) (w : World) : Calls Try.prog 15 #[.int .i64 k.1, .agg (gpt k n)] w fun e w' => e = .returned (.tuple #[.agg (tc (trN k (gm k n))), .int .i64 0]) ∧ Below w.heap.size w w' := by
  go_enter Try.func15, Try.ntmps15
  go_upto_region 1 with fail
  rw [← pc_zero]
  have m0 := Mem.start2 w (gpt k n) (pc 0 0 0) 28 48
  obtain ⟨w1, hw1⟩ : ∃ w1 : World, w1 = ((w.alloc (.cells (gpt k n) 28)).alloc (.cells (pc 0 0 0) 48)) := ⟨_, rfl⟩
  rw [← hw1] at m0 ⊢
  clear hw1
  obtain ⟨g, hg⟩ : ∃ g, g = w.heap.size := ⟨_, rfl⟩
  rw [← hg] at m0 ⊢
  have HG := Lib.hid hg
  have M := Lib.hid m0
  clear hg m0
  go_upto_region 1 with (fail)
  refine wp_region_lit ?_
  refine wpList_pureL rfl (.int .i64 (k.1 : Int)) (fun u => by kernel_rfl) ?_
  refine wpList_fnE rfl 34 (.func 34) #[.tmp 9, .const (.slice none 0 0)] #[3, 110] rfl #[] #[.int .i64 (k.1 : Int), .slice none 0 0] (by kernel_rfl) (by kernel_rfl) (fun u => callFunc_enter _ _ _ _ u Try.func34 (by kernel_rfl) (by kernel_rfl)) (T := Nat) (fun c => .tuple #[.pointer (some ⟨c, 0, none⟩), .int .i64 0]) (fun c w' => ∃ f d, CurveAt w' c f d k.c ∧ Below w1.heap.size w1 w') ((proj_open0 k w1).mono fun e w' ⟨c, f, d, he, hr, hb⟩ => ⟨c, he, f, d, hr, hb⟩) ?_
  rintro c w2 ⟨f, d, hc, hb⟩
  have Nw2 := Lib.hid (MC.of (M.out.grow hb) hc)
  clear hc hb M
  refine wpList_pureL rfl (.tuple #[.pointer (some ⟨c, 0, none⟩), .int .i64 0]) (fun u => by kernel_rfl) ?_
  refine wpList_pureL rfl (.pointer (some ⟨c, 0, none⟩)) (fun u => by kernel_rfl) ?_
  refine wpList_pureL rfl (.int .i64 0) (fun u => by kernel_rfl) ?_
  refine wpList_pureL rfl (.pointer (some ⟨c, 0, none⟩)) (fun u => by kernel_rfl) ?_
  refine wpList_pureL rfl (.int .i64 0) (fun u => by kernel_rfl) ?_
  refine wpList_nil ?_
  try simp only [Act.put, sl1, sl2, sl3, sl4, sl5, sl6]
  go_upto_region 2 with (fail)
  refine wp_region_lit ?_
  refine wpList_pureL rfl (.int .i64 0) (fun u => by kernel_rfl) ?_
  refine wpList_pureL rfl (.bool false) (fun u => by kernel_rfl) ?_
  refine wpList_pureL rfl (.bool false) (fun u => by kernel_rfl) ?_
  refine wpList_nil ?_
  try simp only [Act.put, sl1, sl2, sl3, sl4, sl5, sl6]
  go_upto_region 4 with (fail)
  refine wp_region_lit ?_
  refine wpList_pureL rfl (.pointer (some ⟨c, 0, none⟩)) (fun u => by kernel_rfl) ?_
  refine wpList_load_seg rfl 28 (.tmp 3) rfl g 0 19 (by kernel_rfl) _ _ (gpt k n) _ _ (Nw2.out.at 0 rfl) Try.underlying28 rfl (by kernel_rfl) (gpt_size _ _) (fun j hj => by rw [Nat.zero_add]) ?_
  refine wpList_fnL rfl 28 (.func 28) #[.tmp 19, .tmp 20] #[54, 28] rfl #[] #[.pointer (some ⟨c, 0, none⟩), .agg (gpt k n)] (by kernel_rfl) (by kernel_rfl) (fun u => callFunc_enter _ _ _ _ u Try.func28 (by kernel_rfl) (by kernel_rfl)) (.bool true) (on_rp k n c f d w2 Nw2.out.crv) (fun w3 hb => ?_)
  have Nw3 := Lib.hid (Nw2.out.grow hb)
  clear hb Nw2
  refine wpList_pureL rfl (.bool false) (fun u => by kernel_rfl) ?_
  refine wpList_pureL rfl (.bool false) (fun u => by kernel_rfl) ?_
  refine wpList_nil ?_
  try simp only [Act.put, sl1, sl2, sl3, sl4, sl5, sl6]
  go_upto_region 6 with (fail)
  refine wp_region_lit ?_
  refine wpList_load_seg rfl 28 (.tmp 3) rfl g 0 19 (by kernel_rfl) _ _ (gpt k n) _ _ (Nw3.out.at 0 rfl) Try.underlying28 rfl (by kernel_rfl) (gpt_size _ _) (fun j hj => by rw [Nat.zero_add]) ?_
  refine wpList_fnL rfl 27 (.func 27) #[.tmp 24] #[28] rfl #[] #[.agg (gpt k n)] (by kernel_rfl) (by kernel_rfl) (fun u => callFunc_enter _ _ _ _ u Try.func27 (by kernel_rfl) (by kernel_rfl)) (.agg (pc ((trN k (gm k n)).x) ((trN k (gm k n)).y) ((trN k (gm k n)).z))) (triple_rp k n w3) (fun w4 hb => ?_)
  have Nw4 := Lib.hid (Nw3.out.grow hb)
  clear hb Nw3
  refine wpList_store_blk rfl 48 (.tmp 4) (.tmp 25) rfl (g + 1) (by kernel_rfl) _ _ (pc ((trN k (gm k n)).x) ((trN k (gm k n)).y) ((trN k (gm k n)).z)) (by kernel_rfl) (Nw4.out.at 1 rfl) (by rw [pc_size]; kernel_rfl) (by simp only [pc_size]) (pc_one _ _ _) ?_
  intro w5 hw hb hs
  have Nw5 := Lib.hid (Nw4.out.store 1 rfl hb hs hw)
  clear hw hb hs Nw4
  refine wpList_pureL rfl (.int .i64 0) (fun u => by kernel_rfl) ?_
  refine wpList_nil ?_
  try simp only [Act.put, sl1, sl2, sl3, sl4, sl5, sl6]
  go_wp2_with (fail)
  exact bodyPost_ret (results_J2 rfl _ _ (g + 1) _ _ _ _ _ _ rfl rfl (Nw5.out.at 1 rfl)) rfl ⟨rfl, Nw5.out.below⟩
theorem info_pj : ∃ i z, Try.prog.info? 48 = some i ∧ i.zero = some z ∧ i.size = 27 ∧ z.cells.size = 27 := by
  have h : (Try.prog.info? 48).map (fun i => (i.zero, i.size)) = some (some (.agg #[wn 0, wn 0, wn 0, wn 0, wn 0, wn 0, wn 0, wn 0, wn 0, wn 0, wn 0, wn 0, wn 0, wn 0, wn 0, wn 0, wn 0, wn 0, wn 0, wn 0, wn 0, wn 0, wn 0, wn 0, wn 0, wn 0, wn 0]), 27) := by kernel_rfl
  obtain ⟨ie, h1, h2⟩ := Option.map_eq_some_iff.1 h
  injection h2 with h3 h4
  exact ⟨ie, _, h1, h3, h4, by kernel_rfl⟩
set_option maxRecDepth 100000 in
set_option maxHeartbeats 4000000 in
theorem proj_to (k : CK) (t : Tri) (n : Nat) (w : World) (ht : Rp k t n) : Calls Try.prog 16 #[.int .i64 k.1, .agg (tc t)] w fun e w' => e = .returned (.tuple #[.agg (gpt k n), .int .i64 0]) ∧ Below w.heap.size w w' := by
  have HT := Lib.hid ht
  clear ht
  show Calls _ _ #[_, .agg (pc t.x t.y t.z)] _ _
  go_enter Try.func16, Try.ntmps16
  go_upto_region 1 with fail
  rw [← ptc_zero]
  have m0 := Mem.start2 w (pc t.x t.y t.z) (ptc 0 0 false) 48 28
  obtain ⟨w1, hw1⟩ : ∃ w1 : World, w1 = ((w.alloc (.cells (pc t.x t.y t.z) 48)).alloc (.cells (ptc 0 0 false) 28)) := ⟨_, rfl⟩
  rw [← hw1] at m0 ⊢
  clear hw1
  obtain ⟨g, hg⟩ : ∃ g, g = w.heap.size := ⟨_, rfl⟩
  rw [← hg] at m0 ⊢
  have HG := Lib.hid hg
  have M := Lib.hid m0
  clear hg m0
  obtain ⟨ie, z, hie, hz, hsz, hzs⟩ := info_pj
  go_upto_region 1 with (fail)
  refine wp_region_lit ?_
  refine wpList_pureL rfl (.int .i64 (k.1 : Int)) (fun u => by kernel_rfl) ?_
  refine wpList_load_seg rfl 48 (.tmp 3) rfl g 0 27 (by kernel_rfl) _ _ (pc t.x t.y t.z) _ _ (M.out.at 0 rfl) Try.underlying48 rfl (by kernel_rfl) (pc_size _ _ _) (fun j hj => by rw [Nat.zero_add]) ?_
  refine wpList_slice1 rfl 110 48 (.tmp 10) rfl (.agg (pc t.x t.y t.z)) (by kernel_rfl) ie z 27 (by decide) (by decide) Try.underlying110 hie hz hsz hzs (pc_size _ _ _) ?_
  intro y wy hx hx2 hgv hh
  have NY := Lib.hid (show Mem w wy [(g, pc t.x t.y t.z, 48), (g + 1, ptc 0 0 false, 28), (y, pc t.x t.y t.z, 48)] from M.out.new hgv (Nat.le_of_eq hx) hh)
  clear hx hx2 hgv hh M
  refine wpList_fnE rfl 34 (.func 34) #[.tmp 9, .tmp 11] #[3, 110] rfl #[] #[.int .i64 (k.1 : Int), .slice (some ⟨y, 0, none⟩) 1 1] (by kernel_rfl) (by kernel_rfl) (fun u => callFunc_enter _ _ _ _ u Try.func34 (by kernel_rfl) (by kernel_rfl)) (T := Nat) (fun c => .tuple #[.pointer (some ⟨c, 0, none⟩), .int .i64 0]) (fun c w' => ∃ f d, CurveAt w' c f d k.c ∧ Below wy.heap.size wy w') ((proj_open1 k t n y _ wy HT.out (NY.out.at 2 rfl)).mono fun e w' ⟨c, f, d, he, hr, hb⟩ => ⟨c, he, f, d, hr, hb⟩) ?_
  rintro c w2 ⟨f, d, hc, hb⟩
  have Nw2 := Lib.hid (MC.of (NY.out.grow hb) hc)
  clear hc hb NY
  refine wpList_pureL rfl (.tuple #[.pointer (some ⟨c, 0, none⟩), .int .i64 0]) (fun u => by kernel_rfl) ?_
  refine wpList_pureL rfl (.pointer (some ⟨c, 0, none⟩)) (fun u => by kernel_rfl) ?_
  refine wpList_pureL rfl (.int .i64 0) (fun u => by kernel_rfl) ?_
  refine wpList_pureL rfl (.pointer (some ⟨c, 0, none⟩)) (fun u => by kernel_rfl) ?_
  refine wpList_pureL rfl (.int .i64 0) (fun u => by kernel_rfl) ?_
  refine wpList_nil ?_
  try simp only [Act.put, sl1, sl2, sl3, sl4, sl5, sl6]
  go_upto_region 2 with (fail)
  refine wp_region_lit ?_
  refine wpList_pureL rfl (.int .i64 0) (fun u => by kernel_rfl) ?_
  refine wpList_pureL rfl (.bool false) (fun u => by kernel_rfl) ?_
  refine wpList_nil ?_
  try simp only [Act.put, sl1, sl2, sl3, sl4, sl5, sl6]
  go_upto_region 4 with (fail)
  refine wp_region_lit ?_
  refine wpList_pureL rfl (.pointer (some ⟨c, 0, none⟩)) (fun u => by kernel_rfl) ?_
  refine wpList_load_seg rfl 48 (.tmp 3) rfl g 0 27 (by kernel_rfl) _ _ (pc t.x t.y t.z) _ _ (Nw2.out.at 0 rfl) Try.underlying48 rfl (by kernel_rfl) (pc_size _ _ _) (fun j hj => by rw [Nat.zero_add]) ?_
  refine wpList_fnL rfl 25 (.func 25) #[.tmp 19, .tmp 20] #[54, 48] rfl #[] #[.pointer (some ⟨c, 0, none⟩), .agg (pc t.x t.y t.z)] (by kernel_rfl) (by kernel_rfl) (fun u => callFunc_enter _ _ _ _ u Try.func25 (by kernel_rfl) (by kernel_rfl)) (.agg (gpt k n)) (plain_rp k c f d w2 HT.out Nw2.out.crv) (fun w3 hb => ?_)
  have Nw3 := Lib.hid (Nw2.out.grow hb)
  clear hb Nw2
  refine wpList_store_blk rfl 28 (.tmp 4) (.tmp 21) rfl (g + 1) (by kernel_rfl) _ _ (gpt k n) (by kernel_rfl) (Nw3.out.at 1 rfl) (by rw [gpt_size]; kernel_rfl) (by simp only [gpt_size, ptc_size]) (gpt_one _ _) ?_
  intro w4 hw hb hs
  have Nw4 := Lib.hid (Nw3.out.store 1 rfl hb hs hw)
  clear hw hb hs Nw3
  refine wpList_pureL rfl (.int .i64 0) (fun u => by kernel_rfl) ?_
  refine wpList_nil ?_
  try simp only [Act.put, sl1, sl2, sl3, sl4, sl5, sl6]
  go_wp2_with (fail)
  exact bodyPost_ret (results_O2 rfl _ _ (g + 1) _ _ _ _ (gpt_size _ _) rfl rfl (Nw4.out.at 1 rfl)) rfl ⟨rfl, Nw4.out.below⟩
set_option maxRecDepth 100000 in
set_option maxHeartbeats 4000000 in
theorem curve_on_fn (k : CK) (n : Nat) (w : World) : Calls Try.prog 17 #[.int .i64 k.1, .agg (gpt k n)] w fun e w' => e = .returned (.bool true) ∧ Below w.heap.size w w' := by
  go_enter Try.func17, Try.ntmps17
  go_upto_region 1 with fail
  have m0 := Mem.start1 w (gpt k n) 28
  obtain ⟨w1, hw1⟩ : ∃ w1 : World, w1 = (w.alloc (.cells (gpt k n) 28)) := ⟨_, rfl⟩
  rw [← hw1] at m0 ⊢
  clear hw1
  obtain ⟨g, hg⟩ : ∃ g, g = w.heap.size := ⟨_, rfl⟩
  rw [← hg] at m0 ⊢
  have HG := Lib.hid hg
  have M := Lib.hid m0
  clear hg m0
  go_upto_region 1 with (fail)
  refine wp_region_lit ?_
  refine wpList_pureL rfl (.int .i64 (k.1 : Int)) (fun u => by kernel_rfl) ?_
  refine wpList_fnE rfl 18 (.func 18) #[.tmp 6] #[3] rfl #[] #[.int .i64 (k.1 : Int)] (by kernel_rfl) (by kernel_rfl) (fun u => callFunc_enter _ _ _ _ u Try.func18 (by kernel_rfl) (by kernel_rfl)) (T := Nat) (fun c => .pointer (some ⟨c, 0, none⟩)) (fun c w' => ∃ f d, CurveAt w' c f d k.c ∧ Below w1.heap.size w1 w') ((k.open_ w1).mono fun e w' ⟨c, f, d, he, hr, _, hb⟩ => ⟨c, he, f, d, hr, hb⟩) ?_
  rintro c w2 ⟨f, d, hc, hb⟩
  have M2 := Lib.hid (MC.of (M.out.grow hb) hc)
  clear hc hb M
  refine wpList_pureL rfl (.pointer (some ⟨c, 0, none⟩)) (fun u => by kernel_rfl) ?_
  refine wpList_nil ?_
  try simp only [Act.put, sl1, sl2, sl3, sl4, sl5, sl6]
  go_upto_region 2 with (fail)
  refine wp_region_lit ?_
  refine wpList_pureL rfl (.pointer (some ⟨c, 0, none⟩)) (fun u => by kernel_rfl) ?_
  refine wpList_pureL rfl (.bool true) (fun u => by kernel_rfl) ?_
  refine wpList_pureL rfl (.bool true) (fun u => by kernel_rfl) ?_
  try simp only [Act.put, sl1, sl2, sl3, sl4, sl5, sl6]
  refine wpList_wantL (by kernel_rfl) (.pointer (some ⟨c, 0, none⟩)) (fun u => by kernel_rfl) ?_
  try simp only [Act.put, sl1, sl2, sl3, sl4, sl5, sl6]
  refine wpList_segG (by kernel_rfl) 28 (.tmp 3) rfl g 0 19 (by kernel_rfl) (gpt k n) (M2.out.at 0 rfl) _ Try.underlying28 rfl (by kernel_rfl) (gpt_size _ _) (fun j hj => by rw [Nat.zero_add]) ?_
  try simp only [Act.put, sl1, sl2, sl3, sl4, sl5, sl6]
  refine wpList_fnG (by kernel_rfl) 28 (.func 28) #[.tmp 11, .tmp 12] #[54, 28] rfl #[] #[.pointer (some ⟨c, 0, none⟩), .agg (gpt k n)] (by kernel_rfl) (by kernel_rfl) (fun u => callFunc_enter _ _ _ _ u Try.func28 (by kernel_rfl) (by kernel_rfl)) (.bool true) (on_rp k n c f d w2 M2.out.crv) (fun w2 hb => ?_)
  have Nw2 := Lib.hid (M2.out.grow hb)
  clear hb M2
  try simp only [Act.put, sl1, sl2, sl3, sl4, sl5, sl6]
  refine wpList_pureL rfl (.bool true) (fun u => by kernel_rfl) ?_
  refine wpList_pureL rfl (.bool true) (fun u => by kernel_rfl) ?_
  refine wpList_nil ?_
  try simp only [Act.put, sl1, sl2, sl3, sl4, sl5, sl6]
  go_wp2_with (fail)
  go_ret
  exact ⟨rfl, Nw2.out.below⟩
end Go.Proofs.Ytkoonhiplicbkaa.Cw
