/-
  (package affine) slope: the third point of a line. Condition: numbers below P.
  (package affine) add: two points by chord and tangent. Condition: points of the curve.
  (package affine) add at multiples of G. Condition: one of the 15 curves.
-/
import Derived.Test.YtkoonhiplicbkaaMb1
set_option linter.unusedSimpArgs false
set_option linter.unusedVariables false
namespace Go.Proofs.Ytkoonhiplicbkaa.Cw
open Go Go.RowKit
theorem Mem.start5 (w : World) (C1 C2 C3 C4 C5 : Array Value) (t1 t2 t3 t4 t5 : TypeId) : Mem w (((((w.alloc (.cells C1 t1)).alloc (.cells C2 t2)).alloc (.cells C3 t3)).alloc (.cells C4 t4)).alloc (.cells C5 t5)) [(w.heap.size, C1, t1), (w.heap.size + 1, C2, t2), (w.heap.size + 1 + 1, C3, t3), (w.heap.size + 1 + 1 + 1, C4, t4), (w.heap.size + 1 + 1 + 1 + 1, C5, t5)] := by
  have := (Mem.start4 w C1 C2 C3 C4 t1 t2 t3 t4).alloc C5 t5
  simpa only [heap_succ, List.cons_append, List.nil_append] using this
attribute [local irreducible] pc ptc nc ac cuc fc
attribute [local go_sem ↓ high] wn_eql wn_neq wn_lss wn_gtr wn_leq wn_geq wn_cells wn_run_store wn_guard lit0 lit1
attribute [local go_sem high] wn_match wn_run_store wn_eql wn_neq wn_lss wn_gtr wn_leq wn_geq
/-- X of the third point -/
def slx (p l x1 x2 : Nat) : Nat := fsb p (fsb p (fml p l l) x1) x2
def sly (p l x1 y1 x3 : Nat) : Nat := fsb p (fml p l (fsb p x1 x3)) y1

set_option maxRecDepth 100000 in
set_option maxHeartbeats 4000000 in
theorem affine_slope (c f d l x1 y1 x2 y2 : Nat) (b1 b2 : Bool) (cu : Cv) (w : World) (hl : l < cu.p) (hx1 : x1 < cu.p) (hy1 : y1 < cu.p) (hx2 : x2 < cu.p) (H : CurveAt w c f d cu) : Calls Try.prog 43 #[.agg #[.pointer (some ⟨c, 0, none⟩)], .agg (nc l), .agg (ptc x1 y1 b1), .agg (ptc x2 y2 b2)] w fun e w' => e = .returned (.agg (ptc (slx cu.p l x1 x2) (sly cu.p l x1 y1 (slx cu.p l x1 x2)) false)) ∧ Below w.heap.size w w' := by
  obtain ⟨hk, hfd, hcb⟩ := H
  have HK := Lib.hid hk
  have HF := Lib.hid hfd
  have HCB := Lib.hid hcb
  have Hl := Lib.hid hl
  have Hx1 := Lib.hid hx1
  have Hy1 := Lib.hid hy1
  have Hx2 := Lib.hid hx2
  clear hk hfd hcb hl hx1 hy1 hx2
  obtain ⟨k0, e0⟩ : ∃ v, v = fml cu.p l l := ⟨_, rfl⟩
  obtain ⟨k1, e1⟩ : ∃ v, v = fsb cu.p k0 x1 := ⟨_, rfl⟩
  obtain ⟨k2, e2⟩ : ∃ v, v = fsb cu.p k1 x2 := ⟨_, rfl⟩
  obtain ⟨k3, e3⟩ : ∃ v, v = fsb cu.p x1 k2 := ⟨_, rfl⟩
  obtain ⟨k4, e4⟩ : ∃ v, v = fml cu.p l k3 := ⟨_, rfl⟩
  obtain ⟨k5, e5⟩ : ∃ v, v = fsb cu.p k4 y1 := ⟨_, rfl⟩
  have F1 := Lib.hid (show slx cu.p l x1 x2 = k2 by subst e0 e1 e2 e3 e4 e5; rfl)
  have F2 := Lib.hid (show sly cu.p l x1 y1 k2 = k5 by subst e0 e1 e2 e3 e4 e5; rfl)
  have E0 := Lib.hid e0
  have L0 := Lib.hid (show k0 < cu.p by rw [E0.out]; exact fml_lt _ _ HK.out.1)
  clear e0
  have E1 := Lib.hid e1
  have L1 := Lib.hid (show k1 < cu.p by rw [E1.out]; exact fsb_lt _ _ HK.out.1)
  clear e1
  have E2 := Lib.hid e2
  have L2 := Lib.hid (show k2 < cu.p by rw [E2.out]; exact fsb_lt _ _ HK.out.1)
  clear e2
  have E3 := Lib.hid e3
  have L3 := Lib.hid (show k3 < cu.p by rw [E3.out]; exact fsb_lt _ _ HK.out.1)
  clear e3
  have E4 := Lib.hid e4
  have L4 := Lib.hid (show k4 < cu.p by rw [E4.out]; exact fml_lt _ _ HK.out.1)
  clear e4
  have E5 := Lib.hid e5
  have L5 := Lib.hid (show k5 < cu.p by rw [E5.out]; exact fsb_lt _ _ HK.out.1)
  clear e5
  go_enter Try.func43, Try.ntmps43
  go_upto_region 1 with fail
  rw [← ptc_zero]
  have m0 := Mem.start5 w (#[.pointer (some ⟨c, 0, none⟩)]) (nc l) (ptc x1 y1 b1) (ptc x2 y2 b2) (ptc 0 0 false) 67 26 28 28 28
  obtain ⟨w1, hw1⟩ : ∃ w1 : World, w1 = (((((w.alloc (.cells (#[.pointer (some ⟨c, 0, none⟩)]) 67)).alloc (.cells (nc l) 26)).alloc (.cells (ptc x1 y1 b1) 28)).alloc (.cells (ptc x2 y2 b2) 28)).alloc (.cells (ptc 0 0 false) 28)) := ⟨_, rfl⟩
  rw [← hw1] at m0 ⊢
  clear hw1
  obtain ⟨g, hg⟩ : ∃ g, g = w.heap.size := ⟨_, rfl⟩
  rw [← hg] at m0 ⊢
  have HG := Lib.hid hg
  have M := Lib.hid m0
  clear hg m0
  refine wp_region_lit ?_
  refine wpList_pureL rfl (.pointer (some ⟨g, 0, none⟩)) (fun u => by kernel_rfl) ?_
  refine wpList_load_cell rfl 54 (.tmp 11) rfl g 0 (by kernel_rfl) (.pointer (some ⟨c, 0, none⟩)) _ Try.underlying54 rfl ((cell_of (M.out.at 0 rfl) 0).trans (rfl)) ?_
  refine wpList_pureL rfl (.pointer (some ⟨c, 0, none⟩)) (fun u => by kernel_rfl) ?_
  refine wpList_pureL rfl (.pointer (some ⟨c, 59, none⟩)) (fun u => by kernel_rfl) ?_
  refine wpList_load_cell rfl 56 (.tmp 14) rfl c 59 (by kernel_rfl) (.pointer (some ⟨f, 0, none⟩)) _ Try.underlying56 rfl ((cell_of (grows_at HCB.out M.out.1) 59).trans (cuc_f cu f)) ?_
  refine wpList_pureL rfl (.pointer (some ⟨f, 0, none⟩)) (fun u => by kernel_rfl) ?_
  refine wpList_nil ?_
  try simp only [Act.put, sl1, sl2, sl3, sl4, sl5, sl6]
  go_upto_region 2 with (fail)
  have D2 := Lib.hid (M.out.drew)
  clear M
  refine wp_region_grow 12 13 (by kernel_rfl) (by kernel_rfl) (fun d v c a w h => by cases d <;> exact h) ?_
  simp only [List.take_succ_cons, List.take_zero]
  refine wpGrow_pure rfl (.pointer (some ⟨f, 0, none⟩)) (fun u => by kernel_rfl) ?_
  refine wpGrow_pure rfl (.pointer (some ⟨f, 0, none⟩)) (fun u => by kernel_rfl) ?_
  refine wpGrow_pure rfl (.pointer (some ⟨f, 0, none⟩)) (fun u => by kernel_rfl) ?_
  refine wpGrow_loadN0 rfl (.tmp 5) rfl (g + 1) (by kernel_rfl) (fun u hu => D2.out.up 1 rfl hu) ?_
  refine wpGrow_loadN0 rfl (.tmp 5) rfl (g + 1) (by kernel_rfl) (fun u hu => D2.out.up 1 rfl hu) ?_
  refine wpGrow_fn rfl 44 (.func 44) #[.tmp 18, .tmp 19, .tmp 20] #[56, 26, 26] rfl #[] #[.pointer (some ⟨f, 0, none⟩), .agg (nc l), .agg (nc l)] (by kernel_rfl) (by kernel_rfl) (fun u => callFunc_enter _ _ _ _ u Try.func44 (by kernel_rfl) (by kernel_rfl)) (.agg (nc k0)) (fun u hu => by have hcc := field_mul f cu.p d l l u (Hl.out) (Hl.out) (HF.out.up (grows_trans _ _ _ D2.out.1 hu)); rw [← E0.out] at hcc; exact hcc) ?_
  refine wpGrow_pure rfl (.pointer (some ⟨g + 1 + 1, 0, none⟩)) (fun u => by kernel_rfl) ?_
  refine wpGrow_loadN rfl (.tmp 22) rfl (g + 1 + 1) 0 (by kernel_rfl) x1 (fun u hu => D2.out.up 2 rfl hu) (ptc_x x1 y1 b1) ?_
  refine wpGrow_fn rfl 45 (.func 45) #[.tmp 17, .tmp 21, .tmp 23] #[56, 26, 26] rfl #[] #[.pointer (some ⟨f, 0, none⟩), .agg (nc k0), .agg (nc x1)] (by kernel_rfl) (by kernel_rfl) (fun u => callFunc_enter _ _ _ _ u Try.func45 (by kernel_rfl) (by kernel_rfl)) (.agg (nc k1)) (fun u hu => by have hcc := field_sub f cu.p d k0 x1 u (L0.out) (Hx1.out) (HF.out.up (grows_trans _ _ _ D2.out.1 hu)); rw [← E1.out] at hcc; exact hcc) ?_
  refine wpGrow_pure rfl (.pointer (some ⟨g + 1 + 1 + 1, 0, none⟩)) (fun u => by kernel_rfl) ?_
  refine wpGrow_loadN rfl (.tmp 25) rfl (g + 1 + 1 + 1) 0 (by kernel_rfl) x2 (fun u hu => D2.out.up 3 rfl hu) (ptc_x x2 y2 b2) ?_
  refine wpGrow_fn rfl 45 (.func 45) #[.tmp 16, .tmp 24, .tmp 26] #[56, 26, 26] rfl #[] #[.pointer (some ⟨f, 0, none⟩), .agg (nc k1), .agg (nc x2)] (by kernel_rfl) (by kernel_rfl) (fun u => callFunc_enter _ _ _ _ u Try.func45 (by kernel_rfl) (by kernel_rfl)) (.agg (nc k2)) (fun u hu => by have hcc := field_sub f cu.p d k1 x2 u (L1.out) (Hx2.out) (HF.out.up (grows_trans _ _ _ D2.out.1 hu)); rw [← E2.out] at hcc; exact hcc) ?_
  refine wpGrow_nil ?_
  try simp only [Act.put, sl1, sl2, sl3, sl4, sl5, sl6]
  refine grow_alloc (i := 12) (f := 1) (by kernel_rfl) (by decide) rfl rfl 26 rfl (.agg (nc 0)) (by rw [nc_zero]; kernel_rfl) ?_
  intro x v3 hx hx2 hgv hh
  have Nv3 := Lib.hid (D2.out.new hgv hx hh)
  have Nv3 : Hid (Mem w v3 [(g, #[.pointer (some ⟨c, 0, none⟩)], 67), (g + 1, nc l, 26), (g + 1 + 1, ptc x1 y1 b1, 28), (g + 1 + 1 + 1, ptc x2 y2 b2, 28), (g + 1 + 1 + 1 + 1, ptc 0 0 false, 28), (x, nc 0, 26)]) := Nv3
  clear hgv hx hx2 hh D2
  try simp only [Act.put, sl1, sl2, sl3, sl4, sl5, sl6]
  refine grow_stores (rs := [13]) (by kernel_rfl) (by decide) (fun w4 hg6 => ?_)
  have Nw4 := Lib.hid (Nv3.out.grow hg6)
  clear hg6 Nv3
  refine wpAny_ready (rs := [13]) (by kernel_rfl) (by simp) ?_
  refine AllReady.cons rfl (fun K hK => ?_) AllReady.nil
  refine step_store_blk rfl 26 (.tmp 10) (.tmp 27) rfl x rfl _ _ _ rfl (Nw4.out.at 5 rfl) (by rw [nc_size]; kernel_rfl) (by simp only [nc_size]) (nc_one _) (fun w5 hw hb hs => hK _ _ ?_)
  have Nw5 := Lib.hid (show Mem w w5 [(g, #[.pointer (some ⟨c, 0, none⟩)], 67), (g + 1, nc l, 26), (g + 1 + 1, ptc x1 y1 b1, 28), (g + 1 + 1 + 1, ptc x2 y2 b2, 28), (g + 1 + 1 + 1 + 1, ptc 0 0 false, 28), (x, nc k2, 26)] from Nw4.out.store 5 rfl hb hs hw)
  clear hK hw hb hs Nw4
  try simp only [Act.put, sl1, sl2, sl3, sl4, sl5, sl6]
  refine wpAny_done (by kernel_rfl) ?_ _
  try simp only [Act.put, sl1, sl2, sl3, sl4, sl5, sl6]
  go_upto_region 3 with (fail)
  have D6 := Lib.hid (Nw5.out.drew)
  clear Nw5
  refine wp_region_grow 14 14 (by kernel_rfl) (by kernel_rfl) (fun d v c a w h => by cases d <;> exact h) ?_
  simp only [List.take_succ_cons, List.take_zero]
  refine wpGrow_loadN0 rfl (.tmp 10) rfl x (by kernel_rfl) (fun u hu => D6.out.up 5 rfl hu) ?_
  refine wpGrow_pure rfl (.pointer (some ⟨f, 0, none⟩)) (fun u => by kernel_rfl) ?_
  refine wpGrow_pure rfl (.pointer (some ⟨f, 0, none⟩)) (fun u => by kernel_rfl) ?_
  refine wpGrow_loadN0 rfl (.tmp 5) rfl (g + 1) (by kernel_rfl) (fun u hu => D6.out.up 1 rfl hu) ?_
  refine wpGrow_pure rfl (.pointer (some ⟨f, 0, none⟩)) (fun u => by kernel_rfl) ?_
  refine wpGrow_pure rfl (.pointer (some ⟨g + 1 + 1, 0, none⟩)) (fun u => by kernel_rfl) ?_
  refine wpGrow_loadN rfl (.tmp 33) rfl (g + 1 + 1) 0 (by kernel_rfl) x1 (fun u hu => D6.out.up 2 rfl hu) (ptc_x x1 y1 b1) ?_
  refine wpGrow_loadN0 rfl (.tmp 10) rfl x (by kernel_rfl) (fun u hu => D6.out.up 5 rfl hu) ?_
  refine wpGrow_fn rfl 45 (.func 45) #[.tmp 32, .tmp 34, .tmp 35] #[56, 26, 26] rfl #[] #[.pointer (some ⟨f, 0, none⟩), .agg (nc x1), .agg (nc k2)] (by kernel_rfl) (by kernel_rfl) (fun u => callFunc_enter _ _ _ _ u Try.func45 (by kernel_rfl) (by kernel_rfl)) (.agg (nc k3)) (fun u hu => by have hcc := field_sub f cu.p d x1 k2 u (Hx1.out) (L2.out) (HF.out.up (grows_trans _ _ _ D6.out.1 hu)); rw [← E3.out] at hcc; exact hcc) ?_
  refine wpGrow_fn rfl 44 (.func 44) #[.tmp 30, .tmp 31, .tmp 36] #[56, 26, 26] rfl #[] #[.pointer (some ⟨f, 0, none⟩), .agg (nc l), .agg (nc k3)] (by kernel_rfl) (by kernel_rfl) (fun u => callFunc_enter _ _ _ _ u Try.func44 (by kernel_rfl) (by kernel_rfl)) (.agg (nc k4)) (fun u hu => by have hcc := field_mul f cu.p d l k3 u (Hl.out) (L3.out) (HF.out.up (grows_trans _ _ _ D6.out.1 hu)); rw [← E4.out] at hcc; exact hcc) ?_
  refine wpGrow_pure rfl (.pointer (some ⟨g + 1 + 1, 9, none⟩)) (fun u => by kernel_rfl) ?_
  refine wpGrow_loadN rfl (.tmp 38) rfl (g + 1 + 1) 9 (by kernel_rfl) y1 (fun u hu => D6.out.up 2 rfl hu) (ptc_y x1 y1 b1) ?_
  refine wpGrow_fn rfl 45 (.func 45) #[.tmp 29, .tmp 37, .tmp 39] #[56, 26, 26] rfl #[] #[.pointer (some ⟨f, 0, none⟩), .agg (nc k4), .agg (nc y1)] (by kernel_rfl) (by kernel_rfl) (fun u => callFunc_enter _ _ _ _ u Try.func45 (by kernel_rfl) (by kernel_rfl)) (.agg (nc k5)) (fun u hu => by have hcc := field_sub f cu.p d k4 y1 u (L4.out) (Hy1.out) (HF.out.up (grows_trans _ _ _ D6.out.1 hu)); rw [← E5.out] at hcc; exact hcc) ?_
  refine wpGrow_built rfl 28 #[(0, .tmp 28), (1, .tmp 40)] rfl ((ptc k2 k5 false)) (by kernel_rfl) ?_
  refine wpGrow_nil ?_
  try simp only [Act.put, sl1, sl2, sl3, sl4, sl5, sl6]
  refine grow_stores (rs := [14]) (by kernel_rfl) (by decide) (fun w7 hg6 => ?_)
  have Nw7 := Lib.hid (D6.out.grow hg6)
  clear hg6 D6
  refine wpAny_ready (rs := [14]) (by kernel_rfl) (by simp) ?_
  refine AllReady.cons rfl (fun K hK => ?_) AllReady.nil
  refine step_store_blk rfl 28 (.tmp 8) (.tmp 41) rfl (g + 1 + 1 + 1 + 1) rfl _ _ _ rfl (Nw7.out.at 4 rfl) (by rw [ptc_size]; kernel_rfl) (by simp only [ptc_size]) (ptc_one _ _ _) (fun w8 hw hb hs => hK _ _ ?_)
  have Nw8 := Lib.hid (show Mem w w8 [(g, #[.pointer (some ⟨c, 0, none⟩)], 67), (g + 1, nc l, 26), (g + 1 + 1, ptc x1 y1 b1, 28), (g + 1 + 1 + 1, ptc x2 y2 b2, 28), (g + 1 + 1 + 1 + 1, ptc k2 k5 false, 28), (x, nc k2, 26)] from Nw7.out.store 4 rfl hb hs hw)
  clear hK hw hb hs Nw7
  try simp only [Act.put, sl1, sl2, sl3, sl4, sl5, sl6]
  refine wpAny_done (by kernel_rfl) ?_ _
  try simp only [Act.put, sl1, sl2, sl3, sl4, sl5, sl6]
  go_wp2_with (fail)
  exact bodyPost_ret (results_O rfl _ _ (g + 1 + 1 + 1 + 1) _ _ _ _ _ rfl (Nw8.out.at 4 rfl)) rfl ⟨by rw [F1.out, F2.out], Nw8.out.below⟩
end Go.Proofs.Ytkoonhiplicbkaa.Cw

set_option linter.unusedSimpArgs false
set_option linter.unusedVariables false
namespace Go.Proofs.Ytkoonhiplicbkaa.Cw
open Go Go.RowKit
theorem wpN_loadG2 {ops : Array Oper} {rest : List Oper} {o : Oper} {a : Act} {w : World} {Q : Exit → Act → World → Prop} (hwt : Region.wanted o (yielded ops a.tmps) = true) (x : Operand) (ho : o.op = .load 26 x) (g off : Nat) (hx : a.eval x = .pointer (some ⟨g, off, none⟩)) {t : TypeId} {fr : Nat × Nat} {n : Nat} {D : Array Value} (hg : w.heap[g]? = some (.cells D t fr))
    (hcs : ∀ j, j < 9 → D[off + j]? = some (wn (dig n j))) (h : wpList Try.prog ops Q rest (a.put o.dst (.agg (nc n))) w) : wpList Try.prog ops Q (o :: rest) a w := by
  unfold wpList
  rw [if_pos hwt]
  refine .inl ?_
  exact wp_load_seg 26 x ho g off 9 hx t D (nc n) fr _ hg Try.underlying26 rfl (by kernel_rfl) (nc_size n) (fun j hj => (hcs j hj).trans (nc_get n j hj).symm) h
attribute [local irreducible] pc ptc nc ac cuc fc
attribute [local go_sem ↓ high] wn_eql wn_neq wn_lss wn_gtr wn_leq wn_geq wn_cells wn_run_store wn_guard lit0 lit1
attribute [local go_sem high] wn_match wn_run_store wn_eql wn_neq wn_lss wn_gtr wn_leq wn_geq

set_option maxRecDepth 100000 in
set_option maxHeartbeats 4000000 in
theorem add_inf1 (c f d x1 y1 x2 y2 : Nat) (cu : Cv) (w : World) (b2 : Bool) (H : CurveAt w c f d cu) : Calls Try.prog 23 #[.agg #[.pointer (some ⟨c, 0, none⟩)], .agg (ptc 0 0 true), .agg (ptc x2 y2 b2)] w fun e w' => e = .returned (.agg (ptc x2 y2 b2)) ∧ Below w.heap.size w w' := by
  obtain ⟨hk, hfd, hcb⟩ := H
  have HK := Lib.hid hk
  have HF := Lib.hid hfd
  have HCB := Lib.hid hcb
  clear hk hfd hcb
  go_enter Try.func23, Try.ntmps23
  go_upto_region 1 with fail
  rw [← ptc_zero]
  have m0 := Mem.start4 w (#[.pointer (some ⟨c, 0, none⟩)]) (ptc 0 0 true) (ptc x2 y2 b2) (ptc 0 0 false) 67 28 28 28
  obtain ⟨w1, hw1⟩ : ∃ w1 : World, w1 = ((((w.alloc (.cells (#[.pointer (some ⟨c, 0, none⟩)]) 67)).alloc (.cells (ptc 0 0 true) 28)).alloc (.cells (ptc x2 y2 b2) 28)).alloc (.cells (ptc 0 0 false) 28)) := ⟨_, rfl⟩
  rw [← hw1] at m0 ⊢
  clear hw1
  obtain ⟨g, hg⟩ : ∃ g, g = w.heap.size := ⟨_, rfl⟩
  rw [← hg] at m0 ⊢
  have HG := Lib.hid hg
  have M := Lib.hid m0
  clear hg m0
  refine wp_region_lit ?_
  refine wpList_pureL rfl (.pointer (some ⟨g, 0, none⟩)) (fun u => by kernel_rfl) ?_
  refine wpList_load_cell rfl 54 (.tmp 9) rfl g 0 (by kernel_rfl) (.pointer (some ⟨c, 0, none⟩)) _ Try.underlying54 rfl ((cell_of (M.out.at 0 rfl) 0).trans (rfl)) ?_
  refine wpList_pureL rfl (.pointer (some ⟨c, 0, none⟩)) (fun u => by kernel_rfl) ?_
  refine wpList_pureL rfl (.pointer (some ⟨c, 59, none⟩)) (fun u => by kernel_rfl) ?_
  refine wpList_load_cell rfl 56 (.tmp 12) rfl c 59 (by kernel_rfl) (.pointer (some ⟨f, 0, none⟩)) _ Try.underlying56 rfl ((cell_of (grows_at HCB.out M.out.1) 59).trans (cuc_f cu f)) ?_
  refine wpList_pureL rfl (.pointer (some ⟨f, 0, none⟩)) (fun u => by kernel_rfl) ?_
  refine wpList_nil ?_
  try simp only [Act.put, sl1, sl2, sl3, sl4, sl5, sl6]
  go_upto_region 2 with (fail)
  refine wp_region_lit ?_
  refine wpList_pureL rfl (.pointer (some ⟨g + 1, 18, none⟩)) (fun u => by kernel_rfl) ?_
  refine wpList_load_cell rfl 4 (.tmp 15) rfl (g + 1) 18 (by kernel_rfl) (.bool true) _ Try.underlying4 rfl ((cell_of (M.out.at 1 rfl) 18).trans (ptc_inf 0 0 true)) ?_
  refine wpList_pureL rfl (.bool true) (fun u => by kernel_rfl) ?_
  refine wpList_nil ?_
  try simp only [Act.put, sl1, sl2, sl3, sl4, sl5, sl6]
  go_upto_region 3 with (fail)
  refine wp_region_lit ?_
  refine wpList_load_seg rfl 28 (.tmp 5) rfl (g + 1 + 1) 0 19 (by kernel_rfl) _ _ (ptc x2 y2 b2) _ _ (M.out.at 2 rfl) Try.underlying28 rfl (by kernel_rfl) (ptc_size _ _ _) (fun j hj => by rw [Nat.zero_add]) ?_
  refine wpList_store_blk rfl 28 (.tmp 6) (.tmp 17) rfl (g + 1 + 1 + 1) (by kernel_rfl) _ _ (ptc x2 y2 b2) (by kernel_rfl) (M.out.at 3 rfl) (by rw [ptc_size]; kernel_rfl) (by simp only [ptc_size]) (ptc_one _ _ _) ?_
  intro w2 hw hb hs
  have Nw2 := Lib.hid (show Mem w w2 [(g, #[.pointer (some ⟨c, 0, none⟩)], 67), (g + 1, ptc 0 0 true, 28), (g + 1 + 1, ptc x2 y2 b2, 28), (g + 1 + 1 + 1, ptc x2 y2 b2, 28)] from M.out.store 3 rfl hb hs hw)
  clear hw hb hs M
  refine wpList_nil ?_
  try simp only [Act.put, sl1, sl2, sl3, sl4, sl5, sl6]
  go_wp2_with (fail)
  exact bodyPost_ret (results_O rfl _ _ (g + 1 + 1 + 1) _ _ _ _ _ rfl (Nw2.out.at 3 rfl)) rfl ⟨rfl, Nw2.out.below⟩
set_option maxRecDepth 100000 in
set_option maxHeartbeats 4000000 in
theorem add_inf2 (c f d x1 y1 x2 y2 : Nat) (cu : Cv) (w : World) (H : CurveAt w c f d cu) : Calls Try.prog 23 #[.agg #[.pointer (some ⟨c, 0, none⟩)], .agg (ptc x1 y1 false), .agg (ptc 0 0 true)] w fun e w' => e = .returned (.agg (ptc x1 y1 false)) ∧ Below w.heap.size w w' := by
  obtain ⟨hk, hfd, hcb⟩ := H
  have HK := Lib.hid hk
  have HF := Lib.hid hfd
  have HCB := Lib.hid hcb
  clear hk hfd hcb
  go_enter Try.func23, Try.ntmps23
  go_upto_region 1 with fail
  rw [← ptc_zero]
  have m0 := Mem.start4 w (#[.pointer (some ⟨c, 0, none⟩)]) (ptc x1 y1 false) (ptc 0 0 true) (ptc 0 0 false) 67 28 28 28
  obtain ⟨w1, hw1⟩ : ∃ w1 : World, w1 = ((((w.alloc (.cells (#[.pointer (some ⟨c, 0, none⟩)]) 67)).alloc (.cells (ptc x1 y1 false) 28)).alloc (.cells (ptc 0 0 true) 28)).alloc (.cells (ptc 0 0 false) 28)) := ⟨_, rfl⟩
  rw [← hw1] at m0 ⊢
  clear hw1
  obtain ⟨g, hg⟩ : ∃ g, g = w.heap.size := ⟨_, rfl⟩
  rw [← hg] at m0 ⊢
  have HG := Lib.hid hg
  have M := Lib.hid m0
  clear hg m0
  refine wp_region_lit ?_
  refine wpList_pureL rfl (.pointer (some ⟨g, 0, none⟩)) (fun u => by kernel_rfl) ?_
  refine wpList_load_cell rfl 54 (.tmp 9) rfl g 0 (by kernel_rfl) (.pointer (some ⟨c, 0, none⟩)) _ Try.underlying54 rfl ((cell_of (M.out.at 0 rfl) 0).trans (rfl)) ?_
  refine wpList_pureL rfl (.pointer (some ⟨c, 0, none⟩)) (fun u => by kernel_rfl) ?_
  refine wpList_pureL rfl (.pointer (some ⟨c, 59, none⟩)) (fun u => by kernel_rfl) ?_
  refine wpList_load_cell rfl 56 (.tmp 12) rfl c 59 (by kernel_rfl) (.pointer (some ⟨f, 0, none⟩)) _ Try.underlying56 rfl ((cell_of (grows_at HCB.out M.out.1) 59).trans (cuc_f cu f)) ?_
  refine wpList_pureL rfl (.pointer (some ⟨f, 0, none⟩)) (fun u => by kernel_rfl) ?_
  refine wpList_nil ?_
  try simp only [Act.put, sl1, sl2, sl3, sl4, sl5, sl6]
  go_upto_region 2 with (fail)
  refine wp_region_lit ?_
  refine wpList_pureL rfl (.pointer (some ⟨g + 1, 18, none⟩)) (fun u => by kernel_rfl) ?_
  refine wpList_load_cell rfl 4 (.tmp 15) rfl (g + 1) 18 (by kernel_rfl) (.bool false) _ Try.underlying4 rfl ((cell_of (M.out.at 1 rfl) 18).trans (ptc_inf x1 y1 false)) ?_
  refine wpList_pureL rfl (.bool false) (fun u => by kernel_rfl) ?_
  refine wpList_nil ?_
  try simp only [Act.put, sl1, sl2, sl3, sl4, sl5, sl6]
  go_upto_region 4 with (fail)
  refine wp_region_lit ?_
  refine wpList_pureL rfl (.pointer (some ⟨g + 1 + 1, 18, none⟩)) (fun u => by kernel_rfl) ?_
  refine wpList_load_cell rfl 4 (.tmp 19) rfl (g + 1 + 1) 18 (by kernel_rfl) (.bool true) _ Try.underlying4 rfl ((cell_of (M.out.at 2 rfl) 18).trans (ptc_inf 0 0 true)) ?_
  refine wpList_pureL rfl (.bool true) (fun u => by kernel_rfl) ?_
  refine wpList_nil ?_
  try simp only [Act.put, sl1, sl2, sl3, sl4, sl5, sl6]
  go_upto_region 5 with (fail)
  refine wp_region_lit ?_
  refine wpList_load_seg rfl 28 (.tmp 4) rfl (g + 1) 0 19 (by kernel_rfl) _ _ (ptc x1 y1 false) _ _ (M.out.at 1 rfl) Try.underlying28 rfl (by kernel_rfl) (ptc_size _ _ _) (fun j hj => by rw [Nat.zero_add]) ?_
  refine wpList_store_blk rfl 28 (.tmp 6) (.tmp 21) rfl (g + 1 + 1 + 1) (by kernel_rfl) _ _ (ptc x1 y1 false) (by kernel_rfl) (M.out.at 3 rfl) (by rw [ptc_size]; kernel_rfl) (by simp only [ptc_size]) (ptc_one _ _ _) ?_
  intro w2 hw hb hs
  have Nw2 := Lib.hid (show Mem w w2 [(g, #[.pointer (some ⟨c, 0, none⟩)], 67), (g + 1, ptc x1 y1 false, 28), (g + 1 + 1, ptc 0 0 true, 28), (g + 1 + 1 + 1, ptc x1 y1 false, 28)] from M.out.store 3 rfl hb hs hw)
  clear hw hb hs M
  refine wpList_nil ?_
  try simp only [Act.put, sl1, sl2, sl3, sl4, sl5, sl6]
  go_wp2_with (fail)
  exact bodyPost_ret (results_O rfl _ _ (g + 1 + 1 + 1) _ _ _ _ _ rfl (Nw2.out.at 3 rfl)) rfl ⟨rfl, Nw2.out.below⟩
set_option maxRecDepth 100000 in
set_option maxHeartbeats 4000000 in
theorem add_chord (c f d x1 y1 x2 y2 t : Nat) (cu : Cv) (w : World) (hx1 : x1 < cu.p) (hy1 : y1 < cu.p) (hx2 : x2 < cu.p) (hy2 : y2 < cu.p) (hne : x1 ≠ x2) (ht : t < cu.p) (hti : t * fsb cu.p x2 x1 % cu.p = 1) (H : CurveAt w c f d cu) : Calls Try.prog 23 #[.agg #[.pointer (some ⟨c, 0, none⟩)], .agg (ptc x1 y1 false), .agg (ptc x2 y2 false)] w fun e w' => e = .returned (.agg (ptc (slx cu.p (fml cu.p (fsb cu.p y2 y1) t) x1 x2) (sly cu.p (fml cu.p (fsb cu.p y2 y1) t) x1 y1 (slx cu.p (fml cu.p (fsb cu.p y2 y1) t) x1 x2)) false)) ∧ Below w.heap.size w w' := by
  obtain ⟨hk, hfd, hcb⟩ := H
  have HK := Lib.hid hk
  have HF := Lib.hid hfd
  have HCB := Lib.hid hcb
  have Hx1 := Lib.hid hx1
  have Hy1 := Lib.hid hy1
  have Hx2 := Lib.hid hx2
  have Hy2 := Lib.hid hy2
  have HP9 := Lib.hid hfd.1
  clear hk hfd hcb hx1 hy1 hx2 hy2
  have HNE := Lib.hid hne
  have HT := Lib.hid (And.intro ht trivial)
  clear hne ht
  obtain ⟨k0, e0⟩ : ∃ v, v = fsb cu.p y2 y1 := ⟨_, rfl⟩
  obtain ⟨k1, e1⟩ : ∃ v, v = fsb cu.p x2 x1 := ⟨_, rfl⟩
  obtain ⟨k2, e2⟩ : ∃ v, v = fml cu.p k0 t := ⟨_, rfl⟩
  have E0 := Lib.hid e0
  have L0 := Lib.hid (show k0 < cu.p by rw [E0.out]; exact fsb_lt _ _ HK.out.1)
  clear e0
  have E1 := Lib.hid e1
  have L1 := Lib.hid (show k1 < cu.p by rw [E1.out]; exact fsb_lt _ _ HK.out.1)
  clear e1
  have E2 := Lib.hid e2
  have L2 := Lib.hid (show k2 < cu.p by rw [E2.out]; exact fml_lt _ _ HK.out.1)
  clear e2
  have HTI := Lib.hid (show t * k1 % cu.p = 1 by rw [E1.out]; exact hti)
  clear hti
  go_enter Try.func23, Try.ntmps23
  go_upto_region 1 with fail
  rw [← ptc_zero]
  have m0 := Mem.start4 w (#[.pointer (some ⟨c, 0, none⟩)]) (ptc x1 y1 false) (ptc x2 y2 false) (ptc 0 0 false) 67 28 28 28
  obtain ⟨w1, hw1⟩ : ∃ w1 : World, w1 = ((((w.alloc (.cells (#[.pointer (some ⟨c, 0, none⟩)]) 67)).alloc (.cells (ptc x1 y1 false) 28)).alloc (.cells (ptc x2 y2 false) 28)).alloc (.cells (ptc 0 0 false) 28)) := ⟨_, rfl⟩
  rw [← hw1] at m0 ⊢
  clear hw1
  obtain ⟨g, hg⟩ : ∃ g, g = w.heap.size := ⟨_, rfl⟩
  rw [← hg] at m0 ⊢
  have HG := Lib.hid hg
  have M := Lib.hid m0
  clear hg m0
  refine wp_region_lit ?_
  refine wpList_pureL rfl (.pointer (some ⟨g, 0, none⟩)) (fun u => by kernel_rfl) ?_
  refine wpList_load_cell rfl 54 (.tmp 9) rfl g 0 (by kernel_rfl) (.pointer (some ⟨c, 0, none⟩)) _ Try.underlying54 rfl ((cell_of (M.out.at 0 rfl) 0).trans (rfl)) ?_
  refine wpList_pureL rfl (.pointer (some ⟨c, 0, none⟩)) (fun u => by kernel_rfl) ?_
  refine wpList_pureL rfl (.pointer (some ⟨c, 59, none⟩)) (fun u => by kernel_rfl) ?_
  refine wpList_load_cell rfl 56 (.tmp 12) rfl c 59 (by kernel_rfl) (.pointer (some ⟨f, 0, none⟩)) _ Try.underlying56 rfl ((cell_of (grows_at HCB.out M.out.1) 59).trans (cuc_f cu f)) ?_
  refine wpList_pureL rfl (.pointer (some ⟨f, 0, none⟩)) (fun u => by kernel_rfl) ?_
  refine wpList_nil ?_
  try simp only [Act.put, sl1, sl2, sl3, sl4, sl5, sl6]
  go_upto_region 2 with (fail)
  refine wp_region_lit ?_
  refine wpList_pureL rfl (.pointer (some ⟨g + 1, 18, none⟩)) (fun u => by kernel_rfl) ?_
  refine wpList_load_cell rfl 4 (.tmp 15) rfl (g + 1) 18 (by kernel_rfl) (.bool false) _ Try.underlying4 rfl ((cell_of (M.out.at 1 rfl) 18).trans (ptc_inf x1 y1 false)) ?_
  refine wpList_pureL rfl (.bool false) (fun u => by kernel_rfl) ?_
  refine wpList_nil ?_
  try simp only [Act.put, sl1, sl2, sl3, sl4, sl5, sl6]
  go_upto_region 4 with (fail)
  refine wp_region_lit ?_
  refine wpList_pureL rfl (.pointer (some ⟨g + 1 + 1, 18, none⟩)) (fun u => by kernel_rfl) ?_
  refine wpList_load_cell rfl 4 (.tmp 19) rfl (g + 1 + 1) 18 (by kernel_rfl) (.bool false) _ Try.underlying4 rfl ((cell_of (M.out.at 2 rfl) 18).trans (ptc_inf x2 y2 false)) ?_
  refine wpList_pureL rfl (.bool false) (fun u => by kernel_rfl) ?_
  refine wpList_nil ?_
  try simp only [Act.put, sl1, sl2, sl3, sl4, sl5, sl6]
  go_upto_region 6 with (fail)
  refine wp_region_lit ?_
  refine wpList_pureL rfl (.pointer (some ⟨g + 1, 0, none⟩)) (fun u => by kernel_rfl) ?_
  refine wpN_load rfl (.tmp 23) rfl (g + 1) 0 (by kernel_rfl) (M.out.at 1 rfl) x1 (ptc_x x1 y1 false) ?_
  refine wpList_pureL rfl (.pointer (some ⟨g + 1 + 1, 0, none⟩)) (fun u => by kernel_rfl) ?_
  refine wpN_load rfl (.tmp 25) rfl (g + 1 + 1) 0 (by kernel_rfl) (M.out.at 2 rfl) x2 (ptc_x x2 y2 false) ?_
  try simp only [Act.put, sl1, sl2, sl3, sl4, sl5, sl6]
  refine wpList_pureL rfl (.bool true) (fun u => by have hh := fun w => neq_nat x1 x2 (Nat.lt_trans Hx1.out HP9.out) (Nat.lt_trans Hx2.out HP9.out) w; rw [decide_eq_true HNE.out] at hh; go_simp) ?_
  refine wpList_pureL rfl (.bool true) (fun u => by kernel_rfl) ?_
  refine wpList_nil ?_
  try simp only [Act.put, sl1, sl2, sl3, sl4, sl5, sl6]
  go_upto_region 7 with (fail)
  have D2 := Lib.hid (M.out.drew)
  clear M
  refine wp_region_grow 20 20 (by kernel_rfl) (by kernel_rfl) (fun d v c a w h => by cases d <;> exact h) ?_
  simp only [List.take_succ_cons, List.take_zero]
  refine wpGrow_load_seg rfl 67 (.tmp 3) rfl g 0 1 (by kernel_rfl) (#[.pointer (some ⟨c, 0, none⟩)]) _ Try.underlying67 rfl (by kernel_rfl) (rfl) (fun u hu => D2.out.up 0 rfl hu) (fun j hj => by rw [Nat.zero_add]) ?_
  refine wpGrow_pure rfl (.pointer (some ⟨f, 0, none⟩)) (fun u => by kernel_rfl) ?_
  refine wpGrow_pure rfl (.pointer (some ⟨f, 0, none⟩)) (fun u => by kernel_rfl) ?_
  refine wpGrow_pure rfl (.pointer (some ⟨g + 1 + 1, 9, none⟩)) (fun u => by kernel_rfl) ?_
  refine wpGrow_loadN rfl (.tmp 31) rfl (g + 1 + 1) 9 (by kernel_rfl) y2 (fun u hu => D2.out.up 2 rfl hu) (ptc_y x2 y2 false) ?_
  refine wpGrow_pure rfl (.pointer (some ⟨g + 1, 9, none⟩)) (fun u => by kernel_rfl) ?_
  refine wpGrow_loadN rfl (.tmp 33) rfl (g + 1) 9 (by kernel_rfl) y1 (fun u hu => D2.out.up 1 rfl hu) (ptc_y x1 y1 false) ?_
  refine wpGrow_fn rfl 45 (.func 45) #[.tmp 30, .tmp 32, .tmp 34] #[56, 26, 26] rfl #[] #[.pointer (some ⟨f, 0, none⟩), .agg (nc y2), .agg (nc y1)] (by kernel_rfl) (by kernel_rfl) (fun u => callFunc_enter _ _ _ _ u Try.func45 (by kernel_rfl) (by kernel_rfl)) (.agg (nc k0)) (fun u hu => by have hcc := field_sub f cu.p d y2 y1 u (Hy2.out) (Hy1.out) (HF.out.up (grows_trans _ _ _ D2.out.1 hu)); rw [← E0.out] at hcc; exact hcc) ?_
  refine wpGrow_pure rfl (.pointer (some ⟨f, 0, none⟩)) (fun u => by kernel_rfl) ?_
  refine wpGrow_pure rfl (.pointer (some ⟨f, 0, none⟩)) (fun u => by kernel_rfl) ?_
  refine wpGrow_pure rfl (.pointer (some ⟨g + 1 + 1, 0, none⟩)) (fun u => by kernel_rfl) ?_
  refine wpGrow_loadN rfl (.tmp 38) rfl (g + 1 + 1) 0 (by kernel_rfl) x2 (fun u hu => D2.out.up 2 rfl hu) (ptc_x x2 y2 false) ?_
  refine wpGrow_pure rfl (.pointer (some ⟨g + 1, 0, none⟩)) (fun u => by kernel_rfl) ?_
  refine wpGrow_loadN rfl (.tmp 40) rfl (g + 1) 0 (by kernel_rfl) x1 (fun u hu => D2.out.up 1 rfl hu) (ptc_x x1 y1 false) ?_
  refine wpGrow_fn rfl 45 (.func 45) #[.tmp 37, .tmp 39, .tmp 41] #[56, 26, 26] rfl #[] #[.pointer (some ⟨f, 0, none⟩), .agg (nc x2), .agg (nc x1)] (by kernel_rfl) (by kernel_rfl) (fun u => callFunc_enter _ _ _ _ u Try.func45 (by kernel_rfl) (by kernel_rfl)) (.agg (nc k1)) (fun u hu => by have hcc := field_sub f cu.p d x2 x1 u (Hx2.out) (Hx1.out) (HF.out.up (grows_trans _ _ _ D2.out.1 hu)); rw [← E1.out] at hcc; exact hcc) ?_
  refine wpGrow_fn rfl 46 (.func 46) #[.tmp 36, .tmp 42] #[56, 26] rfl #[] #[.pointer (some ⟨f, 0, none⟩), .agg (nc k1)] (by kernel_rfl) (by kernel_rfl) (fun u => callFunc_enter _ _ _ _ u Try.func46 (by kernel_rfl) (by kernel_rfl)) (.agg (nc t)) (fun u hu => by exact field_inv f cu.p d k1 t u (L1.out) HT.out.1 HTI.out (HF.out.up (grows_trans _ _ _ D2.out.1 hu))) ?_
  refine wpGrow_fn rfl 44 (.func 44) #[.tmp 29, .tmp 35, .tmp 43] #[56, 26, 26] rfl #[] #[.pointer (some ⟨f, 0, none⟩), .agg (nc k0), .agg (nc t)] (by kernel_rfl) (by kernel_rfl) (fun u => callFunc_enter _ _ _ _ u Try.func44 (by kernel_rfl) (by kernel_rfl)) (.agg (nc k2)) (fun u hu => by have hcc := field_mul f cu.p d k0 t u (L0.out) (HT.out.1) (HF.out.up (grows_trans _ _ _ D2.out.1 hu)); rw [← E2.out] at hcc; exact hcc) ?_
  refine wpGrow_load_seg rfl 28 (.tmp 4) rfl (g + 1) 0 19 (by kernel_rfl) (ptc x1 y1 false) _ Try.underlying28 rfl (by kernel_rfl) (ptc_size _ _ _) (fun u hu => D2.out.up 1 rfl hu) (fun j hj => by rw [Nat.zero_add]) ?_
  refine wpGrow_load_seg rfl 28 (.tmp 5) rfl (g + 1 + 1) 0 19 (by kernel_rfl) (ptc x2 y2 false) _ Try.underlying28 rfl (by kernel_rfl) (ptc_size _ _ _) (fun u hu => D2.out.up 2 rfl hu) (fun j hj => by rw [Nat.zero_add]) ?_
  refine wpGrow_fn rfl 43 (.func 43) #[.tmp 28, .tmp 44, .tmp 45, .tmp 46] #[67, 26, 28, 28] rfl #[] #[.agg #[.pointer (some ⟨c, 0, none⟩)], .agg (nc k2), .agg (ptc x1 y1 false), .agg (ptc x2 y2 false)] (by kernel_rfl) (by kernel_rfl) (fun u => callFunc_enter _ _ _ _ u Try.func43 (by kernel_rfl) (by kernel_rfl)) (.agg (ptc (slx cu.p k2 x1 x2) (sly cu.p k2 x1 y1 (slx cu.p k2 x1 x2)) false)) (fun u hu => by exact affine_slope c f d k2 x1 y1 x2 y2 false false cu u L2.out Hx1.out Hy1.out Hx2.out ⟨HK.out, HF.out.up (grows_trans _ _ _ D2.out.1 hu), grows_at HCB.out (grows_trans _ _ _ D2.out.1 hu)⟩) ?_
  refine wpGrow_nil ?_
  try simp only [Act.put, sl1, sl2, sl3, sl4, sl5, sl6]
  refine grow_stores (rs := [20]) (by kernel_rfl) (by decide) (fun w3 hg6 => ?_)
  have Nw3 := Lib.hid (D2.out.grow hg6)
  clear hg6 D2
  refine wpAny_ready (rs := [20]) (by kernel_rfl) (by simp) ?_
  refine AllReady.cons rfl (fun K hK => ?_) AllReady.nil
  refine step_store_blk rfl 28 (.tmp 6) (.tmp 47) rfl (g + 1 + 1 + 1) rfl _ _ _ rfl (Nw3.out.at 3 rfl) (by rw [ptc_size]; kernel_rfl) (by simp only [ptc_size]) (ptc_one _ _ _) (fun w4 hw hb hs => hK _ _ ?_)
  have Nw4 := Lib.hid (show Mem w w4 [(g, #[.pointer (some ⟨c, 0, none⟩)], 67), (g + 1, ptc x1 y1 false, 28), (g + 1 + 1, ptc x2 y2 false, 28), (g + 1 + 1 + 1, ptc (slx cu.p k2 x1 x2) (sly cu.p k2 x1 y1 (slx cu.p k2 x1 x2)) false, 28)] from Nw3.out.store 3 rfl hb hs hw)
  clear hK hw hb hs Nw3
  try simp only [Act.put, sl1, sl2, sl3, sl4, sl5, sl6]
  refine wpAny_done (by kernel_rfl) ?_ _
  try simp only [Act.put, sl1, sl2, sl3, sl4, sl5, sl6]
  go_wp2_with (fail)
  exact bodyPost_ret (results_O rfl _ _ (g + 1 + 1 + 1) _ _ _ _ _ rfl (Nw4.out.at 3 rfl)) rfl ⟨by rw [E2.out, E0.out], Nw4.out.below⟩
set_option maxRecDepth 100000 in
set_option maxHeartbeats 4000000 in
theorem add_opp (c f d x1 y1 y2 : Nat) (cu : Cv) (w : World) (hx1 : x1 < cu.p) (hy1 : y1 < cu.p) (hy2 : y2 < cu.p) (hne : y1 ≠ y2) (H : CurveAt w c f d cu) : Calls Try.prog 23 #[.agg #[.pointer (some ⟨c, 0, none⟩)], .agg (ptc x1 y1 false), .agg (ptc x1 y2 false)] w fun e w' => e = .returned (.agg (ptc 0 0 true)) ∧ Below w.heap.size w w' := by
  obtain ⟨hk, hfd, hcb⟩ := H
  have HK := Lib.hid hk
  have HF := Lib.hid hfd
  have HCB := Lib.hid hcb
  have Hx1 := Lib.hid hx1
  have Hy1 := Lib.hid hy1
  have Hy2 := Lib.hid hy2
  have HP9 := Lib.hid hfd.1
  clear hk hfd hcb hx1 hy1 hy2
  have HNE := Lib.hid hne
  clear hne
  go_enter Try.func23, Try.ntmps23
  go_upto_region 1 with fail
  rw [← ptc_zero]
  have m0 := Mem.start4 w (#[.pointer (some ⟨c, 0, none⟩)]) (ptc x1 y1 false) (ptc x1 y2 false) (ptc 0 0 false) 67 28 28 28
  obtain ⟨w1, hw1⟩ : ∃ w1 : World, w1 = ((((w.alloc (.cells (#[.pointer (some ⟨c, 0, none⟩)]) 67)).alloc (.cells (ptc x1 y1 false) 28)).alloc (.cells (ptc x1 y2 false) 28)).alloc (.cells (ptc 0 0 false) 28)) := ⟨_, rfl⟩
  rw [← hw1] at m0 ⊢
  clear hw1
  obtain ⟨g, hg⟩ : ∃ g, g = w.heap.size := ⟨_, rfl⟩
  rw [← hg] at m0 ⊢
  have HG := Lib.hid hg
  have M := Lib.hid m0
  clear hg m0
  refine wp_region_lit ?_
  refine wpList_pureL rfl (.pointer (some ⟨g, 0, none⟩)) (fun u => by kernel_rfl) ?_
  refine wpList_load_cell rfl 54 (.tmp 9) rfl g 0 (by kernel_rfl) (.pointer (some ⟨c, 0, none⟩)) _ Try.underlying54 rfl ((cell_of (M.out.at 0 rfl) 0).trans (rfl)) ?_
  refine wpList_pureL rfl (.pointer (some ⟨c, 0, none⟩)) (fun u => by kernel_rfl) ?_
  refine wpList_pureL rfl (.pointer (some ⟨c, 59, none⟩)) (fun u => by kernel_rfl) ?_
  refine wpList_load_cell rfl 56 (.tmp 12) rfl c 59 (by kernel_rfl) (.pointer (some ⟨f, 0, none⟩)) _ Try.underlying56 rfl ((cell_of (grows_at HCB.out M.out.1) 59).trans (cuc_f cu f)) ?_
  refine wpList_pureL rfl (.pointer (some ⟨f, 0, none⟩)) (fun u => by kernel_rfl) ?_
  refine wpList_nil ?_
  try simp only [Act.put, sl1, sl2, sl3, sl4, sl5, sl6]
  go_upto_region 2 with (fail)
  refine wp_region_lit ?_
  refine wpList_pureL rfl (.pointer (some ⟨g + 1, 18, none⟩)) (fun u => by kernel_rfl) ?_
  refine wpList_load_cell rfl 4 (.tmp 15) rfl (g + 1) 18 (by kernel_rfl) (.bool false) _ Try.underlying4 rfl ((cell_of (M.out.at 1 rfl) 18).trans (ptc_inf x1 y1 false)) ?_
  refine wpList_pureL rfl (.bool false) (fun u => by kernel_rfl) ?_
  refine wpList_nil ?_
  try simp only [Act.put, sl1, sl2, sl3, sl4, sl5, sl6]
  go_upto_region 4 with (fail)
  refine wp_region_lit ?_
  refine wpList_pureL rfl (.pointer (some ⟨g + 1 + 1, 18, none⟩)) (fun u => by kernel_rfl) ?_
  refine wpList_load_cell rfl 4 (.tmp 19) rfl (g + 1 + 1) 18 (by kernel_rfl) (.bool false) _ Try.underlying4 rfl ((cell_of (M.out.at 2 rfl) 18).trans (ptc_inf x1 y2 false)) ?_
  refine wpList_pureL rfl (.bool false) (fun u => by kernel_rfl) ?_
  refine wpList_nil ?_
  try simp only [Act.put, sl1, sl2, sl3, sl4, sl5, sl6]
  go_upto_region 6 with (fail)
  refine wp_region_lit ?_
  refine wpList_pureL rfl (.pointer (some ⟨g + 1, 0, none⟩)) (fun u => by kernel_rfl) ?_
  refine wpN_load rfl (.tmp 23) rfl (g + 1) 0 (by kernel_rfl) (M.out.at 1 rfl) x1 (ptc_x x1 y1 false) ?_
  refine wpList_pureL rfl (.pointer (some ⟨g + 1 + 1, 0, none⟩)) (fun u => by kernel_rfl) ?_
  refine wpN_load rfl (.tmp 25) rfl (g + 1 + 1) 0 (by kernel_rfl) (M.out.at 2 rfl) x1 (ptc_x x1 y2 false) ?_
  try simp only [Act.put, sl1, sl2, sl3, sl4, sl5, sl6]
  refine wpList_pureL rfl (.bool false) (fun u => by have hh := fun w => neq_nat x1 x1 (Nat.lt_trans Hx1.out HP9.out) (Nat.lt_trans Hx1.out HP9.out) w; rw [decide_eq_false (fun h => h rfl)] at hh; go_simp) ?_
  refine wpList_pureL rfl (.bool false) (fun u => by kernel_rfl) ?_
  refine wpList_nil ?_
  try simp only [Act.put, sl1, sl2, sl3, sl4, sl5, sl6]
  go_upto_region 8 with (fail)
  refine wp_region_lit ?_
  refine wpList_pureL rfl (.pointer (some ⟨g + 1, 9, none⟩)) (fun u => by kernel_rfl) ?_
  refine wpN_load rfl (.tmp 49) rfl (g + 1) 9 (by kernel_rfl) (M.out.at 1 rfl) y1 (ptc_y x1 y1 false) ?_
  refine wpList_pureL rfl (.pointer (some ⟨g + 1 + 1, 9, none⟩)) (fun u => by kernel_rfl) ?_
  refine wpN_load rfl (.tmp 51) rfl (g + 1 + 1) 9 (by kernel_rfl) (M.out.at 2 rfl) y2 (ptc_y x1 y2 false) ?_
  try simp only [Act.put, sl1, sl2, sl3, sl4, sl5, sl6]
  refine wpList_pureL rfl (.bool true) (fun u => by have hh := fun w => neq_nat y1 y2 (Nat.lt_trans Hy1.out HP9.out) (Nat.lt_trans Hy2.out HP9.out) w; rw [decide_eq_true HNE.out] at hh; go_simp) ?_
  refine wpList_pureL rfl (.bool true) (fun u => by kernel_rfl) ?_
  try simp only [Act.put, sl1, sl2, sl3, sl4, sl5, sl6]
  refine wpList_skipL rfl ?_
  try simp only [Act.put, sl1, sl2, sl3, sl4, sl5, sl6]
  refine wpList_skipL rfl ?_
  try simp only [Act.put, sl1, sl2, sl3, sl4, sl5, sl6]
  refine wpList_skipL rfl ?_
  try simp only [Act.put, sl1, sl2, sl3, sl4, sl5, sl6]
  refine wpList_skipL rfl ?_
  try simp only [Act.put, sl1, sl2, sl3, sl4, sl5, sl6]
  refine wpList_pureL rfl (.bool true) (fun u => by kernel_rfl) ?_
  refine wpList_pureL rfl (.bool true) (fun u => by kernel_rfl) ?_
  refine wpList_nil ?_
  try simp only [Act.put, sl1, sl2, sl3, sl4, sl5, sl6]
  go_upto_region 9 with (fail)
  refine wp_region_lit ?_
  refine wpList_built rfl 28 #[(2, .const (.bool true))] rfl ((ptc 0 0 true)) (by kernel_rfl) ?_
  refine wpList_store_blk rfl 28 (.tmp 6) (.tmp 60) rfl (g + 1 + 1 + 1) (by kernel_rfl) _ _ (ptc 0 0 true) (by kernel_rfl) (M.out.at 3 rfl) (by rw [ptc_size]; kernel_rfl) (by simp only [ptc_size]) (ptc_one _ _ _) ?_
  intro w2 hw hb hs
  have Nw2 := Lib.hid (show Mem w w2 [(g, #[.pointer (some ⟨c, 0, none⟩)], 67), (g + 1, ptc x1 y1 false, 28), (g + 1 + 1, ptc x1 y2 false, 28), (g + 1 + 1 + 1, ptc 0 0 true, 28)] from M.out.store 3 rfl hb hs hw)
  clear hw hb hs M
  refine wpList_nil ?_
  try simp only [Act.put, sl1, sl2, sl3, sl4, sl5, sl6]
  go_wp2_with (fail)
  exact bodyPost_ret (results_O rfl _ _ (g + 1 + 1 + 1) _ _ _ _ _ rfl (Nw2.out.at 3 rfl)) rfl ⟨rfl, Nw2.out.below⟩
set_option maxRecDepth 100000 in
set_option maxHeartbeats 4000000 in
theorem add_dbl (c f d x1 y1 t : Nat) (cu : Cv) (w : World) (hx1 : x1 < cu.p) (hy1 : y1 < cu.p) (hy0 : y1 ≠ 0) (ht : t < cu.p) (hti : t * fad cu.p y1 y1 % cu.p = 1) (H : CurveAt w c f d cu) : Calls Try.prog 23 #[.agg #[.pointer (some ⟨c, 0, none⟩)], .agg (ptc x1 y1 false), .agg (ptc x1 y1 false)] w fun e w' => e = .returned (.agg (ptc (slx cu.p (fml cu.p (fad cu.p (fad cu.p (fad cu.p (fml cu.p x1 x1) (fml cu.p x1 x1)) (fml cu.p x1 x1)) cu.a) t) x1 x1) (sly cu.p (fml cu.p (fad cu.p (fad cu.p (fad cu.p (fml cu.p x1 x1) (fml cu.p x1 x1)) (fml cu.p x1 x1)) cu.a) t) x1 y1 (slx cu.p (fml cu.p (fad cu.p (fad cu.p (fad cu.p (fml cu.p x1 x1) (fml cu.p x1 x1)) (fml cu.p x1 x1)) cu.a) t) x1 x1)) false)) ∧ Below w.heap.size w w' := by
  obtain ⟨hk, hfd, hcb⟩ := H
  have HK := Lib.hid hk
  have HF := Lib.hid hfd
  have HCB := Lib.hid hcb
  have Hx1 := Lib.hid hx1
  have Hy1 := Lib.hid hy1
  have HP9 := Lib.hid hfd.1
  clear hk hfd hcb hx1 hy1
  have HY0 := Lib.hid hy0
  have HT := Lib.hid (And.intro ht trivial)
  clear hy0 ht
  obtain ⟨k0, e0⟩ : ∃ v, v = fml cu.p x1 x1 := ⟨_, rfl⟩
  obtain ⟨k1, e1⟩ : ∃ v, v = fad cu.p k0 k0 := ⟨_, rfl⟩
  obtain ⟨k2, e2⟩ : ∃ v, v = fad cu.p k1 k0 := ⟨_, rfl⟩
  obtain ⟨k3, e3⟩ : ∃ v, v = fad cu.p k2 cu.a := ⟨_, rfl⟩
  obtain ⟨k4, e4⟩ : ∃ v, v = fad cu.p y1 y1 := ⟨_, rfl⟩
  obtain ⟨k5, e5⟩ : ∃ v, v = fml cu.p k3 t := ⟨_, rfl⟩
  have E0 := Lib.hid e0
  have L0 := Lib.hid (show k0 < cu.p by rw [E0.out]; exact fml_lt _ _ HK.out.1)
  clear e0
  have E1 := Lib.hid e1
  have L1 := Lib.hid (show k1 < cu.p by rw [E1.out]; exact fad_lt _ _ HK.out.1)
  clear e1
  have E2 := Lib.hid e2
  have L2 := Lib.hid (show k2 < cu.p by rw [E2.out]; exact fad_lt _ _ HK.out.1)
  clear e2
  have E3 := Lib.hid e3
  have L3 := Lib.hid (show k3 < cu.p by rw [E3.out]; exact fad_lt _ _ HK.out.1)
  clear e3
  have E4 := Lib.hid e4
  have L4 := Lib.hid (show k4 < cu.p by rw [E4.out]; exact fad_lt _ _ HK.out.1)
  clear e4
  have E5 := Lib.hid e5
  have L5 := Lib.hid (show k5 < cu.p by rw [E5.out]; exact fml_lt _ _ HK.out.1)
  clear e5
  have HTI := Lib.hid (show t * k4 % cu.p = 1 by rw [E4.out]; exact hti)
  clear hti
  go_enter Try.func23, Try.ntmps23
  go_upto_region 1 with fail
  rw [← ptc_zero]
  have m0 := Mem.start4 w (#[.pointer (some ⟨c, 0, none⟩)]) (ptc x1 y1 false) (ptc x1 y1 false) (ptc 0 0 false) 67 28 28 28
  obtain ⟨w1, hw1⟩ : ∃ w1 : World, w1 = ((((w.alloc (.cells (#[.pointer (some ⟨c, 0, none⟩)]) 67)).alloc (.cells (ptc x1 y1 false) 28)).alloc (.cells (ptc x1 y1 false) 28)).alloc (.cells (ptc 0 0 false) 28)) := ⟨_, rfl⟩
  rw [← hw1] at m0 ⊢
  clear hw1
  obtain ⟨g, hg⟩ : ∃ g, g = w.heap.size := ⟨_, rfl⟩
  rw [← hg] at m0 ⊢
  have HG := Lib.hid hg
  have M := Lib.hid m0
  clear hg m0
  refine wp_region_lit ?_
  refine wpList_pureL rfl (.pointer (some ⟨g, 0, none⟩)) (fun u => by kernel_rfl) ?_
  refine wpList_load_cell rfl 54 (.tmp 9) rfl g 0 (by kernel_rfl) (.pointer (some ⟨c, 0, none⟩)) _ Try.underlying54 rfl ((cell_of (M.out.at 0 rfl) 0).trans (rfl)) ?_
  refine wpList_pureL rfl (.pointer (some ⟨c, 0, none⟩)) (fun u => by kernel_rfl) ?_
  refine wpList_pureL rfl (.pointer (some ⟨c, 59, none⟩)) (fun u => by kernel_rfl) ?_
  refine wpList_load_cell rfl 56 (.tmp 12) rfl c 59 (by kernel_rfl) (.pointer (some ⟨f, 0, none⟩)) _ Try.underlying56 rfl ((cell_of (grows_at HCB.out M.out.1) 59).trans (cuc_f cu f)) ?_
  refine wpList_pureL rfl (.pointer (some ⟨f, 0, none⟩)) (fun u => by kernel_rfl) ?_
  refine wpList_nil ?_
  try simp only [Act.put, sl1, sl2, sl3, sl4, sl5, sl6]
  go_upto_region 2 with (fail)
  refine wp_region_lit ?_
  refine wpList_pureL rfl (.pointer (some ⟨g + 1, 18, none⟩)) (fun u => by kernel_rfl) ?_
  refine wpList_load_cell rfl 4 (.tmp 15) rfl (g + 1) 18 (by kernel_rfl) (.bool false) _ Try.underlying4 rfl ((cell_of (M.out.at 1 rfl) 18).trans (ptc_inf x1 y1 false)) ?_
  refine wpList_pureL rfl (.bool false) (fun u => by kernel_rfl) ?_
  refine wpList_nil ?_
  try simp only [Act.put, sl1, sl2, sl3, sl4, sl5, sl6]
  go_upto_region 4 with (fail)
  refine wp_region_lit ?_
  refine wpList_pureL rfl (.pointer (some ⟨g + 1 + 1, 18, none⟩)) (fun u => by kernel_rfl) ?_
  refine wpList_load_cell rfl 4 (.tmp 19) rfl (g + 1 + 1) 18 (by kernel_rfl) (.bool false) _ Try.underlying4 rfl ((cell_of (M.out.at 2 rfl) 18).trans (ptc_inf x1 y1 false)) ?_
  refine wpList_pureL rfl (.bool false) (fun u => by kernel_rfl) ?_
  refine wpList_nil ?_
  try simp only [Act.put, sl1, sl2, sl3, sl4, sl5, sl6]
  go_upto_region 6 with (fail)
  refine wp_region_lit ?_
  refine wpList_pureL rfl (.pointer (some ⟨g + 1, 0, none⟩)) (fun u => by kernel_rfl) ?_
  refine wpN_load rfl (.tmp 23) rfl (g + 1) 0 (by kernel_rfl) (M.out.at 1 rfl) x1 (ptc_x x1 y1 false) ?_
  refine wpList_pureL rfl (.pointer (some ⟨g + 1 + 1, 0, none⟩)) (fun u => by kernel_rfl) ?_
  refine wpN_load rfl (.tmp 25) rfl (g + 1 + 1) 0 (by kernel_rfl) (M.out.at 2 rfl) x1 (ptc_x x1 y1 false) ?_
  try simp only [Act.put, sl1, sl2, sl3, sl4, sl5, sl6]
  refine wpList_pureL rfl (.bool false) (fun u => by have hh := fun w => neq_nat x1 x1 (Nat.lt_trans Hx1.out HP9.out) (Nat.lt_trans Hx1.out HP9.out) w; rw [decide_eq_false (fun h => h rfl)] at hh; go_simp) ?_
  refine wpList_pureL rfl (.bool false) (fun u => by kernel_rfl) ?_
  refine wpList_nil ?_
  try simp only [Act.put, sl1, sl2, sl3, sl4, sl5, sl6]
  go_upto_region 8 with (fail)
  refine wp_region_lit ?_
  refine wpList_pureL rfl (.pointer (some ⟨g + 1, 9, none⟩)) (fun u => by kernel_rfl) ?_
  refine wpN_load rfl (.tmp 49) rfl (g + 1) 9 (by kernel_rfl) (M.out.at 1 rfl) y1 (ptc_y x1 y1 false) ?_
  refine wpList_pureL rfl (.pointer (some ⟨g + 1 + 1, 9, none⟩)) (fun u => by kernel_rfl) ?_
  refine wpN_load rfl (.tmp 51) rfl (g + 1 + 1) 9 (by kernel_rfl) (M.out.at 2 rfl) y1 (ptc_y x1 y1 false) ?_
  try simp only [Act.put, sl1, sl2, sl3, sl4, sl5, sl6]
  refine wpList_pureL rfl (.bool false) (fun u => by have hh := fun w => neq_nat y1 y1 (Nat.lt_trans Hy1.out HP9.out) (Nat.lt_trans Hy1.out HP9.out) w; rw [decide_eq_false (fun h => h rfl)] at hh; go_simp) ?_
  refine wpList_pureL rfl (.bool false) (fun u => by kernel_rfl) ?_
  try simp only [Act.put, sl1, sl2, sl3, sl4, sl5, sl6]
  refine wpList_wantL rfl (.pointer (some ⟨g + 1, 9, none⟩)) (fun u => by kernel_rfl) ?_
  try simp only [Act.put, sl1, sl2, sl3, sl4, sl5, sl6]
  refine wpN_loadG2 rfl (.tmp 55) rfl (g + 1) 9 (by kernel_rfl) (M.out.at 1 rfl) (ptc_y x1 y1 false) ?_
  try simp only [Act.put, sl1, sl2, sl3, sl4, sl5, sl6]
  refine wpList_wantL rfl (.agg (nc 0)) (fun u => by rw [nc_zero]; kernel_rfl) ?_
  try simp only [Act.put, sl1, sl2, sl3, sl4, sl5, sl6]
  refine wpList_wantL rfl (.bool false) (fun u => by have hh := fun w => eq_nat y1 0 (Nat.lt_trans Hy1.out HP9.out) (pw_pos 9) w; rw [decide_eq_false HY0.out] at hh; go_simp) ?_
  refine wpList_pureL rfl (.bool false) (fun u => by kernel_rfl) ?_
  refine wpList_pureL rfl (.bool false) (fun u => by kernel_rfl) ?_
  refine wpList_nil ?_
  try simp only [Act.put, sl1, sl2, sl3, sl4, sl5, sl6]
  go_upto_region 10 with (fail)
  refine wp_region_lit ?_
  refine wpList_pureL rfl (.pointer (some ⟨f, 0, none⟩)) (fun u => by kernel_rfl) ?_
  refine wpList_pureL rfl (.pointer (some ⟨g + 1, 0, none⟩)) (fun u => by kernel_rfl) ?_
  refine wpN_load rfl (.tmp 62) rfl (g + 1) 0 (by kernel_rfl) (M.out.at 1 rfl) x1 (ptc_x x1 y1 false) ?_
  refine wpList_pureL rfl (.pointer (some ⟨g + 1, 0, none⟩)) (fun u => by kernel_rfl) ?_
  refine wpN_load rfl (.tmp 64) rfl (g + 1) 0 (by kernel_rfl) (M.out.at 1 rfl) x1 (ptc_x x1 y1 false) ?_
  have hcc := field_mul f cu.p d x1 x1 w1 (Hx1.out) (Hx1.out) (HF.out.up M.out.1); rw [← E0.out] at hcc
  refine wpList_fnL rfl 44 (.func 44) #[.tmp 61, .tmp 63, .tmp 65] #[56, 26, 26] rfl #[] #[.pointer (some ⟨f, 0, none⟩), .agg (nc x1), .agg (nc x1)] (by kernel_rfl) (by kernel_rfl) (fun u => callFunc_enter _ _ _ _ u Try.func44 (by kernel_rfl) (by kernel_rfl)) (.agg (nc k0)) (hcc) (fun w2 hb => ?_)
  have Nw2 := Lib.hid (show Mem w w2 [(g, #[.pointer (some ⟨c, 0, none⟩)], 67), (g + 1, ptc x1 y1 false, 28), (g + 1 + 1, ptc x1 y1 false, 28), (g + 1 + 1 + 1, ptc 0 0 false, 28)] from M.out.grow hb)
  clear hb M hcc
  refine wpList_new rfl 26 rfl (.agg (nc 0)) (by rw [nc_zero]; kernel_rfl) ?_
  intro xx w3 hx hx2 hgv hh
  have Nw3 := Lib.hid (show Mem w w3 [(g, #[.pointer (some ⟨c, 0, none⟩)], 67), (g + 1, ptc x1 y1 false, 28), (g + 1 + 1, ptc x1 y1 false, 28), (g + 1 + 1 + 1, ptc 0 0 false, 28), (xx, nc 0, 26)] from Nw2.out.new hgv (Nat.le_of_eq hx) hh)
  clear hx hx2 hgv hh Nw2
  refine wpList_store_blk rfl 26 (.tmp 8) (.tmp 66) rfl xx (by kernel_rfl) _ _ (nc k0) (by kernel_rfl) (Nw3.out.at 4 rfl) (by rw [nc_size]; kernel_rfl) (by simp only [nc_size]) (nc_one _) ?_
  intro w4 hw hb hs
  have Nw4 := Lib.hid (show Mem w w4 [(g, #[.pointer (some ⟨c, 0, none⟩)], 67), (g + 1, ptc x1 y1 false, 28), (g + 1 + 1, ptc x1 y1 false, 28), (g + 1 + 1 + 1, ptc 0 0 false, 28), (xx, nc k0, 26)] from Nw3.out.store 4 rfl hb hs hw)
  clear hw hb hs Nw3
  refine wpList_nil ?_
  try simp only [Act.put, sl1, sl2, sl3, sl4, sl5, sl6]
  go_upto_region 11 with (fail)
  have D5 := Lib.hid (Nw4.out.drew)
  clear Nw4
  refine wp_region_grow 29 29 (by kernel_rfl) (by kernel_rfl) (fun d v c a w h => by cases d <;> exact h) ?_
  simp only [List.take_succ_cons, List.take_zero]
  refine wpGrow_load_seg rfl 67 (.tmp 3) rfl g 0 1 (by kernel_rfl) (#[.pointer (some ⟨c, 0, none⟩)]) _ Try.underlying67 rfl (by kernel_rfl) (rfl) (fun u hu => D5.out.up 0 rfl hu) (fun j hj => by rw [Nat.zero_add]) ?_
  refine wpGrow_pure rfl (.pointer (some ⟨f, 0, none⟩)) (fun u => by kernel_rfl) ?_
  refine wpGrow_pure rfl (.pointer (some ⟨f, 0, none⟩)) (fun u => by kernel_rfl) ?_
  refine wpGrow_pure rfl (.pointer (some ⟨f, 0, none⟩)) (fun u => by kernel_rfl) ?_
  refine wpGrow_pure rfl (.pointer (some ⟨f, 0, none⟩)) (fun u => by kernel_rfl) ?_
  refine wpGrow_loadN0 rfl (.tmp 8) rfl xx (by kernel_rfl) (fun u hu => D5.out.up 4 rfl hu) ?_
  refine wpGrow_loadN0 rfl (.tmp 8) rfl xx (by kernel_rfl) (fun u hu => D5.out.up 4 rfl hu) ?_
  refine wpGrow_fn rfl 40 (.func 40) #[.tmp 71, .tmp 72, .tmp 73] #[56, 26, 26] rfl #[] #[.pointer (some ⟨f, 0, none⟩), .agg (nc k0), .agg (nc k0)] (by kernel_rfl) (by kernel_rfl) (fun u => callFunc_enter _ _ _ _ u Try.func40 (by kernel_rfl) (by kernel_rfl)) (.agg (nc k1)) (fun u hu => by have hcc := field_add f cu.p d k0 k0 u (L0.out) (L0.out) (HF.out.up (grows_trans _ _ _ D5.out.1 hu)); rw [← E1.out] at hcc; exact hcc) ?_
  refine wpGrow_loadN0 rfl (.tmp 8) rfl xx (by kernel_rfl) (fun u hu => D5.out.up 4 rfl hu) ?_
  refine wpGrow_fn rfl 40 (.func 40) #[.tmp 70, .tmp 74, .tmp 75] #[56, 26, 26] rfl #[] #[.pointer (some ⟨f, 0, none⟩), .agg (nc k1), .agg (nc k0)] (by kernel_rfl) (by kernel_rfl) (fun u => callFunc_enter _ _ _ _ u Try.func40 (by kernel_rfl) (by kernel_rfl)) (.agg (nc k2)) (fun u hu => by have hcc := field_add f cu.p d k1 k0 u (L1.out) (L0.out) (HF.out.up (grows_trans _ _ _ D5.out.1 hu)); rw [← E2.out] at hcc; exact hcc) ?_
  refine wpGrow_pure rfl (.pointer (some ⟨g, 0, none⟩)) (fun u => by kernel_rfl) ?_
  refine wpGrow_load_cell rfl 54 (.tmp 77) rfl g 0 (by kernel_rfl) (.pointer (some ⟨c, 0, none⟩)) _ Try.underlying54 rfl (fun u hu => (cell_of (D5.out.up 0 rfl hu) 0).trans (rfl)) ?_
  refine wpGrow_pure rfl (.pointer (some ⟨c, 0, none⟩)) (fun u => by kernel_rfl) ?_
  refine wpGrow_pure rfl (.pointer (some ⟨c, 0, none⟩)) (fun u => by kernel_rfl) ?_
  refine wpGrow_pure rfl (.pointer (some ⟨c, 10, none⟩)) (fun u => by kernel_rfl) ?_
  refine wpGrow_loadN rfl (.tmp 81) rfl c 10 (by kernel_rfl) cu.a (fun u hu => grows_at HCB.out (grows_trans _ _ _ D5.out.1 hu)) (cuc_a cu f) ?_
  refine wpGrow_fn rfl 40 (.func 40) #[.tmp 69, .tmp 76, .tmp 82] #[56, 26, 26] rfl #[] #[.pointer (some ⟨f, 0, none⟩), .agg (nc k2), .agg (nc cu.a)] (by kernel_rfl) (by kernel_rfl) (fun u => callFunc_enter _ _ _ _ u Try.func40 (by kernel_rfl) (by kernel_rfl)) (.agg (nc k3)) (fun u hu => by have hcc := field_add f cu.p d k2 cu.a u (L2.out) (HK.out.2.1) (HF.out.up (grows_trans _ _ _ D5.out.1 hu)); rw [← E3.out] at hcc; exact hcc) ?_
  refine wpGrow_pure rfl (.pointer (some ⟨f, 0, none⟩)) (fun u => by kernel_rfl) ?_
  refine wpGrow_pure rfl (.pointer (some ⟨f, 0, none⟩)) (fun u => by kernel_rfl) ?_
  refine wpGrow_pure rfl (.pointer (some ⟨g + 1, 9, none⟩)) (fun u => by kernel_rfl) ?_
  refine wpGrow_loadN rfl (.tmp 86) rfl (g + 1) 9 (by kernel_rfl) y1 (fun u hu => D5.out.up 1 rfl hu) (ptc_y x1 y1 false) ?_
  refine wpGrow_pure rfl (.pointer (some ⟨g + 1, 9, none⟩)) (fun u => by kernel_rfl) ?_
  refine wpGrow_loadN rfl (.tmp 88) rfl (g + 1) 9 (by kernel_rfl) y1 (fun u hu => D5.out.up 1 rfl hu) (ptc_y x1 y1 false) ?_
  refine wpGrow_fn rfl 40 (.func 40) #[.tmp 85, .tmp 87, .tmp 89] #[56, 26, 26] rfl #[] #[.pointer (some ⟨f, 0, none⟩), .agg (nc y1), .agg (nc y1)] (by kernel_rfl) (by kernel_rfl) (fun u => callFunc_enter _ _ _ _ u Try.func40 (by kernel_rfl) (by kernel_rfl)) (.agg (nc k4)) (fun u hu => by have hcc := field_add f cu.p d y1 y1 u (Hy1.out) (Hy1.out) (HF.out.up (grows_trans _ _ _ D5.out.1 hu)); rw [← E4.out] at hcc; exact hcc) ?_
  refine wpGrow_fn rfl 46 (.func 46) #[.tmp 84, .tmp 90] #[56, 26] rfl #[] #[.pointer (some ⟨f, 0, none⟩), .agg (nc k4)] (by kernel_rfl) (by kernel_rfl) (fun u => callFunc_enter _ _ _ _ u Try.func46 (by kernel_rfl) (by kernel_rfl)) (.agg (nc t)) (fun u hu => by exact field_inv f cu.p d k4 t u (L4.out) HT.out.1 HTI.out (HF.out.up (grows_trans _ _ _ D5.out.1 hu))) ?_
  refine wpGrow_fn rfl 44 (.func 44) #[.tmp 68, .tmp 83, .tmp 91] #[56, 26, 26] rfl #[] #[.pointer (some ⟨f, 0, none⟩), .agg (nc k3), .agg (nc t)] (by kernel_rfl) (by kernel_rfl) (fun u => callFunc_enter _ _ _ _ u Try.func44 (by kernel_rfl) (by kernel_rfl)) (.agg (nc k5)) (fun u hu => by have hcc := field_mul f cu.p d k3 t u (L3.out) (HT.out.1) (HF.out.up (grows_trans _ _ _ D5.out.1 hu)); rw [← E5.out] at hcc; exact hcc) ?_
  refine wpGrow_load_seg rfl 28 (.tmp 4) rfl (g + 1) 0 19 (by kernel_rfl) (ptc x1 y1 false) _ Try.underlying28 rfl (by kernel_rfl) (ptc_size _ _ _) (fun u hu => D5.out.up 1 rfl hu) (fun j hj => by rw [Nat.zero_add]) ?_
  refine wpGrow_load_seg rfl 28 (.tmp 5) rfl (g + 1 + 1) 0 19 (by kernel_rfl) (ptc x1 y1 false) _ Try.underlying28 rfl (by kernel_rfl) (ptc_size _ _ _) (fun u hu => D5.out.up 2 rfl hu) (fun j hj => by rw [Nat.zero_add]) ?_
  refine wpGrow_fn rfl 43 (.func 43) #[.tmp 67, .tmp 92, .tmp 93, .tmp 94] #[67, 26, 28, 28] rfl #[] #[.agg #[.pointer (some ⟨c, 0, none⟩)], .agg (nc k5), .agg (ptc x1 y1 false), .agg (ptc x1 y1 false)] (by kernel_rfl) (by kernel_rfl) (fun u => callFunc_enter _ _ _ _ u Try.func43 (by kernel_rfl) (by kernel_rfl)) (.agg (ptc (slx cu.p k5 x1 x1) (sly cu.p k5 x1 y1 (slx cu.p k5 x1 x1)) false)) (fun u hu => by exact affine_slope c f d k5 x1 y1 x1 y1 false false cu u L5.out Hx1.out Hy1.out Hx1.out ⟨HK.out, HF.out.up (grows_trans _ _ _ D5.out.1 hu), grows_at HCB.out (grows_trans _ _ _ D5.out.1 hu)⟩) ?_
  refine wpGrow_nil ?_
  try simp only [Act.put, sl1, sl2, sl3, sl4, sl5, sl6]
  refine grow_stores (rs := [29]) (by kernel_rfl) (by decide) (fun w6 hg6 => ?_)
  have Nw6 := Lib.hid (D5.out.grow hg6)
  clear hg6 D5
  refine wpAny_ready (rs := [29]) (by kernel_rfl) (by simp) ?_
  refine AllReady.cons rfl (fun K hK => ?_) AllReady.nil
  refine step_store_blk rfl 28 (.tmp 6) (.tmp 95) rfl (g + 1 + 1 + 1) rfl _ _ _ rfl (Nw6.out.at 3 rfl) (by rw [ptc_size]; kernel_rfl) (by simp only [ptc_size]) (ptc_one _ _ _) (fun w7 hw hb hs => hK _ _ ?_)
  have Nw7 := Lib.hid (show Mem w w7 [(g, #[.pointer (some ⟨c, 0, none⟩)], 67), (g + 1, ptc x1 y1 false, 28), (g + 1 + 1, ptc x1 y1 false, 28), (g + 1 + 1 + 1, ptc (slx cu.p k5 x1 x1) (sly cu.p k5 x1 y1 (slx cu.p k5 x1 x1)) false, 28), (xx, nc k0, 26)] from Nw6.out.store 3 rfl hb hs hw)
  clear hK hw hb hs Nw6
  try simp only [Act.put, sl1, sl2, sl3, sl4, sl5, sl6]
  refine wpAny_done (by kernel_rfl) ?_ _
  try simp only [Act.put, sl1, sl2, sl3, sl4, sl5, sl6]
  go_wp2_with (fail)
  exact bodyPost_ret (results_O rfl _ _ (g + 1 + 1 + 1) _ _ _ _ _ rfl (Nw7.out.at 3 rfl)) rfl ⟨by rw [E5.out, E3.out, E2.out, E1.out, E0.out], Nw7.out.below⟩
end Go.Proofs.Ytkoonhiplicbkaa.Cw

set_option linter.unusedSimpArgs false
set_option linter.unusedVariables false
namespace Go.Proofs.Ytkoonhiplicbkaa.Cw
open Go Go.RowKit
section
variable (k : CK)
theorem cf_slx {l a b : Nat} (ha : a < k.c.p) (hb : b < k.c.p) : cf k (slx k.c.p l a b) = cf k l * cf k l - cf k a - cf k b := by
  unfold slx; rw [cf_fsb k _ _ hb, cf_fsb k _ _ ha, cf_fml]
theorem cf_sly {l a y x : Nat} (hy : y < k.c.p) (hx : x < k.c.p) : cf k (sly k.c.p l a y x) = cf k l * (cf k a - cf k x) - cf k y := by
  unfold sly; rw [cf_fsb k _ _ hy, cf_fml, cf_fsb k _ _ hx]
theorem slx_lt {p l a b : Nat} (h : p ≠ 0) : slx p l a b < p := fsb_lt _ _ h
theorem sly_lt {p l a y x : Nat} (h : p ≠ 0) : sly p l a y x < p := fsb_lt _ _ h
theorem val_of {n : Nat} {x : Fin k.c.p} (h : n < k.c.p) (e : cf k n = x) : n = x.val := by rw [← e, val_cf k h]
theorem cf_ne {a b : Fin k.c.p} (h : a.val ≠ b.val) : a ≠ b := fun e => h (by rw [e])
theorem group_add (m n c f d : Nat) (w : World) (H : CurveAt w c f d k.c) : Calls Try.prog 23 #[.agg #[.pointer (some ⟨c, 0, none⟩)], .agg (gpt k m), .agg (gpt k n)] w fun e w' => e = .returned (.agg (gpt k (m + n))) ∧ Below w.heap.size w w' := by
  have hK := ck_ok k
  have hP := gm_on k m
  have hQ := gm_on k n
  have hadd := gm_add k m n
  unfold gpt
  rw [← hadd]
  unfold gop
  generalize gm k m = P at *
  generalize gm k n = Q at *
  rcases P with _ | ⟨x, y⟩
  · rw [opl_none hK hQ]
    exact add_inf1 c f d 0 0 (pX k Q) (pY k Q) k.c w (pI k Q) H
  · rcases Q with _ | ⟨x', y'⟩
    · rw [opl_comm, opl_none hK hP]
      exact add_inf2 c f d x.val y.val 0 0 k.c w H
    · show Calls _ _ #[_, .agg (ptc x.val y.val false), .agg (ptc x'.val y'.val false)] w _
      by_cases hx : x = x'
      · subst hx
        by_cases hy : y = y'
        · subst hy
          have hy0 := y_ne hK hP
          have h2 := mul_ne hK.pr hK.two hy0
          have hyy : y + y ≠ 0 := by
            have : 2 * y = y + y := by clear hP hQ hadd; grind -lia -linarith -order (splits := 0) (ematch := 0)
            rw [← this]; exact h2
          obtain ⟨t, ht⟩ := fin_inv k.pr hyy
          have e := opl_dbl hK hP ht _ rfl
          rw [e]
          have hti : t.val * fad k.c.p y.val y.val % k.c.p = 1 := by
            have h3 : cf k (fml k.c.p t.val (fad k.c.p y.val y.val)) = 1 := by rw [cf_fml, cf_fad, cf_val, cf_val]; exact ht
            have h4 := congrArg Fin.val h3
            rw [val_cf k (fml_lt _ _ k.p0), ← cf1 k, val_cf k k.p1] at h4
            exact h4
          have hw := add_dbl c f d x.val y.val t.val k.c w x.isLt y.isLt (fun h => hy0 (Fin.ext h)) t.isLt hti H
          have hl : cf k (fml k.c.p (fad k.c.p (fad k.c.p (fad k.c.p (fml k.c.p x.val x.val) (fml k.c.p x.val x.val)) (fml k.c.p x.val x.val)) k.c.a) t.val) = (x * x + x * x + x * x + gA1 k) * t := by
            simp only [cf_fml, cf_fad, cf_val, gA1]
          generalize fml k.c.p (fad k.c.p (fad k.c.p (fad k.c.p (fml k.c.p x.val x.val) (fml k.c.p x.val x.val)) (fml k.c.p x.val x.val)) k.c.a) t.val = l at hw hl
          have ex : slx k.c.p l x.val x.val = ((x * x + x * x + x * x + gA1 k) * t * ((x * x + x * x + x * x + gA1 k) * t) - x - x).val := val_of k (slx_lt k.p0) (by rw [cf_slx k x.isLt x.isLt, hl, cf_val])
          have ey : sly k.c.p l x.val y.val (slx k.c.p l x.val x.val) = ((x * x + x * x + x * x + gA1 k) * t * (x - ((x * x + x * x + x * x + gA1 k) * t * ((x * x + x * x + x * x + gA1 k) * t) - x - x)) - y).val := val_of k (sly_lt k.p0) (by rw [cf_sly k y.isLt (slx_lt k.p0), cf_slx k x.isLt x.isLt, hl, cf_val, cf_val])
          rw [ey, ex] at hw
          exact hw
        · rw [opl_opp hK hP hQ hy]
          exact add_opp c f d x.val y.val y'.val k.c w x.isLt y.isLt y'.isLt (fun h => hy (Fin.ext h)) H
      · obtain ⟨t, ht⟩ := fin_inv k.pr (sub_ne hx)
        have e := opl_chord hK hP hQ hx ht _ rfl
        rw [e]
        have hti : t.val * fsb k.c.p x'.val x.val % k.c.p = 1 := by
          have h3 : cf k (fml k.c.p t.val (fsb k.c.p x'.val x.val)) = 1 := by rw [cf_fml, cf_fsb k _ _ x.isLt, cf_val, cf_val, cf_val]; exact ht
          have h4 := congrArg Fin.val h3
          rw [val_cf k (fml_lt _ _ k.p0), ← cf1 k, val_cf k k.p1] at h4
          exact h4
        have hw := add_chord c f d x.val y.val x'.val y'.val t.val k.c w x.isLt y.isLt x'.isLt y'.isLt (fun h => hx (Fin.ext h)) t.isLt hti H
        have hl : cf k (fml k.c.p (fsb k.c.p y'.val y.val) t.val) = (y' - y) * t := by rw [cf_fml, cf_fsb k _ _ y.isLt, cf_val, cf_val, cf_val]
        generalize fml k.c.p (fsb k.c.p y'.val y.val) t.val = l at hw hl
        have ex : slx k.c.p l x.val x'.val = ((y' - y) * t * ((y' - y) * t) - x - x').val := val_of k (slx_lt k.p0) (by rw [cf_slx k x.isLt x'.isLt, hl, cf_val, cf_val])
        have ey : sly k.c.p l x.val y.val (slx k.c.p l x.val x'.val) = ((y' - y) * t * (x - ((y' - y) * t * ((y' - y) * t) - x - x')) - y).val := val_of k (sly_lt k.p0) (by rw [cf_sly k y.isLt (slx_lt k.p0), cf_slx k x.isLt x'.isLt, hl, cf_val, cf_val, cf_val])
        rw [ey, ex] at hw
        exact hw
end
end Go.Proofs.Ytkoonhiplicbkaa.Cw
