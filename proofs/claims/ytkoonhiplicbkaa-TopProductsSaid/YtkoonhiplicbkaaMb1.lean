/-
  Blocks known whole beside a curve that this call has opened. No condition but what each says.
  (packages base, mult) Times, Mul: a number below N times G, or times a multiple of G. Condition: a curve's number from 1 to 15, no recorder.
-/
import Derived.Test.YtkoonhiplicbkaaMlt
set_option linter.unusedSimpArgs false
set_option linter.unusedVariables false
namespace Go.Proofs.Ytkoonhiplicbkaa.Cw
open Go Go.RowKit
/-- blocks known whole, and an opened curve -/
def MC (w0 w : World) (L : List Blk) (c f d : Nat) (cu : Cv) : Prop := Grows w0 w ∧ Mem w0 w L ∧ CurveAt w c f d cu
theorem CurveAt.but {w w' : World} {c f d g : Nat} {cu : Cv} (h : CurveAt w c f d cu) (hb : But g w w') (h1 : c ≠ g) (h2 : f ≠ g) (h3 : d ≠ g) : CurveAt w' c f d cu := by
  obtain ⟨hk, ⟨f1, f2, f3, ⟨n, s, e1, e2, e3, e4, e5, e6⟩, f5⟩, hc⟩ := h
  exact ⟨hk, ⟨f1, f2, f3, ⟨n, s, e1, e2, e3, e4, e5, hb.heap h3 e6⟩, hb.heap h2 f5⟩, hb.heap h1 hc⟩
theorem type_ne {w : World} {g x : Nat} {C D : Array Value} {t u : TypeId} {fr fs : Nat × Nat} (h1 : w.heap[g]? = some (.cells C t fr)) (h2 : w.heap[x]? = some (.cells D u fs)) (h : t ≠ u) : x ≠ g := fun e => by
  subst e
  rw [h1] at h2
  injection h2 with h2
  injection h2 with _ h2 _
  exact h h2
section
variable {w0 w w' : World} {L : List Blk} {c f d : Nat} {cu : Cv}
theorem MC.crv (M : MC w0 w L c f d cu) : CurveAt w c f d cu := M.2.2
theorem MC.m (M : MC w0 w L c f d cu) : Mem w0 w L := M.2.1
theorem MC.of (M : Mem w0 w L) (h : CurveAt w c f d cu) : MC w0 w L c f d cu := ⟨M.1, M, h⟩
theorem MC.at (M : MC w0 w L c f d cu) (i : Nat) {g : Nat} {C : Array Value} {t : TypeId} (h : L[i]? = some (g, C, t)) : w.heap[g]? = some (.cells C t (0, 0)) := M.2.1.at i h
theorem MC.up (M : MC w0 w L c f d cu) (i : Nat) {g : Nat} {C : Array Value} {t : TypeId} (h : L[i]? = some (g, C, t)) (hg : Grows w w') : w'.heap[g]? = some (.cells C t (0, 0)) := M.2.1.up i h hg
theorem MC.ge (M : MC w0 w L c f d cu) (i : Nat) {g : Nat} {C : Array Value} {t : TypeId} (h : L[i]? = some (g, C, t)) : w0.heap.size ≤ g := M.2.1.ge i h
theorem MC.below (M : MC w0 w L c f d cu) : Below w0.heap.size w0 w := M.1
theorem MC.grow (M : MC w0 w L c f d cu) (h : Grows w w') : MC w0 w' L c f d cu := .of (M.2.1.grow h) (M.2.2.up h)
theorem MC.drew (M : MC w0 w L c f d cu) : MC w0 w.drew L c f d cu := M.grow ((Below.refl _ _).drew)
theorem MC.drewN (M : MC w0 w L c f d cu) (k : Nat) : MC w0 (w.drewN k) L c f d cu := M.grow (Below.drewN (Below.refl _ _) k)
theorem MC.new (M : MC w0 w L c f d cu) {x : Nat} {C : Array Value} {t : TypeId} (h : Grows w w') (hx : w.heap.size ≤ x) (hh : w'.heap[x]? = some (.cells C t (0, 0))) : MC w0 w' (L ++ [(x, C, t)]) c f d cu := .of (M.2.1.new h hx hh) (M.2.2.up h)
theorem MC.new2 (M : MC w0 w L c f d cu) {x y : Nat} {C D : Array Value} {t u : TypeId} (h : Grows w w') (hx : w.heap.size ≤ x) (hy : w.heap.size ≤ y) (hxy : x ≠ y) (hh : w'.heap[x]? = some (.cells C t (0, 0))) (hh2 : w'.heap[y]? = some (.cells D u (0, 0))) : MC w0 w' (L ++ [(x, C, t), (y, D, u)]) c f d cu := .of (M.2.1.new2 h hx hy hxy hh hh2) (M.2.2.up h)
theorem MC.store (M : MC w0 w L c f d cu) (i : Nat) {g : Nat} {C : Array Value} {t : TypeId} (h : L[i]? = some (g, C, t)) (hb : But g w w') (hs : w'.heap.size = w.heap.size) {C' : Array Value} {t' : TypeId} (hh : w'.heap[g]? = some (.cells C' t' (0, 0)))
    (ht : (t ≠ 58 ∧ t ≠ 89) ∧ t ≠ 142 := by decide) : MC w0 w' (L.set i (g, C', t')) c f d cu := by
  refine .of (M.2.1.store i h hb hs hh) (M.2.2.but hb (type_ne (M.at i h) M.2.2.2.2 ht.1.1) (type_ne (M.at i h) M.2.2.2.1.2.2.2.2 ht.1.2) ?_)
  obtain ⟨n, s, _, _, _, _, _, e6⟩ := M.2.2.2.1.2.2.2.1
  exact type_ne (M.at i h) e6 ht.2
theorem MC.take (M : MC w0 w L c f d cu) (k : Nat) : MC w0 w (L.take k) c f d cu := .of (M.2.1.take k) M.2.2
theorem MC.sub {L' : List Blk} (M : MC w0 w L c f d cu) (h : L'.Sublist L) : MC w0 w L' c f d cu := .of (M.2.1.sub h) M.2.2
end
/-- G as a multiple of itself -/
theorem gpt_g (k : CK) : gpt k 1 = ptc k.c.gx k.c.gy false := by
  obtain ⟨h1, h2, h3, h4, h5, h6, h7⟩ := k.num
  unfold gpt
  rw [gm_one]
  show ptc (cf k k.c.gx).val (cf k k.c.gy).val false = _
  rw [val_cf k h5, val_cf k h6]
theorem CK.n9 (k : CK) : k.c.n < pw 9 := k.ok.2.2.2.2.2
def nB (k : Nat) : Bool := decide (1 < (cv k).n)
theorem n_all : (List.range 15).all (fun i => nB (i + 1)) = true := by decide +kernel
theorem CK.n1 (k : CK) : 1 < k.c.n := by
  have h := List.all_eq_true.1 n_all (k.1 - 1) (List.mem_range.2 (by have := k.2.2; omega))
  have e : k.1 - 1 + 1 = k.1 := by have := k.2.1; omega
  rw [e] at h
  exact of_decide_eq_true h
theorem CK.blN (k : CK) : 1 ≤ bl k.c.n ∧ bl k.c.n ≤ 576 := ⟨by have := k.n1; unfold bl; rw [if_neg (by omega)]; omega, bl_le576 _ k.n9⟩
theorem CK.open_ (k : CK) (w : World) : Calls Try.prog 18 #[.int .i64 k.1] w fun e w' => ∃ c f d, e = .returned (.pointer (some ⟨c, 0, none⟩)) ∧ CurveAt w' c f d k.c ∧ w.heap.size ≤ c ∧ Below w.heap.size w w' := curve_open k.1 w k.2.1 k.2.2
end Go.Proofs.Ytkoonhiplicbkaa.Cw

set_option linter.unusedSimpArgs false
set_option linter.unusedVariables false
namespace Go.Proofs.Ytkoonhiplicbkaa.Cw
open Go Go.RowKit
attribute [local irreducible] pc ptc nc ac cuc fc gpt
attribute [local go_sem ↓ high] wn_eql wn_neq wn_lss wn_gtr wn_leq wn_geq wn_cells wn_run_store wn_guard lit0 lit1
attribute [local go_sem high] wn_match wn_run_store wn_eql wn_neq wn_lss wn_gtr wn_leq wn_geq

set_option maxRecDepth 100000 in
set_option maxHeartbeats 4000000 in
theorem base_times (k : CK) (c f d n : Nat) (w : World) (hn : n < k.c.n) (H : CurveAt w c f d k.c) : Calls Try.prog 32 #[.pointer none, .pointer (some ⟨c, 0, none⟩), .agg (nc n)] w fun e w' => e = .returned (.agg (gpt k n)) ∧ Below w.heap.size w w' := by
  have HC := Lib.hid H
  have HNB := Lib.hid (show n < 2 ^ bl k.c.n from Nat.lt_trans hn (bl_lt _))
  clear H hn
  go_enter Try.func32, Try.ntmps32
  go_upto_region 1 with fail
  rw [← ptc_zero]
  have m0 := Mem.start2 w (nc n) (ptc 0 0 false) 26 28
  obtain ⟨w1, hw1⟩ : ∃ w1 : World, w1 = ((w.alloc (.cells (nc n) 26)).alloc (.cells (ptc 0 0 false) 28)) := ⟨_, rfl⟩
  rw [← hw1] at m0 ⊢
  clear hw1
  obtain ⟨g, hg⟩ : ∃ g, g = w.heap.size := ⟨_, rfl⟩
  rw [← hg] at m0 ⊢
  have HG := Lib.hid hg
  have M := Lib.hid m0
  clear hg m0
  go_upto_region 1 with (fail)
  have D := Lib.hid (M.out.drew)
  clear M
  refine wp_region_cls (C := (fun u => Mem w u [(g, nc n, 26)])) (fun u u2 hu hg => Mem.grow hu hg) [0, 1, 2, 3, 4, 5, 6, 7, 8] (D.out.sub (by simp)) (by kernel_rfl) (by kernel_rfl) (fun d v c a w h => by cases d <;> exact h) ?_
  simp only [pickOps, List.filterMap_cons, List.filterMap_nil, List.getElem?_cons_succ, List.getElem?_cons_zero]
  refine wpE_pure rfl (.pointer none) (fun u => by kernel_rfl) ?_
  refine wpE_pure rfl (.pointer (some ⟨c, 0, none⟩)) (fun u => by kernel_rfl) ?_
  refine wpE_loadN rfl (.tmp 5) rfl g 0 (by kernel_rfl) n (fun u hu => ⟨_, _, _, Mem.at hu 0 rfl, fun j hj => by rw [Nat.zero_add]; exact nc_get _ j hj⟩) ?_
  refine wpE_pure rfl (.pointer (some ⟨c, 0, none⟩)) (fun u => by kernel_rfl) ?_
  refine wpE_pure rfl (.pointer (some ⟨c, 0, none⟩)) (fun u => by kernel_rfl) ?_
  refine wpE_pure rfl (.pointer (some ⟨c, 0, none⟩)) (fun u => by kernel_rfl) ?_
  refine wpE_pure rfl (.pointer (some ⟨c, 0, none⟩)) (fun u => by kernel_rfl) ?_
  refine wpE_pure rfl (.pointer (some ⟨c, 37, none⟩)) (fun u => by kernel_rfl) ?_
  refine wpE_load_seg rfl 28 (.tmp 14) rfl c 37 19 (by kernel_rfl) (gpt k 1) _ Try.underlying28 rfl (by kernel_rfl) (gpt_size _ _) (fun u hu => ⟨_, _, _, grows_at HC.out.2.2 hu.1, fun j hj => by rw [gpt_g]; exact cuc_g _ _ j hj⟩) ?_
  refine wpE_nil ?_
  try simp only [Act.put, sl1, sl2, sl3, sl4, sl5, sl6]
  refine ready_E (rs := [9]) (by kernel_rfl) (by simp) (fun u hgB => ?_)
  have N1 := Lib.hid (D.out.grow hgB)
  clear hgB D
  refine EAll.cons rfl (fun K hK => step_fnE rfl 31 (.func 31) #[.tmp 10, .tmp 15, .const (.int .i64 16)] #[54, 28, 3] rfl #[] #[.pointer (some ⟨c, 0, none⟩), .agg (gpt k 1), .int .i64 16] (by kernel_rfl) (by kernel_rfl) (fun u => callFunc_enter _ _ _ _ u Try.func31 (by kernel_rfl) (by kernel_rfl)) (fun t : Nat => .pointer (some ⟨t, 0, none⟩)) (fun t w' => TabAt k w' t 1 16 ∧ Below u.heap.size u w') ((table_of k 1 16 c f d (by decide) (by decide) u (HC.out.up N1.out.1)).mono fun e w' ⟨t, h1, h2, _, h3⟩ => ⟨t, h1, h2, h3⟩) (fun t u2 hR => hK _ _ ((N1.out.grow hR.2).sub (by simp)) ?_)) EAll.nil
  have N2 := Lib.hid (N1.out.grow hR.2)
  have HT := Lib.hid hR.1
  clear hR N1
  try simp only [Act.put, sl1, sl2, sl3, sl4, sl5, sl6]
  refine ready_E (rs := [10]) (by kernel_rfl) (by simp) (fun u3 hgB => ?_)
  have N3 := Lib.hid (N2.out.grow hgB)
  have HT3 := Lib.hid (HT.out.up hgB)
  clear hgB N2 HT
  refine EAll.cons rfl (fun K hK => step_fnE rfl 30 (.func 30) #[.tmp 7, .tmp 8, .tmp 9, .tmp 16] #[71, 54, 26, 75] rfl #[] #[.pointer none, .pointer (some ⟨c, 0, none⟩), .agg (nc n), .pointer (some ⟨t, 0, none⟩)] (by kernel_rfl) (by kernel_rfl) (fun u => callFunc_enter _ _ _ _ u Try.func30 (by kernel_rfl) (by kernel_rfl)) (fun _ : Unit => .agg (gpt k (n * 1))) (fun _ w' => Below u3.heap.size u3 w') ((mult_times k c f d t n 1 u3 HNB.out k.blN.1 k.blN.2 (HC.out.up N3.out.1) HT3.out).mono fun e w' ⟨h1, h2⟩ => ⟨(), h1, h2⟩) (fun _ u4 hR => hK _ _ ((N3.out.grow hR).sub (by simp)) ?_)) EAll.nil
  have N4 := Lib.hid (N3.out.grow hR)
  clear hR N3
  try simp only [Act.put, sl1, sl2, sl3, sl4, sl5, sl6]
  refine ready_E (rs := [11]) (by kernel_rfl) (by simp) (fun u5 hgB => ?_)
  have N5 := Lib.hid (N4.out.grow hgB)
  clear hgB N4
  refine EAll.cons rfl (fun K hK => step_store_blk rfl 28 (.tmp 6) (.tmp 17) rfl (g + 1) rfl _ _ (gpt k (n * 1)) rfl (N5.out.at 1 rfl) (by rw [gpt_size]; kernel_rfl) (by simp only [gpt_size, ptc_size]) (gpt_one _ _) (fun u6 hw hb hs => hK _ _ ((N5.out.store 1 rfl hb hs hw).sub (by simp)) ?_)) EAll.nil
  have N6 := Lib.hid (N5.out.store 1 rfl hb hs hw)
  clear hw hb hs N5
  try simp only [Act.put, sl1, sl2, sl3, sl4, sl5, sl6]
  refine done_E (by kernel_rfl) (fun u7 hgB => ?_)
  have N7 := Lib.hid (N6.out.grow hgB)
  clear hgB N6
  try simp only [Act.put, sl1, sl2, sl3, sl4, sl5, sl6]
  go_wp2_with (fail)
  exact bodyPost_ret (results_blk rfl _ _ (g + 1) _ _ _ _ rfl (N7.out.at 1 rfl) Try.underlying28 rfl (by rw [gpt_size]; kernel_rfl)) rfl ⟨by rw [Nat.mul_one], N7.out.below⟩
theorem cmp_geq {t : TypeId} {a b : Nat} (h : a < b) : binOp .geq t (.int .i64 (cmpN a b)) (.int .i64 0) = pure (.bool false) := by
  rw [bi_geq]
  have h1 := cmp_lss a b
  rw [decide_eq_true h] at h1
  have h2 := of_decide_eq_true h1
  rw [decide_eq_false (by omega)]
set_option maxRecDepth 100000 in
set_option maxHeartbeats 4000000 in
theorem base_mul (k : CK) (n : Nat) (w : World) (hn : n < k.c.n) : Calls Try.prog 13 #[.pointer none, .int .i64 k.1, .agg (nc n)] w fun e w' => e = .returned (.tuple #[.agg (gpt k n), .int .i64 0]) ∧ Below w.heap.size w w' := by
  have HLT := Lib.hid hn
  have n9 := Lib.hid (show n < pw 9 from Nat.lt_trans hn k.n9)
  have N9 := Lib.hid k.n9
  clear hn
  go_enter Try.func13, Try.ntmps13
  go_upto_region 1 with fail
  rw [← ptc_zero]
  have m0 := Mem.start2 w (nc n) (ptc 0 0 false) 26 28
  obtain ⟨w1, hw1⟩ : ∃ w1 : World, w1 = ((w.alloc (.cells (nc n) 26)).alloc (.cells (ptc 0 0 false) 28)) := ⟨_, rfl⟩
  rw [← hw1] at m0 ⊢
  clear hw1
  obtain ⟨g, hg⟩ : ∃ g, g = w.heap.size := ⟨_, rfl⟩
  rw [← hg] at m0 ⊢
  have HG := Lib.hid hg
  have M := Lib.hid m0
  clear hg m0
  go_upto_region 1 with (fail)
  refine wp_region_lit ?_
  refine wpList_pureL rfl (.int .i64 (k.1 : Int)) (fun u => by kernel_rfl) ?_
  refine wpList_fnE rfl 18 (.func 18) #[.tmp 9] #[3] rfl #[] #[.int .i64 (k.1 : Int)] (by kernel_rfl) (by kernel_rfl) (fun u => callFunc_enter _ _ _ _ u Try.func18 (by kernel_rfl) (by kernel_rfl)) (T := Nat) (fun c => .pointer (some ⟨c, 0, none⟩)) (fun c w' => ∃ f d, CurveAt w' c f d k.c ∧ Below w1.heap.size w1 w') ((k.open_ w1).mono fun e w' ⟨c, f, d, he, hr, _, hb⟩ => ⟨c, he, f, d, hr, hb⟩) ?_
  rintro c w2 ⟨f, d, hc, hb⟩
  have M2 := Lib.hid (MC.of (M.out.grow hb) hc)
  clear hc hb M
  refine wpList_pureL rfl (.pointer (some ⟨c, 0, none⟩)) (fun u => by kernel_rfl) ?_
  refine wpList_nil ?_
  try simp only [Act.put, sl1, sl2, sl3, sl4, sl5, sl6]
  go_upto_region 2 with (fail)
  refine wp_region_lit ?_
  refine wpList_pureL rfl (.pointer (some ⟨c, 0, none⟩)) (fun u => by kernel_rfl) ?_
  refine wpList_pureL rfl (.bool false) (fun u => by kernel_rfl) ?_
  refine wpList_pureL rfl (.bool false) (fun u => by kernel_rfl) ?_
  refine wpList_nil ?_
  try simp only [Act.put, sl1, sl2, sl3, sl4, sl5, sl6]
  go_upto_region 4 with (fail)
  have D2 := Lib.hid (M2.out.drew)
  clear M2
  refine wp_region_grow 9 9 (by kernel_rfl) (by kernel_rfl) (fun d v c a w h => by cases d <;> exact h) ?_
  simp only [List.take_succ_cons, List.take_zero]
  refine wpGrow_loadN0 rfl (.tmp 5) rfl g (by kernel_rfl) (fun u hu => D2.out.up 0 rfl hu) ?_
  refine wpGrow_pure rfl (.pointer (some ⟨c, 0, none⟩)) (fun u => by kernel_rfl) ?_
  refine wpGrow_pure rfl (.pointer (some ⟨c, 0, none⟩)) (fun u => by kernel_rfl) ?_
  refine wpGrow_pure rfl (.pointer (some ⟨c, 0, none⟩)) (fun u => by kernel_rfl) ?_
  refine wpGrow_pure rfl (.pointer (some ⟨c, 28, none⟩)) (fun u => by kernel_rfl) ?_
  refine wpGrow_loadN rfl (.tmp 20) rfl c 28 (by kernel_rfl) k.c.n (fun u hu => grows_at D2.out.crv.2.2 hu) (cuc_n _ _) ?_
  refine wpGrow_fn rfl 29 (.func 29) #[.tmp 16, .tmp 21] #[26, 26] rfl #[] #[.agg (nc n), .agg (nc k.c.n)] (by kernel_rfl) (by kernel_rfl) (fun u => callFunc_enter _ _ _ _ u Try.func29 (by kernel_rfl) (by kernel_rfl)) (.int .i64 (cmpN n k.c.n)) (fun u hu => by exact nat_cmp n k.c.n u n9.out N9.out) ?_
  refine wpGrow_pure rfl (.bool false) (fun u => by exact run_bini _ _ _ _ _ rfl (cmpN n k.c.n) 0 (by kernel_rfl) (by kernel_rfl) (cmp_geq HLT.out) u) ?_
  refine wpGrow_pure rfl (.bool false) (fun u => by kernel_rfl) ?_
  refine wpGrow_nil ?_
  try simp only [Act.put, sl1, sl2, sl3, sl4, sl5, sl6]
  intro w3 hg6
  refine ⟨by kernel_rfl, ?_⟩
  have Nw3 := Lib.hid (D2.out.grow hg6)
  clear hg6 D2
  try simp only [Act.put, sl1, sl2, sl3, sl4, sl5, sl6]
  go_upto_region 6 with (fail)
  refine wp_region_lit ?_
  refine wpList_pureL rfl (.pointer none) (fun u => by kernel_rfl) ?_
  refine wpList_pureL rfl (.pointer (some ⟨c, 0, none⟩)) (fun u => by kernel_rfl) ?_
  refine wpN_load0 rfl (.tmp 5) rfl g (by kernel_rfl) (Nw3.out.at 0 rfl) ?_
  refine wpList_fnL rfl 32 (.func 32) #[.tmp 25, .tmp 26, .tmp 27] #[71, 54, 26] rfl #[] #[.pointer none, .pointer (some ⟨c, 0, none⟩), .agg (nc n)] (by kernel_rfl) (by kernel_rfl) (fun u => callFunc_enter _ _ _ _ u Try.func32 (by kernel_rfl) (by kernel_rfl)) (.agg (gpt k n)) (base_times k c f d n w3 HLT.out Nw3.out.crv) (fun w4 hb => ?_)
  have Nw4 := Lib.hid (show MC w w4 [(g, nc n, 26), (g + 1, ptc 0 0 false, 28)] c f d k.c from Nw3.out.grow hb)
  clear hb Nw3
  refine wpList_store_blk rfl 28 (.tmp 6) (.tmp 28) rfl (g + 1) (by kernel_rfl) _ _ (gpt k n) (by kernel_rfl) (Nw4.out.at 1 rfl) (by rw [gpt_size]; kernel_rfl) (by simp only [gpt_size, ptc_size]) (gpt_one _ _) ?_
  intro w5 hw hb hs
  have Nw5 := Lib.hid (show MC w w5 [(g, nc n, 26), (g + 1, gpt k n, 28)] c f d k.c from Nw4.out.store 1 rfl hb hs hw)
  clear hw hb hs Nw4
  refine wpList_pureL rfl (.int .i64 0) (fun u => by kernel_rfl) ?_
  refine wpList_nil ?_
  try simp only [Act.put, sl1, sl2, sl3, sl4, sl5, sl6]
  go_wp2_with (fail)
  exact bodyPost_ret (results_O2 rfl _ _ (g + 1) _ _ _ _ (gpt_size _ _) rfl rfl (Nw5.out.at 1 rfl)) rfl ⟨rfl, Nw5.out.below⟩
set_option maxRecDepth 100000 in
set_option maxHeartbeats 4000000 in
theorem mult_mul (k : CK) (n m : Nat) (w : World) (hn : n < k.c.n) : Calls Try.prog 12 #[.pointer none, .int .i64 k.1, .agg (nc n), .agg (gpt k m)] w fun e w' => e = .returned (.tuple #[.agg (gpt k (n * m)), .int .i64 0]) ∧ Below w.heap.size w w' := by
  have HLT := Lib.hid hn
  have HNB := Lib.hid (show n < 2 ^ bl k.c.n from Nat.lt_trans hn (bl_lt _))
  have n9 := Lib.hid (show n < pw 9 from Nat.lt_trans hn k.n9)
  have N9 := Lib.hid k.n9
  clear hn
  go_enter Try.func12, Try.ntmps12
  go_upto_region 1 with fail
  rw [← ptc_zero]
  have m0 := Mem.start3 w (nc n) (gpt k m) (ptc 0 0 false) 26 28 28
  obtain ⟨w1, hw1⟩ : ∃ w1 : World, w1 = (((w.alloc (.cells (nc n) 26)).alloc (.cells (gpt k m) 28)).alloc (.cells (ptc 0 0 false) 28)) := ⟨_, rfl⟩
  rw [← hw1] at m0 ⊢
  clear hw1
  obtain ⟨g, hg⟩ : ∃ g, g = w.heap.size := ⟨_, rfl⟩
  rw [← hg] at m0 ⊢
  have HG := Lib.hid hg
  have M := Lib.hid m0
  clear hg m0
  go_upto_region 1 with (fail)
  refine wp_region_lit ?_
  refine wpList_pureL rfl (.int .i64 (k.1 : Int)) (fun u => by kernel_rfl) ?_
  refine wpList_fnE rfl 18 (.func 18) #[.tmp 11] #[3] rfl #[] #[.int .i64 (k.1 : Int)] (by kernel_rfl) (by kernel_rfl) (fun u => callFunc_enter _ _ _ _ u Try.func18 (by kernel_rfl) (by kernel_rfl)) (T := Nat) (fun c => .pointer (some ⟨c, 0, none⟩)) (fun c w' => ∃ f d, CurveAt w' c f d k.c ∧ Below w1.heap.size w1 w') ((k.open_ w1).mono fun e w' ⟨c, f, d, he, hr, _, hb⟩ => ⟨c, he, f, d, hr, hb⟩) ?_
  rintro c w2 ⟨f, d, hc, hb⟩
  have M2 := Lib.hid (MC.of (M.out.grow hb) hc)
  clear hc hb M
  refine wpList_pureL rfl (.pointer (some ⟨c, 0, none⟩)) (fun u => by kernel_rfl) ?_
  refine wpList_nil ?_
  try simp only [Act.put, sl1, sl2, sl3, sl4, sl5, sl6]
  go_upto_region 2 with (fail)
  refine wp_region_lit ?_
  refine wpList_pureL rfl (.pointer (some ⟨c, 0, none⟩)) (fun u => by kernel_rfl) ?_
  refine wpList_pureL rfl (.bool false) (fun u => by kernel_rfl) ?_
  refine wpList_pureL rfl (.bool false) (fun u => by kernel_rfl) ?_
  refine wpList_nil ?_
  try simp only [Act.put, sl1, sl2, sl3, sl4, sl5, sl6]
  go_upto_region 4 with (fail)
  refine wp_region_lit ?_
  refine wpList_pureL rfl (.pointer (some ⟨c, 0, none⟩)) (fun u => by kernel_rfl) ?_
  refine wpList_load_seg rfl 28 (.tmp 7) rfl (g + 1) 0 19 (by kernel_rfl) _ _ (gpt k m) _ _ (M2.out.at 1 rfl) Try.underlying28 rfl (by kernel_rfl) (gpt_size _ _) (fun j hj => by rw [Nat.zero_add]) ?_
  refine wpList_fnL rfl 28 (.func 28) #[.tmp 18, .tmp 19] #[54, 28] rfl #[] #[.pointer (some ⟨c, 0, none⟩), .agg (gpt k m)] (by kernel_rfl) (by kernel_rfl) (fun u => callFunc_enter _ _ _ _ u Try.func28 (by kernel_rfl) (by kernel_rfl)) (.bool true) (on_rp k m c f d w2 M2.out.crv) (fun w2 hb => ?_)
  have Nw2 := Lib.hid (show MC w w2 [(g, nc n, 26), (g + 1, gpt k m, 28), (g + 1 + 1, ptc 0 0 false, 28)] c f d k.c from M2.out.grow hb)
  clear hb M2
  refine wpList_pureL rfl (.bool false) (fun u => by kernel_rfl) ?_
  refine wpList_pureL rfl (.bool false) (fun u => by kernel_rfl) ?_
  refine wpList_nil ?_
  try simp only [Act.put, sl1, sl2, sl3, sl4, sl5, sl6]
  go_upto_region 6 with (fail)
  have D3 := Lib.hid (Nw2.out.drew)
  clear Nw2
  refine wp_region_grow 9 9 (by kernel_rfl) (by kernel_rfl) (fun d v c a w h => by cases d <;> exact h) ?_
  simp only [List.take_succ_cons, List.take_zero]
  refine wpGrow_loadN0 rfl (.tmp 6) rfl g (by kernel_rfl) (fun u hu => D3.out.up 0 rfl hu) ?_
  refine wpGrow_pure rfl (.pointer (some ⟨c, 0, none⟩)) (fun u => by kernel_rfl) ?_
  refine wpGrow_pure rfl (.pointer (some ⟨c, 0, none⟩)) (fun u => by kernel_rfl) ?_
  refine wpGrow_pure rfl (.pointer (some ⟨c, 0, none⟩)) (fun u => by kernel_rfl) ?_
  refine wpGrow_pure rfl (.pointer (some ⟨c, 28, none⟩)) (fun u => by kernel_rfl) ?_
  refine wpGrow_loadN rfl (.tmp 28) rfl c 28 (by kernel_rfl) k.c.n (fun u hu => grows_at D3.out.crv.2.2 hu) (cuc_n _ _) ?_
  refine wpGrow_fn rfl 29 (.func 29) #[.tmp 24, .tmp 29] #[26, 26] rfl #[] #[.agg (nc n), .agg (nc k.c.n)] (by kernel_rfl) (by kernel_rfl) (fun u => callFunc_enter _ _ _ _ u Try.func29 (by kernel_rfl) (by kernel_rfl)) (.int .i64 (cmpN n k.c.n)) (fun u hu => by exact nat_cmp n k.c.n u n9.out N9.out) ?_
  refine wpGrow_pure rfl (.bool false) (fun u => by exact run_bini _ _ _ _ _ rfl (cmpN n k.c.n) 0 (by kernel_rfl) (by kernel_rfl) (cmp_geq HLT.out) u) ?_
  refine wpGrow_pure rfl (.bool false) (fun u => by kernel_rfl) ?_
  refine wpGrow_nil ?_
  try simp only [Act.put, sl1, sl2, sl3, sl4, sl5, sl6]
  intro w4 hg6
  refine ⟨by kernel_rfl, ?_⟩
  have Nw4 := Lib.hid (D3.out.grow hg6)
  clear hg6 D3
  try simp only [Act.put, sl1, sl2, sl3, sl4, sl5, sl6]
  go_upto_region 8 with (fail)
  have D := Lib.hid (Nw4.out.drew)
  clear Nw4
  refine wp_region_cls (C := (fun u => MC w u [(g, nc n, 26), (g + 1, gpt k m, 28)] c f d k.c)) (fun u u2 hu hg => MC.grow hu hg) [0, 1, 2, 3, 4] (D.out.sub (by simp)) (by kernel_rfl) (by kernel_rfl) (fun d v c a w h => by cases d <;> exact h) ?_
  simp only [pickOps, List.filterMap_cons, List.filterMap_nil, List.getElem?_cons_succ, List.getElem?_cons_zero]
  refine wpE_pure rfl (.pointer none) (fun u => by kernel_rfl) ?_
  refine wpE_pure rfl (.pointer (some ⟨c, 0, none⟩)) (fun u => by kernel_rfl) ?_
  refine wpE_loadN rfl (.tmp 6) rfl g 0 (by kernel_rfl) n (fun u hu => ⟨_, _, _, MC.at hu 0 rfl, fun j hj => by rw [Nat.zero_add]; exact nc_get _ j hj⟩) ?_
  refine wpE_pure rfl (.pointer (some ⟨c, 0, none⟩)) (fun u => by kernel_rfl) ?_
  refine wpE_load_seg rfl 28 (.tmp 7) rfl (g + 1) 0 19 (by kernel_rfl) (gpt k m) _ Try.underlying28 rfl (by kernel_rfl) (gpt_size _ _) (fun u hu => ⟨_, _, _, MC.at hu 1 rfl, fun j hj => by rw [Nat.zero_add]⟩) ?_
  refine wpE_nil ?_
  try simp only [Act.put, sl1, sl2, sl3, sl4, sl5, sl6]
  refine ready_E (rs := [5]) (by kernel_rfl) (by simp) (fun u hgB => ?_)
  have N1 := Lib.hid (D.out.grow hgB)
  clear hgB D
  refine EAll.cons rfl (fun K hK => step_fnE rfl 31 (.func 31) #[.tmp 36, .tmp 37, .const (.int .i64 16)] #[54, 28, 3] rfl #[] #[.pointer (some ⟨c, 0, none⟩), .agg (gpt k m), .int .i64 16] (by kernel_rfl) (by kernel_rfl) (fun u => callFunc_enter _ _ _ _ u Try.func31 (by kernel_rfl) (by kernel_rfl)) (fun t : Nat => .pointer (some ⟨t, 0, none⟩)) (fun t w' => TabAt k w' t m 16 ∧ Below u.heap.size u w') ((table_of k m 16 c f d (by decide) (by decide) u N1.out.crv).mono fun e w' ⟨t, h1, h2, _, h3⟩ => ⟨t, h1, h2, h3⟩) (fun t u2 hR => hK _ _ ((N1.out.grow hR.2).sub (by simp)) ?_)) EAll.nil
  have N2 := Lib.hid (N1.out.grow hR.2)
  have HT := Lib.hid hR.1
  clear hR N1
  try simp only [Act.put, sl1, sl2, sl3, sl4, sl5, sl6]
  refine ready_E (rs := [6]) (by kernel_rfl) (by simp) (fun u3 hgB => ?_)
  have N3 := Lib.hid (N2.out.grow hgB)
  have HT3 := Lib.hid (HT.out.up hgB)
  clear hgB N2 HT
  refine EAll.cons rfl (fun K hK => step_fnE rfl 30 (.func 30) #[.tmp 33, .tmp 34, .tmp 35, .tmp 38] #[71, 54, 26, 75] rfl #[] #[.pointer none, .pointer (some ⟨c, 0, none⟩), .agg (nc n), .pointer (some ⟨t, 0, none⟩)] (by kernel_rfl) (by kernel_rfl) (fun u => callFunc_enter _ _ _ _ u Try.func30 (by kernel_rfl) (by kernel_rfl)) (fun _ : Unit => .agg (gpt k (n * m))) (fun _ w' => Below u3.heap.size u3 w') ((mult_times k c f d t n m u3 HNB.out k.blN.1 k.blN.2 N3.out.crv HT3.out).mono fun e w' ⟨h1, h2⟩ => ⟨(), h1, h2⟩) (fun _ u4 hR => hK _ _ ((N3.out.grow hR).sub (by simp)) ?_)) EAll.nil
  have N4 := Lib.hid (N3.out.grow hR)
  clear hR N3
  try simp only [Act.put, sl1, sl2, sl3, sl4, sl5, sl6]
  refine ready_E (rs := [7]) (by kernel_rfl) (by simp) (fun u5 hgB => ?_)
  have N5 := Lib.hid (N4.out.grow hgB)
  clear hgB N4
  refine EAll.cons rfl (fun K hK => step_store_blk rfl 28 (.tmp 8) (.tmp 39) rfl (g + 1 + 1) rfl _ _ (gpt k (n * m)) rfl (N5.out.at 2 rfl) (by rw [gpt_size]; kernel_rfl) (by simp only [gpt_size, ptc_size]) (gpt_one _ _) (fun u6 hw hb hs => hK _ _ ((N5.out.store 2 rfl hb hs hw).sub (by simp)) ?_)) EAll.nil
  have N6 := Lib.hid (N5.out.store 2 rfl hb hs hw)
  clear hw hb hs N5
  try simp only [Act.put, sl1, sl2, sl3, sl4, sl5, sl6]
  refine ready_E (rs := [8]) (by kernel_rfl) (by simp) (fun u7 hgB => ?_)
  have N7 := Lib.hid (N6.out.grow hgB)
  clear hgB N6
  refine EAll.cons rfl (fun K hK => step_pure rfl (.int .i64 0) (fun u => by kernel_rfl) (hK _ _ (N7.out.sub (by simp)) ?_)) EAll.nil
  try simp only [Act.put, sl1, sl2, sl3, sl4, sl5, sl6]
  refine done_E (by kernel_rfl) (fun u8 hgB => ?_)
  have N8 := Lib.hid (N7.out.grow hgB)
  clear hgB N7
  try simp only [Act.put, sl1, sl2, sl3, sl4, sl5, sl6]
  go_wp2_with (fail)
  exact bodyPost_ret (results_O2 rfl _ _ (g + 1 + 1) _ _ _ _ (gpt_size _ _) rfl rfl (N8.out.at 2 rfl)) rfl ⟨rfl, N8.out.below⟩
end Go.Proofs.Ytkoonhiplicbkaa.Cw
