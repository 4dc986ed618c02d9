/-
  (package affine) do, Add, Mul at multiples of G. Condition: one of the 15 curves.
-/
import Derived.Test.YtkoonhiplicbkaaSa1
set_option linter.unusedSimpArgs false
set_option linter.unusedVariables false
namespace Go.Proofs.Ytkoonhiplicbkaa.Cw
open Go Go.RowKit
section
variable {P : Program} {ops : Array Oper} {rest : List Oper} {o : Oper} {a : Act} {w : World} {Q : Exit → Act → World → Prop}
theorem wpList_segG (hwt : Region.wanted o (yielded ops a.tmps) = true) (ty : TypeId) (x : Operand) (ho : o.op = .load ty x) (g off n : Nat) (hx : a.eval x = .pointer (some ⟨g, off, none⟩)) {t : TypeId} {fr : Nat × Nat} {D : Array Value} (cs : Array Value) (hg : w.heap[g]? = some (.cells D t fr)) (d : TypeDesc)
    (hu : P.underlying ty = some d) (hd : isAggDesc d = true) (hi : (P.info? ty).map (·.size) = some n) (hn : cs.size = n) (hcs : ∀ j, j < n → D[off + j]? = cs[j]?) (h : wpList P ops Q rest (a.put o.dst (.agg cs)) w) : wpList P ops Q (o :: rest) a w := by
  unfold wpList
  rw [if_pos hwt]
  refine .inl ?_
  exact wp_load_seg ty x ho g off n hx t D cs fr d hg hu hd hi hn hcs h
theorem wpList_fnG (hwt : Region.wanted o (yielded ops a.tmps) = true) (k : FuncId) (f : Operand) (args : Array Operand) (tys : Array TypeId) (ho : o.op = .call { callee := .value f, args := args, argTypes := tys }) (bound avs : Array Value)
    (hf : a.eval f = .func (.func k) bound #[]) (has : args.map a.eval = avs) (hent : ∀ u : World, (callFunc k (bound ++ avs)).run P u = .ok (.enter k (bound ++ avs)) u) (v : Value)
    (h : Calls P k (bound ++ avs) w fun e w' => e = .returned v ∧ Below w.heap.size w w') (hn : ∀ w', Grows w w' → wpList P ops Q rest (a.put o.dst v) w') : wpList P ops Q (o :: rest) a w := by
  unfold wpList
  rw [if_pos hwt]
  refine .inl ?_
  have h1 : (execOp a.eval o).run P w = .ok (.enter k (bound ++ avs)) w := by
    unfold execOp
    simp only [ho, resolve, hf, has, Deferred.ofValue, Sem.run_bind, Sem.run_pure, Result.andThen_ok, invoke, Array.append_empty, hent]
  unfold Oper.wp
  rw [h1, Oper.upon_enter]
  refine h.mono ?_
  rintro e w' ⟨rfl, hb⟩
  exact hn w' hb
/-- a closure is called -/
theorem wpList_fnC (hgd : o.guard = none) (k : FuncId) (f : Operand) (args : Array Operand) (tys : Array TypeId) (ho : o.op = .call { callee := .value f, args := args, argTypes := tys }) (caps avs : Array Value)
    (hf : a.eval f = .func (.func k) #[] caps) (has : args.map a.eval = avs) (hent : ∀ u : World, (callFunc k (avs ++ caps)).run P u = .ok (.enter k (avs ++ caps)) u) (v : Value)
    (h : Calls P k (avs ++ caps) w fun e w' => e = .returned v ∧ Below w.heap.size w w') (hn : ∀ w', Grows w w' → wpList P ops Q rest (a.put o.dst v) w') : wpList P ops Q (o :: rest) a w :=
  wpList_plain hgd fun K hK => by
    have h1 : (execOp a.eval o).run P w = .ok (.enter k (avs ++ caps)) w := by
      unfold execOp
      simp only [ho, resolve, hf, has, Deferred.ofValue, Sem.run_bind, Sem.run_pure, Result.andThen_ok, invoke, Array.empty_append, hent]
    unfold Oper.wp
    rw [h1, Oper.upon_enter]
    refine h.mono ?_
    rintro e w' ⟨rfl, hb⟩
    exact hK _ _ (hn w' hb)
end
attribute [local irreducible] pc ptc nc ac cuc fc gpt
attribute [local go_sem ↓ high] wn_eql wn_neq wn_lss wn_gtr wn_leq wn_geq wn_cells wn_run_store wn_guard lit0 lit1
attribute [local go_sem high] wn_match wn_run_store wn_eql wn_neq wn_lss wn_gtr wn_leq wn_geq

set_option maxRecDepth 100000 in
set_option maxHeartbeats 4000000 in
theorem affine_do (k : CK) (m n r : Nat) (F : FuncId) (caps : Array Value) (w : World) (hent : ∀ (args : Array Value) (u : World), (callFunc F args).run Try.prog u = .ok (.enter F args) u)
    (hS : ∀ c f d u, Grows w u → CurveAt u c f d k.c → Calls Try.prog F (#[.agg #[.pointer (some ⟨c, 0, none⟩)], .agg (gpt k m), .agg (gpt k n)] ++ caps) u fun e w' => e = .returned (.agg (gpt k r)) ∧ Below u.heap.size u w') :
    Calls Try.prog 22 #[.int .i64 k.1, .agg (gpt k m), .agg (gpt k n), .func (.func F) #[] caps] w fun e w' => e = .returned (.tuple #[.agg (gpt k r), .int .i64 0]) ∧ Below w.heap.size w w' := by
  have HS := Lib.hid hS
  have HEN := Lib.hid hent
  clear hS hent
  go_enter Try.func22, Try.ntmps22
  go_upto_region 1 with fail
  rw [← ptc_zero]
  have m0 := Mem.start3 w (gpt k m) (gpt k n) (ptc 0 0 false) 28 28 28
  obtain ⟨w1, hw1⟩ : ∃ w1 : World, w1 = (((w.alloc (.cells (gpt k m) 28)).alloc (.cells (gpt k n) 28)).alloc (.cells (ptc 0 0 false) 28)) := ⟨_, rfl⟩
  rw [← hw1] at m0 ⊢
  clear hw1
  obtain ⟨g, hg⟩ : ∃ g, g = w.heap.size := ⟨_, rfl⟩
  rw [← hg] at m0 ⊢
  have HG := Lib.hid hg
  have M := Lib.hid m0
  clear hg m0
  go_upto_region 1 with (fail)
  refine wp_region_lit ?_
  refine wpList_pureL rfl (.int .i64 (k.1 : Int)) (fun u => by kernel_rfl) ?_
  refine wpList_fnE rfl 18 (.func 18) #[.tmp 11] #[3] rfl #[] #[.int .i64 (k.1 : Int)] (by kernel_rfl) (by kernel_rfl) (fun u => callFunc_enter _ _ _ _ u Try.func18 (by kernel_rfl) (by kernel_rfl)) (T := Nat) (fun c => .pointer (some ⟨c, 0, none⟩)) (fun c w' => ∃ f d, CurveAt w' c f d k.c ∧ Below w1.heap.size w1 w') ((k.open_ w1).mono fun e w' ⟨c, f, d, he, hr, _, hb⟩ => ⟨c, he, f, d, hr, hb⟩) ?_
  rintro c w2 ⟨f, d, hc, hb⟩
  have M2 := Lib.hid (MC.of (M.out.grow hb) hc)
  clear hc hb M
  refine wpList_pureL rfl (.pointer (some ⟨c, 0, none⟩)) (fun u => by kernel_rfl) ?_
  refine wpList_nil ?_
  try simp only [Act.put, sl1, sl2, sl3, sl4, sl5, sl6]
  go_upto_region 2 with (fail)
  refine wp_region_lit ?_
  refine wpList_pureL rfl (.pointer (some ⟨c, 0, none⟩)) (fun u => by kernel_rfl) ?_
  refine wpList_pureL rfl (.bool false) (fun u => by kernel_rfl) ?_
  refine wpList_pureL rfl (.bool false) (fun u => by kernel_rfl) ?_
  refine wpList_nil ?_
  try simp only [Act.put, sl1, sl2, sl3, sl4, sl5, sl6]
  go_upto_region 4 with (fail)
  refine wp_region_lit ?_
  refine wpList_pureL rfl (.pointer (some ⟨c, 0, none⟩)) (fun u => by kernel_rfl) ?_
  refine wpList_load_seg rfl 28 (.tmp 5) rfl g 0 19 (by kernel_rfl) _ _ (gpt k m) _ _ (M2.out.at 0 rfl) Try.underlying28 rfl (by kernel_rfl) (gpt_size _ _) (fun j hj => by rw [Nat.zero_add]) ?_
  refine wpList_fnL rfl 28 (.func 28) #[.tmp 18, .tmp 19] #[54, 28] rfl #[] #[.pointer (some ⟨c, 0, none⟩), .agg (gpt k m)] (by kernel_rfl) (by kernel_rfl) (fun u => callFunc_enter _ _ _ _ u Try.func28 (by kernel_rfl) (by kernel_rfl)) (.bool true) (on_rp k m c f d w2 M2.out.crv) (fun w2 hb => ?_)
  have Nw2 := Lib.hid (show MC w w2 [(g, gpt k m, 28), (g + 1, gpt k n, 28), (g + 1 + 1, ptc 0 0 false, 28)] c f d k.c from M2.out.grow hb)
  clear hb M2
  refine wpList_pureL rfl (.bool false) (fun u => by kernel_rfl) ?_
  refine wpList_pureL rfl (.bool false) (fun u => by kernel_rfl) ?_
  try simp only [Act.put, sl1, sl2, sl3, sl4, sl5, sl6]
  refine wpList_wantL (by kernel_rfl) (.pointer (some ⟨c, 0, none⟩)) (fun u => by kernel_rfl) ?_
  try simp only [Act.put, sl1, sl2, sl3, sl4, sl5, sl6]
  refine wpList_segG (by kernel_rfl) 28 (.tmp 6) rfl (g + 1) 0 19 (by kernel_rfl) (gpt k n) (Nw2.out.at 1 rfl) _ Try.underlying28 rfl (by kernel_rfl) (gpt_size _ _) (fun j hj => by rw [Nat.zero_add]) ?_
  try simp only [Act.put, sl1, sl2, sl3, sl4, sl5, sl6]
  refine wpList_fnG (by kernel_rfl) 28 (.func 28) #[.tmp 23, .tmp 24] #[54, 28] rfl #[] #[.pointer (some ⟨c, 0, none⟩), .agg (gpt k n)] (by kernel_rfl) (by kernel_rfl) (fun u => callFunc_enter _ _ _ _ u Try.func28 (by kernel_rfl) (by kernel_rfl)) (.bool true) (on_rp k n c f d w2 Nw2.out.crv) (fun w3 hb => ?_)
  have Nw3 := Lib.hid (Nw2.out.grow hb)
  clear hb Nw2
  try simp only [Act.put, sl1, sl2, sl3, sl4, sl5, sl6]
  refine wpList_wantL (by kernel_rfl) (.bool false) (fun u => by kernel_rfl) ?_
  try simp only [Act.put, sl1, sl2, sl3, sl4, sl5, sl6]
  refine wpList_pureL rfl (.bool false) (fun u => by kernel_rfl) ?_
  refine wpList_pureL rfl (.bool false) (fun u => by kernel_rfl) ?_
  refine wpList_nil ?_
  try simp only [Act.put, sl1, sl2, sl3, sl4, sl5, sl6]
  go_upto_region 6 with (fail)
  refine wp_region_lit ?_
  refine wpList_pureL rfl (.func (.func F) #[] caps) (fun u => by kernel_rfl) ?_
  refine wpList_pureL rfl (.pointer (some ⟨c, 0, none⟩)) (fun u => by kernel_rfl) ?_
  refine wpList_pureL rfl (.agg #[.pointer (some ⟨c, 0, none⟩)]) (fun u => by kernel_rfl) ?_
  refine wpList_load_seg rfl 28 (.tmp 5) rfl g 0 19 (by kernel_rfl) _ _ (gpt k m) _ _ (Nw3.out.at 0 rfl) Try.underlying28 rfl (by kernel_rfl) (gpt_size _ _) (fun j hj => by rw [Nat.zero_add]) ?_
  refine wpList_load_seg rfl 28 (.tmp 6) rfl (g + 1) 0 19 (by kernel_rfl) _ _ (gpt k n) _ _ (Nw3.out.at 1 rfl) Try.underlying28 rfl (by kernel_rfl) (gpt_size _ _) (fun j hj => by rw [Nat.zero_add]) ?_
  refine wpList_fnC rfl F (.tmp 29) #[.tmp 31, .tmp 32, .tmp 33] #[67, 28, 28] rfl caps #[.agg #[.pointer (some ⟨c, 0, none⟩)], .agg (gpt k m), .agg (gpt k n)] (by kernel_rfl) (by kernel_rfl) (HEN.out _) (.agg (gpt k r)) (HS.out c f d w3 (Nw3.out.1) Nw3.out.crv) (fun w4 hb => ?_)
  have Nw4 := Lib.hid (show MC w w4 [(g, gpt k m, 28), (g + 1, gpt k n, 28), (g + 1 + 1, ptc 0 0 false, 28)] c f d k.c from Nw3.out.grow hb)
  clear hb Nw3
  refine wpList_store_blk rfl 28 (.tmp 8) (.tmp 34) rfl (g + 1 + 1) (by kernel_rfl) _ _ (gpt k r) (by kernel_rfl) (Nw4.out.at 2 rfl) (by rw [gpt_size]; kernel_rfl) (by simp only [gpt_size, ptc_size]) (gpt_one _ _) ?_
  intro w5 hw hb hs
  have Nw5 := Lib.hid (Nw4.out.store 2 rfl hb hs hw)
  clear hw hb hs Nw4
  refine wpList_pureL rfl (.int .i64 0) (fun u => by kernel_rfl) ?_
  refine wpList_nil ?_
  try simp only [Act.put, sl1, sl2, sl3, sl4, sl5, sl6]
  go_wp2_with (fail)
  exact bodyPost_ret (results_O2 rfl _ _ (g + 1 + 1) _ _ _ _ (gpt_size _ _) rfl rfl (Nw5.out.at 2 rfl)) rfl ⟨rfl, Nw5.out.below⟩
set_option maxRecDepth 100000 in
set_option maxHeartbeats 4000000 in
theorem affine_add (k : CK) (m n : Nat) (w : World) : Calls Try.prog 10 #[.int .i64 k.1, .agg (gpt k m), .agg (gpt k n)] w fun e w' => e = .returned (.tuple #[.agg (gpt k (m + n)), .int .i64 0]) ∧ Below w.heap.size w w' := by
  go_enter Try.func10, Try.ntmps10
  go_upto_region 1 with fail
  rw [← ptc_zero]
  have m0 := Mem.start3 w (gpt k m) (gpt k n) (ptc 0 0 false) 28 28 28
  obtain ⟨w1, hw1⟩ : ∃ w1 : World, w1 = (((w.alloc (.cells (gpt k m) 28)).alloc (.cells (gpt k n) 28)).alloc (.cells (ptc 0 0 false) 28)) := ⟨_, rfl⟩
  rw [← hw1] at m0 ⊢
  clear hw1
  obtain ⟨g, hg⟩ : ∃ g, g = w.heap.size := ⟨_, rfl⟩
  rw [← hg] at m0 ⊢
  have HG := Lib.hid hg
  have M := Lib.hid m0
  clear hg m0
  go_upto_region 1 with (fail)
  refine wp_region_lit ?_
  refine wpList_pureL rfl (.int .i64 (k.1 : Int)) (fun u => by kernel_rfl) ?_
  refine wpList_load_seg rfl 28 (.tmp 4) rfl g 0 19 (by kernel_rfl) _ _ (gpt k m) _ _ (M.out.at 0 rfl) Try.underlying28 rfl (by kernel_rfl) (gpt_size _ _) (fun j hj => by rw [Nat.zero_add]) ?_
  refine wpList_load_seg rfl 28 (.tmp 5) rfl (g + 1) 0 19 (by kernel_rfl) _ _ (gpt k n) _ _ (M.out.at 1 rfl) Try.underlying28 rfl (by kernel_rfl) (gpt_size _ _) (fun j hj => by rw [Nat.zero_add]) ?_
  refine wpList_fnL rfl 22 (.func 22) #[.tmp 8, .tmp 9, .tmp 10, .func 23] #[3, 28, 28, 98] rfl #[] #[.int .i64 k.1, .agg (gpt k m), .agg (gpt k n), .func (.func 23) #[] #[]] (by kernel_rfl) (by kernel_rfl) (fun u => callFunc_enter _ _ _ _ u Try.func22 (by kernel_rfl) (by kernel_rfl)) (.tuple #[.agg (gpt k (m + n)), .int .i64 0]) (affine_do k m n (m + n) 23 #[] w1 (fun args u => callFunc_enter _ _ _ _ u Try.func23 (by kernel_rfl) (by kernel_rfl)) (fun c f d u hg hc => by exact group_add k m n c f d u hc)) (fun w2 hb => ?_)
  have Nw2 := Lib.hid (show Mem w w2 [(g, gpt k m, 28), (g + 1, gpt k n, 28), (g + 1 + 1, ptc 0 0 false, 28)] from M.out.grow hb)
  clear hb M
  refine wpList_pureL rfl (.agg (gpt k (m + n))) (fun u => by kernel_rfl) ?_
  refine wpList_pureL rfl (.int .i64 0) (fun u => by kernel_rfl) ?_
  refine wpList_store_blk rfl 28 (.tmp 6) (.tmp 12) rfl (g + 1 + 1) (by kernel_rfl) _ _ (gpt k (m + n)) (by kernel_rfl) (Nw2.out.at 2 rfl) (by rw [gpt_size]; kernel_rfl) (by simp only [gpt_size, ptc_size]) (gpt_one _ _) ?_
  intro w3 hw hb hs
  have Nw3 := Lib.hid (Nw2.out.store 2 rfl hb hs hw)
  clear hw hb hs Nw2
  refine wpList_pureL rfl (.int .i64 0) (fun u => by kernel_rfl) ?_
  refine wpList_nil ?_
  try simp only [Act.put, sl1, sl2, sl3, sl4, sl5, sl6]
  go_wp2_with (fail)
  exact bodyPost_ret (results_O2 rfl _ _ (g + 1 + 1) _ _ _ _ (gpt_size _ _) rfl rfl (Nw3.out.at 2 rfl)) rfl ⟨rfl, Nw3.out.below⟩
set_option maxRecDepth 100000 in
set_option maxHeartbeats 4000000 in
theorem affine_mul1 (k : CK) (j m n c f d x : Nat) (w : World) (hj : j < pw 9) (hx : w.heap[x]? = some (.cells (nc j) 26 (0, 0))) (H : CurveAt w c f d k.c) : Calls Try.prog 24 #[.agg #[.pointer (some ⟨c, 0, none⟩)], .agg (gpt k m), .agg (gpt k n), .pointer (some ⟨x, 0, none⟩)] w fun e w' => e = .returned (.agg (gpt k (j * m))) ∧ Below w.heap.size w w' := by
  have HC := Lib.hid H
  have HX := Lib.hid hx
  have HJ := Lib.hid hj
  clear H hx hj
  go_enter Try.func24, Try.ntmps24
  go_upto_region 1 with fail
  rw [← ptc_zero]
  have m0 := Mem.start4 w (#[.pointer (some ⟨c, 0, none⟩)]) (gpt k m) (gpt k n) (ptc 0 0 false) 67 28 28 28
  obtain ⟨w1, hw1⟩ : ∃ w1 : World, w1 = ((((w.alloc (.cells (#[.pointer (some ⟨c, 0, none⟩)]) 67)).alloc (.cells (gpt k m) 28)).alloc (.cells (gpt k n) 28)).alloc (.cells (ptc 0 0 false) 28)) := ⟨_, rfl⟩
  rw [← hw1] at m0 ⊢
  clear hw1
  obtain ⟨g, hg⟩ : ∃ g, g = w.heap.size := ⟨_, rfl⟩
  rw [← hg] at m0 ⊢
  have HG := Lib.hid hg
  have M := Lib.hid m0
  clear hg m0
  have D2 := Lib.hid (M.out.drew)
  clear M
  refine wp_region_grow 9 9 (by kernel_rfl) (by kernel_rfl) (fun d v c a w h => by cases d <;> exact h) ?_
  simp only [List.take_succ_cons, List.take_zero]
  refine wpGrow_pure rfl (.pointer (some ⟨g, 0, none⟩)) (fun u => by kernel_rfl) ?_
  refine wpGrow_load_cell rfl 54 (.tmp 8) rfl g 0 (by kernel_rfl) (.pointer (some ⟨c, 0, none⟩)) _ Try.underlying54 rfl (fun u hu => (cell_of (D2.out.up 0 rfl hu) 0).trans (rfl)) ?_
  refine wpGrow_pure rfl (.pointer (some ⟨g, 0, none⟩)) (fun u => by kernel_rfl) ?_
  refine wpGrow_load_cell rfl 54 (.tmp 10) rfl g 0 (by kernel_rfl) (.pointer (some ⟨c, 0, none⟩)) _ Try.underlying54 rfl (fun u hu => (cell_of (D2.out.up 0 rfl hu) 0).trans (rfl)) ?_
  refine wpGrow_loadN0 rfl (.tmp 3) rfl x (by kernel_rfl) (fun u hu => grows_at HX.out (grows_trans _ _ _ D2.out.1 hu)) ?_
  refine wpGrow_load_seg rfl 28 (.tmp 5) rfl (g + 1) 0 19 (by kernel_rfl) (gpt k m) _ Try.underlying28 rfl (by kernel_rfl) (gpt_size _ _) (fun u hu => D2.out.up 1 rfl hu) (fun j hj => by rw [Nat.zero_add]) ?_
  refine wpGrow_fn rfl 27 (.func 27) #[.tmp 13] #[28] rfl #[] #[.agg (gpt k m)] (by kernel_rfl) (by kernel_rfl) (fun u => callFunc_enter _ _ _ _ u Try.func27 (by kernel_rfl) (by kernel_rfl)) (.agg (pc ((trN k (gm k m)).x) ((trN k (gm k m)).y) ((trN k (gm k m)).z))) (fun u hu => by exact triple_rp k m u) ?_
  refine wpGrow_fn rfl 26 (.func 26) #[.tmp 11, .tmp 12, .tmp 14] #[54, 26, 48] rfl #[] #[.pointer (some ⟨c, 0, none⟩), .agg (nc j), .agg (pc ((trN k (gm k m)).x) ((trN k (gm k m)).y) ((trN k (gm k m)).z))] (by kernel_rfl) (by kernel_rfl) (fun u => callFunc_enter _ _ _ _ u Try.func26 (by kernel_rfl) (by kernel_rfl)) (.agg (pc ((k.c.times j (trN k (gm k m))).x) ((k.c.times j (trN k (gm k m))).y) ((k.c.times j (trN k (gm k m))).z))) (fun u hu => by exact curve_times c f d j (trN k (gm k m)) k.c u HJ.out (rp_trip k m).1 k.p1 (HC.out.up (grows_trans _ _ _ D2.out.1 hu))) ?_
  refine wpGrow_fn rfl 25 (.func 25) #[.tmp 9, .tmp 15] #[54, 48] rfl #[] #[.pointer (some ⟨c, 0, none⟩), .agg (pc ((k.c.times j (trN k (gm k m))).x) ((k.c.times j (trN k (gm k m))).y) ((k.c.times j (trN k (gm k m))).z))] (by kernel_rfl) (by kernel_rfl) (fun u => callFunc_enter _ _ _ _ u Try.func25 (by kernel_rfl) (by kernel_rfl)) (.agg (gpt k (j * m))) (fun u hu => by exact plain_rp k c f d u (rp_times k j (rp_trip k m)) (HC.out.up (grows_trans _ _ _ D2.out.1 hu))) ?_
  refine wpGrow_nil ?_
  try simp only [Act.put, sl1, sl2, sl3, sl4, sl5, sl6]
  refine grow_stores (rs := [9]) (by kernel_rfl) (by decide) (fun w3 hg6 => ?_)
  have Nw3 := Lib.hid (D2.out.grow hg6)
  clear hg6 D2
  refine wpAny_ready (rs := [9]) (by kernel_rfl) (by simp) ?_
  refine AllReady.cons rfl (fun K hK => ?_) AllReady.nil
  refine step_store_blk rfl 28 (.tmp 7) (.tmp 16) rfl (g + 1 + 1 + 1) rfl _ _ _ rfl (Nw3.out.at 3 rfl) (by rw [gpt_size]; kernel_rfl) (by simp only [gpt_size, ptc_size]) (gpt_one _ _) (fun w4 hw hb hs => hK _ _ ?_)
  have Nw4 := Lib.hid (show Mem w w4 [(g, #[.pointer (some ⟨c, 0, none⟩)], 67), (g + 1, gpt k m, 28), (g + 1 + 1, gpt k n, 28), (g + 1 + 1 + 1, gpt k (j * m), 28)] from Nw3.out.store 3 rfl hb hs hw)
  clear hK hw hb hs Nw3
  try simp only [Act.put, sl1, sl2, sl3, sl4, sl5, sl6]
  refine wpAny_done (by kernel_rfl) ?_ _
  try simp only [Act.put, sl1, sl2, sl3, sl4, sl5, sl6]
  go_wp2_with (fail)
  exact bodyPost_ret (results_blk rfl _ _ (g + 1 + 1 + 1) _ _ _ _ rfl (Nw4.out.at 3 rfl) Try.underlying28 rfl (by rw [gpt_size]; kernel_rfl)) rfl ⟨rfl, Nw4.out.below⟩
set_option maxRecDepth 100000 in
set_option maxHeartbeats 4000000 in
theorem affine_mul (k : CK) (j m : Nat) (w : World) (hj : j < pw 9) : Calls Try.prog 11 #[.int .i64 k.1, .agg (nc j), .agg (gpt k m)] w fun e w' => e = .returned (.tuple #[.agg (gpt k (j * m)), .int .i64 0]) ∧ Below w.heap.size w w' := by
  have HJ := Lib.hid hj
  clear hj
  go_enter Try.func11, Try.ntmps11
  go_upto_region 1 with fail
  rw [← ptc_zero]
  have m0 := Mem.start3 w (nc j) (gpt k m) (ptc 0 0 false) 26 28 28
  obtain ⟨w1, hw1⟩ : ∃ w1 : World, w1 = (((w.alloc (.cells (nc j) 26)).alloc (.cells (gpt k m) 28)).alloc (.cells (ptc 0 0 false) 28)) := ⟨_, rfl⟩
  rw [← hw1] at m0 ⊢
  clear hw1
  obtain ⟨g, hg⟩ : ∃ g, g = w.heap.size := ⟨_, rfl⟩
  rw [← hg] at m0 ⊢
  have HG := Lib.hid hg
  have M := Lib.hid m0
  clear hg m0
  go_upto_region 1 with (fail)
  refine wp_region_lit ?_
  refine wpList_pureL rfl (.int .i64 (k.1 : Int)) (fun u => by kernel_rfl) ?_
  refine wpList_load_seg rfl 28 (.tmp 5) rfl (g + 1) 0 19 (by kernel_rfl) _ _ (gpt k m) _ _ (M.out.at 1 rfl) Try.underlying28 rfl (by kernel_rfl) (gpt_size _ _) (fun j hj => by rw [Nat.zero_add]) ?_
  refine wpList_load_seg rfl 28 (.tmp 5) rfl (g + 1) 0 19 (by kernel_rfl) _ _ (gpt k m) _ _ (M.out.at 1 rfl) Try.underlying28 rfl (by kernel_rfl) (gpt_size _ _) (fun j hj => by rw [Nat.zero_add]) ?_
  refine wpList_pureL rfl (.func (.func 24) #[] #[.pointer (some ⟨g, 0, none⟩)]) (fun u => by kernel_rfl) ?_
  refine wpList_fnL rfl 22 (.func 22) #[.tmp 8, .tmp 9, .tmp 10, .tmp 11] #[3, 28, 28, 98] rfl #[] #[.int .i64 k.1, .agg (gpt k m), .agg (gpt k m), .func (.func 24) #[] #[.pointer (some ⟨g, 0, none⟩)]] (by kernel_rfl) (by kernel_rfl) (fun u => callFunc_enter _ _ _ _ u Try.func22 (by kernel_rfl) (by kernel_rfl)) (.tuple #[.agg (gpt k (j * m)), .int .i64 0]) (affine_do k m m (j * m) 24 #[.pointer (some ⟨g, 0, none⟩)] w1 (fun args u => callFunc_enter _ _ _ _ u Try.func24 (by kernel_rfl) (by kernel_rfl)) (fun c f d u hg hc => by exact affine_mul1 k j m m c f d g u HJ.out (M.out.up 0 rfl hg) hc)) (fun w2 hb => ?_)
  have Nw2 := Lib.hid (show Mem w w2 [(g, nc j, 26), (g + 1, gpt k m, 28), (g + 1 + 1, ptc 0 0 false, 28)] from M.out.grow hb)
  clear hb M
  refine wpList_pureL rfl (.agg (gpt k (j * m))) (fun u => by kernel_rfl) ?_
  refine wpList_pureL rfl (.int .i64 0) (fun u => by kernel_rfl) ?_
  refine wpList_store_blk rfl 28 (.tmp 6) (.tmp 13) rfl (g + 1 + 1) (by kernel_rfl) _ _ (gpt k (j * m)) (by kernel_rfl) (Nw2.out.at 2 rfl) (by rw [gpt_size]; kernel_rfl) (by simp only [gpt_size, ptc_size]) (gpt_one _ _) ?_
  intro w3 hw hb hs
  have Nw3 := Lib.hid (Nw2.out.store 2 rfl hb hs hw)
  clear hw hb hs Nw2
  refine wpList_pureL rfl (.int .i64 0) (fun u => by kernel_rfl) ?_
  refine wpList_nil ?_
  try simp only [Act.put, sl1, sl2, sl3, sl4, sl5, sl6]
  go_wp2_with (fail)
  exact bodyPost_ret (results_O2 rfl _ _ (g + 1 + 1) _ _ _ _ (gpt_size _ _) rfl rfl (Nw3.out.at 2 rfl)) rfl ⟨rfl, Nw3.out.below⟩
end Go.Proofs.Ytkoonhiplicbkaa.Cw
