/-
  (package curve) Get: a curve's numbers. Condition: the numbers 1 to 15.
-/
import Derived.Test.YtkoonhiplicbkaaOpn
set_option linter.unusedSimpArgs false
set_option linter.unusedVariables false
namespace Go.Proofs.Ytkoonhiplicbkaa.Cw
open Go Go.RowKit
attribute [local irreducible] pc ptc nc ac cuc fc cgA
attribute [local go_sem ↓ high] wn_eql wn_neq wn_lss wn_gtr wn_leq wn_geq wn_cells wn_run_store wn_guard lit0 lit1
attribute [local go_sem high] wn_match wn_run_store wn_eql wn_neq wn_lss wn_gtr wn_leq wn_geq
theorem ac_one (cu : Cv) : ∀ u ∈ (ac cu).toList, u.oneCell' = true := by
  intro u hu
  simp only [ac, Array.toList_append, List.mem_append] at hu
  rcases hu with hu | hu | hu | hu | hu | hu | hu
  · simp at hu; subst hu; rfl
  · exact nc_one _ u hu
  · exact nc_one _ u hu
  · exact nc_one _ u hu
  · exact nc_one _ u hu
  · exact ptc_one _ _ _ u hu
  · simp at hu; rcases hu with rfl | rfl | rfl <;> rfl
theorem results_C2 {fn : Func} {p q : Tmp} (h : fn.results = #[.cell p 30, .tmp q]) (tmps : Array Value) (w : World) (g : Nat) (t : TypeId) (cs : Array Value) (fr : Nat × Nat) (v : Value) (hn : cs.size = 59)
    (hp : tmps.getD p undef = .pointer (some ⟨g, 0, none⟩)) (hq : tmps.getD q undef = v) (hg : w.heap[g]? = some (.cells cs t fr)) :
    (results fn tmps).run Try.prog w = .ok (.tuple #[.agg cs, v]) w := by
  have hp' : tmps[p]?.getD undef = .pointer (some ⟨g, 0, none⟩) := by simpa using hp
  have hq' : tmps[q]?.getD undef = v := by simpa using hq
  simp [results, h, hp', hq', asAddr, run_load_seg w g 0 59 t 30 cs cs fr _ hg Try.underlying30 rfl (by kernel_rfl) hn (fun j _ => by rw [Nat.zero_add])]

set_option maxRecDepth 100000 in
set_option maxHeartbeats 4000000 in
theorem curve_get (k : Nat) (w : World) (h1 : 1 ≤ k) (h2 : k ≤ 15) : Calls Try.prog 6 #[.int .i64 k] w fun e w' => e = .returned (.tuple #[.agg (ac (cv k)), .int .i64 0]) ∧ Below w.heap.size w w' := by
  have HOP := Lib.hid (fun u => curve_open k u h1 h2)
  clear h1 h2
  obtain ⟨cu, hcu⟩ : ∃ cu, cu = cv k := ⟨_, rfl⟩
  rw [← hcu] at HOP ⊢
  clear hcu
  go_enter Try.func6, Try.ntmps6
  go_upto_region 1 with fail
  have m0 := Mem.start1 w (#[.int .i64 0, wn 0, wn 0, wn 0, wn 0, wn 0, wn 0, wn 0, wn 0, wn 0, wn 0, wn 0, wn 0, wn 0, wn 0, wn 0, wn 0, wn 0, wn 0, wn 0, wn 0, wn 0, wn 0, wn 0, wn 0, wn 0, wn 0, wn 0, wn 0, wn 0, wn 0, wn 0, wn 0, wn 0, wn 0, wn 0, wn 0, wn 0, wn 0, wn 0, wn 0, wn 0, wn 0, wn 0, wn 0, wn 0, wn 0, wn 0, wn 0, wn 0, wn 0, wn 0, wn 0, wn 0, wn 0, .bool false, .int .i64 0, .int .i64 0, .bool false]) 30
  obtain ⟨w1, hw1⟩ : ∃ w1 : World, w1 = (w.alloc (.cells (#[.int .i64 0, wn 0, wn 0, wn 0, wn 0, wn 0, wn 0, wn 0, wn 0, wn 0, wn 0, wn 0, wn 0, wn 0, wn 0, wn 0, wn 0, wn 0, wn 0, wn 0, wn 0, wn 0, wn 0, wn 0, wn 0, wn 0, wn 0, wn 0, wn 0, wn 0, wn 0, wn 0, wn 0, wn 0, wn 0, wn 0, wn 0, wn 0, wn 0, wn 0, wn 0, wn 0, wn 0, wn 0, wn 0, wn 0, wn 0, wn 0, wn 0, wn 0, wn 0, wn 0, wn 0, wn 0, wn 0, .bool false, .int .i64 0, .int .i64 0, .bool false]) 30)) := ⟨_, rfl⟩
  rw [← hw1] at m0 ⊢
  clear hw1
  obtain ⟨g, hg⟩ : ∃ g, g = w.heap.size := ⟨_, rfl⟩
  rw [← hg] at m0 ⊢
  have HG := Lib.hid hg
  have M := Lib.hid m0
  clear hg m0
  refine wp_region_lit ?_
  refine wpList_pureL rfl (.int .i64 (k : Int)) (fun u => by kernel_rfl) ?_
  refine wpList_fnE rfl 18 (.func 18) #[.tmp 5] #[3] rfl #[] #[.int .i64 (k : Int)] (by kernel_rfl) (by kernel_rfl) (fun u => callFunc_enter _ _ _ _ u Try.func18 (by kernel_rfl) (by kernel_rfl)) (T := Nat) (fun c => .pointer (some ⟨c, 0, none⟩)) (fun c w' => ∃ f d, CurveAt w' c f d cu ∧ Below w1.heap.size w1 w') ((HOP.out w1).mono fun e w' ⟨c, f, d, he, hr, _, hb⟩ => ⟨c, he, f, d, hr, hb⟩) ?_
  rintro c w2 ⟨f, d, hc, hb⟩
  have HCB := Lib.hid hc.2.2
  have M2 := Lib.hid (M.out.grow hb)
  clear hc hb M
  refine wpList_pureL rfl (.pointer (some ⟨c, 0, none⟩)) (fun u => by kernel_rfl) ?_
  refine wpList_nil ?_
  try simp only [Act.put, List.setIfInBounds_toArray, List.set_cons_zero, List.set_cons_succ, List.getElem_toArray, List.getElem_cons_succ, List.getElem_cons_zero]
  go_upto_region 2 with (fail)
  refine wp_region_lit ?_
  refine wpList_pureL rfl (.pointer (some ⟨c, 0, none⟩)) (fun u => by kernel_rfl) ?_
  refine wpList_pureL rfl (.bool false) (fun u => by kernel_rfl) ?_
  refine wpList_nil ?_
  try simp only [Act.put, List.setIfInBounds_toArray, List.set_cons_zero, List.set_cons_succ, List.getElem_toArray, List.getElem_cons_succ, List.getElem_cons_zero]
  go_upto_region 4 with (fail)
  refine wp_region_lit ?_
  refine wpList_pureL rfl (.pointer (some ⟨c, 0, none⟩)) (fun u => by kernel_rfl) ?_
  refine wpList_pureL rfl (.pointer (some ⟨c, 0, none⟩)) (fun u => by kernel_rfl) ?_
  refine wpList_pureL rfl (.pointer (some ⟨c, 0, none⟩)) (fun u => by kernel_rfl) ?_
  refine wpList_load_seg rfl 30 (.tmp 12) rfl c 0 59 (by kernel_rfl) _ _ (ac cu) _ _ HCB.out Try.underlying30 rfl (by kernel_rfl) (ac_size cu) (cuc_acs cu f) ?_
  refine wpList_store_blk rfl 30 (.tmp 2) (.tmp 13) rfl g (by kernel_rfl) _ _ (ac cu) (by kernel_rfl) (M2.out.at 0 rfl) (by rw [ac_size]; kernel_rfl) (by rw [ac_size]; rfl) (ac_one cu) ?_
  intro w3 hw hb hs
  have M3 := Lib.hid (M2.out.store 0 rfl hb hs hw)
  clear hw hb hs M2
  refine wpList_pureL rfl (.int .i64 0) (fun u => by kernel_rfl) ?_
  refine wpList_nil ?_
  try simp only [Act.put, List.setIfInBounds_toArray, List.set_cons_zero, List.set_cons_succ, List.getElem_toArray, List.getElem_cons_succ, List.getElem_cons_zero]
  go_wp2_with (fail)
  exact bodyPost_ret (results_C2 rfl _ _ g _ _ _ _ (ac_size cu) rfl rfl (M3.out.at 0 rfl)) rfl ⟨rfl, M3.out.below⟩
end Go.Proofs.Ytkoonhiplicbkaa.Cw
