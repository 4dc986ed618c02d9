/-
  Literals of words (arrays and slices), given by a function. Whatever the program. No condition.
-/
import Derived.Test.YtkkfpgkogggfdaaBase
import Derived.Great.BuildSlice
import Derived.Test.YtkkfpgkogggfdaaTail
set_option linter.unusedSimpArgs false
set_option linter.unusedVariables false
namespace Go.Proofs.Ytkkfpgkogggfdaa.Cw
open Go Go.RowKit

section
variable {P : Program} {ops : Array Oper} {rest : List Oper} {o : Oper} {a : Act} {w : World} {Q : Exit → Act → World → Prop} {α : Type}
theorem fa_nums (v : α → Value) (k : IntKind) (num : α → Int) (hv : ∀ x, v x = .int k (num x)) (n : Nat) (f : Nat → α) :
    (((List.range n).map fun i => num (f i)).map (Value.int k)).toArray = fa v n f := by
  unfold fa
  rw [List.map_map]
  congr 2
  funext i
  exact (hv _).symm
theorem parts_nums (v : α → Value) (k : IntKind) (num : α → Int) (hv : ∀ x, v x = .int k (num x)) (n : Nat) (f : Nat → α) (l : List (Nat × Operand)) (h : l = (List.range n).map fun i => (i, Operand.const (v (f i)))) :
    l = (((List.range n).map fun i => num (f i)).zipIdx 0).map fun x => (x.2, Operand.const (Value.int k x.1)) := by
  subst h
  refine List.ext_getElem (by simp) fun i h1 h2 => ?_
  simp [hv]
/-- an array literal of words -/
theorem wpList_build_fa (v : α → Value) (k : IntKind) (num : α → Int) (hv : ∀ x, v x = .int k (num x)) (hg : o.guard = none) (t e : TypeId) (n : Nat) (parts : Array (Nat × Operand)) (ho : o.op = .build t parts) (f : Nat → α)
    (hu : P.underlying t = some (.array n e)) (hsz : (P.info? e).map (·.size) = some 1) (hz : ((P.info? t).bind (·.zero)).map (·.cells.size) = some n)
    (hparts : parts.toList = (List.range n).map fun i => (i, Operand.const (v (f i))))
    (h : wpList P ops Q rest (a.put o.dst (.agg (fa v n f))) w) : wpList P ops Q (o :: rest) a w := by
  refine wpList_buildFlatArr hg t e n parts ho k ((List.range n).map fun i => num (f i)) hu hsz (by rw [hz]; simp) (parts_nums v k num hv n f _ hparts) ?_
  rw [fa_nums v k num hv]
  exact h
/-- a slice literal of words -/
theorem wpList_buildSlice_fa (v : α → Value) (k : IntKind) (num : α → Int) (hv : ∀ x, v x = .int k (num x)) (hg : o.guard = none) (t e : TypeId) (n : Nat) (parts : Array (Nat × Operand)) (ho : o.op = .buildSlice t n parts) (f : Nat → α)
    (hu : P.underlying t = some (.slice e)) (hsz : (P.info? e).map (·.size) = some 1) (hz : ((P.info? e).bind (·.zero)).isSome = true) (hpos : 0 < n) (hsmall : n ≤ 16777216)
    (hparts : parts.toList = (List.range n).map fun i => (i, Operand.const (v (f i))))
    (h : wpList P ops Q rest (a.put o.dst (.slice (some ⟨w.heap.size, 0, none⟩) n n)) (w.alloc (.cells (fa v n f) e))) : wpList P ops Q (o :: rest) a w := by
  refine wpList_buildFlat hg t e n parts ho k ((List.range n).map fun i => num (f i)) hu hsz hz (by simp) hpos hsmall (parts_nums v k num hv n f _ hparts) ?_
  rw [fa_nums v k num hv]
  exact h
end
theorem quiet_load_blk {P : Program} {a : Act} {o : Oper} {C : World → Prop} {K : Act → Prop} (ty : TypeId) (x : Operand) (ho : o.op = .load ty x)
    (g : Nat) (hx : a.eval x = .pointer (some ⟨g, 0, none⟩)) (t : TypeId) (cs : Array Value) (fr : Nat × Nat) (d : TypeDesc) (hg : ∀ w, C w → w.heap[g]? = some (.cells cs t fr))
    (hu : P.underlying ty = some d) (hd : isAggDesc d = true) (hi : (P.info? ty).map (·.size) = some cs.size)
    (h : K (a.put o.dst (.agg cs))) : o.quiet P a C K := by
  refine ⟨.agg cs, fun w hw => ?_, h⟩
  unfold Oper.quietAt execOp
  simp only [ho, hx, Instr.loadAt, Instr.sureAddr, Sem.run_bind, Sem.run_pure, Result.andThen_ok, run_load_seg w g 0 cs.size t ty cs cs fr d (hg w hw) hu hd hi rfl (fun j _ => by rw [Nat.zero_add])]
  exact ⟨rfl, rfl⟩
theorem results_blk2 {P : Program} {fn : Func} {p q : Tmp} {ty : TypeId} (h : fn.results = #[.cell p ty, .tmp q]) (tmps : Array Value) (w : World) (g : Nat) (t : TypeId) (cs : Array Value) (fr : Nat × Nat) (d : TypeDesc) (v : Value)
    (hp : tmps.getD p undef = .pointer (some ⟨g, 0, none⟩)) (hq : tmps.getD q undef = v) (hg : w.heap[g]? = some (.cells cs t fr))
    (hu : P.underlying ty = some d) (hd : isAggDesc d = true) (hi : (P.info? ty).map (·.size) = some cs.size) :
    (results fn tmps).run P w = .ok (.tuple #[.agg cs, v]) w := by
  have hp' : tmps[p]?.getD undef = .pointer (some ⟨g, 0, none⟩) := by simpa using hp
  have hq' : tmps[q]?.getD undef = v := by simpa using hq
  simp [results, h, hp', hq', asAddr, run_load_seg w g 0 cs.size t ty cs cs fr d hg hu hd hi rfl (fun j _ => by rw [Nat.zero_add])]
end Go.Proofs.Ytkkfpgkogggfdaa.Cw
