/-
  (package curve) Open, Get: a curve's numbers. Condition: the numbers 1 to 15.
-/
import Derived.Test.YtkoonhiplicbkaaGreatQk21
set_option linter.unusedSimpArgs false
set_option linter.unusedVariables false
set_option maxHeartbeats 20000000
set_option maxRecDepth 100000
namespace Go.Proofs.YtkoonhiplicbkaaGreat.Cw
open Go Go.RowKit
attribute [local irreducible] pc ptc nc ac cuc fc cgA
attribute [local go_sem ↓ high] wn_eql wn_neq wn_lss wn_gtr wn_leq wn_geq wn_cells wRS wn_guard lit0 lit1
attribute [local go_sem high] wn_match wRS wn_eql wn_neq wn_lss wn_gtr wn_leq wn_geq
section
variable {P:Program} {ops:Array Oper} {rest:List Oper} {o:Oper} {a:Act} {w:World} {Q:Exit→Act→World→Prop}
theorem wpList_box (hgd:o.guard=none) (t:TypeId) (x:Operand) (ho:o.op=.box t x) (cs:Array Value) (hv:(a.eval x).cells=cs)
  (h:∀ y w',w.heap.size=y→Grows w w'→w'.heap[y]?=some (.cells cs t (0,0))→wpList P ops Q rest (a.put o.dst (.pointer (some ⟨y,0,none⟩))) w'):wpList P ops Q (o::rest) a w:=
 wpList_plain hgd fun K hK=>by
  unfold Oper.wp execOp
  simp only [ho,Instr.box,newVar,hv,Sem.run_bind,Sem.run_pure,Result.andThen_ok]
  exact hK _ _ (h _ _ rfl (grows_alloc _ _) (new1 _ _))
theorem wL (hwt:Region.wanted o (yielded ops a.tmps)=true) (v:Value) (h:∀ u,(execOp a.eval o).run P u=.ok (.value v) u) (hn:wpList P ops Q rest (a.put o.dst v) w):wpList P ops Q (o::rest) a w:=by
 unfold wpList
 rw [if_pos hwt]
 refine .inl ?_
 unfold Oper.wp
 rw [h w]
 exact hn
theorem wK (v:Value) (hn:wpList P ops Q rest (a.put o.dst v) w) (hwt:Region.wanted o (yielded ops a.tmps)=true:=by kernel_rfl) (h:∀ u,(execOp a.eval o).run P u=.ok (.value v) u:=by intro u; kernel_rfl):wpList P ops Q (o::rest) a w:=wL hwt v h hn
theorem wpList_skipL (hwt:Region.wanted o (yielded ops a.tmps)=false) (hn:wpList P ops Q rest (a.put o.dst undef) w):wpList P ops Q (o::rest) a w:=by
 unfold wpList
 rw [if_neg (by rw [hwt]; decide)]
 exact hn
end
theorem EAll.pure {P:Program} {md:Region.Mode} {ops:Array Oper} {Q:Exit→Act→World→Prop} {C:World→Prop} {f i:Nat} {listed:Array Bool} {a:Act} {w1:World} {rs:List Nat} {o:Oper} (ho:ops[i]?=some o) (hgd:o.guard=none) (v:Value) (hv:∀ u,(execOp a.eval o).run P u=.ok (.value v) u) (hC:C w1)
  (h:wpAnyE P md ops Q C f (listed.setIfInBounds i true) (a.put o.dst v) w1) (hs:EAll P md ops Q C f listed a w1 rs):EAll P md ops Q C f listed a w1 (i::rs):=
 EAll.cons ho (fun K hK=>by
  rw [if_pos (by simp [Region.wanted,hgd])]
  unfold Oper.wp
  rw [hv w1]
  exact hK _ _ hC h) hs
theorem step_cg_i {P:Program} {ops:Array Oper} {o:Oper} {a0:Act} {w:World} {K:Act→World→Prop} {Q:Exit→Act→World→Prop} {E:Prop} (hgd:o.guard=none) (ty:TypeId) (x v:Operand) (ho:o.op=.store ty x v)
  (c0 off:Nat) (hx:a0.eval x=.pointer (some ⟨c0,off,none⟩)) (t:TypeId) (p a b n gg bits size lg f b3 B cs:Array Value) (hv:(a0.eval v).cells=cs) (hg:w.heap[c0]?=some (.cells (cgA B p a b n gg bits size lg f b3) t (0,0))) (hA:(#[]:Array Value).size=off) (hB:B.size=cs.size)
  (hi:(P.info? ty).map (·.size)=some cs.size) (h1:∀ u ∈ cs.toList,u.oneCell'=true)
  (h:∀ w',w'.heap[c0]?=some (.cells (cgA cs p a b n gg bits size lg f b3) t (0,0))→But c0 w w'→w'.heap.size=w.heap.size→K (a0.put o.dst undef) w'):if Region.wanted o (yielded ops a0.tmps)=true then Oper.wp P o a0 w K Q else E:=
 step_store_fld hgd ty x v ho c0 off hx t (fun S=>cgA S p a b n gg bits size lg f b3) (#[]) B _ cs (cg_i p a b n gg bits size lg f b3) hv hg hA hB hi h1 h
theorem step_cg_p {P:Program} {ops:Array Oper} {o:Oper} {a0:Act} {w:World} {K:Act→World→Prop} {Q:Exit→Act→World→Prop} {E:Prop} (hgd:o.guard=none) (ty:TypeId) (x v:Operand) (ho:o.op=.store ty x v)
  (c0 off:Nat) (hx:a0.eval x=.pointer (some ⟨c0,off,none⟩)) (t:TypeId) (i a b n gg bits size lg f b3 B cs:Array Value) (hv:(a0.eval v).cells=cs) (hg:w.heap[c0]?=some (.cells (cgA i B a b n gg bits size lg f b3) t (0,0))) (hA:(i:Array Value).size=off) (hB:B.size=cs.size)
  (hi:(P.info? ty).map (·.size)=some cs.size) (h1:∀ u ∈ cs.toList,u.oneCell'=true)
  (h:∀ w',w'.heap[c0]?=some (.cells (cgA i cs a b n gg bits size lg f b3) t (0,0))→But c0 w w'→w'.heap.size=w.heap.size→K (a0.put o.dst undef) w'):if Region.wanted o (yielded ops a0.tmps)=true then Oper.wp P o a0 w K Q else E:=
 step_store_fld hgd ty x v ho c0 off hx t (fun S=>cgA i S a b n gg bits size lg f b3) (i) B _ cs (cg_p i a b n gg bits size lg f b3) hv hg hA hB hi h1 h
theorem step_cg_a {P:Program} {ops:Array Oper} {o:Oper} {a0:Act} {w:World} {K:Act→World→Prop} {Q:Exit→Act→World→Prop} {E:Prop} (hgd:o.guard=none) (ty:TypeId) (x v:Operand) (ho:o.op=.store ty x v)
  (c0 off:Nat) (hx:a0.eval x=.pointer (some ⟨c0,off,none⟩)) (t:TypeId) (i p b n gg bits size lg f b3 B cs:Array Value) (hv:(a0.eval v).cells=cs) (hg:w.heap[c0]?=some (.cells (cgA i p B b n gg bits size lg f b3) t (0,0))) (hA:(i++p:Array Value).size=off) (hB:B.size=cs.size)
  (hi:(P.info? ty).map (·.size)=some cs.size) (h1:∀ u ∈ cs.toList,u.oneCell'=true)
  (h:∀ w',w'.heap[c0]?=some (.cells (cgA i p cs b n gg bits size lg f b3) t (0,0))→But c0 w w'→w'.heap.size=w.heap.size→K (a0.put o.dst undef) w'):if Region.wanted o (yielded ops a0.tmps)=true then Oper.wp P o a0 w K Q else E:=
 step_store_fld hgd ty x v ho c0 off hx t (fun S=>cgA i p S b n gg bits size lg f b3) (i++p) B _ cs (cg_a i p b n gg bits size lg f b3) hv hg hA hB hi h1 h
theorem list_cg_a {P:Program} {ops:Array Oper} {rest:List Oper} {o:Oper} {a0:Act} {w:World} {Q:Exit→Act→World→Prop} (hgd:o.guard=none) (ty:TypeId) (x v:Operand) (ho:o.op=.store ty x v)
  (c0 off:Nat) (hx:a0.eval x=.pointer (some ⟨c0,off,none⟩)) (t:TypeId) (i p b n gg bits size lg f b3 B cs:Array Value) (hv:(a0.eval v).cells=cs) (hg:w.heap[c0]?=some (.cells (cgA i p B b n gg bits size lg f b3) t (0,0))) (hA:(i++p:Array Value).size=off) (hB:B.size=cs.size)
  (hi:(P.info? ty).map (·.size)=some cs.size) (h1:∀ u ∈ cs.toList,u.oneCell'=true)
  (h:∀ w',w'.heap[c0]?=some (.cells (cgA i p cs b n gg bits size lg f b3) t (0,0))→But c0 w w'→w'.heap.size=w.heap.size→wpList P ops Q rest (a0.put o.dst undef) w'):wpList P ops Q (o::rest) a0 w:=
 wpList_store_fld hgd ty x v ho c0 off hx t (fun S=>cgA i p S b n gg bits size lg f b3) (i++p) B _ cs (cg_a i p b n gg bits size lg f b3) hv hg hA hB hi h1 h
theorem step_cg_b {P:Program} {ops:Array Oper} {o:Oper} {a0:Act} {w:World} {K:Act→World→Prop} {Q:Exit→Act→World→Prop} {E:Prop} (hgd:o.guard=none) (ty:TypeId) (x v:Operand) (ho:o.op=.store ty x v)
  (c0 off:Nat) (hx:a0.eval x=.pointer (some ⟨c0,off,none⟩)) (t:TypeId) (i p a n gg bits size lg f b3 B cs:Array Value) (hv:(a0.eval v).cells=cs) (hg:w.heap[c0]?=some (.cells (cgA i p a B n gg bits size lg f b3) t (0,0))) (hA:(i++p++a:Array Value).size=off) (hB:B.size=cs.size)
  (hi:(P.info? ty).map (·.size)=some cs.size) (h1:∀ u ∈ cs.toList,u.oneCell'=true)
  (h:∀ w',w'.heap[c0]?=some (.cells (cgA i p a cs n gg bits size lg f b3) t (0,0))→But c0 w w'→w'.heap.size=w.heap.size→K (a0.put o.dst undef) w'):if Region.wanted o (yielded ops a0.tmps)=true then Oper.wp P o a0 w K Q else E:=
 step_store_fld hgd ty x v ho c0 off hx t (fun S=>cgA i p a S n gg bits size lg f b3) (i++p++a) B _ cs (cg_b i p a n gg bits size lg f b3) hv hg hA hB hi h1 h
theorem get_cg_b (i p a n gg bits size lg f b3 B:Array Value) {off:Nat} (hA:(i++p++a:Array Value).size=off) {j:Nat} (hj:j<B.size):(cgA i p a B n gg bits size lg f b3)[off+j]?=B[j]?:=fld_get (F:=fun S=>cgA i p a S n gg bits size lg f b3) (cg_b i p a n gg bits size lg f b3) hA hj
theorem step_cg_n {P:Program} {ops:Array Oper} {o:Oper} {a0:Act} {w:World} {K:Act→World→Prop} {Q:Exit→Act→World→Prop} {E:Prop} (hgd:o.guard=none) (ty:TypeId) (x v:Operand) (ho:o.op=.store ty x v)
  (c0 off:Nat) (hx:a0.eval x=.pointer (some ⟨c0,off,none⟩)) (t:TypeId) (i p a b gg bits size lg f b3 B cs:Array Value) (hv:(a0.eval v).cells=cs) (hg:w.heap[c0]?=some (.cells (cgA i p a b B gg bits size lg f b3) t (0,0))) (hA:(i++p++a++b:Array Value).size=off) (hB:B.size=cs.size)
  (hi:(P.info? ty).map (·.size)=some cs.size) (h1:∀ u ∈ cs.toList,u.oneCell'=true)
  (h:∀ w',w'.heap[c0]?=some (.cells (cgA i p a b cs gg bits size lg f b3) t (0,0))→But c0 w w'→w'.heap.size=w.heap.size→K (a0.put o.dst undef) w'):if Region.wanted o (yielded ops a0.tmps)=true then Oper.wp P o a0 w K Q else E:=
 step_store_fld hgd ty x v ho c0 off hx t (fun S=>cgA i p a b S gg bits size lg f b3) (i++p++a++b) B _ cs (cg_n i p a b gg bits size lg f b3) hv hg hA hB hi h1 h
theorem get_cg_n (i p a b gg bits size lg f b3 B:Array Value) {off:Nat} (hA:(i++p++a++b:Array Value).size=off) {j:Nat} (hj:j<B.size):(cgA i p a b B gg bits size lg f b3)[off+j]?=B[j]?:=fld_get (F:=fun S=>cgA i p a b S gg bits size lg f b3) (cg_n i p a b gg bits size lg f b3) hA hj
theorem step_cg_g {P:Program} {ops:Array Oper} {o:Oper} {a0:Act} {w:World} {K:Act→World→Prop} {Q:Exit→Act→World→Prop} {E:Prop} (hgd:o.guard=none) (ty:TypeId) (x v:Operand) (ho:o.op=.store ty x v)
  (c0 off:Nat) (hx:a0.eval x=.pointer (some ⟨c0,off,none⟩)) (t:TypeId) (i p a b n bits size lg f b3 B cs:Array Value) (hv:(a0.eval v).cells=cs) (hg:w.heap[c0]?=some (.cells (cgA i p a b n B bits size lg f b3) t (0,0))) (hA:(i++p++a++b++n:Array Value).size=off) (hB:B.size=cs.size)
  (hi:(P.info? ty).map (·.size)=some cs.size) (h1:∀ u ∈ cs.toList,u.oneCell'=true)
  (h:∀ w',w'.heap[c0]?=some (.cells (cgA i p a b n cs bits size lg f b3) t (0,0))→But c0 w w'→w'.heap.size=w.heap.size→K (a0.put o.dst undef) w'):if Region.wanted o (yielded ops a0.tmps)=true then Oper.wp P o a0 w K Q else E:=
 step_store_fld hgd ty x v ho c0 off hx t (fun S=>cgA i p a b n S bits size lg f b3) (i++p++a++b++n) B _ cs (cg_g i p a b n bits size lg f b3) hv hg hA hB hi h1 h
theorem step_cg_bits {P:Program} {ops:Array Oper} {o:Oper} {a0:Act} {w:World} {K:Act→World→Prop} {Q:Exit→Act→World→Prop} {E:Prop} (hgd:o.guard=none) (ty:TypeId) (x v:Operand) (ho:o.op=.store ty x v)
  (c0 off:Nat) (hx:a0.eval x=.pointer (some ⟨c0,off,none⟩)) (t:TypeId) (i p a b n gg size lg f b3 B cs:Array Value) (hv:(a0.eval v).cells=cs) (hg:w.heap[c0]?=some (.cells (cgA i p a b n gg B size lg f b3) t (0,0))) (hA:(i++p++a++b++n++gg:Array Value).size=off) (hB:B.size=cs.size)
  (hi:(P.info? ty).map (·.size)=some cs.size) (h1:∀ u ∈ cs.toList,u.oneCell'=true)
  (h:∀ w',w'.heap[c0]?=some (.cells (cgA i p a b n gg cs size lg f b3) t (0,0))→But c0 w w'→w'.heap.size=w.heap.size→K (a0.put o.dst undef) w'):if Region.wanted o (yielded ops a0.tmps)=true then Oper.wp P o a0 w K Q else E:=
 step_store_fld hgd ty x v ho c0 off hx t (fun S=>cgA i p a b n gg S size lg f b3) (i++p++a++b++n++gg) B _ cs (cg_bits i p a b n gg size lg f b3) hv hg hA hB hi h1 h
theorem step_cg_size {P:Program} {ops:Array Oper} {o:Oper} {a0:Act} {w:World} {K:Act→World→Prop} {Q:Exit→Act→World→Prop} {E:Prop} (hgd:o.guard=none) (ty:TypeId) (x v:Operand) (ho:o.op=.store ty x v)
  (c0 off:Nat) (hx:a0.eval x=.pointer (some ⟨c0,off,none⟩)) (t:TypeId) (i p a b n gg bits lg f b3 B cs:Array Value) (hv:(a0.eval v).cells=cs) (hg:w.heap[c0]?=some (.cells (cgA i p a b n gg bits B lg f b3) t (0,0))) (hA:(i++p++a++b++n++gg++bits:Array Value).size=off) (hB:B.size=cs.size)
  (hi:(P.info? ty).map (·.size)=some cs.size) (h1:∀ u ∈ cs.toList,u.oneCell'=true)
  (h:∀ w',w'.heap[c0]?=some (.cells (cgA i p a b n gg bits cs lg f b3) t (0,0))→But c0 w w'→w'.heap.size=w.heap.size→K (a0.put o.dst undef) w'):if Region.wanted o (yielded ops a0.tmps)=true then Oper.wp P o a0 w K Q else E:=
 step_store_fld hgd ty x v ho c0 off hx t (fun S=>cgA i p a b n gg bits S lg f b3) (i++p++a++b++n++gg++bits) B _ cs (cg_size i p a b n gg bits lg f b3) hv hg hA hB hi h1 h
theorem list_cg_lg {P:Program} {ops:Array Oper} {rest:List Oper} {o:Oper} {a0:Act} {w:World} {Q:Exit→Act→World→Prop} (hgd:o.guard=none) (ty:TypeId) (x v:Operand) (ho:o.op=.store ty x v)
  (c0 off:Nat) (hx:a0.eval x=.pointer (some ⟨c0,off,none⟩)) (t:TypeId) (i p a b n gg bits size f b3 B cs:Array Value) (hv:(a0.eval v).cells=cs) (hg:w.heap[c0]?=some (.cells (cgA i p a b n gg bits size B f b3) t (0,0))) (hA:(i++p++a++b++n++gg++bits++size:Array Value).size=off) (hB:B.size=cs.size)
  (hi:(P.info? ty).map (·.size)=some cs.size) (h1:∀ u ∈ cs.toList,u.oneCell'=true)
  (h:∀ w',w'.heap[c0]?=some (.cells (cgA i p a b n gg bits size cs f b3) t (0,0))→But c0 w w'→w'.heap.size=w.heap.size→wpList P ops Q rest (a0.put o.dst undef) w'):wpList P ops Q (o::rest) a0 w:=
 wpList_store_fld hgd ty x v ho c0 off hx t (fun S=>cgA i p a b n gg bits size S f b3) (i++p++a++b++n++gg++bits++size) B _ cs (cg_lg i p a b n gg bits size f b3) hv hg hA hB hi h1 h
theorem step_cg_b3 {P:Program} {ops:Array Oper} {o:Oper} {a0:Act} {w:World} {K:Act→World→Prop} {Q:Exit→Act→World→Prop} {E:Prop} (hgd:o.guard=none) (ty:TypeId) (x v:Operand) (ho:o.op=.store ty x v)
  (c0 off:Nat) (hx:a0.eval x=.pointer (some ⟨c0,off,none⟩)) (t:TypeId) (i p a b n gg bits size lg f B cs:Array Value) (hv:(a0.eval v).cells=cs) (hg:w.heap[c0]?=some (.cells (cgA i p a b n gg bits size lg f B) t (0,0))) (hA:(i++p++a++b++n++gg++bits++size++lg++f:Array Value).size=off) (hB:B.size=cs.size)
  (hi:(P.info? ty).map (·.size)=some cs.size) (h1:∀ u ∈ cs.toList,u.oneCell'=true)
  (h:∀ w',w'.heap[c0]?=some (.cells (cgA i p a b n gg bits size lg f cs) t (0,0))→But c0 w w'→w'.heap.size=w.heap.size→K (a0.put o.dst undef) w'):if Region.wanted o (yielded ops a0.tmps)=true then Oper.wp P o a0 w K Q else E:=
 step_store_fld hgd ty x v ho c0 off hx t (fun S=>cgA i p a b n gg bits size lg f S) (i++p++a++b++n++gg++bits++size++lg++f) B _ cs (cg_b3 i p a b n gg bits size lg f) hv hg hA hB hi h1 h
theorem leg_cases (k:Nat) (b:Bool) (h:b=(k == 1 || k == 7)):(k=1∧b=true)∨(k≠1∧k=7∧b=true)∨(k≠1∧k≠7∧b=false):=by
 by_cases a1:k=1
 ·exact .inl ⟨a1,by rw [h,a1]; rfl⟩
 ·by_cases a2:k=7
  ·exact .inr (.inl ⟨a1,a2,by rw [h,a2]; rfl⟩)
  ·exact .inr (.inr ⟨a1,a2,by rw [h]; simp [a1,a2]⟩)
theorem astr_list {k:Nat} (h1:1≤k) (h2:k≤15) (h:less3 k=false):¬ (astr k).toList=[45,51]:=by
 have:∀ i,i<15→less3 (i+1)=false→¬ (astr (i+1)).toList=[45,51]:=by decide +kernel
 have h:=this (k - 1) (by omega)
 rw [show k - 1+1=k by omega] at h
 exact h ‹_›
theorem tab_open {k:Nat} (h1:1≤k) (h2:k≤15):(goodB (bstr k)=true∧goodB (nstr k)=true∧goodB (xstr k)=true∧goodB (ystr k)=true)∧(hexn (bstr k)=(cv k).b∧hexn (nstr k)=(cv k).n∧hexn (xstr k)=(cv k).gx∧hexn (ystr k)=(cv k).gy) ∧
  ((less3 k=true∧(cv k).p - 3=(cv k).a∧3≤(cv k).p)∨(less3 k=false∧goodB (astr k)=true∧hexn (astr k)=(cv k).a))∧(cv k).id=k∧(cv k).legacy=(k == 1 || k == 7)∧(cv k).Ok∧2*(cv k).n<pw 9∧2*(cv k).p<pw 9∧1<(cv k).p:=by
 have h:=tab_k h1 h2
 unfold tabB at h
 simp only [Bool.and_eq_true,beq_iff_eq,decide_eq_true_eq] at h
 obtain ⟨⟨⟨⟨⟨⟨⟨⟨⟨⟨⟨⟨⟨⟨⟨⟨⟨⟨⟨⟨⟨g1,g2⟩,g3⟩,g4⟩,g5⟩,g6⟩,e1⟩,e2⟩,e3⟩,e4⟩,e5⟩,e6⟩,e7⟩,e8⟩,n0⟩,n1⟩,n2⟩,n3⟩,n4⟩,n5⟩,n6⟩,n7⟩:=h
 refine ⟨⟨g2,g3,g4,g5⟩,⟨e2,e3,e4,e5⟩,?_,e7,e8,⟨n0,n1,n2,n3,n4,by omega⟩,n5,n6,n7⟩
 cases hl:less3 k
 ·rw [hl] at e6 g6
  simp only [Bool.false_eq_true,if_false,beq_iff_eq,Bool.false_or] at e6 g6
  exact .inr ⟨rfl,g6,e6⟩
 ·rw [hl] at e6
  simp only [if_true,Bool.and_eq_true,beq_iff_eq,decide_eq_true_eq] at e6
  exact .inl ⟨rfl,e6⟩
theorem cg_cuc (cu:Cv) (f:Nat):cgA #[.int .i64 cu.id] (nc cu.p) (nc cu.a) (nc cu.b) (nc cu.n) (ptc cu.gx cu.gy false) #[.int .i64 (bl cu.n)] #[.int .i64 cu.size] #[.bool cu.legacy] #[.pointer (some ⟨f,0,none⟩)] (nc cu.b3)=cuc cu f:=by
 apply Array.ext'
 unfold cgA cuc ac
 simp
theorem curve_open (k:Nat) (w:World) (h1:1≤k) (h2:k≤15):Calls Tryz.prog 30 #[.int .i64 k] w fun e w'=>∃ c f d,e=.returned (.pointer (some ⟨c,0,none⟩))∧CurveAt w' c f d (cv k)∧w.heap.size≤c∧Below w.heap.size w w':=by
 obtain ⟨⟨g2,g3,g4,g5⟩,⟨e2,e3,e4,e5⟩,hcase,e7,e8,hok,n5,n6,n7⟩:=tab_open h1 h2
 have HOF:=Hd (fun u=>field_of k u h1 h2)
 have HRW:=Hd (fun u=>curve_rows k h1 h2 u)
 have HB:=Hd (fun u=>(e2 ▸ field_hex (bstr k) u (good_of g2).1 (good_of g2).2:Calls Tryz.prog 71 #[.string (bstr k)] u fun e w'=>e=.returned (.agg (nc (cv k).b))∧Below u.heap.size u w'))
 have HNN:=Hd (fun u=>(e3 ▸ field_hex (nstr k) u (good_of g3).1 (good_of g3).2:Calls Tryz.prog 71 #[.string (nstr k)] u fun e w'=>e=.returned (.agg (nc (cv k).n))∧Below u.heap.size u w'))
 have HX:=Hd (fun u=>(e4 ▸ field_hex (xstr k) u (good_of g4).1 (good_of g4).2:Calls Tryz.prog 71 #[.string (xstr k)] u fun e w'=>e=.returned (.agg (nc (cv k).gx))∧Below u.heap.size u w'))
 have HY:=Hd (fun u=>(e5 ▸ field_hex (ystr k) u (good_of g5).1 (good_of g5).2:Calls Tryz.prog 71 #[.string (ystr k)] u fun e w'=>e=.returned (.agg (nc (cv k).gy))∧Below u.heap.size u w'))
 have HK:=Hd hok
 have HID:=Hd e7
 have HLG:=Hd e8
 have HN9:=Hd (show (cv k).n<pw 9 by omega)
 have HP9:=Hd (show (cv k).p<pw 9 by omega)
 have HCS:=Hd hcase
 have hk15:k≤15:=h2
 have hk1:1≤k:=h1
 clear g2 g3 g4 g5 e2 e3 e4 e5 hcase e7 e8 hok n5 n6 n7 h1 h2
 obtain ⟨cu,hcu⟩:∃ cu,cu=cv k:=⟨_,rfl⟩
 rw [← hcu] at HOF HB HNN HX HY HK HID HLG HN9 HP9 HCS ⊢
 clear hcu
 go_enter Tryz.func30,Tryz.ntmps30
 go_upto_region 1 with fail
 have M:=Hd (Mem.nil w)
 refine wp_region_lit ?_
 refine pK (.int .i64 (k:Int)) ?_
 refine wpList_fnE rfl _ _ _ _ rfl #[] #[.int .i64 (k:Int)] (by kernel_rfl) (by kernel_rfl) (fun u=>cE _ _ _ _ u Tryz.func69 (by kernel_rfl) (by kernel_rfl)) (T:=Nat × Nat) (fun q=>.pointer (some ⟨q.1,0,none⟩)) (fun q w'=>FieldAt w' q.1 cu.p q.2∧w.heap.size≤q.1∧Below w.heap.size w w') ((HOF.out w).mono fun e w' ⟨f,d,he,hr⟩=>⟨(f,d),he,hr⟩) ?_
 rintro ⟨f,d⟩ wf ⟨hfa,hfs,hfb⟩
 refine pK (.pointer (some ⟨f,0,none⟩)) ?_
 refine wpList_nil ?_
 try simp only [Act.put,s_,t_,u_,v_,x_,y_]
 have HF:=Hd hfa
 have HFS:=Hd hfs
 have HFW:=Hd hfb
 have HFB:=Hd hfa.2.2.2.2
 have HK0:=Hd HK.out.1
 clear hfa hfs hfb M
 have M:=Hd (Mem.nil wf)
 go_upto_region 2 with (fail)
 refine wp_region_lit ?_
 refine pK (.pointer (some ⟨f,0,none⟩)) ?_
 refine pK (.bool false) ?_
 refine wpList_nil ?_
 try simp only [Act.put,s_,t_,u_,v_,x_,y_]
 go_upto_region 4 with (fail)
 refine wp_region_lit ?_
 refine pK (.int .i64 (k:Int)) ?_
 refine fL rfl 70 (.func 70) #[.tmp 10] #[3] rfl #[] #[.int .i64 (k:Int)] (by kernel_rfl) (by kernel_rfl) (fun u=>cE _ _ _ _ u Tryz.func70 (by kernel_rfl) (by kernel_rfl)) (.agg (rc k)) (HRW.out wf) (fun w4 hb=>?_)
 have N4:=Hd (M.out.grow hb)
 clear hb M
 refine nL rfl 137 rfl (.agg #[.string ⟨#[]⟩,.string ⟨#[]⟩,.string ⟨#[]⟩,.string ⟨#[]⟩,.string ⟨#[]⟩]) (by kernel_rfl) ?_
 intro xr w5 hx hx2 hgv hh
 have N5:=Hd (show Mem wf w5 [(xr,#[.string ⟨#[]⟩,.string ⟨#[]⟩,.string ⟨#[]⟩,.string ⟨#[]⟩,.string ⟨#[]⟩],137)] from N4.out.new hgv (Nat.le_of_eq hx) hh)
 clear hx hx2 hgv hh N4
 refine sB rfl 137 (.tmp 4) (.tmp 11) rfl xr (by kernel_rfl) _ _ (rc k) (by kernel_rfl) (N5.out.at 0 rfl) (by kernel_rfl) rfl (fun u hu=>by simp [rc] at hu; rcases hu with rfl | rfl | rfl | rfl | rfl <;> rfl) ?_
 intro w6 hw hb hs
 have N6:=Hd (N5.out.store 0 rfl hb hs hw)
 clear hw hb hs N5
 refine wpList_nil ?_
 try simp only [Act.put,s_,t_,u_,v_,x_,y_]
 go_upto_region 5 with (fail)
 refine wp_region_lit ?_
 refine pK (.pointer (some ⟨f,0,none⟩)) ?_
 refine wpList_built rfl 87 #[(1,.tmp 12)] rfl (cgA #[.int .i64 0] (nc 0) (nc 0) (nc 0) (nc 0) (ptc 0 0 false) #[.int .i64 0] #[.int .i64 0] #[.bool false] #[.pointer (some ⟨f,0,none⟩)] (nc 0)) (by kernel_rfl) ?_
 refine wpList_box rfl 87 (.tmp 13) rfl (cgA #[.int .i64 0] (nc 0) (nc 0) (nc 0) (nc 0) (ptc 0 0 false) #[.int .i64 0] #[.int .i64 0] #[.bool false] #[.pointer (some ⟨f,0,none⟩)] (nc 0)) (by kernel_rfl) ?_
 intro xc w7 hx hgv hh
 have N7:=Hd (show Mem wf w7 [(xr,rc k,137),(xc,cgA #[.int .i64 0] (nc 0) (nc 0) (nc 0) (nc 0) (ptc 0 0 false) #[.int .i64 0] #[.int .i64 0] #[.bool false] #[.pointer (some ⟨f,0,none⟩)] (nc 0),87)] from N6.out.new hgv (Nat.le_of_eq hx) hh)
 clear hx hgv hh N6
 refine pK (.pointer (some ⟨xc,0,none⟩)) ?_
 refine wpList_nil ?_
 try simp only [Act.put,s_,t_,u_,v_,x_,y_]
 go_upto_region 6 with (fail)
 have D2:=Hd (N7.out.drew)
 clear N7
 refine wp_region_cls (C:=(fun u=>∃ Si Sp Sb Sn:Array Value,Mem wf u [(xr,rc k,137),(xc,cgA Si Sp (nc 0) Sb Sn (ptc 0 0 false) #[.int .i64 0] #[.int .i64 0] #[.bool false] #[.pointer (some ⟨f,0,none⟩)] (nc 0),87)])) (fun u v hu hg=>by obtain ⟨Si,Sp,Sb,Sn,m⟩:=hu; exact ⟨Si,Sp,Sb,Sn,m.grow hg⟩) [0,1,2,3,4,5,6,7,8,9,10,11,12,13,14,15,16,17] ⟨_,_,_,_,D2.out⟩ (by kernel_rfl) (by kernel_rfl) (fun d v c a w h=>by cases d <;> exact h) ?_
 simp only [pickOps,List.filterMap_cons,List.filterMap_nil,List.getElem?_cons_succ,List.getElem?_cons_zero]
 refine eK (.pointer (some ⟨xc,0,none⟩)) ?_
 refine eK (.pointer (some ⟨xc,0,none⟩)) ?_
 refine eK (.pointer (some ⟨xc,0,none⟩)) ?_
 refine eK (.pointer (some ⟨xc,0,none⟩)) ?_
 refine eK (.int .i64 (k:Int)) ?_
 refine eK (.pointer (some ⟨f,0,none⟩)) ?_
 refine eK (.pointer (some ⟨f,0,none⟩)) ?_
 refine eK (.pointer (some ⟨f,0,none⟩)) ?_
 refine wpE_loadN rfl (.tmp 22) rfl f 0 (by kernel_rfl) cu.p (fun u hu=>by obtain ⟨Si,Sp,Sb,Sn,m⟩:=hu; exact ⟨_,_,_,grows_at HFB.out m.1,fc_p cu.p d⟩) ?_
 refine eK (.pointer (some ⟨xr,1,none⟩)) ?_
 refine wpE_load_cell rfl 9 (.tmp 24) rfl xr 1 (by kernel_rfl) (.string (bstr k)) _ Tryz.underlying9 rfl (fun u hu=>by obtain ⟨Si,Sp,Sb,Sn,m⟩:=hu; exact (cO (m.at 0 rfl) 1).trans (rfl)) ?_
 refine wpE_fn rfl _ _ _ _ rfl #[] #[.string (bstr k)] (by kernel_rfl) (by kernel_rfl) (fun u=>cE _ _ _ _ u Tryz.func71 (by kernel_rfl) (by kernel_rfl)) (.agg (nc cu.b)) (fun u hu=>by obtain ⟨Si,Sp,Sb,Sn,m⟩:=hu; exact HB.out u ) ?_
 refine eK (.pointer (some ⟨xr,2,none⟩)) ?_
 refine wpE_load_cell rfl 9 (.tmp 27) rfl xr 2 (by kernel_rfl) (.string (nstr k)) _ Tryz.underlying9 rfl (fun u hu=>by obtain ⟨Si,Sp,Sb,Sn,m⟩:=hu; exact (cO (m.at 0 rfl) 2).trans (rfl)) ?_
 refine wpE_fn rfl _ _ _ _ rfl #[] #[.string (nstr k)] (by kernel_rfl) (by kernel_rfl) (fun u=>cE _ _ _ _ u Tryz.func71 (by kernel_rfl) (by kernel_rfl)) (.agg (nc cu.n)) (fun u hu=>by obtain ⟨Si,Sp,Sb,Sn,m⟩:=hu; exact HNN.out u ) ?_
 refine eK (.pointer (some ⟨xc,0,none⟩)) ?_
 refine eK (.pointer (some ⟨xc,0,none⟩)) ?_
 refine eK (.pointer (some ⟨xc,0,none⟩)) ?_
 refine wpE_nil ?_
 try simp only [Act.put,s_,t_,u_,v_,x_,y_]
 refine ready_E (rs:=[18]) (by kernel_rfl) (by simp) (fun u3 hgB=>?_)
 have N4:=Hd (D2.out.grow hgB)
 clear hgB D2
 refine EAll.cons rfl (fun K hK=>?_) EAll.nil
 refine step_cg_i rfl 3 (.tmp 32) (.tmp 19) rfl xc 0 (by kernel_rfl) _ (nc 0) (nc 0) (nc 0) (nc 0) (ptc 0 0 false) #[.int .i64 0] #[.int .i64 0] #[.bool false] #[.pointer (some ⟨f,0,none⟩)] (nc 0) _ (#[.int .i64 (k:Int)]) (by kernel_rfl) (N4.out.at 1 rfl) (by simp [nS,pS]) rfl (by kernel_rfl) (by intro u hu; simp at hu; subst hu; rfl) (fun u5 hw hb hs=>?_)
 have N6:=Hd (N4.out.store 1 rfl hb hs hw)
 refine hK _ _ ⟨_,_,_,_,N6.out⟩ ?_
 clear hK hw hb hs N4
 try simp only [Act.put,s_,t_,u_,v_,x_,y_]
 refine ready_E (rs:=[19]) (by kernel_rfl) (by simp) (fun u7 hgB=>?_)
 have N8:=Hd (N6.out.grow hgB)
 clear hgB N6
 refine EAll.pure rfl rfl (.pointer (some ⟨xc,0,none⟩)) (fun u=>by kernel_rfl) ⟨_,_,_,_,N8.out⟩ ?_ EAll.nil
 try simp only [Act.put,s_,t_,u_,v_,x_,y_]
 refine ready_E (rs:=[20]) (by kernel_rfl) (by simp) (fun u9 hgB=>?_)
 have N10:=Hd (N8.out.grow hgB)
 clear hgB N8
 refine EAll.pure rfl rfl (.pointer (some ⟨xc,0,none⟩)) (fun u=>by kernel_rfl) ⟨_,_,_,_,N10.out⟩ ?_ EAll.nil
 try simp only [Act.put,s_,t_,u_,v_,x_,y_]
 refine ready_E (rs:=[21]) (by kernel_rfl) (by simp) (fun u11 hgB=>?_)
 have N12:=Hd (N10.out.grow hgB)
 clear hgB N10
 refine EAll.pure rfl rfl (.pointer (some ⟨xc,1,none⟩)) (fun u=>by kernel_rfl) ⟨_,_,_,_,N12.out⟩ ?_ EAll.nil
 try simp only [Act.put,s_,t_,u_,v_,x_,y_]
 refine ready_E (rs:=[22]) (by kernel_rfl) (by simp) (fun u13 hgB=>?_)
 have N14:=Hd (N12.out.grow hgB)
 clear hgB N12
 refine EAll.cons rfl (fun K hK=>?_) EAll.nil
 refine step_cg_p rfl 27 (.tmp 35) (.tmp 23) rfl xc 1 (by kernel_rfl) _ #[.int .i64 (k:Int)] (nc 0) (nc 0) (nc 0) (ptc 0 0 false) #[.int .i64 0] #[.int .i64 0] #[.bool false] #[.pointer (some ⟨f,0,none⟩)] (nc 0) _ (nc cu.p) (by kernel_rfl) (N14.out.at 1 rfl) (by simp [nS,pS]) (by simp only [nS]) (by rw [nS]; kernel_rfl) (nO _) (fun u15 hw hb hs=>?_)
 have N16:=Hd (N14.out.store 1 rfl hb hs hw)
 refine hK _ _ ⟨_,_,_,_,N16.out⟩ ?_
 clear hK hw hb hs N14
 try simp only [Act.put,s_,t_,u_,v_,x_,y_]
 refine ready_E (rs:=[23]) (by kernel_rfl) (by simp) (fun u17 hgB=>?_)
 have N18:=Hd (N16.out.grow hgB)
 clear hgB N16
 refine EAll.pure rfl rfl (.pointer (some ⟨xc,0,none⟩)) (fun u=>by kernel_rfl) ⟨_,_,_,_,N18.out⟩ ?_ EAll.nil
 try simp only [Act.put,s_,t_,u_,v_,x_,y_]
 refine ready_E (rs:=[24]) (by kernel_rfl) (by simp) (fun u19 hgB=>?_)
 have N20:=Hd (N18.out.grow hgB)
 clear hgB N18
 refine EAll.pure rfl rfl (.pointer (some ⟨xc,0,none⟩)) (fun u=>by kernel_rfl) ⟨_,_,_,_,N20.out⟩ ?_ EAll.nil
 try simp only [Act.put,s_,t_,u_,v_,x_,y_]
 refine ready_E (rs:=[25]) (by kernel_rfl) (by simp) (fun u21 hgB=>?_)
 have N22:=Hd (N20.out.grow hgB)
 clear hgB N20
 refine EAll.pure rfl rfl (.pointer (some ⟨xc,19,none⟩)) (fun u=>by kernel_rfl) ⟨_,_,_,_,N22.out⟩ ?_ EAll.nil
 try simp only [Act.put,s_,t_,u_,v_,x_,y_]
 refine ready_E (rs:=[26]) (by kernel_rfl) (by simp) (fun u23 hgB=>?_)
 have N24:=Hd (N22.out.grow hgB)
 clear hgB N22
 refine EAll.cons rfl (fun K hK=>?_) EAll.nil
 refine step_cg_b rfl 27 (.tmp 38) (.tmp 26) rfl xc 19 (by kernel_rfl) _ #[.int .i64 (k:Int)] (nc cu.p) (nc 0) (nc 0) (ptc 0 0 false) #[.int .i64 0] #[.int .i64 0] #[.bool false] #[.pointer (some ⟨f,0,none⟩)] (nc 0) _ (nc cu.b) (by kernel_rfl) (N24.out.at 1 rfl) (by simp [nS,pS]) (by simp only [nS]) (by rw [nS]; kernel_rfl) (nO _) (fun u25 hw hb hs=>?_)
 have N26:=Hd (N24.out.store 1 rfl hb hs hw)
 refine hK _ _ ⟨_,_,_,_,N26.out⟩ ?_
 clear hK hw hb hs N24
 try simp only [Act.put,s_,t_,u_,v_,x_,y_]
 refine ready_E (rs:=[27]) (by kernel_rfl) (by simp) (fun u27 hgB=>?_)
 have N28:=Hd (N26.out.grow hgB)
 clear hgB N26
 refine EAll.pure rfl rfl (.pointer (some ⟨xc,0,none⟩)) (fun u=>by kernel_rfl) ⟨_,_,_,_,N28.out⟩ ?_ EAll.nil
 try simp only [Act.put,s_,t_,u_,v_,x_,y_]
 refine ready_E (rs:=[28]) (by kernel_rfl) (by simp) (fun u29 hgB=>?_)
 have N30:=Hd (N28.out.grow hgB)
 clear hgB N28
 refine EAll.pure rfl rfl (.pointer (some ⟨xc,0,none⟩)) (fun u=>by kernel_rfl) ⟨_,_,_,_,N30.out⟩ ?_ EAll.nil
 try simp only [Act.put,s_,t_,u_,v_,x_,y_]
 refine ready_E (rs:=[29]) (by kernel_rfl) (by simp) (fun u31 hgB=>?_)
 have N32:=Hd (N30.out.grow hgB)
 clear hgB N30
 refine EAll.pure rfl rfl (.pointer (some ⟨xc,28,none⟩)) (fun u=>by kernel_rfl) ⟨_,_,_,_,N32.out⟩ ?_ EAll.nil
 try simp only [Act.put,s_,t_,u_,v_,x_,y_]
 refine ready_E (rs:=[30]) (by kernel_rfl) (by simp) (fun u33 hgB=>?_)
 have N34:=Hd (N32.out.grow hgB)
 clear hgB N32
 refine EAll.cons rfl (fun K hK=>?_) EAll.nil
 refine step_cg_n rfl 27 (.tmp 41) (.tmp 29) rfl xc 28 (by kernel_rfl) _ #[.int .i64 (k:Int)] (nc cu.p) (nc 0) (nc cu.b) (ptc 0 0 false) #[.int .i64 0] #[.int .i64 0] #[.bool false] #[.pointer (some ⟨f,0,none⟩)] (nc 0) _ (nc cu.n) (by kernel_rfl) (N34.out.at 1 rfl) (by simp [nS,pS]) (by simp only [nS]) (by rw [nS]; kernel_rfl) (nO _) (fun u35 hw hb hs=>?_)
 have N36:=Hd (N34.out.store 1 rfl hb hs hw)
 refine hK _ _ ⟨_,_,_,_,N36.out⟩ ?_
 clear hK hw hb hs N34
 try simp only [Act.put,s_,t_,u_,v_,x_,y_]
 refine done_E (by kernel_rfl) (fun u37 hgB=>?_)
 have N38:=Hd (N36.out.grow hgB)
 clear hgB N36
 try simp only [Act.put,s_,t_,u_,v_,x_,y_]
 rcases HCS.out with ⟨hl,hca,hc3⟩ | ⟨hl,hga,hca⟩
 ·have HA3:=Hd (show astr k=⟨#[45,51]⟩ from by unfold less3 at hl; have h:=eq_of_beq hl; cases hs:astr k; rw [hs] at h; simp at h; rw [h])
  go_upto_region 7 with (fail)
  refine wp_region_lit ?_
  refine pK (.pointer (some ⟨xr,0,none⟩)) ?_
  refine lC rfl 9 (.tmp 42) rfl xr 0 (by kernel_rfl) (.string (astr k)) _ Tryz.underlying9 rfl ((cO (N38.out.at 0 rfl) 0).trans (rfl)) ?_
  try simp only [Act.put,s_,t_,u_,v_,x_,y_]
  refine pL rfl (.bool true) (fun u=>by rw [HA3.out]; go_simp) ?_
  refine wpList_nil ?_
  try simp only [Act.put,s_,t_,u_,v_,x_,y_]
  have HD3:=Hd (show dif cu.p 3 9=cu.a by rw [dif_hi HP9.out (by omega)]; exact hca)
  go_upto_region 8 with (fail)
  have D39:=Hd (N38.out.drew)
  clear N38
  refine wp_region_cls (C:=(fun u=>∃ Sa:Array Value,Mem wf u [(xr,rc k,137),(xc,cgA #[.int .i64 (k:Int)] (nc cu.p) Sa (nc cu.b) (nc cu.n) (ptc 0 0 false) #[.int .i64 0] #[.int .i64 0] #[.bool false] #[.pointer (some ⟨f,0,none⟩)] (nc 0),87)])) (fun u v hu hg=>by obtain ⟨Sa,m⟩:=hu; exact ⟨Sa,m.grow hg⟩) [0,1,2,3,4,5,6,7,8,9,10,11,12] ⟨_,D39.out⟩ (by kernel_rfl) (by kernel_rfl) (fun d v c a w h=>by cases d <;> exact h) ?_
  simp only [pickOps,List.filterMap_cons,List.filterMap_nil,List.getElem?_cons_succ,List.getElem?_cons_zero]
  refine eK (.pointer (some ⟨xc,0,none⟩)) ?_
  refine eK (.pointer (some ⟨f,0,none⟩)) ?_
  refine eK (.pointer (some ⟨f,0,none⟩)) ?_
  refine eK (.pointer (some ⟨f,0,none⟩)) ?_
  refine wpE_loadN rfl (.tmp 49) rfl f 0 (by kernel_rfl) cu.p (fun u hu=>by obtain ⟨Sa,m⟩:=hu; exact ⟨_,_,_,grows_at HFB.out m.1,fc_p cu.p d⟩) ?_
  refine wpE_fn rfl _ _ _ _ rfl #[] #[.int .i64 3] (by kernel_rfl) (by kernel_rfl) (fun u=>cE _ _ _ _ u Tryz.func47 (by kernel_rfl) (by kernel_rfl)) (.agg (nc 3)) (fun u hu=>by obtain ⟨Sa,m⟩:=hu; exact nat_small 3 u  (by decide)) ?_
  refine wpE_fn rfl _ _ _ _ rfl #[] #[.agg (nc cu.p),.agg (nc 3)] (by kernel_rfl) (by kernel_rfl) (fun u=>cE _ _ _ _ u Tryz.func18 (by kernel_rfl) (by kernel_rfl)) (.tuple #[.agg (nc cu.a),.bool (decide (cu.p<3))]) (fun u hu=>by obtain ⟨Sa,m⟩:=hu; exact (by have hcc:=nat_sub cu.p 3 u  HP9.out (show 3<pw 9 by decide +kernel); rw [HD3.out] at hcc; exact hcc)) ?_
  refine eK (.tuple #[.agg (nc cu.a),.bool (decide (cu.p<3))]) ?_
  refine eK (.agg (nc cu.a)) ?_
  refine eK (.bool (decide (cu.p<3))) ?_
  refine eK (.pointer (some ⟨xc,0,none⟩)) ?_
  refine eK (.pointer (some ⟨xc,0,none⟩)) ?_
  refine eK (.pointer (some ⟨xc,10,none⟩)) ?_
  refine wpE_nil ?_
  try simp only [Act.put,s_,t_,u_,v_,x_,y_]
  refine ready_E (rs:=[13]) (by kernel_rfl) (by simp) (fun u40 hgB=>?_)
  have N41:=Hd (D39.out.grow hgB)
  clear hgB D39
  refine EAll.cons rfl (fun K hK=>?_) EAll.nil
  refine step_cg_a rfl 27 (.tmp 57) (.tmp 53) rfl xc 10 (by kernel_rfl) _ #[.int .i64 (k:Int)] (nc cu.p) (nc cu.b) (nc cu.n) (ptc 0 0 false) #[.int .i64 0] #[.int .i64 0] #[.bool false] #[.pointer (some ⟨f,0,none⟩)] (nc 0) _ (nc cu.a) (by kernel_rfl) (N41.out.at 1 rfl) (by simp [nS,pS]) (by simp only [nS]) (by rw [nS]; kernel_rfl) (nO _) (fun u42 hw hb hs=>?_)
  have N43:=Hd (N41.out.store 1 rfl hb hs hw)
  refine hK _ _ ⟨_,N43.out⟩ ?_
  clear hK hw hb hs N41
  try simp only [Act.put,s_,t_,u_,v_,x_,y_]
  refine done_E (by kernel_rfl) (fun u44 hgB=>?_)
  have N45:=Hd (N43.out.grow hgB)
  clear hgB N43
  try simp only [Act.put,s_,t_,u_,v_,x_,y_]
  go_upto_region 10 with (fail)
  have D46:=Hd (N45.out.drew)
  clear N45
  refine wp_region_cls (C:=(fun u=>∃ Sg:Array Value,Mem wf u [(xr,rc k,137),(xc,cgA #[.int .i64 (k:Int)] (nc cu.p) (nc cu.a) (nc cu.b) (nc cu.n) Sg #[.int .i64 0] #[.int .i64 0] #[.bool false] #[.pointer (some ⟨f,0,none⟩)] (nc 0),87)])) (fun u v hu hg=>by obtain ⟨Sg,m⟩:=hu; exact ⟨Sg,m.grow hg⟩) [0,1,2,3,4,5,6,7,8,9,10] ⟨_,D46.out⟩ (by kernel_rfl) (by kernel_rfl) (fun d v c a w h=>by cases d <;> exact h) ?_
  simp only [pickOps,List.filterMap_cons,List.filterMap_nil,List.getElem?_cons_succ,List.getElem?_cons_zero]
  refine eK (.pointer (some ⟨xc,0,none⟩)) ?_
  refine eK (.pointer (some ⟨xr,3,none⟩)) ?_
  refine wpE_load_cell rfl 9 (.tmp 66) rfl xr 3 (by kernel_rfl) (.string (xstr k)) _ Tryz.underlying9 rfl (fun u hu=>by obtain ⟨Sg,m⟩:=hu; exact (cO (m.at 0 rfl) 3).trans (rfl)) ?_
  refine wpE_fn rfl _ _ _ _ rfl #[] #[.string (xstr k)] (by kernel_rfl) (by kernel_rfl) (fun u=>cE _ _ _ _ u Tryz.func71 (by kernel_rfl) (by kernel_rfl)) (.agg (nc cu.gx)) (fun u hu=>by obtain ⟨Sg,m⟩:=hu; exact HX.out u ) ?_
  refine eK (.pointer (some ⟨xr,4,none⟩)) ?_
  refine wpE_load_cell rfl 9 (.tmp 69) rfl xr 4 (by kernel_rfl) (.string (ystr k)) _ Tryz.underlying9 rfl (fun u hu=>by obtain ⟨Sg,m⟩:=hu; exact (cO (m.at 0 rfl) 4).trans (rfl)) ?_
  refine wpE_fn rfl _ _ _ _ rfl #[] #[.string (ystr k)] (by kernel_rfl) (by kernel_rfl) (fun u=>cE _ _ _ _ u Tryz.func71 (by kernel_rfl) (by kernel_rfl)) (.agg (nc cu.gy)) (fun u hu=>by obtain ⟨Sg,m⟩:=hu; exact HY.out u ) ?_
  refine wpE_built rfl 41 #[(0,.tmp 68),(1,.tmp 71)] rfl ((ptc cu.gx cu.gy false)) (by kernel_rfl) ?_
  refine eK (.pointer (some ⟨xc,0,none⟩)) ?_
  refine eK (.pointer (some ⟨xc,0,none⟩)) ?_
  refine eK (.pointer (some ⟨xc,37,none⟩)) ?_
  refine wpE_nil ?_
  try simp only [Act.put,s_,t_,u_,v_,x_,y_]
  refine ready_E (rs:=[11]) (by kernel_rfl) (by simp) (fun u47 hgB=>?_)
  have N48:=Hd (D46.out.grow hgB)
  clear hgB D46
  refine EAll.cons rfl (fun K hK=>?_) EAll.nil
  refine step_cg_g rfl 41 (.tmp 75) (.tmp 72) rfl xc 37 (by kernel_rfl) _ #[.int .i64 (k:Int)] (nc cu.p) (nc cu.a) (nc cu.b) (nc cu.n) #[.int .i64 0] #[.int .i64 0] #[.bool false] #[.pointer (some ⟨f,0,none⟩)] (nc 0) _ (ptc cu.gx cu.gy false) (by kernel_rfl) (N48.out.at 1 rfl) (by simp [nS,pS]) (by simp only [pS]) (by rw [pS]; kernel_rfl) (ptc_one _ _ _) (fun u49 hw hb hs=>?_)
  have N50:=Hd (N48.out.store 1 rfl hb hs hw)
  refine hK _ _ ⟨_,N50.out⟩ ?_
  clear hK hw hb hs N48
  try simp only [Act.put,s_,t_,u_,v_,x_,y_]
  refine done_E (by kernel_rfl) (fun u51 hgB=>?_)
  have N52:=Hd (N50.out.grow hgB)
  clear hgB N50
  try simp only [Act.put,s_,t_,u_,v_,x_,y_]
  have hblp:=bl_le576 cu.p HP9.out
  have HW1:=Hd (show IntKind.i64.wrap ((bl cu.p:Int)+7)=(bl cu.p:Int)+7 from IntWalk.i64_in _ (by omega))
  have hsz:((bl cu.p:Int)+7) / 8=(cu.size:Int):=by unfold Cv.size; omega
  have HW3:=Hd hsz
  have HW2:=Hd (show ((bl cu.p:Int)+7).tdiv 8=(cu.size:Int) by rw [Int.tdiv_eq_ediv_of_nonneg (by omega)]; exact hsz)
  have HW4:=Hd (show IntKind.i64.wrap (cu.size:Int)=(cu.size:Int) from IntWalk.i64_in _ (by omega))
  clear hblp hsz
  go_upto_region 11 with (fail)
  have D53:=Hd (N52.out.drew)
  clear N52
  refine wp_region_cls (C:=(fun u=>∃ Sbits Ssize:Array Value,Mem wf u [(xr,rc k,137),(xc,cgA #[.int .i64 (k:Int)] (nc cu.p) (nc cu.a) (nc cu.b) (nc cu.n) (ptc cu.gx cu.gy false) Sbits Ssize #[.bool false] #[.pointer (some ⟨f,0,none⟩)] (nc 0),87)])) (fun u v hu hg=>by obtain ⟨Sbits,Ssize,m⟩:=hu; exact ⟨Sbits,Ssize,m.grow hg⟩) [0,1,2,3,4,5,6,7,8,9,10,11,12,13,14,15,16,17] ⟨_,_,D53.out⟩ (by kernel_rfl) (by kernel_rfl) (fun d v c a w h=>by cases d <;> exact h) ?_
  simp only [pickOps,List.filterMap_cons,List.filterMap_nil,List.getElem?_cons_succ,List.getElem?_cons_zero]
  refine eK (.pointer (some ⟨xc,0,none⟩)) ?_
  refine eK (.pointer (some ⟨xc,0,none⟩)) ?_
  refine eK (.pointer (some ⟨xc,0,none⟩)) ?_
  refine eK (.pointer (some ⟨xc,0,none⟩)) ?_
  refine eK (.pointer (some ⟨xc,0,none⟩)) ?_
  refine eK (.pointer (some ⟨xc,28,none⟩)) ?_
  refine wpE_loadN rfl (.tmp 81) rfl xc 28 (by kernel_rfl) cu.n (fun u hu=>by obtain ⟨Sbits,Ssize,m⟩:=hu; exact ⟨_,_,_,m.at 1 rfl,fun j hj=>(get_cg_n #[.int .i64 (k:Int)] (nc cu.p) (nc cu.a) (nc cu.b) (ptc cu.gx cu.gy false) Sbits Ssize #[.bool false] #[.pointer (some ⟨f,0,none⟩)] (nc 0) _ (by simp [nS,pS]) (by rw [nS]; exact hj)).trans (nc_get _ _ hj)⟩) ?_
  refine wpE_fn rfl _ _ _ _ rfl #[] #[.agg (nc cu.n)] (by kernel_rfl) (by kernel_rfl) (fun u=>cE _ _ _ _ u Tryz.func72 (by kernel_rfl) (by kernel_rfl)) (.int .i64 (bl cu.n:Int)) (fun u hu=>by obtain ⟨Sbits,Ssize,m⟩:=hu; exact nat_bits cu.n u  HN9.out) ?_
  refine eK (.pointer (some ⟨f,0,none⟩)) ?_
  refine eK (.pointer (some ⟨f,0,none⟩)) ?_
  refine eK (.pointer (some ⟨f,0,none⟩)) ?_
  refine wpE_loadN rfl (.tmp 86) rfl f 0 (by kernel_rfl) cu.p (fun u hu=>by obtain ⟨Sbits,Ssize,m⟩:=hu; exact ⟨_,_,_,grows_at HFB.out m.1,fc_p cu.p d⟩) ?_
  refine wpE_fn rfl _ _ _ _ rfl #[] #[.agg (nc cu.p)] (by kernel_rfl) (by kernel_rfl) (fun u=>cE _ _ _ _ u Tryz.func72 (by kernel_rfl) (by kernel_rfl)) (.int .i64 (bl cu.p:Int)) (fun u hu=>by obtain ⟨Sbits,Ssize,m⟩:=hu; exact nat_bits cu.p u  HP9.out) ?_
  try simp only [Act.put,s_,t_,u_,v_,x_,y_]
  refine pE rfl (.int .i64 ((bl cu.p:Int)+7)) (fun u=>by go_simp; exact HW1.out) ?_
  try simp only [Act.put,s_,t_,u_,v_,x_,y_]
  refine pE rfl (.int .i64 (cu.size:Int)) (fun u=>by go_simp; first | exact HW2.out | exact HW3.out | (rw [HW2.out]; exact HW4.out) | (rw [HW3.out]; exact HW4.out)) ?_
  refine eK (.pointer (some ⟨xc,0,none⟩)) ?_
  refine eK (.pointer (some ⟨xc,0,none⟩)) ?_
  refine eK (.pointer (some ⟨xc,56,none⟩)) ?_
  refine wpE_nil ?_
  try simp only [Act.put,s_,t_,u_,v_,x_,y_]
  refine ready_E (rs:=[18]) (by kernel_rfl) (by simp) (fun u54 hgB=>?_)
  have N55:=Hd (D53.out.grow hgB)
  clear hgB D53
  refine EAll.cons rfl (fun K hK=>?_) EAll.nil
  refine step_cg_bits rfl 3 (.tmp 93) (.tmp 83) rfl xc 56 (by kernel_rfl) _ #[.int .i64 (k:Int)] (nc cu.p) (nc cu.a) (nc cu.b) (nc cu.n) (ptc cu.gx cu.gy false) #[.int .i64 0] #[.bool false] #[.pointer (some ⟨f,0,none⟩)] (nc 0) _ (#[.int .i64 (bl cu.n)]) (by kernel_rfl) (N55.out.at 1 rfl) (by simp [nS,pS]) rfl (by kernel_rfl) (by intro u hu; simp at hu; subst hu; rfl) (fun u56 hw hb hs=>?_)
  have N57:=Hd (N55.out.store 1 rfl hb hs hw)
  refine hK _ _ ⟨_,_,N57.out⟩ ?_
  clear hK hw hb hs N55
  try simp only [Act.put,s_,t_,u_,v_,x_,y_]
  refine ready_E (rs:=[19]) (by kernel_rfl) (by simp) (fun u58 hgB=>?_)
  have N59:=Hd (N57.out.grow hgB)
  clear hgB N57
  refine EAll.pure rfl rfl (.pointer (some ⟨xc,0,none⟩)) (fun u=>by kernel_rfl) ⟨_,_,N59.out⟩ ?_ EAll.nil
  try simp only [Act.put,s_,t_,u_,v_,x_,y_]
  refine ready_E (rs:=[20]) (by kernel_rfl) (by simp) (fun u60 hgB=>?_)
  have N61:=Hd (N59.out.grow hgB)
  clear hgB N59
  refine EAll.pure rfl rfl (.pointer (some ⟨xc,0,none⟩)) (fun u=>by kernel_rfl) ⟨_,_,N61.out⟩ ?_ EAll.nil
  try simp only [Act.put,s_,t_,u_,v_,x_,y_]
  refine ready_E (rs:=[21]) (by kernel_rfl) (by simp) (fun u62 hgB=>?_)
  have N63:=Hd (N61.out.grow hgB)
  clear hgB N61
  refine EAll.pure rfl rfl (.pointer (some ⟨xc,57,none⟩)) (fun u=>by kernel_rfl) ⟨_,_,N63.out⟩ ?_ EAll.nil
  try simp only [Act.put,s_,t_,u_,v_,x_,y_]
  refine ready_E (rs:=[22]) (by kernel_rfl) (by simp) (fun u64 hgB=>?_)
  have N65:=Hd (N63.out.grow hgB)
  clear hgB N63
  refine EAll.cons rfl (fun K hK=>?_) EAll.nil
  refine step_cg_size rfl 3 (.tmp 96) (.tmp 90) rfl xc 57 (by kernel_rfl) _ #[.int .i64 (k:Int)] (nc cu.p) (nc cu.a) (nc cu.b) (nc cu.n) (ptc cu.gx cu.gy false) #[.int .i64 (bl cu.n)] #[.bool false] #[.pointer (some ⟨f,0,none⟩)] (nc 0) _ (#[.int .i64 cu.size]) (by kernel_rfl) (N65.out.at 1 rfl) (by simp [nS,pS]) rfl (by kernel_rfl) (by intro u hu; simp at hu; subst hu; rfl) (fun u66 hw hb hs=>?_)
  have N67:=Hd (N65.out.store 1 rfl hb hs hw)
  refine hK _ _ ⟨_,_,N67.out⟩ ?_
  clear hK hw hb hs N65
  try simp only [Act.put,s_,t_,u_,v_,x_,y_]
  refine done_E (by kernel_rfl) (fun u68 hgB=>?_)
  have N69:=Hd (N67.out.grow hgB)
  clear hgB N67
  try simp only [Act.put,s_,t_,u_,v_,x_,y_]
  go_upto_region 12 with (fail)
  rcases leg_cases k cu.legacy HLG.out with ⟨hk,hlv⟩ | ⟨hk,hk7,hlv⟩ | ⟨hk,hk7,hlv⟩
  ·have HLV:=Hd hlv
   clear hlv
   refine wp_region_lit ?_
   refine pK (.pointer (some ⟨xc,0,none⟩)) ?_
   refine pK (.int .i64 (k:Int)) ?_
   try simp only [Act.put,s_,t_,u_,v_,x_,y_]
   refine pL rfl (.bool true) (fun u=>by first | (go_simp; done) | (go_simp; omega)) ?_
   refine pK (.bool true) ?_
   try simp only [Act.put,s_,t_,u_,v_,x_,y_]
   refine wpList_skipL rfl ?_
   try simp only [Act.put,s_,t_,u_,v_,x_,y_]
   refine wpList_skipL rfl ?_
   refine pK (.bool true) ?_
   refine pK (.pointer (some ⟨xc,0,none⟩)) ?_
   refine pK (.pointer (some ⟨xc,0,none⟩)) ?_
   refine pK (.pointer (some ⟨xc,58,none⟩)) ?_
   refine list_cg_lg rfl 4 (.tmp 106) (.tmp 103) rfl xc 58 (by kernel_rfl) _ #[.int .i64 (k:Int)] (nc cu.p) (nc cu.a) (nc cu.b) (nc cu.n) (ptc cu.gx cu.gy false) #[.int .i64 (bl cu.n)] #[.int .i64 cu.size] #[.pointer (some ⟨f,0,none⟩)] (nc 0) _ (#[.bool true]) (by kernel_rfl) (N69.out.at 1 rfl) (by simp [nS,pS]) rfl (by kernel_rfl) (by intro u hu; simp at hu; subst hu; rfl) (fun u12 hw hb hs=>?_)
   have N12:=Hd (N69.out.store 1 rfl hb hs hw)
   clear hw hb hs N69
   refine wpList_nil ?_
   try simp only [Act.put,s_,t_,u_,v_,x_,y_]
   go_upto_region 13 with (fail)
   have D70:=Hd (N12.out.drew)
   clear N12
   refine wp_region_cls (C:=(fun u=>∃ Sb3:Array Value,Mem wf u [(xr,rc k,137),(xc,cgA #[.int .i64 (k:Int)] (nc cu.p) (nc cu.a) (nc cu.b) (nc cu.n) (ptc cu.gx cu.gy false) #[.int .i64 (bl cu.n)] #[.int .i64 cu.size] #[.bool true] #[.pointer (some ⟨f,0,none⟩)] Sb3,87)])) (fun u v hu hg=>by obtain ⟨Sb3,m⟩:=hu; exact ⟨Sb3,m.grow hg⟩) [0,1,2,3,4,5,6,7,8,9,10,11,12,13,14,15,16,17,18,19,20,21] ⟨_,D70.out⟩ (by kernel_rfl) (by kernel_rfl) (fun d v c a w h=>by cases d <;> exact h) ?_
   simp only [pickOps,List.filterMap_cons,List.filterMap_nil,List.getElem?_cons_succ,List.getElem?_cons_zero]
   refine eK (.pointer (some ⟨xc,0,none⟩)) ?_
   refine eK (.pointer (some ⟨f,0,none⟩)) ?_
   refine eK (.pointer (some ⟨f,0,none⟩)) ?_
   refine eK (.pointer (some ⟨xc,0,none⟩)) ?_
   refine eK (.pointer (some ⟨xc,0,none⟩)) ?_
   refine eK (.pointer (some ⟨xc,0,none⟩)) ?_
   refine eK (.pointer (some ⟨xc,19,none⟩)) ?_
   refine wpE_loadN rfl (.tmp 113) rfl xc 19 (by kernel_rfl) cu.b (fun u hu=>by obtain ⟨Sb3,m⟩:=hu; exact ⟨_,_,_,m.at 1 rfl,fun j hj=>(get_cg_b #[.int .i64 (k:Int)] (nc cu.p) (nc cu.a) (nc cu.n) (ptc cu.gx cu.gy false) #[.int .i64 (bl cu.n)] #[.int .i64 cu.size] #[.bool true] #[.pointer (some ⟨f,0,none⟩)] Sb3 _ (by simp [nS,pS]) (by rw [nS]; exact hj)).trans (nc_get _ _ hj)⟩) ?_
   refine eK (.pointer (some ⟨xc,0,none⟩)) ?_
   refine eK (.pointer (some ⟨xc,0,none⟩)) ?_
   refine eK (.pointer (some ⟨xc,0,none⟩)) ?_
   refine eK (.pointer (some ⟨xc,19,none⟩)) ?_
   refine wpE_loadN rfl (.tmp 118) rfl xc 19 (by kernel_rfl) cu.b (fun u hu=>by obtain ⟨Sb3,m⟩:=hu; exact ⟨_,_,_,m.at 1 rfl,fun j hj=>(get_cg_b #[.int .i64 (k:Int)] (nc cu.p) (nc cu.a) (nc cu.n) (ptc cu.gx cu.gy false) #[.int .i64 (bl cu.n)] #[.int .i64 cu.size] #[.bool true] #[.pointer (some ⟨f,0,none⟩)] Sb3 _ (by simp [nS,pS]) (by rw [nS]; exact hj)).trans (nc_get _ _ hj)⟩) ?_
   refine wpE_fn rfl _ _ _ _ rfl #[] #[.pointer (some ⟨f,0,none⟩),.agg (nc cu.b),.agg (nc cu.b)] (by kernel_rfl) (by kernel_rfl) (fun u=>cE _ _ _ _ u Tryz.func73 (by kernel_rfl) (by kernel_rfl)) (.agg (nc (fad cu.p cu.b cu.b))) (fun u hu=>by obtain ⟨Sb3,m⟩:=hu; exact field_add f cu.p d cu.b cu.b u (HK.out.2.2.1) (HK.out.2.2.1) (HF.out.up m.1)) ?_
   refine eK (.pointer (some ⟨xc,0,none⟩)) ?_
   refine eK (.pointer (some ⟨xc,0,none⟩)) ?_
   refine eK (.pointer (some ⟨xc,0,none⟩)) ?_
   refine eK (.pointer (some ⟨xc,19,none⟩)) ?_
   refine wpE_loadN rfl (.tmp 124) rfl xc 19 (by kernel_rfl) cu.b (fun u hu=>by obtain ⟨Sb3,m⟩:=hu; exact ⟨_,_,_,m.at 1 rfl,fun j hj=>(get_cg_b #[.int .i64 (k:Int)] (nc cu.p) (nc cu.a) (nc cu.n) (ptc cu.gx cu.gy false) #[.int .i64 (bl cu.n)] #[.int .i64 cu.size] #[.bool true] #[.pointer (some ⟨f,0,none⟩)] Sb3 _ (by simp [nS,pS]) (by rw [nS]; exact hj)).trans (nc_get _ _ hj)⟩) ?_
   refine wpE_fn rfl _ _ _ _ rfl #[] #[.pointer (some ⟨f,0,none⟩),.agg (nc (fad cu.p cu.b cu.b)),.agg (nc cu.b)] (by kernel_rfl) (by kernel_rfl) (fun u=>cE _ _ _ _ u Tryz.func73 (by kernel_rfl) (by kernel_rfl)) (.agg (nc (fad cu.p (fad cu.p cu.b cu.b) cu.b))) (fun u hu=>by obtain ⟨Sb3,m⟩:=hu; exact field_add f cu.p d (fad cu.p cu.b cu.b) cu.b u (fad_lt _ _ HK.out.1) (HK.out.2.2.1) (HF.out.up m.1)) ?_
   refine eK (.pointer (some ⟨xc,0,none⟩)) ?_
   refine eK (.pointer (some ⟨xc,60,none⟩)) ?_
   refine wpE_nil ?_
   try simp only [Act.put,s_,t_,u_,v_,x_,y_]
   refine ready_E (rs:=[22]) (by kernel_rfl) (by simp) (fun u71 hgB=>?_)
   have N72:=Hd (D70.out.grow hgB)
   clear hgB D70
   refine EAll.cons rfl (fun K hK=>?_) EAll.nil
   refine step_cg_b3 rfl 27 (.tmp 128) (.tmp 126) rfl xc 60 (by kernel_rfl) _ #[.int .i64 (k:Int)] (nc cu.p) (nc cu.a) (nc cu.b) (nc cu.n) (ptc cu.gx cu.gy false) #[.int .i64 (bl cu.n)] #[.int .i64 cu.size] #[.bool true] #[.pointer (some ⟨f,0,none⟩)] _ (nc (fad cu.p (fad cu.p cu.b cu.b) cu.b)) (by kernel_rfl) (N72.out.at 1 rfl) (by simp [nS,pS]) (by simp only [nS]) (by rw [nS]; kernel_rfl) (nO _) (fun u73 hw hb hs=>?_)
   have N74:=Hd (N72.out.store 1 rfl hb hs hw)
   refine hK _ _ ⟨_,N74.out⟩ ?_
   clear hK hw hb hs N72
   try simp only [Act.put,s_,t_,u_,v_,x_,y_]
   refine done_E (by kernel_rfl) (fun u75 hgB=>?_)
   have N76:=Hd (N74.out.grow hgB)
   clear hgB N74
   try simp only [Act.put,s_,t_,u_,v_,x_,y_]
   go_upto_region 14 with (fail)
   refine wp_region_lit ?_
   refine pK (.pointer (some ⟨xc,0,none⟩)) ?_
   refine pK (.pointer (some ⟨xc,0,none⟩)) ?_
   refine wpList_nil ?_
   try simp only [Act.put,s_,t_,u_,v_,x_,y_]
   go_wp2_with (fail)
   go_ret
   exact ⟨xc,rfl,⟨f,d,HK.out,HF.out.up N76.out.1,by have h:=N76.out.at 1 rfl; rw [← cg_cuc cu f,HID.out,HLV.out]; exact h⟩,Nat.le_trans HFW.out.size (N76.out.ge 1 rfl),gT _ _ _ HFW.out N76.out.1⟩
  ·have HLV:=Hd hlv
   clear hlv
   refine wp_region_lit ?_
   refine pK (.pointer (some ⟨xc,0,none⟩)) ?_
   refine pK (.int .i64 (k:Int)) ?_
   try simp only [Act.put,s_,t_,u_,v_,x_,y_]
   refine pL rfl (.bool false) (fun u=>by first | (go_simp; done) | (go_simp; omega)) ?_
   refine pK (.bool false) ?_
   try simp only [Act.put,s_,t_,u_,v_,x_,y_]
   refine wL rfl (.int .i64 (k:Int)) (fun u=>by kernel_rfl) ?_
   try simp only [Act.put,s_,t_,u_,v_,x_,y_]
   refine wL rfl (.bool true) (fun u=>by first | (go_simp; done) | (go_simp; omega)) ?_
   refine pK (.bool true) ?_
   refine pK (.pointer (some ⟨xc,0,none⟩)) ?_
   refine pK (.pointer (some ⟨xc,0,none⟩)) ?_
   refine pK (.pointer (some ⟨xc,58,none⟩)) ?_
   refine list_cg_lg rfl 4 (.tmp 106) (.tmp 103) rfl xc 58 (by kernel_rfl) _ #[.int .i64 (k:Int)] (nc cu.p) (nc cu.a) (nc cu.b) (nc cu.n) (ptc cu.gx cu.gy false) #[.int .i64 (bl cu.n)] #[.int .i64 cu.size] #[.pointer (some ⟨f,0,none⟩)] (nc 0) _ (#[.bool true]) (by kernel_rfl) (N69.out.at 1 rfl) (by simp [nS,pS]) rfl (by kernel_rfl) (by intro u hu; simp at hu; subst hu; rfl) (fun u12 hw hb hs=>?_)
   have N12:=Hd (N69.out.store 1 rfl hb hs hw)
   clear hw hb hs N69
   refine wpList_nil ?_
   try simp only [Act.put,s_,t_,u_,v_,x_,y_]
   go_upto_region 13 with (fail)
   have D70:=Hd (N12.out.drew)
   clear N12
   refine wp_region_cls (C:=(fun u=>∃ Sb3:Array Value,Mem wf u [(xr,rc k,137),(xc,cgA #[.int .i64 (k:Int)] (nc cu.p) (nc cu.a) (nc cu.b) (nc cu.n) (ptc cu.gx cu.gy false) #[.int .i64 (bl cu.n)] #[.int .i64 cu.size] #[.bool true] #[.pointer (some ⟨f,0,none⟩)] Sb3,87)])) (fun u v hu hg=>by obtain ⟨Sb3,m⟩:=hu; exact ⟨Sb3,m.grow hg⟩) [0,1,2,3,4,5,6,7,8,9,10,11,12,13,14,15,16,17,18,19,20,21] ⟨_,D70.out⟩ (by kernel_rfl) (by kernel_rfl) (fun d v c a w h=>by cases d <;> exact h) ?_
   simp only [pickOps,List.filterMap_cons,List.filterMap_nil,List.getElem?_cons_succ,List.getElem?_cons_zero]
   refine eK (.pointer (some ⟨xc,0,none⟩)) ?_
   refine eK (.pointer (some ⟨f,0,none⟩)) ?_
   refine eK (.pointer (some ⟨f,0,none⟩)) ?_
   refine eK (.pointer (some ⟨xc,0,none⟩)) ?_
   refine eK (.pointer (some ⟨xc,0,none⟩)) ?_
   refine eK (.pointer (some ⟨xc,0,none⟩)) ?_
   refine eK (.pointer (some ⟨xc,19,none⟩)) ?_
   refine wpE_loadN rfl (.tmp 113) rfl xc 19 (by kernel_rfl) cu.b (fun u hu=>by obtain ⟨Sb3,m⟩:=hu; exact ⟨_,_,_,m.at 1 rfl,fun j hj=>(get_cg_b #[.int .i64 (k:Int)] (nc cu.p) (nc cu.a) (nc cu.n) (ptc cu.gx cu.gy false) #[.int .i64 (bl cu.n)] #[.int .i64 cu.size] #[.bool true] #[.pointer (some ⟨f,0,none⟩)] Sb3 _ (by simp [nS,pS]) (by rw [nS]; exact hj)).trans (nc_get _ _ hj)⟩) ?_
   refine eK (.pointer (some ⟨xc,0,none⟩)) ?_
   refine eK (.pointer (some ⟨xc,0,none⟩)) ?_
   refine eK (.pointer (some ⟨xc,0,none⟩)) ?_
   refine eK (.pointer (some ⟨xc,19,none⟩)) ?_
   refine wpE_loadN rfl (.tmp 118) rfl xc 19 (by kernel_rfl) cu.b (fun u hu=>by obtain ⟨Sb3,m⟩:=hu; exact ⟨_,_,_,m.at 1 rfl,fun j hj=>(get_cg_b #[.int .i64 (k:Int)] (nc cu.p) (nc cu.a) (nc cu.n) (ptc cu.gx cu.gy false) #[.int .i64 (bl cu.n)] #[.int .i64 cu.size] #[.bool true] #[.pointer (some ⟨f,0,none⟩)] Sb3 _ (by simp [nS,pS]) (by rw [nS]; exact hj)).trans (nc_get _ _ hj)⟩) ?_
   refine wpE_fn rfl _ _ _ _ rfl #[] #[.pointer (some ⟨f,0,none⟩),.agg (nc cu.b),.agg (nc cu.b)] (by kernel_rfl) (by kernel_rfl) (fun u=>cE _ _ _ _ u Tryz.func73 (by kernel_rfl) (by kernel_rfl)) (.agg (nc (fad cu.p cu.b cu.b))) (fun u hu=>by obtain ⟨Sb3,m⟩:=hu; exact field_add f cu.p d cu.b cu.b u (HK.out.2.2.1) (HK.out.2.2.1) (HF.out.up m.1)) ?_
   refine eK (.pointer (some ⟨xc,0,none⟩)) ?_
   refine eK (.pointer (some ⟨xc,0,none⟩)) ?_
   refine eK (.pointer (some ⟨xc,0,none⟩)) ?_
   refine eK (.pointer (some ⟨xc,19,none⟩)) ?_
   refine wpE_loadN rfl (.tmp 124) rfl xc 19 (by kernel_rfl) cu.b (fun u hu=>by obtain ⟨Sb3,m⟩:=hu; exact ⟨_,_,_,m.at 1 rfl,fun j hj=>(get_cg_b #[.int .i64 (k:Int)] (nc cu.p) (nc cu.a) (nc cu.n) (ptc cu.gx cu.gy false) #[.int .i64 (bl cu.n)] #[.int .i64 cu.size] #[.bool true] #[.pointer (some ⟨f,0,none⟩)] Sb3 _ (by simp [nS,pS]) (by rw [nS]; exact hj)).trans (nc_get _ _ hj)⟩) ?_
   refine wpE_fn rfl _ _ _ _ rfl #[] #[.pointer (some ⟨f,0,none⟩),.agg (nc (fad cu.p cu.b cu.b)),.agg (nc cu.b)] (by kernel_rfl) (by kernel_rfl) (fun u=>cE _ _ _ _ u Tryz.func73 (by kernel_rfl) (by kernel_rfl)) (.agg (nc (fad cu.p (fad cu.p cu.b cu.b) cu.b))) (fun u hu=>by obtain ⟨Sb3,m⟩:=hu; exact field_add f cu.p d (fad cu.p cu.b cu.b) cu.b u (fad_lt _ _ HK.out.1) (HK.out.2.2.1) (HF.out.up m.1)) ?_
   refine eK (.pointer (some ⟨xc,0,none⟩)) ?_
   refine eK (.pointer (some ⟨xc,60,none⟩)) ?_
   refine wpE_nil ?_
   try simp only [Act.put,s_,t_,u_,v_,x_,y_]
   refine ready_E (rs:=[22]) (by kernel_rfl) (by simp) (fun u71 hgB=>?_)
   have N72:=Hd (D70.out.grow hgB)
   clear hgB D70
   refine EAll.cons rfl (fun K hK=>?_) EAll.nil
   refine step_cg_b3 rfl 27 (.tmp 128) (.tmp 126) rfl xc 60 (by kernel_rfl) _ #[.int .i64 (k:Int)] (nc cu.p) (nc cu.a) (nc cu.b) (nc cu.n) (ptc cu.gx cu.gy false) #[.int .i64 (bl cu.n)] #[.int .i64 cu.size] #[.bool true] #[.pointer (some ⟨f,0,none⟩)] _ (nc (fad cu.p (fad cu.p cu.b cu.b) cu.b)) (by kernel_rfl) (N72.out.at 1 rfl) (by simp [nS,pS]) (by simp only [nS]) (by rw [nS]; kernel_rfl) (nO _) (fun u73 hw hb hs=>?_)
   have N74:=Hd (N72.out.store 1 rfl hb hs hw)
   refine hK _ _ ⟨_,N74.out⟩ ?_
   clear hK hw hb hs N72
   try simp only [Act.put,s_,t_,u_,v_,x_,y_]
   refine done_E (by kernel_rfl) (fun u75 hgB=>?_)
   have N76:=Hd (N74.out.grow hgB)
   clear hgB N74
   try simp only [Act.put,s_,t_,u_,v_,x_,y_]
   go_upto_region 14 with (fail)
   refine wp_region_lit ?_
   refine pK (.pointer (some ⟨xc,0,none⟩)) ?_
   refine pK (.pointer (some ⟨xc,0,none⟩)) ?_
   refine wpList_nil ?_
   try simp only [Act.put,s_,t_,u_,v_,x_,y_]
   go_wp2_with (fail)
   go_ret
   exact ⟨xc,rfl,⟨f,d,HK.out,HF.out.up N76.out.1,by have h:=N76.out.at 1 rfl; rw [← cg_cuc cu f,HID.out,HLV.out]; exact h⟩,Nat.le_trans HFW.out.size (N76.out.ge 1 rfl),gT _ _ _ HFW.out N76.out.1⟩
  ·have HLV:=Hd hlv
   clear hlv
   refine wp_region_lit ?_
   refine pK (.pointer (some ⟨xc,0,none⟩)) ?_
   refine pK (.int .i64 (k:Int)) ?_
   try simp only [Act.put,s_,t_,u_,v_,x_,y_]
   refine pL rfl (.bool false) (fun u=>by first | (go_simp; done) | (go_simp; omega)) ?_
   refine pK (.bool false) ?_
   try simp only [Act.put,s_,t_,u_,v_,x_,y_]
   refine wL rfl (.int .i64 (k:Int)) (fun u=>by kernel_rfl) ?_
   try simp only [Act.put,s_,t_,u_,v_,x_,y_]
   refine wL rfl (.bool false) (fun u=>by first | (go_simp; done) | (go_simp; omega)) ?_
   refine pK (.bool false) ?_
   refine pK (.pointer (some ⟨xc,0,none⟩)) ?_
   refine pK (.pointer (some ⟨xc,0,none⟩)) ?_
   refine pK (.pointer (some ⟨xc,58,none⟩)) ?_
   refine list_cg_lg rfl 4 (.tmp 106) (.tmp 103) rfl xc 58 (by kernel_rfl) _ #[.int .i64 (k:Int)] (nc cu.p) (nc cu.a) (nc cu.b) (nc cu.n) (ptc cu.gx cu.gy false) #[.int .i64 (bl cu.n)] #[.int .i64 cu.size] #[.pointer (some ⟨f,0,none⟩)] (nc 0) _ (#[.bool false]) (by kernel_rfl) (N69.out.at 1 rfl) (by simp [nS,pS]) rfl (by kernel_rfl) (by intro u hu; simp at hu; subst hu; rfl) (fun u12 hw hb hs=>?_)
   have N12:=Hd (N69.out.store 1 rfl hb hs hw)
   clear hw hb hs N69
   refine wpList_nil ?_
   try simp only [Act.put,s_,t_,u_,v_,x_,y_]
   go_upto_region 13 with (fail)
   have D70:=Hd (N12.out.drew)
   clear N12
   refine wp_region_cls (C:=(fun u=>∃ Sb3:Array Value,Mem wf u [(xr,rc k,137),(xc,cgA #[.int .i64 (k:Int)] (nc cu.p) (nc cu.a) (nc cu.b) (nc cu.n) (ptc cu.gx cu.gy false) #[.int .i64 (bl cu.n)] #[.int .i64 cu.size] #[.bool false] #[.pointer (some ⟨f,0,none⟩)] Sb3,87)])) (fun u v hu hg=>by obtain ⟨Sb3,m⟩:=hu; exact ⟨Sb3,m.grow hg⟩) [0,1,2,3,4,5,6,7,8,9,10,11,12,13,14,15,16,17,18,19,20,21] ⟨_,D70.out⟩ (by kernel_rfl) (by kernel_rfl) (fun d v c a w h=>by cases d <;> exact h) ?_
   simp only [pickOps,List.filterMap_cons,List.filterMap_nil,List.getElem?_cons_succ,List.getElem?_cons_zero]
   refine eK (.pointer (some ⟨xc,0,none⟩)) ?_
   refine eK (.pointer (some ⟨f,0,none⟩)) ?_
   refine eK (.pointer (some ⟨f,0,none⟩)) ?_
   refine eK (.pointer (some ⟨xc,0,none⟩)) ?_
   refine eK (.pointer (some ⟨xc,0,none⟩)) ?_
   refine eK (.pointer (some ⟨xc,0,none⟩)) ?_
   refine eK (.pointer (some ⟨xc,19,none⟩)) ?_
   refine wpE_loadN rfl (.tmp 113) rfl xc 19 (by kernel_rfl) cu.b (fun u hu=>by obtain ⟨Sb3,m⟩:=hu; exact ⟨_,_,_,m.at 1 rfl,fun j hj=>(get_cg_b #[.int .i64 (k:Int)] (nc cu.p) (nc cu.a) (nc cu.n) (ptc cu.gx cu.gy false) #[.int .i64 (bl cu.n)] #[.int .i64 cu.size] #[.bool false] #[.pointer (some ⟨f,0,none⟩)] Sb3 _ (by simp [nS,pS]) (by rw [nS]; exact hj)).trans (nc_get _ _ hj)⟩) ?_
   refine eK (.pointer (some ⟨xc,0,none⟩)) ?_
   refine eK (.pointer (some ⟨xc,0,none⟩)) ?_
   refine eK (.pointer (some ⟨xc,0,none⟩)) ?_
   refine eK (.pointer (some ⟨xc,19,none⟩)) ?_
   refine wpE_loadN rfl (.tmp 118) rfl xc 19 (by kernel_rfl) cu.b (fun u hu=>by obtain ⟨Sb3,m⟩:=hu; exact ⟨_,_,_,m.at 1 rfl,fun j hj=>(get_cg_b #[.int .i64 (k:Int)] (nc cu.p) (nc cu.a) (nc cu.n) (ptc cu.gx cu.gy false) #[.int .i64 (bl cu.n)] #[.int .i64 cu.size] #[.bool false] #[.pointer (some ⟨f,0,none⟩)] Sb3 _ (by simp [nS,pS]) (by rw [nS]; exact hj)).trans (nc_get _ _ hj)⟩) ?_
   refine wpE_fn rfl _ _ _ _ rfl #[] #[.pointer (some ⟨f,0,none⟩),.agg (nc cu.b),.agg (nc cu.b)] (by kernel_rfl) (by kernel_rfl) (fun u=>cE _ _ _ _ u Tryz.func73 (by kernel_rfl) (by kernel_rfl)) (.agg (nc (fad cu.p cu.b cu.b))) (fun u hu=>by obtain ⟨Sb3,m⟩:=hu; exact field_add f cu.p d cu.b cu.b u (HK.out.2.2.1) (HK.out.2.2.1) (HF.out.up m.1)) ?_
   refine eK (.pointer (some ⟨xc,0,none⟩)) ?_
   refine eK (.pointer (some ⟨xc,0,none⟩)) ?_
   refine eK (.pointer (some ⟨xc,0,none⟩)) ?_
   refine eK (.pointer (some ⟨xc,19,none⟩)) ?_
   refine wpE_loadN rfl (.tmp 124) rfl xc 19 (by kernel_rfl) cu.b (fun u hu=>by obtain ⟨Sb3,m⟩:=hu; exact ⟨_,_,_,m.at 1 rfl,fun j hj=>(get_cg_b #[.int .i64 (k:Int)] (nc cu.p) (nc cu.a) (nc cu.n) (ptc cu.gx cu.gy false) #[.int .i64 (bl cu.n)] #[.int .i64 cu.size] #[.bool false] #[.pointer (some ⟨f,0,none⟩)] Sb3 _ (by simp [nS,pS]) (by rw [nS]; exact hj)).trans (nc_get _ _ hj)⟩) ?_
   refine wpE_fn rfl _ _ _ _ rfl #[] #[.pointer (some ⟨f,0,none⟩),.agg (nc (fad cu.p cu.b cu.b)),.agg (nc cu.b)] (by kernel_rfl) (by kernel_rfl) (fun u=>cE _ _ _ _ u Tryz.func73 (by kernel_rfl) (by kernel_rfl)) (.agg (nc (fad cu.p (fad cu.p cu.b cu.b) cu.b))) (fun u hu=>by obtain ⟨Sb3,m⟩:=hu; exact field_add f cu.p d (fad cu.p cu.b cu.b) cu.b u (fad_lt _ _ HK.out.1) (HK.out.2.2.1) (HF.out.up m.1)) ?_
   refine eK (.pointer (some ⟨xc,0,none⟩)) ?_
   refine eK (.pointer (some ⟨xc,60,none⟩)) ?_
   refine wpE_nil ?_
   try simp only [Act.put,s_,t_,u_,v_,x_,y_]
   refine ready_E (rs:=[22]) (by kernel_rfl) (by simp) (fun u71 hgB=>?_)
   have N72:=Hd (D70.out.grow hgB)
   clear hgB D70
   refine EAll.cons rfl (fun K hK=>?_) EAll.nil
   refine step_cg_b3 rfl 27 (.tmp 128) (.tmp 126) rfl xc 60 (by kernel_rfl) _ #[.int .i64 (k:Int)] (nc cu.p) (nc cu.a) (nc cu.b) (nc cu.n) (ptc cu.gx cu.gy false) #[.int .i64 (bl cu.n)] #[.int .i64 cu.size] #[.bool false] #[.pointer (some ⟨f,0,none⟩)] _ (nc (fad cu.p (fad cu.p cu.b cu.b) cu.b)) (by kernel_rfl) (N72.out.at 1 rfl) (by simp [nS,pS]) (by simp only [nS]) (by rw [nS]; kernel_rfl) (nO _) (fun u73 hw hb hs=>?_)
   have N74:=Hd (N72.out.store 1 rfl hb hs hw)
   refine hK _ _ ⟨_,N74.out⟩ ?_
   clear hK hw hb hs N72
   try simp only [Act.put,s_,t_,u_,v_,x_,y_]
   refine done_E (by kernel_rfl) (fun u75 hgB=>?_)
   have N76:=Hd (N74.out.grow hgB)
   clear hgB N74
   try simp only [Act.put,s_,t_,u_,v_,x_,y_]
   go_upto_region 14 with (fail)
   refine wp_region_lit ?_
   refine pK (.pointer (some ⟨xc,0,none⟩)) ?_
   refine pK (.pointer (some ⟨xc,0,none⟩)) ?_
   refine wpList_nil ?_
   try simp only [Act.put,s_,t_,u_,v_,x_,y_]
   go_wp2_with (fail)
   go_ret
   exact ⟨xc,rfl,⟨f,d,HK.out,HF.out.up N76.out.1,by have h:=N76.out.at 1 rfl; rw [← cg_cuc cu f,HID.out,HLV.out]; exact h⟩,Nat.le_trans HFW.out.size (N76.out.ge 1 rfl),gT _ _ _ HFW.out N76.out.1⟩
 ·have HA3:=Hd (astr_list hk1 hk15 hl)
  have HAA:=Hd (fun u=>(hca ▸ field_hex (astr k) u (good_of hga).1 (good_of hga).2:Calls Tryz.prog 71 #[.string (astr k)] u fun e w'=>e=.returned (.agg (nc cu.a))∧Below u.heap.size u w'))
  go_upto_region 7 with (fail)
  refine wp_region_lit ?_
  refine pK (.pointer (some ⟨xr,0,none⟩)) ?_
  refine lC rfl 9 (.tmp 42) rfl xr 0 (by kernel_rfl) (.string (astr k)) _ Tryz.underlying9 rfl ((cO (N38.out.at 0 rfl) 0).trans (rfl)) ?_
  try simp only [Act.put,s_,t_,u_,v_,x_,y_]
  refine pL rfl (.bool false) (fun u=>by go_simp; exact HA3.out) ?_
  refine wpList_nil ?_
  try simp only [Act.put,s_,t_,u_,v_,x_,y_]
  go_upto_region 9 with (fail)
  refine wp_region_lit ?_
  refine pK (.pointer (some ⟨xc,0,none⟩)) ?_
  refine pK (.pointer (some ⟨xr,0,none⟩)) ?_
  refine lC rfl 9 (.tmp 59) rfl xr 0 (by kernel_rfl) (.string (astr k)) _ Tryz.underlying9 rfl ((cO (N38.out.at 0 rfl) 0).trans (rfl)) ?_
  refine fL rfl 71 (.func 71) #[.tmp 60] #[9] rfl #[] #[.string (astr k)] (by kernel_rfl) (by kernel_rfl) (fun u=>cE _ _ _ _ u Tryz.func71 (by kernel_rfl) (by kernel_rfl)) (.agg (nc cu.a)) (HAA.out _) (fun w39 hb=>?_)
  have Nw39:=Hd (N38.out.grow hb)
  clear hb N38
  refine pK (.pointer (some ⟨xc,0,none⟩)) ?_
  refine pK (.pointer (some ⟨xc,0,none⟩)) ?_
  refine pK (.pointer (some ⟨xc,10,none⟩)) ?_
  refine list_cg_a rfl 27 (.tmp 64) (.tmp 61) rfl xc 10 (by kernel_rfl) _ #[.int .i64 (k:Int)] (nc cu.p) (nc cu.b) (nc cu.n) (ptc 0 0 false) #[.int .i64 0] #[.int .i64 0] #[.bool false] #[.pointer (some ⟨f,0,none⟩)] (nc 0) _ (nc cu.a) (by kernel_rfl) (Nw39.out.at 1 rfl) (by simp [nS,pS]) (by simp only [nS]) (by rw [nS]; kernel_rfl) (nO _) (fun u40 hw hb hs=>?_)
  have N41:=Hd (Nw39.out.store 1 rfl hb hs hw)
  clear hw hb hs Nw39
  refine wpList_nil ?_
  try simp only [Act.put,s_,t_,u_,v_,x_,y_]
  go_upto_region 10 with (fail)
  have D42:=Hd (N41.out.drew)
  clear N41
  refine wp_region_cls (C:=(fun u=>∃ Sg:Array Value,Mem wf u [(xr,rc k,137),(xc,cgA #[.int .i64 (k:Int)] (nc cu.p) (nc cu.a) (nc cu.b) (nc cu.n) Sg #[.int .i64 0] #[.int .i64 0] #[.bool false] #[.pointer (some ⟨f,0,none⟩)] (nc 0),87)])) (fun u v hu hg=>by obtain ⟨Sg,m⟩:=hu; exact ⟨Sg,m.grow hg⟩) [0,1,2,3,4,5,6,7,8,9,10] ⟨_,D42.out⟩ (by kernel_rfl) (by kernel_rfl) (fun d v c a w h=>by cases d <;> exact h) ?_
  simp only [pickOps,List.filterMap_cons,List.filterMap_nil,List.getElem?_cons_succ,List.getElem?_cons_zero]
  refine eK (.pointer (some ⟨xc,0,none⟩)) ?_
  refine eK (.pointer (some ⟨xr,3,none⟩)) ?_
  refine wpE_load_cell rfl 9 (.tmp 66) rfl xr 3 (by kernel_rfl) (.string (xstr k)) _ Tryz.underlying9 rfl (fun u hu=>by obtain ⟨Sg,m⟩:=hu; exact (cO (m.at 0 rfl) 3).trans (rfl)) ?_
  refine wpE_fn rfl _ _ _ _ rfl #[] #[.string (xstr k)] (by kernel_rfl) (by kernel_rfl) (fun u=>cE _ _ _ _ u Tryz.func71 (by kernel_rfl) (by kernel_rfl)) (.agg (nc cu.gx)) (fun u hu=>by obtain ⟨Sg,m⟩:=hu; exact HX.out u ) ?_
  refine eK (.pointer (some ⟨xr,4,none⟩)) ?_
  refine wpE_load_cell rfl 9 (.tmp 69) rfl xr 4 (by kernel_rfl) (.string (ystr k)) _ Tryz.underlying9 rfl (fun u hu=>by obtain ⟨Sg,m⟩:=hu; exact (cO (m.at 0 rfl) 4).trans (rfl)) ?_
  refine wpE_fn rfl _ _ _ _ rfl #[] #[.string (ystr k)] (by kernel_rfl) (by kernel_rfl) (fun u=>cE _ _ _ _ u Tryz.func71 (by kernel_rfl) (by kernel_rfl)) (.agg (nc cu.gy)) (fun u hu=>by obtain ⟨Sg,m⟩:=hu; exact HY.out u ) ?_
  refine wpE_built rfl 41 #[(0,.tmp 68),(1,.tmp 71)] rfl ((ptc cu.gx cu.gy false)) (by kernel_rfl) ?_
  refine eK (.pointer (some ⟨xc,0,none⟩)) ?_
  refine eK (.pointer (some ⟨xc,0,none⟩)) ?_
  refine eK (.pointer (some ⟨xc,37,none⟩)) ?_
  refine wpE_nil ?_
  try simp only [Act.put,s_,t_,u_,v_,x_,y_]
  refine ready_E (rs:=[11]) (by kernel_rfl) (by simp) (fun u43 hgB=>?_)
  have N44:=Hd (D42.out.grow hgB)
  clear hgB D42
  refine EAll.cons rfl (fun K hK=>?_) EAll.nil
  refine step_cg_g rfl 41 (.tmp 75) (.tmp 72) rfl xc 37 (by kernel_rfl) _ #[.int .i64 (k:Int)] (nc cu.p) (nc cu.a) (nc cu.b) (nc cu.n) #[.int .i64 0] #[.int .i64 0] #[.bool false] #[.pointer (some ⟨f,0,none⟩)] (nc 0) _ (ptc cu.gx cu.gy false) (by kernel_rfl) (N44.out.at 1 rfl) (by simp [nS,pS]) (by simp only [pS]) (by rw [pS]; kernel_rfl) (ptc_one _ _ _) (fun u45 hw hb hs=>?_)
  have N46:=Hd (N44.out.store 1 rfl hb hs hw)
  refine hK _ _ ⟨_,N46.out⟩ ?_
  clear hK hw hb hs N44
  try simp only [Act.put,s_,t_,u_,v_,x_,y_]
  refine done_E (by kernel_rfl) (fun u47 hgB=>?_)
  have N48:=Hd (N46.out.grow hgB)
  clear hgB N46
  try simp only [Act.put,s_,t_,u_,v_,x_,y_]
  have hblp:=bl_le576 cu.p HP9.out
  have HW1:=Hd (show IntKind.i64.wrap ((bl cu.p:Int)+7)=(bl cu.p:Int)+7 from IntWalk.i64_in _ (by omega))
  have hsz:((bl cu.p:Int)+7) / 8=(cu.size:Int):=by unfold Cv.size; omega
  have HW3:=Hd hsz
  have HW2:=Hd (show ((bl cu.p:Int)+7).tdiv 8=(cu.size:Int) by rw [Int.tdiv_eq_ediv_of_nonneg (by omega)]; exact hsz)
  have HW4:=Hd (show IntKind.i64.wrap (cu.size:Int)=(cu.size:Int) from IntWalk.i64_in _ (by omega))
  clear hblp hsz
  go_upto_region 11 with (fail)
  have D49:=Hd (N48.out.drew)
  clear N48
  refine wp_region_cls (C:=(fun u=>∃ Sbits Ssize:Array Value,Mem wf u [(xr,rc k,137),(xc,cgA #[.int .i64 (k:Int)] (nc cu.p) (nc cu.a) (nc cu.b) (nc cu.n) (ptc cu.gx cu.gy false) Sbits Ssize #[.bool false] #[.pointer (some ⟨f,0,none⟩)] (nc 0),87)])) (fun u v hu hg=>by obtain ⟨Sbits,Ssize,m⟩:=hu; exact ⟨Sbits,Ssize,m.grow hg⟩) [0,1,2,3,4,5,6,7,8,9,10,11,12,13,14,15,16,17] ⟨_,_,D49.out⟩ (by kernel_rfl) (by kernel_rfl) (fun d v c a w h=>by cases d <;> exact h) ?_
  simp only [pickOps,List.filterMap_cons,List.filterMap_nil,List.getElem?_cons_succ,List.getElem?_cons_zero]
  refine eK (.pointer (some ⟨xc,0,none⟩)) ?_
  refine eK (.pointer (some ⟨xc,0,none⟩)) ?_
  refine eK (.pointer (some ⟨xc,0,none⟩)) ?_
  refine eK (.pointer (some ⟨xc,0,none⟩)) ?_
  refine eK (.pointer (some ⟨xc,0,none⟩)) ?_
  refine eK (.pointer (some ⟨xc,28,none⟩)) ?_
  refine wpE_loadN rfl (.tmp 81) rfl xc 28 (by kernel_rfl) cu.n (fun u hu=>by obtain ⟨Sbits,Ssize,m⟩:=hu; exact ⟨_,_,_,m.at 1 rfl,fun j hj=>(get_cg_n #[.int .i64 (k:Int)] (nc cu.p) (nc cu.a) (nc cu.b) (ptc cu.gx cu.gy false) Sbits Ssize #[.bool false] #[.pointer (some ⟨f,0,none⟩)] (nc 0) _ (by simp [nS,pS]) (by rw [nS]; exact hj)).trans (nc_get _ _ hj)⟩) ?_
  refine wpE_fn rfl _ _ _ _ rfl #[] #[.agg (nc cu.n)] (by kernel_rfl) (by kernel_rfl) (fun u=>cE _ _ _ _ u Tryz.func72 (by kernel_rfl) (by kernel_rfl)) (.int .i64 (bl cu.n:Int)) (fun u hu=>by obtain ⟨Sbits,Ssize,m⟩:=hu; exact nat_bits cu.n u  HN9.out) ?_
  refine eK (.pointer (some ⟨f,0,none⟩)) ?_
  refine eK (.pointer (some ⟨f,0,none⟩)) ?_
  refine eK (.pointer (some ⟨f,0,none⟩)) ?_
  refine wpE_loadN rfl (.tmp 86) rfl f 0 (by kernel_rfl) cu.p (fun u hu=>by obtain ⟨Sbits,Ssize,m⟩:=hu; exact ⟨_,_,_,grows_at HFB.out m.1,fc_p cu.p d⟩) ?_
  refine wpE_fn rfl _ _ _ _ rfl #[] #[.agg (nc cu.p)] (by kernel_rfl) (by kernel_rfl) (fun u=>cE _ _ _ _ u Tryz.func72 (by kernel_rfl) (by kernel_rfl)) (.int .i64 (bl cu.p:Int)) (fun u hu=>by obtain ⟨Sbits,Ssize,m⟩:=hu; exact nat_bits cu.p u  HP9.out) ?_
  try simp only [Act.put,s_,t_,u_,v_,x_,y_]
  refine pE rfl (.int .i64 ((bl cu.p:Int)+7)) (fun u=>by go_simp; exact HW1.out) ?_
  try simp only [Act.put,s_,t_,u_,v_,x_,y_]
  refine pE rfl (.int .i64 (cu.size:Int)) (fun u=>by go_simp; first | exact HW2.out | exact HW3.out | (rw [HW2.out]; exact HW4.out) | (rw [HW3.out]; exact HW4.out)) ?_
  refine eK (.pointer (some ⟨xc,0,none⟩)) ?_
  refine eK (.pointer (some ⟨xc,0,none⟩)) ?_
  refine eK (.pointer (some ⟨xc,56,none⟩)) ?_
  refine wpE_nil ?_
  try simp only [Act.put,s_,t_,u_,v_,x_,y_]
  refine ready_E (rs:=[18]) (by kernel_rfl) (by simp) (fun u50 hgB=>?_)
  have N51:=Hd (D49.out.grow hgB)
  clear hgB D49
  refine EAll.cons rfl (fun K hK=>?_) EAll.nil
  refine step_cg_bits rfl 3 (.tmp 93) (.tmp 83) rfl xc 56 (by kernel_rfl) _ #[.int .i64 (k:Int)] (nc cu.p) (nc cu.a) (nc cu.b) (nc cu.n) (ptc cu.gx cu.gy false) #[.int .i64 0] #[.bool false] #[.pointer (some ⟨f,0,none⟩)] (nc 0) _ (#[.int .i64 (bl cu.n)]) (by kernel_rfl) (N51.out.at 1 rfl) (by simp [nS,pS]) rfl (by kernel_rfl) (by intro u hu; simp at hu; subst hu; rfl) (fun u52 hw hb hs=>?_)
  have N53:=Hd (N51.out.store 1 rfl hb hs hw)
  refine hK _ _ ⟨_,_,N53.out⟩ ?_
  clear hK hw hb hs N51
  try simp only [Act.put,s_,t_,u_,v_,x_,y_]
  refine ready_E (rs:=[19]) (by kernel_rfl) (by simp) (fun u54 hgB=>?_)
  have N55:=Hd (N53.out.grow hgB)
  clear hgB N53
  refine EAll.pure rfl rfl (.pointer (some ⟨xc,0,none⟩)) (fun u=>by kernel_rfl) ⟨_,_,N55.out⟩ ?_ EAll.nil
  try simp only [Act.put,s_,t_,u_,v_,x_,y_]
  refine ready_E (rs:=[20]) (by kernel_rfl) (by simp) (fun u56 hgB=>?_)
  have N57:=Hd (N55.out.grow hgB)
  clear hgB N55
  refine EAll.pure rfl rfl (.pointer (some ⟨xc,0,none⟩)) (fun u=>by kernel_rfl) ⟨_,_,N57.out⟩ ?_ EAll.nil
  try simp only [Act.put,s_,t_,u_,v_,x_,y_]
  refine ready_E (rs:=[21]) (by kernel_rfl) (by simp) (fun u58 hgB=>?_)
  have N59:=Hd (N57.out.grow hgB)
  clear hgB N57
  refine EAll.pure rfl rfl (.pointer (some ⟨xc,57,none⟩)) (fun u=>by kernel_rfl) ⟨_,_,N59.out⟩ ?_ EAll.nil
  try simp only [Act.put,s_,t_,u_,v_,x_,y_]
  refine ready_E (rs:=[22]) (by kernel_rfl) (by simp) (fun u60 hgB=>?_)
  have N61:=Hd (N59.out.grow hgB)
  clear hgB N59
  refine EAll.cons rfl (fun K hK=>?_) EAll.nil
  refine step_cg_size rfl 3 (.tmp 96) (.tmp 90) rfl xc 57 (by kernel_rfl) _ #[.int .i64 (k:Int)] (nc cu.p) (nc cu.a) (nc cu.b) (nc cu.n) (ptc cu.gx cu.gy false) #[.int .i64 (bl cu.n)] #[.bool false] #[.pointer (some ⟨f,0,none⟩)] (nc 0) _ (#[.int .i64 cu.size]) (by kernel_rfl) (N61.out.at 1 rfl) (by simp [nS,pS]) rfl (by kernel_rfl) (by intro u hu; simp at hu; subst hu; rfl) (fun u62 hw hb hs=>?_)
  have N63:=Hd (N61.out.store 1 rfl hb hs hw)
  refine hK _ _ ⟨_,_,N63.out⟩ ?_
  clear hK hw hb hs N61
  try simp only [Act.put,s_,t_,u_,v_,x_,y_]
  refine done_E (by kernel_rfl) (fun u64 hgB=>?_)
  have N65:=Hd (N63.out.grow hgB)
  clear hgB N63
  try simp only [Act.put,s_,t_,u_,v_,x_,y_]
  go_upto_region 12 with (fail)
  rcases leg_cases k cu.legacy HLG.out with ⟨hk,hlv⟩ | ⟨hk,hk7,hlv⟩ | ⟨hk,hk7,hlv⟩
  ·have HLV:=Hd hlv
   clear hlv
   refine wp_region_lit ?_
   refine pK (.pointer (some ⟨xc,0,none⟩)) ?_
   refine pK (.int .i64 (k:Int)) ?_
   try simp only [Act.put,s_,t_,u_,v_,x_,y_]
   refine pL rfl (.bool true) (fun u=>by first | (go_simp; done) | (go_simp; omega)) ?_
   refine pK (.bool true) ?_
   try simp only [Act.put,s_,t_,u_,v_,x_,y_]
   refine wpList_skipL rfl ?_
   try simp only [Act.put,s_,t_,u_,v_,x_,y_]
   refine wpList_skipL rfl ?_
   refine pK (.bool true) ?_
   refine pK (.pointer (some ⟨xc,0,none⟩)) ?_
   refine pK (.pointer (some ⟨xc,0,none⟩)) ?_
   refine pK (.pointer (some ⟨xc,58,none⟩)) ?_
   refine list_cg_lg rfl 4 (.tmp 106) (.tmp 103) rfl xc 58 (by kernel_rfl) _ #[.int .i64 (k:Int)] (nc cu.p) (nc cu.a) (nc cu.b) (nc cu.n) (ptc cu.gx cu.gy false) #[.int .i64 (bl cu.n)] #[.int .i64 cu.size] #[.pointer (some ⟨f,0,none⟩)] (nc 0) _ (#[.bool true]) (by kernel_rfl) (N65.out.at 1 rfl) (by simp [nS,pS]) rfl (by kernel_rfl) (by intro u hu; simp at hu; subst hu; rfl) (fun u12 hw hb hs=>?_)
   have N12:=Hd (N65.out.store 1 rfl hb hs hw)
   clear hw hb hs N65
   refine wpList_nil ?_
   try simp only [Act.put,s_,t_,u_,v_,x_,y_]
   go_upto_region 13 with (fail)
   have D66:=Hd (N12.out.drew)
   clear N12
   refine wp_region_cls (C:=(fun u=>∃ Sb3:Array Value,Mem wf u [(xr,rc k,137),(xc,cgA #[.int .i64 (k:Int)] (nc cu.p) (nc cu.a) (nc cu.b) (nc cu.n) (ptc cu.gx cu.gy false) #[.int .i64 (bl cu.n)] #[.int .i64 cu.size] #[.bool true] #[.pointer (some ⟨f,0,none⟩)] Sb3,87)])) (fun u v hu hg=>by obtain ⟨Sb3,m⟩:=hu; exact ⟨Sb3,m.grow hg⟩) [0,1,2,3,4,5,6,7,8,9,10,11,12,13,14,15,16,17,18,19,20,21] ⟨_,D66.out⟩ (by kernel_rfl) (by kernel_rfl) (fun d v c a w h=>by cases d <;> exact h) ?_
   simp only [pickOps,List.filterMap_cons,List.filterMap_nil,List.getElem?_cons_succ,List.getElem?_cons_zero]
   refine eK (.pointer (some ⟨xc,0,none⟩)) ?_
   refine eK (.pointer (some ⟨f,0,none⟩)) ?_
   refine eK (.pointer (some ⟨f,0,none⟩)) ?_
   refine eK (.pointer (some ⟨xc,0,none⟩)) ?_
   refine eK (.pointer (some ⟨xc,0,none⟩)) ?_
   refine eK (.pointer (some ⟨xc,0,none⟩)) ?_
   refine eK (.pointer (some ⟨xc,19,none⟩)) ?_
   refine wpE_loadN rfl (.tmp 113) rfl xc 19 (by kernel_rfl) cu.b (fun u hu=>by obtain ⟨Sb3,m⟩:=hu; exact ⟨_,_,_,m.at 1 rfl,fun j hj=>(get_cg_b #[.int .i64 (k:Int)] (nc cu.p) (nc cu.a) (nc cu.n) (ptc cu.gx cu.gy false) #[.int .i64 (bl cu.n)] #[.int .i64 cu.size] #[.bool true] #[.pointer (some ⟨f,0,none⟩)] Sb3 _ (by simp [nS,pS]) (by rw [nS]; exact hj)).trans (nc_get _ _ hj)⟩) ?_
   refine eK (.pointer (some ⟨xc,0,none⟩)) ?_
   refine eK (.pointer (some ⟨xc,0,none⟩)) ?_
   refine eK (.pointer (some ⟨xc,0,none⟩)) ?_
   refine eK (.pointer (some ⟨xc,19,none⟩)) ?_
   refine wpE_loadN rfl (.tmp 118) rfl xc 19 (by kernel_rfl) cu.b (fun u hu=>by obtain ⟨Sb3,m⟩:=hu; exact ⟨_,_,_,m.at 1 rfl,fun j hj=>(get_cg_b #[.int .i64 (k:Int)] (nc cu.p) (nc cu.a) (nc cu.n) (ptc cu.gx cu.gy false) #[.int .i64 (bl cu.n)] #[.int .i64 cu.size] #[.bool true] #[.pointer (some ⟨f,0,none⟩)] Sb3 _ (by simp [nS,pS]) (by rw [nS]; exact hj)).trans (nc_get _ _ hj)⟩) ?_
   refine wpE_fn rfl _ _ _ _ rfl #[] #[.pointer (some ⟨f,0,none⟩),.agg (nc cu.b),.agg (nc cu.b)] (by kernel_rfl) (by kernel_rfl) (fun u=>cE _ _ _ _ u Tryz.func73 (by kernel_rfl) (by kernel_rfl)) (.agg (nc (fad cu.p cu.b cu.b))) (fun u hu=>by obtain ⟨Sb3,m⟩:=hu; exact field_add f cu.p d cu.b cu.b u (HK.out.2.2.1) (HK.out.2.2.1) (HF.out.up m.1)) ?_
   refine eK (.pointer (some ⟨xc,0,none⟩)) ?_
   refine eK (.pointer (some ⟨xc,0,none⟩)) ?_
   refine eK (.pointer (some ⟨xc,0,none⟩)) ?_
   refine eK (.pointer (some ⟨xc,19,none⟩)) ?_
   refine wpE_loadN rfl (.tmp 124) rfl xc 19 (by kernel_rfl) cu.b (fun u hu=>by obtain ⟨Sb3,m⟩:=hu; exact ⟨_,_,_,m.at 1 rfl,fun j hj=>(get_cg_b #[.int .i64 (k:Int)] (nc cu.p) (nc cu.a) (nc cu.n) (ptc cu.gx cu.gy false) #[.int .i64 (bl cu.n)] #[.int .i64 cu.size] #[.bool true] #[.pointer (some ⟨f,0,none⟩)] Sb3 _ (by simp [nS,pS]) (by rw [nS]; exact hj)).trans (nc_get _ _ hj)⟩) ?_
   refine wpE_fn rfl _ _ _ _ rfl #[] #[.pointer (some ⟨f,0,none⟩),.agg (nc (fad cu.p cu.b cu.b)),.agg (nc cu.b)] (by kernel_rfl) (by kernel_rfl) (fun u=>cE _ _ _ _ u Tryz.func73 (by kernel_rfl) (by kernel_rfl)) (.agg (nc (fad cu.p (fad cu.p cu.b cu.b) cu.b))) (fun u hu=>by obtain ⟨Sb3,m⟩:=hu; exact field_add f cu.p d (fad cu.p cu.b cu.b) cu.b u (fad_lt _ _ HK.out.1) (HK.out.2.2.1) (HF.out.up m.1)) ?_
   refine eK (.pointer (some ⟨xc,0,none⟩)) ?_
   refine eK (.pointer (some ⟨xc,60,none⟩)) ?_
   refine wpE_nil ?_
   try simp only [Act.put,s_,t_,u_,v_,x_,y_]
   refine ready_E (rs:=[22]) (by kernel_rfl) (by simp) (fun u67 hgB=>?_)
   have N68:=Hd (D66.out.grow hgB)
   clear hgB D66
   refine EAll.cons rfl (fun K hK=>?_) EAll.nil
   refine step_cg_b3 rfl 27 (.tmp 128) (.tmp 126) rfl xc 60 (by kernel_rfl) _ #[.int .i64 (k:Int)] (nc cu.p) (nc cu.a) (nc cu.b) (nc cu.n) (ptc cu.gx cu.gy false) #[.int .i64 (bl cu.n)] #[.int .i64 cu.size] #[.bool true] #[.pointer (some ⟨f,0,none⟩)] _ (nc (fad cu.p (fad cu.p cu.b cu.b) cu.b)) (by kernel_rfl) (N68.out.at 1 rfl) (by simp [nS,pS]) (by simp only [nS]) (by rw [nS]; kernel_rfl) (nO _) (fun u69 hw hb hs=>?_)
   have N70:=Hd (N68.out.store 1 rfl hb hs hw)
   refine hK _ _ ⟨_,N70.out⟩ ?_
   clear hK hw hb hs N68
   try simp only [Act.put,s_,t_,u_,v_,x_,y_]
   refine done_E (by kernel_rfl) (fun u71 hgB=>?_)
   have N72:=Hd (N70.out.grow hgB)
   clear hgB N70
   try simp only [Act.put,s_,t_,u_,v_,x_,y_]
   go_upto_region 14 with (fail)
   refine wp_region_lit ?_
   refine pK (.pointer (some ⟨xc,0,none⟩)) ?_
   refine pK (.pointer (some ⟨xc,0,none⟩)) ?_
   refine wpList_nil ?_
   try simp only [Act.put,s_,t_,u_,v_,x_,y_]
   go_wp2_with (fail)
   go_ret
   exact ⟨xc,rfl,⟨f,d,HK.out,HF.out.up N72.out.1,by have h:=N72.out.at 1 rfl; rw [← cg_cuc cu f,HID.out,HLV.out]; exact h⟩,Nat.le_trans HFW.out.size (N72.out.ge 1 rfl),gT _ _ _ HFW.out N72.out.1⟩
  ·have HLV:=Hd hlv
   clear hlv
   refine wp_region_lit ?_
   refine pK (.pointer (some ⟨xc,0,none⟩)) ?_
   refine pK (.int .i64 (k:Int)) ?_
   try simp only [Act.put,s_,t_,u_,v_,x_,y_]
   refine pL rfl (.bool false) (fun u=>by first | (go_simp; done) | (go_simp; omega)) ?_
   refine pK (.bool false) ?_
   try simp only [Act.put,s_,t_,u_,v_,x_,y_]
   refine wL rfl (.int .i64 (k:Int)) (fun u=>by kernel_rfl) ?_
   try simp only [Act.put,s_,t_,u_,v_,x_,y_]
   refine wL rfl (.bool true) (fun u=>by first | (go_simp; done) | (go_simp; omega)) ?_
   refine pK (.bool true) ?_
   refine pK (.pointer (some ⟨xc,0,none⟩)) ?_
   refine pK (.pointer (some ⟨xc,0,none⟩)) ?_
   refine pK (.pointer (some ⟨xc,58,none⟩)) ?_
   refine list_cg_lg rfl 4 (.tmp 106) (.tmp 103) rfl xc 58 (by kernel_rfl) _ #[.int .i64 (k:Int)] (nc cu.p) (nc cu.a) (nc cu.b) (nc cu.n) (ptc cu.gx cu.gy false) #[.int .i64 (bl cu.n)] #[.int .i64 cu.size] #[.pointer (some ⟨f,0,none⟩)] (nc 0) _ (#[.bool true]) (by kernel_rfl) (N65.out.at 1 rfl) (by simp [nS,pS]) rfl (by kernel_rfl) (by intro u hu; simp at hu; subst hu; rfl) (fun u12 hw hb hs=>?_)
   have N12:=Hd (N65.out.store 1 rfl hb hs hw)
   clear hw hb hs N65
   refine wpList_nil ?_
   try simp only [Act.put,s_,t_,u_,v_,x_,y_]
   go_upto_region 13 with (fail)
   have D66:=Hd (N12.out.drew)
   clear N12
   refine wp_region_cls (C:=(fun u=>∃ Sb3:Array Value,Mem wf u [(xr,rc k,137),(xc,cgA #[.int .i64 (k:Int)] (nc cu.p) (nc cu.a) (nc cu.b) (nc cu.n) (ptc cu.gx cu.gy false) #[.int .i64 (bl cu.n)] #[.int .i64 cu.size] #[.bool true] #[.pointer (some ⟨f,0,none⟩)] Sb3,87)])) (fun u v hu hg=>by obtain ⟨Sb3,m⟩:=hu; exact ⟨Sb3,m.grow hg⟩) [0,1,2,3,4,5,6,7,8,9,10,11,12,13,14,15,16,17,18,19,20,21] ⟨_,D66.out⟩ (by kernel_rfl) (by kernel_rfl) (fun d v c a w h=>by cases d <;> exact h) ?_
   simp only [pickOps,List.filterMap_cons,List.filterMap_nil,List.getElem?_cons_succ,List.getElem?_cons_zero]
   refine eK (.pointer (some ⟨xc,0,none⟩)) ?_
   refine eK (.pointer (some ⟨f,0,none⟩)) ?_
   refine eK (.pointer (some ⟨f,0,none⟩)) ?_
   refine eK (.pointer (some ⟨xc,0,none⟩)) ?_
   refine eK (.pointer (some ⟨xc,0,none⟩)) ?_
   refine eK (.pointer (some ⟨xc,0,none⟩)) ?_
   refine eK (.pointer (some ⟨xc,19,none⟩)) ?_
   refine wpE_loadN rfl (.tmp 113) rfl xc 19 (by kernel_rfl) cu.b (fun u hu=>by obtain ⟨Sb3,m⟩:=hu; exact ⟨_,_,_,m.at 1 rfl,fun j hj=>(get_cg_b #[.int .i64 (k:Int)] (nc cu.p) (nc cu.a) (nc cu.n) (ptc cu.gx cu.gy false) #[.int .i64 (bl cu.n)] #[.int .i64 cu.size] #[.bool true] #[.pointer (some ⟨f,0,none⟩)] Sb3 _ (by simp [nS,pS]) (by rw [nS]; exact hj)).trans (nc_get _ _ hj)⟩) ?_
   refine eK (.pointer (some ⟨xc,0,none⟩)) ?_
   refine eK (.pointer (some ⟨xc,0,none⟩)) ?_
   refine eK (.pointer (some ⟨xc,0,none⟩)) ?_
   refine eK (.pointer (some ⟨xc,19,none⟩)) ?_
   refine wpE_loadN rfl (.tmp 118) rfl xc 19 (by kernel_rfl) cu.b (fun u hu=>by obtain ⟨Sb3,m⟩:=hu; exact ⟨_,_,_,m.at 1 rfl,fun j hj=>(get_cg_b #[.int .i64 (k:Int)] (nc cu.p) (nc cu.a) (nc cu.n) (ptc cu.gx cu.gy false) #[.int .i64 (bl cu.n)] #[.int .i64 cu.size] #[.bool true] #[.pointer (some ⟨f,0,none⟩)] Sb3 _ (by simp [nS,pS]) (by rw [nS]; exact hj)).trans (nc_get _ _ hj)⟩) ?_
   refine wpE_fn rfl _ _ _ _ rfl #[] #[.pointer (some ⟨f,0,none⟩),.agg (nc cu.b),.agg (nc cu.b)] (by kernel_rfl) (by kernel_rfl) (fun u=>cE _ _ _ _ u Tryz.func73 (by kernel_rfl) (by kernel_rfl)) (.agg (nc (fad cu.p cu.b cu.b))) (fun u hu=>by obtain ⟨Sb3,m⟩:=hu; exact field_add f cu.p d cu.b cu.b u (HK.out.2.2.1) (HK.out.2.2.1) (HF.out.up m.1)) ?_
   refine eK (.pointer (some ⟨xc,0,none⟩)) ?_
   refine eK (.pointer (some ⟨xc,0,none⟩)) ?_
   refine eK (.pointer (some ⟨xc,0,none⟩)) ?_
   refine eK (.pointer (some ⟨xc,19,none⟩)) ?_
   refine wpE_loadN rfl (.tmp 124) rfl xc 19 (by kernel_rfl) cu.b (fun u hu=>by obtain ⟨Sb3,m⟩:=hu; exact ⟨_,_,_,m.at 1 rfl,fun j hj=>(get_cg_b #[.int .i64 (k:Int)] (nc cu.p) (nc cu.a) (nc cu.n) (ptc cu.gx cu.gy false) #[.int .i64 (bl cu.n)] #[.int .i64 cu.size] #[.bool true] #[.pointer (some ⟨f,0,none⟩)] Sb3 _ (by simp [nS,pS]) (by rw [nS]; exact hj)).trans (nc_get _ _ hj)⟩) ?_
   refine wpE_fn rfl _ _ _ _ rfl #[] #[.pointer (some ⟨f,0,none⟩),.agg (nc (fad cu.p cu.b cu.b)),.agg (nc cu.b)] (by kernel_rfl) (by kernel_rfl) (fun u=>cE _ _ _ _ u Tryz.func73 (by kernel_rfl) (by kernel_rfl)) (.agg (nc (fad cu.p (fad cu.p cu.b cu.b) cu.b))) (fun u hu=>by obtain ⟨Sb3,m⟩:=hu; exact field_add f cu.p d (fad cu.p cu.b cu.b) cu.b u (fad_lt _ _ HK.out.1) (HK.out.2.2.1) (HF.out.up m.1)) ?_
   refine eK (.pointer (some ⟨xc,0,none⟩)) ?_
   refine eK (.pointer (some ⟨xc,60,none⟩)) ?_
   refine wpE_nil ?_
   try simp only [Act.put,s_,t_,u_,v_,x_,y_]
   refine ready_E (rs:=[22]) (by kernel_rfl) (by simp) (fun u67 hgB=>?_)
   have N68:=Hd (D66.out.grow hgB)
   clear hgB D66
   refine EAll.cons rfl (fun K hK=>?_) EAll.nil
   refine step_cg_b3 rfl 27 (.tmp 128) (.tmp 126) rfl xc 60 (by kernel_rfl) _ #[.int .i64 (k:Int)] (nc cu.p) (nc cu.a) (nc cu.b) (nc cu.n) (ptc cu.gx cu.gy false) #[.int .i64 (bl cu.n)] #[.int .i64 cu.size] #[.bool true] #[.pointer (some ⟨f,0,none⟩)] _ (nc (fad cu.p (fad cu.p cu.b cu.b) cu.b)) (by kernel_rfl) (N68.out.at 1 rfl) (by simp [nS,pS]) (by simp only [nS]) (by rw [nS]; kernel_rfl) (nO _) (fun u69 hw hb hs=>?_)
   have N70:=Hd (N68.out.store 1 rfl hb hs hw)
   refine hK _ _ ⟨_,N70.out⟩ ?_
   clear hK hw hb hs N68
   try simp only [Act.put,s_,t_,u_,v_,x_,y_]
   refine done_E (by kernel_rfl) (fun u71 hgB=>?_)
   have N72:=Hd (N70.out.grow hgB)
   clear hgB N70
   try simp only [Act.put,s_,t_,u_,v_,x_,y_]
   go_upto_region 14 with (fail)
   refine wp_region_lit ?_
   refine pK (.pointer (some ⟨xc,0,none⟩)) ?_
   refine pK (.pointer (some ⟨xc,0,none⟩)) ?_
   refine wpList_nil ?_
   try simp only [Act.put,s_,t_,u_,v_,x_,y_]
   go_wp2_with (fail)
   go_ret
   exact ⟨xc,rfl,⟨f,d,HK.out,HF.out.up N72.out.1,by have h:=N72.out.at 1 rfl; rw [← cg_cuc cu f,HID.out,HLV.out]; exact h⟩,Nat.le_trans HFW.out.size (N72.out.ge 1 rfl),gT _ _ _ HFW.out N72.out.1⟩
  ·have HLV:=Hd hlv
   clear hlv
   refine wp_region_lit ?_
   refine pK (.pointer (some ⟨xc,0,none⟩)) ?_
   refine pK (.int .i64 (k:Int)) ?_
   try simp only [Act.put,s_,t_,u_,v_,x_,y_]
   refine pL rfl (.bool false) (fun u=>by first | (go_simp; done) | (go_simp; omega)) ?_
   refine pK (.bool false) ?_
   try simp only [Act.put,s_,t_,u_,v_,x_,y_]
   refine wL rfl (.int .i64 (k:Int)) (fun u=>by kernel_rfl) ?_
   try simp only [Act.put,s_,t_,u_,v_,x_,y_]
   refine wL rfl (.bool false) (fun u=>by first | (go_simp; done) | (go_simp; omega)) ?_
   refine pK (.bool false) ?_
   refine pK (.pointer (some ⟨xc,0,none⟩)) ?_
   refine pK (.pointer (some ⟨xc,0,none⟩)) ?_
   refine pK (.pointer (some ⟨xc,58,none⟩)) ?_
   refine list_cg_lg rfl 4 (.tmp 106) (.tmp 103) rfl xc 58 (by kernel_rfl) _ #[.int .i64 (k:Int)] (nc cu.p) (nc cu.a) (nc cu.b) (nc cu.n) (ptc cu.gx cu.gy false) #[.int .i64 (bl cu.n)] #[.int .i64 cu.size] #[.pointer (some ⟨f,0,none⟩)] (nc 0) _ (#[.bool false]) (by kernel_rfl) (N65.out.at 1 rfl) (by simp [nS,pS]) rfl (by kernel_rfl) (by intro u hu; simp at hu; subst hu; rfl) (fun u12 hw hb hs=>?_)
   have N12:=Hd (N65.out.store 1 rfl hb hs hw)
   clear hw hb hs N65
   refine wpList_nil ?_
   try simp only [Act.put,s_,t_,u_,v_,x_,y_]
   go_upto_region 13 with (fail)
   have D66:=Hd (N12.out.drew)
   clear N12
   refine wp_region_cls (C:=(fun u=>∃ Sb3:Array Value,Mem wf u [(xr,rc k,137),(xc,cgA #[.int .i64 (k:Int)] (nc cu.p) (nc cu.a) (nc cu.b) (nc cu.n) (ptc cu.gx cu.gy false) #[.int .i64 (bl cu.n)] #[.int .i64 cu.size] #[.bool false] #[.pointer (some ⟨f,0,none⟩)] Sb3,87)])) (fun u v hu hg=>by obtain ⟨Sb3,m⟩:=hu; exact ⟨Sb3,m.grow hg⟩) [0,1,2,3,4,5,6,7,8,9,10,11,12,13,14,15,16,17,18,19,20,21] ⟨_,D66.out⟩ (by kernel_rfl) (by kernel_rfl) (fun d v c a w h=>by cases d <;> exact h) ?_
   simp only [pickOps,List.filterMap_cons,List.filterMap_nil,List.getElem?_cons_succ,List.getElem?_cons_zero]
   refine eK (.pointer (some ⟨xc,0,none⟩)) ?_
   refine eK (.pointer (some ⟨f,0,none⟩)) ?_
   refine eK (.pointer (some ⟨f,0,none⟩)) ?_
   refine eK (.pointer (some ⟨xc,0,none⟩)) ?_
   refine eK (.pointer (some ⟨xc,0,none⟩)) ?_
   refine eK (.pointer (some ⟨xc,0,none⟩)) ?_
   refine eK (.pointer (some ⟨xc,19,none⟩)) ?_
   refine wpE_loadN rfl (.tmp 113) rfl xc 19 (by kernel_rfl) cu.b (fun u hu=>by obtain ⟨Sb3,m⟩:=hu; exact ⟨_,_,_,m.at 1 rfl,fun j hj=>(get_cg_b #[.int .i64 (k:Int)] (nc cu.p) (nc cu.a) (nc cu.n) (ptc cu.gx cu.gy false) #[.int .i64 (bl cu.n)] #[.int .i64 cu.size] #[.bool false] #[.pointer (some ⟨f,0,none⟩)] Sb3 _ (by simp [nS,pS]) (by rw [nS]; exact hj)).trans (nc_get _ _ hj)⟩) ?_
   refine eK (.pointer (some ⟨xc,0,none⟩)) ?_
   refine eK (.pointer (some ⟨xc,0,none⟩)) ?_
   refine eK (.pointer (some ⟨xc,0,none⟩)) ?_
   refine eK (.pointer (some ⟨xc,19,none⟩)) ?_
   refine wpE_loadN rfl (.tmp 118) rfl xc 19 (by kernel_rfl) cu.b (fun u hu=>by obtain ⟨Sb3,m⟩:=hu; exact ⟨_,_,_,m.at 1 rfl,fun j hj=>(get_cg_b #[.int .i64 (k:Int)] (nc cu.p) (nc cu.a) (nc cu.n) (ptc cu.gx cu.gy false) #[.int .i64 (bl cu.n)] #[.int .i64 cu.size] #[.bool false] #[.pointer (some ⟨f,0,none⟩)] Sb3 _ (by simp [nS,pS]) (by rw [nS]; exact hj)).trans (nc_get _ _ hj)⟩) ?_
   refine wpE_fn rfl _ _ _ _ rfl #[] #[.pointer (some ⟨f,0,none⟩),.agg (nc cu.b),.agg (nc cu.b)] (by kernel_rfl) (by kernel_rfl) (fun u=>cE _ _ _ _ u Tryz.func73 (by kernel_rfl) (by kernel_rfl)) (.agg (nc (fad cu.p cu.b cu.b))) (fun u hu=>by obtain ⟨Sb3,m⟩:=hu; exact field_add f cu.p d cu.b cu.b u (HK.out.2.2.1) (HK.out.2.2.1) (HF.out.up m.1)) ?_
   refine eK (.pointer (some ⟨xc,0,none⟩)) ?_
   refine eK (.pointer (some ⟨xc,0,none⟩)) ?_
   refine eK (.pointer (some ⟨xc,0,none⟩)) ?_
   refine eK (.pointer (some ⟨xc,19,none⟩)) ?_
   refine wpE_loadN rfl (.tmp 124) rfl xc 19 (by kernel_rfl) cu.b (fun u hu=>by obtain ⟨Sb3,m⟩:=hu; exact ⟨_,_,_,m.at 1 rfl,fun j hj=>(get_cg_b #[.int .i64 (k:Int)] (nc cu.p) (nc cu.a) (nc cu.n) (ptc cu.gx cu.gy false) #[.int .i64 (bl cu.n)] #[.int .i64 cu.size] #[.bool false] #[.pointer (some ⟨f,0,none⟩)] Sb3 _ (by simp [nS,pS]) (by rw [nS]; exact hj)).trans (nc_get _ _ hj)⟩) ?_
   refine wpE_fn rfl _ _ _ _ rfl #[] #[.pointer (some ⟨f,0,none⟩),.agg (nc (fad cu.p cu.b cu.b)),.agg (nc cu.b)] (by kernel_rfl) (by kernel_rfl) (fun u=>cE _ _ _ _ u Tryz.func73 (by kernel_rfl) (by kernel_rfl)) (.agg (nc (fad cu.p (fad cu.p cu.b cu.b) cu.b))) (fun u hu=>by obtain ⟨Sb3,m⟩:=hu; exact field_add f cu.p d (fad cu.p cu.b cu.b) cu.b u (fad_lt _ _ HK.out.1) (HK.out.2.2.1) (HF.out.up m.1)) ?_
   refine eK (.pointer (some ⟨xc,0,none⟩)) ?_
   refine eK (.pointer (some ⟨xc,60,none⟩)) ?_
   refine wpE_nil ?_
   try simp only [Act.put,s_,t_,u_,v_,x_,y_]
   refine ready_E (rs:=[22]) (by kernel_rfl) (by simp) (fun u67 hgB=>?_)
   have N68:=Hd (D66.out.grow hgB)
   clear hgB D66
   refine EAll.cons rfl (fun K hK=>?_) EAll.nil
   refine step_cg_b3 rfl 27 (.tmp 128) (.tmp 126) rfl xc 60 (by kernel_rfl) _ #[.int .i64 (k:Int)] (nc cu.p) (nc cu.a) (nc cu.b) (nc cu.n) (ptc cu.gx cu.gy false) #[.int .i64 (bl cu.n)] #[.int .i64 cu.size] #[.bool false] #[.pointer (some ⟨f,0,none⟩)] _ (nc (fad cu.p (fad cu.p cu.b cu.b) cu.b)) (by kernel_rfl) (N68.out.at 1 rfl) (by simp [nS,pS]) (by simp only [nS]) (by rw [nS]; kernel_rfl) (nO _) (fun u69 hw hb hs=>?_)
   have N70:=Hd (N68.out.store 1 rfl hb hs hw)
   refine hK _ _ ⟨_,N70.out⟩ ?_
   clear hK hw hb hs N68
   try simp only [Act.put,s_,t_,u_,v_,x_,y_]
   refine done_E (by kernel_rfl) (fun u71 hgB=>?_)
   have N72:=Hd (N70.out.grow hgB)
   clear hgB N70
   try simp only [Act.put,s_,t_,u_,v_,x_,y_]
   go_upto_region 14 with (fail)
   refine wp_region_lit ?_
   refine pK (.pointer (some ⟨xc,0,none⟩)) ?_
   refine pK (.pointer (some ⟨xc,0,none⟩)) ?_
   refine wpList_nil ?_
   try simp only [Act.put,s_,t_,u_,v_,x_,y_]
   go_wp2_with (fail)
   go_ret
   exact ⟨xc,rfl,⟨f,d,HK.out,HF.out.up N72.out.1,by have h:=N72.out.at 1 rfl; rw [← cg_cuc cu f,HID.out,HLV.out]; exact h⟩,Nat.le_trans HFW.out.size (N72.out.ge 1 rfl),gT _ _ _ HFW.out N72.out.1⟩
end Go.Proofs.YtkoonhiplicbkaaGreat.Cw
