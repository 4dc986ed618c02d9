/-
  A statement whose order Go leaves open: reads, sums and calls that only add to memory; new variables, which may come up anywhere among them; stores at the end; an extract that may come late. One walk in the text's order serves every order. No condition of a program's.
  (package divide) Modulus.Mul: a product's rest.
  (package divide) By: a modulus; what 'of' makes is a divisor.
  More of Grow: one operation taken first; a call that hands back a new block, among new variables. No condition of a program's.
  (package divide) Div.
-/
import Derived.Test.YtkoonhiplicbkaaGreatQk12
import Derived.OrdersHeld
set_option linter.unusedSimpArgs false
set_option linter.unusedVariables false
set_option maxHeartbeats 4000000
set_option maxRecDepth 100000
namespace Go.Proofs.YtkoonhiplicbkaaGreat.Cw
open Go Go.RowKit
section
variable {P:Program} {ops:Array Oper} {Q:Exit→Act→World→Prop} {md:Region.Mode} {R:World→World→Prop}
theorem wpOp_keep {j:Nat} {oj:Oper} (hj:ops[j]?=some oj) {Y:Act→Prop} (keep:∀ a u,Y a→Y (a.put oj.dst u)) (keepD:∀ a d,Y a→Y { a with defers:=d::a.defers })
    {K:Act→World→Prop} {a:Act} {w:World} (hy:Y a) (h:wpOp P ops Q j K a w):wpOp P ops Q j (fun a' w'=>Y a'∧K a' w') a w:=by
  unfold wpOp at *
  simp only [hj] at *
  split
  · rename_i hw
    simp only [hw,if_true] at h
    refine h.imp (fun h=>?_) id
    unfold Oper.wp at *
    generalize (execOp a.eval oj).run P w=r at *
    cases r with
    | ok n w'=>
      cases n <;> simp only [Oper.upon] at h ⊢
      case value u=>exact ⟨keep _ _ hy,h⟩
      case skip=>exact ⟨keep _ _ hy,h⟩
      case defer d=>exact ⟨keep _ _ (keepD _ _ hy),h⟩
      case enter f args=>
        refine Calls.mono h fun e w'' he=>?_
        cases e with
        | returned u=>exact ⟨keep _ _ hy,he⟩
        | panicked c=>exact he
        | outgrown=>exact he
      case row row args=>exact Rows.mono h fun u w'' he=>⟨keep _ _ hy,he⟩
    | halt x w'=>cases x <;> simp only [Oper.upon] at h ⊢ <;> exact h
  · rename_i hw
    simp only [hw] at h
    exact ⟨keep _ _ hy,h⟩
theorem wpOp_swap {j:Nat} {oi oj:Oper} {v:Value} (hj:ops[j]?=some oj) (hap:oi.apart ops oj=true) (hsj:∀ cs b,oj.op≠.select cs b)
    (hQ:∀ c a w,Q (.panic c) (a.put oi.dst v) w→Q (.panic c) a w) {K:Act→World→Prop} {a:Act} {w:World} (h:wpOp P ops Q j K (a.put oi.dst v) w) :
    wpOp P ops Q j (fun a' w'=>K (a'.put oi.dst v) w') a w:=by
  have hap':({ oi with op:=.move (.const v),after:=#[],guard:=none }:Oper).apart ops oj=true:=by
    unfold Oper.apart at *
    simp only [Bool.and_eq_true] at hap ⊢
    refine ⟨hap.1,?_⟩
    cases oj.dst <;> simp [Oper.looksAt,Op.operands]
  have hy:Yields P ops ({ oi with op:=.move (.const v),after:=#[],guard:=none }:Oper) v a:=.inl ⟨by simp [Region.wanted],fun w=>by simp [execOp,Act.eval]⟩
  exact wpOp_mono (fun _ _ h=>h.2) (wpOp_put (oi:={ oi with op:=.move (.const v),after:=#[],guard:=none }) hj hap' (fun cs b=>by simp) hsj hQ hy h)
def YieldsG (P:Program) (ops:Array Oper) (R:World→World→Prop) (o:Oper) (v:Value) (w0:World) (a:Act):Prop:=
  (Region.wanted o (yielded ops a.tmps)=true∧∀ u,R w0 u→o.quietAt P a (R u) u v)∨(Region.wanted o (yielded ops a.tmps)=false∧v=undef)
theorem YieldsG.of_same {o:Oper} {v:Value} {a a':Act} {w0:World} (hy:YieldsG P ops R o v w0 a) (he:execOp a'.eval o=execOp a.eval o)
    (hw:Region.wanted o (yielded ops a'.tmps)=Region.wanted o (yielded ops a.tmps)):YieldsG P ops R o v w0 a':=by
  unfold YieldsG Oper.quietAt at *
  rw [he,hw]
  exact hy
theorem YieldsG.up (ht:∀ a b c,R a b→R b c→R a c) {o:Oper} {v:Value} {a:Act} {w0 w1:World} (h:R w0 w1) (hy:YieldsG P ops R o v w0 a):YieldsG P ops R o v w1 a:=
  hy.imp (fun h1=>⟨h1.1,fun u hu=>h1.2 u (ht _ _ _ h hu)⟩) id
theorem YieldsG.wpOp (hr:∀ a,R a a) {i:Nat} {o:Oper} {v:Value} {a:Act} {w:World} (hi:ops[i]?=some o) (hy:YieldsG P ops R o v w a) {K:Act→World→Prop}
    (h:∀ w',R w w'→K (a.put o.dst v) w'):wpOp P ops Q i K a w:=by
  unfold Go.wpOp
  simp only [hi]
  rcases hy with ⟨hw,hv⟩ | ⟨hw,rfl⟩
  · simp only [hw,if_true]
    refine .inl ?_
    have:=hv w (hr w)
    unfold Oper.quietAt at this
    unfold Oper.wp
    generalize (execOp a.eval o).run P w=r at *
    cases r with
    | ok n w'=>
      cases n <;> simp only [Oper.quietUpon] at this
      case value u=>obtain ⟨rfl,rfl⟩:=this; exact h _ (hr _)
      case skip=>obtain ⟨rfl,rfl⟩:=this; exact h _ (hr _)
      case enter f args=>
        obtain ⟨rfl,hc⟩:=this
        refine Calls.mono hc ?_
        rintro e w'' ⟨rfl,hw''⟩
        exact h _ hw''
    | halt x w'=>exact absurd this (by simp [Oper.quietUpon])
  · simp only [hw,Bool.false_eq_true,if_false]; exact h _ (hr _)
def wpAnyR (P:Program) (md:Region.Mode) (ops:Array Oper) (Q:Exit→Act→World→Prop) (R:World→World→Prop) (m:Nat):Nat→Array Bool→Act→World→Prop
  | 0,listed,a,w=>∀ w1,R w w1→Region.ready md ops listed=[]∧Q .normal a w1
  | f+1,listed,a,w=>∀ w1,R w w1→(Region.ready md ops listed=[]→Q .normal a w1) ∧
    ∀ i ∈ Region.ready md ops listed,(m≤i→wpOp P ops Q i (wpAny P md ops Q f (listed.setIfInBounds i true)) a w1) ∧
      (i<m→wpOp P ops Q i (fun a' w'=>R w1 w'∧wpAnyR P md ops Q R m f (listed.setIfInBounds i true) a' w') a w1)
theorem wpAnyR_sound (hr:∀ a,R a a) {m:Nat}:∀ (f:Nat) (listed:Array Bool) (a:Act) (w:World),wpAnyR P md ops Q R m f listed a w→wpAny P md ops Q f listed a w
  | 0,_,_,w,h=>h w (hr w)
  | f+1,listed,a,w,h=>by
    obtain ⟨h1,h2⟩:=h w (hr w)
    refine ⟨h1,fun i hi=>?_⟩
    rcases Nat.lt_or_ge i m with h3 | h3
    · exact wpOp_mono (fun a' w' h4=>wpAnyR_sound hr f _ a' w' h4.2) ((h2 i hi).2 h3)
    · exact (h2 i hi).1 h3
theorem wpAnyR_up (ht:∀ a b c,R a b→R b c→R a c) {m:Nat} {w w1:World} (hw:R w w1):∀ (f:Nat) (listed:Array Bool) (a:Act),wpAnyR P md ops Q R m f listed a w→wpAnyR P md ops Q R m f listed a w1
  | 0,_,_,h=>fun w2 h2=>h w2 (ht _ _ _ hw h2)
  | _+1,_,_,h=>fun w2 h2=>h w2 (ht _ _ _ hw h2)
theorem unlisted_both {listed:Array Bool} {i:Nat} (h:listed.getD i true=false):listed.getD i false=false:=by
  rcases Nat.lt_or_ge i listed.size with h' | h'
  · simp [h'] at h ⊢; exact h
  · simp [h'] at h
theorem wpAnyR_first (hr:∀ a,R a a) (ht:∀ a b c,R a b→R b c→R a c) {m i:Nat} {oi:Oper} {v:Value} (hi:ops[i]?=some oi) (him:i<m) (hsel:∀ (j:Nat) (o:Oper) cs b,ops[j]?=some o→o.op≠.select cs b)
    (hQ:∀ c a w,Q (.panic c) (a.put oi.dst v) w→Q (.panic c) a w)
    (hlate:(∀ j oj,ops[j]?=some oj→m≤j→∃ e ∈ oj.after,Region.binds md e=true∧e.on=i)∨∀ w0 a,YieldsG P ops R oi v w0 a→Yields P ops oi v a) :
    ∀ (fuel:Nat) (listed:Array Bool) (a:Act) (w:World),
      (∀ j oj,ops[j]?=some oj→j≠i→listed.getD j true=false→(∀ e ∈ oj.after,Region.binds md e=true→e.on≠i)→oi.apart ops oj=true) →
      i ∈ Region.ready md ops listed→YieldsG P ops R oi v w a →
      wpAnyR P md ops Q R m fuel (listed.setIfInBounds i true) (a.put oi.dst v) w→wpAnyR P md ops Q R m (fuel+1) listed a w:=by
  intro fuel
  induction fuel with
  | zero=>
    intro listed a w _ hrd hy H w1 hw1
    refine ⟨fun h=>(by rw [h] at hrd; cases hrd),fun j hj=>?_⟩
    by_cases hji:j=i
    · subst hji
      exact ⟨fun h=>absurd h (by omega),fun _=>(hy.up ht hw1).wpOp hr hi fun w' hw'=>⟨hw',wpAnyR_up ht (ht _ _ _ hw1 hw') 0 _ _ H⟩⟩
    · have:=ready_mono hj hji
      rw [(H w1 hw1).1] at this
      cases this
  | succ fuel ih=>
    intro listed a w hfree hrd hy H w1 hw1
    refine ⟨fun h=>(by rw [h] at hrd; cases hrd),fun j hj=>?_⟩
    by_cases hji:j=i
    · subst hji
      exact ⟨fun h=>absurd h (by omega),fun _=>(hy.up ht hw1).wpOp hr hi fun w' hw'=>⟨hw',wpAnyR_up ht (ht _ _ _ hw1 hw') _ _ _ H⟩⟩
    · obtain ⟨H1,H2⟩:=(H w1 hw1).2 j (ready_mono hj hji)
      obtain ⟨hjun,oj,hoj,hall⟩:=mem_ready.1 hj
      have hun:=unlisted_both (mem_ready.1 hrd).1
      have hnot:∀ e ∈ oj.after,Region.binds md e=true→e.on≠i:=fun e he hb heq=>by
        have h1:=hall e he hb
        rw [heq,hun] at h1
        cases h1
      have hap:=hfree j oj hoj hji hjun hnot
      have hfree':∀ k ok,ops[k]?=some ok→k≠i→(listed.setIfInBounds j true).getD k true=false →
          (∀ e ∈ ok.after,Region.binds md e=true→e.on≠i)→oi.apart ops ok=true:=fun k ok hk hki hun hno=>by
        refine hfree k ok hk hki ?_ hno
        by_cases hjk:j=k
        · subst hjk; exact hjun
        · rw [getD_set_ne true hjk] at hun; exact hun
      have hsi:∀ cs b,oi.op≠.select cs b:=fun cs b=>hsel i oi cs b hi
      have hsj:∀ cs b,oj.op≠.select cs b:=fun cs b=>hsel j oj cs b hoj
      obtain ⟨h1,h2,h3⟩:=Oper.apart_spec hap
      refine ⟨fun hm=>?_,fun hm=>?_⟩
      · rcases hlate with hl | hl
        · obtain ⟨e,he,hb,heq⟩:=hl j oj hoj hm
          exact absurd heq (hnot e he hb)
        · refine wpOp_mono (fun a' w' h4=>wpAny_first hi hsel hQ fuel _ a' w' hfree' (ready_mono hrd (Ne.symm hji)) h4.1 ?_) (wpOp_put hoj hap hsi hsj hQ (hl _ _ hy) (H1 hm))
          rw [Array.setIfInBounds_comm _ _ hji]
          exact h4.2
      · have hk:=wpOp_keep (P:=P) (Q:=Q) hoj (Y:=YieldsG P ops R oi v w) (fun a u hy=>hy.of_same (execOp_put oi hsi a oj.dst u h3) (wanted_put oi a oj.dst u h3)) (fun a d hy=>hy.of_same rfl rfl) hy (wpOp_swap hoj hap hsj hQ (H2 hm))
        refine wpOp_mono (fun a' w' h4=>⟨h4.2.1,ih (listed.setIfInBounds j true) a' w' hfree' (ready_mono hrd (Ne.symm hji)) (h4.1.up ht (ht _ _ _ hw1 h4.2.1)) ?_⟩) hk
        rw [Array.setIfInBounds_comm _ _ hji]
        exact h4.2.2
theorem value_not_enter (m:Sem Value) (w w':World) (f:FuncId) (args:Array Value):((m >>= fun x=>pure (Next.value x)):Sem Next).run P w≠.ok (.enter f args) w':=by
  rw [Sem.run_bind]
  cases m.run P w <;> simp [Result.andThen]
theorem bind_not_enter {α:Type} (m:Sem α) (k:α→Sem Next) {w':World} {f:FuncId} {args:Array Value} (h:∀ x w,(k x).run P w≠.ok (.enter f args) w') (w:World):(m >>= k).run P w≠.ok (.enter f args) w':=by
  rw [Sem.run_bind]
  cases hm:m.run P w with
  | ok x w1=>exact h x w1
  | halt x w1=>simp [Result.andThen]
def plainOp (o:Oper):Bool:=match o.op with
  | .move _ | .assign _ | .build .. | .load .. | .unOp .. | .binOp .. | .slice .. | .fieldAddr .. | .field .. | .indexAddr .. | .index .. | .extract .. | .convert .. | .makeFunc .. | .sliceToArrayPointer .. | .nilCheck _=>true
  | _=>false
theorem plain_not_enter {o:Oper} (h:plainOp o=true) (ρ:Operand→Value) (w w':World) (f:FuncId) (args:Array Value):(execOp ρ o).run P w≠.ok (.enter f args) w':=by
  obtain ⟨dst,op,type,pos,after,guard⟩:=o
  cases op <;> simp only [plainOp,Bool.false_eq_true] at h <;> simp only [execOp]
  case nilCheck x=>
    intro hc
    split at hc
    · simp [runtimePanic] at hc
    · simp [runtimePanic] at hc
    · simp [runtimePanic] at hc
    · split at hc
      · simp [runtimePanic] at hc
      · revert hc
        refine bind_not_enter _ _ (fun p w=>bind_not_enter _ _ (fun b w=>?_) w) w
        intro hc
        split at hc
        · simp at hc
        · simp at hc
      · simp at hc
    · simp at hc
  all_goals first
    | exact value_not_enter _ _ _ _ _
    | (intro hc; simp at hc; done)
theorem quietAt_plain {o:Oper} (h:plainOp o=true) {a:Act} {C C':World→Prop} {w:World} {v:Value} (hq:o.quietAt P a C w v):o.quietAt P a C' w v:=by
  unfold Oper.quietAt at *
  generalize hr:(execOp a.eval o).run P w=r at *
  cases r with
  | ok n w'=>
    cases n <;> simp only [Oper.quietUpon] at hq ⊢
    case value u=>exact hq
    case skip=>exact hq
    case enter f args=>exact absurd hr (plain_not_enter h _ _ _ _ _)
  | halt x w'=>simp only [Oper.quietUpon] at hq
def wpGrow (P:Program) (ops:Array Oper) (R:World→World→Prop) (w0:World) (L:Act→Prop):List Oper→Act→Prop
  | [],a=>L a
  | o::rest,a=>if Region.wanted o (yielded ops a.tmps)=true then ∃ v,(∀ u,R w0 u→o.quietAt P a (R u) u v)∧wpGrow P ops R w0 L rest (a.put o.dst v) else wpGrow P ops R w0 L rest (a.put o.dst undef)
theorem gN {w0:World} {L:Act→Prop} {a:Act} (h:L a):wpGrow P ops R w0 L [] a:=h
theorem wpGrow_call {w0:World} {L:Act→Prop} {a:Act} {o:Oper} {rest:List Oper} (hgd:o.guard=none) (v:Value) (h:∀ u,R w0 u→o.quietAt P a (R u) u v) (hn:wpGrow P ops R w0 L rest (a.put o.dst v)):wpGrow P ops R w0 L (o::rest) a:=by
  unfold wpGrow
  rw [if_pos (by simp [Region.wanted,hgd])]
  exact ⟨v,h,hn⟩
theorem wpGrow_append {w0:World} {L:Act→Prop}:∀ (l1 l2:List Oper) (a:Act),l1.all plainOp=true→wpQuiet P ops (R w0) (fun a'=>wpGrow P ops R w0 L l2 a') l1 a→wpGrow P ops R w0 L (l1++l2) a
  | [],_,_,_,h=>h
  | o::l1,l2,a,hp,h=>by
    simp only [List.all_cons,Bool.and_eq_true] at hp
    show (if Region.wanted o (yielded ops a.tmps)=true then _ else _)
    have h':(if Region.wanted o (yielded ops a.tmps)=true then o.quiet P a (R w0) (wpQuiet P ops (R w0) (fun a'=>wpGrow P ops R w0 L l2 a') l1) else wpQuiet P ops (R w0) (fun a'=>wpGrow P ops R w0 L l2 a') l1 (a.put o.dst undef)):=h
    split at h'
    · rename_i hw
      rw [if_pos hw]
      obtain ⟨v,h1,h2⟩:=h'
      exact ⟨v,fun u hu=>quietAt_plain hp.1 (h1 u hu),wpGrow_append l1 l2 _ hp.2 h2⟩
    · rename_i hw
      rw [if_neg hw]
      exact wpGrow_append l1 l2 _ hp.2 h'
theorem wpGrow_plain {w0:World} {L:Act→Prop} {l:List Oper} {a:Act} (n:Nat) (hp:(l.take n).all plainOp=true) (h:wpQuiet P ops (R w0) (fun a'=>wpGrow P ops R w0 L (l.drop n) a') (l.take n) a):wpGrow P ops R w0 L l a:=by
  have:=wpGrow_append (L:=L) (l.take n) (l.drop n) a hp h
  rwa [List.take_append_drop] at this
def growSet:Nat→Nat→Array Bool→Array Bool
  | 0,_,listed=>listed
  | f+1,k,listed=>growSet f (k+1) (listed.setIfInBounds k true)
def waitsB (md:Region.Mode) (ops:Array Oper) (m k:Nat):Bool:=(List.range ops.size).all fun j=>decide (j<m) || match ops[j]? with
  | some oj=>oj.after.any fun e=>Region.binds md e && e.on == k
  | none=>true
def lateB (ops:Array Oper) (k:Nat):Bool:=match ops[k]? with
  | some o=>match o.op with
    | .extract ..=>true
    | _=>false
  | none=>false
def growHead (md:Region.Mode) (ops:Array Oper) (m:Nat):Nat→Nat→Array Bool→Bool
  | 0,_,_=>true
  | f+1,k,listed=>(Region.ready md ops listed).contains k && Region.free md ops listed k && decide (k<m) && (waitsB md ops m k || lateB ops k) && growHead md ops m f (k+1) (listed.setIfInBounds k true)
theorem late_yields (hr:∀ a,R a a) {k:Nat} {o:Oper} (hk:ops[k]?=some o) (h:lateB ops k=true) {v:Value} (w0:World) (a:Act) (hy:YieldsG P ops R o v w0 a):Yields P ops o v a:=by
  unfold lateB at h
  simp only [hk] at h
  refine hy.imp (fun h1=>⟨h1.1,fun w=>?_⟩) id
  have h2:=h1.2 w0 (hr _)
  obtain ⟨dst,op,type,pos,after,guard⟩:=o
  cases op <;> simp only [Bool.false_eq_true] at h
  unfold Oper.quietAt at h2
  simp only [execOp,Instr.extract] at h2 ⊢
  split at h2
  · split at h2
    · simp [Oper.quietUpon] at h2 ⊢
      exact h2
    · simp [Oper.quietUpon,stuck] at h2
  · simp [Oper.quietUpon,stuck] at h2
theorem waits_spec {m k:Nat} (h:waitsB md ops m k=true) (j:Nat) (oj:Oper) (hj:ops[j]?=some oj) (hm:m≤j):∃ e ∈ oj.after,Region.binds md e=true∧e.on=k:=by
  unfold waitsB at h
  rw [List.all_eq_true] at h
  have hlt:j<ops.size:=(Array.getElem?_eq_some_iff.1 hj).1
  have h1:=h j (List.mem_range.2 hlt)
  simp only [hj,Bool.or_eq_true,decide_eq_true_eq] at h1
  rcases h1 with h1 | h1
  · omega
  · obtain ⟨e,he,hb⟩:=Array.any_eq_true'.1 h1
    simp only [Bool.and_eq_true,beq_iff_eq] at hb
    exact ⟨e,he,hb⟩
theorem wpAnyR_head (hr:∀ a,R a a) (ht:∀ a b c,R a b→R b c→R a c) (hs:Region.noSelect ops=true) {m g:Nat} {w:World} {L:Act→Prop}
    (hQ:∀ d v c a w,Q (.panic c) (a.put d v) w→Q (.panic c) a w) :
    ∀ (l:List Oper) (k:Nat) (listed:Array Bool) (a:Act),(∀ j,j<l.length→l[j]?=ops[k+j]?)→growHead md ops m l.length k listed=true→wpGrow P ops R w L l a →
    (∀ a',L a'→wpAnyR P md ops Q R m g (growSet l.length k listed) a' w)→wpAnyR P md ops Q R m (l.length+g) listed a w
  | [],k,listed,a,_,_,h,H=>by
    have:=H a h
    simpa [growSet] using this
  | o::l,k,listed,a,hl,hB,h,H=>by
    have h0:ops[k]?=some o:=by simpa using (hl 0 (by simp)).symm
    simp only [List.length_cons,growHead,Bool.and_eq_true,decide_eq_true_eq] at hB
    obtain ⟨⟨⟨⟨hrd,hf⟩,hkm⟩,hw⟩,hB'⟩:=hB
    have hrd':k ∈ Region.ready md ops listed:=by simpa using hrd
    have hst:∃ v,YieldsG P ops R o v w a∧wpGrow P ops R w L l (a.put o.dst v):=by
      unfold wpGrow at h
      split at h
      · rename_i hwt
        obtain ⟨v,h1,h2⟩:=h
        exact ⟨v,.inl ⟨hwt,h1⟩,h2⟩
      · rename_i hwt
        exact ⟨undef,.inr ⟨by simpa using hwt,rfl⟩,h⟩
    obtain ⟨v,hy,hK⟩:=hst
    rw [show (o::l).length+g=(l.length+g)+1 by simp; omega]
    refine wpAnyR_first hr ht h0 hkm (Region.noSelect_spec hs) (fun c a w=>hQ _ _ c a w) ?_ (l.length+g) listed a w (Region.free_spec h0 hf) hrd' hy ?_
    · rw [Bool.or_eq_true] at hw
      exact hw.imp (fun h j oj hj hm=>waits_spec h j oj hj hm) (fun h w0 a=>late_yields hr h0 h w0 a)
    · exact wpAnyR_head hr ht hs hQ l (k+1) _ _ (fun j hj=>by have:=hl (j+1) (by simp; omega); simpa [Nat.add_assoc,Nat.add_comm 1 j] using this) hB' hK (fun a' h'=>by have:=H a' h'; simpa [growSet] using this)
def Grows (u w:World):Prop:=Below u.heap.size u w
theorem grows_refl (u:World):Grows u u:=Below.refl _ _
theorem gT (a b c:World) (h:Grows a b) (k:Grows b c):Grows a c:=Below.trans h (Below.mono k h.size)
theorem rGw {id:Nat} {a:Act} {w:World} {l:List Oper} (n m:Nat) (hm:P.follows .mixedOrders=true) (hB:(Region.noSelect l.toArray && growHead .any l.toArray m n 0 (Array.replicate l.toArray.size false) && decide (n≤l.length))=true)
    (hQ:∀ d v c a w,Q (.panic c) (a.put d v) w→Q (.panic c) a w)
    (h:wpGrow P l.toArray Grows w.drew (fun a'=>wpAnyR P .any l.toArray Q Grows m (l.length - n) (growSet n 0 (Array.replicate l.toArray.size false)) a' w.drew) (l.take n) a):(Code.region id l.toArray true).wp P Q a w:=by
  simp only [Bool.and_eq_true,decide_eq_true_eq] at hB
  obtain ⟨⟨hs,hg⟩,hn⟩:=hB
  have htl:(l.take n).length=n:=by simp; omega
  refine wp_region_any hm (wpAnyR_sound (m:=m) grows_refl _ _ _ _ ?_)
  have:=wpAnyR_head (md:=.any) (Q:=Q) (m:=m) (g:=l.length - n) grows_refl gT hs hQ (l.take n) 0 (Array.replicate l.toArray.size false) a (fun j hj=>by
    have hj':j<n:=by rw [htl] at hj; exact hj
    simp [hj']) (by rw [htl]; exact hg) h (fun a' h'=>by rw [htl]; exact h')
  rw [htl,show n+(l.length - n)=l.toArray.size by simp; omega] at this
  exact this
theorem gS {m f:Nat} {listed:Array Bool} {a:Act} {w:World} {rs:List Nat} (hrd:Region.ready md ops listed=rs) (hms:(rs.all fun i=>decide (m≤i))=true) (h:∀ w1,Grows w w1→wpAny P md ops Q (f+1) listed a w1):wpAnyR P md ops Q Grows m (f+1) listed a w:=by
  intro w1 hw1
  obtain ⟨h1,h2⟩:=h w1 hw1
  refine ⟨h1,fun i hi=>?_⟩
  have hmi:m≤i:=by
    rw [hrd] at hi
    simpa using List.all_eq_true.1 hms i hi
  exact ⟨fun _=>h2 i hi,fun h3=>absurd h3 (by omega)⟩
theorem grows_alloc (w:World) (o:Obj):Grows w (w.alloc o):=(Below.refl _ _).alloc (Nat.le_refl _) _
theorem wpOp_alloc {i:Nat} {o:Oper} {a:Act} {w:World} {K:Act→World→Prop} (ho:ops[i]?=some o) (hgd:o.guard=none) (t:TypeId) (hop:o.op=.alloc t) (z:Value) (hz:(P.info? t).map (·.zero)=some (some z))
    (h:K (a.put o.dst (.pointer (some ⟨w.heap.size,0,none⟩))) (w.alloc (.cells z.cells t))):wpOp P ops Q i K a w:=by
  unfold wpOp
  simp only [ho]
  rw [if_pos (by simp [Region.wanted,hgd])]
  refine .inl ?_
  cases hq:P.info? t with
  | none=>simp [hq] at hz
  | some d=>
    have hz':d.zero=some z:=by simpa [hq] using hz
    have hzv:(zeroValue t).run P w=.ok z w:=by simp [zeroValue,typeInfo,hq,hz']
    unfold Oper.wp execOp
    simp only [hop,Instr.alloc,newVar,Sem.run_bind,Sem.run_pure,hzv,Result.andThen_ok]
    exact h
theorem grow_alloc {m f i:Nat} {listed:Array Bool} {a:Act} {w:World} {o:Oper} (hrd:Region.ready md ops listed=[i]) (him:i<m) (ho:ops[i]?=some o) (hgd:o.guard=none) (t:TypeId) (hop:o.op=.alloc t) (z:Value) (hz:(P.info? t).map (·.zero)=some (some z))
    (h:∀ x w',w.heap.size≤x→x<w'.heap.size→Grows w w'→w'.heap[x]?=some (.cells z.cells t)→wpAnyR P md ops Q Grows m f (listed.setIfInBounds i true) (a.put o.dst (.pointer (some ⟨x,0,none⟩))) w') :
    wpAnyR P md ops Q Grows m (f+1) listed a w:=by
  intro w1 hw1
  rw [hrd]
  refine ⟨fun h=>(by cases h),fun j hj=>?_⟩
  obtain rfl:j=i:=by simpa using hj
  refine ⟨fun h3=>absurd h3 (by omega),fun _=>wpOp_alloc ho hgd t hop z hz ⟨grows_alloc _ _,?_⟩⟩
  exact h _ _ hw1.size (by simp) (gT _ _ _ hw1 (grows_alloc _ _)) (new1 _ _)
theorem grow_alloc2 {m f i j:Nat} {listed:Array Bool} {a:Act} {w:World} {o o':Oper} (hrd:Region.ready md ops listed=[i,j]) (hij:i≠j) (hri:Region.ready md ops (listed.setIfInBounds i true)=[j]) (hrj:Region.ready md ops (listed.setIfInBounds j true)=[i])
    (him:i<m) (hjm:j<m) (ho:ops[i]?=some o) (ho':ops[j]?=some o') (hgd:o.guard=none) (hgd':o'.guard=none) (hd:∀ d,o.dst=some d→o'.dst≠some d) (t t':TypeId) (hop:o.op=.alloc t) (hop':o'.op=.alloc t') (z z':Value) (hz:(P.info? t).map (·.zero)=some (some z)) (hz':(P.info? t').map (·.zero)=some (some z'))
    (h:∀ x y w',w.heap.size≤x→x<w'.heap.size→w.heap.size≤y→y<w'.heap.size→x≠y→Grows w w'→w'.heap[x]?=some (.cells z.cells t)→w'.heap[y]?=some (.cells z'.cells t') →
      wpAnyR P md ops Q Grows m f ((listed.setIfInBounds i true).setIfInBounds j true) ((a.put o.dst (.pointer (some ⟨x,0,none⟩))).put o'.dst (.pointer (some ⟨y,0,none⟩))) w') :
    wpAnyR P md ops Q Grows m (f+2) listed a w:=by
  intro w1 hw1
  rw [hrd]
  refine ⟨fun h=>(by cases h),fun k hk=>?_⟩
  have hk':k=i∨k=j:=by simpa using hk
  rcases hk' with rfl | rfl
  · refine ⟨fun h3=>absurd h3 (by omega),fun _=>wpOp_alloc ho hgd t hop z hz ⟨grows_alloc _ _,?_⟩⟩
    refine grow_alloc hri hjm ho' hgd' t' hop' z' hz' (fun y w' hy hy' hg hh=>?_)
    have hsz:w1.heap.size<(w1.alloc (.cells z.cells t)).heap.size:=by simp
    exact h _ _ _ hw1.size (Nat.lt_of_lt_of_le hsz hg.size) (Nat.le_trans hw1.size (Nat.le_trans (Nat.le_of_lt hsz) hy)) hy' (by omega) (gT _ _ _ hw1 (gT _ _ _ (grows_alloc _ _) hg)) ((hg.block _ hsz).trans (new1 _ _)) hh
  · refine ⟨fun h3=>absurd h3 (by omega),fun _=>wpOp_alloc ho' hgd' t' hop' z' hz' ⟨grows_alloc _ _,?_⟩⟩
    refine grow_alloc hrj him ho hgd t hop z hz (fun y w' hy hy' hg hh=>?_)
    have hsz:w1.heap.size<(w1.alloc (.cells z'.cells t')).heap.size:=by simp
    rw [← Act.put_comm _ _ _ hd,Array.setIfInBounds_comm _ _ (Ne.symm hij)]
    exact h _ _ _ (Nat.le_trans hw1.size (Nat.le_trans (Nat.le_of_lt hsz) hy)) hy' hw1.size (Nat.lt_of_lt_of_le hsz hg.size) (by omega) (gT _ _ _ hw1 (gT _ _ _ (grows_alloc _ _) hg)) hh ((hg.block _ hsz).trans (new1 _ _))
theorem grow_alloc3 {m f i j k:Nat} {listed:Array Bool} {a:Act} {w:World} {o o' o'':Oper} (hrd:Region.ready md ops listed=[i,j,k]) (hij:i≠j) (hik:i≠k) (hjk:j≠k)
    (hri:Region.ready md ops (listed.setIfInBounds i true)=[j,k]) (hrj:Region.ready md ops (listed.setIfInBounds j true)=[i,k]) (hrk:Region.ready md ops (listed.setIfInBounds k true)=[i,j])
    (hrij:Region.ready md ops ((listed.setIfInBounds i true).setIfInBounds j true)=[k]) (hrik:Region.ready md ops ((listed.setIfInBounds i true).setIfInBounds k true)=[j]) (hrjk:Region.ready md ops ((listed.setIfInBounds j true).setIfInBounds k true)=[i])
    (him:i<m) (hjm:j<m) (hkm:k<m) (ho:ops[i]?=some o) (ho':ops[j]?=some o') (ho'':ops[k]?=some o'') (hgd:o.guard=none) (hgd':o'.guard=none) (hgd'':o''.guard=none)
    (hd:∀ d,o.dst=some d→o'.dst≠some d) (hd2:∀ d,o.dst=some d→o''.dst≠some d) (hd3:∀ d,o'.dst=some d→o''.dst≠some d) (t t' t'':TypeId) (hop:o.op=.alloc t) (hop':o'.op=.alloc t') (hop'':o''.op=.alloc t'')
    (z z' z'':Value) (hz:(P.info? t).map (·.zero)=some (some z)) (hz':(P.info? t').map (·.zero)=some (some z')) (hz'':(P.info? t'').map (·.zero)=some (some z''))
    (h:∀ x y v w',w.heap.size≤x→x<w'.heap.size→w.heap.size≤y→y<w'.heap.size→w.heap.size≤v→v<w'.heap.size→x≠y→x≠v→y≠v→Grows w w'→w'.heap[x]?=some (.cells z.cells t)→w'.heap[y]?=some (.cells z'.cells t')→w'.heap[v]?=some (.cells z''.cells t'') →
      wpAnyR P md ops Q Grows m f (((listed.setIfInBounds i true).setIfInBounds j true).setIfInBounds k true) (((a.put o.dst (.pointer (some ⟨x,0,none⟩))).put o'.dst (.pointer (some ⟨y,0,none⟩))).put o''.dst (.pointer (some ⟨v,0,none⟩))) w') :
    wpAnyR P md ops Q Grows m (f+3) listed a w:=by
  intro w1 hw1
  rw [hrd]
  refine ⟨fun h=>(by cases h),fun n hn=>?_⟩
  have hn':n=i∨n=j∨n=k:=by simpa using hn
  rcases hn' with rfl | rfl | rfl
  · refine ⟨fun h3=>absurd h3 (by omega),fun _=>wpOp_alloc ho hgd t hop z hz ⟨grows_alloc _ _,?_⟩⟩
    have hsz:w1.heap.size<(w1.alloc (.cells z.cells t)).heap.size:=by simp
    refine grow_alloc2 hri hjk hrij hrik hjm hkm ho' ho'' hgd' hgd'' hd3 t' t'' hop' hop'' z' z'' hz' hz'' (fun y v w' hy hy' hv hv' hne hg hh hh'=>?_)
    exact h _ _ _ _ hw1.size (Nat.lt_of_lt_of_le hsz hg.size) (Nat.le_trans hw1.size (Nat.le_trans (Nat.le_of_lt hsz) hy)) hy' (Nat.le_trans hw1.size (Nat.le_trans (Nat.le_of_lt hsz) hv)) hv' (by omega) (by omega) hne (gT _ _ _ hw1 (gT _ _ _ (grows_alloc _ _) hg)) ((hg.block _ hsz).trans (new1 _ _)) hh hh'
  · refine ⟨fun h3=>absurd h3 (by omega),fun _=>wpOp_alloc ho' hgd' t' hop' z' hz' ⟨grows_alloc _ _,?_⟩⟩
    have hsz:w1.heap.size<(w1.alloc (.cells z'.cells t')).heap.size:=by simp
    refine grow_alloc2 hrj hik (by rw [Array.setIfInBounds_comm _ _ (Ne.symm hij)]; exact hrij) hrjk him hkm ho ho'' hgd hgd'' hd2 t t'' hop hop'' z z'' hz hz'' (fun y v w' hy hy' hv hv' hne hg hh hh'=>?_)
    rw [← Act.put_comm a _ _ hd,Array.setIfInBounds_comm _ _ (Ne.symm hij)]
    exact h _ _ _ _ (Nat.le_trans hw1.size (Nat.le_trans (Nat.le_of_lt hsz) hy)) hy' hw1.size (Nat.lt_of_lt_of_le hsz hg.size) (Nat.le_trans hw1.size (Nat.le_trans (Nat.le_of_lt hsz) hv)) hv' (by omega) hne (by omega) (gT _ _ _ hw1 (gT _ _ _ (grows_alloc _ _) hg)) hh ((hg.block _ hsz).trans (new1 _ _)) hh'
  · refine ⟨fun h3=>absurd h3 (by omega),fun _=>wpOp_alloc ho'' hgd'' t'' hop'' z'' hz'' ⟨grows_alloc _ _,?_⟩⟩
    have hsz:w1.heap.size<(w1.alloc (.cells z''.cells t'')).heap.size:=by simp
    refine grow_alloc2 hrk hij (by rw [Array.setIfInBounds_comm _ _ (Ne.symm hik)]; exact hrik) (by rw [Array.setIfInBounds_comm _ _ (Ne.symm hjk)]; exact hrjk) him hjm ho ho' hgd hgd' hd t t' hop hop' z z' hz hz' (fun y v w' hy hy' hv hv' hne hg hh hh'=>?_)
    rw [← Act.put_comm a _ _ hd2,← Act.put_comm _ _ _ hd3,Array.setIfInBounds_comm _ _ (Ne.symm hik),Array.setIfInBounds_comm _ _ (Ne.symm hjk)]
    exact h _ _ _ _ (Nat.le_trans hw1.size (Nat.le_trans (Nat.le_of_lt hsz) hy)) hy' (Nat.le_trans hw1.size (Nat.le_trans (Nat.le_of_lt hsz) hv)) hv' hw1.size (Nat.lt_of_lt_of_le hsz hg.size) hne (by omega) (by omega) (gT _ _ _ hw1 (gT _ _ _ (grows_alloc _ _) hg)) hh hh' ((hg.block _ hsz).trans (new1 _ _))
end
section
variable {P:Program} {ops:Array Oper} {rest:List Oper} {o:Oper} {a:Act} {w:World} {Q:Exit→Act→World→Prop}
theorem nL (hgd:o.guard=none) (t:TypeId) (ho:o.op=.alloc t) (z:Value) (hz:(P.info? t).map (·.zero)=some (some z))
    (h:∀ x w',w.heap.size=x→x<w'.heap.size→Grows w w'→w'.heap[x]?=some (.cells z.cells t)→wpList P ops Q rest (a.put o.dst (.pointer (some ⟨x,0,none⟩))) w'):wpList P ops Q (o::rest) a w:=by
  refine wpList_plain hgd fun K hK=>?_
  cases hq:P.info? t with
  | none=>simp [hq] at hz
  | some i=>
    have hz':i.zero=some z:=by simpa [hq] using hz
    have hzv:(zeroValue t).run P w=.ok z w:=by simp [zeroValue,typeInfo,hq,hz']
    unfold Oper.wp execOp
    simp only [ho,Instr.alloc,newVar,Sem.run_bind,Sem.run_pure,hzv,Result.andThen_ok]
    exact hK _ _ (h _ _ rfl (by simp) (grows_alloc _ _) (new1 _ _))
end
end Go.Proofs.YtkoonhiplicbkaaGreat.Cw
namespace Go.Proofs.YtkoonhiplicbkaaGreat.Cw
open Go Go.RowKit
attribute [local go_sem ↓ high] wn_eql wn_neq wn_lss wn_gtr wn_leq wn_geq wn_cells wRS wn_guard lit0 lit1
attribute [local go_sem high] wn_match wRS wn_eql wn_neq wn_lss wn_gtr wn_leq wn_geq
theorem vagg_cells (cs:Array Value):(Value.agg cs).cells=cs:=rfl
def DivAt (w:World) (d m:Nat):Prop:=∃ n s,n≤9∧1≤n∧s≤63∧m*2 ^ s<pw n∧9223372036854775808≤dig (m*2 ^ s) (n - 1)∧w.heap[d]?=some (.cells (dc (m*2 ^ s) n s) 189 (0,0))
theorem DivAt.lt {w:World} {d m:Nat} (h:DivAt w d m):d<w.heap.size:=by
  obtain ⟨n,s,_,_,_,_,_,h⟩:=h
  exact (Array.getElem?_eq_some_iff.mp h).1
theorem DivAt.up {w w':World} {d m:Nat} (h:DivAt w d m) (hg:Grows w w'):DivAt w' d m:=by
  have hlt:=h.lt
  obtain ⟨n,s,h1,h2,h3,h4,h5,h⟩:=h
  exact ⟨n,s,h1,h2,h3,h4,h5,(hg.block d hlt).trans h⟩
theorem div_at (d wb A m L cap:Nat) (w:World) (H:DivAt w d m) (hL:L≤18) (hA:A<pw L) (hwb:wb<w.heap.size) (hc:∀ i,i<L→w.cell? ⟨wb,i,none⟩=some (wn (dig A i))) :
    Calls Tryz.prog 86 #[.pointer (some ⟨d,0,none⟩),.slice (some ⟨wb,0,none⟩) L cap] w fun e w'=>e=.returned (.tuple #[.agg (wc (A / m)),.agg (nc (A%m))])∧Below w.heap.size w w':=by
  have hlt:=H.lt
  obtain ⟨n,s,h1,h2,h3,h4,h5,h⟩:=H
  exact div_divide d wb A _ m n s L cap w h1 h2 h3 rfl h4 h5 hL hA hlt hwb h hc
theorem modulus_mul (d a b m:Nat) (w:World) (ha:a<pw 9) (hb:b<pw 9) (H:DivAt w d m) :
    Calls Tryz.prog 43 #[.agg #[.pointer (some ⟨d,0,none⟩)],.agg (nc a),.agg (nc b)] w fun e w'=>e=.returned (.agg (nc (a*b%m)))∧Below w.heap.size w w':=by
  have HD:=Hd H
  have HDL:=Hd H.lt
  have hmul:=fun w=>nat_mul a b w ha hb
  have HM:=Hd hmul
  have hab:a*b<pw 18:=by
    rw [show (18:Nat)=9+9 from rfl,pw_add]
    exact Nat.mul_lt_mul'' ha hb
  have HAB:=Hd hab
  clear H hmul ha hb hab
  go_enter Tryz.func43,Tryz.ntmps43
  go_upto_region 1 with fail
  rw [← nZ]
  obtain ⟨k1,k2,k3,k4,b1⟩:=al4 w (.cells #[.pointer (some ⟨d,0,none⟩)] 92) (.cells (nc a) 27) (.cells (nc b) 27) (.cells (nc 0) 27)
  obtain ⟨w1,hw1⟩:∃ w1:World,w1=((((w.alloc (.cells #[.pointer (some ⟨d,0,none⟩)] 92)).alloc (.cells (nc a) 27)).alloc (.cells (nc b) 27)).alloc (.cells (nc 0) 27)):=⟨_,rfl⟩
  rw [← hw1] at k1 k2 k3 k4 b1 ⊢
  clear hw1
  obtain ⟨g,hg⟩:∃ g,g=w.heap.size:=⟨_,rfl⟩
  rw [← hg] at k1 k2 k3 k4 b1 ⊢
  have hgs:g≤w.heap.size:=by omega
  have HG:=Hd hg
  have K1:=Hd k1
  have K2:=Hd k2
  have K3:=Hd k3
  have K4:=Hd k4
  clear hg k1 k2 k3 k4
  go_upto_region 2 with (first
    | (refine l0N rfl (.tmp 4) rfl (g+1) rfl K2.out ?_)
    | (refine l0N rfl (.tmp 5) rfl (g+1+1) rfl K3.out ?_)
    | (go_at_call 85; refine (HM.out _).mono ?_; rintro e w2 ⟨rfl,hb2⟩)
    | (refine nL rfl 154 rfl (.agg (wc 0)) (by rw [wc_zero]; kernel_rfl) ?_; intro x w3 hx3 hl3 hg3 hh3)
    | (refine sB rfl 154 (.tmp 7) (.tmp 12) rfl x rfl _ _ _ rfl hh3 (by rw [wc_size]; kernel_rfl) (by rw [wc_size,vagg_cells,wc_size]) (wc_one _) ?_; intro w4 hw4 hb4 hs4))
  have hs1:g+1+1+1<w1.heap.size:=(Array.getElem?_eq_some_iff.mp K4.out).1
  have hs2:w1.heap.size≤x:=by rw [← hx3]; exact hb2.size
  have stay:∀ k o,k<w1.heap.size→w1.heap[k]?=some o→w4.heap[k]?=some o:=fun k o hk h1=>hb4.heap (by omega) ((hg3.block k (by omega)).trans ((hb2.block k hk).trans h1))
  have B4:Below g w w4:=But.below (Below.trans (Below.trans b1 (hb2.mono (by omega))) (hg3.mono (by omega))) hb4 (by omega) (by have:=b1.size; have:=hb2.size; have:=hg3.size; omega)
  have J1:=Hd (stay _ _ (by omega) K1.out)
  have J4:=Hd (stay _ _ (by omega) K4.out)
  have JX:=Hd hw4
  have HB4:=Hd B4
  have hdw:d<g:=by rw [HG.out]; exact HDL.out
  have HD4:DivAt w4 d m:=HD.out.up (by unfold Grows; rw [← HG.out]; exact B4)
  have HD4:=Hd HD4
  have hxs:x<w4.heap.size:=(Array.getElem?_eq_some_iff.mp hw4).1
  clear stay hb2 hg3 hb4 hw4 hh3 hs4 B4 K1 K2 K3 K4 hx3 hl3 b1
  have c0:w4.cell? ⟨g,0,none⟩=some (.pointer (some ⟨d,0,none⟩)):=by rw [cO J1.out]; rfl
  have C0:=Hd c0
  clear c0
  obtain ⟨L,hL⟩:∃ L,L=usedN (a*b) 18:=⟨_,rfl⟩
  have hL18:L≤18:=by rw [hL]; exact usedN_le _ _
  have hLA:a*b<pw L:=by rw [hL]; exact usedN_lt _ _ HAB.out
  have HL:=Hd hL
  have HLA:=Hd hLA
  clear hL hLA
  have hcx:∀ u,Grows w4.drew u→∀ i,i<18→u.cell? ⟨x,i,none⟩=some (wn (dig (a*b) i)):=fun u hu i hi=>by rw [hu.cell (p:=⟨x,i,none⟩) hxs]; exact (cO JX.out i).trans (wc_get _ _ hi)
  have HCX:=Hd hcx
  clear hcx
  refine rGw 11 13 (by kernel_rfl) (by kernel_rfl) (fun d v c a w h=>by cases d <;> exact h) ?_
  simp only [List.take_succ_cons,List.take_zero,Act.put,List.setIfInBounds_toArray,List.set_cons_zero,List.set_cons_succ]
  refine wpGrow_plain 5 (by rfl) ?_
  simp only [List.take_succ_cons,List.take_zero,List.drop_succ_cons,List.drop_zero]
  go_big_quiet_step ((exact fun _=>rfl))
  go_big_quiet_step ((intro hB; rw [hB.cell (p:=⟨g,0,none⟩) (show g<w4.heap.size by omega),show w4.drew.cell? ⟨g,0,none⟩=_ from C0.out]; exact ⟨rfl,rfl⟩))
  iterate 3 go_big_quiet_step ((exact fun _=>rfl))
  refine wpQuiet_nil ?_
  refine wpGrow_call rfl (.int .i64 L) (fun u hu=>?_) ?_
  · go_simp
    refine (length_calls (a*b) 18 x 18 u (by omega) (HCX.out u hu)).mono ?_
    rintro e w'' ⟨rfl,rfl⟩
    exact ⟨by rw [HL.out],grows_refl _⟩
  simp only [Act.put,List.setIfInBounds_toArray,List.set_cons_zero,List.set_cons_succ]
  refine wpGrow_plain 1 (by rfl) ?_
  simp only [List.take_succ_cons,List.take_zero,List.drop_succ_cons,List.drop_zero]
  have hLI:((L:Nat):Int)≤18:=by omega
  go_big_quiet_step ((exact fun _=>rfl))
  refine wpQuiet_nil ?_
  refine wpGrow_call rfl (.tuple #[.agg (wc (a*b / m)),.agg (nc (a*b%m))]) (fun u hu=>?_) ?_
  · go_simp
    exact div_at d x (a*b) m L 18 u (HD4.out.up (gT _ _ _ (show Grows w4 w4.drew from (Below.refl _ _).drew) hu)) hL18 HLA.out (Nat.lt_of_lt_of_le (show x<w4.drew.heap.size from hxs) hu.size) (fun i hi=>HCX.out u hu i (by omega))
  simp only [Act.put,List.setIfInBounds_toArray,List.set_cons_zero,List.set_cons_succ]
  refine wpGrow_plain 3 (by rfl) ?_
  simp only [List.take_succ_cons,List.take_zero,List.drop_succ_cons,List.drop_zero]
  iterate 3 go_big_quiet_step ((exact fun _=>rfl))
  refine wpQuiet_nil ?_
  refine gN ?_
  refine grow_alloc2 (i:=11) (j:=12) (f:=2) (by kernel_rfl) (by decide) (by kernel_rfl) (by kernel_rfl) (by decide) (by decide) rfl rfl rfl rfl (fun _ h=>by cases h; decide) 154 27 rfl rfl (.agg (wc 0)) (.agg (nc 0)) (by rw [wc_zero]; kernel_rfl) (by rw [nZ]; kernel_rfl) ?_
  intro y z w5 hy hy5 hz hz5 hyz hg5 hhy hhz
  refine gS (rs:=[13]) (by kernel_rfl) (by decide) (fun w6 hg6=>?_)
  simp only [Act.put,List.setIfInBounds_toArray,List.set_cons_zero,List.set_cons_succ]
  refine wpAny_ready (rs:=[13]) (by kernel_rfl) (by simp) (AllReady.cons rfl (fun K hK=>?_) AllReady.nil)
  refine sK rfl 154 (.tmp 8) (.tmp 22) rfl y rfl _ _ _ rfl ((hg6.block y hy5).trans hhy) (by rw [wc_size]; kernel_rfl) (by rw [wc_size,vagg_cells,wc_size]) (wc_one _) (fun w7 hw7 hb7 hs7=>hK _ _ ?_)
  clear hK
  refine wpAny_ready (rs:=[14]) (by kernel_rfl) (by simp) (AllReady.cons rfl (fun K hK=>?_) AllReady.nil)
  refine sK rfl 27 (.tmp 9) (.tmp 23) rfl z rfl _ _ _ rfl (hb7.heap (by omega) ((hg6.block z hz5).trans hhz)) (by rw [nS]; kernel_rfl) (by rw [nS,vagg_cells,nS]) (nO _) (fun w8 hw8 hb8 hs8=>hK _ _ ?_)
  clear hK
  refine wpAny_done (by kernel_rfl) ?_ _
  have hg4:g+1+1+1<w4.heap.size:=(Array.getElem?_eq_some_iff.mp J4.out).1
  have hy':w4.heap.size≤y:=hy
  have hz':w4.heap.size≤z:=hz
  have G4:=Hd (hb8.heap (by omega) (hb7.heap (by omega) ((hg6.block _ (Nat.lt_of_lt_of_le (show g+1+1+1<w4.drew.heap.size from hg4) hg5.size)).trans ((hg5.block _ (show g+1+1+1<w4.drew.heap.size from hg4)).trans (show w4.drew.heap[g+1+1+1]?=_ from J4.out)))))
  have GZ:=Hd hw8
  have hgw:w4.heap.size≤w5.heap.size:=hg5.size
  have B6:Below g w w6:=((HB4.out.drew).trans (hg5.mono (by show g≤w4.heap.size; omega))).trans (hg6.mono (by omega))
  have B7:Below g w w7:=But.below B6 hb7 (by omega) (by have:=hg6.size; omega)
  have B8:=Hd (show Below g w w8 from But.below B7 hb8 (by omega) (by have:=hg6.size; omega))
  clear hg5 hg6 hb7 hb8 hs7 hs8 hhy hhz hw7 hw8 B6 B7
  simp only [Act.put,List.setIfInBounds_toArray,List.set_cons_zero,List.set_cons_succ,List.getElem_toArray,List.getElem_cons_succ,List.getElem_cons_zero]
  go_wp2_with (first
    | (refine l0N rfl (.tmp 9) rfl z rfl GZ.out ?_)
    | (refine wpN_store0 rfl (.tmp 6) (.tmp 24) rfl (g+1+1+1) rfl G4.out _ rfl (nS _) ?_
       intro w9 hw9 hb9 hs9
       have G9:=Hd hw9
       have B9:Below g w w9:=But.below B8.out hb9 (by omega) (Nat.le_trans hgs B8.out.size)
       clear hw9 hb9 hs9))
  refine bodyPost_ret (results_N rfl _ _ (g+1+1+1) _ _ _ rfl G9.out) rfl ⟨rfl,by rw [← HG.out]; exact B9⟩
end Go.Proofs.YtkoonhiplicbkaaGreat.Cw
namespace Go.Proofs.YtkoonhiplicbkaaGreat.Cw
open Go Go.RowKit
attribute [local go_sem ↓ high] wn_eql wn_neq wn_lss wn_gtr wn_leq wn_geq wn_cells wRS wn_guard lit0 lit1
attribute [local go_sem high] wn_match wRS wn_eql wn_neq wn_lss wn_gtr wn_leq wn_geq
theorem norm_ok (m:Nat) (hm0:m≠0) (hm:m<pw 9):wds m≤9∧1≤wds m∧64 - bl (dig m (wds m - 1))≤63∧m*2 ^ (64 - bl (dig m (wds m - 1)))<pw (wds m)∧9223372036854775808≤dig (m*2 ^ (64 - bl (dig m (wds m - 1)))) (wds m - 1):=by
  have h9:=usedN_le m 9
  have h0:=usedN_zero m 9 hm
  have hlt:=usedN_lt m 9 hm
  have htop:=usedN_top m 9
  change wds m≤9 at h9
  change wds m=0↔m=0 at h0
  change m<pw (wds m) at hlt
  change wds m≠0→dig m (wds m - 1)≠0 at htop
  obtain ⟨k,hk⟩:∃ k,wds m=k+1:=⟨wds m - 1,by have:wds m≠0:=fun h=>hm0 (h0.1 h); omega⟩
  rw [hk] at h9 hlt htop ⊢
  rw [Nat.add_sub_cancel] at htop ⊢
  have ht:=htop (by omega)
  have hb:=bl_top m k hlt ht
  have hb1:=bl_lt m
  have hb2:=bl_ge m hm0
  have ht1:=bl_lt (dig m k)
  have ht2:=bl_ge (dig m k) ht
  have hd:=dig_lt m k
  have hb0:1≤bl (dig m k):=by
    rcases Nat.eq_zero_or_pos (bl (dig m k)) with h | h
    · rw [h] at ht1; omega
    · exact h
  have hb64:bl (dig m k)≤64:=by
    rcases Nat.lt_or_ge 64 (bl (dig m k)) with h | h
    · have:2 ^ 64≤2 ^ (bl (dig m k) - 1):=Nat.pow_le_pow_right (by decide) (by omega)
      have e:(2:Nat) ^ 64=18446744073709551616:=rfl
      omega
    · exact h
  generalize bl (dig m k)=B at *
  have hS:0<2 ^ (64 - B):=Nat.pow_pos (by decide)
  have hD:m*2 ^ (64 - B)<pw (k+1):=by
    have h1:m*2 ^ (64 - B)<2 ^ bl m*2 ^ (64 - B):=Nat.mul_lt_mul_of_pos_right hb1 hS
    rw [← Nat.pow_add,hb,show 64*k+B+(64 - B)=64*(k+1) by omega,← pw_two] at h1
    exact h1
  refine ⟨h9,by omega,by omega,hD,?_⟩
  rw [← top_one _ k hD,Nat.le_div_iff_mul_le (pw_pos k)]
  have h1:2 ^ (bl m - 1)*2 ^ (64 - B)≤m*2 ^ (64 - B):=Nat.mul_le_mul_right _ hb2
  rw [← Nat.pow_add,hb,show 64*k+B - 1+(64 - B)=63+64*k by omega,Nat.pow_add,← pw_two] at h1
  exact h1
theorem div_of (m g:Nat) (w:World) (hm0:m≠0) (hm:m<pw 9) {t:TypeId} {fr:Nat × Nat} (h:w.heap[g]?=some (.cells (nc m) t fr)) :
    Calls Tryz.prog 84 #[.pointer (some ⟨g,0,none⟩)] w fun e w'=>∃ d,e=.returned (.pointer (some ⟨d,0,none⟩))∧DivAt w' d m∧w.heap.size≤d∧Below w.heap.size w w':=by
  refine (divide_of m g w hm0 hm h).mono ?_
  rintro e w' ⟨d,he,hd,hs,hb⟩
  obtain ⟨h1,h2,h3,h4,h5⟩:=norm_ok m hm0 hm
  exact ⟨d,he,⟨_,_,h1,h2,h3,h4,h5,hd⟩,hs,hb⟩
theorem div_by (m:Nat) (w:World) (hm0:m≠0) (hm:m<pw 9) :
    Calls Tryz.prog 42 #[.agg (nc m)] w fun e w'=>∃ d,e=.returned (.agg #[.pointer (some ⟨d,0,none⟩)])∧DivAt w' d m∧w.heap.size≤d∧Below w.heap.size w w':=by
  have hof:=fun g w (h:w.heap[g]?=_)=>div_of m g w hm0 hm (t:=27) (fr:=(0,0)) h
  have HO:=Hd hof
  clear hof hm0 hm
  go_enter Tryz.func42,Tryz.ntmps42
  go_upto_region 1 with fail
  obtain ⟨k1,k2,b1⟩:=al2 w (.cells (nc m) 27) (.cells #[.pointer none] 92)
  obtain ⟨w1,hw1⟩:∃ w1:World,w1=((w.alloc (.cells (nc m) 27)).alloc (.cells #[.pointer none] 92)):=⟨_,rfl⟩
  rw [← hw1] at k1 k2 b1 ⊢
  clear hw1
  obtain ⟨g,hg⟩:∃ g,g=w.heap.size:=⟨_,rfl⟩
  rw [← hg] at k1 k2 b1 ⊢
  have HG:=Hd hg
  have K1:=Hd k1
  have K2:=Hd k2
  have hs1:g+1<w1.heap.size:=(Array.getElem?_eq_some_iff.mp k2).1
  have hgs:g≤w.heap.size:=by omega
  clear hg k1 k2
  go_wp2_with (first
    | (go_at_call 84; refine (HO.out g _ K1.out).mono ?_; rintro e w2 ⟨d,rfl,hd2,hds,hb2⟩
       have hdlt:=hd2.lt
       have J2:=Hd ((hb2.block _ hs1).trans K2.out)
       have HD2:=Hd hd2
       have B2:=Hd (show Below g w w2 from Below.trans b1 (hb2.mono (by omega)))
       have hsz2:=hb2.size
       clear hd2 hb2)
    | (refine wpList_built rfl 92 #[(0,.tmp 3)] rfl #[.pointer (some ⟨d,0,none⟩)] (by kernel_rfl) ?_)
    | (refine sB rfl 92 (.tmp 2) (.tmp 4) rfl (g+1) rfl _ _ #[.pointer (some ⟨d,0,none⟩)] rfl J2.out (by kernel_rfl) (by rfl) (by intro u hu; simp at hu; subst hu; rfl) ?_
       intro w3 hw3 hb3 hs3
       have J3:=Hd hw3
       have B3:=Hd (But.below B2.out hb3 (by omega) (by omega))
       have HD3:=Hd (show DivAt w3 d m by
         obtain ⟨n,s,e1,e2,e3,e4,e5,e6⟩:=HD2.out
         exact ⟨n,s,e1,e2,e3,e4,e5,hb3.heap (by omega) e6⟩)
       clear hw3 hb3))
  refine bodyPost_ret (results_blk rfl _ _ (g+1) _ #[.pointer (some ⟨d,0,none⟩)] _ _ rfl J3.out Tryz.underlying92 rfl (by kernel_rfl)) rfl ⟨d,rfl,HD3.out,by have:=b1.size; have:=HG.out; omega,by rw [← HG.out]; exact B3.out⟩
end Go.Proofs.YtkoonhiplicbkaaGreat.Cw
namespace Go.Proofs.YtkoonhiplicbkaaGreat.Cw
open Go Go.RowKit
section
variable {P:Program} {ops:Array Oper} {Q:Exit→Act→World→Prop} {md:Region.Mode}
theorem grow_take {m g k:Nat} {listed:Array Bool} {a:Act} {w:World} {o:Oper} (v:Value) (h0:ops[k]?=some o) (hs:Region.noSelect ops=true) (hB:growHead md ops m 1 k listed=true)
    (hQ:∀ d v c a w,Q (.panic c) (a.put d v) w→Q (.panic c) a w) (hgd:o.guard=none) (hy:∀ u,Grows w u→o.quietAt P a (Grows u) u v)
    (H:wpAnyR P md ops Q Grows m g (listed.setIfInBounds k true) (a.put o.dst v) w):wpAnyR P md ops Q Grows m (g+1) listed a w:=by
  have:=wpAnyR_head (md:=md) (Q:=Q) (m:=m) (g:=g) (w:=w) (L:=fun a'=>a'=a.put o.dst v) grows_refl gT hs hQ [o] k listed a (fun j hj=>by
    have hj0:j=0:=by simpa using hj
    subst hj0
    simpa using h0.symm) hB (wpGrow_call hgd v hy (gN rfl)) (fun a' h'=>by rw [h']; exact H)
  rw [show [o].length+g=g+1 by simp; omega] at this
  exact this
def GAll (P:Program) (md:Region.Mode) (ops:Array Oper) (Q:Exit→Act→World→Prop) (m f:Nat) (listed:Array Bool) (a:Act) (w1:World) (rs:List Nat):Prop:=
  ∀ i ∈ rs,i<m∧wpOp P ops Q i (fun a' w'=>Grows w1 w'∧wpAnyR P md ops Q Grows m f (listed.setIfInBounds i true) a' w') a w1
theorem GAll.nil {m f:Nat} {listed:Array Bool} {a:Act} {w1:World}:GAll P md ops Q m f listed a w1 []:=fun _ h=>by cases h
theorem GAll.cons {m f i:Nat} {listed:Array Bool} {a:Act} {w1:World} {rs:List Nat} {o:Oper} (him:i<m) (ho:ops[i]?=some o)
    (h:∀ K:Act→World→Prop,(∀ a' w',Grows w1 w'→wpAnyR P md ops Q Grows m f (listed.setIfInBounds i true) a' w'→K a' w')→if Region.wanted o (yielded ops a.tmps)=true then Oper.wp P o a w1 K Q else K (a.put o.dst undef) w1)
    (hs:GAll P md ops Q m f listed a w1 rs):GAll P md ops Q m f listed a w1 (i::rs):=fun j hj=>by
  rcases List.mem_cons.1 hj with rfl | hj
  · exact ⟨him,wpOp_step ho fun K hK=>h K fun a' w' h1 h2=>hK a' w' ⟨h1,h2⟩⟩
  · exact hs j hj
theorem GAll.alloc {m f i:Nat} {listed:Array Bool} {a:Act} {w1:World} {rs:List Nat} {o:Oper} (him:i<m) (ho:ops[i]?=some o) (hgd:o.guard=none) (t:TypeId) (hop:o.op=.alloc t) (z:Value) (hz:(P.info? t).map (·.zero)=some (some z))
    (h:∀ x w',w1.heap.size=x→x<w'.heap.size→Grows w1 w'→w'.heap[x]?=some (.cells z.cells t)→wpAnyR P md ops Q Grows m f (listed.setIfInBounds i true) (a.put o.dst (.pointer (some ⟨x,0,none⟩))) w')
    (hs:GAll P md ops Q m f listed a w1 rs):GAll P md ops Q m f listed a w1 (i::rs):=fun j hj=>by
  rcases List.mem_cons.1 hj with rfl | hj
  · exact ⟨him,wpOp_alloc ho hgd t hop z hz ⟨grows_alloc _ _,h _ _ rfl (by simp) (grows_alloc _ _) (new1 _ _)⟩⟩
  · exact hs j hj
theorem grow_ready {m f:Nat} {listed:Array Bool} {a:Act} {w:World} {rs:List Nat} (hrd:Region.ready md ops listed=rs) (hne:rs≠[]) (h:∀ w1,Grows w w1→GAll P md ops Q m f listed a w1 rs):wpAnyR P md ops Q Grows m (f+1) listed a w:=by
  intro w1 hw1
  rw [hrd]
  exact ⟨fun h0=>absurd h0 hne,fun i hi=>⟨fun h3=>absurd h3 (by have:=(h w1 hw1 i hi).1; omega),fun _=>(h w1 hw1 i hi).2⟩⟩
end
end Go.Proofs.YtkoonhiplicbkaaGreat.Cw
namespace Go.Proofs.YtkoonhiplicbkaaGreat.Cw
open Go Go.RowKit
attribute [local go_sem ↓ high] wn_eql wn_neq wn_lss wn_gtr wn_leq wn_geq wn_cells wRS wn_guard lit0 lit1
attribute [local go_sem high] wn_match wRS wn_eql wn_neq wn_lss wn_gtr wn_leq wn_geq
theorem run_built_op {P:Program} {o:Oper} {a:Act} {w:World} (t:TypeId) (parts:Array (Nat × Operand)) (ho:o.op=.build t parts) (cells:Array Value) (hb:P.built t (parts.map fun (i,x)=>(i,a.eval x)).toList=some cells):(execOp a.eval o).run P w=.ok (.value (.agg cells)) w:=by
  unfold execOp
  simp only [ho,Sem.run_bind,run_build w t _ cells hb,Result.andThen_ok]
  rfl
theorem results_NN {fn:Func} {p q r:Tmp} (h:fn.results=#[.cell p 27,.cell q 27,.tmp r]) (tmps:Array Value) (w:World) (g g':Nat) (t t':TypeId) (n n':Nat) (fr fr':Nat × Nat) (v:Value)
    (hp:tmps.getD p undef=.pointer (some ⟨g,0,none⟩)) (hq:tmps.getD q undef=.pointer (some ⟨g',0,none⟩)) (hv:tmps.getD r undef=v) (hg:w.heap[g]?=some (.cells (nc n) t fr)) (hg':w.heap[g']?=some (.cells (nc n') t' fr')) :
    (results fn tmps).run Tryz.prog w=.ok (.tuple #[.agg (nc n),.agg (nc n'),v]) w:=by
  have hp':tmps[p]?.getD undef=.pointer (some ⟨g,0,none⟩):=by simpa using hp
  have hq':tmps[q]?.getD undef=.pointer (some ⟨g',0,none⟩):=by simpa using hq
  have hv':tmps[r]?.getD undef=v:=by simpa using hv
  simp [results,h,hp',hq',hv',asAddr,run_load_seg w g 0 9 t 27 (nc n) (nc n) fr _ hg Tryz.underlying27 rfl (by kernel_rfl) (nS n) (fun j _=>by rw [Nat.zero_add]),run_load_seg w g' 0 9 t' 27 (nc n') (nc n') fr' _ hg' Tryz.underlying27 rfl (by kernel_rfl) (nS n') (fun j _=>by rw [Nat.zero_add])]
theorem div_div (a m:Nat) (w:World) (ha:a<pw 9) (hm:m<pw 9) (hm0:m≠0):Calls Tryz.prog 46 #[.agg (nc a),.agg (nc m)] w fun e w'=>e=.returned (.tuple #[.agg (nc (a / m)),.agg (nc (a%m)),.int .i64 0])∧Below w.heap.size w w':=by
  have HA:=Hd ha
  have hdz:decide (m=0)=false:=decide_eq_false hm0
  have hzr:=fun g (w:World) (h:w.heap[g]?=_)=>divide_zero m g w hm (t:=27) (fr:=(0,0)) h
  rw [hdz] at hzr
  have hof:=fun g (w:World) (h:w.heap[g]?=_)=>div_of m g w hm0 hm (t:=27) (fr:=(0,0)) h
  have HZ:=Hd hzr
  have HO:=Hd hof
  clear ha hm hm0 hdz hzr hof
  go_enter Tryz.func46,Tryz.ntmps46
  go_upto_region 1 with fail
  rw [← nZ]
  obtain ⟨k1,k2,k3,k4,b1⟩:=al4 w (.cells (nc a) 27) (.cells (nc m) 27) (.cells (nc 0) 27) (.cells (nc 0) 27)
  obtain ⟨w1,hw1⟩:∃ w1:World,w1=((((w.alloc (.cells (nc a) 27)).alloc (.cells (nc m) 27)).alloc (.cells (nc 0) 27)).alloc (.cells (nc 0) 27)):=⟨_,rfl⟩
  rw [← hw1] at k1 k2 k3 k4 b1 ⊢
  clear hw1
  obtain ⟨g,hg⟩:∃ g,g=w.heap.size:=⟨_,rfl⟩
  rw [← hg] at k1 k2 k3 k4 b1 ⊢
  have hgs:g≤w.heap.size:=by omega
  have HG:=Hd hg
  have K1:=Hd k1
  have K2:=Hd k2
  have K3:=Hd k3
  have K4:=Hd k4
  have HB1:=Hd b1
  have hs1:g+1+1+1<w1.heap.size:=(Array.getElem?_eq_some_iff.mp k4).1
  clear hg k1 k2 k3 k4 b1
  go_upto_region 3 with (go_at_call 41; refine (HZ.out (g+1) _ K2.out).mono ?_; rintro e w2 ⟨rfl,rfl⟩)
  rename_i Q' K0 hK0
  have rest:∀ (y z d:Nat) (u:World),Below g w u→u.heap[g+1+1]?=some (.cells (nc 0) 27 (0,0))→u.heap[g+1+1+1]?=some (.cells (nc 0) 27 (0,0))→u.heap[y]?=some (.cells (wc (a / m)) 154 (0,0))→u.heap[z]?=some (.cells (nc (a%m)) 27 (0,0))→g+1+1+1<y→g+1+1+1<z →
      K0 { tmps:=#[.agg (nc a),.agg (nc m),.pointer (some ⟨g,0,none⟩),.pointer (some ⟨g+1,0,none⟩),.pointer (some ⟨g+1+1,0,none⟩),.pointer (some ⟨g+1+1+1,0,none⟩),.int .i64 0,.pointer (some ⟨y,0,none⟩),.pointer (some ⟨z,0,none⟩),.bool false,undef,undef,.tuple #[.agg (wc (a / m)),.agg (nc (a%m))],.pointer (some ⟨d,0,none⟩),.pointer (some ⟨g,0,none⟩),.slice (some ⟨g,0,none⟩) 9 9,.tuple #[.agg (wc (a / m)),.agg (nc (a%m))],.agg (wc (a / m)),.agg (nc (a%m)),undef,undef,undef,undef,undef,undef],defers:=[] } u:=by
    intro y z d u hbu q3 q4 qy qz hgy hgz
    refine hK0 _ _ ?_
    have Q3:=Hd q3
    have Q4:=Hd q4
    have QY:=Hd qy
    have QZ:=Hd qz
    clear q3 q4 qy qz
    go_upto_region 4 with fail
    refine wp_region_held (S:=fun w'=>w'.heap[y]?=some (.cells (wc (a / m)) 154 (0,0))∧w'.heap[z]?=some (.cells (nc (a%m)) 27 (0,0))) (by kernel_rfl) ?_
    have hS:u.drew.heap[y]?=some (.cells (wc (a / m)) 154 (0,0))∧u.drew.heap[z]?=some (.cells (nc (a%m)) 27 (0,0)):=⟨QY.out,QZ.out⟩
    refine wpAnyH_take (i:=0) (v:=.pointer (some ⟨y,0,none⟩)) rfl (by kernel_rfl) (by kernel_rfl) (by kernel_rfl) (fun _ _ _ h=>h) (.inl ⟨by rfl,fun w' hw'=>?_⟩) hS ?_
    · rfl
    simp only [Act.put,List.setIfInBounds_toArray,List.set_cons_zero,List.set_cons_succ,List.getElem_toArray,List.getElem_cons_succ,List.getElem_cons_zero]
    refine wpAnyH_take (i:=1) (v:=.slice (some ⟨y,0,none⟩) 9 18) rfl (by kernel_rfl) (by kernel_rfl) (by kernel_rfl) (fun _ _ _ h=>h) (.inl ⟨by rfl,fun w' hw'=>?_⟩) hS ?_
    · go_simp
    simp only [Act.put,List.setIfInBounds_toArray,List.set_cons_zero,List.set_cons_succ,List.getElem_toArray,List.getElem_cons_succ,List.getElem_cons_zero]
    refine wpAnyH_take (i:=2) (v:=.pointer (some ⟨y,0,none⟩)) rfl (by kernel_rfl) (by kernel_rfl) (by kernel_rfl) (fun _ _ _ h=>h) (.inl ⟨by rfl,fun w' hw'=>?_⟩) hS ?_
    · simp [execOp,Instr.arrayAt,Act.eval,Sem.run_bind,run_underlying Tryz.underlying25 w']
    simp only [Act.put,List.setIfInBounds_toArray,List.set_cons_zero,List.set_cons_succ,List.getElem_toArray,List.getElem_cons_succ,List.getElem_cons_zero]
    refine wpAnyH_take (i:=3) (v:=.agg (nc (a / m))) rfl (by kernel_rfl) (by kernel_rfl) (by kernel_rfl) (fun _ _ _ h=>h) (.inl ⟨by rfl,fun w' hw'=>?_⟩) hS ?_
    · unfold execOp
      simp only [Act.eval,Instr.loadAt,Instr.sureAddr,Sem.run_bind,Sem.run_pure,Result.andThen_ok]
      have:=run_load_seg (P:=Tryz.prog) w' y 0 9 _ 25 (wc (a / m)) (nc (a / m)) _ _ hw'.1 Tryz.underlying25 rfl (by kernel_rfl) (nS _) (fun j hj=>by rw [Nat.zero_add,wc_get _ _ (by omega),nc_get _ _ hj])
      simp [this]
    simp only [Act.put,List.setIfInBounds_toArray,List.set_cons_zero,List.set_cons_succ,List.getElem_toArray,List.getElem_cons_succ,List.getElem_cons_zero]
    refine wpAnyH_take (i:=4) (v:=.agg (nc (a / m))) rfl (by kernel_rfl) (by kernel_rfl) (by kernel_rfl) (fun _ _ _ h=>h) (.inl ⟨by rfl,fun w' hw'=>?_⟩) hS ?_
    · exact run_built_op 27 #[(0,.tmp 22)] rfl (nc (a / m)) (by kernel_rfl)
    simp only [Act.put,List.setIfInBounds_toArray,List.set_cons_zero,List.set_cons_succ,List.getElem_toArray,List.getElem_cons_succ,List.getElem_cons_zero]
    refine wpAnyH_take (i:=5) (v:=.agg (nc (a%m))) rfl (by kernel_rfl) (by kernel_rfl) (by kernel_rfl) (fun _ _ _ h=>h) (.inl ⟨by rfl,fun w' hw'=>?_⟩) hS ?_
    · unfold execOp
      simp only [Act.eval,Instr.loadAt,Instr.sureAddr,Sem.run_bind,Sem.run_pure,Result.andThen_ok]
      have:=run_load_seg (P:=Tryz.prog) w' z 0 9 _ 27 (nc (a%m)) (nc (a%m)) _ _ hw'.2 Tryz.underlying27 rfl (by kernel_rfl) (nS _) (fun j hj=>by rw [Nat.zero_add])
      simp [this]
    simp only [Act.put,List.setIfInBounds_toArray,List.set_cons_zero,List.set_cons_succ,List.getElem_toArray,List.getElem_cons_succ,List.getElem_cons_zero]
    refine wpAnyH_all (rs:=[6]) (by kernel_rfl) (by simp) (fun i hi=>?_)
    obtain rfl:i=6:=by simpa using hi
    refine wpOp_step rfl (fun K hK=>?_)
    refine sK rfl 27 (.tmp 4) (.tmp 23) rfl (g+1+1) rfl _ _ _ rfl (show u.drew.heap[g+1+1]?=_ from Q3.out) (by rw [nS]; kernel_rfl) (by rw [nS,nS]) (nO _) (fun w7 hw7 hb7 hs7=>hK _ _ ⟨⟨hb7.heap (by omega) hS.1,hb7.heap (by omega) hS.2⟩,?_⟩)
    clear hK
    refine wpAnyH_all (rs:=[7]) (by kernel_rfl) (by simp) (fun i hi=>?_)
    obtain rfl:i=7:=by simpa using hi
    refine wpOp_step rfl (fun K hK=>?_)
    have q47:=hb7.heap (by omega:g+1+1+1≠g+1+1) (show u.drew.heap[g+1+1+1]?=_ from Q4.out)
    refine sK rfl 27 (.tmp 5) (.tmp 24) rfl (g+1+1+1) rfl _ _ _ rfl q47 (by rw [nS]; kernel_rfl) (by rw [nS,nS]) (nO _) (fun w8 hw8 hb8 hs8=>hK _ _ ⟨⟨hb8.heap (by omega) (hb7.heap (by omega) hS.1),hb8.heap (by omega) (hb7.heap (by omega) hS.2)⟩,?_⟩)
    clear hK
    refine wpAnyH_all (rs:=[8]) (by kernel_rfl) (by simp) (fun i hi=>?_)
    obtain rfl:i=8:=by simpa using hi
    refine wpOp_step rfl (fun K hK=>?_)
    go_simp
    refine hK _ _ ⟨⟨hb8.heap (by omega) (hb7.heap (by omega) hS.1),hb8.heap (by omega) (hb7.heap (by omega) hS.2)⟩,?_⟩
    clear hK
    refine wpAnyH_done (by kernel_rfl) ?_ _
    have F1:=Hd (hb8.heap (by omega:g+1+1≠g+1+1+1) hw7)
    have F2:=Hd hw8
    have B7:Below g w w7:=But.below hbu.drew hb7 (by omega) (Nat.le_trans hgs hbu.size)
    have B8:=Hd (show Below g w w8 from But.below B7 hb8 (by omega) (Nat.le_trans hgs B7.size))
    clear hb7 hb8 hw7 hw8 q47 hs7 hs8 B7
    try simp only [Act.put,s_,t_,u_,v_,x_,y_]
    go_wp2_with (fail)
    refine bodyPost_ret (results_NN rfl _ _ (g+1+1) (g+1+1+1) _ _ _ _ _ _ _ rfl rfl rfl F1.out F2.out) rfl ⟨rfl,by rw [← HG.out]; exact B8.out⟩
  have HREST:=Hd rest
  clear rest hK0
  have hcA:∀ u,Grows w1.drew u→∀ i,i<9→u.cell? ⟨g,i,none⟩=some (wn (dig a i)):=fun u hu i hi=>by rw [hu.cell (p:=⟨g,i,none⟩) (show g<w1.drew.heap.size by show g<w1.heap.size; omega)]; exact (cO K1.out i).trans (nc_get _ _ hi)
  have HCA:=Hd hcA
  clear hcA
  have hQQ:∀ (d:Option Tmp) (v:Value) (c:List PanicEntry) (a:Act) (w:World),Exit.then K0 Q' (.panic c) (a.put d v) w→Exit.then K0 Q' (.panic c) a w:=fun d v c a w h=>by cases d <;> exact h
  refine rGw 0 9 (by kernel_rfl) (by kernel_rfl) hQQ ?_
  refine gN ?_
  refine grow_take (k:=1) (g:=10) (.pointer (some ⟨g,0,none⟩)) rfl (by kernel_rfl) (by kernel_rfl) hQQ rfl (fun u hu=>by exact ⟨rfl,rfl⟩) ?_
  refine grow_take (k:=2) (g:=9) (.slice (some ⟨g,0,none⟩) 9 9) rfl (by kernel_rfl) (by kernel_rfl) hQQ rfl (fun u hu=>by go_simp) ?_
  simp only [Act.put,List.setIfInBounds_toArray,List.set_cons_zero,List.set_cons_succ,List.getElem_toArray,List.getElem_cons_succ,List.getElem_cons_zero]
  refine grow_ready (rs:=[0,7,8]) (by kernel_rfl) (by simp) (fun u1 hG1=>?_)
  refine GAll.cons (by decide) rfl (fun K hK=>?_) (GAll.alloc (by decide) rfl rfl 154 rfl (.agg (wc 0)) (by rw [wc_zero]; kernel_rfl) ?_ (GAll.alloc (by decide) rfl rfl 27 rfl (.agg (nc 0)) (by rw [nZ]; kernel_rfl) ?_ GAll.nil))
  · go_simp
    refine (HO.out (g+1) _ ((hG1.block _ (show g+1<w1.heap.size by omega)).trans K2.out)).mono ?_
    rintro e u ⟨d,rfl,hd,hds,hb⟩
    refine hK _ _ hb ?_
    clear hK K
    have hGu:Grows w1.drew u:=gT _ _ _ hG1 hb
    try simp only [Act.put,s_,t_,u_,v_,x_,y_]
    refine grow_take (k:=3) (g:=7) (.tuple #[.agg (wc (a / m)),.agg (nc (a%m))]) rfl (by kernel_rfl) (by kernel_rfl) hQQ rfl (fun u' hu'=>by go_simp; exact div_at d g a m 9 9 u' (hd.up hu') (by omega) HA.out (Nat.lt_of_lt_of_le (show g<w1.heap.size by omega) (gT _ _ _ hGu hu').size) (HCA.out u' (gT _ _ _ hGu hu'))) ?_
    simp only [Act.put,List.setIfInBounds_toArray,List.set_cons_zero,List.set_cons_succ,List.getElem_toArray,List.getElem_cons_succ,List.getElem_cons_zero]
    refine grow_take (k:=4) (g:=6) (.tuple #[.agg (wc (a / m)),.agg (nc (a%m))]) rfl (by kernel_rfl) (by kernel_rfl) hQQ rfl (fun u' _=>by exact ⟨rfl,rfl⟩) ?_
    simp only [Act.put,List.setIfInBounds_toArray,List.set_cons_zero,List.set_cons_succ,List.getElem_toArray,List.getElem_cons_succ,List.getElem_cons_zero]
    refine grow_take (k:=5) (g:=5) (.agg (wc (a / m))) rfl (by kernel_rfl) (by kernel_rfl) hQQ rfl (fun u' _=>by exact ⟨rfl,rfl⟩) ?_
    simp only [Act.put,List.setIfInBounds_toArray,List.set_cons_zero,List.set_cons_succ,List.getElem_toArray,List.getElem_cons_succ,List.getElem_cons_zero]
    refine grow_take (k:=6) (g:=4) (.agg (nc (a%m))) rfl (by kernel_rfl) (by kernel_rfl) hQQ rfl (fun u' _=>by exact ⟨rfl,rfl⟩) ?_
    simp only [Act.put,List.setIfInBounds_toArray,List.set_cons_zero,List.set_cons_succ,List.getElem_toArray,List.getElem_cons_succ,List.getElem_cons_zero]
    refine grow_alloc2 (i:=7) (j:=8) (f:=2) (by kernel_rfl) (by decide) (by kernel_rfl) (by kernel_rfl) (by decide) (by decide) rfl rfl rfl rfl (fun _ h=>by cases h; decide) 154 27 rfl rfl (.agg (wc 0)) (.agg (nc 0)) (by rw [wc_zero]; kernel_rfl) (by rw [nZ]; kernel_rfl) ?_
    intro y z v hyl hyV hzl hzV hyz hgv hhy hhz
    have hGV:Grows w1.drew v:=gT _ _ _ hGu hgv
    have hyl':w1.heap.size≤y:=Nat.le_trans (show w1.drew.heap.size≤u.heap.size from hGu.size) hyl
    have hzl':w1.heap.size≤z:=Nat.le_trans (show w1.drew.heap.size≤u.heap.size from hGu.size) hzl
    refine gS (rs:=[9]) (by kernel_rfl) (by decide) (fun w6 hg6=>?_)
    simp only [Act.put,List.setIfInBounds_toArray,List.set_cons_zero,List.set_cons_succ,List.getElem_toArray,List.getElem_cons_succ,List.getElem_cons_zero]
    refine wpAny_ready (rs:=[9]) (by kernel_rfl) (by simp) (AllReady.cons rfl (fun K hK=>?_) AllReady.nil)
    refine sK rfl 154 (.tmp 7) (.tmp 17) rfl y rfl _ _ _ rfl ((hg6.block y hyV).trans hhy) (by rw [wc_size]; kernel_rfl) (by rw [wc_size,vagg_cells,wc_size]) (wc_one _) (fun w7 hw7 hb7 hs7=>hK _ _ ?_)
    clear hK
    refine wpAny_ready (rs:=[10]) (by kernel_rfl) (by simp) (AllReady.cons rfl (fun K hK=>?_) AllReady.nil)
    refine sK rfl 27 (.tmp 8) (.tmp 18) rfl z rfl _ _ _ rfl (hb7.heap (by omega) ((hg6.block z hzV).trans hhz)) (by rw [nS]; kernel_rfl) (by rw [nS,vagg_cells,nS]) (nO _) (fun w8 hw8 hb8 hs8=>hK _ _ ?_)
    clear hK
    refine wpAny_done (by kernel_rfl) ?_ _
    have hGV6:=gT _ _ _ hGV hg6
    have B6:Below g w w6:=HB1.out.drew.trans (hGV6.mono (show g≤w1.heap.size by omega))
    have B7:Below g w w7:=But.below B6 hb7 (by omega) (by have:=hGV6.size; have:w1.drew.heap.size=w1.heap.size:=rfl; omega)
    have B8:Below g w w8:=But.below B7 hb8 (by omega) (by have:=hGV6.size; have:w1.drew.heap.size=w1.heap.size:=rfl; omega)
    simp only [Act.put,List.setIfInBounds_toArray,List.set_cons_zero,List.set_cons_succ,List.getElem_toArray,List.getElem_cons_succ,List.getElem_cons_zero]
    exact HREST.out y z d w8 B8 (hb8.heap (by omega) (hb7.heap (by omega) ((hGV6.block _ (show g+1+1<w1.heap.size by omega)).trans K3.out))) (hb8.heap (by omega) (hb7.heap (by omega) ((hGV6.block _ (show g+1+1+1<w1.heap.size by omega)).trans K4.out))) (hb8.heap (by omega) hw7) hw8 (by omega) (by omega)
  · intro y w2 hye hy2 hg2 hhy2
    have hG2:Grows w1.drew w2:=gT _ _ _ hG1 hg2
    have hyl':w1.heap.size≤y:=by rw [← hye]; exact hG1.size
    simp only [Act.put,List.setIfInBounds_toArray,List.set_cons_zero,List.set_cons_succ,List.getElem_toArray,List.getElem_cons_succ,List.getElem_cons_zero]
    refine grow_ready (rs:=[0,8]) (by kernel_rfl) (by simp) (fun u2 hu2=>?_)
    have hG3:=gT _ _ _ hG2 hu2
    have hy3:y<u2.heap.size:=Nat.lt_of_lt_of_le hy2 hu2.size
    have hhy3:=(hu2.block y hy2).trans hhy2
    refine GAll.cons (by decide) rfl (fun K hK=>?_) (GAll.alloc (by decide) rfl rfl 27 rfl (.agg (nc 0)) (by rw [nZ]; kernel_rfl) ?_ GAll.nil)
    · go_simp
      refine (HO.out (g+1) _ ((hG3.block _ (show g+1<w1.heap.size by omega)).trans K2.out)).mono ?_
      rintro e u ⟨d,rfl,hd,hds,hb⟩
      refine hK _ _ hb ?_
      clear hK K
      have hGu:Grows w1.drew u:=gT _ _ _ hG3 hb
      have hyU:=(hb.block y hy3).trans hhy3
      try simp only [Act.put,s_,t_,u_,v_,x_,y_]
      refine grow_take (k:=3) (g:=6) (.tuple #[.agg (wc (a / m)),.agg (nc (a%m))]) rfl (by kernel_rfl) (by kernel_rfl) hQQ rfl (fun u' hu'=>by go_simp; exact div_at d g a m 9 9 u' (hd.up hu') (by omega) HA.out (Nat.lt_of_lt_of_le (show g<w1.heap.size by omega) (gT _ _ _ hGu hu').size) (HCA.out u' (gT _ _ _ hGu hu'))) ?_
      simp only [Act.put,List.setIfInBounds_toArray,List.set_cons_zero,List.set_cons_succ,List.getElem_toArray,List.getElem_cons_succ,List.getElem_cons_zero]
      refine grow_take (k:=4) (g:=5) (.tuple #[.agg (wc (a / m)),.agg (nc (a%m))]) rfl (by kernel_rfl) (by kernel_rfl) hQQ rfl (fun u' _=>by exact ⟨rfl,rfl⟩) ?_
      simp only [Act.put,List.setIfInBounds_toArray,List.set_cons_zero,List.set_cons_succ,List.getElem_toArray,List.getElem_cons_succ,List.getElem_cons_zero]
      refine grow_take (k:=5) (g:=4) (.agg (wc (a / m))) rfl (by kernel_rfl) (by kernel_rfl) hQQ rfl (fun u' _=>by exact ⟨rfl,rfl⟩) ?_
      simp only [Act.put,List.setIfInBounds_toArray,List.set_cons_zero,List.set_cons_succ,List.getElem_toArray,List.getElem_cons_succ,List.getElem_cons_zero]
      refine grow_take (k:=6) (g:=3) (.agg (nc (a%m))) rfl (by kernel_rfl) (by kernel_rfl) hQQ rfl (fun u' _=>by exact ⟨rfl,rfl⟩) ?_
      simp only [Act.put,List.setIfInBounds_toArray,List.set_cons_zero,List.set_cons_succ,List.getElem_toArray,List.getElem_cons_succ,List.getElem_cons_zero]
      refine grow_alloc (i:=8) (f:=2) (by kernel_rfl) (by decide) rfl rfl 27 rfl (.agg (nc 0)) (by rw [nZ]; kernel_rfl) ?_
      intro z v hzl hzV hgv hhz
      have hGV:Grows w1.drew v:=gT _ _ _ hGu hgv
      have hxu:y<u.heap.size:=(Array.getElem?_eq_some_iff.mp hyU).1
      have hyV:y<v.heap.size:=Nat.lt_of_lt_of_le hxu hgv.size
      have hhy:=(hgv.block y hxu).trans hyU
      have hyz:y≠z:=by omega
      have hzl':w1.heap.size≤z:=Nat.le_trans (show w1.drew.heap.size≤u.heap.size from hGu.size) hzl
      refine gS (rs:=[9]) (by kernel_rfl) (by decide) (fun w6 hg6=>?_)
      simp only [Act.put,List.setIfInBounds_toArray,List.set_cons_zero,List.set_cons_succ,List.getElem_toArray,List.getElem_cons_succ,List.getElem_cons_zero]
      refine wpAny_ready (rs:=[9]) (by kernel_rfl) (by simp) (AllReady.cons rfl (fun K hK=>?_) AllReady.nil)
      refine sK rfl 154 (.tmp 7) (.tmp 17) rfl y rfl _ _ _ rfl ((hg6.block y hyV).trans hhy) (by rw [wc_size]; kernel_rfl) (by rw [wc_size,vagg_cells,wc_size]) (wc_one _) (fun w7 hw7 hb7 hs7=>hK _ _ ?_)
      clear hK
      refine wpAny_ready (rs:=[10]) (by kernel_rfl) (by simp) (AllReady.cons rfl (fun K hK=>?_) AllReady.nil)
      refine sK rfl 27 (.tmp 8) (.tmp 18) rfl z rfl _ _ _ rfl (hb7.heap (by omega) ((hg6.block z hzV).trans hhz)) (by rw [nS]; kernel_rfl) (by rw [nS,vagg_cells,nS]) (nO _) (fun w8 hw8 hb8 hs8=>hK _ _ ?_)
      clear hK
      refine wpAny_done (by kernel_rfl) ?_ _
      have hGV6:=gT _ _ _ hGV hg6
      have B6:Below g w w6:=HB1.out.drew.trans (hGV6.mono (show g≤w1.heap.size by omega))
      have B7:Below g w w7:=But.below B6 hb7 (by omega) (by have:=hGV6.size; have:w1.drew.heap.size=w1.heap.size:=rfl; omega)
      have B8:Below g w w8:=But.below B7 hb8 (by omega) (by have:=hGV6.size; have:w1.drew.heap.size=w1.heap.size:=rfl; omega)
      simp only [Act.put,List.setIfInBounds_toArray,List.set_cons_zero,List.set_cons_succ,List.getElem_toArray,List.getElem_cons_succ,List.getElem_cons_zero]
      exact HREST.out y z d w8 B8 (hb8.heap (by omega) (hb7.heap (by omega) ((hGV6.block _ (show g+1+1<w1.heap.size by omega)).trans K3.out))) (hb8.heap (by omega) (hb7.heap (by omega) ((hGV6.block _ (show g+1+1+1<w1.heap.size by omega)).trans K4.out))) (hb8.heap (by omega) hw7) hw8 (by omega) (by omega)
    · intro z w4 hze hz4 hg4 hhz4
      have hG4:Grows w1.drew w4:=gT _ _ _ hG3 hg4
      have hzl':w1.heap.size≤z:=by rw [← hze]; exact hG3.size
      have hyz:y≠z:=by omega
      have hy4:y<w4.heap.size:=Nat.lt_of_lt_of_le hy3 hg4.size
      have hhy4:=(hg4.block y hy3).trans hhy3
      simp only [Act.put,List.setIfInBounds_toArray,List.set_cons_zero,List.set_cons_succ,List.getElem_toArray,List.getElem_cons_succ,List.getElem_cons_zero]
      refine grow_ready (rs:=[0]) (by kernel_rfl) (by simp) (fun u4 hu4=>?_)
      have hG5:=gT _ _ _ hG4 hu4
      refine GAll.cons (by decide) rfl (fun K hK=>?_) GAll.nil
      go_simp
      refine (HO.out (g+1) _ ((hG5.block _ (show g+1<w1.heap.size by omega)).trans K2.out)).mono ?_
      rintro e u ⟨d,rfl,hd,hds,hb⟩
      refine hK _ _ hb ?_
      clear hK K
      have hGu:Grows w1.drew u:=gT _ _ _ hG5 hb
      try simp only [Act.put,s_,t_,u_,v_,x_,y_]
      refine grow_take (k:=3) (g:=5) (.tuple #[.agg (wc (a / m)),.agg (nc (a%m))]) rfl (by kernel_rfl) (by kernel_rfl) hQQ rfl (fun u' hu'=>by go_simp; exact div_at d g a m 9 9 u' (hd.up hu') (by omega) HA.out (Nat.lt_of_lt_of_le (show g<w1.heap.size by omega) (gT _ _ _ hGu hu').size) (HCA.out u' (gT _ _ _ hGu hu'))) ?_
      simp only [Act.put,List.setIfInBounds_toArray,List.set_cons_zero,List.set_cons_succ,List.getElem_toArray,List.getElem_cons_succ,List.getElem_cons_zero]
      refine grow_take (k:=4) (g:=4) (.tuple #[.agg (wc (a / m)),.agg (nc (a%m))]) rfl (by kernel_rfl) (by kernel_rfl) hQQ rfl (fun u' _=>by exact ⟨rfl,rfl⟩) ?_
      simp only [Act.put,List.setIfInBounds_toArray,List.set_cons_zero,List.set_cons_succ,List.getElem_toArray,List.getElem_cons_succ,List.getElem_cons_zero]
      refine grow_take (k:=5) (g:=3) (.agg (wc (a / m))) rfl (by kernel_rfl) (by kernel_rfl) hQQ rfl (fun u' _=>by exact ⟨rfl,rfl⟩) ?_
      simp only [Act.put,List.setIfInBounds_toArray,List.set_cons_zero,List.set_cons_succ,List.getElem_toArray,List.getElem_cons_succ,List.getElem_cons_zero]
      refine grow_take (k:=6) (g:=2) (.agg (nc (a%m))) rfl (by kernel_rfl) (by kernel_rfl) hQQ rfl (fun u' _=>by exact ⟨rfl,rfl⟩) ?_
      simp only [Act.put,List.setIfInBounds_toArray,List.set_cons_zero,List.set_cons_succ,List.getElem_toArray,List.getElem_cons_succ,List.getElem_cons_zero]
      have hyV:y<u.heap.size:=Nat.lt_of_lt_of_le (Nat.lt_of_lt_of_le hy4 hu4.size) hb.size
      have hzV:z<u.heap.size:=Nat.lt_of_lt_of_le (Nat.lt_of_lt_of_le hz4 hu4.size) hb.size
      have hhy:=(hb.block y (Nat.lt_of_lt_of_le hy4 hu4.size)).trans ((hu4.block y hy4).trans hhy4)
      have hhz:=(hb.block z (Nat.lt_of_lt_of_le hz4 hu4.size)).trans ((hu4.block z hz4).trans hhz4)
      have hGV:=hGu
      refine gS (rs:=[9]) (by kernel_rfl) (by decide) (fun w6 hg6=>?_)
      try simp only [Act.put,s_,t_,u_,v_,x_,y_]
      refine wpAny_ready (rs:=[9]) (by kernel_rfl) (by simp) (AllReady.cons rfl (fun K hK=>?_) AllReady.nil)
      refine sK rfl 154 (.tmp 7) (.tmp 17) rfl y rfl _ _ _ rfl ((hg6.block y hyV).trans hhy) (by rw [wc_size]; kernel_rfl) (by rw [wc_size,vagg_cells,wc_size]) (wc_one _) (fun w7 hw7 hb7 hs7=>hK _ _ ?_)
      clear hK
      refine wpAny_ready (rs:=[10]) (by kernel_rfl) (by simp) (AllReady.cons rfl (fun K hK=>?_) AllReady.nil)
      refine sK rfl 27 (.tmp 8) (.tmp 18) rfl z rfl _ _ _ rfl (hb7.heap (by omega) ((hg6.block z hzV).trans hhz)) (by rw [nS]; kernel_rfl) (by rw [nS,vagg_cells,nS]) (nO _) (fun w8 hw8 hb8 hs8=>hK _ _ ?_)
      clear hK
      refine wpAny_done (by kernel_rfl) ?_ _
      have hGV6:=gT _ _ _ hGV hg6
      have B6:Below g w w6:=HB1.out.drew.trans (hGV6.mono (show g≤w1.heap.size by omega))
      have B7:Below g w w7:=But.below B6 hb7 (by omega) (by have:=hGV6.size; have:w1.drew.heap.size=w1.heap.size:=rfl; omega)
      have B8:Below g w w8:=But.below B7 hb8 (by omega) (by have:=hGV6.size; have:w1.drew.heap.size=w1.heap.size:=rfl; omega)
      simp only [Act.put,List.setIfInBounds_toArray,List.set_cons_zero,List.set_cons_succ,List.getElem_toArray,List.getElem_cons_succ,List.getElem_cons_zero]
      exact HREST.out y z d w8 B8 (hb8.heap (by omega) (hb7.heap (by omega) ((hGV6.block _ (show g+1+1<w1.heap.size by omega)).trans K3.out))) (hb8.heap (by omega) (hb7.heap (by omega) ((hGV6.block _ (show g+1+1+1<w1.heap.size by omega)).trans K4.out))) (hb8.heap (by omega) hw7) hw8 (by omega) (by omega)
  · intro z w2 hze hz2 hg2 hhz2
    have hG2:Grows w1.drew w2:=gT _ _ _ hG1 hg2
    have hzl':w1.heap.size≤z:=by rw [← hze]; exact hG1.size
    simp only [Act.put,List.setIfInBounds_toArray,List.set_cons_zero,List.set_cons_succ,List.getElem_toArray,List.getElem_cons_succ,List.getElem_cons_zero]
    refine grow_ready (rs:=[0,7]) (by kernel_rfl) (by simp) (fun u2 hu2=>?_)
    have hG3:=gT _ _ _ hG2 hu2
    have hz3:z<u2.heap.size:=Nat.lt_of_lt_of_le hz2 hu2.size
    have hhz3:=(hu2.block z hz2).trans hhz2
    refine GAll.cons (by decide) rfl (fun K hK=>?_) (GAll.alloc (by decide) rfl rfl 154 rfl (.agg (wc 0)) (by rw [wc_zero]; kernel_rfl) ?_ GAll.nil)
    · go_simp
      refine (HO.out (g+1) _ ((hG3.block _ (show g+1<w1.heap.size by omega)).trans K2.out)).mono ?_
      rintro e u ⟨d,rfl,hd,hds,hb⟩
      refine hK _ _ hb ?_
      clear hK K
      have hGu:Grows w1.drew u:=gT _ _ _ hG3 hb
      have hzU:=(hb.block z hz3).trans hhz3
      try simp only [Act.put,s_,t_,u_,v_,x_,y_]
      refine grow_take (k:=3) (g:=6) (.tuple #[.agg (wc (a / m)),.agg (nc (a%m))]) rfl (by kernel_rfl) (by kernel_rfl) hQQ rfl (fun u' hu'=>by go_simp; exact div_at d g a m 9 9 u' (hd.up hu') (by omega) HA.out (Nat.lt_of_lt_of_le (show g<w1.heap.size by omega) (gT _ _ _ hGu hu').size) (HCA.out u' (gT _ _ _ hGu hu'))) ?_
      simp only [Act.put,List.setIfInBounds_toArray,List.set_cons_zero,List.set_cons_succ,List.getElem_toArray,List.getElem_cons_succ,List.getElem_cons_zero]
      refine grow_take (k:=4) (g:=5) (.tuple #[.agg (wc (a / m)),.agg (nc (a%m))]) rfl (by kernel_rfl) (by kernel_rfl) hQQ rfl (fun u' _=>by exact ⟨rfl,rfl⟩) ?_
      simp only [Act.put,List.setIfInBounds_toArray,List.set_cons_zero,List.set_cons_succ,List.getElem_toArray,List.getElem_cons_succ,List.getElem_cons_zero]
      refine grow_take (k:=5) (g:=4) (.agg (wc (a / m))) rfl (by kernel_rfl) (by kernel_rfl) hQQ rfl (fun u' _=>by exact ⟨rfl,rfl⟩) ?_
      simp only [Act.put,List.setIfInBounds_toArray,List.set_cons_zero,List.set_cons_succ,List.getElem_toArray,List.getElem_cons_succ,List.getElem_cons_zero]
      refine grow_take (k:=6) (g:=3) (.agg (nc (a%m))) rfl (by kernel_rfl) (by kernel_rfl) hQQ rfl (fun u' _=>by exact ⟨rfl,rfl⟩) ?_
      simp only [Act.put,List.setIfInBounds_toArray,List.set_cons_zero,List.set_cons_succ,List.getElem_toArray,List.getElem_cons_succ,List.getElem_cons_zero]
      refine grow_alloc (i:=7) (f:=2) (by kernel_rfl) (by decide) rfl rfl 154 rfl (.agg (wc 0)) (by rw [wc_zero]; kernel_rfl) ?_
      intro y v hyl hyV hgv hhy
      have hGV:Grows w1.drew v:=gT _ _ _ hGu hgv
      have hxu:z<u.heap.size:=(Array.getElem?_eq_some_iff.mp hzU).1
      have hzV:z<v.heap.size:=Nat.lt_of_lt_of_le hxu hgv.size
      have hhz:=(hgv.block z hxu).trans hzU
      have hyz:y≠z:=by omega
      have hyl':w1.heap.size≤y:=Nat.le_trans (show w1.drew.heap.size≤u.heap.size from hGu.size) hyl
      refine gS (rs:=[9]) (by kernel_rfl) (by decide) (fun w6 hg6=>?_)
      simp only [Act.put,List.setIfInBounds_toArray,List.set_cons_zero,List.set_cons_succ,List.getElem_toArray,List.getElem_cons_succ,List.getElem_cons_zero]
      refine wpAny_ready (rs:=[9]) (by kernel_rfl) (by simp) (AllReady.cons rfl (fun K hK=>?_) AllReady.nil)
      refine sK rfl 154 (.tmp 7) (.tmp 17) rfl y rfl _ _ _ rfl ((hg6.block y hyV).trans hhy) (by rw [wc_size]; kernel_rfl) (by rw [wc_size,vagg_cells,wc_size]) (wc_one _) (fun w7 hw7 hb7 hs7=>hK _ _ ?_)
      clear hK
      refine wpAny_ready (rs:=[10]) (by kernel_rfl) (by simp) (AllReady.cons rfl (fun K hK=>?_) AllReady.nil)
      refine sK rfl 27 (.tmp 8) (.tmp 18) rfl z rfl _ _ _ rfl (hb7.heap (by omega) ((hg6.block z hzV).trans hhz)) (by rw [nS]; kernel_rfl) (by rw [nS,vagg_cells,nS]) (nO _) (fun w8 hw8 hb8 hs8=>hK _ _ ?_)
      clear hK
      refine wpAny_done (by kernel_rfl) ?_ _
      have hGV6:=gT _ _ _ hGV hg6
      have B6:Below g w w6:=HB1.out.drew.trans (hGV6.mono (show g≤w1.heap.size by omega))
      have B7:Below g w w7:=But.below B6 hb7 (by omega) (by have:=hGV6.size; have:w1.drew.heap.size=w1.heap.size:=rfl; omega)
      have B8:Below g w w8:=But.below B7 hb8 (by omega) (by have:=hGV6.size; have:w1.drew.heap.size=w1.heap.size:=rfl; omega)
      simp only [Act.put,List.setIfInBounds_toArray,List.set_cons_zero,List.set_cons_succ,List.getElem_toArray,List.getElem_cons_succ,List.getElem_cons_zero]
      exact HREST.out y z d w8 B8 (hb8.heap (by omega) (hb7.heap (by omega) ((hGV6.block _ (show g+1+1<w1.heap.size by omega)).trans K3.out))) (hb8.heap (by omega) (hb7.heap (by omega) ((hGV6.block _ (show g+1+1+1<w1.heap.size by omega)).trans K4.out))) (hb8.heap (by omega) hw7) hw8 (by omega) (by omega)
    · intro y w4 hye hy4 hg4 hhy4
      have hG4:Grows w1.drew w4:=gT _ _ _ hG3 hg4
      have hyl':w1.heap.size≤y:=by rw [← hye]; exact hG3.size
      have hyz:y≠z:=by omega
      have hz4:z<w4.heap.size:=Nat.lt_of_lt_of_le hz3 hg4.size
      have hhz4:=(hg4.block z hz3).trans hhz3
      simp only [Act.put,List.setIfInBounds_toArray,List.set_cons_zero,List.set_cons_succ,List.getElem_toArray,List.getElem_cons_succ,List.getElem_cons_zero]
      refine grow_ready (rs:=[0]) (by kernel_rfl) (by simp) (fun u4 hu4=>?_)
      have hG5:=gT _ _ _ hG4 hu4
      refine GAll.cons (by decide) rfl (fun K hK=>?_) GAll.nil
      go_simp
      refine (HO.out (g+1) _ ((hG5.block _ (show g+1<w1.heap.size by omega)).trans K2.out)).mono ?_
      rintro e u ⟨d,rfl,hd,hds,hb⟩
      refine hK _ _ hb ?_
      clear hK K
      have hGu:Grows w1.drew u:=gT _ _ _ hG5 hb
      try simp only [Act.put,s_,t_,u_,v_,x_,y_]
      refine grow_take (k:=3) (g:=5) (.tuple #[.agg (wc (a / m)),.agg (nc (a%m))]) rfl (by kernel_rfl) (by kernel_rfl) hQQ rfl (fun u' hu'=>by go_simp; exact div_at d g a m 9 9 u' (hd.up hu') (by omega) HA.out (Nat.lt_of_lt_of_le (show g<w1.heap.size by omega) (gT _ _ _ hGu hu').size) (HCA.out u' (gT _ _ _ hGu hu'))) ?_
      simp only [Act.put,List.setIfInBounds_toArray,List.set_cons_zero,List.set_cons_succ,List.getElem_toArray,List.getElem_cons_succ,List.getElem_cons_zero]
      refine grow_take (k:=4) (g:=4) (.tuple #[.agg (wc (a / m)),.agg (nc (a%m))]) rfl (by kernel_rfl) (by kernel_rfl) hQQ rfl (fun u' _=>by exact ⟨rfl,rfl⟩) ?_
      simp only [Act.put,List.setIfInBounds_toArray,List.set_cons_zero,List.set_cons_succ,List.getElem_toArray,List.getElem_cons_succ,List.getElem_cons_zero]
      refine grow_take (k:=5) (g:=3) (.agg (wc (a / m))) rfl (by kernel_rfl) (by kernel_rfl) hQQ rfl (fun u' _=>by exact ⟨rfl,rfl⟩) ?_
      simp only [Act.put,List.setIfInBounds_toArray,List.set_cons_zero,List.set_cons_succ,List.getElem_toArray,List.getElem_cons_succ,List.getElem_cons_zero]
      refine grow_take (k:=6) (g:=2) (.agg (nc (a%m))) rfl (by kernel_rfl) (by kernel_rfl) hQQ rfl (fun u' _=>by exact ⟨rfl,rfl⟩) ?_
      simp only [Act.put,List.setIfInBounds_toArray,List.set_cons_zero,List.set_cons_succ,List.getElem_toArray,List.getElem_cons_succ,List.getElem_cons_zero]
      have hyV:y<u.heap.size:=Nat.lt_of_lt_of_le (Nat.lt_of_lt_of_le hy4 hu4.size) hb.size
      have hzV:z<u.heap.size:=Nat.lt_of_lt_of_le (Nat.lt_of_lt_of_le hz4 hu4.size) hb.size
      have hhy:=(hb.block y (Nat.lt_of_lt_of_le hy4 hu4.size)).trans ((hu4.block y hy4).trans hhy4)
      have hhz:=(hb.block z (Nat.lt_of_lt_of_le hz4 hu4.size)).trans ((hu4.block z hz4).trans hhz4)
      have hGV:=hGu
      refine gS (rs:=[9]) (by kernel_rfl) (by decide) (fun w6 hg6=>?_)
      try simp only [Act.put,s_,t_,u_,v_,x_,y_]
      refine wpAny_ready (rs:=[9]) (by kernel_rfl) (by simp) (AllReady.cons rfl (fun K hK=>?_) AllReady.nil)
      refine sK rfl 154 (.tmp 7) (.tmp 17) rfl y rfl _ _ _ rfl ((hg6.block y hyV).trans hhy) (by rw [wc_size]; kernel_rfl) (by rw [wc_size,vagg_cells,wc_size]) (wc_one _) (fun w7 hw7 hb7 hs7=>hK _ _ ?_)
      clear hK
      refine wpAny_ready (rs:=[10]) (by kernel_rfl) (by simp) (AllReady.cons rfl (fun K hK=>?_) AllReady.nil)
      refine sK rfl 27 (.tmp 8) (.tmp 18) rfl z rfl _ _ _ rfl (hb7.heap (by omega) ((hg6.block z hzV).trans hhz)) (by rw [nS]; kernel_rfl) (by rw [nS,vagg_cells,nS]) (nO _) (fun w8 hw8 hb8 hs8=>hK _ _ ?_)
      clear hK
      refine wpAny_done (by kernel_rfl) ?_ _
      have hGV6:=gT _ _ _ hGV hg6
      have B6:Below g w w6:=HB1.out.drew.trans (hGV6.mono (show g≤w1.heap.size by omega))
      have B7:Below g w w7:=But.below B6 hb7 (by omega) (by have:=hGV6.size; have:w1.drew.heap.size=w1.heap.size:=rfl; omega)
      have B8:Below g w w8:=But.below B7 hb8 (by omega) (by have:=hGV6.size; have:w1.drew.heap.size=w1.heap.size:=rfl; omega)
      simp only [Act.put,List.setIfInBounds_toArray,List.set_cons_zero,List.set_cons_succ,List.getElem_toArray,List.getElem_cons_succ,List.getElem_cons_zero]
      exact HREST.out y z d w8 B8 (hb8.heap (by omega) (hb7.heap (by omega) ((hGV6.block _ (show g+1+1<w1.heap.size by omega)).trans K3.out))) (hb8.heap (by omega) (hb7.heap (by omega) ((hGV6.block _ (show g+1+1+1<w1.heap.size by omega)).trans K4.out))) (hb8.heap (by omega) hw7) hw8 (by omega) (by omega)
end Go.Proofs.YtkoonhiplicbkaaGreat.Cw
