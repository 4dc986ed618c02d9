/-
  A drawn statement that writes into several old variables: what its calls and reads need is held of every world of a class, whichever order is picked. No condition of a program's.
  (package field) Hex: a number out of its digits. Condition: at most 144 digits, each one of 0 to 9, a to f.
-/
import Derived.Test.YtkoonhiplicbkaaGreatQk14
import Derived.Test.YtkoonhiplicbkaaGreatQk9
set_option linter.unusedSimpArgs false
set_option linter.unusedVariables false
set_option maxHeartbeats 4000000
set_option maxRecDepth 100000
namespace Go.Proofs.YtkoonhiplicbkaaGreat.Cw
open Go Go.RowKit
section
variable {P:Program} {ops:Array Oper} {Q:Exit→Act→World→Prop} {md:Region.Mode}
def wpAnyE (P:Program) (md:Region.Mode) (ops:Array Oper) (Q:Exit→Act→World→Prop) (C:World→Prop):Nat→Array Bool→Act→World→Prop
  | 0,listed,a,w=>∀ w1,Grows w w1→Region.ready md ops listed=[]∧Q .normal a w1
  | f+1,listed,a,w=>∀ w1,Grows w w1→(Region.ready md ops listed=[]→Q .normal a w1) ∧
    ∀ i ∈ Region.ready md ops listed,wpOp P ops Q i (fun a' w'=>C w'∧wpAnyE P md ops Q C f (listed.setIfInBounds i true) a' w') a w1
variable {C:World→Prop}
theorem wpAnyE_sound:∀ (f:Nat) (listed:Array Bool) (a:Act) (w:World),wpAnyE P md ops Q C f listed a w→wpAny P md ops Q f listed a w
  | 0,_,_,w,h=>h w (grows_refl w)
  | f+1,listed,a,w,h=>by
    obtain ⟨h1,h2⟩:=h w (grows_refl w)
    exact ⟨h1,fun i hi=>wpOp_mono (fun a' w' h4=>wpAnyE_sound f _ a' w' h4.2) (h2 i hi)⟩
theorem wpAnyE_up {w w1:World} (hw:Grows w w1):∀ (f:Nat) (listed:Array Bool) (a:Act),wpAnyE P md ops Q C f listed a w→wpAnyE P md ops Q C f listed a w1
  | 0,_,_,h=>fun w2 h2=>h w2 (gT _ _ _ hw h2)
  | _+1,_,_,h=>fun w2 h2=>h w2 (gT _ _ _ hw h2)
def YieldsE (P:Program) (ops:Array Oper) (C:World→Prop) (o:Oper) (v:Value) (a:Act):Prop:=
  (Region.wanted o (yielded ops a.tmps)=true∧∀ u,C u→o.quietAt P a (Grows u) u v)∨(Region.wanted o (yielded ops a.tmps)=false∧v=undef)
theorem YieldsE.of_same {o:Oper} {v:Value} {a a':Act} (hy:YieldsE P ops C o v a) (he:execOp a'.eval o=execOp a.eval o)
    (hw:Region.wanted o (yielded ops a'.tmps)=Region.wanted o (yielded ops a.tmps)):YieldsE P ops C o v a':=by
  unfold YieldsE Oper.quietAt at *
  rw [he,hw]
  exact hy
variable (hcl:∀ u v,C u→Grows u v→C v)
include hcl
theorem YieldsE.toG {o:Oper} {v:Value} {a:Act} {w:World} (hC:C w) (hy:YieldsE P ops C o v a):YieldsG P ops Grows o v w a:=
  hy.imp (fun h1=>⟨h1.1,fun u hu=>h1.2 u (hcl _ _ hC hu)⟩) id
theorem wpAnyE_first {i:Nat} {oi:Oper} {v:Value} (hi:ops[i]?=some oi) (hsel:∀ (j:Nat) (o:Oper) cs b,ops[j]?=some o→o.op≠.select cs b)
    (hQ:∀ c a w,Q (.panic c) (a.put oi.dst v) w→Q (.panic c) a w) :
    ∀ (fuel:Nat) (listed:Array Bool) (a:Act) (w:World),C w →
      (∀ j oj,ops[j]?=some oj→j≠i→listed.getD j true=false→(∀ e ∈ oj.after,Region.binds md e=true→e.on≠i)→oi.apart ops oj=true) →
      i ∈ Region.ready md ops listed→YieldsE P ops C oi v a →
      wpAnyE P md ops Q C fuel (listed.setIfInBounds i true) (a.put oi.dst v) w→wpAnyE P md ops Q C (fuel+1) listed a w:=by
  intro fuel
  induction fuel with
  | zero=>
    intro listed a w hC _ hrd hy H w1 hw1
    refine ⟨fun h=>(by rw [h] at hrd; cases hrd),fun j hj=>?_⟩
    by_cases hji:j=i
    · subst hji
      exact (hy.toG hcl (hcl _ _ hC hw1)).wpOp grows_refl hi fun w' hw'=>⟨hcl _ _ (hcl _ _ hC hw1) hw',wpAnyE_up (gT _ _ _ hw1 hw') 0 _ _ H⟩
    · have:=ready_mono hj hji
      rw [(H w1 hw1).1] at this
      cases this
  | succ fuel ih=>
    intro listed a w hC hfree hrd hy H w1 hw1
    refine ⟨fun h=>(by rw [h] at hrd; cases hrd),fun j hj=>?_⟩
    by_cases hji:j=i
    · subst hji
      exact (hy.toG hcl (hcl _ _ hC hw1)).wpOp grows_refl hi fun w' hw'=>⟨hcl _ _ (hcl _ _ hC hw1) hw',wpAnyE_up (gT _ _ _ hw1 hw') _ _ _ H⟩
    · have H2:=(H w1 hw1).2 j (ready_mono hj hji)
      obtain ⟨hjun,oj,hoj,hall⟩:=mem_ready.1 hj
      have hun:=unlisted_both (mem_ready.1 hrd).1
      have hnot:∀ e ∈ oj.after,Region.binds md e=true→e.on≠i:=fun e he hb heq=>by
        have h1:=hall e he hb
        rw [heq,hun] at h1
        cases h1
      have hap:=hfree j oj hoj hji hjun hnot
      have hfree':∀ k ok,ops[k]?=some ok→k≠i→(listed.setIfInBounds j true).getD k true=false →
          (∀ e ∈ ok.after,Region.binds md e=true→e.on≠i)→oi.apart ops ok=true:=fun k ok hk hki hun hno=>by
        refine hfree k ok hk hki ?_ hno
        by_cases hjk:j=k
        · subst hjk; exact hjun
        · rw [getD_set_ne true hjk] at hun; exact hun
      have hsi:∀ cs b,oi.op≠.select cs b:=fun cs b=>hsel i oi cs b hi
      have hsj:∀ cs b,oj.op≠.select cs b:=fun cs b=>hsel j oj cs b hoj
      obtain ⟨h1,h2,h3⟩:=Oper.apart_spec hap
      have hk:=wpOp_keep (P:=P) (Q:=Q) hoj (Y:=YieldsE P ops C oi v) (fun a u hy=>hy.of_same (execOp_put oi hsi a oj.dst u h3) (wanted_put oi a oj.dst u h3)) (fun a d hy=>hy.of_same rfl rfl) hy (wpOp_swap hoj hap hsj hQ H2)
      refine wpOp_mono (fun a' w' h4=>⟨h4.2.1,ih (listed.setIfInBounds j true) a' w' h4.2.1 hfree' (ready_mono hrd (Ne.symm hji)) h4.1 ?_⟩) hk
      rw [Array.setIfInBounds_comm _ _ hji]
      exact h4.2.2
omit hcl
def pickOps (ks:List Nat) (l:List Oper):List Oper:=ks.filterMap fun k=>l[k]?
def growSetE:List Nat→Array Bool→Array Bool
  | [],listed=>listed
  | k::ks,listed=>growSetE ks (listed.setIfInBounds k true)
def growHeadE (md:Region.Mode) (ops:Array Oper):List Nat→Array Bool→Bool
  | [],_=>true
  | k::ks,listed=>(Region.ready md ops listed).contains k && Region.free md ops listed k && growHeadE md ops ks (listed.setIfInBounds k true)
def wpE (P:Program) (ops:Array Oper) (C:World→Prop) (L:Act→Prop):List Oper→Act→Prop
  | [],a=>L a
  | o::rest,a=>if Region.wanted o (yielded ops a.tmps)=true then ∃ v,(∀ u,C u→o.quietAt P a (Grows u) u v)∧wpE P ops C L rest (a.put o.dst v) else wpE P ops C L rest (a.put o.dst undef)
include hcl
theorem wpAnyE_head (hs:Region.noSelect ops=true) {g:Nat} {L:Act→Prop} (hQ:∀ d v c a w,Q (.panic c) (a.put d v) w→Q (.panic c) a w) {w:World} (hCw:C w) :
    ∀ (ks:List Nat) (listed:Array Bool) (a:Act),growHeadE md ops ks listed=true→wpE P ops C L (pickOps ks ops.toList) a →
    (∀ a',L a'→wpAnyE P md ops Q C g (growSetE ks listed) a' w)→wpAnyE P md ops Q C (ks.length+g) listed a w
  | [],listed,a,_,h,H=>by
    have:=H a h
    simpa [growSetE] using this
  | k::ks,listed,a,hB,h,H=>by
    simp only [growHeadE,Bool.and_eq_true] at hB
    obtain ⟨⟨hrd,hf⟩,hB'⟩:=hB
    have hrd':k ∈ Region.ready md ops listed:=by simpa using hrd
    obtain ⟨_,o,h0,_⟩:=mem_ready.1 hrd'
    have h0l:ops.toList[k]?=some o:=by simpa using h0
    have hp:pickOps (k::ks) ops.toList=o::pickOps ks ops.toList:=by simp [pickOps,List.filterMap_cons,h0]
    rw [hp] at h
    have hst:∃ v,YieldsE P ops C o v a∧wpE P ops C L (pickOps ks ops.toList) (a.put o.dst v):=by
      unfold wpE at h
      split at h
      · rename_i hwt
        obtain ⟨v,h1,h2⟩:=h
        exact ⟨v,.inl ⟨hwt,h1⟩,h2⟩
      · rename_i hwt
        exact ⟨undef,.inr ⟨by simpa using hwt,rfl⟩,h⟩
    obtain ⟨v,hy,hK⟩:=hst
    rw [show (k::ks).length+g=(ks.length+g)+1 by simp; omega]
    refine wpAnyE_first hcl h0 (Region.noSelect_spec hs) (fun c a w=>hQ _ _ c a w) (ks.length+g) listed a w hCw (Region.free_spec h0 hf) hrd' hy ?_
    exact wpAnyE_head hs hQ hCw ks _ _ hB' hK (fun a' h'=>by have:=H a' h'; simpa [growSetE] using this)
theorem wp_region_cls {id:Nat} {a:Act} {w:World} {l:List Oper} (ks:List Nat) (hCw:C w.drew) (hm:P.follows .mixedOrders=true) (hB:(Region.noSelect l.toArray && growHeadE .any l.toArray ks (Array.replicate l.toArray.size false) && decide (ks.length≤l.length))=true)
    (hQ:∀ d v c a w,Q (.panic c) (a.put d v) w→Q (.panic c) a w)
    (h:wpE P l.toArray C (fun a'=>wpAnyE P .any l.toArray Q C (l.length - ks.length) (growSetE ks (Array.replicate l.toArray.size false)) a' w.drew) (pickOps ks l) a):(Code.region id l.toArray true).wp P Q a w:=by
  simp only [Bool.and_eq_true,decide_eq_true_eq] at hB
  obtain ⟨⟨hs,hg⟩,hn⟩:=hB
  refine wp_region_any hm (wpAnyE_sound (C:=C) _ _ _ _ ?_)
  have:=wpAnyE_head (md:=.any) (Q:=Q) (g:=l.length - ks.length) hcl hs hQ hCw ks (Array.replicate l.toArray.size false) a hg h (fun a' h'=>h')
  rw [show ks.length+(l.length - ks.length)=l.toArray.size by simp; omega] at this
  exact this
omit hcl
def EAll (P:Program) (md:Region.Mode) (ops:Array Oper) (Q:Exit→Act→World→Prop) (C:World→Prop) (f:Nat) (listed:Array Bool) (a:Act) (w1:World) (rs:List Nat):Prop:=
  ∀ i ∈ rs,wpOp P ops Q i (fun a' w'=>C w'∧wpAnyE P md ops Q C f (listed.setIfInBounds i true) a' w') a w1
theorem ready_E {f:Nat} {listed:Array Bool} {a:Act} {w:World} {rs:List Nat} (hrd:Region.ready md ops listed=rs) (hne:rs≠[]) (h:∀ w1,Grows w w1→EAll P md ops Q C f listed a w1 rs):wpAnyE P md ops Q C (f+1) listed a w:=by
  intro w1 hw1
  rw [hrd]
  exact ⟨fun h0=>absurd h0 hne,fun i hi=>h w1 hw1 i hi⟩
theorem done_E {f:Nat} {listed:Array Bool} {a:Act} {w:World} (hrd:Region.ready md ops listed=[]) (h:∀ w1,Grows w w1→Q .normal a w1):wpAnyE P md ops Q C f listed a w:=by
  cases f with
  | zero=>exact fun w1 hw1=>⟨hrd,h w1 hw1⟩
  | succ f=>exact fun w1 hw1=>⟨fun _=>h w1 hw1,fun i hi=>by rw [hrd] at hi; cases hi⟩
theorem EAll.nil {f:Nat} {listed:Array Bool} {a:Act} {w1:World}:EAll P md ops Q C f listed a w1 []:=fun _ h=>by cases h
theorem EAll.cons {f i:Nat} {listed:Array Bool} {a:Act} {w1:World} {rs:List Nat} {o:Oper} (ho:ops[i]?=some o)
    (h:∀ K:Act→World→Prop,(∀ a' w',C w'→wpAnyE P md ops Q C f (listed.setIfInBounds i true) a' w'→K a' w')→if Region.wanted o (yielded ops a.tmps)=true then Oper.wp P o a w1 K Q else K (a.put o.dst undef) w1)
    (hs:EAll P md ops Q C f listed a w1 rs):EAll P md ops Q C f listed a w1 (i::rs):=fun j hj=>by
  rcases List.mem_cons.1 hj with rfl | hj
  · exact wpOp_step ho fun K hK=>h K fun a' w' h1 h2=>hK a' w' ⟨h1,h2⟩
  · exact hs j hj
end
section
variable {P:Program} {ops:Array Oper} {rest:List Oper} {o:Oper} {a:Act} {Q:Exit→Act→World→Prop} {L:Act→Prop} {C:World→Prop}
theorem wpE_nil (h:L a):wpE P ops C L [] a:=h
theorem wpE_want (hwt:Region.wanted o (yielded ops a.tmps)=true) (v:Value) (h:∀ u,C u→o.quietAt P a (Grows u) u v) (hn:wpE P ops C L rest (a.put o.dst v)):wpE P ops C L (o::rest) a:=by
  unfold wpE
  rw [if_pos hwt]
  exact ⟨v,h,hn⟩
theorem pE (hwt:Region.wanted o (yielded ops a.tmps)=true) (v:Value) (h:∀ u,(execOp a.eval o).run P u=.ok (.value v) u) (hn:wpE P ops C L rest (a.put o.dst v)):wpE P ops C L (o::rest) a:=
  wpE_want hwt v (fun u hu'=>by
    unfold Oper.quietAt
    rw [h u]
    exact ⟨rfl,rfl⟩) hn
theorem eK (v:Value) (hn:wpE P ops C L rest (a.put o.dst v)) (hwt:Region.wanted o (yielded ops a.tmps)=true:=by exact rfl) (h:∀ u,(execOp a.eval o).run P u=.ok (.value v) u:=by intro u; kernel_rfl):wpE P ops C L (o::rest) a:=pE hwt v h hn
theorem wpE_fn (hwt:Region.wanted o (yielded ops a.tmps)=true) (k:FuncId) (f:Operand) (args:Array Operand) (tys:Array TypeId) (ho:o.op=.call { callee:=.value f,args:=args,argTypes:=tys }) (bound avs:Array Value)
    (hf:a.eval f=.func (.func k) bound #[]) (has:args.map a.eval=avs) (hent:∀ u:World,(callFunc k (bound++avs)).run P u=.ok (.enter k (bound++avs)) u) (v:Value)
    (h:∀ u,C u→Calls P k (bound++avs) u fun e w'=>e=.returned v∧Below u.heap.size u w') (hn:wpE P ops C L rest (a.put o.dst v)):wpE P ops C L (o::rest) a:=
  wpE_want hwt v (fun u hu'=>by
    have h1:(execOp a.eval o).run P u=.ok (.enter k (bound++avs)) u:=by
      unfold execOp
      simp only [ho,resolve,hf,has,Deferred.ofValue,Sem.run_bind,Sem.run_pure,Result.andThen_ok,invoke,Array.append_empty,hent]
    unfold Oper.quietAt
    rw [h1]
    exact ⟨rfl,h u hu'⟩) hn
theorem wpE_built (hwt:Region.wanted o (yielded ops a.tmps)=true) (t:TypeId) (parts:Array (Nat × Operand)) (ho:o.op=.build t parts) (cells:Array Value)
    (hb:P.built t (parts.map fun (i,x)=>(i,a.eval x)).toList=some cells) (h:wpE P ops C L rest (a.put o.dst (.agg cells))):wpE P ops C L (o::rest) a:=
  wpE_want hwt (.agg cells) (fun u hu'=>by
    have:=run_built_op (P:=P) (w:=u) t parts ho cells hb
    unfold Oper.quietAt
    simp only [this]
    exact ⟨rfl,rfl⟩) h
theorem wpE_load_cell (hwt:Region.wanted o (yielded ops a.tmps)=true) (ty:TypeId) (x:Operand) (ho:o.op=.load ty x) (g off:Nat) (hx:a.eval x=.pointer (some ⟨g,off,none⟩)) (v:Value) (d:TypeDesc)
    (hu:P.underlying ty=some d) (hd:isAggDesc d=false) (hc:∀ u,C u→u.cell? ⟨g,off,none⟩=some v) (h:wpE P ops C L rest (a.put o.dst v)):wpE P ops C L (o::rest) a:=
  wpE_want hwt v (fun u hu'=>by
    have:=run_load_one (P:=P) u g off ty d hu hd v (hc u hu')
    unfold Oper.quietAt execOp
    simp only [ho,hx,Instr.loadAt,Instr.sureAddr,Sem.run_bind,Sem.run_pure,Result.andThen_ok,this]
    exact ⟨rfl,rfl⟩) h
theorem wpE_load_seg (hwt:Region.wanted o (yielded ops a.tmps)=true) (ty:TypeId) (x:Operand) (ho:o.op=.load ty x) (g off n:Nat) (hx:a.eval x=.pointer (some ⟨g,off,none⟩)) (cs:Array Value) (d:TypeDesc)
    (hu:P.underlying ty=some d) (hd:isAggDesc d=true) (hi:(P.info? ty).map (·.size)=some n) (hn:cs.size=n)
    (hc:∀ u,C u→∃ D t fr,u.heap[g]?=some (.cells D t fr)∧∀ j,j<n→D[off+j]?=cs[j]?)
    (h:wpE P ops C L rest (a.put o.dst (.agg cs))):wpE P ops C L (o::rest) a:=
  wpE_want hwt (.agg cs) (fun u hu'=>by
    obtain ⟨D,t,fr,h1,h2⟩:=hc u hu'
    have:=run_load_seg (P:=P) u g off n t ty D cs fr d h1 hu hd hi hn h2
    unfold Oper.quietAt execOp
    simp only [ho,hx,Instr.loadAt,Instr.sureAddr,Sem.run_bind,Sem.run_pure,Result.andThen_ok,this]
    exact ⟨rfl,rfl⟩) h
end
section
variable {ops:Array Oper} {rest:List Oper} {o:Oper} {a:Act} {Q:Exit→Act→World→Prop} {L:Act→Prop} {C:World→Prop}
theorem wpE_loadN (hwt:Region.wanted o (yielded ops a.tmps)=true) (x:Operand) (ho:o.op=.load 27 x) (g off:Nat) (hx:a.eval x=.pointer (some ⟨g,off,none⟩)) (n:Nat)
    (hc:∀ u,C u→∃ D t fr,u.heap[g]?=some (.cells D t fr)∧∀ j,j<9→D[off+j]?=some (wn (dig n j)))
    (h:wpE Tryz.prog ops C L rest (a.put o.dst (.agg (nc n)))):wpE Tryz.prog ops C L (o::rest) a:=
  wpE_load_seg hwt 27 x ho g off 9 hx (nc n) _ Tryz.underlying27 rfl (by kernel_rfl) (nS n) (fun u hu=>by
    obtain ⟨D,t,fr,h1,h2⟩:=hc u hu
    exact ⟨D,t,fr,h1,fun j hj=>(h2 j hj).trans (nc_get n j hj).symm⟩) h
end
theorem splice_app (A B D cs:Array Value) {off:Nat} (hA:A.size=off) (hB:B.size=cs.size):splice (A++(B++D)) off cs=A++(cs++D):=by
  have hl:A.toList.length=off:=by simpa using hA
  have hl2:B.toList.length=cs.size:=by simpa using hB
  unfold splice
  rw [Array.toList_append,Array.toList_append,take_app hl,← List.drop_drop,show List.drop off (A.toList++(B.toList++D.toList))=B.toList++D.toList from by have:=drop_app (A:=A.toList) (B:=B.toList++D.toList) (m:=0) hl; simpa using this]
  have h2:List.drop cs.size (B.toList++D.toList)=D.toList:=by have:=drop_app (A:=B.toList) (B:=D.toList) (m:=0) hl2; simpa using this
  rw [h2]
  apply Array.ext'
  simp
theorem wp_store_val {P:Program} {o:Oper} {a:Act} {w:World} {Q:Exit→Act→World→Prop} {K:Act→World→Prop} (ty:TypeId) (x v:Operand) (ho:o.op=.store ty x v)
    (g off:Nat) (hx:a.eval x=.pointer (some ⟨g,off,none⟩)) (t:TypeId) (C cs:Array Value) (hv:(a.eval v).cells=cs) (hg:w.heap[g]?=some (.cells C t (0,0)))
    (hi:(P.info? ty).map (·.size)=some cs.size) (hfit:off+cs.size≤C.size) (h1:∀ u ∈ cs.toList,u.oneCell'=true)
    (h:∀ w',w'.heap[g]?=some (.cells (splice C off cs) t (0,0))→But g w w'→w'.heap.size=w.heap.size→K (a.put o.dst undef) w'):o.wp P a w K Q:=by
  have hst:=run_storeCells_at P g off t cs.toList 0 C w hg (by simpa using hfit) h1
  simp only [Nat.add_zero,Array.length_toList] at hst
  cases hq:P.info? ty with
  | none=>simp [hq] at hi
  | some i=>
    have hs:i.size=cs.size:=by simpa [hq] using hi
    unfold Oper.wp execOp
    simp only [ho,hx,Instr.storeAt,Instr.sureAddr,storeVar,sizeOf,typeInfo,hv,Sem.run_bind,Sem.run_pure,Result.andThen_ok]
    simp [hq,hs,hst]
    rw [← List.append_assoc]
    exact h _ (setRow_heap w g C _ t _ hg) (setRow_but _ _ _) (setRow_size _ _ _)
theorem step_store_part {P:Program} {ops:Array Oper} {o:Oper} {a:Act} {w:World} {K:Act→World→Prop} {Q:Exit→Act→World→Prop} {E:Prop} (hgd:o.guard=none) (ty:TypeId) (x v:Operand) (ho:o.op=.store ty x v)
    (g off:Nat) (hx:a.eval x=.pointer (some ⟨g,off,none⟩)) (t:TypeId) (A B D cs:Array Value) (hv:(a.eval v).cells=cs) (hg:w.heap[g]?=some (.cells (A++(B++D)) t (0,0))) (hA:A.size=off) (hB:B.size=cs.size)
    (hi:(P.info? ty).map (·.size)=some cs.size) (h1:∀ u ∈ cs.toList,u.oneCell'=true)
    (h:∀ w',w'.heap[g]?=some (.cells (A++(cs++D)) t (0,0))→But g w w'→w'.heap.size=w.heap.size→K (a.put o.dst undef) w'):if Region.wanted o (yielded ops a.tmps)=true then Oper.wp P o a w K Q else E:=by
  have hw:Region.wanted o (yielded ops a.tmps)=true:=by simp [Region.wanted,hgd]
  rw [if_pos hw]
  exact wp_store_val ty x v ho g off hx t _ cs hv hg hi (by simp; omega) h1 fun w' h2 h3 h4=>h w' (by rw [splice_app A B D cs hA hB] at h2; exact h2) h3 h4
theorem wpList_store_part {P:Program} {ops:Array Oper} {rest:List Oper} {o:Oper} {a:Act} {w:World} {Q:Exit→Act→World→Prop} (hgd:o.guard=none) (ty:TypeId) (x v:Operand) (ho:o.op=.store ty x v)
    (g off:Nat) (hx:a.eval x=.pointer (some ⟨g,off,none⟩)) (t:TypeId) (A B D cs:Array Value) (hv:(a.eval v).cells=cs) (hg:w.heap[g]?=some (.cells (A++(B++D)) t (0,0))) (hA:A.size=off) (hB:B.size=cs.size)
    (hi:(P.info? ty).map (·.size)=some cs.size) (h1:∀ u ∈ cs.toList,u.oneCell'=true)
    (h:∀ w',w'.heap[g]?=some (.cells (A++(cs++D)) t (0,0))→But g w w'→w'.heap.size=w.heap.size→wpList P ops Q rest (a.put o.dst undef) w'):wpList P ops Q (o::rest) a w:=
  wpList_plain hgd fun _ hK=>wp_store_val ty x v ho g off hx t _ cs hv hg hi (by simp; omega) h1 fun w' h2 h3 h4=>hK _ _ (h w' (by rw [splice_app A B D cs hA hB] at h2; exact h2) h3 h4)
theorem splice_one (C:Array Value) (v:Value) {off:Nat} (h:off<C.size):splice C off #[v]=C.setIfInBounds off v:=by
  apply Array.ext'
  unfold splice
  have h':off<C.toList.length:=by simpa using h
  simp [List.set_eq_take_append_cons_drop,h]
theorem GAll.pure {P:Program} {md:Region.Mode} {ops:Array Oper} {Q:Exit→Act→World→Prop} {m f i:Nat} {listed:Array Bool} {a:Act} {w1:World} {rs:List Nat} {o:Oper} (him:i<m) (ho:ops[i]?=some o) (hgd:o.guard=none) (v:Value) (hv:∀ u,(execOp a.eval o).run P u=.ok (.value v) u)
    (h:wpAnyR P md ops Q Grows m f (listed.setIfInBounds i true) (a.put o.dst v) w1) (hs:GAll P md ops Q m f listed a w1 rs):GAll P md ops Q m f listed a w1 (i::rs):=
  GAll.cons him ho (fun K hK=>by
    rw [if_pos (by simp [Region.wanted,hgd])]
    unfold Oper.wp
    rw [hv w1]
    exact hK _ _ (grows_refl w1) h) hs
theorem step_store_cell {P:Program} {ops:Array Oper} {o:Oper} {a:Act} {w:World} {K:Act→World→Prop} {Q:Exit→Act→World→Prop} {E:Prop} (hgd:o.guard=none) (ty:TypeId) (x v:Operand) (ho:o.op=.store ty x v)
    (g off:Nat) (hx:a.eval x=.pointer (some ⟨g,off,none⟩)) (t:TypeId) (C:Array Value) (val:Value) (hv:a.eval v=val) (hval:val.cells=#[val]) (hg:w.heap[g]?=some (.cells C t (0,0)))
    (hi:(P.info? ty).map (·.size)=some 1) (hfit:off<C.size) (h1:val.oneCell'=true)
    (h:∀ w',w'.heap[g]?=some (.cells (C.setIfInBounds off val) t (0,0))→But g w w'→w'.heap.size=w.heap.size→K (a.put o.dst undef) w'):if Region.wanted o (yielded ops a.tmps)=true then Oper.wp P o a w K Q else E:=by
  have hw:Region.wanted o (yielded ops a.tmps)=true:=by simp [Region.wanted,hgd]
  rw [if_pos hw]
  exact wp_store_val ty x v ho g off hx t C #[val] (by rw [hv,hval]) hg hi (by show off+1≤C.size; omega) (by simpa using h1) fun w' h2 h3 h4=>h w' (by rw [splice_one C val hfit] at h2; exact h2) h3 h4
theorem step_store_fld {P:Program} {ops:Array Oper} {o:Oper} {a:Act} {w:World} {K:Act→World→Prop} {Q:Exit→Act→World→Prop} {E:Prop} (hgd:o.guard=none) (ty:TypeId) (x v:Operand) (ho:o.op=.store ty x v)
    (g off:Nat) (hx:a.eval x=.pointer (some ⟨g,off,none⟩)) (t:TypeId) (F:Array Value→Array Value) (A B D cs:Array Value) (hF:∀ B,F B=A++(B++D)) (hv:(a.eval v).cells=cs) (hg:w.heap[g]?=some (.cells (F B) t (0,0))) (hA:A.size=off) (hB:B.size=cs.size)
    (hi:(P.info? ty).map (·.size)=some cs.size) (h1:∀ u ∈ cs.toList,u.oneCell'=true)
    (h:∀ w',w'.heap[g]?=some (.cells (F cs) t (0,0))→But g w w'→w'.heap.size=w.heap.size→K (a.put o.dst undef) w'):if Region.wanted o (yielded ops a.tmps)=true then Oper.wp P o a w K Q else E:=
  step_store_part hgd ty x v ho g off hx t A B D cs hv (by rw [hg,hF]) hA hB hi h1 fun w' h2 h3 h4=>h w' (by rw [h2,hF]) h3 h4
theorem wpList_store_fld {P:Program} {ops:Array Oper} {rest:List Oper} {o:Oper} {a:Act} {w:World} {Q:Exit→Act→World→Prop} (hgd:o.guard=none) (ty:TypeId) (x v:Operand) (ho:o.op=.store ty x v)
    (g off:Nat) (hx:a.eval x=.pointer (some ⟨g,off,none⟩)) (t:TypeId) (F:Array Value→Array Value) (A B D cs:Array Value) (hF:∀ B,F B=A++(B++D)) (hv:(a.eval v).cells=cs) (hg:w.heap[g]?=some (.cells (F B) t (0,0))) (hA:A.size=off) (hB:B.size=cs.size)
    (hi:(P.info? ty).map (·.size)=some cs.size) (h1:∀ u ∈ cs.toList,u.oneCell'=true)
    (h:∀ w',w'.heap[g]?=some (.cells (F cs) t (0,0))→But g w w'→w'.heap.size=w.heap.size→wpList P ops Q rest (a.put o.dst undef) w'):wpList P ops Q (o::rest) a w:=
  wpList_store_part hgd ty x v ho g off hx t A B D cs hv (by rw [hg,hF]) hA hB hi h1 fun w' h2 h3 h4=>h w' (by rw [h2,hF]) h3 h4
theorem fld_get {F:Array Value→Array Value} {A B D:Array Value} {off:Nat} (hF:∀ B,F B=A++(B++D)) (hA:A.size=off) {j:Nat} (hj:j<B.size):(F B)[off+j]?=B[j]?:=by
  rw [hF,app_hi hA,app_lo hj]
def cgA (i p a b n g bits size lg f b3:Array Value):Array Value:=i++(p++(a++(b++(n++(g++(bits++(size++(lg++(f++b3)))))))))
section
variable (i p a b n g bits size lg f b3:Array Value)
theorem cg_i:∀ B,cgA B p a b n g bits size lg f b3=#[]++(B++(p++(a++(b++(n++(g++(bits++(size++(lg++(f++b3)))))))))):=fun B=>by simp [cgA]
theorem cg_p:∀ B,cgA i B a b n g bits size lg f b3=i++(B++(a++(b++(n++(g++(bits++(size++(lg++(f++b3))))))))):=fun B=>by simp [cgA]
theorem cg_a:∀ B,cgA i p B b n g bits size lg f b3=(i++p)++(B++(b++(n++(g++(bits++(size++(lg++(f++b3)))))))):=fun B=>by simp [cgA]
theorem cg_b:∀ B,cgA i p a B n g bits size lg f b3=(i++p++a)++(B++(n++(g++(bits++(size++(lg++(f++b3))))))):=fun B=>by simp [cgA]
theorem cg_n:∀ B,cgA i p a b B g bits size lg f b3=(i++p++a++b)++(B++(g++(bits++(size++(lg++(f++b3)))))):=fun B=>by simp [cgA]
theorem cg_g:∀ B,cgA i p a b n B bits size lg f b3=(i++p++a++b++n)++(B++(bits++(size++(lg++(f++b3))))):=fun B=>by simp [cgA]
theorem cg_bits:∀ B,cgA i p a b n g B size lg f b3=(i++p++a++b++n++g)++(B++(size++(lg++(f++b3)))):=fun B=>by simp [cgA]
theorem cg_size:∀ B,cgA i p a b n g bits B lg f b3=(i++p++a++b++n++g++bits)++(B++(lg++(f++b3))):=fun B=>by simp [cgA]
theorem cg_lg:∀ B,cgA i p a b n g bits size B f b3=(i++p++a++b++n++g++bits++size)++(B++(f++b3)):=fun B=>by simp [cgA]
theorem cg_b3:∀ B,cgA i p a b n g bits size lg f B=(i++p++a++b++n++g++bits++size++lg++f)++(B++#[]):=fun B=>by simp [cgA]
end
end Go.Proofs.YtkoonhiplicbkaaGreat.Cw
namespace Go.Proofs.YtkoonhiplicbkaaGreat.Cw
open Go Go.RowKit
attribute [local go_sem ↓ high] wn_eql wn_neq wn_lss wn_gtr wn_leq wn_geq wn_cells wRS wn_guard lit0 lit1 lit10
attribute [local go_sem high] wn_match wRS wn_eql wn_neq wn_lss wn_gtr wn_leq wn_geq
def hexd (c:Nat):Nat:=if 97≤c then c - 97+10 else c - 48
def isHex (c:Nat):Prop:=(48≤c∧c≤57)∨(97≤c∧c≤102)
theorem hexd_lt {c:Nat} (h:isHex c):hexd c<16:=by
  unfold hexd isHex at *
  split <;> omega
def let8 (s:ByteArray) (k:Nat):Nat:=(s.data.getD k 0).toNat
def hexv (s:ByteArray):Nat→Nat
  | 0=>0
  | i+1=>hexv s i+hexd (let8 s (s.size - 1 - i))*16 ^ i
theorem hexv_lt (s:ByteArray) (hh:∀ i,i<s.size→isHex (let8 s i)):∀ i,i≤s.size→hexv s i<16 ^ i
  | 0,_=>by show 0<16 ^ 0; decide
  | i+1,h=>by
    have h1:=hexv_lt s hh i (by omega)
    have h2:=hexd_lt (hh (s.size - 1 - i) (by omega))
    unfold hexv
    have h3:hexd (let8 s (s.size - 1 - i))*16 ^ i≤15*16 ^ i:=Nat.mul_le_mul_right _ (by omega)
    rw [Nat.pow_succ]
    omega
theorem sixteen_pow (i:Nat):16 ^ i=pw (i / 16)*2 ^ (4*(i%16)):=by
  rw [pw_two,← Nat.pow_add,show (16:Nat)=2 ^ 4 from rfl,← Nat.pow_mul]
  congr 1
  omega
theorem hex_or (V d i:Nat) (hV:V<16 ^ i) (hd:d<16):dig V (i / 16) ||| d*2 ^ (4*(i%16))%18446744073709551616=dig (V+d*16 ^ i) (i / 16):=by
  rw [sixteen_pow] at hV ⊢
  have hr:i%16<16:=Nat.mod_lt _ (by decide)
  generalize i / 16=q at *
  generalize i%16=r at *
  have hq:V / pw q<2 ^ (4*r):=Nat.div_lt_of_lt_mul hV
  have hp:2 ^ (4*r)≤2 ^ 60:=Nat.pow_le_pow_right (by decide) (by omega)
  have e60:(2:Nat) ^ 60=1152921504606846976:=rfl
  have h1:dig V q=V / pw q:=by unfold dig; exact Nat.mod_eq_of_lt (by omega)
  have h2:d*2 ^ (4*r)≤15*2 ^ (4*r):=Nat.mul_le_mul_right _ (by omega)
  have h3:d*2 ^ (4*r)%18446744073709551616=d*2 ^ (4*r):=Nat.mod_eq_of_lt (by omega)
  have h4:dig (V+d*(pw q*2 ^ (4*r))) q=V / pw q+d*2 ^ (4*r):=by
    unfold dig
    rw [show d*(pw q*2 ^ (4*r))=pw q*(d*2 ^ (4*r)) from Nat.mul_left_comm _ _ _,Nat.add_mul_div_left _ _ (pw_pos q)]
    exact Nat.mod_eq_of_lt (by omega)
  rw [h1,h3,h4,Nat.or_comm,Nat.mul_comm d,← Nat.two_pow_add_eq_or_of_lt hq,Nat.add_comm]
theorem hex_cells (V d i:Nat) (hV:V<16 ^ i) (hd:d<16):fa wn 9 (upd (dig V) (i / 16) (dig (V+d*16 ^ i) (i / 16)))=nc (V+d*16 ^ i):=by
  refine fa_ext _ _ _ _ fun j hj=>?_
  have hr:i%16<16:=Nat.mod_lt _ (by decide)
  have hp:2 ^ (4*(i%16))≤2 ^ 60:=Nat.pow_le_pow_right (by decide) (by omega)
  have e60:(2:Nat) ^ 60=1152921504606846976:=rfl
  unfold upd
  split
  · subst_vars; rfl
  · rename_i hne
    rcases Nat.lt_or_ge j (i / 16) with h | h
    · rw [sixteen_pow,show d*(pw (i / 16)*2 ^ (4*(i%16)))=pw (i / 16)*(d*2 ^ (4*(i%16))) from Nat.mul_left_comm _ _ _,cc_low _ _ _ _ h]
    · have hlt:V+d*16 ^ i<pw (i / 16+1):=by
        rw [sixteen_pow] at hV ⊢
        rw [pw_succ]
        have h2:d*(pw (i / 16)*2 ^ (4*(i%16)))≤15*(pw (i / 16)*2 ^ (4*(i%16))):=Nat.mul_le_mul_right _ (by omega)
        have h3:pw (i / 16)*2 ^ (4*(i%16))≤pw (i / 16)*2 ^ 60:=Nat.mul_le_mul_left _ hp
        have h4:=pw_pos (i / 16)
        rw [e60] at h3
        omega
      rw [dig_high _ _ hlt j (by omega),dig_high V (i / 16+1) (by omega) j (by omega)]
theorem str_at (s:ByteArray) (k:Nat) (h:k<s.size) (w:World):(Instr.index 9 (.string s) (.int .i64 k)).run Tryz.prog w=.ok (.int .u8 (let8 s k)) w:=by
  have e:let8 s k=(s[k]'h).toNat:=by
    unfold let8
    have hk:k<s.data.size:=h
    simp only [Array.getD]
    rw [dif_pos hk]
    rfl
  rw [e]
  simp [Instr.index,asIntOf,run_underlying Tryz.underlying9,h]
theorem u8_sub {c k:Nat} (h:k≤c) (hc:c<256):IntKind.u8.wrap ((c:Int) - (k:Int))=((c - k:Nat):Int):=by
  simp only [IntKind.wrap,IntKind.bits,IntKind.signed]
  simp
  omega
theorem cvt_u8 (n:Nat) (w:World) (h:n<256):(convert 5 24 (.int .u8 (n:Int))).run Tryz.prog w=.ok (wn n) w:=by
  have e:IntKind.u64.wrap (n:Int)=(n:Int):=by rw [wrapN,Nat.mod_eq_of_lt (by omega)]
  unfold wn
  go_simp
  try rw [e]
theorem field_hex (s:ByteArray) (w:World) (h144:s.size≤144) (hh:∀ i,i<s.size→isHex (let8 s i)):Calls Tryz.prog 71 #[.string s] w fun e w'=>e=.returned (.agg (nc (hexv s s.size)))∧Below w.heap.size w w':=by
  have HH:=Hd hh
  have HV:=Hd (hexv_lt s hh)
  have HA:=Hd (str_at s)
  clear hh
  obtain ⟨n,hn⟩:∃ n,n=s.size:=⟨_,rfl⟩
  have HN:=Hd hn
  rw [← hn] at h144 ⊢
  clear hn
  go_enter Tryz.func71,Tryz.ntmps71
  go_wp2_with (fail)
  rw [← nZ]
  have m0:=Mem.start2 w (nc 0) (nc 0) 27 27
  obtain ⟨w1,hw1⟩:∃ w1:World,w1=((w.alloc (.cells (nc 0) 27)).alloc (.cells (nc 0) 27)):=⟨_,rfl⟩
  rw [← hw1] at m0 ⊢
  clear hw1
  obtain ⟨g,hg⟩:∃ g,g=w.heap.size:=⟨_,rfl⟩
  rw [← hg] at m0 ⊢
  have HG:=Hd hg
  have M:=Hd m0
  clear hg m0
  go_loopw [9] (fun iv wr=>∃ i:Nat,i≤n∧iv=.int .i64 i∧Mem w wr [(g,nc 0,27),(g+1,nc (hexv s i),27)]) (fun iv _=>n - (intOf iv).toNat)
  case atStart=>exact ⟨0,by omega,rfl,M.out⟩
  case round=>
    obtain ⟨i,hi,rfl,hm⟩:=hrel
    have M:=Hd hm
    clear hm
    have hsz:s.size=n:=HN.out.symm
    by_cases hlt:i<n
    · obtain ⟨k,hk⟩:∃ k,k=n - 1 - i:=⟨_,rfl⟩
      have e1:(n:Int) - 1 - (i:Int)=(k:Int):=by omega
      have hkn:k<s.size:=by omega
      have hx:=fun w=>HA.out k hkn w
      have hhex:=HH.out k hkn
      have hVi:=HV.out i (by omega)
      obtain ⟨c,hc⟩:∃ c,c=let8 s k:=⟨_,rfl⟩
      rw [← hc] at hx hhex
      have hv1:hexv s (i+1)=hexv s i+hexd c*16 ^ i:=by
        rw [hc,hk,HN.out]; rfl
      obtain ⟨V,hV⟩:∃ V,V=hexv s i:=⟨_,rfl⟩
      rw [← hV] at M hVi hv1
      have hd16:=hexd_lt hhex
      have hor:=hex_or V (hexd c) i hVi hd16
      have hcl:=hex_cells V (hexd c) i hVi hd16
      rw [← hv1] at hor hcl
      obtain ⟨V',hV'⟩:∃ V',V'=hexv s (i+1):=⟨_,rfl⟩
      rw [← hV'] at hor hcl
      obtain ⟨q,hq⟩:∃ q,q=i / 16:=⟨_,rfl⟩
      obtain ⟨r,hr⟩:∃ r,r=i%16:=⟨_,rfl⟩
      rw [← hq] at hor hcl
      rw [← hr] at hor
      have q9:q<9:=by omega
      have e2:(i:Int) / 16=(q:Int):=by omega
      have e3:(i:Int).tmod 16=(r:Int):=by rw [Int.tmod_eq_emod_of_nonneg (by omega)]; omega
      have q9i:(q:Int)<9:=by omega
      obtain ⟨r4,hr4⟩:∃ r4,r4=4*r:=⟨_,rfl⟩
      rw [← hr4] at hor
      have hr16:r<16:=by omega
      have w1:IntKind.i64.wrap (q:Int)=(q:Int):=IntWalk.i64_in _ (by omega)
      have w2:IntKind.i64.wrap (r:Int)=(r:Int):=IntWalk.i64_in _ (by omega)
      have w3:IntKind.i64.wrap (r4:Int)=(r4:Int):=IntWalk.i64_in _ (by omega)
      have e4:(4:Int)*(r:Int)=(r4:Int):=by omega
      obtain ⟨x,hxx⟩:∃ x,x=hexd c:=⟨_,rfl⟩
      rw [← hxx] at hor hd16
      have o1:=wn_shl 24 x .i64 r4
      have o2:=wn_or 24 (dig V q) (x*2 ^ r4%18446744073709551616) (dig_lt V q) (Nat.mod_lt _ (by decide))
      rw [hor] at o2
      obtain ⟨y,hy⟩:∃ y,y=x*2 ^ r4%18446744073709551616:=⟨_,rfl⟩
      rw [← hy] at o1 o2
      obtain ⟨z,hz⟩:∃ z,z=dig V' q:=⟨_,rfl⟩
      rw [← hz] at o2 hcl
      have hcl':(nc V).setIfInBounds q (wn z)=nc V':=by
        have:(nc V).setIfInBounds q (wn z)=fa wn 9 (upd (dig V) q z):=fa_set _ _ _ _ _
        rw [this,hcl]
      have HCL:=Hd hcl'
      have HV':=Hd hV'
      have hc256:c<256:=by unfold isHex at hhex; omega
      have h48:48≤c:=by unfold isHex at hhex; omega
      have s1:IntKind.u8.wrap ((c:Int) - 48)=((c - 48:Nat):Int):=by have:=u8_sub h48 hc256; simpa using this
      have v1:∀ w,(convert 5 24 (.int .u8 ((c - 48:Nat):Int))).run Tryz.prog w=.ok (wn (c - 48)) w:=fun w=>cvt_u8 _ w (by omega)
      by_cases hl:97≤c
      · have d1:decide ((c:Int)≥97)=true:=decide_eq_true (by omega)
        have s2:IntKind.u8.wrap ((c:Int) - 97)=((c - 97:Nat):Int):=by have:=u8_sub hl hc256; simpa using this
        have v2:∀ w,(convert 5 24 (.int .u8 ((c - 97:Nat):Int))).run Tryz.prog w=.ok (wn (c - 97)) w:=fun w=>cvt_u8 _ w (by omega)
        have a1:binOp .add 24 (wn (c - 97)) (wn 10)=pure (wn x):=by
          rw [wn_add,Nat.mod_eq_of_lt (by omega),hxx]
          unfold hexd
          rw [if_pos hl]
        clear hcl hcl' hor hv1 hV' hV hxx hd16 hy hz hq hr hr4 hk hc hVi hhex
        go_upto_region 9 with fail
        have D9:=Hd (M.out.drew)
        refine rGw 11 13 (by kernel_rfl) (by kernel_rfl) (fun d v c a w h=>by cases d <;> exact h) ?_
        simp only [List.take_succ_cons,List.take_zero]
        refine gK (.int .i64 (i:Int)) ?_
        try simp only [Act.put,s_,t_,u_,v_,x_,y_]
        refine pG rfl (.int .i64 (q:Int)) (fun u=>by go_simp; try (intro h; exfalso; omega)) ?_
        refine gK (.pointer (some ⟨g+1,0,none⟩)) ?_
        try simp only [Act.put,s_,t_,u_,v_,x_,y_]
        refine pG rfl (.pointer (some ⟨g+1,q,none⟩)) (fun u=>by go_simp; try (intro h; exfalso; omega)) ?_
        try simp only [Act.put,s_,t_,u_,v_,x_,y_]
        refine wpGrow_load_cell rfl 24 (.tmp 35) rfl (g+1) q (by kernel_rfl) (wn (dig V q)) _ Tryz.underlying24 rfl (fun u hu=>(cO (D9.out.up 1 rfl hu) q).trans (nc_get _ _ q9)) ?_
        refine gK (wn x) ?_
        refine gK (.int .i64 (i:Int)) ?_
        try simp only [Act.put,s_,t_,u_,v_,x_,y_]
        refine pG rfl (.int .i64 (r:Int)) (fun u=>by go_simp; try (intro h; exfalso; omega)) ?_
        try simp only [Act.put,s_,t_,u_,v_,x_,y_]
        refine pG rfl (.int .i64 (r4:Int)) (fun u=>by go_simp; try (intro h; exfalso; omega)) ?_
        try simp only [Act.put,s_,t_,u_,v_,x_,y_]
        refine pG rfl (wn y) (fun u=>by go_simp; try (intro h; exfalso; omega)) ?_
        try simp only [Act.put,s_,t_,u_,v_,x_,y_]
        refine pG rfl (wn z) (fun u=>by go_simp; try (intro h; exfalso; omega)) ?_
        refine gN ?_
        try simp only [Act.put,s_,t_,u_,v_,x_,y_]
        refine grow_ready (rs:=[11]) (by kernel_rfl) (by simp) (fun u1 hG1=>?_)
        have N1:=Hd (D9.out.grow hG1)
        clear hG1 D9
        refine GAll.pure (by decide) rfl rfl (.pointer (some ⟨g+1,0,none⟩)) (fun u=>by kernel_rfl) ?_ GAll.nil
        try simp only [Act.put,s_,t_,u_,v_,x_,y_]
        refine grow_ready (rs:=[12]) (by kernel_rfl) (by simp) (fun u2 hG2=>?_)
        have D9:=Hd (N1.out.grow hG2)
        clear hG2 N1
        refine GAll.pure (by decide) rfl rfl (.pointer (some ⟨g+1,q,none⟩)) (fun u=>by go_simp; try (intro h; exfalso; omega)) ?_ GAll.nil
        try simp only [Act.put,s_,t_,u_,v_,x_,y_]
        refine gS (rs:=[13]) (by kernel_rfl) (by decide) (fun w6 hg6=>?_)
        have N6:=Hd (D9.out.grow hg6)
        clear hg6 D9
        refine wpAny_ready (rs:=[13]) (by kernel_rfl) (by simp) ?_
        refine AllReady.cons rfl (fun K hK=>?_) AllReady.nil
        refine step_store_cell rfl 24 (.tmp 44) (.tmp 42) rfl (g+1) q rfl _ (nc V) (wn z) rfl rfl (N6.out.at 1 rfl) (by kernel_rfl) (by rw [nS]; exact q9) rfl (fun w7 hw hb hs=>hK _ _ ?_)
        have N7:=Hd (show Mem w w7 [(g,nc 0,27),(g+1,nc V',27)] from N6.out.store 1 rfl hb hs (by rw [← HCL.out]; exact hw))
        clear hK hw hb hs N6
        try simp only [Act.put,s_,t_,u_,v_,x_,y_]
        refine wpAny_done (by kernel_rfl) ?_ _
        try simp only [Act.put,s_,t_,u_,v_,x_,y_]
        go_wp2_with (fail)
        go_roundw
        case rel=>exact ⟨i+1,by omega,by go_num,by rw [← HV'.out]; exact N7.out⟩
        case measure=>simp [intOf]; omega
      · have d1:decide ((c:Int)≥97)=false:=decide_eq_false (by omega)
        have hx2:c - 48=x:=by
          rw [hxx]
          unfold hexd
          rw [if_neg hl]
        rw [hx2] at s1 v1
        clear hcl hcl' hor hv1 hV' hV hxx hd16 hy hz hq hr hr4 hk hc hVi hhex hx2
        go_upto_region 9 with fail
        have D9:=Hd (M.out.drew)
        refine rGw 11 13 (by kernel_rfl) (by kernel_rfl) (fun d v c a w h=>by cases d <;> exact h) ?_
        simp only [List.take_succ_cons,List.take_zero]
        refine gK (.int .i64 (i:Int)) ?_
        try simp only [Act.put,s_,t_,u_,v_,x_,y_]
        refine pG rfl (.int .i64 (q:Int)) (fun u=>by go_simp; try (intro h; exfalso; omega)) ?_
        refine gK (.pointer (some ⟨g+1,0,none⟩)) ?_
        try simp only [Act.put,s_,t_,u_,v_,x_,y_]
        refine pG rfl (.pointer (some ⟨g+1,q,none⟩)) (fun u=>by go_simp; try (intro h; exfalso; omega)) ?_
        try simp only [Act.put,s_,t_,u_,v_,x_,y_]
        refine wpGrow_load_cell rfl 24 (.tmp 35) rfl (g+1) q (by kernel_rfl) (wn (dig V q)) _ Tryz.underlying24 rfl (fun u hu=>(cO (D9.out.up 1 rfl hu) q).trans (nc_get _ _ q9)) ?_
        refine gK (wn x) ?_
        refine gK (.int .i64 (i:Int)) ?_
        try simp only [Act.put,s_,t_,u_,v_,x_,y_]
        refine pG rfl (.int .i64 (r:Int)) (fun u=>by go_simp; try (intro h; exfalso; omega)) ?_
        try simp only [Act.put,s_,t_,u_,v_,x_,y_]
        refine pG rfl (.int .i64 (r4:Int)) (fun u=>by go_simp; try (intro h; exfalso; omega)) ?_
        try simp only [Act.put,s_,t_,u_,v_,x_,y_]
        refine pG rfl (wn y) (fun u=>by go_simp; try (intro h; exfalso; omega)) ?_
        try simp only [Act.put,s_,t_,u_,v_,x_,y_]
        refine pG rfl (wn z) (fun u=>by go_simp; try (intro h; exfalso; omega)) ?_
        refine gN ?_
        try simp only [Act.put,s_,t_,u_,v_,x_,y_]
        refine grow_ready (rs:=[11]) (by kernel_rfl) (by simp) (fun u1 hG1=>?_)
        have N1:=Hd (D9.out.grow hG1)
        clear hG1 D9
        refine GAll.pure (by decide) rfl rfl (.pointer (some ⟨g+1,0,none⟩)) (fun u=>by kernel_rfl) ?_ GAll.nil
        try simp only [Act.put,s_,t_,u_,v_,x_,y_]
        refine grow_ready (rs:=[12]) (by kernel_rfl) (by simp) (fun u2 hG2=>?_)
        have D9:=Hd (N1.out.grow hG2)
        clear hG2 N1
        refine GAll.pure (by decide) rfl rfl (.pointer (some ⟨g+1,q,none⟩)) (fun u=>by go_simp; try (intro h; exfalso; omega)) ?_ GAll.nil
        try simp only [Act.put,s_,t_,u_,v_,x_,y_]
        refine gS (rs:=[13]) (by kernel_rfl) (by decide) (fun w6 hg6=>?_)
        have N6:=Hd (D9.out.grow hg6)
        clear hg6 D9
        refine wpAny_ready (rs:=[13]) (by kernel_rfl) (by simp) ?_
        refine AllReady.cons rfl (fun K hK=>?_) AllReady.nil
        refine step_store_cell rfl 24 (.tmp 44) (.tmp 42) rfl (g+1) q rfl _ (nc V) (wn z) rfl rfl (N6.out.at 1 rfl) (by kernel_rfl) (by rw [nS]; exact q9) rfl (fun w7 hw hb hs=>hK _ _ ?_)
        have N7:=Hd (show Mem w w7 [(g,nc 0,27),(g+1,nc V',27)] from N6.out.store 1 rfl hb hs (by rw [← HCL.out]; exact hw))
        clear hK hw hb hs N6
        try simp only [Act.put,s_,t_,u_,v_,x_,y_]
        refine wpAny_done (by kernel_rfl) ?_ _
        try simp only [Act.put,s_,t_,u_,v_,x_,y_]
        go_wp2_with (fail)
        go_roundw
        case rel=>exact ⟨i+1,by omega,by go_num,by rw [← HV'.out]; exact N7.out⟩
        case measure=>simp [intOf]; omega
    · have hin:i=n:=by omega
      subst hin
      go_wp2_with (first
        | (refine l0N rfl (.tmp 3) rfl (g+1) rfl (M.out.at 1 rfl) ?_)
        | (refine wpN_store0 rfl (.tmp 2) (.tmp 46) rfl g rfl (M.out.at 0 rfl) _ rfl (nS _) ?_
           intro w9 hw9 hb9 hs9
           have N9:=Hd (M.out.store 0 rfl hb9 hs9 hw9)
           clear hw9 hb9 hs9))
      exact bodyPost_ret (results_N rfl _ _ g _ _ _ rfl (N9.out.at 0 rfl)) rfl ⟨rfl,N9.out.below⟩
end Go.Proofs.YtkoonhiplicbkaaGreat.Cw
