/-
  Euclid's steps with the factor kept: plain law. No program.
  (package mask) spread, Zero, Equal.
  Blocks of one's own kept in a list: what is laid, kept and written. No condition of a program's.
  A drawn statement that lays several new variables (x, y := f(..), g(..)): a store into a new variable may come up before another's call. No condition of a program's.
  A statement whose order is fixed, operation by operation. No condition of a program's.
  (package field) Mul, Sub, Add, Has: numbers modulo a curve's P. Condition: numbers below P.
  When points are equal as values, and triples. Condition: numbers below 2^576.
-/
import Derived.Test.YtkoonhiplicbkaaGreatQk8
import Derived.Test.YtkoonhiplicbkaaGreatQk9
import Derived.Test.YtkoonhiplicbkaaGreatQk13
set_option linter.unusedSimpArgs false
set_option linter.unusedVariables false
set_option maxHeartbeats 4000000
set_option maxRecDepth 100000
namespace Go.Proofs.YtkoonhiplicbkaaGreat.Cw
theorem inv_step {a m r0 r1 t0 t1 d q:Int} (h0:m∣t0*a - r0) (h1:m∣t1*a - r1) (hd:m∣d - (t0 - q*t1)):m∣d*a - (r0 - q*r1):=by
 have e:d*a - (r0 - q*r1)=(d - (t0 - q*t1))*a+((t0*a - r0) - q*(t1*a - r1)):=by grind
 rw [e]
 exact Int.dvd_add (Int.dvd_mul_of_dvd_left hd) (Int.dvd_sub h0 (Int.dvd_mul_of_dvd_right h1))
structure InvAt (a m r0 r1 t0 t1:Nat):Prop where
 d0:(m:Int)∣(t0:Int)*a - r0
 d1:(m:Int)∣(t1:Int)*a - r1
 b0:t0≤m
 b1:t1≤m
 g:Nat.gcd r0 r1=Nat.gcd a m
 lt:r1<r0
 le:r0≤m
def nextT (m t0 s:Nat):Nat:=if t0<s then t0+m - s else t0 - s
theorem nextT_mod (m t0 t1 q:Nat) (hm:0<m) (h0:t0≤m):nextT m t0 (q*t1%m)≤m∧(m:Int)∣(nextT m t0 (q*t1%m):Int) - ((t0:Int) - q*t1):=by
 have hs:=Nat.mod_lt (q*t1) hm
 have hd:=Nat.div_add_mod (q*t1) m
 have hc:((q:Int)*t1)=m*((q*t1 / m:Nat):Int)+((q*t1%m:Nat):Int):=by
  have:=congrArg (fun n:Nat=>(n:Int)) hd
  simp only [Int.natCast_add,Int.natCast_mul] at this
  rw [← this]
 unfold nextT
 generalize q*t1 / m=k at *
 generalize q*t1%m=s at *
 split
 ·refine ⟨by omega,⟨(k:Int)+1,?_⟩⟩
  have e:((t0+m - s:Nat):Int)=(t0:Int)+m - s:=by omega
  rw [e,hc]
  grind
 ·refine ⟨by omega,⟨(k:Int),?_⟩⟩
  have e:((t0 - s:Nat):Int)=(t0:Int) - s:=by omega
  rw [e,hc]
  grind
theorem InvAt.step {a m r0 r1 t0 t1:Nat} (h:InvAt a m r0 r1 t0 t1) (h1:r1≠0):InvAt a m r1 (r0%r1) t1 (nextT m t0 (r0 / r1*t1%m)):=by
 have hm:0<m:=by have:=h.lt; have:=h.le; omega
 obtain ⟨hb,hd⟩:=nextT_mod m t0 t1 (r0 / r1) hm h.b0
 refine ⟨h.d1,?_,h.b1,hb,?_,Nat.mod_lt _ (by omega),by have:=h.lt; have:=h.le; omega⟩
 ·have e:((r0%r1:Nat):Int)=(r0:Int) - ((r0 / r1:Nat):Int)*r1:=by
   have:=congrArg (fun n:Nat=>(n:Int)) (Nat.div_add_mod r0 r1)
   simp only [Int.natCast_add,Int.natCast_mul] at this
   grind
  rw [e]
  exact inv_step h.d0 h.d1 hd
 ·rw [← h.g,Nat.gcd_comm r1,← Nat.gcd_rec,Nat.gcd_comm]
theorem InvAt.start (a m:Nat) (hm:0<m):InvAt a m m (a%m) 0 1:=by
 refine ⟨⟨-1,by grind⟩,⟨((a / m:Nat):Int),?_⟩,by omega,by omega,?_,Nat.mod_lt _ hm,Nat.le_refl _⟩
 ·have:=congrArg (fun n:Nat=>(n:Int)) (Nat.div_add_mod a m)
  simp only [Int.natCast_add,Int.natCast_mul] at this
  grind
 ·rw [Nat.gcd_comm m,← Nat.gcd_rec,Nat.gcd_comm]
theorem InvAt.done {a m r0 t0 t1:Nat} (h:InvAt a m r0 0 t0 t1) (hm:m≠1):(r0=1↔Nat.gcd a m=1)∧(r0=1→t0<m∧t0*a%m=1):=by
 have hg:=h.g
 rw [Nat.gcd_zero_right] at hg
 refine ⟨by rw [hg],fun h1=>?_⟩
 have hm1:1<m:=by have:=h.lt; have:=h.le; omega
 have hd:=h.d0
 rw [h1] at hd
 have hmod:((t0*a:Nat):Int)%m=1%m:=by
  rw [Int.natCast_mul]
  exact Int.emod_eq_emod_iff_emod_sub_eq_zero.2 (Int.emod_eq_zero_of_dvd hd)
 have h2:t0*a%m=1:=by
  have e:(1:Int)%m=1:=Int.emod_eq_of_lt (by omega) (by omega)
  rw [e] at hmod
  omega
 refine ⟨?_,h2⟩
 rcases Nat.lt_or_ge t0 m with h3 | h3
 ·exact h3
 ·exfalso
  have:t0=m:=Nat.le_antisymm h.b0 h3
  rw [this,Nat.mul_mod_right] at h2
  omega
end Go.Proofs.YtkoonhiplicbkaaGreat.Cw
namespace Go.Proofs.YtkoonhiplicbkaaGreat.Cw
open Go Go.RowKit
def mw (b:Bool):Value:=.int .u64 (if b then 18446744073709551615 else 0)
theorem mask_spread (b:Bool) (w:World):Calls Tryz.prog 162 #[.int .u64 (if b then 1 else 0)] w fun e w'=>e=.returned (mw b)∧w=w':=by
 cases b
 ·go_enter Tryz.func162,Tryz.ntmps162
  go_wp2
  go_ret
  exact ⟨rfl,rfl⟩
 ·go_enter Tryz.func162,Tryz.ntmps162
  go_wp2
  go_ret
  exact ⟨rfl,rfl⟩
end Go.Proofs.YtkoonhiplicbkaaGreat.Cw
namespace Go.Proofs.YtkoonhiplicbkaaGreat.Cw
open Go Go.RowKit
abbrev Blk:=Nat × Array Value × TypeId
def Mem (w0 w:World) (L:List Blk):Prop:=Grows w0 w∧(∀ e ∈ L,w0.heap.size≤e.1∧w.heap[e.1]?=some (.cells e.2.1 e.2.2 (0,0)))∧L.Pairwise (fun a b=>a.1≠b.1)
theorem lt_size {w:World} {g:Nat} {o:Obj} (h:w.heap[g]?=some o):g<w.heap.size:=(Array.getElem?_eq_some_iff.mp h).1
theorem grows_at {w w':World} {g:Nat} {o:Obj} (h:w.heap[g]?=some o) (hg:Grows w w'):w'.heap[g]?=some o:=(hg.block g (lt_size h)).trans h
section
variable {w0 w w':World} {L:List Blk}
theorem Mem.nil (w:World):Mem w w []:=⟨grows_refl w,fun _ h=>(by cases h),List.Pairwise.nil⟩
theorem Mem.grow (M:Mem w0 w L) (h:Grows w w'):Mem w0 w' L:=⟨gT _ _ _ M.1 h,fun e he=>⟨(M.2.1 e he).1,grows_at (M.2.1 e he).2 h⟩,M.2.2⟩
theorem Mem.drew (M:Mem w0 w L):Mem w0 w.drew L:=M.grow ((Below.refl _ _).drew)
theorem Mem.drewN (M:Mem w0 w L) (n:Nat):Mem w0 (w.drewN n) L:=M.grow (Below.drewN (Below.refl _ _) n)
theorem Mem.at (M:Mem w0 w L) (i:Nat) {g:Nat} {C:Array Value} {t:TypeId} (h:L[i]?=some (g,C,t)):w.heap[g]?=some (.cells C t (0,0)):=(M.2.1 _ (List.mem_of_getElem? h)).2
theorem Mem.up (M:Mem w0 w L) (i:Nat) {g:Nat} {C:Array Value} {t:TypeId} (h:L[i]?=some (g,C,t)) (hg:Grows w w'):w'.heap[g]?=some (.cells C t (0,0)):=grows_at (M.at i h) hg
theorem Mem.ge (M:Mem w0 w L) (i:Nat) {g:Nat} {C:Array Value} {t:TypeId} (h:L[i]?=some (g,C,t)):w0.heap.size≤g:=(M.2.1 _ (List.mem_of_getElem? h)).1
theorem Mem.below (M:Mem w0 w L):Below w0.heap.size w0 w:=M.1
theorem Mem.new (M:Mem w0 w L) {x:Nat} {C:Array Value} {t:TypeId} (h:Grows w w') (hx:w.heap.size≤x) (hh:w'.heap[x]?=some (.cells C t (0,0))):Mem w0 w' (L++[(x,C,t)]):=by
 refine ⟨gT _ _ _ M.1 h,fun e he=>?_,?_⟩
 ·rcases List.mem_append.1 he with h1 | h1
  ·exact (M.grow h).2.1 e h1
  ·obtain rfl:e=(x,C,t):=by simpa using h1
   exact ⟨Nat.le_trans M.1.size hx,hh⟩
 ·rw [List.pairwise_append]
  refine ⟨M.2.2,by simp,fun a ha b hb=>?_⟩
  obtain rfl:b=(x,C,t):=by simpa using hb
  have:=lt_size (M.2.1 a ha).2
  show a.1≠x
  omega
theorem Mem.new2 (M:Mem w0 w L) {x y:Nat} {C D:Array Value} {t u:TypeId} (h:Grows w w') (hx:w.heap.size≤x) (hy:w.heap.size≤y) (hxy:x≠y) (hh:w'.heap[x]?=some (.cells C t (0,0))) (hh2:w'.heap[y]?=some (.cells D u (0,0))):Mem w0 w' (L++[(x,C,t),(y,D,u)]):=by
 have M1:=M.new h hx hh
 have M2:=M.new h hy hh2
 refine ⟨M1.1,fun e he=>?_,?_⟩
 ·simp only [List.mem_append,List.mem_cons,List.not_mem_nil,or_false] at he
  rcases he with he | rfl | rfl
  ·exact M1.2.1 e (List.mem_append_left _ he)
  ·exact M1.2.1 _ (by simp)
  ·exact M2.2.1 _ (by simp)
 ·have p1:=List.pairwise_append.1 M1.2.2
  have p2:=List.pairwise_append.1 M2.2.2
  rw [List.pairwise_append]
  refine ⟨M.2.2,by simp [hxy],fun a ha b hb=>?_⟩
  simp only [List.mem_cons,List.not_mem_nil,or_false] at hb
  rcases hb with rfl | rfl
  ·exact p1.2.2 a ha _ (by simp)
  ·exact p2.2.2 a ha _ (by simp)
theorem Mem.new3 (M:Mem w0 w L) {x y z:Nat} {C D E:Array Value} {t u v:TypeId} (h:Grows w w') (hx:w.heap.size≤x) (hy:w.heap.size≤y) (hz:w.heap.size≤z) (hxy:x≠y) (hxz:x≠z) (hyz:y≠z) (hh:w'.heap[x]?=some (.cells C t (0,0))) (hh2:w'.heap[y]?=some (.cells D u (0,0))) (hh3:w'.heap[z]?=some (.cells E v (0,0))):Mem w0 w' (L++[(x,C,t),(y,D,u),(z,E,v)]):=by
 have M1:=M.new2 h hx hy hxy hh hh2
 have M2:=M.new h hz hh3
 refine ⟨M1.1,fun e he=>?_,?_⟩
 ·simp only [List.mem_append,List.mem_cons,List.not_mem_nil,or_false] at he
  rcases he with he | rfl | rfl | rfl
  ·exact M1.2.1 e (List.mem_append_left _ he)
  ·exact M1.2.1 _ (by simp)
  ·exact M1.2.1 _ (by simp)
  ·exact M2.2.1 _ (by simp)
 ·have p1:=List.pairwise_append.1 M1.2.2
  have p2:=List.pairwise_append.1 M2.2.2
  rw [List.pairwise_append]
  refine ⟨M.2.2,by simp [hxy,hxz,hyz],fun a ha b hb=>?_⟩
  simp only [List.mem_cons,List.not_mem_nil,or_false] at hb
  rcases hb with rfl | rfl | rfl
  ·exact p1.2.2 a ha _ (by simp)
  ·exact p1.2.2 a ha _ (by simp)
  ·exact p2.2.2 a ha _ (by simp)
theorem Mem.alloc (M:Mem w0 w L) (C:Array Value) (t:TypeId):Mem w0 (w.alloc (.cells C t)) (L++[(w.heap.size,C,t)]):=M.new (grows_alloc _ _) (Nat.le_refl _) (new1 w _)
theorem Mem.store (M:Mem w0 w L) (i:Nat) {g:Nat} {C:Array Value} {t:TypeId} (h:L[i]?=some (g,C,t)) (hb:But g w w') (hs:w'.heap.size=w.heap.size) {C':Array Value} {t':TypeId} (hh:w'.heap[g]?=some (.cells C' t' (0,0))):Mem w0 w' (L.set i (g,C',t')):=by
 have hi:i<L.length:=(List.getElem?_eq_some_iff.1 h).1
 have hLi:L[i]=(g,C,t):=(List.getElem?_eq_some_iff.1 h).2
 have hpw:=List.pairwise_iff_getElem.1 M.2.2
 refine ⟨But.below M.1 hb (M.ge i h) M.1.size,fun e he=>?_,?_⟩
 ·obtain ⟨j,hj,hje⟩:=List.getElem_of_mem he
  rw [List.getElem_set] at hje
  have hj':j<L.length:=by simpa using hj
  split at hje
  ·subst hje; exact ⟨M.ge i h,hh⟩
  ·rename_i hne
   subst hje
   have h1:=M.2.1 L[j] (List.getElem_mem hj')
   refine ⟨h1.1,hb.heap ?_ h1.2⟩
   rcases Nat.lt_trichotomy i j with h2 | h2 | h2
   ·have:=hpw i j hi hj' h2
    rw [hLi] at this
    exact fun h3=>this h3.symm
   ·exact absurd h2 hne
   ·have:=hpw j i hj' hi h2
    rw [hLi] at this
    exact this
 ·rw [List.pairwise_iff_getElem]
  intro a b ha hb' hab
  have ha':a<L.length:=by simpa using ha
  have hb'':b<L.length:=by simpa using hb'
  have:=hpw a b ha' hb'' hab
  rw [List.getElem_set,List.getElem_set]
  split
  ·rename_i h1
   subst h1
   rw [hLi] at this
   split
   ·omega
   ·exact this
  ·split
   ·rename_i h2
    subst h2
    rw [hLi] at this
    exact this
   ·exact this
theorem Mem.off (M:Mem w0 w L) (n:Nat) {x:Nat} (hx:x<w0.heap.size):x<w.heap.size:=Nat.lt_of_lt_of_le hx M.1.size
theorem heap_succ (w:World) (A:Obj):(w.alloc A).heap.size=w.heap.size+1:=by simp
theorem Mem.start1 (w:World) (C1:Array Value) (t1:TypeId):Mem w (w.alloc (.cells C1 t1)) [(w.heap.size,C1,t1)]:=(Mem.nil w).alloc C1 t1
theorem Mem.start2 (w:World) (C1 C2:Array Value) (t1 t2:TypeId):Mem w ((w.alloc (.cells C1 t1)).alloc (.cells C2 t2)) [(w.heap.size,C1,t1),(w.heap.size+1,C2,t2)]:=by
 have:=(Mem.start1 w C1 t1).alloc C2 t2
 simpa only [heap_succ,List.cons_append,List.nil_append] using this
theorem Mem.start3 (w:World) (C1 C2 C3:Array Value) (t1 t2 t3:TypeId):Mem w (((w.alloc (.cells C1 t1)).alloc (.cells C2 t2)).alloc (.cells C3 t3)) [(w.heap.size,C1,t1),(w.heap.size+1,C2,t2),(w.heap.size+1+1,C3,t3)]:=by
 have:=(Mem.start2 w C1 C2 t1 t2).alloc C3 t3
 simpa only [heap_succ,List.cons_append,List.nil_append] using this
theorem Mem.start4 (w:World) (C1 C2 C3 C4:Array Value) (t1 t2 t3 t4:TypeId):Mem w ((((w.alloc (.cells C1 t1)).alloc (.cells C2 t2)).alloc (.cells C3 t3)).alloc (.cells C4 t4)) [(w.heap.size,C1,t1),(w.heap.size+1,C2,t2),(w.heap.size+1+1,C3,t3),(w.heap.size+1+1+1,C4,t4)]:=by
 have:=(Mem.start3 w C1 C2 C3 t1 t2 t3).alloc C4 t4
 simpa only [heap_succ,List.cons_append,List.nil_append] using this
end
section
variable {P:Program} {ops:Array Oper} {rest:List Oper} {o:Oper} {a:Act} {w:World} {Q:Exit→Act→World→Prop} {L:Act→Prop}
theorem wpGrow_want (hwt:Region.wanted o (yielded ops a.tmps)=true) (v:Value) (h:∀ u,Grows w u→o.quietAt P a (Grows u) u v) (hn:wpGrow P ops Grows w L rest (a.put o.dst v)):wpGrow P ops Grows w L (o::rest) a:=by
 unfold wpGrow
 rw [if_pos hwt]
 exact ⟨v,h,hn⟩
theorem pG (hwt:Region.wanted o (yielded ops a.tmps)=true) (v:Value) (h:∀ u,(execOp a.eval o).run P u=.ok (.value v) u) (hn:wpGrow P ops Grows w L rest (a.put o.dst v)):wpGrow P ops Grows w L (o::rest) a:=
 wpGrow_want hwt v (fun u hu'=>by
  unfold Oper.quietAt
  rw [h u]
  exact ⟨rfl,rfl⟩) hn
theorem gK (v:Value) (hn:wpGrow P ops Grows w L rest (a.put o.dst v)) (hwt:Region.wanted o (yielded ops a.tmps)=true:=by exact rfl) (h:∀ u,(execOp a.eval o).run P u=.ok (.value v) u:=by intro u; kernel_rfl):wpGrow P ops Grows w L (o::rest) a:=pG hwt v h hn
theorem fG (hwt:Region.wanted o (yielded ops a.tmps)=true) (k:FuncId) (f:Operand) (args:Array Operand) (tys:Array TypeId) (ho:o.op=.call { callee:=.value f,args:=args,argTypes:=tys }) (bound avs:Array Value)
  (hf:a.eval f=.func (.func k) bound #[]) (has:args.map a.eval=avs) (hent:∀ u:World,(callFunc k (bound++avs)).run P u=.ok (.enter k (bound++avs)) u) (v:Value)
  (h:∀ u,Grows w u→Calls P k (bound++avs) u fun e w'=>e=.returned v∧Below u.heap.size u w') (hn:wpGrow P ops Grows w L rest (a.put o.dst v)):wpGrow P ops Grows w L (o::rest) a:=
 wpGrow_want hwt v (fun u hu'=>by
  have h1:(execOp a.eval o).run P u=.ok (.enter k (bound++avs)) u:=by
   unfold execOp
   simp only [ho,resolve,hf,has,Deferred.ofValue,Sem.run_bind,Sem.run_pure,Result.andThen_ok,invoke,Array.append_empty,hent]
  unfold Oper.quietAt
  rw [h1]
  exact ⟨rfl,h u hu'⟩) hn
theorem cE (P:Program) (k:FuncId) (fn:Func) (args:Array Value) (u:World) (h:P.funcs[k]?=some fn) (h1:(fn.name == "runtime.NumGoroutine")=false) (h2:fn.body.isNone=false):(callFunc k args).run P u=.ok (.enter k args) u:=by
 unfold callFunc
 have h1':¬ fn.name = "runtime.NumGoroutine":=by simpa using h1
 have h2':¬ fn.body=none:=fun h=>by rw [h] at h2; cases h2
 simp [Sem.run_bind,h,h1',h2']
theorem wpGrow_built (hwt:Region.wanted o (yielded ops a.tmps)=true) (t:TypeId) (parts:Array (Nat × Operand)) (ho:o.op=.build t parts) (cells:Array Value)
  (hb:P.built t (parts.map fun (i,x)=>(i,a.eval x)).toList=some cells) (h:wpGrow P ops Grows w L rest (a.put o.dst (.agg cells))):wpGrow P ops Grows w L (o::rest) a:=
 wpGrow_want hwt (.agg cells) (fun u hu'=>by
  have:=run_built_op (P:=P) (w:=u) t parts ho cells hb
  unfold Oper.quietAt
  simp only [this]
  exact ⟨rfl,rfl⟩) h
theorem run_load_one (w:World) (g off:Nat) (ty:TypeId) (d:TypeDesc) (hu:P.underlying ty=some d) (hd:isAggDesc d=false) (v:Value) (hc:w.cell? ⟨g,off,none⟩=some v):(loadVar ty ⟨g,off,none⟩).run P w=.ok v w:=by
 have hagg:(isAgg ty).run P w=.ok false w:=by
  unfold isAgg
  rw [Sem.run_bind,run_underlying hu w]
  cases d <;> simp_all [isAggDesc]
 simp [loadVar,Sem.run_bind,hagg,hc]
theorem lC (hgd:o.guard=none) (ty:TypeId) (x:Operand) (ho:o.op=.load ty x) (g off:Nat) (hx:a.eval x=.pointer (some ⟨g,off,none⟩)) (v:Value) (d:TypeDesc)
  (hu:P.underlying ty=some d) (hd:isAggDesc d=false) (hc:w.cell? ⟨g,off,none⟩=some v) (h:wpList P ops Q rest (a.put o.dst v) w):wpList P ops Q (o::rest) a w:=
 wpList_plain hgd fun _ hK=>by
  unfold Oper.wp execOp
  simp only [ho,hx,Instr.loadAt,Instr.sureAddr,Sem.run_bind,Sem.run_pure,Result.andThen_ok,run_load_one w g off ty d hu hd v hc]
  exact hK _ _ h
theorem wpGrow_load_cell (hwt:Region.wanted o (yielded ops a.tmps)=true) (ty:TypeId) (x:Operand) (ho:o.op=.load ty x) (g off:Nat) (hx:a.eval x=.pointer (some ⟨g,off,none⟩)) (v:Value) (d:TypeDesc)
  (hu:P.underlying ty=some d) (hd:isAggDesc d=false) (hc:∀ u,Grows w u→u.cell? ⟨g,off,none⟩=some v) (h:wpGrow P ops Grows w L rest (a.put o.dst v)):wpGrow P ops Grows w L (o::rest) a:=
 wpGrow_want hwt v (fun u hu'=>by
  have:=run_load_one (P:=P) u g off ty d hu hd v (hc u hu')
  unfold Oper.quietAt execOp
  simp only [ho,hx,Instr.loadAt,Instr.sureAddr,Sem.run_bind,Sem.run_pure,Result.andThen_ok,this]
  exact ⟨rfl,rfl⟩) h
end
section
variable {ops:Array Oper} {o:Oper} {rest:List Oper} {a:Act} {w:World} {L:Act→Prop}
theorem wpGrow_load_seg (hwt:Region.wanted o (yielded ops a.tmps)=true) (ty:TypeId) (x:Operand) (ho:o.op=.load ty x) (g off n:Nat) (hx:a.eval x=.pointer (some ⟨g,off,none⟩)) (cs:Array Value) (d:TypeDesc)
  (hu:Tryz.prog.underlying ty=some d) (hd:isAggDesc d=true) (hi:(Tryz.prog.info? ty).map (·.size)=some n) (hn:cs.size=n) {D:Array Value} {t:TypeId} {fr:Nat × Nat}
  (hc:∀ u,Grows w u→u.heap[g]?=some (.cells D t fr)) (hcs:∀ j,j<n→D[off+j]?=cs[j]?)
  (h:wpGrow Tryz.prog ops Grows w L rest (a.put o.dst (.agg cs))):wpGrow Tryz.prog ops Grows w L (o::rest) a:=
 wpGrow_want hwt (.agg cs) (fun u hu'=>by
  have hr:=fun (u':World) (hu2:Grows u u')=>run_load_seg (P:=Tryz.prog) u' g off n t ty D cs fr d (hc u' (gT _ _ _ hu' hu2)) hu hd hi hn hcs
  have:=hr u (grows_refl u)
  unfold Oper.quietAt execOp
  simp only [ho,hx,Instr.loadAt,Instr.sureAddr,Sem.run_bind,Sem.run_pure,Result.andThen_ok,this]
  exact ⟨rfl,rfl⟩) h
theorem lN (hwt:Region.wanted o (yielded ops a.tmps)=true) (x:Operand) (ho:o.op=.load 27 x) (g off:Nat) (hx:a.eval x=.pointer (some ⟨g,off,none⟩)) (n:Nat) {D:Array Value} {t:TypeId} {fr:Nat × Nat}
  (hc:∀ u,Grows w u→u.heap[g]?=some (.cells D t fr)) (hcs:∀ j,j<9→D[off+j]?=some (wn (dig n j)))
  (h:wpGrow Tryz.prog ops Grows w L rest (a.put o.dst (.agg (nc n)))):wpGrow Tryz.prog ops Grows w L (o::rest) a:=
 wpGrow_load_seg hwt 27 x ho g off 9 hx (nc n) _ Tryz.underlying27 rfl (by kernel_rfl) (nS n) hc (fun j hj=>(hcs j hj).trans (nc_get n j hj).symm) h
theorem lG (hwt:Region.wanted o (yielded ops a.tmps)=true) (x:Operand) (ho:o.op=.load 27 x) (g:Nat) (hx:a.eval x=.pointer (some ⟨g,0,none⟩)) {n:Nat} {t:TypeId} {fr:Nat × Nat}
  (hc:∀ u,Grows w u→u.heap[g]?=some (.cells (nc n) t fr))
  (h:wpGrow Tryz.prog ops Grows w L rest (a.put o.dst (.agg (nc n)))):wpGrow Tryz.prog ops Grows w L (o::rest) a:=
 lN hwt x ho g 0 hx n hc (fun j hj=>by rw [Nat.zero_add]; exact nc_get n j hj) h
end
def pc (x y z:Nat):Array Value:=nc x++nc y++nc z
def ptc (x y:Nat) (b:Bool):Array Value:=nc x++nc y++#[.bool b]
theorem pc_size (x y z:Nat):(pc x y z).size=27:=by simp [pc,nS]
theorem pS (x y:Nat) (b:Bool):(ptc x y b).size=19:=by simp [ptc,nS]
theorem app_lo {A B:Array Value} {i:Nat} (h:i<A.size):(A++B)[i]?=A[i]?:=Array.getElem?_append_left h
theorem app_hi {A B:Array Value} {n i:Nat} (h:A.size=n):(A++B)[n+i]?=B[i]?:=by rw [Array.getElem?_append_right (by omega),h,Nat.add_sub_cancel_left]
theorem pc_x (x y z:Nat):∀ j,j<9→(pc x y z)[0+j]?=some (wn (dig x j)):=fun j hj=>by
 rw [Nat.zero_add]; unfold pc
 rw [app_lo (by simp [nS]; omega),app_lo (by rw [nS]; omega),nc_get _ _ hj]
theorem pc_y (x y z:Nat):∀ j,j<9→(pc x y z)[9+j]?=some (wn (dig y j)):=fun j hj=>by
 unfold pc
 rw [app_lo (by simp [nS]; omega),app_hi (nS x),nc_get _ _ hj]
theorem pc_z (x y z:Nat):∀ j,j<9→(pc x y z)[18+j]?=some (wn (dig z j)):=fun j hj=>by
 unfold pc
 rw [app_hi (show (nc x++nc y).size=18 by simp [nS]),nc_get _ _ hj]
theorem ptc_x (x y:Nat) (b:Bool):∀ j,j<9→(ptc x y b)[0+j]?=some (wn (dig x j)):=fun j hj=>by
 rw [Nat.zero_add]; unfold ptc
 rw [app_lo (by simp [nS]; omega),app_lo (by rw [nS]; omega),nc_get _ _ hj]
theorem ptc_y (x y:Nat) (b:Bool):∀ j,j<9→(ptc x y b)[9+j]?=some (wn (dig y j)):=fun j hj=>by
 unfold ptc
 rw [app_lo (by simp [nS]; omega),app_hi (nS x),nc_get _ _ hj]
theorem ptc_inf (x y:Nat) (b:Bool):(ptc x y b)[18]?=some (.bool b):=by
 unfold ptc
 rw [show 18=18+0 from rfl,app_hi (show (nc x++nc y).size=18 by simp [nS])]; rfl
theorem pc_one (x y z:Nat):∀ u ∈ (pc x y z).toList,u.oneCell'=true:=by
 intro u hu
 simp only [pc,Array.toList_append,List.mem_append] at hu
 rcases hu with (hu | hu) | hu
 ·exact nO _ u hu
 ·exact nO _ u hu
 ·exact nO _ u hu
theorem ptc_one (x y:Nat) (b:Bool):∀ u ∈ (ptc x y b).toList,u.oneCell'=true:=by
 intro u hu
 simp only [ptc,Array.toList_append,List.mem_append] at hu
 rcases hu with (hu | hu) | hu
 ·exact nO _ u hu
 ·exact nO _ u hu
 ·obtain rfl:u=.bool b:=by simpa using hu
  rfl
theorem pc_zero:pc 0 0 0=#[wn 0,wn 0,wn 0,wn 0,wn 0,wn 0,wn 0,wn 0,wn 0,wn 0,wn 0,wn 0,wn 0,wn 0,wn 0,wn 0,wn 0,wn 0,wn 0,wn 0,wn 0,wn 0,wn 0,wn 0,wn 0,wn 0,wn 0]:=by unfold pc; rw [nZ]; rfl
theorem ptc_zero:ptc 0 0 false=#[wn 0,wn 0,wn 0,wn 0,wn 0,wn 0,wn 0,wn 0,wn 0,wn 0,wn 0,wn 0,wn 0,wn 0,wn 0,wn 0,wn 0,wn 0,.bool false]:=by unfold ptc; rw [nZ]; rfl
end Go.Proofs.YtkoonhiplicbkaaGreat.Cw
namespace Go.Proofs.YtkoonhiplicbkaaGreat.Cw
open Go Go.RowKit
section
variable {P:Program} {ops:Array Oper} {Q:Exit→Act→World→Prop} {md:Region.Mode}
def wpAnyB (P:Program) (md:Region.Mode) (ops:Array Oper) (Q:Exit→Act→World→Prop) (w0:World):Nat→Array Bool→Act→World→Prop
 | 0,listed,a,w=>∀ w1,Grows w w1→Region.ready md ops listed=[]∧Q .normal a w1
 | f+1,listed,a,w=>∀ w1,Grows w w1→(Region.ready md ops listed=[]→Q .normal a w1) ∧
  ∀ i ∈ Region.ready md ops listed,wpOp P ops Q i (fun a' w'=>Grows w0 w'∧wpAnyB P md ops Q w0 f (listed.setIfInBounds i true) a' w') a w1
variable {w0:World}
theorem wpAnyB_sound:∀ (f:Nat) (listed:Array Bool) (a:Act) (w:World),wpAnyB P md ops Q w0 f listed a w→wpAny P md ops Q f listed a w
 | 0,_,_,w,h=>h w (grows_refl w)
 | f+1,listed,a,w,h=>by
  obtain ⟨h1,h2⟩:=h w (grows_refl w)
  exact ⟨h1,fun i hi=>wpOp_mono (fun a' w' h4=>wpAnyB_sound f _ a' w' h4.2) (h2 i hi)⟩
theorem wpAnyB_up {w w1:World} (hw:Grows w w1):∀ (f:Nat) (listed:Array Bool) (a:Act),wpAnyB P md ops Q w0 f listed a w→wpAnyB P md ops Q w0 f listed a w1
 | 0,_,_,h=>fun w2 h2=>h w2 (gT _ _ _ hw h2)
 | _+1,_,_,h=>fun w2 h2=>h w2 (gT _ _ _ hw h2)
theorem wpAnyB_first {i:Nat} {oi:Oper} {v:Value} (hi:ops[i]?=some oi) (hsel:∀ (j:Nat) (o:Oper) cs b,ops[j]?=some o→o.op≠.select cs b)
  (hQ:∀ c a w,Q (.panic c) (a.put oi.dst v) w→Q (.panic c) a w) :
  ∀ (fuel:Nat) (listed:Array Bool) (a:Act) (w:World),Grows w0 w →
   (∀ j oj,ops[j]?=some oj→j≠i→listed.getD j true=false→(∀ e ∈ oj.after,Region.binds md e=true→e.on≠i)→oi.apart ops oj=true) →
   i ∈ Region.ready md ops listed→YieldsG P ops Grows oi v w0 a →
   wpAnyB P md ops Q w0 fuel (listed.setIfInBounds i true) (a.put oi.dst v) w→wpAnyB P md ops Q w0 (fuel+1) listed a w:=by
 intro fuel
 induction fuel with
 | zero=>
  intro listed a w hC _ hrd hy H w1 hw1
  refine ⟨fun h=>(by rw [h] at hrd; cases hrd),fun j hj=>?_⟩
  by_cases hji:j=i
  ·subst hji
   exact (hy.up gT (gT _ _ _ hC hw1)).wpOp grows_refl hi fun w' hw'=>⟨gT _ _ _ hC (gT _ _ _ hw1 hw'),wpAnyB_up (gT _ _ _ hw1 hw') 0 _ _ H⟩
  ·have:=ready_mono hj hji
   rw [(H w1 hw1).1] at this
   cases this
 | succ fuel ih=>
  intro listed a w hC hfree hrd hy H w1 hw1
  refine ⟨fun h=>(by rw [h] at hrd; cases hrd),fun j hj=>?_⟩
  by_cases hji:j=i
  ·subst hji
   exact (hy.up gT (gT _ _ _ hC hw1)).wpOp grows_refl hi fun w' hw'=>⟨gT _ _ _ hC (gT _ _ _ hw1 hw'),wpAnyB_up (gT _ _ _ hw1 hw') _ _ _ H⟩
  ·have H2:=(H w1 hw1).2 j (ready_mono hj hji)
   obtain ⟨hjun,oj,hoj,hall⟩:=mem_ready.1 hj
   have hun:=unlisted_both (mem_ready.1 hrd).1
   have hnot:∀ e ∈ oj.after,Region.binds md e=true→e.on≠i:=fun e he hb heq=>by
    have h1:=hall e he hb
    rw [heq,hun] at h1
    cases h1
   have hap:=hfree j oj hoj hji hjun hnot
   have hfree':∀ k ok,ops[k]?=some ok→k≠i→(listed.setIfInBounds j true).getD k true=false →
     (∀ e ∈ ok.after,Region.binds md e=true→e.on≠i)→oi.apart ops ok=true:=fun k ok hk hki hun hno=>by
    refine hfree k ok hk hki ?_ hno
    by_cases hjk:j=k
    ·subst hjk; exact hjun
    ·rw [getD_set_ne true hjk] at hun; exact hun
   have hsi:∀ cs b,oi.op≠.select cs b:=fun cs b=>hsel i oi cs b hi
   have hsj:∀ cs b,oj.op≠.select cs b:=fun cs b=>hsel j oj cs b hoj
   obtain ⟨h1,h2,h3⟩:=Oper.apart_spec hap
   have hk:=wpOp_keep (P:=P) (Q:=Q) hoj (Y:=YieldsG P ops Grows oi v w0) (fun a u hy=>hy.of_same (execOp_put oi hsi a oj.dst u h3) (wanted_put oi a oj.dst u h3)) (fun a d hy=>hy.of_same rfl rfl) hy (wpOp_swap hoj hap hsj hQ H2)
   refine wpOp_mono (fun a' w' h4=>⟨h4.2.1,ih (listed.setIfInBounds j true) a' w' h4.2.1 hfree' (ready_mono hrd (Ne.symm hji)) h4.1 ?_⟩) hk
   rw [Array.setIfInBounds_comm _ _ hji]
   exact h4.2.2
def growHeadB (md:Region.Mode) (ops:Array Oper):Nat→Nat→Array Bool→Bool
 | 0,_,_=>true
 | f+1,k,listed=>(Region.ready md ops listed).contains k && Region.free md ops listed k && growHeadB md ops f (k+1) (listed.setIfInBounds k true)
theorem wpAnyB_head (hs:Region.noSelect ops=true) {g:Nat} {L:Act→Prop} (hQ:∀ d v c a w,Q (.panic c) (a.put d v) w→Q (.panic c) a w) :
  ∀ (l:List Oper) (k:Nat) (listed:Array Bool) (a:Act),(∀ j,j<l.length→l[j]?=ops[k+j]?)→growHeadB md ops l.length k listed=true→wpGrow P ops Grows w0 L l a →
  (∀ a',L a'→wpAnyB P md ops Q w0 g (growSet l.length k listed) a' w0)→wpAnyB P md ops Q w0 (l.length+g) listed a w0
 | [],k,listed,a,_,_,h,H=>by
  have:=H a h
  simpa [growSet] using this
 | o::l,k,listed,a,hl,hB,h,H=>by
  have h0:ops[k]?=some o:=by simpa using (hl 0 (by simp)).symm
  simp only [List.length_cons,growHeadB,Bool.and_eq_true] at hB
  obtain ⟨⟨hrd,hf⟩,hB'⟩:=hB
  have hrd':k ∈ Region.ready md ops listed:=by simpa using hrd
  have hst:∃ v,YieldsG P ops Grows o v w0 a∧wpGrow P ops Grows w0 L l (a.put o.dst v):=by
   unfold wpGrow at h
   split at h
   ·rename_i hwt
    obtain ⟨v,h1,h2⟩:=h
    exact ⟨v,.inl ⟨hwt,h1⟩,h2⟩
   ·rename_i hwt
    exact ⟨undef,.inr ⟨by simpa using hwt,rfl⟩,h⟩
  obtain ⟨v,hy,hK⟩:=hst
  rw [show (o::l).length+g=(l.length+g)+1 by simp; omega]
  refine wpAnyB_first h0 (Region.noSelect_spec hs) (fun c a w=>hQ _ _ c a w) (l.length+g) listed a w0 (grows_refl _) (Region.free_spec h0 hf) hrd' hy ?_
  exact wpAnyB_head hs hQ l (k+1) _ _ (fun j hj=>by have:=hl (j+1) (by simp; omega); simpa [Nat.add_assoc,Nat.add_comm 1 j] using this) hB' hK (fun a' h'=>by have:=H a' h'; simpa [growSet] using this)
theorem wp_region_growB {id:Nat} {a:Act} {w:World} {l:List Oper} (n:Nat) (hm:P.follows .mixedOrders=true) (hB:(Region.noSelect l.toArray && growHeadB .any l.toArray n 0 (Array.replicate l.toArray.size false) && decide (n≤l.length))=true)
  (hQ:∀ d v c a w,Q (.panic c) (a.put d v) w→Q (.panic c) a w)
  (h:wpGrow P l.toArray Grows w.drew (fun a'=>wpAnyB P .any l.toArray Q w.drew (l.length - n) (growSet n 0 (Array.replicate l.toArray.size false)) a' w.drew) (l.take n) a):(Code.region id l.toArray true).wp P Q a w:=by
 simp only [Bool.and_eq_true,decide_eq_true_eq] at hB
 obtain ⟨⟨hs,hg⟩,hn⟩:=hB
 have htl:(l.take n).length=n:=by simp; omega
 refine wp_region_any hm (wpAnyB_sound (w0:=w.drew) _ _ _ _ ?_)
 have:=wpAnyB_head (md:=.any) (Q:=Q) (g:=l.length - n) hs hQ (l.take n) 0 (Array.replicate l.toArray.size false) a (fun j hj=>by
  have hj':j<n:=by rw [htl] at hj; exact hj
  simp [hj']) (by rw [htl]; exact hg) h (fun a' h'=>by rw [htl]; exact h')
 rw [htl,show n+(l.length - n)=l.toArray.size by simp; omega] at this
 exact this
def BAll (P:Program) (md:Region.Mode) (ops:Array Oper) (Q:Exit→Act→World→Prop) (w0:World) (f:Nat) (listed:Array Bool) (a:Act) (w1:World) (rs:List Nat):Prop:=
 ∀ i ∈ rs,wpOp P ops Q i (fun a' w'=>Grows w0 w'∧wpAnyB P md ops Q w0 f (listed.setIfInBounds i true) a' w') a w1
theorem grow_readyB {f:Nat} {listed:Array Bool} {a:Act} {w:World} {rs:List Nat} (hrd:Region.ready md ops listed=rs) (hne:rs≠[]) (h:∀ w1,Grows w w1→BAll P md ops Q w0 f listed a w1 rs):wpAnyB P md ops Q w0 (f+1) listed a w:=by
 intro w1 hw1
 rw [hrd]
 exact ⟨fun h0=>absurd h0 hne,fun i hi=>h w1 hw1 i hi⟩
theorem grow_doneB {f:Nat} {listed:Array Bool} {a:Act} {w:World} (hrd:Region.ready md ops listed=[]) (h:∀ w1,Grows w w1→Q .normal a w1):wpAnyB P md ops Q w0 f listed a w:=by
 cases f with
 | zero=>exact fun w1 hw1=>⟨hrd,h w1 hw1⟩
 | succ f=>exact fun w1 hw1=>⟨fun _=>h w1 hw1,fun i hi=>by rw [hrd] at hi; cases hi⟩
theorem BAll.nil {f:Nat} {listed:Array Bool} {a:Act} {w1:World}:BAll P md ops Q w0 f listed a w1 []:=fun _ h=>by cases h
theorem BAll.alloc {f i:Nat} {listed:Array Bool} {a:Act} {w1:World} {rs:List Nat} {o:Oper} (ho:ops[i]?=some o) (hgd:o.guard=none) (t:TypeId) (hop:o.op=.alloc t) (z:Value) (hz:(P.info? t).map (·.zero)=some (some z)) {L:List Blk} (M:Mem w0 w1 L)
  (h:∀ x w',Mem w0 w' (L++[(x,z.cells,t)])→wpAnyB P md ops Q w0 f (listed.setIfInBounds i true) (a.put o.dst (.pointer (some ⟨x,0,none⟩))) w')
  (hs:BAll P md ops Q w0 f listed a w1 rs):BAll P md ops Q w0 f listed a w1 (i::rs):=fun j hj=>by
 rcases List.mem_cons.1 hj with rfl | hj
 ·exact wpOp_alloc ho hgd t hop z hz ⟨gT _ _ _ M.1 (grows_alloc _ _),h _ _ (M.alloc _ _)⟩
 ·exact hs j hj
theorem BAll.store {f i:Nat} {listed:Array Bool} {a:Act} {w1:World} {rs:List Nat} {o:Oper} (ho:ops[i]?=some o) (hgd:o.guard=none) (ty:TypeId) (x v:Operand) (hop:o.op=.store ty x v) {L:List Blk} (M:Mem w0 w1 L) (k g:Nat) (hx:a.eval x=.pointer (some ⟨g,0,none⟩)) (C cs:Array Value) (t:TypeId) (hL:L[k]?=some (g,C,t)) (hv:a.eval v=.agg cs)
  (hi:(P.info? ty).map (·.size)=some cs.size) (hfit:cs.size=C.size) (h1:∀ u ∈ cs.toList,u.oneCell'=true)
  (h:∀ w',Mem w0 w' (L.set k (g,cs,t))→wpAnyB P md ops Q w0 f (listed.setIfInBounds i true) (a.put o.dst undef) w')
  (hs:BAll P md ops Q w0 f listed a w1 rs):BAll P md ops Q w0 f listed a w1 (i::rs):=fun j hj=>by
 rcases List.mem_cons.1 hj with rfl | hj
 ·refine wpOp_step ho fun K hK=>sK hgd ty x v hop g hx t C cs hv (M.at k hL) hi hfit h1 fun w' hw hb hs'=>hK _ _ ?_
  have M':=M.store k hL hb hs' hw
  exact ⟨M'.1,h w' M'⟩
 ·exact hs j hj
end
theorem Mem.join {w w1 u:World} {L L':List Blk} (M:Mem w w1 L) (N:Mem w1 u L'):Mem w u (L++L'):=by
 refine ⟨gT _ _ _ M.1 N.1,fun e he=>?_,?_⟩
 ·rcases List.mem_append.1 he with h | h
  ·exact (M.grow N.1).2.1 e h
  ·exact ⟨Nat.le_trans M.1.size (N.2.1 e h).1,(N.2.1 e h).2⟩
 ·rw [List.pairwise_append]
  refine ⟨M.2.2,N.2.2,fun a ha b hb=>?_⟩
  have h1:=lt_size (M.2.1 a ha).2
  have h2:=(N.2.1 b hb).1
  omega
theorem Mem.perm {w u:World} {L L':List Blk} (M:Mem w u L) (h:L.Perm L'):Mem w u L':=
 ⟨M.1,fun e he=>M.2.1 e (h.mem_iff.2 he),(h.pairwise_iff (fun h=>h.symm)).1 M.2.2⟩
end Go.Proofs.YtkoonhiplicbkaaGreat.Cw
namespace Go.Proofs.YtkoonhiplicbkaaGreat.Cw
open Go Go.RowKit
section
variable {P:Program} {ops:Array Oper} {rest:List Oper} {o:Oper} {a:Act} {w:World} {Q:Exit→Act→World→Prop}
theorem pL (hgd:o.guard=none) (v:Value) (h:∀ u,(execOp a.eval o).run P u=.ok (.value v) u) (hn:wpList P ops Q rest (a.put o.dst v) w):wpList P ops Q (o::rest) a w:=
 wpList_plain hgd fun K hK=>by
  unfold Oper.wp
  rw [h w]
  exact hK _ _ hn
theorem pK (v:Value) (hn:wpList P ops Q rest (a.put o.dst v) w) (hgd:o.guard=none:=by exact rfl) (h:∀ u,(execOp a.eval o).run P u=.ok (.value v) u:=by intro u; kernel_rfl):wpList P ops Q (o::rest) a w:=pL hgd v h hn
theorem fL (hgd:o.guard=none) (k:FuncId) (f:Operand) (args:Array Operand) (tys:Array TypeId) (ho:o.op=.call { callee:=.value f,args:=args,argTypes:=tys }) (bound avs:Array Value)
  (hf:a.eval f=.func (.func k) bound #[]) (has:args.map a.eval=avs) (hent:∀ u:World,(callFunc k (bound++avs)).run P u=.ok (.enter k (bound++avs)) u) (v:Value)
  (h:Calls P k (bound++avs) w fun e w'=>e=.returned v∧Below w.heap.size w w') (hn:∀ w',Grows w w'→wpList P ops Q rest (a.put o.dst v) w'):wpList P ops Q (o::rest) a w:=
 wpList_plain hgd fun K hK=>by
  have h1:(execOp a.eval o).run P w=.ok (.enter k (bound++avs)) w:=by
   unfold execOp
   simp only [ho,resolve,hf,has,Deferred.ofValue,Sem.run_bind,Sem.run_pure,Result.andThen_ok,invoke,Array.append_empty,hent]
  unfold Oper.wp
  rw [h1,Oper.upon_enter]
  refine h.mono ?_
  rintro e w' ⟨rfl,hb⟩
  exact hK _ _ (hn w' hb)
theorem wpList_fnE (hgd:o.guard=none) (k:FuncId) (f:Operand) (args:Array Operand) (tys:Array TypeId) (ho:o.op=.call { callee:=.value f,args:=args,argTypes:=tys }) (bound avs:Array Value)
  (hf:a.eval f=.func (.func k) bound #[]) (has:args.map a.eval=avs) (hent:∀ u:World,(callFunc k (bound++avs)).run P u=.ok (.enter k (bound++avs)) u) {T:Type} (v:T→Value) (R:T→World→Prop)
  (h:Calls P k (bound++avs) w fun e w'=>∃ d,e=.returned (v d)∧R d w') (hn:∀ d w',R d w'→wpList P ops Q rest (a.put o.dst (v d)) w'):wpList P ops Q (o::rest) a w:=
 wpList_plain hgd fun K hK=>by
  have h1:(execOp a.eval o).run P w=.ok (.enter k (bound++avs)) w:=by
   unfold execOp
   simp only [ho,resolve,hf,has,Deferred.ofValue,Sem.run_bind,Sem.run_pure,Result.andThen_ok,invoke,Array.append_empty,hent]
  unfold Oper.wp
  rw [h1,Oper.upon_enter]
  refine h.mono ?_
  rintro e w' ⟨d,rfl,hb⟩
  exact hK _ _ (hn d w' hb)
end
end Go.Proofs.YtkoonhiplicbkaaGreat.Cw
namespace Go.Proofs.YtkoonhiplicbkaaGreat.Cw
open Go Go.RowKit
attribute [local go_sem ↓ high] wn_eql wn_neq wn_lss wn_gtr wn_leq wn_geq wn_cells wRS wn_guard lit0 lit1
attribute [local go_sem high] wn_match wRS wn_eql wn_neq wn_lss wn_gtr wn_leq wn_geq
def fc (p d:Nat):Array Value:=nc p++#[.pointer (some ⟨d,0,none⟩)]
theorem fc_p (p d:Nat):∀ j,j<9→(fc p d)[0+j]?=some (wn (dig p j)):=fun j hj=>by
 rw [Nat.zero_add]; unfold fc
 rw [app_lo (by rw [nS]; omega),nc_get _ _ hj]
theorem fc_d (p d:Nat):(fc p d)[9]?=some (.pointer (some ⟨d,0,none⟩)):=by
 unfold fc
 rw [show 9=9+0 from rfl,app_hi (nS p)]; rfl
theorem fc_ds (p d:Nat):∀ j,j<1→(fc p d)[9+j]?=(#[.pointer (some ⟨d,0,none⟩)]:Array Value)[j]?:=fun j hj=>by
 obtain rfl:j=0:=by omega
 rw [Nat.add_zero,fc_d]; rfl
def FieldAt (w:World) (f p d:Nat):Prop:=p<pw 9∧p≠0∧2*p<pw 9∧DivAt w d p∧w.heap[f]?=some (.cells (fc p d) 140 (0,0))
theorem FieldAt.up {w w':World} {f p d:Nat} (h:FieldAt w f p d) (hg:Grows w w'):FieldAt w' f p d:=⟨h.1,h.2.1,h.2.2.1,h.2.2.2.1.up hg,grows_at h.2.2.2.2 hg⟩
def fad (p a b:Nat):Nat:=(a+b)%p
def fsb (p a b:Nat):Nat:=(a+p - b)%p
def fml (p a b:Nat):Nat:=a*b%p
theorem fad_lt {p:Nat} (a b:Nat) (h:p≠0):fad p a b<p:=Nat.mod_lt _ (Nat.pos_of_ne_zero h)
theorem fsb_lt {p:Nat} (a b:Nat) (h:p≠0):fsb p a b<p:=Nat.mod_lt _ (Nat.pos_of_ne_zero h)
theorem fml_lt {p:Nat} (a b:Nat) (h:p≠0):fml p a b<p:=Nat.mod_lt _ (Nat.pos_of_ne_zero h)
theorem field_mul (f p d a b:Nat) (w:World) (ha:a<p) (hb:b<p) (H:FieldAt w f p d):Calls Tryz.prog 89 #[.pointer (some ⟨f,0,none⟩),.agg (nc a),.agg (nc b)] w fun e w'=>e=.returned (.agg (nc (fml p a b)))∧Below w.heap.size w w':=by
 obtain ⟨hp9,hp0,_,hd,hf⟩:=H
 have HA:=Hd (show a<pw 9 from by omega)
 have HB:=Hd (show b<pw 9 from by omega)
 have HD:=Hd hd
 have HFB:=Hd hf
 have HP0:=Hd hp0
 clear ha hb hd hf hp9 hp0
 unfold fml
 go_enter Tryz.func89,Tryz.ntmps89
 go_upto_region 1 with fail
 rw [← nZ]
 have m0:=Mem.start3 w (nc a) (nc b) (nc 0) 27 27 27
 obtain ⟨w1,hw1⟩:∃ w1:World,w1=(((w.alloc (.cells (nc a) 27)).alloc (.cells (nc b) 27)).alloc (.cells (nc 0) 27)):=⟨_,rfl⟩
 rw [← hw1] at m0 ⊢
 clear hw1
 obtain ⟨g,hg⟩:∃ g,g=w.heap.size:=⟨_,rfl⟩
 rw [← hg] at m0 ⊢
 have HG:=Hd hg
 have M:=Hd m0
 clear hg m0
 have D2:=Hd (M.out.drew)
 clear M
 refine rGw 7 7 (by kernel_rfl) (by kernel_rfl) (fun d v c a w h=>by cases d <;> exact h) ?_
 simp only [List.take_succ_cons,List.take_zero]
 refine gK (.pointer (some ⟨f,0,none⟩)) ?_
 refine gK (.pointer (some ⟨f,0,none⟩)) ?_
 refine gK (.pointer (some ⟨f,9,none⟩)) ?_
 refine wpGrow_load_seg rfl 92 (.tmp 9) rfl f 9 1 (by kernel_rfl) (#[.pointer (some ⟨d,0,none⟩)]) _ Tryz.underlying92 rfl (by kernel_rfl) (rfl) (fun u hu=>grows_at HFB.out (gT _ _ _ D2.out.1 hu)) (fc_ds p d) ?_
 refine lG rfl (.tmp 4) rfl g (by kernel_rfl) (fun u hu=>D2.out.up 0 rfl hu) ?_
 refine lG rfl (.tmp 5) rfl (g+1) (by kernel_rfl) (fun u hu=>D2.out.up 1 rfl hu) ?_
 refine fG rfl 43 (.func 43) #[.tmp 10,.tmp 11,.tmp 12] #[92,27,27] rfl #[] #[.agg #[.pointer (some ⟨d,0,none⟩)],.agg (nc a),.agg (nc b)] (by kernel_rfl) (by kernel_rfl) (fun u=>cE _ _ _ _ u Tryz.func43 (by kernel_rfl) (by kernel_rfl)) (.agg (nc (a*b%p))) (fun u hu=>by exact modulus_mul d a b p u HA.out HB.out (HD.out.up (gT _ _ _ D2.out.1 hu))) ?_
 refine gN ?_
 try simp only [Act.put,s_,t_,u_,v_,x_,y_]
 refine gS (rs:=[7]) (by kernel_rfl) (by decide) (fun w3 hg6=>?_)
 have Nw3:=Hd (D2.out.grow hg6)
 clear hg6 D2
 refine wpAny_ready (rs:=[7]) (by kernel_rfl) (by simp) ?_
 refine AllReady.cons rfl (fun K hK=>?_) AllReady.nil
 refine sK rfl 27 (.tmp 6) (.tmp 13) rfl (g+1+1) rfl _ _ _ rfl (Nw3.out.at 2 rfl) (by rw [nS]; kernel_rfl) (by rw [nS,nS]) (nO _) (fun w4 hw hb hs=>hK _ _ ?_)
 have Nw4:=Hd (Nw3.out.store 2 rfl hb hs hw)
 clear hK hw hb hs Nw3
 try simp only [Act.put,s_,t_,u_,v_,x_,y_]
 refine wpAny_done (by kernel_rfl) ?_ _
 try simp only [Act.put,s_,t_,u_,v_,x_,y_]
 go_wp2_with (fail)
 refine bodyPost_ret (results_N rfl _ _ (g+1+1) _ _ _ rfl (Nw4.out.at 2 rfl)) rfl ⟨by first | rfl | simp only [*],Nw4.out.below⟩
theorem nc_congr {x y:Nat} (h:x%pw 9=y%pw 9):nc x=nc y:=by rw [← nc_mod x,h,nc_mod]
theorem fsb_lo {p a b:Nat} (ha:a<p) (hb:b<p) (hp:p<pw 9) (h:a<b):nc (dif a b 9+p)=nc (fsb p a b):=by
 refine nc_congr ?_
 have e:dif a b 9=a+pw 9 - b:=by
  unfold dif
  exact Nat.mod_eq_of_lt (by omega)
 have e2:fsb p a b=a+p - b:=by
  unfold fsb
  exact Nat.mod_eq_of_lt (by omega)
 rw [e,e2,show a+pw 9 - b+p=(a+p - b)+pw 9 by omega,Nat.add_mod_right]
theorem dif_hi {a b:Nat} (ha:a<pw 9) (h:¬ a<b):dif a b 9=a - b:=by
 unfold dif
 rw [show a+pw 9 - b=(a - b)+pw 9 by omega,Nat.add_mod_right,Nat.mod_eq_of_lt (by omega)]
theorem fsb_hi {p a b:Nat} (ha:a<p) (hb:b<p) (hp:p<pw 9) (h:¬ a<b):nc (dif a b 9)=nc (fsb p a b):=by
 rw [dif_hi (by omega) h]
 unfold fsb
 rw [show a+p - b=(a - b)+p by omega,Nat.add_mod_right,Nat.mod_eq_of_lt (by omega)]
theorem dif_lt (a b:Nat):dif a b 9<pw 9:=Nat.mod_lt _ (pw_pos 9)
theorem field_sub (f p d a b:Nat) (w:World) (ha:a<p) (hb:b<p) (H:FieldAt w f p d):Calls Tryz.prog 117 #[.pointer (some ⟨f,0,none⟩),.agg (nc a),.agg (nc b)] w fun e w'=>e=.returned (.agg (nc (fsb p a b)))∧Below w.heap.size w w':=by
 obtain ⟨hp9,hp0,h2p,hd,hf⟩:=H
 have HA:=Hd (show a<pw 9 from by omega)
 have HB:=Hd (show b<pw 9 from by omega)
 have HP:=Hd hp9
 have HFB:=Hd hf
 by_cases hlt:a<b
 ·have d1:decide (a<b)=true:=decide_eq_true hlt
  have HE:=Hd (fsb_lo ha hb hp9 hlt)
  clear ha hb hd hf hp9 hp0 h2p hlt
  rw [← HE.out]
  go_enter Tryz.func117,Tryz.ntmps117
  go_upto_region 1 with fail
  rw [← nZ]
  have m0:=Mem.start3 w (nc a) (nc b) (nc 0) 27 27 27
  obtain ⟨w1,hw1⟩:∃ w1:World,w1=(((w.alloc (.cells (nc a) 27)).alloc (.cells (nc b) 27)).alloc (.cells (nc 0) 27)):=⟨_,rfl⟩
  rw [← hw1] at m0 ⊢
  clear hw1
  obtain ⟨g,hg⟩:∃ g,g=w.heap.size:=⟨_,rfl⟩
  rw [← hg] at m0 ⊢
  have HG:=Hd hg
  have M:=Hd m0
  clear hg m0
  go_upto_region 3 with (first
   | (refine l0N rfl (.tmp 4) rfl g rfl (M.out.at 0 rfl) ?_)
   | (refine l0N rfl (.tmp 5) rfl (g+1) rfl (M.out.at 1 rfl) ?_)
   | (go_at_call 18; refine (nat_sub a b w1 HA.out HB.out).mono ?_; rintro e w2 ⟨rfl,hb⟩; have Nw2:=Hd (show Mem w w2 [(g,nc a,27),(g+1,nc b,27),(g+1+1,nc 0,27)] from M.out.grow hb); clear hb M)
   | (refine nL rfl 27 rfl (.agg (nc 0)) (by rw [nZ]; kernel_rfl) ?_; intro x3 w4 hx hx2 hgv hh; have Nw4:=Hd (show Mem w w4 [(g,nc a,27),(g+1,nc b,27),(g+1+1,nc 0,27),(x3,nc 0,27)] from Nw2.out.new hgv (Nat.le_of_eq hx) hh); clear hx hx2 hgv hh Nw2)
   | (refine sB rfl 27 (.tmp 7) (.tmp 13) rfl x3 rfl _ _ (nc (dif a b 9)) rfl (Nw4.out.at 3 rfl) (by rw [nS]; kernel_rfl) (by rw [nS,nS]) (nO _) ?_; intro w5 hw hb hs; have Nw5:=Hd (show Mem w w5 [(g,nc a,27),(g+1,nc b,27),(g+1+1,nc 0,27),(x3,nc (dif a b 9),27)] from Nw4.out.store 3 rfl hb hs hw); clear hw hb hs Nw4))
  have D6:=Hd (Nw5.out.drew)
  clear Nw5
  refine rGw 9 9 (by kernel_rfl) (by kernel_rfl) (fun d v c a w h=>by cases d <;> exact h) ?_
  simp only [List.take_succ_cons,List.take_zero]
  refine lG rfl (.tmp 7) rfl x3 (by kernel_rfl) (fun u hu=>D6.out.up 3 rfl hu) ?_
  refine gK (.pointer (some ⟨f,0,none⟩)) ?_
  refine gK (.pointer (some ⟨f,0,none⟩)) ?_
  refine gK (.pointer (some ⟨f,0,none⟩)) ?_
  refine lN rfl (.tmp 20) rfl f 0 (by kernel_rfl) p (fun u hu=>grows_at HFB.out (gT _ _ _ D6.out.1 hu)) (fc_p p d) ?_
  refine fG rfl 17 (.func 17) #[.tmp 17,.tmp 21] #[27,27] rfl #[] #[.agg (nc (dif a b 9)),.agg (nc p)] (by kernel_rfl) (by kernel_rfl) (fun u=>cE _ _ _ _ u Tryz.func17 (by kernel_rfl) (by kernel_rfl)) (.tuple #[.agg (nc (dif a b 9+p)),.bool (decide (pw 9≤dif a b 9+p))]) (fun u hu=>by exact nat_add _ p u (dif_lt a b) HP.out) ?_
  refine gK (.tuple #[.agg (nc (dif a b 9+p)),.bool (decide (pw 9≤dif a b 9+p))]) ?_
  refine gK (.agg (nc (dif a b 9+p))) ?_
  refine gK (.bool (decide (pw 9≤dif a b 9+p))) ?_
  refine gN ?_
  try simp only [Act.put,s_,t_,u_,v_,x_,y_]
  refine gS (rs:=[9]) (by kernel_rfl) (by decide) (fun w7 hg6=>?_)
  have Nw7:=Hd (D6.out.grow hg6)
  clear hg6 D6
  refine wpAny_ready (rs:=[9]) (by kernel_rfl) (by simp) ?_
  refine AllReady.cons rfl (fun K hK=>?_) AllReady.nil
  refine sK rfl 27 (.tmp 7) (.tmp 23) rfl x3 rfl _ _ _ rfl (Nw7.out.at 3 rfl) (by rw [nS]; kernel_rfl) (by rw [nS,nS]) (nO _) (fun w8 hw hb hs=>hK _ _ ?_)
  have Nw8:=Hd (Nw7.out.store 3 rfl hb hs hw)
  clear hK hw hb hs Nw7
  try simp only [Act.put,s_,t_,u_,v_,x_,y_]
  refine wpAny_done (by kernel_rfl) ?_ _
  try simp only [Act.put,s_,t_,u_,v_,x_,y_]
  go_wp2_with (first
   | (refine l0N rfl (.tmp 7) rfl x3 rfl (Nw8.out.at 3 rfl) ?_)
   | (refine sB rfl 27 (.tmp 6) (.tmp 25) rfl (g+1+1) rfl _ _ (nc (dif a b 9+p)) rfl (Nw8.out.at 2 rfl) (by rw [nS]; kernel_rfl) (by rw [nS,nS]) (nO _) ?_; intro w9 hw hb hs; have Nw9:=Hd (show Mem w w9 [(g,nc a,27),(g+1,nc b,27),(g+1+1,nc (dif a b 9+p),27),(x3,nc (dif a b 9+p),27)] from Nw8.out.store 2 rfl hb hs hw); clear hw hb hs Nw8))
  refine bodyPost_ret (results_N rfl _ _ (g+1+1) _ _ _ rfl (Nw9.out.at 2 rfl)) rfl ⟨by first | rfl | simp only [*],Nw9.out.below⟩
 ·have d1:decide (a<b)=false:=decide_eq_false hlt
  have HE:=Hd (fsb_hi ha hb hp9 hlt)
  clear ha hb hd hf hp9 hp0 h2p hlt
  rw [← HE.out]
  go_enter Tryz.func117,Tryz.ntmps117
  go_upto_region 1 with fail
  rw [← nZ]
  have m0:=Mem.start3 w (nc a) (nc b) (nc 0) 27 27 27
  obtain ⟨w1,hw1⟩:∃ w1:World,w1=(((w.alloc (.cells (nc a) 27)).alloc (.cells (nc b) 27)).alloc (.cells (nc 0) 27)):=⟨_,rfl⟩
  rw [← hw1] at m0 ⊢
  clear hw1
  obtain ⟨g,hg⟩:∃ g,g=w.heap.size:=⟨_,rfl⟩
  rw [← hg] at m0 ⊢
  have HG:=Hd hg
  have M:=Hd m0
  clear hg m0
  go_wp2_with (first
   | (refine l0N rfl (.tmp 4) rfl g rfl (M.out.at 0 rfl) ?_)
   | (refine l0N rfl (.tmp 5) rfl (g+1) rfl (M.out.at 1 rfl) ?_)
   | (go_at_call 18; refine (nat_sub a b w1 HA.out HB.out).mono ?_; rintro e w2 ⟨rfl,hb⟩; have Nw2:=Hd (show Mem w w2 [(g,nc a,27),(g+1,nc b,27),(g+1+1,nc 0,27)] from M.out.grow hb); clear hb M)
   | (refine nL rfl 27 rfl (.agg (nc 0)) (by rw [nZ]; kernel_rfl) ?_; intro x3 w4 hx hx2 hgv hh; have Nw4:=Hd (show Mem w w4 [(g,nc a,27),(g+1,nc b,27),(g+1+1,nc 0,27),(x3,nc 0,27)] from Nw2.out.new hgv (Nat.le_of_eq hx) hh); clear hx hx2 hgv hh Nw2)
   | (refine sB rfl 27 (.tmp 7) (.tmp 13) rfl x3 rfl _ _ (nc (dif a b 9)) rfl (Nw4.out.at 3 rfl) (by rw [nS]; kernel_rfl) (by rw [nS,nS]) (nO _) ?_; intro w5 hw hb hs; have Nw5:=Hd (show Mem w w5 [(g,nc a,27),(g+1,nc b,27),(g+1+1,nc 0,27),(x3,nc (dif a b 9),27)] from Nw4.out.store 3 rfl hb hs hw); clear hw hb hs Nw4)
   | (refine l0N rfl (.tmp 7) rfl x3 rfl (Nw5.out.at 3 rfl) ?_)
   | (refine sB rfl 27 (.tmp 6) (.tmp 25) rfl (g+1+1) rfl _ _ (nc (dif a b 9)) rfl (Nw5.out.at 2 rfl) (by rw [nS]; kernel_rfl) (by rw [nS,nS]) (nO _) ?_; intro w6 hw hb hs; have Nw6:=Hd (show Mem w w6 [(g,nc a,27),(g+1,nc b,27),(g+1+1,nc (dif a b 9),27),(x3,nc (dif a b 9),27)] from Nw5.out.store 2 rfl hb hs hw); clear hw hb hs Nw5))
  refine bodyPost_ret (results_N rfl _ _ (g+1+1) _ _ _ rfl (Nw6.out.at 2 rfl)) rfl ⟨by first | rfl | simp only [*],Nw6.out.below⟩
theorem fad_hi {p a b:Nat} (ha:a<p) (hb:b<p) (hp:2*p<pw 9) (h:¬ a+b<p):nc (dif (a+b) p 9)=nc (fad p a b):=by
 rw [dif_hi (by omega) h]
 unfold fad
 rw [show a+b=(a+b - p)+p by omega,Nat.add_mod_right,Nat.mod_eq_of_lt (by omega),Nat.add_sub_cancel]
theorem fad_lo {p a b:Nat} (h:a+b<p):nc (a+b)=nc (fad p a b):=by
 unfold fad
 rw [Nat.mod_eq_of_lt h]
theorem field_add (f p d a b:Nat) (w:World) (ha:a<p) (hb:b<p) (H:FieldAt w f p d):Calls Tryz.prog 73 #[.pointer (some ⟨f,0,none⟩),.agg (nc a),.agg (nc b)] w fun e w'=>e=.returned (.agg (nc (fad p a b)))∧Below w.heap.size w w':=by
 obtain ⟨hp9,hp0,h2p,hd,hf⟩:=H
 have HA:=Hd (show a<pw 9 from by omega)
 have HB:=Hd (show b<pw 9 from by omega)
 have HP:=Hd hp9
 have HFB:=Hd hf
 have HAB:=Hd (show a+b<pw 9 from by omega)
 have d0:decide (pw 9≤a+b)=false:=decide_eq_false (by omega)
 by_cases hlt:a+b<p
 ·have d1:decide (a+b<p)=true:=decide_eq_true hlt
  have HE:=Hd (fad_lo (p:=p) hlt)
  clear ha hb hd hf hp9 hp0 h2p hlt
  rw [← HE.out]
  go_enter Tryz.func73,Tryz.ntmps73
  go_upto_region 1 with fail
  rw [← nZ]
  have m0:=Mem.start3 w (nc a) (nc b) (nc 0) 27 27 27
  obtain ⟨w1,hw1⟩:∃ w1:World,w1=(((w.alloc (.cells (nc a) 27)).alloc (.cells (nc b) 27)).alloc (.cells (nc 0) 27)):=⟨_,rfl⟩
  rw [← hw1] at m0 ⊢
  clear hw1
  obtain ⟨g,hg⟩:∃ g,g=w.heap.size:=⟨_,rfl⟩
  rw [← hg] at m0 ⊢
  have HG:=Hd hg
  have M:=Hd m0
  clear hg m0
  go_upto_region 2 with (first
   | (refine l0N rfl (.tmp 4) rfl g rfl (M.out.at 0 rfl) ?_)
   | (refine l0N rfl (.tmp 5) rfl (g+1) rfl (M.out.at 1 rfl) ?_)
   | (go_at_call 17; refine (nat_add a b w1 HA.out HB.out).mono ?_; rintro e w2 ⟨rfl,hb⟩; have Nw2:=Hd (show Mem w w2 [(g,nc a,27),(g+1,nc b,27),(g+1+1,nc 0,27)] from M.out.grow hb); clear hb M)
   | (refine nL rfl 27 rfl (.agg (nc 0)) (by rw [nZ]; kernel_rfl) ?_; intro x3 w4 hx hx2 hgv hh; have Nw4:=Hd (show Mem w w4 [(g,nc a,27),(g+1,nc b,27),(g+1+1,nc 0,27),(x3,nc 0,27)] from Nw2.out.new hgv (Nat.le_of_eq hx) hh); clear hx hx2 hgv hh Nw2)
   | (refine sB rfl 27 (.tmp 7) (.tmp 15) rfl x3 rfl _ _ (nc (a+b)) rfl (Nw4.out.at 3 rfl) (by rw [nS]; kernel_rfl) (by rw [nS,nS]) (nO _) ?_; intro w5 hw hb hs; have Nw5:=Hd (show Mem w w5 [(g,nc a,27),(g+1,nc b,27),(g+1+1,nc 0,27),(x3,nc (a+b),27)] from Nw4.out.store 3 rfl hb hs hw); clear hw hb hs Nw4))
  have D6:=Hd (Nw5.out.drew)
  clear Nw5
  refine rGw 9 10 (by kernel_rfl) (by kernel_rfl) (fun d v c a w h=>by cases d <;> exact h) ?_
  simp only [List.take_succ_cons,List.take_zero]
  refine lG rfl (.tmp 7) rfl x3 (by kernel_rfl) (fun u hu=>D6.out.up 3 rfl hu) ?_
  refine gK (.pointer (some ⟨f,0,none⟩)) ?_
  refine gK (.pointer (some ⟨f,0,none⟩)) ?_
  refine gK (.pointer (some ⟨f,0,none⟩)) ?_
  refine lN rfl (.tmp 21) rfl f 0 (by kernel_rfl) p (fun u hu=>grows_at HFB.out (gT _ _ _ D6.out.1 hu)) (fc_p p d) ?_
  refine fG rfl 18 (.func 18) #[.tmp 18,.tmp 22] #[27,27] rfl #[] #[.agg (nc (a+b)),.agg (nc p)] (by kernel_rfl) (by kernel_rfl) (fun u=>cE _ _ _ _ u Tryz.func18 (by kernel_rfl) (by kernel_rfl)) (.tuple #[.agg (nc (dif (a+b) p 9)),.bool true]) (fun u hu=>by exact (by have hcc:=nat_sub (a+b) p u HAB.out HP.out; rw [d1] at hcc; exact hcc)) ?_
  refine gK (.tuple #[.agg (nc (dif (a+b) p 9)),.bool true]) ?_
  refine gK (.agg (nc (dif (a+b) p 9))) ?_
  refine gK (.bool true) ?_
  refine gN ?_
  try simp only [Act.put,s_,t_,u_,v_,x_,y_]
  refine grow_alloc (i:=9) (f:=2) (by kernel_rfl) (by decide) rfl rfl 27 rfl (.agg (nc 0)) (by rw [nZ]; kernel_rfl) ?_
  intro x7 v8 hx hx2 hgv hh
  have Nv8:=Hd (D6.out.new hgv hx hh)
  have Nv8:Hid (Mem w v8 [(g,nc a,27),(g+1,nc b,27),(g+1+1,nc 0,27),(x3,nc (a+b),27),(x7,nc 0,27)]):=Nv8
  clear hgv hx hx2 hh D6
  try simp only [Act.put,s_,t_,u_,v_,x_,y_]
  refine gS (rs:=[10]) (by kernel_rfl) (by decide) (fun w9 hg6=>?_)
  have Nw9:=Hd (Nv8.out.grow hg6)
  clear hg6 Nv8
  refine wpAny_ready (rs:=[10]) (by kernel_rfl) (by simp) ?_
  refine AllReady.cons rfl (fun K hK=>?_) AllReady.nil
  refine sK rfl 27 (.tmp 9) (.tmp 24) rfl x7 rfl _ _ _ rfl (Nw9.out.at 4 rfl) (by rw [nS]; kernel_rfl) (by rw [nS,nS]) (nO _) (fun w10 hw hb hs=>hK _ _ ?_)
  have Nw10:=Hd (Nw9.out.store 4 rfl hb hs hw)
  clear hK hw hb hs Nw9
  try simp only [Act.put,s_,t_,u_,v_,x_,y_]
  refine wpAny_ready (rs:=[11]) (by kernel_rfl) (by simp) ?_
  refine AllReady.cons rfl (fun K hK=>?_) AllReady.nil
  go_simp
  refine hK _ _ ?_
  clear hK
  try simp only [Act.put,s_,t_,u_,v_,x_,y_]
  refine wpAny_done (by kernel_rfl) ?_ _
  try simp only [Act.put,s_,t_,u_,v_,x_,y_]
  go_wp2_with (first
   | (refine l0N rfl (.tmp 7) rfl x3 rfl (Nw10.out.at 3 rfl) ?_)
   | (refine sB rfl 27 (.tmp 6) (.tmp 32) rfl (g+1+1) rfl _ _ (nc (a+b)) rfl (Nw10.out.at 2 rfl) (by rw [nS]; kernel_rfl) (by rw [nS,nS]) (nO _) ?_; intro w11 hw hb hs; have Nw11:=Hd (show Mem w w11 [(g,nc a,27),(g+1,nc b,27),(g+1+1,nc (a+b),27),(x3,nc (a+b),27),(x7,nc (dif (a+b) p 9),27)] from Nw10.out.store 2 rfl hb hs hw); clear hw hb hs Nw10))
  refine bodyPost_ret (results_N rfl _ _ (g+1+1) _ _ _ rfl (Nw11.out.at 2 rfl)) rfl ⟨by first | rfl | simp only [*],Nw11.out.below⟩
 ·have d1:decide (a+b<p)=false:=decide_eq_false hlt
  have HE:=Hd (fad_hi ha hb h2p hlt)
  clear ha hb hd hf hp9 hp0 h2p hlt
  rw [← HE.out]
  go_enter Tryz.func73,Tryz.ntmps73
  go_upto_region 1 with fail
  rw [← nZ]
  have m0:=Mem.start3 w (nc a) (nc b) (nc 0) 27 27 27
  obtain ⟨w1,hw1⟩:∃ w1:World,w1=(((w.alloc (.cells (nc a) 27)).alloc (.cells (nc b) 27)).alloc (.cells (nc 0) 27)):=⟨_,rfl⟩
  rw [← hw1] at m0 ⊢
  clear hw1
  obtain ⟨g,hg⟩:∃ g,g=w.heap.size:=⟨_,rfl⟩
  rw [← hg] at m0 ⊢
  have HG:=Hd hg
  have M:=Hd m0
  clear hg m0
  go_upto_region 2 with (first
   | (refine l0N rfl (.tmp 4) rfl g rfl (M.out.at 0 rfl) ?_)
   | (refine l0N rfl (.tmp 5) rfl (g+1) rfl (M.out.at 1 rfl) ?_)
   | (go_at_call 17; refine (nat_add a b w1 HA.out HB.out).mono ?_; rintro e w2 ⟨rfl,hb⟩; have Nw2:=Hd (show Mem w w2 [(g,nc a,27),(g+1,nc b,27),(g+1+1,nc 0,27)] from M.out.grow hb); clear hb M)
   | (refine nL rfl 27 rfl (.agg (nc 0)) (by rw [nZ]; kernel_rfl) ?_; intro x3 w4 hx hx2 hgv hh; have Nw4:=Hd (show Mem w w4 [(g,nc a,27),(g+1,nc b,27),(g+1+1,nc 0,27),(x3,nc 0,27)] from Nw2.out.new hgv (Nat.le_of_eq hx) hh); clear hx hx2 hgv hh Nw2)
   | (refine sB rfl 27 (.tmp 7) (.tmp 15) rfl x3 rfl _ _ (nc (a+b)) rfl (Nw4.out.at 3 rfl) (by rw [nS]; kernel_rfl) (by rw [nS,nS]) (nO _) ?_; intro w5 hw hb hs; have Nw5:=Hd (show Mem w w5 [(g,nc a,27),(g+1,nc b,27),(g+1+1,nc 0,27),(x3,nc (a+b),27)] from Nw4.out.store 3 rfl hb hs hw); clear hw hb hs Nw4))
  have D6:=Hd (Nw5.out.drew)
  clear Nw5
  refine rGw 9 10 (by kernel_rfl) (by kernel_rfl) (fun d v c a w h=>by cases d <;> exact h) ?_
  simp only [List.take_succ_cons,List.take_zero]
  refine lG rfl (.tmp 7) rfl x3 (by kernel_rfl) (fun u hu=>D6.out.up 3 rfl hu) ?_
  refine gK (.pointer (some ⟨f,0,none⟩)) ?_
  refine gK (.pointer (some ⟨f,0,none⟩)) ?_
  refine gK (.pointer (some ⟨f,0,none⟩)) ?_
  refine lN rfl (.tmp 21) rfl f 0 (by kernel_rfl) p (fun u hu=>grows_at HFB.out (gT _ _ _ D6.out.1 hu)) (fc_p p d) ?_
  refine fG rfl 18 (.func 18) #[.tmp 18,.tmp 22] #[27,27] rfl #[] #[.agg (nc (a+b)),.agg (nc p)] (by kernel_rfl) (by kernel_rfl) (fun u=>cE _ _ _ _ u Tryz.func18 (by kernel_rfl) (by kernel_rfl)) (.tuple #[.agg (nc (dif (a+b) p 9)),.bool false]) (fun u hu=>by exact (by have hcc:=nat_sub (a+b) p u HAB.out HP.out; rw [d1] at hcc; exact hcc)) ?_
  refine gK (.tuple #[.agg (nc (dif (a+b) p 9)),.bool false]) ?_
  refine gK (.agg (nc (dif (a+b) p 9))) ?_
  refine gK (.bool false) ?_
  refine gN ?_
  try simp only [Act.put,s_,t_,u_,v_,x_,y_]
  refine grow_alloc (i:=9) (f:=2) (by kernel_rfl) (by decide) rfl rfl 27 rfl (.agg (nc 0)) (by rw [nZ]; kernel_rfl) ?_
  intro x7 v8 hx hx2 hgv hh
  have Nv8:=Hd (D6.out.new hgv hx hh)
  have Nv8:Hid (Mem w v8 [(g,nc a,27),(g+1,nc b,27),(g+1+1,nc 0,27),(x3,nc (a+b),27),(x7,nc 0,27)]):=Nv8
  clear hgv hx hx2 hh D6
  try simp only [Act.put,s_,t_,u_,v_,x_,y_]
  refine gS (rs:=[10]) (by kernel_rfl) (by decide) (fun w9 hg6=>?_)
  have Nw9:=Hd (Nv8.out.grow hg6)
  clear hg6 Nv8
  refine wpAny_ready (rs:=[10]) (by kernel_rfl) (by simp) ?_
  refine AllReady.cons rfl (fun K hK=>?_) AllReady.nil
  refine sK rfl 27 (.tmp 9) (.tmp 24) rfl x7 rfl _ _ _ rfl (Nw9.out.at 4 rfl) (by rw [nS]; kernel_rfl) (by rw [nS,nS]) (nO _) (fun w10 hw hb hs=>hK _ _ ?_)
  have Nw10:=Hd (Nw9.out.store 4 rfl hb hs hw)
  clear hK hw hb hs Nw9
  try simp only [Act.put,s_,t_,u_,v_,x_,y_]
  refine wpAny_ready (rs:=[11]) (by kernel_rfl) (by simp) ?_
  refine AllReady.cons rfl (fun K hK=>?_) AllReady.nil
  go_simp
  refine hK _ _ ?_
  clear hK
  try simp only [Act.put,s_,t_,u_,v_,x_,y_]
  refine wpAny_done (by kernel_rfl) ?_ _
  try simp only [Act.put,s_,t_,u_,v_,x_,y_]
  go_wp2_with (first
   | (refine l0N rfl (.tmp 9) rfl x7 rfl (Nw10.out.at 4 rfl) ?_)
   | (refine sB rfl 27 (.tmp 6) (.tmp 31) rfl (g+1+1) rfl _ _ (nc (dif (a+b) p 9)) rfl (Nw10.out.at 2 rfl) (by rw [nS]; kernel_rfl) (by rw [nS,nS]) (nO _) ?_; intro w11 hw hb hs; have Nw11:=Hd (show Mem w w11 [(g,nc a,27),(g+1,nc b,27),(g+1+1,nc (dif (a+b) p 9),27),(x3,nc (a+b),27),(x7,nc (dif (a+b) p 9),27)] from Nw10.out.store 2 rfl hb hs hw); clear hw hb hs Nw10))
  refine bodyPost_ret (results_N rfl _ _ (g+1+1) _ _ _ rfl (Nw11.out.at 2 rfl)) rfl ⟨by first | rfl | simp only [*],Nw11.out.below⟩
theorem cmp_lss (a b:Nat):decide (cmpN a b<0)=decide (a<b):=by
 unfold cmpN
 by_cases h:a<b
 ·simp [h]
 ·by_cases h2:b<a
  ·simp [h,h2]
  ·simp [h,h2]
theorem field_has (f p d a:Nat) (w:World) (ha:a<pw 9) (H:FieldAt w f p d):Calls Tryz.prog 88 #[.pointer (some ⟨f,0,none⟩),.agg (nc a)] w fun e w'=>e=.returned (.bool (decide (a<p)))∧Below w.heap.size w w':=by
 obtain ⟨hp9,hp0,h2p,hd,hf⟩:=H
 have HA:=Hd ha
 have HP:=Hd hp9
 have HFB:=Hd hf
 have HC:=Hd (cmp_lss a p)
 clear ha hd hf hp9 hp0 h2p
 rw [← HC.out]
 go_enter Tryz.func88,Tryz.ntmps88
 go_upto_region 1 with fail
 have m0:=Mem.start1 w (nc a) 27
 obtain ⟨w1,hw1⟩:∃ w1:World,w1=(w.alloc (.cells (nc a) 27)):=⟨_,rfl⟩
 rw [← hw1] at m0 ⊢
 clear hw1
 obtain ⟨g,hg⟩:∃ g,g=w.heap.size:=⟨_,rfl⟩
 rw [← hg] at m0 ⊢
 have HG:=Hd hg
 have M:=Hd m0
 clear hg m0
 have D2:=Hd (M.out.drew)
 clear M
 refine rGw 8 8 (by kernel_rfl) (by kernel_rfl) (fun d v c a w h=>by cases d <;> exact h) ?_
 simp only [List.take_succ_cons,List.take_zero]
 refine lG rfl (.tmp 3) rfl g (by kernel_rfl) (fun u hu=>D2.out.up 0 rfl hu) ?_
 refine gK (.pointer (some ⟨f,0,none⟩)) ?_
 refine gK (.pointer (some ⟨f,0,none⟩)) ?_
 refine gK (.pointer (some ⟨f,0,none⟩)) ?_
 refine lN rfl (.tmp 8) rfl f 0 (by kernel_rfl) p (fun u hu=>grows_at HFB.out (gT _ _ _ D2.out.1 hu)) (fc_p p d) ?_
 refine fG rfl 60 (.func 60) #[.tmp 5,.tmp 9] #[27,27] rfl #[] #[.agg (nc a),.agg (nc p)] (by kernel_rfl) (by kernel_rfl) (fun u=>cE _ _ _ _ u Tryz.func60 (by kernel_rfl) (by kernel_rfl)) (.int .i64 (cmpN a p)) (fun u hu=>by exact nat_cmp a p u HA.out HP.out) ?_
 refine gK (.bool (decide (cmpN a p<0))) ?_
 refine gK (.bool (decide (cmpN a p<0))) ?_
 refine gN ?_
 try simp only [Act.put,s_,t_,u_,v_,x_,y_]
 intro w3 hg6
 refine ⟨by kernel_rfl,?_⟩
 have Nw3:=Hd (D2.out.grow hg6)
 clear hg6 D2
 try simp only [Act.put,s_,t_,u_,v_,x_,y_]
 go_wp2_with (fail)
 go_ret
 exact ⟨rfl,Nw3.out.below⟩
end Go.Proofs.YtkoonhiplicbkaaGreat.Cw
namespace Go.Proofs.YtkoonhiplicbkaaGreat.Cw
open Go Go.RowKit
theorem ncl_len (n:Nat):(nc n).toList.length=9:=by simp [nS]
theorem ptc_list (x y:Nat) (b:Bool):(ptc x y b).toList=(nc x).toList++((nc y).toList++[.bool b]):=by simp [ptc]
theorem take_app {A B:List Value} {n:Nat} (h:A.length=n):(A++B).take n=A:=by rw [List.take_append_of_le_length (by omega),← h,List.take_length]
theorem drop_app {A B:List Value} {n m:Nat} (h:A.length=n):(A++B).drop (n+m)=B.drop m:=by rw [← h,List.drop_append,List.drop_of_length_le (by omega),Nat.add_sub_cancel_left]; rfl
def litsP (x y:Nat) (b:Bool):List Lit:=litsN x++(litsN y++[.bool b])
theorem litsP_inj (x y x' y':Nat) (b b':Bool) (hx:x<pw 9) (hy:y<pw 9) (hx':x'<pw 9) (hy':y'<pw 9):litsP x y b=litsP x' y' b'↔(x=x'∧y=y'∧b=b'):=by
 constructor
 ·intro h
  unfold litsP at h
  have h1:=List.append_inj h rfl
  have h2:=List.append_inj h1.2 rfl
  refine ⟨(litsN_inj _ _ hx hx').1 h1.1,(litsN_inj _ _ hy hy').1 h2.1,?_⟩
  simpa using h2.2
 ·rintro ⟨rfl,rfl,rfl⟩; rfl
theorem keyP (d x y:Nat) (b:Bool):Tryz.prog.keyLits (d+4) 41 (ptc x y b).toList=some (litsP x y b):=by
 have e0:Tryz.prog.cellsOf 41=19:=by kernel_rfl
 have e9:Tryz.prog.cellsOf 27=9:=by kernel_rfl
 have e1:Tryz.prog.cellsOf 4=1:=by kernel_rfl
 unfold Program.keyLits
 rw [Tryz.underlying41]
 have h1:=keyN d x
 have h2:=keyN d y
 have h3:Tryz.prog.keyLits (d+3) 4 [.bool b]=some [.bool b]:=by unfold Program.keyLits; rw [Tryz.underlying4]
 have t1:(ptc x y b).toList.take 9=(nc x).toList:=by rw [ptc_list,take_app (ncl_len x)]
 have t2:((ptc x y b).toList.drop 9).take 9=(nc y).toList:=by rw [ptc_list,show (9:Nat)=9+0 from rfl,drop_app (ncl_len x)]; exact take_app (ncl_len y)
 have t3:((ptc x y b).toList.drop 18).take 1=[.bool b]:=by rw [ptc_list,show (18:Nat)=9+(9+0) from rfl,drop_app (ncl_len x),drop_app (ncl_len y)]; rfl
 simp [e0,e9,e1,t1,t2,t3,h1,h2,h3,pS,litsP]
theorem formedP (x y:Nat) (b:Bool):(Value.agg (ptc x y b)).formed Tryz.prog 41=true:=by
 have e1:Tryz.prog.cellsOf 41=19:=by kernel_rfl
 unfold Value.formed
 rw [Tryz.underlying41]
 simp [e1,pS]
theorem eq_point (x y x' y':Nat) (b b':Bool) (hx:x<pw 9) (hy:y<pw 9) (hx':x'<pw 9) (hy':y'<pw 9) (w:World):(binOp .eql 41 (.agg (ptc x y b)) (.agg (ptc x' y' b'))).run Tryz.prog w=.ok (.bool (decide (x=x'∧y=y'∧b=b'))) w:=by
 obtain ⟨r,hr,hiff⟩:=run_equalIn_deep (P:=Tryz.prog) 9990 10 41 (by kernel_rfl) w 4 4 (.agg (ptc x y b)) (.agg (ptc x' y' b')) (litsP x y b) (litsP x' y' b') (formedP x y b) (formedP x' y' b') (keyP 0 x y b) (keyP 0 x' y' b')
 rw [litsP_inj _ _ _ _ _ _ hx hy hx' hy'] at hiff
 have hr':(Op.equal 41 (.agg (ptc x y b)) (.agg (ptc x' y' b'))).run Tryz.prog w=.ok r w:=hr
 show (do let r ← Op.equal 41 (.agg (ptc x y b)) (.agg (ptc x' y' b')); pure (Value.bool r):Sem Value).run Tryz.prog w=_
 rw [Sem.run_bind,hr']
 simp only [Result.andThen,Sem.run_pure]
 congr 2
 rw [Bool.eq_iff_iff,hiff,decide_eq_true_iff]
end Go.Proofs.YtkoonhiplicbkaaGreat.Cw
