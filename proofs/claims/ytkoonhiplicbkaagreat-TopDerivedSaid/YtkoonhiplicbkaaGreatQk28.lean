/-
  A slice of the call's own beside the blocks that are known whole: what appends keep; steps of drawn regions. No condition but what each says.
  An element's address in a slice; a whole number made a word. No condition but what each says.
  Sums, quotients and the like of whole numbers, as operations. No condition but what each says.
  The same where the last operations wait for the first ones through others. No condition of a program's.
  Calls whose result depends on the world, at a step of a drawn region; more operations taken in a row of one's choosing. No condition but what each says.
-/
import Derived.Test.YtkoonhiplicbkaaGreatQk1
import Derived.Test.YtkoonhiplicbkaaGreatQk19
import Derived.Great.BuildSlice
import Derived.Test.YtkoonhiplicbkaaGreatQk14
set_option linter.unusedSimpArgs false
set_option linter.unusedVariables false
namespace Go.Proofs.YtkoonhiplicbkaaGreat.Cw
open Go Go.RowKit
theorem Mem.sub {w0 w:World} {L L':List Blk} (M:Mem w0 w L) (h:L'.Sublist L):Mem w0 w L':=⟨M.1,fun e he=>M.2.1 e (h.subset he),M.2.2.sublist h⟩
def MO (e size:Nat) (w0 w:World) (L:List Blk) (v:Value) (n:Nat) (xs:List Value):Prop:=Grows w0 w∧Mem w0 w L∧Ow w w0.heap.size e size v n xs∧∀ b ∈ L,v.ownBlock≠some b.1
section
variable {e size n:Nat} {w0 w w':World} {L:List Blk} {v:Value} {xs:List Value}
theorem MO.of (h1:Mem w0 w L) (h2:Ow w w0.heap.size e size v n xs) (h3:∀ b ∈ L,v.ownBlock≠some b.1):MO e size w0 w L v n xs:=⟨h1.1,h1,h2,h3⟩
theorem MO.m (M:MO e size w0 w L v n xs):Mem w0 w L:=M.2.1
theorem MO.o (M:MO e size w0 w L v n xs):Ow w w0.heap.size e size v n xs:=M.2.2.1
theorem MO.at (M:MO e size w0 w L v n xs) (i:Nat) {g:Nat} {C:Array Value} {t:TypeId} (h:L[i]?=some (g,C,t)):w.heap[g]?=some (.cells C t (0,0)):=M.2.1.at i h
theorem MO.up (M:MO e size w0 w L v n xs) (i:Nat) {g:Nat} {C:Array Value} {t:TypeId} (h:L[i]?=some (g,C,t)) (hg:Grows w w'):w'.heap[g]?=some (.cells C t (0,0)):=M.2.1.up i h hg
theorem MO.ge (M:MO e size w0 w L v n xs) (i:Nat) {g:Nat} {C:Array Value} {t:TypeId} (h:L[i]?=some (g,C,t)):w0.heap.size≤g:=M.2.1.ge i h
theorem MO.below (M:MO e size w0 w L v n xs):Below w0.heap.size w0 w:=M.1
theorem MO.start (M:Mem w0 w L):MO e size w0 w L (.slice none 0 0) 0 []:=.of M (Ow.nil _ _ _ _) fun b _ h=>by simp [Value.ownBlock] at h
theorem MO.grow (M:MO e size w0 w L v n xs) (h:Grows w w'):MO e size w0 w' L v n xs:=.of (M.2.1.grow h) (M.2.2.1.below h) M.2.2.2
theorem MO.drew (M:MO e size w0 w L v n xs):MO e size w0 w.drew L v n xs:=M.grow ((Below.refl _ _).drew)
theorem MO.drewN (M:MO e size w0 w L v n xs) (k:Nat):MO e size w0 (w.drewN k) L v n xs:=M.grow (Below.drewN (Below.refl _ _) k)
theorem MO.new (M:MO e size w0 w L v n xs) {x:Nat} {C:Array Value} {t:TypeId} (h:Grows w w') (hx:w.heap.size≤x) (hh:w'.heap[x]?=some (.cells C t (0,0))):MO e size w0 w' (L++[(x,C,t)]) v n xs:=by
 refine .of (M.2.1.new h hx hh) (M.2.2.1.below h) fun b hb h2=>?_
 rcases List.mem_append.1 hb with h3 | h3
 ·exact M.2.2.2 b h3 h2
 ·obtain rfl:b=(x,C,t):=by simpa using h3
  have:=(M.2.2.1.lt x h2).2
  omega
theorem MO.store (M:MO e size w0 w L v n xs) (i:Nat) {g:Nat} {C:Array Value} {t:TypeId} (h:L[i]?=some (g,C,t)) (hb:But g w w') (hs:w'.heap.size=w.heap.size) {C':Array Value} {t':TypeId} (hh:w'.heap[g]?=some (.cells C' t' (0,0))):MO e size w0 w' (L.set i (g,C',t')) v n xs:=by
 refine .of (M.2.1.store i h hb hs hh) (M.2.2.1.but hb (M.2.2.2 _ (List.mem_of_getElem? h))) fun b hbm=>?_
 rcases List.mem_or_eq_of_mem_set hbm with h1 | h1
 ·exact M.2.2.2 b h1
 ·subst h1; exact M.2.2.2 (g,C,t) (List.mem_of_getElem? h)
theorem MO.take (M:MO e size w0 w L v n xs) (k:Nat):MO e size w0 w (L.take k) v n xs:=.of ⟨M.1,fun b hb=>M.2.1.2.1 b (List.mem_of_mem_take hb),M.2.1.2.2.sublist (List.take_sublist k L)⟩ M.2.2.1 fun b hb=>M.2.2.2 b (List.mem_of_mem_take hb)
theorem MO.app (M:MO e size w0 w L v n xs) {v':Value} {m:Nat} {ys:List Value} (ho:Ow w' w0.heap.size e size v' m ys) (hg:w.grownBy w' v.ownBlock) (hv:v'.ownBlock=v.ownBlock∨v'.ownBlock=some w.heap.size):MO e size w0 w' L v' m ys:=by
 have hge:∀ k,v.ownBlock=some k→w0.heap.size≤k:=fun k hk=>(M.2.2.1.lt k hk).1
 refine .of ⟨⟨hg.os.trans M.1.os,hg.tape.trans M.1.tape,hg.output.trans M.1.output,Nat.le_trans M.1.size hg.size,fun i hi=>?_⟩,fun b hb=>⟨(M.2.1.2.1 b hb).1,?_⟩,M.2.1.2.2⟩ ho fun b hb h2=>?_
 ·rw [hg.block i (Nat.lt_of_lt_of_le hi M.1.size) (fun h=>absurd (hge i h.symm) (by omega)),M.1.block i hi]
 ·rw [hg.block b.1 (lt_size (M.2.1.2.1 b hb).2) (fun h=>M.2.2.2 b hb h.symm)]; exact (M.2.1.2.1 b hb).2
 ·rcases hv with h3 | h3
  ·exact M.2.2.2 b hb (h3.symm.trans h2)
  ·rw [h3] at h2
   have h4:w.heap.size=b.1:=Option.some.inj h2
   have:=lt_size (M.2.1.2.1 b hb).2
   omega
theorem Ow.one {B:Nat} (h:Ow w B e size v n xs):v.cells=#[v]∧v.oneCell'=true:=by
 obtain ⟨A,c,rfl,_⟩:=h.slice
 exact ⟨rfl,rfl⟩
theorem Ow.cell {B:Nat} (h:Ow w B e size v n xs) (hn:0<n):∃ g cap,v=.slice (some ⟨g,0,none⟩) n cap∧n≤cap∧cap≤maxLen∧B≤g∧∃ cur fr,w.heap[g]?=some (.cells cur e fr)∧∀ j,j<n*size→cur[j]?=xs[j]?:=by
 obtain ⟨g,cap,cur,fr,rfl,hb,hg,hc,hnc,hcm,hcs,ht⟩:=h.form hn
 refine ⟨g,cap,rfl,hnc,hcm,hb,cur,fr,hg,fun j hj=>?_⟩
 rw [← ht,List.getElem?_take,if_pos hj]
 simp
end
section
variable {P:Program} {ops:Array Oper} {rest:List Oper} {o:Oper} {a:Act} {w:World} {Q:Exit→Act→World→Prop} {K:Act→World→Prop} {E:Prop}
theorem step_load_one (hgd:o.guard=none) (ty:TypeId) (x:Operand) (ho:o.op=.load ty x) (g off:Nat) (hx:a.eval x=.pointer (some ⟨g,off,none⟩)) (v:Value) (d:TypeDesc)
  (hu:P.underlying ty=some d) (hd:isAggDesc d=false) (hc:w.cell? ⟨g,off,none⟩=some v) (h:K (a.put o.dst v) w):if Region.wanted o (yielded ops a.tmps)=true then Oper.wp P o a w K Q else E:=by
 have hw:Region.wanted o (yielded ops a.tmps)=true:=by simp [Region.wanted,hgd]
 rw [if_pos hw]
 unfold Oper.wp execOp
 simp only [ho,hx,Instr.loadAt,Instr.sureAddr,Sem.run_bind,Sem.run_pure,Result.andThen_ok,run_load_one w g off ty d hu hd v hc]
 exact h
theorem step_pure (hgd:o.guard=none) (v:Value) (hv:∀ u,(execOp a.eval o).run P u=.ok (.value v) u) (h:K (a.put o.dst v) w):if Region.wanted o (yielded ops a.tmps)=true then Oper.wp P o a w K Q else E:=by
 have hw:Region.wanted o (yielded ops a.tmps)=true:=by simp [Region.wanted,hgd]
 rw [if_pos hw]
 unfold Oper.wp
 rw [hv]
 exact h
theorem fill_one {n:Nat} (hn:0<n) (v:Value) (z:Array Value) (hv:v.cells.size=n) (hz:z.size=n):Instr.fill (fun i=>some (i*n,n)) z [(0,v)]=some v.cells:=by
 have:=Great.fill_whole (s:=n) hn [v] z (fun u hu=>by simp at hu; rw [hu]; exact hv) (by simp [hz])
 simpa using this
theorem wp_slice1 (t e:TypeId) (x:Operand) (ho:o.op=.buildSlice t 1 #[(0,x)]) (val:Value) (hx:a.eval x=val) (ie:TypeInfo) (z:Value) (n:Nat) (hn:0<n) (hn2:n≤2 ^ 24)
  (hu:P.underlying t=some (.slice e)) (hie:P.info? e=some ie) (hz:ie.zero=some z) (hsz:ie.size=n) (hzs:z.cells.size=n) (hv:val.cells.size=n)
  (h:K (a.put o.dst (.slice (some ⟨w.heap.size,0,none⟩) 1 1)) (w.alloc (.cells val.cells e))):o.wp P a w K Q:=by
 refine wp_buildSlice t e 1 #[(0,x)] ho val.cells ie z hu hie hz (by rw [hsz]; omega) (by rw [hsz]; omega) ?_ h
 rw [hsz]
 have e1:(Array.map (fun (y:Nat × Operand)=>(y.1,a.eval y.2)) #[(0,x)]).toList=[(0,val)]:=by simp [hx]
 refine (congrArg _ e1).trans ?_
 exact fill_one hn val _ hv (by simp)
theorem wpList_slice1 (hgd:o.guard=none) (t e:TypeId) (x:Operand) (ho:o.op=.buildSlice t 1 #[(0,x)]) (val:Value) (hx:a.eval x=val) (ie:TypeInfo) (z:Value) (n:Nat) (hn:0<n) (hn2:n≤2 ^ 24)
  (hu:P.underlying t=some (.slice e)) (hie:P.info? e=some ie) (hz:ie.zero=some z) (hsz:ie.size=n) (hzs:z.cells.size=n) (hv:val.cells.size=n)
  (h:∀ x w',w.heap.size=x→x<w'.heap.size→Grows w w'→w'.heap[x]?=some (.cells val.cells e (0,0))→wpList P ops Q rest (a.put o.dst (.slice (some ⟨x,0,none⟩) 1 1)) w'):wpList P ops Q (o::rest) a w:=
 wpList_plain hgd fun _ hK=>wp_slice1 t e x ho val hx ie z n hn hn2 hu hie hz hsz hzs hv (hK _ _ (h _ _ rfl (by simp) (grows_alloc _ _) (new1 _ _)))
theorem step_slice1 (hgd:o.guard=none) (t e:TypeId) (x:Operand) (ho:o.op=.buildSlice t 1 #[(0,x)]) (val:Value) (hx:a.eval x=val) (ie:TypeInfo) (z:Value) (n:Nat) (hn:0<n) (hn2:n≤2 ^ 24)
  (hu:P.underlying t=some (.slice e)) (hie:P.info? e=some ie) (hz:ie.zero=some z) (hsz:ie.size=n) (hzs:z.cells.size=n) (hv:val.cells.size=n)
  (h:∀ x w',w.heap.size=x→x<w'.heap.size→Grows w w'→w'.heap[x]?=some (.cells val.cells e (0,0))→K (a.put o.dst (.slice (some ⟨x,0,none⟩) 1 1)) w'):if Region.wanted o (yielded ops a.tmps)=true then Oper.wp P o a w K Q else E:=by
 have hw:Region.wanted o (yielded ops a.tmps)=true:=by simp [Region.wanted,hgd]
 rw [if_pos hw]
 exact wp_slice1 t e x ho val hx ie z n hn hn2 hu hie hz hsz hzs hv (h _ _ rfl (by simp) (grows_alloc _ _) (new1 _ _))
theorem wp_app1 (s x:Operand) (t:TypeId) (ho:o.op=.call { callee:=.builtin .append,args:=#[s,x],argTypes:=#[t,t] })
  (e:TypeId) (i:TypeInfo) (z:Value) (size bytes:Nat) (ht:P.underlying t=some (.slice e)) (hi:P.info? e=some i) (hz:i.zero=some z) (hsize:i.size=size) (hby:i.bytes=bytes) (hzs:z.cells.size=size)
  {w0:World} {L:List Blk} (v:Value) (n:Nat) (xs:List Value) (M:MO e size w0 w L v n xs) (hs:a.eval s=v) (g:Nat) (hx:a.eval x=.slice (some ⟨g,0,none⟩) 1 1) {t':TypeId} (C:Array Value) (hg:w.heap[g]?=some (.cells C t' (0,0))) (hC:C.size=size) (h1:∀ u ∈ C.toList,u.oneCell'=true)
  (hbytes:(n+1)*bytes≤140737488355328) (hlen:n+1≤maxLen)
  (h:∀ v' w',MO e size w0 w' L v' (n+1) (xs++C.toList)→K (a.put o.dst v') w'):o.wp P a w K Q:=by
 refine wp_append s x t t ho w0.heap.size e i z size bytes (.slice e) ht ht (.inl ⟨e,rfl⟩) hi hz hsize hby hzs v n xs hs M.2.2.1 _ hx 1 C.toList (fun _=>rfl) ?_ (by simp [hC]) h1 hlen hbytes M.1.size ?_
 ·intro w' hw
  refine run_firstCells_some w' size 1 ⟨g,0,none⟩ 1 1 C.toList (by simp [hC]) fun j u hj=>?_
  rw [Addr.add_lit,Nat.zero_add,World.cell?_of_block (w:=w) (w':=w') (by rw [hw]),cO hg]
  simpa using hj
 ·intro v' w' h2 h3 h4
  exact h v' w' (M.app h2 h3 h4)
theorem step_app1 (hgd:o.guard=none) (s x:Operand) (t:TypeId) (ho:o.op=.call { callee:=.builtin .append,args:=#[s,x],argTypes:=#[t,t] })
  (e:TypeId) (i:TypeInfo) (z:Value) (size bytes:Nat) (ht:P.underlying t=some (.slice e)) (hi:P.info? e=some i) (hz:i.zero=some z) (hsize:i.size=size) (hby:i.bytes=bytes) (hzs:z.cells.size=size)
  {w0:World} {L:List Blk} (v:Value) (n:Nat) (xs:List Value) (M:MO e size w0 w L v n xs) (hs:a.eval s=v) (g:Nat) (hx:a.eval x=.slice (some ⟨g,0,none⟩) 1 1) {t':TypeId} (C:Array Value) (hg:w.heap[g]?=some (.cells C t' (0,0))) (hC:C.size=size) (h1:∀ u ∈ C.toList,u.oneCell'=true)
  (hbytes:(n+1)*bytes≤140737488355328) (hlen:n+1≤maxLen)
  (h:∀ v' w',MO e size w0 w' L v' (n+1) (xs++C.toList)→K (a.put o.dst v') w'):if Region.wanted o (yielded ops a.tmps)=true then Oper.wp P o a w K Q else E:=by
 have hw:Region.wanted o (yielded ops a.tmps)=true:=by simp [Region.wanted,hgd]
 rw [if_pos hw]
 exact wp_app1 s x t ho e i z size bytes ht hi hz hsize hby hzs v n xs M hs g hx C hg hC h1 hbytes hlen h
end
end Go.Proofs.YtkoonhiplicbkaaGreat.Cw
namespace Go.Proofs.YtkoonhiplicbkaaGreat.Cw
open Go Go.RowKit
theorem idx_slice {P:Program} {ρ:Operand→Value} {o:Oper} (t:TypeId) (x i:Operand) (ho:o.op=.indexAddr t x i) (g n cap q sz:Nat) {e:TypeId} (hx:ρ x=.slice (some ⟨g,0,none⟩) n cap) (hi:ρ i=.int .i64 (q:Int)) (hq:q<n)
  (ht:P.underlying t=some (.slice e)) (hs:(P.info? e).map (·.size)=some sz) (u:World):(execOp ρ o).run P u=.ok (.value (.pointer (some ⟨g,q*sz,none⟩))) u:=by
 obtain ⟨dst,op,type,pos,after,guard⟩:=o
 subst ho
 have h1:¬ ((q:Int)<0):=by omega
 have h2:((q:Int)<n):=by omega
 have h3:(q:Int).toNat=q:=rfl
 cases hie:P.info? e with
 | none=>simp [hie] at hs
 | some ie=>
  have hs2:ie.size=sz:=by simpa [hie] using hs
  simp [execOp,Instr.indexAt,hx,hi,run_underlying ht,sizeOf,typeInfo,hie,hs2,hq,h1,h2,h3,Addr.add_lit,asIntOf]
theorem conv_wn {P:Program} {ρ:Operand→Value} {o:Oper} (src dst:TypeId) (x:Operand) (ho:o.op=.convert src dst x) (q:Nat) (hx:ρ x=.int .i64 (q:Int)) (hq:q<18446744073709551616) (hs:P.underlying src=some (.int .i64)) (hd:P.underlying dst=some (.int .u64)) (u:World) :
  (execOp ρ o).run P u=.ok (.value (wn q)) u:=by
 obtain ⟨d,op,type,pos,after,guard⟩:=o
 subst ho
 have h:=wrapN q
 rw [Nat.mod_eq_of_lt hq] at h
 simp [execOp,hx,convert,run_underlying hs,run_underlying hd,h,Conv.intToInt,wn]
end Go.Proofs.YtkoonhiplicbkaaGreat.Cw
namespace Go.Proofs.YtkoonhiplicbkaaGreat.Cw
open Go Go.RowKit
theorem run_bini {P:Program} {ρ:Operand→Value} {o:Oper} {v:Value} (op:BinOp) (t t2:TypeId) (x y:Operand) (ho:o.op=.binOp op t x y t2) (p q:Int) (hx:ρ x=.int .i64 p) (hy:ρ y=.int .i64 q) (h:binOp op t (.int .i64 p) (.int .i64 q)=pure v) (u:World):(execOp ρ o).run P u=.ok (.value v) u:=by
 obtain ⟨d,op,type,pos,after,guard⟩:=o
 subst ho
 simp only [execOp,hx,hy,eqGuard_at_int,h,Sem.run_bind,Sem.run_pure,Result.andThen_ok]
theorem bi_add (t:TypeId) {p q:Nat} (h:p+q<9223372036854775808):binOp .add t (.int .i64 (p:Int)) (.int .i64 (q:Int))=pure (.int .i64 ((p+q:Nat):Int)):=by
 show (pure (.int .i64 (IntKind.i64.wrap ((p:Int)+q))):Sem Value)=_
 rw [IntWalk.i64_in _ (by omega)]; rfl
theorem bi_sub (t:TypeId) {p q:Nat} (h:q≤p) (h2:p<9223372036854775808):binOp .sub t (.int .i64 (p:Int)) (.int .i64 (q:Int))=pure (.int .i64 ((p - q:Nat):Int)):=by
 show (pure (.int .i64 (IntKind.i64.wrap ((p:Int) - q))):Sem Value)=_
 rw [IntWalk.i64_in _ (by omega)]
 congr 2
 omega
theorem bi_mul (t:TypeId) {p q:Nat} (h:p*q<9223372036854775808):binOp .mul t (.int .i64 (p:Int)) (.int .i64 (q:Int))=pure (.int .i64 ((p*q:Nat):Int)):=by
 show (pure (.int .i64 (IntKind.i64.wrap ((p:Int)*q))):Sem Value)=_
 rw [← Int.natCast_mul,IntWalk.i64_in _ (by omega)]
theorem bi_quo (t:TypeId) {p q:Nat} (h:q≠0) (h2:p<9223372036854775808):binOp .quo t (.int .i64 (p:Int)) (.int .i64 (q:Int))=pure (.int .i64 ((p / q:Nat):Int)):=by
 have h1:((p / q:Nat):Int)<9223372036854775808:=by have:=Nat.div_le_self p q; omega
 show Op.intDiv .quo .i64 (p:Int) (q:Int)=_
 unfold Op.intDiv
 rw [if_neg (by omega)]
 show (pure (.int .i64 (IntKind.i64.wrap (Int.tdiv (p:Int) (q:Int)))):Sem Value)=_
 have h3:p / q≤p:=Nat.div_le_self p q
 rw [← Int.ofNat_tdiv]
 clear h1
 generalize p / q=r at *
 rw [IntWalk.i64_in _ (by omega)]
theorem bi_geq (t:TypeId) (p q:Int):binOp .geq t (.int .i64 p) (.int .i64 q)=pure (.bool (decide (p≥q))):=rfl
theorem run_min {P:Program} {ρ:Operand→Value} {o:Oper} (t1 t2:TypeId) (x y:Operand) (ho:o.op=.call { callee:=.builtin .min,args:=#[x,y],argTypes:=#[t1,t2] }) (p q:Nat) (hx:ρ x=.int .i64 (p:Int)) (hy:ρ y=.int .i64 (q:Int)) (h:p≤q) (u:World):(execOp ρ o).run P u=.ok (.value (.int .i64 (p:Int))) u:=by
 obtain ⟨d,op,type,pos,after,guard⟩:=o
 subst ho
 have h1:¬ ((q:Int)<p):=by omega
 simp [execOp,resolve,invoke,builtin,hx,hy,Builtin.min_,Builtin.min2,h1]
theorem conv_int {P:Program} {ρ:Operand→Value} {o:Oper} (src dst:TypeId) (x:Operand) (ho:o.op=.convert src dst x) (q:Nat) (hx:ρ x=wn q) (hq:q<9223372036854775808) (hs:P.underlying src=some (.int .u64)) (hd:P.underlying dst=some (.int .i64)) (u:World) :
  (execOp ρ o).run P u=.ok (.value (.int .i64 (q:Int))) u:=by
 obtain ⟨d,op,type,pos,after,guard⟩:=o
 subst ho
 have h:IntKind.i64.wrap (q:Int)=(q:Int):=IntWalk.i64_in _ (by omega)
 have hx2:ρ x=.int .u64 (q:Int):=hx
 simp [execOp,hx2,convert,run_underlying hs,run_underlying hd,h,Conv.intToInt]
end Go.Proofs.YtkoonhiplicbkaaGreat.Cw
namespace Go.Proofs.YtkoonhiplicbkaaGreat.Cw
open Go Go.RowKit
section
variable {P:Program} {ops:Array Oper} {Q:Exit→Act→World→Prop} {md:Region.Mode} {R:World→World→Prop}
def Cl (md:Region.Mode) (ops:Array Oper) (listed:Array Bool):Prop:=∀ p op,ops[p]?=some op→listed.getD p false=true→∀ e ∈ op.after,Region.binds md e=true→listed.getD e.on false=true
theorem Cl.none {n:Nat}:Cl md ops (Array.replicate n false):=fun p op _ h=>by
 simp [Array.getD,Array.getElem_replicate] at h
theorem getD_set_keep {listed:Array Bool} {i x:Nat} (h:listed.getD x false=true):(listed.setIfInBounds i true).getD x false=true:=by
 by_cases hx:i=x
 ·subst hx
  rcases Nat.lt_or_ge i listed.size with h' | h'
  ·simp [h']
  ·simp [h'] at h
 ·rw [getD_set_ne _ hx]; exact h
theorem Cl.set {listed:Array Bool} {i:Nat} (h:Cl md ops listed) (hi:i ∈ Region.ready md ops listed):Cl md ops (listed.setIfInBounds i true):=fun p op hp hl e he hb=>by
 by_cases hpi:i=p
 ·subst hpi
  obtain ⟨_,o,ho,hall⟩:=mem_ready.1 hi
  rw [hp] at ho
  injection ho with ho
  subst ho
  exact getD_set_keep (hall e he hb)
 ·rw [getD_set_ne _ hpi] at hl
  exact getD_set_keep (h p op hp hl e he hb)
def waitsT (md:Region.Mode) (ops:Array Oper):Nat→Nat→Nat→Bool
 | 0,_,_=>false
 | f+1,j,k=>match ops[j]? with
  | some oj=>oj.after.any fun e=>Region.binds md e && (e.on == k || waitsT md ops f e.on k)
  | none=>false
theorem waitsT_ready {listed:Array Bool} {k:Nat} (hcl:Cl md ops listed) (hk:listed.getD k false=false):∀ (f j:Nat) (oj:Oper),ops[j]?=some oj→(∀ e ∈ oj.after,Region.binds md e=true→listed.getD e.on false=true)→waitsT md ops f j k=false
 | 0,_,_,_,_=>rfl
 | f+1,j,oj,hj,hall=>by
  simp only [waitsT,hj]
  cases hany:oj.after.any (fun e=>Region.binds md e && (e.on == k || waitsT md ops f e.on k)) with
  | false=>rfl
  | true=>
  exfalso
  obtain ⟨e,he,hc⟩:=Array.any_eq_true'.1 hany
  simp only [Bool.and_eq_true,Bool.or_eq_true,beq_iff_eq] at hc
  obtain ⟨hb,h1 | h1⟩:=hc
  ·have:=hall e he hb
   rw [h1,hk] at this
   cases this
  ·cases hq:ops[e.on]? with
   | none=>
    cases f with
    | zero=>simp [waitsT] at h1
    | succ f=>simp [waitsT,hq] at h1
   | some o2=>
    rw [waitsT_ready hcl hk f e.on o2 hq (hcl e.on o2 hq (hall e he hb))] at h1
    cases h1
def waitsTB (md:Region.Mode) (ops:Array Oper) (m k:Nat):Bool:=(List.range ops.size).all fun j=>decide (j<m) || waitsT md ops ops.size j k
theorem waitsTB_spec {m k:Nat} (h:waitsTB md ops m k=true) (j:Nat) (oj:Oper) (hj:ops[j]?=some oj) (hm:m≤j):waitsT md ops ops.size j k=true:=by
 unfold waitsTB at h
 rw [List.all_eq_true] at h
 have h1:=h j (List.mem_range.2 (Array.getElem?_eq_some_iff.1 hj).1)
 simp only [Bool.or_eq_true,decide_eq_true_eq] at h1
 exact h1.elim (fun h=>absurd h (by omega)) id
def growHeadT (md:Region.Mode) (ops:Array Oper) (m:Nat):Nat→Nat→Array Bool→Bool
 | 0,_,_=>true
 | f+1,k,listed=>(Region.ready md ops listed).contains k && Region.free md ops listed k && decide (k<m) && (waitsTB md ops m k || lateB ops k) && growHeadT md ops m f (k+1) (listed.setIfInBounds k true)
theorem wpAnyR_firstT (hr:∀ a,R a a) (ht:∀ a b c,R a b→R b c→R a c) {m i:Nat} {oi:Oper} {v:Value} (hi:ops[i]?=some oi) (him:i<m) (hsel:∀ (j:Nat) (o:Oper) cs b,ops[j]?=some o→o.op≠.select cs b)
  (hQ:∀ c a w,Q (.panic c) (a.put oi.dst v) w→Q (.panic c) a w)
  (hlate:(∀ j oj,ops[j]?=some oj→m≤j→waitsT md ops ops.size j i=true)∨∀ w0 a,YieldsG P ops R oi v w0 a→Yields P ops oi v a) :
  ∀ (fuel:Nat) (listed:Array Bool) (a:Act) (w:World),Cl md ops listed →
   (∀ j oj,ops[j]?=some oj→j≠i→listed.getD j true=false→(∀ e ∈ oj.after,Region.binds md e=true→e.on≠i)→oi.apart ops oj=true) →
   i ∈ Region.ready md ops listed→YieldsG P ops R oi v w a →
   wpAnyR P md ops Q R m fuel (listed.setIfInBounds i true) (a.put oi.dst v) w→wpAnyR P md ops Q R m (fuel+1) listed a w:=by
 intro fuel
 induction fuel with
 | zero=>
  intro listed a w _ _ hrd hy H w1 hw1
  refine ⟨fun h=>(by rw [h] at hrd; cases hrd),fun j hj=>?_⟩
  by_cases hji:j=i
  ·subst hji
   exact ⟨fun h=>absurd h (by omega),fun _=>(hy.up ht hw1).wpOp hr hi fun w' hw'=>⟨hw',wpAnyR_up ht (ht _ _ _ hw1 hw') 0 _ _ H⟩⟩
  ·have:=ready_mono hj hji
   rw [(H w1 hw1).1] at this
   cases this
 | succ fuel ih=>
  intro listed a w hcl hfree hrd hy H w1 hw1
  refine ⟨fun h=>(by rw [h] at hrd; cases hrd),fun j hj=>?_⟩
  by_cases hji:j=i
  ·subst hji
   exact ⟨fun h=>absurd h (by omega),fun _=>(hy.up ht hw1).wpOp hr hi fun w' hw'=>⟨hw',wpAnyR_up ht (ht _ _ _ hw1 hw') _ _ _ H⟩⟩
  ·obtain ⟨H1,H2⟩:=(H w1 hw1).2 j (ready_mono hj hji)
   obtain ⟨hjun,oj,hoj,hall⟩:=mem_ready.1 hj
   have hun:=unlisted_both (mem_ready.1 hrd).1
   have hnot:∀ e ∈ oj.after,Region.binds md e=true→e.on≠i:=fun e he hb heq=>by
    have h1:=hall e he hb
    rw [heq,hun] at h1
    cases h1
   have hap:=hfree j oj hoj hji hjun hnot
   have hfree':∀ k ok,ops[k]?=some ok→k≠i→(listed.setIfInBounds j true).getD k true=false →
     (∀ e ∈ ok.after,Region.binds md e=true→e.on≠i)→oi.apart ops ok=true:=fun k ok hk hki hun hno=>by
    refine hfree k ok hk hki ?_ hno
    by_cases hjk:j=k
    ·subst hjk; exact hjun
    ·rw [getD_set_ne true hjk] at hun; exact hun
   have hsi:∀ cs b,oi.op≠.select cs b:=fun cs b=>hsel i oi cs b hi
   have hsj:∀ cs b,oj.op≠.select cs b:=fun cs b=>hsel j oj cs b hoj
   obtain ⟨h1,h2,h3⟩:=Oper.apart_spec hap
   refine ⟨fun hm=>?_,fun hm=>?_⟩
   ·rcases hlate with hl | hl
    ·have h5:=hl j oj hoj hm
     rw [waitsT_ready hcl hun _ _ oj hoj hall] at h5
     cases h5
    ·refine wpOp_mono (fun a' w' h4=>wpAny_first hi hsel hQ fuel _ a' w' hfree' (ready_mono hrd (Ne.symm hji)) h4.1 ?_) (wpOp_put hoj hap hsi hsj hQ (hl _ _ hy) (H1 hm))
     rw [Array.setIfInBounds_comm _ _ hji]
     exact h4.2
   ·have hk:=wpOp_keep (P:=P) (Q:=Q) hoj (Y:=YieldsG P ops R oi v w) (fun a u hy=>hy.of_same (execOp_put oi hsi a oj.dst u h3) (wanted_put oi a oj.dst u h3)) (fun a d hy=>hy.of_same rfl rfl) hy (wpOp_swap hoj hap hsj hQ (H2 hm))
    refine wpOp_mono (fun a' w' h4=>⟨h4.2.1,ih (listed.setIfInBounds j true) a' w' (hcl.set hj) hfree' (ready_mono hrd (Ne.symm hji)) (h4.1.up ht (ht _ _ _ hw1 h4.2.1)) ?_⟩) hk
    rw [Array.setIfInBounds_comm _ _ hji]
    exact h4.2.2
theorem wpAnyR_headT (hr:∀ a,R a a) (ht:∀ a b c,R a b→R b c→R a c) (hs:Region.noSelect ops=true) {m g:Nat} {w:World} {L:Act→Prop}
  (hQ:∀ d v c a w,Q (.panic c) (a.put d v) w→Q (.panic c) a w) :
  ∀ (l:List Oper) (k:Nat) (listed:Array Bool) (a:Act),(∀ j,j<l.length→l[j]?=ops[k+j]?)→growHeadT md ops m l.length k listed=true→Cl md ops listed→wpGrow P ops R w L l a →
  (∀ a',L a'→wpAnyR P md ops Q R m g (growSet l.length k listed) a' w)→wpAnyR P md ops Q R m (l.length+g) listed a w
 | [],k,listed,a,_,_,_,h,H=>by
  have:=H a h
  simpa [growSet] using this
 | o::l,k,listed,a,hl,hB,hcl,h,H=>by
  have h0:ops[k]?=some o:=by simpa using (hl 0 (by simp)).symm
  simp only [List.length_cons,growHeadT,Bool.and_eq_true,decide_eq_true_eq] at hB
  obtain ⟨⟨⟨⟨hrd,hf⟩,hkm⟩,hw⟩,hB'⟩:=hB
  have hrd':k ∈ Region.ready md ops listed:=by simpa using hrd
  have hst:∃ v,YieldsG P ops R o v w a∧wpGrow P ops R w L l (a.put o.dst v):=by
   unfold wpGrow at h
   split at h
   ·rename_i hwt
    obtain ⟨v,h1,h2⟩:=h
    exact ⟨v,.inl ⟨hwt,h1⟩,h2⟩
   ·rename_i hwt
    exact ⟨undef,.inr ⟨by simpa using hwt,rfl⟩,h⟩
  obtain ⟨v,hy,hK⟩:=hst
  rw [show (o::l).length+g=(l.length+g)+1 by simp; omega]
  refine wpAnyR_firstT hr ht h0 hkm (Region.noSelect_spec hs) (fun c a w=>hQ _ _ c a w) ?_ (l.length+g) listed a w hcl (Region.free_spec h0 hf) hrd' hy ?_
  ·rw [Bool.or_eq_true] at hw
   exact hw.imp (fun h j oj hj hm=>waitsTB_spec h j oj hj hm) (fun h w0 a=>late_yields hr h0 h w0 a)
  ·exact wpAnyR_headT hr ht hs hQ l (k+1) _ _ (fun j hj=>by have:=hl (j+1) (by simp; omega); simpa [Nat.add_assoc,Nat.add_comm 1 j] using this) hB' (hcl.set hrd') hK (fun a' h'=>by have:=H a' h'; simpa [growSet] using this)
theorem wp_region_growT {id:Nat} {a:Act} {w:World} {l:List Oper} (n m:Nat) (hm:P.follows .mixedOrders=true) (hB:(Region.noSelect l.toArray && growHeadT .any l.toArray m n 0 (Array.replicate l.toArray.size false) && decide (n≤l.length))=true)
  (hQ:∀ d v c a w,Q (.panic c) (a.put d v) w→Q (.panic c) a w)
  (h:wpGrow P l.toArray Grows w.drew (fun a'=>wpAnyR P .any l.toArray Q Grows m (l.length - n) (growSet n 0 (Array.replicate l.toArray.size false)) a' w.drew) (l.take n) a):(Code.region id l.toArray true).wp P Q a w:=by
 simp only [Bool.and_eq_true,decide_eq_true_eq] at hB
 obtain ⟨⟨hs,hg⟩,hn⟩:=hB
 have htl:(l.take n).length=n:=by simp; omega
 refine wp_region_any hm (wpAnyR_sound (m:=m) grows_refl _ _ _ _ ?_)
 have:=wpAnyR_headT (md:=.any) (Q:=Q) (m:=m) (g:=l.length - n) grows_refl gT hs hQ (l.take n) 0 (Array.replicate l.toArray.size false) a (fun j hj=>by
  have hj':j<n:=by rw [htl] at hj; exact hj
  simp [hj']) (by rw [htl]; exact hg) Cl.none h (fun a' h'=>by rw [htl]; exact h')
 rw [htl,show n+(l.length - n)=l.toArray.size by simp; omega] at this
 exact this
end
end Go.Proofs.YtkoonhiplicbkaaGreat.Cw
namespace Go.Proofs.YtkoonhiplicbkaaGreat.Cw
open Go Go.RowKit
section
variable {P:Program} {ops:Array Oper} {o:Oper} {a:Act} {w:World} {Q:Exit→Act→World→Prop} {K:Act→World→Prop} {E:Prop}
theorem step_fnE (hgd:o.guard=none) (k:FuncId) (f:Operand) (args:Array Operand) (tys:Array TypeId) (ho:o.op=.call { callee:=.value f,args:=args,argTypes:=tys }) (bound avs:Array Value)
  (hf:a.eval f=.func (.func k) bound #[]) (has:args.map a.eval=avs) (hent:∀ u:World,(callFunc k (bound++avs)).run P u=.ok (.enter k (bound++avs)) u) {T:Type} (v:T→Value) (R:T→World→Prop)
  (h:Calls P k (bound++avs) w fun e w'=>∃ d,e=.returned (v d)∧R d w') (hn:∀ d w',R d w'→K (a.put o.dst (v d)) w'):if Region.wanted o (yielded ops a.tmps)=true then Oper.wp P o a w K Q else E:=by
 have hw:Region.wanted o (yielded ops a.tmps)=true:=by simp [Region.wanted,hgd]
 rw [if_pos hw]
 have h1:(execOp a.eval o).run P w=.ok (.enter k (bound++avs)) w:=by
  unfold execOp
  simp only [ho,resolve,hf,has,Deferred.ofValue,Sem.run_bind,Sem.run_pure,Result.andThen_ok,invoke,Array.append_empty,hent]
 unfold Oper.wp
 rw [h1,Oper.upon_enter]
 refine h.mono ?_
 rintro e w' ⟨d,rfl,hb⟩
 exact hn d w' hb
theorem more_E {md:Region.Mode} {C:World→Prop} (hcl:∀ u u',C u→Grows u u'→C u') (ks:List Nat) (g:Nat) {f:Nat} {listed:Array Bool} (hCw:C w) (hf:f=ks.length+g) (hB:(Region.noSelect ops && growHeadE md ops ks listed)=true)
  (hQ:∀ d v c a w,Q (.panic c) (a.put d v) w→Q (.panic c) a w) (h:wpE P ops C (fun a'=>wpAnyE P md ops Q C g (growSetE ks listed) a' w) (pickOps ks ops.toList) a):wpAnyE P md ops Q C f listed a w:=by
 simp only [Bool.and_eq_true] at hB
 subst hf
 exact wpAnyE_head hcl hB.1 hQ hCw ks listed a hB.2 h (fun a' h'=>h')
end
theorem Ow.get1 {w:World} {B e n g cap:Nat} {xs:List Value} (h:Ow w B e 1 (.slice (some ⟨g,0,none⟩) n cap) n xs) {j:Nat} (hj:j<n) {x:Value} (hx:xs[j]?=some x):w.cell? ⟨g,j,none⟩=some x:=by
 obtain ⟨g',cap',hv,_,_,_,cur,fr,hg,hc⟩:=h.cell (show 0<n by omega)
 injection hv with h1 h2 h3
 injection h1 with h1
 injection h1 with h1
 subst h1
 rw [cO hg,hc j (by omega),hx]
theorem Ow.weak {w:World} {B B' e size n:Nat} {v:Value} {xs:List Value} (h:Ow w B e size v n xs) (hB:B'≤B):Ow w B' e size v n xs:=by
 refine ⟨h.1,?_⟩
 rcases h.2 with h0 | ⟨g,cap,cur,fr,rfl,hb,r⟩
 ·exact .inl h0
 ·exact .inr ⟨g,cap,cur,fr,rfl,Nat.le_trans hB hb,r⟩
theorem MO.join {e size n:Nat} {w0 w w':World} {L:List Blk} {v:Value} {xs:List Value} (M:Mem w0 w L) (h:Ow w' w.heap.size e size v n xs) (hg:Grows w w'):MO e size w0 w' L v n xs:=
 .of (M.grow hg) (h.weak M.1.size) fun b hb h2=>by
  have h3:w.heap.size≤b.1:=(h.lt b.1 h2).1
  have:=lt_size (M.2.1 b hb).2
  omega
end Go.Proofs.YtkoonhiplicbkaaGreat.Cw
