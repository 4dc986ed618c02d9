/-
  Numbers of nine words in memory: read, written, handed back. Condition: none but what each says.
  (package nat) Add, Sub. Condition: numbers below 2^576.
  (package nat) used, Bits; (math/bits) Len64, LeadingZeros64, Mul64 over words. Condition: numbers below 2^576.
  (package nat) Cmp, Small, Bit, Shr. Condition: numbers below 2^576.
  (package nat) Shr. Condition: numbers below 2^576.
  (package nat) Mul. Condition: numbers below 2^576.
-/
import Derived.Test.YtkoonhiplicbkaaGreatQk8
import Derived.Test.YtkoonhiplicbkaaGreatQk2
import Derived.Test.YtkoonhiplicbkaaGreatChecked
import Derived.BigQuiet
import Derived.Laws.Externs
import Derived.Laws.Tables
import Derived.Test.YtkoonhiplicbkaaGreatShelf
import Derived.Deep.Quiet
import Derived.Deep.QuietTactic
set_option linter.unusedSimpArgs false
set_option linter.unusedVariables false
set_option maxHeartbeats 1000000
set_option maxRecDepth 100000
namespace Go.Proofs.YtkoonhiplicbkaaGreat.Cw
open Go Go.RowKit
section
variable {ops:Array Oper} {rest:List Oper} {o:Oper} {a:Act} {w:World} {Q:Exit→Act→World→Prop}
theorem wpList_built (hgd:o.guard=none) (t:TypeId) (parts:Array (Nat × Operand)) (ho:o.op=.build t parts) (cells:Array Value)
    (hb:Tryz.prog.built t (parts.map fun (i,x)=>(i,a.eval x)).toList=some cells)
    (h:wpList Tryz.prog ops Q rest (a.put o.dst (.agg cells)) w):wpList Tryz.prog ops Q (o::rest) a w:=
  wpList_build hgd t parts ho (by rw [hb]; rfl) (by rw [hb]; exact h)
theorem wpN_load (hgd:o.guard=none) (x:Operand) (ho:o.op=.load 27 x) (g off:Nat) (hx:a.eval x=.pointer (some ⟨g,off,none⟩)) {t:TypeId} {C:Array Value} {fr:Nat × Nat} (hg:w.heap[g]?=some (.cells C t fr))
    (n:Nat) (hcs:∀ j,j<9→C[off+j]?=some (wn (dig n j))) (h:wpList Tryz.prog ops Q rest (a.put o.dst (.agg (nc n))) w):wpList Tryz.prog ops Q (o::rest) a w:=
  lS hgd 27 x ho g off 9 hx t C (nc n) fr _ hg Tryz.underlying27 rfl (by kernel_rfl) (nS n) (fun j hj=>(hcs j hj).trans (nc_get n j hj).symm) h
theorem l0N (hgd:o.guard=none) (x:Operand) (ho:o.op=.load 27 x) (g:Nat) (hx:a.eval x=.pointer (some ⟨g,0,none⟩)) {t:TypeId} {fr:Nat × Nat} {n:Nat} (hg:w.heap[g]?=some (.cells (nc n) t fr))
    (h:wpList Tryz.prog ops Q rest (a.put o.dst (.agg (nc n))) w):wpList Tryz.prog ops Q (o::rest) a w:=
  wpN_load hgd x ho g 0 hx hg n (fun j hj=>by rw [Nat.zero_add]; exact nc_get n j hj) h
theorem nO (n:Nat):∀ u ∈ (nc n).toList,u.oneCell'=true:=one_fa _ _ _ wn_one
theorem wpN_store0 (hgd:o.guard=none) (x v:Operand) (ho:o.op=.store 27 x v) (g:Nat) (hx:a.eval x=.pointer (some ⟨g,0,none⟩)) {t:TypeId} {C:Array Value} (hg:w.heap[g]?=some (.cells C t (0,0))) (n:Nat) (hv:a.eval v=.agg (nc n)) (hC:C.size=9)
    (h:∀ w',w'.heap[g]?=some (.cells (nc n) t (0,0))→But g w w'→w'.heap.size=w.heap.size→wpList Tryz.prog ops Q rest (a.put o.dst undef) w'):wpList Tryz.prog ops Q (o::rest) a w:=
  sB hgd 27 x v ho g hx t C (nc n) hv hg (by rw [nS]; kernel_rfl) (by rw [nS,hC]) (nO n) h
end
section
variable {ops:Array Oper} {rest:List Oper} {o:Oper} {a:Act} {C:World→Prop} {Q:Act→Prop}
theorem wpQuiet_load_seg (hwt:Region.wanted o (yielded ops a.tmps)=true) (ty:TypeId) (x:Operand) (ho:o.op=.load ty x) (g off n:Nat) (hx:a.eval x=.pointer (some ⟨g,off,none⟩)) (cs:Array Value) (d:TypeDesc)
    (hu:Tryz.prog.underlying ty=some d) (hd:isAggDesc d=true) (hi:(Tryz.prog.info? ty).map (·.size)=some n) (hn:cs.size=n)
    (hc:∀ w,C w→∃ D t fr,w.heap[g]?=some (.cells D t fr)∧∀ j,j<n→D[off+j]?=cs[j]?)
    (h:wpQuiet Tryz.prog ops C Q rest (a.put o.dst (.agg cs))):wpQuiet Tryz.prog ops C Q (o::rest) a:=by
  refine BigFrame.wpQuiet_want hwt fun K hK=>⟨.agg cs,fun w hw=>?_,hK _ h⟩
  obtain ⟨D,t,fr,hg,hcs⟩:=hc w hw
  unfold Oper.quietAt execOp
  simp only [ho,hx,Instr.loadAt,Instr.sureAddr,Sem.run_bind,Sem.run_pure,Result.andThen_ok,run_load_seg w g off n t ty D cs fr d hg hu hd hi hn hcs]
  exact ⟨rfl,rfl⟩
end
theorem results_N {fn:Func} {p:Tmp} (h:fn.results=#[.cell p 27]) (tmps:Array Value) (w:World) (g:Nat) (t:TypeId) (n:Nat) (fr:Nat × Nat) (hp:tmps.getD p undef=.pointer (some ⟨g,0,none⟩)) (hg:w.heap[g]?=some (.cells (nc n) t fr)) :
    (results fn tmps).run Tryz.prog w=.ok (.agg (nc n)) w:=
  results_blk h tmps w g t (nc n) fr _ hp hg Tryz.underlying27 rfl (by rw [nS]; kernel_rfl)
theorem results_N2 {fn:Func} {p q:Tmp} (h:fn.results=#[.cell p 27,.tmp q]) (tmps:Array Value) (w:World) (g:Nat) (t:TypeId) (n:Nat) (fr:Nat × Nat) (v:Value)
    (hp:tmps.getD p undef=.pointer (some ⟨g,0,none⟩)) (hq:tmps.getD q undef=v) (hg:w.heap[g]?=some (.cells (nc n) t fr)) :
    (results fn tmps).run Tryz.prog w=.ok (.tuple #[.agg (nc n),v]) w:=by
  have hp':tmps[p]?.getD undef=.pointer (some ⟨g,0,none⟩):=by simpa using hp
  have hq':tmps[q]?.getD undef=v:=by simpa using hq
  simp [results,h,hp',hq',asAddr,run_load_seg w g 0 9 t 27 (nc n) (nc n) fr _ hg Tryz.underlying27 rfl (by kernel_rfl) (nS n) (fun j _=>by rw [Nat.zero_add])]
theorem al2 (w:World) (A B:Obj):((w.alloc A).alloc B).heap[w.heap.size]?=some A∧((w.alloc A).alloc B).heap[w.heap.size+1]?=some B∧Below w.heap.size w ((w.alloc A).alloc B):=
  ⟨new2a w A B,new2 w A B,((Below.refl _ _).alloc (Nat.le_refl _) _).alloc (by simp) _⟩
theorem al3 (w:World) (A B C:Obj):(((w.alloc A).alloc B).alloc C).heap[w.heap.size]?=some A∧(((w.alloc A).alloc B).alloc C).heap[w.heap.size+1]?=some B∧(((w.alloc A).alloc B).alloc C).heap[w.heap.size+1+1]?=some C∧Below w.heap.size w (((w.alloc A).alloc B).alloc C):=by
  obtain ⟨h1,h2,h3⟩:=al2 w A B
  refine ⟨alloc_far h1 C,alloc_far h2 C,?_,h3.alloc h3.size _⟩
  have:=new1 ((w.alloc A).alloc B) C
  simpa using this
theorem al4 (w:World) (A B C D:Obj):((((w.alloc A).alloc B).alloc C).alloc D).heap[w.heap.size]?=some A∧((((w.alloc A).alloc B).alloc C).alloc D).heap[w.heap.size+1]?=some B∧((((w.alloc A).alloc B).alloc C).alloc D).heap[w.heap.size+1+1]?=some C∧((((w.alloc A).alloc B).alloc C).alloc D).heap[w.heap.size+1+1+1]?=some D∧Below w.heap.size w ((((w.alloc A).alloc B).alloc C).alloc D):=by
  obtain ⟨h1,h2,h3,h4⟩:=al3 w A B C
  refine ⟨alloc_far h1 D,alloc_far h2 D,alloc_far h3 D,?_,h4.alloc h4.size _⟩
  have:=new1 (((w.alloc A).alloc B).alloc C) D
  simpa using this
theorem run_Add64 (x y c:Nat) (hc:c≤1) (w:World):(callFunc 44 #[wn x,wn y,wn c]).run Tryz.prog w=.ok (.value (.tuple #[wn ((x+y+c)%18446744073709551616),wn ((x+y+c) / 18446744073709551616)])) w:=by
  unfold wn
  rw [run_callFunc_extern Tryz.func44 (by kernel_rfl) (by kernel_rfl) (by kernel_rfl) (e:=add64Entry) (by kernel_rfl),run_add64 x y c (by omega) (by omega) (by omega) (by omega)]
  simp only [Result.andThen]
  congr 5 <;> omega
theorem run_Sub64 (x y c:Nat) (hc:c≤1) (w:World):(callFunc 45 #[wn x,wn y,wn c]).run Tryz.prog w=.ok (.value (.tuple #[wn ((x+18446744073709551616 - y - c)%18446744073709551616),wn (if x<y+c then 1 else 0)])) w:=by
  unfold wn
  rw [run_callFunc_extern Tryz.func45 (by kernel_rfl) (by kernel_rfl) (by kernel_rfl) (e:=(Extern.MathBitsCarry.rows.getD 1 default).2) (by kernel_rfl)]
  have:c=0∨c=1:=by omega
  rcases this with rfl | rfl <;> rfl
end Go.Proofs.YtkoonhiplicbkaaGreat.Cw
namespace Go.Proofs.YtkoonhiplicbkaaGreat.Cw
open Go Go.RowKit
attribute [local go_sem ↓ high] wn_add wn_sub wn_mul wn_eql wn_neq wn_lss wn_gtr wn_cells wRS wn_guard run_Add64 run_Sub64 lit0 lit1
attribute [local go_sem high] wn_match wRS wn_add wn_sub wn_mul wn_eql wn_neq wn_lss wn_gtr
theorem nat_add (a b:Nat) (w:World) (ha:a<pw 9) (hb:b<pw 9):Calls Tryz.prog 17 #[.agg (nc a),.agg (nc b)] w fun e w'=>e=.returned (.tuple #[.agg (nc (a+b)),.bool (decide (pw 9≤a+b))])∧Below w.heap.size w w':=by
  have HA:=Hd ha
  have HB:=Hd hb
  clear ha hb
  go_enter Tryz.func17,Tryz.ntmps17
  go_wp2
  rw [← nZ]
  obtain ⟨w1,hw1⟩:∃ w1:World,w1=(((w.alloc (Obj.cells (nc a) 27)).alloc (Obj.cells (nc b) 27)).alloc (Obj.cells (nc 0) 27)):=⟨_,rfl⟩
  rw [← hw1]
  have k1:w1.heap[w.heap.size]?=some (.cells (nc a) 27 (0,0)):=by rw [hw1]; exact alloc_far (new2a w _ _) _
  have k2:w1.heap[w.heap.size+1]?=some (.cells (nc b) 27 (0,0)):=by rw [hw1]; exact alloc_far (new2 w _ _) _
  have k3:w1.heap[w.heap.size+1+1]?=some (.cells (nc 0) 27 (0,0)):=by
    have:=new1 ((w.alloc (Obj.cells (nc a) 27)).alloc (Obj.cells (nc b) 27)) (Obj.cells (nc 0) 27)
    rw [hw1]
    simpa using this
  have b1:Below w.heap.size w w1:=by rw [hw1]; exact (((Below.refl _ _).alloc (Nat.le_refl _) _).alloc (by simp) _).alloc (by simp; omega) _
  clear hw1
  obtain ⟨g,hg⟩:∃ g,g=w.heap.size:=⟨_,rfl⟩
  rw [← hg] at k1 k2 k3 b1 ⊢
  have hgs:g≤w.heap.size:=by omega
  have HG:=Hd hg
  clear hg
  go_loopw [8,6] (fun i c wr=>∃ k:Nat,k≤9∧i=.int .i64 k∧c=wn (car a b k)∧wr.heap[g]?=some (.cells (fa wn 9 (mixd (a+b) a k)) 27 (0,0))∧wr.heap[g+1]?=some (.cells (nc b) 27 (0,0))∧wr.heap[g+1+1]?=some (.cells (nc 0) 27 (0,0))∧Below g w wr) (fun i _ _=>9 - (intOf i).toNat)
  case atStart=>exact ⟨0,by omega,rfl,by rw [car_zero]; rfl,by rw [mixd_zero]; exact k1,k2,k3,b1⟩
  case round=>
    obtain ⟨k,hk,rfl,rfl,q1,q2,q3,hbr⟩:=hrel
    have H1:=Hd q1
    have H2:=Hd q2
    have H3:=Hd q3
    by_cases hlt:k<9
    · have c1:wr.cell? ⟨g,k,none⟩=some (wn (dig a k)):=by rw [cO q1,fa_get _ _ _ _ hlt,mixd_at]
      have c2:wr.cell? ⟨g+1,k,none⟩=some (wn (dig b k)):=by rw [cO q2,nc_get _ _ hlt]
      have f1:=frozen_of q1 k
      have hcar:=car_le a b k
      clear q1 q2 q3
      go_wp2
      go_region
      rw [← dig_add,← car_succ]
      have h4:=set_of H1.out k (wn (dig (a+b) k))
      rw [fa_set,mixd_upd] at h4
      have H4:=Hd h4
      have H5:=Hd (set_far H2.out (by omega:g+1≠g) k (wn (dig (a+b) k)))
      have H6:=Hd (set_far H3.out (by omega:g+1+1≠g) k (wn (dig (a+b) k)))
      have HB7:=Hd (show Below g w (wr.setCell ⟨g,k,none⟩ (wn (dig (a+b) k))).drew from (hbr.setCell (Nat.le_refl _) _).drew)
      clear h4
      go_wp2
      go_roundw
      case rel=>exact ⟨k+1,by omega,by go_num,rfl,H4.out,H5.out,H6.out,HB7.out⟩
      case measure=>simp [intOf]; omega
    · obtain rfl:k=9:=by omega
      rw [mixd_all] at q1
      have e1:fa wn 9 (dig (a+b))=nc (a+b):=rfl
      rw [e1] at q1
      have H4:=Hd q1
      have hc:=car_all a b 9 HA.out HB.out
      have hcw:car a b 9=1↔pw 9≤a+b:=by rw [hc]; split <;> omega
      clear q1 q2 q3 e1 hc
      go_wp2_with (first
        | (refine l0N rfl (.tmp 2) rfl g rfl H4.out ?_)
        | (refine wpN_store0 rfl (.tmp 4) (.tmp 28) rfl (g+1+1) rfl H3.out _ rfl (nS _) ?_
           intro w2 hw2 hb2 hs2
           have H5:=Hd hw2
           have hB2:Below g w w2:=But.below hbr hb2 (by omega) (Nat.le_trans hgs hbr.size)
           clear hw2 hb2 hs2))
      refine bodyPost_ret (results_N2 rfl _ _ (g+1+1) _ _ _ _ rfl rfl H5.out) rfl ⟨?_,by rw [← HG.out]; exact hB2⟩
      rfl
theorem nat_sub (a b:Nat) (w:World) (ha:a<pw 9) (hb:b<pw 9):Calls Tryz.prog 18 #[.agg (nc a),.agg (nc b)] w fun e w'=>e=.returned (.tuple #[.agg (nc (dif a b 9)),.bool (decide (a<b))])∧Below w.heap.size w w':=by
  have HA:=Hd ha
  have HB:=Hd hb
  clear ha hb
  go_enter Tryz.func18,Tryz.ntmps18
  go_wp2
  rw [← nZ]
  obtain ⟨w1,hw1⟩:∃ w1:World,w1=(((w.alloc (Obj.cells (nc a) 27)).alloc (Obj.cells (nc b) 27)).alloc (Obj.cells (nc 0) 27)):=⟨_,rfl⟩
  rw [← hw1]
  have k1:w1.heap[w.heap.size]?=some (.cells (nc a) 27 (0,0)):=by rw [hw1]; exact alloc_far (new2a w _ _) _
  have k2:w1.heap[w.heap.size+1]?=some (.cells (nc b) 27 (0,0)):=by rw [hw1]; exact alloc_far (new2 w _ _) _
  have k3:w1.heap[w.heap.size+1+1]?=some (.cells (nc 0) 27 (0,0)):=by
    have:=new1 ((w.alloc (Obj.cells (nc a) 27)).alloc (Obj.cells (nc b) 27)) (Obj.cells (nc 0) 27)
    rw [hw1]
    simpa using this
  have b1:Below w.heap.size w w1:=by rw [hw1]; exact (((Below.refl _ _).alloc (Nat.le_refl _) _).alloc (by simp) _).alloc (by simp; omega) _
  clear hw1
  obtain ⟨g,hg⟩:∃ g,g=w.heap.size:=⟨_,rfl⟩
  rw [← hg] at k1 k2 k3 b1 ⊢
  have hgs:g≤w.heap.size:=by omega
  have HG:=Hd hg
  clear hg
  go_loopw [8,6] (fun i c wr=>∃ k:Nat,k≤9∧i=.int .i64 k∧c=wn (bor a b k)∧wr.heap[g]?=some (.cells (fa wn 9 (mixd (dif a b 9) a k)) 27 (0,0))∧wr.heap[g+1]?=some (.cells (nc b) 27 (0,0))∧wr.heap[g+1+1]?=some (.cells (nc 0) 27 (0,0))∧Below g w wr) (fun i _ _=>9 - (intOf i).toNat)
  case atStart=>exact ⟨0,by omega,rfl,by rw [bor_zero]; rfl,by rw [mixd_zero]; exact k1,k2,k3,b1⟩
  case round=>
    obtain ⟨k,hk,rfl,rfl,q1,q2,q3,hbr⟩:=hrel
    have H1:=Hd q1
    have H2:=Hd q2
    have H3:=Hd q3
    by_cases hlt:k<9
    · have c1:wr.cell? ⟨g,k,none⟩=some (wn (dig a k)):=by rw [cO q1,fa_get _ _ _ _ hlt,mixd_at]
      have c2:wr.cell? ⟨g+1,k,none⟩=some (wn (dig b k)):=by rw [cO q2,nc_get _ _ hlt]
      have f1:=frozen_of q1 k
      have hcar:=bor_le a b k
      clear q1 q2 q3
      go_wp2
      go_region
      rw [← dig_dif a b 9 k HB.out hlt,← bor_succ]
      have h4:=set_of H1.out k (wn (dig (dif a b 9) k))
      rw [fa_set,mixd_upd] at h4
      have H4:=Hd h4
      have H5:=Hd (set_far H2.out (by omega:g+1≠g) k (wn (dig (dif a b 9) k)))
      have H6:=Hd (set_far H3.out (by omega:g+1+1≠g) k (wn (dig (dif a b 9) k)))
      have HB7:=Hd (show Below g w (wr.setCell ⟨g,k,none⟩ (wn (dig (dif a b 9) k))).drew from (hbr.setCell (Nat.le_refl _) _).drew)
      clear h4
      go_wp2
      go_roundw
      case rel=>exact ⟨k+1,by omega,by go_num,rfl,H4.out,H5.out,H6.out,HB7.out⟩
      case measure=>simp [intOf]; omega
    · obtain rfl:k=9:=by omega
      rw [mixd_all] at q1
      have e1:fa wn 9 (dig (dif a b 9))=nc (dif a b 9):=rfl
      rw [e1] at q1
      have H4:=Hd q1
      have hc:=bor_all a b 9 HA.out HB.out
      have hcw:bor a b 9=1↔a<b:=by rw [hc]; split <;> omega
      clear q1 q2 q3 e1 hc
      go_wp2_with (first
        | (refine l0N rfl (.tmp 2) rfl g rfl H4.out ?_)
        | (refine wpN_store0 rfl (.tmp 4) (.tmp 28) rfl (g+1+1) rfl H3.out _ rfl (nS _) ?_
           intro w2 hw2 hb2 hs2
           have H5:=Hd hw2
           have hB2:Below g w w2:=But.below hbr hb2 (by omega) (Nat.le_trans hgs hbr.size)
           clear hw2 hb2 hs2))
      refine bodyPost_ret (results_N2 rfl _ _ (g+1+1) _ _ _ _ rfl rfl H5.out) rfl ⟨?_,by rw [← HG.out]; exact hB2⟩
      rfl
end Go.Proofs.YtkoonhiplicbkaaGreat.Cw
namespace Go.Proofs.YtkoonhiplicbkaaGreat.Cw
open Go Go.RowKit
attribute [local go_sem ↓ high] wn_add wn_sub wn_mul wn_eql wn_neq wn_lss wn_gtr wn_cells wRS wn_guard lit0 lit1
attribute [local go_sem high] wn_match wRS wn_add wn_sub wn_mul wn_eql wn_neq wn_lss wn_gtr
def usedN (a:Nat):Nat→Nat
  | 0=>0
  | k+1=>if dig a k=0 then usedN a k else k+1
theorem usedN_le (a:Nat):∀ k,usedN a k≤k
  | 0=>Nat.le_refl _
  | k+1=>by
    unfold usedN
    split
    · exact Nat.le_succ_of_le (usedN_le a k)
    · exact Nat.le_refl _
theorem usedN_mod (a:Nat):∀ k,a%pw k=a%pw (usedN a k)
  | 0=>rfl
  | k+1=>by
    unfold usedN
    split
    · rename_i h
      rw [mod_pw_succ,h,Nat.mul_zero,Nat.add_zero,usedN_mod a k]
    · rfl
theorem usedN_lt (a k:Nat) (h:a<pw k):a<pw (usedN a k):=by
  have h1:=usedN_mod a k
  rw [Nat.mod_eq_of_lt h] at h1
  have h2:=Nat.mod_lt a (pw_pos (usedN a k))
  omega
theorem usedN_top (a:Nat):∀ k,usedN a k≠0→dig a (usedN a k - 1)≠0
  | 0,h=>absurd rfl h
  | k+1,h=>by
    unfold usedN at h ⊢
    by_cases h2:dig a k=0
    · rw [if_pos h2] at h ⊢; exact usedN_top a k h
    · rw [if_neg h2]; simpa using h2
theorem usedN_zero (a k:Nat) (h:a<pw k):usedN a k=0↔a=0:=by
  constructor
  · intro h0
    have:=usedN_lt a k h
    rw [h0,pw_zero] at this
    omega
  · rintro rfl
    rcases Nat.eq_zero_or_pos (usedN 0 k) with h0 | h0
    · exact h0
    · exact absurd (dig_zero _) (usedN_top 0 k (by omega))
def wds (a:Nat):Nat:=usedN a 9
theorem nat_used (a g:Nat) (w:World) {t:TypeId} {fr:Nat × Nat} (h:w.heap[g]?=some (.cells (nc a) t fr)) :
    Calls Tryz.prog 105 #[.pointer (some ⟨g,0,none⟩)] w fun e w'=>e=.returned (.int .i64 (wds a))∧w=w':=by
  have H:=Hd h
  clear h
  go_enter Tryz.func105,Tryz.ntmps105
  go_wp2
  go_loop [3] (fun i=>∃ k:Nat,k≤9∧i=.int .i64 k∧usedN a 9=usedN a k) (fun i=>(intOf i).toNat)
  case atStart=>exact ⟨9,by omega,rfl,rfl⟩
  case round=>
    obtain ⟨k,hk,rfl,he⟩:=hrel
    rcases Nat.eq_zero_or_pos k with rfl | hpos
    · have HE:=Hd he
      clear he
      go_wp2
      go_ret
      exact ⟨by unfold wds; rw [HE.out]; rfl,rfl⟩
    · obtain ⟨m,rfl⟩:∃ m,k=m+1:=⟨k - 1,by omega⟩
      have c1:w.cell? ⟨g,m,none⟩=some (wn (dig a m)):=by rw [cO H.out,nc_get _ _ (by omega)]
      have HE:=Hd he
      clear he
      by_cases h0:dig a m=0
      · have d1:decide (dig a m=0)=true:=decide_eq_true h0
        have HE2:=Hd (show usedN a 9=usedN a m by rw [HE.out]; exact if_pos h0)
        clear h0
        go_wp2
        go_round
        case rel=>exact ⟨m,by omega,by go_num,HE2.out⟩
        case measure=>simp [intOf]
      · have d1:decide (dig a m=0)=false:=decide_eq_false h0
        have HE2:=Hd (show usedN a 9=m+1 by rw [HE.out]; exact if_neg h0)
        clear h0
        go_wp2
        go_ret
        exact ⟨by unfold wds; rw [HE2.out]; rfl,rfl⟩
theorem len64_calls (x:Nat) (hx:x<18446744073709551616) (w:World):Calls Tryz.prog 106 #[wn x] w fun e w'=>e=.returned (.int .i64 (Lib.bitLen x))∧w=w':=
  (Tryz.bits_Len64 (x:Int) w (by omega) (by omega)).mono fun _ _ ⟨h1,h2⟩=>⟨by rw [h1,Int.toNat_natCast],h2.symm⟩
theorem lz64_calls (x:Nat) (hx:x<18446744073709551616) (w:World):Calls Tryz.prog 112 #[wn x] w fun e w'=>e=.returned (.int .i64 (64 - (Lib.bitLen x:Int)))∧w=w':=
  (Tryz.bits_LeadingZeros64 (x:Int) w (by omega) (by omega)).mono fun _ _ ⟨h1,h2⟩=>⟨by rw [h1,Int.toNat_natCast],h2.symm⟩
theorem mul64_calls (x y:Nat) (hx:x<18446744073709551616) (hy:y<18446744073709551616) (w:World) :
    Calls Tryz.prog 99 #[wn x,wn y] w fun e w'=>e=.returned (.tuple #[wn (x*y / 18446744073709551616),wn (x*y%18446744073709551616)])∧w=w':=
  (Tryz.bits_Mul64 x y hx hy w).mono fun _ _ ⟨h1,h2⟩=>⟨h1,h2.symm⟩
theorem bla0 (f:Nat):Lib.bitLenAux f 0=0:=by cases f <;> simp [Lib.bitLenAux]
theorem bitLenAux_lt:∀ (f x:Nat),x<2 ^ f→x<2 ^ Lib.bitLenAux f x∧(x≠0→2 ^ (Lib.bitLenAux f x - 1)≤x)
  | 0,x,h=>by
    have:x=0:=by simpa using h
    subst this
    exact ⟨by simp [Lib.bitLenAux],fun h=>absurd rfl h⟩
  | f+1,x,h=>by
    unfold Lib.bitLenAux
    by_cases h0:x=0
    · rw [if_pos h0]; exact ⟨by simp [h0],fun h=>absurd h0 h⟩
    · rw [if_neg h0]
      obtain ⟨h1,h2⟩:=bitLenAux_lt f (x / 2) (by rw [Nat.pow_succ] at h; omega)
      refine ⟨by rw [Nat.add_comm,Nat.pow_succ]; omega,fun _=>?_⟩
      rw [Nat.add_sub_cancel_left]
      by_cases h3:x / 2=0
      · rw [h3,bla0]; simp; omega
      · have h4:=h2 h3
        have h5:Lib.bitLenAux f (x / 2)≠0:=by
          intro h6
          rw [h6] at h1
          simp at h1
          omega
        obtain ⟨m,hm⟩:∃ m,Lib.bitLenAux f (x / 2)=m+1:=⟨_ - 1,(Nat.succ_pred_eq_of_pos (by omega)).symm⟩
        rw [hm] at h4 ⊢
        rw [Nat.add_sub_cancel] at h4
        rw [Nat.pow_succ]
        omega
def bl (n:Nat):Nat:=if n=0 then 0 else Nat.log2 n+1
theorem bl_lt (n:Nat):n<2 ^ bl n:=by
  unfold bl
  split
  · subst_vars; simp
  · exact Nat.lt_log2_self
theorem bl_ge (n:Nat) (h:n≠0):2 ^ (bl n - 1)≤n:=by
  unfold bl
  rw [if_neg h,Nat.add_sub_cancel]
  exact Nat.log2_self_le h
theorem bl_uniq (n k:Nat) (h1:n<2 ^ k) (h2:n≠0→2 ^ (k - 1)≤n) (h3:n=0→k=0):bl n=k:=by
  by_cases h0:n=0
  · rw [h3 h0]; unfold bl; rw [if_pos h0]
  · have a1:=bl_lt n
    have a2:=bl_ge n h0
    have a3:=h2 h0
    have b1:2 ^ (bl n - 1)<2 ^ k:=Nat.lt_of_le_of_lt a2 h1
    have b2:2 ^ (k - 1)<2 ^ bl n:=Nat.lt_of_le_of_lt a3 a1
    have c1:=(Nat.pow_lt_pow_iff_right (by decide:1<2)).1 b1
    have c2:=(Nat.pow_lt_pow_iff_right (by decide:1<2)).1 b2
    omega
theorem bitLen_bl (x:Nat) (h:x<18446744073709551616):Lib.bitLen x=bl x:=by
  obtain ⟨h1,h2⟩:=bitLenAux_lt 64 x (by simpa using h)
  exact (bl_uniq x _ h1 h2 (fun h0=>by rw [h0,bla0])).symm
theorem pw_two (i:Nat):pw i=2 ^ (64*i):=by
  unfold pw
  rw [show (18446744073709551616:Nat)=2 ^ 64 from rfl,← Nat.pow_mul]
theorem bl_top (a k:Nat) (h1:a<pw (k+1)) (h2:dig a k≠0):bl a=64*k+bl (dig a k):=by
  have e:a=a%pw k+pw k*dig a k:=by
    rw [← mod_pw_succ,Nat.mod_eq_of_lt h1]
  have hm:=Nat.mod_lt a (pw_pos k)
  have hl:=bl_lt (dig a k)
  have hg:=bl_ge (dig a k) h2
  have hp:=pw_two k
  generalize dig a k=d at *
  generalize a%pw k=r at *
  refine bl_uniq a _ ?_ (fun _=>?_) (fun h0=>?_)
  · rw [Nat.pow_add,← hp]
    have:pw k*(d+1)≤pw k*2 ^ bl d:=Nat.mul_le_mul_left _ hl
    rw [Nat.mul_add] at this
    omega
  · have hb:bl d≠0:=by
      intro h
      rw [h] at hl
      simp at hl
      exact h2 hl
    rw [show 64*k+bl d - 1=64*k+(bl d - 1) by omega,Nat.pow_add,← hp]
    have:pw k*2 ^ (bl d - 1)≤pw k*d:=Nat.mul_le_mul_left _ hg
    omega
  · exfalso
    have:pw k*1≤pw k*d:=Nat.mul_le_mul_left _ (by omega)
    have:=pw_pos k
    omega
theorem nat_bits (a:Nat) (w:World) (ha:a<pw 9):Calls Tryz.prog 72 #[.agg (nc a)] w fun e w'=>e=.returned (.int .i64 (bl a))∧Below w.heap.size w w':=by
  have HA:=Hd ha
  clear ha
  go_enter Tryz.func72,Tryz.ntmps72
  go_wp2_with (fail)
  with_reducible refine (nat_used a w.heap.size _ (new1 w _)).mono ?_
  rintro e w1 ⟨rfl,rfl⟩
  have hb:Below w.heap.size w (w.alloc (Obj.cells (nc a) 27)):=(Below.refl _ _).alloc (Nat.le_refl _) _
  have hz:=usedN_zero a 9 HA.out
  have htop:=usedN_top a 9
  have hlt:=usedN_lt a 9 HA.out
  have hle:=usedN_le a 9
  have hw:wds a=usedN a 9:=rfl
  rw [← hw] at hz htop hlt hle
  clear hw
  obtain ⟨k,hk⟩:∃ k,k=wds a:=⟨_,rfl⟩
  rw [← hk] at hz htop hlt hle
  rw [← hk]
  clear hk
  rcases Nat.eq_zero_or_pos k with rfl | hpos
  · have h0:=hz.1 rfl
    have HZ:=Hd (show bl a=0 by rw [h0]; rfl)
    clear hz htop hlt h0
    go_wp2
    go_ret
    exact ⟨by rw [HZ.out]; rfl,hb⟩
  · obtain ⟨m,rfl⟩:∃ m,k=m+1:=⟨k - 1,by omega⟩
    have hd:=htop (by omega)
    rw [Nat.add_sub_cancel] at hd
    have HT:=Hd (bl_top a m hlt hd)
    have c1:(w.alloc (Obj.cells (nc a) 27)).cell? ⟨w.heap.size,m,none⟩=some (wn (dig a m)):=by rw [cO (new1 w _),nc_get _ _ (by omega)]
    have hdl:=dig_lt a m
    have hbl:=bitLen_bl _ hdl
    have hbb:=Lib.bitLen_le (dig a m) 64 (Nat.le_refl _) (by simpa using hdl)
    have hm9:m<9:=by omega
    clear hz htop hlt hd
    go_wp2_with (fail)
    with_reducible refine (len64_calls (dig a m) hdl _).mono ?_
    rintro e w1 ⟨rfl,rfl⟩
    go_wp2
    go_ret
    refine ⟨?_,hb⟩
    show Ending.returned (Value.int .i64 _)=_
    rw [HT.out,← hbl]
    congr 2
    simp
    omega
end Go.Proofs.YtkoonhiplicbkaaGreat.Cw
namespace Go.Proofs.YtkoonhiplicbkaaGreat.Cw
open Go Go.RowKit
attribute [local go_sem ↓ high] wn_add wn_sub wn_mul wn_eql wn_neq wn_lss wn_gtr wn_cells wRS wn_guard lit0 lit1
attribute [local go_sem high] wn_match wRS wn_add wn_sub wn_mul wn_eql wn_neq wn_lss wn_gtr
theorem div_pw (a k:Nat):a / pw k=18446744073709551616*(a / pw (k+1))+dig a k:=by
  unfold dig
  rw [pw_succ,← Nat.div_div_eq_div_mul]
  exact (Nat.div_add_mod _ _).symm
def cmpN (a b:Nat):Int:=if a<b then -1 else if b<a then 1 else 0
theorem lt_of_top {a b k:Nat} (h:a / pw (k+1)=b / pw (k+1)) (hd:dig a k<dig b k):a<b:=by
  have h1:=div_pw a k
  have h2:=div_pw b k
  rw [h] at h1
  have h3:a / pw k<b / pw k:=by omega
  rcases Nat.lt_or_ge a b with h4 | h4
  · exact h4
  · have:=Nat.div_le_div_right (c:=pw k) h4
    omega
theorem nat_cmp (a b:Nat) (w:World) (ha:a<pw 9) (hb:b<pw 9):Calls Tryz.prog 60 #[.agg (nc a),.agg (nc b)] w fun e w'=>e=.returned (.int .i64 (cmpN a b))∧Below w.heap.size w w':=by
  have HA:=Hd ha
  have HB:=Hd hb
  clear ha hb
  go_enter Tryz.func60,Tryz.ntmps60
  go_wp2
  obtain ⟨w1,hw1⟩:∃ w1:World,w1=((w.alloc (Obj.cells (nc a) 27)).alloc (Obj.cells (nc b) 27)):=⟨_,rfl⟩
  rw [← hw1]
  have k1:w1.heap[w.heap.size]?=some (.cells (nc a) 27 (0,0)):=by rw [hw1]; exact new2a w _ _
  have k2:w1.heap[w.heap.size+1]?=some (.cells (nc b) 27 (0,0)):=by rw [hw1]; exact new2 w _ _
  have b1:Below w.heap.size w w1:=by rw [hw1]; exact ((Below.refl _ _).alloc (Nat.le_refl _) _).alloc (by simp) _
  clear hw1
  obtain ⟨g,hg⟩:∃ g,g=w.heap.size:=⟨_,rfl⟩
  rw [← hg] at k1 k2 b1 ⊢
  have HG:=Hd hg
  have HK1:=Hd k1
  have HK2:=Hd k2
  clear hg k1 k2
  go_loopw [5] (fun i wr=>∃ k m:Nat,k≤9∧i=.int .i64 ((k:Int) - 1)∧Hid (a / pw k=b / pw k)∧wr=w1.drewN m) (fun i _=>(intOf i+1).toNat)
  case atStart=>exact ⟨9,0,by omega,rfl,Hd (by rw [Nat.div_eq_of_lt HA.out,Nat.div_eq_of_lt HB.out]),rfl⟩
  case round=>
    obtain ⟨k,m0,hk,rfl,he,rfl⟩:=hrel
    rcases Nat.eq_zero_or_pos k with rfl | hpos
    · have e2:cmpN a b=0:=by
        have:=he.out
        rw [pw_zero,Nat.div_one,Nat.div_one] at this
        subst this
        simp [cmpN]
      go_wp2
      go_ret
      exact ⟨by rw [e2]; rfl,by rw [← HG.out]; exact Below.drewN b1 _⟩
    · obtain ⟨m,rfl⟩:∃ m,k=m+1:=⟨k - 1,by omega⟩
      have em:((m+1:Nat):Int) - 1=(m:Int):=by omega
      rw [em]
      have c1:w1.cell? ⟨g,m,none⟩=some (wn (dig a m)):=by rw [cO HK1.out,nc_get _ _ (by omega)]
      have c2:w1.cell? ⟨g+1,m,none⟩=some (wn (dig b m)):=by rw [cO HK2.out,nc_get _ _ (by omega)]
      have hm9:m<9:=by omega
      rcases Nat.lt_trichotomy (dig a m) (dig b m) with h | h | h
      · have d1:decide (dig a m<dig b m)=true:=decide_eq_true h
        have hlt:=lt_of_top he.out h
        have e2:cmpN a b = -1:=by simp [cmpN,hlt]
        clear h hlt
        go_wp2
        go_quiet (fail)
        go_wp2
        go_ret
        exact ⟨by rw [e2]; rfl,by rw [← HG.out]; exact Below.drewN (Below.drewN b1 _) _⟩
      · have d1:decide (dig a m<dig b m)=false:=decide_eq_false (by omega)
        have d2:decide (dig b m<dig a m)=false:=decide_eq_false (by omega)
        have HE2:=Hd (show a / pw m=b / pw m by rw [div_pw a m,div_pw b m,he.out,h])
        clear h
        go_wp2
        go_quiet (fail)
        go_wp2
        go_quiet (fail)
        go_wp2
        go_roundw
        case rel=>exact ⟨m,_,by omega,by go_num,HE2,by first | rfl | (simp only [World.drewN_drewN]; rfl)⟩
        case measure=>simp [intOf]
      · have d1:decide (dig a m<dig b m)=false:=decide_eq_false (by omega)
        have d2:decide (dig b m<dig a m)=true:=decide_eq_true (by omega)
        have hlt:=lt_of_top he.out.symm h
        have e2:cmpN a b=1:=by simp [cmpN,hlt]; omega
        clear h hlt
        go_wp2
        go_quiet (fail)
        go_wp2
        go_quiet (fail)
        go_wp2
        go_ret
        exact ⟨by rw [e2]; rfl,by rw [← HG.out]; exact Below.drewN (Below.drewN (Below.drewN b1 _) _) _⟩
theorem dig_small (x i:Nat) (hx:x<18446744073709551616):dig x i=if i=0 then x else 0:=by
  unfold dig
  split
  · subst_vars; rw [pw_zero,Nat.div_one,Nat.mod_eq_of_lt hx]
  · obtain ⟨j,rfl⟩:∃ j,i=j+1:=⟨i - 1,by omega⟩
    have:18446744073709551616≤pw (j+1):=by rw [pw_succ]; exact Nat.le_mul_of_pos_left _ (pw_pos j)
    rw [Nat.div_eq_of_lt (by omega)]
theorem nc_small (x:Nat) (hx:x<18446744073709551616):nc x=#[wn x,wn 0,wn 0,wn 0,wn 0,wn 0,wn 0,wn 0,wn 0]:=by
  have h:dig x=fun i=>if i=0 then x else 0:=funext fun i=>dig_small x i hx
  unfold nc
  rw [h]
  rfl
theorem nat_small (x:Nat) (w:World) (hx:x≤1000):Calls Tryz.prog 47 #[.int .i64 x] w fun e w'=>e=.returned (.agg (nc x))∧Below w.heap.size w w':=by
  have e0:IntKind.u64.wrap (x:Int)=(x:Int):=by rw [wrapN,Nat.mod_eq_of_lt (by omega)]
  have em:max (x:Int) 0=x:=by omega
  go_enter Tryz.func47,Tryz.ntmps47
  go_wp2
  have hg:(w.alloc (Obj.cells #[.int .u64 (x:Int),wn 0,wn 0,wn 0,wn 0,wn 0,wn 0,wn 0,wn 0] 27)).heap[w.heap.size]?=some (.cells (nc x) 27 (0,0)):=by rw [nc_small x (by omega)]; exact new1 w _
  exact bodyPost_ret (results_N rfl _ _ w.heap.size _ _ _ rfl hg) rfl ⟨rfl,(Below.refl _ _).alloc (Nat.le_refl _) _⟩
theorem cvt_int (n:Nat) (w:World) (h:n<9223372036854775808):(convert 24 3 (wn n)).run Tryz.prog w=.ok (.int .i64 (n:Int)) w:=by
  have e:IntKind.i64.wrap (n:Int)=(n:Int):=IntWalk.i64_in _ (by omega)
  unfold wn
  go_simp
  try rw [e]
def bitN (a i:Nat):Nat:=a / 2 ^ i%2
theorem bitN_dig (a q r:Nat) (hr:r<64):dig a q / 2 ^ r &&& 1=bitN a (64*q+r):=by
  unfold bitN dig
  rw [Nat.and_one_is_mod,Nat.pow_add,← pw_two,← Nat.div_div_eq_div_mul]
  obtain ⟨s,hs⟩:∃ s,18446744073709551616=2 ^ r*(2*s):=⟨2 ^ (63 - r),by rw [← Nat.pow_succ',← Nat.pow_add,show r+(63 - r+1)=64 by omega]⟩
  rw [hs,Nat.mod_mul_right_div_self,Nat.mod_mul_right_mod]
theorem nat_bit (a i:Nat) (w:World) (hi:i<576):Calls Tryz.prog 51 #[.agg (nc a),.int .i64 i] w fun e w'=>e=.returned (.int .i64 (bitN a i))∧Below w.heap.size w w':=by
  obtain ⟨q,r,hr,rfl⟩:∃ q r,r<64∧i=64*q+r:=⟨i / 64,i%64,Nat.mod_lt _ (by decide),(Nat.div_add_mod i 64).symm⟩
  have e1:((64*q+r:Nat):Int) / 64=(q:Int):=by omega
  have e2:((64*q+r:Nat):Int)%64=(r:Int):=by omega
  have hb:=bitN_dig a q r hr
  obtain ⟨i,hie⟩:∃ i,i=64*q+r:=⟨_,rfl⟩
  rw [← hie] at e1 e2 hb hi ⊢
  have hq:q<9:=by omega
  have c1:(w.alloc (Obj.cells (nc a) 27)).cell? ⟨w.heap.size,q,none⟩=some (wn (dig a q)):=by rw [cO (new1 w _),nc_get _ _ hq]
  have hd:=dig_lt a q
  have hsh:=wn_shr 24 (dig a q) hd .i64 r
  have hlt:dig a q / 2 ^ r<18446744073709551616:=Nat.lt_of_le_of_lt (Nat.div_le_self _ _) hd
  have hand:=wn_and 24 (dig a q / 2 ^ r) 1 hlt (by decide)
  rw [hb] at hand
  have hb1:bitN a i<2:=Nat.mod_lt _ (by decide)
  have hcv:=fun w=>cvt_int (bitN a i) w (by omega)
  clear hb hie
  go_enter Tryz.func51,Tryz.ntmps51
  go_wp2
  go_ret
  exact ⟨rfl,(Below.refl _ _).alloc (Nat.le_refl _) _⟩
end Go.Proofs.YtkoonhiplicbkaaGreat.Cw
namespace Go.Proofs.YtkoonhiplicbkaaGreat.Cw
open Go Go.RowKit
attribute [local go_sem ↓ high] wn_add wn_sub wn_mul wn_eql wn_neq wn_lss wn_gtr wn_cells wRS wn_guard lit0 lit1
attribute [local go_sem high] wn_match wRS wn_add wn_sub wn_mul wn_eql wn_neq wn_lss wn_gtr
theorem pow64 (r:Nat) (h:r≤64):18446744073709551616=2 ^ r*2 ^ (64 - r):=by
  rw [← Nat.pow_add,show r+(64 - r)=64 by omega]
theorem dig_shr (a q r i:Nat) (hr:r≤64):dig (a / 2 ^ (64*q+r)) i=(dig a (i+q) / 2 ^ r) ||| (dig a (i+q+1)*2 ^ (64 - r)%18446744073709551616):=by
  have e:a / 2 ^ (64*q+r) / pw i=a / pw (i+q) / 2 ^ r:=by
    rw [Nat.pow_add,← pw_two,Nat.div_div_eq_div_mul,Nat.mul_right_comm,← Nat.div_div_eq_div_mul,← pw_add,Nat.add_comm q i]
  have h1:=div_pw a (i+q)
  have hd:=dig_lt a (i+q)
  unfold dig at h1 hd ⊢
  rw [e]
  generalize a / pw (i+q)=A at *
  generalize a / pw (i+q+1)=A' at *
  generalize A%18446744073709551616=d at *
  have hp:=pow64 r hr
  have hpos:0<2 ^ r:=Nat.pow_pos (by decide)
  have hpos2:0<2 ^ (64 - r):=Nat.pow_pos (by decide)
  have h3:A / 2 ^ r=d / 2 ^ r+2 ^ (64 - r)*A':=by
    rw [h1]
    have:18446744073709551616*A' + d=d+2 ^ r*(2 ^ (64 - r)*A'):=by rw [← Nat.mul_assoc,← hp]; omega
    rw [this,Nat.add_mul_div_left _ _ hpos]
  have h4:d / 2 ^ r<2 ^ (64 - r):=Nat.div_lt_of_lt_mul (by rw [← hp]; exact hd)
  have h5:A'%18446744073709551616*2 ^ (64 - r)%18446744073709551616=2 ^ (64 - r)*(A'%2 ^ r):=by
    have:A'%18446744073709551616*2 ^ (64 - r)%18446744073709551616=2 ^ (64 - r)*A'%18446744073709551616:=by
      rw [Nat.mul_comm (2 ^ (64 - r)) A',Nat.mul_mod,Nat.mod_mod,← Nat.mul_mod]
    rw [this]
    have hp2:18446744073709551616=2 ^ (64 - r)*2 ^ r:=by rw [Nat.mul_comm]; exact hp
    rw [hp2,Nat.mul_mod_mul_left]
  have h6:A / 2 ^ r%18446744073709551616=d / 2 ^ r+2 ^ (64 - r)*(A'%2 ^ r):=by
    rw [h3]
    have h7:2 ^ (64 - r)*A'=2 ^ (64 - r)*(A'%2 ^ r)+18446744073709551616*(A' / 2 ^ r):=by
      have:=Nat.div_add_mod A' (2 ^ r)
      calc 2 ^ (64 - r)*A'=2 ^ (64 - r)*(2 ^ r*(A' / 2 ^ r)+A'%2 ^ r):=by rw [this]
        _=_:=by rw [Nat.mul_add,← Nat.mul_assoc,Nat.mul_comm (2 ^ (64 - r)) (2 ^ r),← hp]; omega
    have h8:d / 2 ^ r+2 ^ (64 - r)*(A'%2 ^ r)<18446744073709551616:=by
      have h9:A'%2 ^ r+1≤2 ^ r:=Nat.mod_lt _ hpos
      have h10:2 ^ (64 - r)*(A'%2 ^ r+1)≤2 ^ (64 - r)*2 ^ r:=Nat.mul_le_mul_left _ h9
      rw [Nat.mul_comm (2 ^ (64 - r)) (2 ^ r),← hp,Nat.mul_add] at h10
      omega
    rw [h7,← Nat.add_assoc,Nat.add_mul_mod_self_left,Nat.mod_eq_of_lt h8]
  rw [h6,h5,Nat.or_comm,← Nat.two_pow_add_eq_or_of_lt h4,Nat.add_comm]
theorem dig_high (a k:Nat) (h:a<pw k) (i:Nat) (hi:k≤i):dig a i=0:=by
  unfold dig
  have:pw k≤pw i:=Nat.pow_le_pow_right (by decide) hi
  rw [Nat.div_eq_of_lt (by omega)]
theorem nat_shr (a k:Nat) (w:World) (ha:a<pw 9) (hk:k≤576):Calls Tryz.prog 76 #[.agg (nc a),.int .i64 k] w fun e w'=>e=.returned (.tuple #[.agg (nc (a / 2 ^ k)),.int .i64 0])∧Below w.heap.size w w':=by
  obtain ⟨q,r,hr,rfl⟩:∃ q r,r<64∧k=64*q+r:=⟨k / 64,k%64,Nat.mod_lt _ (by decide),(Nat.div_add_mod k 64).symm⟩
  have e1:((64*q+r:Nat):Int) / 64=(q:Int):=by omega
  have e2:((64*q+r:Nat):Int)%64=(r:Int):=by omega
  obtain ⟨k,hke⟩:∃ k,k=64*q+r:=⟨_,rfl⟩
  obtain ⟨R,hR⟩:∃ R,R=a / 2 ^ (64*q+r):=⟨_,rfl⟩
  rw [← hR]
  rw [← hke] at e1 e2 hk ⊢
  have hq:q≤9:=by omega
  have HR:=Hd hR
  have HA:=Hd ha
  clear hke hR ha
  go_enter Tryz.func76,Tryz.ntmps76
  go_wp2
  rw [← nZ,e2]
  obtain ⟨w1,hw1⟩:∃ w1:World,w1=(((w.alloc (Obj.cells (nc a) 27)).alloc (Obj.cells (nc 0) 27)).alloc (Obj.cells (nc 0) 27)):=⟨_,rfl⟩
  rw [← hw1]
  have k1:w1.heap[w.heap.size]?=some (.cells (nc a) 27 (0,0)):=by rw [hw1]; exact alloc_far (new2a w _ _) _
  have k2:w1.heap[w.heap.size+1]?=some (.cells (nc 0) 27 (0,0)):=by rw [hw1]; exact alloc_far (new2 w _ _) _
  have k3:w1.heap[w.heap.size+1+1]?=some (.cells (nc 0) 27 (0,0)):=by
    have:=new1 ((w.alloc (Obj.cells (nc a) 27)).alloc (Obj.cells (nc 0) 27)) (Obj.cells (nc 0) 27)
    rw [hw1]
    simpa using this
  have b1:Below w.heap.size w w1:=by rw [hw1]; exact (((Below.refl _ _).alloc (Nat.le_refl _) _).alloc (by simp) _).alloc (by simp; omega) _
  clear hw1
  obtain ⟨g,hg⟩:∃ g,g=w.heap.size:=⟨_,rfl⟩
  rw [← hg] at k1 k2 k3 b1 ⊢
  have hgs:g≤w.heap.size:=by omega
  have HG:=Hd hg
  have HE2:=Hd e2
  clear hg e1 e2
  go_loopw [23] (fun i wr=>∃ n:Nat,n≤9 - q∧i=.int .i64 n∧wr.heap[g]?=some (.cells (nc a) 27 (0,0))∧wr.heap[g+1]?=some (.cells (nc 0) 27 (0,0))∧wr.heap[g+1+1]?=some (.cells (fa wn 9 (mixd R 0 n)) 27 (0,0))∧Below g w wr) (fun i _=>9 - (intOf i).toNat)
  case atStart=>exact ⟨0,by omega,rfl,k1,k2,by rw [mixd_zero]; exact k3,b1⟩
  case round=>
    obtain ⟨n,hn,rfl,q1,q2,q3,hbr⟩:=hrel
    have H1:=Hd q1
    have H2:=Hd q2
    have H3:=Hd q3
    by_cases hlt:n<9 - q
    · have c1:wr.cell? ⟨g,n+q,none⟩=some (wn (dig a (n+q))):=by rw [cO q1,nc_get _ _ (by omega)]
      have c3:wr.cell? ⟨g+1+1,n,none⟩=some (wn (dig 0 n)):=by rw [cO q3,fa_get _ _ _ _ (by omega),mixd_at]
      have f3:=frozen_of q3 n
      have hd:=dig_lt a (n+q)
      have hsh:=wn_shr 24 (dig a (n+q)) hd .i64 r
      obtain ⟨x,hx⟩:∃ x,x=dig a (n+q) / 2 ^ r:=⟨_,rfl⟩
      have hxl:x<18446744073709551616:=by rw [hx]; exact Nat.lt_of_le_of_lt (Nat.div_le_self _ _) hd
      rw [← hx] at hsh
      have hlt':(n:Int)<9 - (q:Int):=by omega
      have HX:=Hd hx
      obtain ⟨w2,hw2⟩:∃ w2,w2=wr.setCell ⟨g+1+1,n,none⟩ (wn x):=⟨_,rfl⟩
      have h1':=set_far H1.out (by omega:g≠g+1+1) n (wn x)
      have h2':=set_far H2.out (by omega:g+1≠g+1+1) n (wn x)
      have h3':=set_of H3.out n (wn x)
      have hb':Below g w (wr.setCell ⟨g+1+1,n,none⟩ (wn x)):=hbr.setCell (show g≤g+1+1 by omega) _
      rw [fa_set] at h3'
      rw [← hw2] at h1' h2' h3' hb'
      have HW2:=Hd hw2
      have I1:=Hd h1'
      have I2:=Hd h2'
      have I3:=Hd h3'
      have IB:=Hd hb'
      have hds:=dig_shr a q r n (by omega)
      rw [← HR.out,← hx] at hds
      have HDS:=Hd hds
      clear q1 q2 q3 hx hw2 h1' h2' h3' hb' hds
      by_cases hl2:n+q+1<9
      · have hl2':(n:Int)+q+1<9:=by omega
        have d1:w2.cell? ⟨g,n+q+1,none⟩=some (wn (dig a (n+q+1))):=by rw [cO I1.out,nc_get _ _ hl2]
        have d3:w2.cell? ⟨g+1+1,n,none⟩=some (wn x):=by rw [cO I3.out,fa_get _ _ _ _ (by omega),upd_at]
        have df:=frozen_of I3.out n
        have hsl:=wn_shl 24 (dig a (n+q+1)) .i64 (64 - r)
        have e64:(64:Int) - (r:Int)=((64 - r:Nat):Int):=by omega
        have hyl:dig a (n+q+1)*2 ^ (64 - r)%18446744073709551616<18446744073709551616:=Nat.mod_lt _ (by decide)
        have hor:=wn_or 24 x (dig a (n+q+1)*2 ^ (64 - r)%18446744073709551616) hxl hyl
        rw [← HDS.out] at hor
        go_wp2
        rw [← HW2.out]
        go_wp2
        go_region
        have j3:=set_of I3.out n (wn (dig R n))
        rw [fa_set,upd_upd,mixd_upd] at j3
        have J3:=Hd j3
        have J1:=Hd (set_far I1.out (by omega:g≠g+1+1) n (wn (dig R n)))
        have J2:=Hd (set_far I2.out (by omega:g+1≠g+1+1) n (wn (dig R n)))
        have JB:=Hd (show Below g w (w2.setCell ⟨g+1+1,n,none⟩ (wn (dig R n))).drew from (IB.out.setCell (show g≤g+1+1 by omega) _).drew)
        clear j3
        go_wp2
        go_roundw
        case rel=>exact ⟨n+1,by omega,by go_num,J1.out,J2.out,J3.out,JB.out⟩
        case measure=>simp [intOf]; omega
      · have hl2':9≤(n:Int)+q+1:=by omega
        have hz:dig R n=x:=by
          rw [HDS.out,dig_high a 9 HA.out (n+q+1) (by omega)]
          simp
        have j3:=I3.out
        rw [← hz,mixd_upd] at j3
        have J3:=Hd j3
        clear j3 hz
        go_wp2
        rw [← HW2.out]
        go_wp2
        go_roundw
        case rel=>exact ⟨n+1,by omega,by go_num,I1.out,I2.out,J3.out,IB.out⟩
        case measure=>simp [intOf]; omega
    · have hz:∀ j,j<9→mixd R 0 n j=dig R j:=by
        intro j hj
        unfold mixd
        split
        · rfl
        · rw [dig_zero,HR.out,dig_shr a q r j (by omega),dig_high a 9 HA.out (j+q) (by omega),dig_high a 9 HA.out (j+q+1) (by omega)]
          simp
      have q4:=q3
      rw [fa_ext wn 9 _ _ hz] at q4
      have e9:fa wn 9 (dig R)=nc R:=rfl
      rw [e9] at q4
      have H4:=Hd q4
      have hlt':9 - (q:Int)≤(n:Int):=by omega
      clear q1 q2 q3 q4 hz e9
      go_wp2_with (first
        | (refine l0N rfl (.tmp 6) rfl (g+1+1) rfl H4.out ?_)
        | (refine wpN_store0 rfl (.tmp 4) (.tmp 60) rfl (g+1) rfl H2.out _ rfl (nS _) ?_
           intro w2 hw2 hb2 hs2
           have H5:=Hd hw2
           have hB2:Below g w w2:=But.below hbr hb2 (by omega) (Nat.le_trans hgs hbr.size)
           clear hw2 hb2 hs2))
      refine bodyPost_ret (results_N2 rfl _ _ (g+1) _ _ _ _ rfl rfl H5.out) rfl ⟨rfl,by rw [← HG.out]; exact hB2⟩
end Go.Proofs.YtkoonhiplicbkaaGreat.Cw
namespace Go.Proofs.YtkoonhiplicbkaaGreat.Cw
open Go Go.RowKit
attribute [local go_sem ↓ high] wn_add wn_sub wn_mul wn_eql wn_neq wn_lss wn_gtr wn_cells wRS wn_guard lit0 lit1 run_Add64
attribute [local go_sem high] wn_match wRS wn_add wn_sub wn_mul wn_eql wn_neq wn_lss wn_gtr
def wc (n:Nat):Array Value:=fa wn 18 (dig n)
theorem wc_zero:wc 0=#[wn 0,wn 0,wn 0,wn 0,wn 0,wn 0,wn 0,wn 0,wn 0,wn 0,wn 0,wn 0,wn 0,wn 0,wn 0,wn 0,wn 0,wn 0]:=by
  have h:dig 0=fun _=>0:=funext dig_zero
  unfold wc
  rw [h]
  rfl
theorem wc_size (n:Nat):(wc n).size=18:=fS _ _ _
theorem wc_get (n i:Nat) (h:i<18):(wc n)[i]?=some (wn (dig n i)):=fa_get _ _ _ _ h
theorem wc_one (n:Nat):∀ u ∈ (wc n).toList,u.oneCell'=true:=one_fa _ _ _ wn_one
def cc (T X s:Nat):Nat:=(T%pw s+X) / pw s
theorem cc_dig (T X s p:Nat):dig (T+X+pw s*p) s=(dig T s+p+cc T X s)%18446744073709551616:=by
  unfold dig cc
  have h1:=split_pw T s
  have e:T+X+pw s*p=(T%pw s+X)+pw s*(T / pw s+p):=by rw [Nat.mul_add]; omega
  rw [e,Nat.add_mul_div_left _ _ (pw_pos s)]
  omega
theorem cc_succ (T X s p:Nat):cc T (X+pw s*p) (s+1)=(dig T s+p+cc T X s) / 18446744073709551616:=by
  unfold cc
  rw [mod_pw_succ,pw_succ,← Nat.div_div_eq_div_mul]
  congr 1
  have e:T%pw s+pw s*dig T s+(X+pw s*p)=(T%pw s+X)+pw s*(dig T s+p):=by rw [Nat.mul_add]; omega
  rw [e,Nat.add_mul_div_left _ _ (pw_pos s)]
  omega
theorem cc_low (V s p j:Nat) (h:j<s):dig (V+pw s*p) j=dig V j:=by
  have h1:=dig_mod (V+pw s*p) s j h
  have h2:=dig_mod V s j h
  rw [Nat.add_mul_mod_self_left] at h1
  rw [← h1,h2]
theorem cc_zero (T s:Nat):cc T 0 s=0:=by
  unfold cc
  rw [Nat.add_zero,Nat.div_eq_of_lt (Nat.mod_lt _ (pw_pos s))]
theorem mixd_step (V T s p:Nat):upd (mixd V T s) s (dig (V+pw s*p) s)=mixd (V+pw s*p) T (s+1):=by
  funext j
  simp only [upd,mixd]
  by_cases h:j=s
  · subst h; simp
  · by_cases h2:j<s
    · have:j<s+1:=by omega
      simp [h,h2,this,cc_low]
    · have:¬ j<s+1:=by omega
      simp [h,h2,this]
theorem word_mul (x y:Nat) (hx:x<18446744073709551616) (hy:y<18446744073709551616):x*y≤18446744073709551615*18446744073709551615:=Nat.mul_le_mul (by omega) (by omega)
theorem mul64_quiet (x y:Nat) (hx:x<18446744073709551616) (hy:y<18446744073709551616) (w:World) (m:Nat) :
    Calls Tryz.prog 99 #[wn x,wn y] (w.drewN m) fun e w'=>e=.returned (.tuple #[wn (x*y / 18446744073709551616),wn (x*y%18446744073709551616)])∧∃ m,w'=w.drewN m:=
  Calls.quiet_of_same ((mul64_calls x y hx hy (w.drewN m)).mono fun _ _ h=>⟨h.1,h.2.symm⟩)
def rowX (a b i k:Nat):Nat:=pw i*(dig a i*(b%pw k))
theorem rowX_zero (a b i:Nat):rowX a b i 0=0:=by unfold rowX; rw [mod_pw_zero]; simp
theorem rowX_succ (a b i k:Nat):rowX a b i (k+1)=rowX a b i k+pw (i+k)*(dig a i*dig b k):=by
  unfold rowX
  rw [mod_pw_succ,pw_add,Nat.mul_add,Nat.mul_add]
  congr 1
  simp only [Nat.mul_assoc,Nat.mul_left_comm]
theorem rowX_cc (T a b i k:Nat):cc T (rowX a b i k) (i+k)<18446744073709551616:=by
  unfold cc rowX
  apply Nat.div_lt_of_lt_mul
  have h1:=Nat.mod_lt T (pw_pos (i+k))
  have h2:dig a i*(b%pw k)≤18446744073709551615*pw k:=Nat.mul_le_mul (by have:=dig_lt a i; omega) (Nat.le_of_lt (Nat.mod_lt _ (pw_pos k)))
  have h3:pw i*(dig a i*(b%pw k))≤pw i*(18446744073709551615*pw k):=Nat.mul_le_mul_left _ h2
  have h4:pw i*(18446744073709551615*pw k)=18446744073709551615*pw (i+k):=by rw [pw_add,Nat.mul_left_comm]
  omega
theorem rowX_full (a b i n:Nat) (h:b<pw n):a%pw i*b+rowX a b i n=a%pw (i+1)*b:=by
  unfold rowX
  rw [Nat.mod_eq_of_lt h,mod_pw_succ,Nat.add_mul,Nat.mul_assoc]
theorem row_end (a b i n:Nat) (h:b<pw n):upd (mixd (a%pw i*b+rowX a b i n) (a%pw i*b) (i+n)) (i+n) (cc (a%pw i*b) (rowX a b i n) (i+n))=dig (a%pw (i+1)*b):=by
  have hf:=rowX_full a b i n h
  have hT:a%pw i*b<pw (i+n):=by
    rw [pw_add]
    have h1:=Nat.mod_lt a (pw_pos i)
    have h2:=pw_pos i
    rcases Nat.eq_zero_or_pos b with rfl | hb
    · rw [Nat.mul_zero]; exact Nat.mul_pos h2 (pw_pos n)
    · exact Nat.mul_lt_mul'' h1 h
  have hV:a%pw (i+1)*b<pw (i+n+1):=by
    rw [show i+n+1=(i+1)+n by omega,pw_add (i+1) n]
    have h1:=Nat.mod_lt a (pw_pos (i+1))
    rcases Nat.eq_zero_or_pos b with rfl | hb
    · rw [Nat.mul_zero]; exact Nat.mul_pos (pw_pos _) (pw_pos n)
    · exact Nat.mul_lt_mul'' h1 h
  have hc:cc (a%pw i*b) (rowX a b i n) (i+n)=dig (a%pw (i+1)*b) (i+n):=by
    unfold cc dig
    have h3:a%pw (i+1)*b / pw (i+n)<18446744073709551616:=Nat.div_lt_of_lt_mul (by rw [← pw_succ]; exact hV)
    rw [Nat.mod_eq_of_lt hT,hf,Nat.mod_eq_of_lt h3]
  rw [hf,hc]
  funext j
  simp only [upd,mixd]
  by_cases h1:j=i+n
  · rw [if_pos h1,h1]
  · rw [if_neg h1]
    by_cases h2:j<i+n
    · rw [if_pos h2]
    · rw [if_neg h2,dig_high _ (i+n) hT j (by omega),dig_high _ (i+n+1) hV j (by omega)]
theorem results_W {fn:Func} {p:Tmp} (h:fn.results=#[.cell p 154]) (tmps:Array Value) (w:World) (g:Nat) (t:TypeId) (n:Nat) (fr:Nat × Nat) (hp:tmps.getD p undef=.pointer (some ⟨g,0,none⟩)) (hg:w.heap[g]?=some (.cells (wc n) t fr)) :
    (results fn tmps).run Tryz.prog w=.ok (.agg (wc n)) w:=
  results_blk h tmps w g t (wc n) fr _ hp hg Tryz.underlying154 rfl (by rw [wc_size]; kernel_rfl)
theorem nat_mul (a b:Nat) (w:World) (ha:a<pw 9) (hb:b<pw 9):Calls Tryz.prog 85 #[.agg (nc a),.agg (nc b)] w fun e w'=>e=.returned (.agg (wc (a*b)))∧Below w.heap.size w w':=by
  have HA:=Hd ha
  have HB:=Hd hb
  clear ha hb
  go_enter Tryz.func85,Tryz.ntmps85
  go_wp2_with (fail)
  rw [← wc_zero]
  obtain ⟨k1,k2,k3,k4,b1⟩:=al4 w (.cells (nc a) 27) (.cells (nc b) 27) (.cells (wc 0) 154) (.cells (wc 0) 154)
  obtain ⟨w1,hw1⟩:∃ w1:World,w1=((((w.alloc (.cells (nc a) 27)).alloc (.cells (nc b) 27)).alloc (.cells (wc 0) 154)).alloc (.cells (wc 0) 154)):=⟨_,rfl⟩
  rw [← hw1] at k1 k2 k3 k4 b1 ⊢
  clear hw1
  obtain ⟨g,hg⟩:∃ g,g=w.heap.size:=⟨_,rfl⟩
  rw [← hg] at k1 k2 k3 k4 b1 ⊢
  have hgs:g≤w.heap.size:=by omega
  have HG:=Hd hg
  have K1:=Hd k1
  have K2:=Hd k2
  have K3:=Hd k3
  have K4:=Hd k4
  clear hg k1 k2 k3 k4
  have hm9:wds a≤9:=usedN_le a 9
  have hn9:wds b≤9:=usedN_le b 9
  obtain ⟨m,hm⟩:∃ m,m=wds a:=⟨_,rfl⟩
  obtain ⟨n,hn⟩:∃ n,n=wds b:=⟨_,rfl⟩
  rw [← hm] at hm9
  rw [← hn] at hn9
  have HAm:=Hd (show a<pw m by rw [hm]; exact usedN_lt a 9 HA.out)
  have HBn:=Hd (show b<pw n by rw [hn]; exact usedN_lt b 9 HB.out)
  with_reducible refine (nat_used a g _ K1.out).mono ?_
  rintro e w2 ⟨rfl,rfl⟩
  rw [← hm]
  clear hm
  go_wp2_with (fail)
  with_reducible refine (nat_used b (g+1) _ K2.out).mono ?_
  rintro e w2 ⟨rfl,rfl⟩
  rw [← hn]
  clear hn
  go_wp2_with (fail)
  go_loopw [17] (fun iv wr=>∃ i:Nat,i≤m∧iv=.int .i64 i∧wr.heap[g]?=some (.cells (nc a) 27 (0,0))∧wr.heap[g+1]?=some (.cells (nc b) 27 (0,0))∧wr.heap[g+1+1]?=some (.cells (wc 0) 154 (0,0))∧wr.heap[g+1+1+1]?=some (.cells (wc (a%pw i*b)) 154 (0,0))∧Below g w wr) (fun iv _=>m - (intOf iv).toNat)
  case atStart=>exact ⟨0,by omega,rfl,K1.out,K2.out,K3.out,by rw [mod_pw_zero,Nat.zero_mul]; exact K4.out,b1⟩
  case round=>
    obtain ⟨i,hi,rfl,q1,q2,q3,q4,hbr⟩:=hrel
    have H1:=Hd q1
    have H2:=Hd q2
    have H3:=Hd q3
    have H4:=Hd q4
    clear q1 q2 q3 q4
    by_cases hlt:i<m
    · obtain ⟨T,hT⟩:∃ T,T=a%pw i*b:=⟨_,rfl⟩
      rw [← hT] at H4
      have HT:=Hd hT
      clear hT
      go_wp2_with (fail)
      go_loopw [21,9] (fun kv cv wr'=>∃ k:Nat,k≤n∧kv=.int .i64 k∧cv=wn (cc T (rowX a b i k) (i+k))∧wr'.heap[g]?=some (.cells (nc a) 27 (0,0))∧wr'.heap[g+1]?=some (.cells (nc b) 27 (0,0))∧wr'.heap[g+1+1]?=some (.cells (wc 0) 154 (0,0))∧wr'.heap[g+1+1+1]?=some (.cells (fa wn 18 (mixd (T+rowX a b i k) T (i+k))) 154 (0,0))∧Below g w wr') (fun kv _ _=>n - (intOf kv).toNat)
      case atStart=>exact ⟨0,by omega,rfl,by rw [rowX_zero,cc_zero]; rfl,H1.out,H2.out,H3.out,by
        have e:mixd (T+rowX a b i 0) T (i+0)=dig T:=by rw [rowX_zero]; funext j; simp [mixd]
        rw [e]
        exact H4.out,hbr⟩
      case round=>
        obtain ⟨k,hk,rfl,rfl,q1,q2,q3,q4,hbr2⟩:=hrel
        have G1:=Hd q1
        have G2:=Hd q2
        have G3:=Hd q3
        have G4:=Hd q4
        have hcl:=rowX_cc T a b i k
        by_cases hlk:k<n
        · have c1:wr.cell? ⟨g,i,none⟩=some (wn (dig a i)):=by rw [cO q1,nc_get _ _ (by omega)]
          have c2:wr.cell? ⟨g+1,k,none⟩=some (wn (dig b k)):=by rw [cO q2,nc_get _ _ (by omega)]
          have c4:wr.cell? ⟨g+1+1+1,i+k,none⟩=some (wn (dig T (i+k))):=by rw [cO q4,fa_get _ _ _ _ (by omega),mixd_at]
          have f4:=frozen_of q4 (i+k)
          have hxl:=dig_lt a i
          have hyl:=dig_lt b k
          have htl:=dig_lt T (i+k)
          clear q1 q2 q3 q4
          obtain ⟨p,hp⟩:∃ p,p=dig a i*dig b k:=⟨_,rfl⟩
          have hpl:p≤18446744073709551615*18446744073709551615:=by rw [hp]; exact word_mul _ _ hxl hyl
          have hmq:=fun w m=>mul64_quiet _ _ hxl hyl w m
          rw [← hp] at hmq
          have HMQ:=Hd hmq
          obtain ⟨c,hc⟩:∃ c,c=cc T (rowX a b i k) (i+k):=⟨_,rfl⟩
          rw [← hc] at hcl ⊢
          obtain ⟨t,ht⟩:∃ t,t=dig T (i+k):=⟨_,rfl⟩
          rw [← ht] at htl c4
          have hX:=rowX_succ a b i k
          have e1:=cc_succ T (rowX a b i k) (i+k) (dig a i*dig b k)
          have e2:=cc_dig T (rowX a b i k) (i+k) (dig a i*dig b k)
          have e3:=mixd_step (T+rowX a b i k) T (i+k) (dig a i*dig b k)
          rw [← hp] at hX e1 e2 e3
          rw [← hc,← ht] at e1 e2
          obtain ⟨y,hy⟩:∃ y,y=dig (T+rowX a b i k+pw (i+k)*p) (i+k):=⟨_,rfl⟩
          rw [← hy] at e2 e3
          rw [Nat.add_assoc T,← hX,Nat.add_assoc i k 1] at e3
          have E1:=Hd e1
          have E2:=Hd e2
          have E3:=Hd e3
          have HX:=Hd hX
          clear hp hmq hc ht hX hy e1 e2 e3
          go_wp2_with (fail)
          go_quiet (first | (go_at_call 99; exact HMQ.out _ _))
          go_wp2_with (fail)
          have eL:(p+t+c)%18446744073709551616=(t+p+c)%18446744073709551616:=by omega
          rw [eL,← E2.out]
          have h4:=set_of (w:=wr.drewN nq) G4.out (i+k) (wn y)
          rw [fa_set,E3.out] at h4
          have J4:=Hd h4
          have J1:=Hd (set_far (w:=wr.drewN nq) G1.out (by omega:g≠g+1+1+1) (i+k) (wn y))
          have J2:=Hd (set_far (w:=wr.drewN nq) G2.out (by omega:g+1≠g+1+1+1) (i+k) (wn y))
          have J3:=Hd (set_far (w:=wr.drewN nq) G3.out (by omega:g+1+1≠g+1+1+1) (i+k) (wn y))
          have JB:=Hd (show Below g w ((wr.drewN nq).setCell ⟨g+1+1+1,i+k,none⟩ (wn y)) from (Below.drewN hbr2 nq).setCell (show g≤g+1+1+1 by omega) _)
          clear h4
          refine ⟨⟨k+1,by omega,by go_num,?_,J1.out,J2.out,J3.out,J4.out,JB.out⟩,by simp [intOf]; omega⟩
          rw [HX.out,← Nat.add_assoc,E1.out]
          congr 1
          omega
        · obtain rfl:k=n:=by omega
          have c4:wr.cell? ⟨g+1+1+1,i+k,none⟩=some (wn (dig T (i+k))):=by rw [cO q4,fa_get _ _ _ _ (by omega),mixd_at]
          have f4:=frozen_of q4 (i+k)
          have hre:=row_end a b i k HBn.out
          rw [← HT.out] at hre
          obtain ⟨c,hc⟩:∃ c,c=cc T (rowX a b i k) (i+k):=⟨_,rfl⟩
          rw [← hc] at hcl hre ⊢
          have h4:=set_of G4.out (i+k) (wn c)
          rw [fa_set,hre] at h4
          have J4:=Hd h4
          have J1:=Hd (set_far G1.out (by omega:g≠g+1+1+1) (i+k) (wn c))
          have J2:=Hd (set_far G2.out (by omega:g+1≠g+1+1+1) (i+k) (wn c))
          have J3:=Hd (set_far G3.out (by omega:g+1+1≠g+1+1+1) (i+k) (wn c))
          have JB:=Hd (show Below g w (wr.setCell ⟨g+1+1+1,i+k,none⟩ (wn c)) from hbr2.setCell (show g≤g+1+1+1 by omega) _)
          clear q1 q2 q3 q4 hc hre h4
          go_wp2_with (fail)
          exact ⟨⟨i+1,by omega,by go_num,J1.out,J2.out,J3.out,J4.out,JB.out⟩,by simp [intOf]; omega⟩
    · obtain rfl:i=m:=by omega
      have q4:=H4.out
      rw [Nat.mod_eq_of_lt HAm.out] at q4
      have Q4:=Hd q4
      clear q4
      go_wp2_with (first
        | (refine wpList_load_blk rfl 154 (.tmp 5) rfl (g+1+1+1) rfl _ _ _ _ Q4.out Tryz.underlying154 rfl (by rw [wc_size]; kernel_rfl) ?_)
        | (refine sB rfl 154 (.tmp 4) (.tmp 73) rfl (g+1+1) rfl _ _ _ rfl H3.out (by rw [wc_size]; kernel_rfl) (by rw [wc_size,wc_size]) (wc_one _) ?_
           intro w2 hw2 hb2 hs2
           have H5:=Hd hw2
           have hB2:Below g w w2:=But.below hbr hb2 (by omega) (Nat.le_trans hgs hbr.size)
           clear hw2 hb2 hs2))
      refine bodyPost_ret (results_W rfl _ _ (g+1+1) _ _ _ rfl H5.out) rfl ⟨rfl,by rw [← HG.out]; exact hB2⟩
end Go.Proofs.YtkoonhiplicbkaaGreat.Cw
