/-
  (package curvettop) What the walks share: generators, signatures.
-/
import Derived.Test.YtkoonhiplicbkaaGreatPkSig
import Derived.Test.YtkoonhiplicbkaaGreatPk33
set_option linter.unusedSimpArgs false
set_option linter.unusedVariables false
namespace Go.Proofs.YtkoonhiplicbkaaGreat.Cw
open Go Go.RowKit
attribute [local irreducible] pc ptc nc ac cuc fc gpt
attribute [local go_sem ↓ high] wn_eql wn_neq wn_lss wn_gtr wn_leq wn_geq wn_cells wRS wn_guard lit0 lit1
attribute [local go_sem high] wn_match wRS wn_eql wn_neq wn_lss wn_gtr wn_leq wn_geq
theorem Mem.wrote {w0 w w':World} {L1 L2:List Blk} {g:Nat} {C:Array Value} {t:TypeId} (M:Mem w0 w (L1++(g,C,t)::L2)) (hb:But g w w'):Mem w0 w' (L1++L2):=by
 have hg:=(M.2.1 (g,C,t) (by simp)).1
 have hp:=M.2.2
 rw [List.pairwise_append,List.pairwise_cons] at hp
 obtain ⟨p1,⟨p2,p3⟩,p4⟩:=hp
 refine ⟨But.below M.1 hb hg M.1.size,fun e he=>?_,?_⟩
 ·have he':e ∈ L1++(g,C,t)::L2:=by
   rcases List.mem_append.1 he with h | h
   ·exact List.mem_append.2 (.inl h)
   ·exact List.mem_append.2 (.inr (List.mem_cons_of_mem _ h))
  have h1:=M.2.1 e he'
  refine ⟨h1.1,hb.heap ?_ h1.2⟩
  rcases List.mem_append.1 he with h | h
  ·exact p4 e h (g,C,t) (List.mem_cons_self ..)
  ·exact fun e2=>p2 e h e2.symm
 ·rw [List.pairwise_append]
  exact ⟨p1,p3,fun a ha b hb2=>p4 a ha b (List.mem_cons_of_mem _ hb2)⟩
def n5B (k:Nat):Bool:=decide (200<(cv k).n)
theorem n5_all:(List.range 15).all (fun i=>n5B (i+1))=true:=by decide +kernel
theorem CK.n5 (k:CK):200<k.c.n:=by
 have h:=n5_all
 rw [List.all_eq_true] at h
 have h2:=h (k.1 - 1) (List.mem_range.2 (by have:=k.2; omega))
 rw [Nat.sub_add_cancel k.2.1] at h2
 exact of_decide_eq_true h2
theorem run_cat {P:Program} {ρ:Operand→Value} {o:Oper} (t t2:TypeId) (x y:Operand) (ho:o.op=.binOp .add t x y t2) (a b:ByteArray) (hx:ρ x=.string a) (hy:ρ y=.string b) (h:a.size+b.size≤9223372036854775807) (u:World):(execOp ρ o).run P u=.ok (.value (.string (a++b))) u:=by
 obtain ⟨d,op,type,pos,after,guard⟩:=o
 subst ho
 have h2:(a.size:Int)+b.size≤9223372036854775807:=by omega
 simp [execOp,hx,hy,binOp,eqGuard,Op.stringOp,h2]
def seedB:ByteArray:=⟨#[48,49,50,51,52,53,54,55,56,57,97,98,99,100,101,102,48,49,50,51,52,53,54,55,56,57,97,98,99,100,101,102]⟩
theorem id2:isId 2:=⟨by decide,by decide⟩
theorem id4:isId 4:=⟨by decide,by decide⟩
theorem seed_size (s:ByteArray):32≤(shortS s++seedB).size∧(shortS s++seedB).size≤256:=by
 have h1:=shortS_size s
 have h2:seedB.size=32:=rfl
 rw [ByteArray.size_append,h2]
 omega
theorem rN_lt9 (k:CK) (x:Nat):rN k x<pw 9:=Nat.lt_trans (Nat.mod_lt _ (by have:=k.n1; omega)) k.n9
theorem sg_r (a b j:Nat) (h:j<9):(nc a++nc b)[0+j]?=some (wn (dig a j)):=by
 rw [Nat.zero_add,Array.getElem?_append_left (by rw [nS]; exact h)]; exact nc_get _ _ h
theorem neq_no (t:TypeId) {p q:Int} (h:p=q):binOp .neq t (.int .i64 p) (.int .i64 q)=pure (.bool false):=by
 show (pure (.bool (!(p == q))):Sem Value)=_
 congr 2
 simp [h]
theorem neq_yes (t:TypeId) {p q:Int} (h:p≠q):binOp .neq t (.int .i64 p) (.int .i64 q)=pure (.bool true):=by
 show (pure (.bool (!(p == q))):Sem Value)=_
 congr 2
 simp [h]
theorem run_eqn {ρ:Operand→Value} {o:Oper} (t2:TypeId) (x y:Operand) (ho:o.op=.binOp .eql 27 x y t2) (a b:Nat) (hx:ρ x=.agg (nc a)) (hy:ρ y=.agg (nc b)) (ha:a<pw 9) (hb:b<pw 9) (v:Bool) (hv:decide (a=b)=v) (u:World):(execOp ρ o).run Tryz.prog u=.ok (.value (.bool v)) u:=by
 obtain ⟨d,op,type,pos,after,guard⟩:=o
 subst ho
 simp only [execOp,hx,hy,Sem.run_bind,guard_aggZ _ _ (.inl rfl) (show Tryz.prog.eqGuardType Tryz.prog.depth 27=false by kernel_rfl),Result.andThen_ok,eq_nat a b ha hb,hv,Sem.run_pure]
end Go.Proofs.YtkoonhiplicbkaaGreat.Cw
