/-
  A modulus's block; what Raw's steps come to in digits. Condition: none.
  (package mont) Raw: a product in Montgomery's way. Condition: a modulus's block; numbers of nine words, the second below the modulus.
-/
import Derived.Test.YtkoonhiplicbkaaGreatPk33
import Derived.Test.YtkoonhiplicbkaaGreatPk31
import Derived.Test.YtkoonhiplicbkaaGreatPk17
set_option linter.unusedSimpArgs false
set_option linter.unusedVariables false
namespace Go.Proofs.YtkoonhiplicbkaaGreat.Cw
open Go Go.RowKit
def mtc (m n less rr:Nat):Array Value:=nc m++(#[.int .i64 (n:Int),wn less]++nc rr)
theorem mtc_size (m n less rr:Nat):(mtc m n less rr).size=20:=by simp [mtc,nS]
theorem mtc_m (m n less rr j:Nat) (h:j<9):(mtc m n less rr)[0+j]?=some (wn (dig m j)):=by
 rw [Nat.zero_add]; unfold mtc
 rw [Array.getElem?_append_left (by rw [nS]; exact h),nc_get _ _ h]
theorem mtc_n (m n less rr:Nat):(mtc m n less rr)[9]?=some (.int .i64 (n:Int)):=by
 unfold mtc
 rw [Array.getElem?_append_right (by rw [nS]; omega),nS]
 rfl
theorem mtc_less (m n less rr:Nat):(mtc m n less rr)[10]?=some (wn less):=by
 unfold mtc
 rw [Array.getElem?_append_right (by rw [nS]; omega),nS]
 rfl
theorem mtc_rr (m n less rr j:Nat) (h:j<9):(mtc m n less rr)[11+j]?=some (wn (dig rr j)):=by
 unfold mtc
 rw [Array.getElem?_append_right (by rw [nS]; omega),nS,Array.getElem?_append_right (by simp; omega)]
 rw [show 11+j - 9 - (#[Value.int .i64 (n:Int),wn less]:Array Value).size=j by simp; omega,nc_get _ _ h]
def MtAt (w:World) (x m n less:Nat):Prop:=(n≤9∧m<pw n∧less<18446744073709551616∧(less*m+1)%18446744073709551616=0∧1<m)∧w.heap[x]?=some (.cells (mtc m n less (pw n*pw n%m)) 179 (0,0))
theorem MtAt.up {w w':World} {x m n less:Nat} (h:MtAt w x m n less) (hg:Grows w w'):MtAt w' x m n less:=⟨h.1,(hg.block x (Array.getElem?_eq_some_iff.mp h.2).1).trans h.2⟩
theorem pw_le {a b:Nat} (h:a≤b):pw a≤pw b:=Nat.pow_le_pow_right (by decide) h
theorem MtAt.m9 {w:World} {x m n less:Nat} (h:MtAt w x m n less):m<pw 9:=Nat.lt_of_lt_of_le h.1.2.1 (pw_le h.1.1)
theorem dig_nought (T:Nat):dig T 0=T%18446744073709551616:=by unfold dig; rw [pw_zero,Nat.div_one]
theorem raw_b1 {T x b m n:Nat} (hT:T<m+b) (hx:x<18446744073709551616) (hb:b<m) (hm:m<pw n):T+rX x b n<pw (n+2)∧rX x b n=x*b:=by
 have e:rX x b n=x*b:=by unfold rX; rw [Nat.mod_eq_of_lt (by omega)]
 refine ⟨?_,e⟩
 rw [e,pw_succ,pw_succ]
 have h1:x*b≤18446744073709551615*b:=Nat.mul_le_mul_right _ (by omega)
 omega
theorem raw_b2 {T x b m n q:Nat} (hT:T<m+b) (hx:x<18446744073709551616) (hb:b<m) (hm:m<pw n) (hq:q<18446744073709551616):T+x*b+rX q m n<pw (n+2)∧rX q m n=q*m:=by
 have e:rX q m n=q*m:=by unfold rX; rw [Nat.mod_eq_of_lt hm]
 refine ⟨?_,e⟩
 rw [e,pw_succ,pw_succ]
 have h1:x*b≤18446744073709551615*b:=Nat.mul_le_mul_right _ (by omega)
 have h2:q*m≤18446744073709551615*m:=Nat.mul_le_mul_right _ (by omega)
 omega
theorem put_shift (V:Nat) (h:V<pw 11):(fa wn 11 (putd (dig V) 0 10 fun j=>dig V (1+j))).setIfInBounds 10 (wn 0)=fa wn 11 (dig (V / 18446744073709551616)):=by
 rw [fa_set,← shift_all V h]
 refine fa_ext _ _ _ _ fun j hj=>?_
 unfold upd putd
 by_cases h1:j=10
 ·rw [if_pos h1,if_pos h1]
 ·rw [if_neg h1,if_neg h1,if_pos ⟨by omega,by omega⟩]
  show dig V (1+(j - 0))=if j<10 then dig V (j+1) else dig V j
  rw [if_pos (by omega),Nat.sub_zero,Nat.add_comm]
theorem dig_cut (D n j:Nat):dig (D%pw n) j=if j<n then dig D j else 0:=by
 split
 ·rename_i h; exact dig_mod _ _ _ h
 ·rename_i h; exact dig_high _ n (Nat.mod_lt _ (pw_pos n)) j (by omega)
theorem put_low (T n:Nat) (hn:n≤9):fa wn 9 (putd (dig 0) 0 n (dig T))=nc (T%pw n):=fa_ext _ _ _ _ fun j hj=>by
 rw [dig_cut]
 unfold putd
 rw [Nat.zero_add,Nat.sub_zero,dig_zero]
 by_cases h:j<n
 ·rw [if_pos ⟨Nat.zero_le _,h⟩,if_pos h]
 ·rw [if_neg (fun e=>h e.2),if_neg h]
def cutd (D n i:Nat):Nat→Nat:=fun j=>if n≤j∧j<i then 0 else dig D j
theorem cutd_start (D n:Nat):cutd D n n=dig D:=by funext j; unfold cutd; rw [if_neg (by omega)]
theorem cutd_step (D n i:Nat) (h:n≤i):upd (cutd D n i) i 0=cutd D n (i+1):=by
 funext j
 unfold upd cutd
 by_cases h1:j=i
 ·rw [if_pos h1,if_pos (by omega)]
 ·rw [if_neg h1]
  by_cases h2:n≤j∧j<i
  ·rw [if_pos h2,if_pos (by omega)]
  ·rw [if_neg h2,if_neg (by omega)]
theorem cutd_all (D n:Nat):fa wn 9 (cutd D n 9)=nc (D%pw n):=fa_ext _ _ _ _ fun j hj=>by
 rw [dig_cut]
 unfold cutd
 by_cases h:j<n
 ·rw [if_neg (by omega),if_pos h]
 ·rw [if_pos ⟨by omega,hj⟩,if_neg h]
theorem raw_top {T m b n:Nat} (hT:T<m+b) (hb:b<m) (hm:m<pw n) (hn:n≤9) (h:m≤T):dif (T%pw n) m 9%pw n=T - m:=by
 obtain ⟨Q,hQ⟩:∃ Q,pw 9=pw n*(Q+1):=by
  refine ⟨pw (9 - n) - 1,?_⟩
  rw [Nat.sub_add_cancel (pw_pos _),← pw_add]
  congr 1
  omega
 unfold dif
 rw [hQ,Nat.mod_mul_right_mod]
 have h1:=Nat.div_add_mod T (pw n)
 have h2:=Nat.mod_lt T (pw_pos n)
 have h3:T / pw n<2:=Nat.div_lt_of_lt_mul (by omega)
 rw [Nat.mul_add,Nat.mul_one]
 generalize T%pw n=r at *
 generalize pw n=P at *
 generalize T / P=u at *
 have h4:u=0∨u=1:=by omega
 rcases h4 with e | e
 ·rw [e] at h1
  rw [show r+(P*Q+P) - m=(T - m)+P*(Q+1) by rw [Nat.mul_add,Nat.mul_one]; omega,Nat.add_mul_mod_self_left,Nat.mod_eq_of_lt (by omega)]
 ·rw [e] at h1
  rw [show r+(P*Q+P) - m=(T - m)+P*Q by omega,Nat.add_mul_mod_self_left,Nat.mod_eq_of_lt (by omega)]
theorem raw_dig {T m b n:Nat} (hT:T<m+b) (hb:b<m) (hm:m<pw n):dig T n≠0→m≤T∧True:=fun h=>⟨by
 rcases Nat.lt_or_ge T (pw n) with h1 | h1
 ·exact absurd (dig_high T n h1 n (Nat.le_refl _)) h
 ·omega,trivial⟩
theorem raw_low {T m b n:Nat} (hT:T<m+b) (hb:b<m) (hm:m<pw n) (h:dig T n=0):T%pw n=T:=by
 have h1:T / pw n<2:=Nat.div_lt_of_lt_mul (by omega)
 unfold dig at h
 rw [Nat.mod_eq_of_lt (by omega)] at h
 have:=Nat.div_add_mod T (pw n)
 rw [h] at this
 omega
theorem step_copy_wn {P:Program} {ops:Array Oper} {o:Oper} {a:Act} {w:World} {K:Act→World→Prop} {Q:Exit→Act→World→Prop} {E:Prop} (hgd:o.guard=none) (d s:Operand) (dT sT:TypeId)
  (ho:o.op=.call { callee:=.builtin .copy,args:=#[d,s],argTypes:=#[dT,sT] }) (elem:TypeId) (hu:P.underlying dT=some (.slice elem)) (hsz:(P.info? elem).map (·.size)=some 1)
  (g off dLen dCap g2 off2 sLen sCap:Nat) (hd:a.eval d=.slice (some ⟨g,off,none⟩) dLen dCap) (hs:a.eval s=.slice (some ⟨g2,off2,none⟩) sLen sCap)
  (N:Nat) (f:Nat→Nat) (t:TypeId) (hg:w.heap[g]?=some (.cells (fa wn N f) t (0,0))) (n:Nat) (hn:n=Nat.min sLen dLen) (h:Nat→Nat)
  (hsrc:∀ j,j<n→w.cell? ⟨g2,off2+j,none⟩=some (wn (h j))) (hfit:off+n≤N)
  (hK:∀ w',w'.heap[g]?=some (.cells (fa wn N (putd f off n h)) t (0,0))→But g w w'→w'.heap.size=w.heap.size→K (a.put o.dst (.int .i64 (n:Int))) w') :
  if Region.wanted o (yielded ops a.tmps)=true then Oper.wp P o a w K Q else E:=by
 have hw:Region.wanted o (yielded ops a.tmps)=true:=by simp [Region.wanted,hgd]
 rw [if_pos hw]
 have hl:((List.range n).map fun j=>wn (h j)).length=n:=by simp
 have hrun:=run_copy_row (P:=P) w dT sT o.type elem g off dLen dCap ⟨g2,off2,none⟩ sLen sCap (fa wn N f) t ((List.range n).map fun j=>wn (h j)) hu hsz hg (by rw [hl]; exact hn)
  (fun j v hv=>by
   rw [List.getElem?_map] at hv
   obtain ⟨x,hx,rfl⟩:=Option.map_eq_some_iff.1 hv
   have hj:j<n:=by
    rcases Nat.lt_or_ge j n with h1 | h1
    ·exact h1
    ·rw [List.getElem?_eq_none (by simpa using h1)] at hx; cases hx
   rw [List.getElem?_range hj] at hx
   cases hx
   rw [Addr.add_lit]
   exact hsrc j hj)
  (by rw [hl,fS]; exact hfit) (fun v hv=>by obtain ⟨x,_,rfl⟩:=List.mem_map.1 hv; exact wn_one _)
 unfold Oper.wp
 simp only [execOp,ho,resolve,invoke,builtin,List.map_toArray,List.map_cons,List.map_nil,hd,hs,hrun,Result.andThen,Sem.run_bind,Sem.run_pure,Result.andThen_ok]
 rw [List.append_assoc,fa_splice N f off n h hfit,hl]
 exact hK _ (by rw [setRow_heap w g _ _ t _ hg]) ⟨rfl,rfl,rfl,by simp [World.setRow],fun x hx hne=>setRow_other w g x _ (fun e=>hne (by rw [e]))⟩ (by simp [World.setRow])
end Go.Proofs.YtkoonhiplicbkaaGreat.Cw
set_option maxHeartbeats 4000000
set_option maxRecDepth 100000
namespace Go.Proofs.YtkoonhiplicbkaaGreat.Cw
open Go Go.RowKit
attribute [local go_sem ↓ high] wn_eql wn_neq wn_lss wn_gtr wn_leq wn_geq wn_cells wRS wn_guard lit0 lit1
attribute [local go_sem high] wn_match wRS wn_eql wn_neq wn_lss wn_gtr wn_leq wn_geq
theorem t11_zero:fa wn 11 (dig 0)=#[wn 0,wn 0,wn 0,wn 0,wn 0,wn 0,wn 0,wn 0,wn 0,wn 0,wn 0]:=by
 have h:dig 0=fun _=>0:=funext dig_zero
 rw [h]
 rfl
theorem wpList_store_cellL {P:Program} {ops:Array Oper} {rest:List Oper} {o:Oper} {a:Act} {w:World} {Q:Exit→Act→World→Prop} (hgd:o.guard=none) (ty:TypeId) (x v:Operand) (ho:o.op=.store ty x v)
  (g off:Nat) (hx:a.eval x=.pointer (some ⟨g,off,none⟩)) (t:TypeId) (C:Array Value) (val:Value) (hv:a.eval v=val) (hval:val.cells=#[val]) (hg:w.heap[g]?=some (.cells C t (0,0)))
  (hi:(P.info? ty).map (·.size)=some 1) (hfit:off<C.size) (h1:val.oneCell'=true)
  (h:∀ w',w'.heap[g]?=some (.cells (C.setIfInBounds off val) t (0,0))→But g w w'→w'.heap.size=w.heap.size→wpList P ops Q rest (a.put o.dst undef) w'):wpList P ops Q (o::rest) a w:=
 wpList_plain hgd fun K hK=>wp_store_val ty x v ho g off hx t C #[val] (by rw [hv,hval]) hg hi (by show off+1≤C.size; omega) (by simpa using h1) fun w' h2 h3 h4=>hK _ _ (h w' (by rw [splice_one C val hfit] at h2; exact h2) h3 h4)
theorem type_neq {w:World} {g x:Nat} {C D:Array Value} {t u:TypeId} {fr fs:Nat × Nat} (h1:w.heap[g]?=some (.cells C t fr)) (h2:w.heap[x]?=some (.cells D u fs)) (h:t≠u):x≠g:=fun e=>by
 rw [e,h1] at h2
 simp at h2
 exact h h2.2.1
theorem run_slice_hi {P:Program} {ρ:Operand→Value} {o:Oper} (t:TypeId) (x h:Operand) (ho:o.op=.slice t x none (some h) none) (g i N:Nat) {e:TypeId} (hx:ρ x=.pointer (some ⟨g,0,none⟩)) (hh:ρ h=.int .i64 (i:Int)) (hi:i≤N) (h0:N≠0)
  (ht:P.underlying t=some (.array N e)) (hs:(P.info? e).map (·.size)=some 1) (u:World):(execOp ρ o).run P u=.ok (.value (.slice (some ⟨g,0,none⟩) i N)) u:=by
 obtain ⟨dst,op,type,pos,after,guard⟩:=o
 subst ho
 have h1:¬ ((i:Int)<0):=by omega
 have h2:¬ ((N:Int)<i):=by omega
 have h3:(i:Int).toNat=i:=rfl
 cases hie:P.info? e with
 | none=>simp [hie] at hs
 | some ie=>
  have hs2:ie.size=1:=by simpa [hie] using hs
  simp [execOp,Instr.sliceAt,Instr.sliceBounds,Instr.sliceBound,hi,show ¬ ((i:Int)<0∨(N:Int)<i) by omega,show (0:Int)≤i by omega,show (i:Int)≤N by omega,hx,hh,run_underlying ht,sizeOf,typeInfo,hie,hs2,h1,h2,h3,Addr.add_lit,asIntOf,Instr.sureAddr,h0]
theorem idx_arr {P:Program} {ρ:Operand→Value} {o:Oper} (t:TypeId) (x i:Operand) (ho:o.op=.indexAddr t x i) (g q N:Nat) {e:TypeId} (hx:ρ x=.pointer (some ⟨g,0,none⟩)) (hi:ρ i=.int .i64 (q:Int)) (hq:q<N)
  (ht:P.underlying t=some (.array N e)) (hs:(P.info? e).map (·.size)=some 1) (u:World):(execOp ρ o).run P u=.ok (.value (.pointer (some ⟨g,q,none⟩))) u:=by
 obtain ⟨dst,op,type,pos,after,guard⟩:=o
 subst ho
 have h1:¬ ((q:Int)<0):=by omega
 have h2:((q:Int)<N):=by omega
 have h3:(q:Int).toNat=q:=rfl
 cases hie:P.info? e with
 | none=>simp [hie] at hs
 | some ie=>
  have hs2:ie.size=1:=by simpa [hie] using hs
  simp [execOp,Instr.indexAt,hx,hi,run_underlying ht,sizeOf,typeInfo,hie,hs2,hq,h1,h2,h3,Addr.add_lit,asIntOf,Instr.sureAddr]
attribute [local irreducible] nc mtc
theorem mont_raw (x m n less a b:Nat) (w:World) (H:MtAt w x m n less) (ha:a<pw 9) (hb:b<m):Calls Tryz.prog 111 #[.pointer (some ⟨x,0,none⟩),.agg (nc a),.agg (nc b)] w fun e w'=>e=.returned (.agg (nc (mraw 18446744073709551616 m less n a b)))∧Below w.heap.size w w':=by
 have HF:=Hd H.1
 have HXB:=Hd H.2
 have HXL:=Hd (show x<w.heap.size from (Array.getElem?_eq_some_iff.mp H.2).1)
 have M9:=Hd H.m9
 have A9:=Hd ha
 have HBM:=Hd hb
 have hn9:n≤9:=H.1.1
 clear H ha hb
 go_enter Tryz.func111,Tryz.ntmps111
 go_upto_region 1 with fail
 rw [← nZ]
 have m0:=Mem.start3 w (nc a) (nc b) (nc 0) 27 27 27
 obtain ⟨w1,hw1⟩:∃ w1:World,w1=(((w.alloc (.cells (nc a) 27)).alloc (.cells (nc b) 27)).alloc (.cells (nc 0) 27)):=⟨_,rfl⟩
 rw [← hw1] at m0 ⊢
 clear hw1
 obtain ⟨g,hg⟩:∃ g,g=w.heap.size:=⟨_,rfl⟩
 rw [← hg] at m0 ⊢
 have HG:=Hd hg
 have M:=Hd m0
 clear hg m0
 refine wp_region_lit ?_
 refine nL rfl 223 rfl (.agg (fa wn 11 (dig 0))) (by rw [t11_zero]; kernel_rfl) ?_
 intro tg w2 hx hx2 hgv hh
 have Nw2:=Hd (show Mem w w2 [(g,nc a,27),(g+1,nc b,27),(g+1+1,nc 0,27),(tg,fa wn 11 (dig 0),223)] from M.out.new hgv (Nat.le_of_eq hx) hh)
 clear hx hx2 hgv hh M
 refine wpList_nil ?_
 try simp only [Act.put,s_,t_,u_,v_,x_,y_]
 have HNE:=Hd (show x≠tg from fun e=>by have h1:=Nw2.out.ge 3 rfl; have h2:=HXL.out; omega)
 have HBN:=Hd (show g+1≠tg from Go.Proofs.YtkoonhiplicbkaaGreat.Cw.type_neq (Nw2.out.at 3 rfl) (Nw2.out.at 1 rfl) (by decide))
 go_upto_region 2 with (fail)
 refine wp_region_lit ?_
 refine pL rfl (.pointer (some ⟨x,0,none⟩)) (fun u=>by kernel_rfl) ?_
 refine pL rfl (.pointer (some ⟨x,0,none⟩)) (fun u=>by kernel_rfl) ?_
 refine pL rfl (.pointer (some ⟨x,9,none⟩)) (fun u=>by kernel_rfl) ?_
 refine lC rfl 3 (.tmp 16) rfl x 9 (by kernel_rfl) (.int .i64 (n:Int)) _ Tryz.underlying3 rfl ((cO (grows_at HXB.out Nw2.out.1) 9).trans (mtc_n _ _ _ _)) ?_
 refine pL rfl (.int .i64 0) (fun u=>by kernel_rfl) ?_
 refine wpList_nil ?_
 try simp only [Act.put,s_,t_,u_,v_,x_,y_]
 go_upto_region 3 with (fail)
 go_loopw [18] (fun iv wr=>∃ i:Nat,i≤n∧iv=.int .i64 (i:Int)∧Mem w wr [(g,nc a,27),(g+1,nc b,27),(g+1+1,nc 0,27),(tg,fa wn 11 (dig ((mon 18446744073709551616 m less b a i))),223)]) (fun iv _=>(n - intOf iv).toNat)
 case atStart=>exact ⟨0,Nat.zero_le _,rfl,Nw2.out⟩
 case round=>
  obtain ⟨i,hi,rfl,hm⟩:=hrel
  have M:=Hd hm
  clear hm
  have hTL:=mon_lt (W:=18446744073709551616) (m:=m) (less:=less) (b:=b) (a:=a) (by decide) (by have:=HF.out.2.2.2.2; omega) i
  by_cases hlt:i<n
  ·have hms:=show mon 18446744073709551616 m less b a (i+1)=mstep 18446744073709551616 m less b (mon 18446744073709551616 m less b a i) (dig a i) from rfl
   obtain ⟨T,hT⟩:∃ T,T=mon 18446744073709551616 m less b a i:=⟨_,rfl⟩
   rw [← hT] at M hTL hms
   clear hT
   obtain ⟨y,hy⟩:∃ y,y=dig a i:=⟨_,rfl⟩
   have hyl:y<18446744073709551616:=by rw [hy]; exact dig_lt _ _
   rw [← hy] at hms
   have B1:=Hd (raw_b1 hTL hyl HBM.out HF.out.2.1)
   obtain ⟨q,hq⟩:∃ q,q=mq 18446744073709551616 less (T+y*b):=⟨_,rfl⟩
   have hql:q<18446744073709551616:=by rw [hq]; exact mq_lt (by decide)
   have B2:=Hd (raw_b2 hTL hyl HBM.out HF.out.2.1 hql)
   have HQ:=Hd (show dig (T+y*b) 0*less%18446744073709551616=q by rw [hq,dig_nought]; rfl)
   have HMS:=Hd (show mon 18446744073709551616 m less b a (i+1)=(T+y*b+q*m) / 18446744073709551616 by rw [hms,hq]; rfl)
   have HV:=Hd (show T+y*b+q*m<pw 11 by have h:=B2.out.1; rw [B2.out.2] at h; exact Nat.lt_of_lt_of_le h (pw_le (by omega)))
   have HY:=Hd hy
   have hi9:i<9:=by omega
   clear hms hq hy
   go_upto_region 4 with (fail)
   refine wp_region_lit ?_
   refine pL rfl (.int .i64 (i:Int)) (fun u=>by kernel_rfl) ?_
   refine pL rfl (.int .i64 (i:Int)) (fun u=>by kernel_rfl) ?_
   refine wpList_nil ?_
   try simp only [Act.put,s_,t_,u_,v_,x_,y_]
   go_upto_region 5 with (fail)
   refine wp_region_lit ?_
   refine pL rfl (.pointer (some ⟨x,0,none⟩)) (fun u=>by kernel_rfl) ?_
   refine pL rfl (.int .i64 (i:Int)) (fun u=>by kernel_rfl) ?_
   refine pL rfl (.pointer (some ⟨g,0,none⟩)) (fun u=>by kernel_rfl) ?_
   refine pL rfl (.pointer (some ⟨g,i,none⟩)) (idx_arr 25 (.tmp 23) (.tmp 22) rfl g i 9 (by kernel_rfl) (by kernel_rfl) hi9 Tryz.underlying25 (by kernel_rfl)) ?_
   refine lC rfl 24 (.tmp 24) rfl g i (by kernel_rfl) (wn y) _ Tryz.underlying24 rfl ((cO (M.out.at 0 rfl) i).trans (by rw [HY.out]; exact nc_get _ _ hi9)) ?_
   refine wpList_fnE rfl _ _ _ _ rfl #[] #[.pointer (some ⟨x,0,none⟩),.pointer (some ⟨tg,0,none⟩),wn y,.pointer (some ⟨g+1,0,none⟩)] (by kernel_rfl) (by kernel_rfl) (fun u=>cE _ _ _ _ u Tryz.func135 (by kernel_rfl) (by kernel_rfl)) (T:=Unit) (fun _=>.tuple #[]) (fun _ w'=>w'.heap[tg]?=some (.cells (fa wn 11 (dig (T+rX y b n))) 223 (0,0))∧But tg wr w'∧w'.heap.size=wr.heap.size) ((mont_round x tg (g+1) 0 y b T n _ _ _ _ _ _ wr hn9 hyl (grows_at HXB.out M.out.1) (mtc_n _ _ _ _) (M.out.at 1 rfl) (fun j hj=>by rw [Nat.zero_add]; exact nc_get _ _ (by omega)) (M.out.at 3 rfl) HNE.out HBN.out B1.out.1).mono fun e w' ⟨h1,h2,h3,h4⟩=>⟨(),h1,h2,h3,h4⟩) ?_
   rintro _ w43 ⟨h1,h2,h3⟩
   rw [B1.out.2] at h1
   have Nw43:=Hd (M.out.store 3 rfl h2 h3 h1)
   clear h1 h2 h3 M
   refine wpList_nil ?_
   try simp only [Act.put,s_,t_,u_,v_,x_,y_]
   go_upto_region 6 with (fail)
   have D44:=Hd (Nw43.out.drew)
   clear Nw43
   refine rGw 8 8 (by kernel_rfl) (by kernel_rfl) (fun d v c a w h=>by cases d <;> exact h) ?_
   simp only [List.take_succ_cons,List.take_zero]
   refine pG rfl (.pointer (some ⟨tg,0,none⟩)) (fun u=>by kernel_rfl) ?_
   refine wpGrow_load_cell rfl 24 (.tmp 27) rfl tg 0 (by kernel_rfl) (wn (dig (T+y*b) 0)) _ Tryz.underlying24 rfl (fun u hu=>(cO (D44.out.up 3 rfl hu) 0).trans (fa_get wn 11 _ 0 (by decide))) ?_
   refine pG rfl (.pointer (some ⟨x,0,none⟩)) (fun u=>by kernel_rfl) ?_
   refine pG rfl (.pointer (some ⟨x,0,none⟩)) (fun u=>by kernel_rfl) ?_
   refine pG rfl (.pointer (some ⟨x,10,none⟩)) (fun u=>by kernel_rfl) ?_
   refine wpGrow_load_cell rfl 24 (.tmp 31) rfl x 10 (by kernel_rfl) (wn less) _ Tryz.underlying24 rfl (fun u hu=>(cO (grows_at HXB.out (gT _ _ _ D44.out.1 hu)) 10).trans (mtc_less _ _ _ _)) ?_
   refine pG rfl (wn q) (fun u=>by exact run_wn _ _ _ _ _ rfl (dig (T+y*b) 0) (wn less) (by kernel_rfl) (by kernel_rfl) ((wn_mul _ _ _).trans (by rw [HQ.out])) u) ?_
   refine pG rfl (wn q) (fun u=>by kernel_rfl) ?_
   refine gN ?_
   try simp only [Act.put,s_,t_,u_,v_,x_,y_]
   intro w45 hg6
   refine ⟨by kernel_rfl,?_⟩
   have Nw45:=Hd (D44.out.grow hg6)
   clear hg6 D44
   try simp only [Act.put,s_,t_,u_,v_,x_,y_]
   go_upto_region 7 with (fail)
   refine wp_region_lit ?_
   refine pL rfl (.pointer (some ⟨x,0,none⟩)) (fun u=>by kernel_rfl) ?_
   refine pL rfl (wn q) (fun u=>by kernel_rfl) ?_
   refine pL rfl (.pointer (some ⟨x,0,none⟩)) (fun u=>by kernel_rfl) ?_
   refine pL rfl (.pointer (some ⟨x,0,none⟩)) (fun u=>by kernel_rfl) ?_
   refine pL rfl (.pointer (some ⟨x,0,none⟩)) (fun u=>by kernel_rfl) ?_
   refine wpList_fnE rfl _ _ _ _ rfl #[] #[.pointer (some ⟨x,0,none⟩),.pointer (some ⟨tg,0,none⟩),wn q,.pointer (some ⟨x,0,none⟩)] (by kernel_rfl) (by kernel_rfl) (fun u=>cE _ _ _ _ u Tryz.func135 (by kernel_rfl) (by kernel_rfl)) (T:=Unit) (fun _=>.tuple #[]) (fun _ w'=>w'.heap[tg]?=some (.cells (fa wn 11 (dig ((T+y*b)+rX q m n))) 223 (0,0))∧But tg w45 w'∧w'.heap.size=w45.heap.size) ((mont_round x tg x 0 q m (T+y*b) n _ _ _ _ _ _ w45 hn9 hql (grows_at HXB.out Nw45.out.1) (mtc_n _ _ _ _) (grows_at HXB.out Nw45.out.1) (fun j hj=>mtc_m _ _ _ _ j (by omega)) (Nw45.out.at 3 rfl) HNE.out HNE.out B2.out.1).mono fun e w' ⟨h1,h2,h3,h4⟩=>⟨(),h1,h2,h3,h4⟩) ?_
   rintro _ w46 ⟨h1,h2,h3⟩
   rw [B2.out.2] at h1
   have Nw46:=Hd (Nw45.out.store 3 rfl h2 h3 h1)
   clear h1 h2 h3 Nw45
   refine wpList_nil ?_
   try simp only [Act.put,s_,t_,u_,v_,x_,y_]
   go_upto_region 8 with (fail)
   have D47:=Hd (Nw46.out.drew)
   clear Nw46
   refine rGw 2 2 (by kernel_rfl) (by kernel_rfl) (fun d v c a w h=>by cases d <;> exact h) ?_
   simp only [List.take_succ_cons,List.take_zero]
   refine pG rfl (.slice (some ⟨tg,0,none⟩) 11 11) (fun u=>by go_simp) ?_
   refine pG rfl (.slice (some ⟨tg,1,none⟩) 10 10) (fun u=>by go_simp) ?_
   refine gN ?_
   try simp only [Act.put,s_,t_,u_,v_,x_,y_]
   refine gS (rs:=[2]) (by kernel_rfl) (by decide) (fun w48 hg6=>?_)
   have Nw48:=Hd (D47.out.grow hg6)
   clear hg6 D47
   refine wpAny_ready (rs:=[2]) (by kernel_rfl) (by simp) ?_
   refine AllReady.cons rfl (fun K hK=>?_) AllReady.nil
   refine step_copy_wn rfl (.tmp 40) (.tmp 41) 158 158 rfl 24 Tryz.underlying158 (by kernel_rfl) tg 0 11 11 tg 1 10 10 (by kernel_rfl) (by kernel_rfl) 11 _ _ (Nw48.out.at 3 rfl) 10 (by decide) (fun j=>dig (T+y*b+q*m) (1+j)) (fun j hj=>(cO (Nw48.out.at 3 rfl) _).trans (fa_get _ _ _ _ (by omega))) (by decide) (fun w49 hw hb hs=>hK _ _ ?_)
   have Nw49:=Hd (Nw48.out.store 3 rfl hb hs hw)
   clear hK hw hb hs Nw48
   try simp only [Act.put,s_,t_,u_,v_,x_,y_]
   refine wpAny_done (by kernel_rfl) ?_ _
   try simp only [Act.put,s_,t_,u_,v_,x_,y_]
   go_upto_region 9 with (fail)
   refine wp_region_lit ?_
   refine pL rfl (.pointer (some ⟨tg,10,none⟩)) (fun u=>by kernel_rfl) ?_
   refine wpList_store_cellL rfl 24 (.tmp 43) (.const (.int .u64 0)) rfl tg 10 (by kernel_rfl) _ _ (wn 0) rfl rfl (Nw49.out.at 3 rfl) (by kernel_rfl) (by rw [fS]; decide) rfl (fun w50 hw hb hs=>?_)
   rw [put_shift _ HV.out,← HMS.out] at hw
   have Nw50:=Hd (Nw49.out.store 3 rfl hb hs hw)
   clear hw hb hs Nw49
   refine wpList_nil ?_
   try simp only [Act.put,s_,t_,u_,v_,x_,y_]
   go_wp2_with (fail)
   exact ⟨⟨i+1,by omega,by go_num,Nw50.out⟩,by simp [intOf]; omega⟩
  ·obtain rfl:i=n:=by omega
   have hdef:mraw 18446744073709551616 m less i a b=if m≤mon 18446744073709551616 m less b a i then mon 18446744073709551616 m less b a i - m else mon 18446744073709551616 m less b a i:=rfl
   obtain ⟨T,hT⟩:∃ T,T=mon 18446744073709551616 m less b a i:=⟨_,rfl⟩
   rw [← hT] at M hTL hdef
   have HDF:=Hd hdef
   clear hT hdef
   have hRt:=fun h=>raw_top (n:=i) hTL HBM.out HF.out.2.1 hn9 h
   have hRl:=fun h=>raw_low (n:=i) hTL HBM.out HF.out.2.1 h
   have hRd:=fun h=>(raw_dig (n:=i) hTL HBM.out HF.out.2.1 h).1
   have R9:=Hd (show T%pw i<pw 9 from Nat.lt_of_lt_of_le (Nat.mod_lt _ (pw_pos i)) (pw_le hn9))
   have HPL:=Hd (put_low T i hn9)
   obtain ⟨R,hR⟩:∃ R,R=T%pw i:=⟨_,rfl⟩
   rw [← hR] at hRt hRl R9 HPL
   have HRT:=Hd hRt
   have HRL:=Hd hRl
   have HRD:=Hd hRd
   clear hRt hRl hRd hR hlt hi
   go_upto_region 11 with (fail)
   refine wp_region_lit ?_
   refine nL rfl 27 rfl (.agg (nc 0)) (by rw [nZ]; kernel_rfl) ?_
   intro oo w203 hx hx2 hgv hh
   have Nw203:=Hd (show Mem w w203 [(g,nc a,27),(g+1,nc b,27),(g+1+1,nc 0,27),(tg,fa wn 11 (dig T),223),(oo,nc 0,27)] from M.out.new hgv (Nat.le_of_eq hx) hh)
   clear hx hx2 hgv hh M
   refine wpList_nil ?_
   try simp only [Act.put,s_,t_,u_,v_,x_,y_]
   go_upto_region 12 with (fail)
   have D204:=Hd (Nw203.out.drew)
   clear Nw203
   refine wp_region_growT 7 7 (by kernel_rfl) (by kernel_rfl) (fun d v c a w h=>by cases d <;> exact h) ?_
   simp only [List.take_succ_cons,List.take_zero]
   refine pG rfl (.pointer (some ⟨oo,0,none⟩)) (fun u=>by kernel_rfl) ?_
   refine pG rfl (.slice (some ⟨oo,0,none⟩) 9 9) (fun u=>by go_simp) ?_
   refine pG rfl (.pointer (some ⟨x,0,none⟩)) (fun u=>by kernel_rfl) ?_
   refine pG rfl (.pointer (some ⟨x,0,none⟩)) (fun u=>by kernel_rfl) ?_
   refine pG rfl (.pointer (some ⟨x,9,none⟩)) (fun u=>by kernel_rfl) ?_
   refine wpGrow_load_cell rfl 3 (.tmp 49) rfl x 9 (by kernel_rfl) (.int .i64 (i:Int)) _ Tryz.underlying3 rfl (fun u hu=>(cO (grows_at HXB.out (gT _ _ _ D204.out.1 hu)) 9).trans (mtc_n _ _ _ _)) ?_
   refine pG rfl (.slice (some ⟨tg,0,none⟩) i 11) (fun u=>by exact run_slice_hi 223 (.tmp 7) (.tmp 50) rfl tg i 11 (by kernel_rfl) (by kernel_rfl) (by omega) (by decide) Tryz.underlying223 (by kernel_rfl) u) ?_
   refine gN ?_
   try simp only [Act.put,s_,t_,u_,v_,x_,y_]
   refine gS (rs:=[7]) (by kernel_rfl) (by decide) (fun w205 hg6=>?_)
   have Nw205:=Hd (D204.out.grow hg6)
   clear hg6 D204
   refine wpAny_ready (rs:=[7]) (by kernel_rfl) (by simp) ?_
   refine AllReady.cons rfl (fun K hK=>?_) AllReady.nil
   refine step_copy_wn rfl (.tmp 46) (.tmp 51) 158 158 rfl 24 Tryz.underlying158 (by kernel_rfl) oo 0 9 9 tg 0 i 11 (by kernel_rfl) (by kernel_rfl) 9 (dig 0) _ (by rw [← nc_fa]; exact Nw205.out.at 4 rfl) i (Nat.min_eq_left hn9).symm (dig T) (fun j hj=>(cO (Nw205.out.at 3 rfl) _).trans (by rw [Nat.zero_add]; exact fa_get _ _ _ _ (by omega))) (by omega) (fun w206 hw hb hs=>hK _ _ ?_)
   rw [HPL.out] at hw
   have Nw206:=Hd (Nw205.out.store 4 rfl hb hs hw)
   clear hK hw hb hs Nw205
   try simp only [Act.put,s_,t_,u_,v_,x_,y_]
   refine wpAny_done (by kernel_rfl) ?_ _
   try simp only [Act.put,s_,t_,u_,v_,x_,y_]
   go_upto_region 13 with (fail)
   have D207:=Hd (Nw206.out.drew)
   clear Nw206
   refine rGw 9 10 (by kernel_rfl) (by kernel_rfl) (fun d v c a w h=>by cases d <;> exact h) ?_
   simp only [List.take_succ_cons,List.take_zero]
   refine lG rfl (.tmp 10) rfl oo (by kernel_rfl) (fun u hu=>D207.out.up 4 rfl hu) ?_
   refine pG rfl (.pointer (some ⟨x,0,none⟩)) (fun u=>by kernel_rfl) ?_
   refine pG rfl (.pointer (some ⟨x,0,none⟩)) (fun u=>by kernel_rfl) ?_
   refine pG rfl (.pointer (some ⟨x,0,none⟩)) (fun u=>by kernel_rfl) ?_
   refine lN rfl (.tmp 57) rfl x 0 (by kernel_rfl) m (fun u hu=>grows_at HXB.out (gT _ _ _ D207.out.1 hu)) (fun j hj=>mtc_m _ _ _ _ j hj) ?_
   refine fG rfl 18 (.func 18) #[.tmp 54,.tmp 58] #[27,27] rfl #[] #[.agg (nc R),.agg (nc m)] (by kernel_rfl) (by kernel_rfl) (fun u=>cE _ _ _ _ u Tryz.func18 (by kernel_rfl) (by kernel_rfl)) (.tuple #[.agg (nc (dif R m 9)),.bool (decide (R<m))]) (fun u hu=>by exact nat_sub R m u R9.out M9.out) ?_
   refine pG rfl (.tuple #[.agg (nc (dif R m 9)),.bool (decide (R<m))]) (fun u=>by kernel_rfl) ?_
   refine pG rfl (.agg (nc (dif R m 9))) (fun u=>by kernel_rfl) ?_
   refine pG rfl (.bool (decide (R<m))) (fun u=>by kernel_rfl) ?_
   refine gN ?_
   try simp only [Act.put,s_,t_,u_,v_,x_,y_]
   refine grow_alloc (i:=9) (f:=2) (by kernel_rfl) (by decide) rfl rfl 27 rfl (.agg (nc 0)) (by rw [nZ]; kernel_rfl) ?_
   intro dd v208 hx hx2 hgv hh
   have Nv208:=Hd (D207.out.new hgv hx hh)
   have Nv208:Hid (Mem w v208 [(g,nc a,27),(g+1,nc b,27),(g+1+1,nc 0,27),(tg,fa wn 11 (dig T),223),(oo,nc R,27),(dd,nc 0,27)]):=Nv208
   clear hgv hx hx2 hh D207
   try simp only [Act.put,s_,t_,u_,v_,x_,y_]
   refine gS (rs:=[10]) (by kernel_rfl) (by decide) (fun w209 hg6=>?_)
   have Nw209:=Hd (Nv208.out.grow hg6)
   clear hg6 Nv208
   refine wpAny_ready (rs:=[10]) (by kernel_rfl) (by simp) ?_
   refine AllReady.cons rfl (fun K hK=>?_) AllReady.nil
   refine sK rfl 27 (.tmp 11) (.tmp 60) rfl dd rfl _ _ _ rfl (Nw209.out.at 5 rfl) (by rw [nS]; kernel_rfl) (by simp only [nS]) (nO _) (fun w210 hw hb hs=>hK _ _ ?_)
   have Nw210:=Hd (Nw209.out.store 5 rfl hb hs hw)
   clear hK hw hb hs Nw209
   try simp only [Act.put,s_,t_,u_,v_,x_,y_]
   refine wpAny_ready (rs:=[11]) (by kernel_rfl) (by simp) ?_
   refine AllReady.cons rfl (fun K hK=>?_) AllReady.nil
   go_simp
   refine hK _ _ ?_
   clear hK
   try simp only [Act.put,s_,t_,u_,v_,x_,y_]
   refine wpAny_done (by kernel_rfl) ?_ _
   try simp only [Act.put,s_,t_,u_,v_,x_,y_]
   by_cases hz:dig T i≠0
   ·have hmt:=HRD.out hz
    go_upto_region 14 with (fail)
    refine wp_region_lit ?_
    refine pL rfl (.pointer (some ⟨x,0,none⟩)) (fun u=>by kernel_rfl) ?_
    refine pL rfl (.pointer (some ⟨x,0,none⟩)) (fun u=>by kernel_rfl) ?_
    refine pL rfl (.pointer (some ⟨x,9,none⟩)) (fun u=>by kernel_rfl) ?_
    refine lC rfl 3 (.tmp 64) rfl x 9 (by kernel_rfl) (.int .i64 (i:Int)) _ Tryz.underlying3 rfl ((cO (grows_at HXB.out Nw210.out.1) 9).trans (mtc_n _ _ _ _)) ?_
    try simp only [Act.put,s_,t_,u_,v_,x_,y_]
    refine pL rfl (.pointer (some ⟨tg,i,none⟩)) (fun u=>idx_arr 223 (.tmp 7) (.tmp 65) rfl tg i 11 (by kernel_rfl) (by kernel_rfl) (by omega) Tryz.underlying223 (by kernel_rfl) u) ?_
    refine lC rfl 24 (.tmp 66) rfl tg i (by kernel_rfl) (wn (dig T i)) _ Tryz.underlying24 rfl ((cO (Nw210.out.at 3 rfl) i).trans (fa_get wn 11 _ i (by omega))) ?_
    try simp only [Act.put,s_,t_,u_,v_,x_,y_]
    refine pL rfl (.bool true) (fun u=>run_wn _ _ _ _ _ rfl (dig T i) (wn 0) (by kernel_rfl) (by kernel_rfl) ((wn_neq _ _ _).trans (by rw [decide_eq_true hz])) u) ?_
    refine pL rfl (.bool true) (fun u=>by kernel_rfl) ?_
    try simp only [Act.put,s_,t_,u_,v_,x_,y_]
    refine wpList_skipL (by kernel_rfl) ?_
    try simp only [Act.put,s_,t_,u_,v_,x_,y_]
    refine wpList_skipL (by kernel_rfl) ?_
    refine pL rfl (.bool true) (fun u=>by kernel_rfl) ?_
    refine wpList_nil ?_
    try simp only [Act.put,s_,t_,u_,v_,x_,y_]
    go_upto_region 15 with (fail)
    refine wp_region_lit ?_
    refine pL rfl (.pointer (some ⟨x,0,none⟩)) (fun u=>by kernel_rfl) ?_
    refine pL rfl (.pointer (some ⟨x,0,none⟩)) (fun u=>by kernel_rfl) ?_
    refine pL rfl (.pointer (some ⟨x,9,none⟩)) (fun u=>by kernel_rfl) ?_
    refine lC rfl 3 (.tmp 75) rfl x 9 (by kernel_rfl) (.int .i64 (i:Int)) _ Tryz.underlying3 rfl ((cO (grows_at HXB.out Nw210.out.1) 9).trans (mtc_n _ _ _ _)) ?_
    refine pL rfl (.int .i64 (i:Int)) (fun u=>by kernel_rfl) ?_
    refine wpList_nil ?_
    try simp only [Act.put,s_,t_,u_,v_,x_,y_]
    go_upto_region 16 with (fail)
    go_loopw [13] (fun iv wr=>∃ j:Nat,i≤j∧j≤9∧iv=.int .i64 (j:Int)∧Mem w wr [(g,nc a,27),(g+1,nc b,27),(g+1+1,nc 0,27),(tg,fa wn 11 (dig T),223),(oo,nc R,27),(dd,fa wn 9 (cutd (dif R m 9) i j),27)]) (fun iv _=>(9 - intOf iv).toNat)
    case atStart=>exact ⟨i,Nat.le_refl _,hn9,rfl,by rw [cutd_start,← nc_fa]; exact Nw210.out⟩
    case round=>
     obtain ⟨j,hij,hj,rfl,hm⟩:=hrel
     have M:=Hd hm
     clear hm
     by_cases hlt:j<9
     ·go_upto_region 18 with (fail)
      refine wp_region_lit ?_
      refine pL rfl (.int .i64 (j:Int)) (fun u=>by kernel_rfl) ?_
      refine pL rfl (.pointer (some ⟨dd,0,none⟩)) (fun u=>by kernel_rfl) ?_
      refine pL rfl (.pointer (some ⟨dd,j,none⟩)) (idx_arr 25 (.tmp 82) (.tmp 81) rfl dd j 9 (by kernel_rfl) (by kernel_rfl) hlt Tryz.underlying25 (by kernel_rfl)) ?_
      refine wpList_store_cellL rfl 24 (.tmp 83) (.const (.int .u64 0)) rfl dd j (by kernel_rfl) _ _ (wn 0) rfl rfl (M.out.at 5 rfl) (by kernel_rfl) (by rw [fS]; exact hlt) rfl (fun w2 hw hb hs=>?_)
      rw [fa_set,cutd_step _ _ _ hij] at hw
      have M2:=Hd (M.out.store 5 rfl hb hs hw)
      clear hw hb hs M
      refine wpList_nil ?_
      try simp only [Act.put,s_,t_,u_,v_,x_,y_]
      go_wp2_with (fail)
      exact ⟨⟨j+1,by omega,by omega,by go_num,M2.out⟩,by simp [intOf]; omega⟩
     ·obtain rfl:j=9:=by omega
      have hm:=M.out
      rw [cutd_all,HRT.out hmt] at hm
      have M9b:=Hd hm
      clear hm M
      go_upto_region 19 with (fail)
      refine wp_region_lit ?_
      refine l0N rfl (.tmp 11) rfl dd (by kernel_rfl) (M9b.out.at 5 rfl) ?_
      refine sB rfl 27 (.tmp 6) (.tmp 84) rfl (g+1+1) (by kernel_rfl) _ _ (nc ((T - m))) (by kernel_rfl) (M9b.out.at 2 rfl) (by rw [nS]; kernel_rfl) (by simp only [nS]) (nO _) ?_
      intro w251 hw hb hs
      have Nw251:=Hd (M9b.out.store 2 rfl hb hs hw)
      clear hw hb hs M9b
      refine wpList_nil ?_
      try simp only [Act.put,s_,t_,u_,v_,x_,y_]
      go_wp2_with (fail)
      refine bodyPost_ret (results_N rfl _ _ (g+1+1) _ _ _ rfl (Nw251.out.at 2 rfl)) rfl ⟨by rw [HDF.out,if_pos hmt],Nw251.out.below⟩
   ·replace hz:dig T i=0:=by omega
    have hRT:=HRL.out hz
    by_cases hmt:m≤T
    ·skip
     have hu:decide (R<m)=false:=decide_eq_false (by omega)
     go_upto_region 14 with (fail)
     refine wp_region_lit ?_
     refine pL rfl (.pointer (some ⟨x,0,none⟩)) (fun u=>by kernel_rfl) ?_
     refine pL rfl (.pointer (some ⟨x,0,none⟩)) (fun u=>by kernel_rfl) ?_
     refine pL rfl (.pointer (some ⟨x,9,none⟩)) (fun u=>by kernel_rfl) ?_
     refine lC rfl 3 (.tmp 64) rfl x 9 (by kernel_rfl) (.int .i64 (i:Int)) _ Tryz.underlying3 rfl ((cO (grows_at HXB.out Nw210.out.1) 9).trans (mtc_n _ _ _ _)) ?_
     try simp only [Act.put,s_,t_,u_,v_,x_,y_]
     refine pL rfl (.pointer (some ⟨tg,i,none⟩)) (fun u=>idx_arr 223 (.tmp 7) (.tmp 65) rfl tg i 11 (by kernel_rfl) (by kernel_rfl) (by omega) Tryz.underlying223 (by kernel_rfl) u) ?_
     refine lC rfl 24 (.tmp 66) rfl tg i (by kernel_rfl) (wn (dig T i)) _ Tryz.underlying24 rfl ((cO (Nw210.out.at 3 rfl) i).trans (fa_get wn 11 _ i (by omega))) ?_
     try simp only [Act.put,s_,t_,u_,v_,x_,y_]
     refine pL rfl (.bool false) (fun u=>run_wn _ _ _ _ _ rfl (dig T i) (wn 0) (by kernel_rfl) (by kernel_rfl) ((wn_neq _ _ _).trans (by rw [show decide (dig T i≠0)=false from decide_eq_false (fun h=>h hz)])) u) ?_
     refine pL rfl (.bool false) (fun u=>by kernel_rfl) ?_
     try simp only [Act.put,s_,t_,u_,v_,x_,y_]
     refine wL (by kernel_rfl) (.bool false) (fun u=>by rw [← hu]; kernel_rfl) ?_
     try simp only [Act.put,s_,t_,u_,v_,x_,y_]
     refine wL (by kernel_rfl) (.bool true) (fun u=>by kernel_rfl) ?_
     try simp only [Act.put,s_,t_,u_,v_,x_,y_]
     refine pL rfl (.bool true) (fun u=>by kernel_rfl) ?_
     refine wpList_nil ?_
     try simp only [Act.put,s_,t_,u_,v_,x_,y_]
     go_upto_region 15 with (fail)
     refine wp_region_lit ?_
     refine pL rfl (.pointer (some ⟨x,0,none⟩)) (fun u=>by kernel_rfl) ?_
     refine pL rfl (.pointer (some ⟨x,0,none⟩)) (fun u=>by kernel_rfl) ?_
     refine pL rfl (.pointer (some ⟨x,9,none⟩)) (fun u=>by kernel_rfl) ?_
     refine lC rfl 3 (.tmp 75) rfl x 9 (by kernel_rfl) (.int .i64 (i:Int)) _ Tryz.underlying3 rfl ((cO (grows_at HXB.out Nw210.out.1) 9).trans (mtc_n _ _ _ _)) ?_
     refine pL rfl (.int .i64 (i:Int)) (fun u=>by kernel_rfl) ?_
     refine wpList_nil ?_
     try simp only [Act.put,s_,t_,u_,v_,x_,y_]
     go_upto_region 16 with (fail)
     go_loopw [13] (fun iv wr=>∃ j:Nat,i≤j∧j≤9∧iv=.int .i64 (j:Int)∧Mem w wr [(g,nc a,27),(g+1,nc b,27),(g+1+1,nc 0,27),(tg,fa wn 11 (dig T),223),(oo,nc R,27),(dd,fa wn 9 (cutd (dif R m 9) i j),27)]) (fun iv _=>(9 - intOf iv).toNat)
     case atStart=>exact ⟨i,Nat.le_refl _,hn9,rfl,by rw [cutd_start,← nc_fa]; exact Nw210.out⟩
     case round=>
      obtain ⟨j,hij,hj,rfl,hm⟩:=hrel
      have M:=Hd hm
      clear hm
      by_cases hlt:j<9
      ·go_upto_region 18 with (fail)
       refine wp_region_lit ?_
       refine pL rfl (.int .i64 (j:Int)) (fun u=>by kernel_rfl) ?_
       refine pL rfl (.pointer (some ⟨dd,0,none⟩)) (fun u=>by kernel_rfl) ?_
       refine pL rfl (.pointer (some ⟨dd,j,none⟩)) (idx_arr 25 (.tmp 82) (.tmp 81) rfl dd j 9 (by kernel_rfl) (by kernel_rfl) hlt Tryz.underlying25 (by kernel_rfl)) ?_
       refine wpList_store_cellL rfl 24 (.tmp 83) (.const (.int .u64 0)) rfl dd j (by kernel_rfl) _ _ (wn 0) rfl rfl (M.out.at 5 rfl) (by kernel_rfl) (by rw [fS]; exact hlt) rfl (fun w2 hw hb hs=>?_)
       rw [fa_set,cutd_step _ _ _ hij] at hw
       have M2:=Hd (M.out.store 5 rfl hb hs hw)
       clear hw hb hs M
       refine wpList_nil ?_
       try simp only [Act.put,s_,t_,u_,v_,x_,y_]
       go_wp2_with (fail)
       exact ⟨⟨j+1,by omega,by omega,by go_num,M2.out⟩,by simp [intOf]; omega⟩
      ·obtain rfl:j=9:=by omega
       have hm:=M.out
       rw [cutd_all,HRT.out hmt] at hm
       have M9b:=Hd hm
       clear hm M
       go_upto_region 19 with (fail)
       refine wp_region_lit ?_
       refine l0N rfl (.tmp 11) rfl dd (by kernel_rfl) (M9b.out.at 5 rfl) ?_
       refine sB rfl 27 (.tmp 6) (.tmp 84) rfl (g+1+1) (by kernel_rfl) _ _ (nc ((T - m))) (by kernel_rfl) (M9b.out.at 2 rfl) (by rw [nS]; kernel_rfl) (by simp only [nS]) (nO _) ?_
       intro w251 hw hb hs
       have Nw251:=Hd (M9b.out.store 2 rfl hb hs hw)
       clear hw hb hs M9b
       refine wpList_nil ?_
       try simp only [Act.put,s_,t_,u_,v_,x_,y_]
       go_wp2_with (fail)
       refine bodyPost_ret (results_N rfl _ _ (g+1+1) _ _ _ rfl (Nw251.out.at 2 rfl)) rfl ⟨by rw [HDF.out,if_pos hmt],Nw251.out.below⟩
    ·skip
     have hu:decide (R<m)=true:=decide_eq_true (by omega)
     go_upto_region 14 with (fail)
     refine wp_region_lit ?_
     refine pL rfl (.pointer (some ⟨x,0,none⟩)) (fun u=>by kernel_rfl) ?_
     refine pL rfl (.pointer (some ⟨x,0,none⟩)) (fun u=>by kernel_rfl) ?_
     refine pL rfl (.pointer (some ⟨x,9,none⟩)) (fun u=>by kernel_rfl) ?_
     refine lC rfl 3 (.tmp 64) rfl x 9 (by kernel_rfl) (.int .i64 (i:Int)) _ Tryz.underlying3 rfl ((cO (grows_at HXB.out Nw210.out.1) 9).trans (mtc_n _ _ _ _)) ?_
     try simp only [Act.put,s_,t_,u_,v_,x_,y_]
     refine pL rfl (.pointer (some ⟨tg,i,none⟩)) (fun u=>idx_arr 223 (.tmp 7) (.tmp 65) rfl tg i 11 (by kernel_rfl) (by kernel_rfl) (by omega) Tryz.underlying223 (by kernel_rfl) u) ?_
     refine lC rfl 24 (.tmp 66) rfl tg i (by kernel_rfl) (wn (dig T i)) _ Tryz.underlying24 rfl ((cO (Nw210.out.at 3 rfl) i).trans (fa_get wn 11 _ i (by omega))) ?_
     try simp only [Act.put,s_,t_,u_,v_,x_,y_]
     refine pL rfl (.bool false) (fun u=>run_wn _ _ _ _ _ rfl (dig T i) (wn 0) (by kernel_rfl) (by kernel_rfl) ((wn_neq _ _ _).trans (by rw [show decide (dig T i≠0)=false from decide_eq_false (fun h=>h hz)])) u) ?_
     refine pL rfl (.bool false) (fun u=>by kernel_rfl) ?_
     try simp only [Act.put,s_,t_,u_,v_,x_,y_]
     refine wL (by kernel_rfl) (.bool true) (fun u=>by rw [← hu]; kernel_rfl) ?_
     try simp only [Act.put,s_,t_,u_,v_,x_,y_]
     refine wL (by kernel_rfl) (.bool false) (fun u=>by kernel_rfl) ?_
     try simp only [Act.put,s_,t_,u_,v_,x_,y_]
     refine pL rfl (.bool false) (fun u=>by kernel_rfl) ?_
     refine wpList_nil ?_
     try simp only [Act.put,s_,t_,u_,v_,x_,y_]
     go_upto_region 20 with (fail)
     refine wp_region_lit ?_
     refine l0N rfl (.tmp 10) rfl oo (by kernel_rfl) (Nw210.out.at 4 rfl) ?_
     refine sB rfl 27 (.tmp 6) (.tmp 85) rfl (g+1+1) (by kernel_rfl) _ _ (nc R) (by kernel_rfl) (Nw210.out.at 2 rfl) (by rw [nS]; kernel_rfl) (by simp only [nS]) (nO _) ?_
     intro w251 hw hb hs
     have Nw251:=Hd (Nw210.out.store 2 rfl hb hs hw)
     clear hw hb hs Nw210
     refine wpList_nil ?_
     try simp only [Act.put,s_,t_,u_,v_,x_,y_]
     go_wp2_with (fail)
     refine bodyPost_ret (results_N rfl _ _ (g+1+1) _ _ _ rfl (Nw251.out.at 2 rfl)) rfl ⟨by rw [HDF.out,if_neg hmt,hRT],Nw251.out.below⟩
end Go.Proofs.YtkoonhiplicbkaaGreat.Cw
