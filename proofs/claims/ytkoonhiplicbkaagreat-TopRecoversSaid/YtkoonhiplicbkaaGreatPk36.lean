/-
  (package curvettop) short, pick; whole numbers as words. Condition: a text is one.
  (package divide) Modulus.Rest; (package mont) New. Condition: an odd modulus from 3 on.
-/
import Derived.Test.YtkoonhiplicbkaaGreatPk7
import Derived.Test.YtkoonhiplicbkaaGreatPk33
import Derived.Test.YtkoonhiplicbkaaGreatPk35
set_option linter.unusedSimpArgs false
set_option linter.unusedVariables false
namespace Go.Proofs.YtkoonhiplicbkaaGreat.Cw
open Go Go.RowKit
def uw (a:Int):Nat:=(a%18446744073709551616).toNat
theorem uw_lt (a:Int):uw a<18446744073709551616:=by unfold uw; omega
theorem uw_wrap (a:Int):Value.int .u64 (IntKind.u64.wrap a)=wn (uw a):=by
 have h:IntKind.u64.wrap a=((uw a:Nat):Int):=by
  simp only [IntKind.wrap,IntKind.bits,IntKind.signed,uw]
  simp
  omega
 rw [h]; rfl
theorem conv_uw {P:Program} {ρ:Operand→Value} {o:Oper} (src dst:TypeId) (x:Operand) (ho:o.op=.convert src dst x) (q:Int) (hx:ρ x=.int .i64 q) (hs:P.underlying src=some (.int .i64)) (hd:P.underlying dst=some (.int .u64)) (u:World) :
  (execOp ρ o).run P u=.ok (.value (wn (uw q))) u:=by
 obtain ⟨d,op,type,pos,after,guard⟩:=o
 subst ho
 rw [← uw_wrap]
 simp [execOp,hx,convert,run_underlying hs,run_underlying hd,Conv.intToInt]
theorem idx_wn {P:Program} {ρ:Operand→Value} {o:Oper} (t:TypeId) (x i:Operand) (ho:o.op=.indexAddr t x i) (g n cap q sz:Nat) {e:TypeId} (hx:ρ x=.slice (some ⟨g,0,none⟩) n cap) (hi:ρ i=wn q) (hq:q<n)
  (ht:P.underlying t=some (.slice e)) (hs:(P.info? e).map (·.size)=some sz) (u:World):(execOp ρ o).run P u=.ok (.value (.pointer (some ⟨g,q*sz,none⟩))) u:=by
 obtain ⟨dst,op,type,pos,after,guard⟩:=o
 subst ho
 have h1:¬ ((q:Int)<0):=by omega
 have h2:((q:Int)<n):=by omega
 have h3:(q:Int).toNat=q:=rfl
 cases hie:P.info? e with
 | none=>simp [hie] at hs
 | some ie=>
  have hs2:ie.size=sz:=by simpa [hie] using hs
  have hi2:ρ i=.int .u64 (q:Int):=hi
  simp [execOp,Instr.indexAt,hx,hi2,run_underlying ht,sizeOf,typeInfo,hie,hs2,hq,h1,h2,h3,Addr.add_lit,asIntOf]
theorem short_calls (s:ByteArray) (w:World) (hs:s.size≤140737488355328):Calls Tryz.prog 10 #[.string s,.int .i64 100] w fun e w'=>e=.returned (.string (shortS s))∧w=w':=by
 go_enter Tryz.func10,Tryz.ntmps10
 by_cases h:100<s.size
 ·have e:shortS s=s.extract 0 100:=if_pos h
  go_wp2; go_ret; exact ⟨by rw [e]; rfl,rfl⟩
 ·have e:shortS s=s:=if_neg h
  go_wp2; go_ret; exact ⟨by rw [e]; rfl,rfl⟩
def pkI (i:Nat):Int:=[13,14,15,2,3,6,8,13,14,15,4,9,10,5,11,12].getD i 13
theorem pkI_k (i:Nat):∃ k:CK,pkI i=(k.1:Int):=by
 by_cases h:i<16
 ·have:∀ j,j<16→1≤pkI j∧pkI j≤15:=by decide
  obtain ⟨h1,h2⟩:=this i h
  exact ⟨⟨(pkI i).toNat,by omega,by omega⟩,by show pkI i=((pkI i).toNat:Int); omega⟩
 ·refine ⟨⟨13,by decide,by decide⟩,?_⟩
  show List.getD _ i 13=13
  rw [List.getD_eq_getElem?_getD,List.getElem?_eq_none (by simpa using h)]; rfl
attribute [local irreducible] pkI
theorem pick_calls (a:Int) (w:World):Calls Tryz.prog 7 #[.int .i64 a] w fun e w'=>e=.returned (.int .i64 (pkI (uw a%16)))∧Below w.heap.size w w':=by
 have HQ:=Hd (Nat.mod_lt (uw a) (show 0<16 by decide))
 go_enter Tryz.func7,Tryz.ntmps7
 go_upto_region 1 with fail
 refine wp_region_lit ?_
 refine wpList_buildSlice_fa (fun x:Int=>.int .i64 x) .i64 id (fun _=>rfl) rfl 64 3 16 _ rfl pkI Tryz.underlying64 (by kernel_rfl) (by kernel_rfl) (by decide) (by decide) (by kernel_rfl) ?_
 have H:=Hd (new1 w (.cells (fa (fun x:Int=>Value.int .i64 x) 16 pkI) 3 (0,0)))
 have B:=Hd (Below.alloc (Below.refl w.heap.size w) (Nat.le_refl _) (.cells (fa (fun x:Int=>Value.int .i64 x) 16 pkI) 3 (0,0)))
 generalize World.alloc _ _=w1 at H B ⊢
 obtain ⟨g,hg⟩:∃ g,g=w.heap.size:=⟨_,rfl⟩
 rw [← hg] at H ⊢
 refine pL rfl (.slice (some ⟨g,0,none⟩) 16 16) (fun u=>by kernel_rfl) ?_
 refine wpList_nil ?_
 try simp only [Act.put,s_,t_,u_,v_,x_,y_]
 go_upto_region 2 with (fail)
 refine wp_region_lit ?_
 refine pL rfl (.slice (some ⟨g,0,none⟩) 16 16) (fun u=>by kernel_rfl) ?_
 refine pL rfl (.int .i64 a) (fun u=>by kernel_rfl) ?_
 refine pL rfl (wn (uw a)) (conv_uw 3 46 (.tmp 6) rfl a (by kernel_rfl) Tryz.underlying3 Tryz.underlying46) ?_
 refine pL rfl (wn (uw a%16)) (run_wn _ _ _ _ _ rfl (uw a) (wn 16) (by kernel_rfl) (by kernel_rfl) (wn_rem _ _ _ (uw_lt _) (by decide))) ?_
 refine pL rfl (.pointer (some ⟨g,uw a%16*1,none⟩)) (idx_wn 64 (.tmp 5) (.tmp 8) rfl g 16 16 (uw a%16) 1 (by kernel_rfl) (by kernel_rfl) HQ.out Tryz.underlying64 (by kernel_rfl)) ?_
 refine lC rfl 3 (.tmp 9) rfl g (uw a%16*1) (by kernel_rfl) (.int .i64 (pkI (uw a%16))) _ Tryz.underlying3 rfl ((cO H.out _).trans (by rw [Nat.mul_one]; exact fa_get _ _ _ _ HQ.out)) ?_
 refine pL rfl (.int .i64 (pkI (uw a%16))) (fun u=>by kernel_rfl) ?_
 refine wpList_nil ?_
 try simp only [Act.put,s_,t_,u_,v_,x_,y_]
 go_wp2_with (fail)
 go_ret
 exact ⟨rfl,B.out⟩
end Go.Proofs.YtkoonhiplicbkaaGreat.Cw
set_option maxHeartbeats 4000000
set_option maxRecDepth 100000
namespace Go.Proofs.YtkoonhiplicbkaaGreat.Cw
open Go Go.RowKit
attribute [local go_sem ↓ high] wn_eql wn_neq wn_lss wn_gtr wn_leq wn_geq wn_cells wRS wn_guard lit0 lit1
attribute [local go_sem high] wn_match wRS wn_eql wn_neq wn_lss wn_gtr wn_leq wn_geq
def nwd (m:Nat):Nat:=(bl m+63) / 64
theorem nwd_le (m:Nat) (h:m<pw 9):nwd m≤9:=by have:=bl_le576 m h; unfold nwd; omega
theorem nwd_lt (m:Nat):m<pw (nwd m):=by
 rw [pw_two]
 exact Nat.lt_of_lt_of_le (bl_lt m) (Nat.pow_le_pow_right (by decide) (by unfold nwd; omega))
def nI (m:Nat):Nat→Nat
 | 0=>m%18446744073709551616
 | i+1=>newt m (nI m i)
theorem nI_succ (m i:Nat):nI m (i+1)=newt m (nI m i):=by rw [nI]
theorem mless_nI (m:Nat):mless m=(18446744073709551616 - nI m 5%18446744073709551616)%18446744073709551616:=rfl
theorem mless_lt (m:Nat):mless m<18446744073709551616:=by unfold mless; exact Nat.mod_lt _ (by decide)
theorem newt_run (m x:Nat):x*subW 2 (dig m 0*x%18446744073709551616)%18446744073709551616=newt m x:=by
 unfold newt subW
 rw [dig_nought,Nat.mod_mul_mod,Nat.mod_mod]
theorem run_neg {P:Program} {ρ:Operand→Value} {o:Oper} (t:TypeId) (x:Operand) (ho:o.op=.unOp .neg t x) (a:Nat) (hx:ρ x=wn a) (u:World):(execOp ρ o).run P u=.ok (.value (wn ((18446744073709551616 - a%18446744073709551616)%18446744073709551616))) u:=by
 obtain ⟨d,op,type,pos,after,guard⟩:=o
 subst ho
 have h:IntKind.u64.wrap (-(a:Int))=(((18446744073709551616 - a%18446744073709551616)%18446744073709551616:Nat):Int):=by
  simp only [IntKind.wrap,IntKind.bits,IntKind.signed]
  simp
  omega
 have hx':ρ x=.int .u64 (a:Int):=hx
 simp only [execOp,hx',Go.Op.unary,Go.Op.intArith,Sem.run_bind,Sem.run_pure,Result.andThen_ok,Int.zero_sub,h]
 rfl
theorem put_up (r:Nat) (h:r<pw 9):fa wn 18 (putd (dig 0) 1 9 (dig r))=wc (r*18446744073709551616):=fa_ext _ _ _ _ fun j hj=>by
 unfold putd
 by_cases h1:1≤j∧j<1+9
 ·rw [if_pos h1]
  obtain ⟨i,rfl⟩:∃ i,j=i+1:=⟨j - 1,by omega⟩
  rw [Nat.add_sub_cancel]
  unfold dig
  rw [pw_succ,Nat.mul_div_mul_right _ _ (by decide)]
 ·rw [if_neg h1,dig_zero]
  rcases (show j=0∨10≤j by omega) with rfl | h2
  ·rw [dig_nought,Nat.mul_mod_left]
  ·rw [dig_high _ 10 (by rw [pw_succ]; exact Nat.mul_lt_mul_of_pos_right h (by decide)) j h2]
theorem pw_step (i m:Nat):pw i%m*18446744073709551616%m=pw (i+1)%m:=by rw [Nat.mod_mul_mod,pw_succ]
theorem step_box {P:Program} {ops:Array Oper} {o:Oper} {a:Act} {w:World} {K:Act→World→Prop} {Q:Exit→Act→World→Prop} {E:Prop} (hgd:o.guard=none) (t:TypeId) (x:Operand) (ho:o.op=.box t x) (cs:Array Value) (hv:(a.eval x).cells=cs)
  (h:∀ y w',w.heap.size=y→Grows w w'→w'.heap[y]?=some (.cells cs t (0,0))→K (a.put o.dst (.pointer (some ⟨y,0,none⟩))) w'):if Region.wanted o (yielded ops a.tmps)=true then Oper.wp P o a w K Q else E:=by
 have hw:Region.wanted o (yielded ops a.tmps)=true:=by simp [Region.wanted,hgd]
 rw [if_pos hw]
 unfold Oper.wp execOp
 simp only [ho,Instr.box,newVar,hv,Sem.run_bind,Sem.run_pure,Result.andThen_ok]
 exact h _ _ rfl (grows_alloc _ _) (new1 _ _)
theorem one_pw9:1<pw 9:=by decide +kernel
theorem three_pw9:3<pw 9:=by decide +kernel
theorem wc_fa (n:Nat):wc n=fa wn 18 (dig n):=rfl
theorem mtc_set (m n l r:Nat):(mtc m n 0 r).setIfInBounds 10 (wn l)=mtc m n l r:=by
 apply Array.ext_getElem?
 intro j
 rw [Array.getElem?_setIfInBounds]
 by_cases h:10=j
 ·subst h; rw [if_pos rfl,mtc_less,if_pos (by rw [mtc_size]; decide)]
 ·rw [if_neg h]
  unfold mtc
  simp only [Array.getElem?_append,nS]
  split
  ·rfl
  ·simp only [List.size_toArray,List.length_cons,List.length_nil]
   split
   ·have:j - 9=0:=by omega
    rw [this]; rfl
   ·rfl
theorem mtc_fld (m n l:Nat):∀ B,(fun S:Array Value=>(nc m++#[.int .i64 (n:Int),wn l])++S) B=(nc m++#[.int .i64 (n:Int),wn l])++(B++#[]):=fun B=>by simp
theorem mtc_eq (m n l r:Nat):mtc m n l r=(nc m++#[.int .i64 (n:Int),wn l])++nc r:=by simp [mtc]
attribute [local irreducible] nc mtc wc
theorem modulus_rest (d A m:Nat) (w:World) (hA:A<pw 18) (H:DivAt w d m):Calls Tryz.prog 107 #[.agg #[.pointer (some ⟨d,0,none⟩)],.agg (wc A)] w fun e w'=>e=.returned (.agg (nc (A%m)))∧Below w.heap.size w w':=by
 have HD:=Hd H
 have HAA:=Hd hA
 clear H hA
 go_enter Tryz.func107,Tryz.ntmps107
 go_upto_region 1 with fail
 rw [← nZ]
 have m0:=Mem.start3 w (#[.pointer (some ⟨d,0,none⟩)]) (wc A) (nc 0) 92 154 27
 obtain ⟨w1,hw1⟩:∃ w1:World,w1=(((w.alloc (.cells (#[.pointer (some ⟨d,0,none⟩)]) 92)).alloc (.cells (wc A) 154)).alloc (.cells (nc 0) 27)):=⟨_,rfl⟩
 rw [← hw1] at m0 ⊢
 clear hw1
 obtain ⟨g,hg⟩:∃ g,g=w.heap.size:=⟨_,rfl⟩
 rw [← hg] at m0 ⊢
 have HG:=Hd hg
 have M:=Hd m0
 clear hg m0
 have D2:=Hd (M.out.drew)
 clear M
 refine rGw 8 10 (by kernel_rfl) (by kernel_rfl) (fun d v c a w h=>by cases d <;> exact h) ?_
 simp only [List.take_succ_cons,List.take_zero]
 refine pG rfl (.pointer (some ⟨g,0,none⟩)) (fun u=>by kernel_rfl) ?_
 refine wpGrow_load_cell rfl 90 (.tmp 8) rfl g 0 (by kernel_rfl) (.pointer (some ⟨d,0,none⟩)) _ Tryz.underlying90 rfl (fun u hu=>(cO (D2.out.up 0 rfl hu) 0).trans (rfl)) ?_
 refine pG rfl (.pointer (some ⟨g+1,0,none⟩)) (fun u=>by kernel_rfl) ?_
 refine pG rfl (.slice (some ⟨g+1,0,none⟩) 18 18) (fun u=>by go_simp) ?_
 refine fG rfl 86 (.func 86) #[.tmp 9,.tmp 11] #[90,158] rfl #[] #[.pointer (some ⟨d,0,none⟩),.slice (some ⟨g+1,0,none⟩) 18 18] (by kernel_rfl) (by kernel_rfl) (fun u=>cE _ _ _ _ u Tryz.func86 (by kernel_rfl) (by kernel_rfl)) (.tuple #[.agg (wc (A / m)),.agg (nc ((A%m)))]) (fun u hu=>by exact div_at d (g+1) A m 18 18 u (HD.out.up (gT _ _ _ D2.out.1 hu)) (by decide) HAA.out (Array.getElem?_eq_some_iff.mp (D2.out.up 1 rfl hu)).1 (fun i hi=>(cO (D2.out.up 1 rfl hu) i).trans (wc_get _ _ hi))) ?_
 refine pG rfl (.tuple #[.agg (wc (A / m)),.agg (nc ((A%m)))]) (fun u=>by kernel_rfl) ?_
 refine pG rfl (.agg (wc (A / m))) (fun u=>by kernel_rfl) ?_
 refine pG rfl (.agg (nc ((A%m)))) (fun u=>by kernel_rfl) ?_
 refine gN ?_
 try simp only [Act.put,s_,t_,u_,v_,x_,y_]
 refine grow_alloc2 (i:=8) (j:=9) (f:=2) (by kernel_rfl) (by decide) (by kernel_rfl) (by kernel_rfl) (by decide) (by decide) rfl rfl rfl rfl (fun _ h=>by cases h; decide) 154 27 rfl rfl (.agg (wc 0)) (.agg (nc 0)) (by rw [wc_zero]; kernel_rfl) (by rw [nZ]; kernel_rfl) ?_
 intro y z v3 hx hx2 hy hy2 hxy hgv hh hh2
 have Nv3:=Hd (D2.out.new2 hgv hx hy hxy hh hh2)
 have Nv3:Hid (Mem w v3 [(g,#[.pointer (some ⟨d,0,none⟩)],92),(g+1,wc A,154),(g+1+1,nc 0,27),(y,wc 0,154),(z,nc 0,27)]):=Nv3
 clear hgv hx hx2 hy hy2 hxy hh hh2 D2
 try simp only [Act.put,s_,t_,u_,v_,x_,y_]
 refine gS (rs:=[10]) (by kernel_rfl) (by decide) (fun w4 hg6=>?_)
 have Nw4:=Hd (Nv3.out.grow hg6)
 clear hg6 Nv3
 refine wpAny_ready (rs:=[10]) (by kernel_rfl) (by simp) ?_
 refine AllReady.cons rfl (fun K hK=>?_) AllReady.nil
 refine sK rfl 154 (.tmp 5) (.tmp 13) rfl y rfl _ _ _ rfl (Nw4.out.at 3 rfl) (by rw [wc_size]; kernel_rfl) (by rw [wc_size,wc_size]) (wc_one _) (fun w5 hw hb hs=>hK _ _ ?_)
 have Nw5:=Hd (Nw4.out.store 3 rfl hb hs hw)
 clear hK hw hb hs Nw4
 try simp only [Act.put,s_,t_,u_,v_,x_,y_]
 refine wpAny_ready (rs:=[11]) (by kernel_rfl) (by simp) ?_
 refine AllReady.cons rfl (fun K hK=>?_) AllReady.nil
 refine sK rfl 27 (.tmp 6) (.tmp 14) rfl z rfl _ _ _ rfl (Nw5.out.at 4 rfl) (by rw [nS]; kernel_rfl) (by simp only [nS]) (nO _) (fun w6 hw hb hs=>hK _ _ ?_)
 have Nw6:=Hd (Nw5.out.store 4 rfl hb hs hw)
 clear hK hw hb hs Nw5
 try simp only [Act.put,s_,t_,u_,v_,x_,y_]
 refine wpAny_done (by kernel_rfl) ?_ _
 try simp only [Act.put,s_,t_,u_,v_,x_,y_]
 go_upto_region 2 with (fail)
 refine wp_region_lit ?_
 refine l0N rfl (.tmp 6) rfl z (by kernel_rfl) (Nw6.out.at 4 rfl) ?_
 refine sB rfl 27 (.tmp 4) (.tmp 15) rfl (g+1+1) (by kernel_rfl) _ _ (nc ((A%m))) (by kernel_rfl) (Nw6.out.at 2 rfl) (by rw [nS]; kernel_rfl) (by simp only [nS]) (nO _) ?_
 intro w7 hw hb hs
 have Nw7:=Hd (Nw6.out.store 2 rfl hb hs hw)
 clear hw hb hs Nw6
 refine wpList_nil ?_
 try simp only [Act.put,s_,t_,u_,v_,x_,y_]
 go_wp2_with (fail)
 refine bodyPost_ret (results_N rfl _ _ (g+1+1) _ _ _ rfl (Nw7.out.at 2 rfl)) rfl ⟨rfl,Nw7.out.below⟩
theorem mont_new (m:Nat) (w:World) (hm:m<pw 9) (hodd:m%2=1) (h3:3≤m):Calls Tryz.prog 74 #[.agg (nc m)] w fun e w'=>∃ x,e=.returned (.tuple #[.pointer (some ⟨x,0,none⟩),.int .i64 0])∧MtAt w' x m (nwd m) (mless m)∧w.heap.size≤x∧Below w.heap.size w w':=by
 have HM:=Hd hm
 have HM0:=Hd (show m≠0 by omega)
 have H3:=Hd (show ¬ m<3 by omega)
 have HOD:=Hd (show dig m 0 &&& 1=1 by rw [dig_nought,Nat.and_one_is_mod,Nat.mod_mod_of_dvd _ (by decide:2∣18446744073709551616)]; exact hodd)
 have HLS:=Hd (mless_ok hodd)
 have HN9:=Hd (nwd_le m hm)
 have HBL:=Hd (show bl m+63<9223372036854775808 by have:=bl_le576 m hm; omega)
 have HMP:=Hd (show ∀ t,t%m<pw 9 from fun t=>Nat.lt_trans (Nat.mod_lt _ (by omega)) hm)
 have H1M:=Hd (show 1<m by omega)
 clear hm hodd h3
 go_enter Tryz.func74,Tryz.ntmps74
 go_upto_region 1 with fail
 have m0:=Mem.start1 w (nc m) 27
 obtain ⟨w1,hw1⟩:∃ w1:World,w1=(w.alloc (.cells (nc m) 27)):=⟨_,rfl⟩
 rw [← hw1] at m0 ⊢
 clear hw1
 obtain ⟨g,hg⟩:∃ g,g=w.heap.size:=⟨_,rfl⟩
 rw [← hg] at m0 ⊢
 have HG:=Hd hg
 have M:=Hd m0
 clear hg m0
 have D2:=Hd (M.out.drew)
 clear M
 refine rGw 11 11 (by kernel_rfl) (by kernel_rfl) (fun d v c a w h=>by cases d <;> exact h) ?_
 simp only [List.take_succ_cons,List.take_zero]
 refine pG rfl (.pointer (some ⟨g,0,none⟩)) (fun u=>by kernel_rfl) ?_
 refine pG rfl (.pointer (some ⟨g,0,none⟩)) (fun u=>by kernel_rfl) ?_
 refine wpGrow_load_cell rfl 24 (.tmp 10) rfl g 0 (by kernel_rfl) (wn (dig m 0)) _ Tryz.underlying24 rfl (fun u hu=>(cO (D2.out.up 0 rfl hu) 0).trans (nc_get _ 0 (by decide))) ?_
 refine pG rfl (wn 1) (fun u=>by exact run_wn _ _ _ _ _ rfl (dig m 0) (wn 1) (by kernel_rfl) (by kernel_rfl) ((wn_and _ _ _ (dig_lt _ _) (by decide)).trans (by rw [HOD.out])) u) ?_
 refine pG rfl (.bool false) (fun u=>by kernel_rfl) ?_
 refine pG rfl (.bool false) (fun u=>by kernel_rfl) ?_
 try simp only [Act.put,s_,t_,u_,v_,x_,y_]
 refine lG rfl (.tmp 1) rfl g (by kernel_rfl) (fun u hu=>D2.out.up 0 rfl hu) ?_
 try simp only [Act.put,s_,t_,u_,v_,x_,y_]
 refine fG rfl 47 (.func 47) #[.const (.int .i64 3)] #[3] rfl #[] #[.int .i64 3] (by kernel_rfl) (by kernel_rfl) (fun u=>cE _ _ _ _ u Tryz.func47 (by kernel_rfl) (by kernel_rfl)) (.agg (nc 3)) (fun u hu=>by exact nat_small 3 u (by decide)) ?_
 try simp only [Act.put,s_,t_,u_,v_,x_,y_]
 refine fG rfl 60 (.func 60) #[.tmp 15,.tmp 16] #[27,27] rfl #[] #[.agg (nc m),.agg (nc 3)] (by kernel_rfl) (by kernel_rfl) (fun u=>cE _ _ _ _ u Tryz.func60 (by kernel_rfl) (by kernel_rfl)) (.int .i64 (cmpN m 3)) (fun u hu=>by exact nat_cmp m 3 u HM.out three_pw9) ?_
 try simp only [Act.put,s_,t_,u_,v_,x_,y_]
 refine pG rfl (.bool false) (fun u=>by exact run_bini _ _ _ _ _ rfl (cmpN m 3) 0 (by kernel_rfl) (by kernel_rfl) ((cmp_lssV _ _ _).trans (by rw [decide_eq_false H3.out])) u) ?_
 refine pG rfl (.bool false) (fun u=>by kernel_rfl) ?_
 refine gN ?_
 try simp only [Act.put,s_,t_,u_,v_,x_,y_]
 intro w3 hg6
 refine ⟨by kernel_rfl,?_⟩
 have Nw3:=Hd (D2.out.grow hg6)
 clear hg6 D2
 try simp only [Act.put,s_,t_,u_,v_,x_,y_]
 go_upto_region 3 with (fail)
 have D:=Hd (Nw3.out.drew)
 clear Nw3
 refine wp_region_growT 6 6 (by kernel_rfl) (by kernel_rfl) (fun d v c a w h=>by cases d <;> exact h) ?_
 simp only [List.take_succ_cons,List.take_zero]
 refine lG rfl (.tmp 1) rfl g (by kernel_rfl) (fun u hu=>D.out.up 0 rfl hu) ?_
 refine lG rfl (.tmp 1) rfl g (by kernel_rfl) (fun u hu=>D.out.up 0 rfl hu) ?_
 refine fG rfl 72 (.func 72) #[.tmp 21] #[27] rfl #[] #[.agg (nc m)] (by kernel_rfl) (by kernel_rfl) (fun u=>cE _ _ _ _ u Tryz.func72 (by kernel_rfl) (by kernel_rfl)) (.int .i64 (bl m:Int)) (fun u hu=>by exact nat_bits m u HM.out) ?_
 refine pG rfl (.int .i64 ((bl m+63:Nat):Int)) (fun u=>by exact run_bini _ _ _ _ _ rfl (bl m:Int) ((63:Nat):Int) (by kernel_rfl) (by kernel_rfl) (bi_add _ HBL.out) u) ?_
 refine pG rfl (.int .i64 ((nwd m:Nat):Int)) (fun u=>by exact run_bini _ _ _ _ _ rfl ((bl m+63:Nat):Int) ((64:Nat):Int) (by kernel_rfl) (by kernel_rfl) (bi_quo _ (by decide) HBL.out) u) ?_
 refine wpGrow_built rfl 179 #[(0,.tmp 20),(1,.tmp 24)] rfl ((mtc m (nwd m) 0 0)) (by kernel_rfl) ?_
 refine gN ?_
 try simp only [Act.put,s_,t_,u_,v_,x_,y_]
 refine gS (rs:=[6]) (by kernel_rfl) (by decide) (fun wa hg6=>?_)
 have NA:=Hd (D.out.grow hg6)
 clear hg6 D
 refine wpAny_ready (rs:=[6]) (by kernel_rfl) (by simp) ?_
 refine AllReady.cons rfl (fun K hK=>?_) AllReady.nil
 refine step_box rfl 179 (.tmp 25) rfl (mtc m (nwd m) 0 0) rfl (fun xx wb hx hgv hh=>hK _ _ ?_)
 have NB:=Hd (show Mem w wb [(g,nc m,27),(xx,mtc m (nwd m) 0 0,179)] from NA.out.new hgv (Nat.le_of_eq hx) hh)
 clear hK hx hgv hh NA
 try simp only [Act.put,s_,t_,u_,v_,x_,y_]
 refine wpAny_ready (rs:=[7]) (by kernel_rfl) (by simp) ?_
 refine AllReady.cons rfl (fun K hK=>?_) AllReady.nil
 refine step_pure rfl (.pointer (some ⟨xx,0,none⟩)) (fun u=>by kernel_rfl) (hK _ _ ?_)
 clear hK
 try simp only [Act.put,s_,t_,u_,v_,x_,y_]
 refine wpAny_done (by kernel_rfl) ?_ _
 try simp only [Act.put,s_,t_,u_,v_,x_,y_]
 go_upto_region 4 with (fail)
 refine wp_region_lit ?_
 refine pL rfl (.pointer (some ⟨g,0,none⟩)) (fun u=>by kernel_rfl) ?_
 refine pL rfl (.pointer (some ⟨g,0,none⟩)) (fun u=>by kernel_rfl) ?_
 refine lC rfl 24 (.tmp 28) rfl g 0 (by kernel_rfl) (wn (dig m 0)) _ Tryz.underlying24 rfl ((cO (NB.out.at 0 rfl) 0).trans (nc_get _ 0 (by decide))) ?_
 refine pL rfl (wn (dig m 0)) (fun u=>by kernel_rfl) ?_
 refine wpList_nil ?_
 try simp only [Act.put,s_,t_,u_,v_,x_,y_]
 go_upto_region 5 with (fail)
 refine wp_region_lit ?_
 refine pL rfl (.int .i64 0) (fun u=>by kernel_rfl) ?_
 refine wpList_nil ?_
 try simp only [Act.put,s_,t_,u_,v_,x_,y_]
 go_upto_region 6 with (fail)
 go_loopw [30,5] (fun iv v wr=>∃ i:Nat,i≤5∧iv=.int .i64 (i:Int)∧v=wn (nI m i)∧Mem w wr [(g,nc m,27),(xx,mtc m (nwd m) 0 0,179)]) (fun iv _ _=>(5 - intOf iv).toNat)
 case atStart=>exact ⟨0,by omega,rfl,by rw [dig_nought]; rfl,NB.out⟩
 case round=>
  obtain ⟨i,hi,rfl,rfl,hm⟩:=hrel
  have M:=Hd hm
  clear hm
  by_cases hlt:i<5
  ·have hnt:=newt_run m (nI m i)
   obtain ⟨v,hv⟩:∃ v,v=nI m i:=⟨_,rfl⟩
   rw [← hv] at hnt ⊢
   have HNT:=Hd hnt
   have HV:=Hd hv
   clear hnt hv
   go_upto_region 7 with (fail)
   refine wp_region_lit ?_
   refine pL rfl (wn v) (fun u=>by kernel_rfl) ?_
   refine pL rfl (.pointer (some ⟨g,0,none⟩)) (fun u=>by kernel_rfl) ?_
   refine pL rfl (.pointer (some ⟨g,0,none⟩)) (fun u=>by kernel_rfl) ?_
   refine lC rfl 24 (.tmp 34) rfl g 0 (by kernel_rfl) (wn (dig m 0)) _ Tryz.underlying24 rfl ((cO (M.out.at 0 rfl) 0).trans (nc_get _ 0 (by decide))) ?_
   refine pL rfl (wn v) (fun u=>by kernel_rfl) ?_
   try simp only [Act.put,s_,t_,u_,v_,x_,y_]
   refine pL rfl (wn (dig m 0*v%18446744073709551616)) (fun u=>run_wn _ _ _ _ _ rfl (dig m 0) (wn v) (by kernel_rfl) (by kernel_rfl) (wn_mul _ _ _) u) ?_
   try simp only [Act.put,s_,t_,u_,v_,x_,y_]
   refine pL rfl (wn (subW 2 (dig m 0*v%18446744073709551616))) (fun u=>run_wn _ _ _ _ _ rfl 2 (wn (dig m 0*v%18446744073709551616)) (by kernel_rfl) (by kernel_rfl) (wn_sub _ _ _) u) ?_
   try simp only [Act.put,s_,t_,u_,v_,x_,y_]
   refine pL rfl (wn (newt m v)) (fun u=>run_wn _ _ _ _ _ rfl v (wn (subW 2 (dig m 0*v%18446744073709551616))) (by kernel_rfl) (by kernel_rfl) ((wn_mul _ _ _).trans (by rw [HNT.out])) u) ?_
   refine pL rfl (wn (newt m v)) (fun u=>by kernel_rfl) ?_
   refine wpList_nil ?_
   try simp only [Act.put,s_,t_,u_,v_,x_,y_]
   go_wp2_with (fail)
   exact ⟨⟨i+1,by omega,by go_num,by rw [HV.out,nI_succ],M.out⟩,by simp [intOf]; omega⟩
  ·obtain rfl:i=5:=by omega
   go_upto_region 9 with (fail)
   refine wp_region_lit ?_
   refine pL rfl (.pointer (some ⟨xx,0,none⟩)) (fun u=>by kernel_rfl) ?_
   refine pL rfl (wn (nI m 5)) (fun u=>by kernel_rfl) ?_
   refine pL rfl (wn (mless m)) (fun u=>(run_neg 24 (.tmp 42) rfl (nI m 5) (by kernel_rfl) u).trans (by rw [← mless_nI])) ?_
   refine pL rfl (.pointer (some ⟨xx,0,none⟩)) (fun u=>by kernel_rfl) ?_
   refine pL rfl (.pointer (some ⟨xx,10,none⟩)) (fun u=>by kernel_rfl) ?_
   refine wpList_store_cellL rfl 24 (.tmp 45) (.tmp 43) rfl xx 10 (by kernel_rfl) _ _ (wn (mless m)) (by kernel_rfl) rfl (M.out.at 1 rfl) (by kernel_rfl) (by rw [mtc_size]; decide) rfl (fun wc1 hw hb hs=>?_)
   rw [mtc_set] at hw
   have NC:=Hd (M.out.store 1 rfl hb hs hw)
   clear hw hb hs M
   refine wpList_nil ?_
   try simp only [Act.put,s_,t_,u_,v_,x_,y_]
   go_upto_region 10 with (fail)
   refine wp_region_lit ?_
   refine l0N rfl (.tmp 1) rfl g (by kernel_rfl) (NC.out.at 0 rfl) ?_
   refine wpList_fnE rfl _ _ _ _ rfl #[] #[.agg (nc m)] (by kernel_rfl) (by kernel_rfl) (fun u=>cE _ _ _ _ u Tryz.func42 (by kernel_rfl) (by kernel_rfl)) (fun d=>.agg #[.pointer (some ⟨d,0,none⟩)]) (fun d w'=>DivAt w' d m∧wc1.heap.size≤d∧Below wc1.heap.size wc1 w') (div_by m wc1 HM0.out HM.out) ?_
   intro d wd hd
   obtain ⟨⟨nn,ss,f1,f2,f3,f4,f5,hblk⟩,hds,hbd⟩:=hd
   have NWD:=Hd (show Mem w wd [(g,nc m,27),(xx,mtc m (nwd m) ((mless m)) 0,179),(d,dc (m*2 ^ ss) nn ss,189)] from NC.out.new hbd hds hblk)
   clear hbd hds hblk NC
   have HDV:=Hd (show ∀ u:World,u.heap[d]?=some (.cells (dc (m*2 ^ ss) nn ss) 189 (0,0))→DivAt u d m from fun u h=>⟨nn,ss,f1,f2,f3,f4,f5,h⟩)
   clear f1 f2 f3 f4 f5
   refine nL rfl 92 rfl (.agg #[.pointer none]) (by kernel_rfl) ?_
   intro mo w13 hx hx2 hgv hh
   have NWE:=Hd (show Mem w w13 [(g,nc m,27),(xx,mtc m (nwd m) ((mless m)) 0,179),(d,dc (m*2 ^ ss) nn ss,189),(mo,#[.pointer none],92)] from NWD.out.new hgv (Nat.le_of_eq hx) hh)
   clear hx hx2 hgv hh NWD
   refine sB rfl 92 (.tmp 6) (.tmp 47) rfl mo (by kernel_rfl) _ _ #[.pointer (some ⟨d,0,none⟩)] (by kernel_rfl) (NWE.out.at 3 rfl) (by kernel_rfl) rfl (by intro u hu; simp at hu; subst hu; rfl) ?_
   intro wl hw hb hs
   have NWL:=Hd (NWE.out.store 3 rfl hb hs hw)
   clear hw hb hs NWE
   refine wpList_nil ?_
   try simp only [Act.put,s_,t_,u_,v_,x_,y_]
   go_upto_region 11 with (fail)
   have D4:=Hd (NWL.out.drew)
   clear NWL
   refine rGw 4 5 (by kernel_rfl) (by kernel_rfl) (fun d v c a w h=>by cases d <;> exact h) ?_
   simp only [List.take_succ_cons,List.take_zero]
   refine wpGrow_load_seg rfl 92 (.tmp 6) rfl mo 0 1 (by kernel_rfl) (#[.pointer (some ⟨d,0,none⟩)]) _ Tryz.underlying92 rfl (by kernel_rfl) (rfl) (fun u hu=>D4.out.up 3 rfl hu) (fun j hj=>by rw [Nat.zero_add]) ?_
   refine fG rfl 47 (.func 47) #[.const (.int .i64 1)] #[3] rfl #[] #[.int .i64 1] (by kernel_rfl) (by kernel_rfl) (fun u=>cE _ _ _ _ u Tryz.func47 (by kernel_rfl) (by kernel_rfl)) (.agg (nc 1)) (fun u hu=>by exact nat_small 1 u (by decide)) ?_
   refine fG rfl 47 (.func 47) #[.const (.int .i64 1)] #[3] rfl #[] #[.int .i64 1] (by kernel_rfl) (by kernel_rfl) (fun u=>cE _ _ _ _ u Tryz.func47 (by kernel_rfl) (by kernel_rfl)) (.agg (nc 1)) (fun u hu=>by exact nat_small 1 u (by decide)) ?_
   refine fG rfl 43 (.func 43) #[.tmp 48,.tmp 49,.tmp 50] #[92,27,27] rfl #[] #[.agg #[.pointer (some ⟨d,0,none⟩)],.agg (nc 1),.agg (nc 1)] (by kernel_rfl) (by kernel_rfl) (fun u=>cE _ _ _ _ u Tryz.func43 (by kernel_rfl) (by kernel_rfl)) (.agg (nc ((1*1%m)))) (fun u hu=>by exact modulus_mul d 1 1 m u one_pw9 one_pw9 (HDV.out _ (D4.out.up 2 rfl hu))) ?_
   refine gN ?_
   try simp only [Act.put,s_,t_,u_,v_,x_,y_]
   refine grow_alloc (i:=4) (f:=1) (by kernel_rfl) (by decide) rfl rfl 27 rfl (.agg (nc 0)) (by rw [nZ]; kernel_rfl) ?_
   intro rr v5 hx hx2 hgv hh
   have Nv5:=Hd (D4.out.new hgv hx hh)
   have Nv5:Hid (Mem w v5 [(g,nc m,27),(xx,mtc m (nwd m) ((mless m)) 0,179),(d,dc (m*2 ^ ss) nn ss,189),(mo,#[.pointer (some ⟨d,0,none⟩)],92),(rr,nc 0,27)]):=Nv5
   clear hgv hx hx2 hh D4
   try simp only [Act.put,s_,t_,u_,v_,x_,y_]
   refine gS (rs:=[5]) (by kernel_rfl) (by decide) (fun w6 hg6=>?_)
   have Nw6:=Hd (Nv5.out.grow hg6)
   clear hg6 Nv5
   refine wpAny_ready (rs:=[5]) (by kernel_rfl) (by simp) ?_
   refine AllReady.cons rfl (fun K hK=>?_) AllReady.nil
   refine sK rfl 27 (.tmp 7) (.tmp 51) rfl rr rfl _ _ _ rfl (Nw6.out.at 4 rfl) (by rw [nS]; kernel_rfl) (by simp only [nS]) (nO _) (fun w7 hw hb hs=>hK _ _ ?_)
   have Nw7:=Hd (Nw6.out.store 4 rfl hb hs hw)
   clear hK hw hb hs Nw6
   try simp only [Act.put,s_,t_,u_,v_,x_,y_]
   refine wpAny_done (by kernel_rfl) ?_ _
   try simp only [Act.put,s_,t_,u_,v_,x_,y_]
   go_upto_region 12 with (fail)
   refine wp_region_lit ?_
   refine pL rfl (.pointer (some ⟨xx,0,none⟩)) (fun u=>by kernel_rfl) ?_
   refine pL rfl (.pointer (some ⟨xx,0,none⟩)) (fun u=>by kernel_rfl) ?_
   refine pL rfl (.pointer (some ⟨xx,9,none⟩)) (fun u=>by kernel_rfl) ?_
   refine lC rfl 3 (.tmp 54) rfl xx 9 (by kernel_rfl) (.int .i64 (nwd m:Int)) _ Tryz.underlying3 rfl ((cO (Nw7.out.at 1 rfl) 9).trans (mtc_n _ _ _ _)) ?_
   refine pL rfl (.int .i64 0) (fun u=>by kernel_rfl) ?_
   refine wpList_nil ?_
   try simp only [Act.put,s_,t_,u_,v_,x_,y_]
   go_upto_region 13 with (fail)
   go_loopw [56] (fun iv wr2=>∃ i:Nat,i≤nwd m∧iv=.int .i64 (i:Int)∧Mem w wr2 [(g,nc m,27),(xx,mtc m (nwd m) ((mless m)) 0,179),(d,dc (m*2 ^ ss) nn ss,189),(mo,#[.pointer (some ⟨d,0,none⟩)],92),(rr,nc ((pw i%m)),27)]) (fun iv _=>(nwd m - intOf iv).toNat)
   case atStart=>exact ⟨0,Nat.zero_le _,rfl,Nw7.out⟩
   case round=>
    obtain ⟨i,hi,rfl,hm⟩:=hrel
    have M:=Hd hm
    clear hm
    have hn9:=HN9.out
    by_cases hlt:i<nwd m
    ·have HST:=Hd (pw_step i m)
     obtain ⟨t,ht⟩:∃ t,t=pw i%m:=⟨_,rfl⟩
     rw [← ht] at M HST
     have T9:=Hd (show t<pw 9 by rw [ht]; exact HMP.out _)
     clear ht
     go_upto_region 14 with (fail)
     refine wp_region_lit ?_
     refine nL rfl 154 rfl (.agg (wc 0)) (by rw [wc_zero]; kernel_rfl) ?_
     intro wi w68 hx hx2 hgv hh
     have Nw68:=Hd (show Mem w w68 [(g,nc m,27),(xx,mtc m (nwd m) ((mless m)) 0,179),(d,dc (m*2 ^ ss) nn ss,189),(mo,#[.pointer (some ⟨d,0,none⟩)],92),(rr,nc t,27),(wi,wc 0,154)] from M.out.new hgv (Nat.le_of_eq hx) hh)
     clear hx hx2 hgv hh M
     refine wpList_nil ?_
     try simp only [Act.put,s_,t_,u_,v_,x_,y_]
     go_upto_region 15 with (fail)
     have D:=Hd (Nw68.out.drew)
     clear Nw68
     refine wp_region_growT 4 4 (by kernel_rfl) (by kernel_rfl) (fun d v c a w h=>by cases d <;> exact h) ?_
     simp only [List.take_succ_cons,List.take_zero]
     refine pG rfl (.pointer (some ⟨wi,0,none⟩)) (fun u=>by kernel_rfl) ?_
     refine pG rfl (.slice (some ⟨wi,1,none⟩) 17 17) (fun u=>by go_simp) ?_
     refine pG rfl (.pointer (some ⟨rr,0,none⟩)) (fun u=>by kernel_rfl) ?_
     refine pG rfl (.slice (some ⟨rr,0,none⟩) 9 9) (fun u=>by go_simp) ?_
     refine gN ?_
     try simp only [Act.put,s_,t_,u_,v_,x_,y_]
     refine gS (rs:=[4]) (by kernel_rfl) (by decide) (fun we hg6=>?_)
     have NE:=Hd (D.out.grow hg6)
     clear hg6 D
     refine wpAny_ready (rs:=[4]) (by kernel_rfl) (by simp) ?_
     refine AllReady.cons rfl (fun K hK=>?_) AllReady.nil
     refine step_copy_wn rfl (.tmp 59) (.tmp 61) 158 158 rfl 24 Tryz.underlying158 (by kernel_rfl) wi 1 17 17 rr 0 9 9 (by kernel_rfl) (by kernel_rfl) 18 (dig 0) _ (by rw [← wc_fa]; exact NE.out.at 5 rfl) 9 (by decide) (dig t) (fun j hj=>(cO (NE.out.at 4 rfl) _).trans (by rw [Nat.zero_add]; exact nc_get _ _ hj)) (by decide) (fun wf hw hb hs=>hK _ _ ?_)
     rw [put_up _ T9.out] at hw
     have NF:=Hd (NE.out.store 5 rfl hb hs hw)
     clear hK hw hb hs NE
     try simp only [Act.put,s_,t_,u_,v_,x_,y_]
     refine wpAny_done (by kernel_rfl) ?_ _
     try simp only [Act.put,s_,t_,u_,v_,x_,y_]
     go_upto_region 16 with (fail)
     refine wp_region_lit ?_
     refine lS rfl 92 (.tmp 6) rfl mo 0 1 (by kernel_rfl) _ _ (#[.pointer (some ⟨d,0,none⟩)]) _ _ (NF.out.at 3 rfl) Tryz.underlying92 rfl (by kernel_rfl) (rfl) (fun j hj=>by rw [Nat.zero_add]) ?_
     refine lS rfl 154 (.tmp 8) rfl wi 0 18 (by kernel_rfl) _ _ (wc (t*18446744073709551616)) _ _ (NF.out.at 5 rfl) Tryz.underlying154 rfl (by kernel_rfl) (wc_size _) (fun j hj=>by rw [Nat.zero_add]) ?_
     refine fL rfl 107 (.func 107) #[.tmp 63,.tmp 64] #[92,154] rfl #[] #[.agg #[.pointer (some ⟨d,0,none⟩)],.agg (wc (t*18446744073709551616))] (by kernel_rfl) (by kernel_rfl) (fun u=>cE _ _ _ _ u Tryz.func107 (by kernel_rfl) (by kernel_rfl)) (.agg (nc ((t*18446744073709551616%m)))) (modulus_rest d (t*18446744073709551616) m wf (Nat.lt_of_lt_of_le (Nat.mul_lt_mul_of_pos_right T9.out (by decide)) (by rw [← pw_succ]; exact pw_le (by decide))) (HDV.out _ (NF.out.at 2 rfl))) (fun w69 hb=>?_)
     have Nw69:=Hd (NF.out.grow hb)
     clear hb NF
     refine sB rfl 27 (.tmp 7) (.tmp 65) rfl rr (by kernel_rfl) _ _ (nc ((t*18446744073709551616%m))) (by kernel_rfl) (Nw69.out.at 4 rfl) (by rw [nS]; kernel_rfl) (by simp only [nS]) (nO _) ?_
     intro w70 hw hb hs
     have Nw70:=Hd (Nw69.out.store 4 rfl hb hs hw)
     clear hw hb hs Nw69
     refine wpList_nil ?_
     try simp only [Act.put,s_,t_,u_,v_,x_,y_]
     go_wp2_with (fail)
     have hfin:=Nw70.out.take 5
     rw [HST.out] at hfin
     exact ⟨⟨i+1,by omega,by go_num,hfin⟩,by simp [intOf]; omega⟩
    ·obtain rfl:i=nwd m:=by omega
     obtain ⟨t,ht⟩:∃ t,t=pw (nwd m)%m:=⟨_,rfl⟩
     rw [← ht] at M
     have T9:=Hd (show t<pw 9 by rw [ht]; exact HMP.out _)
     have HTT:=Hd (show t*t%m=pw (nwd m)*pw (nwd m)%m by rw [ht,← Nat.mul_mod])
     clear ht
     go_upto_region 18 with (fail)
     refine wp_region_lit ?_
     refine pL rfl (.pointer (some ⟨xx,0,none⟩)) (fun u=>by kernel_rfl) ?_
     refine lS rfl 92 (.tmp 6) rfl mo 0 1 (by kernel_rfl) _ _ (#[.pointer (some ⟨d,0,none⟩)]) _ _ (M.out.at 3 rfl) Tryz.underlying92 rfl (by kernel_rfl) (rfl) (fun j hj=>by rw [Nat.zero_add]) ?_
     refine l0N rfl (.tmp 7) rfl rr (by kernel_rfl) (M.out.at 4 rfl) ?_
     refine l0N rfl (.tmp 7) rfl rr (by kernel_rfl) (M.out.at 4 rfl) ?_
     refine fL rfl 43 (.func 43) #[.tmp 68,.tmp 69,.tmp 70] #[92,27,27] rfl #[] #[.agg #[.pointer (some ⟨d,0,none⟩)],.agg (nc t),.agg (nc t)] (by kernel_rfl) (by kernel_rfl) (fun u=>cE _ _ _ _ u Tryz.func43 (by kernel_rfl) (by kernel_rfl)) (.agg (nc ((t*t%m)))) (modulus_mul d t t m wr T9.out T9.out (HDV.out _ (M.out.at 2 rfl))) (fun w8 hb=>?_)
     have Nw8:=Hd (M.out.grow hb)
     clear hb M
     refine pL rfl (.pointer (some ⟨xx,0,none⟩)) (fun u=>by kernel_rfl) ?_
     refine pL rfl (.pointer (some ⟨xx,11,none⟩)) (fun u=>by kernel_rfl) ?_
     refine wpList_store_fld rfl 27 (.tmp 73) (.tmp 71) rfl xx 11 (by kernel_rfl) 179 (fun S:Array Value=>(nc m++#[.int .i64 (nwd m:Int),wn (mless m)])++S) (nc m++#[.int .i64 (nwd m:Int),wn (mless m)]) (nc 0) #[] (nc (t*t%m)) (mtc_fld _ _ _) (by kernel_rfl) (by rw [← mtc_eq]; exact Nw8.out.at 1 rfl) (by simp [nS]) (by rw [nS,nS]) (by rw [nS]; kernel_rfl) (nO _) (fun wz hw hb hs=>?_)
     replace hw:wz.heap[xx]?=some (.cells (mtc m (nwd m) (mless m) (pw (nwd m)*pw (nwd m)%m)) 179 (0,0)):=by rw [hw,← mtc_eq,HTT.out]
     have NZ:=Hd (Nw8.out.store 1 rfl hb hs hw)
     clear hw hb hs Nw8
     refine wpList_nil ?_
     try simp only [Act.put,s_,t_,u_,v_,x_,y_]
     go_upto_region 19 with (fail)
     refine wp_region_lit ?_
     refine pL rfl (.pointer (some ⟨xx,0,none⟩)) (fun u=>by kernel_rfl) ?_
     refine pL rfl (.pointer (some ⟨xx,0,none⟩)) (fun u=>by kernel_rfl) ?_
     refine pL rfl (.int .i64 0) (fun u=>by kernel_rfl) ?_
     refine wpList_nil ?_
     try simp only [Act.put,s_,t_,u_,v_,x_,y_]
     go_wp2_with (fail)
     go_ret2
     exact ⟨_,rfl,⟨⟨HN9.out,nwd_lt m,mless_lt m,HLS.out,H1M.out⟩,NZ.out.at 1 rfl⟩,NZ.out.ge 1 rfl,NZ.out.below⟩
end Go.Proofs.YtkoonhiplicbkaaGreat.Cw
