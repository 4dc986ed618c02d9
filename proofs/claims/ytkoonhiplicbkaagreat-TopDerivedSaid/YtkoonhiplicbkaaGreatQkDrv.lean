/-
  (package curvettop) The walk of TopDerived: true. Condition: each text takes at most 2^47 - 4096 bytes.
-/
import Derived.Test.YtkoonhiplicbkaaGreatQk40
import Derived.Test.YtkoonhiplicbkaaGreatQk33
import Derived.Test.YtkoonhiplicbkaaGreatQk34
set_option linter.unusedSimpArgs false
set_option linter.unusedVariables false
set_option maxHeartbeats 4000000
set_option maxRecDepth 100000
namespace Go.Proofs.YtkoonhiplicbkaaGreat.Cw
open Go Go.RowKit
attribute [local irreducible] pc ptc nc ac cuc fc gpt
attribute [local go_sem ↓ high] wn_eql wn_neq wn_lss wn_gtr wn_leq wn_geq wn_cells wRS wn_guard lit0 lit1
attribute [local go_sem high] wn_match wRS wn_eql wn_neq wn_lss wn_gtr wn_leq wn_geq
attribute [local irreducible] wpList
theorem Mem.wrote2 {w0 w w':World} {L1 L2:List Blk} {g:Nat} {C:Array Value} {t:TypeId} (M:Mem w0 w (L1++(g,C,t)::L2)) (hb:But g w w') {C':Array Value} {t':TypeId} (hh:w'.heap[g]?=some (.cells C' t' (0,0))):Mem w0 w' (L1++(g,C',t')::L2):=by
 have hg:=(M.2.1 (g,C,t) (by simp)).1
 have hp:=M.2.2
 rw [List.pairwise_append,List.pairwise_cons] at hp
 obtain ⟨p1,⟨p2,p3⟩,p4⟩:=hp
 refine ⟨But.below M.1 hb hg M.1.size,fun e he=>?_,?_⟩
 ·rcases List.mem_append.1 he with h | h
  ·have h1:=M.2.1 e (List.mem_append.2 (.inl h))
   exact ⟨h1.1,hb.heap (p4 e h (g,C,t) (List.mem_cons_self ..)) h1.2⟩
  ·rcases List.mem_cons.1 h with h | h
   ·subst h; exact ⟨hg,hh⟩
   ·have h1:=M.2.1 e (List.mem_append.2 (.inr (List.mem_cons_of_mem _ h)))
    exact ⟨h1.1,hb.heap (fun e2=>p2 e h e2.symm) h1.2⟩
 ·rw [List.pairwise_append,List.pairwise_cons]
  refine ⟨p1,⟨fun a ha=>p2 a ha,p3⟩,fun a ha b hb2=>?_⟩
  rcases List.mem_cons.1 hb2 with h | h
  ·subst h; exact p4 a ha (g,C,t) (List.mem_cons_self ..)
  ·exact p4 a ha b (List.mem_cons_of_mem _ h)
theorem id3:isId 3:=⟨by decide,by decide⟩
theorem bi_and (t:TypeId) (p q:Int):binOp .and t (.int .i64 p) (.int .i64 q)=pure (.int .i64 (bits BinOp.and IntKind.i64 p q)):=rfl
theorem derived_walk (a0:Int) (ent inf:ByteArray) (a1:Int) (w:World) (h0:(Lit.int .i64 a0).wf=true) (h1:ent.size≤140737488351232) (h2:inf.size≤140737488351232) (h01:(Lit.int .i64 a1).wf=true):Calls Tryz.prog 5 #[.int .i64 a0,.string ent,.string inf,.int .i64 a1] w fun e w'=>e=.returned (.bool true)∧Below w.heap.size w w':=by
 have HB1:=Hd (show ent.size≤140737488355328 by omega)
 have HB2:=Hd (show inf.size≤140737488355328 by omega)
 have HFIT:=Hd (kv0_fit (id:=3) id3 (shortS ent++seedB++⟨#[]⟩++⟨#[]⟩))
 have hnew:=fun w=>dnew_ok 3 (shortS ent++seedB) ⟨#[]⟩ ⟨#[]⟩ w id3 (may2_ok id3 (seed_size ent).1 (seed_size ent).2 (by decide) (by decide))
 obtain ⟨KV,hKV⟩:∃ KV,KV=kv0 3 (shortS ent++seedB++⟨#[]⟩++⟨#[]⟩):=⟨_,rfl⟩
 rw [← hKV] at hnew HFIT
 obtain ⟨ES,hES⟩:∃ ES,ES=shortS ent++seedB:=⟨_,rfl⟩
 rw [← hES] at hnew
 have HES:=Hd hES
 have HNEW:=Hd hnew
 obtain ⟨k,hk⟩:=pkI_k (uw a0%16)
 have HPK:=Hd hk
 obtain ⟨kk,hkk,hkl⟩:=andb255 a1
 have HAND:=Hd hkk
 have HKL:=Hd hkl
 obtain ⟨si,hsi⟩:∃ si,si=shortS inf:=⟨_,rfl⟩
 have HSH:=Hd (fun w=>(show Calls Tryz.prog 10 #[.string inf,.int .i64 100] w fun e w'=>e=.returned (.string si)∧Below w.heap.size w w' from (short_calls inf w HB2.out).mono fun e w' h=>⟨by rw [hsi]; exact h.1,h.2 ▸ Below.refl _ _⟩))
 have HSI:=Hd (show si.size≤100 by rw [hsi]; exact shortS_size inf)
 clear h0 h01 h1 h2 hnew hES hKV hk hkk hkl hsi
 go_enter Tryz.func5,Tryz.ntmps5
 go_upto_region 1 with fail
 have M:=Hd (Mem.nil w)
 refine wp_region_lit ?_
 refine fL rfl 6 (.func 6) #[] #[] rfl #[] #[] (by kernel_rfl) (by kernel_rfl) (fun u=>cE _ _ _ _ u Tryz.func6 (by kernel_rfl) (by kernel_rfl)) (.bool true) (awake_walk w) (fun w2 hb=>?_)
 have Nw2:=Hd (M.out.grow hb)
 clear hb M
 refine pK (.bool false) ?_
 refine wpList_nil ?_
 try simp only [Act.put,s_,t_,u_,v_,x_,y_]
 go_upto_region 3 with (fail)
 refine wp_region_lit ?_
 refine pK (.int .i64 a0) ?_
 refine fL rfl 7 (.func 7) #[.tmp 37] #[3] rfl #[] #[.int .i64 a0] (by kernel_rfl) (by kernel_rfl) (fun u=>cE _ _ _ _ u Tryz.func7 (by kernel_rfl) (by kernel_rfl)) (.int .i64 (k.1:Int)) ((HPK.out ▸ pick_calls a0 w2)) (fun w3 hb=>?_)
 have Nw3:=Hd (Nw2.out.grow hb)
 clear hb Nw2
 refine pK (.int .i64 (k.1:Int)) ?_
 refine wpList_nil ?_
 try simp only [Act.put,s_,t_,u_,v_,x_,y_]
 go_upto_region 4 with (fail)
 refine wp_region_lit ?_
 refine pK (.string ent) ?_
 refine fL rfl 10 (.func 10) #[.tmp 40,.const (.int .i64 100)] #[9,3] rfl #[] #[.string ent,.int .i64 100] (by kernel_rfl) (by kernel_rfl) (fun u=>cE _ _ _ _ u Tryz.func10 (by kernel_rfl) (by kernel_rfl)) (.string (shortS ent)) ((short_calls ent w3 HB1.out).mono fun e w' h=>⟨h.1,h.2 ▸ Below.refl _ _⟩) (fun w4 hb=>?_)
 have Nw4:=Hd (Nw3.out.grow hb)
 clear hb Nw3
 refine pL rfl (.string ES) (fun u=>by rw [HES.out]; exact run_cat _ _ _ _ rfl (shortS ent) seedB (by kernel_rfl) (by kernel_rfl) (by have:=(seed_size ent).2; rw [ByteArray.size_append] at this; omega) u) ?_
 refine wpList_fnE rfl _ _ _ _ rfl #[] #[.int .i64 3,.string ES,.string ⟨#[]⟩,.string ⟨#[]⟩] (by kernel_rfl) (by kernel_rfl) (fun u=>cE _ _ _ _ u Tryz.func9 (by kernel_rfl) (by kernel_rfl)) (T:=Nat) (fun d=>.tuple #[.pointer (some ⟨d,0,none⟩),.int .i64 0]) (fun d w'=>DrbgAt w' d 3 KV 1∧w4.heap.size≤d∧Below w4.heap.size w4 w') ((HNEW.out w4).mono fun e w' ⟨d,h1,h2,h3,h4⟩=>⟨d,h1,h2,h3,h4⟩) ?_
 rintro d1 w5 ⟨hd,hge,hb⟩
 have Nw5:=Hd (show Mem w w5 [(d1,#[.int .i64 (3:Nat),.string KV.1,.string KV.2,.int .i64 1],67)] from Nw4.out.new hb hge hd)
 clear hd hge hb Nw4
 refine pK (.tuple #[.pointer (some ⟨d1,0,none⟩),.int .i64 0]) ?_
 refine pK (.pointer (some ⟨d1,0,none⟩)) ?_
 refine pK (.int .i64 0) ?_
 refine pK (.pointer (some ⟨d1,0,none⟩)) ?_
 refine pK (.int .i64 0) ?_
 refine wpList_nil ?_
 try simp only [Act.put,s_,t_,u_,v_,x_,y_]
 go_upto_region 5 with (fail)
 refine wp_region_lit ?_
 refine pK (.int .i64 0) ?_
 refine fL rfl 11 (.func 11) #[.tmp 46] #[30] rfl #[] #[.int .i64 0] (by kernel_rfl) (by kernel_rfl) (fun u=>cE _ _ _ _ u Tryz.func11 (by kernel_rfl) (by kernel_rfl)) (.int .i64 0) (law_num 0 w5) (fun w6 hb=>?_)
 have Nw6:=Hd (Nw5.out.grow hb)
 clear hb Nw5
 refine pK (.bool false) ?_
 refine wpList_nil ?_
 try simp only [Act.put,s_,t_,u_,v_,x_,y_]
 go_upto_region 7 with (fail)
 refine wp_region_lit ?_
 refine pK (.int .i64 (k.1:Int)) ?_
 refine pK (.pointer (some ⟨d1,0,none⟩)) ?_
 refine wpList_fnE rfl _ _ _ _ rfl #[] #[.int .i64 (k.1:Int),.pointer (some ⟨d1,0,none⟩)] (by kernel_rfl) (by kernel_rfl) (fun u=>cE _ _ _ _ u Tryz.func14 (by kernel_rfl) (by kernel_rfl)) (T:=Nat × Int × Int) (fun q=>.tuple #[.agg (nc q.1),.int .i64 q.2.1,.int .i64 q.2.2]) (fun q w'=>((q.2.2=0∧q.1≠0∧q.1<k.c.n)∨q.2.2=2402∨q.2.2=2403)∧MadeAt w' d1 3∧But d1 w6 w') ((key_mk k d1 3 w6 id3 ⟨KV,1,HFIT.out,by decide,by decide,Nw6.out.at 0 rfl⟩).mono fun e w' ⟨X,t,er,h1,h2,h3,h4⟩=>⟨(X,t,er),h1,h2,h3,h4⟩) ?_
 rintro ⟨X,t1,e1⟩ w7 ⟨hkey,⟨kv1,n1,hf,hn0,hn1,hd⟩,hb⟩
 have HK1:=Hd (show (e1=0∧X≠0∧X<k.c.n)∨e1=2402∨e1=2403 from hkey)
 have HMDHK1:=Hd (And.intro hf (And.intro hn0 hn1))
 have Nw7:=Hd (show Mem w w7 [(d1,#[.int .i64 (3:Nat),.string kv1.1,.string kv1.2,.int .i64 n1],67)] from Mem.wrote2 (L1:=[]) (L2:=[]) Nw6.out hb hd)
 clear hkey hf hn0 hn1 hd hb Nw6
 refine pK (.tuple #[.agg (nc X),.int .i64 t1,.int .i64 e1]) ?_
 refine pK (.agg (nc X)) ?_
 refine pK (.int .i64 t1) ?_
 refine pK (.int .i64 e1) ?_
 refine nL rfl 27 rfl (.agg (nc 0)) (by rw [nZ]; kernel_rfl) ?_
 intro xb w8 hx hx2 hgv hh
 have Nw8:=Hd (show Mem w w8 [(d1,#[.int .i64 (3:Nat),.string kv1.1,.string kv1.2,.int .i64 n1],67),(xb,nc 0,27)] from Nw7.out.new hgv (Nat.le_of_eq hx) hh)
 clear hx hx2 hgv hh Nw7
 refine sB rfl 27 (.tmp 12) (.tmp 53) rfl xb (by kernel_rfl) _ _ (nc X) (by kernel_rfl) (Nw8.out.at 1 rfl) (by rw [nS]; kernel_rfl) (by simp only [nS]) (nO _) ?_
 intro w9 hw hb hs
 have Nw9:=Hd (Nw8.out.store 1 rfl hb hs hw)
 clear hw hb hs Nw8
 refine pK (.int .i64 t1) ?_
 refine pK (.int .i64 e1) ?_
 refine wpList_nil ?_
 try simp only [Act.put,s_,t_,u_,v_,x_,y_]
 go_upto_region 8 with (fail)
 refine wp_region_lit ?_
 refine pK (.int .i64 (k.1:Int)) ?_
 refine pK (.pointer (some ⟨d1,0,none⟩)) ?_
 refine wpList_fnE rfl _ _ _ _ rfl #[] #[.int .i64 (k.1:Int),.pointer (some ⟨d1,0,none⟩)] (by kernel_rfl) (by kernel_rfl) (fun u=>cE _ _ _ _ u Tryz.func14 (by kernel_rfl) (by kernel_rfl)) (T:=Nat × Int × Int) (fun q=>.tuple #[.agg (nc q.1),.int .i64 q.2.1,.int .i64 q.2.2]) (fun q w'=>((q.2.2=0∧q.1≠0∧q.1<k.c.n)∨q.2.2=2402∨q.2.2=2403)∧MadeAt w' d1 3∧But d1 w9 w') ((key_mk k d1 3 w9 id3 ⟨kv1,n1,HMDHK1.out.1,HMDHK1.out.2.1,HMDHK1.out.2.2,Nw9.out.at 0 rfl⟩).mono fun e w' ⟨X,t,er,h1,h2,h3,h4⟩=>⟨(X,t,er),h1,h2,h3,h4⟩) ?_
 rintro ⟨Y,t2,e2⟩ w10 ⟨hkey,⟨kv2,n2,hf,hn0,hn1,hd⟩,hb⟩
 have HK2:=Hd (show (e2=0∧Y≠0∧Y<k.c.n)∨e2=2402∨e2=2403 from hkey)
 have HMDHK2:=Hd (And.intro hf (And.intro hn0 hn1))
 have Nw10:=Hd (show Mem w w10 [(d1,#[.int .i64 (3:Nat),.string kv2.1,.string kv2.2,.int .i64 n2],67),(xb,nc X,27)] from Mem.wrote2 (L1:=[]) (L2:=[(xb,nc X,27)]) Nw9.out hb hd)
 clear hkey hf hn0 hn1 hd hb Nw9
 refine pK (.tuple #[.agg (nc Y),.int .i64 t2,.int .i64 e2]) ?_
 refine pK (.agg (nc Y)) ?_
 refine pK (.int .i64 t2) ?_
 refine pK (.int .i64 e2) ?_
 refine nL rfl 27 rfl (.agg (nc 0)) (by rw [nZ]; kernel_rfl) ?_
 intro yb w11 hx hx2 hgv hh
 have Nw11:=Hd (show Mem w w11 [(d1,#[.int .i64 (3:Nat),.string kv2.1,.string kv2.2,.int .i64 n2],67),(xb,nc X,27),(yb,nc 0,27)] from Nw10.out.new hgv (Nat.le_of_eq hx) hh)
 clear hx hx2 hgv hh Nw10
 refine sB rfl 27 (.tmp 15) (.tmp 60) rfl yb (by kernel_rfl) _ _ (nc Y) (by kernel_rfl) (Nw11.out.at 2 rfl) (by rw [nS]; kernel_rfl) (by simp only [nS]) (nO _) ?_
 intro w12 hw hb hs
 have Nw12:=Hd (Nw11.out.store 2 rfl hb hs hw)
 clear hw hb hs Nw11
 refine pK (.int .i64 t2) ?_
 refine pK (.int .i64 e2) ?_
 refine wpList_nil ?_
 try simp only [Act.put,s_,t_,u_,v_,x_,y_]
 clear HMDHK1 HMDHK2 HNEW HFIT HES
 go_upto_region 9 with (fail)
 rcases HK1.out with ⟨rfl,hx0,hxn⟩ | rfl | rfl
 ·skip
  have HX0:=Hd hx0
  have HXN:=Hd hxn
  clear hx0 hxn HK1
  rcases HK2.out with ⟨rfl,hy0,hyn⟩ | rfl | rfl
  ·skip
   have HY0:=Hd hy0
   have HYN:=Hd hyn
   clear hy0 hyn HK2
   obtain ⟨sh,hsh⟩:∃ sh,sh=shB k (X*Y):=⟨_,rfl⟩
   have hz:sh.size≤72:=by rw [hsh]; show (byB _ _).size≤72; rw [byB_size]; exact (k.size_ok (show 0<k.c.p by have:=pX_lt k (gm k X); omega)).2
   have HS1:=Hd (show ∀ w,Calls Tryz.prog 22 #[.pointer none,.int .i64 k.1,.agg (nc X),.string (ptL k Y)] w fun e w'=>e=.returned (.tuple #[.string sh,.int .i64 0])∧Below w.heap.size w w' from fun w=>by rw [hsh]; exact ecdh_shared k X Y _ w HX0.out HXN.out (fun u=>get_l k Y u HY0.out HYN.out))
   have HS2:=Hd (show ∀ w,Calls Tryz.prog 22 #[.pointer none,.int .i64 k.1,.agg (nc Y),.string (ptS k X)] w fun e w'=>e=.returned (.tuple #[.string sh,.int .i64 0])∧Below w.heap.size w w' from fun w=>by rw [hsh,Nat.mul_comm X Y]; exact ecdh_shared k Y X _ w HY0.out HYN.out (fun u=>get_short k X u HX0.out HXN.out))
   obtain ⟨kd1,hkd⟩:∃ q,q=kd 4 sh si kk:=⟨_,rfl⟩
   have HKF:=Hd (fun w=>(hkd ▸ kdf_yes 4 sh si kk w id4 (by have:=HKL.out; omega) (by have:=HSI.out; omega):Calls Tryz.prog 23 #[.int .i64 (4:Nat),.string sh,.string si,.int .i64 (kk:Int)] w fun e w'=>e=.returned (.tuple #[.string kd1,.int .i64 0])∧Below w.heap.size w w'))
   have HKS:=Hd (show kd1.size=kk by rw [hkd]; exact kd_size id4 _ _ _ (by have:=HKL.out; omega))
   have HPX:=Hd (fun w=>key_public k X w HX0.out HXN.out)
   have HPY:=Hd (fun w=>key_public k Y w HY0.out HYN.out)
   obtain ⟨tS,htS⟩:∃ q,q=ptS k X:=⟨_,rfl⟩
   obtain ⟨tL,htL⟩:∃ q,q=ptL k Y:=⟨_,rfl⟩
   have HPS:=Hd (fun w=>put_short k X w HX0.out HXN.out)
   have HPL:=Hd (fun w=>put_long k Y w HY0.out HYN.out)
   rw [← htS] at HPS HS2
   rw [← htL] at HPL HS1
   clear hsh hz hkd htS htL
   refine wp_region_lit ?_
   refine pK (.int .i64 0) ?_
   refine fL rfl 11 (.func 11) #[.tmp 63] #[30] rfl #[] #[.int .i64 0] (by kernel_rfl) (by kernel_rfl) (fun u=>cE _ _ _ _ u Tryz.func11 (by kernel_rfl) (by kernel_rfl)) (.int .i64 0) (law_num 0 w12) (fun w93 hb=>?_)
   have Nw93:=Hd (Nw12.out.grow hb)
   clear hb Nw12
   refine pK (.bool false) ?_
   refine pK (.bool false) ?_
   try simp only [Act.put,s_,t_,u_,v_,x_,y_]
   refine wK (.int .i64 0) ?_
   try simp only [Act.put,s_,t_,u_,v_,x_,y_]
   refine wpList_fnG (by kernel_rfl) _ _ _ _ rfl #[] #[.int .i64 0] (by kernel_rfl) (by kernel_rfl) (fun u=>cE _ _ _ _ u Tryz.func11 (by kernel_rfl) (by kernel_rfl)) (.int .i64 0) (law_num 0 w93) (fun w94 hb=>?_)
   have Nw94:=Hd (Nw93.out.grow hb)
   clear hb Nw93
   try simp only [Act.put,s_,t_,u_,v_,x_,y_]
   refine wK (.bool false) ?_
   try simp only [Act.put,s_,t_,u_,v_,x_,y_]
   refine pK (.bool false) ?_
   refine wpList_nil ?_
   try simp only [Act.put,s_,t_,u_,v_,x_,y_]
   go_upto_region 11 with (fail)
   refine wp_region_lit ?_
   refine pK (.int .i64 (k.1:Int)) ?_
   refine l0N rfl (.tmp 12) rfl xb (by kernel_rfl) (Nw94.out.at 1 rfl) ?_
   refine fL rfl 20 (.func 20) #[.const (.pointer none),.tmp 85,.tmp 86] #[69,3,27] rfl #[] #[.pointer none,.int .i64 (k.1:Int),.agg (nc X)] (by kernel_rfl) (by kernel_rfl) (fun u=>cE _ _ _ _ u Tryz.func20 (by kernel_rfl) (by kernel_rfl)) (.tuple #[.agg (gpt k X),.int .i64 0]) ((HPX.out w94)) (fun w95 hb=>?_)
   have Nw95:=Hd (Nw94.out.grow hb)
   clear hb Nw94
   refine pK (.tuple #[.agg (gpt k X),.int .i64 0]) ?_
   refine pK (.agg (gpt k X)) ?_
   refine pK (.int .i64 0) ?_
   refine nL rfl 41 rfl (.agg (ptc 0 0 false)) (by rw [ptc_zero]; kernel_rfl) ?_
   intro pb w96 hx hx2 hgv hh
   have Nw96:=Hd (show Mem w w96 [(d1,#[.int .i64 (3:Nat),.string kv2.1,.string kv2.2,.int .i64 n2],67),(xb,nc X,27),(yb,nc Y,27),(pb,ptc 0 0 false,41)] from Nw95.out.new hgv (Nat.le_of_eq hx) hh)
   clear hx hx2 hgv hh Nw95
   refine sB rfl 41 (.tmp 18) (.tmp 88) rfl pb (by kernel_rfl) _ _ (gpt k X) (by kernel_rfl) (Nw96.out.at 3 rfl) (by rw [gpt_size]; kernel_rfl) (by simp only [gpt_size,pS]) (gpt_one _ _) ?_
   intro w97 hw hb hs
   have Nw97:=Hd (Nw96.out.store 3 rfl hb hs hw)
   clear hw hb hs Nw96
   refine pK (.int .i64 0) ?_
   refine wpList_nil ?_
   try simp only [Act.put,s_,t_,u_,v_,x_,y_]
   go_upto_region 12 with (fail)
   refine wp_region_lit ?_
   refine pK (.int .i64 (k.1:Int)) ?_
   refine l0N rfl (.tmp 15) rfl yb (by kernel_rfl) (Nw97.out.at 2 rfl) ?_
   refine fL rfl 20 (.func 20) #[.const (.pointer none),.tmp 91,.tmp 92] #[69,3,27] rfl #[] #[.pointer none,.int .i64 (k.1:Int),.agg (nc Y)] (by kernel_rfl) (by kernel_rfl) (fun u=>cE _ _ _ _ u Tryz.func20 (by kernel_rfl) (by kernel_rfl)) (.tuple #[.agg (gpt k Y),.int .i64 0]) ((HPY.out w97)) (fun w98 hb=>?_)
   have Nw98:=Hd (Nw97.out.grow hb)
   clear hb Nw97
   refine pK (.tuple #[.agg (gpt k Y),.int .i64 0]) ?_
   refine pK (.agg (gpt k Y)) ?_
   refine pK (.int .i64 0) ?_
   refine nL rfl 41 rfl (.agg (ptc 0 0 false)) (by rw [ptc_zero]; kernel_rfl) ?_
   intro qb w99 hx hx2 hgv hh
   have Nw99:=Hd (show Mem w w99 [(d1,#[.int .i64 (3:Nat),.string kv2.1,.string kv2.2,.int .i64 n2],67),(xb,nc X,27),(yb,nc Y,27),(pb,gpt k X,41),(qb,ptc 0 0 false,41)] from Nw98.out.new hgv (Nat.le_of_eq hx) hh)
   clear hx hx2 hgv hh Nw98
   refine sB rfl 41 (.tmp 20) (.tmp 94) rfl qb (by kernel_rfl) _ _ (gpt k Y) (by kernel_rfl) (Nw99.out.at 4 rfl) (by rw [gpt_size]; kernel_rfl) (by simp only [gpt_size,pS]) (gpt_one _ _) ?_
   intro w100 hw hb hs
   have Nw100:=Hd (Nw99.out.store 4 rfl hb hs hw)
   clear hw hb hs Nw99
   refine pK (.int .i64 0) ?_
   refine wpList_nil ?_
   try simp only [Act.put,s_,t_,u_,v_,x_,y_]
   go_upto_region 13 with (fail)
   refine wp_region_lit ?_
   refine pK (.int .i64 (k.1:Int)) ?_
   refine lS rfl 41 (.tmp 18) rfl pb 0 19 (by kernel_rfl) _ _ (gpt k X) _ _ (Nw100.out.at 3 rfl) Tryz.underlying41 rfl (by kernel_rfl) (gpt_size _ _) (fun j hj=>by rw [Nat.zero_add]) ?_
   refine fL rfl 21 (.func 21) #[.tmp 97,.tmp 98,.const (.bool true)] #[3,41,4] rfl #[] #[.int .i64 (k.1:Int),.agg (gpt k X),.bool true] (by kernel_rfl) (by kernel_rfl) (fun u=>cE _ _ _ _ u Tryz.func21 (by kernel_rfl) (by kernel_rfl)) (.tuple #[.string tS,.int .i64 0]) ((HPS.out w100)) (fun w101 hb=>?_)
   have Nw101:=Hd (Nw100.out.grow hb)
   clear hb Nw100
   refine pK (.tuple #[.string tS,.int .i64 0]) ?_
   refine pK (.string tS) ?_
   refine pK (.int .i64 0) ?_
   refine pK (.string tS) ?_
   refine pK (.int .i64 0) ?_
   refine wpList_nil ?_
   try simp only [Act.put,s_,t_,u_,v_,x_,y_]
   go_upto_region 14 with (fail)
   refine wp_region_lit ?_
   refine pK (.int .i64 (k.1:Int)) ?_
   refine lS rfl 41 (.tmp 20) rfl qb 0 19 (by kernel_rfl) _ _ (gpt k Y) _ _ (Nw101.out.at 4 rfl) Tryz.underlying41 rfl (by kernel_rfl) (gpt_size _ _) (fun j hj=>by rw [Nat.zero_add]) ?_
   refine fL rfl 21 (.func 21) #[.tmp 103,.tmp 104,.const (.bool false)] #[3,41,4] rfl #[] #[.int .i64 (k.1:Int),.agg (gpt k Y),.bool false] (by kernel_rfl) (by kernel_rfl) (fun u=>cE _ _ _ _ u Tryz.func21 (by kernel_rfl) (by kernel_rfl)) (.tuple #[.string tL,.int .i64 0]) ((HPL.out w101)) (fun w102 hb=>?_)
   have Nw102:=Hd (Nw101.out.grow hb)
   clear hb Nw101
   refine pK (.tuple #[.string tL,.int .i64 0]) ?_
   refine pK (.string tL) ?_
   refine pK (.int .i64 0) ?_
   refine pK (.string tL) ?_
   refine pK (.int .i64 0) ?_
   refine wpList_nil ?_
   try simp only [Act.put,s_,t_,u_,v_,x_,y_]
   go_upto_region 15 with (fail)
   refine wp_region_lit ?_
   refine pK (.int .i64 (k.1:Int)) ?_
   refine l0N rfl (.tmp 12) rfl xb (by kernel_rfl) (Nw102.out.at 1 rfl) ?_
   refine pK (.string tL) ?_
   refine fL rfl 22 (.func 22) #[.const (.pointer none),.tmp 109,.tmp 110,.tmp 111] #[69,3,27,9] rfl #[] #[.pointer none,.int .i64 (k.1:Int),.agg (nc X),.string tL] (by kernel_rfl) (by kernel_rfl) (fun u=>cE _ _ _ _ u Tryz.func22 (by kernel_rfl) (by kernel_rfl)) (.tuple #[.string sh,.int .i64 0]) ((HS1.out w102)) (fun w103 hb=>?_)
   have Nw103:=Hd (Nw102.out.grow hb)
   clear hb Nw102
   refine pK (.tuple #[.string sh,.int .i64 0]) ?_
   refine pK (.string sh) ?_
   refine pK (.int .i64 0) ?_
   refine pK (.string sh) ?_
   refine pK (.int .i64 0) ?_
   refine wpList_nil ?_
   try simp only [Act.put,s_,t_,u_,v_,x_,y_]
   go_upto_region 16 with (fail)
   refine wp_region_lit ?_
   refine pK (.int .i64 (k.1:Int)) ?_
   refine l0N rfl (.tmp 15) rfl yb (by kernel_rfl) (Nw103.out.at 2 rfl) ?_
   refine pK (.string tS) ?_
   refine fL rfl 22 (.func 22) #[.const (.pointer none),.tmp 116,.tmp 117,.tmp 118] #[69,3,27,9] rfl #[] #[.pointer none,.int .i64 (k.1:Int),.agg (nc Y),.string tS] (by kernel_rfl) (by kernel_rfl) (fun u=>cE _ _ _ _ u Tryz.func22 (by kernel_rfl) (by kernel_rfl)) (.tuple #[.string sh,.int .i64 0]) ((HS2.out w103)) (fun w104 hb=>?_)
   have Nw104:=Hd (Nw103.out.grow hb)
   clear hb Nw103
   refine pK (.tuple #[.string sh,.int .i64 0]) ?_
   refine pK (.string sh) ?_
   refine pK (.int .i64 0) ?_
   refine pK (.string sh) ?_
   refine pK (.int .i64 0) ?_
   refine wpList_nil ?_
   try simp only [Act.put,s_,t_,u_,v_,x_,y_]
   go_upto_region 17 with (fail)
   refine wp_region_lit ?_
   refine pK (.int .i64 a1) ?_
   try simp only [Act.put,s_,t_,u_,v_,x_,y_]
   refine pL rfl (.int .i64 (kk:Int)) (fun u=>(run_bini _ _ _ _ _ rfl a1 255 (by kernel_rfl) (by kernel_rfl) (by rw [bi_and,HAND.out]) u)) ?_
   refine pK (.int .i64 (kk:Int)) ?_
   refine wpList_nil ?_
   try simp only [Act.put,s_,t_,u_,v_,x_,y_]
   go_upto_region 18 with (fail)
   refine wp_region_lit ?_
   refine pK (.string sh) ?_
   refine pK (.string inf) ?_
   refine fL rfl 10 (.func 10) #[.tmp 126,.const (.int .i64 100)] #[9,3] rfl #[] #[.string inf,.int .i64 100] (by kernel_rfl) (by kernel_rfl) (fun u=>cE _ _ _ _ u Tryz.func10 (by kernel_rfl) (by kernel_rfl)) (.string si) ((HSH.out w104)) (fun w105 hb=>?_)
   have Nw105:=Hd (Nw104.out.grow hb)
   clear hb Nw104
   refine pK (.int .i64 (kk:Int)) ?_
   refine fL rfl 23 (.func 23) #[.const (.int .i64 4),.tmp 125,.tmp 127,.tmp 128] #[3,9,9,3] rfl #[] #[.int .i64 4,.string sh,.string si,.int .i64 (kk:Int)] (by kernel_rfl) (by kernel_rfl) (fun u=>cE _ _ _ _ u Tryz.func23 (by kernel_rfl) (by kernel_rfl)) (.tuple #[.string kd1,.int .i64 0]) ((HKF.out w105)) (fun w106 hb=>?_)
   have Nw106:=Hd (Nw105.out.grow hb)
   clear hb Nw105
   refine pK (.tuple #[.string kd1,.int .i64 0]) ?_
   refine pK (.string kd1) ?_
   refine pK (.int .i64 0) ?_
   refine pK (.string kd1) ?_
   refine pK (.int .i64 0) ?_
   refine wpList_nil ?_
   try simp only [Act.put,s_,t_,u_,v_,x_,y_]
   go_upto_region 19 with (fail)
   refine wp_region_lit ?_
   refine pK (.string sh) ?_
   refine pK (.string inf) ?_
   refine fL rfl 10 (.func 10) #[.tmp 134,.const (.int .i64 100)] #[9,3] rfl #[] #[.string inf,.int .i64 100] (by kernel_rfl) (by kernel_rfl) (fun u=>cE _ _ _ _ u Tryz.func10 (by kernel_rfl) (by kernel_rfl)) (.string si) ((HSH.out w106)) (fun w107 hb=>?_)
   have Nw107:=Hd (Nw106.out.grow hb)
   clear hb Nw106
   refine pK (.int .i64 (kk:Int)) ?_
   refine fL rfl 23 (.func 23) #[.const (.int .i64 4),.tmp 133,.tmp 135,.tmp 136] #[3,9,9,3] rfl #[] #[.int .i64 4,.string sh,.string si,.int .i64 (kk:Int)] (by kernel_rfl) (by kernel_rfl) (fun u=>cE _ _ _ _ u Tryz.func23 (by kernel_rfl) (by kernel_rfl)) (.tuple #[.string kd1,.int .i64 0]) ((HKF.out w107)) (fun w108 hb=>?_)
   have Nw108:=Hd (Nw107.out.grow hb)
   clear hb Nw107
   refine pK (.tuple #[.string kd1,.int .i64 0]) ?_
   refine pK (.string kd1) ?_
   refine pK (.int .i64 0) ?_
   refine pK (.string kd1) ?_
   refine pK (.int .i64 0) ?_
   refine wpList_nil ?_
   try simp only [Act.put,s_,t_,u_,v_,x_,y_]
   go_upto_region 20 with (fail)
   refine wp_region_lit ?_
   refine pK (.int .i64 0) ?_
   refine fL rfl 11 (.func 11) #[.tmp 140] #[30] rfl #[] #[.int .i64 0] (by kernel_rfl) (by kernel_rfl) (fun u=>cE _ _ _ _ u Tryz.func11 (by kernel_rfl) (by kernel_rfl)) (.int .i64 0) (law_num 0 w108) (fun w109 hb=>?_)
   have Nw109:=Hd (Nw108.out.grow hb)
   clear hb Nw108
   refine pK (.bool true) ?_
   refine pK (.bool true) ?_
   try simp only [Act.put,s_,t_,u_,v_,x_,y_]
   refine wK (.int .i64 0) ?_
   try simp only [Act.put,s_,t_,u_,v_,x_,y_]
   refine wpList_fnG (by kernel_rfl) _ _ _ _ rfl #[] #[.int .i64 0] (by kernel_rfl) (by kernel_rfl) (fun u=>cE _ _ _ _ u Tryz.func11 (by kernel_rfl) (by kernel_rfl)) (.int .i64 0) (law_num 0 w109) (fun w110 hb=>?_)
   have Nw110:=Hd (Nw109.out.grow hb)
   clear hb Nw109
   try simp only [Act.put,s_,t_,u_,v_,x_,y_]
   refine wK (.bool true) ?_
   try simp only [Act.put,s_,t_,u_,v_,x_,y_]
   refine pK (.bool true) ?_
   refine pK (.bool true) ?_
   try simp only [Act.put,s_,t_,u_,v_,x_,y_]
   refine wK (.int .i64 0) ?_
   try simp only [Act.put,s_,t_,u_,v_,x_,y_]
   refine wpList_fnG (by kernel_rfl) _ _ _ _ rfl #[] #[.int .i64 0] (by kernel_rfl) (by kernel_rfl) (fun u=>cE _ _ _ _ u Tryz.func11 (by kernel_rfl) (by kernel_rfl)) (.int .i64 0) (law_num 0 w110) (fun w111 hb=>?_)
   have Nw111:=Hd (Nw110.out.grow hb)
   clear hb Nw110
   try simp only [Act.put,s_,t_,u_,v_,x_,y_]
   refine wK (.bool true) ?_
   try simp only [Act.put,s_,t_,u_,v_,x_,y_]
   refine pK (.bool true) ?_
   refine pK (.bool true) ?_
   try simp only [Act.put,s_,t_,u_,v_,x_,y_]
   refine wK (.int .i64 0) ?_
   try simp only [Act.put,s_,t_,u_,v_,x_,y_]
   refine wpList_fnG (by kernel_rfl) _ _ _ _ rfl #[] #[.int .i64 0] (by kernel_rfl) (by kernel_rfl) (fun u=>cE _ _ _ _ u Tryz.func11 (by kernel_rfl) (by kernel_rfl)) (.int .i64 0) (law_num 0 w111) (fun w112 hb=>?_)
   have Nw112:=Hd (Nw111.out.grow hb)
   clear hb Nw111
   try simp only [Act.put,s_,t_,u_,v_,x_,y_]
   refine wK (.bool true) ?_
   try simp only [Act.put,s_,t_,u_,v_,x_,y_]
   refine pK (.bool true) ?_
   refine pK (.bool true) ?_
   try simp only [Act.put,s_,t_,u_,v_,x_,y_]
   refine wK (.string kd1) ?_
   try simp only [Act.put,s_,t_,u_,v_,x_,y_]
   refine wK (.string kd1) ?_
   try simp only [Act.put,s_,t_,u_,v_,x_,y_]
   refine wL (by kernel_rfl) (.bool true) (fun u=>run_seq _ _ _ _ rfl kd1 kd1 (by kernel_rfl) (by kernel_rfl) true (decide_eq_true rfl) u) ?_
   try simp only [Act.put,s_,t_,u_,v_,x_,y_]
   refine pK (.bool true) ?_
   refine pK (.bool true) ?_
   try simp only [Act.put,s_,t_,u_,v_,x_,y_]
   refine wK (.string kd1) ?_
   try simp only [Act.put,s_,t_,u_,v_,x_,y_]
   refine wK (.int .i64 (kd1.size:Int)) ?_
   try simp only [Act.put,s_,t_,u_,v_,x_,y_]
   refine wK (.int .i64 (kk:Int)) ?_
   try simp only [Act.put,s_,t_,u_,v_,x_,y_]
   refine wL (by kernel_rfl) (.bool true) (fun u=>run_bini _ _ _ _ _ rfl (kd1.size:Int) (kk:Int) (by kernel_rfl) (by kernel_rfl) (eql_yes _ (by rw [HKS.out])) u) ?_
   try simp only [Act.put,s_,t_,u_,v_,x_,y_]
   refine pK (.bool true) ?_
   refine pK (.bool true) ?_
   refine wpList_nil ?_
   try simp only [Act.put,s_,t_,u_,v_,x_,y_]
   go_wp2_with (fail)
   go_ret
   exact ⟨rfl,Nw112.out.below⟩
  ·skip
   refine wp_region_lit ?_
   refine pK (.int .i64 0) ?_
   refine fL rfl 11 (.func 11) #[.tmp 63] #[30] rfl #[] #[.int .i64 0] (by kernel_rfl) (by kernel_rfl) (fun u=>cE _ _ _ _ u Tryz.func11 (by kernel_rfl) (by kernel_rfl)) (.int .i64 0) (law_num 0 w12) (fun w93 hb=>?_)
   have Nw93:=Hd (Nw12.out.grow hb)
   clear hb Nw12
   refine pK (.bool false) ?_
   refine pK (.bool false) ?_
   try simp only [Act.put,s_,t_,u_,v_,x_,y_]
   refine wK (.int .i64 2402) ?_
   try simp only [Act.put,s_,t_,u_,v_,x_,y_]
   refine wpList_fnG (by kernel_rfl) _ _ _ _ rfl #[] #[.int .i64 2402] (by kernel_rfl) (by kernel_rfl) (fun u=>cE _ _ _ _ u Tryz.func11 (by kernel_rfl) (by kernel_rfl)) (.int .i64 2402) (law_num 2402 w93) (fun w94 hb=>?_)
   have Nw94:=Hd (Nw93.out.grow hb)
   clear hb Nw93
   try simp only [Act.put,s_,t_,u_,v_,x_,y_]
   refine wK (.bool true) ?_
   try simp only [Act.put,s_,t_,u_,v_,x_,y_]
   refine pK (.bool true) ?_
   refine wpList_nil ?_
   try simp only [Act.put,s_,t_,u_,v_,x_,y_]
   go_upto_region 10 with (fail)
   refine wp_region_lit ?_
   refine pK (.int .i64 0) ?_
   refine fL rfl 11 (.func 11) #[.tmp 71] #[30] rfl #[] #[.int .i64 0] (by kernel_rfl) (by kernel_rfl) (fun u=>cE _ _ _ _ u Tryz.func11 (by kernel_rfl) (by kernel_rfl)) (.int .i64 0) (law_num 0 w94) (fun w95 hb=>?_)
   have Nw95:=Hd (Nw94.out.grow hb)
   clear hb Nw94
   refine pK (.bool false) ?_
   refine pK (.bool false) ?_
   try simp only [Act.put,s_,t_,u_,v_,x_,y_]
   refine wK (.int .i64 2402) ?_
   try simp only [Act.put,s_,t_,u_,v_,x_,y_]
   refine wpList_fnG (by kernel_rfl) _ _ _ _ rfl #[] #[.int .i64 2402] (by kernel_rfl) (by kernel_rfl) (fun u=>cE _ _ _ _ u Tryz.func11 (by kernel_rfl) (by kernel_rfl)) (.int .i64 2402) (law_num 2402 w95) (fun w96 hb=>?_)
   have Nw96:=Hd (Nw95.out.grow hb)
   clear hb Nw95
   try simp only [Act.put,s_,t_,u_,v_,x_,y_]
   refine wK (.bool false) ?_
   try simp only [Act.put,s_,t_,u_,v_,x_,y_]
   refine pK (.bool false) ?_
   refine pK (.bool false) ?_
   try simp only [Act.put,s_,t_,u_,v_,x_,y_]
   refine wK (.int .i64 2402) ?_
   try simp only [Act.put,s_,t_,u_,v_,x_,y_]
   refine wpList_fnG (by kernel_rfl) _ _ _ _ rfl #[] #[.int .i64 2402] (by kernel_rfl) (by kernel_rfl) (fun u=>cE _ _ _ _ u Tryz.func11 (by kernel_rfl) (by kernel_rfl)) (.int .i64 2402) (law_num 2402 w96) (fun w97 hb=>?_)
   have Nw97:=Hd (Nw96.out.grow hb)
   clear hb Nw96
   try simp only [Act.put,s_,t_,u_,v_,x_,y_]
   refine wK (.bool true) ?_
   try simp only [Act.put,s_,t_,u_,v_,x_,y_]
   refine pK (.bool true) ?_
   refine pK (.bool true) ?_
   refine wpList_nil ?_
   try simp only [Act.put,s_,t_,u_,v_,x_,y_]
   go_wp2_with (fail)
   go_ret
   exact ⟨rfl,Nw97.out.below⟩
  ·skip
   refine wp_region_lit ?_
   refine pK (.int .i64 0) ?_
   refine fL rfl 11 (.func 11) #[.tmp 63] #[30] rfl #[] #[.int .i64 0] (by kernel_rfl) (by kernel_rfl) (fun u=>cE _ _ _ _ u Tryz.func11 (by kernel_rfl) (by kernel_rfl)) (.int .i64 0) (law_num 0 w12) (fun w93 hb=>?_)
   have Nw93:=Hd (Nw12.out.grow hb)
   clear hb Nw12
   refine pK (.bool false) ?_
   refine pK (.bool false) ?_
   try simp only [Act.put,s_,t_,u_,v_,x_,y_]
   refine wK (.int .i64 2403) ?_
   try simp only [Act.put,s_,t_,u_,v_,x_,y_]
   refine wpList_fnG (by kernel_rfl) _ _ _ _ rfl #[] #[.int .i64 2403] (by kernel_rfl) (by kernel_rfl) (fun u=>cE _ _ _ _ u Tryz.func11 (by kernel_rfl) (by kernel_rfl)) (.int .i64 2403) (law_num 2403 w93) (fun w94 hb=>?_)
   have Nw94:=Hd (Nw93.out.grow hb)
   clear hb Nw93
   try simp only [Act.put,s_,t_,u_,v_,x_,y_]
   refine wK (.bool true) ?_
   try simp only [Act.put,s_,t_,u_,v_,x_,y_]
   refine pK (.bool true) ?_
   refine wpList_nil ?_
   try simp only [Act.put,s_,t_,u_,v_,x_,y_]
   go_upto_region 10 with (fail)
   refine wp_region_lit ?_
   refine pK (.int .i64 0) ?_
   refine fL rfl 11 (.func 11) #[.tmp 71] #[30] rfl #[] #[.int .i64 0] (by kernel_rfl) (by kernel_rfl) (fun u=>cE _ _ _ _ u Tryz.func11 (by kernel_rfl) (by kernel_rfl)) (.int .i64 0) (law_num 0 w94) (fun w95 hb=>?_)
   have Nw95:=Hd (Nw94.out.grow hb)
   clear hb Nw94
   refine pK (.bool false) ?_
   refine pK (.bool false) ?_
   try simp only [Act.put,s_,t_,u_,v_,x_,y_]
   refine wK (.int .i64 2403) ?_
   try simp only [Act.put,s_,t_,u_,v_,x_,y_]
   refine wpList_fnG (by kernel_rfl) _ _ _ _ rfl #[] #[.int .i64 2403] (by kernel_rfl) (by kernel_rfl) (fun u=>cE _ _ _ _ u Tryz.func11 (by kernel_rfl) (by kernel_rfl)) (.int .i64 2403) (law_num 2403 w95) (fun w96 hb=>?_)
   have Nw96:=Hd (Nw95.out.grow hb)
   clear hb Nw95
   try simp only [Act.put,s_,t_,u_,v_,x_,y_]
   refine wK (.bool true) ?_
   try simp only [Act.put,s_,t_,u_,v_,x_,y_]
   refine pK (.bool true) ?_
   refine pK (.bool true) ?_
   try simp only [Act.put,s_,t_,u_,v_,x_,y_]
   refine wpList_skipL (by kernel_rfl) ?_
   try simp only [Act.put,s_,t_,u_,v_,x_,y_]
   refine wpList_skipL (by kernel_rfl) ?_
   try simp only [Act.put,s_,t_,u_,v_,x_,y_]
   refine wpList_skipL (by kernel_rfl) ?_
   refine pK (.bool true) ?_
   refine pK (.bool true) ?_
   refine wpList_nil ?_
   try simp only [Act.put,s_,t_,u_,v_,x_,y_]
   go_wp2_with (fail)
   go_ret
   exact ⟨rfl,Nw96.out.below⟩
 ·skip
  refine wp_region_lit ?_
  refine pK (.int .i64 2402) ?_
  refine fL rfl 11 (.func 11) #[.tmp 63] #[30] rfl #[] #[.int .i64 2402] (by kernel_rfl) (by kernel_rfl) (fun u=>cE _ _ _ _ u Tryz.func11 (by kernel_rfl) (by kernel_rfl)) (.int .i64 2402) (law_num 2402 w12) (fun w53 hb=>?_)
  have Nw53:=Hd (Nw12.out.grow hb)
  clear hb Nw12
  refine pK (.bool true) ?_
  refine pK (.bool true) ?_
  try simp only [Act.put,s_,t_,u_,v_,x_,y_]
  refine wpList_skipL (by kernel_rfl) ?_
  try simp only [Act.put,s_,t_,u_,v_,x_,y_]
  refine wpList_skipL (by kernel_rfl) ?_
  try simp only [Act.put,s_,t_,u_,v_,x_,y_]
  refine wpList_skipL (by kernel_rfl) ?_
  refine pK (.bool true) ?_
  refine wpList_nil ?_
  try simp only [Act.put,s_,t_,u_,v_,x_,y_]
  go_upto_region 10 with (fail)
  refine wp_region_lit ?_
  refine pK (.int .i64 2402) ?_
  refine fL rfl 11 (.func 11) #[.tmp 71] #[30] rfl #[] #[.int .i64 2402] (by kernel_rfl) (by kernel_rfl) (fun u=>cE _ _ _ _ u Tryz.func11 (by kernel_rfl) (by kernel_rfl)) (.int .i64 2402) (law_num 2402 w53) (fun w54 hb=>?_)
  have Nw54:=Hd (Nw53.out.grow hb)
  clear hb Nw53
  refine pK (.bool true) ?_
  refine pK (.bool true) ?_
  try simp only [Act.put,s_,t_,u_,v_,x_,y_]
  refine wpList_skipL (by kernel_rfl) ?_
  try simp only [Act.put,s_,t_,u_,v_,x_,y_]
  refine wpList_skipL (by kernel_rfl) ?_
  try simp only [Act.put,s_,t_,u_,v_,x_,y_]
  refine wpList_skipL (by kernel_rfl) ?_
  refine pK (.bool true) ?_
  refine pK (.bool true) ?_
  try simp only [Act.put,s_,t_,u_,v_,x_,y_]
  refine wpList_skipL (by kernel_rfl) ?_
  try simp only [Act.put,s_,t_,u_,v_,x_,y_]
  refine wpList_skipL (by kernel_rfl) ?_
  try simp only [Act.put,s_,t_,u_,v_,x_,y_]
  refine wpList_skipL (by kernel_rfl) ?_
  refine pK (.bool true) ?_
  refine pK (.bool true) ?_
  refine wpList_nil ?_
  try simp only [Act.put,s_,t_,u_,v_,x_,y_]
  go_wp2_with (fail)
  go_ret
  exact ⟨rfl,Nw54.out.below⟩
 ·skip
  refine wp_region_lit ?_
  refine pK (.int .i64 2403) ?_
  refine fL rfl 11 (.func 11) #[.tmp 63] #[30] rfl #[] #[.int .i64 2403] (by kernel_rfl) (by kernel_rfl) (fun u=>cE _ _ _ _ u Tryz.func11 (by kernel_rfl) (by kernel_rfl)) (.int .i64 2403) (law_num 2403 w12) (fun w53 hb=>?_)
  have Nw53:=Hd (Nw12.out.grow hb)
  clear hb Nw12
  refine pK (.bool true) ?_
  refine pK (.bool true) ?_
  try simp only [Act.put,s_,t_,u_,v_,x_,y_]
  refine wpList_skipL (by kernel_rfl) ?_
  try simp only [Act.put,s_,t_,u_,v_,x_,y_]
  refine wpList_skipL (by kernel_rfl) ?_
  try simp only [Act.put,s_,t_,u_,v_,x_,y_]
  refine wpList_skipL (by kernel_rfl) ?_
  refine pK (.bool true) ?_
  refine wpList_nil ?_
  try simp only [Act.put,s_,t_,u_,v_,x_,y_]
  go_upto_region 10 with (fail)
  refine wp_region_lit ?_
  refine pK (.int .i64 2403) ?_
  refine fL rfl 11 (.func 11) #[.tmp 71] #[30] rfl #[] #[.int .i64 2403] (by kernel_rfl) (by kernel_rfl) (fun u=>cE _ _ _ _ u Tryz.func11 (by kernel_rfl) (by kernel_rfl)) (.int .i64 2403) (law_num 2403 w53) (fun w54 hb=>?_)
  have Nw54:=Hd (Nw53.out.grow hb)
  clear hb Nw53
  refine pK (.bool true) ?_
  refine pK (.bool true) ?_
  try simp only [Act.put,s_,t_,u_,v_,x_,y_]
  refine wpList_skipL (by kernel_rfl) ?_
  try simp only [Act.put,s_,t_,u_,v_,x_,y_]
  refine wpList_skipL (by kernel_rfl) ?_
  try simp only [Act.put,s_,t_,u_,v_,x_,y_]
  refine wpList_skipL (by kernel_rfl) ?_
  refine pK (.bool true) ?_
  refine pK (.bool true) ?_
  try simp only [Act.put,s_,t_,u_,v_,x_,y_]
  refine wpList_skipL (by kernel_rfl) ?_
  try simp only [Act.put,s_,t_,u_,v_,x_,y_]
  refine wpList_skipL (by kernel_rfl) ?_
  try simp only [Act.put,s_,t_,u_,v_,x_,y_]
  refine wpList_skipL (by kernel_rfl) ?_
  refine pK (.bool true) ?_
  refine pK (.bool true) ?_
  refine wpList_nil ?_
  try simp only [Act.put,s_,t_,u_,v_,x_,y_]
  go_wp2_with (fail)
  go_ret
  exact ⟨rfl,Nw54.out.below⟩
end Go.Proofs.YtkoonhiplicbkaaGreat.Cw
