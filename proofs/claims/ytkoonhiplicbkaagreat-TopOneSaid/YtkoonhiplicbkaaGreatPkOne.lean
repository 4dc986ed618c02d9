/-
  (package curvettop) The walk of TopOne: true. Condition: each text takes at most 2^47 - 4096 bytes.
-/
import Derived.Test.YtkoonhiplicbkaaGreatPk39
set_option linter.unusedSimpArgs false
set_option linter.unusedVariables false
set_option maxHeartbeats 4000000
set_option maxRecDepth 100000
namespace Go.Proofs.YtkoonhiplicbkaaGreat.Cw
open Go Go.RowKit
attribute [local irreducible] pc ptc nc ac cuc fc gpt
attribute [local go_sem ↓ high] wn_eql wn_neq wn_lss wn_gtr wn_leq wn_geq wn_cells wRS wn_guard lit0 lit1
attribute [local go_sem high] wn_match wRS wn_eql wn_neq wn_lss wn_gtr wn_leq wn_geq
theorem one_walk (a0:Int) (ent msg oth:ByteArray) (w:World) (h0:(Lit.int .i64 a0).wf=true) (h1:ent.size≤140737488351232) (h2:msg.size≤140737488351232) (h3:oth.size≤140737488351232):Calls Tryz.prog 3 #[.int .i64 a0,.string ent,.string msg,.string oth] w fun e w'=>e=.returned (.bool true)∧Below w.heap.size w w':=by
 have HB1:=Hd (show ent.size≤140737488355328 by omega)
 have HFIT:=Hd (kv0_fit (id:=2) id2 (shortS ent++seedB++⟨#[]⟩++⟨#[]⟩))
 have hnew:=fun w=>dnew_ok 2 (shortS ent++seedB) ⟨#[]⟩ ⟨#[]⟩ w id2 (may2_ok id2 (seed_size ent).1 (seed_size ent).2 (by decide) (by decide))
 obtain ⟨KV,hKV⟩:∃ KV,KV=kv0 2 (shortS ent++seedB++⟨#[]⟩++⟨#[]⟩):=⟨_,rfl⟩
 rw [← hKV] at hnew HFIT
 obtain ⟨ES,hES⟩:∃ ES,ES=shortS ent++seedB:=⟨_,rfl⟩
 rw [← hES] at hnew
 have HES:=Hd hES
 have HNEW:=Hd hnew
 obtain ⟨k,hk⟩:=pkI_k (uw a0%16)
 have HPK:=Hd hk
 have HN5:=Hd k.n5
 have HB2:=Hd h2
 have HB3:=Hd h3
 have H5N:=Hd (show 5<k.c.n by have:=k.n5; omega)
 clear h0 h1 h2 h3 hnew hES hKV hk
 go_enter Tryz.func3,Tryz.ntmps3
 go_upto_region 1 with fail
 have M:=Hd (Mem.nil w)
 refine wp_region_lit ?_
 refine fL rfl 6 (.func 6) #[] #[] rfl #[] #[] (by kernel_rfl) (by kernel_rfl) (fun u=>cE _ _ _ _ u Tryz.func6 (by kernel_rfl) (by kernel_rfl)) (.bool true) (awake_walk w) (fun w2 hb=>?_)
 have Nw2:=Hd (M.out.grow hb)
 clear hb M
 refine pL rfl (.bool false) (fun u=>by kernel_rfl) ?_
 refine wpList_nil ?_
 try simp only [Act.put,s_,t_,u_,v_,x_,y_]
 go_upto_region 3 with (fail)
 refine wp_region_lit ?_
 refine pL rfl (.int .i64 a0) (fun u=>by kernel_rfl) ?_
 refine fL rfl 7 (.func 7) #[.tmp 23] #[3] rfl #[] #[.int .i64 a0] (by kernel_rfl) (by kernel_rfl) (fun u=>cE _ _ _ _ u Tryz.func7 (by kernel_rfl) (by kernel_rfl)) (.int .i64 (k.1:Int)) ((HPK.out ▸ pick_calls a0 w2)) (fun w3 hb=>?_)
 have Nw3:=Hd (Nw2.out.grow hb)
 clear hb Nw2
 refine pL rfl (.int .i64 (k.1:Int)) (fun u=>by kernel_rfl) ?_
 refine wpList_nil ?_
 try simp only [Act.put,s_,t_,u_,v_,x_,y_]
 go_upto_region 4 with (fail)
 refine wp_region_lit ?_
 refine fL rfl 8 (.func 8) #[.const (.int .u64 5)] #[24] rfl #[] #[.int .u64 5] (by kernel_rfl) (by kernel_rfl) (fun u=>cE _ _ _ _ u Tryz.func8 (by kernel_rfl) (by kernel_rfl)) (.agg (nc 5)) (law_one 5 w3 (by decide)) (fun w4 hb=>?_)
 have Nw4:=Hd (Nw3.out.grow hb)
 clear hb Nw3
 refine nL rfl 27 rfl (.agg (nc 0)) (by rw [nZ]; kernel_rfl) ?_
 intro db w5 hx hx2 hgv hh
 have Nw5:=Hd (show Mem w w5 [(db,nc 0,27)] from Nw4.out.new hgv (Nat.le_of_eq hx) hh)
 clear hx hx2 hgv hh Nw4
 refine sB rfl 27 (.tmp 10) (.tmp 25) rfl db (by kernel_rfl) _ _ (nc 5) (by kernel_rfl) (Nw5.out.at 0 rfl) (by rw [nS]; kernel_rfl) (by simp only [nS]) (nO _) ?_
 intro w6 hw hb hs
 have Nw6:=Hd (Nw5.out.store 0 rfl hb hs hw)
 clear hw hb hs Nw5
 refine wpList_nil ?_
 try simp only [Act.put,s_,t_,u_,v_,x_,y_]
 go_upto_region 5 with (fail)
 refine wp_region_lit ?_
 refine pL rfl (.string ent) (fun u=>by kernel_rfl) ?_
 refine fL rfl 10 (.func 10) #[.tmp 27,.const (.int .i64 100)] #[9,3] rfl #[] #[.string ent,.int .i64 100] (by kernel_rfl) (by kernel_rfl) (fun u=>cE _ _ _ _ u Tryz.func10 (by kernel_rfl) (by kernel_rfl)) (.string (shortS ent)) ((short_calls ent w6 HB1.out).mono fun e w' h=>⟨h.1,h.2 ▸ Below.refl _ _⟩) (fun w7 hb=>?_)
 have Nw7:=Hd (Nw6.out.grow hb)
 clear hb Nw6
 refine pL rfl (.string ES) (fun u=>by rw [HES.out]; exact run_cat _ _ _ _ rfl (shortS ent) seedB (by kernel_rfl) (by kernel_rfl) (by have:=(seed_size ent).2; rw [ByteArray.size_append] at this; omega) u) ?_
 refine wpList_fnE rfl _ _ _ _ rfl #[] #[.int .i64 2,.string ES,.string ⟨#[]⟩,.string ⟨#[]⟩] (by kernel_rfl) (by kernel_rfl) (fun u=>cE _ _ _ _ u Tryz.func9 (by kernel_rfl) (by kernel_rfl)) (T:=Nat) (fun d=>.tuple #[.pointer (some ⟨d,0,none⟩),.int .i64 0]) (fun d w'=>DrbgAt w' d 2 KV 1∧w7.heap.size≤d∧Below w7.heap.size w7 w') ((HNEW.out w7).mono fun e w' ⟨d,h1,h2,h3,h4⟩=>⟨d,h1,h2,h3,h4⟩) ?_
 rintro d1 w8 ⟨hd,hge,hb⟩
 have Nw8:=Hd (show Mem w w8 [(db,nc 5,27),(d1,#[.int .i64 (2:Nat),.string KV.1,.string KV.2,.int .i64 1],67)] from Nw7.out.new hb hge hd)
 clear hd hge hb Nw7
 refine pL rfl (.tuple #[.pointer (some ⟨d1,0,none⟩),.int .i64 0]) (fun u=>by kernel_rfl) ?_
 refine pL rfl (.pointer (some ⟨d1,0,none⟩)) (fun u=>by kernel_rfl) ?_
 refine pL rfl (.int .i64 0) (fun u=>by kernel_rfl) ?_
 refine pL rfl (.pointer (some ⟨d1,0,none⟩)) (fun u=>by kernel_rfl) ?_
 refine pL rfl (.int .i64 0) (fun u=>by kernel_rfl) ?_
 refine wpList_nil ?_
 try simp only [Act.put,s_,t_,u_,v_,x_,y_]
 go_upto_region 6 with (fail)
 refine wp_region_lit ?_
 refine pL rfl (.string ent) (fun u=>by kernel_rfl) ?_
 refine fL rfl 10 (.func 10) #[.tmp 34,.const (.int .i64 100)] #[9,3] rfl #[] #[.string ent,.int .i64 100] (by kernel_rfl) (by kernel_rfl) (fun u=>cE _ _ _ _ u Tryz.func10 (by kernel_rfl) (by kernel_rfl)) (.string (shortS ent)) ((short_calls ent w8 HB1.out).mono fun e w' h=>⟨h.1,h.2 ▸ Below.refl _ _⟩) (fun w9 hb=>?_)
 have Nw9:=Hd (Nw8.out.grow hb)
 clear hb Nw8
 refine pL rfl (.string ES) (fun u=>by rw [HES.out]; exact run_cat _ _ _ _ rfl (shortS ent) seedB (by kernel_rfl) (by kernel_rfl) (by have:=(seed_size ent).2; rw [ByteArray.size_append] at this; omega) u) ?_
 refine wpList_fnE rfl _ _ _ _ rfl #[] #[.int .i64 2,.string ES,.string ⟨#[]⟩,.string ⟨#[]⟩] (by kernel_rfl) (by kernel_rfl) (fun u=>cE _ _ _ _ u Tryz.func9 (by kernel_rfl) (by kernel_rfl)) (T:=Nat) (fun d=>.tuple #[.pointer (some ⟨d,0,none⟩),.int .i64 0]) (fun d w'=>DrbgAt w' d 2 KV 1∧w9.heap.size≤d∧Below w9.heap.size w9 w') ((HNEW.out w9).mono fun e w' ⟨d,h1,h2,h3,h4⟩=>⟨d,h1,h2,h3,h4⟩) ?_
 rintro d2 w10 ⟨hd,hge,hb⟩
 have Nw10:=Hd (show Mem w w10 [(db,nc 5,27),(d1,#[.int .i64 (2:Nat),.string KV.1,.string KV.2,.int .i64 1],67),(d2,#[.int .i64 (2:Nat),.string KV.1,.string KV.2,.int .i64 1],67)] from Nw9.out.new hb hge hd)
 clear hd hge hb Nw9
 refine pL rfl (.tuple #[.pointer (some ⟨d2,0,none⟩),.int .i64 0]) (fun u=>by kernel_rfl) ?_
 refine pL rfl (.pointer (some ⟨d2,0,none⟩)) (fun u=>by kernel_rfl) ?_
 refine pL rfl (.int .i64 0) (fun u=>by kernel_rfl) ?_
 refine pL rfl (.pointer (some ⟨d2,0,none⟩)) (fun u=>by kernel_rfl) ?_
 refine pL rfl (.int .i64 0) (fun u=>by kernel_rfl) ?_
 refine wpList_nil ?_
 try simp only [Act.put,s_,t_,u_,v_,x_,y_]
 go_upto_region 7 with (fail)
 refine wp_region_lit ?_
 refine pL rfl (.int .i64 0) (fun u=>by kernel_rfl) ?_
 refine fL rfl 11 (.func 11) #[.tmp 40] #[30] rfl #[] #[.int .i64 0] (by kernel_rfl) (by kernel_rfl) (fun u=>cE _ _ _ _ u Tryz.func11 (by kernel_rfl) (by kernel_rfl)) (.int .i64 0) (law_num 0 w10) (fun w11 hb=>?_)
 have Nw11:=Hd (Nw10.out.grow hb)
 clear hb Nw10
 refine pL rfl (.bool false) (fun u=>by kernel_rfl) ?_
 refine pL rfl (.bool false) (fun u=>by kernel_rfl) ?_
 try simp only [Act.put,s_,t_,u_,v_,x_,y_]
 refine wL (by kernel_rfl) (.int .i64 0) (fun u=>by kernel_rfl) ?_
 try simp only [Act.put,s_,t_,u_,v_,x_,y_]
 refine wpList_fnG (by kernel_rfl) _ _ _ _ rfl #[] #[.int .i64 0] (by kernel_rfl) (by kernel_rfl) (fun u=>cE _ _ _ _ u Tryz.func11 (by kernel_rfl) (by kernel_rfl)) (.int .i64 0) (law_num 0 w11) (fun w12 hb=>?_)
 have Nw12:=Hd (Nw11.out.grow hb)
 clear hb Nw11
 try simp only [Act.put,s_,t_,u_,v_,x_,y_]
 refine wL (by kernel_rfl) (.bool false) (fun u=>by kernel_rfl) ?_
 try simp only [Act.put,s_,t_,u_,v_,x_,y_]
 refine pL rfl (.bool false) (fun u=>by kernel_rfl) ?_
 refine wpList_nil ?_
 try simp only [Act.put,s_,t_,u_,v_,x_,y_]
 go_upto_region 9 with (fail)
 go_upto_region 9 with (fail)
 refine wp_region_lit ?_
 refine pL rfl (.int .i64 (k.1:Int)) (fun u=>by kernel_rfl) ?_
 refine l0N rfl (.tmp 10) rfl db (by kernel_rfl) (Nw12.out.at 0 rfl) ?_
 refine pL rfl (.string msg) (fun u=>by kernel_rfl) ?_
 refine pL rfl (.pointer (some ⟨d1,0,none⟩)) (fun u=>by kernel_rfl) ?_
 refine wpList_fnE rfl _ _ _ _ rfl #[] #[.pointer none,.int .i64 (k.1:Int),.int .i64 4,.agg (nc 5),.string msg,.pointer (some ⟨d1,0,none⟩)] (by kernel_rfl) (by kernel_rfl) (fun u=>cE _ _ _ _ u Tryz.func12 (by kernel_rfl) (by kernel_rfl)) (T:=Nat × Nat × Int × Int) (fun q=>.tuple #[.agg (nc q.1++nc q.2.1),.int .i64 q.2.2.1,.int .i64 q.2.2.2]) (fun q w'=>SgOk k 4 2 5 msg KV q.1 q.2.1 q.2.2.1 q.2.2.2∧But d1 w12 w') ((ecdsa_sign k 4 2 5 d1 msg KV w12 (by decide) H5N.out id4 HB2.out id2 HFIT.out (Nw12.out.at 1 rfl)).mono fun e w' ⟨R,S,t,er,h1,h2,h3⟩=>⟨(R,S,t,er),h1,h2,h3⟩) ?_
 rintro ⟨R1,S1,t1,e1⟩ w13 ⟨hsg,hb⟩
 have HG1:=Hd (show SgOk k 4 2 5 msg KV R1 S1 t1 e1 from hsg)
 have Nw13:=Hd (show Mem w w13 [(db,nc 5,27),(d2,#[.int .i64 (2:Nat),.string KV.1,.string KV.2,.int .i64 1],67)] from Mem.wrote (L1:=[(db,nc 5,27)]) (L2:=[(d2,#[.int .i64 (2:Nat),.string KV.1,.string KV.2,.int .i64 1],67)]) Nw12.out hb)
 clear hsg hb Nw12
 refine pL rfl (.tuple #[.agg (nc R1++nc S1),.int .i64 t1,.int .i64 e1]) (fun u=>by kernel_rfl) ?_
 refine pL rfl (.agg (nc R1++nc S1)) (fun u=>by kernel_rfl) ?_
 refine pL rfl (.int .i64 t1) (fun u=>by kernel_rfl) ?_
 refine pL rfl (.int .i64 e1) (fun u=>by kernel_rfl) ?_
 refine nL rfl 36 rfl (.agg (nc 0++nc 0)) (by rw [sg_zero]; kernel_rfl) ?_
 intro s1 w14 hx hx2 hgv hh
 have Nw14:=Hd (show Mem w w14 [(db,nc 5,27),(d2,#[.int .i64 (2:Nat),.string KV.1,.string KV.2,.int .i64 1],67),(s1,nc 0++nc 0,36)] from Nw13.out.new hgv (Nat.le_of_eq hx) hh)
 clear hx hx2 hgv hh Nw13
 refine sB rfl 36 (.tmp 15) (.tmp 54) rfl s1 (by kernel_rfl) _ _ (nc R1++nc S1) (by kernel_rfl) (Nw14.out.at 2 rfl) (by rw [sg_size]; kernel_rfl) (by rw [sg_size,sg_size]) (sg_one _ _) ?_
 intro w15 hw hb hs
 have Nw15:=Hd (Nw14.out.store 2 rfl hb hs hw)
 clear hw hb hs Nw14
 refine pL rfl (.int .i64 t1) (fun u=>by kernel_rfl) ?_
 refine pL rfl (.int .i64 e1) (fun u=>by kernel_rfl) ?_
 refine wpList_nil ?_
 try simp only [Act.put,s_,t_,u_,v_,x_,y_]
 go_upto_region 10 with (fail)
 refine wp_region_lit ?_
 refine pL rfl (.int .i64 (k.1:Int)) (fun u=>by kernel_rfl) ?_
 refine l0N rfl (.tmp 10) rfl db (by kernel_rfl) (Nw15.out.at 0 rfl) ?_
 refine pL rfl (.string oth) (fun u=>by kernel_rfl) ?_
 refine pL rfl (.pointer (some ⟨d2,0,none⟩)) (fun u=>by kernel_rfl) ?_
 refine wpList_fnE rfl _ _ _ _ rfl #[] #[.pointer none,.int .i64 (k.1:Int),.int .i64 4,.agg (nc 5),.string oth,.pointer (some ⟨d2,0,none⟩)] (by kernel_rfl) (by kernel_rfl) (fun u=>cE _ _ _ _ u Tryz.func12 (by kernel_rfl) (by kernel_rfl)) (T:=Nat × Nat × Int × Int) (fun q=>.tuple #[.agg (nc q.1++nc q.2.1),.int .i64 q.2.2.1,.int .i64 q.2.2.2]) (fun q w'=>SgOk k 4 2 5 oth KV q.1 q.2.1 q.2.2.1 q.2.2.2∧But d2 w15 w') ((ecdsa_sign k 4 2 5 d2 oth KV w15 (by decide) H5N.out id4 HB3.out id2 HFIT.out (Nw15.out.at 1 rfl)).mono fun e w' ⟨R,S,t,er,h1,h2,h3⟩=>⟨(R,S,t,er),h1,h2,h3⟩) ?_
 rintro ⟨R2,S2,t2,e2⟩ w16 ⟨hsg,hb⟩
 have HG2:=Hd (show SgOk k 4 2 5 oth KV R2 S2 t2 e2 from hsg)
 have Nw16:=Hd (show Mem w w16 [(db,nc 5,27),(s1,nc R1++nc S1,36)] from Mem.wrote (L1:=[(db,nc 5,27)]) (L2:=[(s1,nc R1++nc S1,36)]) Nw15.out hb)
 clear hsg hb Nw15
 refine pL rfl (.tuple #[.agg (nc R2++nc S2),.int .i64 t2,.int .i64 e2]) (fun u=>by kernel_rfl) ?_
 refine pL rfl (.agg (nc R2++nc S2)) (fun u=>by kernel_rfl) ?_
 refine pL rfl (.int .i64 t2) (fun u=>by kernel_rfl) ?_
 refine pL rfl (.int .i64 e2) (fun u=>by kernel_rfl) ?_
 refine nL rfl 36 rfl (.agg (nc 0++nc 0)) (by rw [sg_zero]; kernel_rfl) ?_
 intro s2 w17 hx hx2 hgv hh
 have Nw17:=Hd (show Mem w w17 [(db,nc 5,27),(s1,nc R1++nc S1,36),(s2,nc 0++nc 0,36)] from Nw16.out.new hgv (Nat.le_of_eq hx) hh)
 clear hx hx2 hgv hh Nw16
 refine sB rfl 36 (.tmp 18) (.tmp 63) rfl s2 (by kernel_rfl) _ _ (nc R2++nc S2) (by kernel_rfl) (Nw17.out.at 2 rfl) (by rw [sg_size]; kernel_rfl) (by rw [sg_size,sg_size]) (sg_one _ _) ?_
 intro w18 hw hb hs
 have Nw18:=Hd (Nw17.out.store 2 rfl hb hs hw)
 clear hw hb hs Nw17
 refine pL rfl (.int .i64 t2) (fun u=>by kernel_rfl) ?_
 refine pL rfl (.int .i64 e2) (fun u=>by kernel_rfl) ?_
 refine wpList_nil ?_
 try simp only [Act.put,s_,t_,u_,v_,x_,y_]
 rcases HG1.out with ⟨rfl,j1,hj1,rfl,_,_,hR1,_,_,_⟩ | rfl
 ·rcases HG2.out with ⟨rfl,j2,hj2,rfl,_,_,hR2,_,_,_⟩ | rfl
  ·have HR1:=Hd hR1
   have HR2:=Hd hR2
   clear hR1 hR2 HG1 HG2
   by_cases hjj:j1=j2
   ·subst hjj
    go_upto_region 11 with (fail)
    refine wp_region_lit ?_
    refine pL rfl (.int .i64 0) (fun u=>by kernel_rfl) ?_
    refine fL rfl 11 (.func 11) #[.tmp 66] #[30] rfl #[] #[.int .i64 0] (by kernel_rfl) (by kernel_rfl) (fun u=>cE _ _ _ _ u Tryz.func11 (by kernel_rfl) (by kernel_rfl)) (.int .i64 0) (law_num 0 w18) (fun w59 hb=>?_)
    have Nw59:=Hd (Nw18.out.grow hb)
    clear hb Nw18
    refine pL rfl (.bool false) (fun u=>by kernel_rfl) ?_
    refine pL rfl (.bool false) (fun u=>by kernel_rfl) ?_
    try simp only [Act.put,s_,t_,u_,v_,x_,y_]
    refine wL (by kernel_rfl) (.int .i64 0) (fun u=>by kernel_rfl) ?_
    try simp only [Act.put,s_,t_,u_,v_,x_,y_]
    refine wpList_fnG (by kernel_rfl) _ _ _ _ rfl #[] #[.int .i64 0] (by kernel_rfl) (by kernel_rfl) (fun u=>cE _ _ _ _ u Tryz.func11 (by kernel_rfl) (by kernel_rfl)) (.int .i64 0) (law_num 0 w59) (fun w60 hb=>?_)
    have Nw60:=Hd (Nw59.out.grow hb)
    clear hb Nw59
    try simp only [Act.put,s_,t_,u_,v_,x_,y_]
    refine wL (by kernel_rfl) (.bool false) (fun u=>by kernel_rfl) ?_
    try simp only [Act.put,s_,t_,u_,v_,x_,y_]
    refine pL rfl (.bool false) (fun u=>by kernel_rfl) ?_
    refine pL rfl (.bool false) (fun u=>by kernel_rfl) ?_
    try simp only [Act.put,s_,t_,u_,v_,x_,y_]
    refine wL (by kernel_rfl) (.int .i64 ((j1:Int)+1)) (fun u=>by kernel_rfl) ?_
    try simp only [Act.put,s_,t_,u_,v_,x_,y_]
    refine wL (by kernel_rfl) (.int .i64 ((j1:Int)+1)) (fun u=>by kernel_rfl) ?_
    try simp only [Act.put,s_,t_,u_,v_,x_,y_]
    refine wL (by kernel_rfl) (.bool false) (fun u=>run_bini _ _ _ _ _ rfl ((j1:Int)+1) ((j1:Int)+1) (by kernel_rfl) (by kernel_rfl) (neq_no _ rfl) u) ?_
    try simp only [Act.put,s_,t_,u_,v_,x_,y_]
    refine pL rfl (.bool false) (fun u=>by kernel_rfl) ?_
    refine wpList_nil ?_
    try simp only [Act.put,s_,t_,u_,v_,x_,y_]
    obtain rfl:R1=R2:=HR1.out.trans HR2.out.symm
    have R9:=Hd (show R1<pw 9 by rw [HR1.out]; exact rN_lt9 _ _)
    go_upto_region 13 with (fail)
    refine wp_region_lit ?_
    refine pL rfl (.pointer (some ⟨s1,0,none⟩)) (fun u=>by kernel_rfl) ?_
    refine wpN_load rfl (.tmp 79) rfl s1 0 (by kernel_rfl) (Nw60.out.at 1 rfl) R1 (fun j hj=>sg_r _ _ j hj) ?_
    refine pL rfl (.pointer (some ⟨s2,0,none⟩)) (fun u=>by kernel_rfl) ?_
    refine wpN_load rfl (.tmp 81) rfl s2 0 (by kernel_rfl) (Nw60.out.at 2 rfl) R1 (fun j hj=>sg_r _ _ j hj) ?_
    try simp only [Act.put,s_,t_,u_,v_,x_,y_]
    refine pL rfl (.bool true) (fun u=>(run_eqn _ _ _ rfl R1 R1 (by kernel_rfl) (by kernel_rfl) R9.out R9.out true (decide_eq_true rfl) u)) ?_
    refine pL rfl (.bool true) (fun u=>by kernel_rfl) ?_
    refine wpList_nil ?_
    try simp only [Act.put,s_,t_,u_,v_,x_,y_]
    go_wp2_with (fail)
    go_ret
    exact ⟨rfl,Nw60.out.below⟩
   ·skip
    go_upto_region 11 with (fail)
    refine wp_region_lit ?_
    refine pL rfl (.int .i64 0) (fun u=>by kernel_rfl) ?_
    refine fL rfl 11 (.func 11) #[.tmp 66] #[30] rfl #[] #[.int .i64 0] (by kernel_rfl) (by kernel_rfl) (fun u=>cE _ _ _ _ u Tryz.func11 (by kernel_rfl) (by kernel_rfl)) (.int .i64 0) (law_num 0 w18) (fun w59 hb=>?_)
    have Nw59:=Hd (Nw18.out.grow hb)
    clear hb Nw18
    refine pL rfl (.bool false) (fun u=>by kernel_rfl) ?_
    refine pL rfl (.bool false) (fun u=>by kernel_rfl) ?_
    try simp only [Act.put,s_,t_,u_,v_,x_,y_]
    refine wL (by kernel_rfl) (.int .i64 0) (fun u=>by kernel_rfl) ?_
    try simp only [Act.put,s_,t_,u_,v_,x_,y_]
    refine wpList_fnG (by kernel_rfl) _ _ _ _ rfl #[] #[.int .i64 0] (by kernel_rfl) (by kernel_rfl) (fun u=>cE _ _ _ _ u Tryz.func11 (by kernel_rfl) (by kernel_rfl)) (.int .i64 0) (law_num 0 w59) (fun w60 hb=>?_)
    have Nw60:=Hd (Nw59.out.grow hb)
    clear hb Nw59
    try simp only [Act.put,s_,t_,u_,v_,x_,y_]
    refine wL (by kernel_rfl) (.bool false) (fun u=>by kernel_rfl) ?_
    try simp only [Act.put,s_,t_,u_,v_,x_,y_]
    refine pL rfl (.bool false) (fun u=>by kernel_rfl) ?_
    refine pL rfl (.bool false) (fun u=>by kernel_rfl) ?_
    try simp only [Act.put,s_,t_,u_,v_,x_,y_]
    refine wL (by kernel_rfl) (.int .i64 ((j1:Int)+1)) (fun u=>by kernel_rfl) ?_
    try simp only [Act.put,s_,t_,u_,v_,x_,y_]
    refine wL (by kernel_rfl) (.int .i64 ((j2:Int)+1)) (fun u=>by kernel_rfl) ?_
    try simp only [Act.put,s_,t_,u_,v_,x_,y_]
    refine wL (by kernel_rfl) (.bool true) (fun u=>run_bini _ _ _ _ _ rfl ((j1:Int)+1) ((j2:Int)+1) (by kernel_rfl) (by kernel_rfl) (neq_yes _ (by omega)) u) ?_
    try simp only [Act.put,s_,t_,u_,v_,x_,y_]
    refine pL rfl (.bool true) (fun u=>by kernel_rfl) ?_
    refine wpList_nil ?_
    try simp only [Act.put,s_,t_,u_,v_,x_,y_]
    go_upto_region 12 with (fail)
    refine wp_region_lit ?_
    refine pL rfl (.bool true) (fun u=>by kernel_rfl) ?_
    refine wpList_nil ?_
    try simp only [Act.put,s_,t_,u_,v_,x_,y_]
    go_wp2_with (fail)
    go_ret
    exact ⟨rfl,Nw60.out.below⟩
  ·skip
   go_upto_region 11 with (fail)
   refine wp_region_lit ?_
   refine pL rfl (.int .i64 0) (fun u=>by kernel_rfl) ?_
   refine fL rfl 11 (.func 11) #[.tmp 66] #[30] rfl #[] #[.int .i64 0] (by kernel_rfl) (by kernel_rfl) (fun u=>cE _ _ _ _ u Tryz.func11 (by kernel_rfl) (by kernel_rfl)) (.int .i64 0) (law_num 0 w18) (fun w59 hb=>?_)
   have Nw59:=Hd (Nw18.out.grow hb)
   clear hb Nw18
   refine pL rfl (.bool false) (fun u=>by kernel_rfl) ?_
   refine pL rfl (.bool false) (fun u=>by kernel_rfl) ?_
   try simp only [Act.put,s_,t_,u_,v_,x_,y_]
   refine wL (by kernel_rfl) (.int .i64 2604) (fun u=>by kernel_rfl) ?_
   try simp only [Act.put,s_,t_,u_,v_,x_,y_]
   refine wpList_fnG (by kernel_rfl) _ _ _ _ rfl #[] #[.int .i64 2604] (by kernel_rfl) (by kernel_rfl) (fun u=>cE _ _ _ _ u Tryz.func11 (by kernel_rfl) (by kernel_rfl)) (.int .i64 2604) (law_num 2604 w59) (fun w60 hb=>?_)
   have Nw60:=Hd (Nw59.out.grow hb)
   clear hb Nw59
   try simp only [Act.put,s_,t_,u_,v_,x_,y_]
   refine wL (by kernel_rfl) (.bool true) (fun u=>by kernel_rfl) ?_
   try simp only [Act.put,s_,t_,u_,v_,x_,y_]
   refine pL rfl (.bool true) (fun u=>by kernel_rfl) ?_
   refine pL rfl (.bool true) (fun u=>by kernel_rfl) ?_
   try simp only [Act.put,s_,t_,u_,v_,x_,y_]
   refine wpList_skipL (by kernel_rfl) ?_
   try simp only [Act.put,s_,t_,u_,v_,x_,y_]
   refine wpList_skipL (by kernel_rfl) ?_
   try simp only [Act.put,s_,t_,u_,v_,x_,y_]
   refine wpList_skipL (by kernel_rfl) ?_
   refine pL rfl (.bool true) (fun u=>by kernel_rfl) ?_
   refine wpList_nil ?_
   try simp only [Act.put,s_,t_,u_,v_,x_,y_]
   go_upto_region 12 with (fail)
   refine wp_region_lit ?_
   refine pL rfl (.bool true) (fun u=>by kernel_rfl) ?_
   refine wpList_nil ?_
   try simp only [Act.put,s_,t_,u_,v_,x_,y_]
   go_wp2_with (fail)
   go_ret
   exact ⟨rfl,Nw60.out.below⟩
 ·skip
  go_upto_region 11 with (fail)
  refine wp_region_lit ?_
  refine pL rfl (.int .i64 2604) (fun u=>by kernel_rfl) ?_
  refine fL rfl 11 (.func 11) #[.tmp 66] #[30] rfl #[] #[.int .i64 2604] (by kernel_rfl) (by kernel_rfl) (fun u=>cE _ _ _ _ u Tryz.func11 (by kernel_rfl) (by kernel_rfl)) (.int .i64 2604) (law_num 2604 w18) (fun w59 hb=>?_)
  have Nw59:=Hd (Nw18.out.grow hb)
  clear hb Nw18
  refine pL rfl (.bool true) (fun u=>by kernel_rfl) ?_
  refine pL rfl (.bool true) (fun u=>by kernel_rfl) ?_
  try simp only [Act.put,s_,t_,u_,v_,x_,y_]
  refine wpList_skipL (by kernel_rfl) ?_
  try simp only [Act.put,s_,t_,u_,v_,x_,y_]
  refine wpList_skipL (by kernel_rfl) ?_
  try simp only [Act.put,s_,t_,u_,v_,x_,y_]
  refine wpList_skipL (by kernel_rfl) ?_
  refine pL rfl (.bool true) (fun u=>by kernel_rfl) ?_
  refine pL rfl (.bool true) (fun u=>by kernel_rfl) ?_
  try simp only [Act.put,s_,t_,u_,v_,x_,y_]
  refine wpList_skipL (by kernel_rfl) ?_
  try simp only [Act.put,s_,t_,u_,v_,x_,y_]
  refine wpList_skipL (by kernel_rfl) ?_
  try simp only [Act.put,s_,t_,u_,v_,x_,y_]
  refine wpList_skipL (by kernel_rfl) ?_
  refine pL rfl (.bool true) (fun u=>by kernel_rfl) ?_
  refine wpList_nil ?_
  try simp only [Act.put,s_,t_,u_,v_,x_,y_]
  go_upto_region 12 with (fail)
  refine wp_region_lit ?_
  refine pL rfl (.bool true) (fun u=>by kernel_rfl) ?_
  refine wpList_nil ?_
  try simp only [Act.put,s_,t_,u_,v_,x_,y_]
  go_wp2_with (fail)
  go_ret
  exact ⟨rfl,Nw59.out.below⟩
end Go.Proofs.YtkoonhiplicbkaaGreat.Cw
