/-
  (package curvettop) The walk of TopRecovers: true. Condition: each text takes at most 2^47 - 4096 bytes.
-/
import Derived.Test.YtkoonhiplicbkaaGreatPk39
import Derived.Test.YtkoonhiplicbkaaGreatPkMk
import Derived.Test.YtkoonhiplicbkaaGreatPk40
set_option linter.unusedSimpArgs false
set_option linter.unusedVariables false
set_option maxHeartbeats 4000000
set_option maxRecDepth 100000
namespace Go.Proofs.YtkoonhiplicbkaaGreat.Cw
open Go Go.RowKit
attribute [local irreducible] pc ptc nc ac cuc fc gpt
attribute [local go_sem ↓ high] wn_eql wn_neq wn_lss wn_gtr wn_leq wn_geq wn_cells wRS wn_guard lit0 lit1
attribute [local go_sem high] wn_match wRS wn_eql wn_neq wn_lss wn_gtr wn_leq wn_geq
theorem inv_int {N a y:Nat} (h:y*a%N=1) (h1:1<N):∃ q:Int,(a:Int)*y=1+N*q:=by
 refine ⟨((y*a / N:Nat):Int),?_⟩
 have h2:=Nat.div_add_mod (y*a) N
 rw [h] at h2
 have h3:((N*(y*a / N)+1:Nat):Int)=((y*a:Nat):Int):=by rw [h2]
 rw [Int.natCast_add,Int.natCast_mul,Int.natCast_mul] at h3
 rw [Int.mul_comm,← h3]
 omega
theorem dif_le {a b:Nat} (h:b≤a) (ha:a<pw 9):dif a b 9=a - b:=by
 unfold dif
 rw [show a+pw 9 - b=(a - b)+pw 9 by omega,Nat.add_mod_right,Nat.mod_eq_of_lt (by omega)]
theorem sg_s (a b j:Nat) (h:j<9):(nc a++nc b)[9+j]?=some (wn (dig b j)):=by
 rw [Array.getElem?_append_right (by rw [nS]; omega),nS,Nat.add_sub_cancel_left]; exact nc_get _ _ h
theorem rec_walk (a0 a1:Int) (ent msg:ByteArray) (w:World) (h0:(Lit.int .i64 a0).wf=true) (h01:(Lit.int .i64 a1).wf=true) (h1:ent.size≤140737488351232) (h2:msg.size≤140737488351232):Calls Tryz.prog 4 #[.int .i64 a0,.int .i64 a1,.string ent,.string msg] w fun e w'=>e=.returned (.bool true)∧Below w.heap.size w w':=by
 have HB1:=Hd (show ent.size≤140737488355328 by omega)
 have HFIT:=Hd (kv0_fit (id:=2) id2 (shortS ent++seedB++⟨#[]⟩++⟨#[]⟩))
 have hnew:=fun w=>dnew_ok 2 (shortS ent++seedB) ⟨#[]⟩ ⟨#[]⟩ w id2 (may2_ok id2 (seed_size ent).1 (seed_size ent).2 (by decide) (by decide))
 obtain ⟨KV,hKV⟩:∃ KV,KV=kv0 2 (shortS ent++seedB++⟨#[]⟩++⟨#[]⟩):=⟨_,rfl⟩
 rw [← hKV] at hnew HFIT
 obtain ⟨ES,hES⟩:∃ ES,ES=shortS ent++seedB:=⟨_,rfl⟩
 rw [← hES] at hnew
 have HES:=Hd hES
 have HNEW:=Hd hnew
 obtain ⟨k,hk⟩:=pkI_k (uw a0%16)
 have HPK:=Hd hk
 have HN5:=Hd k.n5
 have HB2:=Hd h2
 have N9:=Hd k.n9
 have HN0:=Hd (show k.c.n≠0 by have:=k.n5; omega)
 have HN2:=Hd k.nOd.2.2
 obtain ⟨ud,hu⟩:∃ ud,ud=uw a1%200:=⟨_,rfl⟩
 have hu2:ud<200:=by rw [hu]; exact Nat.mod_lt _ (by decide)
 have HU:=Hd hu
 have HUU:=Hd hu2
 obtain ⟨dk,hdk⟩:∃ dk,dk=1+ud:=⟨_,rfl⟩
 have HDK:=Hd hdk
 have HD0:=Hd (show dk≠0 by omega)
 have HDW:=Hd (show dk<9223372036854775808 by omega)
 have HDN:=Hd (show dk<k.c.n by have:=k.n5; omega)
 clear h0 h01 h1 h2 hnew hES hKV hk hu hu2 hdk
 go_enter Tryz.func4,Tryz.ntmps4
 go_upto_region 1 with fail
 have M:=Hd (Mem.nil w)
 refine wp_region_lit ?_
 refine fL rfl 6 (.func 6) #[] #[] rfl #[] #[] (by kernel_rfl) (by kernel_rfl) (fun u=>cE _ _ _ _ u Tryz.func6 (by kernel_rfl) (by kernel_rfl)) (.bool true) (awake_walk w) (fun w2 hb=>?_)
 have Nw2:=Hd (M.out.grow hb)
 clear hb M
 refine pL rfl (.bool false) (fun u=>by kernel_rfl) ?_
 refine wpList_nil ?_
 try simp only [Act.put,s_,t_,u_,v_,x_,y_]
 go_upto_region 3 with (fail)
 refine wp_region_lit ?_
 refine pL rfl (.int .i64 a0) (fun u=>by kernel_rfl) ?_
 refine fL rfl 7 (.func 7) #[.tmp 37] #[3] rfl #[] #[.int .i64 a0] (by kernel_rfl) (by kernel_rfl) (fun u=>cE _ _ _ _ u Tryz.func7 (by kernel_rfl) (by kernel_rfl)) (.int .i64 (k.1:Int)) ((HPK.out ▸ pick_calls a0 w2)) (fun w3 hb=>?_)
 have Nw3:=Hd (Nw2.out.grow hb)
 clear hb Nw2
 refine pL rfl (.int .i64 (k.1:Int)) (fun u=>by kernel_rfl) ?_
 refine wpList_nil ?_
 try simp only [Act.put,s_,t_,u_,v_,x_,y_]
 go_upto_region 4 with (fail)
 refine wp_region_lit ?_
 refine pL rfl (.int .i64 (k.1:Int)) (fun u=>by kernel_rfl) ?_
 refine fL rfl 13 (.func 13) #[.tmp 40] #[3] rfl #[] #[.int .i64 (k.1:Int)] (by kernel_rfl) (by kernel_rfl) (fun u=>cE _ _ _ _ u Tryz.func13 (by kernel_rfl) (by kernel_rfl)) (.tuple #[.agg (ac k.c),.int .i64 0]) (curve_get k.1 w3 k.2.1 k.2.2) (fun w4 hb=>?_)
 have Nw4:=Hd (Nw3.out.grow hb)
 clear hb Nw3
 refine pL rfl (.tuple #[.agg (ac k.c),.int .i64 0]) (fun u=>by kernel_rfl) ?_
 refine pL rfl (.agg (ac k.c)) (fun u=>by kernel_rfl) ?_
 refine pL rfl (.int .i64 0) (fun u=>by kernel_rfl) ?_
 refine nL rfl 43 rfl (.agg #[.int .i64 0,wn 0,wn 0,wn 0,wn 0,wn 0,wn 0,wn 0,wn 0,wn 0,wn 0,wn 0,wn 0,wn 0,wn 0,wn 0,wn 0,wn 0,wn 0,wn 0,wn 0,wn 0,wn 0,wn 0,wn 0,wn 0,wn 0,wn 0,wn 0,wn 0,wn 0,wn 0,wn 0,wn 0,wn 0,wn 0,wn 0,wn 0,wn 0,wn 0,wn 0,wn 0,wn 0,wn 0,wn 0,wn 0,wn 0,wn 0,wn 0,wn 0,wn 0,wn 0,wn 0,wn 0,wn 0,.bool false,.int .i64 0,.int .i64 0,.bool false]) (by kernel_rfl) ?_
 intro cb w5 hx hx2 hgv hh
 have Nw5:=Hd (Nw4.out.new hgv (Nat.le_of_eq hx) hh)
 clear hx hx2 hgv hh Nw4
 refine sB rfl 43 (.tmp 10) (.tmp 42) rfl cb (by kernel_rfl) _ _ (ac k.c) (by kernel_rfl) (Nw5.out.at 0 rfl) (by rw [ac_size]; kernel_rfl) (by rw [ac_size]; rfl) (ac_one _) ?_
 intro w6 hw hb hs
 have Nw6:=Hd (Nw5.out.store 0 rfl hb hs hw)
 clear hw hb hs Nw5
 refine pL rfl (.int .i64 0) (fun u=>by kernel_rfl) ?_
 refine wpList_nil ?_
 try simp only [Act.put,s_,t_,u_,v_,x_,y_]
 go_upto_region 5 with (fail)
 refine wp_region_lit ?_
 refine pL rfl (.string ent) (fun u=>by kernel_rfl) ?_
 refine fL rfl 10 (.func 10) #[.tmp 45,.const (.int .i64 100)] #[9,3] rfl #[] #[.string ent,.int .i64 100] (by kernel_rfl) (by kernel_rfl) (fun u=>cE _ _ _ _ u Tryz.func10 (by kernel_rfl) (by kernel_rfl)) (.string (shortS ent)) ((short_calls ent w6 HB1.out).mono fun e w' h=>⟨h.1,h.2 ▸ Below.refl _ _⟩) (fun w7 hb=>?_)
 have Nw7:=Hd (Nw6.out.grow hb)
 clear hb Nw6
 refine pL rfl (.string ES) (fun u=>by rw [HES.out]; exact run_cat _ _ _ _ rfl (shortS ent) seedB (by kernel_rfl) (by kernel_rfl) (by have:=(seed_size ent).2; rw [ByteArray.size_append] at this; omega) u) ?_
 refine wpList_fnE rfl _ _ _ _ rfl #[] #[.int .i64 2,.string ES,.string ⟨#[]⟩,.string ⟨#[]⟩] (by kernel_rfl) (by kernel_rfl) (fun u=>cE _ _ _ _ u Tryz.func9 (by kernel_rfl) (by kernel_rfl)) (T:=Nat) (fun d=>.tuple #[.pointer (some ⟨d,0,none⟩),.int .i64 0]) (fun d w'=>DrbgAt w' d 2 KV 1∧w7.heap.size≤d∧Below w7.heap.size w7 w') ((HNEW.out w7).mono fun e w' ⟨d,h1,h2,h3,h4⟩=>⟨d,h1,h2,h3,h4⟩) ?_
 rintro d1 w8 ⟨hd,hge,hb⟩
 have Nw8:=Hd (Nw7.out.new hb hge hd)
 clear hd hge hb Nw7
 refine pL rfl (.tuple #[.pointer (some ⟨d1,0,none⟩),.int .i64 0]) (fun u=>by kernel_rfl) ?_
 refine pL rfl (.pointer (some ⟨d1,0,none⟩)) (fun u=>by kernel_rfl) ?_
 refine pL rfl (.int .i64 0) (fun u=>by kernel_rfl) ?_
 refine pL rfl (.pointer (some ⟨d1,0,none⟩)) (fun u=>by kernel_rfl) ?_
 refine pL rfl (.int .i64 0) (fun u=>by kernel_rfl) ?_
 refine wpList_nil ?_
 try simp only [Act.put,s_,t_,u_,v_,x_,y_]
 go_upto_region 6 with (fail)
 refine wp_region_lit ?_
 refine pL rfl (.string ent) (fun u=>by kernel_rfl) ?_
 refine fL rfl 10 (.func 10) #[.tmp 52,.const (.int .i64 100)] #[9,3] rfl #[] #[.string ent,.int .i64 100] (by kernel_rfl) (by kernel_rfl) (fun u=>cE _ _ _ _ u Tryz.func10 (by kernel_rfl) (by kernel_rfl)) (.string (shortS ent)) ((short_calls ent w8 HB1.out).mono fun e w' h=>⟨h.1,h.2 ▸ Below.refl _ _⟩) (fun w9 hb=>?_)
 have Nw9:=Hd (Nw8.out.grow hb)
 clear hb Nw8
 refine pL rfl (.string ES) (fun u=>by rw [HES.out]; exact run_cat _ _ _ _ rfl (shortS ent) seedB (by kernel_rfl) (by kernel_rfl) (by have:=(seed_size ent).2; rw [ByteArray.size_append] at this; omega) u) ?_
 refine wpList_fnE rfl _ _ _ _ rfl #[] #[.int .i64 2,.string ES,.string ⟨#[]⟩,.string ⟨#[]⟩] (by kernel_rfl) (by kernel_rfl) (fun u=>cE _ _ _ _ u Tryz.func9 (by kernel_rfl) (by kernel_rfl)) (T:=Nat) (fun d=>.tuple #[.pointer (some ⟨d,0,none⟩),.int .i64 0]) (fun d w'=>DrbgAt w' d 2 KV 1∧w9.heap.size≤d∧Below w9.heap.size w9 w') ((HNEW.out w9).mono fun e w' ⟨d,h1,h2,h3,h4⟩=>⟨d,h1,h2,h3,h4⟩) ?_
 rintro d2 w10 ⟨hd,hge,hb⟩
 have Nw10:=Hd (show Mem w w10 [(cb,ac k.c,43),(d1,#[.int .i64 (2:Nat),.string KV.1,.string KV.2,.int .i64 1],67),(d2,#[.int .i64 (2:Nat),.string KV.1,.string KV.2,.int .i64 1],67)] from Nw9.out.new hb hge hd)
 clear hd hge hb Nw9
 refine pL rfl (.tuple #[.pointer (some ⟨d2,0,none⟩),.int .i64 0]) (fun u=>by kernel_rfl) ?_
 refine pL rfl (.pointer (some ⟨d2,0,none⟩)) (fun u=>by kernel_rfl) ?_
 refine pL rfl (.int .i64 0) (fun u=>by kernel_rfl) ?_
 refine pL rfl (.pointer (some ⟨d2,0,none⟩)) (fun u=>by kernel_rfl) ?_
 refine pL rfl (.int .i64 0) (fun u=>by kernel_rfl) ?_
 refine wpList_nil ?_
 try simp only [Act.put,s_,t_,u_,v_,x_,y_]
 go_upto_region 7 with (fail)
 refine wp_region_lit ?_
 refine pL rfl (.int .i64 0) (fun u=>by kernel_rfl) ?_
 refine fL rfl 11 (.func 11) #[.tmp 58] #[30] rfl #[] #[.int .i64 0] (by kernel_rfl) (by kernel_rfl) (fun u=>cE _ _ _ _ u Tryz.func11 (by kernel_rfl) (by kernel_rfl)) (.int .i64 0) (law_num 0 w10) (fun w11 hb=>?_)
 have Nw11:=Hd (Nw10.out.grow hb)
 clear hb Nw10
 refine pL rfl (.bool false) (fun u=>by kernel_rfl) ?_
 refine pL rfl (.bool false) (fun u=>by kernel_rfl) ?_
 try simp only [Act.put,s_,t_,u_,v_,x_,y_]
 refine wL (by kernel_rfl) (.int .i64 0) (fun u=>by kernel_rfl) ?_
 try simp only [Act.put,s_,t_,u_,v_,x_,y_]
 refine wpList_fnG (by kernel_rfl) _ _ _ _ rfl #[] #[.int .i64 0] (by kernel_rfl) (by kernel_rfl) (fun u=>cE _ _ _ _ u Tryz.func11 (by kernel_rfl) (by kernel_rfl)) (.int .i64 0) (law_num 0 w11) (fun w12 hb=>?_)
 have Nw12:=Hd (Nw11.out.grow hb)
 clear hb Nw11
 try simp only [Act.put,s_,t_,u_,v_,x_,y_]
 refine wL (by kernel_rfl) (.bool false) (fun u=>by kernel_rfl) ?_
 try simp only [Act.put,s_,t_,u_,v_,x_,y_]
 refine pL rfl (.bool false) (fun u=>by kernel_rfl) ?_
 refine pL rfl (.bool false) (fun u=>by kernel_rfl) ?_
 try simp only [Act.put,s_,t_,u_,v_,x_,y_]
 refine wL (by kernel_rfl) (.int .i64 0) (fun u=>by kernel_rfl) ?_
 try simp only [Act.put,s_,t_,u_,v_,x_,y_]
 refine wpList_fnG (by kernel_rfl) _ _ _ _ rfl #[] #[.int .i64 0] (by kernel_rfl) (by kernel_rfl) (fun u=>cE _ _ _ _ u Tryz.func11 (by kernel_rfl) (by kernel_rfl)) (.int .i64 0) (law_num 0 w12) (fun w13 hb=>?_)
 have Nw13:=Hd (Nw12.out.grow hb)
 clear hb Nw12
 try simp only [Act.put,s_,t_,u_,v_,x_,y_]
 refine wL (by kernel_rfl) (.bool false) (fun u=>by kernel_rfl) ?_
 try simp only [Act.put,s_,t_,u_,v_,x_,y_]
 refine pL rfl (.bool false) (fun u=>by kernel_rfl) ?_
 refine wpList_nil ?_
 try simp only [Act.put,s_,t_,u_,v_,x_,y_]
 go_upto_region 9 with (fail)
 refine wp_region_lit ?_
 refine pL rfl (.int .i64 a1) (fun u=>by kernel_rfl) ?_
 try simp only [Act.put,s_,t_,u_,v_,x_,y_]
 refine pL rfl (wn (uw a1)) (fun u=>conv_uw 3 46 (.tmp 71) rfl a1 (by kernel_rfl) Tryz.underlying3 Tryz.underlying46 u) ?_
 try simp only [Act.put,s_,t_,u_,v_,x_,y_]
 refine pL rfl (wn ud) (fun u=>by rw [HU.out]; exact run_wn _ _ _ _ _ rfl (uw a1) (wn 200) (by kernel_rfl) (by kernel_rfl) (wn_rem _ _ _ (uw_lt _) (by decide)) _) ?_
 try simp only [Act.put,s_,t_,u_,v_,x_,y_]
 refine pL rfl (.int .i64 ((ud:Nat):Int)) (fun u=>conv_int 46 3 (.tmp 73) rfl ud (by kernel_rfl) (Nat.lt_trans HUU.out (by decide)) Tryz.underlying46 Tryz.underlying3 _) ?_
 try simp only [Act.put,s_,t_,u_,v_,x_,y_]
 refine pL rfl (.int .i64 ((dk:Nat):Int)) (fun u=>by rw [HDK.out]; exact run_bini _ _ _ _ _ rfl ((1:Nat):Int) (ud:Int) (by kernel_rfl) (by kernel_rfl) (bi_add _ (by have:=HUU.out; omega)) _) ?_
 try simp only [Act.put,s_,t_,u_,v_,x_,y_]
 refine pL rfl (wn dk) (fun u=>conv_wn 3 24 (.tmp 75) rfl dk (by kernel_rfl) (Nat.lt_trans HDW.out (by decide)) Tryz.underlying3 Tryz.underlying24 _) ?_
 refine fL rfl 8 (.func 8) #[.tmp 76] #[24] rfl #[] #[wn dk] (by kernel_rfl) (by kernel_rfl) (fun u=>cE _ _ _ _ u Tryz.func8 (by kernel_rfl) (by kernel_rfl)) (.agg (nc dk)) (law_one dk w13 (Nat.lt_trans HDW.out (by decide))) (fun w14 hb=>?_)
 have Nw14:=Hd (Nw13.out.grow hb)
 clear hb Nw13
 refine nL rfl 27 rfl (.agg (nc 0)) (by rw [nZ]; kernel_rfl) ?_
 intro db w15 hx hx2 hgv hh
 have Nw15:=Hd (show Mem w w15 [(cb,ac k.c,43),(d1,#[.int .i64 (2:Nat),.string KV.1,.string KV.2,.int .i64 1],67),(d2,#[.int .i64 (2:Nat),.string KV.1,.string KV.2,.int .i64 1],67),(db,nc 0,27)] from Nw14.out.new hgv (Nat.le_of_eq hx) hh)
 clear hx hx2 hgv hh Nw14
 refine sB rfl 27 (.tmp 16) (.tmp 77) rfl db (by kernel_rfl) _ _ (nc dk) (by kernel_rfl) (Nw15.out.at 3 rfl) (by rw [nS]; kernel_rfl) (by simp only [nS]) (nO _) ?_
 intro w16 hw hb hs
 have Nw16:=Hd (Nw15.out.store 3 rfl hb hs hw)
 clear hw hb hs Nw15
 refine wpList_nil ?_
 try simp only [Act.put,s_,t_,u_,v_,x_,y_]
 go_upto_region 10 with (fail)
 refine wp_region_lit ?_
 refine pL rfl (.int .i64 (k.1:Int)) (fun u=>by kernel_rfl) ?_
 refine l0N rfl (.tmp 16) rfl db (by kernel_rfl) (Nw16.out.at 3 rfl) ?_
 refine pL rfl (.string msg) (fun u=>by kernel_rfl) ?_
 refine pL rfl (.pointer (some ⟨d1,0,none⟩)) (fun u=>by kernel_rfl) ?_
 refine wpList_fnE rfl _ _ _ _ rfl #[] #[.pointer none,.int .i64 (k.1:Int),.int .i64 2,.agg (nc dk),.string msg,.pointer (some ⟨d1,0,none⟩)] (by kernel_rfl) (by kernel_rfl) (fun u=>cE _ _ _ _ u Tryz.func12 (by kernel_rfl) (by kernel_rfl)) (T:=Nat × Nat × Int × Int) (fun q=>.tuple #[.agg (nc q.1++nc q.2.1),.int .i64 q.2.2.1,.int .i64 q.2.2.2]) (fun q w'=>SgOk k 2 2 dk msg KV q.1 q.2.1 q.2.2.1 q.2.2.2∧But d1 w16 w') ((ecdsa_sign k 2 2 dk d1 msg KV w16 HD0.out HDN.out id2 HB2.out id2 HFIT.out (Nw16.out.at 1 rfl)).mono fun e w' ⟨R,S,t,er,h1,h2,h3⟩=>⟨(R,S,t,er),h1,h2,h3⟩) ?_
 rintro ⟨R,S,tt,er⟩ w17 ⟨hsg,hb⟩
 have HG1:=Hd (show SgOk k 2 2 dk msg KV R S tt er from hsg)
 have Nw17:=Hd (show Mem w w17 [(cb,ac k.c,43),(d2,#[.int .i64 (2:Nat),.string KV.1,.string KV.2,.int .i64 1],67),(db,nc dk,27)] from Mem.wrote (L1:=[(cb,ac k.c,43)]) (L2:=[(d2,#[.int .i64 (2:Nat),.string KV.1,.string KV.2,.int .i64 1],67),(db,nc dk,27)]) Nw16.out hb)
 clear hsg hb Nw16
 refine pL rfl (.tuple #[.agg (nc R++nc S),.int .i64 tt,.int .i64 er]) (fun u=>by kernel_rfl) ?_
 refine pL rfl (.agg (nc R++nc S)) (fun u=>by kernel_rfl) ?_
 refine pL rfl (.int .i64 tt) (fun u=>by kernel_rfl) ?_
 refine pL rfl (.int .i64 er) (fun u=>by kernel_rfl) ?_
 refine nL rfl 36 rfl (.agg (nc 0++nc 0)) (by rw [sg_zero]; kernel_rfl) ?_
 intro s1 w18 hx hx2 hgv hh
 have Nw18:=Hd (show Mem w w18 [(cb,ac k.c,43),(d2,#[.int .i64 (2:Nat),.string KV.1,.string KV.2,.int .i64 1],67),(db,nc dk,27),(s1,nc 0++nc 0,36)] from Nw17.out.new hgv (Nat.le_of_eq hx) hh)
 clear hx hx2 hgv hh Nw17
 refine sB rfl 36 (.tmp 17) (.tmp 84) rfl s1 (by kernel_rfl) _ _ (nc R++nc S) (by kernel_rfl) (Nw18.out.at 3 rfl) (by rw [sg_size]; kernel_rfl) (by rw [sg_size,sg_size]) (sg_one _ _) ?_
 intro w19 hw hb hs
 have Nw19:=Hd (Nw18.out.store 3 rfl hb hs hw)
 clear hw hb hs Nw18
 refine pL rfl (.int .i64 tt) (fun u=>by kernel_rfl) ?_
 refine pL rfl (.int .i64 er) (fun u=>by kernel_rfl) ?_
 refine wpList_nil ?_
 try simp only [Act.put,s_,t_,u_,v_,x_,y_]
 rcases HG1.out with ⟨rfl,j,hj,rfl,hk0,hkn,hR,hR0,hS0,y,hy,hya,hS⟩ | rfl
 ·by_cases hj0:j=0
  ·subst hj0
   have HK0:=Hd hk0
   have HKN:=Hd hkn
   have HR:=Hd hR
   have HR0:=Hd hR0
   have HS:=Hd hS
   have HYA:=Hd hya
   clear hk0 hkn hR hR0 hS0 hya hS hy HG1 hj
   go_upto_region 11 with (fail)
   refine wp_region_lit ?_
   refine pL rfl (.int .i64 0) (fun u=>by kernel_rfl) ?_
   refine fL rfl 11 (.func 11) #[.tmp 87] #[30] rfl #[] #[.int .i64 0] (by kernel_rfl) (by kernel_rfl) (fun u=>cE _ _ _ _ u Tryz.func11 (by kernel_rfl) (by kernel_rfl)) (.int .i64 0) (law_num 0 w19) (fun w60 hb=>?_)
   have Nw60:=Hd (Nw19.out.grow hb)
   clear hb Nw19
   refine pL rfl (.bool false) (fun u=>by kernel_rfl) ?_
   refine pL rfl (.bool false) (fun u=>by kernel_rfl) ?_
   try simp only [Act.put,s_,t_,u_,v_,x_,y_]
   refine wL (by kernel_rfl) (.int .i64 (((0:Nat):Int)+1)) (fun u=>by kernel_rfl) ?_
   try simp only [Act.put,s_,t_,u_,v_,x_,y_]
   refine wL (by kernel_rfl) (.bool false) (fun u=>by kernel_rfl) ?_
   try simp only [Act.put,s_,t_,u_,v_,x_,y_]
   refine pL rfl (.bool false) (fun u=>by kernel_rfl) ?_
   refine wpList_nil ?_
   try simp only [Act.put,s_,t_,u_,v_,x_,y_]
   go_upto_region 13 with (fail)
   refine wp_region_lit ?_
   refine pL rfl (.int .i64 (k.1:Int)) (fun u=>by kernel_rfl) ?_
   refine pL rfl (.pointer (some ⟨d2,0,none⟩)) (fun u=>by kernel_rfl) ?_
   refine wpList_fnE rfl _ _ _ _ rfl #[] #[.int .i64 (k.1:Int),.pointer (some ⟨d2,0,none⟩)] (by kernel_rfl) (by kernel_rfl) (fun u=>cE _ _ _ _ u Tryz.func14 (by kernel_rfl) (by kernel_rfl)) (T:=Unit) (fun _=>.tuple #[.agg (nc (kN k 2 KV 0)),.int .i64 1,.int .i64 0]) (fun _ w'=>But d2 w60 w') ((key_make k d2 2 KV w60 id2 HFIT.out HK0.out HKN.out (Nw60.out.at 1 rfl)).mono fun e w' ⟨h1,h2⟩=>⟨(),h1,h2⟩) ?_
   rintro _ w61 hb
   have Nw61:=Hd (show Mem w w61 [(cb,ac k.c,43),(db,nc dk,27),(s1,nc R++nc S,36)] from Mem.wrote (L1:=[(cb,ac k.c,43)]) (L2:=[(db,nc dk,27),(s1,nc R++nc S,36)]) Nw60.out hb)
   clear hb Nw60
   obtain ⟨X,hX⟩:∃ X,X=kN k 2 KV 0:=⟨_,rfl⟩
   have HX:=Hd hX
   rw [← hX]
   clear hX
   refine pL rfl (.tuple #[.agg (nc X),.int .i64 1,.int .i64 0]) (fun u=>by kernel_rfl) ?_
   refine pL rfl (.agg (nc X)) (fun u=>by kernel_rfl) ?_
   refine pL rfl (.int .i64 1) (fun u=>by kernel_rfl) ?_
   refine pL rfl (.int .i64 0) (fun u=>by kernel_rfl) ?_
   refine nL rfl 27 rfl (.agg (nc 0)) (by rw [nZ]; kernel_rfl) ?_
   intro kb w62 hx hx2 hgv hh
   have Nw62:=Hd (show Mem w w62 [(cb,ac k.c,43),(db,nc dk,27),(s1,nc R++nc S,36),(kb,nc 0,27)] from Nw61.out.new hgv (Nat.le_of_eq hx) hh)
   clear hx hx2 hgv hh Nw61
   refine sB rfl 27 (.tmp 20) (.tmp 111) rfl kb (by kernel_rfl) _ _ (nc X) (by kernel_rfl) (Nw62.out.at 3 rfl) (by rw [nS]; kernel_rfl) (by simp only [nS]) (nO _) ?_
   intro w63 hw hb hs
   have Nw63:=Hd (Nw62.out.store 3 rfl hb hs hw)
   clear hw hb hs Nw62
   refine pL rfl (.int .i64 1) (fun u=>by kernel_rfl) ?_
   refine pL rfl (.int .i64 0) (fun u=>by kernel_rfl) ?_
   refine wpList_nil ?_
   try simp only [Act.put,s_,t_,u_,v_,x_,y_]
   obtain ⟨z,hz⟩:∃ z,z=dgN k 2 msg:=⟨_,rfl⟩
   have HDG:=Hd (fun w=>hz ▸ ecdsa_Dig k 2 msg w id2 HB2.out)
   have hS2:=HS.out
   have hya2:=HYA.out
   rw [← HX.out] at hya2
   rw [← hz] at hS2
   have hn1:=k.n1
   have HZN:=Hd (show z<k.c.n by rw [hz]; exact Nat.mod_lt _ (by omega))
   have HRN:=Hd (show R<k.c.n by rw [HR.out]; exact Nat.mod_lt _ (by omega))
   obtain ⟨ri,hri,hria⟩:=k.inv HR0.out HRN.out
   have hlaw:=rec_law (ki:=y) HZN.out HDN.out (inv_int hya2 hn1) (inv_int hria hn1)
   rw [← hS2] at hlaw
   have HRI:=Hd hri
   have HRIA:=Hd hria
   have S9:=Hd (show S<pw 9 by rw [hS2]; exact Nat.lt_trans (Nat.mod_lt _ (by omega)) N9.out)
   have X9:=Hd (show X<pw 9 from Nat.lt_trans (by rw [HX.out]; exact HKN.out) N9.out)
   have R9:=Hd (Nat.lt_trans HRN.out N9.out)
   have Z9:=Hd (Nat.lt_trans HZN.out N9.out)
   have RI9:=Hd (Nat.lt_trans hri N9.out)
   have D9:=Hd (Nat.lt_trans HDN.out N9.out)
   obtain ⟨sk,hsk⟩:∃ sk,sk=S*X%k.c.n:=⟨_,rfl⟩
   rw [← hsk] at hlaw
   have HSK:=Hd (show sk<k.c.n by rw [hsk]; exact Nat.mod_lt _ (by omega))
   have SK9:=Hd (Nat.lt_trans HSK.out N9.out)
   have HSKE:=Hd hsk
   have UP9:=Hd (show sk+k.c.n<pw 9 by have:=HSK.out; have:=HN2.out; omega)
   have HDF:=Hd (dif_le (a:=sk+k.c.n) (b:=z) (by have:=HZN.out; omega) UP9.out)
   obtain ⟨t,ht⟩:∃ t,t=sk+k.c.n - z:=⟨_,rfl⟩
   rw [← ht] at hlaw HDF
   have T9:=Hd (show t<pw 9 by rw [ht]; exact Nat.lt_of_le_of_lt (Nat.sub_le _ _) UP9.out)
   have HLAW:=Hd hlaw
   clear hlaw hS2 hya2 hri hria hsk ht hz hn1 HYA HS HR
   go_upto_region 14 with (fail)
   refine wp_region_lit ?_
   refine pL rfl (.int .i64 (k.1:Int)) (fun u=>by kernel_rfl) ?_
   refine pL rfl (.string msg) (fun u=>by kernel_rfl) ?_
   refine fL rfl 15 (.func 15) #[.tmp 115,.const (.int .i64 2),.tmp 116] #[3,3,9] rfl #[] #[.int .i64 (k.1:Int),.int .i64 2,.string msg] (by kernel_rfl) (by kernel_rfl) (fun u=>cE _ _ _ _ u Tryz.func15 (by kernel_rfl) (by kernel_rfl)) (.tuple #[.agg (nc z),.int .i64 0]) (HDG.out w63) (fun w64 hb=>?_)
   have Nw64:=Hd (Nw63.out.grow hb)
   clear hb Nw63
   refine pL rfl (.tuple #[.agg (nc z),.int .i64 0]) (fun u=>by kernel_rfl) ?_
   refine pL rfl (.agg (nc z)) (fun u=>by kernel_rfl) ?_
   refine pL rfl (.int .i64 0) (fun u=>by kernel_rfl) ?_
   refine nL rfl 27 rfl (.agg (nc 0)) (by rw [nZ]; kernel_rfl) ?_
   intro zb w65 hx hx2 hgv hh
   have Nw65:=Hd (show Mem w w65 [(cb,ac k.c,43),(db,nc dk,27),(s1,nc R++nc S,36),(kb,nc X,27),(zb,nc 0,27)] from Nw64.out.new hgv (Nat.le_of_eq hx) hh)
   clear hx hx2 hgv hh Nw64
   refine sB rfl 27 (.tmp 23) (.tmp 118) rfl zb (by kernel_rfl) _ _ (nc z) (by kernel_rfl) (Nw65.out.at 4 rfl) (by rw [nS]; kernel_rfl) (by simp only [nS]) (nO _) ?_
   intro w66 hw hb hs
   have Nw66:=Hd (Nw65.out.store 4 rfl hb hs hw)
   clear hw hb hs Nw65
   refine pL rfl (.int .i64 0) (fun u=>by kernel_rfl) ?_
   refine wpList_nil ?_
   try simp only [Act.put,s_,t_,u_,v_,x_,y_]
   go_upto_region 15 with (fail)
   refine wp_region_lit ?_
   refine pL rfl (.int .i64 0) (fun u=>by kernel_rfl) ?_
   refine fL rfl 11 (.func 11) #[.tmp 120] #[30] rfl #[] #[.int .i64 0] (by kernel_rfl) (by kernel_rfl) (fun u=>cE _ _ _ _ u Tryz.func11 (by kernel_rfl) (by kernel_rfl)) (.int .i64 0) (law_num 0 w66) (fun w67 hb=>?_)
   have Nw67:=Hd (Nw66.out.grow hb)
   clear hb Nw66
   refine pL rfl (.bool false) (fun u=>by kernel_rfl) ?_
   refine pL rfl (.bool false) (fun u=>by kernel_rfl) ?_
   try simp only [Act.put,s_,t_,u_,v_,x_,y_]
   refine wL (by kernel_rfl) (.int .i64 1) (fun u=>by kernel_rfl) ?_
   try simp only [Act.put,s_,t_,u_,v_,x_,y_]
   refine wL (by kernel_rfl) (.bool false) (fun u=>by kernel_rfl) ?_
   try simp only [Act.put,s_,t_,u_,v_,x_,y_]
   refine pL rfl (.bool false) (fun u=>by kernel_rfl) ?_
   refine wpList_nil ?_
   try simp only [Act.put,s_,t_,u_,v_,x_,y_]
   go_upto_region 17 with (fail)
   refine wp_region_lit ?_
   refine pL rfl (.pointer (some ⟨s1,9,none⟩)) (fun u=>by kernel_rfl) ?_
   refine wpN_load rfl (.tmp 128) rfl s1 9 (by kernel_rfl) (Nw67.out.at 2 rfl) S (fun j hj=>sg_s _ _ j hj) ?_
   refine l0N rfl (.tmp 20) rfl kb (by kernel_rfl) (Nw67.out.at 3 rfl) ?_
   refine pL rfl (.pointer (some ⟨cb,28,none⟩)) (fun u=>by kernel_rfl) ?_
   refine wpN_load rfl (.tmp 131) rfl cb 28 (by kernel_rfl) (Nw67.out.at 0 rfl) k.c.n (ac_n _) ?_
   refine fL rfl 16 (.func 16) #[.tmp 129,.tmp 130,.tmp 132] #[27,27,27] rfl #[] #[.agg (nc S),.agg (nc X),.agg (nc k.c.n)] (by kernel_rfl) (by kernel_rfl) (fun u=>cE _ _ _ _ u Tryz.func16 (by kernel_rfl) (by kernel_rfl)) (.tuple #[.agg (nc sk),.int .i64 0]) ((HSKE.out ▸ mulmod S X k.c.n w67 S9.out X9.out N9.out HN0.out)) (fun w68 hb=>?_)
   have Nw68:=Hd (Nw67.out.grow hb)
   clear hb Nw67
   refine pL rfl (.tuple #[.agg (nc sk),.int .i64 0]) (fun u=>by kernel_rfl) ?_
   refine pL rfl (.agg (nc sk)) (fun u=>by kernel_rfl) ?_
   refine pL rfl (.int .i64 0) (fun u=>by kernel_rfl) ?_
   refine nL rfl 27 rfl (.agg (nc 0)) (by rw [nZ]; kernel_rfl) ?_
   intro b1 w69 hx hx2 hgv hh
   have Nw69:=Hd (show Mem w w69 [(cb,ac k.c,43),(db,nc dk,27),(s1,nc R++nc S,36),(kb,nc X,27),(zb,nc z,27),(b1,nc 0,27)] from Nw68.out.new hgv (Nat.le_of_eq hx) hh)
   clear hx hx2 hgv hh Nw68
   refine sB rfl 27 (.tmp 25) (.tmp 134) rfl b1 (by kernel_rfl) _ _ (nc sk) (by kernel_rfl) (Nw69.out.at 5 rfl) (by rw [nS]; kernel_rfl) (by simp only [nS]) (nO _) ?_
   intro w70 hw hb hs
   have Nw70:=Hd (Nw69.out.store 5 rfl hb hs hw)
   clear hw hb hs Nw69
   refine pL rfl (.int .i64 0) (fun u=>by kernel_rfl) ?_
   refine wpList_nil ?_
   try simp only [Act.put,s_,t_,u_,v_,x_,y_]
   go_upto_region 18 with (fail)
   refine wp_region_lit ?_
   refine l0N rfl (.tmp 25) rfl b1 (by kernel_rfl) (Nw70.out.at 5 rfl) ?_
   refine pL rfl (.pointer (some ⟨cb,28,none⟩)) (fun u=>by kernel_rfl) ?_
   refine wpN_load rfl (.tmp 138) rfl cb 28 (by kernel_rfl) (Nw70.out.at 0 rfl) k.c.n (ac_n _) ?_
   refine fL rfl 17 (.func 17) #[.tmp 137,.tmp 139] #[27,27] rfl #[] #[.agg (nc sk),.agg (nc k.c.n)] (by kernel_rfl) (by kernel_rfl) (fun u=>cE _ _ _ _ u Tryz.func17 (by kernel_rfl) (by kernel_rfl)) (.tuple #[.agg (nc ((sk+k.c.n))),.bool (decide (pw 9≤sk+k.c.n))]) (nat_add sk k.c.n w70 SK9.out N9.out) (fun w71 hb=>?_)
   have Nw71:=Hd (Nw70.out.grow hb)
   clear hb Nw70
   refine pL rfl (.tuple #[.agg (nc ((sk+k.c.n))),.bool (decide (pw 9≤sk+k.c.n))]) (fun u=>by kernel_rfl) ?_
   refine pL rfl (.agg (nc ((sk+k.c.n)))) (fun u=>by kernel_rfl) ?_
   refine pL rfl (.bool (decide (pw 9≤sk+k.c.n))) (fun u=>by kernel_rfl) ?_
   refine nL rfl 27 rfl (.agg (nc 0)) (by rw [nZ]; kernel_rfl) ?_
   intro b2 w72 hx hx2 hgv hh
   have Nw72:=Hd (show Mem w w72 [(cb,ac k.c,43),(db,nc dk,27),(s1,nc R++nc S,36),(kb,nc X,27),(zb,nc z,27),(b1,nc sk,27),(b2,nc 0,27)] from Nw71.out.new hgv (Nat.le_of_eq hx) hh)
   clear hx hx2 hgv hh Nw71
   refine sB rfl 27 (.tmp 27) (.tmp 141) rfl b2 (by kernel_rfl) _ _ (nc ((sk+k.c.n))) (by kernel_rfl) (Nw72.out.at 6 rfl) (by rw [nS]; kernel_rfl) (by simp only [nS]) (nO _) ?_
   intro w73 hw hb hs
   have Nw73:=Hd (Nw72.out.store 6 rfl hb hs hw)
   clear hw hb hs Nw72
   refine pL rfl (.bool (decide (pw 9≤sk+k.c.n))) (fun u=>by kernel_rfl) ?_
   refine wpList_nil ?_
   try simp only [Act.put,s_,t_,u_,v_,x_,y_]
   go_upto_region 19 with (fail)
   refine wp_region_lit ?_
   refine l0N rfl (.tmp 27) rfl b2 (by kernel_rfl) (Nw73.out.at 6 rfl) ?_
   refine l0N rfl (.tmp 23) rfl zb (by kernel_rfl) (Nw73.out.at 4 rfl) ?_
   refine fL rfl 18 (.func 18) #[.tmp 144,.tmp 145] #[27,27] rfl #[] #[.agg (nc ((sk+k.c.n))),.agg (nc z)] (by kernel_rfl) (by kernel_rfl) (fun u=>cE _ _ _ _ u Tryz.func18 (by kernel_rfl) (by kernel_rfl)) (.tuple #[.agg (nc t),.bool (decide (sk+k.c.n<z))]) ((HDF.out ▸ nat_sub (sk+k.c.n) z w73 UP9.out Z9.out)) (fun w74 hb=>?_)
   have Nw74:=Hd (Nw73.out.grow hb)
   clear hb Nw73
   refine pL rfl (.tuple #[.agg (nc t),.bool (decide (sk+k.c.n<z))]) (fun u=>by kernel_rfl) ?_
   refine pL rfl (.agg (nc t)) (fun u=>by kernel_rfl) ?_
   refine pL rfl (.bool (decide (sk+k.c.n<z))) (fun u=>by kernel_rfl) ?_
   refine nL rfl 27 rfl (.agg (nc 0)) (by rw [nZ]; kernel_rfl) ?_
   intro b3 w75 hx hx2 hgv hh
   have Nw75:=Hd (show Mem w w75 [(cb,ac k.c,43),(db,nc dk,27),(s1,nc R++nc S,36),(kb,nc X,27),(zb,nc z,27),(b1,nc sk,27),(b2,nc ((sk+k.c.n)),27),(b3,nc 0,27)] from Nw74.out.new hgv (Nat.le_of_eq hx) hh)
   clear hx hx2 hgv hh Nw74
   refine sB rfl 27 (.tmp 29) (.tmp 147) rfl b3 (by kernel_rfl) _ _ (nc t) (by kernel_rfl) (Nw75.out.at 7 rfl) (by rw [nS]; kernel_rfl) (by simp only [nS]) (nO _) ?_
   intro w76 hw hb hs
   have Nw76:=Hd (Nw75.out.store 7 rfl hb hs hw)
   clear hw hb hs Nw75
   refine pL rfl (.bool (decide (sk+k.c.n<z))) (fun u=>by kernel_rfl) ?_
   refine wpList_nil ?_
   try simp only [Act.put,s_,t_,u_,v_,x_,y_]
   go_upto_region 20 with (fail)
   refine wp_region_lit ?_
   refine pL rfl (.pointer (some ⟨s1,0,none⟩)) (fun u=>by kernel_rfl) ?_
   refine wpN_load rfl (.tmp 150) rfl s1 0 (by kernel_rfl) (Nw76.out.at 2 rfl) R (fun j hj=>sg_r _ _ j hj) ?_
   refine pL rfl (.pointer (some ⟨cb,28,none⟩)) (fun u=>by kernel_rfl) ?_
   refine wpN_load rfl (.tmp 152) rfl cb 28 (by kernel_rfl) (Nw76.out.at 0 rfl) k.c.n (ac_n _) ?_
   refine fL rfl 19 (.func 19) #[.tmp 151,.tmp 153] #[27,27] rfl #[] #[.agg (nc R),.agg (nc k.c.n)] (by kernel_rfl) (by kernel_rfl) (fun u=>cE _ _ _ _ u Tryz.func19 (by kernel_rfl) (by kernel_rfl)) (.tuple #[.agg (nc ri),.int .i64 0]) (div_inverse R k.c.n ri w76 R9.out N9.out HRI.out HRIA.out) (fun w77 hb=>?_)
   have Nw77:=Hd (Nw76.out.grow hb)
   clear hb Nw76
   refine pL rfl (.tuple #[.agg (nc ri),.int .i64 0]) (fun u=>by kernel_rfl) ?_
   refine pL rfl (.agg (nc ri)) (fun u=>by kernel_rfl) ?_
   refine pL rfl (.int .i64 0) (fun u=>by kernel_rfl) ?_
   refine nL rfl 27 rfl (.agg (nc 0)) (by rw [nZ]; kernel_rfl) ?_
   intro b4 w78 hx hx2 hgv hh
   have Nw78:=Hd (show Mem w w78 [(cb,ac k.c,43),(db,nc dk,27),(s1,nc R++nc S,36),(kb,nc X,27),(zb,nc z,27),(b1,nc sk,27),(b2,nc ((sk+k.c.n)),27),(b3,nc t,27),(b4,nc 0,27)] from Nw77.out.new hgv (Nat.le_of_eq hx) hh)
   clear hx hx2 hgv hh Nw77
   refine sB rfl 27 (.tmp 31) (.tmp 155) rfl b4 (by kernel_rfl) _ _ (nc ri) (by kernel_rfl) (Nw78.out.at 8 rfl) (by rw [nS]; kernel_rfl) (by simp only [nS]) (nO _) ?_
   intro w79 hw hb hs
   have Nw79:=Hd (Nw78.out.store 8 rfl hb hs hw)
   clear hw hb hs Nw78
   refine pL rfl (.int .i64 0) (fun u=>by kernel_rfl) ?_
   refine wpList_nil ?_
   try simp only [Act.put,s_,t_,u_,v_,x_,y_]
   go_upto_region 21 with (fail)
   refine wp_region_lit ?_
   refine l0N rfl (.tmp 29) rfl b3 (by kernel_rfl) (Nw79.out.at 7 rfl) ?_
   refine l0N rfl (.tmp 31) rfl b4 (by kernel_rfl) (Nw79.out.at 8 rfl) ?_
   refine pL rfl (.pointer (some ⟨cb,28,none⟩)) (fun u=>by kernel_rfl) ?_
   refine wpN_load rfl (.tmp 160) rfl cb 28 (by kernel_rfl) (Nw79.out.at 0 rfl) k.c.n (ac_n _) ?_
   refine fL rfl 16 (.func 16) #[.tmp 158,.tmp 159,.tmp 161] #[27,27,27] rfl #[] #[.agg (nc t),.agg (nc ri),.agg (nc k.c.n)] (by kernel_rfl) (by kernel_rfl) (fun u=>cE _ _ _ _ u Tryz.func16 (by kernel_rfl) (by kernel_rfl)) (.tuple #[.agg (nc dk),.int .i64 0]) ((HLAW.out ▸ mulmod t ri k.c.n w79 T9.out RI9.out N9.out HN0.out)) (fun w80 hb=>?_)
   have Nw80:=Hd (Nw79.out.grow hb)
   clear hb Nw79
   refine pL rfl (.tuple #[.agg (nc dk),.int .i64 0]) (fun u=>by kernel_rfl) ?_
   refine pL rfl (.agg (nc dk)) (fun u=>by kernel_rfl) ?_
   refine pL rfl (.int .i64 0) (fun u=>by kernel_rfl) ?_
   refine nL rfl 27 rfl (.agg (nc 0)) (by rw [nZ]; kernel_rfl) ?_
   intro b5 w81 hx hx2 hgv hh
   have Nw81:=Hd (show Mem w w81 [(cb,ac k.c,43),(db,nc dk,27),(s1,nc R++nc S,36),(kb,nc X,27),(zb,nc z,27),(b1,nc sk,27),(b2,nc ((sk+k.c.n)),27),(b3,nc t,27),(b4,nc ri,27),(b5,nc 0,27)] from Nw80.out.new hgv (Nat.le_of_eq hx) hh)
   clear hx hx2 hgv hh Nw80
   refine sB rfl 27 (.tmp 33) (.tmp 163) rfl b5 (by kernel_rfl) _ _ (nc dk) (by kernel_rfl) (Nw81.out.at 9 rfl) (by rw [nS]; kernel_rfl) (by simp only [nS]) (nO _) ?_
   intro w82 hw hb hs
   have Nw82:=Hd (Nw81.out.store 9 rfl hb hs hw)
   clear hw hb hs Nw81
   refine pL rfl (.int .i64 0) (fun u=>by kernel_rfl) ?_
   refine wpList_nil ?_
   try simp only [Act.put,s_,t_,u_,v_,x_,y_]
   go_upto_region 22 with (fail)
   refine wp_region_lit ?_
   refine pL rfl (.int .i64 0) (fun u=>by kernel_rfl) ?_
   refine fL rfl 11 (.func 11) #[.tmp 165] #[30] rfl #[] #[.int .i64 0] (by kernel_rfl) (by kernel_rfl) (fun u=>cE _ _ _ _ u Tryz.func11 (by kernel_rfl) (by kernel_rfl)) (.int .i64 0) (law_num 0 w82) (fun w83 hb=>?_)
   have Nw83:=Hd (Nw82.out.grow hb)
   clear hb Nw82
   refine pL rfl (.bool true) (fun u=>by kernel_rfl) ?_
   refine pL rfl (.bool true) (fun u=>by kernel_rfl) ?_
   try simp only [Act.put,s_,t_,u_,v_,x_,y_]
   refine wpN_loadG2 (by kernel_rfl) (.tmp 33) rfl b5 0 (by kernel_rfl) (Nw83.out.at 9 rfl) (fun j hj=>by rw [Nat.zero_add]; exact nc_get _ j hj) ?_
   try simp only [Act.put,s_,t_,u_,v_,x_,y_]
   refine wpN_loadG2 (by kernel_rfl) (.tmp 16) rfl db 0 (by kernel_rfl) (Nw83.out.at 1 rfl) (fun j hj=>by rw [Nat.zero_add]; exact nc_get _ j hj) ?_
   try simp only [Act.put,s_,t_,u_,v_,x_,y_]
   refine wL (by kernel_rfl) (.bool true) (fun u=>(run_eqn _ _ _ rfl dk dk (by kernel_rfl) (by kernel_rfl) D9.out D9.out true (decide_eq_true rfl) u)) ?_
   try simp only [Act.put,s_,t_,u_,v_,x_,y_]
   refine pL rfl (.bool true) (fun u=>by kernel_rfl) ?_
   refine pL rfl (.bool true) (fun u=>by kernel_rfl) ?_
   refine wpList_nil ?_
   try simp only [Act.put,s_,t_,u_,v_,x_,y_]
   go_wp2_with (fail)
   go_ret
   exact ⟨rfl,Nw83.out.below⟩
  ·skip
   go_upto_region 11 with (fail)
   refine wp_region_lit ?_
   refine pL rfl (.int .i64 0) (fun u=>by kernel_rfl) ?_
   refine fL rfl 11 (.func 11) #[.tmp 87] #[30] rfl #[] #[.int .i64 0] (by kernel_rfl) (by kernel_rfl) (fun u=>cE _ _ _ _ u Tryz.func11 (by kernel_rfl) (by kernel_rfl)) (.int .i64 0) (law_num 0 w19) (fun w60 hb=>?_)
   have Nw60:=Hd (Nw19.out.grow hb)
   clear hb Nw19
   refine pL rfl (.bool false) (fun u=>by kernel_rfl) ?_
   refine pL rfl (.bool false) (fun u=>by kernel_rfl) ?_
   try simp only [Act.put,s_,t_,u_,v_,x_,y_]
   refine wL (by kernel_rfl) (.int .i64 ((j:Int)+1)) (fun u=>by kernel_rfl) ?_
   try simp only [Act.put,s_,t_,u_,v_,x_,y_]
   refine wL (by kernel_rfl) (.bool true) (fun u=>run_bini _ _ _ _ _ rfl ((j:Int)+1) 1 (by kernel_rfl) (by kernel_rfl) (neq_yes _ (by omega)) u) ?_
   try simp only [Act.put,s_,t_,u_,v_,x_,y_]
   refine pL rfl (.bool true) (fun u=>by kernel_rfl) ?_
   refine wpList_nil ?_
   try simp only [Act.put,s_,t_,u_,v_,x_,y_]
   go_upto_region 12 with (fail)
   refine wp_region_lit ?_
   refine pL rfl (.int .i64 0) (fun u=>by kernel_rfl) ?_
   refine fL rfl 11 (.func 11) #[.tmp 94] #[30] rfl #[] #[.int .i64 0] (by kernel_rfl) (by kernel_rfl) (fun u=>cE _ _ _ _ u Tryz.func11 (by kernel_rfl) (by kernel_rfl)) (.int .i64 0) (law_num 0 w60) (fun w61 hb=>?_)
   have Nw61:=Hd (Nw60.out.grow hb)
   clear hb Nw60
   refine pL rfl (.bool true) (fun u=>by kernel_rfl) ?_
   refine pL rfl (.bool true) (fun u=>by kernel_rfl) ?_
   try simp only [Act.put,s_,t_,u_,v_,x_,y_]
   refine wpList_skipL (by kernel_rfl) ?_
   try simp only [Act.put,s_,t_,u_,v_,x_,y_]
   refine wpList_skipL (by kernel_rfl) ?_
   try simp only [Act.put,s_,t_,u_,v_,x_,y_]
   refine wpList_skipL (by kernel_rfl) ?_
   refine pL rfl (.bool true) (fun u=>by kernel_rfl) ?_
   refine pL rfl (.bool true) (fun u=>by kernel_rfl) ?_
   try simp only [Act.put,s_,t_,u_,v_,x_,y_]
   refine wpList_skipL (by kernel_rfl) ?_
   try simp only [Act.put,s_,t_,u_,v_,x_,y_]
   refine wpList_skipL (by kernel_rfl) ?_
   try simp only [Act.put,s_,t_,u_,v_,x_,y_]
   refine wpList_skipL (by kernel_rfl) ?_
   refine pL rfl (.bool true) (fun u=>by kernel_rfl) ?_
   refine pL rfl (.bool true) (fun u=>by kernel_rfl) ?_
   refine wpList_nil ?_
   try simp only [Act.put,s_,t_,u_,v_,x_,y_]
   go_wp2_with (fail)
   go_ret
   exact ⟨rfl,Nw61.out.below⟩
 ·skip
  go_upto_region 11 with (fail)
  refine wp_region_lit ?_
  refine pL rfl (.int .i64 2604) (fun u=>by kernel_rfl) ?_
  refine fL rfl 11 (.func 11) #[.tmp 87] #[30] rfl #[] #[.int .i64 2604] (by kernel_rfl) (by kernel_rfl) (fun u=>cE _ _ _ _ u Tryz.func11 (by kernel_rfl) (by kernel_rfl)) (.int .i64 2604) (law_num 2604 w19) (fun w60 hb=>?_)
  have Nw60:=Hd (Nw19.out.grow hb)
  clear hb Nw19
  refine pL rfl (.bool true) (fun u=>by kernel_rfl) ?_
  refine pL rfl (.bool true) (fun u=>by kernel_rfl) ?_
  try simp only [Act.put,s_,t_,u_,v_,x_,y_]
  refine wpList_skipL (by kernel_rfl) ?_
  try simp only [Act.put,s_,t_,u_,v_,x_,y_]
  refine wpList_skipL (by kernel_rfl) ?_
  refine pL rfl (.bool true) (fun u=>by kernel_rfl) ?_
  refine wpList_nil ?_
  try simp only [Act.put,s_,t_,u_,v_,x_,y_]
  go_upto_region 12 with (fail)
  refine wp_region_lit ?_
  refine pL rfl (.int .i64 2604) (fun u=>by kernel_rfl) ?_
  refine fL rfl 11 (.func 11) #[.tmp 94] #[30] rfl #[] #[.int .i64 2604] (by kernel_rfl) (by kernel_rfl) (fun u=>cE _ _ _ _ u Tryz.func11 (by kernel_rfl) (by kernel_rfl)) (.int .i64 2604) (law_num 2604 w60) (fun w61 hb=>?_)
  have Nw61:=Hd (Nw60.out.grow hb)
  clear hb Nw60
  refine pL rfl (.bool false) (fun u=>by kernel_rfl) ?_
  refine pL rfl (.bool false) (fun u=>by kernel_rfl) ?_
  try simp only [Act.put,s_,t_,u_,v_,x_,y_]
  refine wL (by kernel_rfl) (.int .i64 2604) (fun u=>by kernel_rfl) ?_
  try simp only [Act.put,s_,t_,u_,v_,x_,y_]
  refine wpList_fnG (by kernel_rfl) _ _ _ _ rfl #[] #[.int .i64 2604] (by kernel_rfl) (by kernel_rfl) (fun u=>cE _ _ _ _ u Tryz.func11 (by kernel_rfl) (by kernel_rfl)) (.int .i64 2604) (law_num 2604 w61) (fun w62 hb=>?_)
  have Nw62:=Hd (Nw61.out.grow hb)
  clear hb Nw61
  try simp only [Act.put,s_,t_,u_,v_,x_,y_]
  refine wL (by kernel_rfl) (.bool true) (fun u=>by kernel_rfl) ?_
  try simp only [Act.put,s_,t_,u_,v_,x_,y_]
  refine pL rfl (.bool true) (fun u=>by kernel_rfl) ?_
  refine pL rfl (.bool true) (fun u=>by kernel_rfl) ?_
  try simp only [Act.put,s_,t_,u_,v_,x_,y_]
  refine wpList_skipL (by kernel_rfl) ?_
  try simp only [Act.put,s_,t_,u_,v_,x_,y_]
  refine wpList_skipL (by kernel_rfl) ?_
  try simp only [Act.put,s_,t_,u_,v_,x_,y_]
  refine wpList_skipL (by kernel_rfl) ?_
  refine pL rfl (.bool true) (fun u=>by kernel_rfl) ?_
  refine pL rfl (.bool true) (fun u=>by kernel_rfl) ?_
  refine wpList_nil ?_
  try simp only [Act.put,s_,t_,u_,v_,x_,y_]
  go_wp2_with (fail)
  go_ret
  exact ⟨rfl,Nw62.out.below⟩
end Go.Proofs.YtkoonhiplicbkaaGreat.Cw
