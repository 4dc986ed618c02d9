/-
  (package divide) MulMod; (package key) Make where the first number is good; (package ecdsa) Digest. Condition: numbers of nine words; a new generator.
-/
import Derived.Test.YtkoonhiplicbkaaGreatPkSig
set_option linter.unusedSimpArgs false
set_option linter.unusedVariables false
set_option maxHeartbeats 4000000
set_option maxRecDepth 100000
namespace Go.Proofs.YtkoonhiplicbkaaGreat.Cw
open Go Go.RowKit
attribute [local irreducible] pc ptc nc ac cuc fc gpt
attribute [local go_sem ↓ high] wn_eql wn_neq wn_lss wn_gtr wn_leq wn_geq wn_cells wRS wn_guard lit0 lit1
attribute [local go_sem high] wn_match wRS wn_eql wn_neq wn_lss wn_gtr wn_leq wn_geq
theorem mulmod (a b m:Nat) (w:World) (ha:a<pw 9) (hb:b<pw 9) (hm:m<pw 9) (hm0:m≠0):Calls Tryz.prog 16 #[.agg (nc a),.agg (nc b),.agg (nc m)] w fun e w'=>e=.returned (.tuple #[.agg (nc (a*b%m)),.int .i64 0])∧Below w.heap.size w w':=by
 have A9:=Hd ha
 have B9:=Hd hb
 have M9:=Hd hm
 have HM0:=Hd hm0
 clear ha hb hm hm0
 go_enter Tryz.func16,Tryz.ntmps16
 go_upto_region 1 with fail
 rw [← nZ]
 have m0:=Mem.start4 w (nc a) (nc b) (nc m) (nc 0) 27 27 27 27
 obtain ⟨w1,hw1⟩:∃ w1:World,w1=((((w.alloc (.cells (nc a) 27)).alloc (.cells (nc b) 27)).alloc (.cells (nc m) 27)).alloc (.cells (nc 0) 27)):=⟨_,rfl⟩
 rw [← hw1] at m0 ⊢
 clear hw1
 obtain ⟨g,hg⟩:∃ g,g=w.heap.size:=⟨_,rfl⟩
 rw [← hg] at m0 ⊢
 have HG:=Hd hg
 have M:=Hd m0
 clear hg m0
 refine wp_region_lit ?_
 refine fL rfl 41 (.func 41) #[.tmp 5] #[89] rfl #[] #[.pointer (some ⟨g+1+1,0,none⟩)] (by kernel_rfl) (by kernel_rfl) (fun u=>cE _ _ _ _ u Tryz.func41 (by kernel_rfl) (by kernel_rfl)) (.bool false) ((by have hz:=divide_zero m (g+1+1) w1 M9.out (M.out.at 2 rfl); rw [decide_eq_false HM0.out] at hz; exact hz.mono fun e w' h=>⟨h.1,h.2 ▸ Below.refl _ _⟩)) (fun w2 hb=>?_)
 have Nw2:=Hd (M.out.grow hb)
 clear hb M
 refine wpList_nil ?_
 try simp only [Act.put,s_,t_,u_,v_,x_,y_]
 go_upto_region 3 with (fail)
 have D:=Hd (Nw2.out.drew)
 clear Nw2
 refine wp_region_cls (C:=(fun u=>Mem w u [(g,nc a,27),(g+1,nc b,27),(g+1+1,nc m,27)])) (fun u u2 hu hg=>Mem.grow hu hg) [0,2,3] (D.out.sub (by simp)) (by kernel_rfl) (by kernel_rfl) (fun d v c a w h=>by cases d <;> exact h) ?_
 simp only [pickOps,List.filterMap_cons,List.filterMap_nil,List.getElem?_cons_succ,List.getElem?_cons_zero]
 refine wpE_loadN rfl (.tmp 5) rfl (g+1+1) 0 (by kernel_rfl) m (fun u hu=>⟨_,_,_,Mem.at hu 2 rfl,fun j hj=>by rw [Nat.zero_add]; exact nc_get _ j hj⟩) ?_
 refine wpE_loadN rfl (.tmp 3) rfl g 0 (by kernel_rfl) a (fun u hu=>⟨_,_,_,Mem.at hu 0 rfl,fun j hj=>by rw [Nat.zero_add]; exact nc_get _ j hj⟩) ?_
 refine wpE_loadN rfl (.tmp 4) rfl (g+1) 0 (by kernel_rfl) b (fun u hu=>⟨_,_,_,Mem.at hu 1 rfl,fun j hj=>by rw [Nat.zero_add]; exact nc_get _ j hj⟩) ?_
 refine wpE_nil ?_
 try simp only [Act.put,s_,t_,u_,v_,x_,y_]
 refine ready_E (rs:=[1]) (by kernel_rfl) (by simp) (fun u hgB=>?_)
 have N1:=Hd (D.out.grow hgB)
 clear hgB D
 refine EAll.cons rfl (fun K hK=>step_fnE rfl 42 (.func 42) #[.tmp 10] #[27] rfl #[] #[.agg (nc m)] (by kernel_rfl) (by kernel_rfl) (fun u=>cE _ _ _ _ u Tryz.func42 (by kernel_rfl) (by kernel_rfl)) (fun d:Nat=>.agg #[.pointer (some ⟨d,0,none⟩)]) (fun d w'=>DivAt w' d m∧u.heap.size≤d∧Below u.heap.size u w') (div_by m u HM0.out M9.out) (fun d u2 hR=>hK _ _ ((N1.out.grow hR.2.2).sub (by simp)) ?_)) EAll.nil
 have N2:=Hd (N1.out.grow hR.2.2)
 have HD:=Hd hR.1
 clear hR N1
 try simp only [Act.put,s_,t_,u_,v_,x_,y_]
 refine ready_E (rs:=[4]) (by kernel_rfl) (by simp) (fun u3 hgB=>?_)
 have N3:=Hd (N2.out.grow hgB)
 have HD3:=Hd (HD.out.up hgB)
 clear hgB N2 HD
 refine EAll.cons rfl (fun K hK=>step_fnE rfl 43 (.func 43) #[.tmp 11,.tmp 12,.tmp 13] #[92,27,27] rfl #[] #[.agg #[.pointer (some ⟨d,0,none⟩)],.agg (nc a),.agg (nc b)] (by kernel_rfl) (by kernel_rfl) (fun u=>cE _ _ _ _ u Tryz.func43 (by kernel_rfl) (by kernel_rfl)) (fun _:Unit=>.agg (nc (a*b%m))) (fun _ w'=>Below u3.heap.size u3 w') ((modulus_mul d a b m u3 A9.out B9.out HD3.out).mono fun e w' ⟨h1,h2⟩=>⟨(),h1,h2⟩) (fun _ u4 hR=>hK _ _ ((N3.out.grow hR).sub (by simp)) ?_)) EAll.nil
 have N4:=Hd (N3.out.grow hR)
 clear hR N3
 try simp only [Act.put,s_,t_,u_,v_,x_,y_]
 refine ready_E (rs:=[5]) (by kernel_rfl) (by simp) (fun u5 hgB=>?_)
 have N5:=Hd (N4.out.grow hgB)
 clear hgB N4
 refine EAll.cons rfl (fun K hK=>sK rfl 27 (.tmp 6) (.tmp 14) rfl (g+1+1+1) rfl _ _ (nc (a*b%m)) rfl (N5.out.at 3 rfl) (by rw [nS]; kernel_rfl) (by simp only [nS]) (nO _) (fun u6 hw hb hs=>hK _ _ ((N5.out.store 3 rfl hb hs hw).sub (by simp)) ?_)) EAll.nil
 have N6:=Hd (N5.out.store 3 rfl hb hs hw)
 clear hw hb hs N5
 try simp only [Act.put,s_,t_,u_,v_,x_,y_]
 refine ready_E (rs:=[6]) (by kernel_rfl) (by simp) (fun u7 hgB=>?_)
 have N7:=Hd (N6.out.grow hgB)
 clear hgB N6
 refine EAll.cons rfl (fun K hK=>step_pure rfl (.int .i64 0) (fun u=>by kernel_rfl) (hK _ _ (N7.out.sub (by simp)) ?_)) EAll.nil
 try simp only [Act.put,s_,t_,u_,v_,x_,y_]
 refine done_E (by kernel_rfl) (fun u8 hgB=>?_)
 have N8:=Hd (N7.out.grow hgB)
 clear hgB N7
 try simp only [Act.put,s_,t_,u_,v_,x_,y_]
 go_wp2_with (fail)
 refine bodyPost_ret (results_N2 rfl _ _ (g+1+1+1) _ _ _ _ rfl rfl (N8.out.at 3 rfl)) rfl ⟨rfl,N8.out.below⟩
theorem ecdsa_Dig (k:CK) (hid:Nat) (msg:ByteArray) (w:World) (hh:isId hid) (ht:msg.size≤140737488351232):Calls Tryz.prog 15 #[.int .i64 k.1,.int .i64 hid,.string msg] w fun e w'=>e=.returned (.tuple #[.agg (nc (dgN k hid msg)),.int .i64 0])∧Below w.heap.size w w':=by
 have HSZ:=Hd (show szOf hid≠0 by have:=(szOf_pos hid).1; omega)
 obtain ⟨e,he⟩:∃ e,e=dgN k hid msg:=⟨_,rfl⟩
 have HDG:=Hd (fun c f d w (H:CurveAt w c f d k.c)=>he ▸ ecdsa_digest k c f d hid msg w hh ht H)
 rw [← he]
 clear he
 go_enter Tryz.func15,Tryz.ntmps15
 go_upto_region 1 with fail
 rw [← nZ]
 have m0:=Mem.start1 w (nc 0) 27
 obtain ⟨w1,hw1⟩:∃ w1:World,w1=(w.alloc (.cells (nc 0) 27)):=⟨_,rfl⟩
 rw [← hw1] at m0 ⊢
 clear hw1
 obtain ⟨g,hg⟩:∃ g,g=w.heap.size:=⟨_,rfl⟩
 rw [← hg] at m0 ⊢
 have HG:=Hd hg
 have M:=Hd m0
 clear hg m0
 go_upto_region 1 with (fail)
 refine wp_region_lit ?_
 refine pL rfl (.int .i64 (k.1:Int)) (fun u=>by kernel_rfl) ?_
 refine wpList_fnE rfl _ _ _ _ rfl #[] #[.int .i64 (k.1:Int)] (by kernel_rfl) (by kernel_rfl) (fun u=>cE _ _ _ _ u Tryz.func30 (by kernel_rfl) (by kernel_rfl)) (T:=Nat) (fun c=>.pointer (some ⟨c,0,none⟩)) (fun c w'=>∃ f d,CurveAt w' c f d k.c∧Below w1.heap.size w1 w') ((k.open_ w1).mono fun e w' ⟨c,f,d,he,hr,_,hb⟩=>⟨c,he,f,d,hr,hb⟩) ?_
 rintro c w2 ⟨f,d,hc,hb⟩
 have M2:=Hd (MC.of (M.out.grow hb) hc)
 clear hc hb M
 refine pL rfl (.pointer (some ⟨c,0,none⟩)) (fun u=>by kernel_rfl) ?_
 refine wpList_nil ?_
 try simp only [Act.put,s_,t_,u_,v_,x_,y_]
 go_upto_region 2 with (fail)
 refine wp_region_lit ?_
 refine pL rfl (.pointer (some ⟨c,0,none⟩)) (fun u=>by kernel_rfl) ?_
 refine pL rfl (.bool false) (fun u=>by kernel_rfl) ?_
 refine pL rfl (.bool false) (fun u=>by kernel_rfl) ?_
 refine wpList_nil ?_
 try simp only [Act.put,s_,t_,u_,v_,x_,y_]
 go_upto_region 4 with (fail)
 refine wp_region_lit ?_
 refine pL rfl (.int .i64 (hid:Int)) (fun u=>by kernel_rfl) ?_
 refine fL rfl 26 (.func 26) #[.tmp 16] #[3] rfl #[] #[.int .i64 (hid:Int)] (by kernel_rfl) (by kernel_rfl) (fun u=>cE _ _ _ _ u Tryz.func26 (by kernel_rfl) (by kernel_rfl)) (.int .i64 (szOf hid:Int)) (hsize hid hh w2) (fun w2 hb=>?_)
 have Nw2:=Hd (M2.out.grow hb)
 clear hb M2
 try simp only [Act.put,s_,t_,u_,v_,x_,y_]
 refine pL rfl (.bool false) (fun u=>run_bini _ _ _ _ _ rfl (szOf hid:Int) 0 (by kernel_rfl) (by kernel_rfl) (eql_no _ (fun h=>HSZ.out (by omega))) u) ?_
 refine pL rfl (.bool false) (fun u=>by kernel_rfl) ?_
 refine wpList_nil ?_
 try simp only [Act.put,s_,t_,u_,v_,x_,y_]
 go_upto_region 6 with (fail)
 refine wp_region_lit ?_
 refine pL rfl (.pointer (some ⟨c,0,none⟩)) (fun u=>by kernel_rfl) ?_
 refine pL rfl (.int .i64 (hid:Int)) (fun u=>by kernel_rfl) ?_
 refine pL rfl (.string msg) (fun u=>by kernel_rfl) ?_
 refine fL rfl 33 (.func 33) #[.tmp 20,.tmp 21,.tmp 22] #[70,3,9] rfl #[] #[.pointer (some ⟨c,0,none⟩),.int .i64 (hid:Int),.string msg] (by kernel_rfl) (by kernel_rfl) (fun u=>cE _ _ _ _ u Tryz.func33 (by kernel_rfl) (by kernel_rfl)) (.agg (nc e)) (HDG.out c f d w2 Nw2.out.crv) (fun w3 hb=>?_)
 have Nw3:=Hd (Nw2.out.grow hb)
 clear hb Nw2
 refine sB rfl 27 (.tmp 6) (.tmp 23) rfl g (by kernel_rfl) _ _ (nc e) (by kernel_rfl) (Nw3.out.at 0 rfl) (by rw [nS]; kernel_rfl) (by simp only [nS]) (nO _) ?_
 intro w4 hw hb hs
 have Nw4:=Hd (Nw3.out.store 0 rfl hb hs hw)
 clear hw hb hs Nw3
 refine pL rfl (.int .i64 0) (fun u=>by kernel_rfl) ?_
 refine wpList_nil ?_
 try simp only [Act.put,s_,t_,u_,v_,x_,y_]
 go_wp2_with (fail)
 refine bodyPost_ret (results_N2 rfl _ _ g _ _ _ _ rfl rfl (Nw4.out.at 0 rfl)) rfl ⟨rfl,Nw4.out.below⟩
theorem key_make (k:CK) (dr id:Nat) (kv:ByteArray × ByteArray) (w:World) (hi:isId id) (hf:fit id kv) (h0:kN k id kv 0≠0) (hn:kN k id kv 0<k.c.n) (HD:DrbgAt w dr id kv 1):Calls Tryz.prog 14 #[.int .i64 k.1,.pointer (some ⟨dr,0,none⟩)] w fun e w'=>e=.returned (.tuple #[.agg (nc (kN k id kv 0)),.int .i64 1,.int .i64 0])∧But dr w w':=by
 have HDR:=Hd HD
 have HLT:=Hd (lt_of HD)
 have HTR:=Hd (fun c f d W (H:CurveAt W c f d k.c) (h:DrbgAt W dr id kv 1)=>key_try k c f d dr id kv 1 W hi hf (by omega) (by omega) H h)
 obtain ⟨X,hX⟩:∃ X,X=kN k id kv 0:=⟨_,rfl⟩
 have hX2:X=tryN k id kv:=hX
 have HOK:=Hd (show decide (X≠0∧X<k.c.n)=true from decide_eq_true ⟨hX ▸ h0,hX ▸ hn⟩)
 have HTR2:=Hd (show ∀ c f d W,CurveAt W c f d k.c→DrbgAt W dr id kv 1→Calls Tryz.prog 34 #[.pointer (some ⟨c,0,none⟩),.func (.func 35) #[.pointer (some ⟨dr,0,none⟩)] #[]] W fun e w'=>e=.returned (.tuple #[.agg (nc X),.bool true,.int .i64 0])∧But dr W w' from fun c f d W H h=>(HTR.out c f d W H h).mono fun e w' h2=>⟨by rw [h2.1,← hX2,HOK.out],h2.2.2⟩)
 rw [← hX]
 clear hX hX2 HTR HOK HD h0 hn hf
 go_enter Tryz.func14,Tryz.ntmps14
 go_upto_region 1 with fail
 rw [← nZ]
 have m0:=Mem.start1 w (nc 0) 27
 obtain ⟨w1,hw1⟩:∃ w1:World,w1=(w.alloc (.cells (nc 0) 27)):=⟨_,rfl⟩
 rw [← hw1] at m0 ⊢
 clear hw1
 obtain ⟨g,hg⟩:∃ g,g=w.heap.size:=⟨_,rfl⟩
 rw [← hg] at m0 ⊢
 have HG:=Hd hg
 have M:=Hd m0
 clear hg m0
 go_upto_region 1 with (fail)
 refine wp_region_lit ?_
 refine pL rfl (.int .i64 (k.1:Int)) (fun u=>by kernel_rfl) ?_
 refine wpList_fnE rfl _ _ _ _ rfl #[] #[.int .i64 (k.1:Int)] (by kernel_rfl) (by kernel_rfl) (fun u=>cE _ _ _ _ u Tryz.func30 (by kernel_rfl) (by kernel_rfl)) (T:=Nat) (fun c=>.pointer (some ⟨c,0,none⟩)) (fun c w'=>∃ f d,CurveAt w' c f d k.c∧Below w1.heap.size w1 w') ((k.open_ w1).mono fun e w' ⟨c,f,d,he,hr,_,hb⟩=>⟨c,he,f,d,hr,hb⟩) ?_
 rintro c w2 ⟨f,d,hc,hb⟩
 have M2:=Hd (MC.of (M.out.grow hb) hc)
 clear hc hb M
 refine pL rfl (.pointer (some ⟨c,0,none⟩)) (fun u=>by kernel_rfl) ?_
 refine wpList_nil ?_
 try simp only [Act.put,s_,t_,u_,v_,x_,y_]
 go_upto_region 2 with (fail)
 refine wp_region_lit ?_
 refine pL rfl (.pointer (some ⟨dr,0,none⟩)) (fun u=>by kernel_rfl) ?_
 refine pL rfl (.bool false) (fun u=>by kernel_rfl) ?_
 refine pL rfl (.bool false) (fun u=>by kernel_rfl) ?_
 refine wpList_nil ?_
 try simp only [Act.put,s_,t_,u_,v_,x_,y_]
 go_upto_region 4 with (fail)
 refine wp_region_lit ?_
 refine pL rfl (.pointer (some ⟨c,0,none⟩)) (fun u=>by kernel_rfl) ?_
 refine pL rfl (.bool false) (fun u=>by kernel_rfl) ?_
 refine pL rfl (.bool false) (fun u=>by kernel_rfl) ?_
 refine wpList_nil ?_
 try simp only [Act.put,s_,t_,u_,v_,x_,y_]
 go_upto_region 6 with (fail)
 refine wp_region_lit ?_
 refine pL rfl (.pointer (some ⟨dr,0,none⟩)) (fun u=>by kernel_rfl) ?_
 refine pL rfl (.func (.func 35) #[.pointer (some ⟨dr,0,none⟩)] #[]) (fun u=>by kernel_rfl) ?_
 refine pL rfl (.func (.func 35) #[.pointer (some ⟨dr,0,none⟩)] #[]) (fun u=>by kernel_rfl) ?_
 refine wpList_nil ?_
 try simp only [Act.put,s_,t_,u_,v_,x_,y_]
 go_upto_region 7 with (fail)
 refine wp_region_lit ?_
 refine pL rfl (.int .i64 0) (fun u=>by kernel_rfl) ?_
 refine wpList_nil ?_
 try simp only [Act.put,s_,t_,u_,v_,x_,y_]
 go_upto_region 8 with (fail)
 go_loopw [25] (fun iv wr=>iv=.int .i64 0∧MC w wr [(g,nc 0,27)] c f d k.c) (fun _ _=>0)
 case atStart=>exact ⟨rfl,M2.out⟩
 case round=>
  obtain ⟨rfl,hm⟩:=hrel
  have M:=Hd hm
  clear hm
  go_upto_region 9 with (fail)
  refine wp_region_lit ?_
  refine pL rfl (.int .i64 0) (fun u=>by kernel_rfl) ?_
  refine pL rfl (.int .i64 0) (fun u=>by kernel_rfl) ?_
  refine wpList_nil ?_
  try simp only [Act.put,s_,t_,u_,v_,x_,y_]
  go_upto_region 10 with (fail)
  refine wp_region_lit ?_
  refine pL rfl (.pointer (some ⟨c,0,none⟩)) (fun u=>by kernel_rfl) ?_
  refine pL rfl (.func (.func 35) #[.pointer (some ⟨dr,0,none⟩)] #[]) (fun u=>by kernel_rfl) ?_
  refine wpList_fnE rfl _ _ _ _ rfl #[] #[.pointer (some ⟨c,0,none⟩),.func (.func 35) #[.pointer (some ⟨dr,0,none⟩)] #[]] (by kernel_rfl) (by kernel_rfl) (fun u=>cE _ _ _ _ u Tryz.func34 (by kernel_rfl) (by kernel_rfl)) (T:=Unit) (fun _=>.tuple #[.agg (nc X),.bool true,.int .i64 0]) (fun _ w'=>But dr wr w') ((HTR2.out c f d wr M.out.crv ((M.out.below.block dr HLT.out).trans HDR.out)).mono fun e w' ⟨h1,h2⟩=>⟨(),h1,h2⟩) ?_
  rintro _ w3 hb3
  have hoff:=M.out.crv.off ((M.out.below.block dr HLT.out).trans HDR.out)
  obtain ⟨wb2,hb4,hs4,hq4,hm4⟩:=M.out.rebase hb3 HLT.out hoff.1 hoff.2.1 hoff.2.2
  have HBB2:=Hd hb4
  have M3:=Hd hm4
  clear hb3 hb4 hs4 hq4 hm4 hoff HTR2 M
  refine pL rfl (.tuple #[.agg (nc X),.bool true,.int .i64 0]) (fun u=>by kernel_rfl) ?_
  refine pL rfl (.agg (nc X)) (fun u=>by kernel_rfl) ?_
  refine pL rfl (.bool true) (fun u=>by kernel_rfl) ?_
  refine pL rfl (.int .i64 0) (fun u=>by kernel_rfl) ?_
  refine nL rfl 27 rfl (.agg (nc 0)) (by rw [nZ]; kernel_rfl) ?_
  intro kb w4 hx hx2 hgv hh
  have M4:=Hd (show MC wb2 w4 [(g,nc 0,27),(kb,nc 0,27)] c f d k.c from M3.out.new hgv (Nat.le_of_eq hx) hh)
  clear hx hx2 hgv hh M3
  refine sB rfl 27 (.tmp 10) (.tmp 32) rfl kb (by kernel_rfl) _ _ (nc X) (by kernel_rfl) (M4.out.at 1 rfl) (by rw [nS]; kernel_rfl) (by simp only [nS]) (nO _) ?_
  intro w5 hw hb hs
  have M5:=Hd (M4.out.store 1 rfl hb hs hw)
  clear hw hb hs M4
  refine pL rfl (.bool true) (fun u=>by kernel_rfl) ?_
  refine pL rfl (.int .i64 0) (fun u=>by kernel_rfl) ?_
  refine wpList_nil ?_
  try simp only [Act.put,s_,t_,u_,v_,x_,y_]
  go_upto_region 11 with (fail)
  refine wp_region_lit ?_
  refine pL rfl (.int .i64 0) (fun u=>by kernel_rfl) ?_
  refine pL rfl (.bool false) (fun u=>by kernel_rfl) ?_
  refine pL rfl (.bool false) (fun u=>by kernel_rfl) ?_
  refine wpList_nil ?_
  try simp only [Act.put,s_,t_,u_,v_,x_,y_]
  go_upto_region 13 with (fail)
  refine wp_region_lit ?_
  refine pL rfl (.bool true) (fun u=>by kernel_rfl) ?_
  refine pL rfl (.bool true) (fun u=>by kernel_rfl) ?_
  refine wpList_nil ?_
  try simp only [Act.put,s_,t_,u_,v_,x_,y_]
  go_upto_region 14 with (fail)
  refine wp_region_lit ?_
  refine l0N rfl (.tmp 10) rfl kb (by kernel_rfl) (M5.out.at 1 rfl) ?_
  refine pL rfl (.int .i64 0) (fun u=>by kernel_rfl) ?_
  try simp only [Act.put,s_,t_,u_,v_,x_,y_]
  refine pL rfl (.int .i64 1) (fun u=>run_bini _ _ _ _ _ rfl ((0:Nat):Int) ((1:Nat):Int) (by kernel_rfl) (by kernel_rfl) (bi_add _ (by decide)) u) ?_
  refine sB rfl 27 (.tmp 4) (.tmp 42) rfl g (by kernel_rfl) _ _ (nc X) (by kernel_rfl) (M5.out.at 0 rfl) (by rw [nS]; kernel_rfl) (by simp only [nS]) (nO _) ?_
  intro w2 hw hb hs
  have Nw2:=Hd (M5.out.store 0 rfl hb hs hw)
  clear hw hb hs M5
  refine pL rfl (.int .i64 1) (fun u=>by kernel_rfl) ?_
  refine pL rfl (.int .i64 0) (fun u=>by kernel_rfl) ?_
  refine wpList_nil ?_
  try simp only [Act.put,s_,t_,u_,v_,x_,y_]
  go_wp2_with (fail)
  exact bodyPost_ret (results_N3 rfl _ _ g _ _ _ _ _ rfl rfl rfl (Nw2.out.at 0 rfl)) rfl ⟨rfl,HBB2.out.trans (But.of_below Nw2.out.below)⟩
end Go.Proofs.YtkoonhiplicbkaaGreat.Cw
