/-
  (package sec1) lift: the point of an X; Put: a point as bytes. Condition: a multiple of G below N.
-/
import Derived.Test.YtkoonhiplicbkaaGreatQk37
import Derived.Test.YtkoonhiplicbkaaGreatQk34
set_option linter.unusedSimpArgs false
set_option linter.unusedVariables false
set_option maxHeartbeats 4000000
set_option maxRecDepth 100000
namespace Go.Proofs.YtkoonhiplicbkaaGreat.Cw
open Go Go.RowKit
attribute [local irreducible] pc ptc nc ac cuc fc gpt
attribute [local go_sem ↓ high] wn_eql wn_neq wn_lss wn_gtr wn_leq wn_geq wn_cells wRS wn_guard lit0 lit1
attribute [local go_sem high] wn_match wRS wn_eql wn_neq wn_lss wn_gtr wn_leq wn_geq
def evR (p y:Nat):Nat:=if y%2=0 then y else p - y
theorem evR_uniq {p y r:Nat} (hp:Pr p) (h2:p%2=1) (hy:y<p) (hy0:y≠0) (hr:r<p) (h:r*r%p=y*y%p) (he:r%2=0):r=evR p y:=by
 unfold evR
 rcases sq_roots hp hr hy h with h1 | h1 | h1
 ·rw [h1] at he; rw [if_pos he,h1]
 ·rw [if_neg (by omega)]; omega
 ·omega
theorem field_sqrt2 (f p d y q:Nat) (w:World) (hp:Pr p) (h2:p%2=1) (hy:y<p) (hy0:y≠0) (hq2:2≤q) (hqp:q<p) (hq:q ^ ((p - 1) / 2)%p=p - 1) (H:FieldAt w f p d):Calls Tryz.prog 116 #[.pointer (some ⟨f,0,none⟩),.agg (nc (y*y%p))] w fun e w'=>e=.returned (.tuple #[.agg (nc (evR p y)),.bool true])∧Below w.heap.size w w':=
 (field_sqrt f p d y q w hp h2 hy hy0 hq2 hqp hq H).mono fun e w' ⟨r,h1,⟨h3,h4,h5⟩,h6⟩=>by
  rw [← evR_uniq hp h2 hy hy0 h3 h4 h5]
  exact ⟨h1,h6⟩
theorem sec1_lift (k:CK) (c f d x y:Nat) (w:World) (hx:x<k.c.p) (hy:y<k.c.p) (hy0:y≠0) (hxy:fml k.c.p y y=rgt k.c x) (H:CurveAt w c f d k.c):Calls Tryz.prog 91 #[.pointer (some ⟨c,0,none⟩),.agg (nc x),.int .i64 ((y%2:Nat):Int)] w fun e w'=>e=.returned (.tuple #[.agg (ptc x y false),.bool true])∧Below w.heap.size w w':=by
 have HC:=Hd H
 have X9:=Hd (Nat.lt_trans hx k.p9)
 have HXP:=Hd (show decide (x<k.c.p)=true from decide_eq_true hx)
 have HX:=Hd hx
 obtain ⟨hn1,hn2,hn3,hn4⟩:=k.nr_ok
 have HSQ:=Hd (fun w f d (H:FieldAt w f k.c.p d)=>field_sqrt2 f k.c.p d y k.nr w k.pr hn4 hy hy0 hn2 hn3 hn1 H)
 have HRG:=Hd (show rgt k.c x=y*y%k.c.p from hxy.symm)
 obtain ⟨r,hr⟩:∃ r,r=evR k.c.p y:=⟨_,rfl⟩
 have hrp:r<k.c.p:=by rw [hr]; unfold evR; split <;> omega
 have HRP:=Hd hrp
 have R9:=Hd (Nat.lt_trans hrp k.p9)
 have Y9:=Hd (Nat.lt_trans hy k.p9)
 rw [← hr] at HSQ
 have HRE:=Hd hr
 have HYP:=Hd hy
 have HB0:=Hd (show ∀ a,bitN a 0=a%2 from fun a=>by unfold bitN; rw [Nat.pow_zero,Nat.div_one])
 have HRV:=Hd (show r%2=0 by rw [hr]; unfold evR; split <;> omega)
 have HSB:=Hd (show y%2=1→fsb k.c.p 0 r=y from fun h=>by rw [hr]; unfold evR fsb; rw [if_neg (by omega),Nat.zero_add,show k.c.p - (k.c.p - y)=y by omega]; exact Nat.mod_eq_of_lt hy)
 have HSE:=Hd (show y%2=0→r=y from fun h=>by rw [hr]; unfold evR; rw [if_pos h])
 obtain ⟨par,hpar⟩:∃ q,q=y%2:=⟨_,rfl⟩
 rw [← hpar]
 have HPAR:=Hd hpar
 clear H hx hy hy0 hxy hn1 hn2 hn3 hn4 hr hrp hpar
 go_enter Tryz.func91,Tryz.ntmps91
 go_upto_region 1 with fail
 rw [← ptc_zero]
 have m0:=Mem.start2 w (nc x) (ptc 0 0 false) 27 41
 obtain ⟨w1,hw1⟩:∃ w1:World,w1=((w.alloc (.cells (nc x) 27)).alloc (.cells (ptc 0 0 false) 41)):=⟨_,rfl⟩
 rw [← hw1] at m0 ⊢
 clear hw1
 obtain ⟨g,hg⟩:∃ g,g=w.heap.size:=⟨_,rfl⟩
 rw [← hg] at m0 ⊢
 have HG:=Hd hg
 have M:=Hd m0
 clear hg m0
 replace M:=Hd (MC.of M.out (HC.out.up M.out.1))
 have D2:=Hd (M.out.drew)
 clear M
 refine wp_region_growT 7 7 (by kernel_rfl) (by kernel_rfl) (fun d v c a w h=>by cases d <;> exact h) ?_
 simp only [List.take_succ_cons,List.take_zero]
 refine gK (.pointer (some ⟨c,0,none⟩)) ?_
 refine gK (.pointer (some ⟨c,0,none⟩)) ?_
 refine gK (.pointer (some ⟨c,59,none⟩)) ?_
 refine wpGrow_load_cell rfl 85 (.tmp 12) rfl c 59 (by kernel_rfl) (.pointer (some ⟨f,0,none⟩)) _ Tryz.underlying85 rfl (fun u hu=>(cO (grows_at D2.out.crv.2.2 hu) 59).trans (cuc_f _ _)) ?_
 refine lG rfl (.tmp 4) rfl g (by kernel_rfl) (fun u hu=>D2.out.up 0 rfl hu) ?_
 refine fG rfl 88 (.func 88) #[.tmp 13,.tmp 14] #[85,27] rfl #[] #[.pointer (some ⟨f,0,none⟩),.agg (nc x)] (by kernel_rfl) (by kernel_rfl) (fun u=>cE _ _ _ _ u Tryz.func88 (by kernel_rfl) (by kernel_rfl)) (.bool true) (fun u hu=>by exact HXP.out ▸ field_has f k.c.p d x u X9.out (D2.out.crv.up hu).2.1) ?_
 refine gK (.bool false) ?_
 refine gN ?_
 try simp only [Act.put,s_,t_,u_,v_,x_,y_]
 intro w3 hg6
 refine ⟨by kernel_rfl,?_⟩
 have Nw3:=Hd (D2.out.grow hg6)
 clear hg6 D2
 try simp only [Act.put,s_,t_,u_,v_,x_,y_]
 go_upto_region 3 with (fail)
 have D4:=Hd (Nw3.out.drew)
 clear Nw3
 refine wp_region_growT 11 12 (by kernel_rfl) (by kernel_rfl) (fun d v c a w h=>by cases d <;> exact h) ?_
 simp only [List.take_succ_cons,List.take_zero]
 refine gK (.pointer (some ⟨c,0,none⟩)) ?_
 refine gK (.pointer (some ⟨c,0,none⟩)) ?_
 refine gK (.pointer (some ⟨c,59,none⟩)) ?_
 refine wpGrow_load_cell rfl 85 (.tmp 21) rfl c 59 (by kernel_rfl) (.pointer (some ⟨f,0,none⟩)) _ Tryz.underlying85 rfl (fun u hu=>(cO (grows_at D4.out.crv.2.2 hu) 59).trans (cuc_f _ _)) ?_
 refine gK (.pointer (some ⟨c,0,none⟩)) ?_
 refine lG rfl (.tmp 4) rfl g (by kernel_rfl) (fun u hu=>D4.out.up 0 rfl hu) ?_
 refine fG rfl 90 (.func 90) #[.tmp 23,.tmp 24] #[70,27] rfl #[] #[.pointer (some ⟨c,0,none⟩),.agg (nc x)] (by kernel_rfl) (by kernel_rfl) (fun u=>cE _ _ _ _ u Tryz.func90 (by kernel_rfl) (by kernel_rfl)) (.agg (nc ((rgt k.c x)))) (fun u hu=>by exact curve_right c f d x k.c u HX.out (D4.out.crv.up hu)) ?_
 refine fG rfl 116 (.func 116) #[.tmp 22,.tmp 25] #[85,27] rfl #[] #[.pointer (some ⟨f,0,none⟩),.agg (nc ((rgt k.c x)))] (by kernel_rfl) (by kernel_rfl) (fun u=>cE _ _ _ _ u Tryz.func116 (by kernel_rfl) (by kernel_rfl)) (.tuple #[.agg (nc r),.bool true]) (fun u hu=>by rw [HRG.out]; exact HSQ.out u f d (D4.out.crv.up hu).2.1) ?_
 refine gK (.tuple #[.agg (nc r),.bool true]) ?_
 refine gK (.agg (nc r)) ?_
 refine gK (.bool true) ?_
 refine gN ?_
 try simp only [Act.put,s_,t_,u_,v_,x_,y_]
 refine grow_alloc (i:=11) (f:=2) (by kernel_rfl) (by decide) rfl rfl 27 rfl (.agg (nc 0)) (by rw [nZ]; kernel_rfl) ?_
 intro yb v5 hx hx2 hgv hh
 have Nv5:=Hd (D4.out.new hgv hx hh)
 have Nv5:Hid (MC w v5 [(g,nc x,27),(g+1,ptc 0 0 false,41),(yb,nc 0,27)] c f d k.c):=Nv5
 clear hgv hx hx2 hh D4
 try simp only [Act.put,s_,t_,u_,v_,x_,y_]
 refine gS (rs:=[12]) (by kernel_rfl) (by decide) (fun w6 hg6=>?_)
 have Nw6:=Hd (Nv5.out.grow hg6)
 clear hg6 Nv5
 refine wpAny_ready (rs:=[12]) (by kernel_rfl) (by simp) ?_
 refine AllReady.cons rfl (fun K hK=>?_) AllReady.nil
 refine sK rfl 27 (.tmp 8) (.tmp 27) rfl yb rfl _ _ _ rfl (Nw6.out.at 2 rfl) (by rw [nS]; kernel_rfl) (by simp only [nS]) (nO _) (fun w7 hw hb hs=>hK _ _ ?_)
 have Nw7:=Hd (Nw6.out.store 2 rfl hb hs hw)
 clear hK hw hb hs Nw6
 try simp only [Act.put,s_,t_,u_,v_,x_,y_]
 refine wpAny_ready (rs:=[13]) (by kernel_rfl) (by simp) ?_
 refine AllReady.cons rfl (fun K hK=>?_) AllReady.nil
 go_simp
 refine hK _ _ ?_
 clear hK
 try simp only [Act.put,s_,t_,u_,v_,x_,y_]
 refine wpAny_done (by kernel_rfl) ?_ _
 try simp only [Act.put,s_,t_,u_,v_,x_,y_]
 go_upto_region 4 with (fail)
 refine wp_region_lit ?_
 refine pK (.bool true) ?_
 refine pK (.bool false) ?_
 refine wpList_nil ?_
 try simp only [Act.put,s_,t_,u_,v_,x_,y_]
 go_upto_region 6 with (fail)
 rcases (show y%2=0∨y%2=1 by omega) with h2 | h2
 ·have hp2:par=0:=HPAR.out.trans h2
  rw [hp2]
  have ey:=HSE.out h2
  refine wp_region_lit ?_
  refine l0N rfl (.tmp 8) rfl yb (by kernel_rfl) (Nw7.out.at 2 rfl) ?_
  refine fL rfl 51 (.func 51) #[.tmp 32,.const (.int .i64 0)] #[27,3] rfl #[] #[.agg (nc r),.int .i64 0] (by kernel_rfl) (by kernel_rfl) (fun u=>cE _ _ _ _ u Tryz.func51 (by kernel_rfl) (by kernel_rfl)) (.int .i64 ((0:Nat):Int)) (((show bitN r 0=0 by rw [HB0.out,HRV.out]) ▸ nat_bit r 0 w7 (by decide))) (fun w48 hb=>?_)
  have Nw48:=Hd (Nw7.out.grow hb)
  clear hb Nw7
  refine pK (.int .i64 ((0:Nat):Int)) ?_
  refine pK (.bool false) ?_
  refine wpList_nil ?_
  try simp only [Act.put,s_,t_,u_,v_,x_,y_]
  go_upto_region 8 with (fail)
  have D49:=Hd (Nw48.out.drew)
  clear Nw48
  refine wp_region_cls (C:=(fun u=>∃ SX:Array Value,MC w u [(g,nc x,27),(g+1,SX,41),(yb,nc r,27)] c f d k.c)) (fun u v hu hg=>by obtain ⟨SX,m⟩:=hu; exact ⟨SX,m.grow hg⟩) [0,1,2,3,4,5,6] ⟨_,D49.out⟩ (by kernel_rfl) (by kernel_rfl) (fun d v c a w h=>by cases d <;> exact h) ?_
  simp only [pickOps,List.filterMap_cons,List.filterMap_nil,List.getElem?_cons_succ,List.getElem?_cons_zero]
  refine wpE_loadN rfl (.tmp 4) rfl g 0 (by kernel_rfl) x (fun u hu=>by obtain ⟨SX,m⟩:=hu; exact ⟨_,_,_,m.at 0 rfl,fun j hj=>by rw [Nat.zero_add]; exact nc_get _ j hj⟩) ?_
  refine wpE_loadN rfl (.tmp 8) rfl yb 0 (by kernel_rfl) r (fun u hu=>by obtain ⟨SX,m⟩:=hu; exact ⟨_,_,_,m.at 2 rfl,fun j hj=>by rw [Nat.zero_add]; exact nc_get _ j hj⟩) ?_
  refine wpE_built rfl 41 #[(0,.tmp 43),(1,.tmp 44)] rfl ((ptc x r false)) (by kernel_rfl) ?_
  refine wpE_loadN rfl (.tmp 8) rfl yb 0 (by kernel_rfl) r (fun u hu=>by obtain ⟨SX,m⟩:=hu; exact ⟨_,_,_,m.at 2 rfl,fun j hj=>by rw [Nat.zero_add]; exact nc_get _ j hj⟩) ?_
  refine wpE_fn rfl _ _ _ _ rfl #[] #[.agg (nc r),.int .i64 0] (by kernel_rfl) (by kernel_rfl) (fun u=>cE _ _ _ _ u Tryz.func51 (by kernel_rfl) (by kernel_rfl)) (.int .i64 ((0:Nat):Int)) (fun u hu=>by obtain ⟨SX,m⟩:=hu; exact ((show bitN r 0=0 by rw [HB0.out]; exact HRV.out) ▸ nat_bit r 0 u (by decide))) ?_
  refine eK (.int .i64 ((0:Nat):Int)) ?_
  refine eK (.bool true) ?_
  refine wpE_nil ?_
  try simp only [Act.put,s_,t_,u_,v_,x_,y_]
  refine ready_E (rs:=[7]) (by kernel_rfl) (by simp) (fun u50 hgB=>?_)
  have N51:=Hd (D49.out.grow hgB)
  clear hgB D49
  refine EAll.cons rfl (fun K hK=>?_) EAll.nil
  refine sK rfl 41 (.tmp 6) (.tmp 45) rfl (g+1) (by kernel_rfl) _ _ (ptc x r false) (by kernel_rfl) (N51.out.at 1 rfl) (by rw [pS]; kernel_rfl) (by simp only [pS]) (ptc_one _ _ _) (fun u52 hw hb hs=>?_)
  have N53:=Hd (N51.out.store 1 rfl hb hs hw)
  refine hK _ _ ⟨_,N53.out⟩ ?_
  clear hK hw hb hs N51
  try simp only [Act.put,s_,t_,u_,v_,x_,y_]
  refine ready_E (rs:=[8]) (by kernel_rfl) (by simp) (fun u54 hgB=>?_)
  have N55:=Hd (N53.out.grow hgB)
  clear hgB N53
  refine EAll.pure rfl rfl (.bool true) (fun u=>by kernel_rfl) ⟨_,N55.out⟩ ?_ EAll.nil
  try simp only [Act.put,s_,t_,u_,v_,x_,y_]
  refine done_E (by kernel_rfl) (fun u56 hgB=>?_)
  have N57:=Hd (N55.out.grow hgB)
  clear hgB N55
  try simp only [Act.put,s_,t_,u_,v_,x_,y_]
  go_wp2_with (fail)
  exact bodyPost_ret (results_O2 rfl _ _ (g+1) _ _ _ _ (pS _ _ _) rfl rfl (N57.out.at 1 rfl)) rfl ⟨by rw [ey]; rfl,N57.out.below⟩
 ·have hp2:par=1:=HPAR.out.trans h2
  rw [hp2]
  refine wp_region_lit ?_
  refine l0N rfl (.tmp 8) rfl yb (by kernel_rfl) (Nw7.out.at 2 rfl) ?_
  refine fL rfl 51 (.func 51) #[.tmp 32,.const (.int .i64 0)] #[27,3] rfl #[] #[.agg (nc r),.int .i64 0] (by kernel_rfl) (by kernel_rfl) (fun u=>cE _ _ _ _ u Tryz.func51 (by kernel_rfl) (by kernel_rfl)) (.int .i64 ((0:Nat):Int)) (((show bitN r 0=0 by rw [HB0.out,HRV.out]) ▸ nat_bit r 0 w7 (by decide))) (fun w48 hb=>?_)
  have Nw48:=Hd (Nw7.out.grow hb)
  clear hb Nw7
  refine pK (.int .i64 ((1:Nat):Int)) ?_
  refine pK (.bool true) ?_
  refine wpList_nil ?_
  try simp only [Act.put,s_,t_,u_,v_,x_,y_]
  go_upto_region 7 with (fail)
  have D49:=Hd (Nw48.out.drew)
  clear Nw48
  refine wp_region_growT 7 7 (by kernel_rfl) (by kernel_rfl) (fun d v c a w h=>by cases d <;> exact h) ?_
  simp only [List.take_succ_cons,List.take_zero]
  refine gK (.pointer (some ⟨c,0,none⟩)) ?_
  refine gK (.pointer (some ⟨c,0,none⟩)) ?_
  refine gK (.pointer (some ⟨c,59,none⟩)) ?_
  refine wpGrow_load_cell rfl 85 (.tmp 38) rfl c 59 (by kernel_rfl) (.pointer (some ⟨f,0,none⟩)) _ Tryz.underlying85 rfl (fun u hu=>(cO (grows_at D49.out.crv.2.2 hu) 59).trans (cuc_f _ _)) ?_
  refine pG rfl (.agg (nc 0)) (fun u=>by rw [nZ]; kernel_rfl) ?_
  refine lG rfl (.tmp 8) rfl yb (by kernel_rfl) (fun u hu=>D49.out.up 2 rfl hu) ?_
  refine fG rfl 117 (.func 117) #[.tmp 39,.tmp 40,.tmp 41] #[85,27,27] rfl #[] #[.pointer (some ⟨f,0,none⟩),.agg (nc 0),.agg (nc r)] (by kernel_rfl) (by kernel_rfl) (fun u=>cE _ _ _ _ u Tryz.func117 (by kernel_rfl) (by kernel_rfl)) (.agg (nc y)) (fun u hu=>by have hz:=field_sub f k.c.p d 0 r u (by have:=HX.out; omega) HRP.out (D49.out.crv.up hu).2.1; rw [HSB.out h2] at hz; exact hz) ?_
  refine gN ?_
  try simp only [Act.put,s_,t_,u_,v_,x_,y_]
  refine gS (rs:=[7]) (by kernel_rfl) (by decide) (fun w50 hg6=>?_)
  have Nw50:=Hd (D49.out.grow hg6)
  clear hg6 D49
  refine wpAny_ready (rs:=[7]) (by kernel_rfl) (by simp) ?_
  refine AllReady.cons rfl (fun K hK=>?_) AllReady.nil
  refine sK rfl 27 (.tmp 8) (.tmp 42) rfl yb rfl _ _ _ rfl (Nw50.out.at 2 rfl) (by rw [nS]; kernel_rfl) (by simp only [nS]) (nO _) (fun w51 hw hb hs=>hK _ _ ?_)
  have Nw51:=Hd (Nw50.out.store 2 rfl hb hs hw)
  clear hK hw hb hs Nw50
  try simp only [Act.put,s_,t_,u_,v_,x_,y_]
  refine wpAny_done (by kernel_rfl) ?_ _
  try simp only [Act.put,s_,t_,u_,v_,x_,y_]
  go_upto_region 8 with (fail)
  have D52:=Hd (Nw51.out.drew)
  clear Nw51
  refine wp_region_cls (C:=(fun u=>∃ SX:Array Value,MC w u [(g,nc x,27),(g+1,SX,41),(yb,nc y,27)] c f d k.c)) (fun u v hu hg=>by obtain ⟨SX,m⟩:=hu; exact ⟨SX,m.grow hg⟩) [0,1,2,3,4,5,6] ⟨_,D52.out⟩ (by kernel_rfl) (by kernel_rfl) (fun d v c a w h=>by cases d <;> exact h) ?_
  simp only [pickOps,List.filterMap_cons,List.filterMap_nil,List.getElem?_cons_succ,List.getElem?_cons_zero]
  refine wpE_loadN rfl (.tmp 4) rfl g 0 (by kernel_rfl) x (fun u hu=>by obtain ⟨SX,m⟩:=hu; exact ⟨_,_,_,m.at 0 rfl,fun j hj=>by rw [Nat.zero_add]; exact nc_get _ j hj⟩) ?_
  refine wpE_loadN rfl (.tmp 8) rfl yb 0 (by kernel_rfl) y (fun u hu=>by obtain ⟨SX,m⟩:=hu; exact ⟨_,_,_,m.at 2 rfl,fun j hj=>by rw [Nat.zero_add]; exact nc_get _ j hj⟩) ?_
  refine wpE_built rfl 41 #[(0,.tmp 43),(1,.tmp 44)] rfl ((ptc x y false)) (by kernel_rfl) ?_
  refine wpE_loadN rfl (.tmp 8) rfl yb 0 (by kernel_rfl) y (fun u hu=>by obtain ⟨SX,m⟩:=hu; exact ⟨_,_,_,m.at 2 rfl,fun j hj=>by rw [Nat.zero_add]; exact nc_get _ j hj⟩) ?_
  refine wpE_fn rfl _ _ _ _ rfl #[] #[.agg (nc y),.int .i64 0] (by kernel_rfl) (by kernel_rfl) (fun u=>cE _ _ _ _ u Tryz.func51 (by kernel_rfl) (by kernel_rfl)) (.int .i64 ((1:Nat):Int)) (fun u hu=>by obtain ⟨SX,m⟩:=hu; exact ((show bitN y 0=1 by rw [HB0.out]; exact h2) ▸ nat_bit y 0 u (by decide))) ?_
  refine eK (.int .i64 ((1:Nat):Int)) ?_
  refine eK (.bool true) ?_
  refine wpE_nil ?_
  try simp only [Act.put,s_,t_,u_,v_,x_,y_]
  refine ready_E (rs:=[7]) (by kernel_rfl) (by simp) (fun u53 hgB=>?_)
  have N54:=Hd (D52.out.grow hgB)
  clear hgB D52
  refine EAll.cons rfl (fun K hK=>?_) EAll.nil
  refine sK rfl 41 (.tmp 6) (.tmp 45) rfl (g+1) (by kernel_rfl) _ _ (ptc x y false) (by kernel_rfl) (N54.out.at 1 rfl) (by rw [pS]; kernel_rfl) (by simp only [pS]) (ptc_one _ _ _) (fun u55 hw hb hs=>?_)
  have N56:=Hd (N54.out.store 1 rfl hb hs hw)
  refine hK _ _ ⟨_,N56.out⟩ ?_
  clear hK hw hb hs N54
  try simp only [Act.put,s_,t_,u_,v_,x_,y_]
  refine ready_E (rs:=[8]) (by kernel_rfl) (by simp) (fun u57 hgB=>?_)
  have N58:=Hd (N56.out.grow hgB)
  clear hgB N56
  refine EAll.pure rfl rfl (.bool true) (fun u=>by kernel_rfl) ⟨_,N58.out⟩ ?_ EAll.nil
  try simp only [Act.put,s_,t_,u_,v_,x_,y_]
  refine done_E (by kernel_rfl) (fun u59 hgB=>?_)
  have N60:=Hd (N58.out.grow hgB)
  clear hgB N58
  try simp only [Act.put,s_,t_,u_,v_,x_,y_]
  go_wp2_with (fail)
  exact bodyPost_ret (results_O2 rfl _ _ (g+1) _ _ _ _ (pS _ _ _) rfl rfl (N60.out.at 1 rfl)) rfl ⟨rfl,N60.out.below⟩
noncomputable def ptS (k:CK) (n:Nat):ByteArray:=⟨#[UInt8.ofNat (2+pY k (gm k n)%2)]⟩++byB (pX k (gm k n)) k.c.size
noncomputable def ptL (k:CK) (n:Nat):ByteArray:=⟨#[4]⟩++byB (pX k (gm k n)) k.c.size++byB (pY k (gm k n)) k.c.size
theorem bl_mono {a b:Nat} (h:a≤b):bl a≤bl b:=by
 rcases Nat.lt_or_ge (bl b) (bl a) with h1 | h1
 ·exfalso
  have h0:a≠0:=fun e=>by rw [e] at h1; exact absurd h1 (Nat.not_lt_zero _)
  have h2:=bl_ge a h0
  have h3:=bl_lt b
  have h4:2 ^ bl b≤2 ^ (bl a - 1):=Nat.pow_le_pow_right (by decide) (by omega)
  omega
 ·exact h1
theorem CK.size_ok (k:CK) {x:Nat} (h:x<k.c.p):bl x≤8*k.c.size∧k.c.size≤72:=by
 have h1:=bl_mono (Nat.le_of_lt h)
 have h2:=bl_le576 k.c.p k.p9
 unfold Cv.size
 omega
theorem cuc_size2 (cu:Cv) (f:Nat):(cuc cu f)[57]?=some (.int .i64 (cu.size:Int)):=by rw [cuc_ac _ _ (by omega)]; exact ac_sz cu
theorem info8:∃ i z,Tryz.prog.info? 5=some i∧i.zero=some z∧i.size=1∧z.cells.size=1:=by
 obtain ⟨i0,hi,hz0,hz1,hz2⟩:=info_parts info_u8
 exact ⟨i0,_,hi,hz0,hz1,rfl⟩
theorem conv_i8 {P:Program} {ρ:Operand→Value} {o:Oper} (src dst:TypeId) (x:Operand) (ho:o.op=.convert src dst x) (q:Nat) (hx:ρ x=.int .i64 (q:Int)) (hq:q<256) (hs:P.underlying src=some (.int .i64)) (hd:P.underlying dst=some (.int .u8)) (u:World) :
  (execOp ρ o).run P u=.ok (.value (v8 (UInt8.ofNat q))) u:=by
 obtain ⟨d,op,type,pos,after,guard⟩:=o
 subst ho
 have h:IntKind.u8.wrap (q:Int)=(q:Int):=by
  simp only [IntKind.wrap,IntKind.bits,IntKind.signed]
  simp
  omega
 have h2:(UInt8.ofNat q).toNat=q:=by simp; omega
 simp [execOp,hx,convert,run_underlying hs,run_underlying hd,Conv.intToInt,h,v8]
 omega
theorem put_short (k:CK) (n:Nat) (w:World) (h0:n≠0) (hn:n<k.c.n):Calls Tryz.prog 21 #[.int .i64 k.1,.agg (gpt k n),.bool true] w fun e w'=>e=.returned (.tuple #[.string (ptS k n),.int .i64 0])∧Below w.heap.size w w':=by
 obtain ⟨hi,hy0,_⟩:=k.pt h0 hn
 have hg:gpt k n=ptc (pX k (gm k n)) (pY k (gm k n)) false:=by unfold gpt; rw [hi]
 have HON:=Hd (fun c f d w (H:CurveAt w c f d k.c)=>hg ▸ on_rp k n c f d w H)
 have hres:ptS k n=⟨#[UInt8.ofNat (2+pY k (gm k n)%2)]⟩++byB (pX k (gm k n)) k.c.size:=rfl
 obtain ⟨x,hx⟩:∃ x,x=pX k (gm k n):=⟨_,rfl⟩
 obtain ⟨y,hy⟩:∃ y,y=pY k (gm k n):=⟨_,rfl⟩
 have hxp:x<k.c.p:=by rw [hx]; exact pX_lt k _
 have hyp:y<k.c.p:=by rw [hy]; exact pY_lt k _
 rw [hg,hres]
 rw [← hx,← hy] at HON ⊢
 have X9:=Hd (Nat.lt_trans hxp k.p9)
 have Y9:=Hd (Nat.lt_trans hyp k.p9)
 have HBX:=Hd (k.size_ok hxp)
 have HBY:=Hd (k.size_ok hyp)
 obtain ⟨sz,hsz⟩:∃ sz,sz=k.c.size:=⟨_,rfl⟩
 rw [← hsz] at HBX HBY ⊢
 have HSZ:=Hd hsz
 clear h0 hn hi hy0 hg hres hx hy hxp hyp hsz
 go_enter Tryz.func21,Tryz.ntmps21
 go_upto_region 1 with fail
 have m0:=Mem.start1 w (ptc x y false) 41
 obtain ⟨w1,hw1⟩:∃ w1:World,w1=(w.alloc (.cells (ptc x y false) 41)):=⟨_,rfl⟩
 rw [← hw1] at m0 ⊢
 clear hw1
 obtain ⟨g,hg⟩:∃ g,g=w.heap.size:=⟨_,rfl⟩
 rw [← hg] at m0 ⊢
 have HG:=Hd hg
 have M:=Hd m0
 clear hg m0
 go_upto_region 1 with (fail)
 refine wp_region_lit ?_
 refine pK (.int .i64 (k.1:Int)) ?_
 refine wpList_fnE rfl _ _ _ _ rfl #[] #[.int .i64 (k.1:Int)] (by kernel_rfl) (by kernel_rfl) (fun u=>cE _ _ _ _ u Tryz.func30 (by kernel_rfl) (by kernel_rfl)) (T:=Nat) (fun c=>.pointer (some ⟨c,0,none⟩)) (fun c w'=>∃ f d,CurveAt w' c f d k.c∧Below w1.heap.size w1 w') ((k.open_ w1).mono fun e w' ⟨c,f,d,he,hr,_,hb⟩=>⟨c,he,f,d,hr,hb⟩) ?_
 rintro c w2 ⟨f,d,hc,hb⟩
 have M2:=Hd (MC.of (M.out.grow hb) hc)
 clear hc hb M
 refine pK (.pointer (some ⟨c,0,none⟩)) ?_
 refine wpList_nil ?_
 try simp only [Act.put,s_,t_,u_,v_,x_,y_]
 go_upto_region 2 with (fail)
 refine wp_region_lit ?_
 refine pK (.pointer (some ⟨c,0,none⟩)) ?_
 refine pK (.bool false) ?_
 refine pK (.bool false) ?_
 refine wpList_nil ?_
 try simp only [Act.put,s_,t_,u_,v_,x_,y_]
 go_upto_region 4 with (fail)
 refine wp_region_lit ?_
 refine pK (.pointer (some ⟨g,18,none⟩)) ?_
 refine lC rfl 4 (.tmp 19) rfl g 18 (by kernel_rfl) (.bool false) _ Tryz.underlying4 rfl ((cO (M2.out.at 0 rfl) 18).trans (ptc_inf x y false)) ?_
 refine pK (.bool false) ?_
 try simp only [Act.put,s_,t_,u_,v_,x_,y_]
 refine wK (.pointer (some ⟨c,0,none⟩)) ?_
 try simp only [Act.put,s_,t_,u_,v_,x_,y_]
 refine wpList_segG (by kernel_rfl) 41 (.tmp 4) rfl g 0 19 (by kernel_rfl) (ptc x y false) (M2.out.at 0 rfl) _ Tryz.underlying41 rfl (by kernel_rfl) (pS _ _ _) (fun j hj=>by rw [Nat.zero_add]) ?_
 try simp only [Act.put,s_,t_,u_,v_,x_,y_]
 refine wpList_fnG (by kernel_rfl) _ _ _ _ rfl #[] #[.pointer (some ⟨c,0,none⟩),.agg (ptc x y false)] (by kernel_rfl) (by kernel_rfl) (fun u=>cE _ _ _ _ u Tryz.func49 (by kernel_rfl) (by kernel_rfl)) (.bool true) (HON.out c f d w2 M2.out.crv) (fun w2 hb=>?_)
 have Nw2:=Hd (M2.out.grow hb)
 clear hb M2
 try simp only [Act.put,s_,t_,u_,v_,x_,y_]
 refine wK (.bool false) ?_
 try simp only [Act.put,s_,t_,u_,v_,x_,y_]
 refine pK (.bool false) ?_
 refine pK (.bool false) ?_
 refine wpList_nil ?_
 try simp only [Act.put,s_,t_,u_,v_,x_,y_]
 go_upto_region 6 with (fail)
 have D3:=Hd (Nw2.out.drew)
 clear Nw2
 refine wp_region_growT 13 13 (by kernel_rfl) (by kernel_rfl) (fun d v c a w h=>by cases d <;> exact h) ?_
 simp only [List.take_succ_cons,List.take_zero]
 refine gK (.pointer (some ⟨g,0,none⟩)) ?_
 refine lN rfl (.tmp 28) rfl g 0 (by kernel_rfl) x (fun u hu=>D3.out.up 0 rfl hu) (ptc_x x y false) ?_
 refine gK (.pointer (some ⟨c,0,none⟩)) ?_
 refine gK (.pointer (some ⟨c,0,none⟩)) ?_
 refine gK (.pointer (some ⟨c,0,none⟩)) ?_
 refine gK (.pointer (some ⟨c,57,none⟩)) ?_
 refine wpGrow_load_cell rfl 3 (.tmp 33) rfl c 57 (by kernel_rfl) (.int .i64 (sz:Int)) _ Tryz.underlying3 rfl (fun u hu=>(cO (grows_at D3.out.crv.2.2 hu) 57).trans (by rw [HSZ.out]; exact cuc_size2 _ _)) ?_
 refine fG rfl 50 (.func 50) #[.tmp 29,.tmp 34] #[27,3] rfl #[] #[.agg (nc x),.int .i64 (sz:Int)] (by kernel_rfl) (by kernel_rfl) (fun u=>cE _ _ _ _ u Tryz.func50 (by kernel_rfl) (by kernel_rfl)) (.tuple #[.string (byB x sz),.int .i64 0]) (fun u hu=>by exact nat_bytes x sz u X9.out HBX.out.2 HBX.out.1) ?_
 refine gK (.tuple #[.string (byB x sz),.int .i64 0]) ?_
 refine gK (.string (byB x sz)) ?_
 refine gK (.int .i64 0) ?_
 refine gK (.string (byB x sz)) ?_
 refine gK (.int .i64 0) ?_
 refine gN ?_
 try simp only [Act.put,s_,t_,u_,v_,x_,y_]
 intro w4 hg6
 refine ⟨by kernel_rfl,?_⟩
 have Nw4:=Hd (D3.out.grow hg6)
 clear hg6 D3
 try simp only [Act.put,s_,t_,u_,v_,x_,y_]
 go_upto_region 7 with (fail)
 refine wp_region_lit ?_
 refine pK (.bool true) ?_
 refine wpList_nil ?_
 try simp only [Act.put,s_,t_,u_,v_,x_,y_]
 go_upto_region 8 with (fail)
 obtain ⟨ie,z8,hie,hz8,hs8,hzs8⟩:=info8
 have hbb:bitN y 0=y%2:=by unfold bitN; rw [Nat.pow_zero,Nat.div_one]
 refine wp_region_lit ?_
 refine pK (.pointer (some ⟨g,9,none⟩)) ?_
 refine wpN_load rfl (.tmp 39) rfl g 9 (by kernel_rfl) (Nw4.out.at 0 rfl) y (ptc_y x y false) ?_
 refine fL rfl 51 (.func 51) #[.tmp 40,.const (.int .i64 0)] #[27,3] rfl #[] #[.agg (nc y),.int .i64 0] (by kernel_rfl) (by kernel_rfl) (fun u=>cE _ _ _ _ u Tryz.func51 (by kernel_rfl) (by kernel_rfl)) (.int .i64 ((y%2:Nat):Int)) (hbb ▸ nat_bit y 0 w4 (by decide)) (fun w5 hb=>?_)
 have Nw5:=Hd (Nw4.out.grow hb)
 clear hb Nw4
 refine pL rfl (.int .i64 ((2+y%2:Nat):Int)) (fun u=>run_bini _ _ _ _ _ rfl ((2:Nat):Int) ((y%2:Nat):Int) (by kernel_rfl) (by kernel_rfl) (bi_add _ (by omega)) u) ?_
 refine pL rfl (v8 (UInt8.ofNat (2+y%2))) (fun u=>conv_i8 3 5 (.tmp 42) rfl (2+y%2) (by kernel_rfl) (by omega) Tryz.underlying3 Tryz.underlying5 u) ?_
 refine wpList_slice1 rfl 103 5 (.tmp 43) rfl (v8 (UInt8.ofNat (2+y%2))) (by kernel_rfl) ie z8 1 (by decide) (by decide) Tryz.underlying103 hie hz8 hs8 hzs8 rfl ?_
 intro rb w9 hx hx2 hgv hh
 have M9:=Hd (show MC w w9 [(g,ptc x y false,41),(rb,#[v8 (UInt8.ofNat (2+y%2))],5)] c f d k.c from Nw5.out.new hgv (Nat.le_of_eq hx) hh)
 clear hx hx2 hgv hh Nw5
 have HRD:=Hd (Rd.row [(UInt8.ofNat (2+y%2))] 1 rfl (fun _=>True) trivial (M9.out.at 1 rfl) rfl)
 refine wpList_atw rfl (.string ⟨#[(UInt8.ofNat (2+y%2))]⟩) (run_sv 103 9 5 (.tmp 44) rfl _ HRD.out (by kernel_rfl) Tryz.underlying103 Tryz.underlying5 Tryz.underlying9) ?_
 refine pK (.string (byB x sz)) ?_
 refine pL rfl (.string (⟨#[(UInt8.ofNat (2+y%2))]⟩++byB x sz)) (fun u=>run_cat _ _ _ _ rfl ⟨#[(UInt8.ofNat (2+y%2))]⟩ (byB x sz) (by kernel_rfl) (by kernel_rfl) (by rw [byB_size]; show 1+sz≤_; have:=HBX.out.2; omega) u) ?_
 refine pK (.string (⟨#[(UInt8.ofNat (2+y%2))]⟩++byB x sz)) ?_
 refine pK (.int .i64 0) ?_
 refine wpList_nil ?_
 try simp only [Act.put,s_,t_,u_,v_,x_,y_]
 go_wp2_with (fail)
 go_ret2
 exact ⟨rfl,M9.out.below⟩
theorem put_long (k:CK) (n:Nat) (w:World) (h0:n≠0) (hn:n<k.c.n):Calls Tryz.prog 21 #[.int .i64 k.1,.agg (gpt k n),.bool false] w fun e w'=>e=.returned (.tuple #[.string (ptL k n),.int .i64 0])∧Below w.heap.size w w':=by
 obtain ⟨hi,hy0,_⟩:=k.pt h0 hn
 have hg:gpt k n=ptc (pX k (gm k n)) (pY k (gm k n)) false:=by unfold gpt; rw [hi]
 have HON:=Hd (fun c f d w (H:CurveAt w c f d k.c)=>hg ▸ on_rp k n c f d w H)
 have hres:ptL k n=⟨#[4]⟩++byB (pX k (gm k n)) k.c.size++byB (pY k (gm k n)) k.c.size:=rfl
 obtain ⟨x,hx⟩:∃ x,x=pX k (gm k n):=⟨_,rfl⟩
 obtain ⟨y,hy⟩:∃ y,y=pY k (gm k n):=⟨_,rfl⟩
 have hxp:x<k.c.p:=by rw [hx]; exact pX_lt k _
 have hyp:y<k.c.p:=by rw [hy]; exact pY_lt k _
 rw [hg,hres]
 rw [← hx,← hy] at HON ⊢
 have X9:=Hd (Nat.lt_trans hxp k.p9)
 have Y9:=Hd (Nat.lt_trans hyp k.p9)
 have HBX:=Hd (k.size_ok hxp)
 have HBY:=Hd (k.size_ok hyp)
 obtain ⟨sz,hsz⟩:∃ sz,sz=k.c.size:=⟨_,rfl⟩
 rw [← hsz] at HBX HBY ⊢
 have HSZ:=Hd hsz
 clear h0 hn hi hy0 hg hres hx hy hxp hyp hsz
 go_enter Tryz.func21,Tryz.ntmps21
 go_upto_region 1 with fail
 have m0:=Mem.start1 w (ptc x y false) 41
 obtain ⟨w1,hw1⟩:∃ w1:World,w1=(w.alloc (.cells (ptc x y false) 41)):=⟨_,rfl⟩
 rw [← hw1] at m0 ⊢
 clear hw1
 obtain ⟨g,hg⟩:∃ g,g=w.heap.size:=⟨_,rfl⟩
 rw [← hg] at m0 ⊢
 have HG:=Hd hg
 have M:=Hd m0
 clear hg m0
 go_upto_region 1 with (fail)
 refine wp_region_lit ?_
 refine pK (.int .i64 (k.1:Int)) ?_
 refine wpList_fnE rfl _ _ _ _ rfl #[] #[.int .i64 (k.1:Int)] (by kernel_rfl) (by kernel_rfl) (fun u=>cE _ _ _ _ u Tryz.func30 (by kernel_rfl) (by kernel_rfl)) (T:=Nat) (fun c=>.pointer (some ⟨c,0,none⟩)) (fun c w'=>∃ f d,CurveAt w' c f d k.c∧Below w1.heap.size w1 w') ((k.open_ w1).mono fun e w' ⟨c,f,d,he,hr,_,hb⟩=>⟨c,he,f,d,hr,hb⟩) ?_
 rintro c w2 ⟨f,d,hc,hb⟩
 have M2:=Hd (MC.of (M.out.grow hb) hc)
 clear hc hb M
 refine pK (.pointer (some ⟨c,0,none⟩)) ?_
 refine wpList_nil ?_
 try simp only [Act.put,s_,t_,u_,v_,x_,y_]
 go_upto_region 2 with (fail)
 refine wp_region_lit ?_
 refine pK (.pointer (some ⟨c,0,none⟩)) ?_
 refine pK (.bool false) ?_
 refine pK (.bool false) ?_
 refine wpList_nil ?_
 try simp only [Act.put,s_,t_,u_,v_,x_,y_]
 go_upto_region 4 with (fail)
 refine wp_region_lit ?_
 refine pK (.pointer (some ⟨g,18,none⟩)) ?_
 refine lC rfl 4 (.tmp 19) rfl g 18 (by kernel_rfl) (.bool false) _ Tryz.underlying4 rfl ((cO (M2.out.at 0 rfl) 18).trans (ptc_inf x y false)) ?_
 refine pK (.bool false) ?_
 try simp only [Act.put,s_,t_,u_,v_,x_,y_]
 refine wK (.pointer (some ⟨c,0,none⟩)) ?_
 try simp only [Act.put,s_,t_,u_,v_,x_,y_]
 refine wpList_segG (by kernel_rfl) 41 (.tmp 4) rfl g 0 19 (by kernel_rfl) (ptc x y false) (M2.out.at 0 rfl) _ Tryz.underlying41 rfl (by kernel_rfl) (pS _ _ _) (fun j hj=>by rw [Nat.zero_add]) ?_
 try simp only [Act.put,s_,t_,u_,v_,x_,y_]
 refine wpList_fnG (by kernel_rfl) _ _ _ _ rfl #[] #[.pointer (some ⟨c,0,none⟩),.agg (ptc x y false)] (by kernel_rfl) (by kernel_rfl) (fun u=>cE _ _ _ _ u Tryz.func49 (by kernel_rfl) (by kernel_rfl)) (.bool true) (HON.out c f d w2 M2.out.crv) (fun w2 hb=>?_)
 have Nw2:=Hd (M2.out.grow hb)
 clear hb M2
 try simp only [Act.put,s_,t_,u_,v_,x_,y_]
 refine wK (.bool false) ?_
 try simp only [Act.put,s_,t_,u_,v_,x_,y_]
 refine pK (.bool false) ?_
 refine pK (.bool false) ?_
 refine wpList_nil ?_
 try simp only [Act.put,s_,t_,u_,v_,x_,y_]
 go_upto_region 6 with (fail)
 have D3:=Hd (Nw2.out.drew)
 clear Nw2
 refine wp_region_growT 13 13 (by kernel_rfl) (by kernel_rfl) (fun d v c a w h=>by cases d <;> exact h) ?_
 simp only [List.take_succ_cons,List.take_zero]
 refine gK (.pointer (some ⟨g,0,none⟩)) ?_
 refine lN rfl (.tmp 28) rfl g 0 (by kernel_rfl) x (fun u hu=>D3.out.up 0 rfl hu) (ptc_x x y false) ?_
 refine gK (.pointer (some ⟨c,0,none⟩)) ?_
 refine gK (.pointer (some ⟨c,0,none⟩)) ?_
 refine gK (.pointer (some ⟨c,0,none⟩)) ?_
 refine gK (.pointer (some ⟨c,57,none⟩)) ?_
 refine wpGrow_load_cell rfl 3 (.tmp 33) rfl c 57 (by kernel_rfl) (.int .i64 (sz:Int)) _ Tryz.underlying3 rfl (fun u hu=>(cO (grows_at D3.out.crv.2.2 hu) 57).trans (by rw [HSZ.out]; exact cuc_size2 _ _)) ?_
 refine fG rfl 50 (.func 50) #[.tmp 29,.tmp 34] #[27,3] rfl #[] #[.agg (nc x),.int .i64 (sz:Int)] (by kernel_rfl) (by kernel_rfl) (fun u=>cE _ _ _ _ u Tryz.func50 (by kernel_rfl) (by kernel_rfl)) (.tuple #[.string (byB x sz),.int .i64 0]) (fun u hu=>by exact nat_bytes x sz u X9.out HBX.out.2 HBX.out.1) ?_
 refine gK (.tuple #[.string (byB x sz),.int .i64 0]) ?_
 refine gK (.string (byB x sz)) ?_
 refine gK (.int .i64 0) ?_
 refine gK (.string (byB x sz)) ?_
 refine gK (.int .i64 0) ?_
 refine gN ?_
 try simp only [Act.put,s_,t_,u_,v_,x_,y_]
 intro w4 hg6
 refine ⟨by kernel_rfl,?_⟩
 have Nw4:=Hd (D3.out.grow hg6)
 clear hg6 D3
 try simp only [Act.put,s_,t_,u_,v_,x_,y_]
 go_upto_region 7 with (fail)
 refine wp_region_lit ?_
 refine pK (.bool false) ?_
 refine wpList_nil ?_
 try simp only [Act.put,s_,t_,u_,v_,x_,y_]
 go_upto_region 9 with (fail)
 have D5:=Hd (Nw4.out.drew)
 clear Nw4
 refine wp_region_growT 13 13 (by kernel_rfl) (by kernel_rfl) (fun d v c a w h=>by cases d <;> exact h) ?_
 simp only [List.take_succ_cons,List.take_zero]
 refine gK (.pointer (some ⟨g,9,none⟩)) ?_
 refine lN rfl (.tmp 49) rfl g 9 (by kernel_rfl) y (fun u hu=>D5.out.up 0 rfl hu) (ptc_y x y false) ?_
 refine gK (.pointer (some ⟨c,0,none⟩)) ?_
 refine gK (.pointer (some ⟨c,0,none⟩)) ?_
 refine gK (.pointer (some ⟨c,0,none⟩)) ?_
 refine gK (.pointer (some ⟨c,57,none⟩)) ?_
 refine wpGrow_load_cell rfl 3 (.tmp 54) rfl c 57 (by kernel_rfl) (.int .i64 (sz:Int)) _ Tryz.underlying3 rfl (fun u hu=>(cO (grows_at D5.out.crv.2.2 hu) 57).trans (by rw [HSZ.out]; exact cuc_size2 _ _)) ?_
 refine fG rfl 50 (.func 50) #[.tmp 50,.tmp 55] #[27,3] rfl #[] #[.agg (nc y),.int .i64 (sz:Int)] (by kernel_rfl) (by kernel_rfl) (fun u=>cE _ _ _ _ u Tryz.func50 (by kernel_rfl) (by kernel_rfl)) (.tuple #[.string (byB y sz),.int .i64 0]) (fun u hu=>by exact nat_bytes y sz u Y9.out HBY.out.2 HBY.out.1) ?_
 refine gK (.tuple #[.string (byB y sz),.int .i64 0]) ?_
 refine gK (.string (byB y sz)) ?_
 refine gK (.int .i64 0) ?_
 refine gK (.string (byB y sz)) ?_
 refine gK (.int .i64 0) ?_
 refine gN ?_
 try simp only [Act.put,s_,t_,u_,v_,x_,y_]
 intro w6 hg6
 refine ⟨by kernel_rfl,?_⟩
 have Nw6:=Hd (D5.out.grow hg6)
 clear hg6 D5
 try simp only [Act.put,s_,t_,u_,v_,x_,y_]
 go_upto_region 10 with (fail)
 obtain ⟨ie,z8,hie,hz8,hs8,hzs8⟩:=info8
 refine wp_region_lit ?_
 refine wpList_slice1 rfl 103 5 (.const (.int .u8 4)) rfl (v8 4) (by kernel_rfl) ie z8 1 (by decide) (by decide) Tryz.underlying103 hie hz8 hs8 hzs8 rfl ?_
 intro rb w9 hx hx2 hgv hh
 have M9:=Hd (show MC w w9 [(g,ptc x y false,41),(rb,#[v8 4],5)] c f d k.c from Nw6.out.new hgv (Nat.le_of_eq hx) hh)
 clear hx hx2 hgv hh Nw6
 have HRD:=Hd (Rd.row [4] 1 rfl (fun _=>True) trivial (M9.out.at 1 rfl) rfl)
 refine wpList_atw rfl (.string ⟨#[4]⟩) (run_sv 103 9 5 (.tmp 59) rfl _ HRD.out (by kernel_rfl) Tryz.underlying103 Tryz.underlying5 Tryz.underlying9) ?_
 refine pK (.string (byB x sz)) ?_
 refine pL rfl (.string (⟨#[4]⟩++byB x sz)) (fun u=>run_cat _ _ _ _ rfl ⟨#[4]⟩ (byB x sz) (by kernel_rfl) (by kernel_rfl) (by rw [byB_size]; show 1+sz≤_; have:=HBX.out.2; omega) u) ?_
 refine pK (.string (byB y sz)) ?_
 refine pL rfl (.string (⟨#[4]⟩++byB x sz++byB y sz)) (fun u=>run_cat _ _ _ _ rfl (⟨#[4]⟩++byB x sz) (byB y sz) (by kernel_rfl) (by kernel_rfl) (by rw [ByteArray.size_append,byB_size,byB_size]; show 1+sz+sz≤_; have:=HBX.out.2; omega) u) ?_
 refine pK (.string (⟨#[4]⟩++byB x sz++byB y sz)) ?_
 refine pK (.int .i64 0) ?_
 refine wpList_nil ?_
 try simp only [Act.put,s_,t_,u_,v_,x_,y_]
 go_wp2_with (fail)
 go_ret2
 exact ⟨rfl,M9.out.below⟩
end Go.Proofs.YtkoonhiplicbkaaGreat.Cw
