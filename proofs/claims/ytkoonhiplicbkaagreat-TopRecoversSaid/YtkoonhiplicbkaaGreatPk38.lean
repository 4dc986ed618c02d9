/-
  (package ecdsa) rest, of, scalars: numbers modulo N. Condition: an opened curve.
-/
import Derived.Test.YtkoonhiplicbkaaGreatPk37
set_option linter.unusedSimpArgs false
set_option linter.unusedVariables false
set_option maxHeartbeats 4000000
set_option maxRecDepth 100000
namespace Go.Proofs.YtkoonhiplicbkaaGreat.Cw
open Go Go.RowKit
attribute [local irreducible] pc ptc nc ac cuc fc gpt
attribute [local go_sem ↓ high] wn_eql wn_neq wn_lss wn_gtr wn_leq wn_geq wn_cells wRS wn_guard lit0 lit1
attribute [local go_sem high] wn_match wRS wn_eql wn_neq wn_lss wn_gtr wn_leq wn_geq
def nOdB (k:Nat):Bool:=decide ((cv k).n%2=1∧3≤(cv k).n∧2*(cv k).n<pw 9)
theorem nOd_all:(List.range 15).all (fun i=>nOdB (i+1))=true:=by decide +kernel
theorem CK.nOd (k:CK):k.c.n%2=1∧3≤k.c.n∧2*k.c.n<pw 9:=by
 have h:=nOd_all
 rw [List.all_eq_true] at h
 have h2:=h (k.1 - 1) (List.mem_range.2 (by have:=k.2; omega))
 rw [Nat.sub_add_cancel k.2.1] at h2
 exact of_decide_eq_true h2
def NAt (k:CK) (w:World) (x:Nat):Prop:=MtAt w x k.c.n (nwd k.c.n) (mless k.c.n)
theorem inv_t {W m less n a y:Nat} (hW:0<W) (h:(less*m+1)%W=0) (hm:m<W ^ n) (h1:1<m) (ha:a<m) (hya:y*a%m=1):∃ t,t<m∧t*mraw W m less n a (W ^ n*W ^ n%m)%m=1:=by
 have hm0:0<m:=by omega
 have hr:=Nat.mod_lt (W ^ n*W ^ n) hm0
 have l:=mraw_lt (less:=less) (n:=n) (a:=a) hW hm0 hr
 have e:mraw W m less n a (W ^ n*W ^ n%m)=a*W ^ n%m:=mcancel (n:=n) hW h l (Nat.mod_lt _ hm0) (by rw [mraw_mod hW h (by omega),Nat.mod_mul_mod,Nat.mul_mod_mod,Nat.mul_assoc])
 obtain ⟨q,hq⟩:=mun hW h n
 rw [Nat.mod_eq_of_lt h1] at hq
 refine ⟨y*q%m,Nat.mod_lt _ hm0,?_⟩
 rw [e,Nat.mod_mul_mod,Nat.mul_mod_mod,show y*q*(a*W ^ n)=(y*a)*(W ^ n*q) by simp only [Nat.mul_assoc,Nat.mul_left_comm,Nat.mul_comm],Nat.mul_mod,hya,hq,Nat.mul_one,Nat.mod_eq_of_lt h1]
theorem add_lo {e r n:Nat} (he:e<n) (hr:r<n) (h:e+r<n):e+r=(e+r)%n:=(Nat.mod_eq_of_lt h).symm
theorem add_hi {e r n:Nat} (he:e<n) (hr:r<n) (h2:2*n<pw 9) (h:¬ e+r<n):dif (e+r) n 9=(e+r)%n:=by
 have e1:(e+r)%n=e+r - n:=by rw [Nat.mod_eq_sub_mod (by omega),Nat.mod_eq_of_lt (by omega)]
 rw [e1]
 unfold dif
 rw [show e+r+pw 9 - n=(e+r - n)+pw 9 by omega,Nat.add_mod_right,Nat.mod_eq_of_lt (by omega)]
theorem ecdsa_rest (k:CK) (c f d a:Nat) (w:World) (ha:a<pw 9) (H:CurveAt w c f d k.c):Calls Tryz.prog 36 #[.pointer (some ⟨c,0,none⟩),.agg (nc a)] w fun e w'=>e=.returned (.agg (nc (a%k.c.n)))∧Below w.heap.size w w':=by
 have HCB:=Hd H.2.2
 have A9:=Hd ha
 have N9:=Hd k.n9
 have HN0:=Hd (show k.c.n≠0 from fun h=>by have:=k.n1; omega)
 clear H ha
 go_enter Tryz.func36,Tryz.ntmps36
 go_upto_region 1 with fail
 rw [← nZ]
 have m0:=Mem.start2 w (nc a) (nc 0) 27 27
 obtain ⟨w1,hw1⟩:∃ w1:World,w1=((w.alloc (.cells (nc a) 27)).alloc (.cells (nc 0) 27)):=⟨_,rfl⟩
 rw [← hw1] at m0 ⊢
 clear hw1
 obtain ⟨g,hg⟩:∃ g,g=w.heap.size:=⟨_,rfl⟩
 rw [← hg] at m0 ⊢
 have HG:=Hd hg
 have M:=Hd m0
 clear hg m0
 have D2:=Hd (M.out.drew)
 clear M
 refine rGw 11 13 (by kernel_rfl) (by kernel_rfl) (fun d v c a w h=>by cases d <;> exact h) ?_
 simp only [List.take_succ_cons,List.take_zero]
 refine lG rfl (.tmp 3) rfl g (by kernel_rfl) (fun u hu=>D2.out.up 0 rfl hu) ?_
 refine pG rfl (.pointer (some ⟨c,0,none⟩)) (fun u=>by kernel_rfl) ?_
 refine pG rfl (.pointer (some ⟨c,0,none⟩)) (fun u=>by kernel_rfl) ?_
 refine pG rfl (.pointer (some ⟨c,0,none⟩)) (fun u=>by kernel_rfl) ?_
 refine pG rfl (.pointer (some ⟨c,28,none⟩)) (fun u=>by kernel_rfl) ?_
 refine lN rfl (.tmp 13) rfl c 28 (by kernel_rfl) k.c.n (fun u hu=>grows_at HCB.out (gT _ _ _ D2.out.1 hu)) (cuc_n _ _) ?_
 refine fG rfl 46 (.func 46) #[.tmp 9,.tmp 14] #[27,27] rfl #[] #[.agg (nc a),.agg (nc k.c.n)] (by kernel_rfl) (by kernel_rfl) (fun u=>cE _ _ _ _ u Tryz.func46 (by kernel_rfl) (by kernel_rfl)) (.tuple #[.agg (nc ((a / k.c.n))),.agg (nc ((a%k.c.n))),.int .i64 0]) (fun u hu=>by exact div_div a k.c.n u A9.out N9.out HN0.out) ?_
 refine pG rfl (.tuple #[.agg (nc ((a / k.c.n))),.agg (nc ((a%k.c.n))),.int .i64 0]) (fun u=>by kernel_rfl) ?_
 refine pG rfl (.agg (nc ((a / k.c.n)))) (fun u=>by kernel_rfl) ?_
 refine pG rfl (.agg (nc ((a%k.c.n)))) (fun u=>by kernel_rfl) ?_
 refine pG rfl (.int .i64 0) (fun u=>by kernel_rfl) ?_
 refine gN ?_
 try simp only [Act.put,s_,t_,u_,v_,x_,y_]
 refine grow_alloc2 (i:=11) (j:=12) (f:=3) (by kernel_rfl) (by decide) (by kernel_rfl) (by kernel_rfl) (by decide) (by decide) rfl rfl rfl rfl (fun _ h=>by cases h; decide) 27 27 rfl rfl (.agg (nc 0)) (.agg (nc 0)) (by rw [nZ]; kernel_rfl) (by rw [nZ]; kernel_rfl) ?_
 intro y z v3 hx hx2 hy hy2 hxy hgv hh hh2
 have Nv3:=Hd (D2.out.new2 hgv hx hy hxy hh hh2)
 have Nv3:Hid (Mem w v3 [(g,nc a,27),(g+1,nc 0,27),(y,nc 0,27),(z,nc 0,27)]):=Nv3
 clear hgv hx hx2 hy hy2 hxy hh hh2 D2
 try simp only [Act.put,s_,t_,u_,v_,x_,y_]
 refine gS (rs:=[13]) (by kernel_rfl) (by decide) (fun w4 hg6=>?_)
 have Nw4:=Hd (Nv3.out.grow hg6)
 clear hg6 Nv3
 refine wpAny_ready (rs:=[13]) (by kernel_rfl) (by simp) ?_
 refine AllReady.cons rfl (fun K hK=>?_) AllReady.nil
 refine sK rfl 27 (.tmp 5) (.tmp 16) rfl y rfl _ _ _ rfl (Nw4.out.at 2 rfl) (by rw [nS]; kernel_rfl) (by simp only [nS]) (nO _) (fun w5 hw hb hs=>hK _ _ ?_)
 have Nw5:=Hd (Nw4.out.store 2 rfl hb hs hw)
 clear hK hw hb hs Nw4
 try simp only [Act.put,s_,t_,u_,v_,x_,y_]
 refine wpAny_ready (rs:=[14]) (by kernel_rfl) (by simp) ?_
 refine AllReady.cons rfl (fun K hK=>?_) AllReady.nil
 refine sK rfl 27 (.tmp 6) (.tmp 17) rfl z rfl _ _ _ rfl (Nw5.out.at 3 rfl) (by rw [nS]; kernel_rfl) (by simp only [nS]) (nO _) (fun w6 hw hb hs=>hK _ _ ?_)
 have Nw6:=Hd (Nw5.out.store 3 rfl hb hs hw)
 clear hK hw hb hs Nw5
 try simp only [Act.put,s_,t_,u_,v_,x_,y_]
 refine wpAny_ready (rs:=[15]) (by kernel_rfl) (by simp) ?_
 refine AllReady.cons rfl (fun K hK=>?_) AllReady.nil
 go_simp
 refine hK _ _ ?_
 clear hK
 try simp only [Act.put,s_,t_,u_,v_,x_,y_]
 refine wpAny_done (by kernel_rfl) ?_ _
 try simp only [Act.put,s_,t_,u_,v_,x_,y_]
 go_upto_region 2 with (fail)
 refine wp_region_lit ?_
 refine l0N rfl (.tmp 6) rfl z (by kernel_rfl) (Nw6.out.at 3 rfl) ?_
 refine sB rfl 27 (.tmp 4) (.tmp 19) rfl (g+1) (by kernel_rfl) _ _ (nc ((a%k.c.n))) (by kernel_rfl) (Nw6.out.at 1 rfl) (by rw [nS]; kernel_rfl) (by simp only [nS]) (nO _) ?_
 intro w7 hw hb hs
 have Nw7:=Hd (Nw6.out.store 1 rfl hb hs hw)
 clear hw hb hs Nw6
 refine wpList_nil ?_
 try simp only [Act.put,s_,t_,u_,v_,x_,y_]
 go_wp2_with (fail)
 refine bodyPost_ret (results_N rfl _ _ (g+1) _ _ _ rfl (Nw7.out.at 1 rfl)) rfl ⟨rfl,Nw7.out.below⟩
theorem ecdsa_of (k:CK) (c f d:Nat) (w:World) (H:CurveAt w c f d k.c):Calls Tryz.prog 32 #[.pointer (some ⟨c,0,none⟩)] w fun e w'=>∃ x,e=.returned (.agg #[.pointer (some ⟨c,0,none⟩),.pointer (some ⟨x,0,none⟩)])∧NAt k w' x∧w.heap.size≤x∧Below w.heap.size w w':=by
 have HCB:=Hd H.2.2
 have N9:=Hd k.n9
 have HOD:=Hd k.nOd
 clear H
 go_enter Tryz.func32,Tryz.ntmps32
 go_upto_region 1 with fail
 have m0:=Mem.start1 w (#[.pointer none,.pointer none]) 75
 obtain ⟨w1,hw1⟩:∃ w1:World,w1=(w.alloc (.cells (#[.pointer none,.pointer none]) 75)):=⟨_,rfl⟩
 rw [← hw1] at m0 ⊢
 clear hw1
 obtain ⟨g,hg⟩:∃ g,g=w.heap.size:=⟨_,rfl⟩
 rw [← hg] at m0 ⊢
 have HG:=Hd hg
 have M:=Hd m0
 clear hg m0
 go_upto_region 1 with (fail)
 refine wp_region_lit ?_
 refine pL rfl (.pointer (some ⟨c,0,none⟩)) (fun u=>by kernel_rfl) ?_
 refine pL rfl (.pointer (some ⟨c,0,none⟩)) (fun u=>by kernel_rfl) ?_
 refine pL rfl (.pointer (some ⟨c,0,none⟩)) (fun u=>by kernel_rfl) ?_
 refine pL rfl (.pointer (some ⟨c,28,none⟩)) (fun u=>by kernel_rfl) ?_
 refine wpN_load rfl (.tmp 9) rfl c 28 (by kernel_rfl) (grows_at HCB.out M.out.1) k.c.n (cuc_n _ _) ?_
 refine wpList_fnE rfl _ _ _ _ rfl #[] #[.agg (nc k.c.n)] (by kernel_rfl) (by kernel_rfl) (fun u=>cE _ _ _ _ u Tryz.func74 (by kernel_rfl) (by kernel_rfl)) (T:=Nat) (fun x=>.tuple #[.pointer (some ⟨x,0,none⟩),.int .i64 0]) (fun x w'=>NAt k w' x∧w1.heap.size≤x∧Below w1.heap.size w1 w') ((mont_new k.c.n w1 N9.out HOD.out.1 HOD.out.2.1).mono fun e w' ⟨x,h1,h2,h4,h3⟩=>⟨x,h1,h2,h4,h3⟩) ?_
 rintro x w2 ⟨hx,hge,hb⟩
 have HGE:=Hd (show w.heap.size≤x from Nat.le_trans M.out.below.size hge)
 clear hge
 have HX:=Hd hx
 have M2:=Hd (M.out.grow hb)
 clear hx hb M
 refine pL rfl (.tuple #[.pointer (some ⟨x,0,none⟩),.int .i64 0]) (fun u=>by kernel_rfl) ?_
 refine pL rfl (.pointer (some ⟨x,0,none⟩)) (fun u=>by kernel_rfl) ?_
 refine pL rfl (.int .i64 0) (fun u=>by kernel_rfl) ?_
 refine pL rfl (.pointer (some ⟨x,0,none⟩)) (fun u=>by kernel_rfl) ?_
 refine pL rfl (.int .i64 0) (fun u=>by kernel_rfl) ?_
 refine wpList_nil ?_
 try simp only [Act.put,s_,t_,u_,v_,x_,y_]
 go_upto_region 2 with (fail)
 refine wp_region_lit ?_
 refine pL rfl (.pointer (some ⟨c,0,none⟩)) (fun u=>by kernel_rfl) ?_
 refine pL rfl (.pointer (some ⟨x,0,none⟩)) (fun u=>by kernel_rfl) ?_
 refine wpList_built rfl 75 #[(0,.tmp 14),(1,.tmp 15)] rfl (#[.pointer (some ⟨c,0,none⟩),.pointer (some ⟨x,0,none⟩)]) (by kernel_rfl) ?_
 refine sB rfl 75 (.tmp 2) (.tmp 16) rfl g (by kernel_rfl) _ _ (#[.pointer (some ⟨c,0,none⟩),.pointer (some ⟨x,0,none⟩)]) (by kernel_rfl) (M2.out.at 0 rfl) (by kernel_rfl) rfl (by intro u hu; simp at hu; rcases hu with rfl | rfl <;> rfl) ?_
 intro w3 hw hb hs
 have M3:=Hd (M2.out.store 0 rfl hb hs hw)
 have HX3:=Hd (show NAt k w3 x from ⟨HX.out.1,hb.heap (type_neq (M2.out.at 0 rfl) HX.out.2 (by decide)) HX.out.2⟩)
 clear hw hb hs M2 HX
 refine wpList_nil ?_
 try simp only [Act.put,s_,t_,u_,v_,x_,y_]
 go_wp2_with (fail)
 exact bodyPost_ret (results_blk rfl _ _ g _ _ _ _ rfl (M3.out.at 0 rfl) Tryz.underlying75 rfl (by kernel_rfl)) rfl ⟨x,rfl,HX3.out,HGE.out,M3.out.below⟩
theorem scl_mul (k:CK) (c f d x a b:Nat) (w:World) (ha:a<k.c.n) (hb:b<k.c.n) (H:CurveAt w c f d k.c) (HN:NAt k w x):Calls Tryz.prog 38 #[.agg #[.pointer (some ⟨c,0,none⟩),.pointer (some ⟨x,0,none⟩)],.agg (nc a),.agg (nc b)] w fun e w'=>e=.returned (.agg (nc (a*b%k.c.n)))∧Below w.heap.size w w':=by
 have HP:=Hd (mul_plain (W:=18446744073709551616) (n:=nwd k.c.n) (by decide) HN.1.2.2.2.1 HN.1.2.1 ha hb)
 have HT:=Hd (show mraw 18446744073709551616 k.c.n (mless k.c.n) (nwd k.c.n) a (pw (nwd k.c.n)*pw (nwd k.c.n)%k.c.n)<k.c.n from mraw_lt (by decide) (by omega) (Nat.mod_lt _ (by omega)))
 have HA:=Hd ha
 have HB:=Hd hb
 clear ha hb
 have HCB:=Hd H.2.2
 have HM:=Hd HN
 have N9:=Hd k.n9
 clear H HN
 go_enter Tryz.func38,Tryz.ntmps38
 go_upto_region 1 with fail
 rw [← nZ]
 have m0:=Mem.start4 w (#[.pointer (some ⟨c,0,none⟩),.pointer (some ⟨x,0,none⟩)]) (nc a) (nc b) (nc 0) 75 27 27 27
 obtain ⟨w1,hw1⟩:∃ w1:World,w1=((((w.alloc (.cells (#[.pointer (some ⟨c,0,none⟩),.pointer (some ⟨x,0,none⟩)]) 75)).alloc (.cells (nc a) 27)).alloc (.cells (nc b) 27)).alloc (.cells (nc 0) 27)):=⟨_,rfl⟩
 rw [← hw1] at m0 ⊢
 clear hw1
 obtain ⟨g,hg⟩:∃ g,g=w.heap.size:=⟨_,rfl⟩
 rw [← hg] at m0 ⊢
 have HG:=Hd hg
 have M:=Hd m0
 clear hg m0
 have D2:=Hd (M.out.drew)
 clear M
 refine rGw 8 8 (by kernel_rfl) (by kernel_rfl) (fun d v c a w h=>by cases d <;> exact h) ?_
 simp only [List.take_succ_cons,List.take_zero]
 refine pG rfl (.pointer (some ⟨g,1,none⟩)) (fun u=>by kernel_rfl) ?_
 refine wpGrow_load_cell rfl 73 (.tmp 11) rfl g 1 (by kernel_rfl) (.pointer (some ⟨x,0,none⟩)) _ Tryz.underlying73 rfl (fun u hu=>(cO (D2.out.up 0 rfl hu) 1).trans (rfl)) ?_
 refine pG rfl (.func (.func 80) #[.pointer (some ⟨x,0,none⟩)] #[]) (fun u=>by kernel_rfl) ?_
 refine pG rfl (.pointer (some ⟨g,1,none⟩)) (fun u=>by kernel_rfl) ?_
 refine wpGrow_load_cell rfl 73 (.tmp 14) rfl g 1 (by kernel_rfl) (.pointer (some ⟨x,0,none⟩)) _ Tryz.underlying73 rfl (fun u hu=>(cO (D2.out.up 0 rfl hu) 1).trans (rfl)) ?_
 refine pG rfl (.func (.func 81) #[.pointer (some ⟨x,0,none⟩)] #[]) (fun u=>by kernel_rfl) ?_
 refine pG rfl (.func (.func 80) #[.pointer (some ⟨x,0,none⟩)] #[]) (fun u=>by kernel_rfl) ?_
 refine pG rfl (.func (.func 81) #[.pointer (some ⟨x,0,none⟩)] #[]) (fun u=>by kernel_rfl) ?_
 refine gN ?_
 try simp only [Act.put,s_,t_,u_,v_,x_,y_]
 intro w3 hg6
 refine ⟨by kernel_rfl,?_⟩
 have Nw3:=Hd (D2.out.grow hg6)
 clear hg6 D2
 try simp only [Act.put,s_,t_,u_,v_,x_,y_]
 go_upto_region 2 with (fail)
 refine wp_region_lit ?_
 refine pL rfl (.func (.func 80) #[.pointer (some ⟨x,0,none⟩)] #[]) (fun u=>by kernel_rfl) ?_
 refine l0N rfl (.tmp 4) rfl (g+1) (by kernel_rfl) (Nw3.out.at 1 rfl) ?_
 refine fL rfl 80 (.tmp 18) #[.tmp 19] #[27] rfl #[.pointer (some ⟨x,0,none⟩)] #[.agg (nc a)] (by kernel_rfl) (by kernel_rfl) (fun u=>cE _ _ _ _ u Tryz.func80 (by kernel_rfl) (by kernel_rfl)) (.tuple #[.agg (nc ((mraw 18446744073709551616 k.c.n (mless k.c.n) (nwd k.c.n) a (pw (nwd k.c.n)*pw (nwd k.c.n)%k.c.n)))),.int .i64 0]) (mont_to x k.c.n (nwd k.c.n) (mless k.c.n) a w3 (HM.out.up Nw3.out.1) HA.out) (fun w4 hb=>?_)
 have Nw4:=Hd (Nw3.out.grow hb)
 clear hb Nw3
 refine pL rfl (.tuple #[.agg (nc ((mraw 18446744073709551616 k.c.n (mless k.c.n) (nwd k.c.n) a (pw (nwd k.c.n)*pw (nwd k.c.n)%k.c.n)))),.int .i64 0]) (fun u=>by kernel_rfl) ?_
 refine pL rfl (.agg (nc ((mraw 18446744073709551616 k.c.n (mless k.c.n) (nwd k.c.n) a (pw (nwd k.c.n)*pw (nwd k.c.n)%k.c.n))))) (fun u=>by kernel_rfl) ?_
 refine pL rfl (.int .i64 0) (fun u=>by kernel_rfl) ?_
 refine nL rfl 27 rfl (.agg (nc 0)) (by rw [nZ]; kernel_rfl) ?_
 intro y w5 hx hx2 hgv hh
 have Nw5:=Hd (show Mem w w5 [(g,#[.pointer (some ⟨c,0,none⟩),.pointer (some ⟨x,0,none⟩)],75),(g+1,nc a,27),(g+1+1,nc b,27),(g+1+1+1,nc 0,27),(y,nc 0,27)] from Nw4.out.new hgv (Nat.le_of_eq hx) hh)
 clear hx hx2 hgv hh Nw4
 refine sB rfl 27 (.tmp 9) (.tmp 21) rfl y (by kernel_rfl) _ _ (nc ((mraw 18446744073709551616 k.c.n (mless k.c.n) (nwd k.c.n) a (pw (nwd k.c.n)*pw (nwd k.c.n)%k.c.n)))) (by kernel_rfl) (Nw5.out.at 4 rfl) (by rw [nS]; kernel_rfl) (by simp only [nS]) (nO _) ?_
 intro w6 hw hb hs
 have Nw6:=Hd (Nw5.out.store 4 rfl hb hs hw)
 clear hw hb hs Nw5
 refine pL rfl (.int .i64 0) (fun u=>by kernel_rfl) ?_
 refine wpList_nil ?_
 try simp only [Act.put,s_,t_,u_,v_,x_,y_]
 go_upto_region 3 with (fail)
 refine wp_region_lit ?_
 refine pL rfl (.func (.func 81) #[.pointer (some ⟨x,0,none⟩)] #[]) (fun u=>by kernel_rfl) ?_
 refine l0N rfl (.tmp 9) rfl y (by kernel_rfl) (Nw6.out.at 4 rfl) ?_
 refine l0N rfl (.tmp 5) rfl (g+1+1) (by kernel_rfl) (Nw6.out.at 2 rfl) ?_
 refine fL rfl 81 (.tmp 24) #[.tmp 25,.tmp 26] #[27,27] rfl #[.pointer (some ⟨x,0,none⟩)] #[.agg (nc ((mraw 18446744073709551616 k.c.n (mless k.c.n) (nwd k.c.n) a (pw (nwd k.c.n)*pw (nwd k.c.n)%k.c.n)))),.agg (nc b)] (by kernel_rfl) (by kernel_rfl) (fun u=>cE _ _ _ _ u Tryz.func81 (by kernel_rfl) (by kernel_rfl)) (.tuple #[.agg (nc ((mraw 18446744073709551616 k.c.n (mless k.c.n) (nwd k.c.n) (mraw 18446744073709551616 k.c.n (mless k.c.n) (nwd k.c.n) a (pw (nwd k.c.n)*pw (nwd k.c.n)%k.c.n)) b))),.int .i64 0]) (mont_mul x k.c.n (nwd k.c.n) (mless k.c.n) (mraw 18446744073709551616 k.c.n (mless k.c.n) (nwd k.c.n) a (pw (nwd k.c.n)*pw (nwd k.c.n)%k.c.n)) b w6 (HM.out.up Nw6.out.1) HT.out HB.out) (fun w7 hb=>?_)
 have Nw7:=Hd (Nw6.out.grow hb)
 clear hb Nw6
 refine pL rfl (.tuple #[.agg (nc ((mraw 18446744073709551616 k.c.n (mless k.c.n) (nwd k.c.n) (mraw 18446744073709551616 k.c.n (mless k.c.n) (nwd k.c.n) a (pw (nwd k.c.n)*pw (nwd k.c.n)%k.c.n)) b))),.int .i64 0]) (fun u=>by kernel_rfl) ?_
 refine pL rfl (.agg (nc ((mraw 18446744073709551616 k.c.n (mless k.c.n) (nwd k.c.n) (mraw 18446744073709551616 k.c.n (mless k.c.n) (nwd k.c.n) a (pw (nwd k.c.n)*pw (nwd k.c.n)%k.c.n)) b)))) (fun u=>by kernel_rfl) ?_
 refine pL rfl (.int .i64 0) (fun u=>by kernel_rfl) ?_
 refine sB rfl 27 (.tmp 9) (.tmp 28) rfl y (by kernel_rfl) _ _ (nc ((mraw 18446744073709551616 k.c.n (mless k.c.n) (nwd k.c.n) (mraw 18446744073709551616 k.c.n (mless k.c.n) (nwd k.c.n) a (pw (nwd k.c.n)*pw (nwd k.c.n)%k.c.n)) b))) (by kernel_rfl) (Nw7.out.at 4 rfl) (by rw [nS]; kernel_rfl) (by simp only [nS]) (nO _) ?_
 intro w8 hw hb hs
 have Nw8:=Hd (Nw7.out.store 4 rfl hb hs hw)
 clear hw hb hs Nw7
 refine wpList_nil ?_
 try simp only [Act.put,s_,t_,u_,v_,x_,y_]
 go_upto_region 4 with (fail)
 refine wp_region_lit ?_
 refine l0N rfl (.tmp 9) rfl y (by kernel_rfl) (Nw8.out.at 4 rfl) ?_
 refine sB rfl 27 (.tmp 6) (.tmp 30) rfl (g+1+1+1) (by kernel_rfl) _ _ (nc ((mraw 18446744073709551616 k.c.n (mless k.c.n) (nwd k.c.n) (mraw 18446744073709551616 k.c.n (mless k.c.n) (nwd k.c.n) a (pw (nwd k.c.n)*pw (nwd k.c.n)%k.c.n)) b))) (by kernel_rfl) (Nw8.out.at 3 rfl) (by rw [nS]; kernel_rfl) (by simp only [nS]) (nO _) ?_
 intro w9 hw hb hs
 have Nw9:=Hd (Nw8.out.store 3 rfl hb hs hw)
 clear hw hb hs Nw8
 refine wpList_nil ?_
 try simp only [Act.put,s_,t_,u_,v_,x_,y_]
 go_wp2_with (fail)
 exact bodyPost_ret (results_N rfl _ _ (g+1+1+1) _ _ _ rfl (Nw9.out.at 3 rfl)) rfl ⟨by rw [← HP.out]; rfl,Nw9.out.below⟩
theorem scl_inv (k:CK) (c f d x a y:Nat) (w:World) (ha:a<k.c.n) (hy:y<k.c.n) (hya:y*a%k.c.n=1) (H:CurveAt w c f d k.c) (HN:NAt k w x):Calls Tryz.prog 40 #[.agg #[.pointer (some ⟨c,0,none⟩),.pointer (some ⟨x,0,none⟩)],.agg (nc a)] w fun e w'=>e=.returned (.agg (nc (y)))∧Below w.heap.size w w':=by
 have h1n:=k.n1
 obtain ⟨t,ht,hta⟩:=inv_t (W:=18446744073709551616) (n:=nwd k.c.n) (by decide) HN.1.2.2.2.1 HN.1.2.1 h1n ha hya
 have HP:=Hd (inv_plain (W:=18446744073709551616) (n:=nwd k.c.n) (by decide) HN.1.2.2.2.1 HN.1.2.1 h1n ha hy hya ht hta)
 have hl:∀ b,mraw 18446744073709551616 k.c.n (mless k.c.n) (nwd k.c.n) b (pw (nwd k.c.n)*pw (nwd k.c.n)%k.c.n)<k.c.n:=fun b=>mraw_lt (by decide) (by omega) (Nat.mod_lt _ (by omega))
 have HL:=Hd hl
 have HA:=Hd ha
 have HT:=Hd ht
 have HTA:=Hd (show t*mraw 18446744073709551616 k.c.n (mless k.c.n) (nwd k.c.n) a (pw (nwd k.c.n)*pw (nwd k.c.n)%k.c.n)%k.c.n=1 from hta)
 clear ha hy hya ht hta hl
 have HCB:=Hd H.2.2
 have HM:=Hd HN
 have N9:=Hd k.n9
 clear H HN
 go_enter Tryz.func40,Tryz.ntmps40
 go_upto_region 1 with fail
 rw [← nZ]
 have m0:=Mem.start3 w (#[.pointer (some ⟨c,0,none⟩),.pointer (some ⟨x,0,none⟩)]) (nc a) (nc 0) 75 27 27
 obtain ⟨w1,hw1⟩:∃ w1:World,w1=(((w.alloc (.cells (#[.pointer (some ⟨c,0,none⟩),.pointer (some ⟨x,0,none⟩)]) 75)).alloc (.cells (nc a) 27)).alloc (.cells (nc 0) 27)):=⟨_,rfl⟩
 rw [← hw1] at m0 ⊢
 clear hw1
 obtain ⟨g,hg⟩:∃ g,g=w.heap.size:=⟨_,rfl⟩
 rw [← hg] at m0 ⊢
 have HG:=Hd hg
 have M:=Hd m0
 clear hg m0
 refine wp_region_lit ?_
 refine pL rfl (.pointer (some ⟨g,1,none⟩)) (fun u=>by kernel_rfl) ?_
 refine lC rfl 73 (.tmp 8) rfl g 1 (by kernel_rfl) (.pointer (some ⟨x,0,none⟩)) _ Tryz.underlying73 rfl ((cO (M.out.at 0 rfl) 1).trans (rfl)) ?_
 refine l0N rfl (.tmp 3) rfl (g+1) (by kernel_rfl) (M.out.at 1 rfl) ?_
 refine fL rfl 80 (.func 80) #[.tmp 9,.tmp 10] #[73,27] rfl #[] #[.pointer (some ⟨x,0,none⟩),.agg (nc a)] (by kernel_rfl) (by kernel_rfl) (fun u=>cE _ _ _ _ u Tryz.func80 (by kernel_rfl) (by kernel_rfl)) (.tuple #[.agg (nc ((mraw 18446744073709551616 k.c.n (mless k.c.n) (nwd k.c.n) a (pw (nwd k.c.n)*pw (nwd k.c.n)%k.c.n)))),.int .i64 0]) (mont_to x k.c.n (nwd k.c.n) (mless k.c.n) a w1 (HM.out.up M.out.1) HA.out) (fun w2 hb=>?_)
 have Nw2:=Hd (M.out.grow hb)
 clear hb M
 refine pL rfl (.tuple #[.agg (nc ((mraw 18446744073709551616 k.c.n (mless k.c.n) (nwd k.c.n) a (pw (nwd k.c.n)*pw (nwd k.c.n)%k.c.n)))),.int .i64 0]) (fun u=>by kernel_rfl) ?_
 refine pL rfl (.agg (nc ((mraw 18446744073709551616 k.c.n (mless k.c.n) (nwd k.c.n) a (pw (nwd k.c.n)*pw (nwd k.c.n)%k.c.n))))) (fun u=>by kernel_rfl) ?_
 refine pL rfl (.int .i64 0) (fun u=>by kernel_rfl) ?_
 refine nL rfl 27 rfl (.agg (nc 0)) (by rw [nZ]; kernel_rfl) ?_
 intro z w3 hx hx2 hgv hh
 have Nw3:=Hd (show Mem w w3 [(g,#[.pointer (some ⟨c,0,none⟩),.pointer (some ⟨x,0,none⟩)],75),(g+1,nc a,27),(g+1+1,nc 0,27),(z,nc 0,27)] from Nw2.out.new hgv (Nat.le_of_eq hx) hh)
 clear hx hx2 hgv hh Nw2
 refine sB rfl 27 (.tmp 5) (.tmp 12) rfl z (by kernel_rfl) _ _ (nc ((mraw 18446744073709551616 k.c.n (mless k.c.n) (nwd k.c.n) a (pw (nwd k.c.n)*pw (nwd k.c.n)%k.c.n)))) (by kernel_rfl) (Nw3.out.at 3 rfl) (by rw [nS]; kernel_rfl) (by simp only [nS]) (nO _) ?_
 intro w4 hw hb hs
 have Nw4:=Hd (Nw3.out.store 3 rfl hb hs hw)
 clear hw hb hs Nw3
 refine pL rfl (.int .i64 0) (fun u=>by kernel_rfl) ?_
 refine wpList_nil ?_
 try simp only [Act.put,s_,t_,u_,v_,x_,y_]
 go_upto_region 2 with (fail)
 refine wp_region_lit ?_
 refine pL rfl (.pointer (some ⟨g,1,none⟩)) (fun u=>by kernel_rfl) ?_
 refine lC rfl 73 (.tmp 15) rfl g 1 (by kernel_rfl) (.pointer (some ⟨x,0,none⟩)) _ Tryz.underlying73 rfl ((cO (Nw4.out.at 0 rfl) 1).trans (rfl)) ?_
 refine l0N rfl (.tmp 5) rfl z (by kernel_rfl) (Nw4.out.at 3 rfl) ?_
 refine fL rfl 82 (.func 82) #[.tmp 16,.tmp 17] #[73,27] rfl #[] #[.pointer (some ⟨x,0,none⟩),.agg (nc ((mraw 18446744073709551616 k.c.n (mless k.c.n) (nwd k.c.n) a (pw (nwd k.c.n)*pw (nwd k.c.n)%k.c.n))))] (by kernel_rfl) (by kernel_rfl) (fun u=>cE _ _ _ _ u Tryz.func82 (by kernel_rfl) (by kernel_rfl)) (.tuple #[.agg (nc ((mraw 18446744073709551616 k.c.n (mless k.c.n) (nwd k.c.n) (mraw 18446744073709551616 k.c.n (mless k.c.n) (nwd k.c.n) t (pw (nwd k.c.n)*pw (nwd k.c.n)%k.c.n)) (pw (nwd k.c.n)*pw (nwd k.c.n)%k.c.n)))),.int .i64 0]) (mont_inv x k.c.n (nwd k.c.n) (mless k.c.n) (mraw 18446744073709551616 k.c.n (mless k.c.n) (nwd k.c.n) a (pw (nwd k.c.n)*pw (nwd k.c.n)%k.c.n)) t w4 (HM.out.up Nw4.out.1) (HL.out _) HT.out HTA.out) (fun w5 hb=>?_)
 have Nw5:=Hd (Nw4.out.grow hb)
 clear hb Nw4
 refine pL rfl (.tuple #[.agg (nc ((mraw 18446744073709551616 k.c.n (mless k.c.n) (nwd k.c.n) (mraw 18446744073709551616 k.c.n (mless k.c.n) (nwd k.c.n) t (pw (nwd k.c.n)*pw (nwd k.c.n)%k.c.n)) (pw (nwd k.c.n)*pw (nwd k.c.n)%k.c.n)))),.int .i64 0]) (fun u=>by kernel_rfl) ?_
 refine pL rfl (.agg (nc ((mraw 18446744073709551616 k.c.n (mless k.c.n) (nwd k.c.n) (mraw 18446744073709551616 k.c.n (mless k.c.n) (nwd k.c.n) t (pw (nwd k.c.n)*pw (nwd k.c.n)%k.c.n)) (pw (nwd k.c.n)*pw (nwd k.c.n)%k.c.n))))) (fun u=>by kernel_rfl) ?_
 refine pL rfl (.int .i64 0) (fun u=>by kernel_rfl) ?_
 refine sB rfl 27 (.tmp 5) (.tmp 19) rfl z (by kernel_rfl) _ _ (nc ((mraw 18446744073709551616 k.c.n (mless k.c.n) (nwd k.c.n) (mraw 18446744073709551616 k.c.n (mless k.c.n) (nwd k.c.n) t (pw (nwd k.c.n)*pw (nwd k.c.n)%k.c.n)) (pw (nwd k.c.n)*pw (nwd k.c.n)%k.c.n)))) (by kernel_rfl) (Nw5.out.at 3 rfl) (by rw [nS]; kernel_rfl) (by simp only [nS]) (nO _) ?_
 intro w6 hw hb hs
 have Nw6:=Hd (Nw5.out.store 3 rfl hb hs hw)
 clear hw hb hs Nw5
 refine wpList_nil ?_
 try simp only [Act.put,s_,t_,u_,v_,x_,y_]
 go_upto_region 3 with (fail)
 refine wp_region_lit ?_
 refine pL rfl (.pointer (some ⟨g,1,none⟩)) (fun u=>by kernel_rfl) ?_
 refine lC rfl 73 (.tmp 22) rfl g 1 (by kernel_rfl) (.pointer (some ⟨x,0,none⟩)) _ Tryz.underlying73 rfl ((cO (Nw6.out.at 0 rfl) 1).trans (rfl)) ?_
 refine l0N rfl (.tmp 5) rfl z (by kernel_rfl) (Nw6.out.at 3 rfl) ?_
 refine fL rfl 83 (.func 83) #[.tmp 23,.tmp 24] #[73,27] rfl #[] #[.pointer (some ⟨x,0,none⟩),.agg (nc ((mraw 18446744073709551616 k.c.n (mless k.c.n) (nwd k.c.n) (mraw 18446744073709551616 k.c.n (mless k.c.n) (nwd k.c.n) t (pw (nwd k.c.n)*pw (nwd k.c.n)%k.c.n)) (pw (nwd k.c.n)*pw (nwd k.c.n)%k.c.n))))] (by kernel_rfl) (by kernel_rfl) (fun u=>cE _ _ _ _ u Tryz.func83 (by kernel_rfl) (by kernel_rfl)) (.tuple #[.agg (nc ((mraw 18446744073709551616 k.c.n (mless k.c.n) (nwd k.c.n) (mraw 18446744073709551616 k.c.n (mless k.c.n) (nwd k.c.n) (mraw 18446744073709551616 k.c.n (mless k.c.n) (nwd k.c.n) t (pw (nwd k.c.n)*pw (nwd k.c.n)%k.c.n)) (pw (nwd k.c.n)*pw (nwd k.c.n)%k.c.n)) 1))),.int .i64 0]) (mont_from x k.c.n (nwd k.c.n) (mless k.c.n) (mraw 18446744073709551616 k.c.n (mless k.c.n) (nwd k.c.n) (mraw 18446744073709551616 k.c.n (mless k.c.n) (nwd k.c.n) t (pw (nwd k.c.n)*pw (nwd k.c.n)%k.c.n)) (pw (nwd k.c.n)*pw (nwd k.c.n)%k.c.n)) w6 (HM.out.up Nw6.out.1) (HL.out _)) (fun w7 hb=>?_)
 have Nw7:=Hd (Nw6.out.grow hb)
 clear hb Nw6
 refine pL rfl (.tuple #[.agg (nc ((mraw 18446744073709551616 k.c.n (mless k.c.n) (nwd k.c.n) (mraw 18446744073709551616 k.c.n (mless k.c.n) (nwd k.c.n) (mraw 18446744073709551616 k.c.n (mless k.c.n) (nwd k.c.n) t (pw (nwd k.c.n)*pw (nwd k.c.n)%k.c.n)) (pw (nwd k.c.n)*pw (nwd k.c.n)%k.c.n)) 1))),.int .i64 0]) (fun u=>by kernel_rfl) ?_
 refine pL rfl (.agg (nc ((mraw 18446744073709551616 k.c.n (mless k.c.n) (nwd k.c.n) (mraw 18446744073709551616 k.c.n (mless k.c.n) (nwd k.c.n) (mraw 18446744073709551616 k.c.n (mless k.c.n) (nwd k.c.n) t (pw (nwd k.c.n)*pw (nwd k.c.n)%k.c.n)) (pw (nwd k.c.n)*pw (nwd k.c.n)%k.c.n)) 1)))) (fun u=>by kernel_rfl) ?_
 refine pL rfl (.int .i64 0) (fun u=>by kernel_rfl) ?_
 refine sB rfl 27 (.tmp 5) (.tmp 26) rfl z (by kernel_rfl) _ _ (nc ((mraw 18446744073709551616 k.c.n (mless k.c.n) (nwd k.c.n) (mraw 18446744073709551616 k.c.n (mless k.c.n) (nwd k.c.n) (mraw 18446744073709551616 k.c.n (mless k.c.n) (nwd k.c.n) t (pw (nwd k.c.n)*pw (nwd k.c.n)%k.c.n)) (pw (nwd k.c.n)*pw (nwd k.c.n)%k.c.n)) 1))) (by kernel_rfl) (Nw7.out.at 3 rfl) (by rw [nS]; kernel_rfl) (by simp only [nS]) (nO _) ?_
 intro w8 hw hb hs
 have Nw8:=Hd (Nw7.out.store 3 rfl hb hs hw)
 clear hw hb hs Nw7
 refine wpList_nil ?_
 try simp only [Act.put,s_,t_,u_,v_,x_,y_]
 go_upto_region 4 with (fail)
 refine wp_region_lit ?_
 refine l0N rfl (.tmp 5) rfl z (by kernel_rfl) (Nw8.out.at 3 rfl) ?_
 refine sB rfl 27 (.tmp 4) (.tmp 28) rfl (g+1+1) (by kernel_rfl) _ _ (nc ((mraw 18446744073709551616 k.c.n (mless k.c.n) (nwd k.c.n) (mraw 18446744073709551616 k.c.n (mless k.c.n) (nwd k.c.n) (mraw 18446744073709551616 k.c.n (mless k.c.n) (nwd k.c.n) t (pw (nwd k.c.n)*pw (nwd k.c.n)%k.c.n)) (pw (nwd k.c.n)*pw (nwd k.c.n)%k.c.n)) 1))) (by kernel_rfl) (Nw8.out.at 2 rfl) (by rw [nS]; kernel_rfl) (by simp only [nS]) (nO _) ?_
 intro w9 hw hb hs
 have Nw9:=Hd (Nw8.out.store 2 rfl hb hs hw)
 clear hw hb hs Nw8
 refine wpList_nil ?_
 try simp only [Act.put,s_,t_,u_,v_,x_,y_]
 go_wp2_with (fail)
 exact bodyPost_ret (results_N rfl _ _ (g+1+1) _ _ _ rfl (Nw9.out.at 2 rfl)) rfl ⟨by rw [← HP.out]; rfl,Nw9.out.below⟩
theorem scl_add (k:CK) (c f d x a b:Nat) (w:World) (ha:a<k.c.n) (hb:b<k.c.n) (H:CurveAt w c f d k.c) (HN:NAt k w x):Calls Tryz.prog 39 #[.agg #[.pointer (some ⟨c,0,none⟩),.pointer (some ⟨x,0,none⟩)],.agg (nc a),.agg (nc b)] w fun e w'=>e=.returned (.agg (nc ((a+b)%k.c.n)))∧Below w.heap.size w w':=by
 have HLO:=Hd (fun h=>add_lo ha hb h)
 have HHI:=Hd (fun h=>add_hi ha hb k.nOd.2.2 h)
 have A9:=Hd (Nat.lt_trans ha k.n9)
 have B9:=Hd (Nat.lt_trans hb k.n9)
 have S9:=Hd (show a+b<pw 9 by have:=k.nOd.2.2; omega)
 clear ha hb
 have HCB:=Hd H.2.2
 have HM:=Hd HN
 have N9:=Hd k.n9
 clear H HN
 go_enter Tryz.func39,Tryz.ntmps39
 go_upto_region 1 with fail
 rw [← nZ]
 have m0:=Mem.start4 w (#[.pointer (some ⟨c,0,none⟩),.pointer (some ⟨x,0,none⟩)]) (nc a) (nc b) (nc 0) 75 27 27 27
 obtain ⟨w1,hw1⟩:∃ w1:World,w1=((((w.alloc (.cells (#[.pointer (some ⟨c,0,none⟩),.pointer (some ⟨x,0,none⟩)]) 75)).alloc (.cells (nc a) 27)).alloc (.cells (nc b) 27)).alloc (.cells (nc 0) 27)):=⟨_,rfl⟩
 rw [← hw1] at m0 ⊢
 clear hw1
 obtain ⟨g,hg⟩:∃ g,g=w.heap.size:=⟨_,rfl⟩
 rw [← hg] at m0 ⊢
 have HG:=Hd hg
 have M:=Hd m0
 clear hg m0
 refine wp_region_lit ?_
 refine l0N rfl (.tmp 4) rfl (g+1) (by kernel_rfl) (M.out.at 1 rfl) ?_
 refine l0N rfl (.tmp 5) rfl (g+1+1) (by kernel_rfl) (M.out.at 2 rfl) ?_
 refine fL rfl 17 (.func 17) #[.tmp 12,.tmp 13] #[27,27] rfl #[] #[.agg (nc a),.agg (nc b)] (by kernel_rfl) (by kernel_rfl) (fun u=>cE _ _ _ _ u Tryz.func17 (by kernel_rfl) (by kernel_rfl)) (.tuple #[.agg (nc ((a+b))),.bool (decide (pw 9≤a+b))]) (nat_add a b w1 A9.out B9.out) (fun w2 hb=>?_)
 have Nw2:=Hd (M.out.grow hb)
 clear hb M
 refine pL rfl (.tuple #[.agg (nc ((a+b))),.bool (decide (pw 9≤a+b))]) (fun u=>by kernel_rfl) ?_
 refine pL rfl (.agg (nc ((a+b)))) (fun u=>by kernel_rfl) ?_
 refine pL rfl (.bool (decide (pw 9≤a+b))) (fun u=>by kernel_rfl) ?_
 refine nL rfl 27 rfl (.agg (nc 0)) (by rw [nZ]; kernel_rfl) ?_
 intro y w3 hx hx2 hgv hh
 have Nw3:=Hd (show Mem w w3 [(g,#[.pointer (some ⟨c,0,none⟩),.pointer (some ⟨x,0,none⟩)],75),(g+1,nc a,27),(g+1+1,nc b,27),(g+1+1+1,nc 0,27),(y,nc 0,27)] from Nw2.out.new hgv (Nat.le_of_eq hx) hh)
 clear hx hx2 hgv hh Nw2
 refine sB rfl 27 (.tmp 7) (.tmp 15) rfl y (by kernel_rfl) _ _ (nc ((a+b))) (by kernel_rfl) (Nw3.out.at 4 rfl) (by rw [nS]; kernel_rfl) (by simp only [nS]) (nO _) ?_
 intro w4 hw hb hs
 have Nw4:=Hd (Nw3.out.store 4 rfl hb hs hw)
 clear hw hb hs Nw3
 refine pL rfl (.bool (decide (pw 9≤a+b))) (fun u=>by kernel_rfl) ?_
 refine wpList_nil ?_
 try simp only [Act.put,s_,t_,u_,v_,x_,y_]
 go_upto_region 2 with (fail)
 have D5:=Hd (Nw4.out.drew)
 clear Nw4
 refine rGw 11 12 (by kernel_rfl) (by kernel_rfl) (fun d v c a w h=>by cases d <;> exact h) ?_
 simp only [List.take_succ_cons,List.take_zero]
 refine lG rfl (.tmp 7) rfl y (by kernel_rfl) (fun u hu=>D5.out.up 4 rfl hu) ?_
 refine pG rfl (.pointer (some ⟨g,0,none⟩)) (fun u=>by kernel_rfl) ?_
 refine wpGrow_load_cell rfl 70 (.tmp 19) rfl g 0 (by kernel_rfl) (.pointer (some ⟨c,0,none⟩)) _ Tryz.underlying70 rfl (fun u hu=>(cO (D5.out.up 0 rfl hu) 0).trans (rfl)) ?_
 refine pG rfl (.pointer (some ⟨c,0,none⟩)) (fun u=>by kernel_rfl) ?_
 refine pG rfl (.pointer (some ⟨c,0,none⟩)) (fun u=>by kernel_rfl) ?_
 refine pG rfl (.pointer (some ⟨c,28,none⟩)) (fun u=>by kernel_rfl) ?_
 refine lN rfl (.tmp 23) rfl c 28 (by kernel_rfl) k.c.n (fun u hu=>grows_at HCB.out (gT _ _ _ D5.out.1 hu)) (cuc_n _ _) ?_
 refine fG rfl 18 (.func 18) #[.tmp 18,.tmp 24] #[27,27] rfl #[] #[.agg (nc ((a+b))),.agg (nc k.c.n)] (by kernel_rfl) (by kernel_rfl) (fun u=>cE _ _ _ _ u Tryz.func18 (by kernel_rfl) (by kernel_rfl)) (.tuple #[.agg (nc ((dif (a+b) k.c.n 9))),.bool (decide (a+b<k.c.n))]) (fun u hu=>by exact nat_sub (a+b) k.c.n u S9.out N9.out) ?_
 refine pG rfl (.tuple #[.agg (nc ((dif (a+b) k.c.n 9))),.bool (decide (a+b<k.c.n))]) (fun u=>by kernel_rfl) ?_
 refine pG rfl (.agg (nc ((dif (a+b) k.c.n 9)))) (fun u=>by kernel_rfl) ?_
 refine pG rfl (.bool (decide (a+b<k.c.n))) (fun u=>by kernel_rfl) ?_
 refine gN ?_
 try simp only [Act.put,s_,t_,u_,v_,x_,y_]
 refine grow_alloc (i:=11) (f:=2) (by kernel_rfl) (by decide) rfl rfl 27 rfl (.agg (nc 0)) (by rw [nZ]; kernel_rfl) ?_
 intro z v6 hx hx2 hgv hh
 have Nv6:=Hd (D5.out.new hgv hx hh)
 have Nv6:Hid (Mem w v6 [(g,#[.pointer (some ⟨c,0,none⟩),.pointer (some ⟨x,0,none⟩)],75),(g+1,nc a,27),(g+1+1,nc b,27),(g+1+1+1,nc 0,27),(y,nc ((a+b)),27),(z,nc 0,27)]):=Nv6
 clear hgv hx hx2 hh D5
 try simp only [Act.put,s_,t_,u_,v_,x_,y_]
 refine gS (rs:=[12]) (by kernel_rfl) (by decide) (fun w7 hg6=>?_)
 have Nw7:=Hd (Nv6.out.grow hg6)
 clear hg6 Nv6
 refine wpAny_ready (rs:=[12]) (by kernel_rfl) (by simp) ?_
 refine AllReady.cons rfl (fun K hK=>?_) AllReady.nil
 refine sK rfl 27 (.tmp 9) (.tmp 26) rfl z rfl _ _ _ rfl (Nw7.out.at 5 rfl) (by rw [nS]; kernel_rfl) (by simp only [nS]) (nO _) (fun w8 hw hb hs=>hK _ _ ?_)
 have Nw8:=Hd (Nw7.out.store 5 rfl hb hs hw)
 clear hK hw hb hs Nw7
 try simp only [Act.put,s_,t_,u_,v_,x_,y_]
 refine wpAny_ready (rs:=[13]) (by kernel_rfl) (by simp) ?_
 refine AllReady.cons rfl (fun K hK=>?_) AllReady.nil
 go_simp
 refine hK _ _ ?_
 clear hK
 try simp only [Act.put,s_,t_,u_,v_,x_,y_]
 refine wpAny_done (by kernel_rfl) ?_ _
 try simp only [Act.put,s_,t_,u_,v_,x_,y_]
 by_cases hlt:a+b<k.c.n
 ·have hd:decide (a+b<k.c.n)=true:=decide_eq_true hlt
  rw [hd]
  go_upto_region 3 with (fail)
  refine wp_region_lit ?_
  refine pL rfl (.bool true) (fun u=>by kernel_rfl) ?_
  refine pL rfl (.bool false) (fun u=>by kernel_rfl) ?_
  refine wpList_nil ?_
  try simp only [Act.put,s_,t_,u_,v_,x_,y_]
  go_upto_region 5 with (fail)
  refine wp_region_lit ?_
  refine l0N rfl (.tmp 7) rfl y (by kernel_rfl) (Nw8.out.at 4 rfl) ?_
  refine sB rfl 27 (.tmp 6) (.tmp 31) rfl (g+1+1+1) (by kernel_rfl) _ _ (nc ((a+b))) (by kernel_rfl) (Nw8.out.at 3 rfl) (by rw [nS]; kernel_rfl) (by simp only [nS]) (nO _) ?_
  intro w29 hw hb hs
  have Nw29:=Hd (Nw8.out.store 3 rfl hb hs hw)
  clear hw hb hs Nw8
  refine wpList_nil ?_
  try simp only [Act.put,s_,t_,u_,v_,x_,y_]
  go_wp2_with (fail)
  exact bodyPost_ret (results_N rfl _ _ (g+1+1+1) _ _ _ rfl (Nw29.out.at 3 rfl)) rfl ⟨by rw [← HLO.out hlt],Nw29.out.below⟩
 ·have hd:decide (a+b<k.c.n)=false:=decide_eq_false hlt
  rw [hd]
  go_upto_region 3 with (fail)
  refine wp_region_lit ?_
  refine pL rfl (.bool false) (fun u=>by kernel_rfl) ?_
  refine pL rfl (.bool true) (fun u=>by kernel_rfl) ?_
  refine wpList_nil ?_
  try simp only [Act.put,s_,t_,u_,v_,x_,y_]
  go_upto_region 4 with (fail)
  refine wp_region_lit ?_
  refine l0N rfl (.tmp 9) rfl z (by kernel_rfl) (Nw8.out.at 5 rfl) ?_
  refine sB rfl 27 (.tmp 6) (.tmp 30) rfl (g+1+1+1) (by kernel_rfl) _ _ (nc ((dif (a+b) k.c.n 9))) (by kernel_rfl) (Nw8.out.at 3 rfl) (by rw [nS]; kernel_rfl) (by simp only [nS]) (nO _) ?_
  intro w29 hw hb hs
  have Nw29:=Hd (Nw8.out.store 3 rfl hb hs hw)
  clear hw hb hs Nw8
  refine wpList_nil ?_
  try simp only [Act.put,s_,t_,u_,v_,x_,y_]
  go_wp2_with (fail)
  exact bodyPost_ret (results_N rfl _ _ (g+1+1+1) _ _ _ rfl (Nw29.out.at 3 rfl)) rfl ⟨by rw [← HHI.out hlt],Nw29.out.below⟩
end Go.Proofs.YtkoonhiplicbkaaGreat.Cw
