/-
  (package divide) Inverse, where there is one. Condition: numbers below 2^576.
-/
import Derived.Test.YtkoonhiplicbkaaGreatQk14
set_option linter.unusedSimpArgs false
set_option linter.unusedVariables false
set_option maxHeartbeats 4000000
set_option maxRecDepth 100000
namespace Go.Proofs.YtkoonhiplicbkaaGreat.Cw
open Go Go.RowKit
attribute [local irreducible] pc ptc nc
attribute [local go_sem ↓ high] wn_eql wn_neq wn_lss wn_gtr wn_leq wn_geq wn_cells wRS wn_guard lit0 lit1
attribute [local go_sem high] wn_match wRS wn_eql wn_neq wn_lss wn_gtr wn_leq wn_geq
theorem Mem.take {w0 w:World} {L:List Blk} (M:Mem w0 w L) (n:Nat):Mem w0 w (L.take n):=⟨M.1,fun e he=>M.2.1 e (List.mem_of_mem_take he),M.2.2.sublist (List.take_sublist n L)⟩
def natOf (C:Array Value):Nat→Nat
 | 0=>0
 | k+1=>natOf C k+pw k*(intOf (C.getD k undef)).toNat
theorem natOf_nc (n:Nat):∀ k,k≤9→natOf (nc n) k=n%pw k
 | 0,_=>by rw [pw_zero,Nat.mod_one]; rfl
 | k+1,h=>by
  have h1:(nc n).getD k undef=wn (dig n k):=by
   have:=nc_get n k (by omega)
   simp [Array.getD_eq_getD_getElem?,this]
  unfold natOf
  rw [natOf_nc n k (by omega),h1,mod_pw_succ]
  rfl
def natAt (w:World) (x:Nat):Nat:=match w.heap[x]? with
 | some (.cells C _ _)=>natOf C 9
 | _=>0
theorem natAt_of {w:World} {x n:Nat} {t:TypeId} {fr:Nat × Nat} (h:w.heap[x]?=some (.cells (nc n) t fr)) (hn:n<pw 9):natAt w x=n:=by
 unfold natAt
 rw [h]
 show natOf (nc n) 9=n
 rw [natOf_nc n 9 (by omega),Nat.mod_eq_of_lt hn]
theorem next_lo {m t0 s:Nat} (h0:t0≤m) (hs:s<m) (hm:m<pw 9) (h:t0<s):nc (dif t0 s 9+m)=nc (nextT m t0 s):=by
 refine nc_congr ?_
 have e:dif t0 s 9=t0+pw 9 - s:=by
  unfold dif
  exact Nat.mod_eq_of_lt (by omega)
 unfold nextT
 rw [e,if_pos h,show t0+pw 9 - s+m=(t0+m - s)+pw 9 by omega,Nat.add_mod_right]
theorem next_hi {m t0 s:Nat} (h0:t0≤m) (hm:m<pw 9) (h:¬ t0<s):dif t0 s 9=nextT m t0 s:=by
 unfold nextT
 rw [dif_hi (by omega) h,if_neg h]
theorem div_inverse (a m t:Nat) (w:World) (ha:a<pw 9) (hm:m<pw 9) (ht:t<m) (hta:t*a%m=1):Calls Tryz.prog 19 #[.agg (nc a),.agg (nc m)] w fun e w'=>e=.returned (.tuple #[.agg (nc t),.int .i64 0])∧Below w.heap.size w w':=by
 have hm0:m≠0:=by omega
 have hm1:m≠1:=fun h=>by rw [h,Nat.mod_one] at hta; omega
 have HT:=Hd ht
 have HTA:=Hd hta
 have HA:=Hd ha
 have HM:=Hd hm
 have HM0:=Hd hm0
 have HM1:=Hd hm1
 clear ha hm ht hta hm0 hm1
 go_enter Tryz.func19,Tryz.ntmps19
 go_upto_region 1 with fail
 rw [← nZ]
 have m0:=Mem.start3 w (nc a) (nc m) (nc 0) 27 27 27
 obtain ⟨w1,hw1⟩:∃ w1:World,w1=(((w.alloc (.cells (nc a) 27)).alloc (.cells (nc m) 27)).alloc (.cells (nc 0) 27)):=⟨_,rfl⟩
 rw [← hw1] at m0 ⊢
 clear hw1
 obtain ⟨g,hg⟩:∃ g,g=w.heap.size:=⟨_,rfl⟩
 rw [← hg] at m0 ⊢
 have HG:=Hd hg
 have M:=Hd m0
 clear hg m0
 refine wp_region_lit ?_
 refine fL rfl 41 (.func 41) #[.tmp 3] #[89] rfl #[] #[.pointer (some ⟨g+1,0,none⟩)] (by kernel_rfl) (by kernel_rfl) (fun u=>cE _ _ _ _ u Tryz.func41 (by kernel_rfl) (by kernel_rfl)) (.bool false) ((by have hz:=divide_zero m (g+1) w1 (HM.out) (M.out.at 1 rfl); rw [decide_eq_false HM0.out] at hz; exact hz.mono fun e w' h=>⟨h.1,h.2 ▸ Below.refl _ _⟩)) (fun w2 hb=>?_)
 have Nw2:=Hd (M.out.grow hb)
 clear hb M
 refine wpList_nil ?_
 try simp only [Act.put,s_,t_,u_,v_,x_,y_]
 go_upto_region 3 with (fail)
 refine wp_region_lit ?_
 refine l0N rfl (.tmp 2) rfl g (by kernel_rfl) (Nw2.out.at 0 rfl) ?_
 refine l0N rfl (.tmp 3) rfl (g+1) (by kernel_rfl) (Nw2.out.at 1 rfl) ?_
 refine fL rfl 46 (.func 46) #[.tmp 23,.tmp 24] #[27,27] rfl #[] #[.agg (nc a),.agg (nc m)] (by kernel_rfl) (by kernel_rfl) (fun u=>cE _ _ _ _ u Tryz.func46 (by kernel_rfl) (by kernel_rfl)) (.tuple #[.agg (nc (a / m)),.agg (nc (a%m)),.int .i64 0]) (div_div a m w2 (HA.out) (HM.out) (HM0.out)) (fun w3 hb=>?_)
 have Nw3:=Hd (Nw2.out.grow hb)
 clear hb Nw2
 refine pK (.tuple #[.agg (nc (a / m)),.agg (nc (a%m)),.int .i64 0]) ?_
 refine pK (.agg (nc (a / m))) ?_
 refine pK (.agg (nc (a%m))) ?_
 refine pK (.int .i64 0) ?_
 refine nL rfl 27 rfl (.agg (nc 0)) (by rw [nZ]; kernel_rfl) ?_
 intro x6 w4 hx hx2 hgv hh
 have Nw4:=Hd (show Mem w w4 [(g,nc a,27),(g+1,nc m,27),(g+1+1,nc 0,27),(x6,nc 0,27)] from Nw3.out.new hgv (Nat.le_of_eq hx) hh)
 clear hx hx2 hgv hh Nw3
 refine nL rfl 27 rfl (.agg (nc 0)) (by rw [nZ]; kernel_rfl) ?_
 intro x7 w5 hx hx2 hgv hh
 have Nw5:=Hd (show Mem w w5 [(g,nc a,27),(g+1,nc m,27),(g+1+1,nc 0,27),(x6,nc 0,27),(x7,nc 0,27)] from Nw4.out.new hgv (Nat.le_of_eq hx) hh)
 clear hx hx2 hgv hh Nw4
 refine sB rfl 27 (.tmp 6) (.tmp 26) rfl x6 (by kernel_rfl) _ _ (nc (a / m)) (by kernel_rfl) (Nw5.out.at 3 rfl) (by rw [nS]; kernel_rfl) (by simp only [nS]) (nO _) ?_
 intro w6 hw hb hs
 have Nw6:=Hd (Nw5.out.store 3 rfl hb hs hw)
 clear hw hb hs Nw5
 refine sB rfl 27 (.tmp 7) (.tmp 27) rfl x7 (by kernel_rfl) _ _ (nc (a%m)) (by kernel_rfl) (Nw6.out.at 4 rfl) (by rw [nS]; kernel_rfl) (by simp only [nS]) (nO _) ?_
 intro w7 hw hb hs
 have Nw7:=Hd (Nw6.out.store 4 rfl hb hs hw)
 clear hw hb hs Nw6
 refine pK (.int .i64 0) ?_
 refine wpList_nil ?_
 try simp only [Act.put,s_,t_,u_,v_,x_,y_]
 go_upto_region 4 with (fail)
 have D8:=Hd (Nw7.out.drew)
 clear Nw7
 rename_i K4 hK4
 have r9:∀ (x9 x10:Nat) (w49:World),Mem (w7.drew) w49 [(x9,nc m,27),(x10,nc (a%m),27)]→K4 { tmps:=#[.agg (nc a),.agg (nc m),.pointer (some ⟨g,0,none⟩),.pointer (some ⟨g+1,0,none⟩),.pointer (some ⟨g+1+1,0,none⟩),.int .i64 0,.pointer (some ⟨x6,0,none⟩),.pointer (some ⟨x7,0,none⟩),.int .i64 0,.pointer (some ⟨x9,0,none⟩),.pointer (some ⟨x10,0,none⟩),undef,undef,undef,undef,undef,undef,undef,undef,undef,.bool false,undef,.tuple #[.agg (nc (a / m)),.agg (nc (a%m)),.int .i64 0],.agg (nc a),.agg (nc m),.tuple #[.agg (nc (a / m)),.agg (nc (a%m)),.int .i64 0],.agg (nc (a / m)),.agg (nc (a%m)),.int .i64 0,.agg (nc m),.agg (nc (a%m)),undef,undef,undef,undef,undef,undef,undef,undef,undef,undef,undef,undef,undef,undef,undef,undef,undef,undef,undef,undef,undef,undef,undef,undef,undef,undef,undef,undef,undef,undef,undef,undef,undef,undef,undef,undef,undef,undef,undef,undef,undef,undef,undef,undef],defers:=[] } w49:=by
  intro x9 x10 w49 mm
  refine hK4 _ _ ?_
  clear hK4
  have N50:=Hd (show Mem w w49 [(g,nc a,27),(g+1,nc m,27),(g+1+1,nc 0,27),(x6,nc (a / m),27),(x7,nc (a%m),27),(x9,nc m,27),(x10,nc (a%m),27)] from D8.out.join mm)
  clear mm D8
  go_upto_region 5 with (fail)
  refine wp_region_lit ?_
  refine wpList_built rfl 27 #[] rfl ((nc 0)) (by kernel_rfl) ?_
  refine fL rfl 47 (.func 47) #[.const (.int .i64 1)] #[3] rfl #[] #[.int .i64 1] (by kernel_rfl) (by kernel_rfl) (fun u=>cE _ _ _ _ u Tryz.func47 (by kernel_rfl) (by kernel_rfl)) (.agg (nc 1)) (nat_small 1 w49 (by decide)) (fun w51 hb=>?_)
  have Nw51:=Hd (N50.out.grow hb)
  clear hb N50
  refine nL rfl 27 rfl (.agg (nc 0)) (by rw [nZ]; kernel_rfl) ?_
  intro x11 w52 hx hx2 hgv hh
  have Nw52:=Hd (show Mem w w52 [(g,nc a,27),(g+1,nc m,27),(g+1+1,nc 0,27),(x6,nc (a / m),27),(x7,nc (a%m),27),(x9,nc m,27),(x10,nc (a%m),27),(x11,nc 0,27)] from Nw51.out.new hgv (Nat.le_of_eq hx) hh)
  clear hx hx2 hgv hh Nw51
  refine nL rfl 27 rfl (.agg (nc 0)) (by rw [nZ]; kernel_rfl) ?_
  intro x12 w53 hx hx2 hgv hh
  have Nw53:=Hd (show Mem w w53 [(g,nc a,27),(g+1,nc m,27),(g+1+1,nc 0,27),(x6,nc (a / m),27),(x7,nc (a%m),27),(x9,nc m,27),(x10,nc (a%m),27),(x11,nc 0,27),(x12,nc 0,27)] from Nw52.out.new hgv (Nat.le_of_eq hx) hh)
  clear hx hx2 hgv hh Nw52
  refine sB rfl 27 (.tmp 11) (.tmp 31) rfl x11 (by kernel_rfl) _ _ (nc 0) (by kernel_rfl) (Nw53.out.at 7 rfl) (by rw [nS]; kernel_rfl) (by simp only [nS]) (nO _) ?_
  intro w54 hw hb hs
  have Nw54:=Hd (Nw53.out.store 7 rfl hb hs hw)
  clear hw hb hs Nw53
  refine sB rfl 27 (.tmp 12) (.tmp 32) rfl x12 (by kernel_rfl) _ _ (nc 1) (by kernel_rfl) (Nw54.out.at 8 rfl) (by rw [nS]; kernel_rfl) (by simp only [nS]) (nO _) ?_
  intro w55 hw hb hs
  have Nw55:=Hd (Nw54.out.store 8 rfl hb hs hw)
  clear hw hb hs Nw54
  refine wpList_nil ?_
  try simp only [Act.put,s_,t_,u_,v_,x_,y_]
  go_upto_region 6 with (fail)
  refine wp_region_lit ?_
  refine l0N rfl (.tmp 3) rfl (g+1) (by kernel_rfl) (Nw55.out.at 1 rfl) ?_
  refine wpList_fnE rfl _ _ _ _ rfl #[] #[.agg (nc m)] (by kernel_rfl) (by kernel_rfl) (fun u=>cE _ _ _ _ u Tryz.func42 (by kernel_rfl) (by kernel_rfl)) (fun d=>.agg #[.pointer (some ⟨d,0,none⟩)]) (fun d w'=>DivAt w' d m∧w55.heap.size≤d∧Below w55.heap.size w55 w') (div_by m w55 HM0.out HM.out) ?_
  intro d wd hd
  obtain ⟨⟨nn,ss,f1,f2,f3,f4,f5,hblk⟩,hds,hbd⟩:=hd
  have NWD:=Hd (show Mem w wd [(g,nc a,27),(g+1,nc m,27),(g+1+1,nc 0,27),(x6,nc (a / m),27),(x7,nc (a%m),27),(x9,nc m,27),(x10,nc (a%m),27),(x11,nc 0,27),(x12,nc 1,27),(d,dc (m*2 ^ ss) nn ss,189)] from Nw55.out.new hbd hds hblk)
  clear hbd hds hblk Nw55
  have HDV:=Hd (show ∀ u:World,u.heap[d]?=some (.cells (dc (m*2 ^ ss) nn ss) 189 (0,0))→DivAt u d m from fun u h=>⟨nn,ss,f1,f2,f3,f4,f5,h⟩)
  clear f1 f2 f3 f4 f5
  refine nL rfl 92 rfl (.agg #[.pointer none]) (by kernel_rfl) ?_
  intro x13 w13 hx hx2 hgv hh
  have NWE:=Hd (show Mem w w13 [(g,nc a,27),(g+1,nc m,27),(g+1+1,nc 0,27),(x6,nc (a / m),27),(x7,nc (a%m),27),(x9,nc m,27),(x10,nc (a%m),27),(x11,nc 0,27),(x12,nc 1,27),(d,dc (m*2 ^ ss) nn ss,189),(x13,#[.pointer none],92)] from NWD.out.new hgv (Nat.le_of_eq hx) hh)
  clear hx hx2 hgv hh NWD
  refine sB rfl 92 (.tmp 13) (.tmp 34) rfl x13 (by kernel_rfl) _ _ #[.pointer (some ⟨d,0,none⟩)] (by kernel_rfl) (NWE.out.at 10 rfl) (by kernel_rfl) rfl (by intro u hu; simp at hu; subst hu; rfl) ?_
  intro wl hw hb hs
  have NWL:=Hd (NWE.out.store 10 rfl hb hs hw)
  clear hw hb hs NWE
  refine wpList_nil ?_
  try simp only [Act.put,s_,t_,u_,v_,x_,y_]
  go_upto_region 7 with (fail)
  go_loopw [16] (fun v wr=>∃ r0 r1 t0 t1:Nat,Hid (InvAt a m r0 r1 t0 t1)∧Mem w wr [(g,nc a,27),(g+1,nc m,27),(g+1+1,nc 0,27),(x6,nc (a / m),27),(x7,nc (a%m),27),(x9,nc r0,27),(x10,nc r1,27),(x11,nc t0,27),(x12,nc t1,27),(d,dc (m*2 ^ ss) nn ss,189),(x13,#[.pointer (some ⟨d,0,none⟩)],92)]) (fun _ wr=>natAt wr x10)
  case atStart=>exact ⟨m,a%m,0,1,Hd (InvAt.start a m (Nat.pos_of_ne_zero HM0.out)),NWL.out⟩
  case round=>
   obtain ⟨r0,r1,t0,t1,hinv,hmem⟩:=hrel
   have M:=Hd hmem
   have MK:=Hd hmem
   clear hmem
   have R0:=Hd (show r0<pw 9 from Nat.lt_of_le_of_lt hinv.out.le HM.out)
   have R1:=Hd (show r1<pw 9 from Nat.lt_trans hinv.out.lt R0.out)
   have T0:=Hd (show t0<pw 9 from Nat.lt_of_le_of_lt hinv.out.b0 HM.out)
   have T1:=Hd (show t1<pw 9 from Nat.lt_of_le_of_lt hinv.out.b1 HM.out)
   by_cases h0:r1=0
   ·have hfin:=(show InvAt a m r0 0 t0 t1 from h0 ▸ hinv.out).done HM1.out
    have hg1:Nat.gcd a m=1:=by
     have hd1:Nat.gcd a m∣1:=by
      have e1:t*a=m*(t*a / m)+1:=by have:=Nat.div_add_mod (t*a) m; rw [HTA.out] at this; exact this.symm
      have e2:Nat.gcd a m∣m*(t*a / m)+1:=e1 ▸ Nat.dvd_mul_left_of_dvd (Nat.gcd_dvd_left a m) t
      exact (Nat.dvd_add_right (Nat.dvd_mul_right_of_dvd (Nat.gcd_dvd_right a m) _)).1 e2
     exact Nat.dvd_one.1 hd1
    have hr1:r0=1:=hfin.1.2 hg1
    have hts:=hfin.2 hr1
    have htt:t0=t:=by
     have e1:(t0*(a*t))%m=t0%m:=by rw [Nat.mul_mod,show a*t%m=1 by rw [Nat.mul_comm]; exact HTA.out,Nat.mul_one,Nat.mod_mod]
     have e2:(t0*(a*t))%m=t%m:=by rw [← Nat.mul_assoc,Nat.mul_mod,hts.2,Nat.one_mul,Nat.mod_mod]
     rw [Nat.mod_eq_of_lt hts.1] at e1
     rw [Nat.mod_eq_of_lt HT.out] at e2
     exact e1.symm.trans e2
    have HTT:=Hd htt
    have HR1:=Hd hr1
    clear hfin hg1 hr1 hts htt
    go_upto_region 7 with (fail)
    refine wp_region_lit ?_
    refine fL rfl 41 (.func 41) #[.tmp 10] #[89] rfl #[] #[.pointer (some ⟨x10,0,none⟩)] (by kernel_rfl) (by kernel_rfl) (fun u=>cE _ _ _ _ u Tryz.func41 (by kernel_rfl) (by kernel_rfl)) (.bool true) ((by have hz:=divide_zero r1 x10 wr (R1.out) (M.out.at 6 rfl); rw [decide_eq_true h0] at hz; exact hz.mono fun e w' h=>⟨h.1,h.2 ▸ Below.refl _ _⟩)) (fun w56 hb=>?_)
    have Nw56:=Hd (M.out.grow hb)
    clear hb M
    refine pK (.bool false) ?_
    refine wpList_nil ?_
    try simp only [Act.put,s_,t_,u_,v_,x_,y_]
    go_upto_region 15 with (fail)
    have D57:=Hd (Nw56.out.drew)
    clear Nw56
    refine rGw 8 8 (by kernel_rfl) (by kernel_rfl) (fun d v c a w h=>by cases d <;> exact h) ?_
    simp only [List.take_succ_cons,List.take_zero]
    refine lG rfl (.tmp 9) rfl x9 (by kernel_rfl) (fun u hu=>D57.out.up 5 rfl hu) ?_
    refine fG rfl 47 (.func 47) #[.const (.int .i64 1)] #[3] rfl #[] #[.int .i64 1] (by kernel_rfl) (by kernel_rfl) (fun u=>cE _ _ _ _ u Tryz.func47 (by kernel_rfl) (by kernel_rfl)) (.agg (nc 1)) (fun u hu=>by exact nat_small 1 u (by decide)) ?_
    try simp only [Act.put,s_,t_,u_,v_,x_,y_]
    refine wpGrow_want rfl (.bool false) (fun u hu=>by have hh:=fun w=>neq_nat r0 1 R0.out (show 1<pw 9 by decide +kernel) w; rw [decide_eq_false (fun h=>h HR1.out)] at hh; go_simp) ?_
    refine gK (.bool false) ?_
    try simp only [Act.put,s_,t_,u_,v_,x_,y_]
    refine lG rfl (.tmp 3) rfl (g+1) (by kernel_rfl) (fun u hu=>D57.out.up 1 rfl hu) ?_
    try simp only [Act.put,s_,t_,u_,v_,x_,y_]
    refine fG rfl 47 (.func 47) #[.const (.int .i64 1)] #[3] rfl #[] #[.int .i64 1] (by kernel_rfl) (by kernel_rfl) (fun u=>cE _ _ _ _ u Tryz.func47 (by kernel_rfl) (by kernel_rfl)) (.agg (nc 1)) (fun u hu=>by exact nat_small 1 u (by decide)) ?_
    try simp only [Act.put,s_,t_,u_,v_,x_,y_]
    refine wpGrow_want rfl (.bool false) (fun u hu=>by have hh:=fun w=>eq_nat m 1 HM.out (show 1<pw 9 by decide +kernel) w; rw [decide_eq_false HM1.out] at hh; go_simp) ?_
    refine gK (.bool false) ?_
    refine gN ?_
    try simp only [Act.put,s_,t_,u_,v_,x_,y_]
    intro w58 hg6
    refine ⟨by kernel_rfl,?_⟩
    have Nw58:=Hd (D57.out.grow hg6)
    clear hg6 D57
    try simp only [Act.put,s_,t_,u_,v_,x_,y_]
    go_upto_region 17 with (fail)
    refine wp_region_lit ?_
    refine l0N rfl (.tmp 11) rfl x11 (by kernel_rfl) (Nw58.out.at 7 rfl) ?_
    refine sB rfl 27 (.tmp 4) (.tmp 74) rfl (g+1+1) (by kernel_rfl) _ _ (nc t0) (by kernel_rfl) (Nw58.out.at 2 rfl) (by rw [nS]; kernel_rfl) (by simp only [nS]) (nO _) ?_
    intro w59 hw hb hs
    have Nw59:=Hd (Nw58.out.store 2 rfl hb hs hw)
    clear hw hb hs Nw58
    refine pK (.int .i64 0) ?_
    refine wpList_nil ?_
    try simp only [Act.put,s_,t_,u_,v_,x_,y_]
    go_wp2_with (fail)
    exact bodyPost_ret (results_N2 rfl _ _ (g+1+1) _ _ _ _ rfl rfl (Nw59.out.at 2 rfl)) rfl ⟨by rw [HTT.out]; rfl,Nw59.out.below⟩
   ·have R1N:=Hd h0
    have hstep:=Hd (hinv.out.step h0)
    have hlt:=hinv.out.lt
    have HB0:=Hd hinv.out.b0
    have HS:=Hd (show r0 / r1*t1%m<m from Nat.mod_lt _ (Nat.pos_of_ne_zero HM0.out))
    have HQ:=Hd (show r0 / r1<pw 9 from Nat.lt_of_le_of_lt (Nat.div_le_self _ _) R0.out)
    go_upto_region 7 with (fail)
    refine wp_region_lit ?_
    refine fL rfl 41 (.func 41) #[.tmp 10] #[89] rfl #[] #[.pointer (some ⟨x10,0,none⟩)] (by kernel_rfl) (by kernel_rfl) (fun u=>cE _ _ _ _ u Tryz.func41 (by kernel_rfl) (by kernel_rfl)) (.bool false) ((by have hz:=divide_zero r1 x10 wr (R1.out) (M.out.at 6 rfl); rw [decide_eq_false h0] at hz; exact hz.mono fun e w' h=>⟨h.1,h.2 ▸ Below.refl _ _⟩)) (fun w56 hb=>?_)
    have Nw56:=Hd (M.out.grow hb)
    clear hb M
    refine pK (.bool true) ?_
    refine wpList_nil ?_
    try simp only [Act.put,s_,t_,u_,v_,x_,y_]
    go_upto_region 8 with (fail)
    refine wp_region_lit ?_
    refine l0N rfl (.tmp 9) rfl x9 (by kernel_rfl) (Nw56.out.at 5 rfl) ?_
    refine l0N rfl (.tmp 10) rfl x10 (by kernel_rfl) (Nw56.out.at 6 rfl) ?_
    refine fL rfl 46 (.func 46) #[.tmp 38,.tmp 39] #[27,27] rfl #[] #[.agg (nc r0),.agg (nc r1)] (by kernel_rfl) (by kernel_rfl) (fun u=>cE _ _ _ _ u Tryz.func46 (by kernel_rfl) (by kernel_rfl)) (.tuple #[.agg (nc (r0 / r1)),.agg (nc (r0%r1)),.int .i64 0]) (div_div r0 r1 w56 (R0.out) (R1.out) (R1N.out)) (fun w57 hb=>?_)
    have Nw57:=Hd (Nw56.out.grow hb)
    clear hb Nw56
    refine pK (.tuple #[.agg (nc (r0 / r1)),.agg (nc (r0%r1)),.int .i64 0]) ?_
    refine pK (.agg (nc (r0 / r1))) ?_
    refine pK (.agg (nc (r0%r1))) ?_
    refine pK (.int .i64 0) ?_
    refine nL rfl 27 rfl (.agg (nc 0)) (by rw [nZ]; kernel_rfl) ?_
    intro x14 w58 hx hx2 hgv hh
    have Nw58:=Hd (show Mem w w58 [(g,nc a,27),(g+1,nc m,27),(g+1+1,nc 0,27),(x6,nc (a / m),27),(x7,nc (a%m),27),(x9,nc r0,27),(x10,nc r1,27),(x11,nc t0,27),(x12,nc t1,27),(d,dc (m*2 ^ ss) nn ss,189),(x13,#[.pointer (some ⟨d,0,none⟩)],92),(x14,nc 0,27)] from Nw57.out.new hgv (Nat.le_of_eq hx) hh)
    clear hx hx2 hgv hh Nw57
    refine nL rfl 27 rfl (.agg (nc 0)) (by rw [nZ]; kernel_rfl) ?_
    intro x15 w59 hx hx2 hgv hh
    have Nw59:=Hd (show Mem w w59 [(g,nc a,27),(g+1,nc m,27),(g+1+1,nc 0,27),(x6,nc (a / m),27),(x7,nc (a%m),27),(x9,nc r0,27),(x10,nc r1,27),(x11,nc t0,27),(x12,nc t1,27),(d,dc (m*2 ^ ss) nn ss,189),(x13,#[.pointer (some ⟨d,0,none⟩)],92),(x14,nc 0,27),(x15,nc 0,27)] from Nw58.out.new hgv (Nat.le_of_eq hx) hh)
    clear hx hx2 hgv hh Nw58
    refine sB rfl 27 (.tmp 14) (.tmp 41) rfl x14 (by kernel_rfl) _ _ (nc (r0 / r1)) (by kernel_rfl) (Nw59.out.at 11 rfl) (by rw [nS]; kernel_rfl) (by simp only [nS]) (nO _) ?_
    intro w60 hw hb hs
    have Nw60:=Hd (Nw59.out.store 11 rfl hb hs hw)
    clear hw hb hs Nw59
    refine sB rfl 27 (.tmp 15) (.tmp 42) rfl x15 (by kernel_rfl) _ _ (nc (r0%r1)) (by kernel_rfl) (Nw60.out.at 12 rfl) (by rw [nS]; kernel_rfl) (by simp only [nS]) (nO _) ?_
    intro w61 hw hb hs
    have Nw61:=Hd (Nw60.out.store 12 rfl hb hs hw)
    clear hw hb hs Nw60
    refine pK (.int .i64 0) ?_
    refine wpList_nil ?_
    try simp only [Act.put,s_,t_,u_,v_,x_,y_]
    go_upto_region 9 with (fail)
    have D62:=Hd (Nw61.out.drew)
    clear Nw61
    rename_i K9 hK9
    have r63:∀ w70:World,Mem w w70 [(g,nc a,27),(g+1,nc m,27),(g+1+1,nc 0,27),(x6,nc (a / m),27),(x7,nc (a%m),27),(x9,nc r1,27),(x10,nc (r0%r1),27),(x11,nc t0,27),(x12,nc t1,27),(d,dc (m*2 ^ ss) nn ss,189),(x13,#[.pointer (some ⟨d,0,none⟩)],92),(x14,nc (r0 / r1),27),(x15,nc (r0%r1),27)]→K9 { tmps:=#[.agg (nc a),.agg (nc m),.pointer (some ⟨g,0,none⟩),.pointer (some ⟨g+1,0,none⟩),.pointer (some ⟨g+1+1,0,none⟩),.int .i64 0,.pointer (some ⟨x6,0,none⟩),.pointer (some ⟨x7,0,none⟩),.int .i64 0,.pointer (some ⟨x9,0,none⟩),.pointer (some ⟨x10,0,none⟩),.pointer (some ⟨x11,0,none⟩),.pointer (some ⟨x12,0,none⟩),.pointer (some ⟨x13,0,none⟩),.pointer (some ⟨x14,0,none⟩),.pointer (some ⟨x15,0,none⟩),.int .i64 0,u17,u18,u19,.bool false,undef,.tuple #[.agg (nc (a / m)),.agg (nc (a%m)),.int .i64 0],.agg (nc a),.agg (nc m),.tuple #[.agg (nc (a / m)),.agg (nc (a%m)),.int .i64 0],.agg (nc (a / m)),.agg (nc (a%m)),.int .i64 0,.agg (nc m),.agg (nc (a%m)),.agg (nc 0),.agg (nc 1),.agg (nc m),.agg #[.pointer (some ⟨d,0,none⟩)],.bool false,.bool true,.tuple #[.agg (nc (r0 / r1)),.agg (nc (r0%r1)),.int .i64 0],.agg (nc r0),.agg (nc r1),.tuple #[.agg (nc (r0 / r1)),.agg (nc (r0%r1)),.int .i64 0],.agg (nc (r0 / r1)),.agg (nc (r0%r1)),.int .i64 0,.agg (nc r1),.agg (nc (r0%r1)),u46,u47,u48,u49,u50,u51,u52,u53,u54,u55,u56,u57,u58,u59,u60,u61,u62,u63,u64,undef,undef,undef,undef,undef,undef,undef,undef,undef,undef],defers:=[] } w70:=by
     intro w70 mm
     refine hK9 _ _ ?_
     clear hK9
     have Nw70:=Hd mm
     clear mm D62
     go_upto_region 10 with (fail)
     refine wp_region_lit ?_
     refine lS rfl 92 (.tmp 13) rfl x13 0 1 (by kernel_rfl) _ _ (#[.pointer (some ⟨d,0,none⟩)]) _ _ (Nw70.out.at 10 rfl) Tryz.underlying92 rfl (by kernel_rfl) (rfl) (fun j hj=>by rw [Nat.zero_add]) ?_
     refine l0N rfl (.tmp 14) rfl x14 (by kernel_rfl) (Nw70.out.at 11 rfl) ?_
     refine l0N rfl (.tmp 12) rfl x12 (by kernel_rfl) (Nw70.out.at 8 rfl) ?_
     refine fL rfl 43 (.func 43) #[.tmp 46,.tmp 47,.tmp 48] #[92,27,27] rfl #[] #[.agg #[.pointer (some ⟨d,0,none⟩)],.agg (nc (r0 / r1)),.agg (nc t1)] (by kernel_rfl) (by kernel_rfl) (fun u=>cE _ _ _ _ u Tryz.func43 (by kernel_rfl) (by kernel_rfl)) (.agg (nc (r0 / r1*t1%m))) (modulus_mul d (r0 / r1) t1 m w70 HQ.out T1.out (HDV.out _ (Nw70.out.at 9 rfl))) (fun w71 hb=>?_)
     have Nw71:=Hd (Nw70.out.grow hb)
     clear hb Nw70
     refine nL rfl 27 rfl (.agg (nc 0)) (by rw [nZ]; kernel_rfl) ?_
     intro x17 w72 hx hx2 hgv hh
     have Nw72:=Hd (show Mem w w72 [(g,nc a,27),(g+1,nc m,27),(g+1+1,nc 0,27),(x6,nc (a / m),27),(x7,nc (a%m),27),(x9,nc r1,27),(x10,nc (r0%r1),27),(x11,nc t0,27),(x12,nc t1,27),(d,dc (m*2 ^ ss) nn ss,189),(x13,#[.pointer (some ⟨d,0,none⟩)],92),(x14,nc (r0 / r1),27),(x15,nc (r0%r1),27),(x17,nc 0,27)] from Nw71.out.new hgv (Nat.le_of_eq hx) hh)
     clear hx hx2 hgv hh Nw71
     refine sB rfl 27 (.tmp 17) (.tmp 49) rfl x17 (by kernel_rfl) _ _ (nc (r0 / r1*t1%m)) (by kernel_rfl) (Nw72.out.at 13 rfl) (by rw [nS]; kernel_rfl) (by simp only [nS]) (nO _) ?_
     intro w73 hw hb hs
     have Nw73:=Hd (Nw72.out.store 13 rfl hb hs hw)
     clear hw hb hs Nw72
     refine wpList_nil ?_
     try simp only [Act.put,s_,t_,u_,v_,x_,y_]
     obtain ⟨s,hs⟩:∃ s,s=r0 / r1*t1%m:=⟨_,rfl⟩
     rw [← hs] at HS hstep Nw73 ⊢
     clear hs
     have HS9:=Hd (show s<pw 9 from Nat.lt_trans HS.out HM.out)
     by_cases hlts:t0<s
     ·have HE:=Hd (next_lo HB0.out HS.out HM.out hlts)
      go_upto_region 11 with (fail)
      refine wp_region_lit ?_
      refine l0N rfl (.tmp 11) rfl x11 (by kernel_rfl) (Nw73.out.at 7 rfl) ?_
      refine l0N rfl (.tmp 17) rfl x17 (by kernel_rfl) (Nw73.out.at 13 rfl) ?_
      refine fL rfl 18 (.func 18) #[.tmp 51,.tmp 52] #[27,27] rfl #[] #[.agg (nc t0),.agg (nc s)] (by kernel_rfl) (by kernel_rfl) (fun u=>cE _ _ _ _ u Tryz.func18 (by kernel_rfl) (by kernel_rfl)) (.tuple #[.agg (nc (dif t0 s 9)),.bool true]) ((by have hcc:=nat_sub t0 s w73 T0.out HS9.out; rw [decide_eq_true hlts] at hcc; exact hcc)) (fun w74 hb=>?_)
      have Nw74:=Hd (Nw73.out.grow hb)
      clear hb Nw73
      refine pK (.tuple #[.agg (nc (dif t0 s 9)),.bool true]) ?_
      refine pK (.agg (nc (dif t0 s 9))) ?_
      refine pK (.bool true) ?_
      refine nL rfl 27 rfl (.agg (nc 0)) (by rw [nZ]; kernel_rfl) ?_
      intro x18 w75 hx hx2 hgv hh
      have Nw75:=Hd (show Mem w w75 [(g,nc a,27),(g+1,nc m,27),(g+1+1,nc 0,27),(x6,nc (a / m),27),(x7,nc (a%m),27),(x9,nc r1,27),(x10,nc (r0%r1),27),(x11,nc t0,27),(x12,nc t1,27),(d,dc (m*2 ^ ss) nn ss,189),(x13,#[.pointer (some ⟨d,0,none⟩)],92),(x14,nc (r0 / r1),27),(x15,nc (r0%r1),27),(x17,nc s,27),(x18,nc 0,27)] from Nw74.out.new hgv (Nat.le_of_eq hx) hh)
      clear hx hx2 hgv hh Nw74
      refine sB rfl 27 (.tmp 18) (.tmp 54) rfl x18 (by kernel_rfl) _ _ (nc (dif t0 s 9)) (by kernel_rfl) (Nw75.out.at 14 rfl) (by rw [nS]; kernel_rfl) (by simp only [nS]) (nO _) ?_
      intro w76 hw hb hs
      have Nw76:=Hd (Nw75.out.store 14 rfl hb hs hw)
      clear hw hb hs Nw75
      refine pK (.bool true) ?_
      refine wpList_nil ?_
      try simp only [Act.put,s_,t_,u_,v_,x_,y_]
      go_upto_region 12 with (fail)
      refine wp_region_lit ?_
      refine pK (.bool true) ?_
      refine wpList_nil ?_
      try simp only [Act.put,s_,t_,u_,v_,x_,y_]
      go_upto_region 13 with (fail)
      refine wp_region_lit ?_
      refine l0N rfl (.tmp 18) rfl x18 (by kernel_rfl) (Nw76.out.at 14 rfl) ?_
      refine l0N rfl (.tmp 3) rfl (g+1) (by kernel_rfl) (Nw76.out.at 1 rfl) ?_
      refine fL rfl 17 (.func 17) #[.tmp 58,.tmp 59] #[27,27] rfl #[] #[.agg (nc (dif t0 s 9)),.agg (nc m)] (by kernel_rfl) (by kernel_rfl) (fun u=>cE _ _ _ _ u Tryz.func17 (by kernel_rfl) (by kernel_rfl)) (.tuple #[.agg (nc (dif t0 s 9+m)),.bool (decide (pw 9≤dif t0 s 9+m))]) (nat_add _ m w76 (dif_lt t0 s) HM.out) (fun w77 hb=>?_)
      have Nw77:=Hd (Nw76.out.grow hb)
      clear hb Nw76
      refine pK (.tuple #[.agg (nc (dif t0 s 9+m)),.bool (decide (pw 9≤dif t0 s 9+m))]) ?_
      refine pK (.agg (nc (dif t0 s 9+m))) ?_
      refine pK (.bool (decide (pw 9≤dif t0 s 9+m))) ?_
      refine sB rfl 27 (.tmp 18) (.tmp 61) rfl x18 (by kernel_rfl) _ _ (nc (dif t0 s 9+m)) (by kernel_rfl) (Nw77.out.at 14 rfl) (by rw [nS]; kernel_rfl) (by simp only [nS]) (nO _) ?_
      intro w78 hw hb hs
      have Nw78:=Hd (Nw77.out.store 14 rfl hb hs hw)
      clear hw hb hs Nw77
      refine wpList_nil ?_
      try simp only [Act.put,s_,t_,u_,v_,x_,y_]
      have rest:∀ u:World,Mem w u [(g,nc a,27),(g+1,nc m,27),(g+1+1,nc 0,27),(x6,nc (a / m),27),(x7,nc (a%m),27),(x9,nc r1,27),(x10,nc (r0%r1),27),(x11,nc t1,27),(x12,nc (dif t0 s 9+m),27),(d,dc (m*2 ^ ss) nn ss,189),(x13,#[.pointer (some ⟨d,0,none⟩)],92),(x14,nc (r0 / r1),27),(x15,nc (r0%r1),27),(x17,nc s,27),(x18,nc (dif t0 s 9+m),27)]→Mem w u [(g,nc a,27),(g+1,nc m,27),(g+1+1,nc 0,27),(x6,nc (a / m),27),(x7,nc (a%m),27),(x9,nc r1,27),(x10,nc (r0%r1),27),(x11,nc t1,27),(x12,nc (nextT m t0 s),27),(d,dc (m*2 ^ ss) nn ss,189),(x13,#[.pointer (some ⟨d,0,none⟩)],92)]∧natAt u x10<natAt wr x10:=by
       intro u mm
       have MF:Mem w u [(g,nc a,27),(g+1,nc m,27),(g+1+1,nc 0,27),(x6,nc (a / m),27),(x7,nc (a%m),27),(x9,nc r1,27),(x10,nc (r0%r1),27),(x11,nc t1,27),(x12,nc (nextT m t0 s),27),(d,dc (m*2 ^ ss) nn ss,189),(x13,#[.pointer (some ⟨d,0,none⟩)],92)]:=by
        have:=mm.take 11
        rw [← HE.out]
        exact this
       refine ⟨MF,?_⟩
       rw [natAt_of (MF.at 6 rfl) (Nat.lt_of_le_of_lt (Nat.mod_le _ _) R0.out),natAt_of (MK.out.at 6 rfl) R1.out]
       exact Nat.mod_lt _ (Nat.pos_of_ne_zero R1N.out)
      have REST:=Hd rest
      clear rest
      go_upto_region 14 with (fail)
      have D79:=Hd (Nw78.out.drew)
      clear Nw78
      refine wp_region_any (by kernel_rfl) ?_
      refine wpAny_ready (rs:=[0,1]) (by kernel_rfl) (by simp) ?_
      refine AllReady.cons rfl ?_ ?_
      ·intro K hK
       refine step_load_blk rfl 27 (.tmp 12) rfl x12 rfl _ _ _ _ (D79.out.at 8 rfl) Tryz.underlying27 rfl (by rw [nS]; kernel_rfl) (hK _ _ ?_)
       clear hK
       try simp only [Act.put,s_,t_,u_,v_,x_,y_]
       refine wpAny_ready (rs:=[1,2]) (by kernel_rfl) (by simp) ?_
       refine AllReady.cons rfl ?_ ?_
       ·intro K hK
        refine step_load_blk rfl 27 (.tmp 18) rfl x18 rfl _ _ _ _ (D79.out.at 14 rfl) Tryz.underlying27 rfl (by rw [nS]; kernel_rfl) (hK _ _ ?_)
        clear hK
        try simp only [Act.put,s_,t_,u_,v_,x_,y_]
        refine wpAny_ready (rs:=[2]) (by kernel_rfl) (by simp) ?_
        refine AllReady.cons rfl ?_ AllReady.nil
        ·intro K hK
         refine sK rfl 27 (.tmp 11) (.tmp 63) rfl x11 rfl _ _ _ rfl (D79.out.at 7 rfl) (by rw [nS]; kernel_rfl) (by simp only [nS]) (nO _) (fun u81 hw hb hs=>hK _ _ ?_)
         have Nu81:=Hd (D79.out.store 7 rfl hb hs hw)
         clear hK hw hb hs
         try simp only [Act.put,s_,t_,u_,v_,x_,y_]
         refine wpAny_ready (rs:=[3]) (by kernel_rfl) (by simp) ?_
         refine AllReady.cons rfl ?_ AllReady.nil
         ·intro K hK
          refine sK rfl 27 (.tmp 12) (.tmp 64) rfl x12 rfl _ _ _ rfl (Nu81.out.at 8 rfl) (by rw [nS]; kernel_rfl) (by simp only [nS]) (nO _) (fun u82 hw hb hs=>hK _ _ ?_)
          have Nu82:=Hd (Nu81.out.store 8 rfl hb hs hw)
          clear hK hw hb hs
          try simp only [Act.put,s_,t_,u_,v_,x_,y_]
          refine wpAny_done (by kernel_rfl) ?_ _
          go_wp2_with (fail)
          go_roundw
          case rel=>exact ⟨r1,r0%r1,t1,nextT m t0 s,hstep,(REST.out _ Nu82.out).1⟩
          case measure=>exact (REST.out _ Nu82.out).2
       refine AllReady.cons rfl ?_ AllReady.nil
       ·intro K hK
        refine sK rfl 27 (.tmp 11) (.tmp 63) rfl x11 rfl _ _ _ rfl (D79.out.at 7 rfl) (by rw [nS]; kernel_rfl) (by simp only [nS]) (nO _) (fun u83 hw hb hs=>hK _ _ ?_)
        have Nu83:=Hd (D79.out.store 7 rfl hb hs hw)
        clear hK hw hb hs
        try simp only [Act.put,s_,t_,u_,v_,x_,y_]
        refine wpAny_ready (rs:=[1]) (by kernel_rfl) (by simp) ?_
        refine AllReady.cons rfl ?_ AllReady.nil
        ·intro K hK
         refine step_load_blk rfl 27 (.tmp 18) rfl x18 rfl _ _ _ _ (Nu83.out.at 14 rfl) Tryz.underlying27 rfl (by rw [nS]; kernel_rfl) (hK _ _ ?_)
         clear hK
         try simp only [Act.put,s_,t_,u_,v_,x_,y_]
         refine wpAny_ready (rs:=[3]) (by kernel_rfl) (by simp) ?_
         refine AllReady.cons rfl ?_ AllReady.nil
         ·intro K hK
          refine sK rfl 27 (.tmp 12) (.tmp 64) rfl x12 rfl _ _ _ rfl (Nu83.out.at 8 rfl) (by rw [nS]; kernel_rfl) (by simp only [nS]) (nO _) (fun u84 hw hb hs=>hK _ _ ?_)
          have Nu84:=Hd (Nu83.out.store 8 rfl hb hs hw)
          clear hK hw hb hs
          try simp only [Act.put,s_,t_,u_,v_,x_,y_]
          refine wpAny_done (by kernel_rfl) ?_ _
          go_wp2_with (fail)
          go_roundw
          case rel=>exact ⟨r1,r0%r1,t1,nextT m t0 s,hstep,(REST.out _ Nu84.out).1⟩
          case measure=>exact (REST.out _ Nu84.out).2
      refine AllReady.cons rfl ?_ AllReady.nil
      ·intro K hK
       refine step_load_blk rfl 27 (.tmp 18) rfl x18 rfl _ _ _ _ (D79.out.at 14 rfl) Tryz.underlying27 rfl (by rw [nS]; kernel_rfl) (hK _ _ ?_)
       clear hK
       try simp only [Act.put,s_,t_,u_,v_,x_,y_]
       refine wpAny_ready (rs:=[0]) (by kernel_rfl) (by simp) ?_
       refine AllReady.cons rfl ?_ AllReady.nil
       ·intro K hK
        refine step_load_blk rfl 27 (.tmp 12) rfl x12 rfl _ _ _ _ (D79.out.at 8 rfl) Tryz.underlying27 rfl (by rw [nS]; kernel_rfl) (hK _ _ ?_)
        clear hK
        try simp only [Act.put,s_,t_,u_,v_,x_,y_]
        refine wpAny_ready (rs:=[2]) (by kernel_rfl) (by simp) ?_
        refine AllReady.cons rfl ?_ AllReady.nil
        ·intro K hK
         refine sK rfl 27 (.tmp 11) (.tmp 63) rfl x11 rfl _ _ _ rfl (D79.out.at 7 rfl) (by rw [nS]; kernel_rfl) (by simp only [nS]) (nO _) (fun u85 hw hb hs=>hK _ _ ?_)
         have Nu85:=Hd (D79.out.store 7 rfl hb hs hw)
         clear hK hw hb hs
         try simp only [Act.put,s_,t_,u_,v_,x_,y_]
         refine wpAny_ready (rs:=[3]) (by kernel_rfl) (by simp) ?_
         refine AllReady.cons rfl ?_ AllReady.nil
         ·intro K hK
          refine sK rfl 27 (.tmp 12) (.tmp 64) rfl x12 rfl _ _ _ rfl (Nu85.out.at 8 rfl) (by rw [nS]; kernel_rfl) (by simp only [nS]) (nO _) (fun u86 hw hb hs=>hK _ _ ?_)
          have Nu86:=Hd (Nu85.out.store 8 rfl hb hs hw)
          clear hK hw hb hs
          try simp only [Act.put,s_,t_,u_,v_,x_,y_]
          refine wpAny_done (by kernel_rfl) ?_ _
          go_wp2_with (fail)
          go_roundw
          case rel=>exact ⟨r1,r0%r1,t1,nextT m t0 s,hstep,(REST.out _ Nu86.out).1⟩
          case measure=>exact (REST.out _ Nu86.out).2
     ·have HE:=Hd (next_hi HB0.out HM.out hlts)
      go_upto_region 11 with (fail)
      refine wp_region_lit ?_
      refine l0N rfl (.tmp 11) rfl x11 (by kernel_rfl) (Nw73.out.at 7 rfl) ?_
      refine l0N rfl (.tmp 17) rfl x17 (by kernel_rfl) (Nw73.out.at 13 rfl) ?_
      refine fL rfl 18 (.func 18) #[.tmp 51,.tmp 52] #[27,27] rfl #[] #[.agg (nc t0),.agg (nc s)] (by kernel_rfl) (by kernel_rfl) (fun u=>cE _ _ _ _ u Tryz.func18 (by kernel_rfl) (by kernel_rfl)) (.tuple #[.agg (nc (dif t0 s 9)),.bool false]) ((by have hcc:=nat_sub t0 s w73 T0.out HS9.out; rw [decide_eq_false hlts] at hcc; exact hcc)) (fun w74 hb=>?_)
      have Nw74:=Hd (Nw73.out.grow hb)
      clear hb Nw73
      refine pK (.tuple #[.agg (nc (dif t0 s 9)),.bool false]) ?_
      refine pK (.agg (nc (dif t0 s 9))) ?_
      refine pK (.bool false) ?_
      refine nL rfl 27 rfl (.agg (nc 0)) (by rw [nZ]; kernel_rfl) ?_
      intro x18 w75 hx hx2 hgv hh
      have Nw75:=Hd (show Mem w w75 [(g,nc a,27),(g+1,nc m,27),(g+1+1,nc 0,27),(x6,nc (a / m),27),(x7,nc (a%m),27),(x9,nc r1,27),(x10,nc (r0%r1),27),(x11,nc t0,27),(x12,nc t1,27),(d,dc (m*2 ^ ss) nn ss,189),(x13,#[.pointer (some ⟨d,0,none⟩)],92),(x14,nc (r0 / r1),27),(x15,nc (r0%r1),27),(x17,nc s,27),(x18,nc 0,27)] from Nw74.out.new hgv (Nat.le_of_eq hx) hh)
      clear hx hx2 hgv hh Nw74
      refine sB rfl 27 (.tmp 18) (.tmp 54) rfl x18 (by kernel_rfl) _ _ (nc (dif t0 s 9)) (by kernel_rfl) (Nw75.out.at 14 rfl) (by rw [nS]; kernel_rfl) (by simp only [nS]) (nO _) ?_
      intro w76 hw hb hs
      have Nw76:=Hd (Nw75.out.store 14 rfl hb hs hw)
      clear hw hb hs Nw75
      refine pK (.bool false) ?_
      refine wpList_nil ?_
      try simp only [Act.put,s_,t_,u_,v_,x_,y_]
      go_upto_region 12 with (fail)
      refine wp_region_lit ?_
      refine pK (.bool false) ?_
      refine wpList_nil ?_
      try simp only [Act.put,s_,t_,u_,v_,x_,y_]
      have rest:∀ u:World,Mem w u [(g,nc a,27),(g+1,nc m,27),(g+1+1,nc 0,27),(x6,nc (a / m),27),(x7,nc (a%m),27),(x9,nc r1,27),(x10,nc (r0%r1),27),(x11,nc t1,27),(x12,nc (dif t0 s 9),27),(d,dc (m*2 ^ ss) nn ss,189),(x13,#[.pointer (some ⟨d,0,none⟩)],92),(x14,nc (r0 / r1),27),(x15,nc (r0%r1),27),(x17,nc s,27),(x18,nc (dif t0 s 9),27)]→Mem w u [(g,nc a,27),(g+1,nc m,27),(g+1+1,nc 0,27),(x6,nc (a / m),27),(x7,nc (a%m),27),(x9,nc r1,27),(x10,nc (r0%r1),27),(x11,nc t1,27),(x12,nc (nextT m t0 s),27),(d,dc (m*2 ^ ss) nn ss,189),(x13,#[.pointer (some ⟨d,0,none⟩)],92)]∧natAt u x10<natAt wr x10:=by
       intro u mm
       have MF:Mem w u [(g,nc a,27),(g+1,nc m,27),(g+1+1,nc 0,27),(x6,nc (a / m),27),(x7,nc (a%m),27),(x9,nc r1,27),(x10,nc (r0%r1),27),(x11,nc t1,27),(x12,nc (nextT m t0 s),27),(d,dc (m*2 ^ ss) nn ss,189),(x13,#[.pointer (some ⟨d,0,none⟩)],92)]:=by
        have:=mm.take 11
        rw [← HE.out]
        exact this
       refine ⟨MF,?_⟩
       rw [natAt_of (MF.at 6 rfl) (Nat.lt_of_le_of_lt (Nat.mod_le _ _) R0.out),natAt_of (MK.out.at 6 rfl) R1.out]
       exact Nat.mod_lt _ (Nat.pos_of_ne_zero R1N.out)
      have REST:=Hd rest
      clear rest
      go_upto_region 14 with (fail)
      have D77:=Hd (Nw76.out.drew)
      clear Nw76
      refine wp_region_any (by kernel_rfl) ?_
      refine wpAny_ready (rs:=[0,1]) (by kernel_rfl) (by simp) ?_
      refine AllReady.cons rfl ?_ ?_
      ·intro K hK
       refine step_load_blk rfl 27 (.tmp 12) rfl x12 rfl _ _ _ _ (D77.out.at 8 rfl) Tryz.underlying27 rfl (by rw [nS]; kernel_rfl) (hK _ _ ?_)
       clear hK
       try simp only [Act.put,s_,t_,u_,v_,x_,y_]
       refine wpAny_ready (rs:=[1,2]) (by kernel_rfl) (by simp) ?_
       refine AllReady.cons rfl ?_ ?_
       ·intro K hK
        refine step_load_blk rfl 27 (.tmp 18) rfl x18 rfl _ _ _ _ (D77.out.at 14 rfl) Tryz.underlying27 rfl (by rw [nS]; kernel_rfl) (hK _ _ ?_)
        clear hK
        try simp only [Act.put,s_,t_,u_,v_,x_,y_]
        refine wpAny_ready (rs:=[2]) (by kernel_rfl) (by simp) ?_
        refine AllReady.cons rfl ?_ AllReady.nil
        ·intro K hK
         refine sK rfl 27 (.tmp 11) (.tmp 63) rfl x11 rfl _ _ _ rfl (D77.out.at 7 rfl) (by rw [nS]; kernel_rfl) (by simp only [nS]) (nO _) (fun u79 hw hb hs=>hK _ _ ?_)
         have Nu79:=Hd (D77.out.store 7 rfl hb hs hw)
         clear hK hw hb hs
         try simp only [Act.put,s_,t_,u_,v_,x_,y_]
         refine wpAny_ready (rs:=[3]) (by kernel_rfl) (by simp) ?_
         refine AllReady.cons rfl ?_ AllReady.nil
         ·intro K hK
          refine sK rfl 27 (.tmp 12) (.tmp 64) rfl x12 rfl _ _ _ rfl (Nu79.out.at 8 rfl) (by rw [nS]; kernel_rfl) (by simp only [nS]) (nO _) (fun u80 hw hb hs=>hK _ _ ?_)
          have Nu80:=Hd (Nu79.out.store 8 rfl hb hs hw)
          clear hK hw hb hs
          try simp only [Act.put,s_,t_,u_,v_,x_,y_]
          refine wpAny_done (by kernel_rfl) ?_ _
          go_wp2_with (fail)
          go_roundw
          case rel=>exact ⟨r1,r0%r1,t1,nextT m t0 s,hstep,(REST.out _ Nu80.out).1⟩
          case measure=>exact (REST.out _ Nu80.out).2
       refine AllReady.cons rfl ?_ AllReady.nil
       ·intro K hK
        refine sK rfl 27 (.tmp 11) (.tmp 63) rfl x11 rfl _ _ _ rfl (D77.out.at 7 rfl) (by rw [nS]; kernel_rfl) (by simp only [nS]) (nO _) (fun u81 hw hb hs=>hK _ _ ?_)
        have Nu81:=Hd (D77.out.store 7 rfl hb hs hw)
        clear hK hw hb hs
        try simp only [Act.put,s_,t_,u_,v_,x_,y_]
        refine wpAny_ready (rs:=[1]) (by kernel_rfl) (by simp) ?_
        refine AllReady.cons rfl ?_ AllReady.nil
        ·intro K hK
         refine step_load_blk rfl 27 (.tmp 18) rfl x18 rfl _ _ _ _ (Nu81.out.at 14 rfl) Tryz.underlying27 rfl (by rw [nS]; kernel_rfl) (hK _ _ ?_)
         clear hK
         try simp only [Act.put,s_,t_,u_,v_,x_,y_]
         refine wpAny_ready (rs:=[3]) (by kernel_rfl) (by simp) ?_
         refine AllReady.cons rfl ?_ AllReady.nil
         ·intro K hK
          refine sK rfl 27 (.tmp 12) (.tmp 64) rfl x12 rfl _ _ _ rfl (Nu81.out.at 8 rfl) (by rw [nS]; kernel_rfl) (by simp only [nS]) (nO _) (fun u82 hw hb hs=>hK _ _ ?_)
          have Nu82:=Hd (Nu81.out.store 8 rfl hb hs hw)
          clear hK hw hb hs
          try simp only [Act.put,s_,t_,u_,v_,x_,y_]
          refine wpAny_done (by kernel_rfl) ?_ _
          go_wp2_with (fail)
          go_roundw
          case rel=>exact ⟨r1,r0%r1,t1,nextT m t0 s,hstep,(REST.out _ Nu82.out).1⟩
          case measure=>exact (REST.out _ Nu82.out).2
      refine AllReady.cons rfl ?_ AllReady.nil
      ·intro K hK
       refine step_load_blk rfl 27 (.tmp 18) rfl x18 rfl _ _ _ _ (D77.out.at 14 rfl) Tryz.underlying27 rfl (by rw [nS]; kernel_rfl) (hK _ _ ?_)
       clear hK
       try simp only [Act.put,s_,t_,u_,v_,x_,y_]
       refine wpAny_ready (rs:=[0]) (by kernel_rfl) (by simp) ?_
       refine AllReady.cons rfl ?_ AllReady.nil
       ·intro K hK
        refine step_load_blk rfl 27 (.tmp 12) rfl x12 rfl _ _ _ _ (D77.out.at 8 rfl) Tryz.underlying27 rfl (by rw [nS]; kernel_rfl) (hK _ _ ?_)
        clear hK
        try simp only [Act.put,s_,t_,u_,v_,x_,y_]
        refine wpAny_ready (rs:=[2]) (by kernel_rfl) (by simp) ?_
        refine AllReady.cons rfl ?_ AllReady.nil
        ·intro K hK
         refine sK rfl 27 (.tmp 11) (.tmp 63) rfl x11 rfl _ _ _ rfl (D77.out.at 7 rfl) (by rw [nS]; kernel_rfl) (by simp only [nS]) (nO _) (fun u83 hw hb hs=>hK _ _ ?_)
         have Nu83:=Hd (D77.out.store 7 rfl hb hs hw)
         clear hK hw hb hs
         try simp only [Act.put,s_,t_,u_,v_,x_,y_]
         refine wpAny_ready (rs:=[3]) (by kernel_rfl) (by simp) ?_
         refine AllReady.cons rfl ?_ AllReady.nil
         ·intro K hK
          refine sK rfl 27 (.tmp 12) (.tmp 64) rfl x12 rfl _ _ _ rfl (Nu83.out.at 8 rfl) (by rw [nS]; kernel_rfl) (by simp only [nS]) (nO _) (fun u84 hw hb hs=>hK _ _ ?_)
          have Nu84:=Hd (Nu83.out.store 8 rfl hb hs hw)
          clear hK hw hb hs
          try simp only [Act.put,s_,t_,u_,v_,x_,y_]
          refine wpAny_done (by kernel_rfl) ?_ _
          go_wp2_with (fail)
          go_roundw
          case rel=>exact ⟨r1,r0%r1,t1,nextT m t0 s,hstep,(REST.out _ Nu84.out).1⟩
          case measure=>exact (REST.out _ Nu84.out).2
    refine wp_region_any (by kernel_rfl) ?_
    refine wpAny_ready (rs:=[0,1]) (by kernel_rfl) (by simp) ?_
    refine AllReady.cons rfl ?_ ?_
    ·intro K hK
     refine step_load_blk rfl 27 (.tmp 10) rfl x10 rfl _ _ _ _ (D62.out.at 6 rfl) Tryz.underlying27 rfl (by rw [nS]; kernel_rfl) (hK _ _ ?_)
     clear hK
     try simp only [Act.put,s_,t_,u_,v_,x_,y_]
     refine wpAny_ready (rs:=[1,2]) (by kernel_rfl) (by simp) ?_
     refine AllReady.cons rfl ?_ ?_
     ·intro K hK
      refine step_load_blk rfl 27 (.tmp 15) rfl x15 rfl _ _ _ _ (D62.out.at 12 rfl) Tryz.underlying27 rfl (by rw [nS]; kernel_rfl) (hK _ _ ?_)
      clear hK
      try simp only [Act.put,s_,t_,u_,v_,x_,y_]
      refine wpAny_ready (rs:=[2]) (by kernel_rfl) (by simp) ?_
      refine AllReady.cons rfl ?_ AllReady.nil
      ·intro K hK
       refine sK rfl 27 (.tmp 9) (.tmp 44) rfl x9 rfl _ _ _ rfl (D62.out.at 5 rfl) (by rw [nS]; kernel_rfl) (by simp only [nS]) (nO _) (fun u64 hw hb hs=>hK _ _ ?_)
       have Nu64:=Hd (D62.out.store 5 rfl hb hs hw)
       clear hK hw hb hs
       try simp only [Act.put,s_,t_,u_,v_,x_,y_]
       refine wpAny_ready (rs:=[3]) (by kernel_rfl) (by simp) ?_
       refine AllReady.cons rfl ?_ AllReady.nil
       ·intro K hK
        refine sK rfl 27 (.tmp 10) (.tmp 45) rfl x10 rfl _ _ _ rfl (Nu64.out.at 6 rfl) (by rw [nS]; kernel_rfl) (by simp only [nS]) (nO _) (fun u65 hw hb hs=>hK _ _ ?_)
        have Nu65:=Hd (Nu64.out.store 6 rfl hb hs hw)
        clear hK hw hb hs
        try simp only [Act.put,s_,t_,u_,v_,x_,y_]
        refine wpAny_done (by kernel_rfl) ?_ _
        exact r63 _ Nu65.out
     refine AllReady.cons rfl ?_ AllReady.nil
     ·intro K hK
      refine sK rfl 27 (.tmp 9) (.tmp 44) rfl x9 rfl _ _ _ rfl (D62.out.at 5 rfl) (by rw [nS]; kernel_rfl) (by simp only [nS]) (nO _) (fun u66 hw hb hs=>hK _ _ ?_)
      have Nu66:=Hd (D62.out.store 5 rfl hb hs hw)
      clear hK hw hb hs
      try simp only [Act.put,s_,t_,u_,v_,x_,y_]
      refine wpAny_ready (rs:=[1]) (by kernel_rfl) (by simp) ?_
      refine AllReady.cons rfl ?_ AllReady.nil
      ·intro K hK
       refine step_load_blk rfl 27 (.tmp 15) rfl x15 rfl _ _ _ _ (Nu66.out.at 12 rfl) Tryz.underlying27 rfl (by rw [nS]; kernel_rfl) (hK _ _ ?_)
       clear hK
       try simp only [Act.put,s_,t_,u_,v_,x_,y_]
       refine wpAny_ready (rs:=[3]) (by kernel_rfl) (by simp) ?_
       refine AllReady.cons rfl ?_ AllReady.nil
       ·intro K hK
        refine sK rfl 27 (.tmp 10) (.tmp 45) rfl x10 rfl _ _ _ rfl (Nu66.out.at 6 rfl) (by rw [nS]; kernel_rfl) (by simp only [nS]) (nO _) (fun u67 hw hb hs=>hK _ _ ?_)
        have Nu67:=Hd (Nu66.out.store 6 rfl hb hs hw)
        clear hK hw hb hs
        try simp only [Act.put,s_,t_,u_,v_,x_,y_]
        refine wpAny_done (by kernel_rfl) ?_ _
        exact r63 _ Nu67.out
    refine AllReady.cons rfl ?_ AllReady.nil
    ·intro K hK
     refine step_load_blk rfl 27 (.tmp 15) rfl x15 rfl _ _ _ _ (D62.out.at 12 rfl) Tryz.underlying27 rfl (by rw [nS]; kernel_rfl) (hK _ _ ?_)
     clear hK
     try simp only [Act.put,s_,t_,u_,v_,x_,y_]
     refine wpAny_ready (rs:=[0]) (by kernel_rfl) (by simp) ?_
     refine AllReady.cons rfl ?_ AllReady.nil
     ·intro K hK
      refine step_load_blk rfl 27 (.tmp 10) rfl x10 rfl _ _ _ _ (D62.out.at 6 rfl) Tryz.underlying27 rfl (by rw [nS]; kernel_rfl) (hK _ _ ?_)
      clear hK
      try simp only [Act.put,s_,t_,u_,v_,x_,y_]
      refine wpAny_ready (rs:=[2]) (by kernel_rfl) (by simp) ?_
      refine AllReady.cons rfl ?_ AllReady.nil
      ·intro K hK
       refine sK rfl 27 (.tmp 9) (.tmp 44) rfl x9 rfl _ _ _ rfl (D62.out.at 5 rfl) (by rw [nS]; kernel_rfl) (by simp only [nS]) (nO _) (fun u68 hw hb hs=>hK _ _ ?_)
       have Nu68:=Hd (D62.out.store 5 rfl hb hs hw)
       clear hK hw hb hs
       try simp only [Act.put,s_,t_,u_,v_,x_,y_]
       refine wpAny_ready (rs:=[3]) (by kernel_rfl) (by simp) ?_
       refine AllReady.cons rfl ?_ AllReady.nil
       ·intro K hK
        refine sK rfl 27 (.tmp 10) (.tmp 45) rfl x10 rfl _ _ _ rfl (Nu68.out.at 6 rfl) (by rw [nS]; kernel_rfl) (by simp only [nS]) (nO _) (fun u69 hw hb hs=>hK _ _ ?_)
        have Nu69:=Hd (Nu68.out.store 6 rfl hb hs hw)
        clear hK hw hb hs
        try simp only [Act.put,s_,t_,u_,v_,x_,y_]
        refine wpAny_done (by kernel_rfl) ?_ _
        exact r63 _ Nu69.out
 refine wp_region_growB 2 (by kernel_rfl) (by kernel_rfl) (fun d v c a w h=>by cases d <;> exact h) ?_
 simp only [List.take_succ_cons,List.take_zero]
 refine lG rfl (.tmp 3) rfl (g+1) (by kernel_rfl) (fun u hu=>D8.out.up 1 rfl hu) ?_
 refine lG rfl (.tmp 7) rfl x7 (by kernel_rfl) (fun u hu=>D8.out.up 4 rfl hu) ?_
 refine gN ?_
 try simp only [Act.put,s_,t_,u_,v_,x_,y_]
 have B10:=Hd (Mem.nil (w7.drew))
 refine grow_readyB (rs:=[2,3]) (by kernel_rfl) (by simp) (fun u11 hgB=>?_)
 have B12:=Hd (B10.out.grow hgB)
 clear hgB B10
 refine BAll.alloc rfl rfl 27 rfl (.agg (nc 0)) (by rw [nZ]; kernel_rfl) B12.out ?_ ?_
 ·intro y13 u14 mm
  have B15:=Hd (show Mem (w7.drew) u14 [(y13,nc 0,27)] from mm)
  clear mm B12
  try simp only [Act.put,s_,t_,u_,v_,x_,y_]
  refine grow_readyB (rs:=[3]) (by kernel_rfl) (by simp) (fun u16 hgB=>?_)
  have B17:=Hd (B15.out.grow hgB)
  clear hgB B15
  refine BAll.alloc rfl rfl 27 rfl (.agg (nc 0)) (by rw [nZ]; kernel_rfl) B17.out ?_ BAll.nil
  ·intro y18 u19 mm
   have B20:=Hd (show Mem (w7.drew) u19 [(y13,nc 0,27),(y18,nc 0,27)] from mm)
   clear mm B17
   try simp only [Act.put,s_,t_,u_,v_,x_,y_]
   refine grow_readyB (rs:=[4]) (by kernel_rfl) (by simp) (fun u21 hgB=>?_)
   have B22:=Hd (B20.out.grow hgB)
   clear hgB B20
   refine BAll.store rfl rfl 27 (.tmp 9) (.tmp 29) rfl B22.out 0 y13 rfl _ _ _ rfl rfl (by rw [nS]; kernel_rfl) (by simp only [nS]) (nO _) ?_ BAll.nil
   ·intro u24 mm
    have B25:=Hd (show Mem (w7.drew) u24 [(y13,nc m,27),(y18,nc 0,27)] from mm)
    clear mm B22
    try simp only [Act.put,s_,t_,u_,v_,x_,y_]
    refine grow_readyB (rs:=[5]) (by kernel_rfl) (by simp) (fun u26 hgB=>?_)
    have B27:=Hd (B25.out.grow hgB)
    clear hgB B25
    refine BAll.store rfl rfl 27 (.tmp 10) (.tmp 30) rfl B27.out 1 y18 rfl _ _ _ rfl rfl (by rw [nS]; kernel_rfl) (by simp only [nS]) (nO _) ?_ BAll.nil
    ·intro u29 mm
     have B30:=Hd (show Mem (w7.drew) u29 [(y13,nc m,27),(y18,nc (a%m),27)] from mm)
     clear mm B27
     try simp only [Act.put,s_,t_,u_,v_,x_,y_]
     refine grow_doneB (by kernel_rfl) (fun u1 hgB=>?_)
     exact r9 y13 y18 _ ((B30.out.grow hgB).perm (List.Perm.refl _))
 refine BAll.alloc rfl rfl 27 rfl (.agg (nc 0)) (by rw [nZ]; kernel_rfl) B12.out ?_ BAll.nil
 ·intro y31 u32 mm
  have B33:=Hd (show Mem (w7.drew) u32 [(y31,nc 0,27)] from mm)
  clear mm B12
  try simp only [Act.put,s_,t_,u_,v_,x_,y_]
  refine grow_readyB (rs:=[2]) (by kernel_rfl) (by simp) (fun u34 hgB=>?_)
  have B35:=Hd (B33.out.grow hgB)
  clear hgB B33
  refine BAll.alloc rfl rfl 27 rfl (.agg (nc 0)) (by rw [nZ]; kernel_rfl) B35.out ?_ BAll.nil
  ·intro y36 u37 mm
   have B38:=Hd (show Mem (w7.drew) u37 [(y31,nc 0,27),(y36,nc 0,27)] from mm)
   clear mm B35
   try simp only [Act.put,s_,t_,u_,v_,x_,y_]
   refine grow_readyB (rs:=[4]) (by kernel_rfl) (by simp) (fun u39 hgB=>?_)
   have B40:=Hd (B38.out.grow hgB)
   clear hgB B38
   refine BAll.store rfl rfl 27 (.tmp 9) (.tmp 29) rfl B40.out 1 y36 rfl _ _ _ rfl rfl (by rw [nS]; kernel_rfl) (by simp only [nS]) (nO _) ?_ BAll.nil
   ·intro u42 mm
    have B43:=Hd (show Mem (w7.drew) u42 [(y31,nc 0,27),(y36,nc m,27)] from mm)
    clear mm B40
    try simp only [Act.put,s_,t_,u_,v_,x_,y_]
    refine grow_readyB (rs:=[5]) (by kernel_rfl) (by simp) (fun u44 hgB=>?_)
    have B45:=Hd (B43.out.grow hgB)
    clear hgB B43
    refine BAll.store rfl rfl 27 (.tmp 10) (.tmp 30) rfl B45.out 0 y31 rfl _ _ _ rfl rfl (by rw [nS]; kernel_rfl) (by simp only [nS]) (nO _) ?_ BAll.nil
    ·intro u47 mm
     have B48:=Hd (show Mem (w7.drew) u47 [(y31,nc (a%m),27),(y36,nc m,27)] from mm)
     clear mm B45
     try simp only [Act.put,s_,t_,u_,v_,x_,y_]
     refine grow_doneB (by kernel_rfl) (fun u1 hgB=>?_)
     exact r9 y36 y31 _ ((B48.out.grow hgB).perm (List.Perm.swap _ _ _))
end Go.Proofs.YtkoonhiplicbkaaGreat.Cw
