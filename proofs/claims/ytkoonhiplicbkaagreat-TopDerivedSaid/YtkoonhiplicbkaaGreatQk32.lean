/-
  Blocks known whole beside a curve that this call has opened. No condition but what each says.
  (packages base, mult) Times, Mul: a number below N times G, or times a multiple of G. Condition: a curve's number from 1 to 15, no recorder.
  (package affine) slope: the third point of a line. Condition: numbers below P.
  (package affine) add: two points by chord and tangent. Condition: points of the curve.
  (package affine) add at multiples of G. Condition: one of the 15 curves.
  (package affine) do, Add, Mul at multiples of G. Condition: one of the 15 curves.
-/
import Derived.Test.YtkoonhiplicbkaaGreatQk31
set_option linter.unusedSimpArgs false
set_option linter.unusedVariables false
set_option maxHeartbeats 4000000
set_option maxRecDepth 100000
namespace Go.Proofs.YtkoonhiplicbkaaGreat.Cw
open Go Go.RowKit
def MC (w0 w:World) (L:List Blk) (c f d:Nat) (cu:Cv):Prop:=Grows w0 w∧Mem w0 w L∧CurveAt w c f d cu
theorem CurveAt.but {w w':World} {c f d g:Nat} {cu:Cv} (h:CurveAt w c f d cu) (hb:But g w w') (h1:c≠g) (h2:f≠g) (h3:d≠g):CurveAt w' c f d cu:=by
 obtain ⟨hk,⟨f1,f2,f3,⟨n,s,e1,e2,e3,e4,e5,e6⟩,f5⟩,hc⟩:=h
 exact ⟨hk,⟨f1,f2,f3,⟨n,s,e1,e2,e3,e4,e5,hb.heap h3 e6⟩,hb.heap h2 f5⟩,hb.heap h1 hc⟩
theorem type_ne {w:World} {g x:Nat} {C D:Array Value} {t u:TypeId} {fr fs:Nat × Nat} (h1:w.heap[g]?=some (.cells C t fr)) (h2:w.heap[x]?=some (.cells D u fs)) (h:t≠u):x≠g:=fun e=>by
 subst e
 rw [h1] at h2
 injection h2 with h2
 injection h2 with _ h2 _
 exact h h2
section
variable {w0 w w':World} {L:List Blk} {c f d:Nat} {cu:Cv}
theorem MC.crv (M:MC w0 w L c f d cu):CurveAt w c f d cu:=M.2.2
theorem MC.m (M:MC w0 w L c f d cu):Mem w0 w L:=M.2.1
theorem MC.of (M:Mem w0 w L) (h:CurveAt w c f d cu):MC w0 w L c f d cu:=⟨M.1,M,h⟩
theorem MC.at (M:MC w0 w L c f d cu) (i:Nat) {g:Nat} {C:Array Value} {t:TypeId} (h:L[i]?=some (g,C,t)):w.heap[g]?=some (.cells C t (0,0)):=M.2.1.at i h
theorem MC.up (M:MC w0 w L c f d cu) (i:Nat) {g:Nat} {C:Array Value} {t:TypeId} (h:L[i]?=some (g,C,t)) (hg:Grows w w'):w'.heap[g]?=some (.cells C t (0,0)):=M.2.1.up i h hg
theorem MC.ge (M:MC w0 w L c f d cu) (i:Nat) {g:Nat} {C:Array Value} {t:TypeId} (h:L[i]?=some (g,C,t)):w0.heap.size≤g:=M.2.1.ge i h
theorem MC.below (M:MC w0 w L c f d cu):Below w0.heap.size w0 w:=M.1
theorem MC.grow (M:MC w0 w L c f d cu) (h:Grows w w'):MC w0 w' L c f d cu:=.of (M.2.1.grow h) (M.2.2.up h)
theorem MC.drew (M:MC w0 w L c f d cu):MC w0 w.drew L c f d cu:=M.grow ((Below.refl _ _).drew)
theorem MC.drewN (M:MC w0 w L c f d cu) (k:Nat):MC w0 (w.drewN k) L c f d cu:=M.grow (Below.drewN (Below.refl _ _) k)
theorem MC.new (M:MC w0 w L c f d cu) {x:Nat} {C:Array Value} {t:TypeId} (h:Grows w w') (hx:w.heap.size≤x) (hh:w'.heap[x]?=some (.cells C t (0,0))):MC w0 w' (L++[(x,C,t)]) c f d cu:=.of (M.2.1.new h hx hh) (M.2.2.up h)
theorem MC.new2 (M:MC w0 w L c f d cu) {x y:Nat} {C D:Array Value} {t u:TypeId} (h:Grows w w') (hx:w.heap.size≤x) (hy:w.heap.size≤y) (hxy:x≠y) (hh:w'.heap[x]?=some (.cells C t (0,0))) (hh2:w'.heap[y]?=some (.cells D u (0,0))):MC w0 w' (L++[(x,C,t),(y,D,u)]) c f d cu:=.of (M.2.1.new2 h hx hy hxy hh hh2) (M.2.2.up h)
theorem MC.store (M:MC w0 w L c f d cu) (i:Nat) {g:Nat} {C:Array Value} {t:TypeId} (h:L[i]?=some (g,C,t)) (hb:But g w w') (hs:w'.heap.size=w.heap.size) {C':Array Value} {t':TypeId} (hh:w'.heap[g]?=some (.cells C' t' (0,0)))
  (ht:(t≠87∧t≠140)∧t≠189:=by decide):MC w0 w' (L.set i (g,C',t')) c f d cu:=by
 refine .of (M.2.1.store i h hb hs hh) (M.2.2.but hb (type_ne (M.at i h) M.2.2.2.2 ht.1.1) (type_ne (M.at i h) M.2.2.2.1.2.2.2.2 ht.1.2) ?_)
 obtain ⟨n,s,_,_,_,_,_,e6⟩:=M.2.2.2.1.2.2.2.1
 exact type_ne (M.at i h) e6 ht.2
theorem MC.take (M:MC w0 w L c f d cu) (k:Nat):MC w0 w (L.take k) c f d cu:=.of (M.2.1.take k) M.2.2
theorem MC.sub {L':List Blk} (M:MC w0 w L c f d cu) (h:L'.Sublist L):MC w0 w L' c f d cu:=.of (M.2.1.sub h) M.2.2
end
theorem gpt_g (k:CK):gpt k 1=ptc k.c.gx k.c.gy false:=by
 obtain ⟨h1,h2,h3,h4,h5,h6,h7⟩:=k.num
 unfold gpt
 rw [gm_one]
 show ptc (cf k k.c.gx).val (cf k k.c.gy).val false=_
 rw [val_cf k h5,val_cf k h6]
theorem CK.n9 (k:CK):k.c.n<pw 9:=k.ok.2.2.2.2.2
def nB (k:Nat):Bool:=decide (1<(cv k).n)
theorem n_all:(List.range 15).all (fun i=>nB (i+1))=true:=by decide +kernel
theorem CK.n1 (k:CK):1<k.c.n:=by
 have h:=List.all_eq_true.1 n_all (k.1 - 1) (List.mem_range.2 (by have:=k.2.2; omega))
 have e:k.1 - 1+1=k.1:=by have:=k.2.1; omega
 rw [e] at h
 exact of_decide_eq_true h
theorem CK.blN (k:CK):1≤bl k.c.n∧bl k.c.n≤576:=⟨by have:=k.n1; unfold bl; rw [if_neg (by omega)]; omega,bl_le576 _ k.n9⟩
theorem CK.open_ (k:CK) (w:World):Calls Tryz.prog 30 #[.int .i64 k.1] w fun e w'=>∃ c f d,e=.returned (.pointer (some ⟨c,0,none⟩))∧CurveAt w' c f d k.c∧w.heap.size≤c∧Below w.heap.size w w':=curve_open k.1 w k.2.1 k.2.2
end Go.Proofs.YtkoonhiplicbkaaGreat.Cw
namespace Go.Proofs.YtkoonhiplicbkaaGreat.Cw
open Go Go.RowKit
attribute [local irreducible] pc ptc nc ac cuc fc gpt
attribute [local go_sem ↓ high] wn_eql wn_neq wn_lss wn_gtr wn_leq wn_geq wn_cells wRS wn_guard lit0 lit1
attribute [local go_sem high] wn_match wRS wn_eql wn_neq wn_lss wn_gtr wn_leq wn_geq
theorem base_times (k:CK) (c f d n:Nat) (w:World) (hn:n<k.c.n) (H:CurveAt w c f d k.c):Calls Tryz.prog 37 #[.pointer none,.pointer (some ⟨c,0,none⟩),.agg (nc n)] w fun e w'=>e=.returned (.agg (gpt k n))∧Below w.heap.size w w':=by
 have HC:=Hd H
 have HNB:=Hd (show n<2 ^ bl k.c.n from Nat.lt_trans hn (bl_lt _))
 clear H hn
 go_enter Tryz.func37,Tryz.ntmps37
 go_upto_region 1 with fail
 rw [← ptc_zero]
 have m0:=Mem.start2 w (nc n) (ptc 0 0 false) 27 41
 obtain ⟨w1,hw1⟩:∃ w1:World,w1=((w.alloc (.cells (nc n) 27)).alloc (.cells (ptc 0 0 false) 41)):=⟨_,rfl⟩
 rw [← hw1] at m0 ⊢
 clear hw1
 obtain ⟨g,hg⟩:∃ g,g=w.heap.size:=⟨_,rfl⟩
 rw [← hg] at m0 ⊢
 have HG:=Hd hg
 have M:=Hd m0
 clear hg m0
 go_upto_region 1 with (fail)
 have D:=Hd (M.out.drew)
 clear M
 refine wp_region_cls (C:=(fun u=>Mem w u [(g,nc n,27)])) (fun u u2 hu hg=>Mem.grow hu hg) [0,1,2,3,4,5,6,7,8] (D.out.sub (by simp)) (by kernel_rfl) (by kernel_rfl) (fun d v c a w h=>by cases d <;> exact h) ?_
 simp only [pickOps,List.filterMap_cons,List.filterMap_nil,List.getElem?_cons_succ,List.getElem?_cons_zero]
 refine eK (.pointer none) ?_
 refine eK (.pointer (some ⟨c,0,none⟩)) ?_
 refine wpE_loadN rfl (.tmp 5) rfl g 0 (by kernel_rfl) n (fun u hu=>⟨_,_,_,Mem.at hu 0 rfl,fun j hj=>by rw [Nat.zero_add]; exact nc_get _ j hj⟩) ?_
 refine eK (.pointer (some ⟨c,0,none⟩)) ?_
 refine eK (.pointer (some ⟨c,0,none⟩)) ?_
 refine eK (.pointer (some ⟨c,0,none⟩)) ?_
 refine eK (.pointer (some ⟨c,0,none⟩)) ?_
 refine eK (.pointer (some ⟨c,37,none⟩)) ?_
 refine wpE_load_seg rfl 41 (.tmp 14) rfl c 37 19 (by kernel_rfl) (gpt k 1) _ Tryz.underlying41 rfl (by kernel_rfl) (gpt_size _ _) (fun u hu=>⟨_,_,_,grows_at HC.out.2.2 hu.1,fun j hj=>by rw [gpt_g]; exact cuc_g _ _ j hj⟩) ?_
 refine wpE_nil ?_
 try simp only [Act.put,s_,t_,u_,v_,x_,y_]
 refine ready_E (rs:=[9]) (by kernel_rfl) (by simp) (fun u hgB=>?_)
 have N1:=Hd (D.out.grow hgB)
 clear hgB D
 refine EAll.cons rfl (fun K hK=>step_fnE rfl 79 (.func 79) #[.tmp 10,.tmp 15,.const (.int .i64 16)] #[70,41,3] rfl #[] #[.pointer (some ⟨c,0,none⟩),.agg (gpt k 1),.int .i64 16] (by kernel_rfl) (by kernel_rfl) (fun u=>cE _ _ _ _ u Tryz.func79 (by kernel_rfl) (by kernel_rfl)) (fun t:Nat=>.pointer (some ⟨t,0,none⟩)) (fun t w'=>TabAt k w' t 1 16∧Below u.heap.size u w') ((table_of k 1 16 c f d (by decide) (by decide) u (HC.out.up N1.out.1)).mono fun e w' ⟨t,h1,h2,_,h3⟩=>⟨t,h1,h2,h3⟩) (fun t u2 hR=>hK _ _ ((N1.out.grow hR.2).sub (by simp)) ?_)) EAll.nil
 have N2:=Hd (N1.out.grow hR.2)
 have HT:=Hd hR.1
 clear hR N1
 try simp only [Act.put,s_,t_,u_,v_,x_,y_]
 refine ready_E (rs:=[10]) (by kernel_rfl) (by simp) (fun u3 hgB=>?_)
 have N3:=Hd (N2.out.grow hgB)
 have HT3:=Hd (HT.out.up hgB)
 clear hgB N2 HT
 refine EAll.cons rfl (fun K hK=>step_fnE rfl 78 (.func 78) #[.tmp 7,.tmp 8,.tmp 9,.tmp 16] #[69,70,27,148] rfl #[] #[.pointer none,.pointer (some ⟨c,0,none⟩),.agg (nc n),.pointer (some ⟨t,0,none⟩)] (by kernel_rfl) (by kernel_rfl) (fun u=>cE _ _ _ _ u Tryz.func78 (by kernel_rfl) (by kernel_rfl)) (fun _:Unit=>.agg (gpt k (n*1))) (fun _ w'=>Below u3.heap.size u3 w') ((mult_times k c f d t n 1 u3 HNB.out k.blN.1 k.blN.2 (HC.out.up N3.out.1) HT3.out).mono fun e w' ⟨h1,h2⟩=>⟨(),h1,h2⟩) (fun _ u4 hR=>hK _ _ ((N3.out.grow hR).sub (by simp)) ?_)) EAll.nil
 have N4:=Hd (N3.out.grow hR)
 clear hR N3
 try simp only [Act.put,s_,t_,u_,v_,x_,y_]
 refine ready_E (rs:=[11]) (by kernel_rfl) (by simp) (fun u5 hgB=>?_)
 have N5:=Hd (N4.out.grow hgB)
 clear hgB N4
 refine EAll.cons rfl (fun K hK=>sK rfl 41 (.tmp 6) (.tmp 17) rfl (g+1) rfl _ _ (gpt k (n*1)) rfl (N5.out.at 1 rfl) (by rw [gpt_size]; kernel_rfl) (by simp only [gpt_size,pS]) (gpt_one _ _) (fun u6 hw hb hs=>hK _ _ ((N5.out.store 1 rfl hb hs hw).sub (by simp)) ?_)) EAll.nil
 have N6:=Hd (N5.out.store 1 rfl hb hs hw)
 clear hw hb hs N5
 try simp only [Act.put,s_,t_,u_,v_,x_,y_]
 refine done_E (by kernel_rfl) (fun u7 hgB=>?_)
 have N7:=Hd (N6.out.grow hgB)
 clear hgB N6
 try simp only [Act.put,s_,t_,u_,v_,x_,y_]
 go_wp2_with (fail)
 exact bodyPost_ret (results_blk rfl _ _ (g+1) _ _ _ _ rfl (N7.out.at 1 rfl) Tryz.underlying41 rfl (by rw [gpt_size]; kernel_rfl)) rfl ⟨by rw [Nat.mul_one],N7.out.below⟩
theorem cmp_geq {t:TypeId} {a b:Nat} (h:a<b):binOp .geq t (.int .i64 (cmpN a b)) (.int .i64 0)=pure (.bool false):=by
 rw [bi_geq]
 have h1:=cmp_lss a b
 rw [decide_eq_true h] at h1
 have h2:=of_decide_eq_true h1
 rw [decide_eq_false (by omega)]
theorem base_mul (k:CK) (n:Nat) (w:World) (hn:n<k.c.n):Calls Tryz.prog 25 #[.pointer none,.int .i64 k.1,.agg (nc n)] w fun e w'=>e=.returned (.tuple #[.agg (gpt k n),.int .i64 0])∧Below w.heap.size w w':=by
 have HLT:=Hd hn
 have n9:=Hd (show n<pw 9 from Nat.lt_trans hn k.n9)
 have N9:=Hd k.n9
 clear hn
 go_enter Tryz.func25,Tryz.ntmps25
 go_upto_region 1 with fail
 rw [← ptc_zero]
 have m0:=Mem.start2 w (nc n) (ptc 0 0 false) 27 41
 obtain ⟨w1,hw1⟩:∃ w1:World,w1=((w.alloc (.cells (nc n) 27)).alloc (.cells (ptc 0 0 false) 41)):=⟨_,rfl⟩
 rw [← hw1] at m0 ⊢
 clear hw1
 obtain ⟨g,hg⟩:∃ g,g=w.heap.size:=⟨_,rfl⟩
 rw [← hg] at m0 ⊢
 have HG:=Hd hg
 have M:=Hd m0
 clear hg m0
 go_upto_region 1 with (fail)
 refine wp_region_lit ?_
 refine pK (.int .i64 (k.1:Int)) ?_
 refine wpList_fnE rfl _ _ _ _ rfl #[] #[.int .i64 (k.1:Int)] (by kernel_rfl) (by kernel_rfl) (fun u=>cE _ _ _ _ u Tryz.func30 (by kernel_rfl) (by kernel_rfl)) (T:=Nat) (fun c=>.pointer (some ⟨c,0,none⟩)) (fun c w'=>∃ f d,CurveAt w' c f d k.c∧Below w1.heap.size w1 w') ((k.open_ w1).mono fun e w' ⟨c,f,d,he,hr,_,hb⟩=>⟨c,he,f,d,hr,hb⟩) ?_
 rintro c w2 ⟨f,d,hc,hb⟩
 have M2:=Hd (MC.of (M.out.grow hb) hc)
 clear hc hb M
 refine pK (.pointer (some ⟨c,0,none⟩)) ?_
 refine wpList_nil ?_
 try simp only [Act.put,s_,t_,u_,v_,x_,y_]
 go_upto_region 2 with (fail)
 refine wp_region_lit ?_
 refine pK (.pointer (some ⟨c,0,none⟩)) ?_
 refine pK (.bool false) ?_
 refine pK (.bool false) ?_
 refine wpList_nil ?_
 try simp only [Act.put,s_,t_,u_,v_,x_,y_]
 go_upto_region 4 with (fail)
 have D2:=Hd (M2.out.drew)
 clear M2
 refine rGw 9 9 (by kernel_rfl) (by kernel_rfl) (fun d v c a w h=>by cases d <;> exact h) ?_
 simp only [List.take_succ_cons,List.take_zero]
 refine lG rfl (.tmp 5) rfl g (by kernel_rfl) (fun u hu=>D2.out.up 0 rfl hu) ?_
 refine gK (.pointer (some ⟨c,0,none⟩)) ?_
 refine gK (.pointer (some ⟨c,0,none⟩)) ?_
 refine gK (.pointer (some ⟨c,0,none⟩)) ?_
 refine gK (.pointer (some ⟨c,28,none⟩)) ?_
 refine lN rfl (.tmp 20) rfl c 28 (by kernel_rfl) k.c.n (fun u hu=>grows_at D2.out.crv.2.2 hu) (cuc_n _ _) ?_
 refine fG rfl 60 (.func 60) #[.tmp 16,.tmp 21] #[27,27] rfl #[] #[.agg (nc n),.agg (nc k.c.n)] (by kernel_rfl) (by kernel_rfl) (fun u=>cE _ _ _ _ u Tryz.func60 (by kernel_rfl) (by kernel_rfl)) (.int .i64 (cmpN n k.c.n)) (fun u hu=>by exact nat_cmp n k.c.n u n9.out N9.out) ?_
 refine pG rfl (.bool false) (fun u=>by exact run_bini _ _ _ _ _ rfl (cmpN n k.c.n) 0 (by kernel_rfl) (by kernel_rfl) (cmp_geq HLT.out) u) ?_
 refine gK (.bool false) ?_
 refine gN ?_
 try simp only [Act.put,s_,t_,u_,v_,x_,y_]
 intro w3 hg6
 refine ⟨by kernel_rfl,?_⟩
 have Nw3:=Hd (D2.out.grow hg6)
 clear hg6 D2
 try simp only [Act.put,s_,t_,u_,v_,x_,y_]
 go_upto_region 6 with (fail)
 refine wp_region_lit ?_
 refine pK (.pointer none) ?_
 refine pK (.pointer (some ⟨c,0,none⟩)) ?_
 refine l0N rfl (.tmp 5) rfl g (by kernel_rfl) (Nw3.out.at 0 rfl) ?_
 refine fL rfl 37 (.func 37) #[.tmp 25,.tmp 26,.tmp 27] #[69,70,27] rfl #[] #[.pointer none,.pointer (some ⟨c,0,none⟩),.agg (nc n)] (by kernel_rfl) (by kernel_rfl) (fun u=>cE _ _ _ _ u Tryz.func37 (by kernel_rfl) (by kernel_rfl)) (.agg (gpt k n)) (base_times k c f d n w3 HLT.out Nw3.out.crv) (fun w4 hb=>?_)
 have Nw4:=Hd (Nw3.out.grow hb)
 clear hb Nw3
 refine sB rfl 41 (.tmp 6) (.tmp 28) rfl (g+1) (by kernel_rfl) _ _ (gpt k n) (by kernel_rfl) (Nw4.out.at 1 rfl) (by rw [gpt_size]; kernel_rfl) (by simp only [gpt_size,pS]) (gpt_one _ _) ?_
 intro w5 hw hb hs
 have Nw5:=Hd (Nw4.out.store 1 rfl hb hs hw)
 clear hw hb hs Nw4
 refine pK (.int .i64 0) ?_
 refine wpList_nil ?_
 try simp only [Act.put,s_,t_,u_,v_,x_,y_]
 go_wp2_with (fail)
 exact bodyPost_ret (results_O2 rfl _ _ (g+1) _ _ _ _ (gpt_size _ _) rfl rfl (Nw5.out.at 1 rfl)) rfl ⟨rfl,Nw5.out.below⟩
theorem mult_mul (k:CK) (n m:Nat) (w:World) (hn:n<k.c.n):Calls Tryz.prog 53 #[.pointer none,.int .i64 k.1,.agg (nc n),.agg (gpt k m)] w fun e w'=>e=.returned (.tuple #[.agg (gpt k (n*m)),.int .i64 0])∧Below w.heap.size w w':=by
 have HLT:=Hd hn
 have HNB:=Hd (show n<2 ^ bl k.c.n from Nat.lt_trans hn (bl_lt _))
 have n9:=Hd (show n<pw 9 from Nat.lt_trans hn k.n9)
 have N9:=Hd k.n9
 clear hn
 go_enter Tryz.func53,Tryz.ntmps53
 go_upto_region 1 with fail
 rw [← ptc_zero]
 have m0:=Mem.start3 w (nc n) (gpt k m) (ptc 0 0 false) 27 41 41
 obtain ⟨w1,hw1⟩:∃ w1:World,w1=(((w.alloc (.cells (nc n) 27)).alloc (.cells (gpt k m) 41)).alloc (.cells (ptc 0 0 false) 41)):=⟨_,rfl⟩
 rw [← hw1] at m0 ⊢
 clear hw1
 obtain ⟨g,hg⟩:∃ g,g=w.heap.size:=⟨_,rfl⟩
 rw [← hg] at m0 ⊢
 have HG:=Hd hg
 have M:=Hd m0
 clear hg m0
 go_upto_region 1 with (fail)
 refine wp_region_lit ?_
 refine pK (.int .i64 (k.1:Int)) ?_
 refine wpList_fnE rfl _ _ _ _ rfl #[] #[.int .i64 (k.1:Int)] (by kernel_rfl) (by kernel_rfl) (fun u=>cE _ _ _ _ u Tryz.func30 (by kernel_rfl) (by kernel_rfl)) (T:=Nat) (fun c=>.pointer (some ⟨c,0,none⟩)) (fun c w'=>∃ f d,CurveAt w' c f d k.c∧Below w1.heap.size w1 w') ((k.open_ w1).mono fun e w' ⟨c,f,d,he,hr,_,hb⟩=>⟨c,he,f,d,hr,hb⟩) ?_
 rintro c w2 ⟨f,d,hc,hb⟩
 have M2:=Hd (MC.of (M.out.grow hb) hc)
 clear hc hb M
 refine pK (.pointer (some ⟨c,0,none⟩)) ?_
 refine wpList_nil ?_
 try simp only [Act.put,s_,t_,u_,v_,x_,y_]
 go_upto_region 2 with (fail)
 refine wp_region_lit ?_
 refine pK (.pointer (some ⟨c,0,none⟩)) ?_
 refine pK (.bool false) ?_
 refine pK (.bool false) ?_
 refine wpList_nil ?_
 try simp only [Act.put,s_,t_,u_,v_,x_,y_]
 go_upto_region 4 with (fail)
 refine wp_region_lit ?_
 refine pK (.pointer (some ⟨c,0,none⟩)) ?_
 refine lS rfl 41 (.tmp 7) rfl (g+1) 0 19 (by kernel_rfl) _ _ (gpt k m) _ _ (M2.out.at 1 rfl) Tryz.underlying41 rfl (by kernel_rfl) (gpt_size _ _) (fun j hj=>by rw [Nat.zero_add]) ?_
 refine fL rfl 49 (.func 49) #[.tmp 18,.tmp 19] #[70,41] rfl #[] #[.pointer (some ⟨c,0,none⟩),.agg (gpt k m)] (by kernel_rfl) (by kernel_rfl) (fun u=>cE _ _ _ _ u Tryz.func49 (by kernel_rfl) (by kernel_rfl)) (.bool true) (on_rp k m c f d w2 M2.out.crv) (fun w2 hb=>?_)
 have Nw2:=Hd (M2.out.grow hb)
 clear hb M2
 refine pK (.bool false) ?_
 refine pK (.bool false) ?_
 refine wpList_nil ?_
 try simp only [Act.put,s_,t_,u_,v_,x_,y_]
 go_upto_region 6 with (fail)
 have D3:=Hd (Nw2.out.drew)
 clear Nw2
 refine rGw 9 9 (by kernel_rfl) (by kernel_rfl) (fun d v c a w h=>by cases d <;> exact h) ?_
 simp only [List.take_succ_cons,List.take_zero]
 refine lG rfl (.tmp 6) rfl g (by kernel_rfl) (fun u hu=>D3.out.up 0 rfl hu) ?_
 refine gK (.pointer (some ⟨c,0,none⟩)) ?_
 refine gK (.pointer (some ⟨c,0,none⟩)) ?_
 refine gK (.pointer (some ⟨c,0,none⟩)) ?_
 refine gK (.pointer (some ⟨c,28,none⟩)) ?_
 refine lN rfl (.tmp 28) rfl c 28 (by kernel_rfl) k.c.n (fun u hu=>grows_at D3.out.crv.2.2 hu) (cuc_n _ _) ?_
 refine fG rfl 60 (.func 60) #[.tmp 24,.tmp 29] #[27,27] rfl #[] #[.agg (nc n),.agg (nc k.c.n)] (by kernel_rfl) (by kernel_rfl) (fun u=>cE _ _ _ _ u Tryz.func60 (by kernel_rfl) (by kernel_rfl)) (.int .i64 (cmpN n k.c.n)) (fun u hu=>by exact nat_cmp n k.c.n u n9.out N9.out) ?_
 refine pG rfl (.bool false) (fun u=>by exact run_bini _ _ _ _ _ rfl (cmpN n k.c.n) 0 (by kernel_rfl) (by kernel_rfl) (cmp_geq HLT.out) u) ?_
 refine gK (.bool false) ?_
 refine gN ?_
 try simp only [Act.put,s_,t_,u_,v_,x_,y_]
 intro w4 hg6
 refine ⟨by kernel_rfl,?_⟩
 have Nw4:=Hd (D3.out.grow hg6)
 clear hg6 D3
 try simp only [Act.put,s_,t_,u_,v_,x_,y_]
 go_upto_region 8 with (fail)
 have D:=Hd (Nw4.out.drew)
 clear Nw4
 refine wp_region_cls (C:=(fun u=>MC w u [(g,nc n,27),(g+1,gpt k m,41)] c f d k.c)) (fun u u2 hu hg=>MC.grow hu hg) [0,1,2,3,4] (D.out.sub (by simp)) (by kernel_rfl) (by kernel_rfl) (fun d v c a w h=>by cases d <;> exact h) ?_
 simp only [pickOps,List.filterMap_cons,List.filterMap_nil,List.getElem?_cons_succ,List.getElem?_cons_zero]
 refine eK (.pointer none) ?_
 refine eK (.pointer (some ⟨c,0,none⟩)) ?_
 refine wpE_loadN rfl (.tmp 6) rfl g 0 (by kernel_rfl) n (fun u hu=>⟨_,_,_,MC.at hu 0 rfl,fun j hj=>by rw [Nat.zero_add]; exact nc_get _ j hj⟩) ?_
 refine eK (.pointer (some ⟨c,0,none⟩)) ?_
 refine wpE_load_seg rfl 41 (.tmp 7) rfl (g+1) 0 19 (by kernel_rfl) (gpt k m) _ Tryz.underlying41 rfl (by kernel_rfl) (gpt_size _ _) (fun u hu=>⟨_,_,_,MC.at hu 1 rfl,fun j hj=>by rw [Nat.zero_add]⟩) ?_
 refine wpE_nil ?_
 try simp only [Act.put,s_,t_,u_,v_,x_,y_]
 refine ready_E (rs:=[5]) (by kernel_rfl) (by simp) (fun u hgB=>?_)
 have N1:=Hd (D.out.grow hgB)
 clear hgB D
 refine EAll.cons rfl (fun K hK=>step_fnE rfl 79 (.func 79) #[.tmp 36,.tmp 37,.const (.int .i64 16)] #[70,41,3] rfl #[] #[.pointer (some ⟨c,0,none⟩),.agg (gpt k m),.int .i64 16] (by kernel_rfl) (by kernel_rfl) (fun u=>cE _ _ _ _ u Tryz.func79 (by kernel_rfl) (by kernel_rfl)) (fun t:Nat=>.pointer (some ⟨t,0,none⟩)) (fun t w'=>TabAt k w' t m 16∧Below u.heap.size u w') ((table_of k m 16 c f d (by decide) (by decide) u N1.out.crv).mono fun e w' ⟨t,h1,h2,_,h3⟩=>⟨t,h1,h2,h3⟩) (fun t u2 hR=>hK _ _ ((N1.out.grow hR.2).sub (by simp)) ?_)) EAll.nil
 have N2:=Hd (N1.out.grow hR.2)
 have HT:=Hd hR.1
 clear hR N1
 try simp only [Act.put,s_,t_,u_,v_,x_,y_]
 refine ready_E (rs:=[6]) (by kernel_rfl) (by simp) (fun u3 hgB=>?_)
 have N3:=Hd (N2.out.grow hgB)
 have HT3:=Hd (HT.out.up hgB)
 clear hgB N2 HT
 refine EAll.cons rfl (fun K hK=>step_fnE rfl 78 (.func 78) #[.tmp 33,.tmp 34,.tmp 35,.tmp 38] #[69,70,27,148] rfl #[] #[.pointer none,.pointer (some ⟨c,0,none⟩),.agg (nc n),.pointer (some ⟨t,0,none⟩)] (by kernel_rfl) (by kernel_rfl) (fun u=>cE _ _ _ _ u Tryz.func78 (by kernel_rfl) (by kernel_rfl)) (fun _:Unit=>.agg (gpt k (n*m))) (fun _ w'=>Below u3.heap.size u3 w') ((mult_times k c f d t n m u3 HNB.out k.blN.1 k.blN.2 N3.out.crv HT3.out).mono fun e w' ⟨h1,h2⟩=>⟨(),h1,h2⟩) (fun _ u4 hR=>hK _ _ ((N3.out.grow hR).sub (by simp)) ?_)) EAll.nil
 have N4:=Hd (N3.out.grow hR)
 clear hR N3
 try simp only [Act.put,s_,t_,u_,v_,x_,y_]
 refine ready_E (rs:=[7]) (by kernel_rfl) (by simp) (fun u5 hgB=>?_)
 have N5:=Hd (N4.out.grow hgB)
 clear hgB N4
 refine EAll.cons rfl (fun K hK=>sK rfl 41 (.tmp 8) (.tmp 39) rfl (g+1+1) rfl _ _ (gpt k (n*m)) rfl (N5.out.at 2 rfl) (by rw [gpt_size]; kernel_rfl) (by simp only [gpt_size,pS]) (gpt_one _ _) (fun u6 hw hb hs=>hK _ _ ((N5.out.store 2 rfl hb hs hw).sub (by simp)) ?_)) EAll.nil
 have N6:=Hd (N5.out.store 2 rfl hb hs hw)
 clear hw hb hs N5
 try simp only [Act.put,s_,t_,u_,v_,x_,y_]
 refine ready_E (rs:=[8]) (by kernel_rfl) (by simp) (fun u7 hgB=>?_)
 have N7:=Hd (N6.out.grow hgB)
 clear hgB N6
 refine EAll.cons rfl (fun K hK=>step_pure rfl (.int .i64 0) (fun u=>by kernel_rfl) (hK _ _ (N7.out.sub (by simp)) ?_)) EAll.nil
 try simp only [Act.put,s_,t_,u_,v_,x_,y_]
 refine done_E (by kernel_rfl) (fun u8 hgB=>?_)
 have N8:=Hd (N7.out.grow hgB)
 clear hgB N7
 try simp only [Act.put,s_,t_,u_,v_,x_,y_]
 go_wp2_with (fail)
 exact bodyPost_ret (results_O2 rfl _ _ (g+1+1) _ _ _ _ (gpt_size _ _) rfl rfl (N8.out.at 2 rfl)) rfl ⟨rfl,N8.out.below⟩
end Go.Proofs.YtkoonhiplicbkaaGreat.Cw
namespace Go.Proofs.YtkoonhiplicbkaaGreat.Cw
open Go Go.RowKit
attribute [local irreducible] pc ptc nc ac cuc fc
attribute [local go_sem ↓ high] wn_eql wn_neq wn_lss wn_gtr wn_leq wn_geq wn_cells wRS wn_guard lit0 lit1
attribute [local go_sem high] wn_match wRS wn_eql wn_neq wn_lss wn_gtr wn_leq wn_geq
end Go.Proofs.YtkoonhiplicbkaaGreat.Cw
namespace Go.Proofs.YtkoonhiplicbkaaGreat.Cw
open Go Go.RowKit
theorem wpN_loadG2 {ops:Array Oper} {rest:List Oper} {o:Oper} {a:Act} {w:World} {Q:Exit→Act→World→Prop} (hwt:Region.wanted o (yielded ops a.tmps)=true) (x:Operand) (ho:o.op=.load 27 x) (g off:Nat) (hx:a.eval x=.pointer (some ⟨g,off,none⟩)) {t:TypeId} {fr:Nat × Nat} {n:Nat} {D:Array Value} (hg:w.heap[g]?=some (.cells D t fr))
  (hcs:∀ j,j<9→D[off+j]?=some (wn (dig n j))) (h:wpList Tryz.prog ops Q rest (a.put o.dst (.agg (nc n))) w):wpList Tryz.prog ops Q (o::rest) a w:=by
 unfold wpList
 rw [if_pos hwt]
 refine .inl ?_
 exact wp_load_seg 27 x ho g off 9 hx t D (nc n) fr _ hg Tryz.underlying27 rfl (by kernel_rfl) (nS n) (fun j hj=>(hcs j hj).trans (nc_get n j hj).symm) h
attribute [local irreducible] pc ptc nc ac cuc fc
attribute [local go_sem ↓ high] wn_eql wn_neq wn_lss wn_gtr wn_leq wn_geq wn_cells wRS wn_guard lit0 lit1
attribute [local go_sem high] wn_match wRS wn_eql wn_neq wn_lss wn_gtr wn_leq wn_geq
end Go.Proofs.YtkoonhiplicbkaaGreat.Cw
namespace Go.Proofs.YtkoonhiplicbkaaGreat.Cw
open Go Go.RowKit
section
variable (k:CK)
end
end Go.Proofs.YtkoonhiplicbkaaGreat.Cw
set_option maxHeartbeats 4000000
set_option maxRecDepth 100000
namespace Go.Proofs.YtkoonhiplicbkaaGreat.Cw
open Go Go.RowKit
section
variable {P:Program} {ops:Array Oper} {rest:List Oper} {o:Oper} {a:Act} {w:World} {Q:Exit→Act→World→Prop}
theorem wpList_segG (hwt:Region.wanted o (yielded ops a.tmps)=true) (ty:TypeId) (x:Operand) (ho:o.op=.load ty x) (g off n:Nat) (hx:a.eval x=.pointer (some ⟨g,off,none⟩)) {t:TypeId} {fr:Nat × Nat} {D:Array Value} (cs:Array Value) (hg:w.heap[g]?=some (.cells D t fr)) (d:TypeDesc)
  (hu:P.underlying ty=some d) (hd:isAggDesc d=true) (hi:(P.info? ty).map (·.size)=some n) (hn:cs.size=n) (hcs:∀ j,j<n→D[off+j]?=cs[j]?) (h:wpList P ops Q rest (a.put o.dst (.agg cs)) w):wpList P ops Q (o::rest) a w:=by
 unfold wpList
 rw [if_pos hwt]
 refine .inl ?_
 exact wp_load_seg ty x ho g off n hx t D cs fr d hg hu hd hi hn hcs h
theorem wpList_fnG (hwt:Region.wanted o (yielded ops a.tmps)=true) (k:FuncId) (f:Operand) (args:Array Operand) (tys:Array TypeId) (ho:o.op=.call { callee:=.value f,args:=args,argTypes:=tys }) (bound avs:Array Value)
  (hf:a.eval f=.func (.func k) bound #[]) (has:args.map a.eval=avs) (hent:∀ u:World,(callFunc k (bound++avs)).run P u=.ok (.enter k (bound++avs)) u) (v:Value)
  (h:Calls P k (bound++avs) w fun e w'=>e=.returned v∧Below w.heap.size w w') (hn:∀ w',Grows w w'→wpList P ops Q rest (a.put o.dst v) w'):wpList P ops Q (o::rest) a w:=by
 unfold wpList
 rw [if_pos hwt]
 refine .inl ?_
 have h1:(execOp a.eval o).run P w=.ok (.enter k (bound++avs)) w:=by
  unfold execOp
  simp only [ho,resolve,hf,has,Deferred.ofValue,Sem.run_bind,Sem.run_pure,Result.andThen_ok,invoke,Array.append_empty,hent]
 unfold Oper.wp
 rw [h1,Oper.upon_enter]
 refine h.mono ?_
 rintro e w' ⟨rfl,hb⟩
 exact hn w' hb
theorem wpList_fnC (hgd:o.guard=none) (k:FuncId) (f:Operand) (args:Array Operand) (tys:Array TypeId) (ho:o.op=.call { callee:=.value f,args:=args,argTypes:=tys }) (caps avs:Array Value)
  (hf:a.eval f=.func (.func k) #[] caps) (has:args.map a.eval=avs) (hent:∀ u:World,(callFunc k (avs++caps)).run P u=.ok (.enter k (avs++caps)) u) (v:Value)
  (h:Calls P k (avs++caps) w fun e w'=>e=.returned v∧Below w.heap.size w w') (hn:∀ w',Grows w w'→wpList P ops Q rest (a.put o.dst v) w'):wpList P ops Q (o::rest) a w:=
 wpList_plain hgd fun K hK=>by
  have h1:(execOp a.eval o).run P w=.ok (.enter k (avs++caps)) w:=by
   unfold execOp
   simp only [ho,resolve,hf,has,Deferred.ofValue,Sem.run_bind,Sem.run_pure,Result.andThen_ok,invoke,Array.empty_append,hent]
  unfold Oper.wp
  rw [h1,Oper.upon_enter]
  refine h.mono ?_
  rintro e w' ⟨rfl,hb⟩
  exact hK _ _ (hn w' hb)
end
attribute [local irreducible] pc ptc nc ac cuc fc gpt
attribute [local go_sem ↓ high] wn_eql wn_neq wn_lss wn_gtr wn_leq wn_geq wn_cells wRS wn_guard lit0 lit1
attribute [local go_sem high] wn_match wRS wn_eql wn_neq wn_lss wn_gtr wn_leq wn_geq
theorem affine_do (k:CK) (m n r:Nat) (F:FuncId) (caps:Array Value) (w:World) (hent:∀ (args:Array Value) (u:World),(callFunc F args).run Tryz.prog u=.ok (.enter F args) u)
  (hS:∀ c f d u,Grows w u→CurveAt u c f d k.c→Calls Tryz.prog F (#[.agg #[.pointer (some ⟨c,0,none⟩)],.agg (gpt k m),.agg (gpt k n)]++caps) u fun e w'=>e=.returned (.agg (gpt k r))∧Below u.heap.size u w') :
  Calls Tryz.prog 55 #[.int .i64 k.1,.agg (gpt k m),.agg (gpt k n),.func (.func F) #[] caps] w fun e w'=>e=.returned (.tuple #[.agg (gpt k r),.int .i64 0])∧Below w.heap.size w w':=by
 have HS:=Hd hS
 have HEN:=Hd hent
 clear hS hent
 go_enter Tryz.func55,Tryz.ntmps55
 go_upto_region 1 with fail
 rw [← ptc_zero]
 have m0:=Mem.start3 w (gpt k m) (gpt k n) (ptc 0 0 false) 41 41 41
 obtain ⟨w1,hw1⟩:∃ w1:World,w1=(((w.alloc (.cells (gpt k m) 41)).alloc (.cells (gpt k n) 41)).alloc (.cells (ptc 0 0 false) 41)):=⟨_,rfl⟩
 rw [← hw1] at m0 ⊢
 clear hw1
 obtain ⟨g,hg⟩:∃ g,g=w.heap.size:=⟨_,rfl⟩
 rw [← hg] at m0 ⊢
 have HG:=Hd hg
 have M:=Hd m0
 clear hg m0
 go_upto_region 1 with (fail)
 refine wp_region_lit ?_
 refine pK (.int .i64 (k.1:Int)) ?_
 refine wpList_fnE rfl _ _ _ _ rfl #[] #[.int .i64 (k.1:Int)] (by kernel_rfl) (by kernel_rfl) (fun u=>cE _ _ _ _ u Tryz.func30 (by kernel_rfl) (by kernel_rfl)) (T:=Nat) (fun c=>.pointer (some ⟨c,0,none⟩)) (fun c w'=>∃ f d,CurveAt w' c f d k.c∧Below w1.heap.size w1 w') ((k.open_ w1).mono fun e w' ⟨c,f,d,he,hr,_,hb⟩=>⟨c,he,f,d,hr,hb⟩) ?_
 rintro c w2 ⟨f,d,hc,hb⟩
 have M2:=Hd (MC.of (M.out.grow hb) hc)
 clear hc hb M
 refine pK (.pointer (some ⟨c,0,none⟩)) ?_
 refine wpList_nil ?_
 try simp only [Act.put,s_,t_,u_,v_,x_,y_]
 go_upto_region 2 with (fail)
 refine wp_region_lit ?_
 refine pK (.pointer (some ⟨c,0,none⟩)) ?_
 refine pK (.bool false) ?_
 refine pK (.bool false) ?_
 refine wpList_nil ?_
 try simp only [Act.put,s_,t_,u_,v_,x_,y_]
 go_upto_region 4 with (fail)
 refine wp_region_lit ?_
 refine pK (.pointer (some ⟨c,0,none⟩)) ?_
 refine lS rfl 41 (.tmp 5) rfl g 0 19 (by kernel_rfl) _ _ (gpt k m) _ _ (M2.out.at 0 rfl) Tryz.underlying41 rfl (by kernel_rfl) (gpt_size _ _) (fun j hj=>by rw [Nat.zero_add]) ?_
 refine fL rfl 49 (.func 49) #[.tmp 18,.tmp 19] #[70,41] rfl #[] #[.pointer (some ⟨c,0,none⟩),.agg (gpt k m)] (by kernel_rfl) (by kernel_rfl) (fun u=>cE _ _ _ _ u Tryz.func49 (by kernel_rfl) (by kernel_rfl)) (.bool true) (on_rp k m c f d w2 M2.out.crv) (fun w2 hb=>?_)
 have Nw2:=Hd (M2.out.grow hb)
 clear hb M2
 refine pK (.bool false) ?_
 refine pK (.bool false) ?_
 try simp only [Act.put,s_,t_,u_,v_,x_,y_]
 refine wK (.pointer (some ⟨c,0,none⟩)) ?_
 try simp only [Act.put,s_,t_,u_,v_,x_,y_]
 refine wpList_segG (by kernel_rfl) 41 (.tmp 6) rfl (g+1) 0 19 (by kernel_rfl) (gpt k n) (Nw2.out.at 1 rfl) _ Tryz.underlying41 rfl (by kernel_rfl) (gpt_size _ _) (fun j hj=>by rw [Nat.zero_add]) ?_
 try simp only [Act.put,s_,t_,u_,v_,x_,y_]
 refine wpList_fnG (by kernel_rfl) _ _ _ _ rfl #[] #[.pointer (some ⟨c,0,none⟩),.agg (gpt k n)] (by kernel_rfl) (by kernel_rfl) (fun u=>cE _ _ _ _ u Tryz.func49 (by kernel_rfl) (by kernel_rfl)) (.bool true) (on_rp k n c f d w2 Nw2.out.crv) (fun w3 hb=>?_)
 have Nw3:=Hd (Nw2.out.grow hb)
 clear hb Nw2
 try simp only [Act.put,s_,t_,u_,v_,x_,y_]
 refine wK (.bool false) ?_
 try simp only [Act.put,s_,t_,u_,v_,x_,y_]
 refine pK (.bool false) ?_
 refine pK (.bool false) ?_
 refine wpList_nil ?_
 try simp only [Act.put,s_,t_,u_,v_,x_,y_]
 go_upto_region 6 with (fail)
 refine wp_region_lit ?_
 refine pK (.func (.func F) #[] caps) ?_
 refine pK (.pointer (some ⟨c,0,none⟩)) ?_
 refine pK (.agg #[.pointer (some ⟨c,0,none⟩)]) ?_
 refine lS rfl 41 (.tmp 5) rfl g 0 19 (by kernel_rfl) _ _ (gpt k m) _ _ (Nw3.out.at 0 rfl) Tryz.underlying41 rfl (by kernel_rfl) (gpt_size _ _) (fun j hj=>by rw [Nat.zero_add]) ?_
 refine lS rfl 41 (.tmp 6) rfl (g+1) 0 19 (by kernel_rfl) _ _ (gpt k n) _ _ (Nw3.out.at 1 rfl) Tryz.underlying41 rfl (by kernel_rfl) (gpt_size _ _) (fun j hj=>by rw [Nat.zero_add]) ?_
 refine wpList_fnC rfl F (.tmp 29) #[.tmp 31,.tmp 32,.tmp 33] #[108,41,41] rfl caps #[.agg #[.pointer (some ⟨c,0,none⟩)],.agg (gpt k m),.agg (gpt k n)] (by kernel_rfl) (by kernel_rfl) (HEN.out _) (.agg (gpt k r)) (HS.out c f d w3 (Nw3.out.1) Nw3.out.crv) (fun w4 hb=>?_)
 have Nw4:=Hd (Nw3.out.grow hb)
 clear hb Nw3
 refine sB rfl 41 (.tmp 8) (.tmp 34) rfl (g+1+1) (by kernel_rfl) _ _ (gpt k r) (by kernel_rfl) (Nw4.out.at 2 rfl) (by rw [gpt_size]; kernel_rfl) (by simp only [gpt_size,pS]) (gpt_one _ _) ?_
 intro w5 hw hb hs
 have Nw5:=Hd (Nw4.out.store 2 rfl hb hs hw)
 clear hw hb hs Nw4
 refine pK (.int .i64 0) ?_
 refine wpList_nil ?_
 try simp only [Act.put,s_,t_,u_,v_,x_,y_]
 go_wp2_with (fail)
 exact bodyPost_ret (results_O2 rfl _ _ (g+1+1) _ _ _ _ (gpt_size _ _) rfl rfl (Nw5.out.at 2 rfl)) rfl ⟨rfl,Nw5.out.below⟩
theorem affine_mul1 (k:CK) (j m n c f d x:Nat) (w:World) (hj:j<pw 9) (hx:w.heap[x]?=some (.cells (nc j) 27 (0,0))) (H:CurveAt w c f d k.c):Calls Tryz.prog 56 #[.agg #[.pointer (some ⟨c,0,none⟩)],.agg (gpt k m),.agg (gpt k n),.pointer (some ⟨x,0,none⟩)] w fun e w'=>e=.returned (.agg (gpt k (j*m)))∧Below w.heap.size w w':=by
 have HC:=Hd H
 have HX:=Hd hx
 have HJ:=Hd hj
 clear H hx hj
 go_enter Tryz.func56,Tryz.ntmps56
 go_upto_region 1 with fail
 rw [← ptc_zero]
 have m0:=Mem.start4 w (#[.pointer (some ⟨c,0,none⟩)]) (gpt k m) (gpt k n) (ptc 0 0 false) 108 41 41 41
 obtain ⟨w1,hw1⟩:∃ w1:World,w1=((((w.alloc (.cells (#[.pointer (some ⟨c,0,none⟩)]) 108)).alloc (.cells (gpt k m) 41)).alloc (.cells (gpt k n) 41)).alloc (.cells (ptc 0 0 false) 41)):=⟨_,rfl⟩
 rw [← hw1] at m0 ⊢
 clear hw1
 obtain ⟨g,hg⟩:∃ g,g=w.heap.size:=⟨_,rfl⟩
 rw [← hg] at m0 ⊢
 have HG:=Hd hg
 have M:=Hd m0
 clear hg m0
 have D2:=Hd (M.out.drew)
 clear M
 refine rGw 9 9 (by kernel_rfl) (by kernel_rfl) (fun d v c a w h=>by cases d <;> exact h) ?_
 simp only [List.take_succ_cons,List.take_zero]
 refine gK (.pointer (some ⟨g,0,none⟩)) ?_
 refine wpGrow_load_cell rfl 70 (.tmp 8) rfl g 0 (by kernel_rfl) (.pointer (some ⟨c,0,none⟩)) _ Tryz.underlying70 rfl (fun u hu=>(cO (D2.out.up 0 rfl hu) 0).trans (rfl)) ?_
 refine gK (.pointer (some ⟨g,0,none⟩)) ?_
 refine wpGrow_load_cell rfl 70 (.tmp 10) rfl g 0 (by kernel_rfl) (.pointer (some ⟨c,0,none⟩)) _ Tryz.underlying70 rfl (fun u hu=>(cO (D2.out.up 0 rfl hu) 0).trans (rfl)) ?_
 refine lG rfl (.tmp 3) rfl x (by kernel_rfl) (fun u hu=>grows_at HX.out (gT _ _ _ D2.out.1 hu)) ?_
 refine wpGrow_load_seg rfl 41 (.tmp 5) rfl (g+1) 0 19 (by kernel_rfl) (gpt k m) _ Tryz.underlying41 rfl (by kernel_rfl) (gpt_size _ _) (fun u hu=>D2.out.up 1 rfl hu) (fun j hj=>by rw [Nat.zero_add]) ?_
 refine fG rfl 59 (.func 59) #[.tmp 13] #[41] rfl #[] #[.agg (gpt k m)] (by kernel_rfl) (by kernel_rfl) (fun u=>cE _ _ _ _ u Tryz.func59 (by kernel_rfl) (by kernel_rfl)) (.agg (pc ((trN k (gm k m)).x) ((trN k (gm k m)).y) ((trN k (gm k m)).z))) (fun u hu=>by exact triple_rp k m u) ?_
 refine fG rfl 58 (.func 58) #[.tmp 11,.tmp 12,.tmp 14] #[70,27,111] rfl #[] #[.pointer (some ⟨c,0,none⟩),.agg (nc j),.agg (pc ((trN k (gm k m)).x) ((trN k (gm k m)).y) ((trN k (gm k m)).z))] (by kernel_rfl) (by kernel_rfl) (fun u=>cE _ _ _ _ u Tryz.func58 (by kernel_rfl) (by kernel_rfl)) (.agg (pc ((k.c.times j (trN k (gm k m))).x) ((k.c.times j (trN k (gm k m))).y) ((k.c.times j (trN k (gm k m))).z))) (fun u hu=>by exact curve_times c f d j (trN k (gm k m)) k.c u HJ.out (rp_trip k m).1 k.p1 (HC.out.up (gT _ _ _ D2.out.1 hu))) ?_
 refine fG rfl 57 (.func 57) #[.tmp 9,.tmp 15] #[70,111] rfl #[] #[.pointer (some ⟨c,0,none⟩),.agg (pc ((k.c.times j (trN k (gm k m))).x) ((k.c.times j (trN k (gm k m))).y) ((k.c.times j (trN k (gm k m))).z))] (by kernel_rfl) (by kernel_rfl) (fun u=>cE _ _ _ _ u Tryz.func57 (by kernel_rfl) (by kernel_rfl)) (.agg (gpt k (j*m))) (fun u hu=>by exact plain_rp k c f d u (rp_times k j (rp_trip k m)) (HC.out.up (gT _ _ _ D2.out.1 hu))) ?_
 refine gN ?_
 try simp only [Act.put,s_,t_,u_,v_,x_,y_]
 refine gS (rs:=[9]) (by kernel_rfl) (by decide) (fun w3 hg6=>?_)
 have Nw3:=Hd (D2.out.grow hg6)
 clear hg6 D2
 refine wpAny_ready (rs:=[9]) (by kernel_rfl) (by simp) ?_
 refine AllReady.cons rfl (fun K hK=>?_) AllReady.nil
 refine sK rfl 41 (.tmp 7) (.tmp 16) rfl (g+1+1+1) rfl _ _ _ rfl (Nw3.out.at 3 rfl) (by rw [gpt_size]; kernel_rfl) (by simp only [gpt_size,pS]) (gpt_one _ _) (fun w4 hw hb hs=>hK _ _ ?_)
 have Nw4:=Hd (Nw3.out.store 3 rfl hb hs hw)
 clear hK hw hb hs Nw3
 try simp only [Act.put,s_,t_,u_,v_,x_,y_]
 refine wpAny_done (by kernel_rfl) ?_ _
 try simp only [Act.put,s_,t_,u_,v_,x_,y_]
 go_wp2_with (fail)
 exact bodyPost_ret (results_blk rfl _ _ (g+1+1+1) _ _ _ _ rfl (Nw4.out.at 3 rfl) Tryz.underlying41 rfl (by rw [gpt_size]; kernel_rfl)) rfl ⟨rfl,Nw4.out.below⟩
theorem affine_mul (k:CK) (j m:Nat) (w:World) (hj:j<pw 9):Calls Tryz.prog 24 #[.int .i64 k.1,.agg (nc j),.agg (gpt k m)] w fun e w'=>e=.returned (.tuple #[.agg (gpt k (j*m)),.int .i64 0])∧Below w.heap.size w w':=by
 have HJ:=Hd hj
 clear hj
 go_enter Tryz.func24,Tryz.ntmps24
 go_upto_region 1 with fail
 rw [← ptc_zero]
 have m0:=Mem.start3 w (nc j) (gpt k m) (ptc 0 0 false) 27 41 41
 obtain ⟨w1,hw1⟩:∃ w1:World,w1=(((w.alloc (.cells (nc j) 27)).alloc (.cells (gpt k m) 41)).alloc (.cells (ptc 0 0 false) 41)):=⟨_,rfl⟩
 rw [← hw1] at m0 ⊢
 clear hw1
 obtain ⟨g,hg⟩:∃ g,g=w.heap.size:=⟨_,rfl⟩
 rw [← hg] at m0 ⊢
 have HG:=Hd hg
 have M:=Hd m0
 clear hg m0
 go_upto_region 1 with (fail)
 refine wp_region_lit ?_
 refine pK (.int .i64 (k.1:Int)) ?_
 refine lS rfl 41 (.tmp 5) rfl (g+1) 0 19 (by kernel_rfl) _ _ (gpt k m) _ _ (M.out.at 1 rfl) Tryz.underlying41 rfl (by kernel_rfl) (gpt_size _ _) (fun j hj=>by rw [Nat.zero_add]) ?_
 refine lS rfl 41 (.tmp 5) rfl (g+1) 0 19 (by kernel_rfl) _ _ (gpt k m) _ _ (M.out.at 1 rfl) Tryz.underlying41 rfl (by kernel_rfl) (gpt_size _ _) (fun j hj=>by rw [Nat.zero_add]) ?_
 refine pK (.func (.func 56) #[] #[.pointer (some ⟨g,0,none⟩)]) ?_
 refine fL rfl 55 (.func 55) #[.tmp 8,.tmp 9,.tmp 10,.tmp 11] #[3,41,41,166] rfl #[] #[.int .i64 k.1,.agg (gpt k m),.agg (gpt k m),.func (.func 56) #[] #[.pointer (some ⟨g,0,none⟩)]] (by kernel_rfl) (by kernel_rfl) (fun u=>cE _ _ _ _ u Tryz.func55 (by kernel_rfl) (by kernel_rfl)) (.tuple #[.agg (gpt k (j*m)),.int .i64 0]) (affine_do k m m (j*m) 56 #[.pointer (some ⟨g,0,none⟩)] w1 (fun args u=>cE _ _ _ _ u Tryz.func56 (by kernel_rfl) (by kernel_rfl)) (fun c f d u hg hc=>by exact affine_mul1 k j m m c f d g u HJ.out (M.out.up 0 rfl hg) hc)) (fun w2 hb=>?_)
 have Nw2:=Hd (M.out.grow hb)
 clear hb M
 refine pK (.agg (gpt k (j*m))) ?_
 refine pK (.int .i64 0) ?_
 refine sB rfl 41 (.tmp 6) (.tmp 13) rfl (g+1+1) (by kernel_rfl) _ _ (gpt k (j*m)) (by kernel_rfl) (Nw2.out.at 2 rfl) (by rw [gpt_size]; kernel_rfl) (by simp only [gpt_size,pS]) (gpt_one _ _) ?_
 intro w3 hw hb hs
 have Nw3:=Hd (Nw2.out.store 2 rfl hb hs hw)
 clear hw hb hs Nw2
 refine pK (.int .i64 0) ?_
 refine wpList_nil ?_
 try simp only [Act.put,s_,t_,u_,v_,x_,y_]
 go_wp2_with (fail)
 exact bodyPost_ret (results_O2 rfl _ _ (g+1+1) _ _ _ _ (gpt_size _ _) rfl rfl (Nw3.out.at 2 rfl)) rfl ⟨rfl,Nw3.out.below⟩
end Go.Proofs.YtkoonhiplicbkaaGreat.Cw
