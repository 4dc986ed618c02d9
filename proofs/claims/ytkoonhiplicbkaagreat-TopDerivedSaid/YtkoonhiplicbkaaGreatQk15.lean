/-
  (package curve) What a curve's block holds; Right, None, Triple, On. Condition: numbers below P, points on the curve.
-/
import Derived.Test.YtkoonhiplicbkaaGreatQk14
set_option linter.unusedSimpArgs false
set_option linter.unusedVariables false
set_option maxHeartbeats 4000000
set_option maxRecDepth 100000
namespace Go.Proofs.YtkoonhiplicbkaaGreat.Cw
open Go Go.RowKit
attribute [local go_sem ↓ high] wn_eql wn_neq wn_lss wn_gtr wn_leq wn_geq wn_cells wRS wn_guard lit0 lit1
attribute [local go_sem high] wn_match wRS wn_eql wn_neq wn_lss wn_gtr wn_leq wn_geq
attribute [local irreducible] pc ptc nc
structure Cv where (id p a b n gx gy:Nat) (legacy:Bool)
def Cv.b3 (cu:Cv):Nat:=fad cu.p (fad cu.p cu.b cu.b) cu.b
def Cv.size (cu:Cv):Nat:=(bl cu.p+7) / 8
def ac (cu:Cv):Array Value:=#[.int .i64 cu.id]++(nc cu.p++(nc cu.a++(nc cu.b++(nc cu.n++(ptc cu.gx cu.gy false++#[.int .i64 (bl cu.n),.int .i64 cu.size,.bool cu.legacy])))))
def cuc (cu:Cv) (f:Nat):Array Value:=ac cu++(#[.pointer (some ⟨f,0,none⟩)]++nc cu.b3)
theorem ac_size (cu:Cv):(ac cu).size=59:=by simp [ac,nS,pS]
theorem cuc_ac (cu:Cv) (f:Nat) {i:Nat} (h:i<59):(cuc cu f)[i]?=(ac cu)[i]?:=by unfold cuc; rw [app_lo (by rw [ac_size]; exact h)]
theorem cuc_acs (cu:Cv) (f:Nat):∀ j,j<59→(cuc cu f)[0+j]?=(ac cu)[j]?:=fun j hj=>by rw [Nat.zero_add]; exact cuc_ac cu f hj
theorem ac_a (cu:Cv):∀ j,j<9→(ac cu)[10+j]?=some (wn (dig cu.a j)):=fun j hj=>by
 unfold ac; rw [show 10+j=1+(9+j) by omega,app_hi (n:=1) rfl,app_hi (nS _),app_lo (by rw [nS]; exact hj),nc_get _ _ hj]
theorem ac_b (cu:Cv):∀ j,j<9→(ac cu)[19+j]?=some (wn (dig cu.b j)):=fun j hj=>by
 unfold ac; rw [show 19+j=1+(9+(9+j)) by omega,app_hi (n:=1) rfl,app_hi (nS _),app_hi (nS _),app_lo (by rw [nS]; exact hj),nc_get _ _ hj]
theorem ac_n (cu:Cv):∀ j,j<9→(ac cu)[28+j]?=some (wn (dig cu.n j)):=fun j hj=>by
 unfold ac; rw [show 28+j=1+(9+(9+(9+j))) by omega,app_hi (n:=1) rfl,app_hi (nS _),app_hi (nS _),app_hi (nS _),app_lo (by rw [nS]; exact hj),nc_get _ _ hj]
theorem ac_g (cu:Cv):∀ j,j<19→(ac cu)[37+j]?=(ptc cu.gx cu.gy false)[j]?:=fun j hj=>by
 unfold ac; rw [show 37+j=1+(9+(9+(9+(9+j)))) by omega,app_hi (n:=1) rfl,app_hi (nS _),app_hi (nS _),app_hi (nS _),app_hi (nS _),app_lo (by rw [pS]; exact hj)]
theorem ac_rest (cu:Cv) (j:Nat):(ac cu)[56+j]?=(#[.int .i64 (bl cu.n),.int .i64 cu.size,.bool cu.legacy]:Array Value)[j]?:=by
 unfold ac; rw [show 56+j=1+(9+(9+(9+(9+(19+j))))) by omega,app_hi (n:=1) rfl,app_hi (nS _),app_hi (nS _),app_hi (nS _),app_hi (nS _),app_hi (pS _ _ _)]
theorem cuc_a (cu:Cv) (f:Nat):∀ j,j<9→(cuc cu f)[10+j]?=some (wn (dig cu.a j)):=fun j hj=>by rw [cuc_ac _ _ (by omega),ac_a _ _ hj]
theorem cuc_b (cu:Cv) (f:Nat):∀ j,j<9→(cuc cu f)[19+j]?=some (wn (dig cu.b j)):=fun j hj=>by rw [cuc_ac _ _ (by omega),ac_b _ _ hj]
theorem cuc_n (cu:Cv) (f:Nat):∀ j,j<9→(cuc cu f)[28+j]?=some (wn (dig cu.n j)):=fun j hj=>by rw [cuc_ac _ _ (by omega),ac_n _ _ hj]
theorem cuc_g (cu:Cv) (f:Nat):∀ j,j<19→(cuc cu f)[37+j]?=(ptc cu.gx cu.gy false)[j]?:=fun j hj=>by rw [cuc_ac _ _ (by omega),ac_g _ _ hj]
theorem cuc_bits (cu:Cv) (f:Nat):(cuc cu f)[56]?=some (.int .i64 (bl cu.n)):=by rw [cuc_ac _ _ (by omega)]; exact ac_rest cu 0
theorem cuc_f (cu:Cv) (f:Nat):(cuc cu f)[59]?=some (.pointer (some ⟨f,0,none⟩)):=by
 unfold cuc; rw [show 59=59+0 from rfl,app_hi (ac_size _)]; rw [app_lo (by simp)]; rfl
theorem cuc_b3 (cu:Cv) (f:Nat):∀ j,j<9→(cuc cu f)[60+j]?=some (wn (dig cu.b3 j)):=fun j hj=>by
 unfold cuc; rw [show 60+j=59+(1+j) by omega,app_hi (ac_size _),app_hi (n:=1) rfl,nc_get _ _ hj]
def Cv.Ok (cu:Cv):Prop:=cu.p≠0∧cu.a<cu.p∧cu.b<cu.p∧cu.gx<cu.p∧cu.gy<cu.p∧cu.n<pw 9
def CurveAt (w:World) (c f d:Nat) (cu:Cv):Prop:=cu.Ok∧FieldAt w f cu.p d∧w.heap[c]?=some (.cells (cuc cu f) 87 (0,0))
theorem CurveAt.up {w w':World} {c f d:Nat} {cu:Cv} (h:CurveAt w c f d cu) (hg:Grows w w'):CurveAt w' c f d cu:=⟨h.1,h.2.1.up hg,grows_at h.2.2 hg⟩
theorem b3_lt {cu:Cv} (h:cu.Ok):cu.b3<cu.p:=fad_lt _ _ h.1
def rgt (cu:Cv) (x:Nat):Nat:=fad cu.p (fml cu.p (fad cu.p (fml cu.p x x) cu.a) x) cu.b
theorem rgt_lt {cu:Cv} (x:Nat) (h:cu.Ok):rgt cu x<cu.p:=fad_lt _ _ h.1
theorem curve_right (c f d x:Nat) (cu:Cv) (w:World) (hx:x<cu.p) (H:CurveAt w c f d cu):Calls Tryz.prog 90 #[.pointer (some ⟨c,0,none⟩),.agg (nc x)] w fun e w'=>e=.returned (.agg (nc (rgt cu x)))∧Below w.heap.size w w':=by
 obtain ⟨hk,hfd,hcb⟩:=H
 have HK:=Hd hk
 have HF:=Hd hfd
 have HCB:=Hd hcb
 have HX:=Hd hx
 clear hk hfd hcb hx
 unfold rgt
 go_enter Tryz.func90,Tryz.ntmps90
 go_upto_region 1 with fail
 rw [← nZ]
 have m0:=Mem.start2 w (nc x) (nc 0) 27 27
 obtain ⟨w1,hw1⟩:∃ w1:World,w1=((w.alloc (.cells (nc x) 27)).alloc (.cells (nc 0) 27)):=⟨_,rfl⟩
 rw [← hw1] at m0 ⊢
 clear hw1
 obtain ⟨g,hg⟩:∃ g,g=w.heap.size:=⟨_,rfl⟩
 rw [← hg] at m0 ⊢
 have HG:=Hd hg
 have M:=Hd m0
 clear hg m0
 go_upto_region 2 with (first
  | (refine lC rfl 85 (.tmp 8) rfl c 59 rfl (.pointer (some ⟨f,0,none⟩)) _ Tryz.underlying85 rfl ((cO (grows_at HCB.out M.out.1) 59).trans (cuc_f cu f)) ?_))
 have D2:=Hd (M.out.drew)
 clear M
 refine rGw 21 21 (by kernel_rfl) (by kernel_rfl) (fun d v c a w h=>by cases d <;> exact h) ?_
 simp only [List.take_succ_cons,List.take_zero]
 refine gK (.pointer (some ⟨f,0,none⟩)) ?_
 refine gK (.pointer (some ⟨f,0,none⟩)) ?_
 refine gK (.pointer (some ⟨f,0,none⟩)) ?_
 refine gK (.pointer (some ⟨f,0,none⟩)) ?_
 refine lG rfl (.tmp 3) rfl g (by kernel_rfl) (fun u hu=>D2.out.up 0 rfl hu) ?_
 refine lG rfl (.tmp 3) rfl g (by kernel_rfl) (fun u hu=>D2.out.up 0 rfl hu) ?_
 refine fG rfl 89 (.func 89) #[.tmp 13,.tmp 14,.tmp 15] #[85,27,27] rfl #[] #[.pointer (some ⟨f,0,none⟩),.agg (nc x),.agg (nc x)] (by kernel_rfl) (by kernel_rfl) (fun u=>cE _ _ _ _ u Tryz.func89 (by kernel_rfl) (by kernel_rfl)) (.agg (nc (fml cu.p x x))) (fun u hu=>by exact field_mul f cu.p d x x u (HX.out) (HX.out) (HF.out.up (gT _ _ _ D2.out.1 hu))) ?_
 refine gK (.pointer (some ⟨c,0,none⟩)) ?_
 refine gK (.pointer (some ⟨c,0,none⟩)) ?_
 refine gK (.pointer (some ⟨c,0,none⟩)) ?_
 refine gK (.pointer (some ⟨c,10,none⟩)) ?_
 refine lN rfl (.tmp 20) rfl c 10 (by kernel_rfl) cu.a (fun u hu=>grows_at HCB.out (gT _ _ _ D2.out.1 hu)) (cuc_a cu f) ?_
 refine fG rfl 73 (.func 73) #[.tmp 12,.tmp 16,.tmp 21] #[85,27,27] rfl #[] #[.pointer (some ⟨f,0,none⟩),.agg (nc (fml cu.p x x)),.agg (nc cu.a)] (by kernel_rfl) (by kernel_rfl) (fun u=>cE _ _ _ _ u Tryz.func73 (by kernel_rfl) (by kernel_rfl)) (.agg (nc (fad cu.p (fml cu.p x x) cu.a))) (fun u hu=>by exact field_add f cu.p d (fml cu.p x x) cu.a u (fml_lt _ _ HK.out.1) (HK.out.2.1) (HF.out.up (gT _ _ _ D2.out.1 hu))) ?_
 refine lG rfl (.tmp 3) rfl g (by kernel_rfl) (fun u hu=>D2.out.up 0 rfl hu) ?_
 refine fG rfl 89 (.func 89) #[.tmp 11,.tmp 22,.tmp 23] #[85,27,27] rfl #[] #[.pointer (some ⟨f,0,none⟩),.agg (nc (fad cu.p (fml cu.p x x) cu.a)),.agg (nc x)] (by kernel_rfl) (by kernel_rfl) (fun u=>cE _ _ _ _ u Tryz.func89 (by kernel_rfl) (by kernel_rfl)) (.agg (nc (fml cu.p (fad cu.p (fml cu.p x x) cu.a) x))) (fun u hu=>by exact field_mul f cu.p d (fad cu.p (fml cu.p x x) cu.a) x u (fad_lt _ _ HK.out.1) (HX.out) (HF.out.up (gT _ _ _ D2.out.1 hu))) ?_
 refine gK (.pointer (some ⟨c,0,none⟩)) ?_
 refine gK (.pointer (some ⟨c,0,none⟩)) ?_
 refine gK (.pointer (some ⟨c,0,none⟩)) ?_
 refine gK (.pointer (some ⟨c,19,none⟩)) ?_
 refine lN rfl (.tmp 28) rfl c 19 (by kernel_rfl) cu.b (fun u hu=>grows_at HCB.out (gT _ _ _ D2.out.1 hu)) (cuc_b cu f) ?_
 refine fG rfl 73 (.func 73) #[.tmp 10,.tmp 24,.tmp 29] #[85,27,27] rfl #[] #[.pointer (some ⟨f,0,none⟩),.agg (nc (fml cu.p (fad cu.p (fml cu.p x x) cu.a) x)),.agg (nc cu.b)] (by kernel_rfl) (by kernel_rfl) (fun u=>cE _ _ _ _ u Tryz.func73 (by kernel_rfl) (by kernel_rfl)) (.agg (nc (fad cu.p (fml cu.p (fad cu.p (fml cu.p x x) cu.a) x) cu.b))) (fun u hu=>by exact field_add f cu.p d (fml cu.p (fad cu.p (fml cu.p x x) cu.a) x) cu.b u (fml_lt _ _ HK.out.1) (HK.out.2.2.1) (HF.out.up (gT _ _ _ D2.out.1 hu))) ?_
 refine gN ?_
 try simp only [Act.put,s_,t_,u_,v_,x_,y_]
 refine gS (rs:=[21]) (by kernel_rfl) (by decide) (fun w3 hg6=>?_)
 have Nw3:=Hd (D2.out.grow hg6)
 clear hg6 D2
 refine wpAny_ready (rs:=[21]) (by kernel_rfl) (by simp) ?_
 refine AllReady.cons rfl (fun K hK=>?_) AllReady.nil
 refine sK rfl 27 (.tmp 4) (.tmp 30) rfl (g+1) rfl _ _ _ rfl (Nw3.out.at 1 rfl) (by rw [nS]; kernel_rfl) (by rw [nS,nS]) (nO _) (fun w4 hw hb hs=>hK _ _ ?_)
 have Nw4:=Hd (Nw3.out.store 1 rfl hb hs hw)
 clear hK hw hb hs Nw3
 try simp only [Act.put,s_,t_,u_,v_,x_,y_]
 refine wpAny_done (by kernel_rfl) ?_ _
 try simp only [Act.put,s_,t_,u_,v_,x_,y_]
 go_wp2_with (fail)
 refine bodyPost_ret (results_N rfl _ _ (g+1) _ _ _ rfl (Nw4.out.at 1 rfl)) rfl ⟨by first | rfl | simp only [*],Nw4.out.below⟩
theorem results_J {fn:Func} {p:Tmp} (h:fn.results=#[.cell p 111]) (tmps:Array Value) (w:World) (g:Nat) (t:TypeId) (x y z:Nat) (fr:Nat × Nat) (hp:tmps.getD p undef=.pointer (some ⟨g,0,none⟩)) (hg:w.heap[g]?=some (.cells (pc x y z) t fr)) :
  (results fn tmps).run Tryz.prog w=.ok (.agg (pc x y z)) w:=
 results_blk h tmps w g t (pc x y z) fr _ hp hg Tryz.underlying111 rfl (by rw [pc_size]; kernel_rfl)
theorem results_O {fn:Func} {p:Tmp} (h:fn.results=#[.cell p 41]) (tmps:Array Value) (w:World) (g:Nat) (t:TypeId) (x y:Nat) (b:Bool) (fr:Nat × Nat) (hp:tmps.getD p undef=.pointer (some ⟨g,0,none⟩)) (hg:w.heap[g]?=some (.cells (ptc x y b) t fr)) :
  (results fn tmps).run Tryz.prog w=.ok (.agg (ptc x y b)) w:=
 results_blk h tmps w g t (ptc x y b) fr _ hp hg Tryz.underlying41 rfl (by rw [pS]; kernel_rfl)
theorem curve_none (w:World):Calls Tryz.prog 96 #[] w fun e w'=>e=.returned (.agg (pc 0 1 0))∧Below w.heap.size w w':=by
 go_enter Tryz.func96,Tryz.ntmps96
 go_upto_region 1 with fail
 rw [← pc_zero]
 have m0:=Mem.start1 w (pc 0 0 0) 111
 obtain ⟨w1,hw1⟩:∃ w1:World,w1=(w.alloc (.cells (pc 0 0 0) 111)):=⟨_,rfl⟩
 rw [← hw1] at m0 ⊢
 clear hw1
 obtain ⟨g,hg⟩:∃ g,g=w.heap.size:=⟨_,rfl⟩
 rw [← hg] at m0 ⊢
 have HG:=Hd hg
 have M:=Hd m0
 clear hg m0
 go_wp2_with (first
  | (go_at_call 47; refine (nat_small 1 w1 (by decide)).mono ?_; rintro e w2 ⟨rfl,hb⟩; have Nw2:=Hd (show Mem w w2 [(g,pc 0 0 0,111)] from M.out.grow hb); clear hb M)
  | (refine wpList_built rfl 111 #[(1,.tmp 1)] rfl ((pc 0 1 0)) (by kernel_rfl) ?_)
  | (refine sB rfl 111 (.tmp 0) (.tmp 2) rfl g rfl _ _ (pc 0 1 0) rfl (Nw2.out.at 0 rfl) (by rw [pc_size]; kernel_rfl) (by rw [pc_size,pc_size]) (pc_one _ _ _) ?_; intro w3 hw hb hs; have Nw3:=Hd (show Mem w w3 [(g,pc 0 1 0,111)] from Nw2.out.store 0 rfl hb hs hw); clear hw hb hs Nw2))
 refine bodyPost_ret (results_J rfl _ _ g _ _ _ _ _ rfl (Nw3.out.at 0 rfl)) rfl ⟨by first | rfl | simp only [*],Nw3.out.below⟩
theorem curve_triple_true (x y:Nat) (w:World):Calls Tryz.prog 59 #[.agg (ptc x y true)] w fun e w'=>e=.returned (.agg (pc 0 1 0))∧Below w.heap.size w w':=by
 go_enter Tryz.func59,Tryz.ntmps59
 go_upto_region 1 with fail
 rw [← pc_zero]
 have m0:=Mem.start2 w (ptc x y true) (pc 0 0 0) 41 111
 obtain ⟨w1,hw1⟩:∃ w1:World,w1=((w.alloc (.cells (ptc x y true) 41)).alloc (.cells (pc 0 0 0) 111)):=⟨_,rfl⟩
 rw [← hw1] at m0 ⊢
 clear hw1
 obtain ⟨g,hg⟩:∃ g,g=w.heap.size:=⟨_,rfl⟩
 rw [← hg] at m0 ⊢
 have HG:=Hd hg
 have M:=Hd m0
 clear hg m0
 go_wp2_with (first
  | (refine lC rfl 4 (.tmp 3) rfl g 18 rfl (.bool true) _ Tryz.underlying4 rfl ((cO (M.out.at 0 rfl) 18).trans (ptc_inf x y true)) ?_)
  | (go_at_call 96; refine (curve_none w1).mono ?_; rintro e w2 ⟨rfl,hb⟩; have Nw2:=Hd (show Mem w w2 [(g,ptc x y true,41),(g+1,pc 0 0 0,111)] from M.out.grow hb); clear hb M)
  | (refine sB rfl 111 (.tmp 2) (.tmp 5) rfl (g+1) rfl _ _ (pc 0 1 0) rfl (Nw2.out.at 1 rfl) (by rw [pc_size]; kernel_rfl) (by rw [pc_size,pc_size]) (pc_one _ _ _) ?_; intro w3 hw hb hs; have Nw3:=Hd (show Mem w w3 [(g,ptc x y true,41),(g+1,pc 0 1 0,111)] from Nw2.out.store 1 rfl hb hs hw); clear hw hb hs Nw2))
 refine bodyPost_ret (results_J rfl _ _ (g+1) _ _ _ _ _ rfl (Nw3.out.at 1 rfl)) rfl ⟨by first | rfl | simp only [*],Nw3.out.below⟩
theorem curve_triple_false (x y:Nat) (w:World):Calls Tryz.prog 59 #[.agg (ptc x y false)] w fun e w'=>e=.returned (.agg (pc x y 1))∧Below w.heap.size w w':=by
 go_enter Tryz.func59,Tryz.ntmps59
 go_upto_region 1 with fail
 rw [← pc_zero]
 have m0:=Mem.start2 w (ptc x y false) (pc 0 0 0) 41 111
 obtain ⟨w1,hw1⟩:∃ w1:World,w1=((w.alloc (.cells (ptc x y false) 41)).alloc (.cells (pc 0 0 0) 111)):=⟨_,rfl⟩
 rw [← hw1] at m0 ⊢
 clear hw1
 obtain ⟨g,hg⟩:∃ g,g=w.heap.size:=⟨_,rfl⟩
 rw [← hg] at m0 ⊢
 have HG:=Hd hg
 have M:=Hd m0
 clear hg m0
 go_upto_region 3 with (first
  | (refine lC rfl 4 (.tmp 3) rfl g 18 rfl (.bool false) _ Tryz.underlying4 rfl ((cO (M.out.at 0 rfl) 18).trans (ptc_inf x y false)) ?_))
 rename_i Q' hT K0 hK0
 have fin:∀ (T:Array Value) (u:World),T.getD 2 undef=.pointer (some ⟨g+1,0,none⟩)→u.heap[g+1]?=some (.cells (pc x y 1) 111 (0,0))→Below w.heap.size w u→K0 { tmps:=T,defers:=[] } u:=fun T u h1 h2 h3=>hK0 _ _ (by
  go_wp2_with (fail)
  exact bodyPost_ret (results_J rfl T u (g+1) _ _ _ _ _ h1 h2) rfl ⟨rfl,h3⟩)
 have hQQ:∀ (d:Option Tmp) (v:Value) (c:List PanicEntry) (a:Act) (w:World),Exit.then K0 Q' (.panic c) (a.put d v) w→Exit.then K0 Q' (.panic c) a w:=fun d v c a w h=>by cases d <;> exact h
 clear hK0
 clear_value Q'
 have D2:=Hd (M.out.drew)
 clear M
 refine rGw 6 6 (by kernel_rfl) (by kernel_rfl) hQQ ?_
 simp only [List.take_succ_cons,List.take_zero]
 refine gK (.pointer (some ⟨g,0,none⟩)) ?_
 refine lN rfl (.tmp 6) rfl g 0 (by kernel_rfl) x (fun u hu=>D2.out.up 0 rfl hu) (ptc_x x y false) ?_
 refine gK (.pointer (some ⟨g,9,none⟩)) ?_
 refine lN rfl (.tmp 8) rfl g 9 (by kernel_rfl) y (fun u hu=>D2.out.up 0 rfl hu) (ptc_y x y false) ?_
 refine fG rfl 47 (.func 47) #[.const (.int .i64 1)] #[3] rfl #[] #[.int .i64 1] (by kernel_rfl) (by kernel_rfl) (fun u=>cE _ _ _ _ u Tryz.func47 (by kernel_rfl) (by kernel_rfl)) (.agg (nc 1)) (fun u hu=>by exact nat_small 1 u (by decide)) ?_
 refine wpGrow_built rfl 111 #[(0,.tmp 7),(1,.tmp 9),(2,.tmp 10)] rfl ((pc x y 1)) (by kernel_rfl) ?_
 refine gN ?_
 try simp only [Act.put,s_,t_,u_,v_,x_,y_]
 refine gS (rs:=[6]) (by kernel_rfl) (by decide) (fun w3 hg6=>?_)
 have Nw3:=Hd (D2.out.grow hg6)
 clear hg6 D2
 refine wpAny_ready (rs:=[6]) (by kernel_rfl) (by simp) ?_
 refine AllReady.cons rfl (fun K hK=>?_) AllReady.nil
 refine sK rfl 111 (.tmp 2) (.tmp 11) rfl (g+1) rfl _ _ _ rfl (Nw3.out.at 1 rfl) (by rw [pc_size]; kernel_rfl) (by rw [pc_size,pc_size]) (pc_one _ _ _) (fun w4 hw hb hs=>hK _ _ ?_)
 have Nw4:=Hd (Nw3.out.store 1 rfl hb hs hw)
 clear hK hw hb hs Nw3
 try simp only [Act.put,s_,t_,u_,v_,x_,y_]
 refine wpAny_done (by kernel_rfl) ?_ _
 try simp only [Act.put,s_,t_,u_,v_,x_,y_]
 exact fin _ _ rfl (Nw4.out.at 1 rfl) Nw4.out.below
def OnC (cu:Cv) (x y:Nat) (b:Bool):Prop:=(b=true∧x=0∧y=0)∨(b=false∧x<cu.p∧y<cu.p∧fml cu.p y y=rgt cu x)
theorem curve_on (c f d x y:Nat) (b:Bool) (cu:Cv) (w:World) (hon:OnC cu x y b) (H:CurveAt w c f d cu):Calls Tryz.prog 49 #[.pointer (some ⟨c,0,none⟩),.agg (ptc x y b)] w fun e w'=>e=.returned (.bool true)∧Below w.heap.size w w':=by
 obtain ⟨hk,hfd,hcb⟩:=H
 have HK:=Hd hk
 have HF:=Hd hfd
 have HCB:=Hd hcb
 rcases hon with ⟨rfl,rfl,rfl⟩ | ⟨rfl,hx,hy,he⟩
 ·clear hk hfd hcb
  have heq:=fun w=>eq_point 0 0 0 0 true true (pw_pos 9) (pw_pos 9) (pw_pos 9) (pw_pos 9) w
  rw [show decide ((0:Nat)=0∧(0:Nat)=0∧true=true)=true from rfl] at heq
  go_enter Tryz.func49,Tryz.ntmps49
  go_upto_region 1 with fail
  have m0:=Mem.start1 w (ptc 0 0 true) 41
  obtain ⟨w1,hw1⟩:∃ w1:World,w1=(w.alloc (.cells (ptc 0 0 true) 41)):=⟨_,rfl⟩
  rw [← hw1] at m0 ⊢
  clear hw1
  obtain ⟨g,hg⟩:∃ g,g=w.heap.size:=⟨_,rfl⟩
  rw [← hg] at m0 ⊢
  have HG:=Hd hg
  have M:=Hd m0
  clear hg m0
  go_wp2_with (first
   | (refine lC rfl 4 (.tmp 5) rfl g 18 rfl (.bool true) _ Tryz.underlying4 rfl ((cO (M.out.at 0 rfl) 18).trans (ptc_inf 0 0 true)) ?_)
   | (refine lS rfl 41 (.tmp 3) rfl g 0 19 rfl _ _ (ptc 0 0 true) _ _ (M.out.at 0 rfl) Tryz.underlying41 rfl (by kernel_rfl) (pS _ _ _) (fun j hj=>by rw [Nat.zero_add]) ?_)
   | (refine wpList_built rfl 41 #[(2,.const (.bool true))] rfl ((ptc 0 0 true)) (by kernel_rfl) ?_))
  go_ret
  exact ⟨rfl,M.out.below⟩
 ·have hp9:=hfd.1
  have HX:=Hd hx
  have HY:=Hd hy
  have HE:=Hd he
  have HP9:=Hd hp9
  clear hk hfd hcb hx hy he hp9
  go_enter Tryz.func49,Tryz.ntmps49
  go_upto_region 1 with fail
  have m0:=Mem.start1 w (ptc x y false) 41
  obtain ⟨w1,hw1⟩:∃ w1:World,w1=(w.alloc (.cells (ptc x y false) 41)):=⟨_,rfl⟩
  rw [← hw1] at m0 ⊢
  clear hw1
  obtain ⟨g,hg⟩:∃ g,g=w.heap.size:=⟨_,rfl⟩
  rw [← hg] at m0 ⊢
  have HG:=Hd hg
  have M:=Hd m0
  clear hg m0
  go_upto_region 3 with (first
   | (refine lC rfl 4 (.tmp 5) rfl g 18 rfl (.bool false) _ Tryz.underlying4 rfl ((cO (M.out.at 0 rfl) 18).trans (ptc_inf x y false)) ?_))
  have D2:=Hd (M.out.drew)
  clear M
  refine rGw 33 33 (by kernel_rfl) (by kernel_rfl) (fun d v c a w h=>by cases d <;> exact h) ?_
  simp only [List.take_succ_cons,List.take_zero]
  refine gK (.pointer (some ⟨c,0,none⟩)) ?_
  refine gK (.pointer (some ⟨c,0,none⟩)) ?_
  refine gK (.pointer (some ⟨c,59,none⟩)) ?_
  refine wpGrow_load_cell rfl 85 (.tmp 12) rfl c 59 (by kernel_rfl) (.pointer (some ⟨f,0,none⟩)) _ Tryz.underlying85 rfl (fun u hu=>(cO (grows_at HCB.out (gT _ _ _ D2.out.1 hu)) 59).trans (cuc_f cu f)) ?_
  refine gK (.pointer (some ⟨g,0,none⟩)) ?_
  refine lN rfl (.tmp 14) rfl g 0 (by kernel_rfl) x (fun u hu=>D2.out.up 0 rfl hu) (ptc_x x y false) ?_
  refine fG rfl 88 (.func 88) #[.tmp 13,.tmp 15] #[85,27] rfl #[] #[.pointer (some ⟨f,0,none⟩),.agg (nc x)] (by kernel_rfl) (by kernel_rfl) (fun u=>cE _ _ _ _ u Tryz.func88 (by kernel_rfl) (by kernel_rfl)) (.bool true) (fun u hu=>by exact (by have hh:=field_has f cu.p d x u (Nat.lt_trans (HX.out) HP9.out) (HF.out.up (gT _ _ _ D2.out.1 hu)); rw [decide_eq_true (HX.out)] at hh; exact hh)) ?_
  refine gK (.bool true) ?_
  try simp only [Act.put,s_,t_,u_,v_,x_,y_]
  refine gK (.pointer (some ⟨c,0,none⟩)) ?_
  try simp only [Act.put,s_,t_,u_,v_,x_,y_]
  refine gK (.pointer (some ⟨c,0,none⟩)) ?_
  try simp only [Act.put,s_,t_,u_,v_,x_,y_]
  refine gK (.pointer (some ⟨c,59,none⟩)) ?_
  try simp only [Act.put,s_,t_,u_,v_,x_,y_]
  refine wpGrow_load_cell rfl 85 (.tmp 20) rfl c 59 (by kernel_rfl) (.pointer (some ⟨f,0,none⟩)) _ Tryz.underlying85 rfl (fun u hu=>(cO (grows_at HCB.out (gT _ _ _ D2.out.1 hu)) 59).trans (cuc_f cu f)) ?_
  try simp only [Act.put,s_,t_,u_,v_,x_,y_]
  refine gK (.pointer (some ⟨g,9,none⟩)) ?_
  try simp only [Act.put,s_,t_,u_,v_,x_,y_]
  refine lN rfl (.tmp 22) rfl g 9 (by kernel_rfl) y (fun u hu=>D2.out.up 0 rfl hu) (ptc_y x y false) ?_
  try simp only [Act.put,s_,t_,u_,v_,x_,y_]
  refine fG rfl 88 (.func 88) #[.tmp 21,.tmp 23] #[85,27] rfl #[] #[.pointer (some ⟨f,0,none⟩),.agg (nc y)] (by kernel_rfl) (by kernel_rfl) (fun u=>cE _ _ _ _ u Tryz.func88 (by kernel_rfl) (by kernel_rfl)) (.bool true) (fun u hu=>by exact (by have hh:=field_has f cu.p d y u (Nat.lt_trans (HY.out) HP9.out) (HF.out.up (gT _ _ _ D2.out.1 hu)); rw [decide_eq_true (HY.out)] at hh; exact hh)) ?_
  refine gK (.bool true) ?_
  refine gK (.bool true) ?_
  try simp only [Act.put,s_,t_,u_,v_,x_,y_]
  refine gK (.pointer (some ⟨c,0,none⟩)) ?_
  try simp only [Act.put,s_,t_,u_,v_,x_,y_]
  refine gK (.pointer (some ⟨c,0,none⟩)) ?_
  try simp only [Act.put,s_,t_,u_,v_,x_,y_]
  refine gK (.pointer (some ⟨c,59,none⟩)) ?_
  try simp only [Act.put,s_,t_,u_,v_,x_,y_]
  refine wpGrow_load_cell rfl 85 (.tmp 29) rfl c 59 (by kernel_rfl) (.pointer (some ⟨f,0,none⟩)) _ Tryz.underlying85 rfl (fun u hu=>(cO (grows_at HCB.out (gT _ _ _ D2.out.1 hu)) 59).trans (cuc_f cu f)) ?_
  try simp only [Act.put,s_,t_,u_,v_,x_,y_]
  refine gK (.pointer (some ⟨g,9,none⟩)) ?_
  try simp only [Act.put,s_,t_,u_,v_,x_,y_]
  refine lN rfl (.tmp 31) rfl g 9 (by kernel_rfl) y (fun u hu=>D2.out.up 0 rfl hu) (ptc_y x y false) ?_
  try simp only [Act.put,s_,t_,u_,v_,x_,y_]
  refine gK (.pointer (some ⟨g,9,none⟩)) ?_
  try simp only [Act.put,s_,t_,u_,v_,x_,y_]
  refine lN rfl (.tmp 33) rfl g 9 (by kernel_rfl) y (fun u hu=>D2.out.up 0 rfl hu) (ptc_y x y false) ?_
  try simp only [Act.put,s_,t_,u_,v_,x_,y_]
  refine fG rfl 89 (.func 89) #[.tmp 30,.tmp 32,.tmp 34] #[85,27,27] rfl #[] #[.pointer (some ⟨f,0,none⟩),.agg (nc y),.agg (nc y)] (by kernel_rfl) (by kernel_rfl) (fun u=>cE _ _ _ _ u Tryz.func89 (by kernel_rfl) (by kernel_rfl)) (.agg (nc (fml cu.p y y))) (fun u hu=>by exact field_mul f cu.p d y y u (HY.out) (HY.out) (HF.out.up (gT _ _ _ D2.out.1 hu))) ?_
  try simp only [Act.put,s_,t_,u_,v_,x_,y_]
  refine gK (.pointer (some ⟨c,0,none⟩)) ?_
  try simp only [Act.put,s_,t_,u_,v_,x_,y_]
  refine gK (.pointer (some ⟨g,0,none⟩)) ?_
  try simp only [Act.put,s_,t_,u_,v_,x_,y_]
  refine lN rfl (.tmp 37) rfl g 0 (by kernel_rfl) x (fun u hu=>D2.out.up 0 rfl hu) (ptc_x x y false) ?_
  try simp only [Act.put,s_,t_,u_,v_,x_,y_]
  refine fG rfl 90 (.func 90) #[.tmp 36,.tmp 38] #[70,27] rfl #[] #[.pointer (some ⟨c,0,none⟩),.agg (nc x)] (by kernel_rfl) (by kernel_rfl) (fun u=>cE _ _ _ _ u Tryz.func90 (by kernel_rfl) (by kernel_rfl)) (.agg (nc (rgt cu x))) (fun u hu=>by exact curve_right c f d x cu u HX.out ⟨HK.out,HF.out.up (gT _ _ _ D2.out.1 hu),grows_at HCB.out (gT _ _ _ D2.out.1 hu)⟩) ?_
  try simp only [Act.put,s_,t_,u_,v_,x_,y_]
  refine wpGrow_want rfl (.bool true) (fun u hu=>by have hh:=fun w=>eq_nat (fml cu.p y y) (rgt cu x) (Nat.lt_trans (fml_lt _ _ HK.out.1) HP9.out) (Nat.lt_trans (rgt_lt _ HK.out) HP9.out) w; rw [decide_eq_true HE.out] at hh; go_simp) ?_
  refine gK (.bool true) ?_
  refine gK (.bool true) ?_
  refine gN ?_
  try simp only [Act.put,s_,t_,u_,v_,x_,y_]
  intro w3 hg6
  refine ⟨by kernel_rfl,?_⟩
  have Nw3:=Hd (D2.out.grow hg6)
  clear hg6 D2
  try simp only [Act.put,s_,t_,u_,v_,x_,y_]
  go_wp2_with (fail)
  go_ret
  exact ⟨rfl,Nw3.out.below⟩
end Go.Proofs.YtkoonhiplicbkaaGreat.Cw
