/-
  (package mont) may, To, From, Mul, Inv. Condition: a modulus's block; numbers below the modulus.
  (package curve) Bytes, Key. Condition: an opened curve, a number of nine words.
-/
import Derived.Test.YtkoonhiplicbkaaGreatPk34
import Derived.Test.YtkoonhiplicbkaaGreatPk32
set_option linter.unusedSimpArgs false
set_option linter.unusedVariables false
set_option maxHeartbeats 4000000
set_option maxRecDepth 100000
namespace Go.Proofs.YtkoonhiplicbkaaGreat.Cw
open Go Go.RowKit
attribute [local irreducible] nc mtc
attribute [local go_sem ↓ high] wn_eql wn_neq wn_lss wn_gtr wn_leq wn_geq wn_cells wRS wn_guard lit0 lit1
attribute [local go_sem high] wn_match wRS wn_eql wn_neq wn_lss wn_gtr wn_leq wn_geq
theorem info_nat:∃ i z,Tryz.prog.info? 27=some i∧i.zero=some z∧i.size=9∧z.cells.size=9:=by
 have h:(Tryz.prog.info? 27).map (fun i=>(i.zero,i.size))=some (some (.agg #[wn 0,wn 0,wn 0,wn 0,wn 0,wn 0,wn 0,wn 0,wn 0]),9):=by kernel_rfl
 obtain ⟨ie,h1,h2⟩:=Option.map_eq_some_iff.1 h
 injection h2 with h3 h4
 exact ⟨ie,_,h1,h3,h4,by kernel_rfl⟩
theorem wpList_slice2 {P:Program} {ops:Array Oper} {rest:List Oper} {o:Oper} {a:Act} {w:World} {Q:Exit→Act→World→Prop} (hgd:o.guard=none) (t e:TypeId) (x y:Operand) (ho:o.op=.buildSlice t 2 #[(0,x),(1,y)]) (v1 v2:Value) (hx:a.eval x=v1) (hy:a.eval y=v2) (ie:TypeInfo) (z:Value) (n:Nat) (hn:0<n) (hn2:n≤2 ^ 23)
  (hu:P.underlying t=some (.slice e)) (hie:P.info? e=some ie) (hz:ie.zero=some z) (hsz:ie.size=n) (hzs:z.cells.size=n) (h1:v1.cells.size=n) (h2:v2.cells.size=n)
  (h:∀ x w',w.heap.size=x→x<w'.heap.size→Grows w w'→w'.heap[x]?=some (.cells (v1.cells++v2.cells) e (0,0))→wpList P ops Q rest (a.put o.dst (.slice (some ⟨x,0,none⟩) 2 2)) w'):wpList P ops Q (o::rest) a w:=
 wpList_plain hgd fun _ hK=>by
  refine wp_buildSlice t e 2 #[(0,x),(1,y)] ho (v1.cells++v2.cells) ie z hu hie hz (by rw [hsz]; omega) (by rw [hsz]; omega) ?_ (hK _ _ (h _ _ rfl (by simp) (grows_alloc _ _) (new1 _ _)))
  rw [hsz]
  have e1:(Array.map (fun (y:Nat × Operand)=>(y.1,a.eval y.2)) #[(0,x),(1,y)]).toList=[(0,v1),(1,v2)]:=by simp [hx,hy]
  refine (congrArg _ e1).trans ?_
  have:=Great.fill_whole (s:=n) hn [v1,v2] ((Array.range (2*n)).map (z.cells[·%z.cells.size]!)) (fun u hu=>by simp at hu; rcases hu with rfl | rfl <;> assumption) (by simp)
  have e2:(v1.cells.toList++v2.cells.toList).toArray=v1.cells++v2.cells:=by apply Array.toList_inj.1; simp
  rw [← e2]
  simpa using this
theorem mont_may (x m n less s k:Nat) (av:Nat→Nat) (C:Array Value) (ts:TypeId) (fs:Nat × Nat) (w:World) (H:MtAt w x m n less) (hk:k≤100) (hs:w.heap[s]?=some (.cells C ts fs)) (hc:∀ i,i<k→∀ j,j<9→C[i*9+j]?=some (wn (dig (av i) j))) (hl:∀ i,i<k→av i<m) :
  Calls Tryz.prog 110 #[.pointer (some ⟨x,0,none⟩),.slice (some ⟨s,0,none⟩) k k] w fun e w'=>e=.returned (.int .i64 0)∧Below w.heap.size w w':=by
 have HM:=Hd H
 have HXB:=Hd H.2
 have M9:=Hd H.m9
 have HRR:=Hd (show pw n*pw n%m<m from Nat.mod_lt _ (by have:=H.1.2.2.2.2; omega))
 clear H
 have HS:=Hd hs
 have HC:=Hd hc
 have HL:=Hd hl
 clear hs hc hl
 go_enter Tryz.func110,Tryz.ntmps110
 go_upto_region 1 with fail
 have M:=Hd (Mem.nil w)
 refine wp_region_lit ?_
 refine pL rfl (.pointer (some ⟨x,0,none⟩)) (fun u=>by kernel_rfl) ?_
 refine pL rfl (.bool false) (fun u=>by kernel_rfl) ?_
 refine wpList_nil ?_
 try simp only [Act.put,s_,t_,u_,v_,x_,y_]
 go_upto_region 3 with (fail)
 refine wp_region_lit ?_
 refine pL rfl (.slice (some ⟨s,0,none⟩) k k) (fun u=>by kernel_rfl) ?_
 refine pL rfl (.int .i64 (k:Int)) (fun u=>by kernel_rfl) ?_
 refine pL rfl (.int .i64 0) (fun u=>by kernel_rfl) ?_
 refine wpList_nil ?_
 try simp only [Act.put,s_,t_,u_,v_,x_,y_]
 go_upto_region 4 with (fail)
 go_loopw [11] (fun iv wr=>∃ i:Nat,i≤k∧iv=.int .i64 (i:Int)∧Mem w wr []) (fun iv _=>(k - intOf iv).toNat)
 case atStart=>exact ⟨0,Nat.zero_le _,rfl,M.out⟩
 case round=>
  obtain ⟨i,hi,rfl,hm⟩:=hrel
  have M:=Hd hm
  clear hm
  by_cases hlt:i<k
  ·go_upto_region 5 with (fail)
   have hai:=Hd (HL.out i hlt)
   have HAI:=Hd (show av i<pw 9 from Nat.lt_trans hai.out M9.out)
   have hlI:i<k:=hlt
   refine wp_region_lit ?_
   try simp only [Act.put,s_,t_,u_,v_,x_,y_]
   refine pL rfl (.pointer (some ⟨s,(i*9),none⟩)) (fun u=>(idx_slice 222 (.tmp 9) (.tmp 11) rfl s k k i 9 (by kernel_rfl) (by kernel_rfl) hlI Tryz.underlying222 (by kernel_rfl) u)) ?_
   refine wpN_load rfl (.tmp 13) rfl s (i*9) (by kernel_rfl) (grows_at HS.out M.out.1) ((av i)) (fun j hj=>HC.out i hlt j hj) ?_
   refine nL rfl 27 rfl (.agg (nc 0)) (by rw [nZ]; kernel_rfl) ?_
   intro y w2 hx hx2 hgv hh
   have Nw2:=Hd (show Mem w w2 [(y,nc 0,27)] from M.out.new hgv (Nat.le_of_eq hx) hh)
   clear hx hx2 hgv hh M
   refine sB rfl 27 (.tmp 6) (.tmp 14) rfl y (by kernel_rfl) _ _ (nc ((av i))) (by kernel_rfl) (Nw2.out.at 0 rfl) (by rw [nS]; kernel_rfl) (by simp only [nS]) (nO _) ?_
   intro w3 hw hb hs
   have Nw3:=Hd (Nw2.out.store 0 rfl hb hs hw)
   clear hw hb hs Nw2
   refine wpList_nil ?_
   try simp only [Act.put,s_,t_,u_,v_,x_,y_]
   go_upto_region 6 with (fail)
   have D4:=Hd (Nw3.out.drew)
   clear Nw3
   refine rGw 7 7 (by kernel_rfl) (by kernel_rfl) (fun d v c a w h=>by cases d <;> exact h) ?_
   simp only [List.take_succ_cons,List.take_zero]
   refine lG rfl (.tmp 6) rfl y (by kernel_rfl) (fun u hu=>D4.out.up 0 rfl hu) ?_
   refine pG rfl (.pointer (some ⟨x,0,none⟩)) (fun u=>by kernel_rfl) ?_
   refine pG rfl (.pointer (some ⟨x,0,none⟩)) (fun u=>by kernel_rfl) ?_
   refine pG rfl (.pointer (some ⟨x,0,none⟩)) (fun u=>by kernel_rfl) ?_
   refine lN rfl (.tmp 18) rfl x 0 (by kernel_rfl) m (fun u hu=>grows_at HXB.out (gT _ _ _ D4.out.1 hu)) (fun j hj=>mtc_m _ _ _ _ j hj) ?_
   refine fG rfl 60 (.func 60) #[.tmp 15,.tmp 19] #[27,27] rfl #[] #[.agg (nc ((av i))),.agg (nc m)] (by kernel_rfl) (by kernel_rfl) (fun u=>cE _ _ _ _ u Tryz.func60 (by kernel_rfl) (by kernel_rfl)) (.int .i64 (cmpN (av i) m)) (fun u hu=>by exact nat_cmp (av i) m u HAI.out M9.out) ?_
   refine pG rfl (.bool false) (fun u=>by exact run_bini _ _ _ _ _ rfl (cmpN (av i) m) 0 (by kernel_rfl) (by kernel_rfl) (cmp_geq hai.out) u) ?_
   refine gN ?_
   try simp only [Act.put,s_,t_,u_,v_,x_,y_]
   intro w5 hg6
   refine ⟨by kernel_rfl,?_⟩
   have Nw5:=Hd (D4.out.grow hg6)
   clear hg6 D4
   try simp only [Act.put,s_,t_,u_,v_,x_,y_]
   go_wp2_with (fail)
   exact ⟨⟨i+1,by omega,by go_num,Nw5.out.take 0⟩,by simp [intOf]; omega⟩
  ·obtain rfl:i=k:=by omega
   go_wp2_with (fail)
   go_ret
   exact ⟨rfl,M.out.below⟩
theorem two_nats (a b:Nat):∀ i,i<2→∀ j,j<9→(nc a++nc b)[i*9+j]?=some (wn (dig (if i=0 then a else b) j)):=fun i hi j hj=>by
 rcases (show i=0∨i=1 by omega) with rfl | rfl
 ·rw [Array.getElem?_append_left (by rw [nS]; omega),Nat.zero_mul,Nat.zero_add]; exact nc_get _ _ hj
 ·rw [Array.getElem?_append_right (by rw [nS]; omega),nS,show 1*9+j - 9=j by omega]; exact nc_get _ _ hj
theorem mont_to (x m n less a:Nat) (w:World) (H:MtAt w x m n less) (ha:a<m):Calls Tryz.prog 80 #[.pointer (some ⟨x,0,none⟩),.agg (nc a)] w fun e w'=>e=.returned (.tuple #[.agg (nc (mraw 18446744073709551616 m less n a (pw n*pw n%m))),.int .i64 0])∧Below w.heap.size w w':=by
 have HM:=Hd H
 have HXB:=Hd H.2
 have M9:=Hd H.m9
 have HRR:=Hd (show pw n*pw n%m<m from Nat.mod_lt _ (by have:=H.1.2.2.2.2; omega))
 clear H
 have HA:=Hd ha
 have A9:=Hd (show a<pw 9 from Nat.lt_trans ha M9.out)
 clear ha
 go_enter Tryz.func80,Tryz.ntmps80
 go_upto_region 1 with fail
 rw [← nZ]
 have m0:=Mem.start2 w (nc a) (nc 0) 27 27
 obtain ⟨w1,hw1⟩:∃ w1:World,w1=((w.alloc (.cells (nc a) 27)).alloc (.cells (nc 0) 27)):=⟨_,rfl⟩
 rw [← hw1] at m0 ⊢
 clear hw1
 obtain ⟨g,hg⟩:∃ g,g=w.heap.size:=⟨_,rfl⟩
 rw [← hg] at m0 ⊢
 have HG:=Hd hg
 have M:=Hd m0
 clear hg m0
 obtain ⟨ie,z,hie,hz,hsz,hzs⟩:=info_nat
 go_upto_region 1 with (fail)
 refine wp_region_lit ?_
 refine pL rfl (.pointer (some ⟨x,0,none⟩)) (fun u=>by kernel_rfl) ?_
 refine l0N rfl (.tmp 3) rfl g (by kernel_rfl) (M.out.at 0 rfl) ?_
 refine wpList_slice1 rfl 222 27 (.tmp 8) rfl (.agg (nc a)) (by kernel_rfl) ie z 9 (by decide) (by decide) Tryz.underlying222 hie hz hsz hzs (nS _) ?_
 intro sl w2 hx hx2 hgv hh
 have Nw2:=Hd (show Mem w w2 [(g,nc a,27),(g+1,nc 0,27),(sl,nc a,27)] from M.out.new hgv (Nat.le_of_eq hx) hh)
 clear hx hx2 hgv hh M
 refine fL rfl 110 (.func 110) #[.tmp 7,.tmp 9] #[73,222] rfl #[] #[.pointer (some ⟨x,0,none⟩),.slice (some ⟨sl,0,none⟩) 1 1] (by kernel_rfl) (by kernel_rfl) (fun u=>cE _ _ _ _ u Tryz.func110 (by kernel_rfl) (by kernel_rfl)) (.int .i64 0) (mont_may x m n less sl 1 (fun _=>a) _ _ _ w2 (HM.out.up Nw2.out.1) (by decide) (Nw2.out.at 2 rfl) (fun i hi j hj=>by obtain rfl:i=0:=(by omega); rw [Nat.zero_mul,Nat.zero_add]; exact nc_get _ j hj) (fun i hi=>HA.out)) (fun w3 hb=>?_)
 have Nw3:=Hd (Nw2.out.grow hb)
 clear hb Nw2
 refine pL rfl (.int .i64 0) (fun u=>by kernel_rfl) ?_
 refine wpList_nil ?_
 try simp only [Act.put,s_,t_,u_,v_,x_,y_]
 go_upto_region 2 with (fail)
 refine wp_region_lit ?_
 refine pL rfl (.int .i64 0) (fun u=>by kernel_rfl) ?_
 refine pL rfl (.bool false) (fun u=>by kernel_rfl) ?_
 refine wpList_nil ?_
 try simp only [Act.put,s_,t_,u_,v_,x_,y_]
 go_upto_region 4 with (fail)
 have D4:=Hd (Nw3.out.drew)
 clear Nw3
 refine rGw 7 7 (by kernel_rfl) (by kernel_rfl) (fun d v c a w h=>by cases d <;> exact h) ?_
 simp only [List.take_succ_cons,List.take_zero]
 refine pG rfl (.pointer (some ⟨x,0,none⟩)) (fun u=>by kernel_rfl) ?_
 refine lG rfl (.tmp 3) rfl g (by kernel_rfl) (fun u hu=>D4.out.up 0 rfl hu) ?_
 refine pG rfl (.pointer (some ⟨x,0,none⟩)) (fun u=>by kernel_rfl) ?_
 refine pG rfl (.pointer (some ⟨x,0,none⟩)) (fun u=>by kernel_rfl) ?_
 refine pG rfl (.pointer (some ⟨x,11,none⟩)) (fun u=>by kernel_rfl) ?_
 refine lN rfl (.tmp 19) rfl x 11 (by kernel_rfl) ((pw n*pw n%m)) (fun u hu=>grows_at HXB.out (gT _ _ _ D4.out.1 hu)) (fun j hj=>mtc_rr _ _ _ _ j hj) ?_
 refine fG rfl 111 (.func 111) #[.tmp 15,.tmp 16,.tmp 20] #[73,27,27] rfl #[] #[.pointer (some ⟨x,0,none⟩),.agg (nc a),.agg (nc ((pw n*pw n%m)))] (by kernel_rfl) (by kernel_rfl) (fun u=>cE _ _ _ _ u Tryz.func111 (by kernel_rfl) (by kernel_rfl)) (.agg (nc ((mraw 18446744073709551616 m less n a ((pw n*pw n%m)))))) (fun u hu=>by exact mont_raw x m n less a ((pw n*pw n%m)) u (HM.out.up (gT _ _ _ D4.out.1 hu)) (A9.out) (HRR.out)) ?_
 refine gN ?_
 try simp only [Act.put,s_,t_,u_,v_,x_,y_]
 refine gS (rs:=[7]) (by kernel_rfl) (by decide) (fun w5 hg6=>?_)
 have Nw5:=Hd (D4.out.grow hg6)
 clear hg6 D4
 refine wpAny_ready (rs:=[7]) (by kernel_rfl) (by simp) ?_
 refine AllReady.cons rfl (fun K hK=>?_) AllReady.nil
 refine sK rfl 27 (.tmp 4) (.tmp 21) rfl (g+1) rfl _ _ _ rfl (Nw5.out.at 1 rfl) (by rw [nS]; kernel_rfl) (by simp only [nS]) (nO _) (fun w6 hw hb hs=>hK _ _ ?_)
 have Nw6:=Hd (Nw5.out.store 1 rfl hb hs hw)
 clear hK hw hb hs Nw5
 try simp only [Act.put,s_,t_,u_,v_,x_,y_]
 refine wpAny_ready (rs:=[8]) (by kernel_rfl) (by simp) ?_
 refine AllReady.cons rfl (fun K hK=>?_) AllReady.nil
 go_simp
 refine hK _ _ ?_
 clear hK
 try simp only [Act.put,s_,t_,u_,v_,x_,y_]
 refine wpAny_done (by kernel_rfl) ?_ _
 try simp only [Act.put,s_,t_,u_,v_,x_,y_]
 go_wp2_with (fail)
 refine bodyPost_ret (results_N2 rfl _ _ (g+1) _ _ _ _ rfl rfl (Nw6.out.at 1 rfl)) rfl ⟨rfl,Nw6.out.below⟩
theorem mont_from (x m n less a:Nat) (w:World) (H:MtAt w x m n less) (ha:a<m):Calls Tryz.prog 83 #[.pointer (some ⟨x,0,none⟩),.agg (nc a)] w fun e w'=>e=.returned (.tuple #[.agg (nc (mraw 18446744073709551616 m less n a 1)),.int .i64 0])∧Below w.heap.size w w':=by
 have HM:=Hd H
 have HXB:=Hd H.2
 have M9:=Hd H.m9
 have HRR:=Hd (show pw n*pw n%m<m from Nat.mod_lt _ (by have:=H.1.2.2.2.2; omega))
 clear H
 have HA:=Hd ha
 have A9:=Hd (show a<pw 9 from Nat.lt_trans ha M9.out)
 clear ha
 go_enter Tryz.func83,Tryz.ntmps83
 go_upto_region 1 with fail
 rw [← nZ]
 have m0:=Mem.start2 w (nc a) (nc 0) 27 27
 obtain ⟨w1,hw1⟩:∃ w1:World,w1=((w.alloc (.cells (nc a) 27)).alloc (.cells (nc 0) 27)):=⟨_,rfl⟩
 rw [← hw1] at m0 ⊢
 clear hw1
 obtain ⟨g,hg⟩:∃ g,g=w.heap.size:=⟨_,rfl⟩
 rw [← hg] at m0 ⊢
 have HG:=Hd hg
 have M:=Hd m0
 clear hg m0
 obtain ⟨ie,z,hie,hz,hsz,hzs⟩:=info_nat
 go_upto_region 1 with (fail)
 refine wp_region_lit ?_
 refine pL rfl (.pointer (some ⟨x,0,none⟩)) (fun u=>by kernel_rfl) ?_
 refine l0N rfl (.tmp 3) rfl g (by kernel_rfl) (M.out.at 0 rfl) ?_
 refine wpList_slice1 rfl 222 27 (.tmp 8) rfl (.agg (nc a)) (by kernel_rfl) ie z 9 (by decide) (by decide) Tryz.underlying222 hie hz hsz hzs (nS _) ?_
 intro sl w2 hx hx2 hgv hh
 have Nw2:=Hd (show Mem w w2 [(g,nc a,27),(g+1,nc 0,27),(sl,nc a,27)] from M.out.new hgv (Nat.le_of_eq hx) hh)
 clear hx hx2 hgv hh M
 refine fL rfl 110 (.func 110) #[.tmp 7,.tmp 9] #[73,222] rfl #[] #[.pointer (some ⟨x,0,none⟩),.slice (some ⟨sl,0,none⟩) 1 1] (by kernel_rfl) (by kernel_rfl) (fun u=>cE _ _ _ _ u Tryz.func110 (by kernel_rfl) (by kernel_rfl)) (.int .i64 0) (mont_may x m n less sl 1 (fun _=>a) _ _ _ w2 (HM.out.up Nw2.out.1) (by decide) (Nw2.out.at 2 rfl) (fun i hi j hj=>by obtain rfl:i=0:=(by omega); rw [Nat.zero_mul,Nat.zero_add]; exact nc_get _ j hj) (fun i hi=>HA.out)) (fun w3 hb=>?_)
 have Nw3:=Hd (Nw2.out.grow hb)
 clear hb Nw2
 refine pL rfl (.int .i64 0) (fun u=>by kernel_rfl) ?_
 refine wpList_nil ?_
 try simp only [Act.put,s_,t_,u_,v_,x_,y_]
 go_upto_region 2 with (fail)
 refine wp_region_lit ?_
 refine pL rfl (.int .i64 0) (fun u=>by kernel_rfl) ?_
 refine pL rfl (.bool false) (fun u=>by kernel_rfl) ?_
 refine wpList_nil ?_
 try simp only [Act.put,s_,t_,u_,v_,x_,y_]
 go_upto_region 4 with (fail)
 have D4:=Hd (Nw3.out.drew)
 clear Nw3
 refine rGw 4 4 (by kernel_rfl) (by kernel_rfl) (fun d v c a w h=>by cases d <;> exact h) ?_
 simp only [List.take_succ_cons,List.take_zero]
 refine pG rfl (.pointer (some ⟨x,0,none⟩)) (fun u=>by kernel_rfl) ?_
 refine lG rfl (.tmp 3) rfl g (by kernel_rfl) (fun u hu=>D4.out.up 0 rfl hu) ?_
 refine fG rfl 47 (.func 47) #[.const (.int .i64 1)] #[3] rfl #[] #[.int .i64 1] (by kernel_rfl) (by kernel_rfl) (fun u=>cE _ _ _ _ u Tryz.func47 (by kernel_rfl) (by kernel_rfl)) (.agg (nc 1)) (fun u hu=>by exact nat_small 1 u (by decide)) ?_
 refine fG rfl 111 (.func 111) #[.tmp 15,.tmp 16,.tmp 17] #[73,27,27] rfl #[] #[.pointer (some ⟨x,0,none⟩),.agg (nc a),.agg (nc 1)] (by kernel_rfl) (by kernel_rfl) (fun u=>cE _ _ _ _ u Tryz.func111 (by kernel_rfl) (by kernel_rfl)) (.agg (nc ((mraw 18446744073709551616 m less n a 1)))) (fun u hu=>by exact mont_raw x m n less a 1 u (HM.out.up (gT _ _ _ D4.out.1 hu)) (A9.out) (HM.out.1.2.2.2.2)) ?_
 refine gN ?_
 try simp only [Act.put,s_,t_,u_,v_,x_,y_]
 refine gS (rs:=[4]) (by kernel_rfl) (by decide) (fun w5 hg6=>?_)
 have Nw5:=Hd (D4.out.grow hg6)
 clear hg6 D4
 refine wpAny_ready (rs:=[4]) (by kernel_rfl) (by simp) ?_
 refine AllReady.cons rfl (fun K hK=>?_) AllReady.nil
 refine sK rfl 27 (.tmp 4) (.tmp 18) rfl (g+1) rfl _ _ _ rfl (Nw5.out.at 1 rfl) (by rw [nS]; kernel_rfl) (by simp only [nS]) (nO _) (fun w6 hw hb hs=>hK _ _ ?_)
 have Nw6:=Hd (Nw5.out.store 1 rfl hb hs hw)
 clear hK hw hb hs Nw5
 try simp only [Act.put,s_,t_,u_,v_,x_,y_]
 refine wpAny_ready (rs:=[5]) (by kernel_rfl) (by simp) ?_
 refine AllReady.cons rfl (fun K hK=>?_) AllReady.nil
 go_simp
 refine hK _ _ ?_
 clear hK
 try simp only [Act.put,s_,t_,u_,v_,x_,y_]
 refine wpAny_done (by kernel_rfl) ?_ _
 try simp only [Act.put,s_,t_,u_,v_,x_,y_]
 go_wp2_with (fail)
 refine bodyPost_ret (results_N2 rfl _ _ (g+1) _ _ _ _ rfl rfl (Nw6.out.at 1 rfl)) rfl ⟨rfl,Nw6.out.below⟩
theorem mont_mul (x m n less a b:Nat) (w:World) (H:MtAt w x m n less) (ha:a<m) (hb:b<m):Calls Tryz.prog 81 #[.pointer (some ⟨x,0,none⟩),.agg (nc a),.agg (nc b)] w fun e w'=>e=.returned (.tuple #[.agg (nc (mraw 18446744073709551616 m less n a b)),.int .i64 0])∧Below w.heap.size w w':=by
 have HM:=Hd H
 have HXB:=Hd H.2
 have M9:=Hd H.m9
 have HRR:=Hd (show pw n*pw n%m<m from Nat.mod_lt _ (by have:=H.1.2.2.2.2; omega))
 clear H
 have HA:=Hd ha
 have A9:=Hd (show a<pw 9 from Nat.lt_trans ha M9.out)
 have HB:=Hd hb
 clear ha hb
 go_enter Tryz.func81,Tryz.ntmps81
 go_upto_region 1 with fail
 rw [← nZ]
 have m0:=Mem.start3 w (nc a) (nc b) (nc 0) 27 27 27
 obtain ⟨w1,hw1⟩:∃ w1:World,w1=(((w.alloc (.cells (nc a) 27)).alloc (.cells (nc b) 27)).alloc (.cells (nc 0) 27)):=⟨_,rfl⟩
 rw [← hw1] at m0 ⊢
 clear hw1
 obtain ⟨g,hg⟩:∃ g,g=w.heap.size:=⟨_,rfl⟩
 rw [← hg] at m0 ⊢
 have HG:=Hd hg
 have M:=Hd m0
 clear hg m0
 obtain ⟨ie,z,hie,hz,hsz,hzs⟩:=info_nat
 go_upto_region 1 with (fail)
 refine wp_region_lit ?_
 refine pL rfl (.pointer (some ⟨x,0,none⟩)) (fun u=>by kernel_rfl) ?_
 refine l0N rfl (.tmp 4) rfl g (by kernel_rfl) (M.out.at 0 rfl) ?_
 refine l0N rfl (.tmp 5) rfl (g+1) (by kernel_rfl) (M.out.at 1 rfl) ?_
 refine wpList_slice2 rfl 222 27 (.tmp 10) (.tmp 11) rfl (.agg (nc a)) (.agg (nc b)) (by kernel_rfl) (by kernel_rfl) ie z 9 (by decide) (by decide) Tryz.underlying222 hie hz hsz hzs (nS _) (nS _) ?_
 intro sl w2 hx hx2 hgv hh
 have Nw2:=Hd (show Mem w w2 [(g,nc a,27),(g+1,nc b,27),(g+1+1,nc 0,27),(sl,nc a++nc b,27)] from M.out.new hgv (Nat.le_of_eq hx) hh)
 clear hx hx2 hgv hh M
 refine fL rfl 110 (.func 110) #[.tmp 9,.tmp 12] #[73,222] rfl #[] #[.pointer (some ⟨x,0,none⟩),.slice (some ⟨sl,0,none⟩) 2 2] (by kernel_rfl) (by kernel_rfl) (fun u=>cE _ _ _ _ u Tryz.func110 (by kernel_rfl) (by kernel_rfl)) (.int .i64 0) (mont_may x m n less sl 2 (fun i=>if i=0 then a else b) _ _ _ w2 (HM.out.up Nw2.out.1) (by decide) (Nw2.out.at 3 rfl) (two_nats a b) (fun i hi=>by split <;> first | exact HA.out | exact HB.out)) (fun w3 hb=>?_)
 have Nw3:=Hd (Nw2.out.grow hb)
 clear hb Nw2
 refine pL rfl (.int .i64 0) (fun u=>by kernel_rfl) ?_
 refine wpList_nil ?_
 try simp only [Act.put,s_,t_,u_,v_,x_,y_]
 go_upto_region 2 with (fail)
 refine wp_region_lit ?_
 refine pL rfl (.int .i64 0) (fun u=>by kernel_rfl) ?_
 refine pL rfl (.bool false) (fun u=>by kernel_rfl) ?_
 refine wpList_nil ?_
 try simp only [Act.put,s_,t_,u_,v_,x_,y_]
 go_upto_region 4 with (fail)
 refine wp_region_lit ?_
 refine pL rfl (.pointer (some ⟨x,0,none⟩)) (fun u=>by kernel_rfl) ?_
 refine l0N rfl (.tmp 4) rfl g (by kernel_rfl) (Nw3.out.at 0 rfl) ?_
 refine l0N rfl (.tmp 5) rfl (g+1) (by kernel_rfl) (Nw3.out.at 1 rfl) ?_
 refine fL rfl 111 (.func 111) #[.tmp 18,.tmp 19,.tmp 20] #[73,27,27] rfl #[] #[.pointer (some ⟨x,0,none⟩),.agg (nc a),.agg (nc b)] (by kernel_rfl) (by kernel_rfl) (fun u=>cE _ _ _ _ u Tryz.func111 (by kernel_rfl) (by kernel_rfl)) (.agg (nc ((mraw 18446744073709551616 m less n a b)))) (mont_raw x m n less a b w3 (HM.out.up Nw3.out.1) (A9.out) (HB.out)) (fun w4 hb=>?_)
 have Nw4:=Hd (Nw3.out.grow hb)
 clear hb Nw3
 refine sB rfl 27 (.tmp 6) (.tmp 21) rfl (g+1+1) (by kernel_rfl) _ _ (nc ((mraw 18446744073709551616 m less n a b))) (by kernel_rfl) (Nw4.out.at 2 rfl) (by rw [nS]; kernel_rfl) (by simp only [nS]) (nO _) ?_
 intro w5 hw hb hs
 have Nw5:=Hd (Nw4.out.store 2 rfl hb hs hw)
 clear hw hb hs Nw4
 refine pL rfl (.int .i64 0) (fun u=>by kernel_rfl) ?_
 refine wpList_nil ?_
 try simp only [Act.put,s_,t_,u_,v_,x_,y_]
 go_wp2_with (fail)
 refine bodyPost_ret (results_N2 rfl _ _ (g+1+1) _ _ _ _ rfl rfl (Nw5.out.at 2 rfl)) rfl ⟨rfl,Nw5.out.below⟩
theorem mont_inv (x m n less a t:Nat) (w:World) (H:MtAt w x m n less) (ha:a<m) (ht:t<m) (hta:t*a%m=1):Calls Tryz.prog 82 #[.pointer (some ⟨x,0,none⟩),.agg (nc a)] w fun e w'=>e=.returned (.tuple #[.agg (nc (mraw 18446744073709551616 m less n (mraw 18446744073709551616 m less n t (pw n*pw n%m)) (pw n*pw n%m))),.int .i64 0])∧Below w.heap.size w w':=by
 have HM:=Hd H
 have HXB:=Hd H.2
 have M9:=Hd H.m9
 have HRR:=Hd (show pw n*pw n%m<m from Nat.mod_lt _ (by have:=H.1.2.2.2.2; omega))
 clear H
 have HA:=Hd ha
 have A9:=Hd (show a<pw 9 from Nat.lt_trans ha M9.out)
 have HT:=Hd ht
 have HTA:=Hd hta
 have T9:=Hd (show t<pw 9 from Nat.lt_trans ht M9.out)
 clear ha ht hta
 go_enter Tryz.func82,Tryz.ntmps82
 go_upto_region 1 with fail
 rw [← nZ]
 have m0:=Mem.start2 w (nc a) (nc 0) 27 27
 obtain ⟨w1,hw1⟩:∃ w1:World,w1=((w.alloc (.cells (nc a) 27)).alloc (.cells (nc 0) 27)):=⟨_,rfl⟩
 rw [← hw1] at m0 ⊢
 clear hw1
 obtain ⟨g,hg⟩:∃ g,g=w.heap.size:=⟨_,rfl⟩
 rw [← hg] at m0 ⊢
 have HG:=Hd hg
 have M:=Hd m0
 clear hg m0
 obtain ⟨ie,z,hie,hz,hsz,hzs⟩:=info_nat
 go_upto_region 1 with (fail)
 refine wp_region_lit ?_
 refine pL rfl (.pointer (some ⟨x,0,none⟩)) (fun u=>by kernel_rfl) ?_
 refine l0N rfl (.tmp 3) rfl g (by kernel_rfl) (M.out.at 0 rfl) ?_
 refine wpList_slice1 rfl 222 27 (.tmp 10) rfl (.agg (nc a)) (by kernel_rfl) ie z 9 (by decide) (by decide) Tryz.underlying222 hie hz hsz hzs (nS _) ?_
 intro sl w2 hx hx2 hgv hh
 have Nw2:=Hd (show Mem w w2 [(g,nc a,27),(g+1,nc 0,27),(sl,nc a,27)] from M.out.new hgv (Nat.le_of_eq hx) hh)
 clear hx hx2 hgv hh M
 refine fL rfl 110 (.func 110) #[.tmp 9,.tmp 11] #[73,222] rfl #[] #[.pointer (some ⟨x,0,none⟩),.slice (some ⟨sl,0,none⟩) 1 1] (by kernel_rfl) (by kernel_rfl) (fun u=>cE _ _ _ _ u Tryz.func110 (by kernel_rfl) (by kernel_rfl)) (.int .i64 0) (mont_may x m n less sl 1 (fun _=>a) _ _ _ w2 (HM.out.up Nw2.out.1) (by decide) (Nw2.out.at 2 rfl) (fun i hi j hj=>by obtain rfl:i=0:=(by omega); rw [Nat.zero_mul,Nat.zero_add]; exact nc_get _ j hj) (fun i hi=>HA.out)) (fun w3 hb=>?_)
 have Nw3:=Hd (Nw2.out.grow hb)
 clear hb Nw2
 refine pL rfl (.int .i64 0) (fun u=>by kernel_rfl) ?_
 refine wpList_nil ?_
 try simp only [Act.put,s_,t_,u_,v_,x_,y_]
 go_upto_region 2 with (fail)
 refine wp_region_lit ?_
 refine pL rfl (.int .i64 0) (fun u=>by kernel_rfl) ?_
 refine pL rfl (.bool false) (fun u=>by kernel_rfl) ?_
 refine wpList_nil ?_
 try simp only [Act.put,s_,t_,u_,v_,x_,y_]
 go_upto_region 4 with (fail)
 have D4:=Hd (Nw3.out.drew)
 clear Nw3
 refine rGw 9 10 (by kernel_rfl) (by kernel_rfl) (fun d v c a w h=>by cases d <;> exact h) ?_
 simp only [List.take_succ_cons,List.take_zero]
 refine lG rfl (.tmp 3) rfl g (by kernel_rfl) (fun u hu=>D4.out.up 0 rfl hu) ?_
 refine pG rfl (.pointer (some ⟨x,0,none⟩)) (fun u=>by kernel_rfl) ?_
 refine pG rfl (.pointer (some ⟨x,0,none⟩)) (fun u=>by kernel_rfl) ?_
 refine pG rfl (.pointer (some ⟨x,0,none⟩)) (fun u=>by kernel_rfl) ?_
 refine lN rfl (.tmp 21) rfl x 0 (by kernel_rfl) m (fun u hu=>grows_at HXB.out (gT _ _ _ D4.out.1 hu)) (fun j hj=>mtc_m _ _ _ _ j hj) ?_
 refine fG rfl 19 (.func 19) #[.tmp 18,.tmp 22] #[27,27] rfl #[] #[.agg (nc a),.agg (nc m)] (by kernel_rfl) (by kernel_rfl) (fun u=>cE _ _ _ _ u Tryz.func19 (by kernel_rfl) (by kernel_rfl)) (.tuple #[.agg (nc t),.int .i64 0]) (fun u hu=>by exact div_inverse a m t u A9.out M9.out HT.out HTA.out) ?_
 refine pG rfl (.tuple #[.agg (nc t),.int .i64 0]) (fun u=>by kernel_rfl) ?_
 refine pG rfl (.agg (nc t)) (fun u=>by kernel_rfl) ?_
 refine pG rfl (.int .i64 0) (fun u=>by kernel_rfl) ?_
 refine gN ?_
 try simp only [Act.put,s_,t_,u_,v_,x_,y_]
 refine grow_alloc (i:=9) (f:=2) (by kernel_rfl) (by decide) rfl rfl 27 rfl (.agg (nc 0)) (by rw [nZ]; kernel_rfl) ?_
 intro y v5 hx hx2 hgv hh
 have Nv5:=Hd (D4.out.new hgv hx hh)
 have Nv5:Hid (Mem w v5 [(g,nc a,27),(g+1,nc 0,27),(sl,nc a,27),(y,nc 0,27)]):=Nv5
 clear hgv hx hx2 hh D4
 try simp only [Act.put,s_,t_,u_,v_,x_,y_]
 refine gS (rs:=[10]) (by kernel_rfl) (by decide) (fun w6 hg6=>?_)
 have Nw6:=Hd (Nv5.out.grow hg6)
 clear hg6 Nv5
 refine wpAny_ready (rs:=[10]) (by kernel_rfl) (by simp) ?_
 refine AllReady.cons rfl (fun K hK=>?_) AllReady.nil
 refine sK rfl 27 (.tmp 7) (.tmp 24) rfl y rfl _ _ _ rfl (Nw6.out.at 3 rfl) (by rw [nS]; kernel_rfl) (by simp only [nS]) (nO _) (fun w7 hw hb hs=>hK _ _ ?_)
 have Nw7:=Hd (Nw6.out.store 3 rfl hb hs hw)
 clear hK hw hb hs Nw6
 try simp only [Act.put,s_,t_,u_,v_,x_,y_]
 refine wpAny_ready (rs:=[11]) (by kernel_rfl) (by simp) ?_
 refine AllReady.cons rfl (fun K hK=>?_) AllReady.nil
 go_simp
 refine hK _ _ ?_
 clear hK
 try simp only [Act.put,s_,t_,u_,v_,x_,y_]
 refine wpAny_done (by kernel_rfl) ?_ _
 try simp only [Act.put,s_,t_,u_,v_,x_,y_]
 go_upto_region 5 with (fail)
 refine wp_region_lit ?_
 refine pL rfl (.int .i64 0) (fun u=>by kernel_rfl) ?_
 refine pL rfl (.bool false) (fun u=>by kernel_rfl) ?_
 refine wpList_nil ?_
 try simp only [Act.put,s_,t_,u_,v_,x_,y_]
 go_upto_region 7 with (fail)
 have D8:=Hd (Nw7.out.drew)
 clear Nw7
 refine rGw 13 13 (by kernel_rfl) (by kernel_rfl) (fun d v c a w h=>by cases d <;> exact h) ?_
 simp only [List.take_succ_cons,List.take_zero]
 refine pG rfl (.pointer (some ⟨x,0,none⟩)) (fun u=>by kernel_rfl) ?_
 refine pG rfl (.pointer (some ⟨x,0,none⟩)) (fun u=>by kernel_rfl) ?_
 refine lG rfl (.tmp 7) rfl y (by kernel_rfl) (fun u hu=>D8.out.up 3 rfl hu) ?_
 refine pG rfl (.pointer (some ⟨x,0,none⟩)) (fun u=>by kernel_rfl) ?_
 refine pG rfl (.pointer (some ⟨x,0,none⟩)) (fun u=>by kernel_rfl) ?_
 refine pG rfl (.pointer (some ⟨x,11,none⟩)) (fun u=>by kernel_rfl) ?_
 refine lN rfl (.tmp 35) rfl x 11 (by kernel_rfl) ((pw n*pw n%m)) (fun u hu=>grows_at HXB.out (gT _ _ _ D8.out.1 hu)) (fun j hj=>mtc_rr _ _ _ _ j hj) ?_
 refine fG rfl 111 (.func 111) #[.tmp 31,.tmp 32,.tmp 36] #[73,27,27] rfl #[] #[.pointer (some ⟨x,0,none⟩),.agg (nc t),.agg (nc ((pw n*pw n%m)))] (by kernel_rfl) (by kernel_rfl) (fun u=>cE _ _ _ _ u Tryz.func111 (by kernel_rfl) (by kernel_rfl)) (.agg (nc ((mraw 18446744073709551616 m less n t ((pw n*pw n%m)))))) (fun u hu=>by exact mont_raw x m n less t ((pw n*pw n%m)) u (HM.out.up (gT _ _ _ D8.out.1 hu)) (T9.out) (HRR.out)) ?_
 refine pG rfl (.pointer (some ⟨x,0,none⟩)) (fun u=>by kernel_rfl) ?_
 refine pG rfl (.pointer (some ⟨x,0,none⟩)) (fun u=>by kernel_rfl) ?_
 refine pG rfl (.pointer (some ⟨x,11,none⟩)) (fun u=>by kernel_rfl) ?_
 refine lN rfl (.tmp 40) rfl x 11 (by kernel_rfl) ((pw n*pw n%m)) (fun u hu=>grows_at HXB.out (gT _ _ _ D8.out.1 hu)) (fun j hj=>mtc_rr _ _ _ _ j hj) ?_
 refine fG rfl 111 (.func 111) #[.tmp 30,.tmp 37,.tmp 41] #[73,27,27] rfl #[] #[.pointer (some ⟨x,0,none⟩),.agg (nc ((mraw 18446744073709551616 m less n t ((pw n*pw n%m))))),.agg (nc ((pw n*pw n%m)))] (by kernel_rfl) (by kernel_rfl) (fun u=>cE _ _ _ _ u Tryz.func111 (by kernel_rfl) (by kernel_rfl)) (.agg (nc ((mraw 18446744073709551616 m less n ((mraw 18446744073709551616 m less n t ((pw n*pw n%m)))) ((pw n*pw n%m)))))) (fun u hu=>by exact mont_raw x m n less ((mraw 18446744073709551616 m less n t ((pw n*pw n%m)))) ((pw n*pw n%m)) u (HM.out.up (gT _ _ _ D8.out.1 hu)) (Nat.lt_trans (mraw_lt (by decide) (Nat.lt_of_le_of_lt (Nat.zero_le _) HA.out) HRR.out) M9.out) (HRR.out)) ?_
 refine gN ?_
 try simp only [Act.put,s_,t_,u_,v_,x_,y_]
 refine gS (rs:=[13]) (by kernel_rfl) (by decide) (fun w9 hg6=>?_)
 have Nw9:=Hd (D8.out.grow hg6)
 clear hg6 D8
 refine wpAny_ready (rs:=[13]) (by kernel_rfl) (by simp) ?_
 refine AllReady.cons rfl (fun K hK=>?_) AllReady.nil
 refine sK rfl 27 (.tmp 4) (.tmp 42) rfl (g+1) rfl _ _ _ rfl (Nw9.out.at 1 rfl) (by rw [nS]; kernel_rfl) (by simp only [nS]) (nO _) (fun w10 hw hb hs=>hK _ _ ?_)
 have Nw10:=Hd (Nw9.out.store 1 rfl hb hs hw)
 clear hK hw hb hs Nw9
 try simp only [Act.put,s_,t_,u_,v_,x_,y_]
 refine wpAny_ready (rs:=[14]) (by kernel_rfl) (by simp) ?_
 refine AllReady.cons rfl (fun K hK=>?_) AllReady.nil
 go_simp
 refine hK _ _ ?_
 clear hK
 try simp only [Act.put,s_,t_,u_,v_,x_,y_]
 refine wpAny_done (by kernel_rfl) ?_ _
 try simp only [Act.put,s_,t_,u_,v_,x_,y_]
 go_wp2_with (fail)
 refine bodyPost_ret (results_N2 rfl _ _ (g+1) _ _ _ _ rfl rfl (Nw10.out.at 1 rfl)) rfl ⟨rfl,Nw10.out.below⟩
end Go.Proofs.YtkoonhiplicbkaaGreat.Cw
set_option maxHeartbeats 4000000
set_option maxRecDepth 100000
namespace Go.Proofs.YtkoonhiplicbkaaGreat.Cw
open Go Go.RowKit
attribute [local irreducible] pc ptc nc ac cuc fc gpt
attribute [local go_sem ↓ high] wn_eql wn_neq wn_lss wn_gtr wn_leq wn_geq wn_cells wRS wn_guard lit0 lit1
attribute [local go_sem high] wn_match wRS wn_eql wn_neq wn_lss wn_gtr wn_leq wn_geq
theorem wpGrow_skip {P:Program} {ops:Array Oper} {rest:List Oper} {o:Oper} {a:Act} {w:World} {L:Act→Prop} (hwt:Region.wanted o (yielded ops a.tmps)=false) (hn:wpGrow P ops Grows w L rest (a.put o.dst undef)):wpGrow P ops Grows w L (o::rest) a:=by
 unfold wpGrow
 rw [if_neg (by rw [hwt]; decide)]
 exact hn
theorem guard_aggZ (t:TypeId) (op:BinOp) (h:op=.eql∨op=.neq) (ht:Tryz.prog.eqGuardType Tryz.prog.depth t=false) (x y:Operand) (a b:Array Value) (w:World):(eqGuard op t x y (.agg a) (.agg b)).run Tryz.prog w=.ok () w:=by
 rcases h with rfl | rfl <;> unfold eqGuard <;> simp [Sem.run_bind,ht]
theorem run_nen {ρ:Operand→Value} {o:Oper} (t2:TypeId) (x y:Operand) (ho:o.op=.binOp .neq 27 x y t2) (a b:Nat) (hx:ρ x=.agg (nc a)) (hy:ρ y=.agg (nc b)) (ha:a<pw 9) (hb:b<pw 9) (v:Bool) (hv:decide (a≠b)=v) (u:World):(execOp ρ o).run Tryz.prog u=.ok (.value (.bool v)) u:=by
 obtain ⟨d,op,type,pos,after,guard⟩:=o
 subst ho
 simp only [execOp,hx,hy,Sem.run_bind,guard_aggZ _ _ (.inr rfl) (show Tryz.prog.eqGuardType Tryz.prog.depth 27=false by kernel_rfl),Result.andThen_ok,neq_nat a b ha hb,hv,Sem.run_pure]
theorem cmp_lssV (t:TypeId) (a b:Nat):binOp .lss t (.int .i64 (cmpN a b)) (.int .i64 0)=pure (.bool (decide (a<b))):=congrArg (fun b=>(pure (Value.bool b):Sem Value)) (cmp_lss a b)
theorem curve_bytes (k:CK) (c f d:Nat) (w:World) (H:CurveAt w c f d k.c):Calls Tryz.prog 77 #[.pointer (some ⟨c,0,none⟩)] w fun e w'=>e=.returned (.int .i64 (((bl k.c.n+7) / 8:Nat):Int))∧Below w.heap.size w w':=by
 have HCB:=Hd H.2.2
 obtain ⟨b,hb⟩:∃ b,b=bl k.c.n:=⟨_,rfl⟩
 have hb2:b≤576:=by rw [hb]; exact k.blN.2
 have HB:=Hd hb
 have HB2:=Hd hb2
 rw [← hb]
 clear H hb hb2
 go_enter Tryz.func77,Tryz.ntmps77
 go_upto_region 1 with fail
 have M:=Hd (Mem.nil w)
 have HB8:=Hd (show b+7<9223372036854775808 by have:=HB2.out; omega)
 refine wp_region_lit ?_
 refine pL rfl (.pointer (some ⟨c,0,none⟩)) (fun u=>by kernel_rfl) ?_
 refine pL rfl (.pointer (some ⟨c,0,none⟩)) (fun u=>by kernel_rfl) ?_
 refine pL rfl (.pointer (some ⟨c,0,none⟩)) (fun u=>by kernel_rfl) ?_
 refine pL rfl (.pointer (some ⟨c,56,none⟩)) (fun u=>by kernel_rfl) ?_
 refine lC rfl 3 (.tmp 6) rfl c 56 (by kernel_rfl) (.int .i64 (b:Int)) _ Tryz.underlying3 rfl ((cO (grows_at HCB.out M.out.1) 56).trans (by rw [HB.out]; exact cuc_bits _ _)) ?_
 try simp only [Act.put,s_,t_,u_,v_,x_,y_]
 refine pL rfl (.int .i64 ((b+7:Nat):Int)) (fun u=>run_bini _ _ _ _ _ rfl (b:Int) ((7:Nat):Int) (by kernel_rfl) (by kernel_rfl) (bi_add _ HB8.out) u) ?_
 try simp only [Act.put,s_,t_,u_,v_,x_,y_]
 refine pL rfl (.int .i64 (((b+7) / 8:Nat):Int)) (fun u=>run_bini _ _ _ _ _ rfl ((b+7:Nat):Int) ((8:Nat):Int) (by kernel_rfl) (by kernel_rfl) (bi_quo _ (by decide) HB8.out) u) ?_
 refine pL rfl (.int .i64 (((b+7) / 8:Nat):Int)) (fun u=>by kernel_rfl) ?_
 refine wpList_nil ?_
 try simp only [Act.put,s_,t_,u_,v_,x_,y_]
 go_wp2_with (fail)
 go_ret
 exact ⟨rfl,M.out.1⟩
theorem curve_key (k:CK) (c f d n:Nat) (w:World) (hn:n<pw 9) (H:CurveAt w c f d k.c):Calls Tryz.prog 31 #[.pointer (some ⟨c,0,none⟩),.agg (nc n)] w fun e w'=>e=.returned (.bool (decide (n≠0∧n<k.c.n)))∧Below w.heap.size w w':=by
 have HCB:=Hd H.2.2
 have n9:=Hd hn
 have N9:=Hd k.n9
 clear H hn
 go_enter Tryz.func31,Tryz.ntmps31
 go_upto_region 1 with fail
 have m0:=Mem.start1 w (nc n) 27
 obtain ⟨w1,hw1⟩:∃ w1:World,w1=(w.alloc (.cells (nc n) 27)):=⟨_,rfl⟩
 rw [← hw1] at m0 ⊢
 clear hw1
 obtain ⟨g,hg⟩:∃ g,g=w.heap.size:=⟨_,rfl⟩
 rw [← hg] at m0 ⊢
 have HG:=Hd hg
 have M:=Hd m0
 clear hg m0
 by_cases hz:n=0
 ·skip
  have HZ:=Hd hz
  have e1:decide (n≠0∧n<k.c.n)=false:=by simp [hz]
  have E1:=Hd e1
  clear e1 hz
  have D2:=Hd (M.out.drew)
  clear M
  refine rGw 14 14 (by kernel_rfl) (by kernel_rfl) (fun d v c a w h=>by cases d <;> exact h) ?_
  simp only [List.take_succ_cons,List.take_zero]
  refine lG rfl (.tmp 3) rfl g (by kernel_rfl) (fun u hu=>D2.out.up 0 rfl hu) ?_
  refine pG rfl (.agg (nc 0)) (fun u=>by rw [nZ]; kernel_rfl) ?_
  refine pG rfl (.bool false) (fun u=>by exact run_nen _ _ _ rfl n 0 (by kernel_rfl) (by kernel_rfl) n9.out (pw_pos 9) false (decide_eq_false (fun h=>h HZ.out)) u) ?_
  refine pG rfl (.bool false) (fun u=>by kernel_rfl) ?_
  try simp only [Act.put,s_,t_,u_,v_,x_,y_]
  refine wpGrow_skip (by kernel_rfl) ?_
  try simp only [Act.put,s_,t_,u_,v_,x_,y_]
  refine wpGrow_skip (by kernel_rfl) ?_
  try simp only [Act.put,s_,t_,u_,v_,x_,y_]
  refine wpGrow_skip (by kernel_rfl) ?_
  try simp only [Act.put,s_,t_,u_,v_,x_,y_]
  refine wpGrow_skip (by kernel_rfl) ?_
  try simp only [Act.put,s_,t_,u_,v_,x_,y_]
  refine wpGrow_skip (by kernel_rfl) ?_
  try simp only [Act.put,s_,t_,u_,v_,x_,y_]
  refine wpGrow_skip (by kernel_rfl) ?_
  try simp only [Act.put,s_,t_,u_,v_,x_,y_]
  refine wpGrow_skip (by kernel_rfl) ?_
  try simp only [Act.put,s_,t_,u_,v_,x_,y_]
  refine wpGrow_skip (by kernel_rfl) ?_
  refine pG rfl (.bool false) (fun u=>by kernel_rfl) ?_
  refine pG rfl (.bool false) (fun u=>by kernel_rfl) ?_
  refine gN ?_
  try simp only [Act.put,s_,t_,u_,v_,x_,y_]
  intro w3 hg6
  refine ⟨by kernel_rfl,?_⟩
  have Nw3:=Hd (D2.out.grow hg6)
  clear hg6 D2
  try simp only [Act.put,s_,t_,u_,v_,x_,y_]
  go_wp2_with (fail)
  go_ret
  exact ⟨by rw [E1.out]; rfl,Nw3.out.below⟩
 ·skip
  have HZ:=Hd hz
  have e1:decide (n≠0∧n<k.c.n)=decide (n<k.c.n):=by simp [hz]
  have E1:=Hd e1
  clear e1 hz
  have D2:=Hd (M.out.drew)
  clear M
  refine rGw 14 14 (by kernel_rfl) (by kernel_rfl) (fun d v c a w h=>by cases d <;> exact h) ?_
  simp only [List.take_succ_cons,List.take_zero]
  refine lG rfl (.tmp 3) rfl g (by kernel_rfl) (fun u hu=>D2.out.up 0 rfl hu) ?_
  refine pG rfl (.agg (nc 0)) (fun u=>by rw [nZ]; kernel_rfl) ?_
  refine pG rfl (.bool true) (fun u=>by exact run_nen _ _ _ rfl n 0 (by kernel_rfl) (by kernel_rfl) n9.out (pw_pos 9) true (decide_eq_true HZ.out) u) ?_
  refine pG rfl (.bool true) (fun u=>by kernel_rfl) ?_
  try simp only [Act.put,s_,t_,u_,v_,x_,y_]
  refine lG rfl (.tmp 3) rfl g (by kernel_rfl) (fun u hu=>D2.out.up 0 rfl hu) ?_
  try simp only [Act.put,s_,t_,u_,v_,x_,y_]
  refine pG rfl (.pointer (some ⟨c,0,none⟩)) (fun u=>by kernel_rfl) ?_
  try simp only [Act.put,s_,t_,u_,v_,x_,y_]
  refine pG rfl (.pointer (some ⟨c,0,none⟩)) (fun u=>by kernel_rfl) ?_
  try simp only [Act.put,s_,t_,u_,v_,x_,y_]
  refine pG rfl (.pointer (some ⟨c,0,none⟩)) (fun u=>by kernel_rfl) ?_
  try simp only [Act.put,s_,t_,u_,v_,x_,y_]
  refine pG rfl (.pointer (some ⟨c,28,none⟩)) (fun u=>by kernel_rfl) ?_
  try simp only [Act.put,s_,t_,u_,v_,x_,y_]
  refine lN rfl (.tmp 13) rfl c 28 (by kernel_rfl) k.c.n (fun u hu=>grows_at HCB.out (gT _ _ _ D2.out.1 hu)) (cuc_n _ _) ?_
  try simp only [Act.put,s_,t_,u_,v_,x_,y_]
  refine fG rfl 60 (.func 60) #[.tmp 9,.tmp 14] #[27,27] rfl #[] #[.agg (nc n),.agg (nc k.c.n)] (by kernel_rfl) (by kernel_rfl) (fun u=>cE _ _ _ _ u Tryz.func60 (by kernel_rfl) (by kernel_rfl)) (.int .i64 (cmpN n k.c.n)) (fun u hu=>by exact nat_cmp n k.c.n u n9.out N9.out) ?_
  try simp only [Act.put,s_,t_,u_,v_,x_,y_]
  refine pG rfl (.bool (decide (n<k.c.n))) (fun u=>by exact run_bini _ _ _ _ _ rfl (cmpN n k.c.n) 0 (by kernel_rfl) (by kernel_rfl) (cmp_lssV _ _ _) u) ?_
  refine pG rfl (.bool (decide (n<k.c.n))) (fun u=>by kernel_rfl) ?_
  refine pG rfl (.bool (decide (n<k.c.n))) (fun u=>by kernel_rfl) ?_
  refine gN ?_
  try simp only [Act.put,s_,t_,u_,v_,x_,y_]
  intro w3 hg6
  refine ⟨by kernel_rfl,?_⟩
  have Nw3:=Hd (D2.out.grow hg6)
  clear hg6 D2
  try simp only [Act.put,s_,t_,u_,v_,x_,y_]
  go_wp2_with (fail)
  go_ret
  exact ⟨by rw [E1.out]; rfl,Nw3.out.below⟩
end Go.Proofs.YtkoonhiplicbkaaGreat.Cw
