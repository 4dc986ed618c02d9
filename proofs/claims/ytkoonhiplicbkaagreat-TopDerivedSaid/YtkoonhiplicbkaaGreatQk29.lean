/-
  (package table) Of: a point's multiples, one by one. Condition: multiples of G of one of the 15 curves.
-/
import Derived.Test.YtkoonhiplicbkaaGreatQk26
import Derived.Test.YtkoonhiplicbkaaGreatQk28
set_option linter.unusedSimpArgs false
set_option linter.unusedVariables false
set_option maxHeartbeats 4000000
set_option maxRecDepth 100000
namespace Go.Proofs.YtkoonhiplicbkaaGreat.Cw
open Go Go.RowKit
theorem info_pt:∃ ie,Tryz.prog.info? 41=some ie∧ie.zero=some (.agg (ptc 0 0 false))∧ie.size=19∧ie.bytes=152:=by
 have h:(Tryz.prog.info? 41).map (fun i=>(i.zero,i.size,i.bytes))=some (some (.agg #[wn 0,wn 0,wn 0,wn 0,wn 0,wn 0,wn 0,wn 0,wn 0,wn 0,wn 0,wn 0,wn 0,wn 0,wn 0,wn 0,wn 0,wn 0,.bool false]),19,152):=by kernel_rfl
 rw [← ptc_zero] at h
 obtain ⟨ie,h1,h2⟩:=Option.map_eq_some_iff.1 h
 injection h2 with h3 h4
 injection h4 with h5 h6
 exact ⟨ie,h1,h3,h5,h6⟩
noncomputable def els (k:CK) (m:Nat):Nat→List Value
 | 0=>[]
 | n+1=>els k m n++(gpt k (n*m)).toList
theorem gpt_size (k:CK) (n:Nat):(gpt k n).size=19:=pS _ _ _
theorem gpt_one (k:CK) (n:Nat):∀ u ∈ (gpt k n).toList,u.oneCell'=true:=ptc_one _ _ _
theorem els_len (k:CK) (m:Nat):∀ n,(els k m n).length=n*19
 | 0=>rfl
 | n+1=>by simp [els,els_len k m n,gpt_size]; omega
theorem els_get (k:CK) (m:Nat):∀ n i j,i<n→j<19→(els k m n)[i*19+j]?=(gpt k (i*m))[j]?
 | 0,i,j,h,_=>by omega
 | n+1,i,j,h,hj=>by
  rcases Nat.lt_or_ge i n with h1 | h1
  ·rw [els,List.getElem?_append_left (by rw [els_len]; omega),els_get k m n i j h1 hj]
  ·obtain rfl:i=n:=by omega
   rw [els,List.getElem?_append_right (by rw [els_len]; omega),els_len,show i*19+j - i*19=j by omega]
   simp
def TabAt (k:CK) (w:World) (t m n:Nat):Prop:=∃ v,w.heap[t]?=some (.cells #[v] 186 (0,0))∧0<n∧Ow w 0 41 19 v n (els k m n)
theorem TabAt.up {k:CK} {w w':World} {t m n:Nat} (h:TabAt k w t m n) (hg:Grows w w'):TabAt k w' t m n:=by
 obtain ⟨v,h1,h2,h3⟩:=h
 exact ⟨v,grows_at h1 hg,h2,h3.below hg⟩
theorem Ow.down {w:World} {B e size n:Nat} {v:Value} {xs:List Value} (h:Ow w B e size v n xs):Ow w 0 e size v n xs:=by
 refine ⟨h.1,?_⟩
 rcases h.2 with h0 | ⟨g,cap,cur,fr,rfl,hb,r⟩
 ·exact .inl h0
 ·exact .inr ⟨g,cap,cur,fr,rfl,Nat.zero_le _,r⟩
attribute [local irreducible] pc ptc nc ac cuc fc gpt
attribute [local go_sem ↓ high] wn_eql wn_neq wn_lss wn_gtr wn_leq wn_geq wn_cells wRS wn_guard lit0 lit1
attribute [local go_sem high] wn_match wRS wn_eql wn_neq wn_lss wn_gtr wn_leq wn_geq
theorem table_of (k:CK) (m n c f d:Nat) (hn:0<n) (hn2:n≤256) (w:World) (H:CurveAt w c f d k.c):Calls Tryz.prog 79 #[.pointer (some ⟨c,0,none⟩),.agg (gpt k m),.int .i64 n] w fun e w'=>∃ t,e=.returned (.pointer (some ⟨t,0,none⟩))∧TabAt k w' t m n∧w.heap.size≤t∧Below w.heap.size w w':=by
 have HC:=Hd H
 clear H
 have HNN:=Hd (rp_none k)
 obtain ⟨ie,hie⟩:=info_pt
 have HIE:=Hd hie
 clear hie
 go_enter Tryz.func79,Tryz.ntmps79
 go_upto_region 1 with fail
 have m0:=Mem.start1 w (gpt k m) 41
 obtain ⟨w1,hw1⟩:∃ w1:World,w1=(w.alloc (.cells (gpt k m) 41)):=⟨_,rfl⟩
 rw [← hw1] at m0 ⊢
 clear hw1
 obtain ⟨g,hg⟩:∃ g,g=w.heap.size:=⟨_,rfl⟩
 rw [← hg] at m0 ⊢
 have HG:=Hd hg
 have M:=Hd m0
 clear hg m0
 refine wp_region_lit ?_
 refine pK (.agg #[.slice none 0 0]) ?_
 refine wpList_box rfl 186 (.tmp 10) rfl (#[.slice none 0 0]) (by kernel_rfl) ?_
 intro tb w2 hx hgv hh
 have M2:=Hd (show Mem w w2 [(g,gpt k m,41),(tb,#[.slice none 0 0],186)] from M.out.new hgv (Nat.le_of_eq hx) hh)
 clear hx hgv hh M
 refine pK (.pointer (some ⟨tb,0,none⟩)) ?_
 refine wpList_nil ?_
 try simp only [Act.put,s_,t_,u_,v_,x_,y_]
 go_upto_region 2 with (fail)
 refine wp_region_lit ?_
 refine lS rfl 41 (.tmp 4) rfl g 0 19 (by kernel_rfl) _ _ (gpt k m) _ _ (M2.out.at 0 rfl) Tryz.underlying41 rfl (by kernel_rfl) (gpt_size _ _) (fun j hj=>by rw [Nat.zero_add]) ?_
 refine fL rfl 59 (.func 59) #[.tmp 12] #[41] rfl #[] #[.agg (gpt k m)] (by kernel_rfl) (by kernel_rfl) (fun u=>cE _ _ _ _ u Tryz.func59 (by kernel_rfl) (by kernel_rfl)) (.agg (pc ((trN k (gm k m)).x) ((trN k (gm k m)).y) ((trN k (gm k m)).z))) (triple_rp k m w2) (fun w2 hb=>?_)
 have Nw2:=Hd (M2.out.grow hb)
 clear hb M2
 refine fL rfl 96 (.func 96) #[] #[] rfl #[] #[] (by kernel_rfl) (by kernel_rfl) (fun u=>cE _ _ _ _ u Tryz.func96 (by kernel_rfl) (by kernel_rfl)) (.agg (pc 0 1 0)) (curve_none w2) (fun w3 hb=>?_)
 have Nw3:=Hd (Nw2.out.grow hb)
 clear hb Nw2
 refine nL rfl 111 rfl (.agg (pc 0 0 0)) (by rw [pc_zero]; kernel_rfl) ?_
 intro xo w4 hx hx2 hgv hh
 have Nw4:=Hd (show Mem w w4 [(g,gpt k m,41),(tb,#[.slice none 0 0],186),(xo,pc 0 0 0,111)] from Nw3.out.new hgv (Nat.le_of_eq hx) hh)
 clear hx hx2 hgv hh Nw3
 refine nL rfl 111 rfl (.agg (pc 0 0 0)) (by rw [pc_zero]; kernel_rfl) ?_
 intro xa w5 hx hx2 hgv hh
 have Nw5:=Hd (show Mem w w5 [(g,gpt k m,41),(tb,#[.slice none 0 0],186),(xo,pc 0 0 0,111),(xa,pc 0 0 0,111)] from Nw4.out.new hgv (Nat.le_of_eq hx) hh)
 clear hx hx2 hgv hh Nw4
 refine sB rfl 111 (.tmp 8) (.tmp 13) rfl xo (by kernel_rfl) _ _ (pc ((trN k (gm k m)).x) ((trN k (gm k m)).y) ((trN k (gm k m)).z)) (by kernel_rfl) (Nw5.out.at 2 rfl) (by rw [pc_size]; kernel_rfl) (by simp only [pc_size]) (pc_one _ _ _) ?_
 intro w6 hw hb hs
 have Nw6:=Hd (Nw5.out.store 2 rfl hb hs hw)
 clear hw hb hs Nw5
 refine sB rfl 111 (.tmp 9) (.tmp 14) rfl xa (by kernel_rfl) _ _ (pc 0 1 0) (by kernel_rfl) (Nw6.out.at 3 rfl) (by rw [pc_size]; kernel_rfl) (by simp only [pc_size]) (pc_one _ _ _) ?_
 intro w7 hw hb hs
 have Nw7:=Hd (Nw6.out.store 3 rfl hb hs hw)
 clear hw hb hs Nw6
 refine wpList_nil ?_
 try simp only [Act.put,s_,t_,u_,v_,x_,y_]
 have MO1:=Hd (MO.start (e:=41) (size:=19) Nw7.out)
 clear Nw7
 obtain ⟨one,hone⟩:∃ one,one=trN k (gm k m):=⟨_,rfl⟩
 have ROne:=Hd (show Rp k one m by rw [hone]; exact rp_trip k m)
 rw [← hone] at MO1
 try rw [← hone]
 clear hone
 go_upto_region 4 with (fail)
 go_loopw [16] (fun iv wr=>∃ (i:Nat) (v:Value) (at1:Tri),i≤n∧iv=.int .i64 (i:Int)∧Rp k at1 (i*m)∧MO 41 19 w wr [(g,gpt k m,41),(tb,#[v],186),(xo,pc one.x one.y one.z,111),(xa,pc at1.x at1.y at1.z,111)] v i (els k m i)) (fun iv _=>(n - intOf iv).toNat)
 case atStart=>exact ⟨0,.slice none 0 0,⟨0,1,0⟩,Nat.zero_le _,rfl,by rw [Nat.zero_mul]; exact HNN.out,MO1.out⟩
 case round=>
  obtain ⟨i,v,at1,hi,rfl,hat,hm⟩:=hrel
  have RA:=Hd hat
  have M:=Hd hm
  clear hat hm MO1
  by_cases hlt:i<n
  ·have HI:=Hd hi
   go_upto_region 5 with (fail)
   have D:=Hd (M.out.drew)
   clear M
   rename_i K0 hK0
   have fin:∀ (v':Value) (u:World) (y:Nat),MO 41 19 w u [(g,gpt k m,41),(tb,#[v'],186),(xo,pc one.x one.y one.z,111),(xa,pc at1.x at1.y at1.z,111)] v' (i+1) (els k m (i+1))→K0 { tmps:=#[.pointer (some ⟨c,0,none⟩),.agg (gpt k m),.int .i64 (n:Int),undef,.pointer (some ⟨g,0,none⟩),undef,.pointer none,.pointer (some ⟨tb,0,none⟩),.pointer (some ⟨xo,0,none⟩),.pointer (some ⟨xa,0,none⟩),.agg #[.slice none 0 0],.pointer (some ⟨tb,0,none⟩),.agg (gpt k m),.agg (pc one.x one.y one.z),.agg (pc 0 1 0),.int .i64 (n:Int),.int .i64 (i:Int),.bool true,.pointer (some ⟨tb,0,none⟩),.pointer (some ⟨tb,0,none⟩),.pointer (some ⟨tb,0,none⟩),.pointer (some ⟨tb,0,none⟩),v,.pointer (some ⟨c,0,none⟩),.agg (pc at1.x at1.y at1.z),.agg (gpt k (i*m)),.slice (some ⟨y,0,none⟩) 1 1,v',.pointer (some ⟨tb,0,none⟩),.pointer (some ⟨tb,0,none⟩),u30,u31,u32,u33,u34,undef],defers:=[] } u:=by
    intro v' u y mm
    refine hK0 _ _ ?_
    clear hK0 D
    have M:=Hd mm
    clear mm
    go_upto_region 6 with (fail)
    refine wp_region_lit ?_
    refine pK (.pointer (some ⟨c,0,none⟩)) ?_
    refine lS rfl 111 (.tmp 9) rfl xa 0 27 (by kernel_rfl) _ _ (pc at1.x at1.y at1.z) _ _ (M.out.at 3 rfl) Tryz.underlying111 rfl (by kernel_rfl) (pc_size _ _ _) (fun j hj=>by rw [Nat.zero_add]) ?_
    refine lS rfl 111 (.tmp 8) rfl xo 0 27 (by kernel_rfl) _ _ (pc one.x one.y one.z) _ _ (M.out.at 2 rfl) Tryz.underlying111 rfl (by kernel_rfl) (pc_size _ _ _) (fun j hj=>by rw [Nat.zero_add]) ?_
    refine fL rfl 97 (.func 97) #[.tmp 30,.tmp 31,.tmp 32] #[70,111,111] rfl #[] #[.pointer (some ⟨c,0,none⟩),.agg (pc at1.x at1.y at1.z),.agg (pc one.x one.y one.z)] (by kernel_rfl) (by kernel_rfl) (fun u=>cE _ _ _ _ u Tryz.func97 (by kernel_rfl) (by kernel_rfl)) (.agg (pc ((k.c.sum at1 one).x) ((k.c.sum at1 one).y) ((k.c.sum at1 one).z))) (sum_rp k c f d u RA.out ROne.out (HC.out.up M.out.1)) (fun w8 hb=>?_)
    have Nw8:=Hd (show MO 41 19 w w8 [(g,gpt k m,41),(tb,#[v'],186),(xo,pc one.x one.y one.z,111),(xa,pc at1.x at1.y at1.z,111)] v' (i+1) (els k m (i+1)) from M.out.grow hb)
    clear hb M
    refine sB rfl 111 (.tmp 9) (.tmp 33) rfl xa (by kernel_rfl) _ _ (pc ((k.c.sum at1 one).x) ((k.c.sum at1 one).y) ((k.c.sum at1 one).z)) (by kernel_rfl) (Nw8.out.at 3 rfl) (by rw [pc_size]; kernel_rfl) (by simp only [pc_size]) (pc_one _ _ _) ?_
    intro w9 hw hb hs
    have Nw9:=Hd (show MO 41 19 w w9 [(g,gpt k m,41),(tb,#[v'],186),(xo,pc one.x one.y one.z,111),(xa,pc ((k.c.sum at1 one).x) ((k.c.sum at1 one).y) ((k.c.sum at1 one).z),111)] v' (i+1) (els k m (i+1)) from Nw8.out.store 3 rfl hb hs hw)
    clear hw hb hs Nw8
    refine wpList_nil ?_
    try simp only [Act.put,s_,t_,u_,v_,x_,y_]
    go_wp2_with (fail)
    go_roundw
    case rel=>exact ⟨i+1,v',(k.c.sum at1 one),by omega,by go_num,by rw [Nat.add_mul,Nat.one_mul]; exact rp_sum k RA.out ROne.out,Nw9.out⟩
    case measure=>simp [intOf]; omega
   have hC:∀ u:World,MO 41 19 w u [(g,gpt k m,41),(tb,#[v],186),(xo,pc one.x one.y one.z,111),(xa,pc at1.x at1.y at1.z,111)] v i (els k m i)→Mem w u [(g,gpt k m,41),(xo,pc one.x one.y one.z,111),(xa,pc at1.x at1.y at1.z,111)]:=fun u h=>h.m.sub (by simp)
   refine wp_region_cls (C:=(fun u=>Mem w u [(g,gpt k m,41),(xo,pc one.x one.y one.z,111),(xa,pc at1.x at1.y at1.z,111)])) (fun u u2 hu hg=>Mem.grow hu hg) [0,1,2,3,5,6,7] (hC _ D.out) (by kernel_rfl) (by kernel_rfl) (fun d v c a w h=>by cases d <;> exact h) ?_
   simp only [pickOps,List.filterMap_cons,List.filterMap_nil,List.getElem?_cons_succ,List.getElem?_cons_zero]
   refine eK (.pointer (some ⟨tb,0,none⟩)) ?_
   refine eK (.pointer (some ⟨tb,0,none⟩)) ?_
   refine eK (.pointer (some ⟨tb,0,none⟩)) ?_
   refine eK (.pointer (some ⟨tb,0,none⟩)) ?_
   refine eK (.pointer (some ⟨c,0,none⟩)) ?_
   refine wpE_load_seg rfl 111 (.tmp 9) rfl xa 0 27 (by kernel_rfl) (pc at1.x at1.y at1.z) _ Tryz.underlying111 rfl (by kernel_rfl) (pc_size _ _ _) (fun u hu=>⟨_,_,_,Mem.at hu 2 rfl,fun j hj=>by rw [Nat.zero_add]⟩) ?_
   refine wpE_fn rfl _ _ _ _ rfl #[] #[.pointer (some ⟨c,0,none⟩),.agg (pc at1.x at1.y at1.z)] (by kernel_rfl) (by kernel_rfl) (fun u=>cE _ _ _ _ u Tryz.func57 (by kernel_rfl) (by kernel_rfl)) (.agg (gpt k (i*m))) (fun u hu=>plain_rp k c f d u RA.out (HC.out.up hu.1)) ?_
   refine wpE_nil ?_
   try simp only [Act.put,s_,t_,u_,v_,x_,y_]
   refine ready_E (rs:=[4,8]) (by kernel_rfl) (by simp) (fun uq1 hgB=>?_)
   have Nq2:=Hd (D.out.grow hgB)
   clear hgB
   refine EAll.cons rfl (fun K hK=>step_load_one rfl 184 (.tmp 21) rfl tb 0 (by kernel_rfl) v _ Tryz.underlying184 rfl (by rw [cO (Nq2.out.at 1 rfl)]; rfl) (hK _ _ (hC _ Nq2.out) ?_)) (EAll.cons rfl (fun K hK=>step_slice1 rfl 184 41 (.tmp 25) rfl (.agg (gpt k (i*m))) rfl ie (.agg (ptc 0 0 false)) 19 (by decide) (by decide) Tryz.underlying184 HIE.out.1 HIE.out.2.1 HIE.out.2.2.1 (pS _ _ _) (gpt_size _ _) (fun y u1 _ _ hgy hy=>hK _ _ (hC _ (Nq2.out.grow hgy)) ?_)) EAll.nil)
   ·try simp only [Act.put,s_,t_,u_,v_,x_,y_]
    refine ready_E (rs:=[8]) (by kernel_rfl) (by simp) (fun uq3 hgB=>?_)
    have Nq4:=Hd (Nq2.out.grow hgB)
    clear hgB
    refine EAll.cons rfl (fun K hK=>step_slice1 rfl 184 41 (.tmp 25) rfl (.agg (gpt k (i*m))) rfl ie (.agg (ptc 0 0 false)) 19 (by decide) (by decide) Tryz.underlying184 HIE.out.1 HIE.out.2.1 HIE.out.2.2.1 (pS _ _ _) (gpt_size _ _) (fun y u2 _ _ hgy hy=>hK _ _ (hC _ (Nq4.out.grow hgy)) ?_)) EAll.nil
    try simp only [Act.put,s_,t_,u_,v_,x_,y_]
    have N3:=Hd (Nq4.out.grow hgy)
    refine ready_E (rs:=[9]) (by kernel_rfl) (by simp) (fun uq5 hgB=>?_)
    have Nq6:=Hd (N3.out.grow hgB)
    have hy2:=grows_at hy hgB
    clear hgB
    refine EAll.cons rfl (fun K hK=>step_app1 rfl (.tmp 22) (.tmp 26) 184 rfl 41 ie (.agg (ptc 0 0 false)) 19 152 Tryz.underlying184 HIE.out.1 HIE.out.2.1 HIE.out.2.2.1 HIE.out.2.2.2 (pS _ _ _) v i (els k m i) Nq6.out (by kernel_rfl) y (by kernel_rfl) (gpt k (i*m)) hy2 (gpt_size _ _) (gpt_one _ _) (by omega) (by simp only [maxLen]; omega) (fun v' u' M'=>hK _ _ (M'.m.sub (by simp)) ?_)) EAll.nil
    have N5:=Hd M'
    clear M'
    try simp only [Act.put,s_,t_,u_,v_,x_,y_]
    refine ready_E (rs:=[10]) (by kernel_rfl) (by simp) (fun uq7 hgB=>?_)
    have Nq8:=Hd (N5.out.grow hgB)
    clear hgB
    refine EAll.cons rfl (fun K hK=>step_pure rfl (.pointer (some ⟨tb,0,none⟩)) (fun u=>by kernel_rfl) (hK _ _ (Nq8.out.m.sub (by simp)) ?_)) EAll.nil
    try simp only [Act.put,s_,t_,u_,v_,x_,y_]
    refine ready_E (rs:=[11]) (by kernel_rfl) (by simp) (fun uq9 hgB=>?_)
    have Nq10:=Hd (Nq8.out.grow hgB)
    clear hgB
    refine EAll.cons rfl (fun K hK=>step_pure rfl (.pointer (some ⟨tb,0,none⟩)) (fun u=>by kernel_rfl) (hK _ _ (Nq10.out.m.sub (by simp)) ?_)) EAll.nil
    try simp only [Act.put,s_,t_,u_,v_,x_,y_]
    refine ready_E (rs:=[12]) (by kernel_rfl) (by simp) (fun uq11 hgB=>?_)
    have Nq12:=Hd (Nq10.out.grow hgB)
    clear hgB
    refine EAll.cons rfl (fun K hK=>?_) EAll.nil
    have hon:=Nq12.out.o.one
    refine step_store_cell rfl 184 (.tmp 29) (.tmp 27) rfl tb 0 (by kernel_rfl) _ #[v] v' (by kernel_rfl) hon.1 (Nq12.out.at 1 rfl) (by kernel_rfl) Nat.zero_lt_one hon.2 (fun u9 hw hb hs=>hK _ _ ((Nq12.out.store 1 rfl hb hs hw).m.sub (by simp)) ?_)
    have N9:=Hd (show MO 41 19 w u9 [(g,gpt k m,41),(tb,#[v'],186),(xo,pc one.x one.y one.z,111),(xa,pc at1.x at1.y at1.z,111)] v' (i+1) (els k m (i+1)) from Nq12.out.store 1 rfl hb hs hw)
    try simp only [Act.put,s_,t_,u_,v_,x_,y_]
    refine done_E (by kernel_rfl) (fun u10 hgB=>?_)
    exact fin _ _ _ (N9.out.grow hgB)
   ·try simp only [Act.put,s_,t_,u_,v_,x_,y_]
    have N3:=Hd (Nq2.out.grow hgy)
    refine ready_E (rs:=[4]) (by kernel_rfl) (by simp) (fun uq13 hgB=>?_)
    have Nq14:=Hd (N3.out.grow hgB)
    have hy3:=grows_at hy hgB
    clear hgB
    refine EAll.cons rfl (fun K hK=>step_load_one rfl 184 (.tmp 21) rfl tb 0 (by kernel_rfl) v _ Tryz.underlying184 rfl (by rw [cO (Nq14.out.at 1 rfl)]; rfl) (hK _ _ (hC _ Nq14.out) ?_)) EAll.nil
    try simp only [Act.put,s_,t_,u_,v_,x_,y_]
    refine ready_E (rs:=[9]) (by kernel_rfl) (by simp) (fun uq15 hgB=>?_)
    have Nq16:=Hd (Nq14.out.grow hgB)
    have hy2:=grows_at hy3 hgB
    clear hgB
    refine EAll.cons rfl (fun K hK=>step_app1 rfl (.tmp 22) (.tmp 26) 184 rfl 41 ie (.agg (ptc 0 0 false)) 19 152 Tryz.underlying184 HIE.out.1 HIE.out.2.1 HIE.out.2.2.1 HIE.out.2.2.2 (pS _ _ _) v i (els k m i) Nq16.out (by kernel_rfl) y (by kernel_rfl) (gpt k (i*m)) hy2 (gpt_size _ _) (gpt_one _ _) (by omega) (by simp only [maxLen]; omega) (fun v' u' M'=>hK _ _ (M'.m.sub (by simp)) ?_)) EAll.nil
    have N5:=Hd M'
    clear M'
    try simp only [Act.put,s_,t_,u_,v_,x_,y_]
    refine ready_E (rs:=[10]) (by kernel_rfl) (by simp) (fun uq17 hgB=>?_)
    have Nq18:=Hd (N5.out.grow hgB)
    clear hgB
    refine EAll.cons rfl (fun K hK=>step_pure rfl (.pointer (some ⟨tb,0,none⟩)) (fun u=>by kernel_rfl) (hK _ _ (Nq18.out.m.sub (by simp)) ?_)) EAll.nil
    try simp only [Act.put,s_,t_,u_,v_,x_,y_]
    refine ready_E (rs:=[11]) (by kernel_rfl) (by simp) (fun uq19 hgB=>?_)
    have Nq20:=Hd (Nq18.out.grow hgB)
    clear hgB
    refine EAll.cons rfl (fun K hK=>step_pure rfl (.pointer (some ⟨tb,0,none⟩)) (fun u=>by kernel_rfl) (hK _ _ (Nq20.out.m.sub (by simp)) ?_)) EAll.nil
    try simp only [Act.put,s_,t_,u_,v_,x_,y_]
    refine ready_E (rs:=[12]) (by kernel_rfl) (by simp) (fun uq21 hgB=>?_)
    have Nq22:=Hd (Nq20.out.grow hgB)
    clear hgB
    refine EAll.cons rfl (fun K hK=>?_) EAll.nil
    have hon:=Nq22.out.o.one
    refine step_store_cell rfl 184 (.tmp 29) (.tmp 27) rfl tb 0 (by kernel_rfl) _ #[v] v' (by kernel_rfl) hon.1 (Nq22.out.at 1 rfl) (by kernel_rfl) Nat.zero_lt_one hon.2 (fun u9 hw hb hs=>hK _ _ ((Nq22.out.store 1 rfl hb hs hw).m.sub (by simp)) ?_)
    have N9:=Hd (show MO 41 19 w u9 [(g,gpt k m,41),(tb,#[v'],186),(xo,pc one.x one.y one.z,111),(xa,pc at1.x at1.y at1.z,111)] v' (i+1) (els k m (i+1)) from Nq22.out.store 1 rfl hb hs hw)
    try simp only [Act.put,s_,t_,u_,v_,x_,y_]
    refine done_E (by kernel_rfl) (fun u10 hgB=>?_)
    exact fin _ _ _ (N9.out.grow hgB)
  ·obtain rfl:i=n:=by omega
   go_wp2_with (fail)
   go_ret
   exact ⟨tb,rfl,⟨v,M.out.at 1 rfl,hn,M.out.o.down⟩,M.out.ge 1 rfl,M.out.below⟩
end Go.Proofs.YtkoonhiplicbkaaGreat.Cw
