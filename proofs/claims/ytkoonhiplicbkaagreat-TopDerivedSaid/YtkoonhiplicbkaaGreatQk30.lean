/-
  (package table) Pick: the i-th of a table, all being touched; (package trace) Index without a recorder. Condition: multiples of G of one of the 15 curves, at most 16 of them.
-/
import Derived.Test.YtkoonhiplicbkaaGreatQk29
import Derived.Test.YtkoonhiplicbkaaGreatQk27
import Derived.Test.YtkoonhiplicbkaaGreatQk28
set_option linter.unusedSimpArgs false
set_option linter.unusedVariables false
set_option maxHeartbeats 4000000
set_option maxRecDepth 100000
namespace Go.Proofs.YtkoonhiplicbkaaGreat.Cw
open Go Go.RowKit
theorem trace_index (q:Nat) (w:World):Calls Tryz.prog 132 #[.pointer none,.int .i64 q] w fun e w'=>e=.returned (.int .i64 1)∧Below w.heap.size w w':=by
 go_enter Tryz.func132,Tryz.ntmps132
 go_wp2
 go_ret
 exact ⟨rfl,Below.refl _ _⟩
theorem run_bin {P:Program} {ρ:Operand→Value} {o:Oper} {v:Value} (op:BinOp) (t t2:TypeId) (x y:Operand) (ho:o.op=.binOp op t x y t2) (p q:Nat) (hx:ρ x=wn p) (hy:ρ y=wn q) (h:binOp op t (wn p) (wn q)=pure v) (u:World):(execOp ρ o).run P u=.ok (.value v) u:=by
 obtain ⟨d,op,type,pos,after,guard⟩:=o
 subst ho
 simp only [execOp,hx,hy,wn_guard,h,Sem.run_bind,Sem.run_pure,Result.andThen_ok]
theorem results_O2 {fn:Func} {p q:Tmp} (h:fn.results=#[.cell p 41,.tmp q]) (tmps:Array Value) (w:World) (g:Nat) (t:TypeId) (cs:Array Value) (fr:Nat × Nat) (v:Value) (hn:cs.size=19)
  (hp:tmps.getD p undef=.pointer (some ⟨g,0,none⟩)) (hq:tmps.getD q undef=v) (hg:w.heap[g]?=some (.cells cs t fr)) :
  (results fn tmps).run Tryz.prog w=.ok (.tuple #[.agg cs,v]) w:=by
 have hp':tmps[p]?.getD undef=.pointer (some ⟨g,0,none⟩):=by simpa using hp
 have hq':tmps[q]?.getD undef=v:=by simpa using hq
 simp [results,h,hp',hq',asAddr,run_load_seg w g 0 19 t 41 cs cs fr _ hg Tryz.underlying41 rfl (by kernel_rfl) hn (fun j _=>by rw [Nat.zero_add])]
theorem mw_true {q i:Nat} (h:q=i):mw (decide (q=i))=wn 18446744073709551615:=by rw [decide_eq_true h]; rfl
theorem mw_false {q i:Nat} (h:¬ q=i):mw (decide (q=i))=wn 0:=by rw [decide_eq_false h]; rfl
theorem ptc_eq (x y:Nat) (b:Bool):ptc x y b=#[]++(nc x++(nc y++#[.bool b])):=by unfold ptc; simp
theorem ptc_eq2 (x y:Nat) (b:Bool):ptc x y b=nc x++(nc y++#[.bool b]):=by unfold ptc; simp
theorem ptc_eq3 (x y:Nat) (b:Bool):ptc x y b=(nc x++nc y)++(#[.bool b]++#[]):=by unfold ptc; simp
section
variable {ops:Array Oper} {rest:List Oper} {o:Oper} {a:Act} {w:World} {Q:Exit→Act→World→Prop} {K:Act→World→Prop} {E:Prop}
theorem step_pt_x (hgd:o.guard=none) (x v:Operand) (ho:o.op=.store 27 x v) (g:Nat) (hx:a.eval x=.pointer (some ⟨g,0,none⟩)) (t:TypeId) (X Y X':Nat) (b:Bool) (hv:a.eval v=.agg (nc X')) (hg:w.heap[g]?=some (.cells (ptc X Y b) t (0,0)))
  (h:∀ w',w'.heap[g]?=some (.cells (ptc X' Y b) t (0,0))→But g w w'→w'.heap.size=w.heap.size→K (a.put o.dst undef) w'):if Region.wanted o (yielded ops a.tmps)=true then Oper.wp Tryz.prog o a w K Q else E:=by
 rw [ptc_eq] at hg
 refine step_store_part hgd _ x v ho g 0 hx t #[] (nc X) _ (nc X') (by rw [hv]; rfl) hg rfl (by simp [nS]) (by rw [nS]; kernel_rfl) (nO _) fun w' h1 h2 h3=>h w' (by rw [ptc_eq]; exact h1) h2 h3
theorem step_pt_y (hgd:o.guard=none) (x v:Operand) (ho:o.op=.store 27 x v) (g:Nat) (hx:a.eval x=.pointer (some ⟨g,9,none⟩)) (t:TypeId) (X Y Y':Nat) (b:Bool) (hv:a.eval v=.agg (nc Y')) (hg:w.heap[g]?=some (.cells (ptc X Y b) t (0,0)))
  (h:∀ w',w'.heap[g]?=some (.cells (ptc X Y' b) t (0,0))→But g w w'→w'.heap.size=w.heap.size→K (a.put o.dst undef) w'):if Region.wanted o (yielded ops a.tmps)=true then Oper.wp Tryz.prog o a w K Q else E:=by
 rw [ptc_eq2] at hg
 refine step_store_part hgd _ x v ho g 9 hx t (nc X) (nc Y) _ (nc Y') (by rw [hv]; rfl) hg (nS X) (by simp [nS]) (by rw [nS]; kernel_rfl) (nO _) fun w' h1 h2 h3=>h w' (by rw [ptc_eq2]; exact h1) h2 h3
theorem list_pt_i (hgd:o.guard=none) (x v:Operand) (ho:o.op=.store 4 x v) (g:Nat) (hx:a.eval x=.pointer (some ⟨g,18,none⟩)) (t:TypeId) (X Y:Nat) (b b':Bool) (hv:a.eval v=.bool b') (hg:w.heap[g]?=some (.cells (ptc X Y b) t (0,0)))
  (h:∀ w',w'.heap[g]?=some (.cells (ptc X Y b') t (0,0))→But g w w'→w'.heap.size=w.heap.size→wpList Tryz.prog ops Q rest (a.put o.dst undef) w'):wpList Tryz.prog ops Q (o::rest) a w:=by
 rw [ptc_eq3] at hg
 refine wpList_store_part hgd _ x v ho g 18 hx t (nc X++nc Y) #[.bool b] _ #[.bool b'] (by rw [hv]; rfl) hg (by simp [nS]) rfl (by kernel_rfl) (by intro u hu; simp at hu; subst hu; rfl) fun w' h1 h2 h3=>h w' (by rw [ptc_eq3]; exact h1) h2 h3
end
attribute [local irreducible] pc ptc nc ac cuc fc gpt
attribute [local go_sem ↓ high] wn_eql wn_neq wn_lss wn_gtr wn_leq wn_geq wn_cells wRS wn_guard lit0 lit1
attribute [local go_sem high] wn_match wRS wn_eql wn_neq wn_lss wn_gtr wn_leq wn_geq
theorem CK.p9 (k:CK):k.c.p<pw 9:=by
 have h:=(tab_p k.2.1 k.2.2).2.2.2
 show (cv k.1).p<pw 9
 omega
def sel (i q x:Nat):Nat:=if i<q then x else 0
theorem sel_lt {i q x N:Nat} (h:x<N):sel i q x<N:=by unfold sel; split <;> omega
theorem sel_eq {i x:Nat}:sel i (i+1) x=x:=by unfold sel; rw [if_pos (by omega)]
theorem sel_self {i x:Nat}:sel i i x=0:=by unfold sel; rw [if_neg (by omega)]
theorem sel_all {i n x:Nat} (h:i<n):sel i n x=x:=by unfold sel; rw [if_pos h]
theorem sel_ne {i q x:Nat} (h:q≠i):sel i (q+1) x=sel i q x:=by
 unfold sel
 by_cases h1:i<q
 ·rw [if_pos h1,if_pos (by omega)]
 ·rw [if_neg h1,if_neg (by omega)]
def bln (b:Bool):Nat:=if b then 1 else 0
theorem table_pick (k:CK) (t m n i:Nat) (hi:i<n) (hn:n≤16) (w:World) (H:TabAt k w t m n):Calls Tryz.prog 109 #[.pointer (some ⟨t,0,none⟩),.pointer none,.int .i64 i] w fun e w'=>e=.returned (.tuple #[.agg (gpt k (i*m)),.int .i64 0])∧Below w.heap.size w w':=by
 obtain ⟨v,h1,h2,h3⟩:=H
 obtain ⟨gs,cap,rfl,hnc,hcm,_,cur,fr,hcur,hel⟩:=h3.cell h2
 have HT:=Hd h1
 have HS:=Hd hcur
 have HE:=Hd (show ∀ q j,q<n→j<19→cur[q*19+j]?=(ptc (pX k (gm k (q*m))) (pY k (gm k (q*m))) (pI k (gm k (q*m))))[j]? from fun q j hq hj=>by rw [hel _ (by omega),els_get k m n q j hq hj]; unfold gpt; rfl)
 obtain ⟨X,hX⟩:∃ X,X=pX k (gm k (i*m)):=⟨_,rfl⟩
 obtain ⟨Y,hY⟩:∃ Y,Y=pY k (gm k (i*m)):=⟨_,rfl⟩
 obtain ⟨B,hB⟩:∃ B,B=pI k (gm k (i*m)):=⟨_,rfl⟩
 have HP9:=Hd k.p9
 have HR:=Hd (show gpt k (i*m)=ptc X Y B by rw [hX,hY,hB]; unfold gpt; rfl)
 have HX:=Hd hX
 have HY:=Hd hY
 have HB:=Hd hB
 have HX9:=Hd (show X<pw 9 from by rw [hX]; exact Nat.lt_trans (pX_lt k _) k.p9)
 have HY9:=Hd (show Y<pw 9 from by rw [hY]; exact Nat.lt_trans (pY_lt k _) k.p9)
 clear hX hY hB
 rw [HR.out]
 have HCM:=Hd hcm
 have HNC:=Hd hnc
 clear h1 h2 h3 hcur hel hcm hnc
 have d0:decide ((i:Int)<0)=false:=decide_eq_false (by omega)
 have d1:¬ (n:Int)≤i:=by omega
 have HI:=Hd hi
 have HN:=Hd hn
 clear hn
 go_enter Tryz.func109,Tryz.ntmps109
 go_upto_region 1 with fail
 rw [← ptc_zero]
 have m0:=Mem.start1 w (ptc 0 0 false) 41
 obtain ⟨w1,hw1⟩:∃ w1:World,w1=(w.alloc (.cells (ptc 0 0 false) 41)):=⟨_,rfl⟩
 rw [← hw1] at m0 ⊢
 clear hw1
 obtain ⟨g,hg⟩:∃ g,g=w.heap.size:=⟨_,rfl⟩
 rw [← hg] at m0 ⊢
 have HG:=Hd hg
 have M:=Hd m0
 clear hg m0
 have c0:w1.cell? ⟨t,0,none⟩=some (.slice (some ⟨gs,0,none⟩) n cap):=by rw [cO (grows_at HT.out M.out.1)]; rfl
 go_upto_region 5 with (fail)
 refine wp_region_lit ?_
 refine nL rfl 41 rfl (.agg (ptc 0 0 false)) (by rw [ptc_zero]; kernel_rfl) ?_
 intro o w2 hx hx2 hgv hh
 have Nw2:=Hd (show Mem w w2 [(g,ptc 0 0 false,41),(o,ptc 0 0 false,41)] from M.out.new hgv (Nat.le_of_eq hx) hh)
 clear hx hx2 hgv hh M
 refine wpList_nil ?_
 try simp only [Act.put,s_,t_,u_,v_,x_,y_]
 have c1:w2.cell? ⟨t,0,none⟩=some (.slice (some ⟨gs,0,none⟩) n cap):=by rw [cO (grows_at HT.out Nw2.out.1)]; rfl
 clear c0
 go_upto_region 8 with (fail)
 have hbl:bln B≤1:=by cases B <;> decide
 have HBL:=Hd hbl
 clear hbl c1
 go_loopw [36,9] (fun iv fv wr=>∃ q:Nat,q≤n∧iv=.int .i64 (q:Int)∧fv=wn (sel i q (bln B))∧Mem w wr [(g,ptc 0 0 false,41),(o,ptc (sel i q X) (sel i q Y) false,41)]) (fun iv _ _=>(n - intOf iv).toNat)
 case atStart=>exact ⟨0,Nat.zero_le _,rfl,rfl,Nw2.out⟩
 case round=>
  obtain ⟨q,hq,rfl,rfl,hm⟩:=hrel
  have M:=Hd hm
  clear hm Nw2
  have hn:=HN.out
  have hbl:=HBL.out
  obtain ⟨F,hF⟩:∃ F,F=sel i q (bln B):=⟨_,rfl⟩
  obtain ⟨ox,hox⟩:∃ ox,ox=sel i q X:=⟨_,rfl⟩
  obtain ⟨oy,hoy⟩:∃ oy,oy=sel i q Y:=⟨_,rfl⟩
  rw [← hF]
  rw [← hox,← hoy] at M
  have hF2:F<18446744073709551616:=by have:=(sel_lt (i:=i) (q:=q) (show bln B<2 by omega)); omega
  have HOX:=Hd hox
  have HOY:=Hd hoy
  have HFF:=Hd hF
  have ox9:=Hd (show ox<pw 9 by rw [hox]; exact sel_lt HX9.out)
  have oy9:=Hd (show oy<pw 9 by rw [hoy]; exact sel_lt HY9.out)
  clear hox hoy hF hbl
  by_cases hlt:q<n
  ·have HQ:=Hd hlt
   have hq16:=Hd (show q<16 by omega)
   have hi16:=Hd (show i<16 by omega)
   obtain ⟨xq,hxq⟩:∃ x,x=pX k (gm k (q*m)):=⟨_,rfl⟩
   obtain ⟨yq,hyq⟩:∃ x,x=pY k (gm k (q*m)):=⟨_,rfl⟩
   obtain ⟨bq,hbq⟩:∃ x,x=pI k (gm k (q*m)):=⟨_,rfl⟩
   have xq9:=Hd (show xq<pw 9 by rw [hxq]; exact Nat.lt_trans (pX_lt k _) HP9.out)
   have yq9:=Hd (show yq<pw 9 by rw [hyq]; exact Nat.lt_trans (pY_lt k _) HP9.out)
   have HEQ:=Hd (show ∀ j,j<19→cur[q*19+j]?=(ptc xq yq bq)[j]? from fun j hj=>by rw [HE.out q j hlt hj,hxq,hyq,hbq])
   have HXQ:=Hd hxq
   have HYQ:=Hd hyq
   have HBQ:=Hd hbq
   clear hxq hyq hbq
   have hsl:IntKind.i64.wrap ((q:Int)+1)=(q:Int)+1:=IntWalk.i64_in _ (by omega)
   have HWR:=Hd hsl
   clear hsl hn hF2
   have hF2:=Hd (show F<18446744073709551616 by rw [HFF.out]; exact Nat.lt_trans (sel_lt (show bln B<2 by have:=HBL.out; omega)) (by decide))
   have ncq:∀ (x:Nat),nc x=nc x:=fun _=>rfl
   clear ncq
   have dl:decide ((q:Int)<n)=true:=decide_eq_true (by omega)
   by_cases hqi:q=i
   ·have HQI:=Hd hqi
    clear hqi
    rcases bq with _ | _
    ·skip
     go_upto_region 9 with (fail)
     refine wp_region_lit ?_
     refine pK (.int .i64 (q:Int)) ?_
     try simp only [Act.put,s_,t_,u_,v_,x_,y_]
     refine pL rfl (.pointer (some ⟨gs,q*19,none⟩)) (idx_slice 184 (.tmp 34) (.tmp 36) rfl gs n cap q 19 (by kernel_rfl) (by kernel_rfl) HQ.out Tryz.underlying184 (by kernel_rfl)) ?_
     try simp only [Act.put,s_,t_,u_,v_,x_,y_]
     refine lS rfl 41 (.tmp 39) rfl gs (q*19) 19 (by kernel_rfl) _ _ (ptc xq yq false) _ _ (grows_at HS.out M.out.1) Tryz.underlying41 rfl (by kernel_rfl) (pS _ _ _) HEQ.out ?_
     refine nL rfl 41 rfl (.agg (ptc 0 0 false)) (by rw [ptc_zero]; kernel_rfl) ?_
     intro xp w3 hx hx2 hgv hh
     have Nw3:=Hd (show Mem w w3 [(g,ptc 0 0 false,41),(o,ptc ox oy false,41),(xp,ptc 0 0 false,41)] from M.out.new hgv (Nat.le_of_eq hx) hh)
     clear hx hx2 hgv hh M
     refine pK (.int .i64 (q:Int)) ?_
     refine sB rfl 41 (.tmp 11) (.tmp 40) rfl xp (by kernel_rfl) _ _ (ptc xq yq false) (by kernel_rfl) (Nw3.out.at 2 rfl) (by rw [pS]; kernel_rfl) (by simp only [pS]) (ptc_one _ _ _) ?_
     intro w4 hw hb hs
     have Nw4:=Hd (Nw3.out.store 2 rfl hb hs hw)
     clear hw hb hs Nw3
     refine wpList_nil ?_
     try simp only [Act.put,s_,t_,u_,v_,x_,y_]
     go_upto_region 10 with (fail)
     refine wp_region_lit ?_
     refine pK (.pointer none) ?_
     refine pK (.int .i64 (q:Int)) ?_
     refine fL rfl 132 (.func 132) #[.tmp 41,.tmp 42] #[69,3] rfl #[] #[.pointer none,.int .i64 (q:Int)] (by kernel_rfl) (by kernel_rfl) (fun u=>cE _ _ _ _ u Tryz.func132 (by kernel_rfl) (by kernel_rfl)) (.int .i64 1) (trace_index q w4) (fun w5 hb=>?_)
     have Nw5:=Hd (Nw4.out.grow hb)
     clear hb Nw4
     refine wpList_nil ?_
     try simp only [Act.put,s_,t_,u_,v_,x_,y_]
     go_upto_region 11 with (fail)
     refine wp_region_lit ?_
     refine pK (.int .i64 (q:Int)) ?_
     try simp only [Act.put,s_,t_,u_,v_,x_,y_]
     refine pL rfl (wn q) (fun u=>by exact conv_wn 3 24 (.tmp 44) rfl q (by kernel_rfl) (by have:=hq16.out; omega) Tryz.underlying3 Tryz.underlying24 u) ?_
     refine pK (.int .i64 (i:Int)) ?_
     try simp only [Act.put,s_,t_,u_,v_,x_,y_]
     refine pL rfl (wn i) (fun u=>by exact conv_wn 3 24 (.tmp 46) rfl i (by kernel_rfl) (by have:=hi16.out; omega) Tryz.underlying3 Tryz.underlying24 u) ?_
     have hcc:=(mask_equal16 q i hq16.out hi16.out w5).mono (fun e w2 h=>show e=.returned (wn 18446744073709551615)∧Below w5.heap.size w5 w2 from ⟨by rw [h.1,mw_true HQI.out],by rw [← h.2]; exact Below.refl _ _⟩)
     refine fL rfl 133 (.func 133) #[.tmp 45,.tmp 47] #[24,24] rfl #[] #[wn q,wn i] (by kernel_rfl) (by kernel_rfl) (fun u=>cE _ _ _ _ u Tryz.func133 (by kernel_rfl) (by kernel_rfl)) (wn 18446744073709551615) (hcc) (fun w6 hb=>?_)
     have Nw6:=Hd (Nw5.out.grow hb)
     clear hb Nw5 hcc
     refine pK (wn 18446744073709551615) ?_
     refine wpList_nil ?_
     try simp only [Act.put,s_,t_,u_,v_,x_,y_]
     go_upto_region 12 with (fail)
     have D7:=Hd (Nw6.out.drew)
     clear Nw6
     refine wp_region_growT 13 13 (by kernel_rfl) (by kernel_rfl) (fun d v c a w h=>by cases d <;> exact h) ?_
     simp only [List.take_succ_cons,List.take_zero]
     refine gK (wn 18446744073709551615) ?_
     refine gK (.pointer (some ⟨xp,0,none⟩)) ?_
     refine lN rfl (.tmp 50) rfl xp 0 (by kernel_rfl) xq (fun u hu=>D7.out.up 2 rfl hu) (ptc_x xq yq false) ?_
     refine gK (.pointer (some ⟨o,0,none⟩)) ?_
     refine lN rfl (.tmp 52) rfl o 0 (by kernel_rfl) ox (fun u hu=>D7.out.up 1 rfl hu) (ptc_x ox oy false) ?_
     refine fG rfl 134 (.func 134) #[.tmp 49,.tmp 51,.tmp 53] #[24,27,27] rfl #[] #[wn 18446744073709551615,.agg (nc xq),.agg (nc ox)] (by kernel_rfl) (by kernel_rfl) (fun u=>cE _ _ _ _ u Tryz.func134 (by kernel_rfl) (by kernel_rfl)) (.agg (nc xq)) (fun u hu=>by exact mask_select true xq ox xq9.out ox9.out u) ?_
     refine gK (wn 18446744073709551615) ?_
     refine gK (.pointer (some ⟨xp,9,none⟩)) ?_
     refine lN rfl (.tmp 56) rfl xp 9 (by kernel_rfl) yq (fun u hu=>D7.out.up 2 rfl hu) (ptc_y xq yq false) ?_
     refine gK (.pointer (some ⟨o,9,none⟩)) ?_
     refine lN rfl (.tmp 58) rfl o 9 (by kernel_rfl) oy (fun u hu=>D7.out.up 1 rfl hu) (ptc_y ox oy false) ?_
     refine fG rfl 134 (.func 134) #[.tmp 55,.tmp 57,.tmp 59] #[24,27,27] rfl #[] #[wn 18446744073709551615,.agg (nc yq),.agg (nc oy)] (by kernel_rfl) (by kernel_rfl) (fun u=>cE _ _ _ _ u Tryz.func134 (by kernel_rfl) (by kernel_rfl)) (.agg (nc yq)) (fun u hu=>by exact mask_select true yq oy yq9.out oy9.out u) ?_
     refine gK (.pointer (some ⟨o,0,none⟩)) ?_
     refine gN ?_
     try simp only [Act.put,s_,t_,u_,v_,x_,y_]
     refine gS (rs:=[13]) (by kernel_rfl) (by decide) (fun w8 hg6=>?_)
     have Nw8:=Hd (D7.out.grow hg6)
     clear hg6 D7
     refine wpAny_ready (rs:=[13]) (by kernel_rfl) (by simp) ?_
     refine AllReady.cons rfl (fun K hK=>?_) AllReady.nil
     refine step_pt_x rfl (.tmp 61) (.tmp 54) rfl o rfl _ _ _ xq false (by kernel_rfl) (Nw8.out.at 1 rfl) (fun w9 hw hb hs=>hK _ _ ?_)
     have Nw9:=Hd (Nw8.out.store 1 rfl hb hs hw)
     clear hK hw hb hs Nw8
     try simp only [Act.put,s_,t_,u_,v_,x_,y_]
     refine wpAny_ready (rs:=[14]) (by kernel_rfl) (by simp) ?_
     refine AllReady.cons rfl (fun K hK=>?_) AllReady.nil
     refine step_pure rfl (.pointer (some ⟨o,9,none⟩)) (fun u=>by kernel_rfl) (hK _ _ ?_)
     clear hK
     try simp only [Act.put,s_,t_,u_,v_,x_,y_]
     refine wpAny_ready (rs:=[15]) (by kernel_rfl) (by simp) ?_
     refine AllReady.cons rfl (fun K hK=>?_) AllReady.nil
     refine step_pt_y rfl (.tmp 62) (.tmp 60) rfl o rfl _ _ _ yq false (by kernel_rfl) (Nw9.out.at 1 rfl) (fun w10 hw hb hs=>hK _ _ ?_)
     have Nw10:=Hd (Nw9.out.store 1 rfl hb hs hw)
     clear hK hw hb hs Nw9
     try simp only [Act.put,s_,t_,u_,v_,x_,y_]
     refine wpAny_done (by kernel_rfl) ?_ _
     try simp only [Act.put,s_,t_,u_,v_,x_,y_]
     go_upto_region 13 with (fail)
     refine wp_region_lit ?_
     refine pK (.int .u64 0) ?_
     refine wpList_nil ?_
     try simp only [Act.put,s_,t_,u_,v_,x_,y_]
     go_upto_region 14 with (fail)
     refine wp_region_lit ?_
     refine pK (.pointer (some ⟨xp,18,none⟩)) ?_
     refine lC rfl 4 (.tmp 63) rfl xp 18 (by kernel_rfl) (.bool false) _ Tryz.underlying4 rfl ((cO (Nw10.out.at 2 rfl) 18).trans (ptc_inf xq yq false)) ?_
     refine wpList_nil ?_
     try simp only [Act.put,s_,t_,u_,v_,x_,y_]
     have F0:=Hd (show F=0 by rw [HFF.out,HQI.out,sel_self])
     go_upto_region 16 with (fail)
     refine wp_region_lit ?_
     refine pK (wn F) ?_
     refine pK (wn 0) ?_
     refine pK (wn 18446744073709551615) ?_
     try simp only [Act.put,s_,t_,u_,v_,x_,y_]
     refine pL rfl (wn 0) (fun u=>by exact run_bin _ _ _ _ _ rfl 0 18446744073709551615 (by kernel_rfl) (by kernel_rfl) (wn_ands _ _ (by decide)) u) ?_
     try simp only [Act.put,s_,t_,u_,v_,x_,y_]
     refine pL rfl (wn 0) (fun u=>by exact run_bin _ _ _ _ _ rfl F 0 (by kernel_rfl) (by kernel_rfl) (by rw [F0.out]; exact wn_zor _ _ (by decide)) u) ?_
     refine pK (wn 0) ?_
     refine wpList_nil ?_
     try simp only [Act.put,s_,t_,u_,v_,x_,y_]
     have e1:xq=sel i (q+1) X:=by rw [HQI.out,sel_eq,HX.out,HXQ.out,HQI.out]
     have e2:yq=sel i (q+1) Y:=by rw [HQI.out,sel_eq,HY.out,HYQ.out,HQI.out]
     have e3:0=sel i (q+1) (bln B):=by rw [HQI.out,sel_eq,HB.out,← HQI.out,← HBQ.out]; rfl
     have E1:=Hd e1
     have E2:=Hd e2
     have E3:=Hd e3
     clear e1 e2 e3
     have hqv:=hq16.out
     go_wp2_with (fail)
     go_roundw
     case rel=>exact ⟨q+1,by omega,by go_num,by rw [← E3.out],by rw [← E1.out,← E2.out]; exact Nw10.out.take 2⟩
     case measure=>simp [intOf]; omega
    ·skip
     go_upto_region 9 with (fail)
     refine wp_region_lit ?_
     refine pK (.int .i64 (q:Int)) ?_
     try simp only [Act.put,s_,t_,u_,v_,x_,y_]
     refine pL rfl (.pointer (some ⟨gs,q*19,none⟩)) (idx_slice 184 (.tmp 34) (.tmp 36) rfl gs n cap q 19 (by kernel_rfl) (by kernel_rfl) HQ.out Tryz.underlying184 (by kernel_rfl)) ?_
     try simp only [Act.put,s_,t_,u_,v_,x_,y_]
     refine lS rfl 41 (.tmp 39) rfl gs (q*19) 19 (by kernel_rfl) _ _ (ptc xq yq true) _ _ (grows_at HS.out M.out.1) Tryz.underlying41 rfl (by kernel_rfl) (pS _ _ _) HEQ.out ?_
     refine nL rfl 41 rfl (.agg (ptc 0 0 false)) (by rw [ptc_zero]; kernel_rfl) ?_
     intro xp w3 hx hx2 hgv hh
     have Nw3:=Hd (show Mem w w3 [(g,ptc 0 0 false,41),(o,ptc ox oy false,41),(xp,ptc 0 0 false,41)] from M.out.new hgv (Nat.le_of_eq hx) hh)
     clear hx hx2 hgv hh M
     refine pK (.int .i64 (q:Int)) ?_
     refine sB rfl 41 (.tmp 11) (.tmp 40) rfl xp (by kernel_rfl) _ _ (ptc xq yq true) (by kernel_rfl) (Nw3.out.at 2 rfl) (by rw [pS]; kernel_rfl) (by simp only [pS]) (ptc_one _ _ _) ?_
     intro w4 hw hb hs
     have Nw4:=Hd (Nw3.out.store 2 rfl hb hs hw)
     clear hw hb hs Nw3
     refine wpList_nil ?_
     try simp only [Act.put,s_,t_,u_,v_,x_,y_]
     go_upto_region 10 with (fail)
     refine wp_region_lit ?_
     refine pK (.pointer none) ?_
     refine pK (.int .i64 (q:Int)) ?_
     refine fL rfl 132 (.func 132) #[.tmp 41,.tmp 42] #[69,3] rfl #[] #[.pointer none,.int .i64 (q:Int)] (by kernel_rfl) (by kernel_rfl) (fun u=>cE _ _ _ _ u Tryz.func132 (by kernel_rfl) (by kernel_rfl)) (.int .i64 1) (trace_index q w4) (fun w5 hb=>?_)
     have Nw5:=Hd (Nw4.out.grow hb)
     clear hb Nw4
     refine wpList_nil ?_
     try simp only [Act.put,s_,t_,u_,v_,x_,y_]
     go_upto_region 11 with (fail)
     refine wp_region_lit ?_
     refine pK (.int .i64 (q:Int)) ?_
     try simp only [Act.put,s_,t_,u_,v_,x_,y_]
     refine pL rfl (wn q) (fun u=>by exact conv_wn 3 24 (.tmp 44) rfl q (by kernel_rfl) (by have:=hq16.out; omega) Tryz.underlying3 Tryz.underlying24 u) ?_
     refine pK (.int .i64 (i:Int)) ?_
     try simp only [Act.put,s_,t_,u_,v_,x_,y_]
     refine pL rfl (wn i) (fun u=>by exact conv_wn 3 24 (.tmp 46) rfl i (by kernel_rfl) (by have:=hi16.out; omega) Tryz.underlying3 Tryz.underlying24 u) ?_
     have hcc:=(mask_equal16 q i hq16.out hi16.out w5).mono (fun e w2 h=>show e=.returned (wn 18446744073709551615)∧Below w5.heap.size w5 w2 from ⟨by rw [h.1,mw_true HQI.out],by rw [← h.2]; exact Below.refl _ _⟩)
     refine fL rfl 133 (.func 133) #[.tmp 45,.tmp 47] #[24,24] rfl #[] #[wn q,wn i] (by kernel_rfl) (by kernel_rfl) (fun u=>cE _ _ _ _ u Tryz.func133 (by kernel_rfl) (by kernel_rfl)) (wn 18446744073709551615) (hcc) (fun w6 hb=>?_)
     have Nw6:=Hd (Nw5.out.grow hb)
     clear hb Nw5 hcc
     refine pK (wn 18446744073709551615) ?_
     refine wpList_nil ?_
     try simp only [Act.put,s_,t_,u_,v_,x_,y_]
     go_upto_region 12 with (fail)
     have D7:=Hd (Nw6.out.drew)
     clear Nw6
     refine wp_region_growT 13 13 (by kernel_rfl) (by kernel_rfl) (fun d v c a w h=>by cases d <;> exact h) ?_
     simp only [List.take_succ_cons,List.take_zero]
     refine gK (wn 18446744073709551615) ?_
     refine gK (.pointer (some ⟨xp,0,none⟩)) ?_
     refine lN rfl (.tmp 50) rfl xp 0 (by kernel_rfl) xq (fun u hu=>D7.out.up 2 rfl hu) (ptc_x xq yq true) ?_
     refine gK (.pointer (some ⟨o,0,none⟩)) ?_
     refine lN rfl (.tmp 52) rfl o 0 (by kernel_rfl) ox (fun u hu=>D7.out.up 1 rfl hu) (ptc_x ox oy false) ?_
     refine fG rfl 134 (.func 134) #[.tmp 49,.tmp 51,.tmp 53] #[24,27,27] rfl #[] #[wn 18446744073709551615,.agg (nc xq),.agg (nc ox)] (by kernel_rfl) (by kernel_rfl) (fun u=>cE _ _ _ _ u Tryz.func134 (by kernel_rfl) (by kernel_rfl)) (.agg (nc xq)) (fun u hu=>by exact mask_select true xq ox xq9.out ox9.out u) ?_
     refine gK (wn 18446744073709551615) ?_
     refine gK (.pointer (some ⟨xp,9,none⟩)) ?_
     refine lN rfl (.tmp 56) rfl xp 9 (by kernel_rfl) yq (fun u hu=>D7.out.up 2 rfl hu) (ptc_y xq yq true) ?_
     refine gK (.pointer (some ⟨o,9,none⟩)) ?_
     refine lN rfl (.tmp 58) rfl o 9 (by kernel_rfl) oy (fun u hu=>D7.out.up 1 rfl hu) (ptc_y ox oy false) ?_
     refine fG rfl 134 (.func 134) #[.tmp 55,.tmp 57,.tmp 59] #[24,27,27] rfl #[] #[wn 18446744073709551615,.agg (nc yq),.agg (nc oy)] (by kernel_rfl) (by kernel_rfl) (fun u=>cE _ _ _ _ u Tryz.func134 (by kernel_rfl) (by kernel_rfl)) (.agg (nc yq)) (fun u hu=>by exact mask_select true yq oy yq9.out oy9.out u) ?_
     refine gK (.pointer (some ⟨o,0,none⟩)) ?_
     refine gN ?_
     try simp only [Act.put,s_,t_,u_,v_,x_,y_]
     refine gS (rs:=[13]) (by kernel_rfl) (by decide) (fun w8 hg6=>?_)
     have Nw8:=Hd (D7.out.grow hg6)
     clear hg6 D7
     refine wpAny_ready (rs:=[13]) (by kernel_rfl) (by simp) ?_
     refine AllReady.cons rfl (fun K hK=>?_) AllReady.nil
     refine step_pt_x rfl (.tmp 61) (.tmp 54) rfl o rfl _ _ _ xq false (by kernel_rfl) (Nw8.out.at 1 rfl) (fun w9 hw hb hs=>hK _ _ ?_)
     have Nw9:=Hd (Nw8.out.store 1 rfl hb hs hw)
     clear hK hw hb hs Nw8
     try simp only [Act.put,s_,t_,u_,v_,x_,y_]
     refine wpAny_ready (rs:=[14]) (by kernel_rfl) (by simp) ?_
     refine AllReady.cons rfl (fun K hK=>?_) AllReady.nil
     refine step_pure rfl (.pointer (some ⟨o,9,none⟩)) (fun u=>by kernel_rfl) (hK _ _ ?_)
     clear hK
     try simp only [Act.put,s_,t_,u_,v_,x_,y_]
     refine wpAny_ready (rs:=[15]) (by kernel_rfl) (by simp) ?_
     refine AllReady.cons rfl (fun K hK=>?_) AllReady.nil
     refine step_pt_y rfl (.tmp 62) (.tmp 60) rfl o rfl _ _ _ yq false (by kernel_rfl) (Nw9.out.at 1 rfl) (fun w10 hw hb hs=>hK _ _ ?_)
     have Nw10:=Hd (Nw9.out.store 1 rfl hb hs hw)
     clear hK hw hb hs Nw9
     try simp only [Act.put,s_,t_,u_,v_,x_,y_]
     refine wpAny_done (by kernel_rfl) ?_ _
     try simp only [Act.put,s_,t_,u_,v_,x_,y_]
     go_upto_region 13 with (fail)
     refine wp_region_lit ?_
     refine pK (.int .u64 0) ?_
     refine wpList_nil ?_
     try simp only [Act.put,s_,t_,u_,v_,x_,y_]
     go_upto_region 14 with (fail)
     refine wp_region_lit ?_
     refine pK (.pointer (some ⟨xp,18,none⟩)) ?_
     refine lC rfl 4 (.tmp 63) rfl xp 18 (by kernel_rfl) (.bool true) _ Tryz.underlying4 rfl ((cO (Nw10.out.at 2 rfl) 18).trans (ptc_inf xq yq true)) ?_
     refine wpList_nil ?_
     try simp only [Act.put,s_,t_,u_,v_,x_,y_]
     go_upto_region 15 with (fail)
     refine wp_region_lit ?_
     refine pK (.int .u64 1) ?_
     refine wpList_nil ?_
     try simp only [Act.put,s_,t_,u_,v_,x_,y_]
     have F0:=Hd (show F=0 by rw [HFF.out,HQI.out,sel_self])
     go_upto_region 16 with (fail)
     refine wp_region_lit ?_
     refine pK (wn F) ?_
     refine pK (wn 1) ?_
     refine pK (wn 18446744073709551615) ?_
     try simp only [Act.put,s_,t_,u_,v_,x_,y_]
     refine pL rfl (wn 1) (fun u=>by exact run_bin _ _ _ _ _ rfl 1 18446744073709551615 (by kernel_rfl) (by kernel_rfl) (wn_ands _ _ (by decide)) u) ?_
     try simp only [Act.put,s_,t_,u_,v_,x_,y_]
     refine pL rfl (wn 1) (fun u=>by exact run_bin _ _ _ _ _ rfl F 1 (by kernel_rfl) (by kernel_rfl) (by rw [F0.out]; exact wn_zor _ _ (by decide)) u) ?_
     refine pK (wn 1) ?_
     refine wpList_nil ?_
     try simp only [Act.put,s_,t_,u_,v_,x_,y_]
     have e1:xq=sel i (q+1) X:=by rw [HQI.out,sel_eq,HX.out,HXQ.out,HQI.out]
     have e2:yq=sel i (q+1) Y:=by rw [HQI.out,sel_eq,HY.out,HYQ.out,HQI.out]
     have e3:1=sel i (q+1) (bln B):=by rw [HQI.out,sel_eq,HB.out,← HQI.out,← HBQ.out]; rfl
     have E1:=Hd e1
     have E2:=Hd e2
     have E3:=Hd e3
     clear e1 e2 e3
     have hqv:=hq16.out
     go_wp2_with (fail)
     go_roundw
     case rel=>exact ⟨q+1,by omega,by go_num,by rw [← E3.out],by rw [← E1.out,← E2.out]; exact Nw10.out.take 2⟩
     case measure=>simp [intOf]; omega
   ·have HQI:=Hd hqi
    clear hqi
    rcases bq with _ | _
    ·skip
     go_upto_region 9 with (fail)
     refine wp_region_lit ?_
     refine pK (.int .i64 (q:Int)) ?_
     try simp only [Act.put,s_,t_,u_,v_,x_,y_]
     refine pL rfl (.pointer (some ⟨gs,q*19,none⟩)) (idx_slice 184 (.tmp 34) (.tmp 36) rfl gs n cap q 19 (by kernel_rfl) (by kernel_rfl) HQ.out Tryz.underlying184 (by kernel_rfl)) ?_
     try simp only [Act.put,s_,t_,u_,v_,x_,y_]
     refine lS rfl 41 (.tmp 39) rfl gs (q*19) 19 (by kernel_rfl) _ _ (ptc xq yq false) _ _ (grows_at HS.out M.out.1) Tryz.underlying41 rfl (by kernel_rfl) (pS _ _ _) HEQ.out ?_
     refine nL rfl 41 rfl (.agg (ptc 0 0 false)) (by rw [ptc_zero]; kernel_rfl) ?_
     intro xp w3 hx hx2 hgv hh
     have Nw3:=Hd (show Mem w w3 [(g,ptc 0 0 false,41),(o,ptc ox oy false,41),(xp,ptc 0 0 false,41)] from M.out.new hgv (Nat.le_of_eq hx) hh)
     clear hx hx2 hgv hh M
     refine pK (.int .i64 (q:Int)) ?_
     refine sB rfl 41 (.tmp 11) (.tmp 40) rfl xp (by kernel_rfl) _ _ (ptc xq yq false) (by kernel_rfl) (Nw3.out.at 2 rfl) (by rw [pS]; kernel_rfl) (by simp only [pS]) (ptc_one _ _ _) ?_
     intro w4 hw hb hs
     have Nw4:=Hd (Nw3.out.store 2 rfl hb hs hw)
     clear hw hb hs Nw3
     refine wpList_nil ?_
     try simp only [Act.put,s_,t_,u_,v_,x_,y_]
     go_upto_region 10 with (fail)
     refine wp_region_lit ?_
     refine pK (.pointer none) ?_
     refine pK (.int .i64 (q:Int)) ?_
     refine fL rfl 132 (.func 132) #[.tmp 41,.tmp 42] #[69,3] rfl #[] #[.pointer none,.int .i64 (q:Int)] (by kernel_rfl) (by kernel_rfl) (fun u=>cE _ _ _ _ u Tryz.func132 (by kernel_rfl) (by kernel_rfl)) (.int .i64 1) (trace_index q w4) (fun w5 hb=>?_)
     have Nw5:=Hd (Nw4.out.grow hb)
     clear hb Nw4
     refine wpList_nil ?_
     try simp only [Act.put,s_,t_,u_,v_,x_,y_]
     go_upto_region 11 with (fail)
     refine wp_region_lit ?_
     refine pK (.int .i64 (q:Int)) ?_
     try simp only [Act.put,s_,t_,u_,v_,x_,y_]
     refine pL rfl (wn q) (fun u=>by exact conv_wn 3 24 (.tmp 44) rfl q (by kernel_rfl) (by have:=hq16.out; omega) Tryz.underlying3 Tryz.underlying24 u) ?_
     refine pK (.int .i64 (i:Int)) ?_
     try simp only [Act.put,s_,t_,u_,v_,x_,y_]
     refine pL rfl (wn i) (fun u=>by exact conv_wn 3 24 (.tmp 46) rfl i (by kernel_rfl) (by have:=hi16.out; omega) Tryz.underlying3 Tryz.underlying24 u) ?_
     have hcc:=(mask_equal16 q i hq16.out hi16.out w5).mono (fun e w2 h=>show e=.returned (wn 0)∧Below w5.heap.size w5 w2 from ⟨by rw [h.1,mw_false HQI.out],by rw [← h.2]; exact Below.refl _ _⟩)
     refine fL rfl 133 (.func 133) #[.tmp 45,.tmp 47] #[24,24] rfl #[] #[wn q,wn i] (by kernel_rfl) (by kernel_rfl) (fun u=>cE _ _ _ _ u Tryz.func133 (by kernel_rfl) (by kernel_rfl)) (wn 0) (hcc) (fun w6 hb=>?_)
     have Nw6:=Hd (Nw5.out.grow hb)
     clear hb Nw5 hcc
     refine pK (wn 0) ?_
     refine wpList_nil ?_
     try simp only [Act.put,s_,t_,u_,v_,x_,y_]
     go_upto_region 12 with (fail)
     have D7:=Hd (Nw6.out.drew)
     clear Nw6
     refine wp_region_growT 13 13 (by kernel_rfl) (by kernel_rfl) (fun d v c a w h=>by cases d <;> exact h) ?_
     simp only [List.take_succ_cons,List.take_zero]
     refine gK (wn 0) ?_
     refine gK (.pointer (some ⟨xp,0,none⟩)) ?_
     refine lN rfl (.tmp 50) rfl xp 0 (by kernel_rfl) xq (fun u hu=>D7.out.up 2 rfl hu) (ptc_x xq yq false) ?_
     refine gK (.pointer (some ⟨o,0,none⟩)) ?_
     refine lN rfl (.tmp 52) rfl o 0 (by kernel_rfl) ox (fun u hu=>D7.out.up 1 rfl hu) (ptc_x ox oy false) ?_
     refine fG rfl 134 (.func 134) #[.tmp 49,.tmp 51,.tmp 53] #[24,27,27] rfl #[] #[wn 0,.agg (nc xq),.agg (nc ox)] (by kernel_rfl) (by kernel_rfl) (fun u=>cE _ _ _ _ u Tryz.func134 (by kernel_rfl) (by kernel_rfl)) (.agg (nc ox)) (fun u hu=>by exact mask_select false xq ox xq9.out ox9.out u) ?_
     refine gK (wn 0) ?_
     refine gK (.pointer (some ⟨xp,9,none⟩)) ?_
     refine lN rfl (.tmp 56) rfl xp 9 (by kernel_rfl) yq (fun u hu=>D7.out.up 2 rfl hu) (ptc_y xq yq false) ?_
     refine gK (.pointer (some ⟨o,9,none⟩)) ?_
     refine lN rfl (.tmp 58) rfl o 9 (by kernel_rfl) oy (fun u hu=>D7.out.up 1 rfl hu) (ptc_y ox oy false) ?_
     refine fG rfl 134 (.func 134) #[.tmp 55,.tmp 57,.tmp 59] #[24,27,27] rfl #[] #[wn 0,.agg (nc yq),.agg (nc oy)] (by kernel_rfl) (by kernel_rfl) (fun u=>cE _ _ _ _ u Tryz.func134 (by kernel_rfl) (by kernel_rfl)) (.agg (nc oy)) (fun u hu=>by exact mask_select false yq oy yq9.out oy9.out u) ?_
     refine gK (.pointer (some ⟨o,0,none⟩)) ?_
     refine gN ?_
     try simp only [Act.put,s_,t_,u_,v_,x_,y_]
     refine gS (rs:=[13]) (by kernel_rfl) (by decide) (fun w8 hg6=>?_)
     have Nw8:=Hd (D7.out.grow hg6)
     clear hg6 D7
     refine wpAny_ready (rs:=[13]) (by kernel_rfl) (by simp) ?_
     refine AllReady.cons rfl (fun K hK=>?_) AllReady.nil
     refine step_pt_x rfl (.tmp 61) (.tmp 54) rfl o rfl _ _ _ ox false (by kernel_rfl) (Nw8.out.at 1 rfl) (fun w9 hw hb hs=>hK _ _ ?_)
     have Nw9:=Hd (Nw8.out.store 1 rfl hb hs hw)
     clear hK hw hb hs Nw8
     try simp only [Act.put,s_,t_,u_,v_,x_,y_]
     refine wpAny_ready (rs:=[14]) (by kernel_rfl) (by simp) ?_
     refine AllReady.cons rfl (fun K hK=>?_) AllReady.nil
     refine step_pure rfl (.pointer (some ⟨o,9,none⟩)) (fun u=>by kernel_rfl) (hK _ _ ?_)
     clear hK
     try simp only [Act.put,s_,t_,u_,v_,x_,y_]
     refine wpAny_ready (rs:=[15]) (by kernel_rfl) (by simp) ?_
     refine AllReady.cons rfl (fun K hK=>?_) AllReady.nil
     refine step_pt_y rfl (.tmp 62) (.tmp 60) rfl o rfl _ _ _ oy false (by kernel_rfl) (Nw9.out.at 1 rfl) (fun w10 hw hb hs=>hK _ _ ?_)
     have Nw10:=Hd (Nw9.out.store 1 rfl hb hs hw)
     clear hK hw hb hs Nw9
     try simp only [Act.put,s_,t_,u_,v_,x_,y_]
     refine wpAny_done (by kernel_rfl) ?_ _
     try simp only [Act.put,s_,t_,u_,v_,x_,y_]
     go_upto_region 13 with (fail)
     refine wp_region_lit ?_
     refine pK (.int .u64 0) ?_
     refine wpList_nil ?_
     try simp only [Act.put,s_,t_,u_,v_,x_,y_]
     go_upto_region 14 with (fail)
     refine wp_region_lit ?_
     refine pK (.pointer (some ⟨xp,18,none⟩)) ?_
     refine lC rfl 4 (.tmp 63) rfl xp 18 (by kernel_rfl) (.bool false) _ Tryz.underlying4 rfl ((cO (Nw10.out.at 2 rfl) 18).trans (ptc_inf xq yq false)) ?_
     refine wpList_nil ?_
     try simp only [Act.put,s_,t_,u_,v_,x_,y_]
     go_upto_region 16 with (fail)
     refine wp_region_lit ?_
     refine pK (wn F) ?_
     refine pK (wn 0) ?_
     refine pK (wn 0) ?_
     try simp only [Act.put,s_,t_,u_,v_,x_,y_]
     refine pL rfl (wn 0) (fun u=>by exact run_bin _ _ _ _ _ rfl 0 0 (by kernel_rfl) (by kernel_rfl) (wn_andz _ _ (by decide)) u) ?_
     try simp only [Act.put,s_,t_,u_,v_,x_,y_]
     refine pL rfl (wn F) (fun u=>by exact run_bin _ _ _ _ _ rfl F 0 (by kernel_rfl) (by kernel_rfl) (wn_orz _ _ hF2.out) u) ?_
     refine pK (wn F) ?_
     refine wpList_nil ?_
     try simp only [Act.put,s_,t_,u_,v_,x_,y_]
     have e1:ox=sel i (q+1) X:=by rw [sel_ne HQI.out]; exact HOX.out
     have e2:oy=sel i (q+1) Y:=by rw [sel_ne HQI.out]; exact HOY.out
     have e3:F=sel i (q+1) (bln B):=by rw [sel_ne HQI.out]; exact HFF.out
     have E1:=Hd e1
     have E2:=Hd e2
     have E3:=Hd e3
     clear e1 e2 e3
     have hqv:=hq16.out
     go_wp2_with (fail)
     go_roundw
     case rel=>exact ⟨q+1,by omega,by go_num,by rw [← E3.out],by rw [← E1.out,← E2.out]; exact Nw10.out.take 2⟩
     case measure=>simp [intOf]; omega
    ·skip
     go_upto_region 9 with (fail)
     refine wp_region_lit ?_
     refine pK (.int .i64 (q:Int)) ?_
     try simp only [Act.put,s_,t_,u_,v_,x_,y_]
     refine pL rfl (.pointer (some ⟨gs,q*19,none⟩)) (idx_slice 184 (.tmp 34) (.tmp 36) rfl gs n cap q 19 (by kernel_rfl) (by kernel_rfl) HQ.out Tryz.underlying184 (by kernel_rfl)) ?_
     try simp only [Act.put,s_,t_,u_,v_,x_,y_]
     refine lS rfl 41 (.tmp 39) rfl gs (q*19) 19 (by kernel_rfl) _ _ (ptc xq yq true) _ _ (grows_at HS.out M.out.1) Tryz.underlying41 rfl (by kernel_rfl) (pS _ _ _) HEQ.out ?_
     refine nL rfl 41 rfl (.agg (ptc 0 0 false)) (by rw [ptc_zero]; kernel_rfl) ?_
     intro xp w3 hx hx2 hgv hh
     have Nw3:=Hd (show Mem w w3 [(g,ptc 0 0 false,41),(o,ptc ox oy false,41),(xp,ptc 0 0 false,41)] from M.out.new hgv (Nat.le_of_eq hx) hh)
     clear hx hx2 hgv hh M
     refine pK (.int .i64 (q:Int)) ?_
     refine sB rfl 41 (.tmp 11) (.tmp 40) rfl xp (by kernel_rfl) _ _ (ptc xq yq true) (by kernel_rfl) (Nw3.out.at 2 rfl) (by rw [pS]; kernel_rfl) (by simp only [pS]) (ptc_one _ _ _) ?_
     intro w4 hw hb hs
     have Nw4:=Hd (Nw3.out.store 2 rfl hb hs hw)
     clear hw hb hs Nw3
     refine wpList_nil ?_
     try simp only [Act.put,s_,t_,u_,v_,x_,y_]
     go_upto_region 10 with (fail)
     refine wp_region_lit ?_
     refine pK (.pointer none) ?_
     refine pK (.int .i64 (q:Int)) ?_
     refine fL rfl 132 (.func 132) #[.tmp 41,.tmp 42] #[69,3] rfl #[] #[.pointer none,.int .i64 (q:Int)] (by kernel_rfl) (by kernel_rfl) (fun u=>cE _ _ _ _ u Tryz.func132 (by kernel_rfl) (by kernel_rfl)) (.int .i64 1) (trace_index q w4) (fun w5 hb=>?_)
     have Nw5:=Hd (Nw4.out.grow hb)
     clear hb Nw4
     refine wpList_nil ?_
     try simp only [Act.put,s_,t_,u_,v_,x_,y_]
     go_upto_region 11 with (fail)
     refine wp_region_lit ?_
     refine pK (.int .i64 (q:Int)) ?_
     try simp only [Act.put,s_,t_,u_,v_,x_,y_]
     refine pL rfl (wn q) (fun u=>by exact conv_wn 3 24 (.tmp 44) rfl q (by kernel_rfl) (by have:=hq16.out; omega) Tryz.underlying3 Tryz.underlying24 u) ?_
     refine pK (.int .i64 (i:Int)) ?_
     try simp only [Act.put,s_,t_,u_,v_,x_,y_]
     refine pL rfl (wn i) (fun u=>by exact conv_wn 3 24 (.tmp 46) rfl i (by kernel_rfl) (by have:=hi16.out; omega) Tryz.underlying3 Tryz.underlying24 u) ?_
     have hcc:=(mask_equal16 q i hq16.out hi16.out w5).mono (fun e w2 h=>show e=.returned (wn 0)∧Below w5.heap.size w5 w2 from ⟨by rw [h.1,mw_false HQI.out],by rw [← h.2]; exact Below.refl _ _⟩)
     refine fL rfl 133 (.func 133) #[.tmp 45,.tmp 47] #[24,24] rfl #[] #[wn q,wn i] (by kernel_rfl) (by kernel_rfl) (fun u=>cE _ _ _ _ u Tryz.func133 (by kernel_rfl) (by kernel_rfl)) (wn 0) (hcc) (fun w6 hb=>?_)
     have Nw6:=Hd (Nw5.out.grow hb)
     clear hb Nw5 hcc
     refine pK (wn 0) ?_
     refine wpList_nil ?_
     try simp only [Act.put,s_,t_,u_,v_,x_,y_]
     go_upto_region 12 with (fail)
     have D7:=Hd (Nw6.out.drew)
     clear Nw6
     refine wp_region_growT 13 13 (by kernel_rfl) (by kernel_rfl) (fun d v c a w h=>by cases d <;> exact h) ?_
     simp only [List.take_succ_cons,List.take_zero]
     refine gK (wn 0) ?_
     refine gK (.pointer (some ⟨xp,0,none⟩)) ?_
     refine lN rfl (.tmp 50) rfl xp 0 (by kernel_rfl) xq (fun u hu=>D7.out.up 2 rfl hu) (ptc_x xq yq true) ?_
     refine gK (.pointer (some ⟨o,0,none⟩)) ?_
     refine lN rfl (.tmp 52) rfl o 0 (by kernel_rfl) ox (fun u hu=>D7.out.up 1 rfl hu) (ptc_x ox oy false) ?_
     refine fG rfl 134 (.func 134) #[.tmp 49,.tmp 51,.tmp 53] #[24,27,27] rfl #[] #[wn 0,.agg (nc xq),.agg (nc ox)] (by kernel_rfl) (by kernel_rfl) (fun u=>cE _ _ _ _ u Tryz.func134 (by kernel_rfl) (by kernel_rfl)) (.agg (nc ox)) (fun u hu=>by exact mask_select false xq ox xq9.out ox9.out u) ?_
     refine gK (wn 0) ?_
     refine gK (.pointer (some ⟨xp,9,none⟩)) ?_
     refine lN rfl (.tmp 56) rfl xp 9 (by kernel_rfl) yq (fun u hu=>D7.out.up 2 rfl hu) (ptc_y xq yq true) ?_
     refine gK (.pointer (some ⟨o,9,none⟩)) ?_
     refine lN rfl (.tmp 58) rfl o 9 (by kernel_rfl) oy (fun u hu=>D7.out.up 1 rfl hu) (ptc_y ox oy false) ?_
     refine fG rfl 134 (.func 134) #[.tmp 55,.tmp 57,.tmp 59] #[24,27,27] rfl #[] #[wn 0,.agg (nc yq),.agg (nc oy)] (by kernel_rfl) (by kernel_rfl) (fun u=>cE _ _ _ _ u Tryz.func134 (by kernel_rfl) (by kernel_rfl)) (.agg (nc oy)) (fun u hu=>by exact mask_select false yq oy yq9.out oy9.out u) ?_
     refine gK (.pointer (some ⟨o,0,none⟩)) ?_
     refine gN ?_
     try simp only [Act.put,s_,t_,u_,v_,x_,y_]
     refine gS (rs:=[13]) (by kernel_rfl) (by decide) (fun w8 hg6=>?_)
     have Nw8:=Hd (D7.out.grow hg6)
     clear hg6 D7
     refine wpAny_ready (rs:=[13]) (by kernel_rfl) (by simp) ?_
     refine AllReady.cons rfl (fun K hK=>?_) AllReady.nil
     refine step_pt_x rfl (.tmp 61) (.tmp 54) rfl o rfl _ _ _ ox false (by kernel_rfl) (Nw8.out.at 1 rfl) (fun w9 hw hb hs=>hK _ _ ?_)
     have Nw9:=Hd (Nw8.out.store 1 rfl hb hs hw)
     clear hK hw hb hs Nw8
     try simp only [Act.put,s_,t_,u_,v_,x_,y_]
     refine wpAny_ready (rs:=[14]) (by kernel_rfl) (by simp) ?_
     refine AllReady.cons rfl (fun K hK=>?_) AllReady.nil
     refine step_pure rfl (.pointer (some ⟨o,9,none⟩)) (fun u=>by kernel_rfl) (hK _ _ ?_)
     clear hK
     try simp only [Act.put,s_,t_,u_,v_,x_,y_]
     refine wpAny_ready (rs:=[15]) (by kernel_rfl) (by simp) ?_
     refine AllReady.cons rfl (fun K hK=>?_) AllReady.nil
     refine step_pt_y rfl (.tmp 62) (.tmp 60) rfl o rfl _ _ _ oy false (by kernel_rfl) (Nw9.out.at 1 rfl) (fun w10 hw hb hs=>hK _ _ ?_)
     have Nw10:=Hd (Nw9.out.store 1 rfl hb hs hw)
     clear hK hw hb hs Nw9
     try simp only [Act.put,s_,t_,u_,v_,x_,y_]
     refine wpAny_done (by kernel_rfl) ?_ _
     try simp only [Act.put,s_,t_,u_,v_,x_,y_]
     go_upto_region 13 with (fail)
     refine wp_region_lit ?_
     refine pK (.int .u64 0) ?_
     refine wpList_nil ?_
     try simp only [Act.put,s_,t_,u_,v_,x_,y_]
     go_upto_region 14 with (fail)
     refine wp_region_lit ?_
     refine pK (.pointer (some ⟨xp,18,none⟩)) ?_
     refine lC rfl 4 (.tmp 63) rfl xp 18 (by kernel_rfl) (.bool true) _ Tryz.underlying4 rfl ((cO (Nw10.out.at 2 rfl) 18).trans (ptc_inf xq yq true)) ?_
     refine wpList_nil ?_
     try simp only [Act.put,s_,t_,u_,v_,x_,y_]
     go_upto_region 15 with (fail)
     refine wp_region_lit ?_
     refine pK (.int .u64 1) ?_
     refine wpList_nil ?_
     try simp only [Act.put,s_,t_,u_,v_,x_,y_]
     go_upto_region 16 with (fail)
     refine wp_region_lit ?_
     refine pK (wn F) ?_
     refine pK (wn 1) ?_
     refine pK (wn 0) ?_
     try simp only [Act.put,s_,t_,u_,v_,x_,y_]
     refine pL rfl (wn 0) (fun u=>by exact run_bin _ _ _ _ _ rfl 1 0 (by kernel_rfl) (by kernel_rfl) (wn_andz _ _ (by decide)) u) ?_
     try simp only [Act.put,s_,t_,u_,v_,x_,y_]
     refine pL rfl (wn F) (fun u=>by exact run_bin _ _ _ _ _ rfl F 0 (by kernel_rfl) (by kernel_rfl) (wn_orz _ _ hF2.out) u) ?_
     refine pK (wn F) ?_
     refine wpList_nil ?_
     try simp only [Act.put,s_,t_,u_,v_,x_,y_]
     have e1:ox=sel i (q+1) X:=by rw [sel_ne HQI.out]; exact HOX.out
     have e2:oy=sel i (q+1) Y:=by rw [sel_ne HQI.out]; exact HOY.out
     have e3:F=sel i (q+1) (bln B):=by rw [sel_ne HQI.out]; exact HFF.out
     have E1:=Hd e1
     have E2:=Hd e2
     have E3:=Hd e3
     clear e1 e2 e3
     have hqv:=hq16.out
     go_wp2_with (fail)
     go_roundw
     case rel=>exact ⟨q+1,by omega,by go_num,by rw [← E3.out],by rw [← E1.out,← E2.out]; exact Nw10.out.take 2⟩
     case measure=>simp [intOf]; omega
  ·obtain rfl:q=n:=by omega
   have HF3:=Hd (show F=bln B by rw [HFF.out,sel_all HI.out])
   have M2:=Hd (show Mem w wr [(g,ptc 0 0 false,41),(o,ptc X Y false,41)] by have h:=M.out; rw [HOX.out,HOY.out,sel_all HI.out,sel_all HI.out] at h; exact h)
   clear M
   have dl:decide ((q:Int)<q)=false:=decide_eq_false (by omega)
   go_upto_region 18 with (fail)
   refine wp_region_lit ?_
   refine pK (wn F) ?_
   try simp only [Act.put,s_,t_,u_,v_,x_,y_]
   refine pL rfl (.bool B) (fun u=>by exact run_bin _ _ _ _ _ rfl F 1 (by kernel_rfl) (by kernel_rfl) (by rw [wn_eql,HF3.out]; cases B <;> rfl) u) ?_
   refine pK (.pointer (some ⟨o,18,none⟩)) ?_
   refine list_pt_i rfl (.tmp 73) (.tmp 72) rfl o rfl _ X Y false B (by kernel_rfl) (M2.out.at 1 rfl) (fun w98 hw hb hs=>?_)
   have N98:=Hd (M2.out.store 1 rfl hb hs hw)
   clear hw hb hs
   refine wpList_nil ?_
   try simp only [Act.put,s_,t_,u_,v_,x_,y_]
   go_upto_region 19 with (fail)
   refine wp_region_lit ?_
   refine lS rfl 41 (.tmp 8) rfl o 0 19 (by kernel_rfl) _ _ (ptc X Y B) _ _ (N98.out.at 1 rfl) Tryz.underlying41 rfl (by kernel_rfl) (pS _ _ _) (fun j hj=>by rw [Nat.zero_add]) ?_
   refine sB rfl 41 (.tmp 6) (.tmp 74) rfl g (by kernel_rfl) _ _ (ptc X Y B) (by kernel_rfl) (N98.out.at 0 rfl) (by rw [pS]; kernel_rfl) (by simp only [pS]) (ptc_one _ _ _) ?_
   intro w91 hw hb hs
   have Nw91:=Hd (N98.out.store 0 rfl hb hs hw)
   clear hw hb hs N98
   refine pK (.int .i64 0) ?_
   refine wpList_nil ?_
   try simp only [Act.put,s_,t_,u_,v_,x_,y_]
   go_wp2_with (fail)
   exact bodyPost_ret (results_O2 rfl _ _ g _ _ _ _ (pS _ _ _) rfl rfl (Nw91.out.at 0 rfl)) rfl ⟨rfl,Nw91.out.below⟩
end Go.Proofs.YtkoonhiplicbkaaGreat.Cw
