/-
  (package sec1) Get: the point that Put wrote. Condition: a multiple of G below N.
-/
import Derived.Test.YtkoonhiplicbkaaGreatQk38
set_option linter.unusedSimpArgs false
set_option linter.unusedVariables false
set_option maxHeartbeats 4000000
set_option maxRecDepth 100000
namespace Go.Proofs.YtkoonhiplicbkaaGreat.Cw
open Go Go.RowKit
attribute [local irreducible] pc ptc nc ac cuc fc gpt
attribute [local go_sem ↓ high] wn_eql wn_neq wn_lss wn_gtr wn_leq wn_geq wn_cells wRS wn_guard lit0 lit1
attribute [local go_sem high] wn_match wRS wn_eql wn_neq wn_lss wn_gtr wn_leq wn_geq
attribute [local irreducible] wpList
theorem run_slo {P:Program} {ρ:Operand→Value} {o:Oper} (t:TypeId) (x l:Operand) (ho:o.op=.slice t x (some l) none none) (s:ByteArray) (i:Nat) (hx:ρ x=.string s) (hl:ρ l=.int .i64 (i:Int)) (hi:i≤s.size) (ht:P.underlying t=some .string) (r:ByteArray) (hr:s.extract i s.size=r) (u:World):(execOp ρ o).run P u=.ok (.value (.string r)) u:=by
 obtain ⟨dst,op,type,pos,after,guard⟩:=o
 subst ho hr
 simp [execOp,Instr.sliceAt,Instr.slice,Instr.sliceBounds,Instr.sliceBound,hx,hl,run_underlying ht,asIntOf,show (0:Int)≤i by omega,show (i:Int)≤s.size by omega,hi]
theorem run_shi {P:Program} {ρ:Operand→Value} {o:Oper} (t:TypeId) (x l:Operand) (ho:o.op=.slice t x none (some l) none) (s:ByteArray) (i:Nat) (hx:ρ x=.string s) (hl:ρ l=.int .i64 (i:Int)) (hi:i≤s.size) (ht:P.underlying t=some .string) (r:ByteArray) (hr:s.extract 0 i=r) (u:World):(execOp ρ o).run P u=.ok (.value (.string r)) u:=by
 obtain ⟨dst,op,type,pos,after,guard⟩:=o
 subst ho hr
 simp [execOp,Instr.sliceAt,Instr.slice,Instr.sliceBounds,Instr.sliceBound,hx,hl,run_underlying ht,asIntOf,show (0:Int)≤i by omega,show (i:Int)≤s.size by omega,hi]
theorem run_six {P:Program} {ρ:Operand→Value} {o:Oper} (t:TypeId) (x l:Operand) (ho:o.op=.index t x l) (s:ByteArray) (i:Nat) (b:UInt8) (hx:ρ x=.string s) (hl:ρ l=.int .i64 (i:Int)) (hb:s[i]?=some b) (ht:P.underlying t=some .string) (u:World):(execOp ρ o).run P u=.ok (.value (v8 b)) u:=by
 obtain ⟨dst,op,type,pos,after,guard⟩:=o
 subst ho
 simp [execOp,Instr.index,hx,hl,run_underlying ht,asIntOf,show (0:Int)≤i by omega,hb,v8]
theorem run_seq {P:Program} {ρ:Operand→Value} {o:Oper} (t t2:TypeId) (x y:Operand) (ho:o.op=.binOp .eql t x y t2) (a b:ByteArray) (hx:ρ x=.string a) (hy:ρ y=.string b) (v:Bool) (hv:decide (a=b)=v) (u:World):(execOp ρ o).run P u=.ok (.value (.bool v)) u:=by
 obtain ⟨dst,op,type,pos,after,guard⟩:=o
 subst ho hv
 have e:(a.toList == b.toList)=decide (a=b):=by
  rw [ByteArray.toList_eq,ByteArray.toList_eq]
  by_cases h:a=b
  ·subst h; simp
  ·rw [decide_eq_false h]
   exact beq_eq_false_iff_ne.2 fun e=>h (ByteArray.ext (Array.toList_inj.1 e))
 simp [execOp,hx,hy,binOp,eqGuard,Op.stringOp,e]
theorem app_0 (c:UInt8) (R:ByteArray):(⟨#[c]⟩++R:ByteArray)[0]?=some c:=by
 have h0:0<(⟨#[c]⟩:ByteArray).size:=Nat.zero_lt_one
 have h:0<(⟨#[c]⟩++R:ByteArray).size:=by rw [ByteArray.size_append]; omega
 rw [getElem?_pos _ 0 h,ByteArray.getElem_append_left h0]; rfl
theorem app_1 (c:UInt8) (R:ByteArray):(⟨#[c]⟩++R:ByteArray).extract 1 (⟨#[c]⟩++R:ByteArray).size=R:=by
 refine ByteArray.extract_append_eq_right ?_ ?_
 ·rfl
 ·rw [ByteArray.size_append]
theorem eql_yes (t:TypeId) {p q:Int} (h:p=q):binOp .eql t (.int .i64 p) (.int .i64 q)=pure (.bool true):=by
 subst h
 show (pure (.bool (p == p)):Sem Value)=_
 simp
theorem size_ne {s:ByteArray} (h:s.size≠0):decide (s=⟨#[]⟩)=false:=decide_eq_false fun e=>h (by rw [e]; rfl)
theorem nat_of_byB (a n:Nat) (w:World) (hn:n≤72) (hb:bl a≤8*n):Calls Tryz.prog 75 #[.string (byB a n)] w fun e w'=>e=.returned (.tuple #[.agg (nc a),.int .i64 0])∧Below w.heap.size w w':=by
 have h:=nat_of (byB a n) w (by rw [byB_size]; exact hn)
 rw [byv_back a n (Nat.lt_of_lt_of_le (bl_lt a) (by rw [show 256=2 ^ 8 from rfl,← Nat.pow_mul]; exact Nat.pow_le_pow_right (by decide) hb))] at h
 exact h
theorem get_s0 (k:CK) (n:Nat) (w:World) (h0:n≠0) (hn:n<k.c.n) (hpar:pY k (gm k n)%2=0):Calls Tryz.prog 52 #[.int .i64 k.1,.string (ptS k n)] w fun e w'=>e=.returned (.tuple #[.agg (gpt k n),.int .i64 0])∧Below w.heap.size w w':=by
 obtain ⟨hi,hy0,hxy⟩:=k.pt h0 hn
 have hg:gpt k n=ptc (pX k (gm k n)) (pY k (gm k n)) false:=by unfold gpt; rw [hi]
 have HON:=Hd (fun c f d w (H:CurveAt w c f d k.c)=>hg ▸ on_rp k n c f d w H)
 have hres:ptS k n=⟨#[UInt8.ofNat (2+pY k (gm k n)%2)]⟩++byB (pX k (gm k n)) k.c.size:=rfl
 obtain ⟨x,hx⟩:∃ x,x=pX k (gm k n):=⟨_,rfl⟩
 obtain ⟨y,hy⟩:∃ y,y=pY k (gm k n):=⟨_,rfl⟩
 have hxp:x<k.c.p:=by rw [hx]; exact pX_lt k _
 have hyp:y<k.c.p:=by rw [hy]; exact pY_lt k _
 rw [hg,hres]
 rw [← hx,← hy] at HON hxy ⊢
 rw [← hy] at hy0 hpar
 have X9:=Hd (Nat.lt_trans hxp k.p9)
 have Y9:=Hd (Nat.lt_trans hyp k.p9)
 have HLF:=Hd (fun c f d w (H:CurveAt w c f d k.c)=>hpar ▸ sec1_lift k c f d x y w hxp hyp hy0 hxy H)
 have HBX:=Hd (k.size_ok hxp)
 have HBY:=Hd (k.size_ok hyp)
 obtain ⟨sz,hsz⟩:∃ sz,sz=k.c.size:=⟨_,rfl⟩
 rw [← hsz] at HBX HBY ⊢
 have HSZ:=Hd hsz
 have HNO:=Hd (fun u=>nat_of_byB x sz u HBX.out.2 HBX.out.1)
 rw [hpar]
 obtain ⟨s,hs⟩:∃ s,s=(⟨#[UInt8.ofNat (2+0)]⟩++byB x sz:ByteArray):=⟨_,rfl⟩
 rw [← hs]
 have HS0:=Hd (show s[0]?=some (UInt8.ofNat (2+0)) by rw [hs]; exact app_0 _ _)
 have HS1:=Hd (show s.extract 1 s.size=byB x sz by rw [hs]; exact app_1 _ _)
 have hss:s.size=1+sz:=by rw [hs,ByteArray.size_append,byB_size]; rfl
 obtain ⟨r,hr⟩:∃ r,r=byB x sz:=⟨_,rfl⟩
 rw [← hr] at HS1 HNO
 have HRS:=Hd (show r.size=sz by rw [hr]; exact byB_size _ _)
 have HSE:=Hd (size_ne (s:=s) (by omega))
 have HSL:=Hd (show 1≤s.size by omega)
 clear hss hs hr
 clear h0 hn hi hy0 hg hres hx hy hxp hyp hsz hxy hpar
 go_enter Tryz.func52,Tryz.ntmps52
 go_upto_region 1 with fail
 rw [← ptc_zero]
 have m0:=Mem.start1 w (ptc 0 0 false) 41
 obtain ⟨w1,hw1⟩:∃ w1:World,w1=(w.alloc (.cells (ptc 0 0 false) 41)):=⟨_,rfl⟩
 rw [← hw1] at m0 ⊢
 clear hw1
 obtain ⟨g,hg⟩:∃ g,g=w.heap.size:=⟨_,rfl⟩
 rw [← hg] at m0 ⊢
 have HG:=Hd hg
 have M:=Hd m0
 clear hg m0
 go_upto_region 1 with (fail)
 refine wp_region_lit ?_
 refine pK (.int .i64 (k.1:Int)) ?_
 refine wpList_fnE rfl _ _ _ _ rfl #[] #[.int .i64 (k.1:Int)] (by kernel_rfl) (by kernel_rfl) (fun u=>cE _ _ _ _ u Tryz.func30 (by kernel_rfl) (by kernel_rfl)) (T:=Nat) (fun c=>.pointer (some ⟨c,0,none⟩)) (fun c w'=>∃ f d,CurveAt w' c f d k.c∧Below w1.heap.size w1 w') ((k.open_ w1).mono fun e w' ⟨c,f,d,he,hr,_,hb⟩=>⟨c,he,f,d,hr,hb⟩) ?_
 rintro c w2 ⟨f,d,hc,hb⟩
 have M2:=Hd (MC.of (M.out.grow hb) hc)
 clear hc hb M
 refine pK (.pointer (some ⟨c,0,none⟩)) ?_
 refine wpList_nil ?_
 try simp only [Act.put,s_,t_,u_,v_,x_,y_]
 go_upto_region 2 with (fail)
 refine wp_region_lit ?_
 refine pK (.pointer (some ⟨c,0,none⟩)) ?_
 refine pK (.bool false) ?_
 refine wpList_nil ?_
 try simp only [Act.put,s_,t_,u_,v_,x_,y_]
 go_upto_region 4 with (fail)
 refine wp_region_lit ?_
 refine pK (.string s) ?_
 try simp only [Act.put,s_,t_,u_,v_,x_,y_]
 refine pL rfl (.bool false) (fun u=>by exact run_seq _ _ _ _ rfl s ⟨#[]⟩ (by kernel_rfl) (by kernel_rfl) false HSE.out u) ?_
 refine wpList_nil ?_
 try simp only [Act.put,s_,t_,u_,v_,x_,y_]
 go_upto_region 6 with (fail)
 have D2:=Hd (M2.out.drew)
 clear M2
 refine wp_region_growT 7 7 (by kernel_rfl) (by kernel_rfl) (fun d v c a w h=>by cases d <;> exact h) ?_
 simp only [List.take_succ_cons,List.take_zero]
 refine gK (.string s) ?_
 refine pG rfl (v8 (UInt8.ofNat (2+0))) (fun u=>by exact run_six _ _ _ rfl s 0 _ (by kernel_rfl) (by kernel_rfl) HS0.out Tryz.underlying9 u) ?_
 refine gK (.int .i64 2) ?_
 refine gK (.string s) ?_
 refine pG rfl (.string r) (fun u=>by exact run_slo _ _ _ rfl s 1 (by kernel_rfl) (by kernel_rfl) HSL.out Tryz.underlying9 r HS1.out u) ?_
 refine gK (.int .i64 2) ?_
 refine gK (.string r) ?_
 refine gN ?_
 try simp only [Act.put,s_,t_,u_,v_,x_,y_]
 intro w3 hg6
 refine ⟨by kernel_rfl,?_⟩
 have Nw3:=Hd (D2.out.grow hg6)
 clear hg6 D2
 try simp only [Act.put,s_,t_,u_,v_,x_,y_]
 go_upto_region 7 with (fail)
 refine wp_region_lit ?_
 refine nL rfl 41 rfl (.agg (ptc 0 0 false)) (by rw [ptc_zero]; kernel_rfl) ?_
 intro pb w4 hx hx2 hgv hh
 have Nw4:=Hd (show MC w w4 [(g,ptc 0 0 false,41),(pb,ptc 0 0 false,41)] c f d k.c from Nw3.out.new hgv (Nat.le_of_eq hx) hh)
 clear hx hx2 hgv hh Nw3
 refine wpList_nil ?_
 try simp only [Act.put,s_,t_,u_,v_,x_,y_]
 go_upto_region 8 with (fail)
 refine wp_region_lit ?_
 refine pK (.bool false) ?_
 refine wpList_nil ?_
 try simp only [Act.put,s_,t_,u_,v_,x_,y_]
 go_upto_region 10 with (fail)
 refine wp_region_lit ?_
 refine pK (.int .i64 2) ?_
 refine pK (.bool true) ?_
 refine pK (.bool true) ?_
 try simp only [Act.put,s_,t_,u_,v_,x_,y_]
 refine wpList_skipL (by kernel_rfl) ?_
 try simp only [Act.put,s_,t_,u_,v_,x_,y_]
 refine wpList_skipL (by kernel_rfl) ?_
 refine pK (.bool true) ?_
 refine pK (.bool true) ?_
 try simp only [Act.put,s_,t_,u_,v_,x_,y_]
 refine wK (.string r) ?_
 try simp only [Act.put,s_,t_,u_,v_,x_,y_]
 refine wK (.int .i64 (r.size:Int)) ?_
 try simp only [Act.put,s_,t_,u_,v_,x_,y_]
 refine wK (.pointer (some ⟨c,0,none⟩)) ?_
 try simp only [Act.put,s_,t_,u_,v_,x_,y_]
 refine wK (.pointer (some ⟨c,0,none⟩)) ?_
 try simp only [Act.put,s_,t_,u_,v_,x_,y_]
 refine wK (.pointer (some ⟨c,0,none⟩)) ?_
 try simp only [Act.put,s_,t_,u_,v_,x_,y_]
 refine wK (.pointer (some ⟨c,57,none⟩)) ?_
 try simp only [Act.put,s_,t_,u_,v_,x_,y_]
 refine wpList_cellG (by kernel_rfl) 3 (.tmp 40) rfl c 57 (by kernel_rfl) (.int .i64 (sz:Int)) _ Tryz.underlying3 rfl ((cO (Nw4.out.crv.2.2) 57).trans (by rw [HSZ.out]; exact cuc_size2 _ _)) ?_
 try simp only [Act.put,s_,t_,u_,v_,x_,y_]
 refine wL (by kernel_rfl) (.bool true) (fun u=>by exact run_bini _ _ _ _ _ rfl (r.size:Int) (sz:Int) (by kernel_rfl) (by kernel_rfl) (eql_yes _ (by rw [HRS.out])) u) ?_
 try simp only [Act.put,s_,t_,u_,v_,x_,y_]
 refine pK (.bool true) ?_
 refine pK (.bool true) ?_
 refine wpList_nil ?_
 try simp only [Act.put,s_,t_,u_,v_,x_,y_]
 go_upto_region 11 with (fail)
 refine wp_region_lit ?_
 refine pK (.string r) ?_
 refine fL rfl 75 (.func 75) #[.tmp 45] #[9] rfl #[] #[.string r] (by kernel_rfl) (by kernel_rfl) (fun u=>cE _ _ _ _ u Tryz.func75 (by kernel_rfl) (by kernel_rfl)) (.tuple #[.agg (nc x),.int .i64 0]) ((HNO.out w4)) (fun w5 hb=>?_)
 have Nw5:=Hd (Nw4.out.grow hb)
 clear hb Nw4
 refine pK (.tuple #[.agg (nc x),.int .i64 0]) ?_
 refine pK (.agg (nc x)) ?_
 refine pK (.int .i64 0) ?_
 refine nL rfl 27 rfl (.agg (nc 0)) (by rw [nZ]; kernel_rfl) ?_
 intro xb w6 hx hx2 hgv hh
 have Nw6:=Hd (show MC w w6 [(g,ptc 0 0 false,41),(pb,ptc 0 0 false,41),(xb,nc 0,27)] c f d k.c from Nw5.out.new hgv (Nat.le_of_eq hx) hh)
 clear hx hx2 hgv hh Nw5
 refine sB rfl 27 (.tmp 11) (.tmp 47) rfl xb (by kernel_rfl) _ _ (nc x) (by kernel_rfl) (Nw6.out.at 2 rfl) (by rw [nS]; kernel_rfl) (by simp only [nS]) (nO _) ?_
 intro w7 hw hb hs
 have Nw7:=Hd (Nw6.out.store 2 rfl hb hs hw)
 clear hw hb hs Nw6
 refine pK (.int .i64 0) ?_
 refine wpList_nil ?_
 try simp only [Act.put,s_,t_,u_,v_,x_,y_]
 go_upto_region 12 with (fail)
 refine wp_region_lit ?_
 refine pK (.pointer (some ⟨c,0,none⟩)) ?_
 refine l0N rfl (.tmp 11) rfl xb (by kernel_rfl) (Nw7.out.at 2 rfl) ?_
 refine pK (.int .i64 2) ?_
 refine pK (.int .i64 ((0:Nat):Int)) ?_
 refine fL rfl 91 (.func 91) #[.tmp 50,.tmp 51,.tmp 53] #[70,27,3] rfl #[] #[.pointer (some ⟨c,0,none⟩),.agg (nc x),.int .i64 ((0:Nat):Int)] (by kernel_rfl) (by kernel_rfl) (fun u=>cE _ _ _ _ u Tryz.func91 (by kernel_rfl) (by kernel_rfl)) (.tuple #[.agg (ptc x y false),.bool true]) (HLF.out c f d w7 Nw7.out.crv) (fun w8 hb=>?_)
 have Nw8:=Hd (Nw7.out.grow hb)
 clear hb Nw7
 refine pK (.tuple #[.agg (ptc x y false),.bool true]) ?_
 refine pK (.agg (ptc x y false)) ?_
 refine pK (.bool true) ?_
 refine sB rfl 41 (.tmp 9) (.tmp 55) rfl pb (by kernel_rfl) _ _ (ptc x y false) (by kernel_rfl) (Nw8.out.at 1 rfl) (by rw [pS]; kernel_rfl) (by simp only [pS]) (ptc_one _ _ _) ?_
 intro w9 hw hb hs
 have Nw9:=Hd (Nw8.out.store 1 rfl hb hs hw)
 clear hw hb hs Nw8
 refine pK (.bool true) ?_
 refine wpList_nil ?_
 try simp only [Act.put,s_,t_,u_,v_,x_,y_]
 go_upto_region 17 with (fail)
 refine wp_region_lit ?_
 refine pK (.bool true) ?_
 refine pK (.bool false) ?_
 refine wpList_nil ?_
 try simp only [Act.put,s_,t_,u_,v_,x_,y_]
 go_upto_region 19 with (fail)
 refine wp_region_lit ?_
 refine lS rfl 41 (.tmp 9) rfl pb 0 19 (by kernel_rfl) _ _ (ptc x y false) _ _ (Nw9.out.at 1 rfl) Tryz.underlying41 rfl (by kernel_rfl) (pS _ _ _) (fun j hj=>by rw [Nat.zero_add]) ?_
 refine sB rfl 41 (.tmp 4) (.tmp 101) rfl g (by kernel_rfl) _ _ (ptc x y false) (by kernel_rfl) (Nw9.out.at 0 rfl) (by rw [pS]; kernel_rfl) (by simp only [pS]) (ptc_one _ _ _) ?_
 intro w10 hw hb hs
 have Nw10:=Hd (Nw9.out.store 0 rfl hb hs hw)
 clear hw hb hs Nw9
 refine pK (.int .i64 0) ?_
 refine wpList_nil ?_
 try simp only [Act.put,s_,t_,u_,v_,x_,y_]
 go_wp2_with (fail)
 exact bodyPost_ret (results_O2 rfl _ _ g _ _ _ _ (pS _ _ _) rfl rfl (Nw10.out.at 0 rfl)) rfl ⟨rfl,Nw10.out.below⟩
theorem get_s1 (k:CK) (n:Nat) (w:World) (h0:n≠0) (hn:n<k.c.n) (hpar:pY k (gm k n)%2=1):Calls Tryz.prog 52 #[.int .i64 k.1,.string (ptS k n)] w fun e w'=>e=.returned (.tuple #[.agg (gpt k n),.int .i64 0])∧Below w.heap.size w w':=by
 obtain ⟨hi,hy0,hxy⟩:=k.pt h0 hn
 have hg:gpt k n=ptc (pX k (gm k n)) (pY k (gm k n)) false:=by unfold gpt; rw [hi]
 have HON:=Hd (fun c f d w (H:CurveAt w c f d k.c)=>hg ▸ on_rp k n c f d w H)
 have hres:ptS k n=⟨#[UInt8.ofNat (2+pY k (gm k n)%2)]⟩++byB (pX k (gm k n)) k.c.size:=rfl
 obtain ⟨x,hx⟩:∃ x,x=pX k (gm k n):=⟨_,rfl⟩
 obtain ⟨y,hy⟩:∃ y,y=pY k (gm k n):=⟨_,rfl⟩
 have hxp:x<k.c.p:=by rw [hx]; exact pX_lt k _
 have hyp:y<k.c.p:=by rw [hy]; exact pY_lt k _
 rw [hg,hres]
 rw [← hx,← hy] at HON hxy ⊢
 rw [← hy] at hy0 hpar
 have X9:=Hd (Nat.lt_trans hxp k.p9)
 have Y9:=Hd (Nat.lt_trans hyp k.p9)
 have HLF:=Hd (fun c f d w (H:CurveAt w c f d k.c)=>hpar ▸ sec1_lift k c f d x y w hxp hyp hy0 hxy H)
 have HBX:=Hd (k.size_ok hxp)
 have HBY:=Hd (k.size_ok hyp)
 obtain ⟨sz,hsz⟩:∃ sz,sz=k.c.size:=⟨_,rfl⟩
 rw [← hsz] at HBX HBY ⊢
 have HSZ:=Hd hsz
 have HNO:=Hd (fun u=>nat_of_byB x sz u HBX.out.2 HBX.out.1)
 rw [hpar]
 obtain ⟨s,hs⟩:∃ s,s=(⟨#[UInt8.ofNat (2+1)]⟩++byB x sz:ByteArray):=⟨_,rfl⟩
 rw [← hs]
 have HS0:=Hd (show s[0]?=some (UInt8.ofNat (2+1)) by rw [hs]; exact app_0 _ _)
 have HS1:=Hd (show s.extract 1 s.size=byB x sz by rw [hs]; exact app_1 _ _)
 have hss:s.size=1+sz:=by rw [hs,ByteArray.size_append,byB_size]; rfl
 obtain ⟨r,hr⟩:∃ r,r=byB x sz:=⟨_,rfl⟩
 rw [← hr] at HS1 HNO
 have HRS:=Hd (show r.size=sz by rw [hr]; exact byB_size _ _)
 have HSE:=Hd (size_ne (s:=s) (by omega))
 have HSL:=Hd (show 1≤s.size by omega)
 clear hss hs hr
 clear h0 hn hi hy0 hg hres hx hy hxp hyp hsz hxy hpar
 go_enter Tryz.func52,Tryz.ntmps52
 go_upto_region 1 with fail
 rw [← ptc_zero]
 have m0:=Mem.start1 w (ptc 0 0 false) 41
 obtain ⟨w1,hw1⟩:∃ w1:World,w1=(w.alloc (.cells (ptc 0 0 false) 41)):=⟨_,rfl⟩
 rw [← hw1] at m0 ⊢
 clear hw1
 obtain ⟨g,hg⟩:∃ g,g=w.heap.size:=⟨_,rfl⟩
 rw [← hg] at m0 ⊢
 have HG:=Hd hg
 have M:=Hd m0
 clear hg m0
 go_upto_region 1 with (fail)
 refine wp_region_lit ?_
 refine pK (.int .i64 (k.1:Int)) ?_
 refine wpList_fnE rfl _ _ _ _ rfl #[] #[.int .i64 (k.1:Int)] (by kernel_rfl) (by kernel_rfl) (fun u=>cE _ _ _ _ u Tryz.func30 (by kernel_rfl) (by kernel_rfl)) (T:=Nat) (fun c=>.pointer (some ⟨c,0,none⟩)) (fun c w'=>∃ f d,CurveAt w' c f d k.c∧Below w1.heap.size w1 w') ((k.open_ w1).mono fun e w' ⟨c,f,d,he,hr,_,hb⟩=>⟨c,he,f,d,hr,hb⟩) ?_
 rintro c w2 ⟨f,d,hc,hb⟩
 have M2:=Hd (MC.of (M.out.grow hb) hc)
 clear hc hb M
 refine pK (.pointer (some ⟨c,0,none⟩)) ?_
 refine wpList_nil ?_
 try simp only [Act.put,s_,t_,u_,v_,x_,y_]
 go_upto_region 2 with (fail)
 refine wp_region_lit ?_
 refine pK (.pointer (some ⟨c,0,none⟩)) ?_
 refine pK (.bool false) ?_
 refine wpList_nil ?_
 try simp only [Act.put,s_,t_,u_,v_,x_,y_]
 go_upto_region 4 with (fail)
 refine wp_region_lit ?_
 refine pK (.string s) ?_
 try simp only [Act.put,s_,t_,u_,v_,x_,y_]
 refine pL rfl (.bool false) (fun u=>by exact run_seq _ _ _ _ rfl s ⟨#[]⟩ (by kernel_rfl) (by kernel_rfl) false HSE.out u) ?_
 refine wpList_nil ?_
 try simp only [Act.put,s_,t_,u_,v_,x_,y_]
 go_upto_region 6 with (fail)
 have D2:=Hd (M2.out.drew)
 clear M2
 refine wp_region_growT 7 7 (by kernel_rfl) (by kernel_rfl) (fun d v c a w h=>by cases d <;> exact h) ?_
 simp only [List.take_succ_cons,List.take_zero]
 refine gK (.string s) ?_
 refine pG rfl (v8 (UInt8.ofNat (2+1))) (fun u=>by exact run_six _ _ _ rfl s 0 _ (by kernel_rfl) (by kernel_rfl) HS0.out Tryz.underlying9 u) ?_
 refine gK (.int .i64 3) ?_
 refine gK (.string s) ?_
 refine pG rfl (.string r) (fun u=>by exact run_slo _ _ _ rfl s 1 (by kernel_rfl) (by kernel_rfl) HSL.out Tryz.underlying9 r HS1.out u) ?_
 refine gK (.int .i64 3) ?_
 refine gK (.string r) ?_
 refine gN ?_
 try simp only [Act.put,s_,t_,u_,v_,x_,y_]
 intro w3 hg6
 refine ⟨by kernel_rfl,?_⟩
 have Nw3:=Hd (D2.out.grow hg6)
 clear hg6 D2
 try simp only [Act.put,s_,t_,u_,v_,x_,y_]
 go_upto_region 7 with (fail)
 refine wp_region_lit ?_
 refine nL rfl 41 rfl (.agg (ptc 0 0 false)) (by rw [ptc_zero]; kernel_rfl) ?_
 intro pb w4 hx hx2 hgv hh
 have Nw4:=Hd (show MC w w4 [(g,ptc 0 0 false,41),(pb,ptc 0 0 false,41)] c f d k.c from Nw3.out.new hgv (Nat.le_of_eq hx) hh)
 clear hx hx2 hgv hh Nw3
 refine wpList_nil ?_
 try simp only [Act.put,s_,t_,u_,v_,x_,y_]
 go_upto_region 8 with (fail)
 refine wp_region_lit ?_
 refine pK (.bool false) ?_
 refine wpList_nil ?_
 try simp only [Act.put,s_,t_,u_,v_,x_,y_]
 go_upto_region 10 with (fail)
 refine wp_region_lit ?_
 refine pK (.int .i64 3) ?_
 refine pK (.bool false) ?_
 refine pK (.bool false) ?_
 try simp only [Act.put,s_,t_,u_,v_,x_,y_]
 refine wK (.int .i64 3) ?_
 try simp only [Act.put,s_,t_,u_,v_,x_,y_]
 refine wK (.bool true) ?_
 try simp only [Act.put,s_,t_,u_,v_,x_,y_]
 refine pK (.bool true) ?_
 refine pK (.bool true) ?_
 try simp only [Act.put,s_,t_,u_,v_,x_,y_]
 refine wK (.string r) ?_
 try simp only [Act.put,s_,t_,u_,v_,x_,y_]
 refine wK (.int .i64 (r.size:Int)) ?_
 try simp only [Act.put,s_,t_,u_,v_,x_,y_]
 refine wK (.pointer (some ⟨c,0,none⟩)) ?_
 try simp only [Act.put,s_,t_,u_,v_,x_,y_]
 refine wK (.pointer (some ⟨c,0,none⟩)) ?_
 try simp only [Act.put,s_,t_,u_,v_,x_,y_]
 refine wK (.pointer (some ⟨c,0,none⟩)) ?_
 try simp only [Act.put,s_,t_,u_,v_,x_,y_]
 refine wK (.pointer (some ⟨c,57,none⟩)) ?_
 try simp only [Act.put,s_,t_,u_,v_,x_,y_]
 refine wpList_cellG (by kernel_rfl) 3 (.tmp 40) rfl c 57 (by kernel_rfl) (.int .i64 (sz:Int)) _ Tryz.underlying3 rfl ((cO (Nw4.out.crv.2.2) 57).trans (by rw [HSZ.out]; exact cuc_size2 _ _)) ?_
 try simp only [Act.put,s_,t_,u_,v_,x_,y_]
 refine wL (by kernel_rfl) (.bool true) (fun u=>by exact run_bini _ _ _ _ _ rfl (r.size:Int) (sz:Int) (by kernel_rfl) (by kernel_rfl) (eql_yes _ (by rw [HRS.out])) u) ?_
 try simp only [Act.put,s_,t_,u_,v_,x_,y_]
 refine pK (.bool true) ?_
 refine pK (.bool true) ?_
 refine wpList_nil ?_
 try simp only [Act.put,s_,t_,u_,v_,x_,y_]
 go_upto_region 11 with (fail)
 refine wp_region_lit ?_
 refine pK (.string r) ?_
 refine fL rfl 75 (.func 75) #[.tmp 45] #[9] rfl #[] #[.string r] (by kernel_rfl) (by kernel_rfl) (fun u=>cE _ _ _ _ u Tryz.func75 (by kernel_rfl) (by kernel_rfl)) (.tuple #[.agg (nc x),.int .i64 0]) ((HNO.out w4)) (fun w5 hb=>?_)
 have Nw5:=Hd (Nw4.out.grow hb)
 clear hb Nw4
 refine pK (.tuple #[.agg (nc x),.int .i64 0]) ?_
 refine pK (.agg (nc x)) ?_
 refine pK (.int .i64 0) ?_
 refine nL rfl 27 rfl (.agg (nc 0)) (by rw [nZ]; kernel_rfl) ?_
 intro xb w6 hx hx2 hgv hh
 have Nw6:=Hd (show MC w w6 [(g,ptc 0 0 false,41),(pb,ptc 0 0 false,41),(xb,nc 0,27)] c f d k.c from Nw5.out.new hgv (Nat.le_of_eq hx) hh)
 clear hx hx2 hgv hh Nw5
 refine sB rfl 27 (.tmp 11) (.tmp 47) rfl xb (by kernel_rfl) _ _ (nc x) (by kernel_rfl) (Nw6.out.at 2 rfl) (by rw [nS]; kernel_rfl) (by simp only [nS]) (nO _) ?_
 intro w7 hw hb hs
 have Nw7:=Hd (Nw6.out.store 2 rfl hb hs hw)
 clear hw hb hs Nw6
 refine pK (.int .i64 0) ?_
 refine wpList_nil ?_
 try simp only [Act.put,s_,t_,u_,v_,x_,y_]
 go_upto_region 12 with (fail)
 refine wp_region_lit ?_
 refine pK (.pointer (some ⟨c,0,none⟩)) ?_
 refine l0N rfl (.tmp 11) rfl xb (by kernel_rfl) (Nw7.out.at 2 rfl) ?_
 refine pK (.int .i64 3) ?_
 refine pK (.int .i64 ((1:Nat):Int)) ?_
 refine fL rfl 91 (.func 91) #[.tmp 50,.tmp 51,.tmp 53] #[70,27,3] rfl #[] #[.pointer (some ⟨c,0,none⟩),.agg (nc x),.int .i64 ((1:Nat):Int)] (by kernel_rfl) (by kernel_rfl) (fun u=>cE _ _ _ _ u Tryz.func91 (by kernel_rfl) (by kernel_rfl)) (.tuple #[.agg (ptc x y false),.bool true]) (HLF.out c f d w7 Nw7.out.crv) (fun w8 hb=>?_)
 have Nw8:=Hd (Nw7.out.grow hb)
 clear hb Nw7
 refine pK (.tuple #[.agg (ptc x y false),.bool true]) ?_
 refine pK (.agg (ptc x y false)) ?_
 refine pK (.bool true) ?_
 refine sB rfl 41 (.tmp 9) (.tmp 55) rfl pb (by kernel_rfl) _ _ (ptc x y false) (by kernel_rfl) (Nw8.out.at 1 rfl) (by rw [pS]; kernel_rfl) (by simp only [pS]) (ptc_one _ _ _) ?_
 intro w9 hw hb hs
 have Nw9:=Hd (Nw8.out.store 1 rfl hb hs hw)
 clear hw hb hs Nw8
 refine pK (.bool true) ?_
 refine wpList_nil ?_
 try simp only [Act.put,s_,t_,u_,v_,x_,y_]
 go_upto_region 17 with (fail)
 refine wp_region_lit ?_
 refine pK (.bool true) ?_
 refine pK (.bool false) ?_
 refine wpList_nil ?_
 try simp only [Act.put,s_,t_,u_,v_,x_,y_]
 go_upto_region 19 with (fail)
 refine wp_region_lit ?_
 refine lS rfl 41 (.tmp 9) rfl pb 0 19 (by kernel_rfl) _ _ (ptc x y false) _ _ (Nw9.out.at 1 rfl) Tryz.underlying41 rfl (by kernel_rfl) (pS _ _ _) (fun j hj=>by rw [Nat.zero_add]) ?_
 refine sB rfl 41 (.tmp 4) (.tmp 101) rfl g (by kernel_rfl) _ _ (ptc x y false) (by kernel_rfl) (Nw9.out.at 0 rfl) (by rw [pS]; kernel_rfl) (by simp only [pS]) (ptc_one _ _ _) ?_
 intro w10 hw hb hs
 have Nw10:=Hd (Nw9.out.store 0 rfl hb hs hw)
 clear hw hb hs Nw9
 refine pK (.int .i64 0) ?_
 refine wpList_nil ?_
 try simp only [Act.put,s_,t_,u_,v_,x_,y_]
 go_wp2_with (fail)
 exact bodyPost_ret (results_O2 rfl _ _ g _ _ _ _ (pS _ _ _) rfl rfl (Nw10.out.at 0 rfl)) rfl ⟨rfl,Nw10.out.below⟩
theorem get_l (k:CK) (n:Nat) (w:World) (h0:n≠0) (hn:n<k.c.n):Calls Tryz.prog 52 #[.int .i64 k.1,.string (ptL k n)] w fun e w'=>e=.returned (.tuple #[.agg (gpt k n),.int .i64 0])∧Below w.heap.size w w':=by
 obtain ⟨hi,hy0,hxy⟩:=k.pt h0 hn
 have hg:gpt k n=ptc (pX k (gm k n)) (pY k (gm k n)) false:=by unfold gpt; rw [hi]
 have HON:=Hd (fun c f d w (H:CurveAt w c f d k.c)=>hg ▸ on_rp k n c f d w H)
 have hres:ptL k n=⟨#[4]⟩++byB (pX k (gm k n)) k.c.size++byB (pY k (gm k n)) k.c.size:=rfl
 obtain ⟨x,hx⟩:∃ x,x=pX k (gm k n):=⟨_,rfl⟩
 obtain ⟨y,hy⟩:∃ y,y=pY k (gm k n):=⟨_,rfl⟩
 have hxp:x<k.c.p:=by rw [hx]; exact pX_lt k _
 have hyp:y<k.c.p:=by rw [hy]; exact pY_lt k _
 rw [hg,hres]
 rw [← hx,← hy] at HON hxy ⊢
 rw [← hy] at hy0
 have X9:=Hd (Nat.lt_trans hxp k.p9)
 have Y9:=Hd (Nat.lt_trans hyp k.p9)
 have HBX:=Hd (k.size_ok hxp)
 have HBY:=Hd (k.size_ok hyp)
 obtain ⟨sz,hsz⟩:∃ sz,sz=k.c.size:=⟨_,rfl⟩
 rw [← hsz] at HBX HBY ⊢
 have HSZ:=Hd hsz
 have HNX:=Hd (fun u=>nat_of_byB x sz u HBX.out.2 HBX.out.1)
 have HNY:=Hd (fun u=>nat_of_byB y sz u HBY.out.2 HBY.out.1)
 obtain ⟨s,hs⟩:∃ s,s=(⟨#[4]⟩++byB x sz++byB y sz:ByteArray):=⟨_,rfl⟩
 rw [← hs]
 obtain ⟨r1,hr1⟩:∃ r,r=byB x sz:=⟨_,rfl⟩
 obtain ⟨r2,hr2⟩:∃ r,r=byB y sz:=⟨_,rfl⟩
 rw [← hr1,← hr2,ByteArray.append_assoc] at hs
 rw [← hr1] at HNX
 rw [← hr2] at HNY
 have h1s:r1.size=sz:=by rw [hr1]; exact byB_size _ _
 have h2s:r2.size=sz:=by rw [hr2]; exact byB_size _ _
 obtain ⟨r,hr⟩:∃ r,r=r1++r2:=⟨_,rfl⟩
 rw [← hr] at hs
 have HS0:=Hd (show s[0]?=some 4 by rw [hs]; exact app_0 _ _)
 have HS1:=Hd (show s.extract 1 s.size=r by rw [hs]; exact app_1 _ _)
 have hrs:r.size=2*sz:=by rw [hr,ByteArray.size_append,h1s,h2s]; omega
 have hss:s.size=1+2*sz:=by rw [hs,ByteArray.size_append,hrs]; rfl
 have HR1:=Hd (show r.extract 0 sz=r1 by rw [hr]; exact ByteArray.extract_append_eq_left h1s.symm)
 have HR2:=Hd (show r.extract sz r.size=r2 by rw [hr]; exact ByteArray.extract_append_eq_right h1s.symm (by rw [ByteArray.size_append]))
 have HRS:=Hd hrs
 have HRL:=Hd (show sz≤r.size by omega)
 clear hr1 hr2 h1s h2s hrs
 have HSE:=Hd (size_ne (s:=s) (by omega))
 have HSL:=Hd (show 1≤s.size by omega)
 clear hss hs hr
 clear h0 hn hi hy0 hg hres hx hy hxp hyp hsz hxy
 go_enter Tryz.func52,Tryz.ntmps52
 go_upto_region 1 with fail
 rw [← ptc_zero]
 have m0:=Mem.start1 w (ptc 0 0 false) 41
 obtain ⟨w1,hw1⟩:∃ w1:World,w1=(w.alloc (.cells (ptc 0 0 false) 41)):=⟨_,rfl⟩
 rw [← hw1] at m0 ⊢
 clear hw1
 obtain ⟨g,hg⟩:∃ g,g=w.heap.size:=⟨_,rfl⟩
 rw [← hg] at m0 ⊢
 have HG:=Hd hg
 have M:=Hd m0
 clear hg m0
 go_upto_region 1 with (fail)
 refine wp_region_lit ?_
 refine pK (.int .i64 (k.1:Int)) ?_
 refine wpList_fnE rfl _ _ _ _ rfl #[] #[.int .i64 (k.1:Int)] (by kernel_rfl) (by kernel_rfl) (fun u=>cE _ _ _ _ u Tryz.func30 (by kernel_rfl) (by kernel_rfl)) (T:=Nat) (fun c=>.pointer (some ⟨c,0,none⟩)) (fun c w'=>∃ f d,CurveAt w' c f d k.c∧Below w1.heap.size w1 w') ((k.open_ w1).mono fun e w' ⟨c,f,d,he,hr,_,hb⟩=>⟨c,he,f,d,hr,hb⟩) ?_
 rintro c w2 ⟨f,d,hc,hb⟩
 have M2:=Hd (MC.of (M.out.grow hb) hc)
 clear hc hb M
 refine pK (.pointer (some ⟨c,0,none⟩)) ?_
 refine wpList_nil ?_
 try simp only [Act.put,s_,t_,u_,v_,x_,y_]
 go_upto_region 2 with (fail)
 refine wp_region_lit ?_
 refine pK (.pointer (some ⟨c,0,none⟩)) ?_
 refine pK (.bool false) ?_
 refine wpList_nil ?_
 try simp only [Act.put,s_,t_,u_,v_,x_,y_]
 go_upto_region 4 with (fail)
 refine wp_region_lit ?_
 refine pK (.string s) ?_
 try simp only [Act.put,s_,t_,u_,v_,x_,y_]
 refine pL rfl (.bool false) (fun u=>by exact run_seq _ _ _ _ rfl s ⟨#[]⟩ (by kernel_rfl) (by kernel_rfl) false HSE.out u) ?_
 refine wpList_nil ?_
 try simp only [Act.put,s_,t_,u_,v_,x_,y_]
 go_upto_region 6 with (fail)
 have D2:=Hd (M2.out.drew)
 clear M2
 refine wp_region_growT 7 7 (by kernel_rfl) (by kernel_rfl) (fun d v c a w h=>by cases d <;> exact h) ?_
 simp only [List.take_succ_cons,List.take_zero]
 refine gK (.string s) ?_
 refine pG rfl (v8 4) (fun u=>by exact run_six _ _ _ rfl s 0 _ (by kernel_rfl) (by kernel_rfl) HS0.out Tryz.underlying9 u) ?_
 refine gK (.int .i64 4) ?_
 refine gK (.string s) ?_
 refine pG rfl (.string r) (fun u=>by exact run_slo _ _ _ rfl s 1 (by kernel_rfl) (by kernel_rfl) HSL.out Tryz.underlying9 r HS1.out u) ?_
 refine gK (.int .i64 4) ?_
 refine gK (.string r) ?_
 refine gN ?_
 try simp only [Act.put,s_,t_,u_,v_,x_,y_]
 intro w3 hg6
 refine ⟨by kernel_rfl,?_⟩
 have Nw3:=Hd (D2.out.grow hg6)
 clear hg6 D2
 try simp only [Act.put,s_,t_,u_,v_,x_,y_]
 go_upto_region 7 with (fail)
 refine wp_region_lit ?_
 refine nL rfl 41 rfl (.agg (ptc 0 0 false)) (by rw [ptc_zero]; kernel_rfl) ?_
 intro pb w4 hx hx2 hgv hh
 have Nw4:=Hd (show MC w w4 [(g,ptc 0 0 false,41),(pb,ptc 0 0 false,41)] c f d k.c from Nw3.out.new hgv (Nat.le_of_eq hx) hh)
 clear hx hx2 hgv hh Nw3
 refine wpList_nil ?_
 try simp only [Act.put,s_,t_,u_,v_,x_,y_]
 go_upto_region 8 with (fail)
 refine wp_region_lit ?_
 refine pK (.bool false) ?_
 refine wpList_nil ?_
 try simp only [Act.put,s_,t_,u_,v_,x_,y_]
 go_upto_region 10 with (fail)
 refine wp_region_lit ?_
 refine pK (.int .i64 4) ?_
 refine pK (.bool false) ?_
 refine pK (.bool false) ?_
 try simp only [Act.put,s_,t_,u_,v_,x_,y_]
 refine wK (.int .i64 4) ?_
 try simp only [Act.put,s_,t_,u_,v_,x_,y_]
 refine wK (.bool false) ?_
 try simp only [Act.put,s_,t_,u_,v_,x_,y_]
 refine pK (.bool false) ?_
 refine pK (.bool false) ?_
 try simp only [Act.put,s_,t_,u_,v_,x_,y_]
 refine wpList_skipL (by kernel_rfl) ?_
 try simp only [Act.put,s_,t_,u_,v_,x_,y_]
 refine wpList_skipL (by kernel_rfl) ?_
 try simp only [Act.put,s_,t_,u_,v_,x_,y_]
 refine wpList_skipL (by kernel_rfl) ?_
 try simp only [Act.put,s_,t_,u_,v_,x_,y_]
 refine wpList_skipL (by kernel_rfl) ?_
 try simp only [Act.put,s_,t_,u_,v_,x_,y_]
 refine wpList_skipL (by kernel_rfl) ?_
 try simp only [Act.put,s_,t_,u_,v_,x_,y_]
 refine wpList_skipL (by kernel_rfl) ?_
 try simp only [Act.put,s_,t_,u_,v_,x_,y_]
 refine wpList_skipL (by kernel_rfl) ?_
 try simp only [Act.put,s_,t_,u_,v_,x_,y_]
 refine wpList_skipL (by kernel_rfl) ?_
 refine pK (.bool false) ?_
 refine pK (.bool false) ?_
 refine wpList_nil ?_
 try simp only [Act.put,s_,t_,u_,v_,x_,y_]
 go_upto_region 13 with (fail)
 refine wp_region_lit ?_
 refine pK (.int .i64 4) ?_
 refine pK (.bool true) ?_
 refine pK (.bool true) ?_
 try simp only [Act.put,s_,t_,u_,v_,x_,y_]
 refine wK (.string r) ?_
 try simp only [Act.put,s_,t_,u_,v_,x_,y_]
 refine wK (.int .i64 (r.size:Int)) ?_
 try simp only [Act.put,s_,t_,u_,v_,x_,y_]
 refine wK (.pointer (some ⟨c,0,none⟩)) ?_
 try simp only [Act.put,s_,t_,u_,v_,x_,y_]
 refine wK (.pointer (some ⟨c,0,none⟩)) ?_
 try simp only [Act.put,s_,t_,u_,v_,x_,y_]
 refine wK (.pointer (some ⟨c,0,none⟩)) ?_
 try simp only [Act.put,s_,t_,u_,v_,x_,y_]
 refine wK (.pointer (some ⟨c,57,none⟩)) ?_
 try simp only [Act.put,s_,t_,u_,v_,x_,y_]
 refine wpList_cellG (by kernel_rfl) 3 (.tmp 66) rfl c 57 (by kernel_rfl) (.int .i64 (sz:Int)) _ Tryz.underlying3 rfl ((cO (Nw4.out.crv.2.2) 57).trans (by rw [HSZ.out]; exact cuc_size2 _ _)) ?_
 try simp only [Act.put,s_,t_,u_,v_,x_,y_]
 refine wL (by kernel_rfl) (.int .i64 ((2*sz:Nat):Int)) (fun u=>by exact run_bini _ _ _ _ _ rfl ((2:Nat):Int) (sz:Int) (by kernel_rfl) (by kernel_rfl) (bi_mul _ (by have:=HBX.out.2; omega)) u) ?_
 try simp only [Act.put,s_,t_,u_,v_,x_,y_]
 refine wL (by kernel_rfl) (.bool true) (fun u=>by exact run_bini _ _ _ _ _ rfl (r.size:Int) ((2*sz:Nat):Int) (by kernel_rfl) (by kernel_rfl) (eql_yes _ (by rw [HRS.out])) u) ?_
 try simp only [Act.put,s_,t_,u_,v_,x_,y_]
 refine pK (.bool true) ?_
 refine pK (.bool true) ?_
 refine wpList_nil ?_
 try simp only [Act.put,s_,t_,u_,v_,x_,y_]
 go_upto_region 14 with (fail)
 refine wp_region_lit ?_
 refine pK (.string r) ?_
 refine pK (.pointer (some ⟨c,0,none⟩)) ?_
 refine pK (.pointer (some ⟨c,0,none⟩)) ?_
 refine pK (.pointer (some ⟨c,0,none⟩)) ?_
 refine pK (.pointer (some ⟨c,57,none⟩)) ?_
 refine lC rfl 3 (.tmp 76) rfl c 57 (by kernel_rfl) (.int .i64 (sz:Int)) _ Tryz.underlying3 rfl ((cO (Nw4.out.crv.2.2) 57).trans (by rw [HSZ.out]; exact cuc_size2 _ _)) ?_
 try simp only [Act.put,s_,t_,u_,v_,x_,y_]
 refine pL rfl (.string r1) (fun u=>by exact run_shi _ _ _ rfl r sz (by kernel_rfl) (by kernel_rfl) HRL.out Tryz.underlying9 r1 HR1.out u) ?_
 refine fL rfl 75 (.func 75) #[.tmp 78] #[9] rfl #[] #[.string r1] (by kernel_rfl) (by kernel_rfl) (fun u=>cE _ _ _ _ u Tryz.func75 (by kernel_rfl) (by kernel_rfl)) (.tuple #[.agg (nc x),.int .i64 0]) ((HNX.out w4)) (fun w5 hb=>?_)
 have Nw5:=Hd (Nw4.out.grow hb)
 clear hb Nw4
 refine pK (.tuple #[.agg (nc x),.int .i64 0]) ?_
 refine pK (.agg (nc x)) ?_
 refine pK (.int .i64 0) ?_
 refine pK (.pointer (some ⟨pb,0,none⟩)) ?_
 refine wpList_store_fld rfl 27 (.tmp 82) (.tmp 80) rfl pb 0 (by kernel_rfl) _ (fun S=>S++(nc 0++#[.bool false])) #[] (nc 0) (nc 0++#[.bool false]) (nc x) (fun B=>by simp) (by kernel_rfl) (by have h9:=Nw5.out.at 1 rfl; rw [ptc_eq2] at h9; exact h9) rfl (by rw [nS,nS]) (by rw [nS]; kernel_rfl) (nO _) ?_
 intro w6 hw hb hs
 replace hw:w6.heap[pb]?=some (.cells (ptc x 0 false) 41 (0,0)):=by rw [ptc_eq2]; exact hw
 have Nw6:=Hd (Nw5.out.store 1 rfl hb hs hw)
 clear hw hb hs Nw5
 refine wpList_nil ?_
 try simp only [Act.put,s_,t_,u_,v_,x_,y_]
 go_upto_region 15 with (fail)
 refine wp_region_lit ?_
 refine pK (.string r) ?_
 refine pK (.pointer (some ⟨c,0,none⟩)) ?_
 refine pK (.pointer (some ⟨c,0,none⟩)) ?_
 refine pK (.pointer (some ⟨c,0,none⟩)) ?_
 refine pK (.pointer (some ⟨c,57,none⟩)) ?_
 refine lC rfl 3 (.tmp 88) rfl c 57 (by kernel_rfl) (.int .i64 (sz:Int)) _ Tryz.underlying3 rfl ((cO (Nw6.out.crv.2.2) 57).trans (by rw [HSZ.out]; exact cuc_size2 _ _)) ?_
 try simp only [Act.put,s_,t_,u_,v_,x_,y_]
 refine pL rfl (.string r2) (fun u=>by exact run_slo _ _ _ rfl r sz (by kernel_rfl) (by kernel_rfl) HRL.out Tryz.underlying9 r2 HR2.out u) ?_
 refine fL rfl 75 (.func 75) #[.tmp 90] #[9] rfl #[] #[.string r2] (by kernel_rfl) (by kernel_rfl) (fun u=>cE _ _ _ _ u Tryz.func75 (by kernel_rfl) (by kernel_rfl)) (.tuple #[.agg (nc y),.int .i64 0]) ((HNY.out w6)) (fun w7 hb=>?_)
 have Nw7:=Hd (Nw6.out.grow hb)
 clear hb Nw6
 refine pK (.tuple #[.agg (nc y),.int .i64 0]) ?_
 refine pK (.agg (nc y)) ?_
 refine pK (.int .i64 0) ?_
 refine pK (.pointer (some ⟨pb,9,none⟩)) ?_
 refine wpList_store_fld rfl 27 (.tmp 94) (.tmp 92) rfl pb 9 (by kernel_rfl) _ (fun S=>nc x++(S++#[.bool false])) (nc x) (nc 0) #[.bool false] (nc y) (fun B=>rfl) (by kernel_rfl) (by have h9:=Nw7.out.at 1 rfl; rw [ptc_eq2] at h9; exact h9) (nS x) (by rw [nS,nS]) (by rw [nS]; kernel_rfl) (nO _) ?_
 intro w8 hw hb hs
 replace hw:w8.heap[pb]?=some (.cells (ptc x y false) 41 (0,0)):=by rw [ptc_eq2]; exact hw
 have Nw8:=Hd (Nw7.out.store 1 rfl hb hs hw)
 clear hw hb hs Nw7
 refine wpList_nil ?_
 try simp only [Act.put,s_,t_,u_,v_,x_,y_]
 go_upto_region 16 with (fail)
 refine wp_region_lit ?_
 refine pK (.pointer (some ⟨c,0,none⟩)) ?_
 refine lS rfl 41 (.tmp 9) rfl pb 0 19 (by kernel_rfl) _ _ (ptc x y false) _ _ (Nw8.out.at 1 rfl) Tryz.underlying41 rfl (by kernel_rfl) (pS _ _ _) (fun j hj=>by rw [Nat.zero_add]) ?_
 refine fL rfl 49 (.func 49) #[.tmp 95,.tmp 96] #[70,41] rfl #[] #[.pointer (some ⟨c,0,none⟩),.agg (ptc x y false)] (by kernel_rfl) (by kernel_rfl) (fun u=>cE _ _ _ _ u Tryz.func49 (by kernel_rfl) (by kernel_rfl)) (.bool true) (HON.out c f d w8 Nw8.out.crv) (fun w9 hb=>?_)
 have Nw9:=Hd (Nw8.out.grow hb)
 clear hb Nw8
 refine pK (.bool true) ?_
 refine wpList_nil ?_
 try simp only [Act.put,s_,t_,u_,v_,x_,y_]
 go_upto_region 17 with (fail)
 refine wp_region_lit ?_
 refine pK (.bool true) ?_
 refine pK (.bool false) ?_
 refine wpList_nil ?_
 try simp only [Act.put,s_,t_,u_,v_,x_,y_]
 go_upto_region 19 with (fail)
 refine wp_region_lit ?_
 refine lS rfl 41 (.tmp 9) rfl pb 0 19 (by kernel_rfl) _ _ (ptc x y false) _ _ (Nw9.out.at 1 rfl) Tryz.underlying41 rfl (by kernel_rfl) (pS _ _ _) (fun j hj=>by rw [Nat.zero_add]) ?_
 refine sB rfl 41 (.tmp 4) (.tmp 101) rfl g (by kernel_rfl) _ _ (ptc x y false) (by kernel_rfl) (Nw9.out.at 0 rfl) (by rw [pS]; kernel_rfl) (by simp only [pS]) (ptc_one _ _ _) ?_
 intro w10 hw hb hs
 have Nw10:=Hd (Nw9.out.store 0 rfl hb hs hw)
 clear hw hb hs Nw9
 refine pK (.int .i64 0) ?_
 refine wpList_nil ?_
 try simp only [Act.put,s_,t_,u_,v_,x_,y_]
 go_wp2_with (fail)
 exact bodyPost_ret (results_O2 rfl _ _ g _ _ _ _ (pS _ _ _) rfl rfl (Nw10.out.at 0 rfl)) rfl ⟨rfl,Nw10.out.below⟩
theorem get_short (k:CK) (n:Nat) (w:World) (h0:n≠0) (hn:n<k.c.n):Calls Tryz.prog 52 #[.int .i64 k.1,.string (ptS k n)] w fun e w'=>e=.returned (.tuple #[.agg (gpt k n),.int .i64 0])∧Below w.heap.size w w':=by
 rcases (show pY k (gm k n)%2=0∨pY k (gm k n)%2=1 by omega) with h | h
 ·exact get_s0 k n w h0 hn h
 ·exact get_s1 k n w h0 hn h
end Go.Proofs.YtkoonhiplicbkaaGreat.Cw
