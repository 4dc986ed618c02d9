/-
  (package ecdsa) digest; (package key) Try: a number of a generator. Condition: an opened curve; a generator that still gives.
-/
import Derived.Test.YtkoonhiplicbkaaGreatPk38
import Derived.Test.YtkoonhiplicbkaaGreatPk36
set_option linter.unusedSimpArgs false
set_option linter.unusedVariables false
set_option maxHeartbeats 4000000
set_option maxRecDepth 100000
namespace Go.Proofs.YtkoonhiplicbkaaGreat.Cw
open Go Go.RowKit
attribute [local irreducible] pc ptc nc ac cuc fc gpt
attribute [local go_sem ↓ high] wn_eql wn_neq wn_lss wn_gtr wn_leq wn_geq wn_cells wRS wn_guard lit0 lit1
attribute [local go_sem high] wn_match wRS wn_eql wn_neq wn_lss wn_gtr wn_leq wn_geq
theorem run_max0 {P:Program} {ρ:Operand→Value} {o:Oper} (t1 t2:TypeId) (x y:Operand) (ho:o.op=.call { callee:=.builtin .max,args:=#[x,y],argTypes:=#[t1,t2] }) (a b:Nat) (hx:ρ x=.int .i64 0) (hy:ρ y=.int .i64 ((a:Int) - (b:Int))) (u:World):(execOp ρ o).run P u=.ok (.value (.int .i64 ((a - b:Nat):Int))) u:=by
 obtain ⟨d,op,type,pos,after,guard⟩:=o
 subst ho
 by_cases h:(0:Int)<(a:Int) - b
 ·have e:((a - b:Nat):Int)=(a:Int) - b:=by omega
  simp [execOp,resolve,invoke,builtin,hx,hy,Builtin.max_,Builtin.max2,h,e]
  try omega
 ·have e:((a - b:Nat):Int)=0:=by omega
  simp [execOp,resolve,invoke,builtin,hx,hy,Builtin.max_,Builtin.max2,h,e]
  try omega
theorem bi_subI (t:TypeId) {p q:Nat} (h:p<4611686018427387904) (h2:q<4611686018427387904):binOp .sub t (.int .i64 (p:Int)) (.int .i64 (q:Int))=pure (.int .i64 ((p:Int) - (q:Int))):=by
 show (pure (.int .i64 (IntKind.i64.wrap ((p:Int) - q))):Sem Value)=_
 rw [IntWalk.i64_in _ (by omega)]
theorem results_N3 {fn:Func} {p q r:Tmp} (h:fn.results=#[.cell p 27,.tmp q,.tmp r]) (tmps:Array Value) (w:World) (g:Nat) (t:TypeId) (n:Nat) (fr:Nat × Nat) (v u:Value)
  (hp:tmps.getD p undef=.pointer (some ⟨g,0,none⟩)) (hq:tmps.getD q undef=v) (hr:tmps.getD r undef=u) (hg:w.heap[g]?=some (.cells (nc n) t fr)) :
  (results fn tmps).run Tryz.prog w=.ok (.tuple #[.agg (nc n),v,u]) w:=by
 have hp':tmps[p]?.getD undef=.pointer (some ⟨g,0,none⟩):=by simpa using hp
 have hq':tmps[q]?.getD undef=v:=by simpa using hq
 have hr':tmps[r]?.getD undef=u:=by simpa using hr
 simp [results,h,hp',hq',hr',asAddr,run_load_seg w g 0 9 t 27 (nc n) (nc n) fr _ hg Tryz.underlying27 rfl (by kernel_rfl) (nS n) (fun j _=>by rw [Nat.zero_add])]
theorem Mem.rebase {w0 w w':World} {L:List Blk} {g:Nat} (M:Mem w0 w L) (hb:But g w w') (hg:g<w0.heap.size):∃ wb,But g w0 wb∧wb.heap.size=w0.heap.size∧wb.heap[g]?=w'.heap[g]?∧Mem wb w' L:=by
 have hgw:g<w'.heap.size:=Nat.lt_of_lt_of_le hg (Nat.le_trans M.1.size hb.size)
 refine ⟨{ w0 with heap:=w0.heap.setIfInBounds g w'.heap[g] },⟨rfl,rfl,rfl,by simp,fun i hi hne=>?_⟩,by simp,?_,?_,?_,M.2.2⟩
 ·have hne2:g≠i:=fun e=>hne (by rw [e])
  simp [Array.getElem?_setIfInBounds,hne2]
 ·simp [Array.getElem?_setIfInBounds,hg,hgw]
 ·refine ⟨hb.os.trans M.1.os,hb.tape.trans M.1.tape,hb.output.trans M.1.output,by simp; exact Nat.le_trans M.1.size hb.size,fun i hi=>?_⟩
  have hi':i<w0.heap.size:=by simpa using hi
  by_cases e:g=i
  ·subst e; simp [Array.getElem?_setIfInBounds,hg,hgw]
  ·rw [hb.block i (Nat.lt_of_lt_of_le hi' M.1.size) (fun h=>e (by simpa using h.symm)),M.1.block i hi']
   simp [Array.getElem?_setIfInBounds,e]
 ·intro e he
  have h1:=M.2.1 e he
  refine ⟨by simpa using h1.1,hb.heap (fun h=>?_) h1.2⟩
  have:=h1.1
  omega
theorem MC.rebase {w0 w w':World} {L:List Blk} {c f d g:Nat} {cu:Cv} (M:MC w0 w L c f d cu) (hb:But g w w') (hg:g<w0.heap.size) (h1:c≠g) (h2:f≠g) (h3:d≠g):∃ wb,But g w0 wb∧wb.heap.size=w0.heap.size∧wb.heap[g]?=w'.heap[g]?∧MC wb w' L c f d cu:=by
 obtain ⟨wb,a1,a2,a3,a4⟩:=M.2.1.rebase hb hg
 exact ⟨wb,a1,a2,a3,MC.of a4 (M.2.2.but hb h1 h2 h3)⟩
theorem CurveAt.off {w:World} {c f d g id:Nat} {cu:Cv} {kv:ByteArray × ByteArray} {n:Int} (H:CurveAt w c f d cu) (HD:DrbgAt w g id kv n):c≠g∧f≠g∧d≠g:=by
 obtain ⟨_,⟨_,_,_,⟨_,_,_,_,_,_,_,e6⟩,f5⟩,hc⟩:=H
 exact ⟨type_neq HD hc (by decide),type_neq HD f5 (by decide),type_neq HD e6 (by decide)⟩
def dgN (k:CK) (id:Nat) (t:ByteArray):Nat:=byv (dg id t) (dg id t).size / 2 ^ (8*(dg id t).size - bl k.c.n)%k.c.n
def tryS (k:CK) (id:Nat) (kv:ByteArray × ByteArray):ByteArray:=genO id kv ((bl k.c.n+7) / 8) ⟨#[]⟩
def tryN (k:CK) (id:Nat) (kv:ByteArray × ByteArray):Nat:=byv (tryS k id kv) (tryS k id kv).size / 2 ^ (8*((bl k.c.n+7) / 8) - bl k.c.n)
def tryK (k:CK) (id:Nat) (kv:ByteArray × ByteArray):ByteArray × ByteArray:=genK id kv ((bl k.c.n+7) / 8) ⟨#[]⟩
theorem ecdsa_digest (k:CK) (c f d id:Nat) (t:ByteArray) (w:World) (hi:isId id) (ht:t.size≤140737488351232) (H:CurveAt w c f d k.c):Calls Tryz.prog 33 #[.pointer (some ⟨c,0,none⟩),.int .i64 id,.string t] w fun e w'=>e=.returned (.agg (nc (dgN k id t)))∧Below w.heap.size w w':=by
 have HC:=Hd H
 have N9:=Hd k.n9
 have hh:=fun w=>hashOf_yes id t w hi ht
 have hs:(dg id t).size≤64:=by rw [dg_sz hi]; exact (szOf_pos id).2
 have HDN:=Hd (show dgN k id t=byv (dg id t) (dg id t).size / 2 ^ (8*(dg id t).size - bl k.c.n)%k.c.n from rfl)
 obtain ⟨S,hS⟩:∃ S,S=dg id t:=⟨_,rfl⟩
 rw [← hS] at hh hs HDN
 have HH:=Hd hh
 have V9:=Hd (byv9 S (by omega))
 obtain ⟨b,hb⟩:∃ b,b=bl k.c.n:=⟨_,rfl⟩
 have hb2:b≤576:=by rw [hb]; exact k.blN.2
 have HB:=Hd hb
 rw [← hb] at HDN
 obtain ⟨V,hV⟩:∃ V,V=byv S S.size:=⟨_,rfl⟩
 rw [← hV] at V9 HDN
 have HV:=Hd hV
 have X9:=Hd (show V / 2 ^ (8*S.size - b)<pw 9 from Nat.lt_of_le_of_lt (Nat.div_le_self _ _) V9.out)
 have HSZ:=Hd hs
 have h8:8*S.size<9223372036854775808:=by omega
 have H8:=Hd h8
 have H82:=Hd (show 8*S.size<4611686018427387904 by omega)
 have HBB:=Hd (show b<4611686018427387904 by omega)
 have HSH:=Hd (show 8*S.size - b≤576 by omega)
 clear H hh hS hb hV hs h8 hb2
 go_enter Tryz.func33,Tryz.ntmps33
 go_upto_region 1 with fail
 rw [← nZ]
 have m0:=Mem.start1 w (nc 0) 27
 obtain ⟨w1,hw1⟩:∃ w1:World,w1=(w.alloc (.cells (nc 0) 27)):=⟨_,rfl⟩
 rw [← hw1] at m0 ⊢
 clear hw1
 obtain ⟨g,hg⟩:∃ g,g=w.heap.size:=⟨_,rfl⟩
 rw [← hg] at m0 ⊢
 have HG:=Hd hg
 have M:=Hd m0
 clear hg m0
 replace M:=Hd (MC.of M.out (HC.out.up M.out.1))
 refine wp_region_lit ?_
 refine pL rfl (.int .i64 (id:Int)) (fun u=>by kernel_rfl) ?_
 refine pL rfl (.string t) (fun u=>by kernel_rfl) ?_
 refine fL rfl 54 (.func 54) #[.tmp 12,.tmp 13] #[3,9] rfl #[] #[.int .i64 (id:Int),.string t] (by kernel_rfl) (by kernel_rfl) (fun u=>cE _ _ _ _ u Tryz.func54 (by kernel_rfl) (by kernel_rfl)) (.tuple #[.string S,.int .i64 0]) (HH.out w1) (fun w2 hb=>?_)
 have Nw2:=Hd (M.out.grow hb)
 clear hb M
 refine pL rfl (.tuple #[.string S,.int .i64 0]) (fun u=>by kernel_rfl) ?_
 refine pL rfl (.string S) (fun u=>by kernel_rfl) ?_
 refine pL rfl (.int .i64 0) (fun u=>by kernel_rfl) ?_
 refine pL rfl (.string S) (fun u=>by kernel_rfl) ?_
 refine pL rfl (.int .i64 0) (fun u=>by kernel_rfl) ?_
 refine wpList_nil ?_
 try simp only [Act.put,s_,t_,u_,v_,x_,y_]
 go_upto_region 2 with (fail)
 refine wp_region_lit ?_
 refine pL rfl (.string S) (fun u=>by kernel_rfl) ?_
 refine fL rfl 75 (.func 75) #[.tmp 18] #[9] rfl #[] #[.string S] (by kernel_rfl) (by kernel_rfl) (fun u=>cE _ _ _ _ u Tryz.func75 (by kernel_rfl) (by kernel_rfl)) (.tuple #[.agg (nc V),.int .i64 0]) ((HV.out ▸ nat_of S w2 (Nat.le_trans HSZ.out (by decide)))) (fun w3 hb=>?_)
 have Nw3:=Hd (Nw2.out.grow hb)
 clear hb Nw2
 refine pL rfl (.tuple #[.agg (nc V),.int .i64 0]) (fun u=>by kernel_rfl) ?_
 refine pL rfl (.agg (nc V)) (fun u=>by kernel_rfl) ?_
 refine pL rfl (.int .i64 0) (fun u=>by kernel_rfl) ?_
 refine nL rfl 27 rfl (.agg (nc 0)) (by rw [nZ]; kernel_rfl) ?_
 intro y w4 hx hx2 hgv hh
 have Nw4:=Hd (show MC w w4 [(g,nc 0,27),(y,nc 0,27)] c f d k.c from Nw3.out.new hgv (Nat.le_of_eq hx) hh)
 clear hx hx2 hgv hh Nw3
 refine sB rfl 27 (.tmp 9) (.tmp 20) rfl y (by kernel_rfl) _ _ (nc V) (by kernel_rfl) (Nw4.out.at 1 rfl) (by rw [nS]; kernel_rfl) (by simp only [nS]) (nO _) ?_
 intro w5 hw hb hs
 have Nw5:=Hd (Nw4.out.store 1 rfl hb hs hw)
 clear hw hb hs Nw4
 refine pL rfl (.int .i64 0) (fun u=>by kernel_rfl) ?_
 refine wpList_nil ?_
 try simp only [Act.put,s_,t_,u_,v_,x_,y_]
 go_upto_region 3 with (fail)
 have D6:=Hd (Nw5.out.drew)
 clear Nw5
 refine rGw 15 15 (by kernel_rfl) (by kernel_rfl) (fun d v c a w h=>by cases d <;> exact h) ?_
 simp only [List.take_succ_cons,List.take_zero]
 refine lG rfl (.tmp 9) rfl y (by kernel_rfl) (fun u hu=>D6.out.up 1 rfl hu) ?_
 refine pG rfl (.string S) (fun u=>by kernel_rfl) ?_
 refine pG rfl (.int .i64 ((S.size:Nat):Int)) (fun u=>by kernel_rfl) ?_
 refine pG rfl (.int .i64 ((8*S.size:Nat):Int)) (fun u=>by exact run_bini _ _ _ _ _ rfl ((8:Nat):Int) (S.size:Int) (by kernel_rfl) (by kernel_rfl) (bi_mul _ H8.out) u) ?_
 refine pG rfl (.pointer (some ⟨c,0,none⟩)) (fun u=>by kernel_rfl) ?_
 refine pG rfl (.pointer (some ⟨c,0,none⟩)) (fun u=>by kernel_rfl) ?_
 refine pG rfl (.pointer (some ⟨c,0,none⟩)) (fun u=>by kernel_rfl) ?_
 refine pG rfl (.pointer (some ⟨c,56,none⟩)) (fun u=>by kernel_rfl) ?_
 refine wpGrow_load_cell rfl 3 (.tmp 30) rfl c 56 (by kernel_rfl) (.int .i64 (b:Int)) _ Tryz.underlying3 rfl (fun u hu=>(cO (grows_at D6.out.crv.2.2 hu) 56).trans (by rw [HB.out]; exact cuc_bits _ _)) ?_
 refine pG rfl (.int .i64 (((8*S.size:Nat):Int) - (b:Int))) (fun u=>by exact run_bini _ _ _ _ _ rfl ((8*S.size:Nat):Int) (b:Int) (by kernel_rfl) (by kernel_rfl) (bi_subI _ H82.out HBB.out) u) ?_
 refine pG rfl (.int .i64 ((8*S.size - b:Nat):Int)) (fun u=>by exact run_max0 3 3 (.const (.int .i64 0)) (.tmp 32) rfl (8*S.size) b (by kernel_rfl) (by kernel_rfl) u) ?_
 refine fG rfl 76 (.func 76) #[.tmp 23,.tmp 33] #[27,3] rfl #[] #[.agg (nc V),.int .i64 ((8*S.size - b:Nat):Int)] (by kernel_rfl) (by kernel_rfl) (fun u=>cE _ _ _ _ u Tryz.func76 (by kernel_rfl) (by kernel_rfl)) (.tuple #[.agg (nc ((V / 2 ^ (8*S.size - b)))),.int .i64 0]) (fun u hu=>by exact nat_shr V (8*S.size - b) u V9.out HSH.out) ?_
 refine pG rfl (.tuple #[.agg (nc ((V / 2 ^ (8*S.size - b)))),.int .i64 0]) (fun u=>by kernel_rfl) ?_
 refine pG rfl (.agg (nc ((V / 2 ^ (8*S.size - b))))) (fun u=>by kernel_rfl) ?_
 refine pG rfl (.int .i64 0) (fun u=>by kernel_rfl) ?_
 refine gN ?_
 try simp only [Act.put,s_,t_,u_,v_,x_,y_]
 refine gS (rs:=[15]) (by kernel_rfl) (by decide) (fun w7 hg6=>?_)
 have Nw7:=Hd (D6.out.grow hg6)
 clear hg6 D6
 refine wpAny_ready (rs:=[15]) (by kernel_rfl) (by simp) ?_
 refine AllReady.cons rfl (fun K hK=>?_) AllReady.nil
 refine sK rfl 27 (.tmp 9) (.tmp 35) rfl y rfl _ _ _ rfl (Nw7.out.at 1 rfl) (by rw [nS]; kernel_rfl) (by simp only [nS]) (nO _) (fun w8 hw hb hs=>hK _ _ ?_)
 have Nw8:=Hd (Nw7.out.store 1 rfl hb hs hw)
 clear hK hw hb hs Nw7
 try simp only [Act.put,s_,t_,u_,v_,x_,y_]
 refine wpAny_done (by kernel_rfl) ?_ _
 try simp only [Act.put,s_,t_,u_,v_,x_,y_]
 go_upto_region 4 with (fail)
 refine wp_region_lit ?_
 refine pL rfl (.pointer (some ⟨c,0,none⟩)) (fun u=>by kernel_rfl) ?_
 refine l0N rfl (.tmp 9) rfl y (by kernel_rfl) (Nw8.out.at 1 rfl) ?_
 refine fL rfl 36 (.func 36) #[.tmp 37,.tmp 38] #[70,27] rfl #[] #[.pointer (some ⟨c,0,none⟩),.agg (nc ((V / 2 ^ (8*S.size - b))))] (by kernel_rfl) (by kernel_rfl) (fun u=>cE _ _ _ _ u Tryz.func36 (by kernel_rfl) (by kernel_rfl)) (.agg (nc ((V / 2 ^ (8*S.size - b)%k.c.n)))) (ecdsa_rest k c f d (V / 2 ^ (8*S.size - b)) w8 X9.out Nw8.out.crv) (fun w9 hb=>?_)
 have Nw9:=Hd (Nw8.out.grow hb)
 clear hb Nw8
 refine sB rfl 27 (.tmp 6) (.tmp 39) rfl g (by kernel_rfl) _ _ (nc ((V / 2 ^ (8*S.size - b)%k.c.n))) (by kernel_rfl) (Nw9.out.at 0 rfl) (by rw [nS]; kernel_rfl) (by simp only [nS]) (nO _) ?_
 intro w10 hw hb hs
 have Nw10:=Hd (Nw9.out.store 0 rfl hb hs hw)
 clear hw hb hs Nw9
 refine wpList_nil ?_
 try simp only [Act.put,s_,t_,u_,v_,x_,y_]
 go_wp2_with (fail)
 refine bodyPost_ret (results_N rfl _ _ g _ _ _ rfl (Nw10.out.at 0 rfl)) rfl ⟨by rw [HDN.out],Nw10.out.below⟩
theorem key_try (k:CK) (c f d dr id:Nat) (kv:ByteArray × ByteArray) (n:Int) (w:World) (hi:isId id) (hf:fit id kv) (hn0:0≤n) (hn:n≤64) (H:CurveAt w c f d k.c) (HD:DrbgAt w dr id kv n):Calls Tryz.prog 34 #[.pointer (some ⟨c,0,none⟩),.func (.func 35) #[.pointer (some ⟨dr,0,none⟩)] #[]] w fun e w'=>e=.returned (.tuple #[.agg (nc (tryN k id kv)),.bool (decide (tryN k id kv≠0∧tryN k id kv<k.c.n)),.int .i64 0])∧DrbgAt w' dr id (tryK k id kv) (n+1)∧But dr w w':=by
 have HC:=Hd H
 have HDR:=Hd HD
 have HLT:=Hd (lt_of HD)
 have HOFF:=Hd (H.off HD)
 have N9:=Hd k.n9
 have hb2:=k.blN
 obtain ⟨b,hb⟩:∃ b,b=bl k.c.n:=⟨_,rfl⟩
 rw [← hb] at hb2
 obtain ⟨z,hz⟩:∃ z,z=(b+7) / 8:=⟨_,rfl⟩
 have hG:=fun W (h:DrbgAt W dr id kv n)=>dgen_ok dr id kv n (z:Int) z ⟨#[]⟩ W hi hf rfl (by omega) (by decide) hn0 hn h
 have HTN:=Hd (show tryN k id kv=byv (tryS k id kv) (tryS k id kv).size / 2 ^ (8*((bl k.c.n+7) / 8) - bl k.c.n) from rfl)
 have HSD:tryS k id kv=genO id kv ((bl k.c.n+7) / 8) ⟨#[]⟩:=rfl
 have HKD:tryK k id kv=genK id kv ((bl k.c.n+7) / 8) ⟨#[]⟩:=rfl
 rw [← hb,← hz] at HTN HSD HKD
 have hsz:(tryS k id kv).size=z:=by rw [HSD]; exact genO_size hi _ _ _
 rw [← HSD,← HKD] at hG
 obtain ⟨S,hS⟩:∃ S,S=tryS k id kv:=⟨_,rfl⟩
 rw [← hS] at hsz HTN hG
 obtain ⟨K2,hK2⟩:∃ K2,K2=tryK k id kv:=⟨_,rfl⟩
 rw [← hK2] at hG ⊢
 have HG2:=Hd hG
 have V9:=Hd (byv9 S (by omega))
 obtain ⟨V,hV⟩:∃ V,V=byv S S.size:=⟨_,rfl⟩
 rw [← hV] at V9 HTN
 have HV:=Hd hV
 have X9:=Hd (show V / 2 ^ (8*z - b)<pw 9 from Nat.lt_of_le_of_lt (Nat.div_le_self _ _) V9.out)
 obtain ⟨X,hX⟩:∃ X,X=tryN k id kv:=⟨_,rfl⟩
 rw [← hX] at HTN ⊢
 rw [← HTN.out] at X9
 obtain ⟨ok,hok⟩:∃ ok,ok=decide (X≠0∧X<k.c.n):=⟨_,rfl⟩
 rw [← hok]
 have HOK:=Hd hok
 clear hok
 have HB:=Hd hb
 have HZ:=Hd (show z=(bl k.c.n+7) / 8 by rw [← hb]; exact hz)
 have HS72:=Hd (show S.size≤72 by omega)
 have H8:=Hd (show 8*z<9223372036854775808 by omega)
 have HLE:=Hd (show b≤8*z by omega)
 have HSH:=Hd (show 8*z - b≤576 by omega)
 have HTN2:=Hd HTN.out.symm
 clear H HD hG HSD HKD hS hK2 hV hX hb hz hsz hb2 HTN hf hn0 hn
 go_enter Tryz.func34,Tryz.ntmps34
 go_upto_region 1 with fail
 rw [← nZ]
 have m0:=Mem.start1 w (nc 0) 27
 obtain ⟨w1,hw1⟩:∃ w1:World,w1=(w.alloc (.cells (nc 0) 27)):=⟨_,rfl⟩
 rw [← hw1] at m0 ⊢
 clear hw1
 obtain ⟨g,hg⟩:∃ g,g=w.heap.size:=⟨_,rfl⟩
 rw [← hg] at m0 ⊢
 have HG:=Hd hg
 have M:=Hd m0
 clear hg m0
 replace M:=Hd (MC.of M.out (HC.out.up M.out.1))
 go_upto_region 1 with (fail)
 refine wp_region_lit ?_
 refine pL rfl (.func (.func 35) #[.pointer (some ⟨dr,0,none⟩)] #[]) (fun u=>by kernel_rfl) ?_
 refine pL rfl (.pointer (some ⟨c,0,none⟩)) (fun u=>by kernel_rfl) ?_
 refine fL rfl 77 (.func 77) #[.tmp 13] #[70] rfl #[] #[.pointer (some ⟨c,0,none⟩)] (by kernel_rfl) (by kernel_rfl) (fun u=>cE _ _ _ _ u Tryz.func77 (by kernel_rfl) (by kernel_rfl)) (.int .i64 ((z:Nat):Int)) ((HZ.out ▸ curve_bytes k c f d w1 M.out.crv)) (fun w2 hb=>?_)
 have Nw2:=Hd (M.out.grow hb)
 clear hb M
 refine wpList_fnE rfl _ _ _ _ rfl #[.pointer (some ⟨dr,0,none⟩)] #[.int .i64 ((z:Nat):Int),.string ⟨#[]⟩] (by kernel_rfl) (by kernel_rfl) (fun u=>cE _ _ _ _ u Tryz.func35 (by kernel_rfl) (by kernel_rfl)) (T:=Unit) (fun _=>.tuple #[.string S,.int .i64 0]) (fun _ w'=>DrbgAt w' dr id K2 (n+1)∧But dr w2 w') ((HG2.out w2 (grows_at HDR.out Nw2.out.1)).mono fun e w' ⟨h1,h2,h3⟩=>⟨(),h1,h2,h3⟩) ?_
 rintro _ w3 ⟨hd3,hb3⟩
 obtain ⟨wb,hb4,hs4,hq4,hm4⟩:=Nw2.out.rebase hb3 HLT.out HOFF.out.1 HOFF.out.2.1 HOFF.out.2.2
 have HDB:=Hd (show DrbgAt wb dr id K2 (n+1) from hq4.trans hd3)
 have HWB:=Hd hb4
 have M3:=Hd hm4
 clear hd3 hb3 hb4 hq4 hm4 Nw2
 refine pL rfl (.tuple #[.string S,.int .i64 0]) (fun u=>by kernel_rfl) ?_
 refine pL rfl (.string S) (fun u=>by kernel_rfl) ?_
 refine pL rfl (.int .i64 0) (fun u=>by kernel_rfl) ?_
 refine pL rfl (.string S) (fun u=>by kernel_rfl) ?_
 refine pL rfl (.int .i64 0) (fun u=>by kernel_rfl) ?_
 refine wpList_nil ?_
 try simp only [Act.put,s_,t_,u_,v_,x_,y_]
 go_upto_region 2 with (fail)
 refine wp_region_lit ?_
 refine pL rfl (.int .i64 0) (fun u=>by kernel_rfl) ?_
 refine pL rfl (.bool false) (fun u=>by kernel_rfl) ?_
 refine wpList_nil ?_
 try simp only [Act.put,s_,t_,u_,v_,x_,y_]
 go_upto_region 4 with (fail)
 refine wp_region_lit ?_
 refine pL rfl (.string S) (fun u=>by kernel_rfl) ?_
 refine fL rfl 75 (.func 75) #[.tmp 23] #[9] rfl #[] #[.string S] (by kernel_rfl) (by kernel_rfl) (fun u=>cE _ _ _ _ u Tryz.func75 (by kernel_rfl) (by kernel_rfl)) (.tuple #[.agg (nc V),.int .i64 0]) ((HV.out ▸ nat_of S w3 HS72.out)) (fun w3 hb=>?_)
 have Nw3:=Hd (M3.out.grow hb)
 clear hb M3
 refine pL rfl (.tuple #[.agg (nc V),.int .i64 0]) (fun u=>by kernel_rfl) ?_
 refine pL rfl (.agg (nc V)) (fun u=>by kernel_rfl) ?_
 refine pL rfl (.int .i64 0) (fun u=>by kernel_rfl) ?_
 refine nL rfl 27 rfl (.agg (nc 0)) (by rw [nZ]; kernel_rfl) ?_
 intro y w4 hx hx2 hgv hh
 have Nw4:=Hd (show MC wb w4 [(g,nc 0,27),(y,nc 0,27)] c f d k.c from Nw3.out.new hgv (Nat.le_of_eq hx) hh)
 clear hx hx2 hgv hh Nw3
 refine sB rfl 27 (.tmp 9) (.tmp 25) rfl y (by kernel_rfl) _ _ (nc V) (by kernel_rfl) (Nw4.out.at 1 rfl) (by rw [nS]; kernel_rfl) (by simp only [nS]) (nO _) ?_
 intro w5 hw hb hs
 have Nw5:=Hd (Nw4.out.store 1 rfl hb hs hw)
 clear hw hb hs Nw4
 refine pL rfl (.int .i64 0) (fun u=>by kernel_rfl) ?_
 refine wpList_nil ?_
 try simp only [Act.put,s_,t_,u_,v_,x_,y_]
 go_upto_region 5 with (fail)
 have D6:=Hd (Nw5.out.drew)
 clear Nw5
 refine rGw 14 14 (by kernel_rfl) (by kernel_rfl) (fun d v c a w h=>by cases d <;> exact h) ?_
 simp only [List.take_succ_cons,List.take_zero]
 refine lG rfl (.tmp 9) rfl y (by kernel_rfl) (fun u hu=>D6.out.up 1 rfl hu) ?_
 refine pG rfl (.pointer (some ⟨c,0,none⟩)) (fun u=>by kernel_rfl) ?_
 refine fG rfl 77 (.func 77) #[.tmp 29] #[70] rfl #[] #[.pointer (some ⟨c,0,none⟩)] (by kernel_rfl) (by kernel_rfl) (fun u=>cE _ _ _ _ u Tryz.func77 (by kernel_rfl) (by kernel_rfl)) (.int .i64 ((z:Nat):Int)) (fun u hu=>by (rw [HZ.out]; exact curve_bytes k c f d u (D6.out.crv.up hu))) ?_
 refine pG rfl (.int .i64 ((8*z:Nat):Int)) (fun u=>by exact run_bini _ _ _ _ _ rfl ((8:Nat):Int) (z:Int) (by kernel_rfl) (by kernel_rfl) (bi_mul _ H8.out) u) ?_
 refine pG rfl (.pointer (some ⟨c,0,none⟩)) (fun u=>by kernel_rfl) ?_
 refine pG rfl (.pointer (some ⟨c,0,none⟩)) (fun u=>by kernel_rfl) ?_
 refine pG rfl (.pointer (some ⟨c,0,none⟩)) (fun u=>by kernel_rfl) ?_
 refine pG rfl (.pointer (some ⟨c,56,none⟩)) (fun u=>by kernel_rfl) ?_
 refine wpGrow_load_cell rfl 3 (.tmp 35) rfl c 56 (by kernel_rfl) (.int .i64 (b:Int)) _ Tryz.underlying3 rfl (fun u hu=>(cO (grows_at D6.out.crv.2.2 hu) 56).trans (by rw [HB.out]; exact cuc_bits _ _)) ?_
 refine pG rfl (.int .i64 ((8*z - b:Nat):Int)) (fun u=>by exact run_bini _ _ _ _ _ rfl ((8*z:Nat):Int) (b:Int) (by kernel_rfl) (by kernel_rfl) (bi_sub _ HLE.out H8.out) u) ?_
 refine fG rfl 76 (.func 76) #[.tmp 28,.tmp 37] #[27,3] rfl #[] #[.agg (nc V),.int .i64 ((8*z - b:Nat):Int)] (by kernel_rfl) (by kernel_rfl) (fun u=>cE _ _ _ _ u Tryz.func76 (by kernel_rfl) (by kernel_rfl)) (.tuple #[.agg (nc X),.int .i64 0]) (fun u hu=>by exact HTN2.out ▸ nat_shr V (8*z - b) u V9.out HSH.out) ?_
 refine pG rfl (.tuple #[.agg (nc X),.int .i64 0]) (fun u=>by kernel_rfl) ?_
 refine pG rfl (.agg (nc X)) (fun u=>by kernel_rfl) ?_
 refine pG rfl (.int .i64 0) (fun u=>by kernel_rfl) ?_
 refine gN ?_
 try simp only [Act.put,s_,t_,u_,v_,x_,y_]
 refine gS (rs:=[14]) (by kernel_rfl) (by decide) (fun w7 hg6=>?_)
 have Nw7:=Hd (D6.out.grow hg6)
 clear hg6 D6
 refine wpAny_ready (rs:=[14]) (by kernel_rfl) (by simp) ?_
 refine AllReady.cons rfl (fun K hK=>?_) AllReady.nil
 refine sK rfl 27 (.tmp 9) (.tmp 39) rfl y rfl _ _ _ rfl (Nw7.out.at 1 rfl) (by rw [nS]; kernel_rfl) (by simp only [nS]) (nO _) (fun w8 hw hb hs=>hK _ _ ?_)
 have Nw8:=Hd (Nw7.out.store 1 rfl hb hs hw)
 clear hK hw hb hs Nw7
 try simp only [Act.put,s_,t_,u_,v_,x_,y_]
 refine wpAny_done (by kernel_rfl) ?_ _
 try simp only [Act.put,s_,t_,u_,v_,x_,y_]
 go_upto_region 6 with (fail)
 have D9:=Hd (Nw8.out.drew)
 clear Nw8
 refine wp_region_growT 4 4 (by kernel_rfl) (by kernel_rfl) (fun d v c a w h=>by cases d <;> exact h) ?_
 simp only [List.take_succ_cons,List.take_zero]
 refine lG rfl (.tmp 9) rfl y (by kernel_rfl) (fun u hu=>D9.out.up 1 rfl hu) ?_
 refine pG rfl (.pointer (some ⟨c,0,none⟩)) (fun u=>by kernel_rfl) ?_
 refine lG rfl (.tmp 9) rfl y (by kernel_rfl) (fun u hu=>D9.out.up 1 rfl hu) ?_
 refine fG rfl 31 (.func 31) #[.tmp 42,.tmp 43] #[70,27] rfl #[] #[.pointer (some ⟨c,0,none⟩),.agg (nc X)] (by kernel_rfl) (by kernel_rfl) (fun u=>cE _ _ _ _ u Tryz.func31 (by kernel_rfl) (by kernel_rfl)) (.bool ok) (fun u hu=>by exact HOK.out ▸ curve_key k c f d X u X9.out (D9.out.crv.up hu)) ?_
 refine gN ?_
 try simp only [Act.put,s_,t_,u_,v_,x_,y_]
 refine gS (rs:=[4]) (by kernel_rfl) (by decide) (fun w10 hg6=>?_)
 have Nw10:=Hd (D9.out.grow hg6)
 clear hg6 D9
 refine wpAny_ready (rs:=[4]) (by kernel_rfl) (by simp) ?_
 refine AllReady.cons rfl (fun K hK=>?_) AllReady.nil
 refine sK rfl 27 (.tmp 4) (.tmp 41) rfl g rfl _ _ _ rfl (Nw10.out.at 0 rfl) (by rw [nS]; kernel_rfl) (by simp only [nS]) (nO _) (fun w11 hw hb hs=>hK _ _ ?_)
 have Nw11:=Hd (Nw10.out.store 0 rfl hb hs hw)
 clear hK hw hb hs Nw10
 try simp only [Act.put,s_,t_,u_,v_,x_,y_]
 refine wpAny_ready (rs:=[5]) (by kernel_rfl) (by simp) ?_
 refine AllReady.cons rfl (fun K hK=>?_) AllReady.nil
 go_simp
 refine hK _ _ ?_
 clear hK
 try simp only [Act.put,s_,t_,u_,v_,x_,y_]
 refine wpAny_ready (rs:=[6]) (by kernel_rfl) (by simp) ?_
 refine AllReady.cons rfl (fun K hK=>?_) AllReady.nil
 go_simp
 refine hK _ _ ?_
 clear hK
 try simp only [Act.put,s_,t_,u_,v_,x_,y_]
 refine wpAny_done (by kernel_rfl) ?_ _
 try simp only [Act.put,s_,t_,u_,v_,x_,y_]
 go_wp2_with (fail)
 refine bodyPost_ret (results_N3 rfl _ _ g _ _ _ _ _ rfl rfl rfl (Nw11.out.at 0 rfl)) rfl ⟨rfl,(Nw11.out.below.block dr (lt_of HDB.out)).trans HDB.out,HWB.out.trans (But.of_below Nw11.out.below)⟩
end Go.Proofs.YtkoonhiplicbkaaGreat.Cw
