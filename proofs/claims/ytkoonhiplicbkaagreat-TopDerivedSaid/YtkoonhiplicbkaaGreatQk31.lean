/-
  (package window) Digits: a number cut into digits, the highest first. Condition: digits of 1 to 6 bits, a number below 2^bits, at most 576 bits.
  (package mult) Times: a number times the point of a table, four bits at a time. Condition: multiples of G of one of the 15 curves, a number of at most as many bits as N has.
-/
import Derived.Test.YtkoonhiplicbkaaGreatQk28
import Derived.Test.YtkoonhiplicbkaaGreatQk22
import Derived.Test.YtkoonhiplicbkaaGreatQk27
import Derived.Test.YtkoonhiplicbkaaGreatQk30
set_option linter.unusedSimpArgs false
set_option linter.unusedVariables false
set_option maxHeartbeats 4000000
set_option maxRecDepth 100000
namespace Go.Proofs.YtkoonhiplicbkaaGreat.Cw
open Go Go.RowKit
def dgt (d x q:Nat):Nat:=d / 2 ^ (q*x)%2 ^ x
def dgs (d x c:Nat):Nat→List Value
  | 0=>[]
  | n+1=>dgs d x c n++[.int .i64 ((dgt d x (c - 1 - n):Nat):Int)]
theorem dgs_len (d x c:Nat):∀ n,(dgs d x c n).length=n
  | 0=>rfl
  | n+1=>by simp [dgs,dgs_len d x c n]
theorem dgs_get (d x c:Nat):∀ n i,i<n→(dgs d x c n)[i]?=some (.int .i64 ((dgt d x (c - 1 - i):Nat):Int))
  | 0,i,h=>by omega
  | n+1,i,h=>by
    rcases Nat.lt_or_ge i n with h1 | h1
    · rw [dgs,List.getElem?_append_left (by rw [dgs_len]; exact h1),dgs_get d x c n i h1]
    · obtain rfl:i=n:=by omega
      rw [dgs,List.getElem?_append_right (by rw [dgs_len]; omega),dgs_len]
      simp
def cntD (b x:Nat):Nat:=(b+x - 1) / x
theorem dgt_lt (d x q:Nat):dgt d x q<2 ^ x:=Nat.mod_lt _ (Nat.two_pow_pos x)
theorem cnt_le {b x:Nat} (hx:0<x) (hb:0<b):1≤cntD b x∧(cntD b x - 1)*x≤b - 1∧b≤cntD b x*x:=by
  unfold cntD
  have h:=Nat.div_add_mod (b+x - 1) x
  have h2:=Nat.mod_lt (b+x - 1) hx
  have h3:1≤(b+x - 1) / x:=(Nat.le_div_iff_mul_le hx).2 (by omega)
  generalize (b+x - 1) / x=c at *
  generalize (b+x - 1)%x=r at *
  obtain ⟨e,rfl⟩:∃ e,c=e+1:=⟨c - 1,by omega⟩
  rw [Nat.mul_comm x (e+1),Nat.add_mul,Nat.one_mul] at h
  rw [Nat.add_sub_cancel,Nat.add_mul,Nat.one_mul]
  exact ⟨h3,by omega,by omega⟩
theorem info_int:∃ ie,Tryz.prog.info? 3=some ie∧ie.zero=some (.int .i64 0)∧ie.size=1∧ie.bytes=8:=by
  have h:(Tryz.prog.info? 3).map (fun i=>(i.zero,i.size,i.bytes))=some (some (.int .i64 0),1,8):=by kernel_rfl
  obtain ⟨ie,h1,h2⟩:=Option.map_eq_some_iff.1 h
  injection h2 with h3 h4
  injection h4 with h5 h6
  exact ⟨ie,h1,h3,h5,h6⟩
theorem run_wn {P:Program} {ρ:Operand→Value} {o:Oper} {v:Value} (op:BinOp) (t t2:TypeId) (x y:Operand) (ho:o.op=.binOp op t x y t2) (p:Nat) (b:Value) (hx:ρ x=wn p) (hy:ρ y=b) (h:binOp op t (wn p) b=pure v) (u:World):(execOp ρ o).run P u=.ok (.value v) u:=by
  obtain ⟨d,op,type,pos,after,guard⟩:=o
  subst ho
  simp only [execOp,hx,hy,wn_guard,h,Sem.run_bind,Sem.run_pure,Result.andThen_ok]
theorem dgt_and (d x q:Nat) (hx:x≤6):dig (d / 2 ^ (q*x)) 0 &&& (2 ^ x - 1)=dgt d x q:=by
  rw [Nat.and_two_pow_sub_one_eq_mod]
  have e:dig (d / 2 ^ (q*x)) 0=d / 2 ^ (q*x)%2 ^ 64:=by simp [dig,pw]
  rw [e,Nat.mod_mod_of_dvd _ (Nat.pow_dvd_pow 2 (show x≤64 by omega))]; rfl
theorem wpN_loadG {ops:Array Oper} {rest:List Oper} {o:Oper} {a:Act} {w:World} {Q:Exit→Act→World→Prop} (hwt:Region.wanted o (yielded ops a.tmps)=true) (x:Operand) (ho:o.op=.load 27 x) (g:Nat) (hx:a.eval x=.pointer (some ⟨g,0,none⟩)) {t:TypeId} {fr:Nat × Nat} {n:Nat} (hg:w.heap[g]?=some (.cells (nc n) t fr))
    (h:wpList Tryz.prog ops Q rest (a.put o.dst (.agg (nc n))) w):wpList Tryz.prog ops Q (o::rest) a w:=by
  unfold wpList
  rw [if_pos hwt]
  refine .inl ?_
  exact wp_load_seg 27 x ho g 0 9 hx t (nc n) (nc n) fr _ hg Tryz.underlying27 rfl (by kernel_rfl) (nS n) (fun j _=>by rw [Nat.zero_add]) h
attribute [local irreducible] pc ptc nc ac cuc fc
attribute [local go_sem ↓ high] wn_eql wn_neq wn_lss wn_gtr wn_leq wn_geq wn_cells wRS wn_guard lit0 lit1
attribute [local go_sem high] wn_match wRS wn_eql wn_neq wn_lss wn_gtr wn_leq wn_geq
theorem window_wide (x:Nat) (h1:1≤x) (h2:x≤6) (w:World):Calls Tryz.prog 131 #[.int .i64 x] w fun e w'=>e=.returned (.bool true)∧Below w.heap.size w w':=by
  go_enter Tryz.func131,Tryz.ntmps131
  have d1:decide ((x:Int)≥1)=true:=decide_eq_true (by omega)
  have d2:decide ((x:Int)≤6)=true:=decide_eq_true (by omega)
  go_wp2
  all_goals first
    | (exfalso; omega)
    | (go_ret; exact ⟨rfl,Below.refl _ _⟩)
theorem window_digits (d b x:Nat) (w:World) (hd:d<2 ^ b) (hb1:1≤b) (hb2:b≤576) (hx1:1≤x) (hx2:x≤6):Calls Tryz.prog 108 #[.agg (nc d),.int .i64 b,.int .i64 x] w fun e w'=>∃ v,e=.returned (.tuple #[v,.int .i64 0])∧Ow w' w.heap.size 3 1 v (cntD b x) (dgs d x (cntD b x) (cntD b x))∧Below w.heap.size w w':=by
  have hd9:d<pw 9:=Nat.lt_of_lt_of_le hd (Nat.le_trans (Nat.pow_le_pow_right Nat.zero_lt_two hb2) (Nat.le_of_eq pw_nine.symm))
  have hblb:bl d≤b:=by
    rcases Nat.eq_zero_or_pos d with h0 | h0
    · rw [h0]; exact Nat.zero_le _
    · have h1:=bl_ge d (by omega)
      have h2:=(Nat.pow_lt_pow_iff_right (by decide:1<2)).1 (Nat.lt_of_le_of_lt h1 hd)
      omega
  obtain ⟨hc1,hc2,hc3⟩:=cnt_le (b:=b) (x:=x) (by omega) (by omega)
  have HD9:=Hd hd9
  have HX1:=Hd hx1
  have HX2:=Hd hx2
  have HDB:=Hd hd
  have HC2:=Hd hc2
  have HB2:=Hd hb2
  obtain ⟨ie,hie⟩:=info_int
  have HIE:=Hd hie
  have d1:decide ((b:Int)<1)=false:=decide_eq_false (by omega)
  have d2:decide ((b:Int)>576)=false:=decide_eq_false (by omega)
  have d3:decide ((bl d:Int)>b)=false:=decide_eq_false (by omega)
  obtain ⟨c,hc⟩:∃ c,c=cntD b x:=⟨_,rfl⟩
  rw [← hc]
  rw [← hc] at hc1 HC2
  have HCC:=Hd (show (b+x - 1) / x=c from hc.symm)
  have HC1:=Hd hc1
  have HCB:=Hd (show c≤576 by have:=Nat.le_mul_of_pos_right (c - 1) (show 0<x by omega); have:=HC2.out; omega)
  clear hd hd9 hc2 hc3 hie hc hx1 hx2
  go_enter Tryz.func108,Tryz.ntmps108
  go_upto_region 1 with fail
  have m0:=Mem.start1 w (nc d) 27
  obtain ⟨w1,hw1⟩:∃ w1:World,w1=(w.alloc (.cells (nc d) 27)):=⟨_,rfl⟩
  rw [← hw1] at m0 ⊢
  clear hw1
  obtain ⟨g,hg⟩:∃ g,g=w.heap.size:=⟨_,rfl⟩
  rw [← hg] at m0 ⊢
  have HG:=Hd hg
  have M:=Hd m0
  clear hg m0
  go_upto_region 3 with (first
    | (go_at_call 131; refine (window_wide x HX1.out HX2.out w1).mono ?_; rintro e w2 ⟨rfl,hb⟩; have M2:=Hd (show Mem w w2 [(g,nc d,27)] from M.out.grow hb); clear hb M)
    | (refine wpN_loadG rfl (.tmp 3) rfl g rfl (M2.out.at 0 rfl) ?_)
    | (go_at_call 72; refine (nat_bits d w2 HD9.out).mono ?_; rintro e w3 ⟨rfl,hb⟩; have M3:=Hd (show Mem w w3 [(g,nc d,27)] from M2.out.grow hb); clear hb M2))
  go_upto_region 4 with (fail)
  have hx1:=HX1.out
  have hx2:=HX2.out
  have hc1:=HC1.out
  have hcb:=HCB.out
  refine wp_region_lit ?_
  refine pK (.int .i64 (b:Int)) ?_
  refine pK (.int .i64 (x:Int)) ?_
  try simp only [Act.put,s_,t_,u_,v_,x_,y_]
  refine pL rfl (.int .i64 ((b+x:Nat):Int)) (fun u=>by exact run_bini _ _ _ _ _ rfl ((b:Int)) ((x:Int)) (by kernel_rfl) (by kernel_rfl) (bi_add _ (by omega)) u) ?_
  try simp only [Act.put,s_,t_,u_,v_,x_,y_]
  refine pL rfl (.int .i64 ((b+x - 1:Nat):Int)) (fun u=>by exact run_bini _ _ _ _ _ rfl (((b+x:Nat):Int)) (((1:Nat):Int)) (by kernel_rfl) (by kernel_rfl) (bi_sub _ (by omega) (by omega)) u) ?_
  refine pK (.int .i64 (x:Int)) ?_
  try simp only [Act.put,s_,t_,u_,v_,x_,y_]
  refine pL rfl (.int .i64 ((c:Nat):Int)) (fun u=>by exact run_bini _ _ _ _ _ rfl (((b+x - 1:Nat):Int)) ((x:Int)) (by kernel_rfl) (by kernel_rfl) ((bi_quo _ (by omega) (by omega)).trans (by rw [HCC.out])) u) ?_
  try simp only [Act.put,s_,t_,u_,v_,x_,y_]
  refine pL rfl (.int .i64 ((c - 1:Nat):Int)) (fun u=>by exact run_bini _ _ _ _ _ rfl ((c:Int)) (((1:Nat):Int)) (by kernel_rfl) (by kernel_rfl) (bi_sub _ (by omega) (by omega)) u) ?_
  refine pK (.int .i64 ((c - 1:Nat):Int)) ?_
  refine wpList_nil ?_
  try simp only [Act.put,s_,t_,u_,v_,x_,y_]
  have MO1:=Hd (MO.start (e:=3) (size:=1) M3.out)
  clear M3
  go_upto_region 5 with (fail)
  go_loopw [9,8] (fun iv vv wr=>∃ (n:Nat) (v:Value),n≤c∧iv=.int .i64 ((c:Int) - 1 - n)∧v=vv∧MO 3 1 w wr [(g,nc d,27)] v n (dgs d x c n)) (fun iv _ _=>(intOf iv+1).toNat)
  case atStart=>exact ⟨0,_,Nat.zero_le _,by go_num,rfl,MO1.out⟩
  case round=>
    obtain ⟨n,v,hn,rfl,rfl,hm⟩:=hrel
    have M:=Hd hm
    clear hm MO1
    by_cases hlt:n<c
    · skip
      obtain ⟨q,hq⟩:∃ q,q=c - 1 - n:=⟨_,rfl⟩
      have e1:(c:Int) - 1 - n=(q:Int):=by omega
      rw [e1]
      have hqx:q*x≤575:=Nat.le_trans (Nat.mul_le_mul_right x (show q≤c - 1 by omega)) (by have:=HC2.out; omega)
      have HQX:=Hd hqx
      have HQ:=Hd hq
      have HN:=Hd hlt
      have hq5:q≤575:=by omega
      have dl:decide ((q:Int)≥0)=true:=decide_eq_true (by omega)
      have HMX:=Hd (show q*x<9223372036854775808 by omega)
      clear hqx e1
      go_upto_region 7 with (fail)
      refine wp_region_lit ?_
      refine l0N rfl (.tmp 3) rfl g (by kernel_rfl) (M.out.at 0 rfl) ?_
      refine pK (.int .i64 ((q:Nat):Int)) ?_
      refine pK (.int .i64 (x:Int)) ?_
      try simp only [Act.put,s_,t_,u_,v_,x_,y_]
      refine pL rfl (.int .i64 ((q*x:Nat):Int)) (fun u=>by exact run_bini _ _ _ _ _ rfl ((q:Int)) ((x:Int)) (by kernel_rfl) (by kernel_rfl) (bi_mul _ HMX.out) u) ?_
      try simp only [Act.put,s_,t_,u_,v_,x_,y_]
      refine pL rfl (.int .i64 ((q*x:Nat):Int)) (fun u=>by exact run_min _ _ _ _ rfl (q*x) 576 (by kernel_rfl) (by kernel_rfl) (by have:=HQX.out; omega) u) ?_
      refine fL rfl 76 (.func 76) #[.tmp 41,.tmp 45] #[27,3] rfl #[] #[.agg (nc d),.int .i64 ((q*x:Nat):Int)] (by kernel_rfl) (by kernel_rfl) (fun u=>cE _ _ _ _ u Tryz.func76 (by kernel_rfl) (by kernel_rfl)) (.tuple #[.agg (nc (d / 2 ^ (q*x))),.int .i64 0]) (nat_shr d (q*x) wr HD9.out (by have:=HQX.out; omega)) (fun w2 hb=>?_)
      have Nw2:=Hd (show MO 3 1 w w2 [(g,nc d,27)] v n (dgs d x c n) from M.out.grow hb)
      clear hb M
      refine pK (.tuple #[.agg (nc (d / 2 ^ (q*x))),.int .i64 0]) ?_
      refine pK (.agg (nc (d / 2 ^ (q*x)))) ?_
      refine pK (.int .i64 0) ?_
      refine nL rfl 27 rfl (.agg (nc 0)) (by rw [nZ]; kernel_rfl) ?_
      intro xd w3 hx hx2 hgv hh
      have Nw3:=Hd (show MO 3 1 w w3 [(g,nc d,27),(xd,nc 0,27)] v n (dgs d x c n) from Nw2.out.new hgv (Nat.le_of_eq hx) hh)
      clear hx hx2 hgv hh Nw2
      refine sB rfl 27 (.tmp 10) (.tmp 47) rfl xd (by kernel_rfl) _ _ (nc (d / 2 ^ (q*x))) (by kernel_rfl) (Nw3.out.at 1 rfl) (by rw [nS]; kernel_rfl) (by simp only [nS]) (nO _) ?_
      intro w4 hw hb hs
      have Nw4:=Hd (show MO 3 1 w w4 [(g,nc d,27),(xd,nc (d / 2 ^ (q*x)),27)] v n (dgs d x c n) from Nw3.out.store 1 rfl hb hs hw)
      clear hw hb hs Nw3
      refine pK (.int .i64 0) ?_
      refine wpList_nil ?_
      try simp only [Act.put,s_,t_,u_,v_,x_,y_]
      go_upto_region 8 with (fail)
      have D:=Hd (Nw4.out.drew)
      clear Nw4
      have hC:∀ u:World,MO 3 1 w u [(g,nc d,27),(xd,nc (d / 2 ^ (q*x)),27)] v n (dgs d x c n)→Mem w u [(g,nc d,27),(xd,nc (d / 2 ^ (q*x)),27)]:=fun u h=>h.m
      refine wp_region_cls (C:=(fun u=>Mem w u [(g,nc d,27),(xd,nc (d / 2 ^ (q*x)),27)])) (fun u u2 hu hg=>Mem.grow hu hg) [0,1,2,3,4,5,6,7,8] (hC _ D.out) (by kernel_rfl) (by kernel_rfl) (fun d v c a w h=>by cases d <;> exact h) ?_
      simp only [pickOps,List.filterMap_cons,List.filterMap_nil,List.getElem?_cons_succ,List.getElem?_cons_zero]
      have h2x:1*2 ^ x%18446744073709551616=2 ^ x∧subW (2 ^ x) 1=2 ^ x - 1∧2 ^ x - 1<18446744073709551616∧2 ^ x≤64:=by
        obtain rfl | rfl | rfl | rfl | rfl | rfl:x=1∨x=2∨x=3∨x=4∨x=5∨x=6:=by omega
        all_goals decide
      have H2X:=Hd h2x
      clear h2x
      refine pE rfl v (fun u=>by kernel_rfl) ?_
      refine eK (.pointer (some ⟨xd,0,none⟩)) ?_
      refine eK (.pointer (some ⟨xd,0,none⟩)) ?_
      refine wpE_load_cell rfl 24 (.tmp 51) rfl xd 0 (by kernel_rfl) (wn (dig (d / 2 ^ (q*x)) 0)) _ Tryz.underlying24 rfl (fun u hu=>(cO (Mem.at hu 1 rfl) 0).trans (nc_get _ 0 (by decide))) ?_
      refine eK (.int .i64 (x:Int)) ?_
      refine pE rfl (wn (2 ^ x)) (fun u=>by exact run_wn _ _ _ _ _ rfl 1 (.int .i64 (x:Int)) (by kernel_rfl) (by kernel_rfl) ((wn_shl _ 1 .i64 x).trans (by rw [H2X.out.1])) u) ?_
      refine pE rfl (wn (2 ^ x - 1)) (fun u=>by exact run_wn _ _ _ _ _ rfl (2 ^ x) (wn 1) (by kernel_rfl) (by kernel_rfl) (by rw [wn_sub,H2X.out.2.1]) u) ?_
      refine pE rfl (wn (dgt d x q)) (fun u=>by exact run_wn _ _ _ _ _ rfl (dig (d / 2 ^ (q*x)) 0) (wn (2 ^ x - 1)) (by kernel_rfl) (by kernel_rfl) (by rw [wn_and _ _ _ (dig_lt _ _) H2X.out.2.2.1,dgt_and d x q HX2.out]) u) ?_
      refine pE rfl (.int .i64 ((dgt d x q:Nat):Int)) (fun u=>by exact conv_int 24 3 (.tmp 56) rfl (dgt d x q) (by kernel_rfl) (by have:=dgt_lt d x q; have:=H2X.out.2.2.2; omega) Tryz.underlying24 Tryz.underlying3 u) ?_
      refine wpE_nil ?_
      try simp only [Act.put,s_,t_,u_,v_,x_,y_]
      refine ready_E (rs:=[9]) (by kernel_rfl) (by simp) (fun u hgB=>?_)
      have N1:=Hd (D.out.grow hgB)
      clear D
      clear hgB
      refine EAll.cons rfl (fun K hK=>step_slice1 rfl 64 3 (.tmp 57) rfl (.int .i64 ((dgt d x q:Nat):Int)) rfl ie (.int .i64 0) 1 (by decide) (by decide) Tryz.underlying64 HIE.out.1 HIE.out.2.1 HIE.out.2.2.1 rfl rfl (fun y u1 _ _ hgy hy=>hK _ _ (hC _ (N1.out.grow hgy)) ?_)) EAll.nil
      try simp only [Act.put,s_,t_,u_,v_,x_,y_]
      have N2:=Hd (N1.out.grow hgy)
      clear hgy N1
      refine ready_E (rs:=[10]) (by kernel_rfl) (by simp) (fun u hgB=>?_)
      have N3:=Hd (N2.out.grow hgB)
      clear N2
      have hy2:=grows_at hy hgB
      clear hgB
      refine EAll.cons rfl (fun K hK=>step_app1 rfl (.tmp 49) (.tmp 58) 64 rfl 3 ie (.int .i64 0) 1 8 Tryz.underlying64 HIE.out.1 HIE.out.2.1 HIE.out.2.2.1 HIE.out.2.2.2 rfl v n (dgs d x c n) N3.out (by kernel_rfl) y (by kernel_rfl) #[.int .i64 ((dgt d x q:Nat):Int)] hy2 rfl (by intro u hu; simp at hu; subst hu; rfl) (by have:=HCB.out; have:=HN.out; omega) (by have:=HCB.out; have:=HN.out; simp only [maxLen]; omega) (fun v2 u2 M2=>hK _ _ M2.m ?_)) EAll.nil
      try simp only [Act.put,s_,t_,u_,v_,x_,y_]
      have N4:=Hd M2
      clear M2 N3
      refine ready_E (rs:=[11]) (by kernel_rfl) (by simp) (fun u hgB=>?_)
      have N5:=Hd (N4.out.grow hgB)
      clear N4
      clear hgB
      refine EAll.cons rfl (fun K hK=>step_pure rfl v2 (fun u=>by kernel_rfl) (hK _ _ N5.out.m ?_)) EAll.nil
      try simp only [Act.put,s_,t_,u_,v_,x_,y_]
      refine done_E (by kernel_rfl) (fun u9 hgB=>?_)
      have N6:=Hd ((N5.out.grow hgB).take 1)
      clear hgB N5
      go_wp2_with (fail)
      go_roundw
      case rel=>exact ⟨n+1,v2,by have:=HN.out; omega,by have:=HQ.out; have:=HN.out; go_num,rfl,by have h:=N6.out; rw [HQ.out] at h; exact h⟩
      case measure=>have:=HQ.out; have:=HN.out; simp [intOf]; omega
    · obtain rfl:n=c:=by omega
      have dl:decide (((n:Int) - 1 - n)≥0)=false:=decide_eq_false (by omega)
      go_wp2_with (fail)
      exact bodyPost_ret (results_tmp2 rfl _ _ _) rfl ⟨v,rfl,M.out.o,M.out.below⟩
end Go.Proofs.YtkoonhiplicbkaaGreat.Cw
set_option maxHeartbeats 4000000
set_option maxRecDepth 100000
namespace Go.Proofs.YtkoonhiplicbkaaGreat.Cw
open Go Go.RowKit
def preT (d c i:Nat):Nat:=d / 2 ^ ((c - i)*4)
theorem pre_zero {d b:Nat} (hd:d<2 ^ b) (hb:0<b):preT d (cntD b 4) 0=0:=by
 unfold preT
 obtain ⟨_,_,h⟩:=cnt_le (b:=b) (x:=4) (by decide) hb
 exact Nat.div_eq_of_lt (Nat.lt_of_lt_of_le hd (Nat.pow_le_pow_right (by decide) (by rw [Nat.sub_zero]; exact h)))
theorem pre_all (d c:Nat):preT d c c=d:=by simp [preT]
theorem pre_succ (d c i:Nat) (h:i<c):preT d c (i+1)=16*preT d c i+dgt d 4 (c - 1 - i):=by
 unfold preT dgt
 rw [show (c - i)*4=(c - 1 - i)*4+4 by omega,show (c - (i+1))*4=(c - 1 - i)*4 by omega,Nat.pow_add,← Nat.div_div_eq_div_mul]
 have:=Nat.div_add_mod (d / 2 ^ ((c - 1 - i)*4)) (2 ^ 4)
 omega
attribute [local irreducible] pc ptc nc ac cuc fc gpt
attribute [local go_sem ↓ high] wn_eql wn_neq wn_lss wn_gtr wn_leq wn_geq wn_cells wRS wn_guard lit0 lit1
attribute [local go_sem high] wn_match wRS wn_eql wn_neq wn_lss wn_gtr wn_leq wn_geq
theorem mult_times (k:CK) (c f d t n m:Nat) (w:World) (hn:n<2 ^ bl k.c.n) (hb1:1≤bl k.c.n) (hb2:bl k.c.n≤576) (H:CurveAt w c f d k.c) (HT:TabAt k w t m 16):Calls Tryz.prog 78 #[.pointer none,.pointer (some ⟨c,0,none⟩),.agg (nc n),.pointer (some ⟨t,0,none⟩)] w fun e w'=>e=.returned (.agg (gpt k (n*m)))∧Below w.heap.size w w':=by
 have HC:=Hd H
 have HTB:=Hd HT
 have HNB:=Hd hn
 have HNN:=Hd (rp_none k)
 obtain ⟨b,hb⟩:∃ b,b=bl k.c.n:=⟨_,rfl⟩
 rw [← hb] at hb1 hb2 HNB
 have HBB:=Hd hb
 have HCB:=Hd H.2.2
 have HB1:=Hd hb1
 have HB2:=Hd hb2
 clear H HT hn hb
 go_enter Tryz.func78,Tryz.ntmps78
 go_upto_region 1 with fail
 rw [← ptc_zero]
 have m0:=Mem.start2 w (nc n) (ptc 0 0 false) 27 41
 obtain ⟨w1,hw1⟩:∃ w1:World,w1=((w.alloc (.cells (nc n) 27)).alloc (.cells (ptc 0 0 false) 41)):=⟨_,rfl⟩
 rw [← hw1] at m0 ⊢
 clear hw1
 obtain ⟨g,hg⟩:∃ g,g=w.heap.size:=⟨_,rfl⟩
 rw [← hg] at m0 ⊢
 have HG:=Hd hg
 have M:=Hd m0
 clear hg m0
 go_upto_region 1 with (fail)
 have D:=Hd (M.out.drew)
 clear M
 refine wp_region_cls (C:=(fun u=>Mem w u [(g,nc n,27),(g+1,ptc 0 0 false,41)])) (fun u u2 hu hg=>Mem.grow hu hg) [0,1,2,3,4,5] D.out (by kernel_rfl) (by kernel_rfl) (fun d v c a w h=>by cases d <;> exact h) ?_
 simp only [pickOps,List.filterMap_cons,List.filterMap_nil,List.getElem?_cons_succ,List.getElem?_cons_zero]
 refine wpE_loadN rfl (.tmp 6) rfl g 0 (by kernel_rfl) n (fun u hu=>⟨_,_,_,Mem.at hu 0 rfl,fun j hj=>by rw [Nat.zero_add]; exact nc_get _ j hj⟩) ?_
 refine eK (.pointer (some ⟨c,0,none⟩)) ?_
 refine eK (.pointer (some ⟨c,0,none⟩)) ?_
 refine eK (.pointer (some ⟨c,0,none⟩)) ?_
 refine eK (.pointer (some ⟨c,56,none⟩)) ?_
 refine wpE_load_cell rfl 3 (.tmp 21) rfl c 56 (by kernel_rfl) (.int .i64 (b:Int)) _ Tryz.underlying3 rfl (fun u hu=>by rw [cO (grows_at HCB.out hu.1),cuc_bits,HBB.out]) ?_
 refine wpE_nil ?_
 try simp only [Act.put,s_,t_,u_,v_,x_,y_]
 refine ready_E (rs:=[6]) (by kernel_rfl) (by simp) (fun u hgB=>?_)
 have N1:=Hd (D.out.grow hgB)
 clear hgB D
 refine EAll.cons rfl (fun K hK=>step_fnE rfl 108 (.func 108) #[.tmp 17,.tmp 22,.const (.int .i64 4)] #[27,3,3] rfl #[] #[.agg (nc n),.int .i64 (b:Int),.int .i64 4] (by kernel_rfl) (by kernel_rfl) (fun u=>cE _ _ _ _ u Tryz.func108 (by kernel_rfl) (by kernel_rfl)) (fun v:Value=>.tuple #[v,.int .i64 0]) (fun v w'=>Ow w' u.heap.size 3 1 v (cntD b 4) (dgs n 4 (cntD b 4) (cntD b 4))∧Below u.heap.size u w') (window_digits n b 4 u HNB.out HB1.out HB2.out (by decide) (by decide)) (fun v u2 hR=>hK _ _ (N1.out.grow hR.2) ?_)) EAll.nil
 try simp only [Act.put,s_,t_,u_,v_,x_,y_]
 have N2:=Hd (MO.join N1.out hR.1 hR.2)
 clear hR N1
 refine more_E (fun u u2 hu hg=>Mem.grow hu hg) [7,8,9,10,11] 0 N2.out.m rfl (by kernel_rfl) (fun d v c a w h=>by cases d <;> exact h) ?_
 simp only [pickOps,List.filterMap_cons,List.filterMap_nil,List.getElem?_cons_succ,List.getElem?_cons_zero]
 refine eK (.tuple #[v,.int .i64 0]) ?_
 refine eK (v) ?_
 refine eK (.int .i64 0) ?_
 refine eK (v) ?_
 refine eK (.int .i64 0) ?_
 refine wpE_nil ?_
 try simp only [Act.put,s_,t_,u_,v_,x_,y_]
 refine done_E (by kernel_rfl) (fun u3 hgB=>?_)
 have N3:=Hd (N2.out.grow hgB)
 clear hgB N2
 try simp only [Act.put,s_,t_,u_,v_,x_,y_]
 obtain ⟨cd,hcd⟩:∃ x,x=cntD b 4:=⟨_,rfl⟩
 rw [← hcd] at N3
 have HCD:=Hd hcd
 clear hcd
 have hcd1:1≤cd:=by rw [HCD.out]; exact (cnt_le (by decide) HB1.out).1
 obtain ⟨gd,cap,rfl,_⟩:=N3.out.o.cell hcd1
 have hcd2:cd≤576:=by have h:=(cnt_le (b:=b) (x:=4) (by decide) HB1.out).2.1; rw [← HCD.out] at h; have:=HB2.out; omega
 go_upto_region 2 with (fail)
 refine wp_region_lit ?_
 refine fL rfl 96 (.func 96) #[] #[] rfl #[] #[] (by kernel_rfl) (by kernel_rfl) (fun u=>cE _ _ _ _ u Tryz.func96 (by kernel_rfl) (by kernel_rfl)) (.agg (pc 0 1 0)) (curve_none u3) (fun w2 hb=>?_)
 have Nw2:=Hd (show MO 3 1 w w2 [(g,nc n,27),(g+1,ptc 0 0 false,41)] (.slice (some ⟨gd,0,none⟩) cd cap) cd (dgs n 4 cd cd) from N3.out.grow hb)
 clear hb N3
 refine nL rfl 111 rfl (.agg (pc 0 0 0)) (by rw [pc_zero]; kernel_rfl) ?_
 intro xo w3 hx hx2 hgv hh
 have Nw3:=Hd (show MO 3 1 w w3 [(g,nc n,27),(g+1,ptc 0 0 false,41),(xo,pc 0 0 0,111)] (.slice (some ⟨gd,0,none⟩) cd cap) cd (dgs n 4 cd cd) from Nw2.out.new hgv (Nat.le_of_eq hx) hh)
 clear hx hx2 hgv hh Nw2
 refine sB rfl 111 (.tmp 11) (.tmp 26) rfl xo (by kernel_rfl) _ _ (pc 0 1 0) (by kernel_rfl) (Nw3.out.at 2 rfl) (by rw [pc_size]; kernel_rfl) (by simp only [pc_size]) (pc_one _ _ _) ?_
 intro w4 hw hb hs
 have Nw4:=Hd (show MO 3 1 w w4 [(g,nc n,27),(g+1,ptc 0 0 false,41),(xo,pc 0 1 0,111)] (.slice (some ⟨gd,0,none⟩) cd cap) cd (dgs n 4 cd cd) from Nw3.out.store 2 rfl hb hs hw)
 clear hw hb hs Nw3
 refine wpList_nil ?_
 try simp only [Act.put,s_,t_,u_,v_,x_,y_]
 go_upto_region 4 with (fail)
 go_loopw [29] (fun iv wr=>∃ (i:Nat) (o:Tri),i≤cd∧iv=.int .i64 (i:Int)∧Rp k o (preT n cd i*m)∧MO 3 1 w wr [(g,nc n,27),(g+1,ptc 0 0 false,41),(xo,pc o.x o.y o.z,111)] (.slice (some ⟨gd,0,none⟩) cd cap) cd (dgs n 4 cd cd)) (fun iv _=>(cd - intOf iv).toNat)
 case atStart=>exact ⟨0,⟨0,1,0⟩,Nat.zero_le _,rfl,by rw [HCD.out,pre_zero HNB.out HB1.out,Nat.zero_mul]; exact HNN.out,Nw4.out⟩
 case round=>
  obtain ⟨i,o,hi,rfl,ho,hm⟩:=hrel
  have M:=Hd hm
  have RO:=Hd ho
  clear hm ho Nw4
  by_cases hlt:i<cd
  ·skip
   have HI:=Hd hlt
   have dl:decide ((i:Int)<cd)=true:=decide_eq_true (by omega)
   obtain ⟨dg,hdg⟩:∃ x,x=dgt n 4 (cd - 1 - i):=⟨_,rfl⟩
   have HDG:=Hd hdg
   clear hdg
   go_upto_region 5 with (fail)
   refine wp_region_lit ?_
   refine pL rfl (.pointer (some ⟨gd,i*1,none⟩)) (idx_slice 64 (.tmp 27) (.tmp 29) rfl gd cd cap i 1 (by kernel_rfl) (by kernel_rfl) HI.out Tryz.underlying64 (by kernel_rfl)) ?_
   refine lC rfl 3 (.tmp 31) rfl gd (i*1) (by kernel_rfl) (.int .i64 (dg:Int)) _ Tryz.underlying3 rfl (by rw [Nat.mul_one,HDG.out]; exact M.out.o.get1 HI.out (dgs_get n 4 cd cd i HI.out)) ?_
   refine pK (.int .i64 (dg:Int)) ?_
   refine wpList_nil ?_
   try simp only [Act.put,s_,t_,u_,v_,x_,y_]
   go_upto_region 7 with (fail)
   go_loopw [33] (fun jv wr2=>∃ (j:Nat) (o2:Tri),j≤4∧jv=.int .i64 (j:Int)∧Rp k o2 (2 ^ j*(preT n cd i*m))∧MO 3 1 w wr2 [(g,nc n,27),(g+1,ptc 0 0 false,41),(xo,pc o2.x o2.y o2.z,111)] (.slice (some ⟨gd,0,none⟩) cd cap) cd (dgs n 4 cd cd)) (fun jv _=>(4 - intOf jv).toNat)
   case atStart=>exact ⟨0,o,by decide,rfl,by rw [Nat.pow_zero,Nat.one_mul]; exact RO.out,M.out⟩
   case round=>
     obtain ⟨j,o2,hj,rfl,ho2,hm⟩:=hrel
     have M2:=Hd hm
     have RO2:=Hd ho2
     clear hm ho2 M
     by_cases hlj:j<4
     ·skip
      have djl:decide ((j:Int)<4)=true:=decide_eq_true (by omega)
      go_upto_region 8 with (fail)
      refine wp_region_lit ?_
      refine pK (.pointer (some ⟨c,0,none⟩)) ?_
      refine lS rfl 111 (.tmp 11) rfl xo 0 27 (by kernel_rfl) _ _ (pc o2.x o2.y o2.z) _ _ (M2.out.at 2 rfl) Tryz.underlying111 rfl (by kernel_rfl) (pc_size _ _ _) (fun j hj=>by rw [Nat.zero_add]) ?_
      refine lS rfl 111 (.tmp 11) rfl xo 0 27 (by kernel_rfl) _ _ (pc o2.x o2.y o2.z) _ _ (M2.out.at 2 rfl) Tryz.underlying111 rfl (by kernel_rfl) (pc_size _ _ _) (fun j hj=>by rw [Nat.zero_add]) ?_
      refine fL rfl 97 (.func 97) #[.tmp 35,.tmp 36,.tmp 37] #[70,111,111] rfl #[] #[.pointer (some ⟨c,0,none⟩),.agg (pc o2.x o2.y o2.z),.agg (pc o2.x o2.y o2.z)] (by kernel_rfl) (by kernel_rfl) (fun u=>cE _ _ _ _ u Tryz.func97 (by kernel_rfl) (by kernel_rfl)) (.agg (pc ((k.c.sum o2 o2).x) ((k.c.sum o2 o2).y) ((k.c.sum o2 o2).z))) (sum_rp k c f d wr RO2.out RO2.out (HC.out.up M2.out.1)) (fun w5 hb=>?_)
      have Nw5:=Hd (show MO 3 1 w w5 [(g,nc n,27),(g+1,ptc 0 0 false,41),(xo,pc o2.x o2.y o2.z,111)] (.slice (some ⟨gd,0,none⟩) cd cap) cd (dgs n 4 cd cd) from M2.out.grow hb)
      clear hb M2
      refine sB rfl 111 (.tmp 11) (.tmp 38) rfl xo (by kernel_rfl) _ _ (pc ((k.c.sum o2 o2).x) ((k.c.sum o2 o2).y) ((k.c.sum o2 o2).z)) (by kernel_rfl) (Nw5.out.at 2 rfl) (by rw [pc_size]; kernel_rfl) (by simp only [pc_size]) (pc_one _ _ _) ?_
      intro w6 hw hb hs
      have Nw6:=Hd (show MO 3 1 w w6 [(g,nc n,27),(g+1,ptc 0 0 false,41),(xo,pc ((k.c.sum o2 o2).x) ((k.c.sum o2 o2).y) ((k.c.sum o2 o2).z),111)] (.slice (some ⟨gd,0,none⟩) cd cap) cd (dgs n 4 cd cd) from Nw5.out.store 2 rfl hb hs hw)
      clear hw hb hs Nw5
      refine wpList_nil ?_
      try simp only [Act.put,s_,t_,u_,v_,x_,y_]
      go_wp2_with (fail)
      go_roundw
      case rel=>exact ⟨j+1,(k.c.sum o2 o2),by omega,by go_num,by rw [Nat.pow_succ,Nat.mul_assoc,Nat.mul_comm 2,← Nat.mul_assoc,Nat.mul_comm _ 2,Nat.two_mul]; exact rp_sum k RO2.out RO2.out,Nw6.out⟩
      case measure=>simp [intOf]; omega
     ·obtain rfl:j=4:=by omega
      have djl:decide (((4:Nat):Int)<4)=false:=by decide
      have hdg16:dg<16:=by rw [HDG.out]; exact dgt_lt n 4 _
      have HDL:=Hd hdg16
      go_upto_region 10 with (fail)
      refine wp_region_lit ?_
      refine pK (.pointer (some ⟨t,0,none⟩)) ?_
      refine pK (.pointer none) ?_
      refine pK (.int .i64 (dg:Int)) ?_
      refine fL rfl 109 (.func 109) #[.tmp 41,.tmp 42,.tmp 43] #[148,69,3] rfl #[] #[.pointer (some ⟨t,0,none⟩),.pointer none,.int .i64 (dg:Int)] (by kernel_rfl) (by kernel_rfl) (fun u=>cE _ _ _ _ u Tryz.func109 (by kernel_rfl) (by kernel_rfl)) (.tuple #[.agg (gpt k (dg*m)),.int .i64 0]) (table_pick k t m 16 dg HDL.out (by decide) wr (HTB.out.up M2.out.1)) (fun w45 hb=>?_)
      have Nw45:=Hd (show MO 3 1 w w45 [(g,nc n,27),(g+1,ptc 0 0 false,41),(xo,pc o2.x o2.y o2.z,111)] (.slice (some ⟨gd,0,none⟩) cd cap) cd (dgs n 4 cd cd) from M2.out.grow hb)
      clear hb M2
      refine pK (.tuple #[.agg (gpt k (dg*m)),.int .i64 0]) ?_
      refine pK (.agg (gpt k (dg*m))) ?_
      refine pK (.int .i64 0) ?_
      refine nL rfl 41 rfl (.agg (ptc 0 0 false)) (by rw [ptc_zero]; kernel_rfl) ?_
      intro xp w46 hx hx2 hgv hh
      have Nw46:=Hd (show MO 3 1 w w46 [(g,nc n,27),(g+1,ptc 0 0 false,41),(xo,pc o2.x o2.y o2.z,111),(xp,ptc 0 0 false,41)] (.slice (some ⟨gd,0,none⟩) cd cap) cd (dgs n 4 cd cd) from Nw45.out.new hgv (Nat.le_of_eq hx) hh)
      clear hx hx2 hgv hh Nw45
      refine sB rfl 41 (.tmp 14) (.tmp 45) rfl xp (by kernel_rfl) _ _ (gpt k (dg*m)) (by kernel_rfl) (Nw46.out.at 3 rfl) (by rw [gpt_size]; kernel_rfl) (by simp only [gpt_size,pS]) (gpt_one _ _) ?_
      intro w47 hw hb hs
      have Nw47:=Hd (show MO 3 1 w w47 [(g,nc n,27),(g+1,ptc 0 0 false,41),(xo,pc o2.x o2.y o2.z,111),(xp,gpt k (dg*m),41)] (.slice (some ⟨gd,0,none⟩) cd cap) cd (dgs n 4 cd cd) from Nw46.out.store 3 rfl hb hs hw)
      clear hw hb hs Nw46
      refine pK (.int .i64 0) ?_
      refine wpList_nil ?_
      try simp only [Act.put,s_,t_,u_,v_,x_,y_]
      go_upto_region 11 with (fail)
      have D48:=Hd (Nw47.out.drew)
      clear Nw47
      refine rGw 5 5 (by kernel_rfl) (by kernel_rfl) (fun d v c a w h=>by cases d <;> exact h) ?_
      simp only [List.take_succ_cons,List.take_zero]
      refine gK (.pointer (some ⟨c,0,none⟩)) ?_
      refine wpGrow_load_seg rfl 111 (.tmp 11) rfl xo 0 27 (by kernel_rfl) (pc o2.x o2.y o2.z) _ Tryz.underlying111 rfl (by kernel_rfl) (pc_size _ _ _) (fun u hu=>D48.out.up 2 rfl hu) (fun j hj=>by rw [Nat.zero_add]) ?_
      refine wpGrow_load_seg rfl 41 (.tmp 14) rfl xp 0 19 (by kernel_rfl) (gpt k (dg*m)) _ Tryz.underlying41 rfl (by kernel_rfl) (gpt_size _ _) (fun u hu=>D48.out.up 3 rfl hu) (fun j hj=>by rw [Nat.zero_add]) ?_
      refine fG rfl 59 (.func 59) #[.tmp 49] #[41] rfl #[] #[.agg (gpt k (dg*m))] (by kernel_rfl) (by kernel_rfl) (fun u=>cE _ _ _ _ u Tryz.func59 (by kernel_rfl) (by kernel_rfl)) (.agg (pc ((trN k (gm k (dg*m))).x) ((trN k (gm k (dg*m))).y) ((trN k (gm k (dg*m))).z))) (fun u hu=>by exact triple_rp k (dg*m) u) ?_
      refine fG rfl 97 (.func 97) #[.tmp 47,.tmp 48,.tmp 50] #[70,111,111] rfl #[] #[.pointer (some ⟨c,0,none⟩),.agg (pc o2.x o2.y o2.z),.agg (pc ((trN k (gm k (dg*m))).x) ((trN k (gm k (dg*m))).y) ((trN k (gm k (dg*m))).z))] (by kernel_rfl) (by kernel_rfl) (fun u=>cE _ _ _ _ u Tryz.func97 (by kernel_rfl) (by kernel_rfl)) (.agg (pc ((k.c.sum o2 (trN k (gm k (dg*m)))).x) ((k.c.sum o2 (trN k (gm k (dg*m)))).y) ((k.c.sum o2 (trN k (gm k (dg*m)))).z))) (fun u hu=>by exact sum_rp k c f d u RO2.out (rp_trip k _) (HC.out.up (gT _ _ _ D48.out.1 hu))) ?_
      refine gN ?_
      try simp only [Act.put,s_,t_,u_,v_,x_,y_]
      refine gS (rs:=[5]) (by kernel_rfl) (by decide) (fun w49 hg6=>?_)
      have Nw49:=Hd (D48.out.grow hg6)
      clear hg6 D48
      refine wpAny_ready (rs:=[5]) (by kernel_rfl) (by simp) ?_
      refine AllReady.cons rfl (fun K hK=>?_) AllReady.nil
      refine sK rfl 111 (.tmp 11) (.tmp 51) rfl xo rfl _ _ _ rfl (Nw49.out.at 2 rfl) (by rw [pc_size]; kernel_rfl) (by simp only [pc_size]) (pc_one _ _ _) (fun w50 hw hb hs=>hK _ _ ?_)
      have Nw50:=Hd (show MO 3 1 w w50 [(g,nc n,27),(g+1,ptc 0 0 false,41),(xo,pc ((k.c.sum o2 (trN k (gm k (dg*m)))).x) ((k.c.sum o2 (trN k (gm k (dg*m)))).y) ((k.c.sum o2 (trN k (gm k (dg*m)))).z),111),(xp,gpt k (dg*m),41)] (.slice (some ⟨gd,0,none⟩) cd cap) cd (dgs n 4 cd cd) from Nw49.out.store 2 rfl hb hs hw)
      clear hK hw hb hs Nw49
      try simp only [Act.put,s_,t_,u_,v_,x_,y_]
      refine wpAny_done (by kernel_rfl) ?_ _
      try simp only [Act.put,s_,t_,u_,v_,x_,y_]
      go_wp2_with (fail)
      go_roundw
      case rel=>exact ⟨i+1,(k.c.sum o2 (trN k (gm k (dg*m)))),by omega,by go_num,by rw [pre_succ n cd i HI.out,← HDG.out,Nat.add_mul,Nat.mul_assoc]; exact rp_sum k RO2.out (rp_trip k _),Nw50.out.take 3⟩
      case measure=>simp [intOf]; omega
  ·obtain rfl:i=cd:=by omega
   have dl:decide ((i:Int)<i)=false:=decide_eq_false (by omega)
   have HPR:=Hd (show Rp k o (n*m) by have h:=RO.out; rw [pre_all] at h; exact h)
   go_upto_region 13 with (fail)
   refine wp_region_lit ?_
   refine pK (.pointer (some ⟨c,0,none⟩)) ?_
   refine lS rfl 111 (.tmp 11) rfl xo 0 27 (by kernel_rfl) _ _ (pc o.x o.y o.z) _ _ (M.out.at 2 rfl) Tryz.underlying111 rfl (by kernel_rfl) (pc_size _ _ _) (fun j hj=>by rw [Nat.zero_add]) ?_
   refine fL rfl 57 (.func 57) #[.tmp 53,.tmp 54] #[70,111] rfl #[] #[.pointer (some ⟨c,0,none⟩),.agg (pc o.x o.y o.z)] (by kernel_rfl) (by kernel_rfl) (fun u=>cE _ _ _ _ u Tryz.func57 (by kernel_rfl) (by kernel_rfl)) (.agg (gpt k (n*m))) (plain_rp k c f d wr HPR.out (HC.out.up M.out.1)) (fun w95 hb=>?_)
   have Nw95:=Hd (show MO 3 1 w w95 [(g,nc n,27),(g+1,ptc 0 0 false,41),(xo,pc o.x o.y o.z,111)] (.slice (some ⟨gd,0,none⟩) i cap) i (dgs n 4 i i) from M.out.grow hb)
   clear hb M
   refine sB rfl 41 (.tmp 8) (.tmp 55) rfl (g+1) (by kernel_rfl) _ _ (gpt k (n*m)) (by kernel_rfl) (Nw95.out.at 1 rfl) (by rw [gpt_size]; kernel_rfl) (by simp only [gpt_size,pS]) (gpt_one _ _) ?_
   intro w96 hw hb hs
   have Nw96:=Hd (show MO 3 1 w w96 [(g,nc n,27),(g+1,gpt k (n*m),41),(xo,pc o.x o.y o.z,111)] (.slice (some ⟨gd,0,none⟩) i cap) i (dgs n 4 i i) from Nw95.out.store 1 rfl hb hs hw)
   clear hw hb hs Nw95
   refine wpList_nil ?_
   try simp only [Act.put,s_,t_,u_,v_,x_,y_]
   go_wp2_with (fail)
   exact bodyPost_ret (results_blk rfl _ _ (g+1) _ _ _ _ rfl (Nw96.out.at 1 rfl) Tryz.underlying41 rfl (by rw [gpt_size]; kernel_rfl)) rfl ⟨rfl,Nw96.out.below⟩
end Go.Proofs.YtkoonhiplicbkaaGreat.Cw
