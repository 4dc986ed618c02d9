/-
  (package divide) zero, length; and when numbers are equal as values. Condition: numbers below 2^576.
  (package divide) of: a divisor, shifted. Condition: a number that is not 0, below 2^576.
  (package divide) guess: a word that is not below the quotient's. Condition: what is left is below the divisor times 2^64.
  (package divide) take, back: a multiple of the divisor taken away, the divisor given back. Condition: what each says.
  Long division in plain words: the dividend shifted, one word of the quotient, the rest shifted back. No program.
-/
import Derived.Test.YtkoonhiplicbkaaGreatQk10
import Derived.DeepKeys
import Derived.Deep.RegionWith
import Derived.Laws.Tables
set_option linter.unusedSimpArgs false
set_option linter.unusedVariables false
set_option maxHeartbeats 1000000
set_option maxRecDepth 100000
namespace Go.Proofs.YtkoonhiplicbkaaGreat.Cw
open Go Go.RowKit
def litsN (a:Nat):List Lit:=[.int .u64 (dig a 0),.int .u64 (dig a 1),.int .u64 (dig a 2),.int .u64 (dig a 3),.int .u64 (dig a 4),.int .u64 (dig a 5),.int .u64 (dig a 6),.int .u64 (dig a 7),.int .u64 (dig a 8)]
theorem nc_list (a:Nat):(nc a).toList=[wn (dig a 0),wn (dig a 1),wn (dig a 2),wn (dig a 3),wn (dig a 4),wn (dig a 5),wn (dig a 6),wn (dig a 7),wn (dig a 8)]:=rfl
theorem litsN_inj (a b:Nat) (ha:a<pw 9) (hb:b<pw 9):litsN a=litsN b↔a=b:=by
 constructor
 ·intro h
  simp only [litsN,List.cons.injEq,Lit.int.injEq,true_and,Int.ofNat_inj] at h
  obtain ⟨h0,h1,h2,h3,h4,h5,h6,h7,h8,_⟩:=h
  refine dig_ext a b 9 ha hb fun i hi=>?_
  match i,hi with
  | 0,_=>exact h0
  | 1,_=>exact h1
  | 2,_=>exact h2
  | 3,_=>exact h3
  | 4,_=>exact h4
  | 5,_=>exact h5
  | 6,_=>exact h6
  | 7,_=>exact h7
  | 8,_=>exact h8
 ·rintro rfl; rfl
theorem keyW (d x:Nat) (hx:x<18446744073709551616):Tryz.prog.keyLits (d+1) 24 [wn x]=some [.int .u64 x]:=by
 have hw:(Lit.int .u64 (x:Int)).wf=true:=by simp [Lit.wf,IntKind.min,IntKind.max,IntKind.bits,IntKind.signed]; omega
 unfold Program.keyLits wn
 rw [Tryz.underlying24]
 simp [hw]
theorem keyA (d a:Nat):Tryz.prog.keyLits (d+2) 25 (nc a).toList=some (litsN a):=by
 have e9:Tryz.prog.cellsOf 25=9:=by kernel_rfl
 have e1:Tryz.prog.cellsOf 24=1:=by kernel_rfl
 unfold Program.keyLits
 rw [Tryz.underlying25]
 simp [nc_list,e9,e1,List.range_succ,keyW,dig_lt,litsN]
theorem keyN (d a:Nat):Tryz.prog.keyLits (d+3) 27 (nc a).toList=some (litsN a):=by
 have e9:Tryz.prog.cellsOf 25=9:=by kernel_rfl
 have e1:Tryz.prog.cellsOf 27=9:=by kernel_rfl
 unfold Program.keyLits
 rw [Tryz.underlying27]
 have h:=keyA d a
 have hl:(nc a).toList.length=9:=rfl
 have ht:(nc a).toList.take 9=(nc a).toList:=by rw [← hl,List.take_length]
 simp [e9,e1,hl,ht,h,nS]
theorem formedN (a:Nat):(Value.agg (nc a)).formed Tryz.prog 27=true:=by
 have e1:Tryz.prog.cellsOf 27=9:=by kernel_rfl
 unfold Value.formed
 rw [Tryz.underlying27]
 simp [e1,nS]
theorem eq_nat (a b:Nat) (ha:a<pw 9) (hb:b<pw 9) (w:World):(binOp .eql 27 (.agg (nc a)) (.agg (nc b))).run Tryz.prog w=.ok (.bool (decide (a=b))) w:=by
 obtain ⟨r,hr,hiff⟩:=run_equalIn_deep (P:=Tryz.prog) 9990 10 27 (by kernel_rfl) w 3 3 (.agg (nc a)) (.agg (nc b)) (litsN a) (litsN b) (formedN a) (formedN b) (keyN 0 a) (keyN 0 b)
 rw [litsN_inj a b ha hb] at hiff
 have hr':(Op.equal 27 (.agg (nc a)) (.agg (nc b))).run Tryz.prog w=.ok r w:=hr
 show (do let r ← Op.equal 27 (.agg (nc a)) (.agg (nc b)); pure (Value.bool r):Sem Value).run Tryz.prog w=_
 rw [Sem.run_bind,hr']
 simp only [Result.andThen,Sem.run_pure]
 congr 2
 rw [Bool.eq_iff_iff,hiff,decide_eq_true_iff]
theorem neq_nat (a b:Nat) (ha:a<pw 9) (hb:b<pw 9) (w:World):(binOp .neq 27 (.agg (nc a)) (.agg (nc b))).run Tryz.prog w=.ok (.bool (decide (a≠b))) w:=by
 obtain ⟨r,hr,hiff⟩:=run_equalIn_deep (P:=Tryz.prog) 9990 10 27 (by kernel_rfl) w 3 3 (.agg (nc a)) (.agg (nc b)) (litsN a) (litsN b) (formedN a) (formedN b) (keyN 0 a) (keyN 0 b)
 rw [litsN_inj a b ha hb] at hiff
 have hr':(Op.equal 27 (.agg (nc a)) (.agg (nc b))).run Tryz.prog w=.ok r w:=hr
 show (do let r ← Op.equal 27 (.agg (nc a)) (.agg (nc b)); pure (Value.bool !r):Sem Value).run Tryz.prog w=_
 rw [Sem.run_bind,hr']
 simp only [Result.andThen,Sem.run_pure]
 congr 2
 rw [Bool.eq_iff_iff,Bool.not_eq_true',← Bool.not_eq_true,hiff,decide_eq_true_iff]
attribute [local go_sem ↓ high] wn_eql wn_neq wn_lss wn_gtr wn_cells wRS wn_guard lit0 lit1
attribute [local go_sem high] wn_match wRS wn_eql wn_neq wn_lss wn_gtr
theorem divide_zero (a g:Nat) (w:World) (ha:a<pw 9) {t:TypeId} {fr:Nat × Nat} (h:w.heap[g]?=some (.cells (nc a) t fr)) :
  Calls Tryz.prog 41 #[.pointer (some ⟨g,0,none⟩)] w fun e w'=>e=.returned (.bool (decide (a=0)))∧w=w':=by
 have H:=Hd h
 have he:=fun w=>eq_nat a 0 ha (pw_pos 9) w
 rw [nZ] at he
 clear h
 go_enter Tryz.func41,Tryz.ntmps41
 go_wp2_with (first
  | (refine l0N rfl (.tmp 4) rfl g rfl H.out ?_))
 go_ret
 exact ⟨rfl,rfl⟩
theorem length_calls (a n g cap:Nat) (w:World) (hn:n≤1000) (h:∀ i,i<n→w.cell? ⟨g,i,none⟩=some (wn (dig a i))) :
  Calls Tryz.prog 87 #[.slice (some ⟨g,0,none⟩) n cap] w fun e w'=>e=.returned (.int .i64 (usedN a n))∧w=w':=by
 have H:=Hd h
 clear h
 go_enter Tryz.func87,Tryz.ntmps87
 go_wp2
 go_loop [3] (fun i=>∃ k:Nat,k≤n∧i=.int .i64 k∧usedN a n=usedN a k) (fun i=>(intOf i).toNat)
 case atStart=>exact ⟨n,Nat.le_refl _,rfl,rfl⟩
 case round=>
  obtain ⟨k,hk,rfl,he⟩:=hrel
  rcases Nat.eq_zero_or_pos k with rfl | hpos
  ·have HE:=Hd he
   clear he
   go_wp2
   go_ret
   exact ⟨by rw [HE.out]; rfl,rfl⟩
  ·obtain ⟨m,rfl⟩:∃ m,k=m+1:=⟨k - 1,by omega⟩
   have c1:w.cell? ⟨g,m,none⟩=some (wn (dig a m)):=H.out m (by omega)
   have HE:=Hd he
   clear he
   by_cases h0:dig a m=0
   ·have d1:decide (dig a m=0)=true:=decide_eq_true h0
    have HE2:=Hd (show usedN a n=usedN a m by rw [HE.out]; exact if_pos h0)
    clear h0
    go_wp2
    go_round
    case rel=>exact ⟨m,by omega,by go_num,HE2.out⟩
    case measure=>simp [intOf]
   ·have d1:decide (dig a m=0)=false:=decide_eq_false h0
    have HE2:=Hd (show usedN a n=m+1 by rw [HE.out]; exact if_neg h0)
    clear h0
    go_wp2
    go_ret
    exact ⟨by rw [HE2.out]; rfl,rfl⟩
end Go.Proofs.YtkoonhiplicbkaaGreat.Cw
namespace Go.Proofs.YtkoonhiplicbkaaGreat.Cw
open Go Go.RowKit
attribute [local go_sem ↓ high] wn_eql wn_neq wn_lss wn_gtr wn_cells wRS wn_guard lit0 lit1
attribute [local go_sem high] wn_match wRS wn_eql wn_neq wn_lss wn_gtr
def dc (D n s:Nat):Array Value:=nc D++#[.int .i64 n,.int .i64 s]
theorem dig_shl (m s j:Nat) (hs:s≤64):dig (m*2 ^ s) (j+1)=(dig m (j+1)*2 ^ s%18446744073709551616) ||| (dig m j / 2 ^ (64 - s)):=by
 have hp:=pow64 s hs
 have hS:0<2 ^ s:=Nat.pow_pos (by decide)
 have hm:=split_pw m j
 have hr:=Nat.mod_lt m (pw_pos j)
 have hd:=dig_lt m j
 have h1:=div_pw m j
 have e1:m*2 ^ s / pw j=m / pw j*2 ^ s+m%pw j*2 ^ s / pw j:=by
  have e:m*2 ^ s=m%pw j*2 ^ s+pw j*(m / pw j*2 ^ s):=by
   rw [← Nat.mul_assoc,← Nat.add_mul,Nat.add_comm]
   congr 1
  rw [e,Nat.add_mul_div_left _ _ (pw_pos j),Nat.add_comm]
 have hc:m%pw j*2 ^ s / pw j<2 ^ s:=Nat.div_lt_of_lt_mul (Nat.mul_lt_mul_of_pos_right hr hS)
 have e2:m*2 ^ s / pw (j+1)=m / pw (j+1)*2 ^ s+dig m j / 2 ^ (64 - s):=by
  have e0:m*2 ^ s / pw (j+1)=m*2 ^ s / pw j / 18446744073709551616:=by rw [pw_succ,Nat.div_div_eq_div_mul]
  rw [e0,e1,h1]
  generalize m%pw j*2 ^ s / pw j=c at *
  generalize m / pw (j+1)=X at *
  generalize dig m j=d at *
  have e3:(18446744073709551616*X+d)*2 ^ s+c=(d*2 ^ s+c)+18446744073709551616*(X*2 ^ s):=by
   rw [Nat.add_mul,Nat.mul_assoc]; omega
  rw [e3,Nat.add_mul_div_left _ _ (by decide)]
  have e4:(d*2 ^ s+c) / 18446744073709551616=d / 2 ^ (64 - s):=by
   have e5:(d*2 ^ s+c) / 2 ^ s=d:=by
    rw [Nat.add_comm,Nat.add_mul_div_right _ _ hS,Nat.div_eq_of_lt hc,Nat.zero_add]
   calc (d*2 ^ s+c) / 18446744073709551616=(d*2 ^ s+c) / (2 ^ s*2 ^ (64 - s)):=by rw [← hp]
    _=_:=by rw [← Nat.div_div_eq_div_mul,e5]
  rw [e4]
  exact Nat.add_comm _ _
 have hq:dig m j / 2 ^ (64 - s)<2 ^ s:=Nat.div_lt_of_lt_mul (by rw [Nat.mul_comm,← hp]; exact hd)
 have e6:dig m (j+1)*2 ^ s%18446744073709551616=m / pw (j+1)*2 ^ s%18446744073709551616:=by
  unfold dig
  rw [Nat.mul_mod,Nat.mod_mod,← Nat.mul_mod]
 have e7:m / pw (j+1)*2 ^ s%18446744073709551616=2 ^ s*(m / pw (j+1)%2 ^ (64 - s)):=by
  rw [hp,Nat.mul_comm (m / pw (j+1)),Nat.mul_mod_mul_left]
 have e8:m / pw (j+1)%2 ^ (64 - s)+1≤2 ^ (64 - s):=Nat.mod_lt _ (Nat.pow_pos (by decide))
 have e9:2 ^ s*(m / pw (j+1)%2 ^ (64 - s)+1)≤18446744073709551616:=by rw [hp]; exact Nat.mul_le_mul_left _ e8
 rw [e6]
 show m*2 ^ s / pw (j+1)%18446744073709551616=_
 rw [e2,e7,← Nat.two_pow_add_eq_or_of_lt hq,← e7]
 rw [Nat.mul_add,← e7] at e9
 clear e1 e2 e6 e7 e8 h1 hm hr hc hp
 generalize m / pw (j+1)*2 ^ s=Y at *
 generalize dig m j / 2 ^ (64 - s)=q at *
 generalize 2 ^ s=S at *
 omega
theorem dig_shl0 (m s:Nat):dig (m*2 ^ s) 0=dig m 0*2 ^ s%18446744073709551616:=by
 unfold dig
 rw [pw_zero,Nat.div_one,Nat.div_one,Nat.mod_mul_mod]
theorem dc_shift (D n s s':Nat):(dc D n s).setIfInBounds 10 (.int .i64 s')=dc D n s':=rfl
def dcm (m D k n s:Nat):Array Value:=fa wn 9 (mixd m D k)++#[.int .i64 n,.int .i64 s]
theorem dcm_zero (m D n s:Nat):dcm m D 0 n s=dc D n s:=by unfold dcm dc nc; rw [mixd_zero]
theorem dcm_get (m D k n s j:Nat) (hj:j<k) (h9:j<9):(dcm m D k n s)[j]?=some (wn (dig m j)):=by
 unfold dcm
 rw [app_get _ _ _ _ _ h9]
 simp [mixd,hj]
theorem dcm_set (m D k n s i x:Nat) (hi:i<9):(dcm m D k n s).setIfInBounds i (wn x)=fa wn 9 (upd (mixd m D k) i x)++#[.int .i64 n,.int .i64 s]:=by
 unfold dcm
 rw [app_set _ _ _ _ _ hi]
theorem mixd_down (m D k:Nat):upd (mixd m D (k+1)) k (dig D k)=mixd m D k:=by
 funext j
 simp only [upd,mixd]
 by_cases h:j=k
 ·subst h; simp
 ·by_cases h2:j<k
  ·have:j<k+1:=by omega
   simp [h,h2,this]
  ·have:¬ j<k+1:=by omega
   simp [h,h2,this]
theorem divide_of (m g:Nat) (w:World) (hm0:m≠0) (hm:m<pw 9) {t:TypeId} {fr:Nat × Nat} (h:w.heap[g]?=some (.cells (nc m) t fr)) :
  Calls Tryz.prog 84 #[.pointer (some ⟨g,0,none⟩)] w fun e w'=>∃ d,e=.returned (.pointer (some ⟨d,0,none⟩))∧w'.heap[d]?=some (.cells (dc (m*2 ^ (64 - bl (dig m (wds m - 1)))) (wds m) (64 - bl (dig m (wds m - 1)))) 189 (0,0))∧w.heap.size≤d∧Below w.heap.size w w':=by
 have H:=Hd h
 have hln:=fun w' (hb:∀ i,i<9→World.cell? w' ⟨g,i,none⟩=some (wn (dig m i)))=>length_calls m 9 g 9 w' (by omega) hb
 have hcell:∀ i,i<9→w.cell? ⟨g,i,none⟩=some (wn (dig m i)):=fun i hi=>by rw [cO h,nc_get _ _ hi]
 have HC:=Hd hcell
 have HL:=Hd hln
 clear h hln hcell
 go_enter Tryz.func84,Tryz.ntmps84
 go_wp2_with (fail)
 refine wp_region_quiet_tail 9 (by kernel_rfl) (by kernel_rfl) ?_
 simp only [List.take_succ_cons,List.take_zero,List.drop_succ_cons,List.drop_zero]
 iterate 3 go_big_quiet_step ((fail))
 refine wpQuiet_load_seg rfl 25 (.tmp 7) rfl g 0 9 rfl (nc m) _ Tryz.underlying25 rfl (by kernel_rfl) (nS m) (fun w' hw'=>⟨nc m,t,fr,by obtain ⟨n,rfl⟩:=hw'; exact H.out,fun j hj=>by rw [Nat.zero_add]⟩) ?_
 simp only [Act.put,List.setIfInBounds_toArray,List.set_cons_zero,List.set_cons_succ]
 iterate 4 go_big_quiet_step ((fail))
 refine BigFrame.wpQuiet_want rfl fun K hK=>⟨.int .i64 (wds m),fun w' hw'=>?_,hK _ ?_⟩
 ·obtain ⟨n0,rfl⟩:=hw'
  go_simp
  refine (HL.out (w.drewN n0) HC.out).mono ?_
  rintro e w'' ⟨he,rfl⟩
  exact ⟨he,n0,rfl⟩
 clear hK K
 simp only [Act.put,List.setIfInBounds_toArray,List.set_cons_zero,List.set_cons_succ]
 refine wpQuiet_nil ?_
 rintro _ ⟨n0,rfl⟩
 refine wpList_built rfl 189 #[(0,.tmp 8),(1,.tmp 13)] rfl (dc m (wds m) 0) (by kernel_rfl) ?_
 simp only [Act.put,List.setIfInBounds_toArray,List.set_cons_zero,List.set_cons_succ]
 go_upto_region 2 with fail
 obtain ⟨w1,hw1⟩:∃ w1:World,w1=(w.drewN n0).alloc (Obj.cells (dc m (wds m) 0) 189):=⟨_,rfl⟩
 rw [← hw1]
 have k1:w1.heap[w.heap.size]?=some (.cells (dc m (wds m) 0) 189 (0,0)):=by rw [hw1]; exact new1 (w.drewN n0) _
 have b1:Below w.heap.size w w1:=by rw [hw1]; exact (Below.drewN (Below.refl _ _) n0).alloc (by simp [World.drewN]) _
 have htop:=usedN_top m 9
 have hlt:=usedN_lt m 9 hm
 have hle:=usedN_le m 9
 have hz:=usedN_zero m 9 hm
 have hw:wds m=usedN m 9:=rfl
 rw [← hw] at htop hlt hle hz
 have hpos:wds m≠0:=fun h=>hm0 (hz.1 h)
 obtain ⟨k,hk⟩:∃ k,wds m=k+1:=⟨wds m - 1,by omega⟩
 have htop':=htop hpos
 rw [hk] at htop' hlt hle k1 ⊢
 rw [Nat.add_sub_cancel] at htop'
 obtain ⟨d,hd⟩:∃ d,d=w.heap.size:=⟨_,rfl⟩
 rw [← hd] at k1 b1 ⊢
 have hds:d≤w.heap.size:=by omega
 have HD:=Hd hd
 have K1:=Hd k1
 have HK:=Hd hk
 clear hw1 htop hz hw hpos hk hd k1
 obtain ⟨s,hs⟩:∃ s,s=64 - bl (dig m k):=⟨_,rfl⟩
 have hdl:=dig_lt m k
 have hbl:=bitLen_bl _ hdl
 have hb4:=bl_le64 hdl
 have hbp:=bl_pos htop'
 have es:(64:Int) - (Lib.bitLen (dig m k):Int)=(s:Int):=by rw [hbl]; omega
 have hs63:s≤63:=by omega
 obtain ⟨n1,n2⟩:=norm_ge htop' hdl
 rw [← hs] at n1 n2
 have HS:=Hd hs
 clear hbl hb4 hbp hs
 have hkn:k<9:=by omega
 have cn:w1.cell? ⟨d,9,none⟩=some (.int .i64 ((k+1:Nat):Int)):=by rw [cO K1.out]; rfl
 have cs:w1.cell? ⟨d,10,none⟩=some (.int .i64 0):=by rw [cO K1.out]; rfl
 have ck:w1.cell? ⟨d,k,none⟩=some (wn (dig m k)):=by
  rw [cO K1.out]
  unfold dc
  rw [Array.getElem?_append_left (by rw [nS]; exact hkn),nc_get _ _ hkn]
 have fs:=frozen_of K1.out 10
 have ek:((k+1:Nat):Int) - 1=(k:Int):=by omega
 refine wp_region_quiet_tail 14 (by kernel_rfl) (by kernel_rfl) ?_
 simp only [List.take_succ_cons,List.take_zero,List.drop_succ_cons,List.drop_zero]
 repeat (go_big_quiet_step ((go_at_call 112; exact Calls.quiet_of_same ((lz64_calls _ hdl _).mono fun _ _ h=>⟨h.1,h.2.symm⟩))))
 refine wpQuiet_nil ?_
 rintro _ ⟨n3,rfl⟩
 rw [es]
 have h4:=set_of (w:=w1.drewN n3) K1.out 10 (.int .i64 s)
 rw [dc_shift] at h4
 obtain ⟨D,hD⟩:∃ D,D=m*2 ^ s:=⟨_,rfl⟩
 have hDlt:D<pw (k+1):=by
  rw [hD,pw_succ]
  have e:m=m%pw k+pw k*dig m k:=by rw [← mod_pw_succ,Nat.mod_eq_of_lt hlt]
  have h5:=Nat.mod_lt m (pw_pos k)
  have hS:0<2 ^ s:=Nat.pow_pos (by decide)
  have h6:m+1≤pw k*(dig m k+1):=by rw [Nat.mul_add]; omega
  have hp:=pow64 s (by omega)
  have h7:(dig m k+1)*2 ^ s≤18446744073709551616:=by
   have h8:dig m k<2 ^ (64 - s):=by
    rw [hp,Nat.mul_comm (2 ^ s)] at n1
    exact Nat.lt_of_mul_lt_mul_right n1
   rw [hp,Nat.mul_comm (2 ^ s)]
   exact Nat.mul_le_mul_right _ h8
  have h9:(m+1)*2 ^ s≤pw k*(dig m k+1)*2 ^ s:=Nat.mul_le_mul_right _ h6
  have h10:pw k*((dig m k+1)*2 ^ s)≤pw k*18446744073709551616:=Nat.mul_le_mul_left _ h7
  rw [Nat.mul_assoc] at h9
  rw [Nat.add_mul] at h9
  omega
 have hsame:fa wn 9 (dig m)=fa wn 9 (mixd m D (k+1)):=fa_ext _ _ _ _ fun j hj=>by
  unfold mixd
  split
  ·rfl
  ·rw [dig_high m (k+1) hlt j (by omega),dig_high D (k+1) hDlt j (by omega)]
 have h5:dc m (k+1) s=dcm m D (k+1) (k+1) s:=by unfold dc dcm nc; rw [hsame]
 rw [h5] at h4
 obtain ⟨w2,hw2⟩:∃ w2,w2=(w1.drewN n3).setCell ⟨d,10,none⟩ (.int .i64 s):=⟨_,rfl⟩
 have b2:Below d w w2:=by rw [hw2]; exact (Below.drewN b1 n3).setCell (Nat.le_refl _) _
 rw [← hw2] at h4
 have H4:=Hd h4
 have HW2:=Hd hw2
 have HDD:=Hd hD
 have HDL:=Hd hDlt
 have c9:w2.cell? ⟨d,9,none⟩=some (.int .i64 ((k+1:Nat):Int)):=by rw [cO h4]; rfl
 clear h4 h5 hw2 hD hDlt hsame cn ck hlt
 go_upto_region 3 with fail
 rw [← HW2.out]
 go_wp2_with (fail)
 go_loopw [4] (fun iv wr=>∃ j:Nat,j≤k+1∧iv=.int .i64 ((j:Int) - 1)∧wr.heap[d]?=some (.cells (dcm m D j (k+1) s) 189 (0,0))∧Below d w wr) (fun iv _=>(intOf iv+1).toNat)
 case atStart=>exact ⟨k+1,Nat.le_refl _,by simp,H4.out,b2⟩
 case round=>
  obtain ⟨j,hj,rfl,q1,hbr⟩:=hrel
  have H1:=Hd q1
  clear q1
  rcases Nat.eq_zero_or_pos j with rfl | hjp
  ·have hdd:=H1.out
   rw [dcm_zero] at hdd
   have H2:=Hd hdd
   clear hdd
   go_wp2_with (fail)
   go_ret
   refine ⟨d,rfl,?_,by rw [HD.out]; exact Nat.le_refl _,by rw [← HD.out]; exact hbr⟩
   rw [HK.out,Nat.add_sub_cancel,← HS.out,← HDD.out]
   exact H2.out
  ·obtain ⟨i,rfl⟩:∃ i,j=i+1:=⟨j - 1,by omega⟩
   have ei:((i+1:Nat):Int) - 1=(i:Int):=by omega
   rw [ei]
   have ci:wr.cell? ⟨d,i,none⟩=some (wn (dig m i)):=by rw [cO H1.out,dcm_get _ _ _ _ _ _ (by omega) (by omega)]
   have cs:wr.cell? ⟨d,10,none⟩=some (.int .i64 s):=by rw [cO H1.out]; rfl
   have fi:=frozen_of H1.out i
   obtain ⟨y,hy⟩:∃ y,y=dig m i*2 ^ s%18446744073709551616:=⟨_,rfl⟩
   have hyl:y<18446744073709551616:=by rw [hy]; exact Nat.mod_lt _ (by decide)
   have o1:=wn_shl 24 (dig m i) .i64 s
   rw [← hy] at o1
   have hi9:i<9:=by omega
   have h5:=set_of H1.out i (wn y)
   rw [dcm_set _ _ _ _ _ _ _ hi9] at h5
   obtain ⟨w3,hw3⟩:∃ w3,w3=(wr.setCell ⟨d,i,none⟩ (wn y)).drew:=⟨_,rfl⟩
   have b3:Below d w w3:=by rw [hw3]; exact (hbr.setCell (Nat.le_refl _) _).drew
   have h6:w3.heap[d]?=some (.cells (fa wn 9 (upd (mixd m D (i+1)) i y)++#[.int .i64 ((k+1:Nat):Int),.int .i64 s]) 189 (0,0)):=by rw [hw3]; exact h5
   have HW3:=Hd hw3
   have H6:=Hd h6
   have HY:=Hd hy
   clear hw3 h5 h6 hy
   have ci1:i=0∨s=0→dig D i=y:=by
    intro hor
    rw [HDD.out,HY.out]
    rcases hor with rfl | h
    ·exact dig_shl0 m s
    ·rw [h,Nat.pow_zero,Nat.mul_one,Nat.mul_one,Nat.mod_eq_of_lt (dig_lt m i)]
   by_cases hor:i=0∨s=0
   ·have h7:=H6.out
    rw [← ci1 hor,mixd_down] at h7
    have H7:=Hd (show w3.heap[d]?=some (.cells (dcm m D i (k+1) s) 189 (0,0)) from h7)
    have cs3:w3.cell? ⟨d,10,none⟩=some (.int .i64 s):=by rw [cO H7.out]; rfl
    clear h7 ci1
    rcases Nat.eq_zero_or_pos i with rfl | hip
    ·go_upto_region 6 with fail
     go_region
     rw [← HW3.out]
     go_wp2_with (fail)
     go_roundw
     case rel=>exact ⟨0,by omega,by go_num,H7.out,b3⟩
     case measure=>simp [intOf]
    ·have hs0:s=0:=by omega
     have o1':binOp .shl 24 (wn (dig m i)) (.int .i64 0)=pure (wn y):=by rw [hs0] at o1; exact o1
     clear hor
     go_upto_region 6 with fail
     go_region
     rw [← HW3.out]
     go_wp2_with (fail)
     go_roundw
     case rel=>exact ⟨i,by omega,by go_num,H7.out,b3⟩
     case measure=>simp [intOf]
   ·obtain ⟨p,rfl⟩:∃ p,i=p+1:=⟨i - 1,by omega⟩
    have hsp:0<s:=by omega
    have hds:decide (0<(s:Int))=true:=decide_eq_true (by omega)
    have hdi:decide (0<((p+1:Nat):Int))=true:=decide_eq_true (by omega)
    have cs3:w3.cell? ⟨d,10,none⟩=some (.int .i64 s):=by rw [cO H6.out]; rfl
    have cy3:w3.cell? ⟨d,p+1,none⟩=some (wn y):=by rw [cO H6.out,app_get _ _ _ _ _ hi9,upd_at]
    have cp3:w3.cell? ⟨d,p,none⟩=some (wn (dig m p)):=by
     rw [cO H6.out,app_get _ _ _ _ _ (by omega),upd_ne _ _ _ _ (by omega)]
     unfold mixd
     rw [if_pos (by omega)]
    have fi3:=frozen_of H6.out (p+1)
    have e64:(64:Int) - (s:Int)=((64 - s:Nat):Int):=by omega
    have o2:=wn_shr 24 (dig m p) (dig_lt m p) .i64 (64 - s)
    obtain ⟨z,hz⟩:∃ z,z=dig m p / 2 ^ (64 - s):=⟨_,rfl⟩
    rw [← hz] at o2
    have hzl:z<18446744073709551616:=by rw [hz]; exact Nat.lt_of_le_of_lt (Nat.div_le_self _ _) (dig_lt m p)
    have hdd:=dig_shl m s p (by omega)
    rw [← HY.out,← hz,← HDD.out] at hdd
    have o3:=wn_or 24 y z hyl hzl
    rw [← hdd] at o3
    have h7:=set_of H6.out (p+1) (wn (dig D (p+1)))
    rw [app_set _ _ _ _ _ hi9,upd_upd,mixd_down] at h7
    have H7:=Hd (show (w3.setCell ⟨d,p+1,none⟩ (wn (dig D (p+1)))).heap[d]?=some (.cells (dcm m D (p+1) (k+1) s) 189 (0,0)) from h7)
    have B7:=Hd (show Below d w (w3.setCell ⟨d,p+1,none⟩ (wn (dig D (p+1)))).drew from (b3.setCell (Nat.le_refl _) _).drew)
    clear h7 hdd hz ci1
    go_upto_region 6 with fail
    go_region
    rw [← HW3.out]
    go_upto_region 8 with fail
    go_region
    go_wp2_with (fail)
    go_roundw
    case rel=>exact ⟨p+1,by omega,by go_num,H7.out,B7.out⟩
    case measure=>simp [intOf]; omega
end Go.Proofs.YtkoonhiplicbkaaGreat.Cw
namespace Go.Proofs.YtkoonhiplicbkaaGreat.Cw
open Go Go.RowKit
attribute [local go_sem ↓ high] wn_eql wn_neq wn_lss wn_gtr wn_leq wn_geq wn_cells wRS wn_guard lit0 lit1 lit18446744073709551615
attribute [local go_sem high] wn_match wRS wn_eql wn_neq wn_lss wn_gtr wn_leq wn_geq
theorem dig_div (V i j:Nat):dig (V / pw i) j=dig V (i+j):=by
 unfold dig
 rw [Nat.div_div_eq_div_mul,← pw_add]
theorem top_two (W k:Nat) (h:W<pw (k+2)):W / pw k=dig W (k+1)*18446744073709551616+dig W k:=by
 have h1:=div_pw W k
 have h2:W / pw (k+1)=dig W (k+1):=by
  unfold dig
  rw [Nat.mod_eq_of_lt]
  exact Nat.div_lt_of_lt_mul (by rw [← pw_succ]; exact h)
 rw [h2] at h1
 omega
theorem top_one (D k:Nat) (h:D<pw (k+1)):D / pw k=dig D k:=by
 unfold dig
 rw [Nat.mod_eq_of_lt]
 exact Nat.div_lt_of_lt_mul (by rw [← pw_succ]; exact h)
theorem guess_not_below (W D k:Nat) (hD:D<pw (k+1)) (ht:dig D k≠0) (hW:W<pw (k+2)):W / D≤(dig W (k+1)*18446744073709551616+dig W k) / dig D k:=by
 have h1:dig D k*pw k≤D:=by
  rw [← top_one D k hD]
  exact Nat.div_mul_le_self D (pw k)
 have h2:W / D≤W / (dig D k*pw k):=Nat.div_le_div_left h1 (Nat.mul_pos (by omega) (pw_pos k))
 rw [Nat.mul_comm,← Nat.div_div_eq_div_mul,top_two W k hW] at h2
 exact h2
theorem three_top (W k:Nat) (h:W<pw (k+3)):W / pw k=(dig W (k+2)*18446744073709551616+dig W (k+1))*18446744073709551616+dig W k:=by
 have h1:=div_pw W k
 have h2:W / pw (k+1)=dig W (k+2)*18446744073709551616+dig W (k+1):=top_two W (k+1) h
 rw [h2] at h1
 omega
theorem guess_too_much (W D k q r:Nat) (hD:D<pw (k+2)) (hW:W<pw (k+3)) (hq:q*dig D (k+1)+r=dig W (k+2)*18446744073709551616+dig W (k+1))
  (ht:r*18446744073709551616+dig W k<q*dig D k):W / D<q:=by
 have hW3:=three_top W k hW
 have hD2:D / pw k=dig D (k+1)*18446744073709551616+dig D k:=top_two D k hD
 rcases Nat.eq_zero_or_pos D with h0 | hpos
 ·subst h0
  simp only [dig_zero] at ht
  omega
 refine Nat.div_lt_of_lt_mul ?_
 have h1:W<pw k*(W / pw k+1):=by
  have:=split_pw W k
  have h2:=Nat.mod_lt W (pw_pos k)
  rw [Nat.mul_add]; omega
 have h3:W / pw k+1≤q*(D / pw k):=by
  rw [hW3,hD2,Nat.mul_add,← Nat.mul_assoc]
  have:q*dig D (k+1)*18446744073709551616+r*18446744073709551616=(dig W (k+2)*18446744073709551616+dig W (k+1))*18446744073709551616:=by rw [← hq,Nat.add_mul]
  omega
 have h4:pw k*(W / pw k+1)≤pw k*(q*(D / pw k)):=Nat.mul_le_mul_left _ h3
 have h5:pw k*(q*(D / pw k))≤q*D:=by
  rw [Nat.mul_left_comm]
  exact Nat.mul_le_mul_left _ (Nat.mul_div_le D (pw k))
 rw [Nat.mul_comm D q]
 omega
def uc (V:Nat):Array Value:=fa wn 19 (dig V)
theorem uc_get (V i:Nat) (h:i<19):(uc V)[i]?=some (wn (dig V i)):=fa_get _ _ _ _ h
theorem dc_get (D n s j:Nat) (h9:j<9):(dc D n s)[j]?=some (wn (dig D j)):=by
 unfold dc
 rw [Array.getElem?_append_left (by rw [nS]; exact h9),nc_get _ _ h9]
theorem div_guess (d ub V D k s at':Nat) (w:World) (hk:k<9) (hat:at' + (k+1)≤18) (hD:D<pw (k+1)) (ht:dig D k≠0) (hV:V / pw at'<D*18446744073709551616)
  (hd:w.heap[d]?=some (.cells (dc D (k+1) s) 189 (0,0))) {t:TypeId} {fr:Nat × Nat} (hu:w.heap[ub]?=some (.cells (uc V) t fr)) :
  Calls Tryz.prog 113 #[.pointer (some ⟨d,0,none⟩),.slice (some ⟨ub,0,none⟩) 19 19,.int .i64 at'] w fun e w'=>∃ q,e=.returned (wn q)∧q<18446744073709551616∧V / pw at' / D≤q∧∃ m,w'=w.drewN m:=by
 obtain ⟨W,hW⟩:∃ W,W=V / pw at':=⟨_,rfl⟩
 rw [← hW] at hV ⊢
 have hWl:W<pw (k+2):=by
  have h1:D*18446744073709551616≤pw (k+1)*18446744073709551616:=Nat.mul_le_mul_right _ (Nat.le_of_lt hD)
  have h2:pw (k+2)=pw (k+1)*18446744073709551616:=pw_succ (k+1)
  omega
 have hQ:W / D<18446744073709551616:=Nat.div_lt_of_lt_mul hV
 have hgn:=guess_not_below W D k hD ht hWl
 have cn:w.cell? ⟨d,9,none⟩=some (.int .i64 ((k+1:Nat):Int)):=by rw [cO hd]; rfl
 have ct:w.cell? ⟨d,k,none⟩=some (wn (dig D k)):=by rw [cO hd,dc_get _ _ _ _ hk]
 have ch:w.cell? ⟨ub,at' + k+1,none⟩=some (wn (dig W (k+1))):=by rw [cO hu,uc_get _ _ (by omega),hW,dig_div]; rfl
 have cl:w.cell? ⟨ub,at' + k,none⟩=some (wn (dig W k)):=by rw [cO hu,uc_get _ _ (by omega),hW,dig_div]
 have hk1:((k+1:Nat):Int) - 1=(k:Int):=by omega
 have hak:IntKind.i64.wrap ((at':Int)+((k:Int)+1))=((at' + k+1:Nat):Int):=by rw [IntWalk.i64_in _ (by omega)]; omega
 have hak1:IntKind.i64.wrap (((at' + k+1:Nat):Int) - 1)=((at' + k:Nat):Int):=by rw [IntWalk.i64_in _ (by omega)]; omega
 obtain ⟨top,htop⟩:∃ top,top=dig D k:=⟨_,rfl⟩
 obtain ⟨hi,hhi⟩:∃ hi,hi=dig W (k+1):=⟨_,rfl⟩
 obtain ⟨lo,hlo⟩:∃ lo,lo=dig W k:=⟨_,rfl⟩
 have htl:top<18446744073709551616:=by rw [htop]; exact dig_lt _ _
 have hll:lo<18446744073709551616:=by rw [hlo]; exact dig_lt _ _
 rw [← htop] at ct ht hgn
 rw [← hhi] at ch hgn
 rw [← hlo] at cl hgn
 have HT:=Hd htop
 have HH:=Hd hhi
 have HLo:=Hd hlo
 have HD:=Hd hd
 have HU:=Hd hu
 have HDl:=Hd hD
 have HWl:=Hd hWl
 have HGn:=Hd hgn
 have HQ:=Hd hQ
 have HW:=Hd hW
 clear htop hhi hlo hd hu hD hWl hgn hQ hW hV
 go_enter Tryz.func113,Tryz.ntmps113
 go_upto_region 1 with fail
 go_quiet (fail)
 go_upto_region 2 with fail
 go_quiet (fail)
 by_cases hge:top≤hi
 ·have d1:decide (top≤hi)=true:=decide_eq_true hge
  go_wp2_with (fail)
  go_ret
  exact ⟨18446744073709551615,rfl,by decide,by have:=HQ.out; omega,by first | exact ⟨_,rfl⟩ | exact ⟨_,by simp only [World.drewN_drewN]; rfl⟩ | exact ⟨_,by rw [HWR.out]; simp only [World.drewN_drewN]; rfl⟩⟩
 ·have d1:decide (top≤hi)=false:=decide_eq_false hge
  obtain ⟨q,hq⟩:∃ q,q=(hi*18446744073709551616+lo) / top:=⟨_,rfl⟩
  obtain ⟨r,hr⟩:∃ r,r=(hi*18446744073709551616+lo)%top:=⟨_,rfl⟩
  have hdv:=fun w=>div64_calls hi lo top w hll htl (by omega)
  rw [← hq,← hr] at hdv
  have hql:q<18446744073709551616:=by
   rw [hq]
   refine Nat.div_lt_of_lt_mul ?_
   have:(hi+1)*18446744073709551616≤top*18446744073709551616:=Nat.mul_le_mul_right _ (by omega)
   omega
  have hrl:r<top:=by rw [hr]; exact Nat.mod_lt _ (by omega)
  have hqr:q*top+r=hi*18446744073709551616+lo:=by rw [hq,hr,Nat.mul_comm]; exact Nat.div_add_mod _ _
  have G1:=Hd (show W / D≤q by rw [hq]; exact HGn.out)
  have HQR:=Hd hqr
  have HDV:=Hd hdv
  clear hq hr hqr hdv
  go_wp2_with (fail)
  refine (HDV.out _).mono ?_
  rintro e w5 ⟨rfl,n5,rfl⟩
  rcases Nat.eq_zero_or_pos k with rfl | hkp
  ·go_wp2_with (fail)
   go_ret
   exact ⟨q,rfl,hql,G1.out,by first | exact ⟨_,rfl⟩ | exact ⟨_,by simp only [World.drewN_drewN]; rfl⟩ | exact ⟨_,by rw [HWR.out]; simp only [World.drewN_drewN]; rfl⟩⟩
  ·obtain ⟨p,rfl⟩:∃ p,k=p+1:=⟨k - 1,by omega⟩
   have hne:decide (((p+1+1:Nat):Int)=1)=false:=decide_eq_false (by omega)
   go_wp2_with (fail)
   have cp:w.cell? ⟨d,p,none⟩=some (wn (dig D p)):=by rw [cO HD.out,dc_get _ _ _ _ (by omega)]
   have cu:w.cell? ⟨ub,at' + p,none⟩=some (wn (dig W p)):=by rw [cO HU.out,uc_get _ _ (by omega),HW.out,dig_div]
   obtain ⟨d2,hd2⟩:∃ d2,d2=dig D p:=⟨_,rfl⟩
   obtain ⟨u2,hu2⟩:∃ u2,u2=dig W p:=⟨_,rfl⟩
   have hd2l:d2<18446744073709551616:=by rw [hd2]; exact dig_lt _ _
   have hu2l:u2<18446744073709551616:=by rw [hu2]; exact dig_lt _ _
   rw [← hd2] at cp
   rw [← hu2] at cu
   have HD2:=Hd hd2
   have HU2:=Hd hu2
   have hp2:IntKind.i64.wrap (((p:Int)+1+1) - 2)=(p:Int):=by rw [IntWalk.i64_in _ (by omega)]; omega
   have hap:IntKind.i64.wrap ((at':Int)+((p:Int)+1+1))=((at' + p+1+1:Nat):Int):=by rw [IntWalk.i64_in _ (by omega)]; omega
   have hap2:((at':Int)+((p:Int)+1)+1) - 2=((at' + p:Nat):Int):=by omega
   have hp9:p<9:=by omega
   have hpi:(p:Int)<9:=by omega
   clear hd2 hu2
   go_loopw [10,11] (fun qv rv wr=>∃ q r m:Nat,qv=wn q∧rv=wn r∧Hid (q*top+r=hi*18446744073709551616+lo∧W / D≤q)∧q<18446744073709551616∧r<18446744073709551616∧wr=w.drewN m) (fun qv _ _=>match qv with | .int _ n=>n.toNat | _=>0)
   case atStart=>exact ⟨q,r,_,rfl,rfl,Hd ⟨HQR.out,G1.out⟩,hql,by omega,rfl⟩
   case round=>
    clear hql hrl G1 HQR HDV
    obtain ⟨q,r,m0,rfl,rfl,hi2,hql,hrl,hwr⟩:=hrel
    have cn2:wr.cell? ⟨d,9,none⟩=some (.int .i64 ((p+1+1:Nat):Int)):=by rw [hwr]; exact cn
    have cp2:wr.cell? ⟨d,p,none⟩=some (wn d2):=by rw [hwr]; exact cp
    have cu2:wr.cell? ⟨ub,at' + p,none⟩=some (wn u2):=by rw [hwr]; exact cu
    have HWR:=Hd hwr
    clear hwr cn cp cu ct ch cl
    obtain ⟨a,ha⟩:∃ a,a=q*d2 / 18446744073709551616:=⟨_,rfl⟩
    obtain ⟨b,hb⟩:∃ b,b=q*d2%18446744073709551616:=⟨_,rfl⟩
    have hab:q*d2=a*18446744073709551616+b:=by rw [ha,hb]; omega
    have hbl:b<18446744073709551616:=by rw [hb]; exact Nat.mod_lt _ (by decide)
    have hmq:=fun w m=>mul64_quiet q d2 hql hd2l w m
    rw [← ha,← hb] at hmq
    have HMQ:=Hd hmq
    clear ha hb hmq
    rcases Nat.lt_trichotomy a r with h | h | h
    ·have d2a:decide (a<r)=true:=decide_eq_true h
     go_wp2_with (fail)
     go_quiet (first | (go_at_call 99; exact HMQ.out _ _))
     go_wp2_with (fail)
     go_ret
     exact ⟨q,rfl,hql,hi2.out.2,by first | exact ⟨_,rfl⟩ | exact ⟨_,by simp only [World.drewN_drewN]; rfl⟩ | exact ⟨_,by rw [HWR.out]; simp only [World.drewN_drewN]; rfl⟩⟩
    ·have d2a:decide (a<r)=false:=decide_eq_false (by omega)
     have d2b:decide (a=r)=true:=decide_eq_true h
     by_cases hle:b≤u2
     ·have d2c:decide (b≤u2)=true:=decide_eq_true hle
      clear h
      go_wp2_with (fail)
      go_quiet (first | (go_at_call 99; exact HMQ.out _ _))
      go_wp2_with (fail)
      go_ret
      exact ⟨q,rfl,hql,hi2.out.2,by first | exact ⟨_,rfl⟩ | exact ⟨_,by simp only [World.drewN_drewN]; rfl⟩ | exact ⟨_,by rw [HWR.out]; simp only [World.drewN_drewN]; rfl⟩⟩
     ·have d2c:decide (b≤u2)=false:=decide_eq_false hle
      have hov:W / D<q:=guess_too_much W D p q r HDl.out HWl.out (by rw [← HT.out,← HH.out,← HLo.out]; exact hi2.out.1) (by rw [← HU2.out,← HD2.out]; omega)
      have hqpos:0<q:=Nat.lt_of_le_of_lt (Nat.zero_le _) hov
      have hq1:q - 1+1=q:=by omega
      have p1:=wn_subx 24 q 1 (by omega) (by omega)
      have HN:=Hd (show W / D≤q - 1 from Nat.le_sub_one_of_lt hov)
      have hlt1:q - 1<18446744073709551616:=by omega
      have hmeas:q - 1<q:=by omega
      have hnew:(q - 1)*top+(r+top)=hi*18446744073709551616+lo:=by
       have:=hi2.out.1
       rw [← hq1,Nat.add_mul] at this
       omega
      clear hov hq1 h
      by_cases hofl:18446744073709551616≤r+top
      ·have p2:binOp .add 24 (wn r) (wn top)=pure (wn (r+top - 18446744073709551616)):=wn_to (wn_add _ _ _) (by omega)
       have d7:decide (r+top - 18446744073709551616<r)=true:=decide_eq_true (by omega)
       clear hnew
       go_wp2_with (fail)
       go_quiet (first | (go_at_call 99; exact HMQ.out _ _))
       go_wp2_with (fail)
       go_ret
       exact ⟨q - 1,rfl,hlt1,HN.out,by first | exact ⟨_,rfl⟩ | exact ⟨_,by simp only [World.drewN_drewN]; rfl⟩ | exact ⟨_,by rw [HWR.out]; simp only [World.drewN_drewN]; rfl⟩⟩
      ·have p2:=wn_addx 24 r top (by omega)
       have d7:decide (r+top<r)=false:=decide_eq_false (by omega)
       have HR:=Hd (show (q - 1)*top+(r+top)=hi*18446744073709551616+lo∧W / D≤q - 1 from ⟨hnew,HN.out⟩)
       have hr2:r+top<18446744073709551616:=by omega
       clear hnew hofl
       go_wp2_with (fail)
       go_quiet (first | (go_at_call 99; exact HMQ.out _ _))
       go_wp2_with (fail)
       go_roundw
       case rel=>exact ⟨q - 1,r+top,_,rfl,rfl,HR,hlt1,hr2,by rw [HWR.out]; first | rfl | (simp only [World.drewN_drewN]; rfl)⟩
       case measure=>exact hmeas
    ·have d2a:decide (a<r)=false:=decide_eq_false (by omega)
     have d2b:decide (a=r)=false:=decide_eq_false (by omega)
     have hov:W / D<q:=guess_too_much W D p q r HDl.out HWl.out (by rw [← HT.out,← HH.out,← HLo.out]; exact hi2.out.1) (by rw [← HU2.out,← HD2.out]; omega)
     have hqpos:0<q:=Nat.lt_of_le_of_lt (Nat.zero_le _) hov
     have hq1:q - 1+1=q:=by omega
     have p1:=wn_subx 24 q 1 (by omega) (by omega)
     have HN:=Hd (show W / D≤q - 1 from Nat.le_sub_one_of_lt hov)
     have hlt1:q - 1<18446744073709551616:=by omega
     have hmeas:q - 1<q:=by omega
     have hnew:(q - 1)*top+(r+top)=hi*18446744073709551616+lo:=by
      have:=hi2.out.1
      rw [← hq1,Nat.add_mul] at this
      omega
     clear hov hq1
     by_cases hofl:18446744073709551616≤r+top
     ·have p2:binOp .add 24 (wn r) (wn top)=pure (wn (r+top - 18446744073709551616)):=wn_to (wn_add _ _ _) (by omega)
      have d7:decide (r+top - 18446744073709551616<r)=true:=decide_eq_true (by omega)
      clear hnew
      go_wp2_with (fail)
      go_quiet (first | (go_at_call 99; exact HMQ.out _ _))
      go_wp2_with (fail)
      go_ret
      exact ⟨q - 1,rfl,hlt1,HN.out,by first | exact ⟨_,rfl⟩ | exact ⟨_,by simp only [World.drewN_drewN]; rfl⟩ | exact ⟨_,by rw [HWR.out]; simp only [World.drewN_drewN]; rfl⟩⟩
     ·have p2:=wn_addx 24 r top (by omega)
      have d7:decide (r+top<r)=false:=decide_eq_false (by omega)
      have HR:=Hd (show (q - 1)*top+(r+top)=hi*18446744073709551616+lo∧W / D≤q - 1 from ⟨hnew,HN.out⟩)
      have hr2:r+top<18446744073709551616:=by omega
      clear hnew hofl
      go_wp2_with (fail)
      go_quiet (first | (go_at_call 99; exact HMQ.out _ _))
      go_wp2_with (fail)
      go_roundw
      case rel=>exact ⟨q - 1,r+top,_,rfl,rfl,HR,hlt1,hr2,by rw [HWR.out]; first | rfl | (simp only [World.drewN_drewN]; rfl)⟩
      case measure=>exact hmeas
end Go.Proofs.YtkoonhiplicbkaaGreat.Cw
namespace Go.Proofs.YtkoonhiplicbkaaGreat.Cw
open Go Go.RowKit
attribute [local go_sem ↓ high] wn_add wn_eql wn_neq wn_lss wn_gtr wn_leq wn_geq wn_cells wRS wn_guard lit0 lit1 run_Add64 run_Sub64
attribute [local go_sem high] wn_match wRS wn_add wn_eql wn_neq wn_lss wn_gtr wn_leq wn_geq
def winf (V R p i:Nat) (j:Nat):Nat:=if p≤j∧j<p+i then dig R (j - p) else dig V j
theorem winf_zero (V R p:Nat):winf V R p 0=dig V:=by
 funext j
 unfold winf
 rw [if_neg (by omega)]
theorem winf_at (V R p i:Nat):winf V R p i (p+i)=dig V (p+i):=by
 unfold winf
 rw [if_neg (by omega)]
theorem winf_step (V R p i:Nat):upd (winf V R p i) (p+i) (dig R i)=winf V R p (i+1):=by
 funext j
 unfold upd winf
 by_cases h:j=p+i
 ·subst h
  rw [if_pos rfl,if_pos (by omega),Nat.add_sub_cancel_left]
 ·rw [if_neg h]
  by_cases h2:p≤j∧j<p+i
  ·rw [if_pos h2,if_pos (by omega)]
  ·rw [if_neg h2,if_neg (by omega)]
theorem winf_all (V R p m:Nat) (hR:R<pw m) (hV:V<pw (p+m)):winf V R p m=dig (V%pw p+pw p*R):=by
 have hl:=Nat.mod_lt V (pw_pos p)
 have hX:V%pw p+pw p*R<pw (p+m):=by
  rw [pw_add]
  have:pw p*(R+1)≤pw p*pw m:=Nat.mul_le_mul_left _ hR
  rw [Nat.mul_add] at this
  omega
 have hq:(V%pw p+pw p*R) / pw p=R:=by
  rw [Nat.add_mul_div_left _ _ (pw_pos p),Nat.div_eq_of_lt hl,Nat.zero_add]
 funext j
 unfold winf
 split
 ·rename_i h
  have:=dig_div (V%pw p+pw p*R) p (j - p)
  rw [hq,show p+(j - p)=j by omega] at this
  exact this
 ·rename_i h
  rcases Nat.lt_or_ge j p with h1 | h1
  ·rw [cc_low _ _ _ _ h1,dig_mod _ _ _ h1]
  ·rw [dig_high V (p+m) hV j (by omega),dig_high _ (p+m) hX j (by omega)]
def rowY (x D i:Nat):Nat:=x*(D%pw i)
theorem rowY_zero (x D:Nat):rowY x D 0=0:=by unfold rowY; rw [mod_pw_zero]; simp
theorem rowY_succ (x D i:Nat):rowY x D (i+1)=rowY x D i+pw i*(x*dig D i):=by
 unfold rowY
 rw [mod_pw_succ,Nat.mul_add,Nat.mul_left_comm]
theorem rowY_lt (x D i:Nat) (hx:x<18446744073709551616):rowY x D i / pw i<18446744073709551616:=by
 refine Nat.div_lt_of_lt_mul ?_
 unfold rowY
 have h1:=Nat.mod_lt D (pw_pos i)
 have h2:x*(D%pw i)≤x*pw i:=Nat.mul_le_mul_left _ (Nat.le_of_lt h1)
 have h3:x*pw i<18446744073709551616*pw i:=Nat.mul_lt_mul_of_pos_right hx (pw_pos i)
 rw [Nat.mul_comm (pw i)]
 omega
theorem rowY_dig (x D i:Nat):dig (x*D) i=(x*dig D i+rowY x D i / pw i)%18446744073709551616:=by
 have h1:x*D=rowY x D (i+1)+pw (i+1)*(x*(D / pw (i+1))):=by
  unfold rowY
  have:=split_pw D (i+1)
  calc x*D=x*(pw (i+1)*(D / pw (i+1))+D%pw (i+1)):=by rw [← this]
   _=_:=by rw [Nat.mul_add,Nat.mul_left_comm,Nat.add_comm]
 rw [h1,cc_low _ _ _ _ (Nat.lt_succ_self i),rowY_succ]
 have h2:=cc_dig 0 (rowY x D i) i (x*dig D i)
 rw [Nat.zero_add,dig_zero,Nat.zero_add] at h2
 rw [h2]
 unfold cc
 rw [Nat.zero_mod,Nat.zero_add]
theorem rowY_carry (x D i:Nat):rowY x D (i+1) / pw (i+1)=(x*dig D i+rowY x D i / pw i) / 18446744073709551616:=by
 have h2:=cc_succ 0 (rowY x D i) i (x*dig D i)
 rw [← rowY_succ,dig_zero,Nat.zero_add] at h2
 unfold cc at h2
 rw [Nat.zero_mod,Nat.zero_add,Nat.zero_mod,Nat.zero_add] at h2
 exact h2
theorem rowY_top (x D n:Nat) (hD:D<pw n) (hx:x<18446744073709551616):x*D<pw (n+1)∧rowY x D n / pw n=dig (x*D) n:=by
 have e:rowY x D n=x*D:=by unfold rowY; rw [Nat.mod_eq_of_lt hD]
 have h1:x*D<pw (n+1):=by
  rw [pw_succ,Nat.mul_comm]
  rcases Nat.eq_zero_or_pos x with rfl | hp
  ·rw [Nat.mul_zero]; exact Nat.mul_pos (pw_pos n) (by decide)
  ·exact Nat.mul_lt_mul'' hD hx
 refine ⟨h1,?_⟩
 rw [e]
 exact top_one (x*D) n h1
theorem div_take (d ub V D n s p x:Nat) (w:World) (hn:n≤9) (hp:p+n≤18) (hD:D<pw n) (hx:x<18446744073709551616) (hV:V<pw (p+(n+1))) (hne:d≠ub)
  (hd:w.heap[d]?=some (.cells (dc D n s) 189 (0,0))) {t:TypeId} (hu:w.heap[ub]?=some (.cells (uc V) t (0,0))) :
  Calls Tryz.prog 114 #[.pointer (some ⟨d,0,none⟩),.slice (some ⟨ub,0,none⟩) 19 19,.int .i64 p,wn x] w fun e w'=>
   e=.returned (.bool (decide (V / pw p<x*D)))∧w'.heap[ub]?=some (.cells (uc (V%pw p+pw p*dif (V / pw p) (x*D) (n+1))) t (0,0))∧But ub w w':=by
 obtain ⟨hXl,hXt⟩:=rowY_top x D n hD hx
 obtain ⟨W,hW⟩:∃ W,W=V / pw p:=⟨_,rfl⟩
 obtain ⟨X,hX⟩:∃ X,X=x*D:=⟨_,rfl⟩
 obtain ⟨R,hR⟩:∃ R,R=dif W X (n+1):=⟨_,rfl⟩
 rw [← hX] at hXl hXt
 rw [← hW,← hX,← hR]
 have hWl:W<pw (n+1):=by rw [hW]; exact Nat.div_lt_of_lt_mul (by rw [← pw_add]; exact hV)
 have hRl:R<pw (n+1):=by rw [hR]; exact Nat.mod_lt _ (pw_pos _)
 have hall:=winf_all V R p (n+1) hRl hV
 have hbor:=bor_all W X (n+1) hWl hXl
 have HD:=Hd hd
 have HW:=Hd hW
 have HX:=Hd hX
 have HR:=Hd hR
 have HXL:=Hd hXl
 have HXT:=Hd hXt
 have HALL:=Hd hall
 have HBOR:=Hd hbor
 have hd9:w.cell? ⟨d,9,none⟩=some (.int .i64 n):=by rw [cO hd]; rfl
 have hdlt:=lt_of hd
 have hult:=lt_of hu
 have HU:=Hd hu
 clear hd hW hX hR hXl hXt hall hbor hu
 go_enter Tryz.func114,Tryz.ntmps114
 go_wp2_with (fail)
 go_loopw [19,9,10] (fun iv bv cv wr=>∃ i:Nat,i≤n∧iv=.int .i64 i∧bv=wn (bor W X i)∧cv=wn (rowY x D i / pw i)∧wr.heap[ub]?=some (.cells (fa wn 19 (winf V R p i)) t (0,0))∧But ub w wr) (fun iv _ _ _=>n - (intOf iv).toNat)
 case atStart=>exact ⟨0,by omega,rfl,by rw [bor_zero]; rfl,by rw [rowY_zero,Nat.zero_div]; rfl,by rw [winf_zero]; exact HU.out,But.refl _ _⟩
 case round=>
  obtain ⟨i,hi,rfl,rfl,rfl,q1,hbr⟩:=hrel
  have H1:=Hd q1
  have HDr:=Hd (hbr.heap hne HD.out)
  have hbl:=bor_le W X i
  have hel:=rowY_lt x D i hx
  by_cases hlt:i<n
  ·have cd:wr.cell? ⟨d,i,none⟩=some (wn (dig D i)):=by rw [cO HDr.out,dc_get _ _ _ _ (by omega)]
   have cu:wr.cell? ⟨ub,p+i,none⟩=some (wn (dig W i)):=by rw [cO q1,fa_get _ _ _ _ (by omega),winf_at,HW.out,dig_div]
   have fu:=frozen_of q1 (p+i)
   have hyl:=dig_lt D i
   have hr:=rowY_dig x D i
   rw [← HX.out] at hr
   have hc:=rowY_carry x D i
   have hdd:=dig_dif W X (n+1) i HXL.out (by omega)
   rw [← HR.out] at hdd
   have hbs:=bor_succ W X i
   obtain ⟨E,hE⟩:∃ E,E=rowY x D i / pw i:=⟨_,rfl⟩
   obtain ⟨b,hb⟩:∃ b,b=bor W X i:=⟨_,rfl⟩
   obtain ⟨P,hP⟩:∃ P,P=x*dig D i:=⟨_,rfl⟩
   have hPl:P≤18446744073709551615*18446744073709551615:=by rw [hP]; exact word_mul _ _ hx hyl
   have hmc:=fun w=>mul64_calls x (dig D i) hx hyl w
   rw [← hE,← hP] at hr hc
   rw [← hb] at hdd hbs hbl ⊢
   rw [← hE] at hel ⊢
   rw [← hP] at hmc
   have HMC:=Hd hmc
   have HRr:=Hd hr
   have HCc:=Hd hc
   have HDD:=Hd hdd
   have HBS:=Hd hbs
   have hi9:i<9:=by omega
   have hpi:p+i<19:=by omega
   clear q1 hr hc hdd hbs hE hb hP hmc
   go_wp2_with (fail)
   with_reducible refine (HMC.out _).mono ?_
   rintro e w5 ⟨rfl,rfl⟩
   go_wp2_with (fail)
   rw [← HRr.out,← HDD.out]
   have h4:=set_of H1.out (p+i) (wn (dig R i))
   rw [fa_set,winf_step] at h4
   refine ⟨⟨i+1,by omega,by go_num,?_,?_,h4,hbr.setCell (.inl rfl) _⟩,by simp [intOf]; omega⟩
   ·rw [HBS.out]
   ·rw [HCc.out]
    congr 1
    omega
  ·obtain rfl:i=n:=by omega
   have cu:wr.cell? ⟨ub,p+i,none⟩=some (wn (dig W i)):=by rw [cO q1,fa_get _ _ _ _ (by omega),winf_at,HW.out,dig_div]
   have cn:wr.cell? ⟨d,9,none⟩=some (.int .i64 i):=by rw [cO HDr.out]; rfl
   have fu:=frozen_of q1 (p+i)
   have hdd:=dig_dif W X (i+1) i HXL.out (by omega)
   rw [← HR.out] at hdd
   have hbs:=bor_succ W X i
   rw [HBOR.out] at hbs
   have hcx:=HXT.out
   obtain ⟨b,hb⟩:∃ b,b=bor W X i:=⟨_,rfl⟩
   rw [← hb] at hdd hbs hbl ⊢
   rw [hcx]
   obtain ⟨y,hy⟩:∃ y,y=dig X i:=⟨_,rfl⟩
   rw [← hy] at hdd hbs ⊢
   obtain ⟨x1,hx1⟩:∃ x1,x1=dig W i:=⟨_,rfl⟩
   rw [← hx1] at hdd hbs cu
   have hwr:IntKind.i64.wrap ((p:Int)+(i:Int))=((p+i:Nat):Int):=by rw [IntWalk.i64_in _ (by omega)]; omega
   have hpi:p+i<19:=by omega
   have hpI:((p+i:Nat):Int)<19:=by omega
   have h4:=set_of H1.out (p+i) (wn (dig R i))
   rw [fa_set,winf_step,HALL.out] at h4
   have H4:=Hd h4
   have hB4:But ub w (wr.setCell ⟨ub,p+i,none⟩ (wn (dig R i))):=hbr.setCell (.inl rfl) _
   have HB4:=Hd hB4
   have hfin:decide (W<X)=decide (x1<y+b):=by
    by_cases h:W<X <;> by_cases h2:x1<y+b <;> simp [h,h2] at hbs ⊢
   have HDD:=Hd hdd
   have HFIN:=Hd hfin
   clear q1 hcx hb hy hx1 h4 hB4 hdd hfin hbs
   go_wp2_with (fail)
   go_region
   rw [← HDD.out]
   go_wp2_with (fail)
   all_goals
    go_ret
    refine ⟨?_,H4.out,HB4.out.drew⟩
    rw [HFIN.out]
    simp [*]
theorem div_back (d ub V D n s p:Nat) (w:World) (hn:n≤9) (hp:p+n≤18) (hD:D<pw n) (hV:V<pw (p+(n+1))) (hne:d≠ub)
  (hd:w.heap[d]?=some (.cells (dc D n s) 189 (0,0))) {t:TypeId} (hu:w.heap[ub]?=some (.cells (uc V) t (0,0))) :
  Calls Tryz.prog 115 #[.pointer (some ⟨d,0,none⟩),.slice (some ⟨ub,0,none⟩) 19 19,.int .i64 p] w fun e w'=>
   e=.returned (.bool (decide (pw (n+1)≤V / pw p+D)))∧w'.heap[ub]?=some (.cells (uc (V%pw p+pw p*((V / pw p+D)%pw (n+1)))) t (0,0))∧But ub w w':=by
 obtain ⟨W,hW⟩:∃ W,W=V / pw p:=⟨_,rfl⟩
 obtain ⟨R,hR⟩:∃ R,R=(W+D)%pw (n+1):=⟨_,rfl⟩
 rw [← hW,← hR]
 have hWl:W<pw (n+1):=by rw [hW]; exact Nat.div_lt_of_lt_mul (by rw [← pw_add]; exact hV)
 have hDl:D<pw (n+1):=Nat.lt_of_lt_of_le hD (Nat.pow_le_pow_right (by decide) (Nat.le_succ n))
 have hRl:R<pw (n+1):=by rw [hR]; exact Nat.mod_lt _ (pw_pos _)
 have hRd:∀ i,i<n+1→dig R i=dig (W+D) i:=fun i hi=>by rw [hR]; exact dig_mod _ _ _ hi
 have hall:=winf_all V R p (n+1) hRl hV
 have hcar:=car_all W D (n+1) hWl hDl
 have hDn:=dig_high D n hD n (Nat.le_refl _)
 have HDn:=Hd hDn
 have HD:=Hd hd
 have HW:=Hd hW
 have HRd:=Hd hRd
 have HALL:=Hd hall
 have HCAR:=Hd hcar
 have hd9:w.cell? ⟨d,9,none⟩=some (.int .i64 n):=by rw [cO hd]; rfl
 have hdlt:=lt_of hd
 have hult:=lt_of hu
 have HU:=Hd hu
 clear hd hW hR hRd hall hcar hu hDn
 go_enter Tryz.func115,Tryz.ntmps115
 go_wp2_with (fail)
 go_loopw [13,7] (fun iv cv wr=>∃ i:Nat,i≤n∧iv=.int .i64 i∧cv=wn (car W D i)∧wr.heap[ub]?=some (.cells (fa wn 19 (winf V R p i)) t (0,0))∧But ub w wr) (fun iv _ _=>n - (intOf iv).toNat)
 case atStart=>exact ⟨0,by omega,rfl,by rw [car_zero]; rfl,by rw [winf_zero]; exact HU.out,But.refl _ _⟩
 case round=>
  obtain ⟨i,hi,rfl,rfl,q1,hbr⟩:=hrel
  have H1:=Hd q1
  have HDr:=Hd (hbr.heap hne HD.out)
  have hcl:=car_le W D i
  have cu:wr.cell? ⟨ub,p+i,none⟩=some (wn (dig W i)):=by rw [cO q1,fa_get _ _ _ _ (by omega),winf_at,HW.out,dig_div]
  have fu:=frozen_of q1 (p+i)
  have hwr:IntKind.i64.wrap ((p:Int)+(i:Int))=((p+i:Nat):Int):=by rw [IntWalk.i64_in _ (by omega)]; omega
  have hpi:p+i<19:=by omega
  have hpI:((p+i:Nat):Int)<19:=by omega
  have h4:=set_of H1.out (p+i) (wn (dig R i))
  rw [fa_set,winf_step] at h4
  have hdg:=dig_add W D i
  rw [← HRd.out i (by omega)] at hdg
  have hcs:=car_succ W D i
  by_cases hlt:i<n
  ·have cd:wr.cell? ⟨d,i,none⟩=some (wn (dig D i)):=by rw [cO HDr.out,dc_get _ _ _ _ (by omega)]
   have hi9:i<9:=by omega
   have HDG:=Hd hdg
   have HCS:=Hd hcs
   have H4:=Hd h4
   clear q1 hdg hcs h4
   go_wp2_with (fail)
   go_region
   rw [← HDG.out,← HCS.out]
   go_wp2_with (fail)
   go_roundw
   case rel=>exact ⟨i+1,by omega,by go_num,rfl,H4.out,(hbr.setCell (.inl rfl) _).drew⟩
   case measure=>simp [intOf]; omega
  ·obtain rfl:i=n:=by omega
   have cn:wr.cell? ⟨d,9,none⟩=some (.int .i64 i):=by rw [cO HDr.out]; rfl
   rw [HDn.out] at hdg hcs
   rw [HCAR.out] at hcs
   rw [HALL.out] at h4
   obtain ⟨c,hc⟩:∃ c,c=car W D i:=⟨_,rfl⟩
   rw [← hc] at hdg hcs hcl ⊢
   have hdg':dig R i=(dig W i+c)%18446744073709551616:=by rw [hdg]; rfl
   have hcs':(if W+D<pw (i+1) then 0 else 1)=(dig W i+c) / 18446744073709551616:=by rw [hcs]; rfl
   have hfin:decide (pw (i+1)≤W+D)=decide ((dig W i+c) / 18446744073709551616=1):=by
    rw [← hcs']
    by_cases h:W+D<pw (i+1)
    ·rw [if_pos h]; simp; omega
    ·rw [if_neg h]; simp; omega
   have HFIN:=Hd hfin
   have HDG:=Hd hdg'
   have H4:=Hd h4
   clear q1 hdg hcs h4 hc hfin hdg' hcs'
   go_wp2_with (fail)
   go_region
   rw [← HDG.out]
   go_wp2_with (fail)
   go_ret
   exact ⟨by rw [HFIN.out]; rfl,H4.out,(hbr.setCell (.inl rfl) _).drew⟩
end Go.Proofs.YtkoonhiplicbkaaGreat.Cw
namespace Go.Proofs.YtkoonhiplicbkaaGreat.Cw
open Go Go.RowKit
theorem shift_in (A s i:Nat) (hs:s≤63):upd (upd (dig (A%pw i*2 ^ s)) i (dig (A%pw i*2 ^ s) i ||| dig A i*2 ^ s%18446744073709551616)) (i+1) (dig A i / 2 ^ (64 - s))=dig (A%pw (i+1)*2 ^ s):=by
 have hS:0<2 ^ s:=Nat.pow_pos (by decide)
 have hstep:A%pw (i+1)*2 ^ s=A%pw i*2 ^ s+pw i*(dig A i*2 ^ s):=by rw [mod_pw_succ,Nat.add_mul,Nat.mul_assoc]
 have hdm:∀ j,j<i+1→dig (A%pw (i+1)) j=dig A j:=fun j hj=>dig_mod _ _ _ hj
 have hd0:dig (A%pw (i+1)) (i+1)=0:=dig_high _ (i+1) (Nat.mod_lt _ (pw_pos _)) _ (Nat.le_refl _)
 have hd00:dig (A%pw i) i=0:=dig_high _ i (Nat.mod_lt _ (pw_pos _)) _ (Nat.le_refl _)
 have hlt:A%pw (i+1)*2 ^ s<pw (i+2):=by
  have h1:=Nat.mod_lt A (pw_pos (i+1))
  have h2:2 ^ s≤18446744073709551616:=by
   rw [show (18446744073709551616:Nat)=2 ^ 64 from rfl]
   exact Nat.pow_le_pow_right (by decide) (by omega)
  have h3:A%pw (i+1)*2 ^ s<pw (i+1)*2 ^ s:=Nat.mul_lt_mul_of_pos_right h1 hS
  have h4:pw (i+1)*2 ^ s≤pw (i+1)*18446744073709551616:=Nat.mul_le_mul_left _ h2
  have h5:pw (i+2)=pw (i+1)*18446744073709551616:=pw_succ (i+1)
  omega
 funext j
 unfold upd
 by_cases h1:j=i+1
 ·rw [if_pos h1,h1,dig_shl _ s i (by omega),hd0,hdm i (by omega)]
  simp
 ·rw [if_neg h1]
  by_cases h2:j=i
  ·rw [if_pos h2,h2]
   cases i with
   | zero=>
    rw [dig_shl0,dig_shl0,hdm 0 (by omega),hd00]
    simp
   | succ i'=>
    rw [dig_shl _ s i' (by omega),dig_shl _ s i' (by omega),hd00,hdm (i' + 1) (by omega),hdm i' (by omega),dig_mod A (i' + 1) i' (by omega)]
    simp
    rw [Nat.or_comm]
  ·rw [if_neg h2]
   rcases Nat.lt_or_ge j i with h3 | h3
   ·rw [hstep,cc_low _ _ _ _ h3]
   ·rw [dig_high _ (i+2) hlt j (by omega)]
    have h4:A%pw i*2 ^ s<pw (i+1):=by
     have h5:=Nat.mod_lt A (pw_pos i)
     have h6:2 ^ s≤18446744073709551616:=by
      rw [show (18446744073709551616:Nat)=2 ^ 64 from rfl]
      exact Nat.pow_le_pow_right (by decide) (by omega)
     have h7:A%pw i*2 ^ s<pw i*2 ^ s:=Nat.mul_lt_mul_of_pos_right h5 hS
     have h8:pw i*2 ^ s≤pw i*18446744073709551616:=Nat.mul_le_mul_left _ h6
     have h9:pw (i+1)=pw i*18446744073709551616:=pw_succ i
     omega
    rw [dig_high _ (i+1) h4 j (by omega)]
theorem round_ok (V D Q p:Nat) (hD:0<D) (hQ:Q=V / pw p / D) (hV:V<D*pw (p+1)) :
  V%pw p+pw p*(V / pw p%D)<D*pw p∧(V%pw p+pw p*(V / pw p%D))+D*(pw p*Q)=V:=by
 have h1:=Nat.mod_lt V (pw_pos p)
 have h2:=Nat.mod_lt (V / pw p) hD
 have h3:=Nat.div_add_mod (V / pw p) D
 have h4:=split_pw V p
 refine ⟨?_,?_⟩
 ·have h5:pw p*(V / pw p%D+1)≤pw p*D:=Nat.mul_le_mul_left _ h2
  rw [Nat.mul_add,Nat.mul_comm (pw p) D] at h5
  omega
 ·rw [← hQ] at h3
  have h6:D*(pw p*Q)=pw p*(D*Q):=Nat.mul_left_comm _ _ _
  have h7:pw p*(V / pw p)=pw p*(D*Q)+pw p*(V / pw p%D):=by rw [← Nat.mul_add,h3]
  omega
theorem put_word (Q p x:Nat) (hQ:Q%pw (p+1)=0) (hx:x<18446744073709551616):upd (dig Q) p x=dig (Q+pw p*x):=by
 have h0:dig Q p=0∧Q%pw p=0:=by
  rw [mod_pw_succ] at hQ
  have:=pw_pos p
  rcases Nat.eq_zero_or_pos (dig Q p) with h | h
  ·exact ⟨h,by omega⟩
  ·exfalso
   have:pw p*1≤pw p*dig Q p:=Nat.mul_le_mul_left _ h
   omega
 funext j
 unfold upd
 by_cases h:j=p
 ·subst h
  rw [if_pos rfl]
  have h1:=cc_dig Q 0 j x
  rw [Nat.add_zero] at h1
  rw [h1,h0.1,cc_zero,Nat.zero_add,Nat.add_zero,Nat.mod_eq_of_lt hx]
 ·rw [if_neg h]
  rcases Nat.lt_or_ge j p with h1 | h1
  ·rw [cc_low _ _ _ _ h1]
  ·have e:(Q+pw p*x) / pw (p+1)=Q / pw (p+1):=by
    have h2:=split_pw Q (p+1)
    rw [hQ,Nat.add_zero] at h2
    have h3:pw p*x<pw (p+1):=by rw [pw_succ]; exact Nat.mul_lt_mul_of_pos_left hx (pw_pos p)
    rw [h2,Nat.mul_comm,Nat.add_comm,Nat.add_mul_div_right _ _ (pw_pos _),Nat.div_eq_of_lt h3,Nat.mul_div_cancel _ (pw_pos _)]
    omega
   have h4:=dig_div (Q+pw p*x) (p+1) (j - (p+1))
   have h5:=dig_div Q (p+1) (j - (p+1))
   rw [e] at h4
   rw [show p+1+(j - (p+1))=j by omega] at h4 h5
   rw [← h4,← h5]
theorem back_once (W D x P:Nat) (hW:W<P) (hx:0<x) (hlt:W<x*D) (hX:x*D<P) :
  ((W+P - x*D)%P+D)%P=(W+P - (x - 1)*D)%P∧(P≤(W+P - x*D)%P+D↔(x - 1)*D≤W):=by
 obtain ⟨y,rfl⟩:∃ y,x=y+1:=⟨x - 1,by omega⟩
 rw [Nat.add_sub_cancel]
 rw [Nat.add_mul,Nat.one_mul] at hlt hX ⊢
 generalize y*D=Y at *
 have e1:(W+P - (Y+D))%P=W+P - (Y+D):=Nat.mod_eq_of_lt (by omega)
 rw [e1]
 refine ⟨?_,by omega⟩
 congr 1
 omega
end Go.Proofs.YtkoonhiplicbkaaGreat.Cw
