/-
  (package mask) Zero and Equal of small words, Select. Condition: words below 16.
-/
import Derived.Test.YtkoonhiplicbkaaGreatQk14
import Derived.Test.YtkoonhiplicbkaaGreatQk19
set_option linter.unusedSimpArgs false
set_option linter.unusedVariables false
set_option maxHeartbeats 4000000
set_option maxRecDepth 100000
namespace Go.Proofs.YtkoonhiplicbkaaGreat.Cw
open Go Go.RowKit
theorem mask_zero16 (x:Nat) (hx:x<16) (w:World):Calls Tryz.prog 155 #[wn x] w fun e w'=>e=.returned (mw (decide (x=0)))∧w=w':=by
  obtain rfl | rfl | rfl | rfl | rfl | rfl | rfl | rfl | rfl | rfl | rfl | rfl | rfl | rfl | rfl | rfl:x=0∨x=1∨x=2∨x=3∨x=4∨x=5∨x=6∨x=7∨x=8∨x=9∨x=10∨x=11∨x=12∨x=13∨x=14∨x=15:=by omega
  · show Calls _ _ #[.int .u64 0] w _
    go_enter Tryz.func155,Tryz.ntmps155
    go_wp2_with (go_at_call 162; refine (mask_spread true _).mono ?_; rintro e w2 ⟨rfl,rfl⟩)
    go_ret
    exact ⟨rfl,rfl⟩
  · show Calls _ _ #[.int .u64 1] w _
    go_enter Tryz.func155,Tryz.ntmps155
    go_wp2_with (go_at_call 162; refine (mask_spread false _).mono ?_; rintro e w2 ⟨rfl,rfl⟩)
    go_ret
    exact ⟨rfl,rfl⟩
  · show Calls _ _ #[.int .u64 2] w _
    go_enter Tryz.func155,Tryz.ntmps155
    go_wp2_with (go_at_call 162; refine (mask_spread false _).mono ?_; rintro e w2 ⟨rfl,rfl⟩)
    go_ret
    exact ⟨rfl,rfl⟩
  · show Calls _ _ #[.int .u64 3] w _
    go_enter Tryz.func155,Tryz.ntmps155
    go_wp2_with (go_at_call 162; refine (mask_spread false _).mono ?_; rintro e w2 ⟨rfl,rfl⟩)
    go_ret
    exact ⟨rfl,rfl⟩
  · show Calls _ _ #[.int .u64 4] w _
    go_enter Tryz.func155,Tryz.ntmps155
    go_wp2_with (go_at_call 162; refine (mask_spread false _).mono ?_; rintro e w2 ⟨rfl,rfl⟩)
    go_ret
    exact ⟨rfl,rfl⟩
  · show Calls _ _ #[.int .u64 5] w _
    go_enter Tryz.func155,Tryz.ntmps155
    go_wp2_with (go_at_call 162; refine (mask_spread false _).mono ?_; rintro e w2 ⟨rfl,rfl⟩)
    go_ret
    exact ⟨rfl,rfl⟩
  · show Calls _ _ #[.int .u64 6] w _
    go_enter Tryz.func155,Tryz.ntmps155
    go_wp2_with (go_at_call 162; refine (mask_spread false _).mono ?_; rintro e w2 ⟨rfl,rfl⟩)
    go_ret
    exact ⟨rfl,rfl⟩
  · show Calls _ _ #[.int .u64 7] w _
    go_enter Tryz.func155,Tryz.ntmps155
    go_wp2_with (go_at_call 162; refine (mask_spread false _).mono ?_; rintro e w2 ⟨rfl,rfl⟩)
    go_ret
    exact ⟨rfl,rfl⟩
  · show Calls _ _ #[.int .u64 8] w _
    go_enter Tryz.func155,Tryz.ntmps155
    go_wp2_with (go_at_call 162; refine (mask_spread false _).mono ?_; rintro e w2 ⟨rfl,rfl⟩)
    go_ret
    exact ⟨rfl,rfl⟩
  · show Calls _ _ #[.int .u64 9] w _
    go_enter Tryz.func155,Tryz.ntmps155
    go_wp2_with (go_at_call 162; refine (mask_spread false _).mono ?_; rintro e w2 ⟨rfl,rfl⟩)
    go_ret
    exact ⟨rfl,rfl⟩
  · show Calls _ _ #[.int .u64 10] w _
    go_enter Tryz.func155,Tryz.ntmps155
    go_wp2_with (go_at_call 162; refine (mask_spread false _).mono ?_; rintro e w2 ⟨rfl,rfl⟩)
    go_ret
    exact ⟨rfl,rfl⟩
  · show Calls _ _ #[.int .u64 11] w _
    go_enter Tryz.func155,Tryz.ntmps155
    go_wp2_with (go_at_call 162; refine (mask_spread false _).mono ?_; rintro e w2 ⟨rfl,rfl⟩)
    go_ret
    exact ⟨rfl,rfl⟩
  · show Calls _ _ #[.int .u64 12] w _
    go_enter Tryz.func155,Tryz.ntmps155
    go_wp2_with (go_at_call 162; refine (mask_spread false _).mono ?_; rintro e w2 ⟨rfl,rfl⟩)
    go_ret
    exact ⟨rfl,rfl⟩
  · show Calls _ _ #[.int .u64 13] w _
    go_enter Tryz.func155,Tryz.ntmps155
    go_wp2_with (go_at_call 162; refine (mask_spread false _).mono ?_; rintro e w2 ⟨rfl,rfl⟩)
    go_ret
    exact ⟨rfl,rfl⟩
  · show Calls _ _ #[.int .u64 14] w _
    go_enter Tryz.func155,Tryz.ntmps155
    go_wp2_with (go_at_call 162; refine (mask_spread false _).mono ?_; rintro e w2 ⟨rfl,rfl⟩)
    go_ret
    exact ⟨rfl,rfl⟩
  · show Calls _ _ #[.int .u64 15] w _
    go_enter Tryz.func155,Tryz.ntmps155
    go_wp2_with (go_at_call 162; refine (mask_spread false _).mono ?_; rintro e w2 ⟨rfl,rfl⟩)
    go_ret
    exact ⟨rfl,rfl⟩
section
attribute [local go_sem ↓ high] wn_xor
attribute [local go_sem high] wn_xor
theorem mask_equal16 (k i:Nat) (hk:k<16) (hi:i<16) (w:World):Calls Tryz.prog 133 #[wn k,wn i] w fun e w'=>e=.returned (mw (decide (k=i)))∧w=w':=by
  have hk2:k<18446744073709551616:=by omega
  have hi2:i<18446744073709551616:=by omega
  have hx:=Hd (show k ^^^ i<16 from Nat.xor_lt_two_pow (n:=4) hk hi)
  go_enter Tryz.func133,Tryz.ntmps133
  go_wp2_with (go_at_call 155; refine (mask_zero16 _ hx.out _).mono ?_; rintro e w2 ⟨rfl,rfl⟩)
  go_ret
  refine ⟨?_,rfl⟩
  have hz:decide (k ^^^ i=0)=decide (k=i):=by
    rw [decide_eq_decide]
    refine ⟨fun h=>?_,fun h=>by rw [h,Nat.xor_self]⟩
    have:=congrArg (fun n=>n ^^^ i) h
    simpa only [Nat.xor_assoc,Nat.xor_self,Nat.xor_zero,Nat.zero_xor] using this
  rw [← hz]
  rfl
end
section
variable (t:TypeId) (a:Nat)
theorem wn_ands (ha:a<18446744073709551616):binOp .and t (wn a) (wn 18446744073709551615)=pure (wn a):=by
  rw [wn_and t a _ ha (by decide),show (18446744073709551615:Nat)=2 ^ 64 - 1 from rfl,Nat.and_two_pow_sub_one_eq_mod,Nat.mod_eq_of_lt (by simpa using ha)]
theorem wn_andz (ha:a<18446744073709551616):binOp .and t (wn a) (wn 0)=pure (wn 0):=by
  rw [wn_and t a _ ha (by decide),Nat.and_zero]
theorem wn_notz (ha:a<18446744073709551616):binOp .andNot t (wn a) (wn 0)=pure (wn a):=by
  refine wn_bitsN _ _ ?_
  show (BitVec.ofInt 64 (a:Int) &&& ~~~ BitVec.ofInt 64 ((0:Nat):Int)).toNat=_
  rw [BitVec.ofInt_natCast,show ~~~ BitVec.ofInt 64 ((0:Nat):Int)=BitVec.allOnes 64 from rfl,BitVec.and_allOnes,BitVec.toNat_ofNat,Nat.mod_eq_of_lt ha]
theorem wn_nots:binOp .andNot t (wn a) (wn 18446744073709551615)=pure (wn 0):=by
  refine wn_bitsN _ _ ?_
  show (BitVec.ofInt 64 (a:Int) &&& ~~~ BitVec.ofInt 64 ((18446744073709551615:Nat):Int)).toNat=_
  rw [show ~~~ BitVec.ofInt 64 ((18446744073709551615:Nat):Int)=0#64 from rfl,BitVec.and_zero]; rfl
theorem wn_orz (ha:a<18446744073709551616):binOp .or t (wn a) (wn 0)=pure (wn a):=by
  rw [wn_or t a 0 ha (by decide),Nat.or_zero]
theorem wn_zor (ha:a<18446744073709551616):binOp .or t (wn 0) (wn a)=pure (wn a):=by
  rw [wn_or t 0 a (by decide) ha,Nat.zero_or]
end
def mwn (b:Bool):Nat:=if b then 18446744073709551615 else 0
section
attribute [local go_sem ↓ high] wn_ands wn_andz wn_notz wn_nots wn_orz wn_zor wn_cells wRS wn_guard lit0
attribute [local go_sem high] wn_ands wn_andz wn_notz wn_nots wn_orz wn_zor wn_match wRS
def pk (b:Bool) (x y:Nat):Nat:=if b then x else y
theorem mask_word (b:Bool) (x y:Nat) (hx:x<18446744073709551616) (hy:y<18446744073709551616) (w:World):Calls Tryz.prog 157 #[.agg #[wn (mwn b)],wn x,wn y] w fun e w'=>e=.returned (wn (pk b x y))∧Below w.heap.size w w':=by
  cases b
  · show Calls _ _ #[.agg #[wn 0],wn x,wn y] w fun e w'=>e=.returned (wn y)∧Below w.heap.size w w'
    go_enter Tryz.func157,Tryz.ntmps157
    go_wp2
    go_ret
    exact ⟨rfl,(Below.refl _ _).alloc (Nat.le_refl _) _⟩
  · show Calls _ _ #[.agg #[wn 18446744073709551615],wn x,wn y] w fun e w'=>e=.returned (wn x)∧Below w.heap.size w w'
    go_enter Tryz.func157,Tryz.ntmps157
    go_wp2
    go_ret
    exact ⟨rfl,(Below.refl _ _).alloc (Nat.le_refl _) _⟩
end
theorem pk_dig (b:Bool) (x y k:Nat):pk b (dig x k) (dig y k)=dig (pk b x y) k:=by cases b <;> rfl
theorem nc_fa (x:Nat):nc x=fa wn 9 (dig x):=rfl
attribute [local irreducible] pc ptc nc
attribute [local go_sem ↓ high] wn_eql wn_neq wn_lss wn_gtr wn_leq wn_geq wn_cells wRS wn_guard lit0 lit1
attribute [local go_sem high] wn_match wRS wn_eql wn_neq wn_lss wn_gtr wn_leq wn_geq
theorem mask_nat (b:Bool) (x y:Nat) (hx:x<pw 9) (hy:y<pw 9) (w:World):Calls Tryz.prog 156 #[.func (.func 157) #[.agg #[wn (mwn b)]] #[],.agg (nc x),.agg (nc y)] w fun e w'=>e=.returned (.agg (nc (pk b x y)))∧Below w.heap.size w w':=by
  go_enter Tryz.func156,Tryz.ntmps156
  go_upto_region 1 with fail
  rw [← nZ]
  have m0:=Mem.start3 w (nc x) (nc y) (nc 0) 27 27 27
  obtain ⟨w1,hw1⟩:∃ w1:World,w1=(((w.alloc (.cells (nc x) 27)).alloc (.cells (nc y) 27)).alloc (.cells (nc 0) 27)):=⟨_,rfl⟩
  rw [← hw1] at m0 ⊢
  clear hw1
  obtain ⟨g,hg⟩:∃ g,g=w.heap.size:=⟨_,rfl⟩
  rw [← hg] at m0 ⊢
  have HG:=Hd hg
  have M:=Hd m0
  clear hg m0
  go_wp2
  go_loopw [8] (fun iv wr=>∃ k:Nat,k≤9∧iv=.int .i64 k∧Mem w wr [(g,fa wn 9 (mixd (pk b x y) x k),27),(g+1,nc y,27),(g+1+1,nc 0,27)]) (fun iv _=>(9 - intOf iv).toNat)
  case atStart=>exact ⟨0,by omega,rfl,by rw [mixd_zero,← nc_fa]; exact M.out⟩
  case round=>
    obtain ⟨k,hk,rfl,hm⟩:=hrel
    have M:=Hd hm
    clear hm
    by_cases hlt:k<9
    · have hdx:dig x k<18446744073709551616:=dig_lt x k
      have hdy:dig y k<18446744073709551616:=dig_lt y k
      go_upto_region 4 with (fail)
      have D:=Hd (M.out.drew)
      clear M
      refine rGw 11 13 (by kernel_rfl) (by kernel_rfl) (fun d v c a w h=>by cases d <;> exact h) ?_
      simp only [List.take_succ_cons,List.take_zero]
      refine gK (.int .i64 k) ?_
      refine gK (.func (.func 157) #[.agg #[wn (mwn b)]] #[]) ?_
      refine gK (.int .i64 k) ?_
      refine gK (.pointer (some ⟨g,0,none⟩)) ?_
      try simp only [Act.put,s_,t_,u_,v_,x_,y_]
      refine pG rfl (.pointer (some ⟨g,k,none⟩)) (fun u=>by go_simp) ?_
      try simp only [Act.put,s_,t_,u_,v_,x_,y_]
      refine wpGrow_load_cell rfl 24 (.tmp 15) rfl g k (by kernel_rfl) (wn (dig x k)) _ Tryz.underlying24 rfl (fun u hu=>by rw [cO (D.out.up 0 rfl hu),fa_get _ _ _ _ hlt,mixd_at]) ?_
      refine gK (.int .i64 k) ?_
      refine gK (.pointer (some ⟨g+1,0,none⟩)) ?_
      try simp only [Act.put,s_,t_,u_,v_,x_,y_]
      refine pG rfl (.pointer (some ⟨g+1,k,none⟩)) (fun u=>by go_simp) ?_
      try simp only [Act.put,s_,t_,u_,v_,x_,y_]
      refine wpGrow_load_cell rfl 24 (.tmp 19) rfl (g+1) k (by kernel_rfl) (wn (dig y k)) _ Tryz.underlying24 rfl (fun u hu=>(cO (D.out.up 1 rfl hu) k).trans (nc_get _ _ hlt)) ?_
      refine fG rfl 157 (.tmp 12) #[.tmp 16,.tmp 20] #[24,24] rfl #[.agg #[wn (mwn b)]] #[wn (dig x k),wn (dig y k)] (by kernel_rfl) (by kernel_rfl) (fun u=>cE _ _ _ _ u Tryz.func157 (by kernel_rfl) (by kernel_rfl)) (wn (dig (pk b x y) k)) (fun u hu=>by rw [← pk_dig]; exact mask_word b (dig x k) (dig y k) hdx hdy u) ?_
      refine gN ?_
      try simp only [Act.put,s_,t_,u_,v_,x_,y_]
      refine grow_ready (rs:=[11]) (by kernel_rfl) (by simp) (fun u1 hG1=>?_)
      have N1:=Hd (D.out.grow hG1)
      clear hG1 D
      refine GAll.pure (by decide) rfl rfl (.pointer (some ⟨g,0,none⟩)) (fun u=>by kernel_rfl) ?_ GAll.nil
      try simp only [Act.put,s_,t_,u_,v_,x_,y_]
      refine grow_ready (rs:=[12]) (by kernel_rfl) (by simp) (fun u2 hG2=>?_)
      have D9:=Hd (N1.out.grow hG2)
      clear hG2 N1
      refine GAll.pure (by decide) rfl rfl (.pointer (some ⟨g,k,none⟩)) (fun u=>by go_simp) ?_ GAll.nil
      try simp only [Act.put,s_,t_,u_,v_,x_,y_]
      refine gS (rs:=[13]) (by kernel_rfl) (by decide) (fun w6 hg6=>?_)
      have N6:=Hd (D9.out.grow hg6)
      clear hg6 D9
      refine wpAny_ready (rs:=[13]) (by kernel_rfl) (by simp) ?_
      refine AllReady.cons rfl (fun K hK=>?_) AllReady.nil
      refine step_store_cell rfl 24 (.tmp 23) (.tmp 21) rfl g k rfl _ (fa wn 9 (mixd (pk b x y) x k)) (wn (dig (pk b x y) k)) rfl rfl (N6.out.at 0 rfl) (by kernel_rfl) (by rw [fS]; exact hlt) rfl (fun w7 hw hb hs=>hK _ _ ?_)
      have N7:=Hd (show Mem w w7 [(g,fa wn 9 (mixd (pk b x y) x (k+1)),27),(g+1,nc y,27),(g+1+1,nc 0,27)] from N6.out.store 0 rfl hb hs (by rw [← mixd_upd,← fa_set]; exact hw))
      clear hK hw hb hs N6
      try simp only [Act.put,s_,t_,u_,v_,x_,y_]
      refine wpAny_done (by kernel_rfl) ?_ _
      try simp only [Act.put,s_,t_,u_,v_,x_,y_]
      go_wp2_with (fail)
      go_roundw
      case rel=>exact ⟨k+1,by omega,by go_num,N7.out⟩
      case measure=>simp [intOf]; omega
    · obtain rfl:k=9:=by omega
      rw [mixd_all,← nc_fa] at M
      go_wp2_with (first
        | (refine l0N rfl (.tmp 4) rfl g rfl (M.out.at 0 rfl) ?_)
        | (refine wpN_store0 rfl (.tmp 6) (.tmp 25) rfl (g+1+1) rfl (M.out.at 2 rfl) _ rfl (nS _) ?_; intro w2 hw2 hb2 hs2; have H5:=Hd hw2; have M5:=Hd (M.out.store 2 rfl hb2 hs2 hw2); clear hw2 hb2 hs2))
      refine bodyPost_ret (results_N rfl _ _ (g+1+1) _ _ _ rfl H5.out) rfl ⟨rfl,M5.out.below⟩
/-! a number chosen by a mask -/
theorem mask_select (b:Bool) (x y:Nat) (hx:x<pw 9) (hy:y<pw 9) (w:World):Calls Tryz.prog 134 #[wn (mwn b),.agg (nc x),.agg (nc y)] w fun e w'=>e=.returned (.agg (nc (pk b x y)))∧Below w.heap.size w w':=by
  go_enter Tryz.func134,Tryz.ntmps134
  go_upto_region 1 with fail
  rw [← nZ]
  have m0:=Mem.start3 w (nc x) (nc y) (nc 0) 27 27 27
  obtain ⟨w1,hw1⟩:∃ w1:World,w1=(((w.alloc (.cells (nc x) 27)).alloc (.cells (nc y) 27)).alloc (.cells (nc 0) 27)):=⟨_,rfl⟩
  rw [← hw1] at m0 ⊢
  clear hw1
  obtain ⟨g,hg⟩:∃ g,g=w.heap.size:=⟨_,rfl⟩
  rw [← hg] at m0 ⊢
  have HG:=Hd hg
  have M:=Hd m0
  clear hg m0
  refine wp_region_lit ?_
  refine pK (wn (mwn b)) ?_
  refine pK (.agg #[wn (mwn b)]) ?_
  refine pK (.func (.func 157) #[.agg #[wn (mwn b)]] #[]) ?_
  refine l0N rfl (.tmp 4) rfl g (by kernel_rfl) (M.out.at 0 rfl) ?_
  refine l0N rfl (.tmp 5) rfl (g+1) (by kernel_rfl) (M.out.at 1 rfl) ?_
  refine fL rfl 156 (.func 156) #[.tmp 9,.tmp 10,.tmp 11] #[220,27,27] rfl #[] #[.func (.func 157) #[.agg #[wn (mwn b)]] #[],.agg (nc x),.agg (nc y)] (by kernel_rfl) (by kernel_rfl) (fun u=>cE _ _ _ _ u Tryz.func156 (by kernel_rfl) (by kernel_rfl)) (.agg (nc (pk b x y))) (mask_nat b x y hx hy w1) (fun w2 hb=>?_)
  have Nw2:=Hd (M.out.grow hb)
  clear hb M
  refine sB rfl 27 (.tmp 6) (.tmp 12) rfl (g+1+1) (by kernel_rfl) _ _ (nc (pk b x y)) (by kernel_rfl) (Nw2.out.at 2 rfl) (by rw [nS]; kernel_rfl) (by simp only [nS]) (nO _) ?_
  intro w3 hw hb hs
  have Nw3:=Hd (Nw2.out.store 2 rfl hb hs hw)
  clear hw hb hs Nw2
  refine wpList_nil ?_
  try simp only [Act.put,s_,t_,u_,v_,x_,y_]
  go_wp2_with (fail)
  refine bodyPost_ret (results_N rfl _ _ (g+1+1) _ _ _ rfl (Nw3.out.at 2 rfl)) rfl ⟨by first | rfl | simp only [*],Nw3.out.below⟩
end Go.Proofs.YtkoonhiplicbkaaGreat.Cw
