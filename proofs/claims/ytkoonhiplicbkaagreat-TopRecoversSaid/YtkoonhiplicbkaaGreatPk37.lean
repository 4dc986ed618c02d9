/-
  (package nat) Of: the number of bytes. Condition: at most 72 bytes.
-/
import Derived.Test.YtkoonhiplicbkaaGreatPk36
set_option linter.unusedSimpArgs false
set_option linter.unusedVariables false
set_option maxHeartbeats 4000000
set_option maxRecDepth 100000
namespace Go.Proofs.YtkoonhiplicbkaaGreat.Cw
open Go Go.RowKit
attribute [local go_sem ↓ high] wn_eql wn_neq wn_lss wn_gtr wn_leq wn_geq wn_cells wRS wn_guard lit0 lit1
attribute [local go_sem high] wn_match wRS wn_eql wn_neq wn_lss wn_gtr wn_leq wn_geq
def byv (s:ByteArray):Nat→Nat
  | 0=>0
  | i+1=>byv s i+let8 s (s.size - 1 - i)*256 ^ i
theorem byv_succ (s:ByteArray) (i:Nat):byv s (i+1)=byv s i+let8 s (s.size - 1 - i)*256 ^ i:=by rw [byv]
theorem let8_lt (s:ByteArray) (k:Nat):let8 s k<256:=UInt8.toNat_lt _
theorem byv_lt (s:ByteArray):∀ i,byv s i<256 ^ i
  | 0=>by show 0<256 ^ 0; decide
  | i+1=>by
    have h1:=byv_lt s i
    have h2:=let8_lt s (s.size - 1 - i)
    rw [byv_succ]
    have h3:let8 s (s.size - 1 - i)*256 ^ i≤255*256 ^ i:=Nat.mul_le_mul_right _ (by omega)
    rw [Nat.pow_succ]
    omega
theorem byv9 (s:ByteArray) (h:s.size≤72):byv s s.size<pw 9:=by
  refine Nat.lt_of_lt_of_le (byv_lt s _) ?_
  have e:pw 9=256 ^ (8*9):=by unfold pw; rw [show (18446744073709551616:Nat)=256 ^ 8 from rfl,← Nat.pow_mul]
  rw [e]
  exact Nat.pow_le_pow_right (by decide) h
theorem p256 (i:Nat):256 ^ i=pw (i / 8)*2 ^ (8*(i%8)):=by
  rw [pw_two,← Nat.pow_add,show (256:Nat)=2 ^ 8 from rfl,← Nat.pow_mul]
  congr 1
  omega
theorem by_or (V d i:Nat) (hV:V<256 ^ i) (hd:d<256):dig V (i / 8) ||| d*2 ^ (8*(i%8))%18446744073709551616=dig (V+d*256 ^ i) (i / 8):=by
  rw [p256] at hV ⊢
  have hr:i%8<8:=Nat.mod_lt _ (by decide)
  generalize i / 8=q at *
  generalize i%8=r at *
  have hq:V / pw q<2 ^ (8*r):=Nat.div_lt_of_lt_mul hV
  have hp:2 ^ (8*r)≤2 ^ 56:=Nat.pow_le_pow_right (by decide) (by omega)
  have e60:(2:Nat) ^ 56=72057594037927936:=rfl
  have h1:dig V q=V / pw q:=by unfold dig; exact Nat.mod_eq_of_lt (by omega)
  have h2:d*2 ^ (8*r)≤255*2 ^ (8*r):=Nat.mul_le_mul_right _ (by omega)
  have h3:d*2 ^ (8*r)%18446744073709551616=d*2 ^ (8*r):=Nat.mod_eq_of_lt (by omega)
  have h4:dig (V+d*(pw q*2 ^ (8*r))) q=V / pw q+d*2 ^ (8*r):=by
    unfold dig
    rw [show d*(pw q*2 ^ (8*r))=pw q*(d*2 ^ (8*r)) from Nat.mul_left_comm _ _ _,Nat.add_mul_div_left _ _ (pw_pos q)]
    exact Nat.mod_eq_of_lt (by omega)
  rw [h1,h3,h4,Nat.or_comm,Nat.mul_comm d,← Nat.two_pow_add_eq_or_of_lt hq,Nat.add_comm]
theorem by_cells (V d i:Nat) (hV:V<256 ^ i) (hd:d<256):fa wn 9 (upd (dig V) (i / 8) (dig (V+d*256 ^ i) (i / 8)))=nc (V+d*256 ^ i):=by
  refine fa_ext _ _ _ _ fun j hj=>?_
  have hr:i%8<8:=Nat.mod_lt _ (by decide)
  have hp:2 ^ (8*(i%8))≤2 ^ 56:=Nat.pow_le_pow_right (by decide) (by omega)
  have e60:(2:Nat) ^ 56=72057594037927936:=rfl
  unfold upd
  split
  · subst_vars; rfl
  · rename_i hne
    rcases Nat.lt_or_ge j (i / 8) with h | h
    · rw [p256,show d*(pw (i / 8)*2 ^ (8*(i%8)))=pw (i / 8)*(d*2 ^ (8*(i%8))) from Nat.mul_left_comm _ _ _,cc_low _ _ _ _ h]
    · have hlt:V+d*256 ^ i<pw (i / 8+1):=by
        rw [p256] at hV ⊢
        rw [pw_succ]
        have h2:d*(pw (i / 8)*2 ^ (8*(i%8)))≤255*(pw (i / 8)*2 ^ (8*(i%8))):=Nat.mul_le_mul_right _ (by omega)
        have h3:pw (i / 8)*2 ^ (8*(i%8))≤pw (i / 8)*2 ^ 56:=Nat.mul_le_mul_left _ hp
        have h4:=pw_pos (i / 8)
        rw [e60] at h3
        omega
      rw [dig_high _ _ hlt j (by omega),dig_high V (i / 8+1) (by omega) j (by omega)]
theorem nat_of (s:ByteArray) (w:World) (h72:s.size≤72):Calls Tryz.prog 75 #[.string s] w fun e w'=>e=.returned (.tuple #[.agg (nc (byv s s.size)),.int .i64 0])∧Below w.heap.size w w':=by
  have HV:=Hd (byv_lt s)
  have HA:=Hd (str_at s)
  obtain ⟨n,hn⟩:∃ n,n=s.size:=⟨_,rfl⟩
  have HN:=Hd hn
  rw [← hn] at h72 ⊢
  have hsz:s.size=n:=hn.symm
  clear hn
  go_enter Tryz.func75,Tryz.ntmps75
  go_wp2_with (fail)
  rw [← nZ]
  have m0:=Mem.start2 w (nc 0) (nc 0) 27 27
  obtain ⟨w1,hw1⟩:∃ w1:World,w1=((w.alloc (.cells (nc 0) 27)).alloc (.cells (nc 0) 27)):=⟨_,rfl⟩
  rw [← hw1] at m0 ⊢
  clear hw1
  obtain ⟨g,hg⟩:∃ g,g=w.heap.size:=⟨_,rfl⟩
  rw [← hg] at m0 ⊢
  have HG:=Hd hg
  have M:=Hd m0
  clear hg m0
  go_loopw [13] (fun iv wr=>∃ i:Nat,i≤n∧iv=.int .i64 i∧Mem w wr [(g,nc 0,27),(g+1,nc (byv s i),27)]) (fun iv _=>n - (intOf iv).toNat)
  case atStart=>exact ⟨0,by omega,rfl,M.out⟩
  case round=>
    obtain ⟨i,hi,rfl,hm⟩:=hrel
    have M:=Hd hm
    clear hm
    by_cases hlt:i<n
    · obtain ⟨k,hk⟩:∃ k,k=n - 1 - i:=⟨_,rfl⟩
      have e1:(n:Int) - 1 - (i:Int)=(k:Int):=by omega
      have hkn:k<s.size:=by omega
      have hx:=fun w=>HA.out k hkn w
      have hVi:=HV.out i
      obtain ⟨c,hc⟩:∃ c,c=let8 s k:=⟨_,rfl⟩
      rw [← hc] at hx
      have hc256:c<256:=by rw [hc]; exact let8_lt _ _
      have hv1:byv s (i+1)=byv s i+c*256 ^ i:=by rw [hc,hk,HN.out,byv_succ]
      obtain ⟨V,hV⟩:∃ V,V=byv s i:=⟨_,rfl⟩
      rw [← hV] at M hVi hv1
      have hor:=by_or V c i hVi hc256
      have hcl:=by_cells V c i hVi hc256
      rw [← hv1] at hor hcl
      obtain ⟨V',hV'⟩:∃ V',V'=byv s (i+1):=⟨_,rfl⟩
      rw [← hV'] at hor hcl
      obtain ⟨q,hq⟩:∃ q,q=i / 8:=⟨_,rfl⟩
      obtain ⟨r,hr⟩:∃ r,r=i%8:=⟨_,rfl⟩
      rw [← hq] at hor hcl
      rw [← hr] at hor
      have q9:q<9:=by omega
      have e2:(i:Int) / 8=(q:Int):=by omega
      have e3:(i:Int).tmod 8=(r:Int):=by rw [Int.tmod_eq_emod_of_nonneg (by omega)]; omega
      have q9i:(q:Int)<9:=by omega
      obtain ⟨r4,hr4⟩:∃ r4,r4=8*r:=⟨_,rfl⟩
      rw [← hr4] at hor
      have hr16:r<8:=by omega
      have w1:IntKind.i64.wrap (q:Int)=(q:Int):=IntWalk.i64_in _ (by omega)
      have w2:IntKind.i64.wrap (r:Int)=(r:Int):=IntWalk.i64_in _ (by omega)
      have w3:IntKind.i64.wrap (r4:Int)=(r4:Int):=IntWalk.i64_in _ (by omega)
      have e4:(8:Int)*(r:Int)=(r4:Int):=by omega
      have v1:∀ w,(convert 5 24 (.int .u8 (c:Int))).run Tryz.prog w=.ok (wn c) w:=fun w=>cvt_u8 _ w hc256
      have o1:=wn_shl 24 c .i64 r4
      have o2:=wn_or 24 (dig V q) (c*2 ^ r4%18446744073709551616) (dig_lt V q) (Nat.mod_lt _ (by decide))
      rw [hor] at o2
      obtain ⟨y,hy⟩:∃ y,y=c*2 ^ r4%18446744073709551616:=⟨_,rfl⟩
      rw [← hy] at o1 o2
      obtain ⟨z,hz⟩:∃ z,z=dig V' q:=⟨_,rfl⟩
      rw [← hz] at o2 hcl
      have hcl':(nc V).setIfInBounds q (wn z)=nc V':=by
        have:(nc V).setIfInBounds q (wn z)=fa wn 9 (upd (dig V) q z):=fa_set _ _ _ _ _
        rw [this,hcl]
      have HCL:=Hd hcl'
      have HV':=Hd hV'
      clear hcl hcl' hor hv1 hV' hV hy hz hq hr hr4 hk hc hVi
      go_upto_region 8 with fail
      have D9:=Hd (M.out.drew)
      refine rGw 14 16 (by kernel_rfl) (by kernel_rfl) (fun d v c a w h=>by cases d <;> exact h) ?_
      simp only [List.take_succ_cons,List.take_zero]
      refine pG rfl (.int .i64 (i:Int)) (fun u=>by kernel_rfl) ?_
      try simp only [Act.put,s_,t_,u_,v_,x_,y_]
      refine pG rfl (.int .i64 (q:Int)) (fun u=>by go_simp; try (intro h; exfalso; omega)) ?_
      refine pG rfl (.pointer (some ⟨g+1,0,none⟩)) (fun u=>by kernel_rfl) ?_
      try simp only [Act.put,s_,t_,u_,v_,x_,y_]
      refine pG rfl (.pointer (some ⟨g+1,q,none⟩)) (fun u=>by go_simp; try (intro h; exfalso; omega)) ?_
      try simp only [Act.put,s_,t_,u_,v_,x_,y_]
      refine wpGrow_load_cell rfl 24 (.tmp 24) rfl (g+1) q (by kernel_rfl) (wn (dig V q)) _ Tryz.underlying24 rfl (fun u hu=>(cO (D9.out.up 1 rfl hu) q).trans (nc_get _ _ q9)) ?_
      refine pG rfl (.string s) (fun u=>by kernel_rfl) ?_
      refine pG rfl (.int .i64 (k:Int)) (fun u=>by kernel_rfl) ?_
      try simp only [Act.put,s_,t_,u_,v_,x_,y_]
      refine pG rfl (.int .u8 (c:Int)) (fun u=>by go_simp; try (intro h; exfalso; omega)) ?_
      try simp only [Act.put,s_,t_,u_,v_,x_,y_]
      refine pG rfl (wn c) (fun u=>by go_simp; try (intro h; exfalso; omega)) ?_
      refine pG rfl (.int .i64 (i:Int)) (fun u=>by kernel_rfl) ?_
      try simp only [Act.put,s_,t_,u_,v_,x_,y_]
      refine pG rfl (.int .i64 (r:Int)) (fun u=>by go_simp; try (intro h; exfalso; omega)) ?_
      try simp only [Act.put,s_,t_,u_,v_,x_,y_]
      refine pG rfl (.int .i64 (r4:Int)) (fun u=>by go_simp; try (intro h; exfalso; omega)) ?_
      try simp only [Act.put,s_,t_,u_,v_,x_,y_]
      refine pG rfl (wn y) (fun u=>by go_simp; try (intro h; exfalso; omega)) ?_
      try simp only [Act.put,s_,t_,u_,v_,x_,y_]
      refine pG rfl (wn z) (fun u=>by go_simp; try (intro h; exfalso; omega)) ?_
      refine gN ?_
      try simp only [Act.put,s_,t_,u_,v_,x_,y_]
      refine grow_ready (rs:=[14]) (by kernel_rfl) (by simp) (fun u1 hG1=>?_)
      have N1:=Hd (D9.out.grow hG1)
      clear hG1 D9
      refine GAll.pure (by decide) rfl rfl (.pointer (some ⟨g+1,0,none⟩)) (fun u=>by kernel_rfl) ?_ GAll.nil
      try simp only [Act.put,s_,t_,u_,v_,x_,y_]
      refine grow_ready (rs:=[15]) (by kernel_rfl) (by simp) (fun u2 hG2=>?_)
      have D9:=Hd (N1.out.grow hG2)
      clear hG2 N1
      refine GAll.pure (by decide) rfl rfl (.pointer (some ⟨g+1,q,none⟩)) (fun u=>by go_simp; try (intro h; exfalso; omega)) ?_ GAll.nil
      try simp only [Act.put,s_,t_,u_,v_,x_,y_]
      refine gS (rs:=[16]) (by kernel_rfl) (by decide) (fun w6 hg6=>?_)
      have N6:=Hd (D9.out.grow hg6)
      clear hg6 D9
      refine wpAny_ready (rs:=[16]) (by kernel_rfl) (by simp) ?_
      refine AllReady.cons rfl (fun K hK=>?_) AllReady.nil
      refine step_store_cell rfl 24 (.tmp 36) (.tmp 34) rfl (g+1) q rfl _ (nc V) (wn z) rfl rfl (N6.out.at 1 rfl) (by kernel_rfl) (by rw [nS]; exact q9) rfl (fun w7 hw hb hs=>hK _ _ ?_)
      have N7:=Hd (show Mem w w7 [(g,nc 0,27),(g+1,nc V',27)] from N6.out.store 1 rfl hb hs (by rw [← HCL.out]; exact hw))
      clear hK hw hb hs N6
      try simp only [Act.put,s_,t_,u_,v_,x_,y_]
      refine wpAny_done (by kernel_rfl) ?_ _
      try simp only [Act.put,s_,t_,u_,v_,x_,y_]
      go_wp2_with (fail)
      go_roundw
      case rel=>exact ⟨i+1,by omega,by go_num,by rw [← HV'.out]; exact N7.out⟩
      case measure=>simp [intOf]; omega
    · obtain rfl:i=n:=by omega
      have H4:=Hd (M.out.at 1 rfl)
      have H3:=Hd (M.out.at 0 rfl)
      go_wp2_with (first
        | (refine l0N rfl (.tmp 4) rfl (g+1) rfl H4.out ?_)
        | (refine wpN_store0 rfl (.tmp 2) (.tmp 38) rfl g rfl H3.out _ rfl (nS _) ?_
           intro w2 hw2 hb2 hs2
           have N9:=Hd (M.out.store 0 rfl hb2 hs2 hw2)
           clear hw2 hb2 hs2))
      exact bodyPost_ret (results_N2 rfl _ _ g _ _ _ _ rfl rfl (N9.out.at 0 rfl)) rfl ⟨rfl,N9.out.below⟩
end Go.Proofs.YtkoonhiplicbkaaGreat.Cw
