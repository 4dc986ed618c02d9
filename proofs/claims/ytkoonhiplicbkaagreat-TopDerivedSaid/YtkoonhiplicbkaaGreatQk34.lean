/-
  (package nat) Of: the number of bytes. Condition: at most 72 bytes.
  (package ecdsa) digest; (package key) Try: a number of a generator. Condition: an opened curve; a generator that still gives.
  (package ecdsa) Sign: in each try a number of the generator, at most 64. Condition: a curve's number from 1 to 15, a private key, a new generator.
  (package curvettop) What the walks share: generators, signatures.
-/
import Derived.Test.YtkoonhiplicbkaaGreatQk33
import Derived.Test.YtkoonhiplicbkaaGreatQk26
set_option linter.unusedSimpArgs false
set_option linter.unusedVariables false
set_option maxHeartbeats 4000000
set_option maxRecDepth 100000
namespace Go.Proofs.YtkoonhiplicbkaaGreat.Cw
open Go Go.RowKit
attribute [local go_sem ↓ high] wn_eql wn_neq wn_lss wn_gtr wn_leq wn_geq wn_cells wRS wn_guard lit0 lit1
attribute [local go_sem high] wn_match wRS wn_eql wn_neq wn_lss wn_gtr wn_leq wn_geq
def byv (s:ByteArray):Nat→Nat
  | 0=>0
  | i+1=>byv s i+let8 s (s.size - 1 - i)*256 ^ i
theorem byv_succ (s:ByteArray) (i:Nat):byv s (i+1)=byv s i+let8 s (s.size - 1 - i)*256 ^ i:=by rw [byv]
theorem let8_lt (s:ByteArray) (k:Nat):let8 s k<256:=UInt8.toNat_lt _
theorem byv_lt (s:ByteArray):∀ i,byv s i<256 ^ i
  | 0=>by show 0<256 ^ 0; decide
  | i+1=>by
    have h1:=byv_lt s i
    have h2:=let8_lt s (s.size - 1 - i)
    rw [byv_succ]
    have h3:let8 s (s.size - 1 - i)*256 ^ i≤255*256 ^ i:=Nat.mul_le_mul_right _ (by omega)
    rw [Nat.pow_succ]
    omega
theorem byv9 (s:ByteArray) (h:s.size≤72):byv s s.size<pw 9:=by
  refine Nat.lt_of_lt_of_le (byv_lt s _) ?_
  have e:pw 9=256 ^ (8*9):=by unfold pw; rw [show (18446744073709551616:Nat)=256 ^ 8 from rfl,← Nat.pow_mul]
  rw [e]
  exact Nat.pow_le_pow_right (by decide) h
theorem p256 (i:Nat):256 ^ i=pw (i / 8)*2 ^ (8*(i%8)):=by
  rw [pw_two,← Nat.pow_add,show (256:Nat)=2 ^ 8 from rfl,← Nat.pow_mul]
  congr 1
  omega
theorem by_or (V d i:Nat) (hV:V<256 ^ i) (hd:d<256):dig V (i / 8) ||| d*2 ^ (8*(i%8))%18446744073709551616=dig (V+d*256 ^ i) (i / 8):=by
  rw [p256] at hV ⊢
  have hr:i%8<8:=Nat.mod_lt _ (by decide)
  generalize i / 8=q at *
  generalize i%8=r at *
  have hq:V / pw q<2 ^ (8*r):=Nat.div_lt_of_lt_mul hV
  have hp:2 ^ (8*r)≤2 ^ 56:=Nat.pow_le_pow_right (by decide) (by omega)
  have e60:(2:Nat) ^ 56=72057594037927936:=rfl
  have h1:dig V q=V / pw q:=by unfold dig; exact Nat.mod_eq_of_lt (by omega)
  have h2:d*2 ^ (8*r)≤255*2 ^ (8*r):=Nat.mul_le_mul_right _ (by omega)
  have h3:d*2 ^ (8*r)%18446744073709551616=d*2 ^ (8*r):=Nat.mod_eq_of_lt (by omega)
  have h4:dig (V+d*(pw q*2 ^ (8*r))) q=V / pw q+d*2 ^ (8*r):=by
    unfold dig
    rw [show d*(pw q*2 ^ (8*r))=pw q*(d*2 ^ (8*r)) from Nat.mul_left_comm _ _ _,Nat.add_mul_div_left _ _ (pw_pos q)]
    exact Nat.mod_eq_of_lt (by omega)
  rw [h1,h3,h4,Nat.or_comm,Nat.mul_comm d,← Nat.two_pow_add_eq_or_of_lt hq,Nat.add_comm]
theorem by_cells (V d i:Nat) (hV:V<256 ^ i) (hd:d<256):fa wn 9 (upd (dig V) (i / 8) (dig (V+d*256 ^ i) (i / 8)))=nc (V+d*256 ^ i):=by
  refine fa_ext _ _ _ _ fun j hj=>?_
  have hr:i%8<8:=Nat.mod_lt _ (by decide)
  have hp:2 ^ (8*(i%8))≤2 ^ 56:=Nat.pow_le_pow_right (by decide) (by omega)
  have e60:(2:Nat) ^ 56=72057594037927936:=rfl
  unfold upd
  split
  · subst_vars; rfl
  · rename_i hne
    rcases Nat.lt_or_ge j (i / 8) with h | h
    · rw [p256,show d*(pw (i / 8)*2 ^ (8*(i%8)))=pw (i / 8)*(d*2 ^ (8*(i%8))) from Nat.mul_left_comm _ _ _,cc_low _ _ _ _ h]
    · have hlt:V+d*256 ^ i<pw (i / 8+1):=by
        rw [p256] at hV ⊢
        rw [pw_succ]
        have h2:d*(pw (i / 8)*2 ^ (8*(i%8)))≤255*(pw (i / 8)*2 ^ (8*(i%8))):=Nat.mul_le_mul_right _ (by omega)
        have h3:pw (i / 8)*2 ^ (8*(i%8))≤pw (i / 8)*2 ^ 56:=Nat.mul_le_mul_left _ hp
        have h4:=pw_pos (i / 8)
        rw [e60] at h3
        omega
      rw [dig_high _ _ hlt j (by omega),dig_high V (i / 8+1) (by omega) j (by omega)]
theorem nat_of (s:ByteArray) (w:World) (h72:s.size≤72):Calls Tryz.prog 75 #[.string s] w fun e w'=>e=.returned (.tuple #[.agg (nc (byv s s.size)),.int .i64 0])∧Below w.heap.size w w':=by
  have HV:=Hd (byv_lt s)
  have HA:=Hd (str_at s)
  obtain ⟨n,hn⟩:∃ n,n=s.size:=⟨_,rfl⟩
  have HN:=Hd hn
  rw [← hn] at h72 ⊢
  have hsz:s.size=n:=hn.symm
  clear hn
  go_enter Tryz.func75,Tryz.ntmps75
  go_wp2_with (fail)
  rw [← nZ]
  have m0:=Mem.start2 w (nc 0) (nc 0) 27 27
  obtain ⟨w1,hw1⟩:∃ w1:World,w1=((w.alloc (.cells (nc 0) 27)).alloc (.cells (nc 0) 27)):=⟨_,rfl⟩
  rw [← hw1] at m0 ⊢
  clear hw1
  obtain ⟨g,hg⟩:∃ g,g=w.heap.size:=⟨_,rfl⟩
  rw [← hg] at m0 ⊢
  have HG:=Hd hg
  have M:=Hd m0
  clear hg m0
  go_loopw [13] (fun iv wr=>∃ i:Nat,i≤n∧iv=.int .i64 i∧Mem w wr [(g,nc 0,27),(g+1,nc (byv s i),27)]) (fun iv _=>n - (intOf iv).toNat)
  case atStart=>exact ⟨0,by omega,rfl,M.out⟩
  case round=>
    obtain ⟨i,hi,rfl,hm⟩:=hrel
    have M:=Hd hm
    clear hm
    by_cases hlt:i<n
    · obtain ⟨k,hk⟩:∃ k,k=n - 1 - i:=⟨_,rfl⟩
      have e1:(n:Int) - 1 - (i:Int)=(k:Int):=by omega
      have hkn:k<s.size:=by omega
      have hx:=fun w=>HA.out k hkn w
      have hVi:=HV.out i
      obtain ⟨c,hc⟩:∃ c,c=let8 s k:=⟨_,rfl⟩
      rw [← hc] at hx
      have hc256:c<256:=by rw [hc]; exact let8_lt _ _
      have hv1:byv s (i+1)=byv s i+c*256 ^ i:=by rw [hc,hk,HN.out,byv_succ]
      obtain ⟨V,hV⟩:∃ V,V=byv s i:=⟨_,rfl⟩
      rw [← hV] at M hVi hv1
      have hor:=by_or V c i hVi hc256
      have hcl:=by_cells V c i hVi hc256
      rw [← hv1] at hor hcl
      obtain ⟨V',hV'⟩:∃ V',V'=byv s (i+1):=⟨_,rfl⟩
      rw [← hV'] at hor hcl
      obtain ⟨q,hq⟩:∃ q,q=i / 8:=⟨_,rfl⟩
      obtain ⟨r,hr⟩:∃ r,r=i%8:=⟨_,rfl⟩
      rw [← hq] at hor hcl
      rw [← hr] at hor
      have q9:q<9:=by omega
      have e2:(i:Int) / 8=(q:Int):=by omega
      have e3:(i:Int).tmod 8=(r:Int):=by rw [Int.tmod_eq_emod_of_nonneg (by omega)]; omega
      have q9i:(q:Int)<9:=by omega
      obtain ⟨r4,hr4⟩:∃ r4,r4=8*r:=⟨_,rfl⟩
      rw [← hr4] at hor
      have hr16:r<8:=by omega
      have w1:IntKind.i64.wrap (q:Int)=(q:Int):=IntWalk.i64_in _ (by omega)
      have w2:IntKind.i64.wrap (r:Int)=(r:Int):=IntWalk.i64_in _ (by omega)
      have w3:IntKind.i64.wrap (r4:Int)=(r4:Int):=IntWalk.i64_in _ (by omega)
      have e4:(8:Int)*(r:Int)=(r4:Int):=by omega
      have v1:∀ w,(convert 5 24 (.int .u8 (c:Int))).run Tryz.prog w=.ok (wn c) w:=fun w=>cvt_u8 _ w hc256
      have o1:=wn_shl 24 c .i64 r4
      have o2:=wn_or 24 (dig V q) (c*2 ^ r4%18446744073709551616) (dig_lt V q) (Nat.mod_lt _ (by decide))
      rw [hor] at o2
      obtain ⟨y,hy⟩:∃ y,y=c*2 ^ r4%18446744073709551616:=⟨_,rfl⟩
      rw [← hy] at o1 o2
      obtain ⟨z,hz⟩:∃ z,z=dig V' q:=⟨_,rfl⟩
      rw [← hz] at o2 hcl
      have hcl':(nc V).setIfInBounds q (wn z)=nc V':=by
        have:(nc V).setIfInBounds q (wn z)=fa wn 9 (upd (dig V) q z):=fa_set _ _ _ _ _
        rw [this,hcl]
      have HCL:=Hd hcl'
      have HV':=Hd hV'
      clear hcl hcl' hor hv1 hV' hV hy hz hq hr hr4 hk hc hVi
      go_upto_region 8 with fail
      have D9:=Hd (M.out.drew)
      refine rGw 14 16 (by kernel_rfl) (by kernel_rfl) (fun d v c a w h=>by cases d <;> exact h) ?_
      simp only [List.take_succ_cons,List.take_zero]
      refine gK (.int .i64 (i:Int)) ?_
      try simp only [Act.put,s_,t_,u_,v_,x_,y_]
      refine pG rfl (.int .i64 (q:Int)) (fun u=>by go_simp; try (intro h; exfalso; omega)) ?_
      refine gK (.pointer (some ⟨g+1,0,none⟩)) ?_
      try simp only [Act.put,s_,t_,u_,v_,x_,y_]
      refine pG rfl (.pointer (some ⟨g+1,q,none⟩)) (fun u=>by go_simp; try (intro h; exfalso; omega)) ?_
      try simp only [Act.put,s_,t_,u_,v_,x_,y_]
      refine wpGrow_load_cell rfl 24 (.tmp 24) rfl (g+1) q (by kernel_rfl) (wn (dig V q)) _ Tryz.underlying24 rfl (fun u hu=>(cO (D9.out.up 1 rfl hu) q).trans (nc_get _ _ q9)) ?_
      refine gK (.string s) ?_
      refine gK (.int .i64 (k:Int)) ?_
      try simp only [Act.put,s_,t_,u_,v_,x_,y_]
      refine pG rfl (.int .u8 (c:Int)) (fun u=>by go_simp; try (intro h; exfalso; omega)) ?_
      try simp only [Act.put,s_,t_,u_,v_,x_,y_]
      refine pG rfl (wn c) (fun u=>by go_simp; try (intro h; exfalso; omega)) ?_
      refine gK (.int .i64 (i:Int)) ?_
      try simp only [Act.put,s_,t_,u_,v_,x_,y_]
      refine pG rfl (.int .i64 (r:Int)) (fun u=>by go_simp; try (intro h; exfalso; omega)) ?_
      try simp only [Act.put,s_,t_,u_,v_,x_,y_]
      refine pG rfl (.int .i64 (r4:Int)) (fun u=>by go_simp; try (intro h; exfalso; omega)) ?_
      try simp only [Act.put,s_,t_,u_,v_,x_,y_]
      refine pG rfl (wn y) (fun u=>by go_simp; try (intro h; exfalso; omega)) ?_
      try simp only [Act.put,s_,t_,u_,v_,x_,y_]
      refine pG rfl (wn z) (fun u=>by go_simp; try (intro h; exfalso; omega)) ?_
      refine gN ?_
      try simp only [Act.put,s_,t_,u_,v_,x_,y_]
      refine grow_ready (rs:=[14]) (by kernel_rfl) (by simp) (fun u1 hG1=>?_)
      have N1:=Hd (D9.out.grow hG1)
      clear hG1 D9
      refine GAll.pure (by decide) rfl rfl (.pointer (some ⟨g+1,0,none⟩)) (fun u=>by kernel_rfl) ?_ GAll.nil
      try simp only [Act.put,s_,t_,u_,v_,x_,y_]
      refine grow_ready (rs:=[15]) (by kernel_rfl) (by simp) (fun u2 hG2=>?_)
      have D9:=Hd (N1.out.grow hG2)
      clear hG2 N1
      refine GAll.pure (by decide) rfl rfl (.pointer (some ⟨g+1,q,none⟩)) (fun u=>by go_simp; try (intro h; exfalso; omega)) ?_ GAll.nil
      try simp only [Act.put,s_,t_,u_,v_,x_,y_]
      refine gS (rs:=[16]) (by kernel_rfl) (by decide) (fun w6 hg6=>?_)
      have N6:=Hd (D9.out.grow hg6)
      clear hg6 D9
      refine wpAny_ready (rs:=[16]) (by kernel_rfl) (by simp) ?_
      refine AllReady.cons rfl (fun K hK=>?_) AllReady.nil
      refine step_store_cell rfl 24 (.tmp 36) (.tmp 34) rfl (g+1) q rfl _ (nc V) (wn z) rfl rfl (N6.out.at 1 rfl) (by kernel_rfl) (by rw [nS]; exact q9) rfl (fun w7 hw hb hs=>hK _ _ ?_)
      have N7:=Hd (show Mem w w7 [(g,nc 0,27),(g+1,nc V',27)] from N6.out.store 1 rfl hb hs (by rw [← HCL.out]; exact hw))
      clear hK hw hb hs N6
      try simp only [Act.put,s_,t_,u_,v_,x_,y_]
      refine wpAny_done (by kernel_rfl) ?_ _
      try simp only [Act.put,s_,t_,u_,v_,x_,y_]
      go_wp2_with (fail)
      go_roundw
      case rel=>exact ⟨i+1,by omega,by go_num,by rw [← HV'.out]; exact N7.out⟩
      case measure=>simp [intOf]; omega
    · obtain rfl:i=n:=by omega
      have H4:=Hd (M.out.at 1 rfl)
      have H3:=Hd (M.out.at 0 rfl)
      go_wp2_with (first
        | (refine l0N rfl (.tmp 4) rfl (g+1) rfl H4.out ?_)
        | (refine wpN_store0 rfl (.tmp 2) (.tmp 38) rfl g rfl H3.out _ rfl (nS _) ?_
           intro w2 hw2 hb2 hs2
           have N9:=Hd (M.out.store 0 rfl hb2 hs2 hw2)
           clear hw2 hb2 hs2))
      exact bodyPost_ret (results_N2 rfl _ _ g _ _ _ _ rfl rfl (N9.out.at 0 rfl)) rfl ⟨rfl,N9.out.below⟩
end Go.Proofs.YtkoonhiplicbkaaGreat.Cw
set_option maxHeartbeats 4000000
set_option maxRecDepth 100000
namespace Go.Proofs.YtkoonhiplicbkaaGreat.Cw
open Go Go.RowKit
attribute [local irreducible] pc ptc nc ac cuc fc gpt
attribute [local go_sem ↓ high] wn_eql wn_neq wn_lss wn_gtr wn_leq wn_geq wn_cells wRS wn_guard lit0 lit1
attribute [local go_sem high] wn_match wRS wn_eql wn_neq wn_lss wn_gtr wn_leq wn_geq
theorem results_N3 {fn:Func} {p q r:Tmp} (h:fn.results=#[.cell p 27,.tmp q,.tmp r]) (tmps:Array Value) (w:World) (g:Nat) (t:TypeId) (n:Nat) (fr:Nat × Nat) (v u:Value)
  (hp:tmps.getD p undef=.pointer (some ⟨g,0,none⟩)) (hq:tmps.getD q undef=v) (hr:tmps.getD r undef=u) (hg:w.heap[g]?=some (.cells (nc n) t fr)) :
  (results fn tmps).run Tryz.prog w=.ok (.tuple #[.agg (nc n),v,u]) w:=by
 have hp':tmps[p]?.getD undef=.pointer (some ⟨g,0,none⟩):=by simpa using hp
 have hq':tmps[q]?.getD undef=v:=by simpa using hq
 have hr':tmps[r]?.getD undef=u:=by simpa using hr
 simp [results,h,hp',hq',hr',asAddr,run_load_seg w g 0 9 t 27 (nc n) (nc n) fr _ hg Tryz.underlying27 rfl (by kernel_rfl) (nS n) (fun j _=>by rw [Nat.zero_add])]
theorem Mem.rebase {w0 w w':World} {L:List Blk} {g:Nat} (M:Mem w0 w L) (hb:But g w w') (hg:g<w0.heap.size):∃ wb,But g w0 wb∧wb.heap.size=w0.heap.size∧wb.heap[g]?=w'.heap[g]?∧Mem wb w' L:=by
 have hgw:g<w'.heap.size:=Nat.lt_of_lt_of_le hg (Nat.le_trans M.1.size hb.size)
 refine ⟨{ w0 with heap:=w0.heap.setIfInBounds g w'.heap[g] },⟨rfl,rfl,rfl,by simp,fun i hi hne=>?_⟩,by simp,?_,?_,?_,M.2.2⟩
 ·have hne2:g≠i:=fun e=>hne (by rw [e])
  simp [Array.getElem?_setIfInBounds,hne2]
 ·simp [Array.getElem?_setIfInBounds,hg,hgw]
 ·refine ⟨hb.os.trans M.1.os,hb.tape.trans M.1.tape,hb.output.trans M.1.output,by simp; exact Nat.le_trans M.1.size hb.size,fun i hi=>?_⟩
  have hi':i<w0.heap.size:=by simpa using hi
  by_cases e:g=i
  ·subst e; simp [Array.getElem?_setIfInBounds,hg,hgw]
  ·rw [hb.block i (Nat.lt_of_lt_of_le hi' M.1.size) (fun h=>e (by simpa using h.symm)),M.1.block i hi']
   simp [Array.getElem?_setIfInBounds,e]
 ·intro e he
  have h1:=M.2.1 e he
  refine ⟨by simpa using h1.1,hb.heap (fun h=>?_) h1.2⟩
  have:=h1.1
  omega
theorem MC.rebase {w0 w w':World} {L:List Blk} {c f d g:Nat} {cu:Cv} (M:MC w0 w L c f d cu) (hb:But g w w') (hg:g<w0.heap.size) (h1:c≠g) (h2:f≠g) (h3:d≠g):∃ wb,But g w0 wb∧wb.heap.size=w0.heap.size∧wb.heap[g]?=w'.heap[g]?∧MC wb w' L c f d cu:=by
 obtain ⟨wb,a1,a2,a3,a4⟩:=M.2.1.rebase hb hg
 exact ⟨wb,a1,a2,a3,MC.of a4 (M.2.2.but hb h1 h2 h3)⟩
theorem CurveAt.off {w:World} {c f d g id:Nat} {cu:Cv} {kv:ByteArray × ByteArray} {n:Int} (H:CurveAt w c f d cu) (HD:DrbgAt w g id kv n):c≠g∧f≠g∧d≠g:=by
 obtain ⟨_,⟨_,_,_,⟨_,_,_,_,_,_,_,e6⟩,f5⟩,hc⟩:=H
 exact ⟨type_neq HD hc (by decide),type_neq HD f5 (by decide),type_neq HD e6 (by decide)⟩
def tryS (k:CK) (id:Nat) (kv:ByteArray × ByteArray):ByteArray:=genO id kv ((bl k.c.n+7) / 8) ⟨#[]⟩
def tryN (k:CK) (id:Nat) (kv:ByteArray × ByteArray):Nat:=byv (tryS k id kv) (tryS k id kv).size / 2 ^ (8*((bl k.c.n+7) / 8) - bl k.c.n)
def tryK (k:CK) (id:Nat) (kv:ByteArray × ByteArray):ByteArray × ByteArray:=genK id kv ((bl k.c.n+7) / 8) ⟨#[]⟩
theorem key_try (k:CK) (c f d dr id:Nat) (kv:ByteArray × ByteArray) (n:Int) (w:World) (hi:isId id) (hf:fit id kv) (hn0:0≤n) (hn:n≤64) (H:CurveAt w c f d k.c) (HD:DrbgAt w dr id kv n):Calls Tryz.prog 34 #[.pointer (some ⟨c,0,none⟩),.func (.func 35) #[.pointer (some ⟨dr,0,none⟩)] #[]] w fun e w'=>e=.returned (.tuple #[.agg (nc (tryN k id kv)),.bool (decide (tryN k id kv≠0∧tryN k id kv<k.c.n)),.int .i64 0])∧DrbgAt w' dr id (tryK k id kv) (n+1)∧But dr w w':=by
 have HC:=Hd H
 have HDR:=Hd HD
 have HLT:=Hd (lt_of HD)
 have HOFF:=Hd (H.off HD)
 have N9:=Hd k.n9
 have hb2:=k.blN
 obtain ⟨b,hb⟩:∃ b,b=bl k.c.n:=⟨_,rfl⟩
 rw [← hb] at hb2
 obtain ⟨z,hz⟩:∃ z,z=(b+7) / 8:=⟨_,rfl⟩
 have hG:=fun W (h:DrbgAt W dr id kv n)=>dgen_ok dr id kv n (z:Int) z ⟨#[]⟩ W hi hf rfl (by omega) (by decide) hn0 hn h
 have HTN:=Hd (show tryN k id kv=byv (tryS k id kv) (tryS k id kv).size / 2 ^ (8*((bl k.c.n+7) / 8) - bl k.c.n) from rfl)
 have HSD:tryS k id kv=genO id kv ((bl k.c.n+7) / 8) ⟨#[]⟩:=rfl
 have HKD:tryK k id kv=genK id kv ((bl k.c.n+7) / 8) ⟨#[]⟩:=rfl
 rw [← hb,← hz] at HTN HSD HKD
 have hsz:(tryS k id kv).size=z:=by rw [HSD]; exact genO_size hi _ _ _
 rw [← HSD,← HKD] at hG
 obtain ⟨S,hS⟩:∃ S,S=tryS k id kv:=⟨_,rfl⟩
 rw [← hS] at hsz HTN hG
 obtain ⟨K2,hK2⟩:∃ K2,K2=tryK k id kv:=⟨_,rfl⟩
 rw [← hK2] at hG ⊢
 have HG2:=Hd hG
 have V9:=Hd (byv9 S (by omega))
 obtain ⟨V,hV⟩:∃ V,V=byv S S.size:=⟨_,rfl⟩
 rw [← hV] at V9 HTN
 have HV:=Hd hV
 have X9:=Hd (show V / 2 ^ (8*z - b)<pw 9 from Nat.lt_of_le_of_lt (Nat.div_le_self _ _) V9.out)
 obtain ⟨X,hX⟩:∃ X,X=tryN k id kv:=⟨_,rfl⟩
 rw [← hX] at HTN ⊢
 rw [← HTN.out] at X9
 obtain ⟨ok,hok⟩:∃ ok,ok=decide (X≠0∧X<k.c.n):=⟨_,rfl⟩
 rw [← hok]
 have HOK:=Hd hok
 clear hok
 have HB:=Hd hb
 have HZ:=Hd (show z=(bl k.c.n+7) / 8 by rw [← hb]; exact hz)
 have HS72:=Hd (show S.size≤72 by omega)
 have H8:=Hd (show 8*z<9223372036854775808 by omega)
 have HLE:=Hd (show b≤8*z by omega)
 have HSH:=Hd (show 8*z - b≤576 by omega)
 have HTN2:=Hd HTN.out.symm
 clear H HD hG HSD HKD hS hK2 hV hX hb hz hsz hb2 HTN hf hn0 hn
 go_enter Tryz.func34,Tryz.ntmps34
 go_upto_region 1 with fail
 rw [← nZ]
 have m0:=Mem.start1 w (nc 0) 27
 obtain ⟨w1,hw1⟩:∃ w1:World,w1=(w.alloc (.cells (nc 0) 27)):=⟨_,rfl⟩
 rw [← hw1] at m0 ⊢
 clear hw1
 obtain ⟨g,hg⟩:∃ g,g=w.heap.size:=⟨_,rfl⟩
 rw [← hg] at m0 ⊢
 have HG:=Hd hg
 have M:=Hd m0
 clear hg m0
 replace M:=Hd (MC.of M.out (HC.out.up M.out.1))
 go_upto_region 1 with (fail)
 refine wp_region_lit ?_
 refine pK (.func (.func 35) #[.pointer (some ⟨dr,0,none⟩)] #[]) ?_
 refine pK (.pointer (some ⟨c,0,none⟩)) ?_
 refine fL rfl 77 (.func 77) #[.tmp 13] #[70] rfl #[] #[.pointer (some ⟨c,0,none⟩)] (by kernel_rfl) (by kernel_rfl) (fun u=>cE _ _ _ _ u Tryz.func77 (by kernel_rfl) (by kernel_rfl)) (.int .i64 ((z:Nat):Int)) ((HZ.out ▸ curve_bytes k c f d w1 M.out.crv)) (fun w2 hb=>?_)
 have Nw2:=Hd (M.out.grow hb)
 clear hb M
 refine wpList_fnE rfl _ _ _ _ rfl #[.pointer (some ⟨dr,0,none⟩)] #[.int .i64 ((z:Nat):Int),.string ⟨#[]⟩] (by kernel_rfl) (by kernel_rfl) (fun u=>cE _ _ _ _ u Tryz.func35 (by kernel_rfl) (by kernel_rfl)) (T:=Unit) (fun _=>.tuple #[.string S,.int .i64 0]) (fun _ w'=>DrbgAt w' dr id K2 (n+1)∧But dr w2 w') ((HG2.out w2 (grows_at HDR.out Nw2.out.1)).mono fun e w' ⟨h1,h2,h3⟩=>⟨(),h1,h2,h3⟩) ?_
 rintro _ w3 ⟨hd3,hb3⟩
 obtain ⟨wb,hb4,hs4,hq4,hm4⟩:=Nw2.out.rebase hb3 HLT.out HOFF.out.1 HOFF.out.2.1 HOFF.out.2.2
 have HDB:=Hd (show DrbgAt wb dr id K2 (n+1) from hq4.trans hd3)
 have HWB:=Hd hb4
 have M3:=Hd hm4
 clear hd3 hb3 hb4 hq4 hm4 Nw2
 refine pK (.tuple #[.string S,.int .i64 0]) ?_
 refine pK (.string S) ?_
 refine pK (.int .i64 0) ?_
 refine pK (.string S) ?_
 refine pK (.int .i64 0) ?_
 refine wpList_nil ?_
 try simp only [Act.put,s_,t_,u_,v_,x_,y_]
 go_upto_region 2 with (fail)
 refine wp_region_lit ?_
 refine pK (.int .i64 0) ?_
 refine pK (.bool false) ?_
 refine wpList_nil ?_
 try simp only [Act.put,s_,t_,u_,v_,x_,y_]
 go_upto_region 4 with (fail)
 refine wp_region_lit ?_
 refine pK (.string S) ?_
 refine fL rfl 75 (.func 75) #[.tmp 23] #[9] rfl #[] #[.string S] (by kernel_rfl) (by kernel_rfl) (fun u=>cE _ _ _ _ u Tryz.func75 (by kernel_rfl) (by kernel_rfl)) (.tuple #[.agg (nc V),.int .i64 0]) ((HV.out ▸ nat_of S w3 HS72.out)) (fun w3 hb=>?_)
 have Nw3:=Hd (M3.out.grow hb)
 clear hb M3
 refine pK (.tuple #[.agg (nc V),.int .i64 0]) ?_
 refine pK (.agg (nc V)) ?_
 refine pK (.int .i64 0) ?_
 refine nL rfl 27 rfl (.agg (nc 0)) (by rw [nZ]; kernel_rfl) ?_
 intro y w4 hx hx2 hgv hh
 have Nw4:=Hd (show MC wb w4 [(g,nc 0,27),(y,nc 0,27)] c f d k.c from Nw3.out.new hgv (Nat.le_of_eq hx) hh)
 clear hx hx2 hgv hh Nw3
 refine sB rfl 27 (.tmp 9) (.tmp 25) rfl y (by kernel_rfl) _ _ (nc V) (by kernel_rfl) (Nw4.out.at 1 rfl) (by rw [nS]; kernel_rfl) (by simp only [nS]) (nO _) ?_
 intro w5 hw hb hs
 have Nw5:=Hd (Nw4.out.store 1 rfl hb hs hw)
 clear hw hb hs Nw4
 refine pK (.int .i64 0) ?_
 refine wpList_nil ?_
 try simp only [Act.put,s_,t_,u_,v_,x_,y_]
 go_upto_region 5 with (fail)
 have D6:=Hd (Nw5.out.drew)
 clear Nw5
 refine rGw 14 14 (by kernel_rfl) (by kernel_rfl) (fun d v c a w h=>by cases d <;> exact h) ?_
 simp only [List.take_succ_cons,List.take_zero]
 refine lG rfl (.tmp 9) rfl y (by kernel_rfl) (fun u hu=>D6.out.up 1 rfl hu) ?_
 refine gK (.pointer (some ⟨c,0,none⟩)) ?_
 refine fG rfl 77 (.func 77) #[.tmp 29] #[70] rfl #[] #[.pointer (some ⟨c,0,none⟩)] (by kernel_rfl) (by kernel_rfl) (fun u=>cE _ _ _ _ u Tryz.func77 (by kernel_rfl) (by kernel_rfl)) (.int .i64 ((z:Nat):Int)) (fun u hu=>by (rw [HZ.out]; exact curve_bytes k c f d u (D6.out.crv.up hu))) ?_
 refine pG rfl (.int .i64 ((8*z:Nat):Int)) (fun u=>by exact run_bini _ _ _ _ _ rfl ((8:Nat):Int) (z:Int) (by kernel_rfl) (by kernel_rfl) (bi_mul _ H8.out) u) ?_
 refine gK (.pointer (some ⟨c,0,none⟩)) ?_
 refine gK (.pointer (some ⟨c,0,none⟩)) ?_
 refine gK (.pointer (some ⟨c,0,none⟩)) ?_
 refine gK (.pointer (some ⟨c,56,none⟩)) ?_
 refine wpGrow_load_cell rfl 3 (.tmp 35) rfl c 56 (by kernel_rfl) (.int .i64 (b:Int)) _ Tryz.underlying3 rfl (fun u hu=>(cO (grows_at D6.out.crv.2.2 hu) 56).trans (by rw [HB.out]; exact cuc_bits _ _)) ?_
 refine pG rfl (.int .i64 ((8*z - b:Nat):Int)) (fun u=>by exact run_bini _ _ _ _ _ rfl ((8*z:Nat):Int) (b:Int) (by kernel_rfl) (by kernel_rfl) (bi_sub _ HLE.out H8.out) u) ?_
 refine fG rfl 76 (.func 76) #[.tmp 28,.tmp 37] #[27,3] rfl #[] #[.agg (nc V),.int .i64 ((8*z - b:Nat):Int)] (by kernel_rfl) (by kernel_rfl) (fun u=>cE _ _ _ _ u Tryz.func76 (by kernel_rfl) (by kernel_rfl)) (.tuple #[.agg (nc X),.int .i64 0]) (fun u hu=>by exact HTN2.out ▸ nat_shr V (8*z - b) u V9.out HSH.out) ?_
 refine gK (.tuple #[.agg (nc X),.int .i64 0]) ?_
 refine gK (.agg (nc X)) ?_
 refine gK (.int .i64 0) ?_
 refine gN ?_
 try simp only [Act.put,s_,t_,u_,v_,x_,y_]
 refine gS (rs:=[14]) (by kernel_rfl) (by decide) (fun w7 hg6=>?_)
 have Nw7:=Hd (D6.out.grow hg6)
 clear hg6 D6
 refine wpAny_ready (rs:=[14]) (by kernel_rfl) (by simp) ?_
 refine AllReady.cons rfl (fun K hK=>?_) AllReady.nil
 refine sK rfl 27 (.tmp 9) (.tmp 39) rfl y rfl _ _ _ rfl (Nw7.out.at 1 rfl) (by rw [nS]; kernel_rfl) (by simp only [nS]) (nO _) (fun w8 hw hb hs=>hK _ _ ?_)
 have Nw8:=Hd (Nw7.out.store 1 rfl hb hs hw)
 clear hK hw hb hs Nw7
 try simp only [Act.put,s_,t_,u_,v_,x_,y_]
 refine wpAny_done (by kernel_rfl) ?_ _
 try simp only [Act.put,s_,t_,u_,v_,x_,y_]
 go_upto_region 6 with (fail)
 have D9:=Hd (Nw8.out.drew)
 clear Nw8
 refine wp_region_growT 4 4 (by kernel_rfl) (by kernel_rfl) (fun d v c a w h=>by cases d <;> exact h) ?_
 simp only [List.take_succ_cons,List.take_zero]
 refine lG rfl (.tmp 9) rfl y (by kernel_rfl) (fun u hu=>D9.out.up 1 rfl hu) ?_
 refine gK (.pointer (some ⟨c,0,none⟩)) ?_
 refine lG rfl (.tmp 9) rfl y (by kernel_rfl) (fun u hu=>D9.out.up 1 rfl hu) ?_
 refine fG rfl 31 (.func 31) #[.tmp 42,.tmp 43] #[70,27] rfl #[] #[.pointer (some ⟨c,0,none⟩),.agg (nc X)] (by kernel_rfl) (by kernel_rfl) (fun u=>cE _ _ _ _ u Tryz.func31 (by kernel_rfl) (by kernel_rfl)) (.bool ok) (fun u hu=>by exact HOK.out ▸ curve_key k c f d X u X9.out (D9.out.crv.up hu)) ?_
 refine gN ?_
 try simp only [Act.put,s_,t_,u_,v_,x_,y_]
 refine gS (rs:=[4]) (by kernel_rfl) (by decide) (fun w10 hg6=>?_)
 have Nw10:=Hd (D9.out.grow hg6)
 clear hg6 D9
 refine wpAny_ready (rs:=[4]) (by kernel_rfl) (by simp) ?_
 refine AllReady.cons rfl (fun K hK=>?_) AllReady.nil
 refine sK rfl 27 (.tmp 4) (.tmp 41) rfl g rfl _ _ _ rfl (Nw10.out.at 0 rfl) (by rw [nS]; kernel_rfl) (by simp only [nS]) (nO _) (fun w11 hw hb hs=>hK _ _ ?_)
 have Nw11:=Hd (Nw10.out.store 0 rfl hb hs hw)
 clear hK hw hb hs Nw10
 try simp only [Act.put,s_,t_,u_,v_,x_,y_]
 refine wpAny_ready (rs:=[5]) (by kernel_rfl) (by simp) ?_
 refine AllReady.cons rfl (fun K hK=>?_) AllReady.nil
 go_simp
 refine hK _ _ ?_
 clear hK
 try simp only [Act.put,s_,t_,u_,v_,x_,y_]
 refine wpAny_ready (rs:=[6]) (by kernel_rfl) (by simp) ?_
 refine AllReady.cons rfl (fun K hK=>?_) AllReady.nil
 go_simp
 refine hK _ _ ?_
 clear hK
 try simp only [Act.put,s_,t_,u_,v_,x_,y_]
 refine wpAny_done (by kernel_rfl) ?_ _
 try simp only [Act.put,s_,t_,u_,v_,x_,y_]
 go_wp2_with (fail)
 refine bodyPost_ret (results_N3 rfl _ _ g _ _ _ _ _ rfl rfl rfl (Nw11.out.at 0 rfl)) rfl ⟨rfl,(Nw11.out.below.block dr (lt_of HDB.out)).trans HDB.out,HWB.out.trans (But.of_below Nw11.out.below)⟩
end Go.Proofs.YtkoonhiplicbkaaGreat.Cw
namespace Go.Proofs.YtkoonhiplicbkaaGreat.Cw
open Go Go.RowKit
attribute [local irreducible] pc ptc nc ac cuc fc gpt
attribute [local go_sem ↓ high] wn_eql wn_neq wn_lss wn_gtr wn_leq wn_geq wn_cells wRS wn_guard lit0 lit1
attribute [local go_sem high] wn_match wRS wn_eql wn_neq wn_lss wn_gtr wn_leq wn_geq
theorem pr_n:∀ k,1≤k→k≤15→Pr (cv k).n
 | 1,_,_=>pn4
 | 2,_,_=>pn12
 | 3,_,_=>pn21
 | 4,_,_=>pn30
 | 5,_,_=>pn39
 | 6,_,_=>pn45
 | 7,_,_=>pn52
 | 8,_,_=>pn62
 | 9,_,_=>pn68
 | 10,_,_=>pn76
 | 11,_,_=>pn84
 | 12,_,_=>pn90
 | 13,_,_=>pn91
 | 14,_,_=>pn92
 | 15,_,_=>pn93
 | 0,h,_=>absurd h (by omega)
 | _+16,_,h=>absurd h (by omega)
theorem CK.Nprime (k:CK):Pr k.c.n:=pr_n k.1 k.2.1 k.2.2
theorem MtAt.off {w:World} {x m n less g id:Nat} {kv:ByteArray × ByteArray} {c:Int} (H:MtAt w x m n less) (HD:DrbgAt w g id kv c):x≠g:=type_neq HD H.2 (by decide)
end Go.Proofs.YtkoonhiplicbkaaGreat.Cw
namespace Go.Proofs.YtkoonhiplicbkaaGreat.Cw
open Go Go.RowKit
attribute [local irreducible] pc ptc nc ac cuc fc gpt
attribute [local go_sem ↓ high] wn_eql wn_neq wn_lss wn_gtr wn_leq wn_geq wn_cells wRS wn_guard lit0 lit1
attribute [local go_sem high] wn_match wRS wn_eql wn_neq wn_lss wn_gtr wn_leq wn_geq
theorem run_cat {P:Program} {ρ:Operand→Value} {o:Oper} (t t2:TypeId) (x y:Operand) (ho:o.op=.binOp .add t x y t2) (a b:ByteArray) (hx:ρ x=.string a) (hy:ρ y=.string b) (h:a.size+b.size≤9223372036854775807) (u:World):(execOp ρ o).run P u=.ok (.value (.string (a++b))) u:=by
 obtain ⟨d,op,type,pos,after,guard⟩:=o
 subst ho
 have h2:(a.size:Int)+b.size≤9223372036854775807:=by omega
 simp [execOp,hx,hy,binOp,eqGuard,Op.stringOp,h2]
def seedB:ByteArray:=⟨#[48,49,50,51,52,53,54,55,56,57,97,98,99,100,101,102,48,49,50,51,52,53,54,55,56,57,97,98,99,100,101,102]⟩
theorem id4:isId 4:=⟨by decide,by decide⟩
theorem seed_size (s:ByteArray):32≤(shortS s++seedB).size∧(shortS s++seedB).size≤256:=by
 have h1:=shortS_size s
 have h2:seedB.size=32:=rfl
 rw [ByteArray.size_append,h2]
 omega
end Go.Proofs.YtkoonhiplicbkaaGreat.Cw
