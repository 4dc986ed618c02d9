/-
  (math/bits) Div64: quotient and rest of two words by one. Condition: the high word is less than the divisor.
-/
import Derived.Test.YtkoonhiplicbkaaGreatQk9
import Derived.Deep.CutBlock
set_option linter.unusedSimpArgs false
set_option linter.unusedVariables false
set_option maxHeartbeats 1000000
set_option maxRecDepth 100000
namespace Go.Proofs.YtkoonhiplicbkaaGreat.Cw
open Go Go.RowKit
theorem lit64:Value.int .u64 64=wn 64:=rfl
theorem lit32:Value.int .u64 32=wn 32:=rfl
theorem wn_quo (t:TypeId) (a b:Nat) (ha:a<18446744073709551616) (hb:b≠0):binOp .quo t (wn a) (wn b)=pure (wn (a / b)):=by
 have hb':(b:Int)≠0:=by omega
 have e:IntKind.u64.wrap ((a:Int) / b)=((a / b:Nat):Int):=by
  rw [← Int.natCast_ediv,wrapN,Nat.mod_eq_of_lt (Nat.lt_of_le_of_lt (Nat.div_le_self a b) ha)]
 unfold wn
 go_simp
theorem wn_rem (t:TypeId) (a b:Nat) (ha:a<18446744073709551616) (hb:b≠0):binOp .rem t (wn a) (wn b)=pure (wn (a%b)):=by
 have hb':(b:Int)≠0:=by omega
 unfold wn
 go_simp
 rw [Int.tmod_eq_emod_of_nonneg (Int.natCast_nonneg a)]
theorem wn_shrw (t:TypeId) (a n:Nat) (hn:n≤64):binOp .shr t (wn a) (wn n)=pure (wn (a / 2 ^ n)):=by
 show Op.shift .shr .u64 (a:Int) .u64 (n:Int)=_
 unfold Op.shift
 rw [if_neg (by omega)]
 have e:(min ((n:Int)).toNat IntKind.u64.bits)=n:=by show min ((n:Int)).toNat 64=_; rw [Int.toNat_natCast]; omega
 simp only [e]
 have h:(a:Int).fdiv (2 ^ n)=((a / 2 ^ n:Nat):Int):=by
  rw [Int.fdiv_eq_ediv_of_nonneg (a:Int) (show (0:Int)≤2 ^ n from Int.le_of_lt (Int.pow_pos (by omega:(0:Int)<2)))]
  simp
 rw [h]; rfl
theorem wn_shlw (t:TypeId) (a n:Nat):binOp .shl t (wn a) (wn n)=pure (wn (a*2 ^ n%18446744073709551616)):=wn_shl t a .u64 n
theorem wn_and32 (t:TypeId) (a:Nat):binOp .and t (wn a) (wn 4294967295)=pure (wn (a%4294967296)):=by
 refine wn_bitsN _ _ ?_
 show (BitVec.ofInt 64 (a:Int) &&& BitVec.ofInt 64 (4294967295:Int)).toNat=_
 rw [BitVec.ofInt_natCast,show (BitVec.ofInt 64 (4294967295:Int))=BitVec.ofNat 64 4294967295 from rfl,BitVec.toNat_and,BitVec.toNat_ofNat,BitVec.toNat_ofNat]
 rw [show 4294967295%2 ^ 64=2 ^ 32 - 1 from rfl,Nat.and_two_pow_sub_one_eq_mod]
 omega
theorem quot_is {U y q:Nat} (hy:0<y) (h1:U / y≤q) (h2:q*y≤U):q=U / y:=by
 have:q≤U / y:=(Nat.le_div_iff_mul_le hy).2 h2
 omega
theorem quot_less {U y q:Nat} (hy:0<y) (h2:U<q*y):U / y<q:=Nat.div_lt_of_lt_mul (by rw [Nat.mul_comm]; exact h2)
theorem guess_ge {un u1 y1 y0:Nat} (hy:0<y1) (h1:u1<4294967296):(un*4294967296+u1) / (y1*4294967296+y0)≤un / y1:=by
 have h2:(un*4294967296+u1) / (y1*4294967296+y0)≤(un*4294967296+u1) / (y1*4294967296):=Nat.div_le_div_left (by omega) (by omega)
 have h3:(un*4294967296+u1) / (y1*4294967296)=un / y1:=by
  rw [Nat.mul_comm y1,← Nat.div_div_eq_div_mul]
  congr 1
  omega
 omega
theorem guess_le {un y1 y0:Nat} (hy:2147483648≤y1) (h0:y0<4294967296) (hu:un<y1*4294967296+y0):un / y1≤4294967297:=by
 have h:un<4294967298*y1:=by omega
 have:un / y1<4294967298:=(Nat.div_lt_iff_lt_mul (by omega)).2 h
 exact Nat.le_of_lt_succ this
theorem part_mul (q y1 y0 r un:Nat) (h:q*y1+r=un):q*(y1*4294967296+y0)+(r*4294967296)=un*4294967296+q*y0:=by
 rw [← h,Nat.mul_add,Nat.add_mul,← Nat.mul_assoc]
 omega
theorem test_over {q y1 y0 r un u1:Nat} (h:q*y1+r=un) (hy:0<y1) (ht:4294967296*r+u1<q*y0):(un*4294967296+u1) / (y1*4294967296+y0)<q:=by
 refine quot_less (by omega) ?_
 have:=part_mul q y1 y0 r un h
 omega
theorem test_fine {q y1 y0 r un u1:Nat} (h:q*y1+r=un) (hy:0<y1) (hq:(un*4294967296+u1) / (y1*4294967296+y0)≤q) (ht:q*y0≤4294967296*r+u1):q=(un*4294967296+u1) / (y1*4294967296+y0):=by
 refine quot_is (by omega) hq ?_
 have:=part_mul q y1 y0 r un h
 omega
theorem quot_lt {un u1 y:Nat} (hu:un<y) (h1:u1<4294967296):(un*4294967296+u1) / y<4294967296:=by
 refine Nat.div_lt_of_lt_mul ?_
 have:(un+1)*4294967296≤y*4294967296:=Nat.mul_le_mul_right _ hu
 omega
theorem shifted {hi lo y s:Nat} (hs:s≤63) (hlo:lo<18446744073709551616) (hy:y*2 ^ s<18446744073709551616) (h:hi<y) :
  (hi*2 ^ s%18446744073709551616 ||| lo / 2 ^ (64 - s))*18446744073709551616+lo*2 ^ s%18446744073709551616=(hi*18446744073709551616+lo)*2 ^ s∧(hi*2 ^ s%18446744073709551616 ||| lo / 2 ^ (64 - s))<y*2 ^ s:=by
 have hp:=pow64 s (by omega)
 have h1:hi*2 ^ s+2 ^ s≤y*2 ^ s:=by
  have:=Nat.mul_le_mul_right (2 ^ s) h
  rw [Nat.succ_mul] at this
  exact this
 have hpos:0<2 ^ s:=Nat.pow_pos (by decide)
 have hl:lo / 2 ^ (64 - s)<2 ^ s:=Nat.div_lt_of_lt_mul (by rw [Nat.mul_comm,← hp]; exact hlo)
 have e1:hi*2 ^ s%18446744073709551616=hi*2 ^ s:=Nat.mod_eq_of_lt (by omega)
 have e2:(hi*2 ^ s ||| lo / 2 ^ (64 - s))=hi*2 ^ s+lo / 2 ^ (64 - s):=by
  rw [Nat.mul_comm,← Nat.two_pow_add_eq_or_of_lt hl]
 rw [e1,e2]
 refine ⟨?_,by omega⟩
 have e3:lo*2 ^ s=lo / 2 ^ (64 - s)*18446744073709551616+lo*2 ^ s%18446744073709551616:=by
  have h2:=Nat.div_add_mod (lo*2 ^ s) 18446744073709551616
  have h3:lo*2 ^ s / 18446744073709551616=lo / 2 ^ (64 - s):=by
   rw [hp,← Nat.div_div_eq_div_mul,Nat.mul_div_cancel _ hpos]
  rw [h3] at h2
  omega
 generalize 2 ^ s=S at *
 generalize lo / 2 ^ (64 - s)=L at *
 have e4:(hi*18446744073709551616+lo)*S=hi*S*18446744073709551616+lo*S:=by rw [Nat.add_mul,Nat.mul_right_comm]
 rw [e4,Nat.add_mul]
 omega
theorem subW_mod (x z:Nat) (h:z≤x) (h2:x - z<18446744073709551616):subW (x%18446744073709551616) (z%18446744073709551616)=x - z:=by
 unfold subW
 omega
theorem bl_pos {y:Nat} (h:y≠0):0<bl y:=by unfold bl; rw [if_neg h]; omega
theorem bl_le64 {y:Nat} (h:y<18446744073709551616):bl y≤64:=by
 rcases Nat.lt_or_ge 64 (bl y) with h1 | h1
 ·exfalso
  have h0:y≠0:=by
   rintro rfl
   simp [bl] at h1
  have h2:=bl_ge y h0
  have:2 ^ 64≤2 ^ (bl y - 1):=Nat.pow_le_pow_right (by decide) (by omega)
  omega
 ·exact h1
theorem norm_ge {y:Nat} (h0:y≠0) (h:y<18446744073709551616):y*2 ^ (64 - bl y)<18446744073709551616∧9223372036854775808≤y*2 ^ (64 - bl y):=by
 have h1:=bl_lt y
 have h2:=bl_ge y h0
 have h3:=bl_le64 h
 have h4:=bl_pos h0
 have hp:(18446744073709551616:Nat)=2 ^ bl y*2 ^ (64 - bl y):=pow64 (bl y) h3
 have hq:(9223372036854775808:Nat)=2 ^ (bl y - 1)*2 ^ (64 - bl y):=by
  rw [← Nat.pow_add,show bl y - 1+(64 - bl y)=63 by omega]
 refine ⟨?_,?_⟩
 ·rw [hp]; exact Nat.mul_lt_mul_of_pos_right h1 (Nat.pow_pos (by decide))
 ·rw [hq]; exact Nat.mul_le_mul_right _ h2
attribute [local go_sem ↓ high] wn_eql wn_neq wn_lss wn_gtr wn_leq wn_geq wn_cells wRS wn_guard lit0 lit1 lit32 lit64 lit4294967295 lit4294967296
attribute [local go_sem high] wn_match wRS wn_eql wn_neq wn_lss wn_gtr wn_leq wn_geq
theorem wn_addx (t:TypeId) (a b:Nat) (h:a+b<18446744073709551616):binOp .add t (wn a) (wn b)=pure (wn (a+b)):=by rw [wn_add,Nat.mod_eq_of_lt h]
theorem wn_mulx (t:TypeId) (a b:Nat) (h:a*b<18446744073709551616):binOp .mul t (wn a) (wn b)=pure (wn (a*b)):=by rw [wn_mul,Nat.mod_eq_of_lt h]
theorem wn_subx (t:TypeId) (a b:Nat) (h:b≤a) (ha:a<18446744073709551616):binOp .sub t (wn a) (wn b)=pure (wn (a - b)):=by
 rw [wn_sub]
 have:subW a b=a - b:=by unfold subW; omega
 rw [this]
theorem wn_to {t:TypeId} {op:BinOp} {a b c d:Nat} (h:binOp op t (wn a) (wn b)=pure (wn c)) (e:c=d):binOp op t (wn a) (wn b)=pure (wn d):=by rw [h,e]
theorem cvt_uint (n:Nat) (w:World) (h:n<18446744073709551616):(convert 3 46 (.int .i64 (n:Int))).run Tryz.prog w=.ok (wn n) w:=by
 have e:IntKind.u64.wrap (n:Int)=(n:Int):=by rw [wrapN,Nat.mod_eq_of_lt h]
 unfold wn
 go_simp
theorem div64_calls (hi lo y:Nat) (w:World) (hlo:lo<18446744073709551616) (hy:y<18446744073709551616) (h:hi<y) :
  Calls Tryz.prog 136 #[wn hi,wn lo,wn y] w fun e w'=>e=.returned (.tuple #[wn ((hi*18446744073709551616+lo) / y),wn ((hi*18446744073709551616+lo)%y)])∧∃ m,w'=w.drewN m:=by
 have hy0:y≠0:=by omega
 have d0:decide (y=0)=false:=decide_eq_false hy0
 have d1:decide (y≤hi)=false:=decide_eq_false (by omega)
 by_cases hz:hi=0
 ·subst hz
  have hq:=wn_quo 24 lo y hlo hy0
  have hr:=wn_rem 24 lo y hlo hy0
  go_enter Tryz.func136,Tryz.ntmps136
  go_wp2_with (fail)
  go_region
  go_wp2_with (fail)
  go_ret2
  exact ⟨by simp,1,rfl⟩
 ·have d2:decide (hi=0)=false:=decide_eq_false hz
  have hbl:=bitLen_bl y hy
  have hb4:=bl_le64 hy
  have hbp:=bl_pos hy0
  obtain ⟨s,hs⟩:∃ s,s=64 - bl y:=⟨_,rfl⟩
  have es:(64:Int) - (Lib.bitLen y:Int)=(s:Int):=by rw [hbl]; omega
  have hcv:=fun w=>cvt_uint s w (by omega)
  obtain ⟨n1,n2⟩:=norm_ge hy0 hy
  rw [← hs] at n1 n2
  obtain ⟨e1,e2⟩:=shifted (s:=s) (by omega) hlo n1 h
  have hs63:s≤63:=by omega
  obtain ⟨D,hD⟩:∃ D,D=y*2 ^ s:=⟨_,rfl⟩
  obtain ⟨P,hP⟩:∃ P,P=hi*2 ^ s%18446744073709551616:=⟨_,rfl⟩
  obtain ⟨R,hR⟩:∃ R,R=lo / 2 ^ (64 - s):=⟨_,rfl⟩
  obtain ⟨L,hL⟩:∃ L,L=lo*2 ^ s%18446744073709551616:=⟨_,rfl⟩
  rw [← hP,← hR,← hL] at e1
  rw [← hP,← hR,← hD] at e2
  obtain ⟨A,hA⟩:∃ A,A=(P ||| R):=⟨_,rfl⟩
  rw [← hA] at e1 e2
  rw [← hD] at n1 n2
  have o1:=wn_to (wn_shlw 24 y s) (show _=D by rw [← hD,Nat.mod_eq_of_lt n1])
  have o2:=wn_to (wn_shlw 24 hi s) hP.symm
  have o3:=wn_subx 46 64 s (by omega) (by decide)
  have o4:=wn_to (wn_shrw 24 lo (64 - s) (by omega)) hR.symm
  have o5:=wn_to (wn_or 24 P R (by rw [hP]; exact Nat.mod_lt _ (by decide)) (by rw [hR]; exact Nat.lt_of_le_of_lt (Nat.div_le_self _ _) hlo)) hA.symm
  have o6:=wn_to (wn_shlw 24 lo s) hL.symm
  obtain ⟨y1,hy1⟩:∃ y1,y1=D / 4294967296:=⟨_,rfl⟩
  obtain ⟨y0,hy0'⟩:∃ y0,y0=D%4294967296:=⟨_,rfl⟩
  obtain ⟨l1,hl1⟩:∃ l1,l1=L / 4294967296:=⟨_,rfl⟩
  obtain ⟨l0,hl0⟩:∃ l0,l0=L%4294967296:=⟨_,rfl⟩
  have o7:=wn_to (wn_shrw 24 D 32 (by decide)) hy1.symm
  have o8:=wn_to (wn_and32 24 D) hy0'.symm
  have o9:=wn_to (wn_shrw 24 L 32 (by decide)) hl1.symm
  have o10:=wn_to (wn_and32 24 L) hl0.symm
  have hLlt:L<18446744073709551616:=by rw [hL]; exact Nat.mod_lt _ (by decide)
  have eD:D=y1*4294967296+y0:=by rw [hy1,hy0']; omega
  have eL:L=l1*4294967296+l0:=by rw [hl1,hl0]; omega
  have b1:2147483648≤y1:=by omega
  have b2:y1<4294967296:=by omega
  have b3:y0<4294967296:=by omega
  have b4:l1<4294967296:=by omega
  have b5:l0<4294967296:=by omega
  have hy1z:y1≠0:=by omega
  have hAm:A<18446744073709551616:=by omega
  obtain ⟨q,hq⟩:∃ q,q=A / y1:=⟨_,rfl⟩
  obtain ⟨r,hr⟩:∃ r,r=A%y1:=⟨_,rfl⟩
  have hqr:q*y1+r=A:=by rw [hq,hr,Nat.mul_comm]; exact Nat.div_add_mod A y1
  have o11:=wn_to (wn_quo 24 A y1 hAm hy1z) hq.symm
  have o12:=wn_mulx 24 q y1 (by omega)
  have o13:=wn_to (wn_subx 24 A (q*y1) (by omega) hAm) (show _=r by omega)
  have E1:=Hd e1
  have E2:=Hd e2
  have ED:=Hd eD
  have EL:=Hd eL
  have HQR:=Hd hqr
  have HDy:=Hd hD
  have G1:=Hd (show (A*4294967296+l1) / D≤q by rw [hq,eD]; exact guess_ge (by omega) b4)
  have G2:=Hd (show q≤4294967297 by rw [hq]; exact guess_le b1 b3 (by rw [← eD]; exact e2))
  have G3:=Hd (show r<4294967296 by rw [hr]; have:=Nat.mod_lt A (show 0<y1 by omega); omega)
  clear hbl hb4 hbp hs e1 e2 hD hP hR hL hA hy1 hy0' hl1 hl0 eD eL hq hr hqr
  go_enter Tryz.func136,Tryz.ntmps136
  go_upto_block 0 with (go_at_call 112; with_reducible refine (lz64_calls y hy _).mono ?_; rintro e w1 ⟨rfl,rfl⟩; rw [es])
  go_cut [15,16] from 67 to 85 (fun s15 s16 wx=>w=wx∧s15=wn ((A*4294967296+l1) / D))
  case first=>
   go_wp2_with (fail)
   go_loop [15,16] (fun qv rv=>∃ q r:Nat,qv=wn q∧rv=wn r∧Hid (q*y1+r=A∧(A*4294967296+l1) / D≤q)∧q≤4294967297∧r<4294967296) (fun qv _=>match qv with | .int _ n=>n.toNat | _=>0)
   case atStart=>exact ⟨q,r,rfl,rfl,Hd ⟨HQR.out,G1.out⟩,G2.out,G3.out⟩
   case round=>
    clear o11 o12 o13
    obtain ⟨q,r,rfl,rfl,hi,hq9,hr9⟩:=hrel
    have hB:(A*4294967296+l1) / D<4294967296:=quot_lt E2.out b4
    obtain ⟨Q,hQ⟩:∃ Q,Q=(A*4294967296+l1) / D:=⟨_,rfl⟩
    rw [← hQ] at hi hB ⊢
    have HQ:=Hd hQ
    clear hQ
    by_cases hbig:4294967296≤q
    ·have dg:decide (4294967296≤q)=true:=decide_eq_true hbig
     have hov:Q<q:=by omega
     have hqp:q - 1+1=q:=by omega
     have hnew:(q - 1)*y1+(r+y1)=A:=by
      have:=hi.out.1
      rw [← hqp,Nat.add_mul] at this
      omega
     have p1:=wn_subx 24 q 1 (by omega) (by omega)
     have p2:=wn_addx 24 r y1 (by omega)
     have HN:=Hd (show (q - 1)*y1+(r+y1)=A∧Q≤q - 1 from ⟨hnew,by omega⟩)
     have hq0:q - 1<q:=by omega
     have hq0':(match wn (q - 1) with | .int _ n=>n.toNat | _=>0)<(match wn q with | .int _ n=>n.toNat | _=>0):=by show ((q - 1:Nat):Int).toNat<((q:Nat):Int).toNat; omega
     have hq8:q - 1≤4294967296:=by omega
     clear hqp hnew hov
     by_cases hbr:4294967296≤r+y1
     ·have hend:q - 1=Q:=by
       rw [HQ.out,ED.out]
       refine test_fine HN.out.1 (by omega) (by rw [← ED.out,← HQ.out]; exact HN.out.2) ?_
       have h2:(q - 1)*y0≤4294967296*4294967295:=Nat.mul_le_mul hq8 (by omega)
       omega
      have d9:decide (4294967296≤r+y1)=true:=decide_eq_true hbr
      have HE:=Hd hend
      clear hend
      go_wp2_with (fail)
      go_meet
      exact ⟨rfl,by rw [HE.out,HQ.out]⟩
     ·have d9:decide (4294967296≤r+y1)=false:=decide_eq_false hbr
      go_wp2_with (fail)
      go_round
      case rel=>exact ⟨q - 1,r+y1,rfl,rfl,HN,by omega,by omega⟩
      case measure=>exact hq0
    ·have dg:decide (4294967296≤q)=false:=decide_eq_false hbig
     have m0:q*y0≤4294967295*4294967295:=Nat.mul_le_mul (by omega) (by omega)
     have m1:=wn_mulx 24 q y0 (by omega)
     have m2:=wn_mulx 24 4294967296 r (by omega)
     have m3:=wn_addx 24 (4294967296*r) l1 (by omega)
     by_cases hover:4294967296*r+l1<q*y0
     ·have dt:decide (4294967296*r+l1<q*y0)=true:=decide_eq_true hover
      have hov:Q<q:=by rw [HQ.out,ED.out]; exact test_over hi.out.1 (by omega) hover
      clear hover
      have hqp:q - 1+1=q:=by omega
      have hnew:(q - 1)*y1+(r+y1)=A:=by
       have:=hi.out.1
       rw [← hqp,Nat.add_mul] at this
       omega
      have p1:=wn_subx 24 q 1 (by omega) (by omega)
      have p2:=wn_addx 24 r y1 (by omega)
      have HN:=Hd (show (q - 1)*y1+(r+y1)=A∧Q≤q - 1 from ⟨hnew,by omega⟩)
      have hq0:q - 1<q:=by omega
      have hq0':(match wn (q - 1) with | .int _ n=>n.toNat | _=>0)<(match wn q with | .int _ n=>n.toNat | _=>0):=by show ((q - 1:Nat):Int).toNat<((q:Nat):Int).toNat; omega
      have hq8:q - 1≤4294967296:=by omega
      clear hqp hnew hov
      by_cases hbr:4294967296≤r+y1
      ·have hend:q - 1=Q:=by
        rw [HQ.out,ED.out]
        refine test_fine HN.out.1 (by omega) (by rw [← ED.out,← HQ.out]; exact HN.out.2) ?_
        have h2:(q - 1)*y0≤4294967296*4294967295:=Nat.mul_le_mul hq8 (by omega)
        omega
       have d9:decide (4294967296≤r+y1)=true:=decide_eq_true hbr
       have HE:=Hd hend
       clear hend
       go_wp2_with (fail)
       go_meet
       exact ⟨rfl,by rw [HE.out,HQ.out]⟩
      ·have d9:decide (4294967296≤r+y1)=false:=decide_eq_false hbr
       go_wp2_with (fail)
       go_round
       case rel=>exact ⟨q - 1,r+y1,rfl,rfl,HN,by omega,by omega⟩
       case measure=>exact hq0
     ·have dt:decide (4294967296*r+l1<q*y0)=false:=decide_eq_false hover
      have hend:q=Q:=by
       rw [HQ.out,ED.out]
       exact test_fine hi.out.1 (by omega) (by rw [← ED.out,← HQ.out]; exact hi.out.2) (by omega)
      have HE:=Hd hend
      clear hend hover
      go_wp2_with (fail)
      go_meet
      exact ⟨rfl,by rw [HE.out,HQ.out]⟩
  case rest=>
   obtain ⟨rfl,rfl⟩:=hcut
   clear o1 o2 o3 o4 o5 o6 o7 o8 o9 o10 o11 o12 o13
   obtain ⟨Q1,hQ1⟩:∃ Q1,Q1=(A*4294967296+l1) / D:=⟨_,rfl⟩
   rw [← hQ1]
   have hQb:Q1<4294967296:=by rw [hQ1]; exact quot_lt E2.out b4
   obtain ⟨u,hu⟩:∃ u,u=(A*4294967296+l1)%D:=⟨_,rfl⟩
   have huD:u<D:=by rw [hu]; exact Nat.mod_lt _ (by omega)
   have hdm:Q1*D+u=A*4294967296+l1:=by rw [hQ1,hu,Nat.mul_comm]; exact Nat.div_add_mod _ _
   have m1:binOp .mul 24 (wn A) (wn 4294967296)=pure (wn (A*4294967296%18446744073709551616)):=wn_mul _ _ _
   have m2:binOp .add 24 (wn (A*4294967296%18446744073709551616)) (wn l1)=pure (wn ((A*4294967296+l1)%18446744073709551616)):=wn_to (wn_add _ _ _) (by omega)
   have m3:binOp .mul 24 (wn Q1) (wn D)=pure (wn (Q1*D%18446744073709551616)):=wn_mul _ _ _
   have m4:binOp .sub 24 (wn ((A*4294967296+l1)%18446744073709551616)) (wn (Q1*D%18446744073709551616))=pure (wn u):=wn_to (wn_sub _ _ _) (by rw [subW_mod _ _ (by omega) (by omega)]; omega)
   obtain ⟨q,hq⟩:∃ q,q=u / y1:=⟨_,rfl⟩
   obtain ⟨r,hr⟩:∃ r,r=u%y1:=⟨_,rfl⟩
   have hqr:q*y1+r=u:=by rw [hq,hr,Nat.mul_comm]; exact Nat.div_add_mod u y1
   have o11:=wn_to (wn_quo 24 u y1 (by omega) hy1z) hq.symm
   have o12:=wn_mulx 24 q y1 (by omega)
   have o13:=wn_to (wn_subx 24 u (q*y1) (by omega) (by omega)) (show _=r by omega)
   have HDM:=Hd hdm
   have HUD:=Hd huD
   have HQR2:=Hd hqr
   have G4:=Hd (show (u*4294967296+l0) / D≤q by rw [hq,ED.out]; exact guess_ge (by omega) b5)
   have G5:=Hd (show q≤4294967297 by rw [hq]; exact guess_le b1 b3 (by rw [← ED.out]; exact huD))
   have G6:=Hd (show r<4294967296 by rw [hr]; have:=Nat.mod_lt u (show 0<y1 by omega); omega)
   have HQ1:=Hd hQ1
   clear hQ1 hu hq hr hqr hdm
   go_upto_block 2 with fail
   go_cut [18,16] from 102 to 120 (fun s15 s16 wx=>w=wx∧s15=wn ((u*4294967296+l0) / D))
   case first=>
    go_wp2_with (fail)
    go_loop [18,16] (fun qv rv=>∃ q r:Nat,qv=wn q∧rv=wn r∧Hid (q*y1+r=u∧(u*4294967296+l0) / D≤q)∧q≤4294967297∧r<4294967296) (fun qv _=>match qv with | .int _ n=>n.toNat | _=>0)
    case atStart=>exact ⟨q,r,rfl,rfl,Hd ⟨HQR2.out,G4.out⟩,G5.out,G6.out⟩
    case round=>
     clear o11 o12 o13 m1 m2 m3 m4
     obtain ⟨q,r,rfl,rfl,hi,hq9,hr9⟩:=hrel
     have hB:(u*4294967296+l0) / D<4294967296:=quot_lt HUD.out b5
     obtain ⟨Q,hQ⟩:∃ Q,Q=(u*4294967296+l0) / D:=⟨_,rfl⟩
     rw [← hQ] at hi hB ⊢
     have HQ:=Hd hQ
     clear hQ
     by_cases hbig:4294967296≤q
     ·have dg:decide (4294967296≤q)=true:=decide_eq_true hbig
      have hov:Q<q:=by omega
      have hqp:q - 1+1=q:=by omega
      have hnew:(q - 1)*y1+(r+y1)=u:=by
       have:=hi.out.1
       rw [← hqp,Nat.add_mul] at this
       omega
      have p1:=wn_subx 24 q 1 (by omega) (by omega)
      have p2:=wn_addx 24 r y1 (by omega)
      have HN:=Hd (show (q - 1)*y1+(r+y1)=u∧Q≤q - 1 from ⟨hnew,by omega⟩)
      have hq0:q - 1<q:=by omega
      have hq0':(match wn (q - 1) with | .int _ n=>n.toNat | _=>0)<(match wn q with | .int _ n=>n.toNat | _=>0):=by show ((q - 1:Nat):Int).toNat<((q:Nat):Int).toNat; omega
      have hq8:q - 1≤4294967296:=by omega
      clear hqp hnew hov
      by_cases hbr:4294967296≤r+y1
      ·have hend:q - 1=Q:=by
        rw [HQ.out,ED.out]
        refine test_fine HN.out.1 (by omega) (by rw [← ED.out,← HQ.out]; exact HN.out.2) ?_
        have h2:(q - 1)*y0≤4294967296*4294967295:=Nat.mul_le_mul hq8 (by omega)
        omega
       have d9:decide (4294967296≤r+y1)=true:=decide_eq_true hbr
       have HE:=Hd hend
       clear hend
       go_wp2_with (fail)
       go_meet
       exact ⟨rfl,by rw [HE.out,HQ.out]⟩
      ·have d9:decide (4294967296≤r+y1)=false:=decide_eq_false hbr
       go_wp2_with (fail)
       go_round
       case rel=>exact ⟨q - 1,r+y1,rfl,rfl,HN,by omega,by omega⟩
       case measure=>exact hq0
     ·have dg:decide (4294967296≤q)=false:=decide_eq_false hbig
      have m0:q*y0≤4294967295*4294967295:=Nat.mul_le_mul (by omega) (by omega)
      have m1:=wn_mulx 24 q y0 (by omega)
      have m2:=wn_mulx 24 4294967296 r (by omega)
      have m3:=wn_addx 24 (4294967296*r) l0 (by omega)
      by_cases hover:4294967296*r+l0<q*y0
      ·have dt:decide (4294967296*r+l0<q*y0)=true:=decide_eq_true hover
       have hov:Q<q:=by rw [HQ.out,ED.out]; exact test_over hi.out.1 (by omega) hover
       clear hover
       have hqp:q - 1+1=q:=by omega
       have hnew:(q - 1)*y1+(r+y1)=u:=by
        have:=hi.out.1
        rw [← hqp,Nat.add_mul] at this
        omega
       have p1:=wn_subx 24 q 1 (by omega) (by omega)
       have p2:=wn_addx 24 r y1 (by omega)
       have HN:=Hd (show (q - 1)*y1+(r+y1)=u∧Q≤q - 1 from ⟨hnew,by omega⟩)
       have hq0:q - 1<q:=by omega
       have hq0':(match wn (q - 1) with | .int _ n=>n.toNat | _=>0)<(match wn q with | .int _ n=>n.toNat | _=>0):=by show ((q - 1:Nat):Int).toNat<((q:Nat):Int).toNat; omega
       have hq8:q - 1≤4294967296:=by omega
       clear hqp hnew hov
       by_cases hbr:4294967296≤r+y1
       ·have hend:q - 1=Q:=by
         rw [HQ.out,ED.out]
         refine test_fine HN.out.1 (by omega) (by rw [← ED.out,← HQ.out]; exact HN.out.2) ?_
         have h2:(q - 1)*y0≤4294967296*4294967295:=Nat.mul_le_mul hq8 (by omega)
         omega
        have d9:decide (4294967296≤r+y1)=true:=decide_eq_true hbr
        have HE:=Hd hend
        clear hend
        go_wp2_with (fail)
        go_meet
        exact ⟨rfl,by rw [HE.out,HQ.out]⟩
       ·have d9:decide (4294967296≤r+y1)=false:=decide_eq_false hbr
        go_wp2_with (fail)
        go_round
        case rel=>exact ⟨q - 1,r+y1,rfl,rfl,HN,by omega,by omega⟩
        case measure=>exact hq0
      ·have dt:decide (4294967296*r+l0<q*y0)=false:=decide_eq_false hover
       have hend:q=Q:=by
        rw [HQ.out,ED.out]
        exact test_fine hi.out.1 (by omega) (by rw [← ED.out,← HQ.out]; exact hi.out.2) (by omega)
       have HE:=Hd hend
       clear hend hover
       go_wp2_with (fail)
       go_meet
       exact ⟨rfl,by rw [HE.out,HQ.out]⟩
   case rest=>
    obtain ⟨rfl,rfl⟩:=hcut
    clear o11 o12 o13 m1 m2 m3 m4
    obtain ⟨Q0,hQ0⟩:∃ Q0,Q0=(u*4294967296+l0) / D:=⟨_,rfl⟩
    rw [← hQ0]
    have hQb0:Q0<4294967296:=by rw [hQ0]; exact quot_lt HUD.out b5
    obtain ⟨v,hv⟩:∃ v,v=(u*4294967296+l0)%D:=⟨_,rfl⟩
    have hvD:v<D:=by rw [hv]; exact Nat.mod_lt _ (by omega)
    have hdm0:Q0*D+v=u*4294967296+l0:=by rw [hQ0,hv,Nat.mul_comm]; exact Nat.div_add_mod _ _
    have m1:=wn_mulx 24 Q1 4294967296 (by omega)
    have m2:=wn_addx 24 (Q1*4294967296) Q0 (by omega)
    have m3:binOp .mul 24 (wn u) (wn 4294967296)=pure (wn (u*4294967296%18446744073709551616)):=wn_mul _ _ _
    have m4:binOp .add 24 (wn (u*4294967296%18446744073709551616)) (wn l0)=pure (wn ((u*4294967296+l0)%18446744073709551616)):=wn_to (wn_add _ _ _) (by omega)
    have m5:binOp .mul 24 (wn Q0) (wn D)=pure (wn (Q0*D%18446744073709551616)):=wn_mul _ _ _
    have m6:binOp .sub 24 (wn ((u*4294967296+l0)%18446744073709551616)) (wn (Q0*D%18446744073709551616))=pure (wn v):=wn_to (wn_sub _ _ _) (by rw [subW_mod _ _ (by omega) (by omega)]; omega)
    have m7:=wn_shrw 24 v s (by omega)
    have hS:0<2 ^ s:=Nat.pow_pos (by decide)
    have htot:(hi*18446744073709551616+lo)*2 ^ s=(Q1*4294967296+Q0)*D+v:=by
     rw [← E1.out,EL.out,Nat.add_mul]
     have h1:=HDM.out
     have h2:Q1*4294967296*D=Q1*D*4294967296:=by rw [Nat.mul_right_comm]
     omega
    have hqq:(hi*18446744073709551616+lo) / y=Q1*4294967296+Q0:=by
     have h1:(hi*18446744073709551616+lo) / y=((hi*18446744073709551616+lo)*2 ^ s) / (y*2 ^ s):=(Nat.mul_div_mul_right _ _ hS).symm
     rw [h1,htot,← HDy.out,Nat.add_comm,Nat.add_mul_div_right _ _ (by omega),Nat.div_eq_of_lt hvD,Nat.zero_add]
    have hrr:(hi*18446744073709551616+lo)%y=v / 2 ^ s:=by
     have h1:(hi*18446744073709551616+lo)*2 ^ s%(y*2 ^ s)=(hi*18446744073709551616+lo)%y*2 ^ s:=Nat.mul_mod_mul_right _ _ _
     rw [htot,← HDy.out,Nat.add_comm,Nat.add_mul_mod_self_right,Nat.mod_eq_of_lt hvD] at h1
     rw [h1,Nat.mul_div_cancel _ hS]
    have HQQ:=Hd hqq
    have HRR:=Hd hrr
    clear hQ0 hv hdm0 htot hqq hrr
    go_wp2_with (fail)
    go_ret2
    exact ⟨by rw [HQQ.out,HRR.out]; rfl,0,rfl⟩
end Go.Proofs.YtkoonhiplicbkaaGreat.Cw
