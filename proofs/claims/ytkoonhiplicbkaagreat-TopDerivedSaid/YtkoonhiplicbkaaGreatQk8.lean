/-
  Words of 64 bits as natural numbers: values, operations on them. No condition but what each says.
  Numbers and their digits of 64 bits: sums, differences, comparison digit by digit. Plain facts, no program.
-/
import Derived.Test.YtkoonhiplicbkaaGreatQk1
set_option linter.unusedSimpArgs false
set_option linter.unusedVariables false
namespace Go.Proofs.YtkoonhiplicbkaaGreat.Cw
open Go Go.RowKit
def wn (n:Nat):Value:=.int .u64 (n:Int)
theorem wrapN (n:Nat):IntKind.u64.wrap (n:Int)=((n%18446744073709551616:Nat):Int):=wrap64_any n
section
variable (t:TypeId) (a b:Nat)
theorem wn_add:binOp .add t (wn a) (wn b)=pure (wn ((a+b)%18446744073709551616)):=by
 show (pure (.int .u64 (IntKind.u64.wrap ((a:Int)+b))):Sem Value)=_
 rw [← Int.natCast_add,wrapN]; rfl
theorem wn_mul:binOp .mul t (wn a) (wn b)=pure (wn ((a*b)%18446744073709551616)):=by
 show (pure (.int .u64 (IntKind.u64.wrap ((a:Int)*b))):Sem Value)=_
 rw [← Int.natCast_mul,wrapN]; rfl
def subW (a b:Nat):Nat:=(a+(18446744073709551616 - b%18446744073709551616))%18446744073709551616
theorem wn_sub:binOp .sub t (wn a) (wn b)=pure (wn (subW a b)):=by
 show (pure (.int .u64 (IntKind.u64.wrap ((a:Int) - b))):Sem Value)=_
 have h:IntKind.u64.wrap ((a:Int) - b)=((subW a b:Nat):Int):=by
  simp only [IntKind.wrap,IntKind.bits,IntKind.signed,subW]
  simp
  omega
 rw [h]; rfl
theorem wn_lss:binOp .lss t (wn a) (wn b)=pure (.bool (decide (a<b))):=by
 show (pure (.bool (decide ((a:Int)<(b:Int)))):Sem Value)=_
 congr 2
 simp
theorem wn_leq:binOp .leq t (wn a) (wn b)=pure (.bool (decide (a≤b))):=by
 show (pure (.bool (decide ((a:Int)≤(b:Int)))):Sem Value)=_
 congr 2
 simp
theorem wn_gtr:binOp .gtr t (wn a) (wn b)=pure (.bool (decide (b<a))):=by
 show (pure (.bool (decide ((a:Int)>(b:Int)))):Sem Value)=_
 congr 2
 simp
theorem wn_geq:binOp .geq t (wn a) (wn b)=pure (.bool (decide (b≤a))):=by
 show (pure (.bool (decide ((a:Int)≥(b:Int)))):Sem Value)=_
 congr 2
 simp
theorem wn_eql:binOp .eql t (wn a) (wn b)=pure (.bool (decide (a=b))):=by
 show (pure (.bool ((a:Int) == (b:Int))):Sem Value)=_
 congr 2
 rw [Bool.eq_iff_iff,beq_iff_eq,decide_eq_true_iff]; omega
theorem wn_neq:binOp .neq t (wn a) (wn b)=pure (.bool (decide (a≠b))):=by
 show (pure (.bool (!((a:Int) == (b:Int)))):Sem Value)=_
 congr 2
 rw [Bool.eq_iff_iff,Bool.not_eq_true',beq_eq_false_iff_ne,decide_eq_true_iff]; omega
theorem wn_cells:(wn a).cells=#[wn a]:=rfl
theorem wn_match:Value.cells.match_1 (fun _=>Array Value) (wn a) (fun cs=>cs) (fun v=>#[v])=#[wn a]:=rfl
theorem wRS (P:Program) (w:World) (p:Addr) (m:Mode):(store p (wn a) m).run P w=stored P w p (wn a) m:=run_store P w p _ m rfl
theorem wn_one:(wn a).oneCell'=true:=rfl
theorem wn_guard (op:BinOp) (x y:Operand) (u:Value):eqGuard op t x y (wn a) u=pure ():=eqGuard_at_int op t x y u .u64 _
theorem wn_bitsN (f:BitVec 64) (g:Nat) (h:f.toNat=g):(pure (.int .u64 (IntKind.u64.wrap f.toNat)):Sem Value)=pure (wn g):=by
 rw [wrapN,Nat.mod_eq_of_lt (by have:=f.isLt; simpa using this),h]; rfl
theorem wn_and (ha:a<18446744073709551616) (hb:b<18446744073709551616):binOp .and t (wn a) (wn b)=pure (wn (a &&& b)):=by
 refine wn_bitsN _ _ ?_
 show (BitVec.ofInt 64 (a:Int) &&& BitVec.ofInt 64 (b:Int)).toNat=_
 rw [BitVec.ofInt_natCast,BitVec.ofInt_natCast,BitVec.toNat_and,BitVec.toNat_ofNat,BitVec.toNat_ofNat,Nat.mod_eq_of_lt ha,Nat.mod_eq_of_lt hb]
theorem wn_or (ha:a<18446744073709551616) (hb:b<18446744073709551616):binOp .or t (wn a) (wn b)=pure (wn (a ||| b)):=by
 refine wn_bitsN _ _ ?_
 show (BitVec.ofInt 64 (a:Int) ||| BitVec.ofInt 64 (b:Int)).toNat=_
 rw [BitVec.ofInt_natCast,BitVec.ofInt_natCast,BitVec.toNat_or,BitVec.toNat_ofNat,BitVec.toNat_ofNat,Nat.mod_eq_of_lt ha,Nat.mod_eq_of_lt hb]
theorem wn_xor (ha:a<18446744073709551616) (hb:b<18446744073709551616):binOp .xor t (wn a) (wn b)=pure (wn (a ^^^ b)):=by
 refine wn_bitsN _ _ ?_
 show (BitVec.ofInt 64 (a:Int) ^^^ BitVec.ofInt 64 (b:Int)).toNat=_
 rw [BitVec.ofInt_natCast,BitVec.ofInt_natCast,BitVec.toNat_xor,BitVec.toNat_ofNat,BitVec.toNat_ofNat,Nat.mod_eq_of_lt ha,Nat.mod_eq_of_lt hb]
theorem wn_shr (ha:a<18446744073709551616) (k:IntKind) (n:Nat):binOp .shr t (wn a) (.int k (n:Int))=pure (wn (a / 2 ^ n)):=by
 show Op.shift .shr .u64 (a:Int) k (n:Int)=_
 unfold Op.shift
 rw [if_neg (by omega)]
 have e:(min ((n:Int)).toNat IntKind.u64.bits)=min n 64:=by show min ((n:Int)).toNat 64=_; rw [Int.toNat_natCast]
 simp only [e]
 have h:(a:Int).fdiv (2 ^ (min n 64))=((a / 2 ^ n:Nat):Int):=by
  rw [Int.fdiv_eq_ediv_of_nonneg (a:Int) (show (0:Int)≤2 ^ (min n 64) from Int.le_of_lt (Int.pow_pos (by omega:(0:Int)<2)))]
  rcases Nat.le_total n 64 with h | h
  ·rw [Nat.min_eq_left h]; simp
  ·rw [Nat.min_eq_right h]
   have h1:a / 2 ^ n=0:=Nat.div_eq_of_lt (Nat.lt_of_lt_of_le ha (Nat.pow_le_pow_right (by omega:0<2) h))
   have h2:(a:Int) / 2 ^ 64=0:=Int.ediv_eq_zero_of_lt (Int.natCast_nonneg a) (by omega)
   rw [h1,h2]; rfl
 rw [h]; rfl
theorem wn_shl (k:IntKind) (n:Nat):binOp .shl t (wn a) (.int k (n:Int))=pure (wn (a*2 ^ n%18446744073709551616)):=by
 show Op.shift .shl .u64 (a:Int) k (n:Int)=_
 unfold Op.shift
 rw [if_neg (by omega)]
 have e:(min ((n:Int)).toNat IntKind.u64.bits)=min n 64:=by show min ((n:Int)).toNat 64=_; rw [Int.toNat_natCast]
 simp only [e]
 have h:IntKind.u64.wrap ((a:Int)*2 ^ (min n 64))=((a*2 ^ n%18446744073709551616:Nat):Int):=by
  have e2:(a:Int)*2 ^ (min n 64)=((a*2 ^ (min n 64):Nat):Int):=by simp
  rw [e2,wrapN]
  congr 1
  rcases Nat.le_total n 64 with h | h
  ·rw [Nat.min_eq_left h]
  ·rw [Nat.min_eq_right h]
   have:2 ^ n=2 ^ 64*2 ^ (n - 64):=by rw [← Nat.pow_add]; congr 1; omega
   rw [this,← Nat.mul_assoc,Nat.mul_right_comm]
   rw [show (2 ^ 64:Nat)=18446744073709551616 from rfl,Nat.mul_mod_left,Nat.mul_mod_left]
 rw [h]; rfl
end
theorem lit0:Value.int .u64 0=wn 0:=rfl
theorem lit1:Value.int .u64 1=wn 1:=rfl
theorem lit10:Value.int .u64 10=wn 10:=rfl
theorem lit4294967295:Value.int .u64 4294967295=wn 4294967295:=rfl
theorem lit4294967296:Value.int .u64 4294967296=wn 4294967296:=rfl
theorem lit18446744073709551615:Value.int .u64 18446744073709551615=wn 18446744073709551615:=rfl
end Go.Proofs.YtkoonhiplicbkaaGreat.Cw
namespace Go.Proofs.YtkoonhiplicbkaaGreat.Cw
open Go
def pw (i:Nat):Nat:=18446744073709551616 ^ i
def dig (n i:Nat):Nat:=n / pw i%18446744073709551616
theorem pw_pos (i:Nat):0<pw i:=Nat.pow_pos (by decide)
theorem pw_succ (i:Nat):pw (i+1)=pw i*18446744073709551616:=Nat.pow_succ _ _
theorem pw_zero:pw 0=1:=rfl
theorem pw_nine:pw 9=2 ^ 576:=by decide +kernel
theorem pw_add (i j:Nat):pw (i+j)=pw i*pw j:=Nat.pow_add _ _ _
theorem dig_lt (n i:Nat):dig n i<18446744073709551616:=Nat.mod_lt _ (by decide)
theorem mod_pw_succ (n i:Nat):n%pw (i+1)=n%pw i+pw i*dig n i:=by
 unfold pw dig
 exact Nat.mod_pow_succ
theorem mod_pw_zero (n:Nat):n%pw 0=0:=by rw [pw_zero,Nat.mod_one]
theorem dig_zero (i:Nat):dig 0 i=0:=by unfold dig; simp
theorem dig_mod (n k i:Nat) (h:i<k):dig (n%pw k) i=dig n i:=by
 unfold dig
 obtain ⟨j,rfl⟩:∃ j,k=i+(j+1):=⟨k - i - 1,by omega⟩
 rw [pw_add,Nat.mod_mul_right_div_self,pw_succ,Nat.mul_comm,Nat.mod_mul_right_mod]
def car (a b i:Nat):Nat:=(a%pw i+b%pw i) / pw i
def mixd (a b k:Nat) (j:Nat):Nat:=if j<k then dig a j else dig b j
theorem mixd_upd (a b k:Nat):upd (mixd a b k) k (dig a k)=mixd a b (k+1):=by
 funext j
 simp only [upd,mixd]
 by_cases h:j=k
 ·subst h; simp
 ·have:j<k+1↔j<k:=by omega
  simp [h,this]
theorem mixd_at (a b k:Nat):mixd a b k k=dig b k:=by simp [mixd]
theorem mixd_zero (a b:Nat):mixd a b 0=dig b:=by funext j; simp [mixd]
theorem mixd_all (a b:Nat):fa wn 9 (mixd a b 9)=fa wn 9 (dig a):=fa_ext _ _ _ _ fun i hi=>by simp [mixd,hi]
theorem car_zero (a b:Nat):car a b 0=0:=by unfold car; rw [mod_pw_zero,mod_pw_zero]; simp
theorem car_le (a b i:Nat):car a b i≤1:=by
 unfold car
 have h1:=Nat.mod_lt a (pw_pos i)
 have h2:=Nat.mod_lt b (pw_pos i)
 have:(a%pw i+b%pw i) / pw i<2:=Nat.div_lt_of_lt_mul (by omega)
 omega
theorem split_pw (a i:Nat):a=pw i*(a / pw i)+a%pw i:=(Nat.div_add_mod a (pw i)).symm
theorem dig_add (a b i:Nat):dig (a+b) i=(dig a i+dig b i+car a b i)%18446744073709551616:=by
 have e:(a+b) / pw i=a / pw i+b / pw i+car a b i:=by
  have h:a+b=(a%pw i+b%pw i)+pw i*(a / pw i+b / pw i):=by
   have h1:=split_pw a i
   have h2:=split_pw b i
   rw [Nat.mul_add]; omega
  rw [h,Nat.add_mul_div_left _ _ (pw_pos i)]
  unfold car
  omega
 unfold dig
 rw [e]
 omega
theorem car_succ (a b i:Nat):car a b (i+1)=(dig a i+dig b i+car a b i) / 18446744073709551616:=by
 unfold car
 rw [mod_pw_succ,mod_pw_succ,pw_succ,← Nat.div_div_eq_div_mul]
 congr 1
 have h:a%pw i+pw i*dig a i+(b%pw i+pw i*dig b i)=(a%pw i+b%pw i)+pw i*(dig a i+dig b i):=by rw [Nat.mul_add]; omega
 rw [h,Nat.add_mul_div_left _ _ (pw_pos i)]
 omega
theorem car_all (a b k:Nat) (ha:a<pw k) (hb:b<pw k):car a b k=if a+b<pw k then 0 else 1:=by
 have h:=car_le a b k
 unfold car at h ⊢
 rw [Nat.mod_eq_of_lt ha,Nat.mod_eq_of_lt hb] at h ⊢
 split
 ·exact Nat.div_eq_of_lt ‹_›
 ·have:1≤(a+b) / pw k:=(Nat.le_div_iff_mul_le (pw_pos k)).2 (by omega)
  omega
def bor (a b i:Nat):Nat:=if a%pw i<b%pw i then 1 else 0
theorem bor_zero (a b:Nat):bor a b 0=0:=by unfold bor; rw [mod_pw_zero,mod_pw_zero]; simp
theorem bor_le (a b i:Nat):bor a b i≤1:=by unfold bor; split <;> omega
theorem lt_digits (P a b x y:Nat) (hx:x<P) (hy:y<P):(x+P*a<y+P*b)↔(a<b∨a=b∧x<y):=by
 constructor
 ·intro h
  rcases Nat.lt_trichotomy a b with h1 | h1 | h1
  ·exact .inl h1
  ·subst h1; exact .inr ⟨rfl,by omega⟩
  ·exfalso
   have:P*(b+1)≤P*a:=Nat.mul_le_mul_left _ h1
   rw [Nat.mul_add] at this
   omega
 ·rintro (h1 | ⟨rfl,h⟩)
  ·have:P*(a+1)≤P*b:=Nat.mul_le_mul_left _ h1
   rw [Nat.mul_add] at this
   omega
  ·omega
theorem bor_succ (a b i:Nat):bor a b (i+1)=if dig a i<dig b i+bor a b i then 1 else 0:=by
 unfold bor
 rw [mod_pw_succ,mod_pw_succ]
 have h:=lt_digits (pw i) (dig a i) (dig b i) (a%pw i) (b%pw i) (Nat.mod_lt _ (pw_pos i)) (Nat.mod_lt _ (pw_pos i))
 by_cases h1:a%pw i<b%pw i
 ·rw [if_pos h1]
  by_cases h2:dig a i<dig b i+1
  ·rw [if_pos h2,if_pos (h.2 (by omega))]
  ·rw [if_neg h2,if_neg (fun h3=>by have:=h.1 h3; omega)]
 ·rw [if_neg h1]
  by_cases h2:dig a i<dig b i+0
  ·rw [if_pos h2,if_pos (h.2 (by omega))]
  ·rw [if_neg h2,if_neg (fun h3=>by have:=h.1 h3; omega)]
def dif (a b k:Nat):Nat:=(a+pw k - b)%pw k
theorem dig_dif (a b k i:Nat) (hb:b<pw k) (hi:i<k):dig (dif a b k) i=(dig a i+18446744073709551616 - dig b i - bor a b i)%18446744073709551616:=by
 unfold dif
 rw [dig_mod _ _ _ hi]
 obtain ⟨j,rfl⟩:∃ j,k=i+(j+1):=⟨k - i - 1,by omega⟩
 have hbq:b / pw i<pw (j+1):=Nat.div_lt_of_lt_mul (by rw [← pw_add]; exact hb)
 have h1:=split_pw a i
 have h2:=split_pw b i
 have h3:=Nat.mod_lt a (pw_pos i)
 have h4:=Nat.mod_lt b (pw_pos i)
 have e:(a+pw (i+(j+1)) - b) / pw i=a / pw i+pw (j+1) - b / pw i - bor a b i:=by
  have hP:=pw_add i (j+1)
  unfold bor
  have nA:=Nat.zero_le (a / pw i)
  have nB:=Nat.zero_le (b / pw i)
  generalize a / pw i=A at *
  generalize b / pw i=B at *
  generalize a%pw i=al at *
  generalize b%pw i=bl at *
  generalize pw (i+(j+1))=Pk at *
  generalize pw (j+1)=Pj at *
  have pp:=pw_pos i
  split
  ·rename_i hlt
   have e1:a+Pk - b=(al+pw i - bl)+pw i*(A+Pj - B - 1):=by
    have e2:pw i*(A+Pj - B - 1)+pw i+pw i*B=pw i*A+pw i*Pj:=by
     rw [← Nat.mul_add,← Nat.mul_succ,← Nat.mul_add]
     congr 1
     omega
    omega
   rw [e1,Nat.add_mul_div_left _ _ pp,Nat.div_eq_of_lt (by omega)]
   omega
  ·rename_i hge
   have e1:a+Pk - b=(al - bl)+pw i*(A+Pj - B):=by
    have e2:pw i*(A+Pj - B)+pw i*B=pw i*A+pw i*Pj:=by
     rw [← Nat.mul_add,← Nat.mul_add]
     congr 1
     omega
    omega
   rw [e1,Nat.add_mul_div_left _ _ pp,Nat.div_eq_of_lt (by omega)]
   omega
 unfold dig
 rw [e]
 have hp:pw (j+1)=pw j*18446744073709551616:=pw_succ j
 have hbl:=bor_le a b i
 have:=pw_pos j
 generalize a / pw i=A at *
 generalize b / pw i=B at *
 generalize bor a b i=c at *
 have hq:pw (j+1)≥18446744073709551616:=by rw [hp]; exact Nat.le_mul_of_pos_left _ this
 have hm:pw (j+1)%18446744073709551616=0:=by rw [hp]; exact Nat.mul_mod_left _ _
 omega
theorem bor_all (a b k:Nat) (ha:a<pw k) (hb:b<pw k):bor a b k=if a<b then 1 else 0:=by
 unfold bor
 rw [Nat.mod_eq_of_lt ha,Nat.mod_eq_of_lt hb]
theorem dig_ext (a b k:Nat) (ha:a<pw k) (hb:b<pw k) (h:∀ i,i<k→dig a i=dig b i):a=b:=by
 have:∀ i,i≤k→a%pw i=b%pw i:=by
  intro i
  induction i with
  | zero=>intro _; rw [mod_pw_zero,mod_pw_zero]
  | succ i ih=>intro hi; rw [mod_pw_succ,mod_pw_succ,ih (by omega),h i (by omega)]
 have h1:=this k (Nat.le_refl _)
 rwa [Nat.mod_eq_of_lt ha,Nat.mod_eq_of_lt hb] at h1
def nc (n:Nat):Array Value:=fa wn 9 (dig n)
theorem nZ:nc 0=#[wn 0,wn 0,wn 0,wn 0,wn 0,wn 0,wn 0,wn 0,wn 0]:=by
 have h:dig 0=fun _=>0:=funext dig_zero
 unfold nc
 rw [h]
 rfl
theorem nS (n:Nat):(nc n).size=9:=fS _ _ _
theorem nc_get (n i:Nat) (h:i<9):(nc n)[i]?=some (wn (dig n i)):=fa_get _ _ _ _ h
theorem nc_mod (n:Nat):nc (n%pw 9)=nc n:=fa_ext _ _ _ _ fun i hi=>dig_mod n 9 i hi
end Go.Proofs.YtkoonhiplicbkaaGreat.Cw
