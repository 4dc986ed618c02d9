/-
  The equation of a signature, in plain numbers: of S and k the key is worked out. Condition: k and R have inverses modulo N.
-/
import Derived.Test.YtkoonhiplicbkaaGreatPk1
set_option linter.unusedSimpArgs false
set_option linter.unusedVariables false
namespace Go.Proofs.YtkoonhiplicbkaaGreat.Cw
theorem mod_dvd (a:Nat) (N:Nat):∃ q:Int,((a%N:Nat):Int)=a - N*q:=⟨((a / N:Nat):Int),by
 have h:=congrArg (fun x:Nat=>(x:Int)) (Nat.mod_add_div a N)
 simp only [Int.natCast_add,Int.natCast_mul] at h
 omega⟩
theorem eq_of_dvd {N a b:Nat} (ha:a<N) (hb:b<N) (h:∃ q:Int,(a:Int)=b+N*q):a=b:=by
 obtain ⟨q,hq⟩:=h
 have h1:(a:Int)%N=(b:Int)%N:=by rw [hq,Int.add_mul_emod_self_left]
 rw [Int.emod_eq_of_lt (by omega) (by omega),Int.emod_eq_of_lt (by omega) (by omega)] at h1
 omega
theorem rec_law {N r d e k ki ri:Nat} (he:e<N) (hd:d<N) (hk:∃ q:Int,(k:Int)*ki=1+N*q) (hr:∃ q:Int,(r:Int)*ri=1+N*q) :
  ((e+r*d%N)%N*ki%N*k%N+N - e)*ri%N=d:=by
 have hN:0<N:=by omega
 refine eq_of_dvd (Nat.mod_lt _ hN) hd ?_
 obtain ⟨q1,h1⟩:=mod_dvd (r*d) N
 obtain ⟨q2,h2⟩:=mod_dvd (e+r*d%N) N
 obtain ⟨q3,h3⟩:=mod_dvd ((e+r*d%N)%N*ki) N
 obtain ⟨q4,h4⟩:=mod_dvd ((e+r*d%N)%N*ki%N*k) N
 obtain ⟨q5,h5⟩:=mod_dvd (((e+r*d%N)%N*ki%N*k%N+N - e)*ri) N
 obtain ⟨q6,h6⟩:=hk
 obtain ⟨q7,h7⟩:=hr
 rw [h5,Int.natCast_mul,Int.ofNat_sub (show e≤(e+r*d%N)%N*ki%N*k%N+N by omega),Int.natCast_add,h4,Int.natCast_mul,h3,Int.natCast_mul,h2,Int.natCast_add,h1,Int.natCast_mul]
 generalize (N:Int)=n at *
 generalize (r:Int)=R at *
 generalize (d:Int)=D at *
 generalize (e:Int)=E at *
 generalize (k:Int)=K at *
 generalize (ki:Int)=J at *
 generalize (ri:Int)=I at *
 clear h1 h2 h3 h4 h5 he hd hN
 refine ⟨((E+R*D)*q6 - (q1+q2)*J*K - q3*K - q4+1)*I+D*q7 - q5,?_⟩
 have e1:(E+(R*D - n*q1) - n*q2)*J*K=(E+R*D)+n*((E+R*D)*q6 - (q1+q2)*J*K):=by
  have:(E+(R*D - n*q1) - n*q2)*J*K=(E+R*D)*(K*J) - n*((q1+q2)*J*K):=by grind
  rw [this,h6]; grind
 have e2:R*D*I=D+n*(D*q7):=by
  have:R*D*I=D*(R*I):=by grind
  rw [this,h7]; grind
 grind
end Go.Proofs.YtkoonhiplicbkaaGreat.Cw
