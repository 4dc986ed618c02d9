/-
  (package curve) Get: a curve's numbers. Condition: the numbers 1 to 15.
  The numbers modulo a prime as a field: inverses, no divisors of nought. No program.
  Triples and points over a field: Sum and what it stands for. No program.
  Chords and tangents against Sum: polynomials. No program.
  Sum of two points of a curve without points of order two is their sum by chord and tangent. No program.
-/
import Derived.Test.YtkoonhiplicbkaaGreatQk22
set_option linter.unusedSimpArgs false
set_option linter.unusedVariables false
set_option maxHeartbeats 4000000
set_option maxRecDepth 100000
namespace Go.Proofs.YtkoonhiplicbkaaGreat.Cw
open Go Go.RowKit
attribute [local irreducible] pc ptc nc ac cuc fc cgA
attribute [local go_sem ↓ high] wn_eql wn_neq wn_lss wn_gtr wn_leq wn_geq wn_cells wRS wn_guard lit0 lit1
attribute [local go_sem high] wn_match wRS wn_eql wn_neq wn_lss wn_gtr wn_leq wn_geq
theorem ac_one (cu:Cv):∀ u ∈ (ac cu).toList,u.oneCell'=true:=by
 intro u hu
 simp only [ac,Array.toList_append,List.mem_append] at hu
 rcases hu with hu | hu | hu | hu | hu | hu | hu
 ·simp at hu; subst hu; rfl
 ·exact nO _ u hu
 ·exact nO _ u hu
 ·exact nO _ u hu
 ·exact nO _ u hu
 ·exact ptc_one _ _ _ u hu
 ·simp at hu; rcases hu with rfl | rfl | rfl <;> rfl
theorem results_C2 {fn:Func} {p q:Tmp} (h:fn.results=#[.cell p 43,.tmp q]) (tmps:Array Value) (w:World) (g:Nat) (t:TypeId) (cs:Array Value) (fr:Nat × Nat) (v:Value) (hn:cs.size=59)
  (hp:tmps.getD p undef=.pointer (some ⟨g,0,none⟩)) (hq:tmps.getD q undef=v) (hg:w.heap[g]?=some (.cells cs t fr)) :
  (results fn tmps).run Tryz.prog w=.ok (.tuple #[.agg cs,v]) w:=by
 have hp':tmps[p]?.getD undef=.pointer (some ⟨g,0,none⟩):=by simpa using hp
 have hq':tmps[q]?.getD undef=v:=by simpa using hq
 simp [results,h,hp',hq',asAddr,run_load_seg w g 0 59 t 43 cs cs fr _ hg Tryz.underlying43 rfl (by kernel_rfl) hn (fun j _=>by rw [Nat.zero_add])]
theorem curve_get (k:Nat) (w:World) (h1:1≤k) (h2:k≤15):Calls Tryz.prog 13 #[.int .i64 k] w fun e w'=>e=.returned (.tuple #[.agg (ac (cv k)),.int .i64 0])∧Below w.heap.size w w':=by
 have HOP:=Hd (fun u=>curve_open k u h1 h2)
 clear h1 h2
 obtain ⟨cu,hcu⟩:∃ cu,cu=cv k:=⟨_,rfl⟩
 rw [← hcu] at HOP ⊢
 clear hcu
 go_enter Tryz.func13,Tryz.ntmps13
 go_upto_region 1 with fail
 have m0:=Mem.start1 w (#[.int .i64 0,wn 0,wn 0,wn 0,wn 0,wn 0,wn 0,wn 0,wn 0,wn 0,wn 0,wn 0,wn 0,wn 0,wn 0,wn 0,wn 0,wn 0,wn 0,wn 0,wn 0,wn 0,wn 0,wn 0,wn 0,wn 0,wn 0,wn 0,wn 0,wn 0,wn 0,wn 0,wn 0,wn 0,wn 0,wn 0,wn 0,wn 0,wn 0,wn 0,wn 0,wn 0,wn 0,wn 0,wn 0,wn 0,wn 0,wn 0,wn 0,wn 0,wn 0,wn 0,wn 0,wn 0,wn 0,.bool false,.int .i64 0,.int .i64 0,.bool false]) 43
 obtain ⟨w1,hw1⟩:∃ w1:World,w1=(w.alloc (.cells (#[.int .i64 0,wn 0,wn 0,wn 0,wn 0,wn 0,wn 0,wn 0,wn 0,wn 0,wn 0,wn 0,wn 0,wn 0,wn 0,wn 0,wn 0,wn 0,wn 0,wn 0,wn 0,wn 0,wn 0,wn 0,wn 0,wn 0,wn 0,wn 0,wn 0,wn 0,wn 0,wn 0,wn 0,wn 0,wn 0,wn 0,wn 0,wn 0,wn 0,wn 0,wn 0,wn 0,wn 0,wn 0,wn 0,wn 0,wn 0,wn 0,wn 0,wn 0,wn 0,wn 0,wn 0,wn 0,wn 0,.bool false,.int .i64 0,.int .i64 0,.bool false]) 43)):=⟨_,rfl⟩
 rw [← hw1] at m0 ⊢
 clear hw1
 obtain ⟨g,hg⟩:∃ g,g=w.heap.size:=⟨_,rfl⟩
 rw [← hg] at m0 ⊢
 have HG:=Hd hg
 have M:=Hd m0
 clear hg m0
 refine wp_region_lit ?_
 refine pK (.int .i64 (k:Int)) ?_
 refine wpList_fnE rfl _ _ _ _ rfl #[] #[.int .i64 (k:Int)] (by kernel_rfl) (by kernel_rfl) (fun u=>cE _ _ _ _ u Tryz.func30 (by kernel_rfl) (by kernel_rfl)) (T:=Nat) (fun c=>.pointer (some ⟨c,0,none⟩)) (fun c w'=>∃ f d,CurveAt w' c f d cu∧Below w1.heap.size w1 w') ((HOP.out w1).mono fun e w' ⟨c,f,d,he,hr,_,hb⟩=>⟨c,he,f,d,hr,hb⟩) ?_
 rintro c w2 ⟨f,d,hc,hb⟩
 have HCB:=Hd hc.2.2
 have M2:=Hd (M.out.grow hb)
 clear hc hb M
 refine pK (.pointer (some ⟨c,0,none⟩)) ?_
 refine wpList_nil ?_
 try simp only [Act.put,s_,t_,u_,v_,x_,y_]
 go_upto_region 2 with (fail)
 refine wp_region_lit ?_
 refine pK (.pointer (some ⟨c,0,none⟩)) ?_
 refine pK (.bool false) ?_
 refine wpList_nil ?_
 try simp only [Act.put,s_,t_,u_,v_,x_,y_]
 go_upto_region 4 with (fail)
 refine wp_region_lit ?_
 refine pK (.pointer (some ⟨c,0,none⟩)) ?_
 refine pK (.pointer (some ⟨c,0,none⟩)) ?_
 refine pK (.pointer (some ⟨c,0,none⟩)) ?_
 refine lS rfl 43 (.tmp 12) rfl c 0 59 (by kernel_rfl) _ _ (ac cu) _ _ HCB.out Tryz.underlying43 rfl (by kernel_rfl) (ac_size cu) (cuc_acs cu f) ?_
 refine sB rfl 43 (.tmp 2) (.tmp 13) rfl g (by kernel_rfl) _ _ (ac cu) (by kernel_rfl) (M2.out.at 0 rfl) (by rw [ac_size]; kernel_rfl) (by rw [ac_size]; rfl) (ac_one cu) ?_
 intro w3 hw hb hs
 have M3:=Hd (M2.out.store 0 rfl hb hs hw)
 clear hw hb hs M2
 refine pK (.int .i64 0) ?_
 refine wpList_nil ?_
 try simp only [Act.put,s_,t_,u_,v_,x_,y_]
 go_wp2_with (fail)
 exact bodyPost_ret (results_C2 rfl _ _ g _ _ _ _ (ac_size cu) rfl rfl (M3.out.at 0 rfl)) rfl ⟨rfl,M3.out.below⟩
end Go.Proofs.YtkoonhiplicbkaaGreat.Cw
namespace Go.Proofs.YtkoonhiplicbkaaGreat.Cw
def Pr (p:Nat):Prop:=1<p∧∀ d,d∣p→d=1∨d=p
theorem bez (a b:Nat):∃ s t:Int,s*a+t*b=(Nat.gcd a b:Int):=by
  induction a,b using Nat.gcd.induction with
  | H0 n=>exact ⟨0,1,by simp⟩
  | H1 m n hm ih=>
    obtain ⟨s,t,h⟩:=ih
    rw [Nat.gcd_rec]
    refine ⟨t - s*((n / m:Nat):Int),s,?_⟩
    rw [← h]
    have e:=congrArg (fun k:Nat=>(k:Int)) (Nat.div_add_mod n m)
    simp only [Int.natCast_add,Int.natCast_mul] at e
    generalize ((n%m:Nat):Int)=r at *
    generalize ((n / m:Nat):Int)=q at *
    grind
theorem inv_nat {p a:Nat} (hp:Pr p) (ha:a%p≠0):∃ t,t<p∧t*a%p=1:=by
  have hg:Nat.gcd a p=1:=by
    rcases hp.2 _ (Nat.gcd_dvd_right a p) with h | h
    · exact h
    · have:=Nat.gcd_dvd_left a p
      rw [h] at this
      exact absurd (Nat.mod_eq_zero_of_dvd this) ha
  obtain ⟨s,t,h⟩:=bez a p
  rw [hg] at h
  have hp0:(0:Int)<p:=by have:=hp.1; omega
  refine ⟨(s%p).toNat,?_,?_⟩
  · have:=Int.emod_lt_of_pos s hp0
    have:=Int.emod_nonneg s (show (p:Int)≠0 by omega)
    omega
  · have h0:=Int.emod_nonneg s (show (p:Int)≠0 by omega)
    have e:(((s%p).toNat*a%p:Nat):Int)=1:=by
      rw [Int.natCast_emod,Int.natCast_mul,Int.toNat_of_nonneg h0,Int.mul_emod,Int.emod_emod,← Int.mul_emod,show s*(a:Int)=1+(-t)*p by grind,Int.add_mul_emod_self_right]
      exact Int.emod_eq_of_lt (by omega) (by have:=hp.1; omega)
    exact_mod_cast e
section
variable {p:Nat} [NeZero p]
theorem fin_inv (hp:Pr p) {z:Fin p} (hz:z≠0):∃ t:Fin p,t*z=1:=by
  have h1:z.val%p≠0:=by
    rw [Nat.mod_eq_of_lt z.isLt]
    intro h
    exact hz (Fin.ext (by simpa using h))
  obtain ⟨t,ht,e⟩:=inv_nat hp h1
  refine ⟨⟨t,ht⟩,Fin.ext ?_⟩
  rw [Fin.val_mul]
  show t*z.val%p=(1:Fin p).val
  rw [e,show (1:Fin p).val=1%p from rfl,Nat.mod_eq_of_lt hp.1]
theorem fin_dom (hp:Pr p) {a b:Fin p} (h:a*b=0):a=0∨b=0:=by
  by_cases ha:a=0
  · exact .inl ha
  · obtain ⟨t,ht⟩:=fin_inv hp ha
    right
    have:b=t*a*b:=by rw [ht]; grind -lia -linarith -order (splits:=0) (ematch:=0)
    rw [this]
    grind -lia -linarith -order (splits:=0) (ematch:=0)
open Classical in
noncomputable def inv (z:Fin p):Fin p:=if h:∃ t:Fin p,t*z=1 then h.choose else 0
theorem inv_mul (hp:Pr p) {z:Fin p} (hz:z≠0):inv z*z=1:=by
  unfold inv
  rw [dif_pos (fin_inv hp hz)]
  exact (fin_inv hp hz).choose_spec
theorem one_ne (hp:Pr p):(1:Fin p)≠0:=fun h=>by
  have:=congrArg Fin.val h
  rw [show (1:Fin p).val=1%p from rfl,show (0:Fin p).val=0%p from rfl,Nat.mod_eq_of_lt hp.1,Nat.zero_mod] at this
  omega
end
end Go.Proofs.YtkoonhiplicbkaaGreat.Cw
namespace Go.Proofs.YtkoonhiplicbkaaGreat.Cw
structure T3 (p:Nat) where (x y z:Fin p)
abbrev Pn (p:Nat):=Option (Fin p × Fin p)
section
variable {p:Nat} [NeZero p]
def sumT (a b3:Fin p) (s q:T3 p):T3 p:=
  let t0:=s.x*q.x
  let t1:=s.y*q.y
  let t2:=s.z*q.z
  let t3:=(s.x+s.y)*(q.x+q.y) - (t0+t1)
  let t4:=(s.x+s.z)*(q.x+q.z) - (t0+t2)
  let t5:=(s.y+s.z)*(q.y+q.z) - (t1+t2)
  let z:=b3*t2+a*t4
  let x:=t1 - z
  let z:=t1+z
  let y:=x*z
  let t1:=(t0+t0)+t0
  let t2:=a*t2
  let t4:=b3*t4
  let t1:=t1+t2
  let t2:=a*(t0 - t2)
  let t4:=t4+t2
  let y:=y+t1*t4
  let x:=t3*x - t5*t4
  let z:=t5*z+t3*t1
  ⟨x,y,z⟩
theorem sumT_x (a b3:Fin p) (s q:T3 p):(sumT a b3 s q).x=(s.x*q.y+q.x*s.y)*(s.y*q.y - a*(s.x*q.z+q.x*s.z) - b3*(s.z*q.z)) - (s.y*q.z+q.y*s.z)*(a*(s.x*q.x)+b3*(s.x*q.z+q.x*s.z)-a*a*(s.z*q.z)):=by
  simp only [sumT]
  grind -lia -linarith -order (splits:=0) (ematch:=0)
theorem sumT_y (a b3:Fin p) (s q:T3 p):(sumT a b3 s q).y=(s.y*q.y+a*(s.x*q.z+q.x*s.z)+b3*(s.z*q.z))*(s.y*q.y - a*(s.x*q.z+q.x*s.z) - b3*(s.z*q.z))+(3*(s.x*q.x)+a*(s.z*q.z))*(a*(s.x*q.x)+b3*(s.x*q.z+q.x*s.z)-a*a*(s.z*q.z)):=by
  simp only [sumT]
  grind -lia -linarith -order (splits:=0) (ematch:=0)
theorem sumT_z (a b3:Fin p) (s q:T3 p):(sumT a b3 s q).z=(s.y*q.z+q.y*s.z)*(s.y*q.y+a*(s.x*q.z+q.x*s.z)+b3*(s.z*q.z))+(s.x*q.y+q.x*s.y)*(3*(s.x*q.x)+a*(s.z*q.z)):=by
  simp only [sumT]
  grind -lia -linarith -order (splits:=0) (ematch:=0)
structure CuOk (a b b3:Fin p):Prop where
  pr:Pr p
  two:(2:Fin p)≠0
  b3:b3=3*b
  root:∀ x:Fin p,x*x*x+a*x+b≠0
def OnV (a b:Fin p):Pn p→Prop
  | none=>True
  | some (x,y)=>y*y=x*x*x+a*x+b
def Rep (s:T3 p):Pn p→Prop
  | none=>s.x=0∧s.z=0∧s.y≠0
  | some (x,y)=>s.z≠0∧s.x=x*s.z∧s.y=y*s.z
def trip:Pn p→T3 p
  | none=>⟨0,1,0⟩
  | some (x,y)=>⟨x,y,1⟩
noncomputable def pln (s:T3 p):Pn p:=if s.z=0 then none else some (s.x*inv s.z,s.y*inv s.z)
noncomputable def opl (a b3:Fin p) (P Q:Pn p):Pn p:=pln (sumT a b3 (trip P) (trip Q))
theorem rep_trip (hp:Pr p) (P:Pn p):Rep (trip P) P:=by
  rcases P with _ | ⟨x,y⟩
  · exact ⟨rfl,rfl,one_ne hp⟩
  · refine ⟨one_ne hp,?_,?_⟩
    · show x=x*1
      grind -lia -linarith -order (splits:=0) (ematch:=0)
    · show y=y*1
      grind -lia -linarith -order (splits:=0) (ematch:=0)
theorem rep_pln (hp:Pr p) {s:T3 p} {P:Pn p} (h:Rep s P):pln s=P:=by
  rcases P with _ | ⟨x,y⟩
  · unfold pln; rw [if_pos h.2.1]
  · unfold pln
    have h2:=inv_mul hp h.1
    rw [if_neg h.1,h.2.1,h.2.2]
    have e1:x*s.z*inv s.z=x:=by
      have:x*s.z*inv s.z=x*(inv s.z*s.z):=by grind -lia -linarith -order (splits:=0) (ematch:=0)
      rw [this,h2]
      grind -lia -linarith -order (splits:=0) (ematch:=0)
    have e2:y*s.z*inv s.z=y:=by
      have:y*s.z*inv s.z=y*(inv s.z*s.z):=by grind -lia -linarith -order (splits:=0) (ematch:=0)
      rw [this,h2]
      grind -lia -linarith -order (splits:=0) (ematch:=0)
    rw [e1,e2]
theorem rep_of_ne (hp:Pr p) {s:T3 p} (hz:s.z≠0):Rep s (pln s):=by
  unfold pln
  rw [if_neg hz]
  have h2:=inv_mul hp hz
  refine ⟨hz,?_,?_⟩
  · have:s.x*inv s.z*s.z=s.x*(inv s.z*s.z):=by grind -lia -linarith -order (splits:=0) (ematch:=0)
    rw [this,h2]
    grind -lia -linarith -order (splits:=0) (ematch:=0)
  · have:s.y*inv s.z*s.z=s.y*(inv s.z*s.z):=by grind -lia -linarith -order (splits:=0) (ematch:=0)
    rw [this,h2]
    grind -lia -linarith -order (splits:=0) (ematch:=0)
def T3.mul (c:Fin p) (s:T3 p):T3 p:=⟨c*s.x,c*s.y,c*s.z⟩
omit [NeZero p] in
theorem T3.ext' {s t:T3 p} (h1:s.x=t.x) (h2:s.y=t.y) (h3:s.z=t.z):s=t:=by
  cases s; cases t; simp_all
theorem rep_mul {s:T3 p} {P:Pn p} (h:Rep s P):∃ c,c≠0∧s=(trip P).mul c:=by
  rcases P with _ | ⟨x,y⟩
  · refine ⟨s.y,h.2.2,T3.ext' ?_ ?_ ?_⟩
    · show s.x=s.y*0
      rw [h.1]; grind -lia -linarith -order (splits:=0) (ematch:=0)
    · show s.y=s.y*1
      grind -lia -linarith -order (splits:=0) (ematch:=0)
    · show s.z=s.y*0
      rw [h.2.1]; grind -lia -linarith -order (splits:=0) (ematch:=0)
  · refine ⟨s.z,h.1,T3.ext' ?_ ?_ ?_⟩
    · show s.x=s.z*x
      rw [h.2.1]; grind -lia -linarith -order (splits:=0) (ematch:=0)
    · show s.y=s.z*y
      rw [h.2.2]; grind -lia -linarith -order (splits:=0) (ematch:=0)
    · show s.z=s.z*1
      grind -lia -linarith -order (splits:=0) (ematch:=0)
theorem mul_rep (hp:Pr p) {s:T3 p} {P:Pn p} {c:Fin p} (hc:c≠0) (h:Rep s P):Rep (s.mul c) P:=by
  rcases P with _ | ⟨x,y⟩
  · refine ⟨?_,?_,?_⟩
    · show c*s.x=0
      rw [h.1]; grind -lia -linarith -order (splits:=0) (ematch:=0)
    · show c*s.z=0
      rw [h.2.1]; grind -lia -linarith -order (splits:=0) (ematch:=0)
    · intro h0
      rcases fin_dom hp h0 with h1 | h1
      · exact hc h1
      · exact h.2.2 h1
  · refine ⟨?_,?_,?_⟩
    · intro h0
      rcases fin_dom hp h0 with h1 | h1
      · exact hc h1
      · exact h.1 h1
    · show c*s.x=x*(c*s.z)
      rw [h.2.1]; grind -lia -linarith -order (splits:=0) (ematch:=0)
    · show c*s.y=y*(c*s.z)
      rw [h.2.2]; grind -lia -linarith -order (splits:=0) (ematch:=0)
theorem sumT_mul (a b3 c d:Fin p) (s q:T3 p):sumT a b3 (s.mul c) (q.mul d)=(sumT a b3 s q).mul (c*c*(d*d)):=by
  refine T3.ext' ?_ ?_ ?_
  · show _=c*c*(d*d)*(sumT a b3 s q).x
    rw [sumT_x,sumT_x]
    simp only [T3.mul]
    grind -lia -linarith -order (splits:=0) (ematch:=0)
  · show _=c*c*(d*d)*(sumT a b3 s q).y
    rw [sumT_y,sumT_y]
    simp only [T3.mul]
    grind -lia -linarith -order (splits:=0) (ematch:=0)
  · show _=c*c*(d*d)*(sumT a b3 s q).z
    rw [sumT_z,sumT_z]
    simp only [T3.mul]
    grind -lia -linarith -order (splits:=0) (ematch:=0)
theorem sumT_comm (a b3:Fin p) (s q:T3 p):sumT a b3 s q=sumT a b3 q s:=by
  refine T3.ext' ?_ ?_ ?_
  · rw [sumT_x,sumT_x]
    grind -lia -linarith -order (splits:=0) (ematch:=0)
  · rw [sumT_y,sumT_y]
    grind -lia -linarith -order (splits:=0) (ematch:=0)
  · rw [sumT_z,sumT_z]
    grind -lia -linarith -order (splits:=0) (ematch:=0)
theorem opl_comm (a b3:Fin p) (P Q:Pn p):opl a b3 P Q=opl a b3 Q P:=by unfold opl; rw [sumT_comm]
end
end Go.Proofs.YtkoonhiplicbkaaGreat.Cw
namespace Go.Proofs.YtkoonhiplicbkaaGreat.Cw
section
variable {p:Nat} [NeZero p]
theorem neg_sq (y:Fin p):(0 - y)*(0 - y)=y*y:=by grind -lia -linarith -order (splits:=0) (ematch:=0)
theorem sum_none (a b3:Fin p) (x y:Fin p):sumT a b3 (trip none) (trip (some (x,y)))=(trip (some (x,y))).mul y:=by
  refine T3.ext' ?_ ?_ ?_
  · rw [sumT_x]; simp only [trip,T3.mul]; grind -lia -linarith -order (splits:=0) (ematch:=0)
  · rw [sumT_y]; simp only [trip,T3.mul]; grind -lia -linarith -order (splits:=0) (ematch:=0)
  · rw [sumT_z]; simp only [trip,T3.mul]; grind -lia -linarith -order (splits:=0) (ematch:=0)
theorem sum_none2 (a b3:Fin p):sumT a b3 (trip none) (trip none)=trip none:=by
  refine T3.ext' ?_ ?_ ?_
  · rw [sumT_x]; simp only [trip]; grind -lia -linarith -order (splits:=0) (ematch:=0)
  · rw [sumT_y]; simp only [trip]; grind -lia -linarith -order (splits:=0) (ematch:=0)
  · rw [sumT_z]; simp only [trip]; grind -lia -linarith -order (splits:=0) (ematch:=0)
theorem y_ne {a b b3:Fin p} (K:CuOk a b b3) {x y:Fin p} (h:OnV a b (some (x,y))):y≠0:=fun h0=>by
  have h1:y*y=x*x*x+a*x+b:=h
  rw [h0] at h1
  exact K.root x (by rw [← h1]; grind -lia -linarith -order (splits:=0) (ematch:=0))
theorem no_root {a b b3:Fin p} (K:CuOk a b b3) {n d:Fin p} (hd:d≠0) (h:n*n*n+a*(n*(d*d*d*d))+b*(d*d*d*d*d*d)=0):False:=by
  have hi:=inv_mul K.pr hd
  generalize inv d=t at hi
  refine K.root (n*(t*t)) ?_
  have e:n*(t*t)*(n*(t*t))*(n*(t*t))+a*(n*(t*t))+b=t*t*t*t*t*t*(n*n*n+a*(n*(d*d*d*d))+b*(d*d*d*d*d*d)):=by
    have e1:a*(n*(t*t))=t*t*t*t*t*t*(a*(n*(d*d*d*d))):=by
      have:t*t*t*t*t*t*(a*(n*(d*d*d*d)))=(t*d)*(t*d)*(t*d)*(t*d)*(a*(n*(t*t))):=by grind -lia -linarith -order (splits:=0) (ematch:=0)
      rw [this,hi]
      grind -lia -linarith -order (splits:=0) (ematch:=0)
    have e2:b=t*t*t*t*t*t*(b*(d*d*d*d*d*d)):=by
      have:t*t*t*t*t*t*(b*(d*d*d*d*d*d))=(t*d)*(t*d)*(t*d)*(t*d)*(t*d)*(t*d)*b:=by grind -lia -linarith -order (splits:=0) (ematch:=0)
      rw [this,hi]
      grind -lia -linarith -order (splits:=0) (ematch:=0)
    rw [e1]
    have e3:t*t*t*t*t*t*(n*n*n+a*(n*(d*d*d*d))+b*(d*d*d*d*d*d))=n*(t*t)*(n*(t*t))*(n*(t*t))+t*t*t*t*t*t*(a*(n*(d*d*d*d)))+t*t*t*t*t*t*(b*(d*d*d*d*d*d)):=by grind -lia -linarith -order (splits:=0) (ematch:=0)
    rw [e3,← e2]
  rw [e,h]
  grind -lia -linarith -order (splits:=0) (ematch:=0)
theorem chord_x {a b b3 x1 y1 x2 y2:Fin p} (e:b3=3*b) (h1:y1*y1=x1*x1*x1+a*x1+b) (h2:y2*y2=x2*x2*x2+a*x2+b) :
   (sumT a b3 (trip (some (x1,y1))) (trip (some (x2,y2)))).x*((x2-x1)*(x2-x1))=(sumT a b3 (trip (some (x1,y1))) (trip (some (x2,y2)))).z*((y2-y1)*(y2-y1) - (x1+x2)*((x2-x1)*(x2-x1))):=by
  rw [sumT_x,sumT_z]
  simp only [trip]
  subst e
  grind -lia -linarith -order (splits:=0) (ematch:=0)
theorem chord_y {a b b3 x1 y1 x2 y2:Fin p} (e:b3=3*b) (h1:y1*y1=x1*x1*x1+a*x1+b) (h2:y2*y2=x2*x2*x2+a*x2+b) :
   (sumT a b3 (trip (some (x1,y1))) (trip (some (x2,y2)))).y*((x2-x1)*(x2-x1)*(x2-x1))=(sumT a b3 (trip (some (x1,y1))) (trip (some (x2,y2)))).z*((y2-y1)*(x1*((x2-x1)*(x2-x1)) - ((y2-y1)*(y2-y1) - (x1+x2)*((x2-x1)*(x2-x1)))) - y1*((x2-x1)*(x2-x1)*(x2-x1))):=by
  rw [sumT_y,sumT_z]
  simp only [trip]
  subst e
  grind -lia -linarith -order (splits:=0) (ematch:=0)
theorem chord_z {a b b3 x1 y1 x2 y2:Fin p} (e:b3=3*b) (h1:y1*y1=x1*x1*x1+a*x1+b) (h2:y2*y2=x2*x2*x2+a*x2+b) :
   (sumT a b3 (trip (some (x1,y1))) (trip (some (x2,y2)))).z=((0-y2-y1)*(x1*((x2-x1)*(x2-x1)) - ((0-y2-y1)*(0-y2-y1) - (x1+x2)*((x2-x1)*(x2-x1)))) - y1*((x2-x1)*(x2-x1)*(x2-x1))):=by
  rw [sumT_z]
  simp only [trip]
  subst e
  grind -lia -linarith -order (splits:=0) (ematch:=0)
theorem chord_on {a b x1 y1 x2 y2 n d:Fin p} (h1:y1*y1=x1*x1*x1+a*x1+b) (h2:y2*y2=x2*x2*x2+a*x2+b) (hn:n=y2 - y1) (hd:d=x2 - x1) :
   (n*(x1*(d*d) - (n*n-(x1+x2)*(d*d))) - y1*(d*d*d))*(n*(x1*(d*d) - (n*n-(x1+x2)*(d*d))) - y1*(d*d*d))=(n*n-(x1+x2)*(d*d))*(n*n-(x1+x2)*(d*d))*(n*n-(x1+x2)*(d*d))+a*((n*n-(x1+x2)*(d*d))*(d*d*d*d))+b*(d*d*d*d*d*d):=by
  subst hn hd
  grind -lia -linarith -order (splits:=0) (ematch:=0)
theorem chord_ne {a b b3 x1 y1 x2 y2:Fin p} (K:CuOk a b b3) (h1:y1*y1=x1*x1*x1+a*x1+b) (h2:y2*y2=x2*x2*x2+a*x2+b) (hx:x1≠x2):(sumT a b3 (trip (some (x1,y1))) (trip (some (x2,y2)))).z≠0:=fun h0=>by
  rw [chord_z K.b3 h1 h2] at h0
  have hd:x2 - x1≠0:=fun h=>hx (by
    have:x2=(x2 - x1)+x1:=by grind -lia -linarith -order (splits:=0) (ematch:=0)
    rw [this,h]; grind -lia -linarith -order (splits:=0) (ematch:=0))
  have h2':(0 - y2)*(0 - y2)=x2*x2*x2+a*x2+b:=by rw [← h2,neg_sq]
  have h3:=chord_on h1 h2' (n:=0 - y2 - y1) (d:=x2 - x1) rfl rfl
  rw [h0] at h3
  exact no_root K hd (by rw [← h3]; grind -lia -linarith -order (splits:=0) (ematch:=0))
theorem opp_sum {a b b3 x y:Fin p} (K:CuOk a b b3) (h1:y*y=x*x*x+a*x+b):Rep (sumT a b3 (trip (some (x,y))) (trip (some (x,0 - y)))) none:=by
  have hy:y≠0:=y_ne K h1
  have e:=K.b3
  refine ⟨?_,?_,fun h0=>?_⟩
  · rw [sumT_x]; simp only [trip]; subst e
    grind -lia -linarith -order (splits:=0) (ematch:=0)
  · rw [sumT_z]; simp only [trip]; subst e
    grind -lia -linarith -order (splits:=0) (ematch:=0)
  · rw [sumT_y] at h0; simp only [trip] at h0
    have hd:2*y≠0:=fun h=>(fin_dom K.pr h).elim K.two hy
    refine no_root K (n:=(3*(x*x)+a)*(3*(x*x)+a) - 2*x*((2*y)*(2*y))) hd ?_
    have h3:((3*(x*x)+a)*(3*(x*(2*y)*(2*y)) - (3*(x*x)+a)*(3*(x*x)+a)) - y*((2*y)*(2*y)*(2*y)))=0:=by
      subst e
      grind -lia -linarith -order (splits:=0) (ematch:=0)
    have h4:((3*(x*x)+a)*(3*(x*(2*y)*(2*y)) - (3*(x*x)+a)*(3*(x*x)+a)) - y*((2*y)*(2*y)*(2*y)))*((3*(x*x)+a)*(3*(x*(2*y)*(2*y)) - (3*(x*x)+a)*(3*(x*x)+a)) - y*((2*y)*(2*y)*(2*y)))=((3*(x*x)+a)*(3*(x*x)+a) - 2*x*((2*y)*(2*y)))*((3*(x*x)+a)*(3*(x*x)+a) - 2*x*((2*y)*(2*y)))*((3*(x*x)+a)*(3*(x*x)+a) - 2*x*((2*y)*(2*y)))+a*(((3*(x*x)+a)*(3*(x*x)+a) - 2*x*((2*y)*(2*y)))*((2*y)*(2*y)*(2*y)*(2*y)))+b*((2*y)*(2*y)*(2*y)*(2*y)*(2*y)*(2*y)):=by
      grind -lia -linarith -order (splits:=0) (ematch:=0)
    rw [← h4,h3]
    grind -lia -linarith -order (splits:=0) (ematch:=0)
end
end Go.Proofs.YtkoonhiplicbkaaGreat.Cw
namespace Go.Proofs.YtkoonhiplicbkaaGreat.Cw
section
variable {p:Nat} [NeZero p]
theorem cancel (hp:Pr p) {c u v:Fin p} (hc:c≠0) (h:c*u=c*v):u=v:=by
  have h1:=inv_mul hp hc
  generalize inv c=t at h1
  have e1:u=(t*c)*u:=by rw [h1]; clear h h1; grind -lia -linarith -order (splits:=0) (ematch:=0)
  have e2:v=(t*c)*v:=by rw [h1]; clear h h1; grind -lia -linarith -order (splits:=0) (ematch:=0)
  rw [e1,e2]
  have e3:t*c*u=t*(c*u):=by clear h h1 e1 e2; grind -lia -linarith -order (splits:=0) (ematch:=0)
  have e4:t*c*v=t*(c*v):=by clear h h1 e1 e2; grind -lia -linarith -order (splits:=0) (ematch:=0)
  rw [e3,e4,h]
theorem mul_ne (hp:Pr p) {c d:Fin p} (hc:c≠0) (hd:d≠0):c*d≠0:=fun h=>(fin_dom hp h).elim hc hd
theorem dbl_z {a b b3 x y:Fin p} (e:b3=3*b) (h1:y*y=x*x*x+a*x+b):(sumT a b3 (trip (some (x,y))) (trip (some (x,y)))).z=(2*y)*(2*y)*(2*y):=by
  rw [sumT_z]; simp only [trip]; subst e
  grind -lia -linarith -order (splits:=0) (ematch:=0)
theorem dbl_x {a b b3 x y:Fin p} (e:b3=3*b) (h1:y*y=x*x*x+a*x+b) :
   (sumT a b3 (trip (some (x,y))) (trip (some (x,y)))).x*((2*y)*(2*y))=(sumT a b3 (trip (some (x,y))) (trip (some (x,y)))).z*((3*(x*x)+a)*(3*(x*x)+a) - (x+x)*((2*y)*(2*y))):=by
  rw [sumT_x,sumT_z]; simp only [trip]; subst e
  grind -lia -linarith -order (splits:=0) (ematch:=0)
theorem dbl_y {a b b3 x y:Fin p} (e:b3=3*b) (h1:y*y=x*x*x+a*x+b) :
   (sumT a b3 (trip (some (x,y))) (trip (some (x,y)))).y*((2*y)*(2*y)*(2*y))=(sumT a b3 (trip (some (x,y))) (trip (some (x,y)))).z*((3*(x*x)+a)*(x*((2*y)*(2*y)) - ((3*(x*x)+a)*(3*(x*x)+a) - (x+x)*((2*y)*(2*y)))) - y*((2*y)*(2*y)*(2*y))):=by
  rw [sumT_y,sumT_z]; simp only [trip]; subst e
  grind -lia -linarith -order (splits:=0) (ematch:=0)
theorem dbl_on {a b x y n d:Fin p} (h1:y*y=x*x*x+a*x+b) (hn:n=3*(x*x)+a) (hd:d=2*y) :
   (n*(x*(d*d) - (n*n-(x+x)*(d*d))) - y*(d*d*d))*(n*(x*(d*d) - (n*n-(x+x)*(d*d))) - y*(d*d*d))=(n*n-(x+x)*(d*d))*(n*n-(x+x)*(d*d))*(n*n-(x+x)*(d*d))+a*((n*n-(x+x)*(d*d))*(d*d*d*d))+b*(d*d*d*d*d*d):=by
  subst hn hd
  grind -lia -linarith -order (splits:=0) (ematch:=0)
theorem line_on {a b b3 X Y Z xx yy u v d:Fin p} (K:CuOk a b b3) (hZ:Z≠0) (hd:d≠0) (hX:X=xx*Z) (hY:Y=yy*Z) (e1:X*(d*d)=Z*u) (e2:Y*(d*d*d)=Z*v) (e3:v*v=u*u*u+a*(u*(d*d*d*d))+b*(d*d*d*d*d*d)):yy*yy=xx*xx*xx+a*xx+b∧xx*(d*d)=u∧yy*(d*d*d)=v:=by
  have f1:xx*(d*d)=u:=by
    refine cancel K.pr hZ ?_
    rw [← e1,hX]; clear e1 e2 e3 hX hY K; grind -lia -linarith -order (splits:=0) (ematch:=0)
  have f2:yy*(d*d*d)=v:=by
    refine cancel K.pr hZ ?_
    rw [← e2,hY]; clear e1 e2 e3 hX hY K; grind -lia -linarith -order (splits:=0) (ematch:=0)
  refine ⟨?_,f1,f2⟩
  have h6:d*d*d*d*d*d≠0:=mul_ne K.pr (mul_ne K.pr (mul_ne K.pr (mul_ne K.pr (mul_ne K.pr hd hd) hd) hd) hd) hd
  refine cancel K.pr h6 ?_
  rw [← f1,← f2] at e3
  clear f1 f2 e1 e2 hX hY K h6 hZ hd
  grind -lia -linarith -order (splits:=0) (ematch:=0)
theorem sub_ne {x1 x2:Fin p} (hx:x1≠x2):x2 - x1≠0:=fun h=>hx (by
    have:x2=(x2 - x1)+x1:=by clear h; grind -lia -linarith -order (splits:=0) (ematch:=0)
    rw [this,h]; grind -lia -linarith -order (splits:=0) (ematch:=0))
theorem pm_of {y1 y2:Fin p} (hp:Pr p) (h:y1*y1=y2*y2):y2=y1∨y2=0 - y1:=by
  have h1:(y2 - y1)*(y2+y1)=0:=by grind -lia -linarith -order (splits:=0) (ematch:=0)
  rcases fin_dom hp h1 with h2 | h2
  · left; have:y2=(y2 - y1)+y1:=by clear h h1 h2; grind -lia -linarith -order (splits:=0) (ematch:=0)
    rw [this,h2]; clear h h1 h2; grind -lia -linarith -order (splits:=0) (ematch:=0)
  · right; have:y2=(y2+y1) - y1:=by clear h h1 h2; grind -lia -linarith -order (splits:=0) (ematch:=0)
    rw [this,h2]
theorem rep_some {s:T3 p} {P:Pn p} (h:Rep s P) (hz:s.z≠0):∃ x y,P=some (x,y)∧s.x=x*s.z∧s.y=y*s.z:=by
  rcases P with _ | ⟨x,y⟩
  · exact absurd h.2.1 hz
  · exact ⟨x,y,rfl,h.2.1,h.2.2⟩
theorem opl_rep {a b b3:Fin p} (K:CuOk a b b3) {P Q:Pn p} (hP:OnV a b P) (hQ:OnV a b Q):Rep (sumT a b3 (trip P) (trip Q)) (opl a b3 P Q)∧OnV a b (opl a b3 P Q):=by
  rcases P with _ | ⟨x1,y1⟩
  · rcases Q with _ | ⟨x2,y2⟩
    · have e:opl a b3 none none=none:=by unfold opl; rw [sum_none2]; exact rep_pln K.pr (rep_trip K.pr none)
      rw [e,sum_none2]; exact ⟨rep_trip K.pr none,trivial⟩
    · have hr:Rep (sumT a b3 (trip none) (trip (some (x2,y2)))) (some (x2,y2)):=by rw [sum_none]; exact mul_rep K.pr (y_ne K hQ) (rep_trip K.pr _)
      have e:opl a b3 none (some (x2,y2))=some (x2,y2):=rep_pln K.pr hr
      rw [e]; exact ⟨hr,hQ⟩
  · rcases Q with _ | ⟨x2,y2⟩
    · have hr:Rep (sumT a b3 (trip (some (x1,y1))) (trip none)) (some (x1,y1)):=by rw [sumT_comm,sum_none]; exact mul_rep K.pr (y_ne K hP) (rep_trip K.pr _)
      have e:opl a b3 (some (x1,y1)) none=some (x1,y1):=rep_pln K.pr hr
      rw [e]; exact ⟨hr,hP⟩
    · have h1:y1*y1=x1*x1*x1+a*x1+b:=hP
      have h2:y2*y2=x2*x2*x2+a*x2+b:=hQ
      by_cases hx:x1=x2
      · subst hx
        rcases pm_of K.pr (h1.trans h2.symm) with hy | hy
        · subst hy
          have hd:2*y2≠0:=mul_ne K.pr K.two (y_ne K hP)
          have hz:(sumT a b3 (trip (some (x1,y2))) (trip (some (x1,y2)))).z≠0:=by rw [dbl_z K.b3 h1]; exact mul_ne K.pr (mul_ne K.pr hd hd) hd
          have hr:=rep_of_ne K.pr hz
          refine ⟨hr,?_⟩
          obtain ⟨x,y,e,ex,ey⟩:=rep_some hr hz
          show OnV a b (pln _)
          rw [e]
          exact (line_on K hz hd ex ey (dbl_x K.b3 h1) (dbl_y K.b3 h1) (dbl_on h1 rfl rfl)).1
        · subst hy
          have hr:=opp_sum K h1
          have e:opl a b3 (some (x1,y1)) (some (x1,0 - y1))=none:=rep_pln K.pr hr
          rw [e]; exact ⟨hr,trivial⟩
      · have hz:=chord_ne K h1 h2 hx
        have hr:=rep_of_ne K.pr hz
        refine ⟨hr,?_⟩
        obtain ⟨x,y,e,ex,ey⟩:=rep_some hr hz
        show OnV a b (pln _)
        rw [e]
        exact (line_on K hz (sub_ne hx) ex ey (chord_x K.b3 h1 h2) (chord_y K.b3 h1 h2) (chord_on h1 h2 rfl rfl)).1
theorem sum_rep {a b b3:Fin p} (K:CuOk a b b3) {P Q:Pn p} (hP:OnV a b P) (hQ:OnV a b Q) {s q:T3 p} (hs:Rep s P) (hq:Rep q Q):Rep (sumT a b3 s q) (opl a b3 P Q):=by
  obtain ⟨c,hc,rfl⟩:=rep_mul hs
  obtain ⟨d,hd,rfl⟩:=rep_mul hq
  rw [sumT_mul]
  exact mul_rep K.pr (mul_ne K.pr (mul_ne K.pr hc hc) (mul_ne K.pr hd hd)) (opl_rep K hP hQ).1
theorem opl_none {a b b3:Fin p} (K:CuOk a b b3) {P:Pn p} (hP:OnV a b P):opl a b3 none P=P:=by
  rcases P with _ | ⟨x,y⟩
  · unfold opl; rw [sum_none2]; exact rep_pln K.pr (rep_trip K.pr none)
  · exact rep_pln K.pr (by rw [sum_none]; exact mul_rep K.pr (y_ne K hP) (rep_trip K.pr _))
end
end Go.Proofs.YtkoonhiplicbkaaGreat.Cw
