/-
  Polynomials in x1, x2 with y1, y2 (their squares known), reckoned by the kernel in whole numbers: x1, x2 are great powers of two, the digits are the coefficients. No program.
  What the kernel's reckoning of polynomials shows: the difference of the two products is nought over the field. No program.
  (P + G) + Q = P + (Q + G) for the points of a curve, out of the kernel's reckoning. No program.
-/
import Derived.Test.YtkoonhiplicbkaaGreatQk23
set_option linter.unusedSimpArgs false
set_option linter.unusedVariables false
namespace Go.Proofs.YtkoonhiplicbkaaGreat.Cw
structure Ops (R:Type) where
  add:R→R→R
  mul:R→R→R
  nat:Nat→R
structure Q4 (R:Type) where (u v w t:R)
structure R3 (R:Type) where (x y z:Q4 R)
section
variable {R:Type} (O:Ops R)
def qa (s q:Q4 R):Q4 R:=⟨O.add s.u q.u,O.add s.v q.v,O.add s.w q.w,O.add s.t q.t⟩
def qm (f1 f2:R) (s q:Q4 R):Q4 R:=
  ⟨O.add (O.add (O.mul s.u q.u) (O.mul f1 (O.mul s.v q.v))) (O.mul f2 (O.add (O.mul s.w q.w) (O.mul f1 (O.mul s.t q.t)))),
   O.add (O.add (O.mul s.u q.v) (O.mul s.v q.u)) (O.mul f2 (O.add (O.mul s.w q.t) (O.mul s.t q.w))),
   O.add (O.add (O.mul s.u q.w) (O.mul s.w q.u)) (O.mul f1 (O.add (O.mul s.v q.t) (O.mul s.t q.v))),
   O.add (O.add (O.mul s.u q.t) (O.mul s.t q.u)) (O.add (O.mul s.v q.w) (O.mul s.w q.v))⟩
def qs (c:Nat) (s:Q4 R):Q4 R:=⟨O.mul (O.nat c) s.u,O.mul (O.nat c) s.v,O.mul (O.nat c) s.w,O.mul (O.nat c) s.t⟩
def sumQ (f1 f2:R) (a na b nb c nc:Nat) (s q:R3 R):R3 R:=
  (fun t0 t1 t2 t3 t4 t5=>(fun x w u v nv=>(⟨qa O (qm O f1 f2 t3 x) (qm O f1 f2 t5 nv),qa O (qm O f1 f2 x w) (qm O f1 f2 u v),qa O (qm O f1 f2 t5 w) (qm O f1 f2 t3 u)⟩:R3 R))
    (qa O t1 (qa O (qs O na t4) (qs O nb t2))) (qa O t1 (qa O (qs O a t4) (qs O b t2))) (qa O (qs O 3 t0) (qs O a t2)) (qa O (qs O a t0) (qa O (qs O b t4) (qs O nc t2))) (qa O (qs O na t0) (qa O (qs O nb t4) (qs O c t2))))
  (qm O f1 f2 s.x q.x) (qm O f1 f2 s.y q.y) (qm O f1 f2 s.z q.z) (qa O (qm O f1 f2 s.x q.y) (qm O f1 f2 q.x s.y)) (qa O (qm O f1 f2 s.x q.z) (qm O f1 f2 q.x s.z)) (qa O (qm O f1 f2 s.y q.z) (qm O f1 f2 q.y s.z))
def cst (c:Nat):Q4 R:=⟨O.nat c,O.nat 0,O.nat 0,O.nat 0⟩
def fx (a b:Nat) (x:R):R:=O.add (O.mul x (O.mul x x)) (O.add (O.mul (O.nat a) x) (O.nat b))
def pA (x:R):R3 R:=⟨⟨x,O.nat 0,O.nat 0,O.nat 0⟩,⟨O.nat 0,O.nat 1,O.nat 0,O.nat 0⟩,cst O 1⟩
def qA (x:R):R3 R:=⟨⟨x,O.nat 0,O.nat 0,O.nat 0⟩,⟨O.nat 0,O.nat 0,O.nat 1,O.nat 0⟩,cst O 1⟩
def gA (gx gy:Nat):R3 R:=⟨cst O gx,cst O gy,cst O 1⟩
def crossQ (f1 f2:R) (o:Nat) (a b c d:Q4 R):Q4 R:=qa O (qm O f1 f2 a b) (qs O o (qm O f1 f2 c d))
def twoQ (f1 f2:R) (o:Nat) (U V:R3 R):Q4 R × Q4 R:=(crossQ O f1 f2 o U.x V.z V.x U.z,crossQ O f1 f2 o U.y V.z V.y U.z)
def assQ (f1 f2:R) (p a b3 gx gy:Nat) (x1 x2:R):Q4 R × Q4 R:=
  (fun (S:R3 R→R3 R→R3 R)=>twoQ O f1 f2 (p - 1) (S (S (pA O x1) (gA O gx gy)) (qA O x2)) (S (pA O x1) (S (qA O x2) (gA O gx gy))))
    (sumQ O f1 f2 a (p - a) b3 (p - b3) (a*a%p) (p - a*a%p))
def assP (p a b b3 gx gy:Nat) (x1 x2:R):Q4 R × Q4 R:=assQ O (fx O a b x1) (fx O a b x2) p a b3 gx gy x1 x2
end
def oNat:Ops Nat:=⟨Nat.add,Nat.mul,fun n=>n⟩
def top (q:Q4 Nat × Q4 Nat):Nat:=(q.1.u+q.1.v+q.1.w+q.1.t)+(q.2.u+q.2.v+q.2.w+q.2.t)
def div1 (p B:Nat):Nat→Nat→Bool
  | 0,n=>Nat.beq n 0
  | k+1,n=>and (Nat.beq (n%B%p) 0) (div1 p B k (n / B))
def div2 (p B C k:Nat):Nat→Nat→Bool
  | 0,n=>Nat.beq n 0
  | j+1,n=>and (div1 p B k (n%C)) (div2 p B C k j (n / C))
def divQ (p B C k:Nat) (q:Q4 Nat):Bool:=and (and (div2 p B C k k q.u) (div2 p B C k k q.v)) (and (div2 p B C k k q.w) (div2 p B C k k q.t))
def chkA (p a b b3 gx gy s t:Nat):Bool:=
  and (and (Nat.ble (top (assP oNat p a b b3 gx gy 1 1)+1) (2 ^ s)) (Nat.ble (top (assP oNat p a b b3 gx gy 1 (2 ^ s))+1) (2 ^ t)))
   ((fun q=>and (divQ p (2 ^ s) (2 ^ t) 16 q.1) (divQ p (2 ^ s) (2 ^ t) 16 q.2)) (assP oNat p a b b3 gx gy (2 ^ t) (2 ^ s)))
end Go.Proofs.YtkoonhiplicbkaaGreat.Cw
namespace Go.Proofs.YtkoonhiplicbkaaGreat.Cw
/-! ### maps between rings -/
structure Hom {R S:Type} (O:Ops R) (O':Ops S) (h:R→S):Prop where
  add:∀ a b,h (O.add a b)=O'.add (h a) (h b)
  mul:∀ a b,h (O.mul a b)=O'.mul (h a) (h b)
  nat:∀ n,h (O.nat n)=O'.nat n
def mapQ {R S:Type} (h:R→S) (q:Q4 R):Q4 S:=⟨h q.u,h q.v,h q.w,h q.t⟩
def mapR {R S:Type} (h:R→S) (q:R3 R):R3 S:=⟨mapQ h q.x,mapQ h q.y,mapQ h q.z⟩
section
variable {R S:Type} {O:Ops R} {O':Ops S} {h:R→S} (H:Hom O O' h)
include H
theorem qa_map (s q:Q4 R):mapQ h (qa O s q)=qa O' (mapQ h s) (mapQ h q):=by simp only [mapQ,qa,H.add]
theorem qm_map (f1 f2:R) (s q:Q4 R):mapQ h (qm O f1 f2 s q)=qm O' (h f1) (h f2) (mapQ h s) (mapQ h q):=by simp only [mapQ,qm,H.add,H.mul]
theorem qs_map (c:Nat) (s:Q4 R):mapQ h (qs O c s)=qs O' c (mapQ h s):=by simp only [mapQ,qs,H.mul,H.nat]
theorem cst_map (c:Nat):mapQ h (cst O c)=cst O' c:=by simp only [mapQ,cst,H.nat]
theorem sumQ_map (f1 f2:R) (a na b nb c nc:Nat) (s q:R3 R):mapR h (sumQ O f1 f2 a na b nb c nc s q)=sumQ O' (h f1) (h f2) a na b nb c nc (mapR h s) (mapR h q):=by
  simp only [mapR,sumQ,qa_map H,qm_map H,qs_map H]
theorem crossQ_map (f1 f2:R) (o:Nat) (a b c d:Q4 R):mapQ h (crossQ O f1 f2 o a b c d)=crossQ O' (h f1) (h f2) o (mapQ h a) (mapQ h b) (mapQ h c) (mapQ h d):=by
  simp only [crossQ,qa_map H,qm_map H,qs_map H]
theorem fx_map (a b:Nat) (x:R):h (fx O a b x)=fx O' a b (h x):=by simp only [fx,H.add,H.mul,H.nat]
theorem pA_map (x:R):mapR h (pA O x)=pA O' (h x):=by simp only [pA,mapR,cst,mapQ,H.nat]
theorem qA_map (x:R):mapR h (qA O x)=qA O' (h x):=by simp only [qA,mapR,cst,mapQ,H.nat]
theorem gA_map (x y:Nat):mapR h (gA O x y)=gA O' x y:=by simp only [gA,mapR,cst_map H]
theorem two_map (f1 f2:R) (o:Nat) (U V:R3 R):(mapQ h (twoQ O f1 f2 o U V).1,mapQ h (twoQ O f1 f2 o U V).2)=twoQ O' (h f1) (h f2) o (mapR h U) (mapR h V):=by
  simp only [twoQ,crossQ_map H,mapR]
theorem ass_map (p a b b3 gx gy:Nat) (x1 x2:R):(mapQ h (assP O p a b b3 gx gy x1 x2).1,mapQ h (assP O p a b b3 gx gy x1 x2).2)=assP O' p a b b3 gx gy (h x1) (h x2):=by
  simp only [assP,assQ,two_map H,sumQ_map H,pA_map H,qA_map H,gA_map H,fx_map H]
end
/-! ### lists of lists -/
def l1add:List Nat→List Nat→List Nat
  | [],m=>m
  | a::l,[]=>a::l
  | a::l,b::m=>(a+b)::l1add l m
def l1mul:List Nat→List Nat→List Nat
  | [],_=>[]
  | a::l,m=>l1add (m.map fun c=>a*c) (0::l1mul l m)
def l2add:List (List Nat)→List (List Nat)→List (List Nat)
  | [],m=>m
  | a::l,[]=>a::l
  | a::l,b::m=>l1add a b::l2add l m
def l2mul:List (List Nat)→List (List Nat)→List (List Nat)
  | [],_=>[]
  | a::l,m=>l2add (m.map fun c=>l1mul a c) ([]::l2mul l m)
def oL:Ops (List (List Nat)):=⟨l2add,l2mul,fun n=>[[n]]⟩
/-! ### their values: whole numbers -/
def n1 (x:Nat):List Nat→Nat
  | []=>0
  | c::l=>c+x*n1 x l
def n2 (x1 x2:Nat):List (List Nat)→Nat
  | []=>0
  | c::l=>n1 x2 c+x1*n2 x1 x2 l
theorem n1_add (x:Nat):∀ l m,n1 x (l1add l m)=n1 x l+n1 x m
  | [],m=>by simp [l1add,n1]
  | a::l,[]=>by simp [l1add,n1]
  | a::l,b::m=>by simp only [l1add,n1,n1_add x l m]; grind
theorem n1_sc (x a:Nat):∀ l,n1 x (l.map fun c=>a*c)=a*n1 x l
  | []=>by simp [n1]
  | b::l=>by simp only [List.map_cons,n1,n1_sc x a l]; grind
theorem n1_mul (x:Nat):∀ l m,n1 x (l1mul l m)=n1 x l*n1 x m
  | [],m=>by simp [l1mul,n1]
  | a::l,m=>by simp only [l1mul,n1_add,n1_sc,n1,n1_mul x l m]; grind
theorem n2_add (x1 x2:Nat):∀ l m,n2 x1 x2 (l2add l m)=n2 x1 x2 l+n2 x1 x2 m
  | [],m=>by simp [l2add,n2]
  | a::l,[]=>by simp [l2add,n2]
  | a::l,b::m=>by simp only [l2add,n2,n1_add,n2_add x1 x2 l m]; grind
theorem n2_sc (x1 x2:Nat) (a:List Nat):∀ l,n2 x1 x2 (l.map fun c=>l1mul a c)=n1 x2 a*n2 x1 x2 l
  | []=>by simp [n2]
  | b::l=>by simp only [List.map_cons,n2,n1_mul,n2_sc x1 x2 a l]; grind
theorem n2_mul (x1 x2:Nat):∀ l m,n2 x1 x2 (l2mul l m)=n2 x1 x2 l*n2 x1 x2 m
  | [],m=>by simp [l2mul,n2]
  | a::l,m=>by simp only [l2mul,n2_add,n2_sc,n2,n1,n2_mul x1 x2 l m]; grind
theorem homN (x1 x2:Nat):Hom oL oNat (n2 x1 x2):=⟨n2_add x1 x2,n2_mul x1 x2,fun n=>by simp [oL,oNat,n2,n1]⟩
/-! ### over the field -/
section
variable {p:Nat} [NeZero p]
def oF (p:Nat) [NeZero p]:Ops (Fin p):=⟨fun a b=>a+b,fun a b=>a*b,fun n=>Fin.ofNat p n⟩
theorem of_add (a b:Nat):Fin.ofNat p (a+b)=Fin.ofNat p a+Fin.ofNat p b:=Fin.ext (by simp [Fin.val_add])
theorem of_mul (a b:Nat):Fin.ofNat p (a*b)=Fin.ofNat p a*Fin.ofNat p b:=Fin.ext (by simp [Fin.val_mul])
theorem of_zero:Fin.ofNat p 0=0:=rfl
def v1 (x:Fin p):List Nat→Fin p
  | []=>0
  | c::l=>Fin.ofNat p c+x*v1 x l
def v2 (x1 x2:Fin p):List (List Nat)→Fin p
  | []=>0
  | c::l=>v1 x2 c+x1*v2 x1 x2 l
theorem g1 (x:Fin p):x=0+x:=by grind -lia -linarith -order (splits:=0) (ematch:=0)
theorem g2 (x:Fin p):x=x+0:=by grind -lia -linarith -order (splits:=0) (ematch:=0)
theorem g3 (a b x u v:Fin p):a+b+x*(u+v)=a+x*u+(b+x*v):=by grind -lia -linarith -order (splits:=0) (ematch:=0)
theorem g4 (a b x u:Fin p):a*b+x*(a*u)=a*(b+x*u):=by grind -lia -linarith -order (splits:=0) (ematch:=0)
theorem g5 (x:Fin p):0=x*0:=by grind -lia -linarith -order (splits:=0) (ematch:=0)
theorem g6 (x:Fin p):0=0*x:=by grind -lia -linarith -order (splits:=0) (ematch:=0)
theorem g7 (a x u m:Fin p):a*m+(0+x*(u*m))=(a+x*u)*m:=by grind -lia -linarith -order (splits:=0) (ematch:=0)
theorem v1_add (x:Fin p):∀ l m,v1 x (l1add l m)=v1 x l+v1 x m
  | [],m=>g1 _
  | a::l,[]=>g2 _
  | a::l,b::m=>by simp only [l1add,v1,v1_add x l m,of_add]; exact g3 _ _ _ _ _
theorem v1_sc (x:Fin p) (a:Nat):∀ l,v1 x (l.map fun c=>a*c)=Fin.ofNat p a*v1 x l
  | []=>g5 _
  | b::l=>by simp only [List.map_cons,v1,v1_sc x a l,of_mul]; exact g4 _ _ _ _
theorem v1_mul (x:Fin p):∀ l m,v1 x (l1mul l m)=v1 x l*v1 x m
  | [],m=>g6 _
  | a::l,m=>by simp only [l1mul,v1_add,v1_sc,v1,v1_mul x l m,of_zero]; exact g7 _ _ _ _
theorem v2_add (x1 x2:Fin p):∀ l m,v2 x1 x2 (l2add l m)=v2 x1 x2 l+v2 x1 x2 m
  | [],m=>g1 _
  | a::l,[]=>g2 _
  | a::l,b::m=>by simp only [l2add,v2,v1_add,v2_add x1 x2 l m]; exact g3 _ _ _ _ _
theorem v2_sc (x1 x2:Fin p) (a:List Nat):∀ l,v2 x1 x2 (l.map fun c=>l1mul a c)=v1 x2 a*v2 x1 x2 l
  | []=>g5 _
  | b::l=>by simp only [List.map_cons,v2,v1_mul,v2_sc x1 x2 a l]; exact g4 _ _ _ _
theorem v2_mul (x1 x2:Fin p):∀ l m,v2 x1 x2 (l2mul l m)=v2 x1 x2 l*v2 x1 x2 m
  | [],m=>g6 _
  | a::l,m=>by simp only [l2mul,v2_add,v2_sc,v2,v1,v2_mul x1 x2 l m]; exact g7 _ _ _ _
theorem g8 (a x y:Fin p):a+x*0+y*0=a:=by grind -lia -linarith -order (splits:=0) (ematch:=0)
theorem homF (x1 x2:Fin p):Hom oL (oF p) (v2 x1 x2):=⟨v2_add x1 x2,v2_mul x1 x2,fun _=>g8 _ _ _⟩
theorem v1_zero (x:Fin p):∀ l:List Nat,(∀ c ∈ l,c%p=0)→v1 x l=0
  | [],_=>rfl
  | c::l,h=>by
    rw [v1,v1_zero x l fun d hd=>h d (List.mem_cons_of_mem _ hd),show Fin.ofNat p c=0 from Fin.ext (by simpa using h c (List.mem_cons_self ..)),← g5,← g1]
theorem v2_zero (x1 x2:Fin p):∀ l:List (List Nat),(∀ m ∈ l,∀ c ∈ m,c%p=0)→v2 x1 x2 l=0
  | [],_=>rfl
  | c::l,h=>by
    rw [v2,v2_zero x1 x2 l fun d hd=>h d (List.mem_cons_of_mem _ hd),v1_zero x2 c (h c (List.mem_cons_self ..)),← g5,← g1]
end
/-! ### digits -/
theorem digits1 (p B:Nat) (hB:0<B):∀ (l:List Nat) (k:Nat),n1 1 l<B→div1 p B k (n1 B l)=true→∀ c ∈ l,c%p=0
  | [],_,_,_=>by simp
  | c::l,k,h,hd=>by
    simp only [n1,Nat.one_mul] at h
    have hc:c<B:=by omega
    have hl:n1 1 l<B:=by omega
    simp only [n1] at hd
    cases k with
    | zero=>
      simp only [div1] at hd
      have h0:=Nat.eq_of_beq_eq_true hd
      have c0:c=0:=by omega
      have m0:B*n1 B l=0:=by omega
      have l0 : n1 B l = 0 := by rcases Nat.mul_eq_zero.1 m0 with h | h; · omega
                                 · exact h
      have ih:=digits1 p B hB l 0 hl (by rw [l0]; rfl)
      intro d hd2
      rcases List.mem_cons.1 hd2 with rfl | h2
      · rw [c0,Nat.zero_mod]
      · exact ih d h2
    | succ k=>
      simp only [div1,Bool.and_eq_true] at hd
      rw [Nat.add_mul_mod_self_left,Nat.mod_eq_of_lt hc,Nat.add_mul_div_left _ _ hB,Nat.div_eq_of_lt hc,Nat.zero_add] at hd
      have ih:=digits1 p B hB l k hl hd.2
      intro d hd2
      rcases List.mem_cons.1 hd2 with rfl | h2
      · exact Nat.eq_of_beq_eq_true hd.1
      · exact ih d h2
theorem digits2 (p B C k:Nat) (hB:0<B) (hC:0<C):∀ (L:List (List Nat)) (j:Nat),n2 1 1 L<B→n2 1 B L<C→div2 p B C k j (n2 C B L)=true→∀ l ∈ L,∀ c ∈ l,c%p=0
  | [],_,_,_,_=>by simp
  | a::L,j,h1,h2,hd=>by
    simp only [n2,Nat.one_mul] at h1 h2
    have ha:n1 1 a<B:=by omega
    have hL1:n2 1 1 L<B:=by omega
    have hc:n1 B a<C:=by omega
    have hL2:n2 1 B L<C:=by omega
    simp only [n2] at hd
    cases j with
    | zero=>
      simp only [div2] at hd
      have h0:=Nat.eq_of_beq_eq_true hd
      have c0:n1 B a=0:=by omega
      have m0:C*n2 C B L=0:=by omega
      have l0 : n2 C B L = 0 := by rcases Nat.mul_eq_zero.1 m0 with h | h; · omega
                                   · exact h
      have ih:=digits2 p B C k hB hC L 0 hL1 hL2 (by rw [l0]; rfl)
      intro d hd2
      rcases List.mem_cons.1 hd2 with rfl | h2
      · exact digits1 p B hB d 0 ha (by rw [c0]; rfl)
      · exact ih d h2
    | succ j=>
      simp only [div2,Bool.and_eq_true] at hd
      rw [Nat.add_mul_mod_self_left,Nat.mod_eq_of_lt hc,Nat.add_mul_div_left _ _ hC,Nat.div_eq_of_lt hc,Nat.zero_add] at hd
      have ih:=digits2 p B C k hB hC L j hL1 hL2 hd.2
      intro d hd2
      rcases List.mem_cons.1 hd2 with rfl | h2
      · exact digits1 p B hB d k ha hd.1
      · exact ih d h2
theorem chk_zero {p:Nat} [NeZero p] {a b b3 gx gy s t:Nat} (h:chkA p a b b3 gx gy s t=true) (x1 x2:Fin p):assP (oF p) p a b b3 gx gy x1 x2=(⟨0,0,0,0⟩,⟨0,0,0,0⟩):=by
  have hB:0<2 ^ s:=Nat.two_pow_pos s
  have hC:0<2 ^ t:=Nat.two_pow_pos t
  generalize eB:2 ^ s=B at *
  generalize eC:2 ^ t=C at *
  have hv:∀ X1 X2:Nat,assP oNat p a b b3 gx gy X1 X2=(mapQ (n2 X1 X2) (assP oL p a b b3 gx gy [[],[1]] [[0,1]]).1,mapQ (n2 X1 X2) (assP oL p a b b3 gx gy [[],[1]] [[0,1]]).2):=fun X1 X2=>by
    rw [ass_map (homN X1 X2)]
    simp [n2,n1]
  have hf:assP (oF p) p a b b3 gx gy x1 x2=(mapQ (v2 x1 x2) (assP oL p a b b3 gx gy [[],[1]] [[0,1]]).1,mapQ (v2 x1 x2) (assP oL p a b b3 gx gy [[],[1]] [[0,1]]).2):=by
    rw [ass_map (homF x1 x2)]
    have e1:v2 x1 x2 [[],[1]]=x1:=by
      simp only [v2,v1,show Fin.ofNat p 1=1 from rfl]
      clear h hv
      grind -lia -linarith -order (splits:=0) (ematch:=0)
    have e2:v2 x1 x2 [[0,1]]=x2:=by
      simp only [v2,v1,show Fin.ofNat p 1=1 from rfl,of_zero]
      clear h hv
      grind -lia -linarith -order (splits:=0) (ematch:=0)
    rw [e1,e2]
  unfold chkA at h
  simp only [eB,eC,hv,Bool.and_eq_true,divQ] at h
  obtain ⟨⟨h1,h2⟩,⟨⟨⟨a1,a2⟩,a3,a4⟩,⟨b1,b2⟩,b3',b4⟩⟩:=h
  have h1':=Nat.le_of_ble_eq_true h1
  have h2':=Nat.le_of_ble_eq_true h2
  simp only [top,mapQ] at h1' h2' a1 a2 a3 a4 b1 b2 b3' b4
  rw [hf]
  simp only [mapQ]
  generalize (assP oL p a b b3 gx gy [[],[1]] [[0,1]]).1=q1 at *
  generalize (assP oL p a b b3 gx gy [[],[1]] [[0,1]]).2=q2 at *
  rw [v2_zero x1 x2 _ (digits2 p B C 16 hB hC q1.u 16 (by omega) (by omega) a1),v2_zero x1 x2 _ (digits2 p B C 16 hB hC q1.v 16 (by omega) (by omega) a2),
    v2_zero x1 x2 _ (digits2 p B C 16 hB hC q1.w 16 (by omega) (by omega) a3),v2_zero x1 x2 _ (digits2 p B C 16 hB hC q1.t 16 (by omega) (by omega) a4),
    v2_zero x1 x2 _ (digits2 p B C 16 hB hC q2.u 16 (by omega) (by omega) b1),v2_zero x1 x2 _ (digits2 p B C 16 hB hC q2.v 16 (by omega) (by omega) b2),
    v2_zero x1 x2 _ (digits2 p B C 16 hB hC q2.w 16 (by omega) (by omega) b3'),v2_zero x1 x2 _ (digits2 p B C 16 hB hC q2.t 16 (by omega) (by omega) b4)]
end Go.Proofs.YtkoonhiplicbkaaGreat.Cw
namespace Go.Proofs.YtkoonhiplicbkaaGreat.Cw
section
variable {p:Nat} [NeZero p]
def val (y1 y2:Fin p) (q:Q4 (Fin p)):Fin p:=q.u+q.v*y1+q.w*y2+q.t*(y1*y2)
def valT (y1 y2:Fin p) (s:R3 (Fin p)):T3 p:=⟨val y1 y2 s.x,val y1 y2 s.y,val y1 y2 s.z⟩
theorem val_add (y1 y2:Fin p) (s q:Q4 (Fin p)):val y1 y2 (qa (oF p) s q)=val y1 y2 s+val y1 y2 q:=by
  simp only [val,qa,oF]
  grind -lia -linarith -order (splits:=0) (ematch:=0)
theorem val_mul {y1 y2 f1 f2:Fin p} (h1:y1*y1=f1) (h2:y2*y2=f2) (s q:Q4 (Fin p)):val y1 y2 (qm (oF p) f1 f2 s q)=val y1 y2 s*val y1 y2 q:=by
  simp only [val,qm,oF]
  subst h1 h2
  grind -lia -linarith -order (splits:=0) (ematch:=0)
theorem val_sc (y1 y2:Fin p) (c:Nat) (s:Q4 (Fin p)):val y1 y2 (qs (oF p) c s)=Fin.ofNat p c*val y1 y2 s:=by
  simp only [val,qs,oF]
  grind -lia -linarith -order (splits:=0) (ematch:=0)
theorem of_neg {a:Nat} (h:a≤p):Fin.ofNat p (p - a)=0 - Fin.ofNat p a:=by
  have e:Fin.ofNat p (p - a)+Fin.ofNat p a=0:=by
    rw [← of_add,Nat.sub_add_cancel h]
    exact Fin.ext (by simp)
  have:Fin.ofNat p (p - a)=(Fin.ofNat p (p - a)+Fin.ofNat p a) - Fin.ofNat p a:=by clear e; grind -lia -linarith -order (splits:=0) (ematch:=0)
  rw [this,e]
theorem of_mod (a:Nat):Fin.ofNat p (a%p)=Fin.ofNat p a:=Fin.ext (by simp)
theorem of_three:Fin.ofNat p 3=3:=rfl
theorem val_cross {y1 y2 f1 f2:Fin p} (h1:y1*y1=f1) (h2:y2*y2=f2) (a b c d:Q4 (Fin p)):val y1 y2 (crossQ (oF p) f1 f2 (p - 1) a b c d)=val y1 y2 a*val y1 y2 b - val y1 y2 c*val y1 y2 d:=by
  have hp:1≤p:=Nat.pos_of_ne_zero (NeZero.ne p)
  simp only [crossQ,val_add,val_sc,val_mul h1 h2,of_neg hp,show Fin.ofNat p 1=1 from rfl]
  clear h1 h2
  grind -lia -linarith -order (splits:=0) (ematch:=0)
theorem val_sum {y1 y2 f1 f2:Fin p} (h1:y1*y1=f1) (h2:y2*y2=f2) {a b3:Nat} (ha:a≤p) (hb:b3≤p) (s q:R3 (Fin p)):valT y1 y2 (sumQ (oF p) f1 f2 a (p - a) b3 (p - b3) (a*a%p) (p - a*a%p) s q)=sumT (Fin.ofNat p a) (Fin.ofNat p b3) (valT y1 y2 s) (valT y1 y2 q):=by
  have hc:a*a%p≤p:=Nat.le_of_lt (Nat.mod_lt _ (Nat.pos_of_ne_zero (NeZero.ne p)))
  refine T3.ext' ?_ ?_ ?_
  · rw [sumT_x]
    simp only [valT,sumQ,val_add,val_sc,val_mul h1 h2,of_neg ha,of_neg hb,of_neg hc,of_mod,of_mul,of_three]
    clear h1 h2
    grind -lia -linarith -order (splits:=0) (ematch:=0)
  · rw [sumT_y]
    simp only [valT,sumQ,val_add,val_sc,val_mul h1 h2,of_neg ha,of_neg hb,of_neg hc,of_mod,of_mul,of_three]
    clear h1 h2
    grind -lia -linarith -order (splits:=0) (ematch:=0)
  · rw [sumT_z]
    simp only [valT,sumQ,val_add,val_sc,val_mul h1 h2,of_neg ha,of_neg hb,of_neg hc,of_mod,of_mul,of_three]
    clear h1 h2
    grind -lia -linarith -order (splits:=0) (ematch:=0)
theorem val_p (x1 y1 y2:Fin p):valT y1 y2 (pA (oF p) x1)=trip (some (x1,y1)):=by
  refine T3.ext' ?_ ?_ ?_ <;> simp only [valT,val,pA,cst,oF,trip,of_zero,show Fin.ofNat p 1=1 from rfl] <;> grind -lia -linarith -order (splits:=0) (ematch:=0)
theorem val_q (x2 y1 y2:Fin p):valT y1 y2 (qA (oF p) x2)=trip (some (x2,y2)):=by
  refine T3.ext' ?_ ?_ ?_ <;> simp only [valT,val,qA,cst,oF,trip,of_zero,show Fin.ofNat p 1=1 from rfl] <;> grind -lia -linarith -order (splits:=0) (ematch:=0)
theorem val_g (gx gy:Nat) (y1 y2:Fin p):valT y1 y2 (gA (oF p) gx gy)=trip (some (Fin.ofNat p gx,Fin.ofNat p gy)):=by
  refine T3.ext' ?_ ?_ ?_ <;> simp only [valT,val,gA,cst,oF,trip,of_zero,show Fin.ofNat p 1=1 from rfl] <;> grind -lia -linarith -order (splits:=0) (ematch:=0)
theorem sub_zero_eq {a b:Fin p} (h:a - b=0):a=b:=by
  have:a=(a - b)+b:=by clear h; grind -lia -linarith -order (splits:=0) (ematch:=0)
  rw [this,h]; clear h this; grind -lia -linarith -order (splits:=0) (ematch:=0)
theorem rep_cross (hp:Pr p) {U V:T3 p} {A B:Pn p} (hU:Rep U A) (hV:Rep V B) (h1:U.x*V.z=V.x*U.z) (h2:U.y*V.z=V.y*U.z):A=B:=by
  rcases A with _ | ⟨x,y⟩
  · rcases B with _ | ⟨x',y'⟩
    · rfl
    · rw [hU.2.1,← g5] at h2
      exact absurd h2 (mul_ne hp hU.2.2 hV.1)
  · rcases B with _ | ⟨x',y'⟩
    · rw [hV.2.1,← g5] at h2
      exact absurd h2.symm (mul_ne hp hV.2.2 hU.1)
    · rw [hU.2.1,hV.2.1] at h1
      rw [hU.2.2,hV.2.2] at h2
      have hz:=mul_ne hp hU.1 hV.1
      have e1:x=x':=cancel hp hz (by
        have e:U.z*V.z*x=x*U.z*V.z:=by clear h1 h2; grind -lia -linarith -order (splits:=0) (ematch:=0)
        rw [e,h1]; clear h1 h2 e; grind -lia -linarith -order (splits:=0) (ematch:=0))
      have e2:y=y':=cancel hp hz (by
        have e:U.z*V.z*y=y*U.z*V.z:=by clear h1 h2; grind -lia -linarith -order (splits:=0) (ematch:=0)
        rw [e,h2]; clear h1 h2 e; grind -lia -linarith -order (splits:=0) (ematch:=0))
      rw [e1,e2]
theorem opl_on {a b b3:Fin p} (K:CuOk a b b3) {P Q:Pn p} (hP:OnV a b P) (hQ:OnV a b Q):OnV a b (opl a b3 P Q):=(opl_rep K hP hQ).2
theorem opl_ass {a b b3 gx gy s t:Nat} (h:chkA p a b b3 gx gy s t=true) (ha:a≤p) (hb:b3≤p) (K:CuOk (p:=p) (Fin.ofNat p a) (Fin.ofNat p b) (Fin.ofNat p b3))
    (hG:OnV (p:=p) (Fin.ofNat p a) (Fin.ofNat p b) (some (Fin.ofNat p gx,Fin.ofNat p gy))) {P Q:Pn p} (hP:OnV (p:=p) (Fin.ofNat p a) (Fin.ofNat p b) P) (hQ:OnV (p:=p) (Fin.ofNat p a) (Fin.ofNat p b) Q) :
    opl (Fin.ofNat p a) (Fin.ofNat p b3) (opl (Fin.ofNat p a) (Fin.ofNat p b3) P (some (Fin.ofNat p gx,Fin.ofNat p gy))) Q=opl (Fin.ofNat p a) (Fin.ofNat p b3) P (opl (Fin.ofNat p a) (Fin.ofNat p b3) Q (some (Fin.ofNat p gx,Fin.ofNat p gy))):=by
  rcases P with _ | ⟨x1,y1⟩
  · rw [opl_none K hG,opl_none K (opl_on K hQ hG),opl_comm]
  · rcases Q with _ | ⟨x2,y2⟩
    · rw [opl_none K hG,opl_comm,opl_none K (opl_on K hP hG)]
    · have h1:y1*y1=fx (oF p) a b x1:=by
        have h1:y1*y1=x1*x1*x1+Fin.ofNat p a*x1+Fin.ofNat p b:=hP
        rw [h1]; simp only [fx,oF]
        clear h1 h
        grind -lia -linarith -order (splits:=0) (ematch:=0)
      have h2:y2*y2=fx (oF p) a b x2:=by
        have h2:y2*y2=x2*x2*x2+Fin.ofNat p a*x2+Fin.ofNat p b:=hQ
        rw [h2]; simp only [fx,oF]
        clear h1 h2 h
        grind -lia -linarith -order (splits:=0) (ematch:=0)
      have hz:=chk_zero h x1 x2
      have v0:val y1 y2 (⟨0,0,0,0⟩:Q4 (Fin p))=0:=by simp only [val]; clear h1 h2 hz h; grind -lia -linarith -order (splits:=0) (ematch:=0)
      have z1:=congrArg (fun q=>val y1 y2 q.1) hz
      have z2:=congrArg (fun q=>val y1 y2 q.2) hz
      simp only [assP,assQ,twoQ,v0,val_cross h1 h2] at z1 z2
      have vs:=fun s q=>val_sum h1 h2 ha hb s q
      have ex:∀ s:R3 (Fin p),val y1 y2 s.x=(valT y1 y2 s).x:=fun _=>rfl
      have ey:∀ s:R3 (Fin p),val y1 y2 s.y=(valT y1 y2 s).y:=fun _=>rfl
      have ez:∀ s:R3 (Fin p),val y1 y2 s.z=(valT y1 y2 s).z:=fun _=>rfl
      simp only [ex,ey,ez,vs,val_p,val_q,val_g] at z1 z2
      have rG:=rep_trip K.pr (some (Fin.ofNat p gx,Fin.ofNat p gy))
      have rP:=rep_trip K.pr (some (x1,y1))
      have rQ:=rep_trip K.pr (some (x2,y2))
      have rPG:=sum_rep K hP hG rP rG
      have rQG:=sum_rep K hQ hG rQ rG
      have oPG:=opl_on K hP hG
      have oQG:=opl_on K hQ hG
      exact rep_cross K.pr (sum_rep K oPG hQ rPG rQ) (sum_rep K hP oQG rP rQG) (sub_zero_eq z1) (sub_zero_eq z2)
/-! ### multiples of G -/
noncomputable def mulG (a b3:Fin p) (G:Pn p):Nat→Pn p
  | 0=>none
  | n+1=>opl a b3 (mulG a b3 G n) G
def AssG (a b b3:Fin p) (G:Pn p):Prop:=OnV a b G∧∀ P Q:Pn p,OnV a b P→OnV a b Q→opl a b3 (opl a b3 P G) Q=opl a b3 P (opl a b3 Q G)
theorem mulG_on {a b b3:Fin p} (K:CuOk a b b3) {G:Pn p} (hG:OnV a b G):∀ n,OnV a b (mulG a b3 G n)
  | 0=>trivial
  | n+1=>opl_on K (mulG_on K hG n) hG
theorem mulG_add {a b b3:Fin p} (K:CuOk a b b3) {G:Pn p} (A:AssG a b b3 G):∀ m n,opl a b3 (mulG a b3 G m) (mulG a b3 G n)=mulG a b3 G (m+n)
  | 0,n=>by rw [Nat.zero_add]; exact opl_none K (mulG_on K A.1 n)
  | m+1,n=>by
    rw [show m+1+n=m+(n+1) by omega,← mulG_add K A m (n+1)]
    exact A.2 _ _ (mulG_on K A.1 m) (mulG_on K A.1 n)
theorem mulG_one {a b b3:Fin p} (K:CuOk a b b3) {G:Pn p} (hG:OnV a b G):mulG a b3 G 1=G:=opl_none K hG
end
end Go.Proofs.YtkoonhiplicbkaaGreat.Cw
