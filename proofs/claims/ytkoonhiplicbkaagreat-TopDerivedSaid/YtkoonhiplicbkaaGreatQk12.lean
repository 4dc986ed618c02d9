/-
  (package divide) divide: quotient and rest of a row of words. Condition: at most 18 words, a divisor as 'of' gives it.
-/
import Derived.Test.YtkoonhiplicbkaaGreatQk11
set_option linter.unusedSimpArgs false
set_option linter.unusedVariables false
set_option maxHeartbeats 4000000
set_option maxRecDepth 100000
namespace Go.Proofs.YtkoonhiplicbkaaGreat.Cw
open Go Go.RowKit
attribute [local go_sem ↓ high] wn_eql wn_neq wn_lss wn_gtr wn_leq wn_geq wn_cells wRS wn_guard lit0 lit1
attribute [local go_sem high] wn_match wRS wn_eql wn_neq wn_lss wn_gtr wn_leq wn_geq
theorem uc_zero:uc 0=#[wn 0,wn 0,wn 0,wn 0,wn 0,wn 0,wn 0,wn 0,wn 0,wn 0,wn 0,wn 0,wn 0,wn 0,wn 0,wn 0,wn 0,wn 0,wn 0]:=by
 have h:dig 0=fun _=>0:=funext dig_zero
 unfold uc
 rw [h]
 rfl
theorem shifted_below (A D n s L:Nat) (hn1:1≤n) (hs:s≤63) (hD:D<pw n) (htop:9223372036854775808≤dig D (n - 1)) (hA:A<pw L):A*2 ^ s<D*pw (L+1 - n):=by
 obtain ⟨k,rfl⟩:∃ k,n=k+1:=⟨n - 1,by omega⟩
 rw [Nat.add_sub_cancel] at htop
 have h1:9223372036854775808*pw k≤D:=by
  rw [← top_one D k hD] at htop
  exact Nat.le_trans (Nat.mul_le_mul_right _ htop) (Nat.div_mul_le_self D (pw k))
 have h2:2 ^ s≤9223372036854775808:=by
  rw [show (9223372036854775808:Nat)=2 ^ 63 from rfl]
  exact Nat.pow_le_pow_right (by decide) hs
 have h3:pw L≤pw k*pw (L+1 - (k+1)):=by
  rw [← pw_add]
  exact Nat.pow_le_pow_right (by decide) (by omega)
 have h4:A*2 ^ s≤A*9223372036854775808:=Nat.mul_le_mul_left _ h2
 have h5:9223372036854775808*pw k*pw (L+1 - (k+1))≤D*pw (L+1 - (k+1)):=Nat.mul_le_mul_right _ h1
 have h6:9223372036854775808*pw L≤9223372036854775808*(pw k*pw (L+1 - (k+1))):=Nat.mul_le_mul_left _ h3
 rw [Nat.mul_assoc] at h5
 omega
theorem dif_back (W D x n:Nat) (hW:W<pw (n+1)) (hx:0<x) (hlt:W<x*D) (hX:x*D<pw (n+1)) :
  (dif W (x*D) (n+1)+D)%pw (n+1)=dif W ((x - 1)*D) (n+1)∧decide (pw (n+1)≤dif W (x*D) (n+1)+D) = !decide (W<(x - 1)*D):=by
 obtain ⟨h1,h2⟩:=back_once W D x (pw (n+1)) hW hx hlt hX
 refine ⟨h1,?_⟩
 unfold dif
 rw [Bool.eq_iff_iff,decide_eq_true_iff,h2]
 simp
theorem dif_done (W D x n:Nat) (hD:0<D) (hW:W<pw (n+1)) (hge:W / D≤x) (hle:x*D≤W):x=W / D∧dif W (x*D) (n+1)=W%D:=by
 have hx:x=W / D:=quot_is hD hge hle
 refine ⟨hx,?_⟩
 unfold dif
 have h1:=Nat.div_add_mod W D
 rw [← hx,Nat.mul_comm] at h1
 rw [show W+pw (n+1) - x*D=W%D+pw (n+1) by omega,Nat.add_mod_right,Nat.mod_eq_of_lt]
 exact Nat.lt_of_le_of_lt (Nat.mod_le W D) hW
theorem pw_zero':pw 0=1:=rfl
theorem quot_rest (A D m s V Q:Nat) (hD:D=m*2 ^ s) (hV:V<D) (h:V+D*Q=A*2 ^ s):Q=A / m∧V / 2 ^ s=A%m:=by
 have hp:0<2 ^ s:=Nat.pow_pos (by decide)
 have h1:(V+2 ^ s*(m*Q)) / 2 ^ s=V / 2 ^ s+m*Q:=Nat.add_mul_div_left _ _ hp
 rw [← Nat.mul_assoc,Nat.mul_comm (2 ^ s) m,← hD,h,Nat.mul_div_cancel _ hp] at h1
 have h2:V / 2 ^ s<m:=Nat.div_lt_of_lt_mul (by rw [Nat.mul_comm,← hD]; exact hV)
 have hm:0<m:=Nat.lt_of_le_of_lt (Nat.zero_le _) h2
 refine ⟨?_,?_⟩
 ·rw [h1,Nat.add_mul_div_left _ _ hm,Nat.div_eq_of_lt h2,Nat.zero_add]
 ·rw [h1,Nat.add_mul_mod_self_left,Nat.mod_eq_of_lt h2]
theorem results_blks {P:Program} {fn:Func} {p q:Tmp} {ty ty':TypeId} (h:fn.results=#[.cell p ty,.cell q ty']) (tmps:Array Value) (w:World) (g g':Nat) (t t':TypeId) (cs cs':Array Value) (fr fr':Nat × Nat) (d d':TypeDesc)
  (hp:tmps.getD p undef=.pointer (some ⟨g,0,none⟩)) (hq:tmps.getD q undef=.pointer (some ⟨g',0,none⟩)) (hg:w.heap[g]?=some (.cells cs t fr)) (hg':w.heap[g']?=some (.cells cs' t' fr'))
  (hu:P.underlying ty=some d) (hd:isAggDesc d=true) (hi:(P.info? ty).map (·.size)=some cs.size)
  (hu':P.underlying ty'=some d') (hd':isAggDesc d'=true) (hi':(P.info? ty').map (·.size)=some cs'.size) :
  (results fn tmps).run P w=.ok (.tuple #[.agg cs,.agg cs']) w:=by
 have hp':tmps[p]?.getD undef=.pointer (some ⟨g,0,none⟩):=by simpa using hp
 have hq':tmps[q]?.getD undef=.pointer (some ⟨g',0,none⟩):=by simpa using hq
 simp [results,h,hp',hq',asAddr,run_load_seg w g 0 cs.size t ty cs cs fr d hg hu hd hi rfl (fun j _=>by rw [Nat.zero_add]),run_load_seg w g' 0 cs'.size t' ty' cs' cs' fr' d' hg' hu' hd' hi' rfl (fun j _=>by rw [Nat.zero_add])]
theorem results_WN {fn:Func} {p q:Tmp} (h:fn.results=#[.cell p 154,.cell q 27]) (tmps:Array Value) (w:World) (g g':Nat) (t t':TypeId) (n n':Nat) (fr fr':Nat × Nat)
  (hp:tmps.getD p undef=.pointer (some ⟨g,0,none⟩)) (hq:tmps.getD q undef=.pointer (some ⟨g',0,none⟩)) (hg:w.heap[g]?=some (.cells (wc n) t fr)) (hg':w.heap[g']?=some (.cells (nc n') t' fr')) :
  (results fn tmps).run Tryz.prog w=.ok (.tuple #[.agg (wc n),.agg (nc n')]) w:=
 results_blks h tmps w g g' t t' (wc n) (nc n') fr fr' _ _ hp hq hg hg' Tryz.underlying154 rfl (by rw [wc_size]; kernel_rfl) Tryz.underlying27 rfl (by rw [nS]; kernel_rfl)
section
variable {P:Program} {ops:Array Oper} {o:Oper} {a:Act} {w:World} {K:Act→World→Prop} {Q:Exit→Act→World→Prop} {E:Prop}
theorem step_load_blk (hgd:o.guard=none) (ty:TypeId) (x:Operand) (ho:o.op=.load ty x)
  (g:Nat) (hx:a.eval x=.pointer (some ⟨g,0,none⟩)) (t:TypeId) (cs:Array Value) (fr:Nat × Nat) (d:TypeDesc) (hg:w.heap[g]?=some (.cells cs t fr))
  (hu:P.underlying ty=some d) (hd:isAggDesc d=true) (hi:(P.info? ty).map (·.size)=some cs.size)
  (h:K (a.put o.dst (.agg cs)) w):if Region.wanted o (yielded ops a.tmps)=true then Oper.wp P o a w K Q else E:=by
 have hw:Region.wanted o (yielded ops a.tmps)=true:=by simp [Region.wanted,hgd]
 rw [if_pos hw]
 exact wp_load_seg ty x ho g 0 cs.size hx t cs cs fr d hg hu hd hi rfl (fun j _=>by rw [Nat.zero_add]) h
theorem sK (hgd:o.guard=none) (ty:TypeId) (x v:Operand) (ho:o.op=.store ty x v)
  (g:Nat) (hx:a.eval x=.pointer (some ⟨g,0,none⟩)) (t:TypeId) (C cs:Array Value) (hv:a.eval v=.agg cs) (hg:w.heap[g]?=some (.cells C t (0,0)))
  (hi:(P.info? ty).map (·.size)=some cs.size) (hfit:cs.size=C.size) (h1:∀ u ∈ cs.toList,u.oneCell'=true)
  (h:∀ w',w'.heap[g]?=some (.cells cs t (0,0))→But g w w'→w'.heap.size=w.heap.size→K (a.put o.dst undef) w'):if Region.wanted o (yielded ops a.tmps)=true then Oper.wp P o a w K Q else E:=by
 have hw:Region.wanted o (yielded ops a.tmps)=true:=by simp [Region.wanted,hgd]
 rw [if_pos hw]
 exact wp_store_seg ty x v ho g 0 hx t C cs hv hg hi (by omega) h1 fun w' h2 h3 h4=>h w' (by rw [splice_all _ _ hfit] at h2; exact h2) h3 h4
end
theorem div_divide (d wb A D m n s L cap:Nat) (w:World) (hn:n≤9) (hn1:1≤n) (hs:s≤63) (hDm:D=m*2 ^ s) (hD:D<pw n) (htop:9223372036854775808≤dig D (n - 1)) (hL:L≤18) (hA:A<pw L) (hdw:d<w.heap.size) (hwb:wb<w.heap.size)
  (hd:w.heap[d]?=some (.cells (dc D n s) 189 (0,0))) (hc:∀ i,i<L→w.cell? ⟨wb,i,none⟩=some (wn (dig A i))) :
  Calls Tryz.prog 86 #[.pointer (some ⟨d,0,none⟩),.slice (some ⟨wb,0,none⟩) L cap] w fun e w'=>e=.returned (.tuple #[.agg (wc (A / m)),.agg (nc (A%m))])∧Below w.heap.size w w':=by
 have HD:=Hd hd
 have HC:=Hd hc
 have HDM:=Hd hDm
 have HDL:=Hd hD
 have HTOP:=Hd htop
 have HA:=Hd hA
 clear hd hc hDm hD htop hA
 go_enter Tryz.func86,Tryz.ntmps86
 go_upto_region 3 with fail
 rw [← wc_zero,← nZ,← uc_zero]
 obtain ⟨k1,k2,k3,k4,b1⟩:=al4 w (.cells (wc 0) 154) (.cells (nc 0) 27) (.cells (uc 0) 190) (.cells (wc 0) 154)
 obtain ⟨w1,hw1⟩:∃ w1:World,w1=((((w.alloc (.cells (wc 0) 154)).alloc (.cells (nc 0) 27)).alloc (.cells (uc 0) 190)).alloc (.cells (wc 0) 154)):=⟨_,rfl⟩
 rw [← hw1] at k1 k2 k3 k4 b1 ⊢
 clear hw1
 obtain ⟨g,hg⟩:∃ g,g=w.heap.size:=⟨_,rfl⟩
 rw [← hg] at k1 k2 k3 k4 b1 hdw hwb ⊢
 have hgs:g≤w.heap.size:=by omega
 have HG:=Hd hg
 have K1:=Hd k1
 have K2:=Hd k2
 have K3:=Hd k3
 have K4:=Hd k4
 clear hg k1 k2 k3 k4
 go_wp2_with (fail)
 go_loopw [17] (fun iv wr=>∃ i:Nat,i≤L∧iv=.int .i64 i∧wr.heap[g]?=some (.cells (wc 0) 154 (0,0))∧wr.heap[g+1]?=some (.cells (nc 0) 27 (0,0))∧wr.heap[g+1+1]?=some (.cells (uc (A%pw i*2 ^ s)) 190 (0,0))∧wr.heap[g+1+1+1]?=some (.cells (wc 0) 154 (0,0))∧Below g w wr) (fun iv _=>L - (intOf iv).toNat)
 case atStart=>exact ⟨0,by omega,rfl,K1.out,K2.out,by rw [mod_pw_zero,Nat.zero_mul]; exact K3.out,K4.out,b1⟩
 case round=>
  obtain ⟨i,hi,rfl,q1,q2,q3,q4,hbr⟩:=hrel
  have H1:=Hd q1
  have H2:=Hd q2
  have H3:=Hd q3
  have H4:=Hd q4
  have HDr:=Hd ((hbr.block d hdw).trans HD.out)
  by_cases hlt:i<L
  ·have cx:wr.cell? ⟨wb,i,none⟩=some (wn (dig A i)):=(hbr.cell (p:=⟨wb,i,none⟩) hwb).trans (HC.out i hlt)
   obtain ⟨U,hU⟩:∃ U,U=A%pw i*2 ^ s:=⟨_,rfl⟩
   have hsi:=shift_in A s i hs
   rw [← hU] at hsi q3 H3
   have cu:wr.cell? ⟨g+1+1,i,none⟩=some (wn (dig U i)):=by rw [cO q3,uc_get _ _ (by omega)]
   have fu:=frozen_of q3 i
   have cs:wr.cell? ⟨d,10,none⟩=some (.int .i64 s):=by rw [cO HDr.out]; rfl
   have hxl:=dig_lt A i
   obtain ⟨x,hx⟩:∃ x,x=dig A i:=⟨_,rfl⟩
   rw [← hx] at cx hsi hxl
   have o1:=wn_shl 24 x .i64 s
   obtain ⟨y,hy⟩:∃ y,y=x*2 ^ s%18446744073709551616:=⟨_,rfl⟩
   rw [← hy] at o1 hsi
   have hyl:y<18446744073709551616:=by rw [hy]; exact Nat.mod_lt _ (by decide)
   obtain ⟨v,hv⟩:∃ v,v=dig U i:=⟨_,rfl⟩
   have hvl:v<18446744073709551616:=by rw [hv]; exact dig_lt _ _
   rw [← hv] at cu hsi
   have o2:=wn_or 24 v y hvl hyl
   have o3:=wn_shr 24 x hxl .i64 (64 - s)
   obtain ⟨z,hz⟩:∃ z,z=x / 2 ^ (64 - s):=⟨_,rfl⟩
   rw [← hz] at o3 hsi
   have hi18:i<19:=by omega
   have hiI:(i:Int)<19:=by omega
   have HSI:=Hd hsi
   have HZ:=Hd hz
   obtain ⟨w2,hw2⟩:∃ w2,w2=(wr.setCell ⟨g+1+1,i,none⟩ (wn (v ||| y))).drew:=⟨_,rfl⟩
   have h3':w2.heap[g+1+1]?=some (.cells (fa wn 19 (upd (dig U) i (v ||| y))) 190 (0,0)):=by
    rw [hw2]
    have:=set_of H3.out i (wn (v ||| y))
    unfold uc at this
    rw [fa_set] at this
    exact this
   have I3:=Hd h3'
   have I1:=Hd (show w2.heap[g]?=some (.cells (wc 0) 154 (0,0)) by rw [hw2]; exact set_far H1.out (by omega) i _)
   have I2:=Hd (show w2.heap[g+1]?=some (.cells (nc 0) 27 (0,0)) by rw [hw2]; exact set_far H2.out (by omega) i _)
   have I4:=Hd (show w2.heap[g+1+1+1]?=some (.cells (wc 0) 154 (0,0)) by rw [hw2]; exact set_far H4.out (by omega) i _)
   have IB:=Hd (show Below g w w2 by rw [hw2]; exact (hbr.setCell (show g≤g+1+1 by omega) _).drew)
   have cs2:w2.cell? ⟨d,10,none⟩=some (.int .i64 s):=by
    rw [cO ((IB.out.block d hdw).trans HD.out)]; rfl
   have HW2:=Hd hw2
   have HX:=Hd hx
   have HU:=Hd hU
   clear q1 q2 q3 q4 hU hx hy hv hz hsi h3' hw2
   rcases Nat.eq_zero_or_pos s with hs0 | hsp
   ·have hsame:upd (dig U) i (v ||| y)=dig (A%pw (i+1)*2 ^ s):=by
     rw [← HSI.out]
     refine (upd_same _ _ _ ?_).symm
     rw [upd_ne _ _ _ _ (by omega),HZ.out,HU.out,hs0]
     rw [Nat.pow_zero,Nat.mul_one,dig_high _ i (Nat.mod_lt _ (pw_pos i)) (i+1) (by omega),Nat.div_eq_of_lt (by simpa using hxl)]
    have h3:=I3.out
    rw [hsame] at h3
    have J3:=Hd (show w2.heap[g+1+1]?=some (.cells (uc (A%pw (i+1)*2 ^ s)) 190 (0,0)) from h3)
    have o1':binOp .shl 24 (wn x) (.int .i64 0)=pure (wn y):=by rw [hs0] at o1; exact o1
    clear h3 hsame
    go_upto_region 6 with fail
    go_region
    rw [← HW2.out]
    go_wp2_with (fail)
    go_roundw
    case rel=>exact ⟨i+1,by omega,by go_num,I1.out,I2.out,J3.out,I4.out,IB.out⟩
    case measure=>simp [intOf]; omega
   ·have hds:decide (0<(s:Int))=true:=decide_eq_true (by omega)
    have e64:(64:Int) - (s:Int)=((64 - s:Nat):Int):=by omega
    have cu2:w2.cell? ⟨g+1+1,i+1,none⟩=some (wn (upd (dig U) i (v ||| y) (i+1))):=by rw [cO I3.out,fa_get _ _ _ _ (by omega)]
    have fu2:=frozen_of I3.out (i+1)
    have hi19:i+1<19:=by omega
    have h3:=set_of I3.out (i+1) (wn z)
    rw [fa_set,HSI.out] at h3
    have J3:=Hd (show (w2.setCell ⟨g+1+1,i+1,none⟩ (wn z)).heap[g+1+1]?=some (.cells (uc (A%pw (i+1)*2 ^ s)) 190 (0,0)) from h3)
    have J1:=Hd (set_far I1.out (by omega:g≠g+1+1) (i+1) (wn z))
    have J2:=Hd (set_far I2.out (by omega:g+1≠g+1+1) (i+1) (wn z))
    have J4:=Hd (set_far I4.out (by omega:g+1+1+1≠g+1+1) (i+1) (wn z))
    have JB:=Hd (show Below g w (w2.setCell ⟨g+1+1,i+1,none⟩ (wn z)) from IB.out.setCell (show g≤g+1+1 by omega) _)
    clear h3
    go_upto_region 6 with fail
    go_region
    rw [← HW2.out]
    go_wp2_with (fail)
    go_roundw
    case rel=>exact ⟨i+1,by omega,by go_num,J1.out,J2.out,J3.out,J4.out,JB.out⟩
    case measure=>simp [intOf]; omega
  ·obtain rfl:i=L:=by omega
   rw [Nat.mod_eq_of_lt HA.out] at H3
   clear q1 q2 q3 q4
   have cn:wr.cell? ⟨d,9,none⟩=some (.int .i64 n):=by rw [cO HDr.out]; rfl
   go_wp2_with (fail)
   have hVL:=shifted_below A D n s i hn1 hs HDL.out HTOP.out HA.out
   have HVL:=Hd hVL
   have hDp:0<D:=by
    rcases Nat.eq_zero_or_pos D with h0 | h0
    ·exfalso
     have:=HTOP.out
     rw [h0,dig_zero] at this
     omega
    ·exact h0
   have hb0:=hbr
   clear hVL cn
   go_loopw [10] (fun av wr=>∃ (k:Nat) (a:Int) (V Q:Nat),av=.int .i64 a∧(a=(k:Int) - 1∨k=0∧a<0) ∧ -20≤a∧k+n≤19∧Hid (V<D*pw k∧V+D*Q=A*2 ^ s∧Q%pw k=0)∧wr.heap[g]?=some (.cells (wc 0) 154 (0,0))∧wr.heap[g+1]?=some (.cells (nc 0) 27 (0,0))∧wr.heap[g+1+1]?=some (.cells (uc V) 190 (0,0))∧wr.heap[g+1+1+1]?=some (.cells (wc Q) 154 (0,0))∧Below g w wr) (fun av _=>(intOf av+1).toNat)
   case atStart=>exact ⟨i+1 - n,_,A*2 ^ s,0,rfl,by omega,by omega,by omega,Hd ⟨HVL.out,by rw [Nat.mul_zero,Nat.add_zero],Nat.zero_mod _⟩,H1.out,H2.out,H3.out,H4.out,hbr⟩
   case round=>
    clear H1 H2 H3 H4 HDr hb0 hbr
    obtain ⟨k,a,V,Q,rfl,hka,ha20,hk19,hinv,q1,q2,q3,q4,hbr⟩:=hrel
    have H1:=Hd q1
    have H2:=Hd q2
    have H3:=Hd q3
    have H4:=Hd q4
    have HDr:=Hd ((hbr.block d hdw).trans HD.out)
    clear q1 q2 q3 q4
    by_cases hneg:a<0
    ·obtain rfl:k=0:=by omega
     obtain ⟨hQ,hR⟩:=quot_rest A D m s V Q HDM.out (by have:=hinv.out.1; rwa [pw_zero',Nat.mul_one] at this) hinv.out.2.1
     have hRl:V / 2 ^ s<pw n:=by
      have h1:=hinv.out.1
      rw [pw_zero',Nat.mul_one] at h1
      exact Nat.lt_of_le_of_lt (Nat.div_le_self _ _) (Nat.lt_trans h1 HDL.out)
     rw [hR] at hRl
     rw [hQ] at H4
     have hsh:∀ j,dig (A%m) j=(dig V j / 2 ^ s) ||| (dig V (j+1)*2 ^ (64 - s)%18446744073709551616):=by
      intro j
      rw [← hR]
      have:=dig_shr V 0 s j (by omega)
      rw [show 64*0+s=s by omega,Nat.add_zero] at this
      exact this
     have HSH:=Hd hsh
     have HRL:=Hd hRl
     have hsz:=(Array.getElem?_eq_some_iff.mp H4.out).1
     obtain ⟨r,hr⟩:∃ r,r=wr.heap.size:=⟨_,rfl⟩
     obtain ⟨wq,hwq⟩:∃ wq,wq=wr.alloc (.cells (nc 0) 27):=⟨_,rfl⟩
     have I1:=Hd (show wq.heap[g]?=some (.cells (wc 0) 154 (0,0)) by rw [hwq]; exact alloc_far H1.out _)
     have I2:=Hd (show wq.heap[g+1]?=some (.cells (nc 0) 27 (0,0)) by rw [hwq]; exact alloc_far H2.out _)
     have I3:=Hd (show wq.heap[g+1+1]?=some (.cells (uc V) 190 (0,0)) by rw [hwq]; exact alloc_far H3.out _)
     have I4:=Hd (show wq.heap[g+1+1+1]?=some (.cells (wc (A / m)) 154 (0,0)) by rw [hwq]; exact alloc_far H4.out _)
     have I5:=Hd (show wq.heap[r]?=some (.cells (nc 0) 27 (0,0)) by rw [hwq,hr]; exact new1 wr _)
     have ID:=Hd (show wq.heap[d]?=some (.cells (dc D n s) 189 (0,0)) by rw [hwq]; exact alloc_far HDr.out _)
     have IB:=Hd (show Below g w wq by rw [hwq]; exact hbr.alloc (by omega) _)
     have cn:wq.cell? ⟨d,9,none⟩=some (.int .i64 n):=by rw [cO ID.out]; rfl
     have HR:=Hd hr
     have HWQ:=Hd hwq
     rw [← hr] at hsz
     clear hQ hR hRl hsh hr hwq H1 H2 H3 H4 HDr
     go_upto_region 20 with fail
     rw [← nZ,← HWQ.out,← HR.out]
     go_wp2_with (fail)
     clear cn
     go_loopw [85] (fun jv wr=>∃ j:Nat,j≤n∧jv=.int .i64 j∧wr.heap[g]?=some (.cells (wc 0) 154 (0,0))∧wr.heap[g+1]?=some (.cells (nc 0) 27 (0,0))∧wr.heap[g+1+1]?=some (.cells (uc V) 190 (0,0))∧wr.heap[g+1+1+1]?=some (.cells (wc (A / m)) 154 (0,0))∧wr.heap[r]?=some (.cells (fa wn 9 (mixd (A%m) 0 j)) 27 (0,0))∧Below g w wr) (fun jv _=>n - (intOf jv).toNat)
     case atStart=>exact ⟨0,by omega,rfl,I1.out,I2.out,I3.out,I4.out,by rw [mixd_zero]; exact I5.out,IB.out⟩
     case round=>
      clear I1 I2 I3 I4 I5 ID IB hbr
      obtain ⟨j,hj,rfl,q1,q2,q3,q4,q5,hbr2⟩:=hrel
      have H1:=Hd q1
      have H2:=Hd q2
      have H3:=Hd q3
      have H4:=Hd q4
      have H5:=Hd q5
      have HDr:=Hd ((hbr2.block d hdw).trans HD.out)
      clear q1 q2 q3 q4 q5
      by_cases hlt:j<n
      ·have cu:wr.cell? ⟨g+1+1,j,none⟩=some (wn (dig V j)):=by rw [cO H3.out,uc_get _ _ (by omega)]
       have cr:wr.cell? ⟨r,j,none⟩=some (wn (dig 0 j)):=by rw [cO H5.out,fa_get _ _ _ _ (by omega),mixd_at]
       have fr:=frozen_of H5.out j
       have cs:wr.cell? ⟨d,10,none⟩=some (.int .i64 s):=by rw [cO HDr.out]; rfl
       have hds:=HSH.out j
       have hxl:=dig_lt V j
       obtain ⟨x,hx⟩:∃ x,x=dig V j:=⟨_,rfl⟩
       rw [← hx] at cu hds hxl
       have o1:=wn_shr 24 x hxl .i64 s
       obtain ⟨y,hy⟩:∃ y,y=x / 2 ^ s:=⟨_,rfl⟩
       have hyl:y<18446744073709551616:=by rw [hy]; exact Nat.lt_of_le_of_lt (Nat.div_le_self _ _) hxl
       rw [← hy] at o1 hds
       have hj9:j<9:=by omega
       have hj9':(j:Int)<9:=by omega
       have hj19:(j:Int)<19:=by omega
       have hltI:(j:Int)<(n:Int):=by omega
       have HDS:=Hd hds
       obtain ⟨w2,hw2⟩:∃ w2,w2=(wr.setCell ⟨r,j,none⟩ (wn y)).drew:=⟨_,rfl⟩
       have G5':=set_of H5.out j (wn y)
       rw [fa_set] at G5'
       have G1:=Hd (show w2.heap[g]?=some (.cells (wc 0) 154 (0,0)) by rw [hw2]; exact set_far H1.out (by omega) j _)
       have G2:=Hd (show w2.heap[g+1]?=some (.cells (nc 0) 27 (0,0)) by rw [hw2]; exact set_far H2.out (by omega) j _)
       have G3:=Hd (show w2.heap[g+1+1]?=some (.cells (uc V) 190 (0,0)) by rw [hw2]; exact set_far H3.out (by omega) j _)
       have G4:=Hd (show w2.heap[g+1+1+1]?=some (.cells (wc (A / m)) 154 (0,0)) by rw [hw2]; exact set_far H4.out (by omega) j _)
       have G5:=Hd (show w2.heap[r]?=some (.cells (fa wn 9 (upd (mixd (A%m) 0 j) j y)) 27 (0,0)) by rw [hw2]; exact G5')
       have GB:=Hd (show Below g w w2 by rw [hw2]; exact (hbr2.setCell (show g≤r by omega) _).drew)
       have GD:=Hd ((GB.out.block d hdw).trans HD.out)
       have cs2:w2.cell? ⟨d,10,none⟩=some (.int .i64 s):=by rw [cO GD.out]; rfl
       have HW2:=Hd hw2
       have HX:=Hd hx
       have HY:=Hd hy
       clear hx hy hw2 G5' hds H1 H2 H3 H4 H5 HDr
       rcases Nat.eq_zero_or_pos s with hs0 | hsp
       ·have hdy:dig (A%m) j=y:=by
         rw [HDS.out,hs0]
         simp
        have J5:=G5.out
        rw [← hdy,mixd_upd] at J5
        have J5:=Hd J5
        have o1':binOp .shr 24 (wn x) (.int .i64 0)=pure (wn y):=by rw [hs0] at o1; exact o1
        clear hdy
        go_upto_region 23 with fail
        go_region
        rw [← HW2.out]
        go_wp2_with (fail)
        go_roundw
        case rel=>exact ⟨j+1,by omega,by go_num,G1.out,G2.out,G3.out,G4.out,J5.out,GB.out⟩
        case measure=>simp [intOf]; omega
       ·have hdsp:decide (0<(s:Int))=true:=decide_eq_true (by omega)
        have cu2:w2.cell? ⟨g+1+1,j+1,none⟩=some (wn (dig V (j+1))):=by rw [cO G3.out,uc_get _ _ (by omega)]
        have cr2:w2.cell? ⟨r,j,none⟩=some (wn y):=by rw [cO G5.out,fa_get _ _ _ _ (by omega),upd_at]
        have fr2:=frozen_of G5.out j
        have e64:(64:Int) - (s:Int)=((64 - s:Nat):Int):=by omega
        have hds:=HDS.out
        obtain ⟨z,hz⟩:∃ z,z=dig V (j+1):=⟨_,rfl⟩
        rw [← hz] at cu2 hds
        have o2:=wn_shl 24 z .i64 (64 - s)
        obtain ⟨v,hv⟩:∃ v,v=z*2 ^ (64 - s)%18446744073709551616:=⟨_,rfl⟩
        have hvl:v<18446744073709551616:=by rw [hv]; exact Nat.mod_lt _ (by decide)
        rw [← hv] at o2 hds
        have o3:=wn_or 24 y v hyl hvl
        rw [← hds] at o3
        have hj1:(j:Int)+1<19:=by omega
        have HZ:=Hd hz
        have HV:=Hd hv
        have J5:=set_of G5.out j (wn (dig (A%m) j))
        rw [fa_set,upd_upd,mixd_upd] at J5
        have J5:=Hd J5
        have J1:=Hd (set_far G1.out (by omega:g≠r) j (wn (dig (A%m) j)))
        have J2:=Hd (set_far G2.out (by omega:g+1≠r) j (wn (dig (A%m) j)))
        have J3:=Hd (set_far G3.out (by omega:g+1+1≠r) j (wn (dig (A%m) j)))
        have J4:=Hd (set_far G4.out (by omega:g+1+1+1≠r) j (wn (dig (A%m) j)))
        have JB:=Hd (show Below g w (w2.setCell ⟨r,j,none⟩ (wn (dig (A%m) j))).drew from (GB.out.setCell (show g≤r by omega) _).drew)
        clear hz hv hds
        go_upto_region 23 with fail
        go_region
        rw [← HW2.out]
        go_wp2_with (fail)
        go_region
        go_wp2_with (fail)
        go_roundw
        case rel=>exact ⟨j+1,by omega,by go_num,J1.out,J2.out,J3.out,J4.out,J5.out,JB.out⟩
        case measure=>simp [intOf]; omega
      ·obtain rfl:j=n:=by omega
       have hz:∀ i,i<9→mixd (A%m) 0 j i=dig (A%m) i:=by
        intro i hi
        unfold mixd
        split
        ·rfl
        ·rw [dig_zero,dig_high (A%m) j HRL.out i (by omega)]
       have q5:=H5.out
       rw [fa_ext wn 9 _ _ hz] at q5
       have J5:=Hd (show wr.heap[r]?=some (.cells (nc (A%m)) 27 (0,0)) from q5)
       clear hz q5 H5
       go_wp2_with (fail)
       refine wp_region_any (by kernel_rfl) ?_
       refine wpAny_ready (rs:=[0,1]) (by kernel_rfl) (by simp) (AllReady.cons rfl (fun K hK=>?_) (AllReady.cons rfl (fun K hK=>?_) AllReady.nil))
       ·refine step_load_blk rfl 154 (.tmp 7) rfl (g+1+1+1) rfl _ _ _ _ H4.out Tryz.underlying154 rfl (by rw [wc_size]; kernel_rfl) (hK _ _ ?_)
        clear hK
        refine wpAny_ready (rs:=[1,2]) (by kernel_rfl) (by simp) (AllReady.cons rfl (fun K hK=>?_) (AllReady.cons rfl (fun K hK=>?_) AllReady.nil))
        ·refine step_load_blk rfl 27 (.tmp 13) rfl r rfl _ _ _ _ J5.out Tryz.underlying27 rfl (by rw [nS]; kernel_rfl) (hK _ _ ?_)
         clear hK
         refine wpAny_ready (rs:=[2]) (by kernel_rfl) (by simp) (AllReady.cons rfl (fun K hK=>?_) AllReady.nil)
         refine sK rfl 154 (.tmp 4) (.tmp 122) rfl g rfl _ _ _ rfl H1.out (by rw [wc_size]; kernel_rfl) (by rw [wc_size,wc_size]) (one_fa _ _ _ wn_one) (fun w2 hw2 hb2 hs2=>hK _ _ ?_)
         clear hK
         have G1:=Hd hw2
         have G2:=Hd (hb2.heap (by omega:g+1≠g) H2.out)
         have G5:=Hd (hb2.heap (by omega:r≠g) J5.out)
         have GB:=Hd (But.below hbr2.drew hb2 (Nat.le_refl g) (Nat.le_trans hgs hbr2.size))
         clear hw2 hb2 hs2
         refine wpAny_ready (rs:=[3]) (by kernel_rfl) (by simp) (AllReady.cons rfl (fun K hK=>?_) AllReady.nil)
         refine sK rfl 27 (.tmp 5) (.tmp 123) rfl (g+1) rfl _ _ _ rfl G2.out (by rw [nS]; kernel_rfl) (by rw [nS,nS]) (one_fa _ _ _ wn_one) (fun w3 hw3 hb3 hs3=>hK _ _ ?_)
         clear hK
         have F2:=Hd hw3
         have F1:=Hd (hb3.heap (by omega:g≠g+1) G1.out)
         have FB:=Hd (But.below GB.out hb3 (by omega) (Nat.le_trans hgs GB.out.size))
         clear hw3 hb3 hs3
         refine wpAny_done (by kernel_rfl) ?_ _
         go_wp2_with (fail)
         refine bodyPost_ret (results_WN rfl _ _ g (g+1) _ _ _ _ _ _ rfl rfl F1.out F2.out) rfl ⟨rfl,by rw [← HG.out]; exact FB.out⟩
        ·refine sK rfl 154 (.tmp 4) (.tmp 122) rfl g rfl _ _ _ rfl H1.out (by rw [wc_size]; kernel_rfl) (by rw [wc_size,wc_size]) (one_fa _ _ _ wn_one) (fun w2 hw2 hb2 hs2=>hK _ _ ?_)
         clear hK
         have G1:=Hd hw2
         have G2:=Hd (hb2.heap (by omega:g+1≠g) H2.out)
         have G5:=Hd (hb2.heap (by omega:r≠g) J5.out)
         have GB:=Hd (But.below hbr2.drew hb2 (Nat.le_refl g) (Nat.le_trans hgs hbr2.size))
         clear hw2 hb2 hs2
         refine wpAny_ready (rs:=[1]) (by kernel_rfl) (by simp) (AllReady.cons rfl (fun K hK=>?_) AllReady.nil)
         refine step_load_blk rfl 27 (.tmp 13) rfl r rfl _ _ _ _ G5.out Tryz.underlying27 rfl (by rw [nS]; kernel_rfl) (hK _ _ ?_)
         clear hK
         refine wpAny_ready (rs:=[3]) (by kernel_rfl) (by simp) (AllReady.cons rfl (fun K hK=>?_) AllReady.nil)
         refine sK rfl 27 (.tmp 5) (.tmp 123) rfl (g+1) rfl _ _ _ rfl G2.out (by rw [nS]; kernel_rfl) (by rw [nS,nS]) (one_fa _ _ _ wn_one) (fun w3 hw3 hb3 hs3=>hK _ _ ?_)
         clear hK
         have F2:=Hd hw3
         have F1:=Hd (hb3.heap (by omega:g≠g+1) G1.out)
         have FB:=Hd (But.below GB.out hb3 (by omega) (Nat.le_trans hgs GB.out.size))
         clear hw3 hb3 hs3
         refine wpAny_done (by kernel_rfl) ?_ _
         go_wp2_with (fail)
         refine bodyPost_ret (results_WN rfl _ _ g (g+1) _ _ _ _ _ _ rfl rfl F1.out F2.out) rfl ⟨rfl,by rw [← HG.out]; exact FB.out⟩
       ·refine step_load_blk rfl 27 (.tmp 13) rfl r rfl _ _ _ _ J5.out Tryz.underlying27 rfl (by rw [nS]; kernel_rfl) (hK _ _ ?_)
        clear hK
        refine wpAny_ready (rs:=[0]) (by kernel_rfl) (by simp) (AllReady.cons rfl (fun K hK=>?_) AllReady.nil)
        refine step_load_blk rfl 154 (.tmp 7) rfl (g+1+1+1) rfl _ _ _ _ H4.out Tryz.underlying154 rfl (by rw [wc_size]; kernel_rfl) (hK _ _ ?_)
        clear hK
        refine wpAny_ready (rs:=[2]) (by kernel_rfl) (by simp) (AllReady.cons rfl (fun K hK=>?_) AllReady.nil)
        refine sK rfl 154 (.tmp 4) (.tmp 122) rfl g rfl _ _ _ rfl H1.out (by rw [wc_size]; kernel_rfl) (by rw [wc_size,wc_size]) (one_fa _ _ _ wn_one) (fun w2 hw2 hb2 hs2=>hK _ _ ?_)
        clear hK
        have G1:=Hd hw2
        have G2:=Hd (hb2.heap (by omega:g+1≠g) H2.out)
        have G5:=Hd (hb2.heap (by omega:r≠g) J5.out)
        have GB:=Hd (But.below hbr2.drew hb2 (Nat.le_refl g) (Nat.le_trans hgs hbr2.size))
        clear hw2 hb2 hs2
        refine wpAny_ready (rs:=[3]) (by kernel_rfl) (by simp) (AllReady.cons rfl (fun K hK=>?_) AllReady.nil)
        refine sK rfl 27 (.tmp 5) (.tmp 123) rfl (g+1) rfl _ _ _ rfl G2.out (by rw [nS]; kernel_rfl) (by rw [nS,nS]) (one_fa _ _ _ wn_one) (fun w3 hw3 hb3 hs3=>hK _ _ ?_)
        clear hK
        have F2:=Hd hw3
        have F1:=Hd (hb3.heap (by omega:g≠g+1) G1.out)
        have FB:=Hd (But.below GB.out hb3 (by omega) (Nat.le_trans hgs GB.out.size))
        clear hw3 hb3 hs3
        refine wpAny_done (by kernel_rfl) ?_ _
        go_wp2_with (fail)
        refine bodyPost_ret (results_WN rfl _ _ g (g+1) _ _ _ _ _ _ rfl rfl F1.out F2.out) rfl ⟨rfl,by rw [← HG.out]; exact FB.out⟩
    ·obtain ⟨p,rfl⟩:∃ p,k=p+1:=⟨k - 1,by omega⟩
     obtain rfl:a=(p:Int):=by omega
     obtain ⟨n',rfl⟩:∃ n',n=n' + 1:=⟨n - 1,by omega⟩
     obtain ⟨W,hW⟩:∃ W,W=V / pw p:=⟨_,rfl⟩
     have hWD:W<D*18446744073709551616:=by
      rw [hW]
      refine Nat.div_lt_of_lt_mul ?_
      have:=hinv.out.1
      rw [pw_succ,Nat.mul_left_comm] at this
      exact this
     have hVp:V<pw (p+(n' + 1+1)):=by
      have h1:D*pw (p+1)≤pw (n' + 1)*pw (p+1):=Nat.mul_le_mul_right _ (Nat.le_of_lt HDL.out)
      rw [← pw_add,show n' + 1+(p+1)=p+(n' + 1+1) by omega] at h1
      exact Nat.lt_of_lt_of_le hinv.out.1 h1
     have hWn:W<pw (n' + 1+1):=by rw [hW]; exact Nat.div_lt_of_lt_mul (by rw [← pw_add]; exact hVp)
     have htz:dig D n'≠0:=by
      have:=HTOP.out
      rw [Nat.add_sub_cancel] at this
      omega
     have hgu:=fun w' (e1:w'.heap[d]?=_) (e2:w'.heap[g+1+1]?=_)=>div_guess d (g+1+1) V D n' s p w' (by omega) (by omega) HDL.out htz (by rw [← hW]; exact hWD) e1 (t:=190) (fr:=(0,0)) e2
     rw [← hW] at hgu
     have HW:=Hd hW
     have HGU:=Hd hgu
     have HVP:=Hd hVp
     have HWD:=Hd hWD
     have HWN:=Hd hWn
     clear hW hgu hWD hVp hWn htz
     go_wp2_with (fail)
     refine (HGU.out wr HDr.out H3.out).mono ?_
     rintro e w5 ⟨x,rfl,hxl,hxq,m5,rfl⟩
     obtain ⟨w6,hw6⟩:∃ w6,w6=wr.drewN m5:=⟨_,rfl⟩
     have I1:=Hd (show w6.heap[g]?=some (.cells (wc 0) 154 (0,0)) by rw [hw6]; exact H1.out)
     have I2:=Hd (show w6.heap[g+1]?=some (.cells (nc 0) 27 (0,0)) by rw [hw6]; exact H2.out)
     have I3:=Hd (show w6.heap[g+1+1]?=some (.cells (uc V) 190 (0,0)) by rw [hw6]; exact H3.out)
     have I4:=Hd (show w6.heap[g+1+1+1]?=some (.cells (wc Q) 154 (0,0)) by rw [hw6]; exact H4.out)
     have ID:=Hd (show w6.heap[d]?=some (.cells (dc D (n' + 1) s) 189 (0,0)) by rw [hw6]; exact HDr.out)
     have IB:=Hd (show Below g w w6 by rw [hw6]; exact Below.drewN hbr m5)
     rw [← hw6]
     clear hw6 H1 H2 H3 H4 HDr
     go_wp2_with (fail)
     refine (div_take d (g+1+1) V D (n' + 1) s p x w6 (by omega) (by omega) HDL.out hxl HVP.out (by omega) ID.out I3.out).mono ?_
     rintro e w7 ⟨rfl,h73,hb7⟩
     rw [← HW.out] at h73 ⊢
     have J3:=Hd h73
     have J1:=Hd (hb7.heap (by omega:g≠g+1+1) I1.out)
     have J2:=Hd (hb7.heap (by omega:g+1≠g+1+1) I2.out)
     have J4:=Hd (hb7.heap (by omega:g+1+1+1≠g+1+1) I4.out)
     have JD:=Hd (hb7.heap (by omega:d≠g+1+1) ID.out)
     have JB:=Hd (But.below IB.out hb7 (by omega) (Nat.le_trans hgs IB.out.size))
     clear h73 hb7 I1 I2 I3 I4 ID IB
     go_wp2_with (fail)
     go_loopw [11,12] (fun xv mv wr=>∃ (x:Nat) (b:Bool),xv=wn x∧mv=.bool b∧Hid (b=decide (W<x*D)∧W / D≤x)∧x<18446744073709551616∧wr.heap[g]?=some (.cells (wc 0) 154 (0,0))∧wr.heap[g+1]?=some (.cells (nc 0) 27 (0,0))∧wr.heap[g+1+1]?=some (.cells (uc (V%pw p+pw p*dif W (x*D) (n' + 1+1))) 190 (0,0))∧wr.heap[g+1+1+1]?=some (.cells (wc Q) 154 (0,0))∧Below g w wr) (fun xv _ _=>match xv with | .int _ n=>n.toNat | _=>0)
     case atStart=>exact ⟨x,_,rfl,rfl,Hd ⟨rfl,hxq⟩,hxl,J1.out,J2.out,J3.out,J4.out,JB.out⟩
     case round=>
      clear J1 J2 J3 J4 JD JB hxq hxl
      obtain ⟨x,b,rfl,rfl,hxq,hxl,q1,q2,q3,q4,hbr2⟩:=hrel
      have H1:=Hd q1
      have H2:=Hd q2
      have H3:=Hd q3
      have H4:=Hd q4
      have HDr:=Hd ((hbr2.block d hdw).trans HD.out)
      clear q1 q2 q3 q4
      cases b with
      | true=>
       have hmuch:W<x*D:=of_decide_eq_true hxq.out.1.symm
       have hxp:0<x:=by
        rcases Nat.eq_zero_or_pos x with h0 | h0
        ·rw [h0,Nat.zero_mul] at hmuch; omega
        ·exact h0
       have hXl:=(rowY_top x D (n' + 1) HDL.out hxl).1
       obtain ⟨R,hR⟩:∃ R,R=dif W (x*D) (n' + 1+1):=⟨_,rfl⟩
       obtain ⟨hb1,hb2⟩:=dif_back W D x (n' + 1) HWN.out hxp hmuch hXl
       have hRl:R<pw (n' + 1+1):=by rw [hR]; exact Nat.mod_lt _ (pw_pos _)
       have hpl:=Nat.mod_lt V (pw_pos p)
       have hVq:(V%pw p+pw p*R) / pw p=R:=by rw [Nat.add_mul_div_left _ _ (pw_pos p),Nat.div_eq_of_lt hpl,Nat.zero_add]
       have hVm:(V%pw p+pw p*R)%pw p=V%pw p:=by rw [Nat.add_mul_mod_self_left,Nat.mod_mod]
       have hVl:V%pw p+pw p*R<pw (p+(n' + 1+1)):=by
        rw [pw_add]
        have h1:pw p*(R+1)≤pw p*pw (n' + 1+1):=Nat.mul_le_mul_left _ hRl
        rw [Nat.mul_add] at h1
        omega
       rw [← hR] at hb1 hb2 H3
       have hq:W / D<x:=quot_less hDp hmuch
       have hbk:=div_back d (g+1+1) (V%pw p+pw p*R) D (n' + 1) s p wr (by omega) (by omega) HDL.out hVl (by omega) HDr.out H3.out
       rw [hVq,hVm,hb1,hb2] at hbk
       obtain ⟨b',hb'⟩:∃ b',b' = !decide (W<(x - 1)*D):=⟨_,rfl⟩
       rw [← hb'] at hbk
       have HB':=Hd hb'
       have HBK:=Hd hbk
       have p1:=wn_subx 24 x 1 (by omega) hxl
       have HQ:=Hd (show W / D≤x - 1 from Nat.le_sub_one_of_lt hq)
       have hx1:x - 1<18446744073709551616:=by omega
       have hmeas:x - 1<x:=by omega
       clear hb' hmuch hXl hR hb1 hb2 hRl hpl hVq hVm hVl hq hbk
       go_wp2_with (fail)
       refine HBK.out.mono ?_
       rintro e w8 ⟨rfl,h83,hb8⟩
       have G3:=Hd h83
       have G1:=Hd (hb8.heap (by omega:g≠g+1+1) H1.out)
       have G2:=Hd (hb8.heap (by omega:g+1≠g+1+1) H2.out)
       have G4:=Hd (hb8.heap (by omega:g+1+1+1≠g+1+1) H4.out)
       have GB:=Hd (But.below hbr2 hb8 (by omega) (Nat.le_trans hgs hbr2.size))
       clear h83 hb8
       go_wp2_with (fail)
       exact ⟨⟨x - 1,!b',rfl,rfl,Hd ⟨by rw [HB'.out,Bool.not_not],HQ.out⟩,hx1,G1.out,G2.out,G3.out,G4.out,GB.out⟩,by show ((x - 1:Nat):Int).toNat<((x:Nat):Int).toNat; omega⟩
      | false=>
       have hle:x*D≤W:=Nat.le_of_not_lt (of_decide_eq_false hxq.out.1.symm)
       obtain ⟨hx1,hx2⟩:=dif_done W D x (n' + 1) hDp HWN.out hxq.out.2 hle
       have hQ0:=hinv.out.2.2
       have hro:=round_ok V D x p hDp (by rw [← HW.out]; exact hx1) hinv.out.1
       rw [← HW.out] at hro
       rw [hx2] at H3
       have hpl:=Nat.mod_lt V (pw_pos p)
       obtain ⟨V',hV'⟩:∃ V',V'=V%pw p+pw p*(W%D):=⟨_,rfl⟩
       rw [← hV'] at hro H3
       have hpwd:=put_word Q p x hQ0 hxl
       have hinv':V'<D*pw p∧V' + D*(Q+pw p*x)=A*2 ^ s∧(Q+pw p*x)%pw p=0:=by
        refine ⟨hro.1,?_,?_⟩
        ·rw [Nat.mul_add]
         have:=hinv.out.2.1
         have:=hro.2
         omega
        ·rw [mod_pw_succ] at hQ0
         rw [Nat.add_mul_mod_self_left]
         omega
       have HI:=Hd hinv'
       have fq:=frozen_of H4.out p
       have cq:wr.cell? ⟨g+1+1+1,p,none⟩=some (wn (dig Q p)):=by rw [cO H4.out,wc_get _ _ (by omega)]
       have hp18:(p:Int)<18:=by omega
       have hp18':p<18:=by omega
       have j4:=set_of H4.out p (wn x)
       unfold wc at j4
       rw [fa_set,hpwd] at j4
       have J4:=Hd (show (wr.setCell ⟨g+1+1+1,p,none⟩ (wn x)).heap[g+1+1+1]?=some (.cells (wc (Q+pw p*x)) 154 (0,0)) from j4)
       have J1:=Hd (set_far H1.out (by omega:g≠g+1+1+1) p (wn x))
       have J2:=Hd (set_far H2.out (by omega:g+1≠g+1+1+1) p (wn x))
       have J3:=Hd (set_far H3.out (by omega:g+1+1≠g+1+1+1) p (wn x))
       have JB:=Hd (show Below g w (wr.setCell ⟨g+1+1+1,p,none⟩ (wn x)) from hbr2.setCell (show g≤g+1+1+1 by omega) _)
       clear hle hx1 hx2 hQ0 hro hpl hV' hpwd hinv' j4 H1 H2 H3 H4
       go_wp2_with (fail)
       refine ⟨⟨_,_,_,_,_,_,_,_,_,_,_,_,_,_,_,_,_,_,_,_,_,_,_,_,_,_,_,_,⟨p,(p:Int) - 1,V',Q+pw p*x,rfl,by omega,by omega,by omega,HI,J1.out,J2.out,J3.out,J4.out,JB.out⟩,rfl⟩,?_⟩
       simp [intOf]
       try omega
end Go.Proofs.YtkoonhiplicbkaaGreat.Cw
