/-
  The plain functions of chapter 7 on whole messages: blocks in a row, what is put behind a message, the digest; and that it does not matter how a message is cut. No program in sight. No condition.
  (package sha256) What blocks computes, handed a hash's turn: it goes over all whole blocks of a slice, and gives what is left. Condition: the slice's bytes lie elsewhere than the hash's struct.
  (package sha256) What New, Write, Sum and Of do: a hash holds what was written; its digest is dig32. Condition: a text takes at most 2^46 bytes.
  (package sha256) What Sum gives: dig32 of what was written. Condition: the hash holds what was written.
  (package sha256) What New makes of 224 and of 256, and of any other number; and what Of gives of a text. Condition: a text takes at most 2^46 bytes.
  The hashes of one package over texts: what New, Write, Sum, Of and the reference's Of give, in short. Condition: a text takes at most 2^47 - 4096 bytes.
  The plain functions of chapter 8 on words and blocks, as the document's rules have them. No program in sight. No condition.
-/
import Derived.Test.YtkoonhiplicbkaaGreatQk2
import Derived.Test.YtkoonhiplicbkaaGreatQk1
import Derived.Deep.DeepMust
import Derived.Laws.IdiomStrings
import Derived.Laws.BytesArg
import Derived.BigQuiet
import Derived.Test.YtkoonhiplicbkaaGreatProg
import Derived.Deep.QuietTactic
import Derived.Outline
import Derived.Deep.RegionHeld3
set_option linter.unusedSimpArgs false
set_option linter.unusedVariables false
namespace Go.Proofs.YtkoonhiplicbkaaGreat.Cw
def k256 (i:Nat):UInt32:=[0x428a2f98,0x71374491,0xb5c0fbcf,0xe9b5dba5,0x3956c25b,0x59f111f1,0x923f82a4,0xab1c5ed5,0xd807aa98,0x12835b01,0x243185be,0x550c7dc3,0x72be5d74,0x80deb1fe,0x9bdc06a7,0xc19bf174,0xe49b69c1,0xefbe4786,0x0fc19dc6,0x240ca1cc,0x2de92c6f,0x4a7484aa,0x5cb0a9dc,0x76f988da,0x983e5152,0xa831c66d,0xb00327c8,0xbf597fc7,0xc6e00bf3,0xd5a79147,0x06ca6351,0x14292967,0x27b70a85,0x2e1b2138,0x4d2c6dfc,0x53380d13,0x650a7354,0x766a0abb,0x81c2c92e,0x92722c85,0xa2bfe8a1,0xa81a664b,0xc24b8b70,0xc76c51a3,0xd192e819,0xd6990624,0xf40e3585,0x106aa070,0x19a4c116,0x1e376c08,0x2748774c,0x34b0bcb5,0x391c0cb3,0x4ed8aa4a,0x5b9cca4f,0x682e6ff3,0x748f82ee,0x78a5636f,0x84c87814,0x8cc70208,0x90befffa,0xa4506ceb,0xbef9a3f7,0xc67178f2].getD i 0
def h224 (i:Nat):UInt32:=[0xc1059ed8,0x367cd507,0x3070dd17,0xf70e5939,0xffc00b31,0x68581511,0x64f98fa7,0xbefa4fa4].getD i 0
def h256 (i:Nat):UInt32:=[0x6a09e667,0xbb67ae85,0x3c6ef372,0xa54ff53a,0x510e527f,0x9b05688c,0x1f83d9ab,0x5be0cd19].getD i 0
def abs32 (k h:Nat→UInt32) (m:List UInt8):Nat→Nat→UInt32
 | 0=>h
 | n+1=>blk32 k (abs32 k h m n) fun i=>m.getD (64*n+i) 0
theorem blk32_congr (k h:Nat→UInt32) (b c:Nat→UInt8) (e:∀ i,i<64→b i=c i):blk32 k h b=blk32 k h c:=by
 have hp:∀ j,j<16→∀ n,n≤4→pw32 b j n=pw32 c j n:=by
  intro j hj n
  induction n with
  | zero=>intro _; rfl
  | succ n ih=>intro hn; simp only [pw32]; rw [ih (by omega),e _ (by omega)]
 have hs:∀ j,sch32 b j=sch32 c j:=by
  intro j
  induction j using Nat.strongRecOn with
  | _ j ih=>
   by_cases h:j<16
   ·rw [sch32_lo b j h,sch32_lo c j h,hp j h 4 (by omega)]
   ·rw [sch32_hi b j h,sch32_hi c j h,ih _ (by omega),ih _ (by omega),ih _ (by omega),ih _ (by omega)]
 have hs':sch32 b=sch32 c:=funext hs
 unfold blk32
 rw [hs']
theorem abs32_add (k h:Nat→UInt32) (m s:List UInt8) (a:Nat) (ha:64*a≤m.length):∀ j,64*(a+j)≤(m++s).length→abs32 k h (m++s) (a+j)=abs32 k (abs32 k h m a) (m.drop (64*a)++s) j:=by
 have hlow:∀ a,64*a≤m.length→abs32 k h (m++s) a=abs32 k h m a:=by
  intro a
  induction a with
  | zero=>intro _; rfl
  | succ a ih=>
   intro ha
   simp only [abs32]
   rw [ih (by omega)]
   refine blk32_congr _ _ _ _ fun i hi=>?_
   simp only [List.getD_eq_getElem?_getD]
   rw [List.getElem?_append_left (by omega)]
 intro j
 induction j with
 | zero=>intro _; exact hlow a ha
 | succ j ih=>
  intro hj
  rw [← Nat.add_assoc]
  simp only [abs32]
  rw [ih (by omega)]
  refine blk32_congr _ _ _ _ fun i hi=>?_
  simp only [List.getD_eq_getElem?_getD]
  congr 1
  by_cases hc:64*(a+j)+i<m.length
  ·rw [List.getElem?_append_left hc,List.getElem?_append_left (by simp; omega),List.getElem?_drop]
   congr 1; omega
  ·rw [List.getElem?_append_right (by omega),List.getElem?_append_right (by simp; omega)]
   congr 1; simp; omega
def tail32 (n:Nat):List UInt8:=128::List.replicate ((119 - n%64)%64) 0++len8 (UInt64.ofNat n)
theorem tail32_length (n:Nat):(n+(tail32 n).length)%64=0:=by simp [tail32,len8_length]; omega
def fin32 (h:Nat→UInt32) (m:List UInt8):Nat→UInt32:=abs32 k256 h (m++tail32 m.length) ((m++tail32 m.length).length / 64)
def out32 (h:Nat→UInt32) (n:Nat):List UInt8:=(List.range n).flatMap fun i=>(List.range 4).map fun k=>(h i >>> UInt32.ofNat (24 - 8*k)).toUInt8
theorem out32_length (h:Nat→UInt32) (n:Nat):(out32 h n).length=4*n:=by
 unfold out32
 induction n with
 | zero=>rfl
 | succ n ih=>rw [@List.range_succ n,List.flatMap_append,List.length_append,ih]; simp; omega
def beg32 (bits:Nat):Nat→UInt32:=if bits=224 then h224 else h256
def dig32 (bits:Nat) (m:List UInt8):List UInt8:=(out32 (fin32 (beg32 bits) m) 8).take (bits / 8)
theorem fin32_rest (h:Nat→UInt32) (m:List UInt8) :
  fin32 h m=abs32 k256 (abs32 k256 h m (m.length / 64)) (m.drop (64*(m.length / 64))++tail32 m.length) ((m.drop (64*(m.length / 64))++tail32 m.length).length / 64):=by
 unfold fin32
 have ht:=tail32_length m.length
 rw [← abs32_add k256 h m _ (m.length / 64) (by omega) _ (by simp; omega)]
 congr 1
 simp only [List.length_append,List.length_drop]
 omega
section
variable (k h:Nat→UInt32) (m s:List UInt8)
theorem app_div:(m++s).length / 64=m.length / 64+(m.length%64+s.length) / 64:=by rw [List.length_append]; omega
theorem app_mod:(m++s).length%64=(m.length%64+s.length)%64:=by rw [List.length_append]; omega
theorem app_abs:abs32 k h (m++s) ((m++s).length / 64)=abs32 k (abs32 k h m (m.length / 64)) (m.drop (64*(m.length / 64))++s) ((m.length%64+s.length) / 64):=by
 rw [app_div]
 exact abs32_add k h m s _ (by omega) _ (by rw [List.length_append]; omega)
theorem app_rest:(m++s).drop (64*((m++s).length / 64))=(m.drop (64*(m.length / 64))++s).drop (64*((m.length%64+s.length) / 64)):=by
 rw [app_div,Nat.mul_add,← List.drop_drop,List.drop_append_of_le_length (by omega)]
end
end Go.Proofs.YtkoonhiplicbkaaGreat.Cw
set_option maxHeartbeats 2000000
set_option maxRecDepth 100000
namespace Go.Proofs.YtkoonhiplicbkaaGreat.Cw
open Go Go.RowKit
theorem blocks32_calls (b:Nat) (A:Option Addr) (n c:Nat) (l:List UInt8) (size rest len:Value) (h:Nat→UInt32) (w:World) (hn:n≤9223372036854775807) (hr:Rd w (·≠b) A n c l)
  (ho:w.heap[b]?=some (.cells (hobj v32 64 size h k256 rest len) 233 (0,0))) :
  Calls Tryz.prog 145 #[.func (.func 146) #[.pointer (some ⟨b,0,none⟩)] #[],.slice A n c] w fun e w'=>∃ A' c',e=.returned (.slice A' (n%64) c') ∧
   w'.heap[b]?=some (.cells (hobj v32 64 size (abs32 k256 h l (n / 64)) k256 rest len) 233 (0,0))∧Rd w' (·≠b) A' (n%64) c' (l.drop (64*(n / 64)))∧But b w w':=by
 have HR:=Hd hr
 have HO:=Hd ho
 have hbl:=lt_of ho
 clear hr ho
 go_enter Tryz.func145,Tryz.ntmps145
 go_wp2
 go_loopw [1] (fun s wr=>∃ (j:Nat) (A':Option Addr) (c':Nat),64*j≤n∧s=.slice A' (n - 64*j) c'∧wr.heap[b]?=some (.cells (hobj v32 64 size (abs32 k256 h l j) k256 rest len) 233 (0,0))∧Rd wr (·≠b) A' (n - 64*j) c' (l.drop (64*j))∧But b w wr) (fun s _=>slen s)
 case atStart=>exact ⟨0,A,c,by omega,by simp,HO.out,by simpa using HR.out,But.refl _ _⟩
 case round=>
  obtain ⟨j,A',c',hj,rfl,ho,hr,hb⟩:=hrel
  have HO2:=Hd ho
  have HR2:=Hd hr
  have hcap:=hr.cap
  by_cases hlt:64≤n - 64*j
  ·obtain ⟨g,off,rfl,hgb,hg,hc⟩:=hr.2.2 (by omega)
   have HC:=Hd (show ∀ i,i<64→wr.cell? ⟨g,off+i,none⟩=some (v8 ((fun i=>l.getD (64*j+i) 0) i)) from fun i hi=>by
    rw [hc i (by omega)]; simp)
   clear ho hr hc
   by_cases hcc:c'=64
   ·subst hcc
    go_wp2_with (go_at_call 146; refine (turn32_calls b g off _ (fun i=>l.getD (64*j+i) 0) size rest len _ k256 _ hg HC.out HO2.out).mono ?_; rintro e w1 ⟨rfl,ho1,hb1⟩; have HO3:=Hd ho1; clear ho1)
    go_roundw
    case rel=>
     refine ⟨j+1,_,0,by omega,by congr 1; omega,HO3.out,?_,hb.trans hb1⟩
     have:=(HR2.out.but hb1 fun _ h=>h).drop (k:=64) (by omega) (some ⟨g,off,none⟩) (fun g' off' e h=>by omega)
     rw [List.drop_drop,show n - 64*j - 64=n - 64*(j+1) from by omega] at this
     exact this
    case measure=>simp [slen]; omega
   ·go_wp2_with (go_at_call 146; refine (turn32_calls b g off _ (fun i=>l.getD (64*j+i) 0) size rest len _ k256 _ hg HC.out HO2.out).mono ?_; rintro e w1 ⟨rfl,ho1,hb1⟩; have HO3:=Hd ho1; clear ho1)
    go_roundw
    case rel=>
     refine ⟨j+1,some ⟨g,off+64,none⟩,c' - 64,by omega,by rw [show n - 64*j - 64=n - 64*(j+1) from by omega],HO3.out,?_,hb.trans hb1⟩
     have:=(HR2.out.but hb1 fun _ h=>h).drop (k:=64) (by omega) (some ⟨g,off+64,none⟩) (fun g' off' e h=>by injection e with e; injection e with e1 e2; subst e1 e2; rfl)
     rw [List.drop_drop,show n - 64*j - 64=n - 64*(j+1) from by omega] at this
     exact this
    case measure=>simp [slen]; omega
  ·have hj2:j=n / 64:=by omega
   clear ho hr
   go_wp2
   go_ret
   refine ⟨A',c',?_,?_,?_,hb⟩
   ·rw [show n%64=n - 64*j from by omega]; rfl
   ·rw [← hj2]; exact HO2.out
   ·rw [← hj2,show n%64=n - 64*j from by omega]; exact HR2.out
end Go.Proofs.YtkoonhiplicbkaaGreat.Cw
set_option maxHeartbeats 400000
set_option maxRecDepth 100000
namespace Go.Proofs.YtkoonhiplicbkaaGreat.Cw
open Go Go.RowKit
attribute [local go_sem ↓ high] conv_len
attribute [local go_sem ↓ high] bin_or64 bin_xor64 bin_and64 bin_add64 bin_shr64 bin_shl64 bin_or32 bin_shr32
attribute [local go_sem ↓ high] cells_v32 cells_v8 cells_v64 run_store_v32 run_store_v8 run_store_v64
attribute [local go_sem high] match_v32 match_v8 match_v64 run_store_v32 run_store_v8 run_store_v64
def HashAt (w:World) (b:Nat) (p:Nat→Prop) (bits:Nat) (m:List UInt8):Prop:=
  ∃ A c,w.heap[b]?=some (.cells (hobj v32 64 (.int .i64 bits) (abs32 k256 (beg32 bits) m (m.length / 64)) k256 (.slice A (m.length%64) c) (v64 (UInt64.ofNat m.length))) 233 (0,0))∧Rd w p A (m.length%64) c (m.drop (64*(m.length / 64)))
theorem HashAt.keep {w w':World} {b:Nat} {p:Nat→Prop} {bits:Nat} {m:List UInt8} (h:HashAt w b p bits m) (hs:w.heap.size≤w'.heap.size) (hb:w'.heap[b]?=w.heap[b]?) (hk:∀ g,p g→g<w.heap.size→w'.heap[g]?=w.heap[g]?):HashAt w' b p bits m:=by
  obtain ⟨A,c,h1,h2⟩:=h
  exact ⟨A,c,hb.trans h1,h2.keep hs hk⟩
theorem HashAt.lt {w:World} {b:Nat} {p:Nat→Prop} {bits:Nat} {m:List UInt8} (h:HashAt w b p bits m):b<w.heap.size:=by
  obtain ⟨A,c,h1,h2⟩:=h
  exact lt_of h1
theorem write32_calls (b:Nat) (p:Nat→Prop) (bits:Nat) (m:List UInt8) (s:ByteArray) (w:World) (hp:∀ g,w.heap.size≤g→p g) (hpb:∀ g,p g→g≠b) (hs:s.size≤140737488355264) (hh:HashAt w b p bits m) :
    Calls Tryz.prog 120 #[.pointer (some ⟨b,0,none⟩),.string s] w fun e w'=>e=.returned (.int .i64 0)∧HashAt w' b p bits (m++s.data.toList)∧But b w w':=by
  obtain ⟨A,c,ho,hr⟩:=hh
  have hbl:=lt_of ho
  obtain ⟨i0,hi,hz0,hz1,hz2⟩:=info_parts info_u8
  have HI:=Hd hi
  have HZ0:=Hd hz0
  have HZ1:=Hd hz1
  have HZ2:=Hd hz2
  clear hi hz0 hz1 hz2
  have h74:w.cell? ⟨b,74,none⟩=some (v64 (UInt64.ofNat m.length)):=(cO ho _).trans (hobj_len v32 64 _ _ _ _ _)
  have f74:w.frozen? ⟨b,74,none⟩=false:=frozen_of ho _
  have h73:w.cell? ⟨b,73,none⟩=some (.slice A (m.length%64) c):=(cO ho _).trans (hobj_rest v32 64 _ _ _ _ _)
  have HO:=Hd ho
  have HR:=Hd hr
  clear ho hr
  go_enter Tryz.func120,Tryz.ntmps120
  obtain ⟨L,hL⟩:∃ L,L=m.drop (64*(m.length / 64)):=⟨_,rfl⟩
  obtain ⟨r,hr⟩:∃ r,r=m.length%64:=⟨_,rfl⟩
  rw [← hL,← hr] at HR
  rw [← hr] at HO h73
  have hr64:r<64:=by omega
  have HL:=Hd hL
  have Hr:=Hd hr
  clear hL hr
  have tok1:True:=trivial
  have tok2:True:=trivial
  go_wp2_with (first
    | (at_builtin
       have _t:=tok1
       refine wpList_append_rd rfl (.const (.slice none 0 0)) (.tmp 21) 103 rfl w.heap.size 5 i0 Tryz.underlying103 HI.out HZ0.out HZ1.out HZ2.out (.slice none 0 0) 0 [] rfl (Ow.nil _ _ _ _) A r c L p rfl (HR.out.but ((But.refl b w).setCell (.inl rfl) _) hpb) (by omega) (by rw [size_set]; exact Nat.le_refl _) ?_
       intro v1 w1 hown1 hg1 hat1
       simp only [Nat.zero_add,List.nil_append] at hown1
       have hb1:Below w.heap.size (w.setCell ⟨b,74,none⟩ (v64 (UInt64.ofNat m.length+UInt64.ofNat s.size))) w1:=(Below.refl _ _).grown hg1 (by rw [size_set]; exact Nat.le_refl _) (fun k hk=>by simp [Value.ownBlock] at hk)
       have hs1:w.heap.size≤w1.heap.size:=by have:=hb1.size; rw [size_set] at this; exact this
       have HAT:=Hd hat1
       clear hat1 hg1 tok1 _t
       skip)
    | (at_builtin
       have _t:=tok2
       refine wpList_append_str rfl (.tmp 22) (.tmp 23) 103 9 rfl w.heap.size 5 i0 Tryz.underlying103 Tryz.underlying9 HI.out HZ0.out HZ1.out HZ2.out v1 r L rfl hown1 s rfl (by omega) hs1 ?_
       intro v2 w2 hown2 hg2 hat2
       have hb2:=hb1.grown hg2 hs1 (fun k hk=>(hown1.lt k hk).1)
       have hs2:w.heap.size≤w2.heap.size:=by have:=hb2.size; rw [size_set] at this; exact this
       have HG2:=Hd hg2
       clear hat2 hg2
       obtain ⟨A2,c2,rfl,hc2⟩:=hown2.slice
       have hr2:=hown2.rd (fun g=>w.heap.size≤g) (fun g h=>h)
       have HR2:=Hd hr2
       have HO2:=Hd (below_heap hb2 hbl ((set_of HO.out 74 (v64 (UInt64.ofNat m.length+UInt64.ofNat s.size))).trans (congrArg (fun c=>some (Obj.cells c 233 (0,0))) (hobj_set_len v32 64 _ _ _ _ _ _))))
       have HW2:=Hd hown2
       clear hr2 hown2 tok2 _t
       skip)
    | (go_at_call 145
       refine (blocks32_calls b A2 _ c2 _ _ _ _ _ w2 (by omega) (HR2.out.weak fun g _ h=>by omega) HO2.out).mono ?_
       rintro e w3 ⟨A3,c3,rfl,ho3,hr3,hb3⟩
       have HO3:=Hd ho3
       have HR3:=Hd hr3
       have hs3:=hb3.size
       clear ho3 hr3
       skip)
    | (at_builtin
       go_must (
         refine wpList_append_rd rfl (.const (.slice none 0 0)) (.tmp 29) 103 rfl w.heap.size 5 i0 Tryz.underlying103 HI.out HZ0.out HZ1.out HZ2.out (.slice none 0 0) 0 [] rfl (Ow.nil _ _ _ _) A3 ((r+s.size)%64) c3 _ (·≠b) rfl HR3.out (by omega) (by omega) ?_
         intro v4 w4 hown4 hg4 hat4
         simp only [Nat.zero_add,List.nil_append] at hown4
         have hb4:Below w3.heap.size w3 w4:=(Below.refl _ _).grown hg4 (Nat.le_refl _) (fun k hk=>by simp [Value.ownBlock] at hk)
         have ho4:=below_heap hb4 (by omega) HO3.out
         have HO4:=Hd ho4
         obtain ⟨A4,c4,rfl,hc4⟩:=hown4.slice
         have HR4:=Hd (hown4.rd p hp)
         have g73:=(cO ho4 73).trans (hobj_rest v32 64 _ _ _ _ _)
         have e73:w4.frozen? ⟨b,73,none⟩=false:=frozen_of ho4 _
         clear hat4 hg4 hown4 ho4)))
  go_ret
  refine ⟨rfl,⟨A4,c4,?_,?_⟩,?_⟩
  · refine (set_of HO4.out 73 _).trans ?_
    rw [show (73:Nat)=9+64 from rfl,hobj_set_rest,app_abs,app_mod,← Hr.out,← HL.out,List.length_append,UInt64.ofNat_add]
    rfl
  · have:=Rd.but HR4.out ((But.refl b w4).setCell (a:=⟨b,73,none⟩) (.inl rfl) (.slice A4 ((r+s.size)%64) c4)) hpb
    rw [app_mod,app_rest,← Hr.out,← HL.out]
    exact this
  · refine But.setCell ?_ (.inl rfl) _
    have e2:But b w w2:=But.trans ((But.refl b w).setCell (.inl rfl) _) ⟨hb2.os,hb2.tape,hb2.output,hb2.size,fun i hi _=>hb2.block i (by rw [size_set] at hi; exact hi)⟩
    exact (e2.trans hb3).trans (But.of_below hb4)
end Go.Proofs.YtkoonhiplicbkaaGreat.Cw
set_option maxHeartbeats 400000
set_option maxRecDepth 100000
namespace Go.Proofs.YtkoonhiplicbkaaGreat.Cw
open Go Go.RowKit
attribute [local go_sem ↓ high] run_conv64_8 run_conv32_8
attribute [local go_sem ↓ high] bin_or64 bin_xor64 bin_and64 bin_add64 bin_shr64 bin_shl64 bin_or32 bin_shr32
attribute [local go_sem ↓ high] cells_v32 cells_v8 cells_v64 run_store_v32 run_store_v8 run_store_v64
attribute [local go_sem high] match_v32 match_v8 match_v64 run_store_v32 run_store_v8 run_store_v64
def wb32 (x:UInt32):List UInt8:=(List.range 4).map fun k=>(x >>> UInt32.ofNat (24 - 8*k)).toUInt8
theorem wb32_length (x:UInt32):(wb32 x).length=4:=by simp [wb32]
theorem wb32_take (x:UInt32) (k:Nat) (hk:k<4):(wb32 x).take k++[(x >>> UInt32.ofNat (24 - 8*k)).toUInt8]=(wb32 x).take (k+1):=by
  rw [List.take_succ_eq_append_getElem (by rw [wb32_length]; exact hk)]
  congr 2
  simp only [wb32,List.getElem_map,List.getElem_range]
theorem wb32_all (x:UInt32):(wb32 x).take 4=wb32 x:=by rw [← wb32_length x,List.take_length]
theorem out32_succ (h:Nat→UInt32) (n:Nat):out32 h (n+1)=out32 h n++wb32 (h n):=by
  unfold out32 wb32
  rw [@List.range_succ n,List.flatMap_append]
  simp
theorem sum32_calls (b:Nat) (p:Nat→Prop) (bits:Nat) (m:List UInt8) (w:World) (hbits:bits=224∨bits=256) (hh:HashAt w b p bits m) :
    Calls Tryz.prog 121 #[.pointer (some ⟨b,0,none⟩)] w fun e w'=>e=.returned (.string ⟨(dig32 bits m).toArray⟩)∧Below w.heap.size w w':=by
  obtain ⟨A,c,ho,hr⟩:=hh
  have hbl:=lt_of ho
  obtain ⟨i0,hi,hz0,hz1,hz2⟩:=info_parts info_u8
  have HI:=Hd hi
  have HZ0:=Hd hz0
  have HZ1:=Hd hz1
  have HZ2:=Hd hz2
  clear hi hz0 hz1 hz2
  have h74:w.cell? ⟨b,74,none⟩=some (v64 (UInt64.ofNat m.length)):=(cO ho _).trans (hobj_len v32 64 _ _ _ _ _)
  have h73:w.cell? ⟨b,73,none⟩=some (.slice A (m.length%64) c):=(cO ho _).trans (hobj_rest v32 64 _ _ _ _ _)
  have HO:=Hd ho
  have HR:=Hd hr
  clear ho hr
  go_enter Tryz.func121,Tryz.ntmps121
  obtain ⟨L,hL⟩:∃ L,L=m.drop (64*(m.length / 64)):=⟨_,rfl⟩
  obtain ⟨r,hr⟩:∃ r,r=m.length%64:=⟨_,rfl⟩
  rw [← hL,← hr] at HR
  rw [← hr] at HO h73
  have hr64:r<64:=by omega
  have HL:=Hd hL
  have Hr:=Hd hr
  clear hL hr
  have tok1:True:=trivial
  have tok2:True:=trivial
  go_wp2_with (first
    | (refine wpList_load_blk rfl 233 _ rfl b rfl _ _ _ _ HO.out Tryz.underlying233 rfl (by rw [hobj_size]; kernel_rfl) ?_)
    | (refine wpList_alloc_zero rfl 233 rfl (.agg (hobj v32 64 (.int .i64 0) (fun _=>0) (fun _=>0) (.slice none 0 0) (v64 0))) (by kernel_rfl) ?_)
    | (refine sB rfl 233 _ _ rfl w.heap.size rfl _ _ _ rfl (new1 _ _) (by rw [hobj_size]; kernel_rfl) (by rw [hobj_size]; kernel_rfl) (hobj_one _ _ _ _ _ _ _ one_v32 rfl rfl rfl) ?_
       intro w2 hw2 hb2 hs2
       have hs2':w2.heap.size=w.heap.size+1:=by rw [hs2]; simp
       have hB2:Below w.heap.size w w2:=But.below ((Below.refl _ _).alloc (Nat.le_refl _) _) hb2 (Nat.le_refl _) (by simp)
       have ho2:=below_heap hB2 hbl HO.out
       have HO2:=Hd ho2
       have g73:=(cO ho2 73).trans (hobj_rest v32 64 _ _ _ _ _)
       have g74:=(cO ho2 74).trans (hobj_len v32 64 _ _ _ _ _)
       have HR2:=Hd (HR.out.below hB2)
       have HG:=Hd hw2
       clear hw2 hb2 hs2 ho2)
    | (at_builtin
       have _t:=tok1
       go_must (
         refine wpList_append_rd rfl (.const (.slice none 0 0)) (.tmp 18) 103 rfl (w.heap.size+1) 5 i0 Tryz.underlying103 HI.out HZ0.out HZ1.out HZ2.out (.slice none 0 0) 0 [] rfl (Ow.nil _ _ _ _) A r c L p rfl HR2.out (by omega) (by omega) ?_
         intro v1 w3 hown1 hg1 hat1
         simp only [Nat.zero_add,List.nil_append] at hown1
         have hb3:Below (w.heap.size+1) w2 w3:=(Below.refl _ _).grown hg1 (by omega) (fun k hk=>by simp [Value.ownBlock] at hk)
         have HW3:=Hd hown1
         have hs3:=hb3.size
         clear hat1 hg1 hown1 tok1 _t))
    | (at_builtin
       have _t:=tok2
       go_must (
         refine wpList_append_rd rfl (.tmp 19) (.tmp 20) 103 rfl (w.heap.size+1) 5 i0 Tryz.underlying103 HI.out HZ0.out HZ1.out HZ2.out v1 r L rfl (HW3.out.alloc _) (some ⟨w3.heap.size,0,none⟩) 1 1 [128] (fun _=>True) rfl (Rd.one 128 _ trivial (new1 w3 _)) (by omega) (by simp; omega) ?_
         intro v2 w4 hown2 hg2 hat2
         have hb4:Below (w.heap.size+1) w2 w4:=(hb3.alloc (by omega) _).grown hg2 (by simp; omega) (fun k hk=>(HW3.out.lt k hk).1)
         have HW4:=Hd hown2
         clear hat2 hg2 hown2 tok2 _t))
    )
  obtain ⟨z,hz⟩:∃ z,z=(119 - m.length%64)%64:=⟨_,rfl⟩
  go_loopw [4] (fun s wr=>∃ j:Nat,j≤z∧Ow wr (w.heap.size+1) 5 1 s (r+1+j) ((L++[128]++List.replicate j 0).map v8)∧Below (w.heap.size+1) w2 wr) (fun s _=>r+200 - slen s)
  case atStart=>exact ⟨0,by omega,by simpa using HW4.out,hb4⟩
  case round=>
    obtain ⟨j,hj,hown,hbr⟩:=hrel
    obtain ⟨A',c',rfl,hc'⟩:=hown.slice
    have HWr:=Hd hown
    have hsr:=hbr.size
    have hzr:(r+1+z)%64=56:=by have:=Hr.out; omega
    have hzlt:z<64:=by omega
    clear hown
    by_cases hlt:j<z
    · have hne:(r+1+j)%64≠56:=by omega
      go_wp2_with (at_builtin; go_must (
           refine wpList_append_rd rfl (.tmp 26) (.tmp 27) 103 rfl (w.heap.size+1) 5 i0 Tryz.underlying103 HI.out HZ0.out HZ1.out HZ2.out _ (r+1+j) (L++[128]++List.replicate j 0) rfl (HWr.out.alloc _) (some ⟨wr.heap.size,0,none⟩) 1 1 [0] (fun _=>True) rfl (Rd.one 0 _ trivial (new1 wr _)) (by omega) (by simp; omega) ?_
           intro v3 w5 hown3 hg3 hat3
           have hb5:Below (w.heap.size+1) w2 w5:=(hbr.alloc (by omega) _).grown hg3 (by simp; omega) (fun k hk=>(HWr.out.lt k hk).1)
           have HW5:=Hd hown3
           clear hat3 hg3 hown3))
      go_roundw
      case rel=>exact ⟨j+1,by omega,by have:=HW5.out; rw [List.append_assoc,← List.replicate_succ'] at this; exact this,hb5⟩
      case measure=>
        obtain ⟨A2,c2,rfl,_⟩:=HW5.out.slice
        simp only [slen]
        omega
    · obtain rfl:j=z:=by omega
      have HZ:=Hd hz
      have hv:(((r:Int)+1+(j:Int))%64 != 56)=false:=by simp; omega
      clear hlt hj hz
      go_wp2
      obtain ⟨wo,rfl⟩:∃ wo:World,wo=wr:=⟨_,rfl⟩
      go_loopw [29,4] (fun i s wr=>i=.int .i64 0∧s=.slice A' (r+1+j) c'∧wr=wo) (fun _ _ _=>0)
      case atStart=>exact ⟨rfl,rfl,rfl⟩
      case round=>
        obtain ⟨rfl,rfl,rfl⟩:=hrel
        go_wp2
        obtain ⟨wo,rfl⟩:∃ wo:World,wo=wr:=⟨_,rfl⟩
        go_loopw [35,4] (fun i s wr=>∃ k:Nat,k≤8∧i=.int .i64 k∧Ow wr (w.heap.size+1) 5 1 s (r+1+j+k) ((L++[128]++List.replicate j 0++(len8 (UInt64.ofNat m.length)).take k).map v8)∧Below (w.heap.size+1) w2 wr) (fun i _ _=>8 - (intOf i).toNat)
        case atStart=>exact ⟨0,by omega,rfl,by simpa using HWr.out,hbr⟩
        case round=>
          obtain ⟨k,hk,rfl,hown,hbx⟩:=hrel
          obtain ⟨A2,c2,rfl,hc2⟩:=hown.slice
          have HWx:=Hd hown
          have hsx:=hbx.size
          clear hown
          by_cases hlt:k<8
          · have hox:=below_heap hbx (by omega) HO2.out
            have k74:=(cO hox 74).trans (hobj_len v32 64 _ _ _ _ _)
            clear hox
            have hsh:(0:Int)≤56 - 8*(k:Int)∧(56 - 8*(k:Int))<64:=by omega
            go_wp2_with (at_builtin; go_must (
               refine wpList_append_rd rfl (.tmp 38) (.tmp 49) 103 rfl (w.heap.size+1) 5 i0 Tryz.underlying103 HI.out HZ0.out HZ1.out HZ2.out _ (r+1+j+k) (L++[128]++List.replicate j 0++(len8 (UInt64.ofNat m.length)).take k) rfl (HWx.out.alloc _) (some ⟨wr.heap.size,0,none⟩) 1 1 [_] (fun _=>True) rfl (Rd.one _ _ trivial (new1 wr _)) (by omega) (by simp; omega) ?_
               intro v3 w5 hown3 hg3 hat3
               have hb5:Below (w.heap.size+1) w2 w5:=(hbx.alloc (by omega) _).grown hg3 (by simp; omega) (fun k hk=>(HWx.out.lt k hk).1)
               have HW5:=Hd hown3
               clear hat3 hg3 hown3))
            go_roundw
            case rel=>
              refine ⟨k+1,by omega,by go_num,?_,hb5⟩
              have e:=HW5.out
              rw [List.append_assoc,len8_take _ _ hlt] at e
              exact e
            case measure=>simp [intOf]; omega
          · obtain rfl:k=8:=by omega
            rw [len8_all,show L++[128]++List.replicate j 0++len8 (UInt64.ofNat m.length)=L++tail32 m.length from by simp [tail32,← HZ.out]] at HWx
            have HG2:=Hd (below_heap hbx (by omega) HG.out)
            have HRx:=Hd (HWx.out.rd (·≠w.heap.size) (fun g h=>by omega))
            go_wp2_with (first
              | (go_at_call 145
                 go_must (
                   refine (blocks32_calls w.heap.size A2 _ c2 _ _ _ _ _ wr (by omega) HRx.out HG2.out).mono ?_
                   rintro e w6 ⟨A3,c3,rfl,ho3,hr3,hb3⟩
                   have HG3:=Hd ho3
                   have hB6:Below w.heap.size w w6:=But.below (hB2.trans (hbx.mono (by omega))) hb3 (Nat.le_refl _) (by omega)
                   have hs6:=hb3.size
                   clear ho3 hr3))
              | (refine lS rfl 227 _ rfl w.heap.size 1 8 rfl _ _ (fa v32 8 _) _ _ HG3.out Tryz.underlying227 rfl (by kernel_rfl) (fS _ _ _) (fun j hj=>by rw [hobj_h _ _ _ _ _ _ _ _ hj,fa_get _ _ _ _ hj]) ?_))
            obtain ⟨H,hH⟩:∃ H,H=abs32 k256 (abs32 k256 (beg32 bits) m (m.length / 64)) (L++tail32 m.length) ((r+1+j+8) / 64):=⟨_,rfl⟩
            rw [← hH]
            have HH:=Hd hH
            clear hH
            go_loopw [57,6] (fun i s wr=>∃ n:Nat,n≤8∧i=.int .i64 n∧Ow wr w6.heap.size 5 1 s (4*n) ((out32 H n).map v8)∧Below w6.heap.size w6 wr) (fun i _ _=>8 - (intOf i).toNat)
            case atStart=>exact ⟨0,by omega,rfl,by simpa [out32] using Ow.nil _ _ _ _,Below.refl _ _⟩
            case round=>
              obtain ⟨n,hn,rfl,hown,hbn⟩:=hrel
              have HWn:=Hd hown
              have hsn:=hbn.size
              by_cases hlt:n<8
              · have hfa:(fa v32 8 H)[n]?=some (v32 (H n)):=fa_get _ _ _ _ hlt
                clear hown
                go_wp2_with (refine wpList_index_fa rfl 227 _ _ rfl v32 8 H n rfl rfl hlt 169 _ Tryz.underlying227 Tryz.underlying169 rfl (by kernel_rfl) ?_)
                obtain ⟨wo,rfl⟩:∃ wo:World,wo=wr:=⟨_,rfl⟩
                go_loopw [60,6] (fun i s wr=>∃ k:Nat,k≤4∧i=.int .i64 k∧Ow wr w6.heap.size 5 1 s (4*n+k) ((out32 H n++(wb32 (H n)).take k).map v8)∧Below w6.heap.size w6 wr) (fun i _ _=>4 - (intOf i).toNat)
                case atStart=>exact ⟨0,by omega,rfl,by simpa using HWn.out,hbn⟩
                case round=>
                  obtain ⟨k,hk,rfl,hown,hbx⟩:=hrel
                  obtain ⟨A2,c2,rfl,hc2⟩:=hown.slice
                  have HWx:=Hd hown
                  have hsx:=hbx.size
                  clear hown
                  by_cases hlt4:k<4
                  · have hsh:(0:Int)≤24 - 8*(k:Int)∧(24 - 8*(k:Int))<32:=by omega
                    go_wp2_with (at_builtin; go_must (
                      refine wpList_append_rd rfl (.tmp 63) (.tmp 70) 103 rfl w6.heap.size 5 i0 Tryz.underlying103 HI.out HZ0.out HZ1.out HZ2.out _ (4*n+k) (out32 H n++(wb32 (H n)).take k) rfl (HWx.out.alloc _) (some ⟨wr.heap.size,0,none⟩) 1 1 [_] (fun _=>True) rfl (Rd.one _ _ trivial (new1 wr _)) (by omega) (by simp; omega) ?_
                      intro v3 w5 hown3 hg3 hat3
                      have hb5:Below w6.heap.size w6 w5:=(hbx.alloc (by omega) _).grown hg3 (by simp; omega) (fun k hk=>(HWx.out.lt k hk).1)
                      have HW5:=Hd hown3
                      clear hat3 hg3 hown3))
                    go_roundw
                    case rel=>
                      refine ⟨k+1,by omega,by go_num,?_,hb5⟩
                      have e:=HW5.out
                      rw [List.append_assoc,wb32_take _ _ hlt4] at e
                      exact e
                    case measure=>simp [intOf]; omega
                  · obtain rfl:k=4:=by omega
                    go_wp2
                    go_roundw
                    case rel=>exact ⟨n+1,by omega,by go_num,by have e:=HWx.out; rw [wb32_all,← out32_succ] at e; exact e,hbx⟩
                    case measure=>simp [intOf]; omega
              · obtain rfl:n=8:=by omega
                obtain ⟨A3,c3,rfl,hc3⟩:=hown.slice
                have hBn:Below w.heap.size w wr:=hB6.trans (hbn.mono hB6.size)
                have hon:=below_heap hBn hbl HO.out
                have k0:=(cO hon 0).trans (hobj_0 v32 64 _ _ _ _ _)
                have hH2:dig32 bits m=(out32 H 8).take (bits / 8):=by
                  unfold dig32
                  rw [fin32_rest,HH.out,← HL.out,List.length_append,HR.out.len,tail32]
                  simp only [List.length_append,List.length_cons,List.length_replicate,len8_length,← HZ.out]
                  rw [show r+(j+1+8)=r+1+j+8 from by omega]
                have hrd:=hown.rd (fun _=>True) (fun _ _=>trivial)
                have HRD:=Hd hrd
                clear hrd hown hon
                rcases hbits with rfl | rfl
                · have hcv:=run_convert_rd (P:=Tryz.prog) (HRD.out.take (k:=28) (by omega)) 103 9 5 Tryz.underlying103 Tryz.underlying5 Tryz.underlying9
                  go_wp2
                  go_ret
                  exact ⟨by rw [hH2]; rfl,hBn⟩
                · have hcv:=run_convert_rd (P:=Tryz.prog) (HRD.out.take (k:=32) (by omega)) 103 9 5 Tryz.underlying103 Tryz.underlying5 Tryz.underlying9
                  go_wp2
                  go_ret
                  exact ⟨by rw [hH2]; rfl,hBn⟩
end Go.Proofs.YtkoonhiplicbkaaGreat.Cw
set_option maxHeartbeats 1000000
set_option maxRecDepth 100000
namespace Go.Proofs.YtkoonhiplicbkaaGreat.Cw
open Go Go.RowKit
attribute [local go_sem ↓ high] cells_v32 cells_v8 cells_v64 run_store_v32 run_store_v8 run_store_v64
attribute [local go_sem high] match_v32 match_v8 match_v64 run_store_v32 run_store_v8 run_store_v64
theorem constants32_calls (w:World):Calls Tryz.prog 142 #[] w fun e w'=>e=.returned (.agg (fa v32 64 k256))∧Below w.heap.size w w':=by
  go_enter Tryz.func142,Tryz.ntmps142
  go_wp2_with (first
    | (refine wpList_build_fa v32 .u32 (fun x=>(x.toNat:Int)) (fun _=>rfl) rfl 230 169 64 _ rfl k256 Tryz.underlying230 (by kernel_rfl) (by kernel_rfl) (by kernel_rfl) ?_)
    | (refine sB rfl 230 _ _ rfl w.heap.size rfl _ _ (fa v32 64 k256) rfl (new1 _ _) (by rw [fS]; kernel_rfl) (by rw [fS]; kernel_rfl) (one_fa _ _ _ one_v32) ?_
       intro w2 hw2 hb2 hs2))
  exact bodyPost_ret (results_blk rfl _ _ w.heap.size _ _ _ _ rfl hw2 Tryz.underlying230 rfl (by rw [fS]; kernel_rfl)) rfl ⟨rfl,But.below ((Below.refl _ _).alloc (Nat.le_refl _) _) hb2 (Nat.le_refl _) (by simp)⟩
theorem beginning32_calls (c:Int) (w:World):Calls Tryz.prog 141 #[.int .i64 c] w fun e w'=>(c=224∧e=.returned (.tuple #[.agg (fa v32 8 h224),.bool true])∨c=256∧e=.returned (.tuple #[.agg (fa v32 8 h256),.bool true])∨c≠224∧c≠256∧∃ h,e=.returned (.tuple #[.agg (fa v32 8 h),.bool false]))∧Below w.heap.size w w':=by
  go_enter Tryz.func141,Tryz.ntmps141
  by_cases h1:c=224
  · subst h1
    go_wp2_with (first
      | (refine wpList_build_fa v32 .u32 (fun x=>(x.toNat:Int)) (fun _=>rfl) rfl 227 169 8 _ rfl h224 Tryz.underlying227 (by kernel_rfl) (by kernel_rfl) (by kernel_rfl) ?_)
      | (refine sB rfl 227 _ _ rfl w.heap.size rfl _ _ (fa v32 8 h224) rfl (new1 _ _) (by rw [fS]; kernel_rfl) (by rw [fS]; kernel_rfl) (one_fa _ _ _ one_v32) ?_
         intro w2 hw2 hb2 hs2))
    exact bodyPost_ret (results_blk2 rfl _ _ w.heap.size _ _ _ _ _ rfl rfl hw2 Tryz.underlying227 rfl (by rw [fS]; kernel_rfl)) rfl ⟨rfl,But.below ((Below.refl _ _).alloc (Nat.le_refl _) _) hb2 (Nat.le_refl _) (by simp)⟩
  · by_cases h2:c=256
    · subst h2
      go_wp2_with (first
        | (refine wpList_build_fa v32 .u32 (fun x=>(x.toNat:Int)) (fun _=>rfl) rfl 227 169 8 _ rfl h256 Tryz.underlying227 (by kernel_rfl) (by kernel_rfl) (by kernel_rfl) ?_)
        | (refine sB rfl 227 _ _ rfl w.heap.size rfl _ _ (fa v32 8 h256) rfl (new1 _ _) (by rw [fS]; kernel_rfl) (by rw [fS]; kernel_rfl) (one_fa _ _ _ one_v32) ?_
           intro w2 hw2 hb2 hs2))
      exact bodyPost_ret (results_blk2 rfl _ _ w.heap.size _ _ _ _ _ rfl rfl hw2 Tryz.underlying227 rfl (by rw [fS]; kernel_rfl)) rfl ⟨rfl,But.below ((Below.refl _ _).alloc (Nat.le_refl _) _) hb2 (Nat.le_refl _) (by simp)⟩
    · go_wp2_with (first
        | (refine wpList_buildTo rfl 227 _ rfl _ rfl (fa v32 8 fun _=>0) (by kernel_rfl) ?_)
        | (refine sB rfl 227 _ _ rfl w.heap.size rfl _ _ (fa v32 8 fun _=>0) rfl (new1 _ _) (by rw [fS]; kernel_rfl) (by rw [fS]; kernel_rfl) (one_fa _ _ _ one_v32) ?_
           intro w2 hw2 hb2 hs2))
      exact bodyPost_ret (results_blk2 rfl _ _ w.heap.size _ _ _ _ _ rfl rfl hw2 Tryz.underlying227 rfl (by rw [fS]; kernel_rfl)) rfl ⟨.inr (.inr ⟨h1,h2,_,rfl⟩),But.below ((Below.refl _ _).alloc (Nat.le_refl _) _) hb2 (Nat.le_refl _) (by simp)⟩
theorem new32_yes (bits:Nat) (w:World) (hbits:bits=224∨bits=256) :
    Calls Tryz.prog 118 #[.int .i64 bits] w fun e w'=>∃ b,e=.returned (.tuple #[.pointer (some ⟨b,0,none⟩),.int .i64 0])∧(∀ p,HashAt w' b p bits [])∧w.heap.size≤b∧Below w.heap.size w w':=by
  go_enter Tryz.func118,Tryz.ntmps118
  go_wp2_with (first
    | (go_at_call 141
       refine (beginning32_calls bits w).mono ?_
       rintro e w1 ⟨he,hb1⟩
       obtain rfl:e=.returned (.tuple #[.agg (fa v32 8 (beg32 bits)),.bool true]):=by
         rcases he with ⟨hc,he⟩ | ⟨hc,he⟩ | ⟨hc,hd,_⟩
         · obtain rfl:bits=224:=by omega
           exact he
         · obtain rfl:bits=256:=by omega
           exact he
         · omega
       clear he)
    | (refine sB rfl 227 _ _ rfl w1.heap.size rfl _ _ (fa v32 8 (beg32 bits)) rfl (new1 _ _) (by rw [fS]; kernel_rfl) (by rw [fS]; kernel_rfl) (one_fa _ _ _ one_v32) ?_
       intro w2 hw2 hb2 hs2))
  have hB2:Below w.heap.size w w2:=But.below (hb1.alloc hb1.size _) hb2 hb1.size (by have:=hb1.size; simp; omega)
  refine wp_region_class_tail (fun w'=>w'.heap[w1.heap.size]?=some (.cells (fa v32 8 (beg32 bits)) 227 (0,0))∧Below w.heap.size w w') ⟨hw2,hB2.drew⟩ 3 (by kernel_rfl) (by kernel_rfl) ?_
  simp only [List.take_succ_cons,List.take_zero,List.drop_succ_cons,List.drop_zero]
  go_big_quiet_step (fail)
  refine BigFrame.wpQuiet_want rfl fun K hK=>quiet_load_blk 227 _ rfl w1.heap.size rfl _ _ _ _ (fun w' h=>h.1) Tryz.underlying227 rfl (by rw [fS]; kernel_rfl) (hK _ ?_)
  refine BigFrame.wpQuiet_want rfl fun K hK=>⟨.agg (fa v32 64 k256),fun w' hw'=>?_,hK _ ?_⟩
  · obtain ⟨hg,hb⟩:=hw'
    go_simp
    exact (constants32_calls w').mono fun e w'' ⟨he,hb'⟩=>⟨he,below_heap hb' (lt_of hg) hg,hb.trans (hb'.mono hb.size)⟩
  clear hK K
  refine wpQuiet_nil ?_
  rintro w3 ⟨hw3,hb3⟩
  go_wp2_with (refine wpList_buildTo rfl 233 _ rfl (some 16) rfl (hobj v32 64 (.int .i64 bits) (beg32 bits) k256 (.slice none 0 0) (v64 0)) (by kernel_rfl) ?_)
  go_ret2
  exact ⟨w3.heap.size,rfl,fun p=>⟨none,0,new1 _ _,Rd.nil _ _ _ _⟩,hb3.size,hb3.alloc hb3.size _⟩
end Go.Proofs.YtkoonhiplicbkaaGreat.Cw
namespace Go.Proofs.YtkoonhiplicbkaaGreat.Cw
open Go Go.RowKit
def d32 (bits:Nat) (s:ByteArray):ByteArray:=⟨(dig32 bits s.data.toList).toArray⟩
def HashS (w:World) (b bits:Nat) (s:ByteArray):Prop:=HashAt w b (·≠b) bits s.data.toList
def isBits (bits:Nat):Prop:=bits=224∨bits=256
theorem HashS.lt {w:World} {b bits:Nat} {s:ByteArray} (h:HashS w b bits s):b<w.heap.size:=HashAt.lt h
theorem HashS.below {w w':World} {b bits:Nat} {s:ByteArray} (h:HashS w b bits s) (hb:Below w.heap.size w w'):HashS w' b bits s:=
 HashAt.keep h hb.size (hb.block b h.lt) fun g _ hg=>hb.block g hg
theorem d32_size (bits:Nat) (s:ByteArray) (hb:isBits bits):(d32 bits s).size=bits / 8:=by
 have h:(dig32 bits s.data.toList).length=bits / 8:=by
  unfold dig32
  rw [List.length_take,out32_length]
  rcases hb with rfl | rfl <;> rfl
 show (dig32 bits s.data.toList).toArray.size=_
 simpa using h
end Go.Proofs.YtkoonhiplicbkaaGreat.Cw
namespace Go.Proofs.YtkoonhiplicbkaaGreat.Cw
/-! ### 64 bits -/
def rr64 (x:UInt64) (k:UInt64):UInt64:=(x >>> k) ||| (x <<< (64 - k))
def pw64 (b:Nat→UInt8) (i:Nat):Nat→UInt64
 | 0=>0
 | k+1=>(pw64 b i k <<< 8) ||| (b (8*i+k)).toUInt64
def s0_64 (x:UInt64):UInt64:=rr64 x 1 ^^^ rr64 x 8 ^^^ (x >>> 7)
def s1_64 (x:UInt64):UInt64:=rr64 x 19 ^^^ rr64 x 61 ^^^ (x >>> 6)
def sch64 (b:Nat→UInt8) (j:Nat):UInt64:=
 if _h:j<16 then pw64 b j 8 else sch64 b (j - 16)+s0_64 (sch64 b (j - 15))+sch64 b (j - 7)+s1_64 (sch64 b (j - 2))
termination_by j
theorem sch64_lo (b:Nat→UInt8) (k:Nat) (h:k<16):sch64 b k=pw64 b k 8:=by rw [sch64,dif_pos h]
theorem sch64_hi (b:Nat→UInt8) (k:Nat) (h:¬ k<16):sch64 b k=sch64 b (k - 16)+s0_64 (sch64 b (k - 15))+sch64 b (k - 7)+s1_64 (sch64 b (k - 2)):=by
 rw [sch64,dif_neg h]
def S0_64 (x:UInt64):UInt64:=rr64 x 28 ^^^ rr64 x 34 ^^^ rr64 x 39
def S1_64 (x:UInt64):UInt64:=rr64 x 14 ^^^ rr64 x 18 ^^^ rr64 x 41
def ch64 (x y z:UInt64):UInt64:=x &&& y ^^^ ~~~x &&& z
def maj64 (x y z:UInt64):UInt64:=x &&& y ^^^ x &&& z ^^^ y &&& z
def t1_64 (k w:UInt64) (x:Nat→UInt64):UInt64:=x 7+S1_64 (x 4)+ch64 (x 4) (x 5) (x 6)+k+w
def rnd64 (k w:UInt64) (x:Nat→UInt64):Nat→UInt64
 | 0=>t1_64 k w x+S0_64 (x 0)+maj64 (x 0) (x 1) (x 2)
 | 4=>x 3+t1_64 k w x
 | i+1=>x i
def rs64 (k w x:Nat→UInt64):Nat→Nat→UInt64
 | 0=>x
 | i+1=>rnd64 (k i) (w i) (rs64 k w x i)
def blk64 (k h:Nat→UInt64) (b:Nat→UInt8):Nat→UInt64:=fun i=>h i+rs64 k (sch64 b) h 80 i
end Go.Proofs.YtkoonhiplicbkaaGreat.Cw
