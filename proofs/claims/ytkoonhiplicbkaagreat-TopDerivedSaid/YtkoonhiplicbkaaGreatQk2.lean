/-
  Texts as slices of bytes, and a few laws on words with a constant. Whatever the program. No condition but a text's length.
  The plain functions of chapters 7 and 8, on words and bytes: rotations, the schedule, a round, a block. No program in sight. No condition.
  A statement whose order Go leaves open, whose first operations only read, compute or call what reads, and whose last ones come in a row: one walk in the text's order serves every order. The guide's two laws (Derived.Deep.Quiet, Derived.StillTail) joined: a class of worlds, and a tail. No condition of a program's.
  Literals of words (arrays and slices), given by a function. Whatever the program. No condition.
  What the texts on hashes share: bytes, texts, literals, a few laws on operations; and the smallest functions of the reference. No condition of a program's but what each says.
  (package sha256) What rotate, RotateLeft32 and schedule compute: the plain functions rr32 and sch32, in whatever memory; of what memory held before nothing turns. Condition: a block has 64 bytes.
  (package sha256) What a block's turn computes: the hash's words become blk32 of them and of the block; the rest of the struct, and all that memory held besides, stays. Condition: the block has 64 bytes, and lies elsewhere than the struct.
-/
import Derived.Test.YtkoonhiplicbkaaGreatQk1
import Derived.Lib.ConvBytes
import Derived.StillTail
import Derived.Deep.Quiet
import Derived.Great.BuildSlice
import Derived.Test.YtkoonhiplicbkaaGreatProg
import Derived.Laws.IdiomStrings
import Derived.Laws.BytesArg
import Derived.IntWalk
import Derived.Outline
import Derived.Deep.QuietTactic
import Derived.BigQuiet
set_option linter.unusedSimpArgs false
set_option linter.unusedVariables false
namespace Go.Proofs.YtkoonhiplicbkaaGreat.Cw
open Go Go.RowKit
theorem bin_and64_255 (t:TypeId) (x:UInt64):binOp .and t (v64 x) (.int .u64 255)=pure (v64 (x &&& 255)):=bin_and64 t x 255
theorem bin_and32_255 (t:TypeId) (x:UInt32):binOp .and t (v32 x) (.int .u32 255)=pure (v32 (x &&& 255)):=bin_and32 t x 255
theorem bin_mul64_8 (t:TypeId) (x:UInt64):binOp .mul t (v64 x) (.int .u64 8)=pure (v64 (x <<< 3)):=by
 show (pure (.int .u64 (IntKind.u64.wrap ((x.toNat:Int)*8))):Sem Value)=_
 have h:IntKind.u64.wrap ((x.toNat:Int)*8)=((x <<< 3).toNat:Int):=by
  simp only [IntKind.wrap,IntKind.bits,IntKind.signed,UInt64.toNat_shiftLeft,UInt64.reduceToNat,Nat.shiftLeft_eq]; simp
 rw [h]; rfl
section
variable {P:Program} {ops:Array Oper} {rest:List Oper} {o:Oper} {a:Act} {w:World} {Q:Exit→Act→World→Prop}
theorem wpList_conv_bytes (hgd:o.guard=none) (src dst e:TypeId) (x:Operand) (ho:o.op=.convert src dst x) (s:ByteArray) (hx:a.eval x=.string s) {u:TypeDesc}
  (hs:P.underlying src=some u) (hd:P.underlying dst=some (.slice e)) (he:P.underlying e=some (.int .u8)) (hn:s.size≤maxLen)
  (h:∀ c w',Ow w' w.heap.size e 1 (.slice (some ⟨w.heap.size,0,none⟩) s.size c) s.size (s.data.toList.map v8)→Below w.heap.size w w'→w'.heap.size=w.heap.size+1→wpList P ops Q rest (a.put o.dst (.slice (some ⟨w.heap.size,0,none⟩) s.size c)) w'):wpList P ops Q (o::rest) a w:=by
 refine wpList_plain hgd fun K hK=>?_
 unfold Oper.wp execOp
 simp only [ho,hx,Sem.run_bind,Sem.run_pure,Lib.run_convert_string_bytes w src dst e s hs hd he,Result.andThen_ok]
 refine hK _ _ (h _ _ ⟨by simp,.inr ⟨w.heap.size,_,_,_,rfl,Nat.le_refl _,Lib.bytesWorld_at_new w e s,.inr (Nat.le_refl _),grownCap_ge w _ _ _,grownCap_le_maxLen w _ _ _ hn,?_,?_⟩⟩ ?_ ?_)
 ·have:=grownCap_ge w s.size 0 e
  have e1:s.data.size=s.size:=rfl
  simp [Lib.bytesCells]
  omega
 ·have e1:s.data.toList.length=s.size:=by simp
  simp only [Lib.bytesCells,Array.toList_append,Array.toList_map,Nat.mul_one]
  rw [List.take_left' (by simp)]
  rfl
 ·exact ⟨rfl,rfl,rfl,by rw [Lib.bytesWorld_size]; omega,fun g hg=>Lib.bytesWorld_at_old w e s g hg⟩
 ·exact Lib.bytesWorld_size w e s
end
end Go.Proofs.YtkoonhiplicbkaaGreat.Cw
namespace Go.Proofs.YtkoonhiplicbkaaGreat.Cw
/-! ### 32 bits -/
def rr32 (x:UInt32) (k:UInt32):UInt32:=(x >>> k) ||| (x <<< (32 - k))
def pw32 (b:Nat→UInt8) (i:Nat):Nat→UInt32
 | 0=>0
 | k+1=>(pw32 b i k <<< 8) ||| (b (4*i+k)).toUInt32
def s0_32 (x:UInt32):UInt32:=rr32 x 7 ^^^ rr32 x 18 ^^^ (x >>> 3)
def s1_32 (x:UInt32):UInt32:=rr32 x 17 ^^^ rr32 x 19 ^^^ (x >>> 10)
def sch32 (b:Nat→UInt8) (j:Nat):UInt32:=
 if _h:j<16 then pw32 b j 4 else sch32 b (j - 16)+s0_32 (sch32 b (j - 15))+sch32 b (j - 7)+s1_32 (sch32 b (j - 2))
termination_by j
theorem sch32_lo (b:Nat→UInt8) (k:Nat) (h:k<16):sch32 b k=pw32 b k 4:=by rw [sch32,dif_pos h]
theorem sch32_hi (b:Nat→UInt8) (k:Nat) (h:¬ k<16):sch32 b k=sch32 b (k - 16)+s0_32 (sch32 b (k - 15))+sch32 b (k - 7)+s1_32 (sch32 b (k - 2)):=by
 rw [sch32,dif_neg h]
def S0_32 (x:UInt32):UInt32:=rr32 x 2 ^^^ rr32 x 13 ^^^ rr32 x 22
def S1_32 (x:UInt32):UInt32:=rr32 x 6 ^^^ rr32 x 11 ^^^ rr32 x 25
def ch32 (x y z:UInt32):UInt32:=x &&& y ^^^ ~~~x &&& z
def maj32 (x y z:UInt32):UInt32:=x &&& y ^^^ x &&& z ^^^ y &&& z
def t1_32 (k w:UInt32) (x:Nat→UInt32):UInt32:=x 7+S1_32 (x 4)+ch32 (x 4) (x 5) (x 6)+k+w
def rnd32 (k w:UInt32) (x:Nat→UInt32):Nat→UInt32
 | 0=>t1_32 k w x+S0_32 (x 0)+maj32 (x 0) (x 1) (x 2)
 | 4=>x 3+t1_32 k w x
 | i+1=>x i
def rs32 (k w x:Nat→UInt32):Nat→Nat→UInt32
 | 0=>x
 | i+1=>rnd32 (k i) (w i) (rs32 k w x i)
def blk32 (k h:Nat→UInt32) (b:Nat→UInt8):Nat→UInt32:=fun i=>h i+rs32 k (sch32 b) h 64 i
def hobj {α:Type} (v:α→Value) (n:Nat) (size:Value) (h k:Nat→α) (rest len:Value):Array Value:=#[size]++fa v 8 h++fa v n k++#[rest,len]
section
variable {α:Type} (v:α→Value) (n:Nat) (size:Value) (h k:Nat→α) (rest len:Value)
theorem hobj_ext (h':Nat→α) (e:∀ i,i<8→h i=h' i):hobj v n size h k rest len=hobj v n size h' k rest len:=by
 unfold hobj; rw [fa_ext v 8 h h' e]
theorem hobj_size:(hobj v n size h k rest len).size=n+11:=by simp [hobj,fS]; omega
theorem hobj_h (i:Nat) (hi:i<8):(hobj v n size h k rest len)[1+i]?=some (v (h i)):=by
 unfold hobj
 rw [Array.getElem?_append_left (by simp [fS]; omega),Array.getElem?_append_left (by simp [fS]; try omega),Array.getElem?_append_right (by simp)]
 simp [fa_get _ _ _ _ hi]
theorem hobj_k (i:Nat) (hi:i<n):(hobj v n size h k rest len)[9+i]?=some (v (k i)):=by
 unfold hobj
 rw [Array.getElem?_append_left (by simp [fS]; omega),Array.getElem?_append_right (by simp [fS])]
 have e:9+i - (#[size]++fa v 8 h).size=i:=by simp [fS]
 rw [e]; exact fa_get _ _ _ _ hi
theorem hobj_0:(hobj v n size h k rest len)[0]?=some size:=by
 unfold hobj
 rw [Array.getElem?_append_left (by simp [fS]; omega),Array.getElem?_append_left (by simp [fS]),Array.getElem?_append_left (by simp)]
 rfl
theorem hobj_rest:(hobj v n size h k rest len)[9+n]?=some rest:=by
 unfold hobj
 rw [Array.getElem?_append_right (by simp [fS]; omega)]
 have e:9+n - (#[size]++fa v 8 h++fa v n k).size=0:=by simp [fS]; omega
 rw [e]; rfl
theorem hobj_len:(hobj v n size h k rest len)[10+n]?=some len:=by
 unfold hobj
 rw [Array.getElem?_append_right (by simp [fS]; omega)]
 have e:10+n - (#[size]++fa v 8 h++fa v n k).size=1:=by simp [fS]; omega
 rw [e]; rfl
theorem hobj_set_h (i:Nat) (hi:i<8) (x:α):(hobj v n size h k rest len).setIfInBounds (1+i) (v x)=hobj v n size (upd h i x) k rest len:=by
 unfold hobj
 rw [Array.setIfInBounds_append_left (by simp [fS]; omega),Array.setIfInBounds_append_left (by simp [fS]; omega),Array.setIfInBounds_append_right (by simp)]
 congr 3
 have e:1+i - (#[size]:Array Value).size=i:=by simp
 rw [e,fa_set]
theorem hobj_set_rest (x:Value):(hobj v n size h k rest len).setIfInBounds (9+n) x=hobj v n size h k x len:=by
 unfold hobj
 rw [Array.setIfInBounds_append_right (by simp [fS]; omega)]
 have e:9+n - (#[size]++fa v 8 h++fa v n k).size=0:=by simp [fS]; omega
 rw [e]; rfl
theorem hobj_set_len (x:Value):(hobj v n size h k rest len).setIfInBounds (10+n) x=hobj v n size h k rest x:=by
 unfold hobj
 rw [Array.setIfInBounds_append_right (by simp [fS]; omega)]
 have e:10+n - (#[size]++fa v 8 h++fa v n k).size=1:=by simp [fS]; omega
 rw [e]; rfl
end
end Go.Proofs.YtkoonhiplicbkaaGreat.Cw
namespace Go.Proofs.YtkoonhiplicbkaaGreat.Cw
open Go
section
variable {P:Program} {ops:Array Oper} {md:Region.Mode} {C:World→Prop}
def headQ (P:Program) (md:Region.Mode) (ops:Array Oper) (C:World→Prop) (n:Nat) (L:Array Bool→Act→Prop):Nat→Array Bool→Act→Prop
 | 0,listed,a=>L listed a
 | f+1,listed,a=>
  Region.ready md ops listed≠[]∧∀ i ∈ Region.ready md ops listed,i<n∧qOp P ops C i (headQ P md ops C n L f (listed.setIfInBounds i true)) a
theorem any_of_headQ {n g:Nat} {L:Array Bool→Act→Prop} {Q':Exit→Act→World→Prop} (hL:∀ listed a w,C w→L listed a→wpAny P md ops Q' g listed a w) :
  ∀ (f:Nat) (listed:Array Bool) (a:Act) (w:World),C w→headQ P md ops C n L f listed a→wpAny P md ops Q' (f+g) listed a w
 | 0,listed,a,w,hw,h=>by rw [Nat.zero_add]; exact hL _ _ _ hw h
 | f+1,listed,a,w,hw,h=>by
  rw [show f+1+g=(f+g)+1 by omega]
  exact ⟨fun h0=>absurd h0 h.1,fun i hi=>wpOp_of_qOp hw (fun a' w' hw' h'=>any_of_headQ hL f _ a' w' hw' h') (h.2 i hi).2⟩
theorem headQ_first {n i:Nat} {oi:Oper} {v:Value} {L:Array Bool→Act→Prop} (hi:ops[i]?=some oi) (hsel:∀ (j:Nat) (o:Oper) cs b,ops[j]?=some o→o.op≠.select cs b)
  (hs:Region.sinkB md ops n=true) (hc:Region.chainB md ops n=true) (hn:n<ops.size) (hin:i<n)
  (hdone:∀ listed a,L listed a→∀ j ∈ Region.ready md ops listed,n≤j) :
  ∀ (f:Nat) (listed:Array Bool) (a:Act),HeadInv md ops n listed →
   (∀ j oj,ops[j]?=some oj→j≠i→listed.getD j true=false→(∀ e ∈ oj.after,Region.binds md e=true→e.on≠i)→oi.apart ops oj=true) →
   i ∈ Region.ready md ops listed→YieldsIn P ops C oi v a →
   headQ P md ops C n L f (listed.setIfInBounds i true) (a.put oi.dst v)→headQ P md ops C n L (f+1) listed a:=by
 intro f
 induction f with
 | zero=>
  intro listed a inv _ hr hy H
  have hun:=(mem_ready.1 hr).1
  refine ⟨fun h=>(by rw [h] at hr; cases hr),fun j hj=>?_⟩
  have hjn:j<n:=by
   rcases Nat.lt_or_ge j n with h | h
   ·exact h
   ·exact absurd hj (tail_waits hs hc hn inv _ i rfl hin hun j h)
  refine ⟨hjn,?_⟩
  by_cases hji:j=i
  ·subst hji; exact hy.qOp hi H
  ·have:=hdone _ _ H j (ready_mono hj hji)
   omega
 | succ f ih=>
  intro listed a inv hfree hr hy H
  have hun:=(mem_ready.1 hr).1
  refine ⟨fun h=>(by rw [h] at hr; cases hr),fun j hj=>?_⟩
  have hjn:j<n:=by
   rcases Nat.lt_or_ge j n with h | h
   ·exact h
   ·exact absurd hj (tail_waits hs hc hn inv _ i rfl hin hun j h)
  refine ⟨hjn,?_⟩
  by_cases hji:j=i
  ·subst hji; exact hy.qOp hi H
  ·have h1:=(H.2 j (ready_mono hj hji)).2
   obtain ⟨hjun,oj,hoj,hall⟩:=mem_ready.1 hj
   have hnot:∀ e ∈ oj.after,Region.binds md e=true→e.on≠i:=fun e he hb heq=>by
    have h1:=hall e he hb
    rw [heq,getD_both hun] at h1
    cases h1
   have h2:=qOp_put hoj (hfree j oj hoj hji hjun hnot) (fun cs b=>hsel i oi cs b hi) (fun cs b=>hsel j oj cs b hoj) hy h1
   have hfree':∀ k ok,ops[k]?=some ok→k≠i→(listed.setIfInBounds j true).getD k true=false →
     (∀ e ∈ ok.after,Region.binds md e=true→e.on≠i)→oi.apart ops ok=true:=fun k ok hk hki hun hno=>by
    refine hfree k ok hk hki ?_ hno
    by_cases hjk:j=k
    ·subst hjk; exact hjun
    ·rw [getD_set_ne true hjk] at hun; exact hun
   refine qOp_mono (fun a' h3=>ih (listed.setIfInBounds j true) a' (inv.set hj hjn) hfree' (ready_mono hr (Ne.symm hji)) h3.1 ?_) h2
   rw [Array.setIfInBounds_comm _ _ hji]
   exact h3.2
theorem headQ_lex {n g:Nat} {Lq:Act→Prop} (hsel:Region.noSelect ops=true) (hs:Region.sinkB md ops n=true) (hc:Region.chainB md ops n=true) (hn:n<ops.size) :
  ∀ (l:List Oper) (k:Nat) (listed:Array Bool) (a:Act),(∀ j,j<l.length→l[j]?=ops[k+j]?)→k+l.length=n→HeadInv md ops n listed →
  Region.lexHead md ops g l.length k listed=true→wpQuiet P ops C Lq l a →
  headQ P md ops C n (fun listed' a'=>Region.seqB md ops g n listed'=true∧Lq a') l.length listed a
 | [],k,listed,a,_,hk,_,hB,h=>by
  have:k=n:=by simpa using hk
  subst this
  exact ⟨by simpa [Region.lexHead] using hB,h⟩
 | o::l,k,listed,a,hl,hk,inv,hB,h=>by
  have h0:ops[k]?=some o:=by simpa using (hl 0 (by simp)).symm
  simp only [List.length_cons,Region.lexHead,Bool.and_eq_true] at hB
  obtain ⟨⟨hr,hf⟩,hB'⟩:=hB
  have hkn:k<n:=by simp only [List.length_cons] at hk; omega
  have hr':k ∈ Region.ready md ops listed:=by simpa using hr
  have hst:qOp P ops C k (wpQuiet P ops C Lq l) a:=by unfold qOp; simp only [h0]; exact h
  obtain ⟨v,hy,hK⟩:=yieldsIn_of_qOp h0 hst
  exact headQ_first h0 (Region.noSelect_spec hsel) hs hc hn hkn (fun listed' a' hL=>seqB_ready hL.1) l.length listed a inv (Region.free_spec h0 hf) hr' hy
   (headQ_lex hsel hs hc hn l (k+1) _ _ (fun j hj=>by have:=hl (j+1) (by simp; omega); simpa [Nat.add_assoc,Nat.add_comm 1 j] using this) (by simp only [List.length_cons] at hk; omega) (inv.set hr' hkn) hB' hK)
theorem wp_region_class_tail {id:Nat} {Q:Exit→Act→World→Prop} {a:Act} {w:World} {l:List Oper} (C:World→Prop) (hC:C { w with drawn:=w.drawn+1 }) (n:Nat) (hm:P.follows .mixedOrders=true) (hB:Region.lexTailB .any l.toArray n=true)
  (h:wpQuiet P l.toArray C (fun a'=>∀ w',C w'→wpList P l.toArray Q (l.drop n) a' w') (l.take n) a):(Code.region id l.toArray true).wp P Q a w:=by
 simp only [Region.lexTailB,Bool.and_eq_true,decide_eq_true_eq] at hB
 obtain ⟨⟨⟨⟨hsel,hn⟩,hs⟩,hc⟩,hlex⟩:=hB
 have hn':n<l.length:=by simpa using hn
 have htl:(l.take n).length=n:=by simp; omega
 have hdl:(l.drop n).length=l.toArray.size - n:=by simp
 have inv0:HeadInv .any l.toArray n (Array.replicate l.toArray.size false):=
  ⟨by simp,fun j oj _ hl=>(by rw [getD_replicate_false] at hl; cases hl),fun t _ ht=>getD_in (by simpa using ht) (getD_replicate_false _ _)⟩
 have H:=headQ_lex (md:=.any) (g:=l.toArray.size - n) hsel hs hc hn (l.take n) 0 _ a (fun j hj=>by
  have hj':j<n:=by rw [htl] at hj; exact hj
  simp [hj']) (by simpa using htl) inv0 (by rw [htl]; exact hlex) h
 refine wp_region_any hm ?_
 have:=any_of_headQ (Q':=Q) (g:=l.toArray.size - n) (fun listed a' w' hw' hL=>by
  have:=wpAny_of_seq (md:=.any) (Q':=Q) (l.drop n) n listed a' w' (fun j=>by simp [List.getElem?_drop]) (by rw [hdl]; exact hL.1) (hL.2 w' hw')
  rwa [hdl] at this) _ _ _ { w with drawn:=w.drawn+1 } hC H
 rw [htl,show n+(l.toArray.size - n)=l.toArray.size by omega] at this
 exact this
theorem wp_region_quiet_tail {id:Nat} {Q:Exit→Act→World→Prop} {a:Act} {w:World} {l:List Oper} (n:Nat) (hm:P.follows .mixedOrders=true) (hB:Region.lexTailB .any l.toArray n=true)
  (h:wpQuiet P l.toArray (fun w'=>∃ n,w'=w.drewN n) (fun a'=>∀ w',(∃ n,w'=w.drewN n)→wpList P l.toArray Q (l.drop n) a' w') (l.take n) a):(Code.region id l.toArray true).wp P Q a w:=
 wp_region_class_tail _ ⟨1,rfl⟩ n hm hB h
end
end Go.Proofs.YtkoonhiplicbkaaGreat.Cw
namespace Go.Proofs.YtkoonhiplicbkaaGreat.Cw
open Go Go.RowKit
section
variable {P:Program} {ops:Array Oper} {rest:List Oper} {o:Oper} {a:Act} {w:World} {Q:Exit→Act→World→Prop} {α:Type}
theorem fa_nums (v:α→Value) (k:IntKind) (num:α→Int) (hv:∀ x,v x=.int k (num x)) (n:Nat) (f:Nat→α) :
  (((List.range n).map fun i=>num (f i)).map (Value.int k)).toArray=fa v n f:=by
 unfold fa
 rw [List.map_map]
 congr 2
 funext i
 exact (hv _).symm
theorem parts_nums (v:α→Value) (k:IntKind) (num:α→Int) (hv:∀ x,v x=.int k (num x)) (n:Nat) (f:Nat→α) (l:List (Nat × Operand)) (h:l=(List.range n).map fun i=>(i,Operand.const (v (f i)))) :
  l=(((List.range n).map fun i=>num (f i)).zipIdx 0).map fun x=>(x.2,Operand.const (Value.int k x.1)):=by
 subst h
 refine List.ext_getElem (by simp) fun i h1 h2=>?_
 simp [hv]
theorem wpList_build_fa (v:α→Value) (k:IntKind) (num:α→Int) (hv:∀ x,v x=.int k (num x)) (hg:o.guard=none) (t e:TypeId) (n:Nat) (parts:Array (Nat × Operand)) (ho:o.op=.build t parts) (f:Nat→α)
  (hu:P.underlying t=some (.array n e)) (hsz:(P.info? e).map (·.size)=some 1) (hz:((P.info? t).bind (·.zero)).map (·.cells.size)=some n)
  (hparts:parts.toList=(List.range n).map fun i=>(i,Operand.const (v (f i))))
  (h:wpList P ops Q rest (a.put o.dst (.agg (fa v n f))) w):wpList P ops Q (o::rest) a w:=by
 refine wpList_buildFlatArr hg t e n parts ho k ((List.range n).map fun i=>num (f i)) hu hsz (by rw [hz]; simp) (parts_nums v k num hv n f _ hparts) ?_
 rw [fa_nums v k num hv]
 exact h
theorem wpList_buildSlice_fa (v:α→Value) (k:IntKind) (num:α→Int) (hv:∀ x,v x=.int k (num x)) (hg:o.guard=none) (t e:TypeId) (n:Nat) (parts:Array (Nat × Operand)) (ho:o.op=.buildSlice t n parts) (f:Nat→α)
  (hu:P.underlying t=some (.slice e)) (hsz:(P.info? e).map (·.size)=some 1) (hz:((P.info? e).bind (·.zero)).isSome=true) (hpos:0<n) (hsmall:n≤16777216)
  (hparts:parts.toList=(List.range n).map fun i=>(i,Operand.const (v (f i))))
  (h:wpList P ops Q rest (a.put o.dst (.slice (some ⟨w.heap.size,0,none⟩) n n)) (w.alloc (.cells (fa v n f) e))):wpList P ops Q (o::rest) a w:=by
 refine wpList_buildFlat hg t e n parts ho k ((List.range n).map fun i=>num (f i)) hu hsz hz (by simp) hpos hsmall (parts_nums v k num hv n f _ hparts) ?_
 rw [fa_nums v k num hv]
 exact h
end
theorem quiet_load_blk {P:Program} {a:Act} {o:Oper} {C:World→Prop} {K:Act→Prop} (ty:TypeId) (x:Operand) (ho:o.op=.load ty x)
  (g:Nat) (hx:a.eval x=.pointer (some ⟨g,0,none⟩)) (t:TypeId) (cs:Array Value) (fr:Nat × Nat) (d:TypeDesc) (hg:∀ w,C w→w.heap[g]?=some (.cells cs t fr))
  (hu:P.underlying ty=some d) (hd:isAggDesc d=true) (hi:(P.info? ty).map (·.size)=some cs.size)
  (h:K (a.put o.dst (.agg cs))):o.quiet P a C K:=by
 refine ⟨.agg cs,fun w hw=>?_,h⟩
 unfold Oper.quietAt execOp
 simp only [ho,hx,Instr.loadAt,Instr.sureAddr,Sem.run_bind,Sem.run_pure,Result.andThen_ok,run_load_seg w g 0 cs.size t ty cs cs fr d (hg w hw) hu hd hi rfl (fun j _=>by rw [Nat.zero_add])]
 exact ⟨rfl,rfl⟩
theorem results_blk2 {P:Program} {fn:Func} {p q:Tmp} {ty:TypeId} (h:fn.results=#[.cell p ty,.tmp q]) (tmps:Array Value) (w:World) (g:Nat) (t:TypeId) (cs:Array Value) (fr:Nat × Nat) (d:TypeDesc) (v:Value)
  (hp:tmps.getD p undef=.pointer (some ⟨g,0,none⟩)) (hq:tmps.getD q undef=v) (hg:w.heap[g]?=some (.cells cs t fr))
  (hu:P.underlying ty=some d) (hd:isAggDesc d=true) (hi:(P.info? ty).map (·.size)=some cs.size) :
  (results fn tmps).run P w=.ok (.tuple #[.agg cs,v]) w:=by
 have hp':tmps[p]?.getD undef=.pointer (some ⟨g,0,none⟩):=by simpa using hp
 have hq':tmps[q]?.getD undef=v:=by simpa using hq
 simp [results,h,hp',hq',asAddr,run_load_seg w g 0 cs.size t ty cs cs fr d hg hu hd hi rfl (fun j _=>by rw [Nat.zero_add])]
end Go.Proofs.YtkoonhiplicbkaaGreat.Cw
namespace Go.Proofs.YtkoonhiplicbkaaGreat.Cw
open Go Go.RowKit
def len8 (n:UInt64):List UInt8:=(List.range 8).map fun i=>(n <<< 3 >>> UInt64.ofNat (56 - 8*i)).toUInt8
theorem len8_length (n:UInt64):(len8 n).length=8:=by simp [len8]
theorem info_u8:(Tryz.prog.info? 5).map (fun i=>(i.zero,i.size,i.bytes))=some (some (.int .u8 0),1,1):=by kernel_rfl
theorem conv_len (n:Nat) (w:World):(convert 3 24 (.int .i64 (n:Int))).run Tryz.prog w=.ok (v64 (UInt64.ofNat n)) w:=by
 unfold v64
 simp [convert,run_underlying Tryz.underlying3,run_underlying Tryz.underlying24,Conv.intToInt]
 rw [wrap64_any]
 simp
attribute [local go_sem ↓ high] conv_len
theorem run_conv64_8 (x:UInt64) (w:World):(convert 24 5 (v64 x)).run Tryz.prog w=.ok (v8 x.toUInt8) w:=by
 unfold v8 v64
 simp [convert,run_underlying Tryz.underlying5,run_underlying Tryz.underlying24,Conv.intToInt]
 rw [wrap8_any]
 rfl
theorem run_conv32_8 (x:UInt32) (w:World):(convert 169 5 (v32 x)).run Tryz.prog w=.ok (v8 x.toUInt8) w:=by
 unfold v8 v32
 simp [convert,run_underlying Tryz.underlying5,run_underlying Tryz.underlying169,Conv.intToInt]
 rw [wrap8_any]
 rfl
attribute [local go_sem ↓ high] run_conv64_8 run_conv32_8
theorem run_convert_rd {P:Program} {w:World} {p:Nat→Prop} {A:Option Addr} {n c:Nat} {l:List UInt8} (hr:Rd w p A n c l) (src dst e:TypeId) (hs:P.underlying src=some (.slice e)) (he:P.underlying e=some (.int .u8)) (hd:P.underlying dst=some .string) :
  (convert src dst (.slice A n c)).run P w=.ok (.string ⟨l.toArray⟩) w:=by
 have hl:=hr.len
 subst hl
 rcases A with _ | a
 ·have:l=[]:=by
   rcases l with _ | ⟨x,l⟩
   ·rfl
   ·obtain ⟨g,off,h,_⟩:=hr.2.2 (by simp)
    cases h
  subst this
  rw [run_convert_bytes_string w src dst e _ _ _ hs he hd]
  rfl
 ·refine run_convert_bytes_back w src dst e a c l hs he hd fun j hj=>?_
  obtain ⟨g,off,h,_,_,hc⟩:=hr.2.2 (by omega)
  injection h with h
  subst h
  rw [Addr.add_lit,hc j hj]
  simp [v8,hj]
theorem len8_take (n:UInt64) (k:Nat) (hk:k<8):(len8 n).take k++[(n <<< 3 >>> UInt64.ofNat (56 - 8*k)).toUInt8]=(len8 n).take (k+1):=by
 rw [List.take_succ_eq_append_getElem (by rw [len8_length]; exact hk)]
 congr 2
 simp only [len8,List.getElem_map,List.getElem_range]
theorem len8_all (n:UInt64):(len8 n).take 8=len8 n:=by rw [← len8_length n,List.take_length]
section
variable {P:Program} {ops:Array Oper} {rest:List Oper} {o:Oper} {a:Act} {w:World} {Q:Exit→Act→World→Prop}
theorem wpList_alloc_zero (hgd:o.guard=none) (t:TypeId) (ho:o.op=.alloc t) (z:Value) (hz:(P.info? t).map (·.zero)=some (some z))
  (h:wpList P ops Q rest (a.put o.dst (.pointer (some ⟨w.heap.size,0,none⟩))) (w.alloc (.cells z.cells t))):wpList P ops Q (o::rest) a w:=by
 refine wpList_plain hgd fun K hK=>?_
 cases hq:P.info? t with
 | none=>simp [hq] at hz
 | some i=>
  have hz':i.zero=some z:=by simpa [hq] using hz
  have hzv:(zeroValue t).run P w=.ok z w:=by simp [zeroValue,typeInfo,hq,hz']
  unfold Oper.wp execOp
  simp only [ho,Instr.alloc,newVar,Sem.run_bind,Sem.run_pure,hzv,Result.andThen_ok]
  exact hK _ _ h
theorem wpList_index_fa {α:Type} (hgd:o.guard=none) (t:TypeId) (x i:Operand) (ho:o.op=.index t x i) (v:α→Value) (n:Nat) (f:Nat→α) (j:Nat) (hx:a.eval x=.agg (fa v n f)) (hj:a.eval i=.int .i64 (j:Int)) (hlt:j<n)
  (e:TypeId) (d:TypeDesc) (hu:P.underlying t=some (.array n e)) (hue:P.underlying e=some d) (hd:isAggDesc d=false) (hs:(P.info? e).map (·.size)=some 1)
  (h:wpList P ops Q rest (a.put o.dst (v (f j))) w):wpList P ops Q (o::rest) a w:=by
 refine wpList_plain hgd fun K hK=>?_
 cases hq:P.info? e with
 | none=>simp [hq] at hs
 | some ie=>
  have hs':ie.size=1:=by simpa [hq] using hs
  have hagg:(isAgg e).run P w=.ok false w:=by
   unfold isAgg
   rw [Sem.run_bind,run_underlying hue w]
   cases d <;> simp_all [isAggDesc]
  have hc:0≤(j:Int)∧(j:Int)<n:=by omega
  have hr:(Instr.index t (.agg (fa v n f)) (.int .i64 (j:Int))).run P w=.ok (v (f j)) w:=by
   simp [Instr.index,asIntOf,run_underlying hu,hlt,sizeOf,typeInfo,hq,hs',part,hagg,fa_get _ _ _ _ hlt]
  unfold Oper.wp execOp
  simp only [ho,hx,hj,Sem.run_bind,Sem.run_pure,hr,Result.andThen_ok]
  exact hK _ _ h
end
theorem hobj_one {α:Type} (v:α→Value) (n:Nat) (size:Value) (h k:Nat→α) (rest len:Value) (h1:∀ x,(v x).oneCell'=true) (a1:size.oneCell'=true) (a2:rest.oneCell'=true) (a3:len.oneCell'=true):∀ u ∈ (hobj v n size h k rest len).toList,u.oneCell'=true:=by
 intro u hu
 unfold hobj at hu
 simp only [Array.toList_append,List.mem_append] at hu
 rcases hu with ((hu | hu) | hu) | hu
 ·simp at hu; subst hu; exact a1
 ·exact one_fa v _ _ h1 u hu
 ·exact one_fa v _ _ h1 u hu
 ·simp at hu; rcases hu with rfl | rfl
  ·exact a2
  ·exact a3
theorem Rd.one {w:World} {g:Nat} {t:TypeId} {fr:Nat × Nat} (x:UInt8) (p:Nat→Prop) (hp:p g) (h:w.heap[g]?=some (.cells #[v8 x] t fr)):Rd w p (some ⟨g,0,none⟩) 1 1 [x]:=by
 refine ⟨rfl,Nat.le_refl _,fun _=>⟨g,0,rfl,hp,lt_of h,fun i hi=>?_⟩⟩
 obtain rfl:i=0:=by omega
 rw [cO h]; rfl
theorem Rd.row {w:World} {g:Nat} {cs:Array Value} {t:TypeId} {fr:Nat × Nat} (l:List UInt8) (n:Nat) (hn:l.length=n) (p:Nat→Prop) (hp:p g) (h:w.heap[g]?=some (.cells cs t fr)) (hc:cs=(l.map v8).toArray):Rd w p (some ⟨g,0,none⟩) n n l:=by
 refine ⟨hn,Nat.le_refl _,fun _=>⟨g,0,rfl,hp,lt_of h,fun i hi=>?_⟩⟩
 rw [cO h,hc]
 simp [show i<l.length from by omega]
def noughts (k:Nat):ByteArray:=⟨(List.replicate k 0).toArray⟩
theorem noughts_size (k:Nat):(noughts k).size=k:=by show (List.replicate k (0:UInt8)).toArray.size=k; simp
section
variable {P:Program} {ops:Array Oper} {rest:List Oper} {o:Oper} {a:Act} {w:World} {Q:Exit→Act→World→Prop}
end
def nthS (zs:List ByteArray) (n:Nat):ByteArray:=zs.getD n ByteArray.empty
theorem IsStrs.at {w:World} {a:Option Addr} {len cap:Nat} {zs:List ByteArray} (h:IsStrs w a len cap zs) {i:Nat} (hi:i<len):∃ x,a=some x∧(x.add i).block<w.heap.size∧w.cell? (x.add i)=some (.string (nthS zs i)):=by
 rcases h with ⟨_,rfl,_,_⟩ | ⟨x,rfl,hl,_,hz,hc⟩
 ·omega
 ·refine ⟨x,rfl,?_,hc i (by omega)⟩
  have:=hc i (by omega)
  rcases Nat.lt_or_ge (x.add i).block w.heap.size with h | h
  ·exact h
  ·have e:w.heap[(x.add i).block]?=none:=by simpa using h
   rw [World.cell?,e] at this
   cases this
theorem IsStrs.len {w:World} {a:Option Addr} {len cap:Nat} {zs:List ByteArray} (h:IsStrs w a len cap zs):len≤maxLen:=by
 rcases h with ⟨_,rfl,_,_⟩ | ⟨x,rfl,hl,hm,hz,hc⟩
 ·simp
 ·omega
end Go.Proofs.YtkoonhiplicbkaaGreat.Cw
set_option maxHeartbeats 1000000
namespace Go.Proofs.YtkoonhiplicbkaaGreat.Cw
open Go Go.RowKit
attribute [local go_sem ↓ high] bin_or32 bin_xor32 bin_and32 bin_add32 bin_shr32 bin_shl32 un_xor32
attribute [local go_sem ↓ high] cells_v32 cells_v8 run_store_v32 run_store_v8
attribute [local go_sem high] match_v32 match_v8 run_store_v32 run_store_v8
theorem run_conv8_32 (x:UInt8) (w:World):(convert 5 169 (v8 x)).run Tryz.prog w=.ok (v32 x.toUInt32) w:=by
 unfold v8 v32
 simp [convert,run_underlying Tryz.underlying5,run_underlying Tryz.underlying169,Conv.intToInt]
 rw [wrap32_nat _ (by have:=x.toNat_lt; omega)]
attribute [local go_sem ↓ high] run_conv8_32
theorem ret_v {x y:UInt32} (h:x=y):Ending.returned (v32 x)=.returned (v32 y):=by rw [h]
theorem rot_eq (x:UInt32) (m:Nat) (h:m<32):(x <<< UInt32.ofNat (32 - m) ||| x >>> UInt32.ofNat (32 - (32 - m)))=rr32 x (UInt32.ofNat (m:Int).toNat):=by
 unfold rr32
 rw [show 32 - (32 - m)=m from by omega,Int.toNat_natCast]
 have e:UInt32.ofNat (32 - m)=32 - UInt32.ofNat m:=by
  have:∀ k:Fin 32,UInt32.ofNat (32 - k.val)=32 - UInt32.ofNat k.val:=by decide
  exact this ⟨m,h⟩
 rw [e,UInt32.or_comm]
theorem neg_and31 (c:Int) (h0:0<c) (h1:c<32):bits BinOp.and IntKind.u64 (IntKind.u64.wrap (-c)) 31=32 - c:=by
 obtain ⟨m,rfl⟩:=Int.eq_ofNat_of_zero_le (Int.le_of_lt h0)
 have hm:m<32:=by omega
 have:∀ m:Fin 32,0<m.val→bits BinOp.and IntKind.u64 (IntKind.u64.wrap (-(m.val:Int))) 31=32 - (m.val:Int):=by decide
 exact this ⟨m,hm⟩ (by show 0<m; omega)
theorem rotl32_calls (x:UInt32) (c:Int) (h0:0<c) (h1:c<32) (w:World):Calls Tryz.prog 163 #[v32 x,.int .i64 (-c)] w fun e w'=>e=.returned (v32 (rr32 x (UInt32.ofNat c.toNat)))∧w=w':=by
 obtain ⟨m,rfl⟩:=Int.eq_ofNat_of_zero_le (Int.le_of_lt h0)
 have hb:=neg_and31 m h0 h1
 have hc:0≤32 - (m:Int)∧32 - (m:Int)<32:=by omega
 go_enter Tryz.func163,Tryz.ntmps163
 go_wp2
 go_ret
 refine ⟨ret_v (rot_eq x m (by omega)),rfl⟩
theorem rotate32_calls (x:UInt32) (c:Int) (h0:0<c) (h1:c<32) (w:World):Calls Tryz.prog 159 #[v32 x,.int .i64 c] w fun e w'=>e=.returned (v32 (rr32 x (UInt32.ofNat c.toNat)))∧w=w':=by
 go_enter Tryz.func159,Tryz.ntmps159
 go_wp2_with (go_at_call 163; refine (rotl32_calls _ _ h0 h1 _).mono ?_; rintro e w' ⟨rfl,rfl⟩)
 go_ret
 exact ⟨rfl,rfl⟩
theorem schedule32_calls (g off cap:Nat) (b:Nat→UInt8) (w:World) (hg:g<w.heap.size) (hb:∀ i,i<64→w.cell? ⟨g,off+i,none⟩=some (v8 (b i))):Calls Tryz.prog 158 #[.slice (some ⟨g,off,none⟩) 64 cap] w fun e w'=>e=.returned (.agg (fa v32 64 (sch32 b)))∧Below w.heap.size w w':=by
 have HB:=Hd hb
 clear hb
 go_enter Tryz.func158,Tryz.ntmps158
 go_wp2
 go_loopw [11] (fun i wr=>∃ k:Nat,k≤16∧i=.int .i64 k∧wr.heap[w.heap.size]?=some (.cells (fa v32 64 fun _=>0) 230 (0,0))∧wr.heap[w.heap.size+1]?=some (.cells (fa v32 64 (fun j=>if j<k then sch32 b j else 0)) 230 (0,0))∧Below w.heap.size w wr) (fun i _=>16 - (intOf i).toNat)
 case atStart=>exact ⟨0,by omega,rfl,(new2a w _ _).trans (congrArg some (by kernel_rfl)),(new2 w _ _).trans (congrArg some (by kernel_rfl)),((Below.refl _ _).alloc (Nat.le_refl _) _).alloc (by simp) _⟩
 case round=>
  obtain ⟨k,hk,rfl,hr,hf,hbl⟩:=hrel
  have HF:=Hd hf
  have HR:=Hd hr
  clear hf hr
  by_cases hlt:k<16
  ·go_wp2
   obtain ⟨wo,rfl⟩:∃ wo:World,wo=wr:=⟨_,rfl⟩
   go_loopw [14] (fun i wr=>∃ m:Nat,m≤4∧i=.int .i64 m∧wr.heap[w.heap.size]?=some (.cells (fa v32 64 fun _=>0) 230 (0,0))∧wr.heap[w.heap.size+1]?=some (.cells (fa v32 64 (upd (fun j=>if j<k then sch32 b j else 0) k (pw32 b k m))) 230 (0,0))∧Below w.heap.size w wr) (fun i _=>4 - (intOf i).toNat)
   case atStart => 
    refine ⟨0,by omega,rfl,HR.out,HF.out.trans ?_,hbl⟩
    congr 3
    funext j
    simp only [upd,pw32]
    by_cases h:j=k
    ·subst h; simp
    ·simp [h]
   case round=>
    obtain ⟨m,hm,rfl,hr,hf,hbl⟩:=hrel
    by_cases hlt:m<4
    ·have hc1:wr.cell? ⟨w.heap.size+1,k,none⟩=some (v32 (pw32 b k m)):=by rw [cO hf,fa_get _ _ _ _ (by omega),upd_at]
     have hc2:wr.cell? ⟨g,off+(4*k+m),none⟩=some (v8 (b (4*k+m))):=by rw [← HB.out _ (by omega)]; exact hbl.cell (p:=⟨g,_,none⟩) hg
     have hfr:wr.frozen? ⟨w.heap.size+1,k,none⟩=false:=frozen_of hf k
     have HF2:=Hd hf
     have HR2:=Hd hr
     clear hf hr
     go_wp2
     go_region
     go_wp2
     go_roundw
     case rel=>
      refine ⟨m+1,by omega,by go_num,(set_far HR2.out (by simp) _ _),(set_of HF2.out _ _).trans ?_,hbl.drew.setCell (by simp) _⟩
      rw [fa_set,upd_upd]; rfl
     case measure=>simp [intOf]; omega
    ·obtain rfl:m=4:=by omega
     have HF2:=Hd hf
     have HR2:=Hd hr
     clear hf hr
     go_wp2
     go_roundw
     case rel=>
      refine ⟨k+1,by omega,by go_num,HR2.out,HF2.out.trans ?_,hbl⟩
      congr 3
      funext j
      simp only [upd]
      by_cases h:j=k
      ·subst h; simp [sch32_lo b j hlt]
      ·have:j<k+1↔j<k:=by omega
       simp [h,this]
     case measure=>simp [intOf]; omega
  ·obtain rfl:k=16:=by omega
   clear hk hlt
   go_wp2
   obtain ⟨wo,rfl⟩:∃ wo:World,wo=wr:=⟨_,rfl⟩
   go_loopw [6] (fun i wr=>∃ k:Nat,16≤k∧k≤64∧i=.int .i64 k∧wr.heap[w.heap.size]?=some (.cells (fa v32 64 fun _=>0) 230 (0,0))∧wr.heap[w.heap.size+1]?=some (.cells (fa v32 64 (fun j=>if j<k then sch32 b j else 0)) 230 (0,0))∧Below w.heap.size w wr) (fun i _=>64 - (intOf i).toNat)
   case atStart=>exact ⟨16,by omega,by omega,rfl,HR.out,HF.out,hbl⟩
   case round=>
    obtain ⟨k,hk0,hk,rfl,hr,hf,hbl⟩:=hrel
    by_cases hlt:k<64
    ·have hg:∀ j,j<k→wr.cell? ⟨w.heap.size+1,j,none⟩=some (v32 (sch32 b j)):=fun j hj=>by rw [cO hf,fa_get _ _ _ _ (by omega),if_pos hj]
     have h15:=hg (k - 15) (by omega)
     have h2:=hg (k - 2) (by omega)
     have h16:=hg (k - 16) (by omega)
     have h7:=hg (k - 7) (by omega)
     have hk1:wr.cell? ⟨w.heap.size+1,k,none⟩=some (v32 0):=by rw [cO hf,fa_get _ _ _ _ (by omega),if_neg (by omega)]
     have hfr:wr.frozen? ⟨w.heap.size+1,k,none⟩=false:=frozen_of hf k
     have HF2:=Hd hf
     have HR2:=Hd hr
     clear hf hr hg
     go_wp2
     go_quiet (fail)
     go_wp2_with (go_at_call 159; refine (rotate32_calls _ _ (by omega) (by omega) _).mono ?_; rintro e w' ⟨rfl,rfl⟩)
     go_region
     go_wp2
     go_roundw
     case rel=>
      repeat apply Exists.intro
      refine ⟨⟨k+1,by omega,by omega,by go_num,(set_far HR2.out (by simp) _ _),(set_of HF2.out _ _).trans ?_,(Below.drewN hbl _).drew.setCell (by simp) _⟩,rfl⟩
      rw [fa_set]
      congr 3
      funext j
      simp only [upd]
      by_cases h:j=k
      ·subst h; simp [sch32_hi b j (by omega)]; rfl
      ·have:j<k+1↔j<k:=by omega
       simp [h,this]
     case measure=>simp [intOf]; omega
    ·obtain rfl:k=64:=by omega
     have hf':=hf.trans (congrArg (fun c=>some (Obj.cells c 230 (0,0))) (fa_ext v32 64 _ (sch32 b) fun j hj=>by rw [if_pos hj]))
     have HF2:=Hd hf'
     have HR2:=Hd hr
     clear hf hf' hr
     go_wp2_with (first
      | (refine wpList_load_blk rfl 230 _ rfl (w.heap.size+1) rfl _ _ _ _ HF2.out Tryz.underlying230 rfl (by rw [fS]; kernel_rfl) ?_)
      | (refine sB rfl 230 _ _ rfl w.heap.size rfl _ _ (fa v32 64 (sch32 b)) rfl HR2.out (by rw [fS]; kernel_rfl) (by rw [fS,fS]) (one_fa _ _ _ one_v32) ?_; intro w2 hw2 hb2 hs2))
     exact bodyPost_ret (results_blk rfl _ _ w.heap.size _ _ _ _ rfl hw2 Tryz.underlying230 rfl (by rw [fS]; kernel_rfl)) rfl ⟨rfl,But.below hbl hb2 (Nat.le_refl _) hbl.size⟩
end Go.Proofs.YtkoonhiplicbkaaGreat.Cw
set_option maxHeartbeats 2000000
set_option maxRecDepth 100000
namespace Go.Proofs.YtkoonhiplicbkaaGreat.Cw
open Go Go.RowKit
attribute [local go_sem ↓ high] bin_or32 bin_xor32 bin_and32 bin_add32 bin_shr32 bin_shl32 un_xor32 run_conv8_32
attribute [local go_sem ↓ high] cells_v32 cells_v8 run_store_v32 run_store_v8
attribute [local go_sem high] match_v32 match_v8 run_store_v32 run_store_v8
theorem rotate32_quiet (x:UInt32) (c:Int) (h0:0<c) (h1:c<32) (w:World) {C:World→Prop} (h:C w):Calls Tryz.prog 159 #[v32 x,.int .i64 c] w fun e w''=>e=.returned (v32 (rr32 x (UInt32.ofNat c.toNat)))∧C w'':=
  (rotate32_calls x c h0 h1 _).mono fun _ _ ⟨he,hw⟩=>⟨he,by rw [← hw]; exact h⟩
theorem turn32_calls (b g off cap:Nat) (bs:Nat→UInt8) (size rest len:Value) (h k:Nat→UInt32) (w:World) (hg:g<w.heap.size)
    (hb:∀ i,i<64→w.cell? ⟨g,off+i,none⟩=some (v8 (bs i))) (ho:w.heap[b]?=some (.cells (hobj v32 64 size h k rest len) 233 (0,0))) :
    Calls Tryz.prog 146 #[.pointer (some ⟨b,0,none⟩),.slice (some ⟨g,off,none⟩) 64 cap] w fun e w'=>e=.returned (.tuple #[])∧w'.heap[b]?=some (.cells (hobj v32 64 size (blk32 k h bs) k rest len) 233 (0,0))∧But b w w':=by
  have hbl:=lt_of ho
  have HO:=Hd ho
  have HB:=Hd hb
  clear ho hb
  go_enter Tryz.func146,Tryz.ntmps146
  go_wp2_with (first
    | (go_at_call 158; refine (schedule32_calls g off cap bs _ hg HB.out).mono ?_; rintro e w1 ⟨rfl,hb1⟩)
    | (refine sB rfl 230 _ _ rfl w1.heap.size rfl _ _ (fa v32 64 (sch32 bs)) rfl (new1 _ _) (by rw [fS]; kernel_rfl) (by rw [fS]; kernel_rfl) (one_fa _ _ _ one_v32) ?_
       intro w2 hw2 hb2 hs2
       have hB2:Below w.heap.size w w2:=But.below (hb1.alloc hb1.size _) hb2 hb1.size (by have:=hb1.size; simp; omega)
       have HO2:=Hd (below_heap hB2 hbl HO.out)
       have HW2:=Hd hw2
       have hl2:=lt_of hw2
       clear hb2 hs2 hw2)
    | (refine lS rfl 227 _ rfl b 1 8 rfl _ _ (fa v32 8 h) _ _ HO2.out Tryz.underlying227 rfl (by kernel_rfl) (fS _ _ _) (fun j hj=>by rw [hobj_h _ _ _ _ _ _ _ _ hj,fa_get _ _ _ _ hj]) ?_)
    | (refine sB rfl 227 _ _ rfl w2.heap.size rfl _ _ (fa v32 8 h) rfl (new1 _ _) (by rw [fS]; kernel_rfl) (by rw [fS]; kernel_rfl) (one_fa _ _ _ one_v32) ?_
       intro w3 hw3 hb3 hs3
       have hB3:Below w.heap.size w w3:=But.below (hB2.alloc hB2.size _) hb3 hB2.size (by have:=hB2.size; simp; omega)
       have HO3:=Hd (below_heap hB3 hbl HO.out)
       have HW3:=Hd hw3
       have HV3:=Hd (But.heap hb3 (by omega) (alloc_far HW2.out _))
       have hl3:=lt_of hw3
       clear hb3 hs3 hw3))
  go_loopw [19] (fun i wr=>∃ m:Nat,m≤64∧i=.int .i64 m∧wr.heap[w1.heap.size]?=some (.cells (fa v32 64 (sch32 bs)) 230 (0,0))∧wr.heap[w2.heap.size]?=some (.cells (fa v32 8 (rs32 k (sch32 bs) h m)) 227 (0,0))∧Below w.heap.size w wr) (fun i _=>64 - (intOf i).toNat)
  case atStart=>exact ⟨0,by omega,rfl,HV3.out,HW3.out,hB3⟩
  case round=>
    obtain ⟨m,hm,rfl,hs,hx,hbw⟩:=hrel
    have HS:=Hd hs
    have HX:=Hd hx
    have hO:=below_heap hbw hbl HO.out
    have HOr:=Hd hO
    by_cases hlt:m<64
    · have hsm:wr.cell? ⟨w1.heap.size,m,none⟩=some (v32 (sch32 bs m)):=by rw [cO hs,fa_get _ _ _ _ hlt]
      have hkm:wr.cell? ⟨b,9+m,none⟩=some (v32 (k m)):=by rw [cO hO,hobj_k _ _ _ _ _ _ _ _ hlt]
      obtain ⟨X,hXe⟩:∃ X,X=rs32 k (sch32 bs) h m:=⟨_,rfl⟩
      rw [← hXe] at hx
      have hx0:wr.cell? ⟨w2.heap.size,0,none⟩=some (v32 (X 0)):=by rw [cO hx,fa_get _ _ _ _ (by omega)]
      have hx1:wr.cell? ⟨w2.heap.size,1,none⟩=some (v32 (X 1)):=by rw [cO hx,fa_get _ _ _ _ (by omega)]
      have hx2:wr.cell? ⟨w2.heap.size,2,none⟩=some (v32 (X 2)):=by rw [cO hx,fa_get _ _ _ _ (by omega)]
      have hx3:wr.cell? ⟨w2.heap.size,3,none⟩=some (v32 (X 3)):=by rw [cO hx,fa_get _ _ _ _ (by omega)]
      have hx4:wr.cell? ⟨w2.heap.size,4,none⟩=some (v32 (X 4)):=by rw [cO hx,fa_get _ _ _ _ (by omega)]
      have hx5:wr.cell? ⟨w2.heap.size,5,none⟩=some (v32 (X 5)):=by rw [cO hx,fa_get _ _ _ _ (by omega)]
      have hx6:wr.cell? ⟨w2.heap.size,6,none⟩=some (v32 (X 6)):=by rw [cO hx,fa_get _ _ _ _ (by omega)]
      have hx7:wr.cell? ⟨w2.heap.size,7,none⟩=some (v32 (X 7)):=by rw [cO hx,fa_get _ _ _ _ (by omega)]
      have HXE:=Hd hXe
      clear hs hx hO hXe
      go_wp2
      go_quiet ((go_at_call 159; exact rotate32_quiet _ _ (by omega) (by omega) _ ⟨_,rfl⟩))
      go_wp2
      go_quiet (fail)
      go_wp2
      go_quiet ((go_at_call 159; exact rotate32_quiet _ _ (by omega) (by omega) _ ⟨_,rfl⟩))
      go_wp2_with (refine sB rfl 227 _ _ rfl w2.heap.size rfl _ _ (fa v32 8 (rnd32 (k m) (sch32 bs m) X)) rfl HX.out (by rw [fS]; kernel_rfl) (by rw [fS,fS]) (one_fa _ _ _ one_v32) ?_; intro w5 hw5 hb5 hs5)
      have hb5':=But.of_drewN hb5
      go_roundw
      case rel=>exact ⟨m+1,by omega,by go_num,But.heap hb5' (by omega) HS.out,by rw [hw5,HXE.out]; rfl,But.below hbw hb5' (by have:=hB2.size; omega) hbw.size⟩
      case measure=>simp [intOf]; omega
    · obtain rfl:m=64:=by omega
      clear hs hx hO
      go_wp2
      obtain ⟨X,hXe⟩:∃ X,X=rs32 k (sch32 bs) h 64:=⟨_,rfl⟩
      have HXE:=Hd hXe
      have HX2:=Hd (show wr.heap[w2.heap.size]?=some (.cells (fa v32 8 X) 227 (0,0)) from by rw [hXe]; exact HX.out)
      clear hXe HX
      obtain ⟨wo,rfl⟩:∃ wo:World,wo=wr:=⟨_,rfl⟩
      have hq:=hB2.size
      go_loopw [113] (fun i wr=>∃ m:Nat,m≤8∧i=.int .i64 m∧wr.heap[b]?=some (.cells (hobj v32 64 size (fun j=>if j<m then h j+X j else h j) k rest len) 233 (0,0))∧wr.heap[w2.heap.size]?=some (.cells (fa v32 8 X) 227 (0,0))∧But b w wr) (fun i _=>8 - (intOf i).toNat)
      case atStart=>exact ⟨0,by omega,rfl,by simpa using HOr.out,HX2.out,But.of_below hbw⟩
      case round=>
        obtain ⟨m,hm,rfl,ho,hx,hbt⟩:=hrel
        have HO5:=Hd ho
        have HX5:=Hd hx
        by_cases hlt:m<8
        · have hc1:wr.cell? ⟨b,1+m,none⟩=some (v32 (h m)):=by rw [cO ho,hobj_h _ _ _ _ _ _ _ _ hlt,if_neg (by omega)]
          have hc2:wr.cell? ⟨w2.heap.size,m,none⟩=some (v32 (X m)):=by rw [cO hx,fa_get _ _ _ _ hlt]
          have hfr:wr.frozen? ⟨b,1+m,none⟩=false:=frozen_of ho _
          clear ho hx
          go_wp2
          go_region
          go_wp2
          go_roundw
          case rel=>
            refine ⟨m+1,by omega,by go_num,(set_of HO5.out _ _).trans ?_,set_far HX5.out (by omega) _ _,But.setCell (But.drew hbt) (.inl rfl) _⟩
            rw [hobj_set_h _ _ _ _ _ _ _ _ hlt]
            congr 3
            funext j
            simp only [upd]
            by_cases e:j=m
            · subst e; simp
            · have:j<m+1↔j<m:=by omega
              simp [e,this]
          case measure=>simp [intOf]; omega
        · obtain rfl:m=8:=by omega
          clear ho hx
          go_wp2
          go_end0
          refine ⟨rfl,HO5.out.trans ?_,hbt⟩
          rw [hobj_ext v32 64 size _ k rest len (blk32 k h bs) (fun i hi=>by rw [if_pos hi,HXE.out]; rfl)]
end Go.Proofs.YtkoonhiplicbkaaGreat.Cw
