/-
  What these proofs say of words, of arrays of words and of blocks of memory, whatever the program: values of words, operations on them, a block that is known whole. No condition.
  A slice of bytes that reads as a list of bytes, nil let in; how such a reading is kept, cut and appended. Whatever the program. No condition.
  A slice of texts that came in, opened; and what the second form's bound says of texts. No program's function.
  A slice of the call's own, and what append makes of it: one law for every source (a slice, nil or not; a string), also where the row bears the mark that a conversion from a string leaves behind its end. Whatever the program. Condition: what comes of it takes at most 2^47 bytes.
-/
import Derived.WalkKit
import Derived.WalkLawsBesides
import Derived.WalkSpells
import Derived.Lib.Hide
import Derived.Test.YtkoonhiplicbkaaGreatRows
import Derived.SliceStrings
set_option linter.unusedSimpArgs false
set_option linter.unusedVariables false
namespace Go.Proofs.YtkoonhiplicbkaaGreat.Cw
open Go Go.RowKit
theorem Hd {p:Prop} (h:p):Hid p:=Lib.hid h
theorem s_ {α:Type} (l:List α) (i:Nat) (a:α):l.toArray.setIfInBounds i a=(l.set i a).toArray:=List.setIfInBounds_toArray ..
theorem t_ {α:Type} {xs:List α} {a b:α}:(a::xs).set 0 b=b::xs:=rfl
theorem u_ {α:Type} {xs:List α} {a b:α} {n:Nat}:(a::xs).set (n+1) b=a::xs.set n b:=rfl
theorem v_ {α:Type} (l:List α) (i:Nat) (h:i<l.toArray.size):l.toArray[i]=l[i]'(by simpa using h):=rfl
theorem x_ {α:Type} (a:α) (l:List α) (i:Nat) (h:i+1<(a::l).length):(a::l)[i+1]=l[i]'(by simpa using h):=rfl
theorem y_ {α:Type} (a:α) (l:List α) (h:0<(a::l).length):(a::l)[0]=a:=rfl
section u8
def v8 (x:UInt8):Value:=.int .u8 (x.toNat:Int)
theorem wrap8_nat (n:Nat) (h:n<256):IntKind.u8.wrap (n:Int)=n:=by
 simp only [IntKind.wrap,IntKind.bits,IntKind.signed]; simp; omega
theorem wrap8_any (n:Nat):IntKind.u8.wrap (n:Int)=((n%256:Nat):Int):=by
 simp only [IntKind.wrap,IntKind.bits,IntKind.signed]; simp
variable (t:TypeId) (x y:UInt8)
theorem bits8 (f:BitVec 8) (g:UInt8) (h:f.toNat=g.toNat):(pure (.int .u8 (IntKind.u8.wrap f.toNat)):Sem Value)=pure (v8 g):=by
 rw [h,wrap8_nat _ g.toNat_lt]; rfl
theorem bin_xor8:binOp .xor t (v8 x) (v8 y)=pure (v8 (x ^^^ y)):=by
 refine bits8 _ _ ?_
 show (BitVec.ofInt 8 (x.toNat:Int) ^^^ BitVec.ofInt 8 (y.toNat:Int)).toNat=_
 rw [BitVec.ofInt_natCast,BitVec.ofInt_natCast]; simp
theorem cells_v8:(v8 x).cells=#[v8 x]:=rfl
theorem match_v8:Value.cells.match_1 (fun _=>Array Value) (v8 x) (fun cs=>cs) (fun v=>#[v])=#[v8 x]:=rfl
theorem run_store_v8 (P:Program) (w:World) (a:Addr) (m:Mode):(store a (v8 x) m).run P w=stored P w a (v8 x) m:=run_store P w a _ m rfl
end u8
section u32
def v32 (x:UInt32):Value:=.int .u32 (x.toNat:Int)
theorem wrap32_nat (n:Nat) (h:n<4294967296):IntKind.u32.wrap (n:Int)=n:=by
 simp only [IntKind.wrap,IntKind.bits,IntKind.signed]; simp; omega
variable (t:TypeId) (x y:UInt32)
theorem bits32 (f:BitVec 32) (g:UInt32) (h:f.toNat=g.toNat):(pure (.int .u32 (IntKind.u32.wrap f.toNat)):Sem Value)=pure (v32 g):=by
 rw [h,wrap32_nat _ g.toNat_lt]; rfl
theorem bin_xor32:binOp .xor t (v32 x) (v32 y)=pure (v32 (x ^^^ y)):=by
 refine bits32 _ _ ?_
 show (BitVec.ofInt 32 (x.toNat:Int) ^^^ BitVec.ofInt 32 (y.toNat:Int)).toNat=_
 rw [BitVec.ofInt_natCast,BitVec.ofInt_natCast]; simp
theorem bin_and32:binOp .and t (v32 x) (v32 y)=pure (v32 (x &&& y)):=by
 refine bits32 _ _ ?_
 show (BitVec.ofInt 32 (x.toNat:Int) &&& BitVec.ofInt 32 (y.toNat:Int)).toNat=_
 rw [BitVec.ofInt_natCast,BitVec.ofInt_natCast]; simp
theorem bin_or32:binOp .or t (v32 x) (v32 y)=pure (v32 (x ||| y)):=by
 refine bits32 _ _ ?_
 show (BitVec.ofInt 32 (x.toNat:Int) ||| BitVec.ofInt 32 (y.toNat:Int)).toNat=_
 rw [BitVec.ofInt_natCast,BitVec.ofInt_natCast]; simp
theorem bin_add32:binOp .add t (v32 x) (v32 y)=pure (v32 (x+y)):=by
 show (pure (.int .u32 (IntKind.u32.wrap ((x.toNat:Int)+y.toNat))):Sem Value)=_
 have h:IntKind.u32.wrap ((x.toNat:Int)+y.toNat)=((x+y).toNat:Int):=by
  simp only [IntKind.wrap,IntKind.bits,IntKind.signed,UInt32.toNat_add]; simp
 rw [h]; rfl
theorem bin_shr32 (k:IntKind) (c:Int):binOp .shr t (v32 x) (.int k c)=if 0≤c∧c<32 then pure (v32 (x >>> UInt32.ofNat c.toNat)) else Op.shift .shr .u32 x.toNat k c:=by
 split
 ·rename_i h
  obtain ⟨m,rfl⟩:=Int.eq_ofNat_of_zero_le h.1
  have hm:m<32:=by omega
  show Op.shift .shr .u32 (x.toNat:Int) k (m:Int)=_
  unfold Op.shift
  rw [if_neg (by omega)]
  have e:min (m:Int).toNat IntKind.u32.bits=m:=by show min m 32=m; omega
  simp only [e]
  have h2:(x.toNat:Int).fdiv (2 ^ m)=((x >>> UInt32.ofNat (m:Int).toNat).toNat:Int):=by
   rw [Int.toNat_natCast,UInt32.toNat_shiftRight,UInt32.toNat_ofNat',Nat.mod_mod_of_dvd _ (by decide),Nat.mod_eq_of_lt hm,Nat.shiftRight_eq_div_pow]
   rw [Int.fdiv_eq_ediv_of_nonneg _ (Int.le_of_lt (Int.pow_pos (by decide)))]
   simp
  rw [h2]; rfl
 ·cases k <;> rfl
theorem bin_shl32 (k:IntKind) (c:Int):binOp .shl t (v32 x) (.int k c)=if 0≤c∧c<32 then pure (v32 (x <<< UInt32.ofNat c.toNat)) else Op.shift .shl .u32 x.toNat k c:=by
 split
 ·rename_i h
  obtain ⟨m,rfl⟩:=Int.eq_ofNat_of_zero_le h.1
  have hm:m<32:=by omega
  show Op.shift .shl .u32 (x.toNat:Int) k (m:Int)=_
  unfold Op.shift
  rw [if_neg (by omega)]
  have e:min (m:Int).toNat IntKind.u32.bits=m:=by show min m 32=m; omega
  simp only [e]
  have h2:IntKind.u32.wrap ((x.toNat:Int)*2 ^ m)=((x <<< UInt32.ofNat (m:Int).toNat).toNat:Int):=by
   rw [Int.toNat_natCast,UInt32.toNat_shiftLeft,UInt32.toNat_ofNat',Nat.mod_mod_of_dvd _ (by decide),Nat.mod_eq_of_lt hm,Nat.shiftLeft_eq]
   simp only [IntKind.wrap,IntKind.bits,IntKind.signed]; simp
  rw [h2]; rfl
 ·cases k <;> rfl
theorem un_xor32:Op.unary .xor (v32 x)=pure (v32 (~~~ x)):=by
 refine bits32 _ _ ?_
 show (BitVec.ofInt 32 (IntKind.u32.max) ^^^ BitVec.ofInt 32 (x.toNat:Int)).toNat=_
 rw [BitVec.ofInt_natCast,show IntKind.u32.max=((4294967295:Nat):Int) from by decide,BitVec.ofInt_natCast,show BitVec.ofNat 32 4294967295=BitVec.allOnes 32 from by decide,BitVec.allOnes_xor]
 simp
theorem cells_v32:(v32 x).cells=#[v32 x]:=rfl
theorem match_v32:Value.cells.match_1 (fun _=>Array Value) (v32 x) (fun cs=>cs) (fun v=>#[v])=#[v32 x]:=rfl
theorem run_store_v32 (P:Program) (w:World) (a:Addr) (m:Mode):(store a (v32 x) m).run P w=stored P w a (v32 x) m:=run_store P w a _ m rfl
theorem one_v32:(v32 x).oneCell'=true:=rfl
end u32
section u64
def v64 (x:UInt64):Value:=.int .u64 (x.toNat:Int)
theorem wrap64_nat (n:Nat) (h:n<18446744073709551616):IntKind.u64.wrap (n:Int)=n:=by
 simp only [IntKind.wrap,IntKind.bits,IntKind.signed]; simp; omega
theorem wrap64_any (n:Nat):IntKind.u64.wrap (n:Int)=((n%18446744073709551616:Nat):Int):=by
 simp only [IntKind.wrap,IntKind.bits,IntKind.signed]; simp
variable (t:TypeId) (x y:UInt64)
theorem bits64 (f:BitVec 64) (g:UInt64) (h:f.toNat=g.toNat):(pure (.int .u64 (IntKind.u64.wrap f.toNat)):Sem Value)=pure (v64 g):=by
 rw [h,wrap64_nat _ g.toNat_lt]; rfl
theorem bin_xor64:binOp .xor t (v64 x) (v64 y)=pure (v64 (x ^^^ y)):=by
 refine bits64 _ _ ?_
 show (BitVec.ofInt 64 (x.toNat:Int) ^^^ BitVec.ofInt 64 (y.toNat:Int)).toNat=_
 rw [BitVec.ofInt_natCast,BitVec.ofInt_natCast]; simp
theorem bin_and64:binOp .and t (v64 x) (v64 y)=pure (v64 (x &&& y)):=by
 refine bits64 _ _ ?_
 show (BitVec.ofInt 64 (x.toNat:Int) &&& BitVec.ofInt 64 (y.toNat:Int)).toNat=_
 rw [BitVec.ofInt_natCast,BitVec.ofInt_natCast]; simp
theorem bin_or64:binOp .or t (v64 x) (v64 y)=pure (v64 (x ||| y)):=by
 refine bits64 _ _ ?_
 show (BitVec.ofInt 64 (x.toNat:Int) ||| BitVec.ofInt 64 (y.toNat:Int)).toNat=_
 rw [BitVec.ofInt_natCast,BitVec.ofInt_natCast]; simp
theorem bin_add64:binOp .add t (v64 x) (v64 y)=pure (v64 (x+y)):=by
 show (pure (.int .u64 (IntKind.u64.wrap ((x.toNat:Int)+y.toNat))):Sem Value)=_
 have h:IntKind.u64.wrap ((x.toNat:Int)+y.toNat)=((x+y).toNat:Int):=by
  simp only [IntKind.wrap,IntKind.bits,IntKind.signed,UInt64.toNat_add]; simp
 rw [h]; rfl
theorem bin_shr64 (k:IntKind) (c:Int):binOp .shr t (v64 x) (.int k c)=if 0≤c∧c<64 then pure (v64 (x >>> UInt64.ofNat c.toNat)) else Op.shift .shr .u64 x.toNat k c:=by
 split
 ·rename_i h
  obtain ⟨m,rfl⟩:=Int.eq_ofNat_of_zero_le h.1
  have hm:m<64:=by omega
  show Op.shift .shr .u64 (x.toNat:Int) k (m:Int)=_
  unfold Op.shift
  rw [if_neg (by omega)]
  have e:min (m:Int).toNat IntKind.u64.bits=m:=by show min m 64=m; omega
  simp only [e]
  have h2:(x.toNat:Int).fdiv (2 ^ m)=((x >>> UInt64.ofNat (m:Int).toNat).toNat:Int):=by
   rw [Int.toNat_natCast,UInt64.toNat_shiftRight,UInt64.toNat_ofNat',Nat.mod_mod_of_dvd _ (by decide),Nat.mod_eq_of_lt hm,Nat.shiftRight_eq_div_pow]
   rw [Int.fdiv_eq_ediv_of_nonneg _ (Int.le_of_lt (Int.pow_pos (by decide)))]
   simp
  rw [h2]; rfl
 ·cases k <;> rfl
theorem bin_shl64 (k:IntKind) (c:Int):binOp .shl t (v64 x) (.int k c)=if 0≤c∧c<64 then pure (v64 (x <<< UInt64.ofNat c.toNat)) else Op.shift .shl .u64 x.toNat k c:=by
 split
 ·rename_i h
  obtain ⟨m,rfl⟩:=Int.eq_ofNat_of_zero_le h.1
  have hm:m<64:=by omega
  show Op.shift .shl .u64 (x.toNat:Int) k (m:Int)=_
  unfold Op.shift
  rw [if_neg (by omega)]
  have e:min (m:Int).toNat IntKind.u64.bits=m:=by show min m 64=m; omega
  simp only [e]
  have h2:IntKind.u64.wrap ((x.toNat:Int)*2 ^ m)=((x <<< UInt64.ofNat (m:Int).toNat).toNat:Int):=by
   rw [Int.toNat_natCast,UInt64.toNat_shiftLeft,UInt64.toNat_ofNat',Nat.mod_mod_of_dvd _ (by decide),Nat.mod_eq_of_lt hm,Nat.shiftLeft_eq]
   simp only [IntKind.wrap,IntKind.bits,IntKind.signed]; simp
  rw [h2]; rfl
 ·cases k <;> rfl
theorem un_xor64:Op.unary .xor (v64 x)=pure (v64 (~~~ x)):=by
 refine bits64 _ _ ?_
 show (BitVec.ofInt 64 (IntKind.u64.max) ^^^ BitVec.ofInt 64 (x.toNat:Int)).toNat=_
 rw [BitVec.ofInt_natCast,show IntKind.u64.max=((18446744073709551615:Nat):Int) from by decide,BitVec.ofInt_natCast,show BitVec.ofNat 64 18446744073709551615=BitVec.allOnes 64 from by decide,BitVec.allOnes_xor]
 simp
theorem cells_v64:(v64 x).cells=#[v64 x]:=rfl
theorem match_v64:Value.cells.match_1 (fun _=>Array Value) (v64 x) (fun cs=>cs) (fun v=>#[v])=#[v64 x]:=rfl
theorem run_store_v64 (P:Program) (w:World) (a:Addr) (m:Mode):(store a (v64 x) m).run P w=stored P w a (v64 x) m:=run_store P w a _ m rfl
theorem one_v64:(v64 x).oneCell'=true:=rfl
end u64
section arrays
variable {α:Type}
def fa (v:α→Value) (n:Nat) (f:Nat→α):Array Value:=((List.range n).map fun i=>v (f i)).toArray
def upd (f:Nat→α) (i:Nat) (x:α):Nat→α:=fun j=>if j=i then x else f j
theorem fS (v:α→Value) (n:Nat) (f:Nat→α):(fa v n f).size=n:=by simp [fa]
theorem fa_get (v:α→Value) (n:Nat) (f:Nat→α) (i:Nat) (h:i<n):(fa v n f)[i]?=some (v (f i)):=by simp [fa,h]
theorem fa_set (v:α→Value) (n:Nat) (f:Nat→α) (i:Nat) (x:α):(fa v n f).setIfInBounds i (v x)=fa v n (upd f i x):=by
 apply Array.ext_getElem?
 intro j
 simp only [Array.getElem?_setIfInBounds]
 unfold fa upd
 simp only [List.getElem?_toArray,List.getElem?_map,List.size_toArray,List.length_map,List.length_range]
 by_cases h:i=j
 ·subst h; by_cases h2:i<n <;> simp [h2]
 ·have h':¬ j=i:=fun e=>h e.symm
  rw [if_neg h]
  by_cases h2:j<n <;> simp [h2,h']
theorem fa_ext (v:α→Value) (n:Nat) (f g:Nat→α) (h:∀ i,i<n→f i=g i):fa v n f=fa v n g:=by
 unfold fa
 congr 1
 exact List.map_congr_left fun i hi=>by rw [h i (List.mem_range.1 hi)]
theorem fa_list (v:α→Value) (n:Nat) (f:Nat→α):(fa v n f).toList=(List.range n).map fun i=>v (f i):=rfl
theorem upd_upd (f:Nat→α) (i:Nat) (x y:α):upd (upd f i x) i y=upd f i y:=by
 funext j; simp only [upd]; split <;> rfl
theorem upd_at (f:Nat→α) (i:Nat) (x:α):upd f i x i=x:=by simp [upd]
theorem upd_ne (f:Nat→α) (i j:Nat) (x:α) (h:j≠i):upd f i x j=f j:=by simp [upd,h]
theorem upd_same (f:Nat→α) (i:Nat) (x:α) (h:f i=x):upd f i x=f:=by
 funext j; simp only [upd]; split
 ·rename_i e; rw [e,h]
 ·rfl
end arrays
section heap
theorem new1 (w:World) (A:Obj):(w.alloc A).heap[w.heap.size]?=some A:=heap_alloc_new w A
theorem new2 (w:World) (A B:Obj):((w.alloc A).alloc B).heap[w.heap.size+1]?=some B:=heap_alloc2_new w A B
theorem new2a (w:World) (A B:Obj):((w.alloc A).alloc B).heap[w.heap.size]?=some A:=heap_alloc2_old w A B
variable {w:World} {g:Nat} {cs:Array Value} {t:TypeId} {fr:Nat × Nat}
theorem cO (h:w.heap[g]?=some (.cells cs t fr)) (i:Nat):w.cell? ⟨g,i,none⟩=cs[i]?:=by
 simp [World.cell?,h]
theorem frozen_of (h:w.heap[g]?=some (.cells cs t (0,0))) (i:Nat):w.frozen? ⟨g,i,none⟩=false:=by
 simp [World.frozen?,h]
theorem set_of (h:w.heap[g]?=some (.cells cs t fr)) (i:Nat) (v:Value):(w.setCell ⟨g,i,none⟩ v).heap[g]?=some (.cells (cs.setIfInBounds i v) t fr):=by
 simp [World.setCell,Array.getElem?_modify,h]
theorem lt_of {o:Obj} (h:w.heap[g]?=some o):g<w.heap.size:=(Array.getElem?_eq_some_iff.1 h).1
theorem set_far {g':Nat} {o:Obj} (h:w.heap[g]?=some o) (hne:g≠g') (i:Nat) (v:Value):(w.setCell ⟨g',i,none⟩ v).heap[g]?=some o:=
 (RowKit.Below.heap_setCell w ⟨g',i,none⟩ v g hne).trans h
theorem alloc_far {o:Obj} (h:w.heap[g]?=some o) (A:Obj):(w.alloc A).heap[g]?=some o:=(heap_alloc_old w A (lt_of h)).trans h
theorem below_heap {B:Nat} {w w':World} {g:Nat} {o:Obj} (hb:Below B w w') (hg:g<B) (h:w.heap[g]?=some o):w'.heap[g]?=some o:=(hb.block g hg).trans h
theorem size_set (w:World) (a:Addr) (v:Value):(w.setCell a v).heap.size=w.heap.size:=by simp [World.setCell]
def But (b:Nat) (w w':World):Prop:=w.grownBy w' (some b)
theorem But.refl (b:Nat) (w:World):But b w w:=⟨rfl,rfl,rfl,Nat.le_refl _,fun _ _ _=>rfl⟩
theorem But.trans {b:Nat} {w w1 w2:World} (h:But b w w1) (k:But b w1 w2):But b w w2:=
 ⟨k.os.trans h.os,k.tape.trans h.tape,k.output.trans h.output,Nat.le_trans h.size k.size,fun i hi hne=>(k.block i (Nat.lt_of_lt_of_le hi h.size) hne).trans (h.block i hi hne)⟩
theorem But.of_below {b:Nat} {w w':World} (h:Below w.heap.size w w'):But b w w':=⟨h.os,h.tape,h.output,h.size,fun i hi _=>h.block i hi⟩
theorem But.drew {b:Nat} {w w':World} (h:But b w w'):But b w w'.drew:=⟨h.os,h.tape,h.output,h.size,h.block⟩
theorem But.drewN {b:Nat} {w w':World} (h:But b w w') (n:Nat):But b w (w'.drewN n):=⟨h.os,h.tape,h.output,h.size,h.block⟩
theorem But.of_drewN {b n:Nat} {w w':World} (h:But b (w.drewN n) w'):But b w w':=⟨h.os,h.tape,h.output,h.size,h.block⟩
theorem But.alloc {b:Nat} {w w':World} (h:But b w w') (o:Obj):But b w (w'.alloc o):=h.trans (World.grownBy_alloc _ _ _)
theorem But.setCell {b:Nat} {w w':World} (h:But b w w') {a:Addr} (ha:a.block=b∨w.heap.size≤a.block) (v:Value):But b w (w'.setCell a v):=by
 refine ⟨h.os,h.tape,h.output,by rw [size_set]; exact h.size,fun i hi hne=>?_⟩
 have hn:i≠a.block:=by
  rcases ha with e | e
  ·intro e'; exact hne (by rw [e',e])
  ·omega
 exact (RowKit.Below.heap_setCell _ _ _ _ hn).trans (h.block i hi hne)
theorem But.heap {b:Nat} {w w':World} (h:But b w w') {g:Nat} {o:Obj} (hne:g≠b) (hg:w.heap[g]?=some o):w'.heap[g]?=some o:=
 (h.block g (lt_of hg) (by simpa using hne)).trans hg
theorem But.below {b B:Nat} {w0 w w':World} (hb:Below B w0 w) (h:But b w w') (hB:B≤b) (hs:B≤w.heap.size):Below B w0 w':=
 hb.trans ⟨h.os,h.tape,h.output,h.size,fun i hi=>h.block i (by omega) (by simp; omega)⟩
theorem Below.drewN {B:Nat} {a w:World} (h:Below B a w) (n:Nat):Below B a (w.drewN n):=⟨h.os,h.tape,h.output,h.size,h.block⟩
theorem Below.then {w w1 w2:World} (h:Below w.heap.size w w1) (k:Below w1.heap.size w1 w2):Below w.heap.size w w2:=h.trans (k.mono h.size)
end heap
section segments
variable {P:Program} {ops:Array Oper} {rest:List Oper} {o:Oper} {a:Act} {w:World} {Q:Exit→Act→World→Prop}
def isAggDesc:TypeDesc→Bool | .struct _ | .array _ _=>true | _=>false
theorem run_load_seg (w:World) (g off n:Nat) (t ty:TypeId) (C cs:Array Value) (fr:Nat × Nat) (d:TypeDesc) (hg:w.heap[g]?=some (.cells C t fr))
  (hu:P.underlying ty=some d) (hd:isAggDesc d=true) (hi:(P.info? ty).map (·.size)=some n) (hn:cs.size=n) (hcs:∀ j,j<n→C[off+j]?=cs[j]?) :
  (loadVar ty ⟨g,off,none⟩).run P w=.ok (.agg cs) w:=by
 have hl:(loadCells ⟨g,off,none⟩ cs.toList.length).run P w=.ok cs.toList.toArray w:=
  run_loadCells_list (P:=P) w ⟨g,off,none⟩ cs.toList (fun j v hv=>by
   have hlt:j<cs.size:=by
    rcases Nat.lt_or_ge j cs.size with h | h
    ·exact h
    ·simp [h] at hv
   rw [Addr.add_lit,cO hg,hcs j (by omega)]
   simpa using hv)
 cases hq:P.info? ty with
 | none=>simp [hq] at hi
 | some i=>
  have hs:i.size=cs.size:=by rw [hn]; simpa [hq] using hi
  have hagg:(isAgg ty).run P w=.ok true w:=by
   unfold isAgg
   rw [Sem.run_bind,run_underlying hu w]
   cases d <;> simp_all [isAggDesc]
  simp only [Array.length_toList,Array.toArray_toList] at hl
  simp [loadVar,Sem.run_bind,hagg,sizeOf,typeInfo,hq,hs,hl]
theorem wp_load_seg {K:Act→World→Prop} (ty:TypeId) (x:Operand) (ho:o.op=.load ty x)
  (g off n:Nat) (hx:a.eval x=.pointer (some ⟨g,off,none⟩)) (t:TypeId) (C cs:Array Value) (fr:Nat × Nat) (d:TypeDesc) (hg:w.heap[g]?=some (.cells C t fr))
  (hu:P.underlying ty=some d) (hd:isAggDesc d=true) (hi:(P.info? ty).map (·.size)=some n) (hn:cs.size=n) (hcs:∀ j,j<n→C[off+j]?=cs[j]?)
  (h:K (a.put o.dst (.agg cs)) w):o.wp P a w K Q:=by
 unfold Oper.wp execOp
 simp only [ho,hx,Instr.loadAt,Instr.sureAddr,Sem.run_bind,Sem.run_pure,Result.andThen_ok,run_load_seg w g off n t ty C cs fr d hg hu hd hi hn hcs]
 exact h
theorem lS (hgd:o.guard=none) (ty:TypeId) (x:Operand) (ho:o.op=.load ty x)
  (g off n:Nat) (hx:a.eval x=.pointer (some ⟨g,off,none⟩)) (t:TypeId) (C cs:Array Value) (fr:Nat × Nat) (d:TypeDesc) (hg:w.heap[g]?=some (.cells C t fr))
  (hu:P.underlying ty=some d) (hd:isAggDesc d=true) (hi:(P.info? ty).map (·.size)=some n) (hn:cs.size=n) (hcs:∀ j,j<n→C[off+j]?=cs[j]?)
  (h:wpList P ops Q rest (a.put o.dst (.agg cs)) w):wpList P ops Q (o::rest) a w:=
 wpList_plain hgd fun _ hK=>wp_load_seg ty x ho g off n hx t C cs fr d hg hu hd hi hn hcs (hK _ _ h)
theorem wpList_load_blk (hgd:o.guard=none) (ty:TypeId) (x:Operand) (ho:o.op=.load ty x)
  (g:Nat) (hx:a.eval x=.pointer (some ⟨g,0,none⟩)) (t:TypeId) (cs:Array Value) (fr:Nat × Nat) (d:TypeDesc) (hg:w.heap[g]?=some (.cells cs t fr))
  (hu:P.underlying ty=some d) (hd:isAggDesc d=true) (hi:(P.info? ty).map (·.size)=some cs.size)
  (h:wpList P ops Q rest (a.put o.dst (.agg cs)) w):wpList P ops Q (o::rest) a w:=
 lS hgd ty x ho g 0 cs.size hx t cs cs fr d hg hu hd hi rfl (fun j _=>by rw [Nat.zero_add]) h
theorem setRow_but (w:World) (g:Nat) (C:Array Value):But g w (w.setRow g C):=
 ⟨rfl,rfl,rfl,by simp [World.setRow],fun k _ hk=>setRow_other w g k _ (fun e=>hk (by rw [e]))⟩
theorem setRow_size (w:World) (g:Nat) (C:Array Value):(w.setRow g C).heap.size=w.heap.size:=by simp [World.setRow]
def splice (C:Array Value) (off:Nat) (cs:Array Value):Array Value:=(C.toList.take off++cs.toList++C.toList.drop (off+cs.size)).toArray
theorem wp_store_seg {K:Act→World→Prop} (ty:TypeId) (x v:Operand) (ho:o.op=.store ty x v)
  (g off:Nat) (hx:a.eval x=.pointer (some ⟨g,off,none⟩)) (t:TypeId) (C cs:Array Value) (hv:a.eval v=.agg cs) (hg:w.heap[g]?=some (.cells C t (0,0)))
  (hi:(P.info? ty).map (·.size)=some cs.size) (hfit:off+cs.size≤C.size) (h1:∀ u ∈ cs.toList,u.oneCell'=true)
  (h:∀ w',w'.heap[g]?=some (.cells (splice C off cs) t (0,0))→But g w w'→w'.heap.size=w.heap.size→K (a.put o.dst undef) w'):o.wp P a w K Q:=by
 have hst:=run_storeCells_at P g off t cs.toList 0 C w hg (by simpa using hfit) h1
 simp only [Nat.add_zero,Array.length_toList] at hst
 cases hq:P.info? ty with
 | none=>simp [hq] at hi
 | some i=>
  have hs:i.size=cs.size:=by simpa [hq] using hi
  unfold Oper.wp execOp
  simp only [ho,hx,hv,Instr.storeAt,Instr.sureAddr,storeVar,sizeOf,typeInfo,Value.cells,Sem.run_bind,Sem.run_pure,Result.andThen_ok]
  simp [hq,hs,hst]
  rw [← List.append_assoc]
  exact h _ (setRow_heap w g C _ t _ hg) (setRow_but _ _ _) (setRow_size _ _ _)
theorem wpList_store_seg (hgd:o.guard=none) (ty:TypeId) (x v:Operand) (ho:o.op=.store ty x v)
  (g off:Nat) (hx:a.eval x=.pointer (some ⟨g,off,none⟩)) (t:TypeId) (C cs:Array Value) (hv:a.eval v=.agg cs) (hg:w.heap[g]?=some (.cells C t (0,0)))
  (hi:(P.info? ty).map (·.size)=some cs.size) (hfit:off+cs.size≤C.size) (h1:∀ u ∈ cs.toList,u.oneCell'=true)
  (h:∀ w',w'.heap[g]?=some (.cells (splice C off cs) t (0,0))→But g w w'→w'.heap.size=w.heap.size→wpList P ops Q rest (a.put o.dst undef) w'):wpList P ops Q (o::rest) a w:=
 wpList_plain hgd fun _ hK=>wp_store_seg ty x v ho g off hx t C cs hv hg hi hfit h1 fun w' a1 a2 a3=>hK _ _ (h w' a1 a2 a3)
theorem splice_all (C cs:Array Value) (h:cs.size=C.size):splice C 0 cs=cs:=by
 unfold splice
 rw [Nat.zero_add,h,← Array.length_toList,List.drop_length]
 simp
theorem one_fa {α:Type} (v:α→Value) (n:Nat) (f:Nat→α) (h:∀ x,(v x).oneCell'=true):∀ u ∈ (fa v n f).toList,u.oneCell'=true:=by
 intro u hu
 rw [fa_list] at hu
 obtain ⟨i,_,rfl⟩:=List.mem_map.1 hu
 exact h _
theorem sB (hgd:o.guard=none) (ty:TypeId) (x v:Operand) (ho:o.op=.store ty x v)
  (g:Nat) (hx:a.eval x=.pointer (some ⟨g,0,none⟩)) (t:TypeId) (C cs:Array Value) (hv:a.eval v=.agg cs) (hg:w.heap[g]?=some (.cells C t (0,0)))
  (hi:(P.info? ty).map (·.size)=some cs.size) (hfit:cs.size=C.size) (h1:∀ u ∈ cs.toList,u.oneCell'=true)
  (h:∀ w',w'.heap[g]?=some (.cells cs t (0,0))→But g w w'→w'.heap.size=w.heap.size→wpList P ops Q rest (a.put o.dst undef) w'):wpList P ops Q (o::rest) a w:=
 wpList_store_seg hgd ty x v ho g 0 hx t C cs hv hg hi (by omega) h1 fun w' h2 h3 h4=>h w' (by rw [splice_all _ _ hfit] at h2; exact h2) h3 h4
theorem results_blk {fn:Func} {p:Tmp} {ty:TypeId} (h:fn.results=#[.cell p ty]) (tmps:Array Value) (w:World) (g:Nat) (t:TypeId) (cs:Array Value) (fr:Nat × Nat) (d:TypeDesc)
  (hp:tmps.getD p undef=.pointer (some ⟨g,0,none⟩)) (hg:w.heap[g]?=some (.cells cs t fr))
  (hu:P.underlying ty=some d) (hd:isAggDesc d=true) (hi:(P.info? ty).map (·.size)=some cs.size) :
  (results fn tmps).run P w=.ok (.agg cs) w:=by
 have hp':tmps[p]?.getD undef=.pointer (some ⟨g,0,none⟩):=by simpa using hp
 simp [results,h,hp',asAddr,run_load_seg w g 0 cs.size t ty cs cs fr d hg hu hd hi rfl (fun j _=>by rw [Nat.zero_add])]
end segments
section rows
variable {α:Type}
theorem app_get (v:α→Value) (n:Nat) (f:Nat→α) (Z:Array Value) (i:Nat) (h:i<n):(fa v n f++Z)[i]?=some (v (f i)):=by
 rw [Array.getElem?_append_left (by rw [fS]; exact h),fa_get _ _ _ _ h]
theorem app_set (v:α→Value) (n:Nat) (f:Nat→α) (Z:Array Value) (i:Nat) (h:i<n) (x:α):(fa v n f++Z).setIfInBounds i (v x)=fa v n (upd f i x)++Z:=by
 rw [Array.setIfInBounds_append_left (by rw [fS]; exact h),fa_set]
theorem bin_xor_ones32 (t:TypeId) (x:UInt32):binOp .xor t (v32 x) (.int .u32 4294967295)=pure (v32 (~~~ x)):=by
 have:=bin_xor32 t x 4294967295
 have e:x ^^^ 4294967295 = ~~~ x:=by
  rw [show (4294967295:UInt32) = -1 from by decide,UInt32.xor_neg_one]
 rw [e] at this
 exact this
theorem bin_xor_ones64 (t:TypeId) (x:UInt64):binOp .xor t (v64 x) (.int .u64 18446744073709551615)=pure (v64 (~~~ x)):=by
 have:=bin_xor64 t x 18446744073709551615
 have e:x ^^^ 18446744073709551615 = ~~~ x:=by
  rw [show (18446744073709551615:UInt64) = -1 from by decide,UInt64.xor_neg_one]
 rw [e] at this
 exact this
end rows
end Go.Proofs.YtkoonhiplicbkaaGreat.Cw
namespace Go.Proofs.YtkoonhiplicbkaaGreat.Cw
open Go Go.RowKit
def Rd (w:World) (p:Nat→Prop) (A:Option Addr) (n c:Nat) (l:List UInt8):Prop:=
 l.length=n∧n≤c∧(0<n→∃ g off,A=some ⟨g,off,none⟩∧p g∧g<w.heap.size∧∀ i,i<n→w.cell? ⟨g,off+i,none⟩=some (v8 (l.getD i 0)))
section
variable {w w':World} {p:Nat→Prop} {A:Option Addr} {n c:Nat} {l:List UInt8}
theorem Rd.len (h:Rd w p A n c l):l.length=n:=h.1
theorem Rd.cap (h:Rd w p A n c l):n≤c:=h.2.1
theorem Rd.nil (w:World) (p:Nat→Prop) (A:Option Addr) (c:Nat):Rd w p A 0 c []:=⟨rfl,Nat.zero_le _,fun h=>absurd h (by omega)⟩
theorem Rd.keep (h:Rd w p A n c l) (hs:w.heap.size≤w'.heap.size) (hk:∀ g,p g→g<w.heap.size→w'.heap[g]?=w.heap[g]?):Rd w' p A n c l:=by
 refine ⟨h.1,h.2.1,fun hn=>?_⟩
 obtain ⟨g,off,e,hp,hg,hc⟩:=h.2.2 hn
 refine ⟨g,off,e,hp,Nat.lt_of_lt_of_le hg hs,fun i hi=>?_⟩
 rw [← hc i hi]
 exact World.cell?_of_block (hk g hp hg)
theorem Rd.weak {q:Nat→Prop} (h:Rd w p A n c l) (hq:∀ g,g<w.heap.size→p g→q g):Rd w q A n c l:=by
 refine ⟨h.1,h.2.1,fun hn=>?_⟩
 obtain ⟨g,off,e,hp,hg,hc⟩:=h.2.2 hn
 exact ⟨g,off,e,hq g hg hp,hg,hc⟩
theorem Rd.but {b:Nat} (h:Rd w p A n c l) (hb:But b w w') (hp:∀ g,p g→g≠b):Rd w' p A n c l:=
 h.keep hb.size fun g hg hlt=>hb.block g hlt (by simpa using hp g hg)
theorem Rd.below (h:Rd w p A n c l) (hb:Below w.heap.size w w'):Rd w' p A n c l:=h.keep hb.size fun g _ hlt=>hb.block g hlt
theorem Rd.drewN (h:Rd w p A n c l) (k:Nat):Rd (w.drewN k) p A n c l:=h
theorem Rd.drew (h:Rd w p A n c l):Rd w.drew p A n c l:=h
theorem Rd.alloc (h:Rd w p A n c l) (o:Obj):Rd (w.alloc o) p A n c l:=h.keep (by simp) fun g _ hlt=>heap_alloc_old w o hlt
theorem Rd.drop (h:Rd w p A n c l) {k:Nat} (hk:k≤n) (A':Option Addr) (hA:∀ g off,A=some ⟨g,off,none⟩→k<n→A'=some ⟨g,off+k,none⟩):Rd w p A' (n - k) (c - k) (l.drop k):=by
 refine ⟨by simp [h.1],by have:=h.2.1; omega,fun hn=>?_⟩
 obtain ⟨g,off,e,hp,hg,hc⟩:=h.2.2 (by omega)
 refine ⟨g,off+k,hA g off e (by omega),hp,hg,fun i hi=>?_⟩
 rw [Nat.add_assoc,hc (k+i) (by omega)]
 simp
theorem Rd.take (h:Rd w p A n c l) {k:Nat} (hk:k≤n):Rd w p A k c (l.take k):=by
 refine ⟨by simp [h.1]; omega,by have:=h.2.1; omega,fun hn=>?_⟩
 obtain ⟨g,off,e,hp,hg,hc⟩:=h.2.2 (by omega)
 refine ⟨g,off,e,hp,hg,fun i hi=>?_⟩
 rw [hc i (by omega)]
 simp [List.getElem?_take,hi]
end
def slen:Value→Nat | .slice _ n _=>n | _=>0
end Go.Proofs.YtkoonhiplicbkaaGreat.Cw
namespace Go.Proofs.YtkoonhiplicbkaaGreat.Cw
open Go Go.RowKit Go.ChangeShapes Go.WideShapes
def IsStrs (w:World) (a:Option Addr) (len cap:Nat) (zs:List ByteArray):Prop:=
 (a=none∧len=0∧cap=0∧zs=[]) ∨
 ∃ x,a=some x∧len≤cap∧cap≤maxLen∧zs.length=cap∧∀ i,i<zs.length→w.cell? (x.add i)=some (.string (zs.getD i ByteArray.empty))
theorem toList_size (s:ByteArray):s.data.toList.length=s.size:=by simp
end Go.Proofs.YtkoonhiplicbkaaGreat.Cw
set_option maxHeartbeats 1000000
namespace Go.Proofs.YtkoonhiplicbkaaGreat.Cw
open Go Go.RowKit
def Clear (fr:Nat × Nat) (n:Nat):Prop:=fr=(0,0)∨n≤fr.1
theorem Clear.free {w:World} {g:Nat} {cs:Array Value} {t:TypeId} {fr:Nat × Nat} {n:Nat} (h:w.heap[g]?=some (.cells cs t fr)) (hc:Clear fr n) (i:Nat) (hi:i<n):w.frozen? ⟨g,i,none⟩=false:=by
 rcases hc with rfl | hc
 ·simp [World.frozen?,h]
 ·obtain ⟨lo,hi'⟩:=fr
  simp [World.frozen?,h]
  intro h1
  simp at hc
  omega
def Ow (w:World) (B e size:Nat) (v:Value) (n:Nat) (xs:List Value):Prop:=
 xs.length=n*size∧((v=.slice none 0 0∧n=0) ∨
  ∃ g cap cur fr,v=.slice (some ⟨g,0,none⟩) n cap∧B≤g∧w.heap[g]?=some (.cells cur e fr)∧Clear fr cur.size∧n≤cap∧cap≤maxLen∧cur.size=cap*size∧cur.toList.take (n*size)=xs)
theorem Ow.nil (w:World) (B e size:Nat):Ow w B e size (.slice none 0 0) 0 []:=⟨by simp,.inl ⟨rfl,rfl⟩⟩
section
variable {w w':World} {B e size n:Nat} {v:Value} {xs:List Value}
theorem Ow.lt (h:Ow w B e size v n xs):∀ k,v.ownBlock=some k→B≤k∧k<w.heap.size:=by
 intro k hk
 rcases h.2 with ⟨rfl,_⟩ | ⟨g,cap,cur,fr,rfl,hb,hg,_⟩
 ·simp [Value.ownBlock] at hk
 ·simp [Value.ownBlock] at hk
  subst hk
  exact ⟨hb,lt_of hg⟩
theorem Ow.keep (h:Ow w B e size v n xs) (hk:∀ g,v.ownBlock=some g→w'.heap[g]?=w.heap[g]?):Ow w' B e size v n xs:=by
 refine ⟨h.1,?_⟩
 rcases h.2 with h0 | ⟨g,cap,cur,fr,rfl,hb,hg,r⟩
 ·exact .inl h0
 ·exact .inr ⟨g,cap,cur,fr,rfl,hb,by rw [hk g rfl]; exact hg,r⟩
theorem Ow.but {b:Nat} (h:Ow w B e size v n xs) (hb:But b w w') (hne:v.ownBlock≠some b):Ow w' B e size v n xs:=
 h.keep fun g hg=>hb.block g (h.lt g hg).2 (by rw [← hg]; exact hne)
theorem Ow.below (h:Ow w B e size v n xs) (hb:Below w.heap.size w w'):Ow w' B e size v n xs:=h.keep fun g hg=>hb.block g (h.lt g hg).2
theorem Ow.alloc (h:Ow w B e size v n xs) (o:Obj):Ow (w.alloc o) B e size v n xs:=h.keep fun g hg=>heap_alloc_old w o (h.lt g hg).2
theorem Ow.drewN (h:Ow w B e size v n xs) (k:Nat):Ow (w.drewN k) B e size v n xs:=h
theorem Ow.drew (h:Ow w B e size v n xs):Ow w.drew B e size v n xs:=h
theorem Ow.form (h:Ow w B e size v n xs) (hn:0<n):∃ g cap cur fr,v=.slice (some ⟨g,0,none⟩) n cap∧B≤g∧w.heap[g]?=some (.cells cur e fr)∧Clear fr cur.size∧n≤cap∧cap≤maxLen∧cur.size=cap*size∧cur.toList.take (n*size)=xs:=by
 rcases h.2 with ⟨_,h0⟩ | h2
 ·omega
 ·exact h2
theorem Ow.slice (h:Ow w B e size v n xs):∃ A c,v=.slice A n c∧n≤c:=by
 rcases h.2 with ⟨rfl,rfl⟩ | ⟨g,cap,cur,fr,rfl,_,_,_,hn,_⟩
 ·exact ⟨_,_,rfl,Nat.le_refl _⟩
 ·exact ⟨_,_,rfl,hn⟩
theorem Ow.rd {l:List UInt8} {A:Option Addr} {c:Nat} (h:Ow w B e 1 (.slice A n c) n (l.map v8)) (p:Nat→Prop) (hp:∀ g,B≤g→p g):Rd w p A n c l:=by
 have hl:l.length=n:=by simpa using h.1
 rcases h.2 with ⟨hv,rfl⟩ | ⟨g,cap,cur,fr,hv,hb,hg,_,hn,_,hs,ht⟩
 ·injection hv with h1 h2 h3
  have:l=[]:=List.eq_nil_of_length_eq_zero hl
  subst this
  exact Rd.nil _ _ _ _
 ·injection hv with h1 h2 h3
  subst h1 h3
  refine ⟨hl,hn,fun _=>⟨g,0,rfl,hp g hb,lt_of hg,fun i hi=>?_⟩⟩
  rw [Nat.zero_add,cO hg]
  have e1:(cur.toList.take (n*1))[i]?=some (v8 (l.getD i 0)):=by
   rw [ht]
   simp [List.getElem?_map,show i<l.length from by omega]
  rw [List.getElem?_take,if_pos (by omega)] at e1
  simpa using e1
end
theorem storeCells_clear {P:Program} (g o:Nat) (t:TypeId) (fr:Nat × Nat):∀ (vs:List Value) (i:Nat) (cur:Array Value) (w:World),w.heap[g]?=some (.cells cur t fr)→Clear fr cur.size→o+i+vs.length≤cur.size→(∀ v ∈ vs,v.oneCell'=true) →
  (storeCells ⟨g,o,none⟩ vs i).run P w=.ok () (w.setRow g (cur.toList.take (o+i)++vs++cur.toList.drop (o+i+vs.length)).toArray)
 | [],i,cur,w,hg,_,_,_=>by
  simp only [storeCells,List.append_nil,List.length_nil,Nat.add_zero,List.take_append_drop,Array.toArray_toList]
  rw [setRow_self w g cur t fr hg]
  rfl
 | v::rest,i,cur,w,hg,hc,hl,h1=>by
  have hi:o+i<cur.size:=by simp at hl; omega
  have hadd:(⟨g,o,none⟩:Addr).add i=⟨g,o+i,none⟩:=Addr.add_lit _ _ _
  have hcell:w.cell? ⟨g,o+i,none⟩=some cur[o+i]:=by simp [World.cell?,hg,hi]
  have hfro:w.frozen? ⟨g,o+i,none⟩=false:=Clear.free hg hc _ hi
  have hst:(store ((⟨g,o,none⟩:Addr).add i) v).run P w=.ok () (w.setRow g (cur.setIfInBounds (o+i) v)):=by
   rw [hadd,run_store P w _ v _ (h1 v (by simp)),hcell]
   simp [hfro,setCell_eq_setRow w g (o+i) cur t fr v hg]
  have ih:=storeCells_clear (P:=P) g o t fr rest (i+1) (cur.setIfInBounds (o+i) v) (w.setRow g (cur.setIfInBounds (o+i) v)) (setRow_heap w g cur _ t _ hg) (by simpa using hc) (by simp at hl ⊢; omega) (fun x hx=>h1 x (by simp [hx]))
  simp only [storeCells,Sem.run_bind,hst,Result.andThen_ok,ih,setRow_setRow]
  congr 3
  have e:=list_seg_step cur.toList (o+i) v rest (by simp at hl ⊢; omega)
  simpa [Array.toList_setIfInBounds,Nat.add_assoc] using e
theorem run_append {P:Program} (w:World) (B:Nat) (t u ty e:TypeId) (i:TypeInfo) (z:Value) (size bytes:Nat) (d:TypeDesc) (ht:P.underlying t=some (.slice e)) (hu:P.underlying u=some d) (hd:(∃ e',d=.slice e')∨d=.string)
  (hi:P.info? e=some i) (hz:i.zero=some z) (hsize:i.size=size) (hby:i.bytes=bytes) (hzs:z.cells.size=size)
  (v:Value) (n:Nat) (xs:List Value) (hown:Ow w B e size v n xs)
  (x:Value) (m:Nat) (news:List Value) (hlen:∀ w,(Builtin.lenOf x).run P w=.ok m w) (hf:∀ w':World,w'.heap=w.heap→(Builtin.firstCells size m x).run P w'=.ok news.toArray w')
  (hl:news.length=m*size) (h1:∀ u ∈ news,u.oneCell'=true)
  (h63:n+m≤maxLen) (hbytes:(n+m)*bytes≤140737488355328) (hB:B≤w.heap.size) :
  ∃ v' w',(Builtin.append_ #[t,u] ty #[v,x]).run P w=.ok v' w'∧Ow w' B e size v' (n+m) (xs++news)∧w.grownBy w' v.ownBlock∧(v'.ownBlock=v.ownBlock∨v'.ownBlock=some w.heap.size):=by
 subst hsize
 subst hby
 have hsmall:n+m≤9223372036854775807:=by simp only [maxLen] at h63; omega
 have hlen2:(xs++news).length=(n+m)*i.size:=by rw [List.length_append,hown.1,hl,Nat.add_mul]
 have grown:∀ old,old<n+m→∀ row:Option Nat,
   Ow (w.drew.alloc (.cells (xs.toArray++news.toArray++Builtin.zeroCells z.cells (grownCap w (n+m) old e - (n+m))) e)) B e i.size (.slice (some ⟨w.heap.size,0,none⟩) (n+m) (grownCap w (n+m) old e)) (n+m) (xs++news) ∧
   w.grownBy (w.drew.alloc (.cells (xs.toArray++news.toArray++Builtin.zeroCells z.cells (grownCap w (n+m) old e - (n+m))) e)) row:=by
  intro old ho row
  have hge:=grownCap_ge w (n+m) old e
  have hcm:grownCap w (n+m) old e≤maxLen:=grownCap_le_maxLen w (n+m) old e h63
  refine ⟨⟨hlen2,.inr ⟨w.heap.size,_,_,(0,0),rfl,hB,heap_alloc_new w.drew _,.inl rfl,hge,hcm,?_,?_⟩⟩,⟨rfl,rfl,rfl,by simp,fun k hk _=>heap_alloc_old w.drew _ hk⟩⟩
  ·simp only [Array.size_append,List.size_toArray,size_zeroCells,hzs,hown.1,hl,← Nat.add_mul]
   congr 1
   omega
  ·simp only [Array.toList_append,List.append_assoc]
   rw [← List.append_assoc,← hlen2]
   exact List.take_left
 rcases hown.2 with ⟨rfl,rfl⟩ | ⟨g,cap,cur,fr,rfl,hbg,hg,hc,hnc,hcm,hcs,htake⟩
 ·have hx:xs=[]:=List.eq_nil_of_length_eq_zero (by simpa using hown.1)
  subst hx
  by_cases hm:m=0
  ·subst hm
   have hn:news=[]:=List.eq_nil_of_length_eq_zero (by simpa using hl)
   subst hn
   refine ⟨.slice none 0 0,w,?_,Ow.nil w B e i.size,World.grownBy.refl w _,.inl rfl⟩
   have hf':=hf w rfl
   rcases hd with ⟨e',rfl⟩ | rfl <;> simp [Builtin.append_,run_underlying ht,run_underlying hu,sizeOf,typeInfo,hi,hlen,hf',hl]
  ·have hgr:=grown 0 (by omega) (Value.ownBlock (.slice none 0 0))
   simp only [Nat.zero_add,List.nil_append,Array.empty_append] at hgr ⊢
   refine ⟨_,_,?_,hgr.1,hgr.2,.inr rfl⟩
   have h63':¬ (9223372036854775807<(m:Int)):=by omega
   have h48':¬ (281474976710656<Builtin.nextslicecap m 0*i.bytes):=by rw [nextslicecap_zero (by omega)]; have:=hbytes; simp only [Nat.zero_add] at this; omega
   have hf':=hf w.drew rfl
   rcases hd with ⟨e',rfl⟩ | rfl <;> simp [Builtin.append_,run_underlying ht,run_underlying hu,sizeOf,typeInfo,zeroValue,hi,hz,hlen,hm,h63',h48',Question.forced,run_firstCells_none,hf',newRow,grownCap]
 ·have hap:∀ j,(⟨g,0,none⟩:Addr).add j=⟨g,j,none⟩:=fun j=>by rw [Addr.add_lit,Nat.zero_add]
  by_cases hroom:n+m≤cap
  ·have hfit:n*i.size+news.length≤cur.size:=by rw [hl,hcs,← Nat.add_mul]; exact Nat.mul_le_mul_right _ hroom
   have hst:=storeCells_clear (P:=P) g (n*i.size) e fr news 0 cur w hg hc (by simpa using hfit) h1
   simp only [Nat.add_zero] at hst
   have hf':=hf w rfl
   refine ⟨.slice (some ⟨g,0,none⟩) (n+m) cap,w.setRow g (cur.toList.take (n*i.size)++news++cur.toList.drop (n*i.size+news.length)).toArray,?_,⟨hlen2,.inr ⟨g,cap,(cur.toList.take (n*i.size)++news++cur.toList.drop (n*i.size+news.length)).toArray,fr,rfl,hbg,setRow_heap w g cur _ e _ hg,?_,hroom,hcm,?_,?_⟩⟩,(setRow_but w g _),.inl rfl⟩
   ·rcases hd with ⟨e',rfl⟩ | rfl <;> simp [Builtin.append_,run_underlying ht,run_underlying hu,sizeOf,typeInfo,hi,hlen,hroom,hf',Addr.add_lit,hst]
   ·simp only [List.size_toArray,List.length_append,List.length_take,List.length_drop,Array.length_toList]
    rw [show min (n*i.size) cur.size+news.length+(cur.size - (n*i.size+news.length))=cur.size from by omega]
    exact hc
   ·simp only [List.size_toArray,List.length_append,List.length_take,List.length_drop,Array.length_toList]
    omega
   ·rw [htake,← hlen2]
    exact List.take_left
  ·have holds:∀ j u,xs[j]?=some u→w.cell? ((⟨g,0,none⟩:Addr).add j)=some u:=by
    intro j u hj
    rw [hap,cO hg]
    rw [← htake,List.getElem?_take] at hj
    split at hj
    ·simpa using hj
    ·cases hj
   have hgr:=grown cap (by omega) (Value.ownBlock (.slice (some ⟨g,0,none⟩) n cap))
   refine ⟨_,_,?_,hgr.1,hgr.2,.inr rfl⟩
   have hn:¬ (n+m≤cap):=hroom
   have h63':¬ (9223372036854775807<((n:Int)+(m:Int))):=by omega
   have h48':¬ (281474976710656<Builtin.nextslicecap (n+m) cap*i.bytes):=by have:=growslice_fits (old:=cap) (bytes:=i.bytes) (show cap<n+m by omega) hbytes; omega
   have hf':=hf w.drew rfl
   have hfo:=run_firstCells_some (P:=P) w.drew i.size n ⟨g,0,none⟩ n cap xs hown.1 (by simpa using holds)
   rcases hd with ⟨e',rfl⟩ | rfl <;> simp [Builtin.append_,run_underlying ht,run_underlying hu,sizeOf,typeInfo,zeroValue,hi,hz,hlen,hn,h63',h48',Question.forced,hf',hfo,newRow,grownCap]
   all_goals (congr 2; apply Array.ext'; simp [List.append_assoc])
section
variable {P:Program} {ops:Array Oper} {rest:List Oper} {o:Oper} {a:Act} {w:World} {Q:Exit→Act→World→Prop}
theorem wp_append {K:Act→World→Prop} (s x:Operand) (t u:TypeId) (ho:o.op=.call { callee:=.builtin .append,args:=#[s,x],argTypes:=#[t,u] })
  (B:Nat) (e:TypeId) (i:TypeInfo) (z:Value) (size bytes:Nat) (d:TypeDesc) (ht:P.underlying t=some (.slice e)) (hu:P.underlying u=some d) (hd:(∃ e',d=.slice e')∨d=.string)
  (hi:P.info? e=some i) (hz:i.zero=some z) (hsize:i.size=size) (hby:i.bytes=bytes) (hzs:z.cells.size=size)
  (v:Value) (n:Nat) (xs:List Value) (hs:a.eval s=v) (hown:Ow w B e size v n xs)
  (y:Value) (hx:a.eval x=y) (m:Nat) (news:List Value) (hlen:∀ w,(Builtin.lenOf y).run P w=.ok m w) (hf:∀ w':World,w'.heap=w.heap→(Builtin.firstCells size m y).run P w'=.ok news.toArray w')
  (hl:news.length=m*size) (h1:∀ u ∈ news,u.oneCell'=true)
  (h63:n+m≤maxLen) (hbytes:(n+m)*bytes≤140737488355328) (hB:B≤w.heap.size)
  (h:∀ v' w',Ow w' B e size v' (n+m) (xs++news)→w.grownBy w' v.ownBlock→(v'.ownBlock=v.ownBlock∨v'.ownBlock=some w.heap.size)→K (a.put o.dst v') w'):o.wp P a w K Q:=by
 obtain ⟨v',w',hr,h2,h3,h4⟩:=run_append w B t u o.type e i z size bytes d ht hu hd hi hz hsize hby hzs v n xs hown y m news hlen hf hl h1 h63 hbytes hB
 unfold Oper.wp execOp
 simp only [ho,resolve,invoke,builtin,Sem.run_bind,Sem.run_pure,Result.andThen_ok,List.map_toArray,List.map_cons,List.map_nil,hs,hx,hr]
 exact h v' w' h2 h3 h4
theorem wpList_append_rd (hgd:o.guard=none) (s x:Operand) (t:TypeId) (ho:o.op=.call { callee:=.builtin .append,args:=#[s,x],argTypes:=#[t,t] })
  (B:Nat) (e:TypeId) (i:TypeInfo) (ht:P.underlying t=some (.slice e)) (hi:P.info? e=some i) (hz:i.zero=some (.int .u8 0)) (hsize:i.size=1) (hby:i.bytes=1)
  (v:Value) (n:Nat) (l:List UInt8) (hs:a.eval s=v) (hown:Ow w B e 1 v n (l.map v8))
  (A:Option Addr) (m c:Nat) (k:List UInt8) (p:Nat→Prop) (hx:a.eval x=.slice A m c) (hr:Rd w p A m c k) (hbytes:n+m≤140737488355328) (hB:B≤w.heap.size)
  (h:∀ v' w',Ow w' B e 1 v' (n+m) ((l++k).map v8)→w.grownBy w' v.ownBlock→(v'.ownBlock=v.ownBlock∨v'.ownBlock=some w.heap.size)→wpList P ops Q rest (a.put o.dst v') w'):wpList P ops Q (o::rest) a w:=by
 refine wpList_plain hgd fun K hK=>?_
 refine wp_append s x t t ho B e i (.int .u8 0) 1 1 (.slice e) ht ht (.inl ⟨e,rfl⟩) hi hz hsize hby rfl v n (l.map v8) hs hown (.slice A m c) hx m (k.map v8) (fun _=>rfl) ?_ (by simp [hr.len]) ?_ (by simp only [maxLen]; omega) (by omega) hB ?_
 ·intro w' hw
  rcases Nat.eq_zero_or_pos m with h0 | h0
  ·subst h0
   have:k=[]:=List.eq_nil_of_length_eq_zero hr.len
   subst this
   cases A with
   | none=>exact run_firstCells_none w' 1 0 0 c
   | some ad=>exact run_firstCells_some w' 1 0 ad 0 c [] rfl (fun j u hj=>by simp at hj)
  ·obtain ⟨g,off,rfl,_,_,hc⟩:=hr.2.2 h0
   refine run_firstCells_some w' 1 m ⟨g,off,none⟩ m c (k.map v8) (by simp [hr.len]) fun j u hj=>?_
   have hj':j<k.length:=by
    rcases Nat.lt_or_ge j k.length with h | h
    ·exact h
    ·simp [h] at hj
   rw [Addr.add_lit,World.cell?_of_block (w:=w) (w':=w') (by rw [hw]),hc j (by rw [← hr.len]; exact hj')]
   simp [hj'] at hj
   rw [← hj]
   simp [hj']
 ·intro u hu
  obtain ⟨b,_,rfl⟩:=List.mem_map.1 hu
  rfl
 ·intro v' w' h2 h3 h4
  refine hK _ _ (h v' w' ?_ h3 h4)
  rw [List.map_append]; exact h2
theorem wpList_append_str (hgd:o.guard=none) (s x:Operand) (t u:TypeId) (ho:o.op=.call { callee:=.builtin .append,args:=#[s,x],argTypes:=#[t,u] })
  (B:Nat) (e:TypeId) (i:TypeInfo) (ht:P.underlying t=some (.slice e)) (hu:P.underlying u=some .string) (hi:P.info? e=some i) (hz:i.zero=some (.int .u8 0)) (hsize:i.size=1) (hby:i.bytes=1)
  (v:Value) (n:Nat) (l:List UInt8) (hs:a.eval s=v) (hown:Ow w B e 1 v n (l.map v8))
  (b:ByteArray) (hx:a.eval x=.string b) (hbytes:n+b.size≤140737488355328) (hB:B≤w.heap.size)
  (h:∀ v' w',Ow w' B e 1 v' (n+b.size) ((l++b.data.toList).map v8)→w.grownBy w' v.ownBlock→(v'.ownBlock=v.ownBlock∨v'.ownBlock=some w.heap.size)→wpList P ops Q rest (a.put o.dst v') w'):wpList P ops Q (o::rest) a w:=by
 refine wpList_plain hgd fun K hK=>?_
 refine wp_append s x t u ho B e i (.int .u8 0) 1 1 .string ht hu (.inr rfl) hi hz hsize hby rfl v n (l.map v8) hs hown (.string b) hx b.size (b.data.toList.map v8) (fun _=>rfl) ?_ (by simp) ?_ (by simp only [maxLen]; omega) (by omega) hB ?_
 ·intro w' _
  have e1:(b.data.toList.map v8).toArray=(b.extract 0 b.size).data.map fun b=>Value.int .u8 b.toNat:=by
   have:b.extract 0 b.size=b:=by simp
   rw [this]
   apply Array.ext'
   simp
   intro a _
   rfl
  rw [e1]
  simp [Builtin.firstCells]
 ·intro u hu
  obtain ⟨b,_,rfl⟩:=List.mem_map.1 hu
  rfl
 ·intro v' w' h2 h3 h4
  refine hK _ _ (h v' w' ?_ h3 h4)
  rw [List.map_append]; exact h2
end
end Go.Proofs.YtkoonhiplicbkaaGreat.Cw
