/-
  (package hash) Write and Sum of a stream. Condition: a text takes at most 2^47 - 4096 bytes.
  Hashes by their number, in short: sizes, blocks, what the program and the reference answer. Condition: a text takes at most 2^47 - 4096 bytes.
  (package hmac) pad: a text, each byte xored; and rows of bytes written in place. Condition: a text takes at most 2^47 - 4096 bytes.
  (package hash) Block. No condition.
  (package hmac) New, Write, Sum, Of: a keyed hash. Condition: key and text take at most 2^46 bytes each.
  (package hmac) Write, Sum, Of; and the reference's Hmac. Condition: key and text take at most 2^46 bytes each.
-/
import Derived.Test.YtkoonhiplicbkaaGreatQk5
import Derived.BigQuiet
import Derived.Deep.QuietTactic
import Derived.Test.YtkoonhiplicbkaaGreatShelf
import Derived.Test.YtkoonhiplicbkaaGreatRep
import Derived.Deep.RegionHeld3
import Derived.Test.YtkoonhiplicbkaaGreatQk2
set_option linter.unusedSimpArgs false
set_option linter.unusedVariables false
set_option maxRecDepth 100000
namespace Go.Proofs.YtkoonhiplicbkaaGreat.Cw
open Go Go.RowKit
theorem StreamAt.keep {w w':World} {s b id:Nat} {p:Nat→Prop} {m:ByteArray} (h:StreamAt w s b id p m) (hs:w.heap.size≤w'.heap.size) (hb:w'.heap[b]?=w.heap[b]?) (hk:∀ g,p g→g<w.heap.size→w'.heap[g]?=w.heap[g]?):StreamAt w' s b id p m:=by
 obtain ⟨cw,ch,cs,h1,p1,p2,p3,p4,h2,d1,d2,d3⟩:=h
 refine ⟨cw,ch,cs,?_,p1,p2,p3,p4,(hk _ p1 (lt_of h2)).trans h2,(World.cell?_of_block (hk _ p2 (cell_lt d1))).trans d1,(World.cell?_of_block (hk _ p4 (cell_lt d2))).trans d2,(World.cell?_of_block (hk _ p3 (cell_lt d3))).trans d3⟩
 unfold Inner at h1 ⊢
 split at h1
 ·rw [if_pos ‹_›]; exact HashAt.keep h1 hs hb hk
 ·rw [if_neg ‹_›]; exact HashAtL.keep h1 hs hb hk
theorem StreamAt.below {w w':World} {s b id:Nat} {p:Nat→Prop} {m:ByteArray} (h:StreamAt w s b id p m) (hl:b<w.heap.size) (hb:Below w.heap.size w w'):StreamAt w' s b id p m:=
 h.keep hb.size (hb.block b hl) fun g _ hg=>hb.block g hg
theorem StreamAt.lt {w:World} {s b id:Nat} {p:Nat→Prop} {m:ByteArray} (h:StreamAt w s b id p m):b<w.heap.size:=by
 obtain ⟨cw,ch,cs,h1,_⟩:=h
 unfold Inner at h1
 split at h1
 ·exact h1.lt
 ·exact h1.lt
theorem eqin_writing (f:Fn) (a b:Array Value) (w:World) (d:Nat):(Op.equalIn (d+1) 195 (.func f a b) .nilFunc).run Tryz.prog w=.ok false w:=by
 simp [Op.equalIn,run_underlying Tryz.underlying195]
theorem eql_writing (f:Fn) (a b:Array Value) (w:World):(binOp .eql 195 (.func f a b) .nilFunc).run Tryz.prog w=.ok (.bool false) w:=by
 simp only [binOp]
 simp [Op.equal,Op.maxDepth,eqin_writing f a b w 9999]
theorem eqin_summing (f:Fn) (a b:Array Value) (w:World) (d:Nat):(Op.equalIn (d+1) 196 (.func f a b) .nilFunc).run Tryz.prog w=.ok false w:=by
 simp [Op.equalIn,run_underlying Tryz.underlying196]
theorem eql_summing (f:Fn) (a b:Array Value) (w:World):(binOp .eql 196 (.func f a b) .nilFunc).run Tryz.prog w=.ok (.bool false) w:=by
 simp only [binOp]
 simp [Op.equal,Op.maxDepth,eqin_summing f a b w 9999]
attribute [local go_sem ↓ high] eql_writing eql_summing
theorem cl32_write (b cw ch:Nat) (p:Nat→Prop) (bits:Nat) (m:List UInt8) (t:ByteArray) (w:World) (hp:∀ g,w.heap.size≤g→p g) (hpb:∀ g,p g→g≠b) (hs:t.size≤140737488351232) (hh:HashAt w b p bits m)
  (d1:w.cell? ⟨cw,0,none⟩=some (.func (.func 120) #[] #[])) (d3:w.cell? ⟨ch,0,none⟩=some (.pointer (some ⟨b,0,none⟩))) :
  Calls Tryz.prog 143 #[.string t,.pointer (some ⟨cw,0,none⟩),.pointer (some ⟨ch,0,none⟩)] w fun e w'=>e=.returned (.int .i64 0)∧HashAt w' b p bits (m++t.data.toList)∧But b w w':=by
 have HH:=Hd hh
 clear hh
 go_enter Tryz.func143,Tryz.ntmps143
 go_wp2_with (go_at_call 120; refine (write32_calls b p bits m t w hp hpb (by omega) HH.out).mono ?_; rintro e w1 ⟨rfl,hh1,hb1⟩; have HH1:=Hd hh1; clear hh1)
 go_ret
 exact ⟨rfl,HH1.out,hb1⟩
theorem cl32_sum (b cs ch:Nat) (p:Nat→Prop) (bits:Nat) (m:List UInt8) (w:World) (hbits:bits=224∨bits=256) (hh:HashAt w b p bits m)
  (d1:w.cell? ⟨cs,0,none⟩=some (.func (.func 121) #[] #[])) (d3:w.cell? ⟨ch,0,none⟩=some (.pointer (some ⟨b,0,none⟩))) :
  Calls Tryz.prog 144 #[.pointer (some ⟨cs,0,none⟩),.pointer (some ⟨ch,0,none⟩)] w fun e w'=>e=.returned (.string ⟨(dig32 bits m).toArray⟩)∧Below w.heap.size w w':=by
 have HH:=Hd hh
 clear hh
 go_enter Tryz.func144,Tryz.ntmps144
 go_wp2_with (fail)
 refine (sum32_calls b p bits m w hbits HH.out).mono ?_
 rintro e w1 ⟨rfl,hb1⟩
 go_wp2
 go_ret
 exact ⟨rfl,hb1⟩
theorem cl64_write (b cw ch:Nat) (p:Nat→Prop) (bits:Nat) (m:List UInt8) (t:ByteArray) (w:World) (hp:∀ g,w.heap.size≤g→p g) (hpb:∀ g,p g→g≠b) (hs:t.size≤140737488351232) (hh:HashAtL w b p bits m)
  (d1:w.cell? ⟨cw,0,none⟩=some (.func (.func 124) #[] #[])) (d3:w.cell? ⟨ch,0,none⟩=some (.pointer (some ⟨b,0,none⟩))) :
  Calls Tryz.prog 149 #[.string t,.pointer (some ⟨cw,0,none⟩),.pointer (some ⟨ch,0,none⟩)] w fun e w'=>e=.returned (.int .i64 0)∧HashAtL w' b p bits (m++t.data.toList)∧But b w w':=by
 have HH:=Hd hh
 clear hh
 go_enter Tryz.func149,Tryz.ntmps149
 go_wp2_with (go_at_call 124; refine (write64_calls b p bits m t w hp hpb (by omega) HH.out).mono ?_; rintro e w1 ⟨rfl,hh1,hb1⟩; have HH1:=Hd hh1; clear hh1)
 go_ret
 exact ⟨rfl,HH1.out,hb1⟩
theorem cl64_sum (b cs ch:Nat) (p:Nat→Prop) (bits:Nat) (m:List UInt8) (w:World) (hbits:bits=384∨bits=512) (hh:HashAtL w b p bits m)
  (d1:w.cell? ⟨cs,0,none⟩=some (.func (.func 125) #[] #[])) (d3:w.cell? ⟨ch,0,none⟩=some (.pointer (some ⟨b,0,none⟩))) :
  Calls Tryz.prog 150 #[.pointer (some ⟨cs,0,none⟩),.pointer (some ⟨ch,0,none⟩)] w fun e w'=>e=.returned (.string ⟨(dig64 bits m).toArray⟩)∧Below w.heap.size w w':=by
 have HH:=Hd hh
 clear hh
 go_enter Tryz.func150,Tryz.ntmps150
 go_wp2_with (fail)
 refine (sum64_calls b p bits m w hbits HH.out).mono ?_
 rintro e w1 ⟨rfl,hb1⟩
 go_wp2
 go_ret
 exact ⟨rfl,hb1⟩
theorem strm_write (s b id:Nat) (p:Nat→Prop) (m t:ByteArray) (w:World) (hp:∀ g,w.heap.size≤g→p g) (hpb:∀ g,p g→g≠b) (hs:t.size≤140737488351232) (hh:StreamAt w s b id p m) :
  Calls Tryz.prog 93 #[.pointer (some ⟨s,0,none⟩),.string t] w fun e w'=>e=.returned (.int .i64 0)∧StreamAt w' s b id p (m++t)∧But b w w':=by
 have h0:=hh
 obtain ⟨cw,ch,cs,h1,p1,p2,p3,p4,h2,d1,d2,d3⟩:=hh
 have HS:=Hd h0
 have H1:=Hd h1
 have H2:=Hd h2
 have c0:=cO h2 0
 have c1:=cO h2 1
 simp at c0 c1
 clear h0 h1 h2
 by_cases hid:id≤2
 ·simp only [if_pos hid] at c0 c1 d1 d2
  have HI:=Hd (show HashAt w b p (bitsOf id) m.data.toList from by have:=H1.out; unfold Inner at this; rw [if_pos hid] at this; exact this)
  go_enter Tryz.func93,Tryz.ntmps93
  go_wp2_with (go_at_call 143; refine (cl32_write b cw ch p _ _ t w hp hpb hs HI.out d1 d3).mono ?_; rintro e w1 ⟨rfl,hh1,hb1⟩; have HH1:=Hd hh1; clear hh1)
  go_ret
  exact ⟨rfl,⟨cw,ch,cs,by unfold Inner; rw [if_pos hid]; simpa using HH1.out,p1,p2,p3,p4,hb1.heap (hpb _ p1) H2.out,by rw [if_pos hid]; exact hb1.cell (hpb _ p2) d1,by rw [if_pos hid]; exact hb1.cell (hpb _ p4) d2,hb1.cell (hpb _ p3) d3⟩,hb1⟩
 ·simp only [if_neg hid] at c0 c1 d1 d2
  have HI:=Hd (show HashAtL w b p (bitsOf id) m.data.toList from by have:=H1.out; unfold Inner at this; rw [if_neg hid] at this; exact this)
  go_enter Tryz.func93,Tryz.ntmps93
  go_wp2_with (go_at_call 149; refine (cl64_write b cw ch p _ _ t w hp hpb hs HI.out d1 d3).mono ?_; rintro e w1 ⟨rfl,hh1,hb1⟩; have HH1:=Hd hh1; clear hh1)
  go_ret
  exact ⟨rfl,⟨cw,ch,cs,by unfold Inner; rw [if_neg hid]; simpa using HH1.out,p1,p2,p3,p4,hb1.heap (hpb _ p1) H2.out,by rw [if_neg hid]; exact hb1.cell (hpb _ p2) d1,by rw [if_neg hid]; exact hb1.cell (hpb _ p4) d2,hb1.cell (hpb _ p3) d3⟩,hb1⟩
theorem dg_32 {id:Nat} (h:id≤2) (m:ByteArray):(⟨(dig32 (bitsOf id) m.data.toList).toArray⟩:ByteArray)=dg id m:=by unfold dg; rw [if_pos h]; rfl
theorem dg_64 {id:Nat} (h:¬ id≤2) (m:ByteArray):(⟨(dig64 (bitsOf id) m.data.toList).toArray⟩:ByteArray)=dg id m:=by unfold dg; rw [if_neg h]; rfl
theorem bits_32 {id:Nat} (h:isId id) (h2:id≤2):bitsOf id=224∨bitsOf id=256:=by unfold bitsOf; unfold isId at h; split; exact .inl rfl; split; exact .inr rfl; omega
theorem bits_64 {id:Nat} (h:isId id) (h2:¬ id≤2):bitsOf id=384∨bitsOf id=512:=by unfold bitsOf; unfold isId at h; rw [if_neg (by omega),if_neg (by omega)]; split; exact .inl rfl; exact .inr rfl
theorem strm_sum (s b id:Nat) (p:Nat→Prop) (m:ByteArray) (w:World) (hi:isId id) (hh:StreamAt w s b id p m) :
  Calls Tryz.prog 94 #[.pointer (some ⟨s,0,none⟩)] w fun e w'=>e=.returned (.string (dg id m))∧Below w.heap.size w w':=by
 obtain ⟨cw,ch,cs,h1,p1,p2,p3,p4,h2,d1,d2,d3⟩:=hh
 have H1:=Hd h1
 have H2:=Hd h2
 have c0:=cO h2 0
 have c1:=cO h2 1
 simp at c0 c1
 clear h1 h2
 by_cases hid:id≤2
 ·simp only [if_pos hid] at c0 c1 d1 d2
  have HI:=Hd (show HashAt w b p (bitsOf id) m.data.toList from by have:=H1.out; unfold Inner at this; rw [if_pos hid] at this; exact this)
  have HD:=Hd (dg_32 hid m)
  go_enter Tryz.func94,Tryz.ntmps94
  go_wp2_with (fail)
  refine (cl32_sum b cs ch p _ _ w (bits_32 hi hid) HI.out d2 d3).mono ?_
  rintro e w1 ⟨he,hb1⟩
  rw [HD.out] at he
  subst he
  go_wp2
  go_ret
  exact ⟨rfl,hb1⟩
 ·simp only [if_neg hid] at c0 c1 d1 d2
  have HI:=Hd (show HashAtL w b p (bitsOf id) m.data.toList from by have:=H1.out; unfold Inner at this; rw [if_neg hid] at this; exact this)
  have HD:=Hd (dg_64 hid m)
  go_enter Tryz.func94,Tryz.ntmps94
  go_wp2_with (fail)
  refine (cl64_sum b cs ch p _ _ w (bits_64 hi hid) HI.out d2 d3).mono ?_
  rintro e w1 ⟨he,hb1⟩
  rw [HD.out] at he
  subst he
  go_wp2
  go_ret
  exact ⟨rfl,hb1⟩
theorem dg_size {id:Nat} (h:isId id) (m:ByteArray):(dg id m).size=bitsOf id / 8:=by
 unfold dg
 split
 ·exact d32_size _ _ (bits_32 h ‹_›)
 ·exact d64_size _ _ (bits_64 h ‹_›)
theorem hashOf_yes (id:Nat) (t:ByteArray) (w:World) (hi:isId id) (hs:t.size≤140737488351232) :
  Calls Tryz.prog 54 #[.int .i64 id,.string t] w fun e w'=>e=.returned (.tuple #[.string (dg id t),.int .i64 0])∧Below w.heap.size w w':=by
 go_enter Tryz.func54,Tryz.ntmps54
 go_wp2_with (fail)
 refine (strm_yes id hi w).mono ?_
 rintro e w1 ⟨s,b,rfl,hh1,hbl,hbs,hb1⟩
 have HH1:=Hd (hh1 (·≠b) fun g _ h=>h)
 clear hh1
 go_wp2_with (fail)
 refine (strm_write s b id (·≠b) ByteArray.empty t w1 (fun g hg=>by omega) (fun g h=>h) hs HH1.out).mono ?_
 rintro e w2 ⟨rfl,hh2,hb2⟩
 have HH2:=Hd hh2
 clear hh2
 have hB2:Below w.heap.size w w2:=But.below hb1 hb2 hbl hb1.size
 go_wp2_with (fail)
 refine (strm_sum s b id (·≠b) _ w2 hi HH2.out).mono ?_
 rintro e w3 ⟨rfl,hb3⟩
 go_wp2
 go_ret2
 refine ⟨?_,hB2.trans (hb3.mono hB2.size)⟩
 simp
end Go.Proofs.YtkoonhiplicbkaaGreat.Cw
namespace Go.Proofs.YtkoonhiplicbkaaGreat.Cw
open Go Go.RowKit
def szOf (id:Nat):Nat:=bitsOf id / 8
theorem szOf_pos (id:Nat):28≤szOf id∧szOf id≤64:=by
 unfold szOf bitsOf
 repeat' split
 all_goals omega
theorem szOf_ne (id:Nat):(((szOf id:Nat):Int) == 0)=false:=by
 have:=szOf_pos id
 simp; omega
theorem blockOf_pos (id:Nat):blockOf id=64∨blockOf id=128:=by unfold blockOf; split; exact .inl rfl; exact .inr rfl
theorem dg_sz {id:Nat} (h:isId id) (m:ByteArray):(dg id m).size=szOf id:=dg_size h m
theorem hsize (id:Nat) (h:isId id) (w:World):Calls Tryz.prog 26 #[.int .i64 id] w fun e w'=>e=.returned (.int .i64 (szOf id))∧Below w.heap.size w w':=size_yes id h w
theorem strm_write0 (s b id:Nat) (p:Nat→Prop) (t:ByteArray) (w:World) (hp:∀ g,w.heap.size≤g→p g) (hpb:∀ g,p g→g≠b) (hs:t.size≤140737488351232) (hh:StreamAt w s b id p ByteArray.empty) :
  Calls Tryz.prog 93 #[.pointer (some ⟨s,0,none⟩),.string t] w fun e w'=>e=.returned (.int .i64 0)∧StreamAt w' s b id p t∧But b w w':=
 (strm_write s b id p ByteArray.empty t w hp hpb hs hh).mono fun _ _ ⟨h1,h2,h3⟩=>⟨h1,by simpa using h2,h3⟩
theorem blk_lt {id:Nat} (h:isId id):blockOf id=64∧(szOf id:Int)<64∨blockOf id=128∧(szOf id:Int)<128:=by
 obtain ⟨h1,h2⟩:=h
 rcases (show id=1∨id=2∨id=3∨id=4 by omega) with rfl | rfl | rfl | rfl <;> decide
theorem StreamAt.weak {w:World} {s b id:Nat} {p q:Nat→Prop} {m:ByteArray} (h:StreamAt w s b id p m) (hq:∀ g,g<w.heap.size→p g→q g):StreamAt w s b id q m:=by
 obtain ⟨cw,ch,cs,h1,p1,p2,p3,p4,h2,d1,d2,d3⟩:=h
 refine ⟨cw,ch,cs,?_,hq _ (lt_of h2) p1,hq _ (cell_lt d1) p2,hq _ (cell_lt d3) p3,hq _ (cell_lt d2) p4,h2,d1,d2,d3⟩
 unfold Inner at h1 ⊢
 split at h1
 ·rw [if_pos ‹_›]; exact h1.weak hq
 ·rw [if_neg ‹_›]; exact HashAtL.weak h1 hq
theorem StreamAt.but {w w':World} {s b b' id:Nat} {p:Nat→Prop} {m:ByteArray} (h:StreamAt w s b id p m) (hb:But b' w w') (hne:b≠b') (hp:∀ g,p g→g≠b'):StreamAt w' s b id p m:=
 h.keep hb.size (hb.block b h.lt (by simpa using hne)) fun g hg hlt=>hb.block g hlt (by simpa using hp g hg)
end Go.Proofs.YtkoonhiplicbkaaGreat.Cw
set_option maxHeartbeats 1000000
set_option maxRecDepth 100000
namespace Go.Proofs.YtkoonhiplicbkaaGreat.Cw
open Go Go.RowKit
attribute [local go_sem ↓ high] cells_v8 run_store_v8 bin_xor8
attribute [local go_sem high] match_v8 run_store_v8
theorem Ow.cel {w:World} {B e n c g:Nat} {l:List UInt8} (h:Ow w B e 1 (.slice (some ⟨g,0,none⟩) n c) n (l.map v8)) (i:Nat) (hi:i<n) :
    w.cell? ⟨g,i,none⟩=some (v8 (l.getD i 0))∧w.frozen? ⟨g,i,none⟩=false:=by
  obtain ⟨g',cap,cur,fr,hv,hb,hg,hc,hn,hm,hs,ht⟩:=h.form (by omega)
  injection hv with h1 h2 h3
  injection h1 with h1
  injection h1 with h1
  subst h1
  have hl:l.length=n:=by simpa using h.1
  refine ⟨?_,Clear.free hg hc i (by omega)⟩
  rw [cO hg]
  have e1:(cur.toList.take (n*1))[i]?=some (v8 (l.getD i 0)):=by
    rw [ht]
    simp [List.getElem?_map,show i<l.length from by omega]
  rw [List.getElem?_take,if_pos (by omega)] at e1
  simpa using e1
theorem Ow.set {w:World} {B e n c g:Nat} {l:List UInt8} (h:Ow w B e 1 (.slice (some ⟨g,0,none⟩) n c) n (l.map v8)) (i:Nat) (hi:i<n) (y:UInt8) :
    Ow (w.setCell ⟨g,i,none⟩ (v8 y)) B e 1 (.slice (some ⟨g,0,none⟩) n c) n ((l.set i y).map v8):=by
  obtain ⟨g',cap,cur,fr,hv,hb,hg,hc,hn,hm,hs,ht⟩:=h.form (by omega)
  injection hv with h1 h2 h3
  injection h1 with h1
  injection h1 with h1
  subst h1 h3
  refine ⟨by simpa using h.1,.inr ⟨g,c,cur.setIfInBounds i (v8 y),fr,rfl,hb,set_of hg i _,by simpa using hc,hn,hm,by simpa using hs,?_⟩⟩
  rw [Array.toList_setIfInBounds,List.take_set,ht,List.map_set]
def xl (x:UInt8) (l:List UInt8):List UInt8:=l.map (· ^^^ x)
def xlk (x:UInt8) (l:List UInt8) (k:Nat):List UInt8:=xl x (l.take k)++l.drop k
theorem xlk_get (x:UInt8) (l:List UInt8) (k:Nat) (h:k<l.length):(xlk x l k).getD k 0=l.getD k 0:=by
  unfold xlk xl
  simp only [List.getD_eq_getElem?_getD]
  rw [List.getElem?_append_right (by simp; omega)]
  simp [show min k l.length=k by omega]
theorem xlk_set (x:UInt8) (l:List UInt8) (k:Nat) (h:k<l.length):(xlk x l k).set k (l.getD k 0 ^^^ x)=xlk x l (k+1):=by
  unfold xlk xl
  rw [List.set_append_right _ _ (by simp; omega)]
  rw [List.take_succ_eq_append_getElem h,List.map_append,List.append_assoc]
  congr 1
  simp only [List.length_map,List.length_take,show min k l.length=k by omega,Nat.sub_self]
  have e:l.getD k 0=l[k]:=by simp [h]
  rw [List.drop_eq_getElem_cons h,e]
  rfl
theorem xlk_all (x:UInt8) (l:List UInt8) (k:Nat) (h:l.length≤k):xlk x l k=xl x l:=by
  unfold xlk
  rw [List.take_of_length_le h,List.drop_eq_nil_of_le h,List.append_nil]
theorem xlk_zero (x:UInt8) (l:List UInt8):xlk x l 0=l:=by simp [xlk,xl]
def xb (x:UInt8) (s:ByteArray):ByteArray:=⟨(xl x s.data.toList).toArray⟩
theorem xb_size (x:UInt8) (s:ByteArray):(xb x s).size=s.size:=by
  show (xl x s.data.toList).toArray.size=s.size
  simp [xl]
theorem pad_calls (s:ByteArray) (x:UInt8) (w:World) (hs:s.size≤140737488351232) :
    Calls Tryz.prog 154 #[.string s,v8 x] w fun e w'=>e=.returned (.string (xb x s))∧Below w.heap.size w w':=by
  go_enter Tryz.func154,Tryz.ntmps154
  obtain ⟨L,hL⟩:∃ L,L=s.data.toList:=⟨_,rfl⟩
  have hLl:L.length=s.size:=by rw [hL]; simp
  have HL:=Hd hL
  have HLl:=Hd hLl
  go_wp2_with (refine wpList_conv_bytes rfl 9 103 5 _ rfl s rfl Tryz.underlying9 Tryz.underlying103 Tryz.underlying5 (by simp only [maxLen]; omega) ?_
               intro c1 w1 how1 hb1 hs1
               rw [← HL.out] at how1
               have HW1:=Hd how1
               have hs1':w.heap.size<w1.heap.size:=by omega
               clear how1 hs1)
  clear hL hLl
  go_loopw [11] (fun i wr=>∃ k:Nat,k≤s.size∧i=.int .i64 k∧Ow wr w.heap.size 5 1 (.slice (some ⟨w.heap.size,0,none⟩) s.size c1) s.size ((xlk x L k).map v8)∧Below w.heap.size w wr∧w.heap.size<wr.heap.size) (fun i _=>s.size - (intOf i).toNat)
  case atStart=>exact ⟨0,by omega,rfl,by rw [xlk_zero]; exact HW1.out,hb1,hs1'⟩
  case round=>
    obtain ⟨k,hk,rfl,hown,hbr,hzr⟩:=hrel
    have HWr:=Hd hown
    clear hown
    by_cases hlt:k<s.size
    · have hc:=(HWr.out.cel k hlt).1
      have hf:=(HWr.out.cel k hlt).2
      rw [xlk_get x L k (by rw [HLl.out]; exact hlt)] at hc
      have HS:=Hd (HWr.out.set k hlt (L.getD k 0 ^^^ x))
      have HXS:=Hd (xlk_set x L k (by rw [HLl.out]; exact hlt))
      rw [HXS.out] at HS
      go_wp2
      go_roundw
      case rel=>exact ⟨k+1,by omega,by go_num,HS.out,hbr.setCell (by simp) _,by simpa using hzr⟩
      case measure=>simp [intOf]; omega
    · obtain rfl:k=s.size:=by omega
      have hrd:=HWr.out.rd (fun _=>True) (fun _ _=>trivial)
      rw [xlk_all x L _ (by rw [HLl.out]; exact Nat.le_refl _)] at hrd
      have hcv:=run_convert_rd (P:=Tryz.prog) hrd 103 9 5 Tryz.underlying103 Tryz.underlying5 Tryz.underlying9
      clear hrd
      go_wp2
      go_ret
      exact ⟨by rw [HL.out]; rfl,hbr⟩
end Go.Proofs.YtkoonhiplicbkaaGreat.Cw
namespace Go.Proofs.YtkoonhiplicbkaaGreat.Cw
open Go Go.RowKit
theorem block_yes (id:Nat) (h:isId id) (w:World):Calls Tryz.prog 153 #[.int .i64 id] w fun e w'=>e=.returned (.int .i64 (blockOf id))∧Below w.heap.size w w':=by
  go_enter Tryz.func153,Tryz.ntmps153
  go_wp2_with (first
    | (go_at_call 61; refine (kind_yes id h w).mono ?_; rintro e w1 ⟨rfl,hb1⟩)
    | (refine sB rfl 117 _ _ rfl w1.heap.size rfl _ _ #[.int .i64 (bitsOf id),.int .i64 (bitsOf id / 8:Nat),.int .i64 (blockOf id)] rfl (new1 _ _) (by kernel_rfl) (by kernel_rfl) (by intro u hu; simp at hu; rcases hu with rfl | rfl | rfl <;> rfl) ?_
       intro w2 hw2 hb2 hs2
       have c0:=cO hw2 0
       have c1:=cO hw2 1
       have c2:=cO hw2 2
       simp at c0 c1 c2
       have hB2:Below w.heap.size w w2:=But.below (hb1.alloc hb1.size _) hb2 hb1.size (by have:=hb1.size; simp; omega)
       clear hs2))
  go_ret
  exact ⟨rfl,hB2⟩
end Go.Proofs.YtkoonhiplicbkaaGreat.Cw
set_option maxHeartbeats 1000000
set_option maxRecDepth 100000
namespace Go.Proofs.YtkoonhiplicbkaaGreat.Cw
open Go Go.RowKit
def kp (id:Nat) (key:ByteArray):ByteArray:=if blockOf id<key.size then dg id key++noughts (blockOf id - szOf id) else key++noughts (blockOf id - key.size)
def ipad (id:Nat) (key:ByteArray):ByteArray:=xb 54 (kp id key)
def opad (id:Nat) (key:ByteArray):ByteArray:=xb 92 (kp id key)
def hm (id:Nat) (key msg:ByteArray):ByteArray:=dg id (opad id key++dg id (ipad id key++msg))
theorem kp_size {id:Nat} (h:isId id) (key:ByteArray):(kp id key).size=blockOf id:=by
 unfold kp
 have hb:=blk_lt h
 split
 ·rw [ByteArray.size_append,dg_sz h,noughts_size]; omega
 ·rw [ByteArray.size_append,noughts_size]; omega
theorem opad_size {id:Nat} (h:isId id) (key:ByteArray):(opad id key).size=blockOf id:=by rw [opad,xb_size,kp_size h]
theorem hm_size {id:Nat} (h:isId id) (key msg:ByteArray):(hm id key msg).size=szOf id:=dg_sz h _
theorem pad54 (s:ByteArray) (w:World) (hs:s.size≤140737488351232):Calls Tryz.prog 154 #[.string s,.int .u8 54] w fun e w'=>e=.returned (.string (xb 54 s))∧Below w.heap.size w w':=pad_calls s 54 w hs
theorem pad92 (s:ByteArray) (w:World) (hs:s.size≤140737488351232):Calls Tryz.prog 154 #[.string s,.int .u8 92] w fun e w'=>e=.returned (.string (xb 92 s))∧Below w.heap.size w w':=pad_calls s 92 w hs
theorem repeat0 (k:Nat) (w:World) (h:k≤1000):Calls Tryz.prog 28 #[.string ⟨#[0]⟩,.int .i64 k] w fun e w'=>e=.returned (.string (noughts k))∧Below w.heap.size w w':=by
 have e1:(⟨#[0]⟩:ByteArray).size=1:=rfl
 have e2:∀ k,Lib.repeatL (⟨#[0]⟩:ByteArray).data.toList k=List.replicate k 0:=by
  intro k
  induction k with
  | zero=>rfl
  | succ k ih=>show (⟨#[0]⟩:ByteArray).data.toList++Lib.repeatL (⟨#[0]⟩:ByteArray).data.toList k=_; rw [ih]; rfl
 have:=Tryz.strings_Repeat ⟨#[0]⟩ k w (by omega) (by rw [e1]; omega)
 rw [e2] at this
 exact this
def MacAt (w:World) (m b id:Nat) (p:Nat→Prop) (key msg:ByteArray):Prop:=
 ∃ s,p m∧w.heap[m]?=some (.cells #[.int .i64 id,.string (opad id key),.pointer (some ⟨s,0,none⟩)] 245 (0,0))∧StreamAt w s b id p (ipad id key++msg)
theorem MacAt.keep {w w':World} {m b id:Nat} {p:Nat→Prop} {key msg:ByteArray} (h:MacAt w m b id p key msg) (hs:w.heap.size≤w'.heap.size) (hb:w'.heap[b]?=w.heap[b]?) (hk:∀ g,p g→g<w.heap.size→w'.heap[g]?=w.heap[g]?):MacAt w' m b id p key msg:=by
 obtain ⟨s,pm,hm,hst⟩:=h
 exact ⟨s,pm,(hk _ pm (lt_of hm)).trans hm,hst.keep hs hb hk⟩
theorem MacAt.lt {w:World} {m b id:Nat} {p:Nat→Prop} {key msg:ByteArray} (h:MacAt w m b id p key msg):b<w.heap.size:=by
 obtain ⟨s,pm,hm,hst⟩:=h
 exact hst.lt
theorem MacAt.below {w w':World} {m b id:Nat} {p:Nat→Prop} {key msg:ByteArray} (h:MacAt w m b id p key msg) (hl:b<w.heap.size) (hb:Below w.heap.size w w'):MacAt w' m b id p key msg:=
 h.keep hb.size (hb.block b hl) fun g _ hg=>hb.block g hg
theorem MacAt.weak {w:World} {m b id:Nat} {p q:Nat→Prop} {key msg:ByteArray} (h:MacAt w m b id p key msg) (hq:∀ g,g<w.heap.size→p g→q g):MacAt w m b id q key msg:=by
 obtain ⟨s,pm,hm,hst⟩:=h
 exact ⟨s,hq _ (lt_of hm) pm,hm,hst.weak hq⟩
theorem MacAt.but {w w':World} {m b b' id:Nat} {p:Nat→Prop} {key msg:ByteArray} (h:MacAt w m b id p key msg) (hb:But b' w w') (hne:b≠b') (hp:∀ g,p g→g≠b'):MacAt w' m b id p key msg:=
 h.keep hb.size (hb.block b h.lt (by simpa using hne)) fun g hg hlt=>hb.block g hlt (by simpa using hp g hg)
theorem mac_yes (id:Nat) (key:ByteArray) (hi:isId id) (hs:key.size≤140737488351232) (w:World):Calls Tryz.prog 128 #[.int .i64 id,.string key] w fun e w'=>∃ m b,e=.returned (.tuple #[.pointer (some ⟨m,0,none⟩),.int .i64 0])∧(∀ p:Nat→Prop,(∀ g,w.heap.size≤g→g≠b→p g)→MacAt w' m b id p key ByteArray.empty)∧w.heap.size≤b∧b<w'.heap.size∧Below w.heap.size w w':=by
 have hbp:=blockOf_pos id
 have hsp:=szOf_pos id
 have hbs:=blk_lt hi
 go_enter Tryz.func128,Tryz.ntmps128
 go_wp2_with (fail)
 first | (with_reducible refine (strm_yes id hi _).mono ?_) | fail
 rintro e w1 ⟨s,b,rfl,hh1,hbl,hbs1,hb1⟩
 have HH1:=Hd (hh1 (fun g=>w.heap.size≤g∧g≠b) fun g h1 h=>⟨h1,h⟩)
 clear hh1
 go_wp2_with (fail)
 with_reducible refine (block_yes id hi _).mono ?_
 rintro e w2 ⟨rfl,hb2⟩
 have hB2:=hb1.trans (hb2.mono hb1.size)
 by_cases hl:blockOf id<key.size
 ·go_wp2_with (fail)
  with_reducible refine (hashOf_yes id key _ hi hs).mono ?_
  rintro e w3 ⟨rfl,hb3⟩
  have hB3:=hB2.trans (hb3.mono hB2.size)
  obtain ⟨r,hr⟩:∃ r,r=blockOf id - szOf id:=⟨_,rfl⟩
  have er:(blockOf id:Int) - (szOf id:Int)=(r:Int):=by omega
  have r1:r≤1000:=by omega
  have hdz:=dg_sz hi key
  have hkp:=Hd (show dg id key++noughts r=kp id key by rw [hr]; unfold kp; rw [if_pos hl])
  have hnz:=noughts_size r
  have hkz:=kp_size hi key
  have hk9:(kp id key).size≤140737488351232:=by omega
  have hi9:(xb 54 (kp id key)).size≤140737488351232:=by rw [xb_size]; exact hk9
  have hks:key.size≤9223372036854775807:=by omega
  clear hr
  go_wp2_with (fail)
  with_reducible refine (repeat0 r _ r1).mono ?_
  rintro e w4 ⟨rfl,hb4⟩
  have hB4:=hB3.trans (hb4.mono hB3.size)
  have hkp':=hkp.out
  go_wp2_with (fail)
  with_reducible refine (pad54 (kp id key) _ hk9).mono ?_
  rintro e w5 ⟨rfl,hb5⟩
  have hB5:=hB4.trans (hb5.mono hB4.size)
  have z1:=hb2.size
  have z2:=hb3.size
  have z3:=hb4.size
  have z4:=hb5.size
  have HH5:=Hd ((((HH1.out.below HH1.out.lt hb2).below (by omega) hb3).below (by omega) hb4).below (by omega) hb5)
  go_wp2_with (fail)
  with_reducible refine (strm_write0 s b id (fun g=>w.heap.size≤g∧g≠b) (xb 54 (kp id key)) w5 (fun g hg=>by constructor <;> omega) (fun g h=>h.2) hi9 HH5.out).mono ?_
  rintro e w6 ⟨rfl,hh6,hb6⟩
  have HH6:=Hd hh6
  clear hh6
  have hB6:Below w.heap.size w w6:=But.below hB5 hb6 hbl hB5.size
  go_wp2_with (fail)
  with_reducible refine (pad92 (kp id key) _ hk9).mono ?_
  rintro e w7 ⟨rfl,hb7⟩
  have HH7:=Hd (HH6.out.below HH6.out.lt hb7)
  have hB7:=hB6.trans (hb7.mono hB6.size)
  go_wp2
  go_ret2
  have z5:=hB6.size
  have z6:=hb7.size
  have z7:=hB5.size
  have z8:=HH7.out.lt
  have z9:=hB7.size
  refine ⟨w7.heap.size,b,rfl,fun p hp=>⟨s,hp _ z9 (by omega),new1 w7 _,?_⟩,hbl,by simp; omega,hB7.alloc z9 _⟩
  rw [ByteArray.append_empty]
  exact ((HH7.out.weak (q:=p) fun g _ h=>hp g h.1 h.2).below z8 ((Below.refl _ _).alloc (Nat.le_refl _) _))
 ·obtain ⟨w3,rfl⟩:∃ w3,w3=w2:=⟨_,rfl⟩
  have hB3:=hB2
  have hb3:=Below.refl w3.heap.size w3
  obtain ⟨r,hr⟩:∃ r,r=blockOf id - key.size:=⟨_,rfl⟩
  have er:(blockOf id:Int) - (key.size:Int)=(r:Int):=by omega
  have r1:r≤1000:=by omega
  have hkp:=Hd (show key++noughts r=kp id key by rw [hr]; unfold kp; rw [if_neg hl])
  have hnz:=noughts_size r
  have hkz:=kp_size hi key
  have hk9:(kp id key).size≤140737488351232:=by omega
  have hi9:(xb 54 (kp id key)).size≤140737488351232:=by rw [xb_size]; exact hk9
  have hks:key.size≤9223372036854775807:=by omega
  clear hr
  go_wp2_with (fail)
  with_reducible refine (repeat0 r _ r1).mono ?_
  rintro e w4 ⟨rfl,hb4⟩
  have hB4:=hB3.trans (hb4.mono hB3.size)
  have hkp':=hkp.out
  go_wp2_with (fail)
  with_reducible refine (pad54 (kp id key) _ hk9).mono ?_
  rintro e w5 ⟨rfl,hb5⟩
  have hB5:=hB4.trans (hb5.mono hB4.size)
  have z1:=hb2.size
  have z2:=hb3.size
  have z3:=hb4.size
  have z4:=hb5.size
  have HH5:=Hd ((((HH1.out.below HH1.out.lt hb2).below (by omega) hb3).below (by omega) hb4).below (by omega) hb5)
  go_wp2_with (fail)
  with_reducible refine (strm_write0 s b id (fun g=>w.heap.size≤g∧g≠b) (xb 54 (kp id key)) w5 (fun g hg=>by constructor <;> omega) (fun g h=>h.2) hi9 HH5.out).mono ?_
  rintro e w6 ⟨rfl,hh6,hb6⟩
  have HH6:=Hd hh6
  clear hh6
  have hB6:Below w.heap.size w w6:=But.below hB5 hb6 hbl hB5.size
  go_wp2_with (fail)
  with_reducible refine (pad92 (kp id key) _ hk9).mono ?_
  rintro e w7 ⟨rfl,hb7⟩
  have HH7:=Hd (HH6.out.below HH6.out.lt hb7)
  have hB7:=hB6.trans (hb7.mono hB6.size)
  go_wp2
  go_ret2
  have z5:=hB6.size
  have z6:=hb7.size
  have z7:=hB5.size
  have z8:=HH7.out.lt
  have z9:=hB7.size
  refine ⟨w7.heap.size,b,rfl,fun p hp=>⟨s,hp _ z9 (by omega),new1 w7 _,?_⟩,hbl,by simp; omega,hB7.alloc z9 _⟩
  rw [ByteArray.append_empty]
  exact ((HH7.out.weak (q:=p) fun g _ h=>hp g h.1 h.2).below z8 ((Below.refl _ _).alloc (Nat.le_refl _) _))
end Go.Proofs.YtkoonhiplicbkaaGreat.Cw
set_option maxRecDepth 100000
namespace Go.Proofs.YtkoonhiplicbkaaGreat.Cw
open Go Go.RowKit
theorem mac_write (m b id:Nat) (p:Nat→Prop) (key msg t:ByteArray) (w:World) (hp:∀ g,w.heap.size≤g→p g) (hpb:∀ g,p g→g≠b) (hs:t.size≤140737488351232) (hh:MacAt w m b id p key msg) :
  Calls Tryz.prog 129 #[.pointer (some ⟨m,0,none⟩),.string t] w fun e w'=>e=.returned (.int .i64 0)∧MacAt w' m b id p key (msg++t)∧But b w w':=by
 obtain ⟨s,pm,hm,hst⟩:=hh
 have HM:=Hd hm
 have HS:=Hd hst
 have c2:=cO hm 2
 simp at c2
 clear hm hst
 go_enter Tryz.func129,Tryz.ntmps129
 go_wp2_with (fail)
 with_reducible refine (strm_write s b id p _ t w hp hpb hs HS.out).mono ?_
 rintro e w1 ⟨rfl,hh1,hb1⟩
 have HH1:=Hd hh1
 clear hh1
 go_wp2
 go_ret
 exact ⟨rfl,⟨s,pm,hb1.heap (hpb _ pm) HM.out,by rw [← ByteArray.append_assoc]; exact HH1.out⟩,hb1⟩
theorem mac_sum (m b id:Nat) (p:Nat→Prop) (key msg:ByteArray) (w:World) (hi:isId id) (hh:MacAt w m b id p key msg) :
  Calls Tryz.prog 130 #[.pointer (some ⟨m,0,none⟩)] w fun e w'=>e=.returned (.string (hm id key msg))∧Below w.heap.size w w':=by
 obtain ⟨s,pm,hmm,hst⟩:=hh
 have HM:=Hd hmm
 have HS:=Hd hst
 have c0:=cO hmm 0
 have c1:=cO hmm 1
 have c2:=cO hmm 2
 have hlt:=lt_of hmm
 have hbl:=hst.lt
 have hoz:=opad_size hi key
 have hdz:=dg_sz hi (ipad id key++msg)
 have hbp:=blockOf_pos id
 have hsp:=szOf_pos id
 have hz9:(opad id key++dg id (ipad id key++msg)).size≤140737488351232:=by rw [ByteArray.size_append,hoz,hdz]; omega
 simp at c0 c1 c2
 clear hmm hst
 go_enter Tryz.func130,Tryz.ntmps130
 go_wp2
 refine wp_region_class_tail (fun w'=>Below w.heap.size w w') (Below.refl _ _).drew 19 (by kernel_rfl) (by kernel_rfl) ?_
 simp only [List.take_succ_cons,List.take_zero,List.drop_succ_cons,List.drop_zero]
 iterate 3 go_big_quiet_step ((exact fun _=>rfl))
 go_big_quiet_step ((intro hB; rw [hB.cell (p:=⟨m,0,none⟩) hlt,c0]; exact ⟨rfl,rfl⟩))
 iterate 3 go_big_quiet_step ((exact fun _=>rfl))
 go_big_quiet_step ((intro hB; rw [hB.cell (p:=⟨m,1,none⟩) hlt,c1]; exact ⟨rfl,rfl⟩))
 iterate 3 go_big_quiet_step ((exact fun _=>rfl))
 go_big_quiet_step ((intro hB; rw [hB.cell (p:=⟨m,2,none⟩) hlt,c2]; exact ⟨rfl,rfl⟩))
 refine BigFrame.wpQuiet_want rfl fun K hK=>⟨.string (dg id (ipad id key++msg)),fun w' hw'=>?_,hK _ ?_⟩
 ·go_simp
  refine (strm_sum s b id p _ w' hi (HS.out.below hbl hw')).mono ?_
  rintro e w'' ⟨he,hb'⟩
  exact ⟨he,hw'.trans (hb'.mono hw'.size)⟩
 clear hK K
 simp only [Act.put,List.setIfInBounds_toArray,List.set_cons_zero,List.set_cons_succ]
 go_big_quiet_step ((exact fun _=>rfl))
 refine BigFrame.wpQuiet_want rfl fun K hK=>⟨.tuple #[.string (hm id key msg),.int .i64 0],fun w' hw'=>?_,hK _ ?_⟩
 ·go_simp
  refine (hashOf_yes id _ w' hi hz9).mono ?_
  rintro e w'' ⟨he,hb'⟩
  exact ⟨he,hw'.trans (hb'.mono hw'.size)⟩
 clear hK K
 simp only [Act.put,List.setIfInBounds_toArray,List.set_cons_zero,List.set_cons_succ]
 iterate 4 go_big_quiet_step ((exact fun _=>rfl))
 refine wpQuiet_nil ?_
 rintro w1 hb1
 go_wp2
 go_ret
 exact ⟨rfl,hb1⟩
theorem hmacOf_yes (id:Nat) (key t:ByteArray) (w:World) (hi:isId id) (hk:key.size≤140737488351232) (hs:t.size≤140737488351232) :
  Calls Tryz.prog 103 #[.int .i64 id,.string key,.string t] w fun e w'=>e=.returned (.tuple #[.string (hm id key t),.int .i64 0])∧Below w.heap.size w w':=by
 go_enter Tryz.func103,Tryz.ntmps103
 go_wp2_with (fail)
 with_reducible refine (mac_yes id key hi hk w).mono ?_
 rintro e w1 ⟨m,b,rfl,hh1,hbl,hbs,hb1⟩
 have HH1:=Hd (hh1 (·≠b) fun g _ h=>h)
 clear hh1
 go_wp2_with (fail)
 with_reducible refine (mac_write m b id (·≠b) key ByteArray.empty t w1 (fun g hg=>by omega) (fun g h=>h) hs HH1.out).mono ?_
 rintro e w2 ⟨rfl,hh2,hb2⟩
 rw [ByteArray.empty_append] at hh2
 have HH2:=Hd hh2
 clear hh2
 have hB2:Below w.heap.size w w2:=But.below hb1 hb2 hbl hb1.size
 go_wp2_with (fail)
 with_reducible refine (mac_sum m b id (·≠b) key t w2 hi HH2.out).mono ?_
 rintro e w3 ⟨rfl,hb3⟩
 go_wp2
 go_ret2
 exact ⟨rfl,hB2.trans (hb3.mono hB2.size)⟩
end Go.Proofs.YtkoonhiplicbkaaGreat.Cw
