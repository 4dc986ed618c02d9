/-
  (package drbg) What a generator is in memory; mac, update. Condition: a text takes at most 2^46 bytes.
  (package drbg) update. Condition: a text takes at most 2^46 bytes.
  (package drbg) may: whether entropy, and what comes with it, may be. No condition.
  (package drbg) New, Reseed, Count. Condition: none but what each says.
  (package drbg) Generate. Condition: none but what each says.
  (package drbg) Generate, its good way: the bytes, and what is kept. Condition: the request is fine.
  (package curvetref7) The reference's generator: what it is in memory; update. Condition: a text takes at most 2^46 bytes.
  (package curvetref7) same: so many bytes of one value. Condition: at most a thousand.
  (package curvetref7) NewDrbg, Reseed. Condition: none but what each says.
  (package curvetref7) Reseed; Generate's refusals. Condition: none but what each says.
  (package curvetref7) Generate, its good way: the bytes, and what is kept. Condition: the request is fine.
  The two generators' methods once more, over a pair. Condition: none but what each says.
  (package curvetlaw11) What awake answers: true. No condition.
  'make([]byte, n)' and 'string(..)' of it: so many noughts; small numbers behind a mask. Condition: n is at most a thousand.
  Plain facts on what a generator gives: a longer request begins as a shorter one; when entropy may be. No condition but what each says.
-/
import Derived.Test.YtkoonhiplicbkaaGreatQk6
import Derived.Test.YtkoonhiplicbkaaGreatQk2
import Derived.BigQuiet
import Derived.Deep.QuietTactic
import Derived.Deep.RegionHeld3
import Derived.Deep.RegionWith
import Derived.Lib.LazyBuf
set_option linter.unusedSimpArgs false
set_option linter.unusedVariables false
set_option maxHeartbeats 1000000
set_option maxRecDepth 100000
namespace Go.Proofs.YtkoonhiplicbkaaGreat.Cw
open Go Go.RowKit
def stp (id:Nat) (s r:ByteArray) (kv:ByteArray × ByteArray):ByteArray × ByteArray:=(hm id kv.1 (kv.2++r++s),hm id (hm id kv.1 (kv.2++r++s)) kv.2)
def b0:ByteArray:=⟨#[0]⟩
def b1:ByteArray:=⟨#[1]⟩
def upd2 (id:Nat) (s:ByteArray) (kv:ByteArray × ByteArray):ByteArray × ByteArray:=if s.size=0 then stp id s b0 kv else stp id s b1 (stp id s b0 kv)
def fit (id:Nat) (kv:ByteArray × ByteArray):Prop:=kv.1.size=szOf id∧kv.2.size=szOf id
theorem stp_fit {id:Nat} (hi:isId id) (s r:ByteArray) (kv:ByteArray × ByteArray):fit id (stp id s r kv):=⟨hm_size hi _ _,hm_size hi _ _⟩
theorem upd2_fit {id:Nat} (hi:isId id) (s:ByteArray) (kv:ByteArray × ByteArray):fit id (upd2 id s kv):=by
  unfold upd2
  split
  · exact stp_fit hi _ _ _
  · exact stp_fit hi _ _ _
def DrbgAt (w:World) (d id:Nat) (kv:ByteArray × ByteArray) (n:Int):Prop:=w.heap[d]?=some (.cells #[.int .i64 id,.string kv.1,.string kv.2,.int .i64 n] 67 (0,0))
theorem DrbgAt.below {w w':World} {d id:Nat} {kv:ByteArray × ByteArray} {n:Int} (h:DrbgAt w d id kv n) (hb:Below w.heap.size w w'):DrbgAt w' d id kv n:=(hb.block d (lt_of h)).trans h
theorem DrbgAt.but {w w':World} {d d' id:Nat} {kv:ByteArray × ByteArray} {n:Int} (h:DrbgAt w d id kv n) (hb:But d' w w') (hne:d≠d'):DrbgAt w' d id kv n:=hb.heap hne h
theorem empty_list {t:ByteArray} (h:t.size=0):t.toList=[]:=by
  rw [ByteArray.toList_eq]; exact List.eq_nil_of_length_eq_zero (by simpa using h)
theorem filled_list {t:ByteArray} (h:t.size≠0):t.toList.isEmpty=false:=by
  rw [ByteArray.toList_eq]
  cases e:t.data.toList with
  | nil=>exact absurd (show t.size=0 by have:=congrArg List.length e; simpa using this) h
  | cons a l=>rfl
theorem dmac_calls (d id:Nat) (k v:ByteArray) (n:Int) (t:ByteArray) (w:World) (hi:isId id) (hk:k.size≤1000) (ht:t.size≤140737488351232) (hd:DrbgAt w d id (k,v) n) :
    Calls Tryz.prog 68 #[.pointer (some ⟨d,0,none⟩),.string t] w fun e w'=>e=.returned (.string (hm id k t))∧Below w.heap.size w w':=by
  have hlt:=lt_of hd
  have c0:=cO hd 0
  have c1:=cO hd 1
  simp at c0 c1
  have hk9:k.size≤140737488351232:=by omega
  clear hd
  go_enter Tryz.func68,Tryz.ntmps68
  go_wp2
  refine wp_region_class_tail (fun w'=>Below w.heap.size w w') (Below.refl _ _).drew 14 (by kernel_rfl) (by kernel_rfl) ?_
  simp only [List.take_succ_cons,List.take_zero,List.drop_succ_cons,List.drop_zero]
  iterate 3 go_big_quiet_step ((exact fun _=>rfl))
  go_big_quiet_step ((intro hB; rw [hB.cell (p:=⟨d,0,none⟩) hlt,c0]; exact ⟨rfl,rfl⟩))
  iterate 3 go_big_quiet_step ((exact fun _=>rfl))
  go_big_quiet_step ((intro hB; rw [hB.cell (p:=⟨d,1,none⟩) hlt,c1]; exact ⟨rfl,rfl⟩))
  go_big_quiet_step ((exact fun _=>rfl))
  refine BigFrame.wpQuiet_want rfl fun K hK=>⟨.tuple #[.string (hm id k t),.int .i64 0],fun w' hw'=>?_,hK _ ?_⟩
  · go_simp
    refine (hmacOf_yes id k t w' hi hk9 ht).mono ?_
    rintro e w'' ⟨he,hb'⟩
    exact ⟨he,hw'.trans (hb'.mono hw'.size)⟩
  clear hK K
  simp only [Act.put,List.setIfInBounds_toArray,List.set_cons_zero,List.set_cons_succ]
  iterate 4 go_big_quiet_step ((exact fun _=>rfl))
  refine wpQuiet_nil ?_
  rintro w1 hb1
  go_wp2
  go_ret
  exact ⟨rfl,hb1⟩
end Go.Proofs.YtkoonhiplicbkaaGreat.Cw
namespace Go.Proofs.YtkoonhiplicbkaaGreat.Cw
open Go Go.RowKit
theorem dupd_calls (d id:Nat) (k v:ByteArray) (n:Int) (t:ByteArray) (w:World) (hi:isId id) (hf:fit id (k,v)) (ht:t.size≤140737488350000) (hd:DrbgAt w d id (k,v) n) :
    Calls Tryz.prog 29 #[.pointer (some ⟨d,0,none⟩),.string t] w fun e w'=>e=.returned (.tuple #[])∧DrbgAt w' d id (upd2 id t (k,v)) n∧But d w w':=by
  have hsp:=szOf_pos id
  have HD:=Hd hd
  have hlt:=lt_of hd
  clear hd
  go_enter Tryz.func29,Tryz.ntmps29
  go_wp2
  go_loopw [8] (fun i wr=>∃ kv,fit id kv∧(i=.int .i64 0∧kv=(k,v)∨i=.int .i64 1∧kv=stp id t b0 (k,v)∨i=.int .i64 2∧t.size≠0∧kv=stp id t b1 (stp id t b0 (k,v)))∧DrbgAt wr d id kv n∧But d w wr) (fun i _=>2 - (intOf i).toNat)
  case atStart=>exact ⟨_,hf,.inl ⟨rfl,rfl⟩,HD.out,But.refl _ _⟩
  case round=>
    obtain ⟨⟨k',v'⟩,hf',hq,hdr,hbr⟩:=hrel
    have HR:=Hd hdr
    have c2:=cO hdr 2
    simp at c2
    have hk':k'.size≤1000:=by have:=hf'.1; simp at this; omega
    have hv':v'.size=szOf id:=hf'.2
    have hz:=hbr.size
    clear hdr
    have zb:b0.size=1:=rfl
    have hk2:(hm id k' (v'++b0++t)).size≤1000:=by rw [hm_size hi]; omega
    have hv9:v'.size≤140737488351232:=by omega
    have hcat:(v'++b0++t).size≤140737488351232:=by rw [ByteArray.size_append,ByteArray.size_append,hv',zb]; omega
    rcases hq with ⟨rfl,he⟩ | ⟨rfl,he⟩ | ⟨rfl,hne,he⟩
    · have HE:=Hd he
      clear he
      have e0:IntKind.u8.wrap 0=0:=by decide
      have hcv:∀ W:World,(convert 103 9 (.slice (some ⟨W.heap.size,0,none⟩) 1 1)).run Tryz.prog (W.alloc (.cells #[.int .u8 0] 5)).drew=.ok (.string b0) (W.alloc (.cells #[.int .u8 0] 5)).drew:=fun W=>run_convert_rd (w:=(W.alloc (.cells #[.int .u8 0] 5)).drew) (Rd.row [0] 1 rfl (fun _=>True) trivial (new1 W _) rfl) 103 9 5 Tryz.underlying103 Tryz.underlying5 Tryz.underlying9
      have HA:∀ o,Hid (DrbgAt (wr.alloc o).drew d id (k',v') n):=fun o=>Hd (alloc_far HR.out o)
      have hltr:d<wr.heap.size:=lt_of HR.out
      have hcA:∀ o,(wr.alloc o).cell? ⟨d,2,none⟩=some (.string v'):=fun o=>(cO (alloc_far HR.out o) 2)
      go_wp2
      go_region_with
        ((go_at_call 68
          refine (dmac_calls d id k' v' n (v'++b0++t) _ hi hk' hcat (HA _).out).mono ?_
          rintro e w2 ⟨rfl,hb2⟩
          have hd2:=(HA _).out.below hb2
          have kp:=cO hd2 2
          simp at kp
          have c1':=cO hd2 1
          have f1':=frozen_of hd2 1
          simp at c1'
          have hd3:=set_of hd2 1 (.string (hm id k' (v'++b0++t)))
          have kp2:=cO hd3 2
          simp at kp2
          have HB2:=Hd ((hbr.alloc _).drew.trans (But.of_below hb2))
          have HD2:=Hd hd2
          have HD3:=Hd (show DrbgAt (w2.setCell ⟨d,1,none⟩ (.string (hm id k' (v'++b0++t)))) d id (hm id k' (v'++b0++t),v') n from hd3)
          clear hd2 hd3))
      all_goals
        go_wp2_with (fail)
        with_reducible refine (dmac_calls d id (hm id k' (v'++b0++t)) v' n v' _ hi hk2 hv9 HD3.out).mono ?_
        rintro e w3 ⟨rfl,hb3⟩
        have hd4:=DrbgAt.below (kv:=(hm id k' (v'++b0++t),v')) HD3.out hb3
        have c2'':=cO hd4 2
        have f2'':=frozen_of hd4 2
        simp at c2''
        have HD5:=Hd (set_of hd4 2 (.string (hm id (hm id k' (v'++b0++t)) v')))
        have HB3:=Hd (((HB2.out.setCell (a:=⟨d,1,none⟩) (.inl rfl) (.string (hm id k' (v'++b0++t)))).trans (But.of_below hb3)).setCell (a:=⟨d,2,none⟩) (.inl rfl) (.string (hm id (hm id k' (v'++b0++t)) v')))
        clear hd4
        go_wp2
        go_roundw
        case rel=>exact ⟨_,stp_fit hi t b0 (k',v'),by rw [HE.out]; exact .inr (.inl ⟨rfl,rfl⟩),HD5.out,HB3.out⟩
        case measure=>simp [intOf]
    · have HE:=Hd he
      clear he
      have zb1:b1.size=1:=rfl
      have hcat1:(v'++b1++t).size≤140737488351232:=by rw [ByteArray.size_append,ByteArray.size_append,hv',zb1]; omega
      have hk2:(hm id k' (v'++b1++t)).size≤1000:=by rw [hm_size hi]; omega
      by_cases ht0:t.size=0
      · have HT0:=Hd ht0
        have ht1:=empty_list ht0
        clear ht0
        go_wp2
        refine bodyPost_ret (v:=.tuple #[]) (by simp [results,Tryz.results29,go_sem]) rfl ⟨rfl,?_,hbr⟩
        unfold upd2
        rw [if_pos HT0.out,← HE.out]
        exact HR.out
      · have ht1:=filled_list ht0
        have e0:IntKind.u8.wrap 1=1:=by decide
        have hcv:∀ W:World,(convert 103 9 (.slice (some ⟨W.heap.size,0,none⟩) 1 1)).run Tryz.prog (W.alloc (.cells #[.int .u8 1] 5)).drew=.ok (.string b1) (W.alloc (.cells #[.int .u8 1] 5)).drew:=fun W=>run_convert_rd (w:=(W.alloc (.cells #[.int .u8 1] 5)).drew) (Rd.row [1] 1 rfl (fun _=>True) trivial (new1 W _) rfl) 103 9 5 Tryz.underlying103 Tryz.underlying5 Tryz.underlying9
        have HA:∀ o,Hid (DrbgAt (wr.alloc o).drew d id (k',v') n):=fun o=>Hd (alloc_far HR.out o)
        have hltr:d<wr.heap.size:=lt_of HR.out
        have hcA:∀ o,(wr.alloc o).cell? ⟨d,2,none⟩=some (.string v'):=fun o=>(cO (alloc_far HR.out o) 2)
        go_wp2
        go_region_with
          ((go_at_call 68
            refine (dmac_calls d id k' v' n (v'++b1++t) _ hi hk' hcat1 (HA _).out).mono ?_
            rintro e w2 ⟨rfl,hb2⟩
            have hd2:=(HA _).out.below hb2
            have kp:=cO hd2 2
            simp at kp
            have c1':=cO hd2 1
            have f1':=frozen_of hd2 1
            simp at c1'
            have hd3:=set_of hd2 1 (.string (hm id k' (v'++b1++t)))
            have kp2:=cO hd3 2
            simp at kp2
            have HB2:=Hd ((hbr.alloc _).drew.trans (But.of_below hb2))
            have HD2:=Hd hd2
            have HD3:=Hd (show DrbgAt (w2.setCell ⟨d,1,none⟩ (.string (hm id k' (v'++b1++t)))) d id (hm id k' (v'++b1++t),v') n from hd3)
            clear hd2 hd3))
        all_goals
          go_wp2_with (fail)
          with_reducible refine (dmac_calls d id (hm id k' (v'++b1++t)) v' n v' _ hi hk2 hv9 HD3.out).mono ?_
          rintro e w3 ⟨rfl,hb3⟩
          have hd4:=DrbgAt.below (kv:=(hm id k' (v'++b1++t),v')) HD3.out hb3
          have c2'':=cO hd4 2
          have f2'':=frozen_of hd4 2
          simp at c2''
          have HD5:=Hd (set_of hd4 2 (.string (hm id (hm id k' (v'++b1++t)) v')))
          have HB3:=Hd (((HB2.out.setCell (a:=⟨d,1,none⟩) (.inl rfl) (.string (hm id k' (v'++b1++t)))).trans (But.of_below hb3)).setCell (a:=⟨d,2,none⟩) (.inl rfl) (.string (hm id (hm id k' (v'++b1++t)) v')))
          clear hd4
          go_wp2
          go_roundw
          case rel=>exact ⟨_,stp_fit hi t b1 (k',v'),by rw [HE.out]; exact .inr (.inr ⟨rfl,ht0,rfl⟩),HD5.out,HB3.out⟩
          case measure=>simp [intOf]
    · have HE:=Hd he
      clear he
      go_wp2
      go_end0
      refine ⟨rfl,?_,hbr⟩
      unfold upd2
      rw [if_neg hne,← HE.out]
      exact HR.out
end Go.Proofs.YtkoonhiplicbkaaGreat.Cw
namespace Go.Proofs.YtkoonhiplicbkaaGreat.Cw
open Go Go.RowKit
def mayB (id:Nat) (ent:ByteArray) (zs:List ByteArray):Bool:=decide (szOf id / 2≤ent.size∧ent.size≤256) && zs.all fun z=>decide (z.size≤256)
theorem may_yes (id:Nat) (ent:ByteArray) (zs:List ByteArray) (g:Nat) (w:World) (hi:isId id) (hm:mayB id ent zs=true) (hl:zs.length≤1000) (hg:g<w.heap.size) (hc:∀ i,i<zs.length→w.cell? ⟨g,i,none⟩=some (.string (zs.getD i ByteArray.empty))) :
    Calls Tryz.prog 27 #[.int .i64 id,.string ent,.slice (some ⟨g,0,none⟩) zs.length zs.length] w fun e w'=>e=.returned (.int .i64 0)∧Below w.heap.size w w':=by
  simp only [mayB,Bool.and_eq_true,decide_eq_true_eq,List.all_eq_true] at hm
  obtain ⟨⟨h1,h2⟩,h3⟩:=hm
  have hsp:=szOf_pos id
  have h4:∀ i,i<zs.length→(zs.getD i ByteArray.empty).size≤256:=fun i hi=>h3 _ (by simp [hi])
  have H4:=Hd h4
  have HC:=Hd hc
  have e1:¬ (ent.size:Int)<(szOf id:Int) / 2:=by omega
  have e2:¬ (256:Int)<(ent.size:Int):=by omega
  have d1:decide ((ent.size:Int)<(szOf id:Int) / 2)=false:=decide_eq_false e1
  have d2:decide ((256:Int)<(ent.size:Int))=false:=decide_eq_false e2
  have d3:decide (256<ent.size)=false:=decide_eq_false (by omega)
  clear h3 h4 hc e1 e2
  go_enter Tryz.func27,Tryz.ntmps27
  go_wp2_with (fail)
  with_reducible refine (hsize id hi _).mono ?_
  rintro e w1 ⟨rfl,hb1⟩
  go_wp2
  go_loop [22] (fun i=>∃ k:Nat,k≤zs.length∧i=.int .i64 k) (fun i=>zs.length - (intOf i).toNat)
  case atStart=>exact ⟨0,Nat.zero_le _,rfl⟩
  case round=>
    obtain ⟨k,hk,rfl⟩:=hrel
    by_cases hlt:k<zs.length
    · have hcell:w1.cell? ⟨g,k,none⟩=some (.string (zs.getD k ByteArray.empty)):=(hb1.cell (p:=⟨g,k,none⟩) hg).trans (HC.out k hlt)
      have hz:=H4.out k hlt
      obtain ⟨z,hze⟩:∃ z,z=zs.getD k ByteArray.empty:=⟨_,rfl⟩
      rw [← hze] at hcell hz
      clear hze
      have d4:decide (256<z.size)=false:=decide_eq_false (by omega)
      go_wp2
      go_round
      case rel=>exact ⟨k+1,by omega,by go_num⟩
      case measure=>simp [intOf]; omega
    · go_wp2
      go_ret
      exact ⟨rfl,hb1⟩
end Go.Proofs.YtkoonhiplicbkaaGreat.Cw
namespace Go.Proofs.YtkoonhiplicbkaaGreat.Cw
open Go Go.RowKit
def ones (k:Nat):ByteArray:=⟨(List.replicate k 1).toArray⟩
theorem ones_size (k:Nat):(ones k).size=k:=by show (List.replicate k (1:UInt8)).toArray.size=k; simp
theorem repeat1 (k:Nat) (w:World) (h:k≤1000):Calls Tryz.prog 28 #[.string ⟨#[1]⟩,.int .i64 k] w fun e w'=>e=.returned (.string (ones k))∧Below w.heap.size w w':=by
  have e1:(⟨#[1]⟩:ByteArray).size=1:=rfl
  have e2:∀ k,Lib.repeatL (⟨#[1]⟩:ByteArray).data.toList k=List.replicate k 1:=by
    intro k
    induction k with
    | zero=>rfl
    | succ k ih=>show (⟨#[1]⟩:ByteArray).data.toList++Lib.repeatL (⟨#[1]⟩:ByteArray).data.toList k=_; rw [ih]; rfl
  have:=Tryz.strings_Repeat ⟨#[1]⟩ k w (by omega) (by rw [e1]; omega)
  rw [e2] at this
  exact this
theorem two_cells {w:World} {g:Nat} {a b:ByteArray} {t:TypeId} {fr:Nat × Nat} (h:w.heap[g]?=some (.cells #[.string a,.string b] t fr)):∀ i,i < [a,b].length→w.cell? ⟨g,i,none⟩=some (.string ([a,b].getD i ByteArray.empty)):=by
  intro i hi
  rw [cO h]
  have:i=0∨i=1:=by simp at hi; omega
  rcases this with rfl | rfl <;> rfl
theorem may2_yes (id:Nat) (ent a b:ByteArray) (w:World) (hi:isId id) (t:TypeId) (fr:Nat × Nat) (g:Nat) (hm:mayB id ent [a,b]=true) (h:w.heap[g]?=some (.cells #[.string a,.string b] t fr)) :
    Calls Tryz.prog 27 #[.int .i64 id,.string ent,.slice (some ⟨g,0,none⟩) 2 2] w fun e w'=>e=.returned (.int .i64 0)∧Below w.heap.size w w':=may_yes id ent [a,b] g w hi hm (by simp) (lt_of h) (two_cells h)
theorem may2_le {id:Nat} {ent a b:ByteArray} (h:mayB id ent [a,b]=true):ent.size≤256∧a.size≤256∧b.size≤256:=by
  simp [mayB] at h; omega
theorem dnew_yes (id:Nat) (ent a b:ByteArray) (w:World) (hi:isId id) (hm:mayB id ent [a,b]=true) :
    Calls Tryz.prog 9 #[.int .i64 id,.string ent,.string a,.string b] w fun e w'=>∃ d,e=.returned (.tuple #[.pointer (some ⟨d,0,none⟩),.int .i64 0])∧DrbgAt w' d id (upd2 id (ent++a++b) (noughts (szOf id),ones (szOf id))) 1∧w.heap.size≤d∧Below w.heap.size w w':=by
  have hz:=szOf_ne id
  have hsp:=szOf_pos id
  have hle:=may2_le hm
  have hs9:szOf id≤1000:=by omega
  have hcat:(ent++a++b).size≤140737488350000:=by rw [ByteArray.size_append,ByteArray.size_append]; omega
  have HM:=Hd hm
  clear hm
  go_enter Tryz.func9,Tryz.ntmps9
  go_wp2_with (fail)
  with_reducible refine (hsize id hi _).mono ?_
  rintro e w1 ⟨rfl,hb1⟩
  go_wp2_with (fail)
  with_reducible refine (may2_yes id ent a b _ hi _ _ _ HM.out (new1 w1 _)).mono ?_
  rintro e w2 ⟨rfl,hb2⟩
  have hB2:Below w.heap.size w w2:=(hb1.alloc hb1.size _).trans (hb2.mono (Nat.le_trans hb1.size (by simp)))
  go_wp2_with (fail)
  with_reducible refine (repeat0 (szOf id) _ hs9).mono ?_
  rintro e w3 ⟨rfl,hb3⟩
  have hB3:=hB2.trans (hb3.mono hB2.size)
  go_wp2_with (fail)
  with_reducible refine (repeat1 (szOf id) _ hs9).mono ?_
  rintro e w4 ⟨rfl,hb4⟩
  have hB4:=hB3.trans (hb4.mono hB3.size)
  have z1:ent.size≤256:=hle.1
  have z2:a.size≤256:=hle.2.1
  have z3:b.size≤256:=hle.2.2
  have hfit:fit id (noughts (szOf id),ones (szOf id)):=⟨noughts_size _,ones_size _⟩
  go_wp2_with (fail)
  first | (with_reducible refine (dupd_calls w4.heap.size id (noughts (szOf id)) (ones (szOf id)) 1 (ent++a++b) _ hi hfit hcat (new1 w4 _)).mono ?_) | (refine (dupd_calls w4.heap.size id (noughts (szOf id)) (ones (szOf id)) 1 (ent++a++b) _ hi hfit hcat (new1 w4 _)).mono ?_)
  rintro e w5 ⟨rfl,hd5,hb5⟩
  have HD5:=Hd hd5
  clear hd5
  have hB5:Below w.heap.size w w5:=But.below (hB4.alloc hB4.size _) hb5 hB4.size (Nat.le_trans hB4.size (by simp))
  go_wp2
  go_ret2
  exact ⟨_,rfl,HD5.out,hB4.size,hB5⟩
end Go.Proofs.YtkoonhiplicbkaaGreat.Cw
namespace Go.Proofs.YtkoonhiplicbkaaGreat.Cw
open Go Go.RowKit
def vN (id:Nat) (kv:ByteArray × ByteArray):Nat→ByteArray
  | 0=>kv.2
  | n+1=>hm id kv.1 (vN id kv n)
def oN (id:Nat) (kv:ByteArray × ByteArray):Nat→ByteArray
  | 0=>ByteArray.empty
  | n+1=>oN id kv n++vN id kv (n+1)
theorem oN_size {id:Nat} (hi:isId id) (kv:ByteArray × ByteArray):∀ n,(oN id kv n).size=n*szOf id
  | 0=>by simp [oN]
  | n+1=>by rw [oN,ByteArray.size_append,oN_size hi kv n,vN,hm_size hi,Nat.add_mul,Nat.one_mul]
theorem vN_size {id:Nat} (hi:isId id) (kv:ByteArray × ByteArray) (h:kv.2.size=szOf id):∀ n,(vN id kv n).size=szOf id
  | 0=>h
  | n+1=>hm_size hi _ _
def nbl (id size:Nat):Nat:=(size+szOf id - 1) / szOf id
theorem nbl_eq (id size n:Nat) (h1:size≤n*szOf id) (h2:n*szOf id<size+szOf id):n=nbl id size:=by
  have hs:=szOf_pos id
  unfold nbl
  symm
  apply Nat.div_eq_of_lt_le
  · omega
  · rw [Nat.add_mul,Nat.one_mul]; omega
def pre (id:Nat) (more:ByteArray) (kv:ByteArray × ByteArray):ByteArray × ByteArray:=if more.size=0 then kv else upd2 id more kv
def genO (id:Nat) (kv:ByteArray × ByteArray) (size:Nat) (more:ByteArray):ByteArray:=(oN id (pre id more kv) (nbl id size)).extract 0 size
def genK (id:Nat) (kv:ByteArray × ByteArray) (size:Nat) (more:ByteArray):ByteArray × ByteArray:=upd2 id more ((pre id more kv).1,vN id (pre id more kv) (nbl id size))
theorem genK_fit {id:Nat} (hi:isId id) (kv:ByteArray × ByteArray) (size:Nat) (more:ByteArray):fit id (genK id kv size more):=upd2_fit hi _ _
theorem dgen_reseed (d id:Nat) (kv:ByteArray × ByteArray) (n:Int) (size:Int) (more:ByteArray) (w:World) (h0:0≤size) (h1:size≤256) (h2:more.size≤256) (hn:64<n) (hd:DrbgAt w d id kv n) :
    Calls Tryz.prog 35 #[.pointer (some ⟨d,0,none⟩),.int .i64 size,.string more] w fun e w'=>e=.returned (.tuple #[.string ByteArray.empty,.int .i64 1103])∧w=w':=by
  have c3:=cO hd 3
  simp at c3
  have e1:¬ size<0:=by omega
  have e2:¬ 256<size:=by omega
  have d3:decide (256<more.size)=false:=decide_eq_false (by omega)
  clear hd
  go_enter Tryz.func35,Tryz.ntmps35
  go_wp2; go_ret2; exact ⟨rfl,rfl⟩
end Go.Proofs.YtkoonhiplicbkaaGreat.Cw
namespace Go.Proofs.YtkoonhiplicbkaaGreat.Cw
open Go Go.RowKit
def strSize:Value→Nat | .string s=>s.size | _=>0
theorem dgen_yes (d id:Nat) (k v:ByteArray) (n:Int) (size:Nat) (more:ByteArray) (w:World) (hi:isId id) (hf:fit id (k,v)) (h1:size≤256) (h2:more.size≤256) (hn0:0≤n) (hn:n≤64) (hd:DrbgAt w d id (k,v) n) :
    Calls Tryz.prog 35 #[.pointer (some ⟨d,0,none⟩),.int .i64 size,.string more] w fun e w'=>e=.returned (.tuple #[.string (genO id (k,v) size more),.int .i64 0])∧DrbgAt w' d id (genK id (k,v) size more) (n+1)∧But d w w':=by
  have c3:=cO hd 3
  simp at c3
  have hsp:=szOf_pos id
  have d1:decide ((size:Int)<0)=false:=by simp; try omega
  have d2:decide (256<(size:Int))=false:=by simp; omega
  have d3:decide (256<more.size)=false:=decide_eq_false (by omega)
  have d4:decide (64<n)=false:=decide_eq_false (by omega)
  have hm9:more.size≤140737488350000:=by omega
  have HD:=Hd hd
  clear hd
  go_enter Tryz.func35,Tryz.ntmps35
  by_cases hm0:more.size=0
  · have hl:=empty_list hm0
    have HP':=Hd (show (k,v)=pre id more (k,v) by unfold pre; rw [if_pos hm0])
    obtain ⟨kv1,hkv⟩:∃ kv1,kv1=(k,v):=⟨_,rfl⟩
    have HP:=Hd (show kv1=pre id more (k,v) by rw [hkv]; exact HP'.out)
    have HD1:=Hd (show DrbgAt w d id kv1 n by rw [hkv]; exact HD.out)
    have hf1:fit id kv1:=by rw [hkv]; exact hf
    have hB1:=But.refl d w
    clear hm0 hkv
    go_wp2
    obtain ⟨k1,v1⟩:=kv1
    go_loopw [8] (fun v wr=>∃ q L:Nat,q≤10∧Hid (L=q*szOf id)∧L<size+szOf id∧v=.string (oN id (k1,v1) q)∧DrbgAt wr d id (k1,vN id (k1,v1) q) n∧But d w wr) (fun v _=>size+100 - strSize v)
    case atStart=>exact ⟨0,0,by omega,Hd (by omega),by omega,rfl,HD1.out,hB1⟩
    case round=>
      obtain ⟨q,L,hq,HL,hLs,rfl,hdr,hbr⟩:=hrel
      have HR:=Hd hdr
      have c2:=cO hdr 2
      have f2:=frozen_of hdr 2
      simp at c2
      have hsz:(oN id (k1,v1) q).size=L:=by rw [oN_size hi,HL.out]
      have hL28:q*28≤L:=by rw [HL.out]; exact Nat.mul_le_mul_left _ hsp.1
      have hvz:=vN_size hi (k1,v1) hf1.2 q
      have hv9:(vN id (k1,v1) q).size≤140737488351232:=by omega
      have hk9:k1.size≤1000:=by have:=hf1.1; simp only at this; omega
      clear hdr
      by_cases hlt:L<size
      · go_wp2_with (fail)
        with_reducible refine (dmac_calls d id k1 (vN id (k1,v1) q) n (vN id (k1,v1) q) _ hi hk9 hv9 HR.out).mono ?_
        rintro e w4 ⟨rfl,hb4⟩
        have hd4:=DrbgAt.below HR.out hb4
        have c2':=cO hd4 2
        have f2':=frozen_of hd4 2
        simp at c2'
        have HD5:=Hd (show DrbgAt (w4.setCell ⟨d,2,none⟩ (.string (hm id k1 (vN id (k1,v1) q)))) d id (k1,vN id (k1,v1) (q+1)) n from set_of hd4 2 (.string (hm id k1 (vN id (k1,v1) q))))
        have c25:=cO HD5.out 2
        simp at c25
        have hvz5:=vN_size hi (k1,v1) hf1.2 (q+1)
        have hB5:=((hbr.trans (But.of_below hb4)).setCell (a:=⟨d,2,none⟩) (.inl rfl) (.string (hm id k1 (vN id (k1,v1) q))))
        have HB5:=Hd hB5
        have HL1:=Hd (show L+szOf id=(q+1)*szOf id by rw [Nat.add_mul,Nat.one_mul,← HL.out])
        have hsz5:(oN id (k1,v1) (q+1)).size=L+szOf id:=by rw [oN_size hi,HL1.out]
        clear hd4 hB5
        go_wp2
        go_roundw
        case rel=>exact ⟨q+1,L+szOf id,by omega,HL1,by omega,rfl,HD5.out,HB5.out⟩
        case measure=>show size+100 - (oN id (k1,v1) (q+1)).size<size+100 - (oN id (k1,v1) q).size; rw [hsz,hsz5]; omega
      · have hnb:=nbl_eq id size q (by rw [← HL.out]; omega) (by rw [← HL.out]; exact hLs)
        have HNB:=Hd hnb
        clear hnb
        have hfq:fit id (k1,vN id (k1,v1) q):=⟨hf1.1,hvz⟩
        go_wp2_with (fail)
        with_reducible refine (dupd_calls d id k1 (vN id (k1,v1) q) n more _ hi hfq hm9 HR.out).mono ?_
        rintro e w5 ⟨rfl,hd5,hb5⟩
        have c3':=cO hd5 3
        have f3':=frozen_of hd5 3
        simp at c3'
        have HD6:=Hd (show DrbgAt (w5.setCell ⟨d,3,none⟩ (.int .i64 (n+1))) d id (upd2 id more (k1,vN id (k1,v1) q)) (n+1) from set_of hd5 3 (.int .i64 (n+1)))
        have HB6:=Hd ((hbr.trans hb5).setCell (a:=⟨d,3,none⟩) (.inl rfl) (.int .i64 (n+1)))
        clear hd5
        go_wp2
        go_ret2
        refine ⟨?_,?_,HB6.out⟩
        · show Ending.returned (.tuple #[.string ((oN id (k1,v1) q).extract 0 size),.int .i64 0])=_
          unfold genO
          rw [← HP.out,← HNB.out]
        · unfold genK
          rw [← HP.out,← HNB.out]
          exact HD6.out
  · have hl:=filled_list hm0
    go_wp2_with (fail)
    with_reducible refine (dupd_calls d id k v n more _ hi hf hm9 HD.out).mono ?_
    rintro e w1 ⟨rfl,hd1,hB1⟩
    obtain ⟨kv1,hkv⟩:∃ kv1,kv1=upd2 id more (k,v):=⟨_,rfl⟩
    have HP:=Hd (show kv1=pre id more (k,v) by rw [hkv]; unfold pre; rw [if_neg hm0])
    rw [← hkv] at hd1
    have HD1:=Hd hd1
    have hf1:fit id kv1:=by rw [hkv]; exact upd2_fit hi _ _
    clear hm0 hkv hd1 c3
    go_wp2
    obtain ⟨k1,v1⟩:=kv1
    go_loopw [8] (fun v wr=>∃ q L:Nat,q≤10∧Hid (L=q*szOf id)∧L<size+szOf id∧v=.string (oN id (k1,v1) q)∧DrbgAt wr d id (k1,vN id (k1,v1) q) n∧But d w wr) (fun v _=>size+100 - strSize v)
    case atStart=>exact ⟨0,0,by omega,Hd (by omega),by omega,rfl,HD1.out,hB1⟩
    case round=>
      obtain ⟨q,L,hq,HL,hLs,rfl,hdr,hbr⟩:=hrel
      have HR:=Hd hdr
      have c2:=cO hdr 2
      have f2:=frozen_of hdr 2
      simp at c2
      have hsz:(oN id (k1,v1) q).size=L:=by rw [oN_size hi,HL.out]
      have hL28:q*28≤L:=by rw [HL.out]; exact Nat.mul_le_mul_left _ hsp.1
      have hvz:=vN_size hi (k1,v1) hf1.2 q
      have hv9:(vN id (k1,v1) q).size≤140737488351232:=by omega
      have hk9:k1.size≤1000:=by have:=hf1.1; simp only at this; omega
      clear hdr
      by_cases hlt:L<size
      · go_wp2_with (fail)
        with_reducible refine (dmac_calls d id k1 (vN id (k1,v1) q) n (vN id (k1,v1) q) _ hi hk9 hv9 HR.out).mono ?_
        rintro e w4 ⟨rfl,hb4⟩
        have hd4:=DrbgAt.below HR.out hb4
        have c2':=cO hd4 2
        have f2':=frozen_of hd4 2
        simp at c2'
        have HD5:=Hd (show DrbgAt (w4.setCell ⟨d,2,none⟩ (.string (hm id k1 (vN id (k1,v1) q)))) d id (k1,vN id (k1,v1) (q+1)) n from set_of hd4 2 (.string (hm id k1 (vN id (k1,v1) q))))
        have c25:=cO HD5.out 2
        simp at c25
        have hvz5:=vN_size hi (k1,v1) hf1.2 (q+1)
        have hB5:=((hbr.trans (But.of_below hb4)).setCell (a:=⟨d,2,none⟩) (.inl rfl) (.string (hm id k1 (vN id (k1,v1) q))))
        have HB5:=Hd hB5
        have HL1:=Hd (show L+szOf id=(q+1)*szOf id by rw [Nat.add_mul,Nat.one_mul,← HL.out])
        have hsz5:(oN id (k1,v1) (q+1)).size=L+szOf id:=by rw [oN_size hi,HL1.out]
        clear hd4 hB5
        go_wp2
        go_roundw
        case rel=>exact ⟨q+1,L+szOf id,by omega,HL1,by omega,rfl,HD5.out,HB5.out⟩
        case measure=>show size+100 - (oN id (k1,v1) (q+1)).size<size+100 - (oN id (k1,v1) q).size; rw [hsz,hsz5]; omega
      · have hnb:=nbl_eq id size q (by rw [← HL.out]; omega) (by rw [← HL.out]; exact hLs)
        have HNB:=Hd hnb
        clear hnb
        have hfq:fit id (k1,vN id (k1,v1) q):=⟨hf1.1,hvz⟩
        go_wp2_with (fail)
        with_reducible refine (dupd_calls d id k1 (vN id (k1,v1) q) n more _ hi hfq hm9 HR.out).mono ?_
        rintro e w5 ⟨rfl,hd5,hb5⟩
        have c3':=cO hd5 3
        have f3':=frozen_of hd5 3
        simp at c3'
        have HD6:=Hd (show DrbgAt (w5.setCell ⟨d,3,none⟩ (.int .i64 (n+1))) d id (upd2 id more (k1,vN id (k1,v1) q)) (n+1) from set_of hd5 3 (.int .i64 (n+1)))
        have HB6:=Hd ((hbr.trans hb5).setCell (a:=⟨d,3,none⟩) (.inl rfl) (.int .i64 (n+1)))
        clear hd5
        go_wp2
        go_ret2
        refine ⟨?_,?_,HB6.out⟩
        · show Ending.returned (.tuple #[.string ((oN id (k1,v1) q).extract 0 size),.int .i64 0])=_
          unfold genO
          rw [← HP.out,← HNB.out]
        · unfold genK
          rw [← HP.out,← HNB.out]
          exact HD6.out
end Go.Proofs.YtkoonhiplicbkaaGreat.Cw
namespace Go.Proofs.YtkoonhiplicbkaaGreat.Cw
open Go Go.RowKit
end Go.Proofs.YtkoonhiplicbkaaGreat.Cw
namespace Go.Proofs.YtkoonhiplicbkaaGreat.Cw
open Go Go.RowKit
attribute [local go_sem ↓ high] cells_v8 run_store_v8
attribute [local go_sem high] match_v8 run_store_v8
def fill (x:UInt8) (n k:Nat):List UInt8:=List.replicate k x++List.replicate (n - k) 0
end Go.Proofs.YtkoonhiplicbkaaGreat.Cw
namespace Go.Proofs.YtkoonhiplicbkaaGreat.Cw
open Go Go.RowKit
end Go.Proofs.YtkoonhiplicbkaaGreat.Cw
namespace Go.Proofs.YtkoonhiplicbkaaGreat.Cw
open Go Go.RowKit
end Go.Proofs.YtkoonhiplicbkaaGreat.Cw
namespace Go.Proofs.YtkoonhiplicbkaaGreat.Cw
open Go Go.RowKit
end Go.Proofs.YtkoonhiplicbkaaGreat.Cw
namespace Go.Proofs.YtkoonhiplicbkaaGreat.Cw
open Go Go.RowKit
theorem genO_size {id:Nat} (hi:isId id) (kv:ByteArray × ByteArray) (size:Nat) (more:ByteArray):(genO id kv size more).size=size:=by
 have hs:=szOf_pos id
 unfold genO
 rw [ByteArray.size_extract,oN_size hi]
 unfold nbl
 have h1:=Nat.div_add_mod (size+szOf id - 1) (szOf id)
 have h2:=Nat.mod_lt (size+szOf id - 1) (show 0<szOf id by omega)
 rw [Nat.mul_comm] at h1
 omega
theorem dgen_ok (d id:Nat) (kv:ByteArray × ByteArray) (n c:Int) (size:Nat) (more:ByteArray) (w:World) (hi:isId id) (hf:fit id kv) (hc:c=(size:Int)) (h1:size≤256) (h2:more.size≤256) (hn0:0≤n) (hn:n≤64) (hd:DrbgAt w d id kv n) :
  Calls Tryz.prog 35 #[.pointer (some ⟨d,0,none⟩),.int .i64 c,.string more] w fun e w'=>e=.returned (.tuple #[.string (genO id kv size more),.int .i64 0])∧DrbgAt w' d id (genK id kv size more) (n+1)∧But d w w':=by
 subst hc
 obtain ⟨k,v⟩:=kv
 exact dgen_yes d id k v n size more w hi hf h1 h2 hn0 hn hd
def kv0 (id:Nat) (t:ByteArray):ByteArray × ByteArray:=upd2 id t (noughts (szOf id),ones (szOf id))
theorem kv0_fit {id:Nat} (hi:isId id) (t:ByteArray):fit id (kv0 id t):=upd2_fit hi _ _
theorem dnew_ok (id:Nat) (ent a b:ByteArray) (w:World) (hi:isId id) (hm:mayB id ent [a,b]=true) :
  Calls Tryz.prog 9 #[.int .i64 id,.string ent,.string a,.string b] w fun e w'=>∃ d,e=.returned (.tuple #[.pointer (some ⟨d,0,none⟩),.int .i64 0])∧DrbgAt w' d id (kv0 id (ent++a++b)) 1∧w.heap.size≤d∧Below w.heap.size w w':=dnew_yes id ent a b w hi hm
end Go.Proofs.YtkoonhiplicbkaaGreat.Cw
namespace Go.Proofs.YtkoonhiplicbkaaGreat.Cw
open Go Go.RowKit
end Go.Proofs.YtkoonhiplicbkaaGreat.Cw
namespace Go.Proofs.YtkoonhiplicbkaaGreat.Cw
open Go Go.RowKit
section
variable {ops:Array Oper} {rest:List Oper} {o:Oper} {a:Act} {w:World} {Q:Exit→Act→World→Prop}
end
def nulls (n:Nat):Array Value:=fa v8 n fun _=>0
theorem run_make_nulls (n:Nat) (hn:n≤1000) (w:World):(Instr.makeSlice 103 (.int .i64 (n:Int)) (.int .i64 (n:Int))).run Tryz.prog w=.ok (.slice (some ⟨w.heap.size,0,none⟩) n n) (w.alloc (.cells (nulls n) 5)):=by
 obtain ⟨i0,hi,hz0,hz1,hz2⟩:=info_parts info_u8
 have h:=run_make w 103 5 i0 (.int .u8 0) Tryz.underlying103 hi hz0 .i64 .i64 (n:Int) (n:Int) (by omega) (Int.le_refl _) (by rw [hz2]; omega) (by omega)
 rw [Int.toNat_natCast,hz1] at h
 have e:madeCells (Value.int .u8 0).cells (n*1)=nulls n:=by
  apply Array.ext
  ·simp [madeCells,nulls,fS]
  ·intro i h1 h2
   simp [madeCells,nulls,fa,Value.cells,v8,Nat.mod_one]
 rw [e] at h
 exact h
end Go.Proofs.YtkoonhiplicbkaaGreat.Cw
namespace Go.Proofs.YtkoonhiplicbkaaGreat.Cw
open Go Go.RowKit
theorem szOf_le (id:Nat) (hi:isId id):28≤szOf id∧szOf id≤64:=by
 obtain ⟨h1,h2⟩:=hi
 rcases (show id=1∨id=2∨id=3∨id=4 by omega) with rfl | rfl | rfl | rfl <;> decide
theorem may2_ok {id:Nat} (hi:isId id) {S a b:ByteArray} (h1:32≤S.size) (h2:S.size≤256) (h3:a.size≤256) (h4:b.size≤256):mayB id S [a,b]=true:=by
 have:=szOf_le id hi
 simp [mayB]
 omega
def shortS (s:ByteArray):ByteArray:=if 100<s.size then s.extract 0 100 else s
theorem shortS_size (s:ByteArray):(shortS s).size≤100:=by
 unfold shortS
 split
 ·rw [ByteArray.size_extract]; omega
 ·omega
end Go.Proofs.YtkoonhiplicbkaaGreat.Cw
