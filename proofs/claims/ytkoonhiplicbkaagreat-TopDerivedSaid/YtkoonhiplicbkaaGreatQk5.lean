/-
  (package sha512) What Sum gives: dig64 of what was written. Condition: the hash holds what was written.
  (package sha512) What New makes of 384 and of 512, and of any other number; and what Of gives of a text. Condition: a text takes at most 2^46 bytes.
  The hashes of one package over texts: what New, Write, Sum, Of and the reference's Of give, in short. Condition: a text takes at most 2^47 - 4096 bytes.
  (package hash) What a stream is in memory, and what New, Write, Sum do with it; a hash by its number. Condition: a text takes at most 2^47 - 4096 bytes.
  (package hash) hash.of, Size, Block, and New. No condition.
  (package hash) What bind makes of a hash's methods: two closures over three cells. No condition.
  (package hash) New makes a stream over a hash into which nothing was written. No condition.
-/
import Derived.Test.YtkoonhiplicbkaaGreatQk4
import Derived.Laws.IdiomStrings
import Derived.Laws.BytesArg
import Derived.Test.YtkoonhiplicbkaaGreatQk2
import Derived.BigQuiet
import Derived.Test.YtkoonhiplicbkaaGreatProg
import Derived.Test.YtkoonhiplicbkaaGreatQk3
import Derived.Deep.QuietTactic
import Derived.Outline
import Derived.Laws.EntriesVeiled
set_option linter.unusedSimpArgs false
set_option linter.unusedVariables false
set_option maxHeartbeats 400000
set_option maxRecDepth 100000
namespace Go.Proofs.YtkoonhiplicbkaaGreat.Cw
open Go Go.RowKit
attribute [local go_sem ↓ high] run_conv64_8 run_conv32_8
attribute [local go_sem ↓ high] bin_or64 bin_xor64 bin_and64 bin_add64 bin_shr64 bin_shl64
attribute [local go_sem ↓ high] cells_v8 cells_v64 run_store_v8 run_store_v64
attribute [local go_sem high] match_v8 match_v64 run_store_v8 run_store_v64
def wb64 (x:UInt64):List UInt8:=(List.range 8).map fun k=>(x >>> UInt64.ofNat (56 - 8*k)).toUInt8
theorem wb64_length (x:UInt64):(wb64 x).length=8:=by simp [wb64]
theorem wb64_take (x:UInt64) (k:Nat) (hk:k<8):(wb64 x).take k++[(x >>> UInt64.ofNat (56 - 8*k)).toUInt8]=(wb64 x).take (k+1):=by
  rw [List.take_succ_eq_append_getElem (by rw [wb64_length]; exact hk)]
  congr 2
  simp only [wb64,List.getElem_map,List.getElem_range]
theorem wb64_all (x:UInt64):(wb64 x).take 8=wb64 x:=by rw [← wb64_length x,List.take_length]
theorem out64_succ (h:Nat→UInt64) (n:Nat):out64 h (n+1)=out64 h n++wb64 (h n):=by
  unfold out64 wb64
  rw [@List.range_succ n,List.flatMap_append]
  simp
theorem sum64_calls (b:Nat) (p:Nat→Prop) (bits:Nat) (m:List UInt8) (w:World) (hbits:bits=384∨bits=512) (hh:HashAtL w b p bits m) :
    Calls Tryz.prog 125 #[.pointer (some ⟨b,0,none⟩)] w fun e w'=>e=.returned (.string ⟨(dig64 bits m).toArray⟩)∧Below w.heap.size w w':=by
  obtain ⟨A,c,ho,hr⟩:=hh
  have hbl:=lt_of ho
  obtain ⟨i0,hi,hz0,hz1,hz2⟩:=info_parts info_u8
  have HI:=Hd hi
  have HZ0:=Hd hz0
  have HZ1:=Hd hz1
  have HZ2:=Hd hz2
  clear hi hz0 hz1 hz2
  have h74:w.cell? ⟨b,90,none⟩=some (v64 (UInt64.ofNat m.length)):=(cO ho _).trans (hobj_len v64 80 _ _ _ _ _)
  have h73:w.cell? ⟨b,89,none⟩=some (.slice A (m.length%128) c):=(cO ho _).trans (hobj_rest v64 80 _ _ _ _ _)
  have HO:=Hd ho
  have HR:=Hd hr
  clear ho hr
  go_enter Tryz.func125,Tryz.ntmps125
  obtain ⟨L,hL⟩:∃ L,L=m.drop (128*(m.length / 128)):=⟨_,rfl⟩
  obtain ⟨r,hr⟩:∃ r,r=m.length%128:=⟨_,rfl⟩
  rw [← hL,← hr] at HR
  rw [← hr] at HO h73
  have hr64:r<128:=by omega
  have HL:=Hd hL
  have Hr:=Hd hr
  clear hL hr
  have tok1:True:=trivial
  have tok2:True:=trivial
  go_wp2_with (first
    | (refine wpList_load_blk rfl 242 _ rfl b rfl _ _ _ _ HO.out Tryz.underlying242 rfl (by rw [hobj_size]; kernel_rfl) ?_)
    | (refine wpList_alloc_zero rfl 242 rfl (.agg (hobj v64 80 (.int .i64 0) (fun _=>0) (fun _=>0) (.slice none 0 0) (v64 0))) (by kernel_rfl) ?_)
    | (refine sB rfl 242 _ _ rfl w.heap.size rfl _ _ _ rfl (new1 _ _) (by rw [hobj_size]; kernel_rfl) (by rw [hobj_size]; kernel_rfl) (hobj_one _ _ _ _ _ _ _ one_v64 rfl rfl rfl) ?_
       intro w2 hw2 hb2 hs2
       have hs2':w2.heap.size=w.heap.size+1:=by rw [hs2]; simp
       have hB2:Below w.heap.size w w2:=But.below ((Below.refl _ _).alloc (Nat.le_refl _) _) hb2 (Nat.le_refl _) (by simp)
       have ho2:=below_heap hB2 hbl HO.out
       have HO2:=Hd ho2
       have g73:=(cO ho2 89).trans (hobj_rest v64 80 _ _ _ _ _)
       have g74:=(cO ho2 90).trans (hobj_len v64 80 _ _ _ _ _)
       have HR2:=Hd (HR.out.below hB2)
       have HG:=Hd hw2
       clear hw2 hb2 hs2 ho2)
    | (at_builtin
       have _t:=tok1
       go_must (
         refine wpList_append_rd rfl (.const (.slice none 0 0)) (.tmp 18) 103 rfl (w.heap.size+1) 5 i0 Tryz.underlying103 HI.out HZ0.out HZ1.out HZ2.out (.slice none 0 0) 0 [] rfl (Ow.nil _ _ _ _) A r c L p rfl HR2.out (by omega) (by omega) ?_
         intro v1 w3 hown1 hg1 hat1
         simp only [Nat.zero_add,List.nil_append] at hown1
         have hb3:Below (w.heap.size+1) w2 w3:=(Below.refl _ _).grown hg1 (by omega) (fun k hk=>by simp [Value.ownBlock] at hk)
         have HW3:=Hd hown1
         have hs3:=hb3.size
         clear hat1 hg1 hown1 tok1 _t))
    | (at_builtin
       have _t:=tok2
       go_must (
         refine wpList_append_rd rfl (.tmp 19) (.tmp 20) 103 rfl (w.heap.size+1) 5 i0 Tryz.underlying103 HI.out HZ0.out HZ1.out HZ2.out v1 r L rfl (HW3.out.alloc _) (some ⟨w3.heap.size,0,none⟩) 1 1 [128] (fun _=>True) rfl (Rd.one 128 _ trivial (new1 w3 _)) (by omega) (by simp; omega) ?_
         intro v2 w4 hown2 hg2 hat2
         have hb4:Below (w.heap.size+1) w2 w4:=(hb3.alloc (by omega) _).grown hg2 (by simp; omega) (fun k hk=>(HW3.out.lt k hk).1)
         have HW4:=Hd hown2
         clear hat2 hg2 hown2 tok2 _t))
    )
  obtain ⟨z,hz⟩:∃ z,z=(239 - m.length%128)%128:=⟨_,rfl⟩
  go_loopw [4] (fun s wr=>∃ j:Nat,j≤z∧Ow wr (w.heap.size+1) 5 1 s (r+1+j) ((L++[128]++List.replicate j 0).map v8)∧Below (w.heap.size+1) w2 wr) (fun s _=>r+400 - slen s)
  case atStart=>exact ⟨0,by omega,by simpa using HW4.out,hb4⟩
  case round=>
    obtain ⟨j,hj,hown,hbr⟩:=hrel
    obtain ⟨A',c',rfl,hc'⟩:=hown.slice
    have HWr:=Hd hown
    have hsr:=hbr.size
    have hzr:(r+1+z)%128=112:=by have:=Hr.out; omega
    have hzlt:z<128:=by omega
    clear hown
    by_cases hlt:j<z
    · have hne:(r+1+j)%128≠112:=by omega
      go_wp2_with (at_builtin; go_must (
           refine wpList_append_rd rfl (.tmp 26) (.tmp 27) 103 rfl (w.heap.size+1) 5 i0 Tryz.underlying103 HI.out HZ0.out HZ1.out HZ2.out _ (r+1+j) (L++[128]++List.replicate j 0) rfl (HWr.out.alloc _) (some ⟨wr.heap.size,0,none⟩) 1 1 [0] (fun _=>True) rfl (Rd.one 0 _ trivial (new1 wr _)) (by omega) (by simp; omega) ?_
           intro v3 w5 hown3 hg3 hat3
           have hb5:Below (w.heap.size+1) w2 w5:=(hbr.alloc (by omega) _).grown hg3 (by simp; omega) (fun k hk=>(HWr.out.lt k hk).1)
           have HW5:=Hd hown3
           clear hat3 hg3 hown3))
      go_roundw
      case rel=>exact ⟨j+1,by omega,by have:=HW5.out; rw [List.append_assoc,← List.replicate_succ'] at this; exact this,hb5⟩
      case measure=>
        obtain ⟨A2,c2,rfl,_⟩:=HW5.out.slice
        simp only [slen]
        omega
    · obtain rfl:j=z:=by omega
      have HZ:=Hd hz
      have hv:(((r:Int)+1+(j:Int))%128 != 112)=false:=by simp; omega
      clear hlt hj hz
      go_wp2
      obtain ⟨wo,rfl⟩:∃ wo:World,wo=wr:=⟨_,rfl⟩
      go_loopw [29,4] (fun i s wr=>∃ q:Nat,q≤8∧i=.int .i64 q∧Ow wr (w.heap.size+1) 5 1 s (r+1+(j+q)) ((L++[128]++List.replicate (j+q) 0).map v8)∧Below (w.heap.size+1) w2 wr) (fun i _ _=>8 - (intOf i).toNat)
      case atStart=>exact ⟨0,by omega,rfl,HWr.out,hbr⟩
      case round=>
       obtain ⟨q,hq,rfl,hown,hbr⟩:=hrel
       obtain ⟨A',c',rfl,hc'⟩:=hown.slice
       have HWr:=Hd hown
       have hsr:=hbr.size
       clear hown
       by_cases hlt:q<8
       · go_wp2_with (at_builtin; go_must (
           refine wpList_append_rd rfl (.tmp 31) (.tmp 32) 103 rfl (w.heap.size+1) 5 i0 Tryz.underlying103 HI.out HZ0.out HZ1.out HZ2.out _ (r+1+(j+q)) (L++[128]++List.replicate (j+q) 0) rfl (HWr.out.alloc _) (some ⟨wr.heap.size,0,none⟩) 1 1 [0] (fun _=>True) rfl (Rd.one 0 _ trivial (new1 wr _)) (by omega) (by simp; omega) ?_
           intro v3 w5 hown3 hg3 hat3
           have hb5:Below (w.heap.size+1) w2 w5:=(hbr.alloc (by omega) _).grown hg3 (by simp; omega) (fun k hk=>(HWr.out.lt k hk).1)
           have HW5:=Hd hown3
           clear hat3 hg3 hown3))
         go_roundw
         case rel=>exact ⟨q+1,by omega,by go_num,by have:=HW5.out; rw [List.append_assoc,← List.replicate_succ'] at this; exact this,hb5⟩
         case measure=>simp [intOf]; omega
       · obtain rfl:q=8:=by omega
         clear hlt hq
         have HZ:=Hd (show j+8=(239 - m.length%128)%128+8 from by rw [← HZ.out])
         generalize hjn:j+8=jn at HWr HZ
         go_wp2
         obtain ⟨wo,rfl⟩:∃ wo:World,wo=wr:=⟨_,rfl⟩
         go_loopw [35,4] (fun i s wr=>∃ k:Nat,k≤8∧i=.int .i64 k∧Ow wr (w.heap.size+1) 5 1 s (r+1+jn+k) ((L++[128]++List.replicate jn 0++(len8 (UInt64.ofNat m.length)).take k).map v8)∧Below (w.heap.size+1) w2 wr) (fun i _ _=>8 - (intOf i).toNat)
         case atStart=>exact ⟨0,by omega,rfl,by simpa using HWr.out,hbr⟩
         case round=>
           obtain ⟨k,hk,rfl,hown,hbx⟩:=hrel
           obtain ⟨A2,c2,rfl,hc2⟩:=hown.slice
           have HWx:=Hd hown
           have hsx:=hbx.size
           clear hown
           by_cases hlt:k<8
           · have hox:=below_heap hbx (by omega) HO2.out
             have k74:=(cO hox 90).trans (hobj_len v64 80 _ _ _ _ _)
             clear hox
             have hsh:(0:Int)≤56 - 8*(k:Int)∧(56 - 8*(k:Int))<64:=by omega
             go_wp2_with (at_builtin; go_must (
                refine wpList_append_rd rfl (.tmp 38) (.tmp 49) 103 rfl (w.heap.size+1) 5 i0 Tryz.underlying103 HI.out HZ0.out HZ1.out HZ2.out _ (r+1+jn+k) (L++[128]++List.replicate jn 0++(len8 (UInt64.ofNat m.length)).take k) rfl (HWx.out.alloc _) (some ⟨wr.heap.size,0,none⟩) 1 1 [_] (fun _=>True) rfl (Rd.one _ _ trivial (new1 wr _)) (by omega) (by simp; omega) ?_
                intro v3 w5 hown3 hg3 hat3
                have hb5:Below (w.heap.size+1) w2 w5:=(hbx.alloc (by omega) _).grown hg3 (by simp; omega) (fun k hk=>(HWx.out.lt k hk).1)
                have HW5:=Hd hown3
                clear hat3 hg3 hown3))
             go_roundw
             case rel=>
               repeat apply Exists.intro
               refine ⟨?_,rfl⟩
               refine ⟨k+1,by omega,by go_num,?_,hb5⟩
               have e:=HW5.out
               rw [List.append_assoc,len8_take _ _ hlt] at e
               exact e
             case measure=>simp [intOf]; omega
           · obtain rfl:k=8:=by omega
             rw [len8_all,show L++[128]++List.replicate jn 0++len8 (UInt64.ofNat m.length)=L++tail64 m.length from by simp [tail64,← HZ.out]] at HWx
             have HG2:=Hd (below_heap hbx (by omega) HG.out)
             have HRx:=Hd (HWx.out.rd (·≠w.heap.size) (fun g h=>by omega))
             go_wp2_with (first
               | (go_at_call 151
                  go_must (
                    refine (blocks64_calls w.heap.size A2 _ c2 _ _ _ _ _ wr (by omega) HRx.out HG2.out).mono ?_
                    rintro e w6 ⟨A3,c3,rfl,ho3,hr3,hb3⟩
                    have HG3:=Hd ho3
                    have hB6:Below w.heap.size w w6:=But.below (hB2.trans (hbx.mono (by omega))) hb3 (Nat.le_refl _) (by omega)
                    have hs6:=hb3.size
                    clear ho3 hr3))
               | (refine lS rfl 236 _ rfl w.heap.size 1 8 rfl _ _ (fa v64 8 _) _ _ HG3.out Tryz.underlying236 rfl (by kernel_rfl) (fS _ _ _) (fun j hj=>by rw [hobj_h _ _ _ _ _ _ _ _ hj,fa_get _ _ _ _ hj]) ?_))
             obtain ⟨H,hH⟩:∃ H,H=abs64 k512 (abs64 k512 (beg64 bits) m (m.length / 128)) (L++tail64 m.length) ((r+1+jn+8) / 128):=⟨_,rfl⟩
             rw [← hH]
             have HH:=Hd hH
             clear hH
             go_loopw [57,6] (fun i s wr=>∃ n:Nat,n≤8∧i=.int .i64 n∧Ow wr w6.heap.size 5 1 s (8*n) ((out64 H n).map v8)∧Below w6.heap.size w6 wr) (fun i _ _=>8 - (intOf i).toNat)
             case atStart=>exact ⟨0,by omega,rfl,by simpa [out64] using Ow.nil _ _ _ _,Below.refl _ _⟩
             case round=>
               obtain ⟨n,hn,rfl,hown,hbn⟩:=hrel
               have HWn:=Hd hown
               have hsn:=hbn.size
               by_cases hlt:n<8
               · have hfa:(fa v64 8 H)[n]?=some (v64 (H n)):=fa_get _ _ _ _ hlt
                 clear hown
                 go_wp2_with (refine wpList_index_fa rfl 236 _ _ rfl v64 8 H n rfl rfl hlt 24 _ Tryz.underlying236 Tryz.underlying24 rfl (by kernel_rfl) ?_)
                 obtain ⟨wo,rfl⟩:∃ wo:World,wo=wr:=⟨_,rfl⟩
                 go_loopw [60,6] (fun i s wr=>∃ k:Nat,k≤8∧i=.int .i64 k∧Ow wr w6.heap.size 5 1 s (8*n+k) ((out64 H n++(wb64 (H n)).take k).map v8)∧Below w6.heap.size w6 wr) (fun i _ _=>8 - (intOf i).toNat)
                 case atStart=>exact ⟨0,by omega,rfl,by simpa using HWn.out,hbn⟩
                 case round=>
                   obtain ⟨k,hk,rfl,hown,hbx⟩:=hrel
                   obtain ⟨A2,c2,rfl,hc2⟩:=hown.slice
                   have HWx:=Hd hown
                   have hsx:=hbx.size
                   clear hown
                   by_cases hlt4:k<8
                   · have hsh:(0:Int)≤56 - 8*(k:Int)∧(56 - 8*(k:Int))<64:=by omega
                     go_wp2_with (at_builtin; go_must (
                       refine wpList_append_rd rfl (.tmp 63) (.tmp 70) 103 rfl w6.heap.size 5 i0 Tryz.underlying103 HI.out HZ0.out HZ1.out HZ2.out _ (8*n+k) (out64 H n++(wb64 (H n)).take k) rfl (HWx.out.alloc _) (some ⟨wr.heap.size,0,none⟩) 1 1 [_] (fun _=>True) rfl (Rd.one _ _ trivial (new1 wr _)) (by omega) (by simp; omega) ?_
                       intro v3 w5 hown3 hg3 hat3
                       have hb5:Below w6.heap.size w6 w5:=(hbx.alloc (by omega) _).grown hg3 (by simp; omega) (fun k hk=>(HWx.out.lt k hk).1)
                       have HW5:=Hd hown3
                       clear hat3 hg3 hown3))
                     go_roundw
                     case rel=>
                       refine ⟨k+1,by omega,by go_num,?_,hb5⟩
                       have e:=HW5.out
                       rw [List.append_assoc,wb64_take _ _ hlt4] at e
                       exact e
                     case measure=>simp [intOf]; omega
                   · obtain rfl:k=8:=by omega
                     go_wp2
                     go_roundw
                     case rel=>exact ⟨n+1,by omega,by go_num,by have e:=HWx.out; rw [wb64_all,← out64_succ] at e; exact e,hbx⟩
                     case measure=>simp [intOf]; omega
               · obtain rfl:n=8:=by omega
                 obtain ⟨A3,c3,rfl,hc3⟩:=hown.slice
                 have hBn:Below w.heap.size w wr:=hB6.trans (hbn.mono hB6.size)
                 have hon:=below_heap hBn hbl HO.out
                 have k0:=(cO hon 0).trans (hobj_0 v64 80 _ _ _ _ _)
                 have hH2:dig64 bits m=(out64 H 8).take (bits / 8):=by
                   unfold dig64
                   rw [fin64_rest,HH.out,← HL.out,List.length_append,HR.out.len,tail64]
                   simp only [List.length_append,List.length_cons,List.length_replicate,len8_length,← HZ.out]
                   rw [show r+(jn+1+8)=r+1+jn+8 from by omega]
                 have hrd:=hown.rd (fun _=>True) (fun _ _=>trivial)
                 have HRD:=Hd hrd
                 clear hrd hown hon
                 rcases hbits with rfl | rfl
                 · have hcv:=run_convert_rd (P:=Tryz.prog) (HRD.out.take (k:=48) (by omega)) 103 9 5 Tryz.underlying103 Tryz.underlying5 Tryz.underlying9
                   go_wp2
                   go_ret
                   exact ⟨by rw [hH2]; rfl,hBn⟩
                 · have hcv:=run_convert_rd (P:=Tryz.prog) (HRD.out.take (k:=64) (by omega)) 103 9 5 Tryz.underlying103 Tryz.underlying5 Tryz.underlying9
                   go_wp2
                   go_ret
                   exact ⟨by rw [hH2]; rfl,hBn⟩
end Go.Proofs.YtkoonhiplicbkaaGreat.Cw
set_option maxHeartbeats 1000000
set_option maxRecDepth 100000
namespace Go.Proofs.YtkoonhiplicbkaaGreat.Cw
open Go Go.RowKit
attribute [local go_sem ↓ high] cells_v8 cells_v64 run_store_v8 run_store_v64
attribute [local go_sem high] match_v8 match_v64 run_store_v8 run_store_v64
theorem constants64_calls (w:World):Calls Tryz.prog 148 #[] w fun e w'=>e=.returned (.agg (fa v64 80 k512))∧Below w.heap.size w w':=by
  go_enter Tryz.func148,Tryz.ntmps148
  go_wp2_with (first
    | (refine wpList_build_fa v64 .u64 (fun x=>(x.toNat:Int)) (fun _=>rfl) rfl 239 24 80 _ rfl k512 Tryz.underlying239 (by kernel_rfl) (by kernel_rfl) (by kernel_rfl) ?_)
    | (refine wpList_alloc_zero rfl 239 rfl (.agg (fa v64 80 fun _=>0)) (by kernel_rfl) ?_)
    | (refine sB rfl 239 _ _ rfl w.heap.size rfl _ _ (fa v64 80 k512) rfl (new1 _ _) (by rw [fS]; kernel_rfl) (by rw [fS]; kernel_rfl) (one_fa _ _ _ one_v64) ?_
       intro w2 hw2 hb2 hs2))
  exact bodyPost_ret (results_blk rfl _ _ w.heap.size _ _ _ _ rfl hw2 Tryz.underlying239 rfl (by rw [fS]; kernel_rfl)) rfl ⟨rfl,But.below ((Below.refl _ _).alloc (Nat.le_refl _) _) hb2 (Nat.le_refl _) (by simp)⟩
theorem beginning64_calls (c:Int) (w:World):Calls Tryz.prog 147 #[.int .i64 c] w fun e w'=>(c=384∧e=.returned (.tuple #[.agg (fa v64 8 h384),.bool true])∨c=512∧e=.returned (.tuple #[.agg (fa v64 8 h512),.bool true])∨c≠384∧c≠512∧∃ h,e=.returned (.tuple #[.agg (fa v64 8 h),.bool false]))∧Below w.heap.size w w':=by
  go_enter Tryz.func147,Tryz.ntmps147
  by_cases h1:c=384
  · subst h1
    go_wp2_with (first
      | (refine wpList_build_fa v64 .u64 (fun x=>(x.toNat:Int)) (fun _=>rfl) rfl 236 24 8 _ rfl h384 Tryz.underlying236 (by kernel_rfl) (by kernel_rfl) (by kernel_rfl) ?_)
      | (refine sB rfl 236 _ _ rfl w.heap.size rfl _ _ (fa v64 8 h384) rfl (new1 _ _) (by rw [fS]; kernel_rfl) (by rw [fS]; kernel_rfl) (one_fa _ _ _ one_v64) ?_
         intro w2 hw2 hb2 hs2))
    exact bodyPost_ret (results_blk2 rfl _ _ w.heap.size _ _ _ _ _ rfl rfl hw2 Tryz.underlying236 rfl (by rw [fS]; kernel_rfl)) rfl ⟨rfl,But.below ((Below.refl _ _).alloc (Nat.le_refl _) _) hb2 (Nat.le_refl _) (by simp)⟩
  · by_cases h2:c=512
    · subst h2
      go_wp2_with (first
        | (refine wpList_build_fa v64 .u64 (fun x=>(x.toNat:Int)) (fun _=>rfl) rfl 236 24 8 _ rfl h512 Tryz.underlying236 (by kernel_rfl) (by kernel_rfl) (by kernel_rfl) ?_)
        | (refine sB rfl 236 _ _ rfl w.heap.size rfl _ _ (fa v64 8 h512) rfl (new1 _ _) (by rw [fS]; kernel_rfl) (by rw [fS]; kernel_rfl) (one_fa _ _ _ one_v64) ?_
           intro w2 hw2 hb2 hs2))
      exact bodyPost_ret (results_blk2 rfl _ _ w.heap.size _ _ _ _ _ rfl rfl hw2 Tryz.underlying236 rfl (by rw [fS]; kernel_rfl)) rfl ⟨rfl,But.below ((Below.refl _ _).alloc (Nat.le_refl _) _) hb2 (Nat.le_refl _) (by simp)⟩
    · go_wp2_with (first
        | (refine wpList_buildTo rfl 236 _ rfl _ rfl (fa v64 8 fun _=>0) (by kernel_rfl) ?_)
        | (refine sB rfl 236 _ _ rfl w.heap.size rfl _ _ (fa v64 8 fun _=>0) rfl (new1 _ _) (by rw [fS]; kernel_rfl) (by rw [fS]; kernel_rfl) (one_fa _ _ _ one_v64) ?_
           intro w2 hw2 hb2 hs2))
      exact bodyPost_ret (results_blk2 rfl _ _ w.heap.size _ _ _ _ _ rfl rfl hw2 Tryz.underlying236 rfl (by rw [fS]; kernel_rfl)) rfl ⟨.inr (.inr ⟨h1,h2,_,rfl⟩),But.below ((Below.refl _ _).alloc (Nat.le_refl _) _) hb2 (Nat.le_refl _) (by simp)⟩
theorem new64_yes (bits:Nat) (w:World) (hbits:bits=384∨bits=512) :
    Calls Tryz.prog 122 #[.int .i64 bits] w fun e w'=>∃ b,e=.returned (.tuple #[.pointer (some ⟨b,0,none⟩),.int .i64 0])∧(∀ p,HashAtL w' b p bits [])∧w.heap.size≤b∧Below w.heap.size w w':=by
  go_enter Tryz.func122,Tryz.ntmps122
  go_wp2_with (first
    | (go_at_call 147
       refine (beginning64_calls bits w).mono ?_
       rintro e w1 ⟨he,hb1⟩
       obtain rfl:e=.returned (.tuple #[.agg (fa v64 8 (beg64 bits)),.bool true]):=by
         rcases he with ⟨hc,he⟩ | ⟨hc,he⟩ | ⟨hc,hd,_⟩
         · obtain rfl:bits=384:=by omega
           exact he
         · obtain rfl:bits=512:=by omega
           exact he
         · omega
       clear he)
    | (refine sB rfl 236 _ _ rfl w1.heap.size rfl _ _ (fa v64 8 (beg64 bits)) rfl (new1 _ _) (by rw [fS]; kernel_rfl) (by rw [fS]; kernel_rfl) (one_fa _ _ _ one_v64) ?_
       intro w2 hw2 hb2 hs2))
  have hB2:Below w.heap.size w w2:=But.below (hb1.alloc hb1.size _) hb2 hb1.size (by have:=hb1.size; simp; omega)
  refine wp_region_class_tail (fun w'=>w'.heap[w1.heap.size]?=some (.cells (fa v64 8 (beg64 bits)) 236 (0,0))∧Below w.heap.size w w') ⟨hw2,hB2.drew⟩ 3 (by kernel_rfl) (by kernel_rfl) ?_
  simp only [List.take_succ_cons,List.take_zero,List.drop_succ_cons,List.drop_zero]
  go_big_quiet_step (fail)
  refine BigFrame.wpQuiet_want rfl fun K hK=>quiet_load_blk 236 _ rfl w1.heap.size rfl _ _ _ _ (fun w' h=>h.1) Tryz.underlying236 rfl (by rw [fS]; kernel_rfl) (hK _ ?_)
  refine BigFrame.wpQuiet_want rfl fun K hK=>⟨.agg (fa v64 80 k512),fun w' hw'=>?_,hK _ ?_⟩
  · obtain ⟨hg,hb⟩:=hw'
    go_simp
    exact (constants64_calls w').mono fun e w'' ⟨he,hb'⟩=>⟨he,below_heap hb' (lt_of hg) hg,hb.trans (hb'.mono hb.size)⟩
  clear hK K
  refine wpQuiet_nil ?_
  rintro w3 ⟨hw3,hb3⟩
  go_wp2_with (refine wpList_buildTo rfl 242 _ rfl (some 16) rfl (hobj v64 80 (.int .i64 bits) (beg64 bits) k512 (.slice none 0 0) (v64 0)) (by kernel_rfl) ?_)
  go_ret2
  exact ⟨w3.heap.size,rfl,fun p=>⟨none,0,new1 _ _,Rd.nil _ _ _ _⟩,hb3.size,hb3.alloc hb3.size _⟩
end Go.Proofs.YtkoonhiplicbkaaGreat.Cw
namespace Go.Proofs.YtkoonhiplicbkaaGreat.Cw
open Go Go.RowKit
def d64 (bits:Nat) (s:ByteArray):ByteArray:=⟨(dig64 bits s.data.toList).toArray⟩
def HashSL (w:World) (b bits:Nat) (s:ByteArray):Prop:=HashAtL w b (·≠b) bits s.data.toList
def isBitsL (bits:Nat):Prop:=bits=384∨bits=512
theorem HashSL.lt {w:World} {b bits:Nat} {s:ByteArray} (h:HashSL w b bits s):b<w.heap.size:=HashAtL.lt h
theorem HashSL.below {w w':World} {b bits:Nat} {s:ByteArray} (h:HashSL w b bits s) (hb:Below w.heap.size w w'):HashSL w' b bits s:=
 HashAtL.keep h hb.size (hb.block b h.lt) fun g _ hg=>hb.block g hg
theorem d64_size (bits:Nat) (s:ByteArray) (hb:isBitsL bits):(d64 bits s).size=bits / 8:=by
 have h:(dig64 bits s.data.toList).length=bits / 8:=by
  unfold dig64
  rw [List.length_take,out64_length]
  rcases hb with rfl | rfl <;> rfl
 show (dig64 bits s.data.toList).toArray.size=_
 simpa using h
end Go.Proofs.YtkoonhiplicbkaaGreat.Cw
namespace Go.Proofs.YtkoonhiplicbkaaGreat.Cw
open Go Go.RowKit
def bitsOf (id:Nat):Nat:=if id=1 then 224 else if id=2 then 256 else if id=3 then 384 else 512
def dg (id:Nat) (s:ByteArray):ByteArray:=if id≤2 then d32 (bitsOf id) s else d64 (bitsOf id) s
def isId (id:Nat):Prop:=1≤id∧id≤4
def Inner (w:World) (b id:Nat) (p:Nat→Prop) (m:ByteArray):Prop:=if id≤2 then HashAt w b p (bitsOf id) m.data.toList else HashAtL w b p (bitsOf id) m.data.toList
def StreamAt (w:World) (s b id:Nat) (p:Nat→Prop) (m:ByteArray):Prop:=
 ∃ cw ch cs,Inner w b id p m∧p s∧p cw∧p ch∧p cs ∧
  w.heap[s]?=some (.cells #[.func (.func (if id≤2 then 143 else 149)) #[] #[.pointer (some ⟨cw,0,none⟩),.pointer (some ⟨ch,0,none⟩)],.func (.func (if id≤2 then 144 else 150)) #[] #[.pointer (some ⟨cs,0,none⟩),.pointer (some ⟨ch,0,none⟩)]] 198 (0,0)) ∧
  w.cell? ⟨cw,0,none⟩=some (.func (.func (if id≤2 then 120 else 124)) #[] #[]) ∧
  w.cell? ⟨cs,0,none⟩=some (.func (.func (if id≤2 then 121 else 125)) #[] #[]) ∧
  w.cell? ⟨ch,0,none⟩=some (.pointer (some ⟨b,0,none⟩))
end Go.Proofs.YtkoonhiplicbkaaGreat.Cw
set_option maxRecDepth 100000
namespace Go.Proofs.YtkoonhiplicbkaaGreat.Cw
open Go Go.RowKit
def blockOf (id:Nat):Nat:=if id≤2 then 64 else 128
theorem kind_yes (id:Nat) (h:isId id) (w:World):Calls Tryz.prog 61 #[.int .i64 id] w fun e w'=>e=.returned (.tuple #[.agg #[.int .i64 (bitsOf id),.int .i64 (bitsOf id / 8:Nat),.int .i64 (blockOf id)],.bool true])∧Below w.heap.size w w':=by
  go_enter Tryz.func61,Tryz.ntmps61
  obtain ⟨h1,h2⟩:=h
  match id,h1,h2 with
  | 1,_,_=>
    go_wp2_with (refine sB rfl 117 _ _ rfl w.heap.size rfl _ _ #[.int .i64 224,.int .i64 28,.int .i64 64] rfl (new1 _ _) (by kernel_rfl) (by kernel_rfl) (by decide) ?_
                 intro w2 hw2 hb2 hs2)
    exact bodyPost_ret (results_blk2 rfl _ _ w.heap.size _ _ _ _ _ rfl rfl hw2 Tryz.underlying117 rfl (by kernel_rfl)) rfl ⟨rfl,But.below ((Below.refl _ _).alloc (Nat.le_refl _) _) hb2 (Nat.le_refl _) (by simp)⟩
  | 2,_,_=>
    go_wp2_with (refine sB rfl 117 _ _ rfl w.heap.size rfl _ _ #[.int .i64 256,.int .i64 32,.int .i64 64] rfl (new1 _ _) (by kernel_rfl) (by kernel_rfl) (by decide) ?_
                 intro w2 hw2 hb2 hs2)
    exact bodyPost_ret (results_blk2 rfl _ _ w.heap.size _ _ _ _ _ rfl rfl hw2 Tryz.underlying117 rfl (by kernel_rfl)) rfl ⟨rfl,But.below ((Below.refl _ _).alloc (Nat.le_refl _) _) hb2 (Nat.le_refl _) (by simp)⟩
  | 3,_,_=>
    go_wp2_with (refine sB rfl 117 _ _ rfl w.heap.size rfl _ _ #[.int .i64 384,.int .i64 48,.int .i64 128] rfl (new1 _ _) (by kernel_rfl) (by kernel_rfl) (by decide) ?_
                 intro w2 hw2 hb2 hs2)
    exact bodyPost_ret (results_blk2 rfl _ _ w.heap.size _ _ _ _ _ rfl rfl hw2 Tryz.underlying117 rfl (by kernel_rfl)) rfl ⟨rfl,But.below ((Below.refl _ _).alloc (Nat.le_refl _) _) hb2 (Nat.le_refl _) (by simp)⟩
  | 4,_,_=>
    go_wp2_with (refine sB rfl 117 _ _ rfl w.heap.size rfl _ _ #[.int .i64 512,.int .i64 64,.int .i64 128] rfl (new1 _ _) (by kernel_rfl) (by kernel_rfl) (by decide) ?_
                 intro w2 hw2 hb2 hs2)
    exact bodyPost_ret (results_blk2 rfl _ _ w.heap.size _ _ _ _ _ rfl rfl hw2 Tryz.underlying117 rfl (by kernel_rfl)) rfl ⟨rfl,But.below ((Below.refl _ _).alloc (Nat.le_refl _) _) hb2 (Nat.le_refl _) (by simp)⟩
theorem size_yes (id:Nat) (h:isId id) (w:World):Calls Tryz.prog 26 #[.int .i64 id] w fun e w'=>e=.returned (.int .i64 (bitsOf id / 8:Nat))∧Below w.heap.size w w':=by
  go_enter Tryz.func26,Tryz.ntmps26
  go_wp2_with (first
    | (go_at_call 61; refine (kind_yes id h w).mono ?_; rintro e w1 ⟨rfl,hb1⟩)
    | (refine sB rfl 117 _ _ rfl w1.heap.size rfl _ _ #[.int .i64 (bitsOf id),.int .i64 (bitsOf id / 8:Nat),.int .i64 (blockOf id)] rfl (new1 _ _) (by kernel_rfl) (by kernel_rfl) (by intro u hu; simp at hu; rcases hu with rfl | rfl | rfl <;> rfl) ?_
       intro w2 hw2 hb2 hs2
       have c0:=cO hw2 0
       have c1:=cO hw2 1
       have c2:=cO hw2 2
       simp at c0 c1 c2
       have hB2:Below w.heap.size w w2:=But.below (hb1.alloc hb1.size _) hb2 hb1.size (by have:=hb1.size; simp; omega)
       clear hs2))
  go_ret
  exact ⟨rfl,hB2⟩
end Go.Proofs.YtkoonhiplicbkaaGreat.Cw
set_option maxRecDepth 100000
namespace Go.Proofs.YtkoonhiplicbkaaGreat.Cw
open Go Go.RowKit
theorem new3 (w:World) (A B C:Obj):(((w.alloc A).alloc B).alloc C).heap[w.heap.size+1+1]?=some C:=by
 have:=heap_alloc_new ((w.alloc A).alloc B) C
 simpa using this
theorem new3b (w:World) (A B C:Obj):(((w.alloc A).alloc B).alloc C).heap[w.heap.size+1]?=some B:=by
 have:=heap_alloc_old ((w.alloc A).alloc B) C (show w.heap.size+1<((w.alloc A).alloc B).heap.size from by simp)
 rw [this]; exact new2 w A B
theorem new3a (w:World) (A B C:Obj):(((w.alloc A).alloc B).alloc C).heap[w.heap.size]?=some A:=by
 have:=heap_alloc_old ((w.alloc A).alloc B) C (show w.heap.size<((w.alloc A).alloc B).heap.size from by simp; omega)
 rw [this]; exact new2a w A B
theorem bind32_calls (b:Nat) (w:World):Calls Tryz.prog 119 #[.pointer (some ⟨b,0,none⟩),.func (.func 120) #[] #[],.func (.func 121) #[] #[]] w fun e w'=>∃ cw ch cs,e=.returned (.tuple #[.func (.func 143) #[] #[.pointer (some ⟨cw,0,none⟩),.pointer (some ⟨ch,0,none⟩)],.func (.func 144) #[] #[.pointer (some ⟨cs,0,none⟩),.pointer (some ⟨ch,0,none⟩)]]) ∧
   w.heap.size≤cw∧w.heap.size≤ch∧w.heap.size≤cs∧w'.cell? ⟨cw,0,none⟩=some (.func (.func 120) #[] #[])∧w'.cell? ⟨cs,0,none⟩=some (.func (.func 121) #[] #[])∧w'.cell? ⟨ch,0,none⟩=some (.pointer (some ⟨b,0,none⟩))∧Below w.heap.size w w':=by
 go_enter Tryz.func119,Tryz.ntmps119
 go_wp2
 go_ret2
 refine ⟨_,_,_,rfl,?_,?_,?_,cO (new3b _ _ _ _) 0,cO (new3 _ _ _ _) 0,cO (new3a _ _ _ _) 0,(((Below.refl _ _).alloc (Nat.le_refl _) _).alloc (by simp) _).alloc (by simp; omega) _⟩ <;> omega
theorem bind64_calls (b:Nat) (w:World):Calls Tryz.prog 123 #[.pointer (some ⟨b,0,none⟩),.func (.func 124) #[] #[],.func (.func 125) #[] #[]] w fun e w'=>∃ cw ch cs,e=.returned (.tuple #[.func (.func 149) #[] #[.pointer (some ⟨cw,0,none⟩),.pointer (some ⟨ch,0,none⟩)],.func (.func 150) #[] #[.pointer (some ⟨cs,0,none⟩),.pointer (some ⟨ch,0,none⟩)]]) ∧
   w.heap.size≤cw∧w.heap.size≤ch∧w.heap.size≤cs∧w'.cell? ⟨cw,0,none⟩=some (.func (.func 124) #[] #[])∧w'.cell? ⟨cs,0,none⟩=some (.func (.func 125) #[] #[])∧w'.cell? ⟨ch,0,none⟩=some (.pointer (some ⟨b,0,none⟩))∧Below w.heap.size w w':=by
 go_enter Tryz.func123,Tryz.ntmps123
 go_wp2
 go_ret2
 refine ⟨_,_,_,rfl,?_,?_,?_,cO (new3b _ _ _ _) 0,cO (new3 _ _ _ _) 0,cO (new3a _ _ _ _) 0,(((Below.refl _ _).alloc (Nat.le_refl _) _).alloc (by simp) _).alloc (by simp; omega) _⟩ <;> omega
end Go.Proofs.YtkoonhiplicbkaaGreat.Cw
set_option maxRecDepth 100000
namespace Go.Proofs.YtkoonhiplicbkaaGreat.Cw
open Go Go.RowKit
theorem cell_lt {w:World} {g i:Nat} {v:Value} (h:w.cell? ⟨g,i,none⟩=some v):g<w.heap.size:=by
  rcases Nat.lt_or_ge g w.heap.size with h1 | h1
  · exact h1
  · have e:w.heap[g]?=none:=by simpa using h1
    rw [World.cell?,e] at h
    cases h
theorem But.cell {b:Nat} {w w':World} (h:But b w w') {g i:Nat} {v:Value} (hne:g≠b) (hc:w.cell? ⟨g,i,none⟩=some v):w'.cell? ⟨g,i,none⟩=some v:=
  (World.cell?_of_block (h.block g (cell_lt hc) (by simpa using hne))).trans hc
theorem HashAt.below' {w w':World} {b:Nat} {p:Nat→Prop} {bits:Nat} {m:List UInt8} (h:HashAt w b p bits m) (hb:Below w.heap.size w w'):HashAt w' b p bits m:=
  h.keep hb.size (hb.block b h.lt) fun g _ hg=>hb.block g hg
theorem HashAtL.below' {w w':World} {b:Nat} {p:Nat→Prop} {bits:Nat} {m:List UInt8} (h:HashAtL w b p bits m) (hb:Below w.heap.size w w'):HashAtL w' b p bits m:=
  h.keep hb.size (hb.block b h.lt) fun g _ hg=>hb.block g hg
theorem HashAt.weak {w:World} {b:Nat} {p q:Nat→Prop} {bits:Nat} {m:List UInt8} (h:HashAt w b p bits m) (hq:∀ g,g<w.heap.size→p g→q g):HashAt w b q bits m:=by
  obtain ⟨A,c,h1,h2⟩:=h
  exact ⟨A,c,h1,h2.weak hq⟩
theorem HashAtL.weak {w:World} {b:Nat} {p q:Nat→Prop} {bits:Nat} {m:List UInt8} (h:HashAtL w b p bits m) (hq:∀ g,g<w.heap.size→p g→q g):HashAtL w b q bits m:=by
  obtain ⟨A,c,h1,h2⟩:=h
  exact ⟨A,c,h1,h2.weak hq⟩
theorem stream_mk32 {w:World} {s cw ch cs b id:Nat} {p:Nat→Prop} (h2:id≤2) (hs:w.heap[s]?=some (.cells #[.nilFunc,.nilFunc] 198 (0,0))) (hh:∀ p,HashAt w b p (bitsOf id) [])
    (e1:s≠b) (e2:cw≠s) (e3:ch≠s) (e4:cs≠s) (d1:w.cell? ⟨cw,0,none⟩=some (.func (.func 120) #[] #[])) (d2:w.cell? ⟨cs,0,none⟩=some (.func (.func 121) #[] #[])) (d3:w.cell? ⟨ch,0,none⟩=some (.pointer (some ⟨b,0,none⟩)))
    (p1:p s) (p2:p cw) (p3:p ch) (p4:p cs):StreamAt ((w.setCell ⟨s,0,none⟩ (.func (.func 143) #[] #[.pointer (some ⟨cw,0,none⟩),.pointer (some ⟨ch,0,none⟩)])).setCell ⟨s,1,none⟩ (.func (.func 144) #[] #[.pointer (some ⟨cs,0,none⟩),.pointer (some ⟨ch,0,none⟩)])) s b id p ByteArray.empty:=by
  have hB:=((But.refl s w).setCell (a:=⟨s,0,none⟩) (.inl rfl) (.func (.func 143) #[] #[.pointer (some ⟨cw,0,none⟩),.pointer (some ⟨ch,0,none⟩)])).setCell (a:=⟨s,1,none⟩) (.inl rfl) (.func (.func 144) #[] #[.pointer (some ⟨cs,0,none⟩),.pointer (some ⟨ch,0,none⟩)])
  refine ⟨cw,ch,cs,?_,p1,p2,p3,p4,(set_of (set_of hs 0 _) 1 _).trans ?_,?_,?_,hB.cell e3 d3⟩
  · simp only [Inner,if_pos h2]
    refine HashAt.weak (p:=fun _=>False) (HashAt.keep (hh _) hB.size (hB.block b (hh p).lt (by simpa using fun e=>e1 e.symm)) (fun g h=>h.elim)) (fun g _ h=>h.elim)
  · simp only [if_pos h2]; rfl
  · simp only [if_pos h2]; exact hB.cell e2 d1
  · simp only [if_pos h2]; exact hB.cell e4 d2
theorem stream_mk64 {w:World} {s cw ch cs b id:Nat} {p:Nat→Prop} (h2:¬ id≤2) (hs:w.heap[s]?=some (.cells #[.nilFunc,.nilFunc] 198 (0,0))) (hh:∀ p,HashAtL w b p (bitsOf id) [])
    (e1:s≠b) (e2:cw≠s) (e3:ch≠s) (e4:cs≠s) (d1:w.cell? ⟨cw,0,none⟩=some (.func (.func 124) #[] #[])) (d2:w.cell? ⟨cs,0,none⟩=some (.func (.func 125) #[] #[])) (d3:w.cell? ⟨ch,0,none⟩=some (.pointer (some ⟨b,0,none⟩)))
    (p1:p s) (p2:p cw) (p3:p ch) (p4:p cs):StreamAt ((w.setCell ⟨s,0,none⟩ (.func (.func 149) #[] #[.pointer (some ⟨cw,0,none⟩),.pointer (some ⟨ch,0,none⟩)])).setCell ⟨s,1,none⟩ (.func (.func 150) #[] #[.pointer (some ⟨cs,0,none⟩),.pointer (some ⟨ch,0,none⟩)])) s b id p ByteArray.empty:=by
  have hB:=((But.refl s w).setCell (a:=⟨s,0,none⟩) (.inl rfl) (.func (.func 149) #[] #[.pointer (some ⟨cw,0,none⟩),.pointer (some ⟨ch,0,none⟩)])).setCell (a:=⟨s,1,none⟩) (.inl rfl) (.func (.func 150) #[] #[.pointer (some ⟨cs,0,none⟩),.pointer (some ⟨ch,0,none⟩)])
  refine ⟨cw,ch,cs,?_,p1,p2,p3,p4,(set_of (set_of hs 0 _) 1 _).trans ?_,?_,?_,hB.cell e3 d3⟩
  · simp only [Inner,if_neg h2]
    refine HashAtL.weak (p:=fun _=>False) (HashAtL.keep (hh _) hB.size (hB.block b (hh p).lt (by simpa using fun e=>e1 e.symm)) (fun g h=>h.elim)) (fun g _ h=>h.elim)
  · simp only [if_neg h2]; rfl
  · simp only [if_neg h2]; exact hB.cell e2 d1
  · simp only [if_neg h2]; exact hB.cell e4 d2
theorem strm_yes (id:Nat) (h:isId id) (w:World):Calls Tryz.prog 92 #[.int .i64 id] w fun e w'=>∃ s b,e=.returned (.tuple #[.pointer (some ⟨s,0,none⟩),.int .i64 0])∧(∀ p:Nat→Prop,(∀ g,w.heap.size≤g→g≠b→p g)→StreamAt w' s b id p ByteArray.empty)∧w.heap.size≤b∧b<w'.heap.size∧Below w.heap.size w w':=by
  go_enter Tryz.func92,Tryz.ntmps92
  by_cases h2:id≤2
  · have hbl:blockOf id=64:=if_pos h2
    have hbits:bitsOf id=224∨bitsOf id=256:=by unfold bitsOf; unfold isId at h; split; exact .inl rfl; split; exact .inr rfl; omega
    go_wp2_with (first
      | (go_at_call 61; refine (kind_yes id h w).mono ?_; rintro e w1 ⟨rfl,hb1⟩)
      | (go_at_call 118; refine (new32_yes _ _ hbits).mono ?_; rintro e w3 ⟨b,rfl,hh,hbl3,hb3⟩
         have hs3:=below_heap hb3 (by simp) (new2 _ _ _)
         have HS3:=Hd hs3
         have HH:=Hd hh; clear hh hs3)
      | (go_at_call 119; refine (bind32_calls b w3).mono ?_; rintro e w4 ⟨cw,ch,cs,rfl,g1,g2,g3,d1,d2,d3,hb4⟩
         have hs4:=below_heap hb4 (lt_of HS3.out) HS3.out
         have HS4:=Hd hs4
         have c0:=cO hs4 0
         have c1:=cO hs4 1
         simp at c0 c1
         have f0:=frozen_of hs4 0
         have f1:=frozen_of hs4 1
         clear hs4))
    go_ret2
    have z1:=hb1.size
    have z3:=hb3.size
    have z4:=hb4.size
    simp at z3 hbl3
    have hbl4:=(HH.out (fun _=>True)).lt
    refine ⟨_,b,rfl,fun p hp=>stream_mk32 h2 HS4.out (fun p=>HashAt.below' (HH.out p) hb4) (by omega) (by omega) (by omega) (by omega) d1 d2 d3 (hp _ (by omega) (by omega)) (hp _ (by omega) (by omega)) (hp _ (by omega) (by omega)) (hp _ (by omega) (by omega)),by omega,by simp; omega,?_⟩
    exact ((((((hb1.alloc hb1.size _).alloc (by simp; omega) _).trans (hb3.mono (by simp; omega))).trans (hb4.mono (by omega))).setCell (by simp; omega) _).setCell (by simp; omega) _)
  · have hbl:blockOf id=128:=if_neg h2
    have hbits:bitsOf id=384∨bitsOf id=512:=by unfold bitsOf; unfold isId at h; rw [if_neg (by omega),if_neg (by omega)]; split; exact .inl rfl; exact .inr rfl
    go_wp2_with (first
      | (go_at_call 61; refine (kind_yes id h w).mono ?_; rintro e w1 ⟨rfl,hb1⟩)
      | (go_at_call 122; refine (new64_yes _ _ hbits).mono ?_; rintro e w3 ⟨b,rfl,hh,hbl3,hb3⟩
         have hs3:=below_heap hb3 (by simp) (new2 _ _ _)
         have HS3:=Hd hs3
         have HH:=Hd hh; clear hh hs3)
      | (go_at_call 123; refine (bind64_calls b w3).mono ?_; rintro e w4 ⟨cw,ch,cs,rfl,g1,g2,g3,d1,d2,d3,hb4⟩
         have hs4:=below_heap hb4 (lt_of HS3.out) HS3.out
         have HS4:=Hd hs4
         have c0:=cO hs4 0
         have c1:=cO hs4 1
         simp at c0 c1
         have f0:=frozen_of hs4 0
         have f1:=frozen_of hs4 1
         clear hs4))
    go_ret2
    have z1:=hb1.size
    have z3:=hb3.size
    have z4:=hb4.size
    simp at z3 hbl3
    have hbl4:=(HH.out (fun _=>True)).lt
    refine ⟨_,b,rfl,fun p hp=>stream_mk64 h2 HS4.out (fun p=>HashAtL.below' (HH.out p) hb4) (by omega) (by omega) (by omega) (by omega) d1 d2 d3 (hp _ (by omega) (by omega)) (hp _ (by omega) (by omega)) (hp _ (by omega) (by omega)) (hp _ (by omega) (by omega)),by omega,by simp; omega,?_⟩
    exact ((((((hb1.alloc hb1.size _).alloc (by simp; omega) _).trans (hb3.mono (by simp; omega))).trans (hb4.mono (by omega))).setCell (by simp; omega) _).setCell (by simp; omega) _)
end Go.Proofs.YtkoonhiplicbkaaGreat.Cw
