/-
  (package sha512) What rotate, RotateLeft64 and schedule compute: the plain functions rr64 and sch64, in whatever memory; of what memory held before nothing turns. Condition: a block has 128 bytes.
  (package sha512) What a block's turn computes: the hash's words become blk64 of them and of the block; the rest of the struct, and all that memory held besides, stays. Condition: the block has 64 bytes, and lies elsewhere than the struct.
  The plain functions of chapter 7 on whole messages: blocks in a row, what is put behind a message, the digest; and that it does not matter how a message is cut. No program in sight. No condition.
  (package sha512) What blocks computes, handed a hash's turn: it goes over all whole blocks of a slice, and gives what is left. Condition: the slice's bytes lie elsewhere than the hash's struct.
  (package sha512) What New, Write, Sum and Of do: a hash holds what was written; its digest is dig64. Condition: a text takes at most 2^46 bytes.
-/
import Derived.Test.YtkoonhiplicbkaaGreatProg
import Derived.Test.YtkoonhiplicbkaaGreatQk3
import Derived.Test.YtkoonhiplicbkaaGreatQk2
import Derived.Deep.QuietTactic
import Derived.BigQuiet
import Derived.Outline
import Derived.Test.YtkoonhiplicbkaaGreatQk1
import Derived.Deep.DeepMust
set_option linter.unusedSimpArgs false
set_option linter.unusedVariables false
set_option maxHeartbeats 1000000
namespace Go.Proofs.YtkoonhiplicbkaaGreat.Cw
open Go Go.RowKit
attribute [local go_sem ↓ high] bin_or64 bin_xor64 bin_and64 bin_add64 bin_shr64 bin_shl64 un_xor64
attribute [local go_sem ↓ high] cells_v64 cells_v8 run_store_v64 run_store_v8
attribute [local go_sem high] match_v64 match_v8 run_store_v64 run_store_v8
theorem run_conv8_64 (x:UInt8) (w:World):(convert 5 24 (v8 x)).run Tryz.prog w=.ok (v64 x.toUInt64) w:=by
 unfold v8 v64
 simp [convert,run_underlying Tryz.underlying5,run_underlying Tryz.underlying24,Conv.intToInt]
 rw [wrap64_nat _ (by have:=x.toNat_lt; omega)]
attribute [local go_sem ↓ high] run_conv8_64
theorem ret_vL {x y:UInt64} (h:x=y):Ending.returned (v64 x)=.returned (v64 y):=by rw [h]
theorem rot_eqL (x:UInt64) (m:Nat) (h:m<64):(x <<< UInt64.ofNat (64 - m) ||| x >>> UInt64.ofNat (64 - (64 - m)))=rr64 x (UInt64.ofNat (m:Int).toNat):=by
 unfold rr64
 rw [show 64 - (64 - m)=m from by omega,Int.toNat_natCast]
 have e:UInt64.ofNat (64 - m)=64 - UInt64.ofNat m:=by
  have:∀ k:Fin 64,UInt64.ofNat (64 - k.val)=64 - UInt64.ofNat k.val:=by decide
  exact this ⟨m,h⟩
 rw [e,UInt64.or_comm]
theorem neg_and31L (c:Int) (h0:0<c) (h1:c<64):bits BinOp.and IntKind.u64 (IntKind.u64.wrap (-c)) 63=64 - c:=by
 obtain ⟨m,rfl⟩:=Int.eq_ofNat_of_zero_le (Int.le_of_lt h0)
 have hm:m<64:=by omega
 have:∀ m:Fin 64,0<m.val→bits BinOp.and IntKind.u64 (IntKind.u64.wrap (-(m.val:Int))) 63=64 - (m.val:Int):=by decide
 exact this ⟨m,hm⟩ (by show 0<m; omega)
theorem rotl64_calls (x:UInt64) (c:Int) (h0:0<c) (h1:c<64) (w:World):Calls Tryz.prog 164 #[v64 x,.int .i64 (-c)] w fun e w'=>e=.returned (v64 (rr64 x (UInt64.ofNat c.toNat)))∧w=w':=by
 obtain ⟨m,rfl⟩:=Int.eq_ofNat_of_zero_le (Int.le_of_lt h0)
 have hb:=neg_and31L m h0 h1
 have hc:0≤64 - (m:Int)∧64 - (m:Int)<64:=by omega
 go_enter Tryz.func164,Tryz.ntmps164
 go_wp2
 go_ret
 refine ⟨ret_vL (rot_eqL x m (by omega)),rfl⟩
theorem rotate64_calls (x:UInt64) (c:Int) (h0:0<c) (h1:c<64) (w:World):Calls Tryz.prog 161 #[v64 x,.int .i64 c] w fun e w'=>e=.returned (v64 (rr64 x (UInt64.ofNat c.toNat)))∧w=w':=by
 go_enter Tryz.func161,Tryz.ntmps161
 go_wp2_with (go_at_call 164; refine (rotl64_calls _ _ h0 h1 _).mono ?_; rintro e w' ⟨rfl,rfl⟩)
 go_ret
 exact ⟨rfl,rfl⟩
theorem schedule64_calls (g off cap:Nat) (b:Nat→UInt8) (w:World) (hg:g<w.heap.size) (hb:∀ i,i<128→w.cell? ⟨g,off+i,none⟩=some (v8 (b i))):Calls Tryz.prog 160 #[.slice (some ⟨g,off,none⟩) 128 cap] w fun e w'=>e=.returned (.agg (fa v64 80 (sch64 b)))∧Below w.heap.size w w':=by
 have HB:=Hd hb
 clear hb
 go_enter Tryz.func160,Tryz.ntmps160
 go_wp2_with (refine wpList_alloc_zero rfl 239 rfl (.agg (fa v64 80 fun _=>0)) (by kernel_rfl) ?_)
 go_loopw [11] (fun i wr=>∃ k:Nat,k≤16∧i=.int .i64 k∧wr.heap[w.heap.size]?=some (.cells (fa v64 80 fun _=>0) 239 (0,0))∧wr.heap[w.heap.size+1]?=some (.cells (fa v64 80 (fun j=>if j<k then sch64 b j else 0)) 239 (0,0))∧Below w.heap.size w wr) (fun i _=>16 - (intOf i).toNat)
 case atStart=>exact ⟨0,by omega,rfl,(new2a w _ _).trans (congrArg some (by kernel_rfl)),(new2 w _ _).trans (congrArg some (by kernel_rfl)),((Below.refl _ _).alloc (Nat.le_refl _) _).alloc (by simp) _⟩
 case round=>
  obtain ⟨k,hk,rfl,hr,hf,hbl⟩:=hrel
  have HF:=Hd hf
  have HR:=Hd hr
  clear hf hr
  by_cases hlt:k<16
  ·go_wp2
   obtain ⟨wo,rfl⟩:∃ wo:World,wo=wr:=⟨_,rfl⟩
   go_loopw [14] (fun i wr=>∃ m:Nat,m≤8∧i=.int .i64 m∧wr.heap[w.heap.size]?=some (.cells (fa v64 80 fun _=>0) 239 (0,0))∧wr.heap[w.heap.size+1]?=some (.cells (fa v64 80 (upd (fun j=>if j<k then sch64 b j else 0) k (pw64 b k m))) 239 (0,0))∧Below w.heap.size w wr) (fun i _=>8 - (intOf i).toNat)
   case atStart => 
    refine ⟨0,by omega,rfl,HR.out,HF.out.trans ?_,hbl⟩
    congr 3
    funext j
    simp only [upd,pw64]
    by_cases h:j=k
    ·subst h; simp
    ·simp [h]
   case round=>
    obtain ⟨m,hm,rfl,hr,hf,hbl⟩:=hrel
    by_cases hlt:m<8
    ·have hc1:wr.cell? ⟨w.heap.size+1,k,none⟩=some (v64 (pw64 b k m)):=by rw [cO hf,fa_get _ _ _ _ (by omega),upd_at]
     have hc2:wr.cell? ⟨g,off+(8*k+m),none⟩=some (v8 (b (8*k+m))):=by rw [← HB.out _ (by omega)]; exact hbl.cell (p:=⟨g,_,none⟩) hg
     have hfr:wr.frozen? ⟨w.heap.size+1,k,none⟩=false:=frozen_of hf k
     have HF2:=Hd hf
     have HR2:=Hd hr
     clear hf hr
     go_wp2
     go_region
     go_wp2
     go_roundw
     case rel=>
      refine ⟨m+1,by omega,by go_num,(set_far HR2.out (by simp) _ _),(set_of HF2.out _ _).trans ?_,hbl.drew.setCell (by simp) _⟩
      rw [fa_set,upd_upd]; rfl
     case measure=>simp [intOf]; omega
    ·obtain rfl:m=8:=by omega
     have HF2:=Hd hf
     have HR2:=Hd hr
     clear hf hr
     go_wp2
     go_roundw
     case rel=>
      refine ⟨k+1,by omega,by go_num,HR2.out,HF2.out.trans ?_,hbl⟩
      congr 3
      funext j
      simp only [upd]
      by_cases h:j=k
      ·subst h; simp [sch64_lo b j hlt]
      ·have:j<k+1↔j<k:=by omega
       simp [h,this]
     case measure=>simp [intOf]; omega
  ·obtain rfl:k=16:=by omega
   clear hk hlt
   go_wp2
   obtain ⟨wo,rfl⟩:∃ wo:World,wo=wr:=⟨_,rfl⟩
   go_loopw [6] (fun i wr=>∃ k:Nat,16≤k∧k≤80∧i=.int .i64 k∧wr.heap[w.heap.size]?=some (.cells (fa v64 80 fun _=>0) 239 (0,0))∧wr.heap[w.heap.size+1]?=some (.cells (fa v64 80 (fun j=>if j<k then sch64 b j else 0)) 239 (0,0))∧Below w.heap.size w wr) (fun i _=>80 - (intOf i).toNat)
   case atStart=>exact ⟨16,by omega,by omega,rfl,HR.out,HF.out,hbl⟩
   case round=>
    obtain ⟨k,hk0,hk,rfl,hr,hf,hbl⟩:=hrel
    by_cases hlt:k<80
    ·have hg:∀ j,j<k→wr.cell? ⟨w.heap.size+1,j,none⟩=some (v64 (sch64 b j)):=fun j hj=>by rw [cO hf,fa_get _ _ _ _ (by omega),if_pos hj]
     have h15:=hg (k - 15) (by omega)
     have h2:=hg (k - 2) (by omega)
     have h16:=hg (k - 16) (by omega)
     have h7:=hg (k - 7) (by omega)
     have hk1:wr.cell? ⟨w.heap.size+1,k,none⟩=some (v64 0):=by rw [cO hf,fa_get _ _ _ _ (by omega),if_neg (by omega)]
     have hfr:wr.frozen? ⟨w.heap.size+1,k,none⟩=false:=frozen_of hf k
     have HF2:=Hd hf
     have HR2:=Hd hr
     clear hf hr hg
     go_wp2
     go_quiet (fail)
     go_wp2_with (go_at_call 161; refine (rotate64_calls _ _ (by omega) (by omega) _).mono ?_; rintro e w' ⟨rfl,rfl⟩)
     go_region
     go_wp2
     go_roundw
     case rel=>
      repeat apply Exists.intro
      refine ⟨⟨k+1,by omega,by omega,by go_num,(set_far HR2.out (by simp) _ _),(set_of HF2.out _ _).trans ?_,(Below.drewN hbl _).drew.setCell (by simp) _⟩,rfl⟩
      rw [fa_set]
      congr 3
      funext j
      simp only [upd]
      by_cases h:j=k
      ·subst h; simp [sch64_hi b j (by omega)]; rfl
      ·have:j<k+1↔j<k:=by omega
       simp [h,this]
     case measure=>simp [intOf]; omega
    ·obtain rfl:k=80:=by omega
     have hf':=hf.trans (congrArg (fun c=>some (Obj.cells c 239 (0,0))) (fa_ext v64 80 _ (sch64 b) fun j hj=>by rw [if_pos hj]))
     have HF2:=Hd hf'
     have HR2:=Hd hr
     clear hf hf' hr
     go_wp2_with (first
      | (refine wpList_load_blk rfl 239 _ rfl (w.heap.size+1) rfl _ _ _ _ HF2.out Tryz.underlying239 rfl (by rw [fS]; kernel_rfl) ?_)
      | (refine sB rfl 239 _ _ rfl w.heap.size rfl _ _ (fa v64 80 (sch64 b)) rfl HR2.out (by rw [fS]; kernel_rfl) (by rw [fS,fS]) (one_fa _ _ _ one_v64) ?_; intro w2 hw2 hb2 hs2))
     exact bodyPost_ret (results_blk rfl _ _ w.heap.size _ _ _ _ rfl hw2 Tryz.underlying239 rfl (by rw [fS]; kernel_rfl)) rfl ⟨rfl,But.below hbl hb2 (Nat.le_refl _) hbl.size⟩
end Go.Proofs.YtkoonhiplicbkaaGreat.Cw
set_option maxHeartbeats 2000000
set_option maxRecDepth 100000
namespace Go.Proofs.YtkoonhiplicbkaaGreat.Cw
open Go Go.RowKit
attribute [local go_sem ↓ high] bin_or64 bin_xor64 bin_and64 bin_add64 bin_shr64 bin_shl64 un_xor64 run_conv8_64
attribute [local go_sem ↓ high] cells_v64 cells_v8 run_store_v64 run_store_v8
attribute [local go_sem high] match_v64 match_v8 run_store_v64 run_store_v8
theorem rotate64_quiet (x:UInt64) (c:Int) (h0:0<c) (h1:c<64) (w:World) {C:World→Prop} (h:C w):Calls Tryz.prog 161 #[v64 x,.int .i64 c] w fun e w''=>e=.returned (v64 (rr64 x (UInt64.ofNat c.toNat)))∧C w'':=
  (rotate64_calls x c h0 h1 _).mono fun _ _ ⟨he,hw⟩=>⟨he,by rw [← hw]; exact h⟩
theorem turn64_calls (b g off cap:Nat) (bs:Nat→UInt8) (size rest len:Value) (h k:Nat→UInt64) (w:World) (hg:g<w.heap.size)
    (hb:∀ i,i<128→w.cell? ⟨g,off+i,none⟩=some (v8 (bs i))) (ho:w.heap[b]?=some (.cells (hobj v64 80 size h k rest len) 242 (0,0))) :
    Calls Tryz.prog 152 #[.pointer (some ⟨b,0,none⟩),.slice (some ⟨g,off,none⟩) 128 cap] w fun e w'=>e=.returned (.tuple #[])∧w'.heap[b]?=some (.cells (hobj v64 80 size (blk64 k h bs) k rest len) 242 (0,0))∧But b w w':=by
  have hbl:=lt_of ho
  have HO:=Hd ho
  have HB:=Hd hb
  clear ho hb
  go_enter Tryz.func152,Tryz.ntmps152
  go_wp2_with (first
    | (go_at_call 160; refine (schedule64_calls g off cap bs _ hg HB.out).mono ?_; rintro e w1 ⟨rfl,hb1⟩)
    | (refine wpList_alloc_zero rfl 239 rfl (.agg (fa v64 80 fun _=>0)) (by kernel_rfl) ?_)
    | (refine sB rfl 239 _ _ rfl w1.heap.size rfl _ _ (fa v64 80 (sch64 bs)) rfl (new1 _ _) (by rw [fS]; kernel_rfl) (by rw [fS]; kernel_rfl) (one_fa _ _ _ one_v64) ?_
       intro w2 hw2 hb2 hs2
       have hB2:Below w.heap.size w w2:=But.below (hb1.alloc hb1.size _) hb2 hb1.size (by have:=hb1.size; simp; omega)
       have HO2:=Hd (below_heap hB2 hbl HO.out)
       have HW2:=Hd hw2
       have hl2:=lt_of hw2
       clear hb2 hs2 hw2)
    | (refine lS rfl 236 _ rfl b 1 8 rfl _ _ (fa v64 8 h) _ _ HO2.out Tryz.underlying236 rfl (by kernel_rfl) (fS _ _ _) (fun j hj=>by rw [hobj_h _ _ _ _ _ _ _ _ hj,fa_get _ _ _ _ hj]) ?_)
    | (refine sB rfl 236 _ _ rfl w2.heap.size rfl _ _ (fa v64 8 h) rfl (new1 _ _) (by rw [fS]; kernel_rfl) (by rw [fS]; kernel_rfl) (one_fa _ _ _ one_v64) ?_
       intro w3 hw3 hb3 hs3
       have hB3:Below w.heap.size w w3:=But.below (hB2.alloc hB2.size _) hb3 hB2.size (by have:=hB2.size; simp; omega)
       have HO3:=Hd (below_heap hB3 hbl HO.out)
       have HW3:=Hd hw3
       have HV3:=Hd (But.heap hb3 (by omega) (alloc_far HW2.out _))
       have hl3:=lt_of hw3
       clear hb3 hs3 hw3))
  go_loopw [19] (fun i wr=>∃ m:Nat,m≤80∧i=.int .i64 m∧wr.heap[w1.heap.size]?=some (.cells (fa v64 80 (sch64 bs)) 239 (0,0))∧wr.heap[w2.heap.size]?=some (.cells (fa v64 8 (rs64 k (sch64 bs) h m)) 236 (0,0))∧Below w.heap.size w wr) (fun i _=>80 - (intOf i).toNat)
  case atStart=>exact ⟨0,by omega,rfl,HV3.out,HW3.out,hB3⟩
  case round=>
    obtain ⟨m,hm,rfl,hs,hx,hbw⟩:=hrel
    have HS:=Hd hs
    have HX:=Hd hx
    have hO:=below_heap hbw hbl HO.out
    have HOr:=Hd hO
    by_cases hlt:m<80
    · have hsm:wr.cell? ⟨w1.heap.size,m,none⟩=some (v64 (sch64 bs m)):=by rw [cO hs,fa_get _ _ _ _ hlt]
      have hkm:wr.cell? ⟨b,9+m,none⟩=some (v64 (k m)):=by rw [cO hO,hobj_k _ _ _ _ _ _ _ _ hlt]
      obtain ⟨X,hXe⟩:∃ X,X=rs64 k (sch64 bs) h m:=⟨_,rfl⟩
      rw [← hXe] at hx
      have hx0:wr.cell? ⟨w2.heap.size,0,none⟩=some (v64 (X 0)):=by rw [cO hx,fa_get _ _ _ _ (by omega)]
      have hx1:wr.cell? ⟨w2.heap.size,1,none⟩=some (v64 (X 1)):=by rw [cO hx,fa_get _ _ _ _ (by omega)]
      have hx2:wr.cell? ⟨w2.heap.size,2,none⟩=some (v64 (X 2)):=by rw [cO hx,fa_get _ _ _ _ (by omega)]
      have hx3:wr.cell? ⟨w2.heap.size,3,none⟩=some (v64 (X 3)):=by rw [cO hx,fa_get _ _ _ _ (by omega)]
      have hx4:wr.cell? ⟨w2.heap.size,4,none⟩=some (v64 (X 4)):=by rw [cO hx,fa_get _ _ _ _ (by omega)]
      have hx5:wr.cell? ⟨w2.heap.size,5,none⟩=some (v64 (X 5)):=by rw [cO hx,fa_get _ _ _ _ (by omega)]
      have hx6:wr.cell? ⟨w2.heap.size,6,none⟩=some (v64 (X 6)):=by rw [cO hx,fa_get _ _ _ _ (by omega)]
      have hx7:wr.cell? ⟨w2.heap.size,7,none⟩=some (v64 (X 7)):=by rw [cO hx,fa_get _ _ _ _ (by omega)]
      have HXE:=Hd hXe
      clear hs hx hO hXe
      go_wp2
      go_quiet ((go_at_call 161; exact rotate64_quiet _ _ (by omega) (by omega) _ ⟨_,rfl⟩))
      go_wp2
      go_quiet (fail)
      go_wp2
      go_quiet ((go_at_call 161; exact rotate64_quiet _ _ (by omega) (by omega) _ ⟨_,rfl⟩))
      go_wp2_with (refine sB rfl 236 _ _ rfl w2.heap.size rfl _ _ (fa v64 8 (rnd64 (k m) (sch64 bs m) X)) rfl HX.out (by rw [fS]; kernel_rfl) (by rw [fS,fS]) (one_fa _ _ _ one_v64) ?_; intro w5 hw5 hb5 hs5)
      have hb5':=But.of_drewN hb5
      go_roundw
      case rel=>exact ⟨m+1,by omega,by go_num,But.heap hb5' (by omega) HS.out,by rw [hw5,HXE.out]; rfl,But.below hbw hb5' (by have:=hB2.size; omega) hbw.size⟩
      case measure=>simp [intOf]; omega
    · obtain rfl:m=80:=by omega
      clear hs hx hO
      go_wp2
      obtain ⟨X,hXe⟩:∃ X,X=rs64 k (sch64 bs) h 80:=⟨_,rfl⟩
      have HXE:=Hd hXe
      have HX2:=Hd (show wr.heap[w2.heap.size]?=some (.cells (fa v64 8 X) 236 (0,0)) from by rw [hXe]; exact HX.out)
      clear hXe HX
      obtain ⟨wo,rfl⟩:∃ wo:World,wo=wr:=⟨_,rfl⟩
      have hq:=hB2.size
      go_loopw [113] (fun i wr=>∃ m:Nat,m≤8∧i=.int .i64 m∧wr.heap[b]?=some (.cells (hobj v64 80 size (fun j=>if j<m then h j+X j else h j) k rest len) 242 (0,0))∧wr.heap[w2.heap.size]?=some (.cells (fa v64 8 X) 236 (0,0))∧But b w wr) (fun i _=>8 - (intOf i).toNat)
      case atStart=>exact ⟨0,by omega,rfl,by simpa using HOr.out,HX2.out,But.of_below hbw⟩
      case round=>
        obtain ⟨m,hm,rfl,ho,hx,hbt⟩:=hrel
        have HO5:=Hd ho
        have HX5:=Hd hx
        by_cases hlt:m<8
        · have hc1:wr.cell? ⟨b,1+m,none⟩=some (v64 (h m)):=by rw [cO ho,hobj_h _ _ _ _ _ _ _ _ hlt,if_neg (by omega)]
          have hc2:wr.cell? ⟨w2.heap.size,m,none⟩=some (v64 (X m)):=by rw [cO hx,fa_get _ _ _ _ hlt]
          have hfr:wr.frozen? ⟨b,1+m,none⟩=false:=frozen_of ho _
          clear ho hx
          go_wp2
          go_region
          go_wp2
          go_roundw
          case rel=>
            refine ⟨m+1,by omega,by go_num,(set_of HO5.out _ _).trans ?_,set_far HX5.out (by omega) _ _,But.setCell (But.drew hbt) (.inl rfl) _⟩
            rw [hobj_set_h _ _ _ _ _ _ _ _ hlt]
            congr 3
            funext j
            simp only [upd]
            by_cases e:j=m
            · subst e; simp
            · have:j<m+1↔j<m:=by omega
              simp [e,this]
          case measure=>simp [intOf]; omega
        · obtain rfl:m=8:=by omega
          clear ho hx
          go_wp2
          go_end0
          refine ⟨rfl,HO5.out.trans ?_,hbt⟩
          rw [hobj_ext v64 80 size _ k rest len (blk64 k h bs) (fun i hi=>by rw [if_pos hi,HXE.out]; rfl)]
end Go.Proofs.YtkoonhiplicbkaaGreat.Cw
namespace Go.Proofs.YtkoonhiplicbkaaGreat.Cw
def k512 (i:Nat):UInt64:=[0x428a2f98d728ae22,0x7137449123ef65cd,0xb5c0fbcfec4d3b2f,0xe9b5dba58189dbbc,0x3956c25bf348b538,0x59f111f1b605d019,0x923f82a4af194f9b,0xab1c5ed5da6d8118,0xd807aa98a3030242,0x12835b0145706fbe,0x243185be4ee4b28c,0x550c7dc3d5ffb4e2,0x72be5d74f27b896f,0x80deb1fe3b1696b1,0x9bdc06a725c71235,0xc19bf174cf692694,0xe49b69c19ef14ad2,0xefbe4786384f25e3,0x0fc19dc68b8cd5b5,0x240ca1cc77ac9c65,0x2de92c6f592b0275,0x4a7484aa6ea6e483,0x5cb0a9dcbd41fbd4,0x76f988da831153b5,0x983e5152ee66dfab,0xa831c66d2db43210,0xb00327c898fb213f,0xbf597fc7beef0ee4,0xc6e00bf33da88fc2,0xd5a79147930aa725,0x06ca6351e003826f,0x142929670a0e6e70,0x27b70a8546d22ffc,0x2e1b21385c26c926,0x4d2c6dfc5ac42aed,0x53380d139d95b3df,0x650a73548baf63de,0x766a0abb3c77b2a8,0x81c2c92e47edaee6,0x92722c851482353b,0xa2bfe8a14cf10364,0xa81a664bbc423001,0xc24b8b70d0f89791,0xc76c51a30654be30,0xd192e819d6ef5218,0xd69906245565a910,0xf40e35855771202a,0x106aa07032bbd1b8,0x19a4c116b8d2d0c8,0x1e376c085141ab53,0x2748774cdf8eeb99,0x34b0bcb5e19b48a8,0x391c0cb3c5c95a63,0x4ed8aa4ae3418acb,0x5b9cca4f7763e373,0x682e6ff3d6b2b8a3,0x748f82ee5defb2fc,0x78a5636f43172f60,0x84c87814a1f0ab72,0x8cc702081a6439ec,0x90befffa23631e28,0xa4506cebde82bde9,0xbef9a3f7b2c67915,0xc67178f2e372532b,0xca273eceea26619c,0xd186b8c721c0c207,0xeada7dd6cde0eb1e,0xf57d4f7fee6ed178,0x06f067aa72176fba,0x0a637dc5a2c898a6,0x113f9804bef90dae,0x1b710b35131c471b,0x28db77f523047d84,0x32caab7b40c72493,0x3c9ebe0a15c9bebc,0x431d67c49c100d4c,0x4cc5d4becb3e42b6,0x597f299cfc657e2a,0x5fcb6fab3ad6faec,0x6c44198c4a475817].getD i 0
def h384 (i:Nat):UInt64:=[0xcbbb9d5dc1059ed8,0x629a292a367cd507,0x9159015a3070dd17,0x152fecd8f70e5939,0x67332667ffc00b31,0x8eb44a8768581511,0xdb0c2e0d64f98fa7,0x47b5481dbefa4fa4].getD i 0
def h512 (i:Nat):UInt64:=[0x6a09e667f3bcc908,0xbb67ae8584caa73b,0x3c6ef372fe94f82b,0xa54ff53a5f1d36f1,0x510e527fade682d1,0x9b05688c2b3e6c1f,0x1f83d9abfb41bd6b,0x5be0cd19137e2179].getD i 0
def abs64 (k h:Nat→UInt64) (m:List UInt8):Nat→Nat→UInt64
 | 0=>h
 | n+1=>blk64 k (abs64 k h m n) fun i=>m.getD (128*n+i) 0
theorem blk64_congr (k h:Nat→UInt64) (b c:Nat→UInt8) (e:∀ i,i<128→b i=c i):blk64 k h b=blk64 k h c:=by
 have hp:∀ j,j<16→∀ n,n≤8→pw64 b j n=pw64 c j n:=by
  intro j hj n
  induction n with
  | zero=>intro _; rfl
  | succ n ih=>intro hn; simp only [pw64]; rw [ih (by omega),e _ (by omega)]
 have hs:∀ j,sch64 b j=sch64 c j:=by
  intro j
  induction j using Nat.strongRecOn with
  | _ j ih=>
   by_cases h:j<16
   ·rw [sch64_lo b j h,sch64_lo c j h,hp j h 8 (by omega)]
   ·rw [sch64_hi b j h,sch64_hi c j h,ih _ (by omega),ih _ (by omega),ih _ (by omega),ih _ (by omega)]
 have hs':sch64 b=sch64 c:=funext hs
 unfold blk64
 rw [hs']
theorem abs64_add (k h:Nat→UInt64) (m s:List UInt8) (a:Nat) (ha:128*a≤m.length):∀ j,128*(a+j)≤(m++s).length→abs64 k h (m++s) (a+j)=abs64 k (abs64 k h m a) (m.drop (128*a)++s) j:=by
 have hlow:∀ a,128*a≤m.length→abs64 k h (m++s) a=abs64 k h m a:=by
  intro a
  induction a with
  | zero=>intro _; rfl
  | succ a ih=>
   intro ha
   simp only [abs64]
   rw [ih (by omega)]
   refine blk64_congr _ _ _ _ fun i hi=>?_
   simp only [List.getD_eq_getElem?_getD]
   rw [List.getElem?_append_left (by omega)]
 intro j
 induction j with
 | zero=>intro _; exact hlow a ha
 | succ j ih=>
  intro hj
  rw [← Nat.add_assoc]
  simp only [abs64]
  rw [ih (by omega)]
  refine blk64_congr _ _ _ _ fun i hi=>?_
  simp only [List.getD_eq_getElem?_getD]
  congr 1
  by_cases hc:128*(a+j)+i<m.length
  ·rw [List.getElem?_append_left hc,List.getElem?_append_left (by simp; omega),List.getElem?_drop]
   congr 1; omega
  ·rw [List.getElem?_append_right (by omega),List.getElem?_append_right (by simp; omega)]
   congr 1; simp; omega
def tail64 (n:Nat):List UInt8:=128::List.replicate ((239 - n%128)%128+8) 0++len8 (UInt64.ofNat n)
theorem tail64_length (n:Nat):(n+(tail64 n).length)%128=0:=by simp [tail64,len8_length]; omega
def fin64 (h:Nat→UInt64) (m:List UInt8):Nat→UInt64:=abs64 k512 h (m++tail64 m.length) ((m++tail64 m.length).length / 128)
def out64 (h:Nat→UInt64) (n:Nat):List UInt8:=(List.range n).flatMap fun i=>(List.range 8).map fun k=>(h i >>> UInt64.ofNat (56 - 8*k)).toUInt8
theorem out64_length (h:Nat→UInt64) (n:Nat):(out64 h n).length=8*n:=by
 unfold out64
 induction n with
 | zero=>rfl
 | succ n ih=>rw [@List.range_succ n,List.flatMap_append,List.length_append,ih]; simp; omega
def beg64 (bits:Nat):Nat→UInt64:=if bits=384 then h384 else h512
def dig64 (bits:Nat) (m:List UInt8):List UInt8:=(out64 (fin64 (beg64 bits) m) 8).take (bits / 8)
theorem fin64_rest (h:Nat→UInt64) (m:List UInt8) :
  fin64 h m=abs64 k512 (abs64 k512 h m (m.length / 128)) (m.drop (128*(m.length / 128))++tail64 m.length) ((m.drop (128*(m.length / 128))++tail64 m.length).length / 128):=by
 unfold fin64
 have ht:=tail64_length m.length
 rw [← abs64_add k512 h m _ (m.length / 128) (by omega) _ (by simp; omega)]
 congr 1
 simp only [List.length_append,List.length_drop]
 omega
section
variable (k h:Nat→UInt64) (m s:List UInt8)
theorem app_divL:(m++s).length / 128=m.length / 128+(m.length%128+s.length) / 128:=by rw [List.length_append]; omega
theorem app_modL:(m++s).length%128=(m.length%128+s.length)%128:=by rw [List.length_append]; omega
theorem app_absL:abs64 k h (m++s) ((m++s).length / 128)=abs64 k (abs64 k h m (m.length / 128)) (m.drop (128*(m.length / 128))++s) ((m.length%128+s.length) / 128):=by
 rw [app_divL]
 exact abs64_add k h m s _ (by omega) _ (by rw [List.length_append]; omega)
theorem app_restL:(m++s).drop (128*((m++s).length / 128))=(m.drop (128*(m.length / 128))++s).drop (128*((m.length%128+s.length) / 128)):=by
 rw [app_divL,Nat.mul_add,← List.drop_drop,List.drop_append_of_le_length (by omega)]
end
end Go.Proofs.YtkoonhiplicbkaaGreat.Cw
set_option maxHeartbeats 2000000
set_option maxRecDepth 100000
namespace Go.Proofs.YtkoonhiplicbkaaGreat.Cw
open Go Go.RowKit
theorem blocks64_calls (b:Nat) (A:Option Addr) (n c:Nat) (l:List UInt8) (size rest len:Value) (h:Nat→UInt64) (w:World) (hn:n≤9223372036854775807) (hr:Rd w (·≠b) A n c l)
  (ho:w.heap[b]?=some (.cells (hobj v64 80 size h k512 rest len) 242 (0,0))) :
  Calls Tryz.prog 151 #[.func (.func 152) #[.pointer (some ⟨b,0,none⟩)] #[],.slice A n c] w fun e w'=>∃ A' c',e=.returned (.slice A' (n%128) c') ∧
   w'.heap[b]?=some (.cells (hobj v64 80 size (abs64 k512 h l (n / 128)) k512 rest len) 242 (0,0))∧Rd w' (·≠b) A' (n%128) c' (l.drop (128*(n / 128)))∧But b w w':=by
 have HR:=Hd hr
 have HO:=Hd ho
 have hbl:=lt_of ho
 clear hr ho
 go_enter Tryz.func151,Tryz.ntmps151
 go_wp2
 go_loopw [1] (fun s wr=>∃ (j:Nat) (A':Option Addr) (c':Nat),128*j≤n∧s=.slice A' (n - 128*j) c'∧wr.heap[b]?=some (.cells (hobj v64 80 size (abs64 k512 h l j) k512 rest len) 242 (0,0))∧Rd wr (·≠b) A' (n - 128*j) c' (l.drop (128*j))∧But b w wr) (fun s _=>slen s)
 case atStart=>exact ⟨0,A,c,by omega,by simp,HO.out,by simpa using HR.out,But.refl _ _⟩
 case round=>
  obtain ⟨j,A',c',hj,rfl,ho,hr,hb⟩:=hrel
  have HO2:=Hd ho
  have HR2:=Hd hr
  have hcap:=hr.cap
  by_cases hlt:128≤n - 128*j
  ·obtain ⟨g,off,rfl,hgb,hg,hc⟩:=hr.2.2 (by omega)
   have HC:=Hd (show ∀ i,i<128→wr.cell? ⟨g,off+i,none⟩=some (v8 ((fun i=>l.getD (128*j+i) 0) i)) from fun i hi=>by
    rw [hc i (by omega)]; simp)
   clear ho hr hc
   by_cases hcc:c'=128
   ·subst hcc
    go_wp2_with (go_at_call 152; refine (turn64_calls b g off _ (fun i=>l.getD (128*j+i) 0) size rest len _ k512 _ hg HC.out HO2.out).mono ?_; rintro e w1 ⟨rfl,ho1,hb1⟩; have HO3:=Hd ho1; clear ho1)
    go_roundw
    case rel=>
     refine ⟨j+1,_,0,by omega,by congr 1; omega,HO3.out,?_,hb.trans hb1⟩
     have:=(HR2.out.but hb1 fun _ h=>h).drop (k:=128) (by omega) (some ⟨g,off,none⟩) (fun g' off' e h=>by omega)
     rw [List.drop_drop,show n - 128*j - 128=n - 128*(j+1) from by omega] at this
     exact this
    case measure=>simp [slen]; omega
   ·go_wp2_with (go_at_call 152; refine (turn64_calls b g off _ (fun i=>l.getD (128*j+i) 0) size rest len _ k512 _ hg HC.out HO2.out).mono ?_; rintro e w1 ⟨rfl,ho1,hb1⟩; have HO3:=Hd ho1; clear ho1)
    go_roundw
    case rel=>
     refine ⟨j+1,some ⟨g,off+128,none⟩,c' - 128,by omega,by rw [show n - 128*j - 128=n - 128*(j+1) from by omega],HO3.out,?_,hb.trans hb1⟩
     have:=(HR2.out.but hb1 fun _ h=>h).drop (k:=128) (by omega) (some ⟨g,off+128,none⟩) (fun g' off' e h=>by injection e with e; injection e with e1 e2; subst e1 e2; rfl)
     rw [List.drop_drop,show n - 128*j - 128=n - 128*(j+1) from by omega] at this
     exact this
    case measure=>simp [slen]; omega
  ·have hj2:j=n / 128:=by omega
   clear ho hr
   go_wp2
   go_ret
   refine ⟨A',c',?_,?_,?_,hb⟩
   ·rw [show n%128=n - 128*j from by omega]; rfl
   ·rw [← hj2]; exact HO2.out
   ·rw [← hj2,show n%128=n - 128*j from by omega]; exact HR2.out
end Go.Proofs.YtkoonhiplicbkaaGreat.Cw
set_option maxHeartbeats 400000
set_option maxRecDepth 100000
namespace Go.Proofs.YtkoonhiplicbkaaGreat.Cw
open Go Go.RowKit
attribute [local go_sem ↓ high] conv_len
attribute [local go_sem ↓ high] bin_or64 bin_xor64 bin_and64 bin_add64 bin_shr64 bin_shl64
attribute [local go_sem ↓ high] cells_v8 cells_v64 run_store_v8 run_store_v64
attribute [local go_sem high] match_v8 match_v64 run_store_v8 run_store_v64
def HashAtL (w:World) (b:Nat) (p:Nat→Prop) (bits:Nat) (m:List UInt8):Prop:=
  ∃ A c,w.heap[b]?=some (.cells (hobj v64 80 (.int .i64 bits) (abs64 k512 (beg64 bits) m (m.length / 128)) k512 (.slice A (m.length%128) c) (v64 (UInt64.ofNat m.length))) 242 (0,0))∧Rd w p A (m.length%128) c (m.drop (128*(m.length / 128)))
theorem HashAtL.keep {w w':World} {b:Nat} {p:Nat→Prop} {bits:Nat} {m:List UInt8} (h:HashAtL w b p bits m) (hs:w.heap.size≤w'.heap.size) (hb:w'.heap[b]?=w.heap[b]?) (hk:∀ g,p g→g<w.heap.size→w'.heap[g]?=w.heap[g]?):HashAtL w' b p bits m:=by
  obtain ⟨A,c,h1,h2⟩:=h
  exact ⟨A,c,hb.trans h1,h2.keep hs hk⟩
theorem HashAtL.lt {w:World} {b:Nat} {p:Nat→Prop} {bits:Nat} {m:List UInt8} (h:HashAtL w b p bits m):b<w.heap.size:=by
  obtain ⟨A,c,h1,h2⟩:=h
  exact lt_of h1
theorem write64_calls (b:Nat) (p:Nat→Prop) (bits:Nat) (m:List UInt8) (s:ByteArray) (w:World) (hp:∀ g,w.heap.size≤g→p g) (hpb:∀ g,p g→g≠b) (hs:s.size≤140737488355200) (hh:HashAtL w b p bits m) :
    Calls Tryz.prog 124 #[.pointer (some ⟨b,0,none⟩),.string s] w fun e w'=>e=.returned (.int .i64 0)∧HashAtL w' b p bits (m++s.data.toList)∧But b w w':=by
  obtain ⟨A,c,ho,hr⟩:=hh
  have hbl:=lt_of ho
  obtain ⟨i0,hi,hz0,hz1,hz2⟩:=info_parts info_u8
  have HI:=Hd hi
  have HZ0:=Hd hz0
  have HZ1:=Hd hz1
  have HZ2:=Hd hz2
  clear hi hz0 hz1 hz2
  have h74:w.cell? ⟨b,90,none⟩=some (v64 (UInt64.ofNat m.length)):=(cO ho _).trans (hobj_len v64 80 _ _ _ _ _)
  have f74:w.frozen? ⟨b,90,none⟩=false:=frozen_of ho _
  have h73:w.cell? ⟨b,89,none⟩=some (.slice A (m.length%128) c):=(cO ho _).trans (hobj_rest v64 80 _ _ _ _ _)
  have HO:=Hd ho
  have HR:=Hd hr
  clear ho hr
  go_enter Tryz.func124,Tryz.ntmps124
  obtain ⟨L,hL⟩:∃ L,L=m.drop (128*(m.length / 128)):=⟨_,rfl⟩
  obtain ⟨r,hr⟩:∃ r,r=m.length%128:=⟨_,rfl⟩
  rw [← hL,← hr] at HR
  rw [← hr] at HO h73
  have hr64:r<128:=by omega
  have HL:=Hd hL
  have Hr:=Hd hr
  clear hL hr
  have tok1:True:=trivial
  have tok2:True:=trivial
  go_wp2_with (first
    | (at_builtin
       have _t:=tok1
       refine wpList_append_rd rfl (.const (.slice none 0 0)) (.tmp 21) 103 rfl w.heap.size 5 i0 Tryz.underlying103 HI.out HZ0.out HZ1.out HZ2.out (.slice none 0 0) 0 [] rfl (Ow.nil _ _ _ _) A r c L p rfl (HR.out.but ((But.refl b w).setCell (.inl rfl) _) hpb) (by omega) (by rw [size_set]; exact Nat.le_refl _) ?_
       intro v1 w1 hown1 hg1 hat1
       simp only [Nat.zero_add,List.nil_append] at hown1
       have hb1:Below w.heap.size (w.setCell ⟨b,90,none⟩ (v64 (UInt64.ofNat m.length+UInt64.ofNat s.size))) w1:=(Below.refl _ _).grown hg1 (by rw [size_set]; exact Nat.le_refl _) (fun k hk=>by simp [Value.ownBlock] at hk)
       have hs1:w.heap.size≤w1.heap.size:=by have:=hb1.size; rw [size_set] at this; exact this
       have HAT:=Hd hat1
       clear hat1 hg1 tok1 _t
       skip)
    | (at_builtin
       have _t:=tok2
       refine wpList_append_str rfl (.tmp 22) (.tmp 23) 103 9 rfl w.heap.size 5 i0 Tryz.underlying103 Tryz.underlying9 HI.out HZ0.out HZ1.out HZ2.out v1 r L rfl hown1 s rfl (by omega) hs1 ?_
       intro v2 w2 hown2 hg2 hat2
       have hb2:=hb1.grown hg2 hs1 (fun k hk=>(hown1.lt k hk).1)
       have hs2:w.heap.size≤w2.heap.size:=by have:=hb2.size; rw [size_set] at this; exact this
       have HG2:=Hd hg2
       clear hat2 hg2
       obtain ⟨A2,c2,rfl,hc2⟩:=hown2.slice
       have hr2:=hown2.rd (fun g=>w.heap.size≤g) (fun g h=>h)
       have HR2:=Hd hr2
       have HO2:=Hd (below_heap hb2 hbl ((set_of HO.out 90 (v64 (UInt64.ofNat m.length+UInt64.ofNat s.size))).trans (congrArg (fun c=>some (Obj.cells c 242 (0,0))) (hobj_set_len v64 80 _ _ _ _ _ _))))
       have HW2:=Hd hown2
       clear hr2 hown2 tok2 _t
       skip)
    | (go_at_call 151
       refine (blocks64_calls b A2 _ c2 _ _ _ _ _ w2 (by omega) (HR2.out.weak fun g _ h=>by omega) HO2.out).mono ?_
       rintro e w3 ⟨A3,c3,rfl,ho3,hr3,hb3⟩
       have HO3:=Hd ho3
       have HR3:=Hd hr3
       have hs3:=hb3.size
       clear ho3 hr3
       skip)
    | (at_builtin
       go_must (
         refine wpList_append_rd rfl (.const (.slice none 0 0)) (.tmp 29) 103 rfl w.heap.size 5 i0 Tryz.underlying103 HI.out HZ0.out HZ1.out HZ2.out (.slice none 0 0) 0 [] rfl (Ow.nil _ _ _ _) A3 ((r+s.size)%128) c3 _ (·≠b) rfl HR3.out (by omega) (by omega) ?_
         intro v4 w4 hown4 hg4 hat4
         simp only [Nat.zero_add,List.nil_append] at hown4
         have hb4:Below w3.heap.size w3 w4:=(Below.refl _ _).grown hg4 (Nat.le_refl _) (fun k hk=>by simp [Value.ownBlock] at hk)
         have ho4:=below_heap hb4 (by omega) HO3.out
         have HO4:=Hd ho4
         obtain ⟨A4,c4,rfl,hc4⟩:=hown4.slice
         have HR4:=Hd (hown4.rd p hp)
         have g73:=(cO ho4 89).trans (hobj_rest v64 80 _ _ _ _ _)
         have e73:w4.frozen? ⟨b,89,none⟩=false:=frozen_of ho4 _
         clear hat4 hg4 hown4 ho4)))
  go_ret
  refine ⟨rfl,⟨A4,c4,?_,?_⟩,?_⟩
  · refine (set_of HO4.out 89 _).trans ?_
    rw [show (89:Nat)=9+80 from rfl,hobj_set_rest,app_absL,app_modL,← Hr.out,← HL.out,List.length_append,UInt64.ofNat_add]
    rfl
  · have:=Rd.but HR4.out ((But.refl b w4).setCell (a:=⟨b,89,none⟩) (.inl rfl) (.slice A4 ((r+s.size)%128) c4)) hpb
    rw [app_modL,app_restL,← Hr.out,← HL.out]
    exact this
  · refine But.setCell ?_ (.inl rfl) _
    have e2:But b w w2:=But.trans ((But.refl b w).setCell (.inl rfl) _) ⟨hb2.os,hb2.tape,hb2.output,hb2.size,fun i hi _=>hb2.block i (by rw [size_set] at hi; exact hi)⟩
    exact (e2.trans hb3).trans (But.of_below hb4)
end Go.Proofs.YtkoonhiplicbkaaGreat.Cw
