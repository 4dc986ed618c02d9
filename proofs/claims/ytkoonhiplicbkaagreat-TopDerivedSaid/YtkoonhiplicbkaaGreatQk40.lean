/-
  (package ecdh) Shared: the secret of a key and a public key's text. Condition: a curve's number from 1 to 15, keys.
  (package key) Make: a private key, or no key. Condition: a curve's number from 1 to 15, a generator.
  (package kdf) What Of gives, and what the reference's Kdf gives: the same bytes. Condition: the secret and the rest take at most 2^46 bytes each.
  Plain laws of derived keys: how long they are, how they begin, their blocks; and of masks. No condition.
-/
import Derived.Test.YtkoonhiplicbkaaGreatQk39
import Derived.Test.YtkoonhiplicbkaaGreatQk37
import Derived.Test.YtkoonhiplicbkaaGreatQk34
import Derived.Test.YtkoonhiplicbkaaGreatQk6
set_option linter.unusedSimpArgs false
set_option linter.unusedVariables false
set_option maxHeartbeats 4000000
set_option maxRecDepth 100000
namespace Go.Proofs.YtkoonhiplicbkaaGreat.Cw
open Go Go.RowKit
attribute [local irreducible] pc ptc nc ac cuc fc gpt
attribute [local go_sem ↓ high] wn_eql wn_neq wn_lss wn_gtr wn_leq wn_geq wn_cells wRS wn_guard lit0 lit1
attribute [local go_sem high] wn_match wRS wn_eql wn_neq wn_lss wn_gtr wn_leq wn_geq
attribute [local irreducible] wpList
noncomputable def shB (k:CK) (n:Nat):ByteArray:=byB (pX k (gm k n)) k.c.size
theorem gpt_eq (k:CK) (n:Nat):gpt k n=ptc (pX k (gm k n)) (pY k (gm k n)) (pI k (gm k n)):=by unfold gpt; rfl
theorem ecdh_shared (k:CK) (a b:Nat) (s:ByteArray) (w:World) (h0:a≠0) (hn:a<k.c.n) (hG:∀ u,Calls Tryz.prog 52 #[.int .i64 k.1,.string s] u fun e w'=>e=.returned (.tuple #[.agg (gpt k b),.int .i64 0])∧Below u.heap.size u w'):Calls Tryz.prog 22 #[.pointer none,.int .i64 k.1,.agg (nc a),.string s] w fun e w'=>e=.returned (.tuple #[.string (shB k (a*b)),.int .i64 0])∧Below w.heap.size w w':=by
 have HCK:=Hd (fun u=>key_check k a u h0 hn)
 have HMU:=Hd (fun u=>mult_mul k a b u hn)
 have A9:=Hd (Nat.lt_trans hn k.n9)
 have hres:shB k (a*b)=byB (pX k (gm k (a*b))) k.c.size:=rfl
 rw [hres]
 rw [gpt_eq k (a*b),gpt_eq k b] at HMU
 have hG2:∀ u,Calls Tryz.prog 52 #[.int .i64 k.1,.string s] u fun e w'=>e=.returned (.tuple #[.agg (ptc (pX k (gm k b)) (pY k (gm k b)) (pI k (gm k b))),.int .i64 0])∧Below u.heap.size u w':=by rw [← gpt_eq k b]; exact hG
 have HGE:=Hd hG2
 obtain ⟨x,hx⟩:∃ x,x=pX k (gm k (a*b)):=⟨_,rfl⟩
 obtain ⟨y,hy⟩:∃ y,y=pY k (gm k (a*b)):=⟨_,rfl⟩
 obtain ⟨i,hi⟩:∃ i,i=pI k (gm k (a*b)):=⟨_,rfl⟩
 obtain ⟨x2,hx2⟩:∃ x,x=pX k (gm k b):=⟨_,rfl⟩
 obtain ⟨y2,hy2⟩:∃ y,y=pY k (gm k b):=⟨_,rfl⟩
 obtain ⟨i2,hi2⟩:∃ i,i=pI k (gm k b):=⟨_,rfl⟩
 have hxp:x<k.c.p:=by rw [hx]; exact pX_lt k _
 rw [← hx,← hy,← hi,← hx2,← hy2,← hi2] at HMU
 rw [← hx2,← hy2,← hi2] at HGE
 rw [← hx]
 have X9:=Hd (Nat.lt_trans hxp k.p9)
 have HBX:=Hd (k.size_ok hxp)
 obtain ⟨sz,hsz⟩:∃ sz,sz=k.c.size:=⟨_,rfl⟩
 rw [← hsz] at HBX ⊢
 have HSZ:=Hd hsz
 clear h0 hn hG hG2 hres hx hy hi hx2 hy2 hi2 hxp hsz
 go_enter Tryz.func22,Tryz.ntmps22
 go_upto_region 1 with fail
 have m0:=Mem.start1 w (nc a) 27
 obtain ⟨w1,hw1⟩:∃ w1:World,w1=(w.alloc (.cells (nc a) 27)):=⟨_,rfl⟩
 rw [← hw1] at m0 ⊢
 clear hw1
 obtain ⟨g,hg⟩:∃ g,g=w.heap.size:=⟨_,rfl⟩
 rw [← hg] at m0 ⊢
 have HG:=Hd hg
 have M:=Hd m0
 clear hg m0
 go_upto_region 1 with (fail)
 refine wp_region_lit ?_
 refine pK (.int .i64 (k.1:Int)) ?_
 refine wpList_fnE rfl _ _ _ _ rfl #[] #[.int .i64 (k.1:Int)] (by kernel_rfl) (by kernel_rfl) (fun u=>cE _ _ _ _ u Tryz.func30 (by kernel_rfl) (by kernel_rfl)) (T:=Nat) (fun c=>.pointer (some ⟨c,0,none⟩)) (fun c w'=>∃ f d,CurveAt w' c f d k.c∧Below w1.heap.size w1 w') ((k.open_ w1).mono fun e w' ⟨c,f,d,he,hr,_,hb⟩=>⟨c,he,f,d,hr,hb⟩) ?_
 rintro c w2 ⟨f,d,hc,hb⟩
 have M2:=Hd (MC.of (M.out.grow hb) hc)
 clear hc hb M
 refine pK (.pointer (some ⟨c,0,none⟩)) ?_
 refine wpList_nil ?_
 try simp only [Act.put,s_,t_,u_,v_,x_,y_]
 go_upto_region 2 with (fail)
 refine wp_region_lit ?_
 refine pK (.pointer (some ⟨c,0,none⟩)) ?_
 refine pK (.bool false) ?_
 refine pK (.bool false) ?_
 refine wpList_nil ?_
 try simp only [Act.put,s_,t_,u_,v_,x_,y_]
 go_upto_region 4 with (fail)
 refine wp_region_lit ?_
 refine pK (.int .i64 (k.1:Int)) ?_
 refine l0N rfl (.tmp 6) rfl g (by kernel_rfl) (M2.out.at 0 rfl) ?_
 refine fL rfl 48 (.func 48) #[.tmp 23,.tmp 24] #[3,27] rfl #[] #[.int .i64 (k.1:Int),.agg (nc a)] (by kernel_rfl) (by kernel_rfl) (fun u=>cE _ _ _ _ u Tryz.func48 (by kernel_rfl) (by kernel_rfl)) (.int .i64 0) ((HCK.out w2)) (fun w2 hb=>?_)
 have Nw2:=Hd (M2.out.grow hb)
 clear hb M2
 refine pK (.bool false) ?_
 refine pK (.bool false) ?_
 refine wpList_nil ?_
 try simp only [Act.put,s_,t_,u_,v_,x_,y_]
 go_upto_region 6 with (fail)
 refine wp_region_lit ?_
 refine pK (.int .i64 (k.1:Int)) ?_
 refine pK (.string s) ?_
 refine fL rfl 52 (.func 52) #[.tmp 28,.tmp 29] #[3,9] rfl #[] #[.int .i64 (k.1:Int),.string s] (by kernel_rfl) (by kernel_rfl) (fun u=>cE _ _ _ _ u Tryz.func52 (by kernel_rfl) (by kernel_rfl)) (.tuple #[.agg (ptc x2 y2 i2),.int .i64 0]) ((HGE.out w2)) (fun w3 hb=>?_)
 have Nw3:=Hd (Nw2.out.grow hb)
 clear hb Nw2
 refine pK (.tuple #[.agg (ptc x2 y2 i2),.int .i64 0]) ?_
 refine pK (.agg (ptc x2 y2 i2)) ?_
 refine pK (.int .i64 0) ?_
 refine nL rfl 41 rfl (.agg (ptc 0 0 false)) (by rw [ptc_zero]; kernel_rfl) ?_
 intro qb w4 hx hx2 hgv hh
 have Nw4:=Hd (show MC w w4 [(g,nc a,27),(qb,ptc 0 0 false,41)] c f d k.c from Nw3.out.new hgv (Nat.le_of_eq hx) hh)
 clear hx hx2 hgv hh Nw3
 refine sB rfl 41 (.tmp 11) (.tmp 31) rfl qb (by kernel_rfl) _ _ (ptc x2 y2 i2) (by kernel_rfl) (Nw4.out.at 1 rfl) (by rw [pS]; kernel_rfl) (by simp only [pS]) (ptc_one _ _ _) ?_
 intro w5 hw hb hs
 have Nw5:=Hd (Nw4.out.store 1 rfl hb hs hw)
 clear hw hb hs Nw4
 refine pK (.int .i64 0) ?_
 refine wpList_nil ?_
 try simp only [Act.put,s_,t_,u_,v_,x_,y_]
 go_upto_region 7 with (fail)
 refine wp_region_lit ?_
 refine pK (.int .i64 0) ?_
 refine pK (.bool false) ?_
 refine wpList_nil ?_
 try simp only [Act.put,s_,t_,u_,v_,x_,y_]
 go_upto_region 9 with (fail)
 refine wp_region_lit ?_
 refine pK (.pointer none) ?_
 refine pK (.int .i64 (k.1:Int)) ?_
 refine l0N rfl (.tmp 6) rfl g (by kernel_rfl) (Nw5.out.at 0 rfl) ?_
 refine lS rfl 41 (.tmp 11) rfl qb 0 19 (by kernel_rfl) _ _ (ptc x2 y2 i2) _ _ (Nw5.out.at 1 rfl) Tryz.underlying41 rfl (by kernel_rfl) (pS _ _ _) (fun j hj=>by rw [Nat.zero_add]) ?_
 refine fL rfl 53 (.func 53) #[.tmp 36,.tmp 37,.tmp 38,.tmp 39] #[69,3,27,41] rfl #[] #[.pointer none,.int .i64 (k.1:Int),.agg (nc a),.agg (ptc x2 y2 i2)] (by kernel_rfl) (by kernel_rfl) (fun u=>cE _ _ _ _ u Tryz.func53 (by kernel_rfl) (by kernel_rfl)) (.tuple #[.agg (ptc x y i),.int .i64 0]) ((HMU.out w5)) (fun w6 hb=>?_)
 have Nw6:=Hd (Nw5.out.grow hb)
 clear hb Nw5
 refine pK (.tuple #[.agg (ptc x y i),.int .i64 0]) ?_
 refine pK (.agg (ptc x y i)) ?_
 refine pK (.int .i64 0) ?_
 refine nL rfl 41 rfl (.agg (ptc 0 0 false)) (by rw [ptc_zero]; kernel_rfl) ?_
 intro pb w7 hx hx2 hgv hh
 have Nw7:=Hd (show MC w w7 [(g,nc a,27),(qb,ptc x2 y2 i2,41),(pb,ptc 0 0 false,41)] c f d k.c from Nw6.out.new hgv (Nat.le_of_eq hx) hh)
 clear hx hx2 hgv hh Nw6
 refine sB rfl 41 (.tmp 13) (.tmp 41) rfl pb (by kernel_rfl) _ _ (ptc x y i) (by kernel_rfl) (Nw7.out.at 2 rfl) (by rw [pS]; kernel_rfl) (by simp only [pS]) (ptc_one _ _ _) ?_
 intro w8 hw hb hs
 have Nw8:=Hd (Nw7.out.store 2 rfl hb hs hw)
 clear hw hb hs Nw7
 refine pK (.int .i64 0) ?_
 refine wpList_nil ?_
 try simp only [Act.put,s_,t_,u_,v_,x_,y_]
 go_upto_region 10 with (fail)
 have D9:=Hd (Nw8.out.drew)
 clear Nw8
 refine wp_region_growT 13 13 (by kernel_rfl) (by kernel_rfl) (fun d v c a w h=>by cases d <;> exact h) ?_
 simp only [List.take_succ_cons,List.take_zero]
 refine gK (.pointer (some ⟨pb,0,none⟩)) ?_
 refine lN rfl (.tmp 44) rfl pb 0 (by kernel_rfl) x (fun u hu=>D9.out.up 2 rfl hu) (ptc_x x y i) ?_
 refine gK (.pointer (some ⟨c,0,none⟩)) ?_
 refine gK (.pointer (some ⟨c,0,none⟩)) ?_
 refine gK (.pointer (some ⟨c,0,none⟩)) ?_
 refine gK (.pointer (some ⟨c,57,none⟩)) ?_
 refine wpGrow_load_cell rfl 3 (.tmp 49) rfl c 57 (by kernel_rfl) (.int .i64 (sz:Int)) _ Tryz.underlying3 rfl (fun u hu=>(cO (grows_at D9.out.crv.2.2 hu) 57).trans (by rw [HSZ.out]; exact cuc_size2 _ _)) ?_
 refine fG rfl 50 (.func 50) #[.tmp 45,.tmp 50] #[27,3] rfl #[] #[.agg (nc x),.int .i64 (sz:Int)] (by kernel_rfl) (by kernel_rfl) (fun u=>cE _ _ _ _ u Tryz.func50 (by kernel_rfl) (by kernel_rfl)) (.tuple #[.string (byB x sz),.int .i64 0]) (fun u hu=>by exact nat_bytes x sz u X9.out HBX.out.2 HBX.out.1) ?_
 refine gK (.tuple #[.string (byB x sz),.int .i64 0]) ?_
 refine gK (.string (byB x sz)) ?_
 refine gK (.int .i64 0) ?_
 refine gK (.string (byB x sz)) ?_
 refine gK (.int .i64 0) ?_
 refine gN ?_
 try simp only [Act.put,s_,t_,u_,v_,x_,y_]
 intro w10 hg6
 refine ⟨by kernel_rfl,?_⟩
 have Nw10:=Hd (D9.out.grow hg6)
 clear hg6 D9
 try simp only [Act.put,s_,t_,u_,v_,x_,y_]
 go_wp2_with (fail)
 go_ret2
 exact ⟨rfl,Nw10.out.below⟩
end Go.Proofs.YtkoonhiplicbkaaGreat.Cw
set_option maxHeartbeats 4000000
set_option maxRecDepth 100000
namespace Go.Proofs.YtkoonhiplicbkaaGreat.Cw
open Go Go.RowKit
attribute [local irreducible] pc ptc nc ac cuc fc gpt
attribute [local go_sem ↓ high] wn_eql wn_neq wn_lss wn_gtr wn_leq wn_geq wn_cells wRS wn_guard lit0 lit1
attribute [local go_sem high] wn_match wRS wn_eql wn_neq wn_lss wn_gtr wn_leq wn_geq
attribute [local irreducible] wpList
theorem key_try_no (k:CK) (c f d dr id:Nat) (kv:ByteArray × ByteArray) (n:Int) (w:World) (hn:64<n) (H:CurveAt w c f d k.c) (HD:DrbgAt w dr id kv n):Calls Tryz.prog 34 #[.pointer (some ⟨c,0,none⟩),.func (.func 35) #[.pointer (some ⟨dr,0,none⟩)] #[]] w fun e w'=>e=.returned (.tuple #[.agg (nc 0),.bool false,.int .i64 1103])∧Below w.heap.size w w':=by
 have HC:=Hd H
 have HDR:=Hd HD
 have hb2:=k.blN
 obtain ⟨z,hz⟩:∃ z,z=(bl k.c.n+7) / 8:=⟨_,rfl⟩
 have HGR:=Hd (fun W (h:DrbgAt W dr id kv n)=>dgen_reseed dr id kv n (z:Int) ⟨#[]⟩ W (by omega) (by omega) (by decide) hn h)
 have HZ:=Hd hz
 clear H HD hb2 hz hn
 go_enter Tryz.func34,Tryz.ntmps34
 go_upto_region 1 with fail
 rw [← nZ]
 have m0:=Mem.start1 w (nc 0) 27
 obtain ⟨w1,hw1⟩:∃ w1:World,w1=(w.alloc (.cells (nc 0) 27)):=⟨_,rfl⟩
 rw [← hw1] at m0 ⊢
 clear hw1
 obtain ⟨g,hg⟩:∃ g,g=w.heap.size:=⟨_,rfl⟩
 rw [← hg] at m0 ⊢
 have HG:=Hd hg
 have M:=Hd m0
 clear hg m0
 replace M:=Hd (MC.of M.out (HC.out.up M.out.1))
 go_upto_region 1 with (fail)
 refine wp_region_lit ?_
 refine pK (.func (.func 35) #[.pointer (some ⟨dr,0,none⟩)] #[]) ?_
 refine pK (.pointer (some ⟨c,0,none⟩)) ?_
 refine fL rfl 77 (.func 77) #[.tmp 13] #[70] rfl #[] #[.pointer (some ⟨c,0,none⟩)] (by kernel_rfl) (by kernel_rfl) (fun u=>cE _ _ _ _ u Tryz.func77 (by kernel_rfl) (by kernel_rfl)) (.int .i64 (z:Int)) (HZ.out ▸ curve_bytes k c f d w1 M.out.crv) (fun w2 hb=>?_)
 have Nw2:=Hd (M.out.grow hb)
 clear hb M
 refine fL rfl 35 (.tmp 12) #[.tmp 14,.const (.string ⟨#[]⟩)] #[3,9] rfl #[.pointer (some ⟨dr,0,none⟩)] #[.int .i64 (z:Int),.string ⟨#[]⟩] (by kernel_rfl) (by kernel_rfl) (fun u=>cE _ _ _ _ u Tryz.func35 (by kernel_rfl) (by kernel_rfl)) (.tuple #[.string ByteArray.empty,.int .i64 1103]) ((HGR.out w2 (grows_at HDR.out Nw2.out.1)).mono fun e w' ⟨h1,h2⟩=>⟨h1,h2 ▸ Below.refl _ _⟩) (fun w3 hb=>?_)
 have M3:=Hd (Nw2.out.grow hb)
 clear hb Nw2
 refine pK (.tuple #[.string ByteArray.empty,.int .i64 1103]) ?_
 refine pK (.string ByteArray.empty) ?_
 refine pK (.int .i64 1103) ?_
 refine pK (.string ByteArray.empty) ?_
 refine pK (.int .i64 1103) ?_
 refine wpList_nil ?_
 try simp only [Act.put,s_,t_,u_,v_,x_,y_]
 go_upto_region 2 with (fail)
 refine wp_region_lit ?_
 refine pK (.int .i64 1103) ?_
 refine pK (.bool true) ?_
 refine wpList_nil ?_
 try simp only [Act.put,s_,t_,u_,v_,x_,y_]
 go_upto_region 3 with (fail)
 refine wp_region_lit ?_
 try simp only [Act.put,s_,t_,u_,v_,x_,y_]
 refine pL rfl (.agg (nc 0)) (fun u=>by rw [nZ]; kernel_rfl) ?_
 refine pK (.int .i64 1103) ?_
 refine sB rfl 27 (.tmp 4) (.tmp 20) rfl g (by kernel_rfl) _ _ (nc 0) (by kernel_rfl) (M3.out.at 0 rfl) (by rw [nS]; kernel_rfl) (by simp only [nS]) (nO _) ?_
 intro w3 hw hb hs
 have Nw3:=Hd (M3.out.store 0 rfl hb hs hw)
 clear hw hb hs M3
 refine pK (.bool false) ?_
 refine pK (.int .i64 1103) ?_
 refine wpList_nil ?_
 try simp only [Act.put,s_,t_,u_,v_,x_,y_]
 go_wp2_with (fail)
 refine bodyPost_ret (results_N3 rfl _ _ g _ _ _ _ _ rfl rfl rfl (Nw3.out.at 0 rfl)) rfl ⟨rfl,Nw3.out.below⟩
def MadeAt (w:World) (dr id:Nat):Prop:=∃ kv n,fit id kv∧0≤n∧n≤65∧DrbgAt w dr id kv n
theorem key_mk (k:CK) (dr id:Nat) (w:World) (hi:isId id) (HD:MadeAt w dr id):Calls Tryz.prog 14 #[.int .i64 k.1,.pointer (some ⟨dr,0,none⟩)] w fun e w'=>∃ (X:Nat) (tries err:Int),e=.returned (.tuple #[.agg (nc X),.int .i64 tries,.int .i64 err])∧((err=0∧X≠0∧X<k.c.n)∨err=2402∨err=2403)∧MadeAt w' dr id∧But dr w w':=by
 obtain ⟨kv0,n0,hf0,hn0,hn1,hd0⟩:=HD
 have HLT:=Hd (lt_of hd0)
 go_enter Tryz.func14,Tryz.ntmps14
 go_upto_region 1 with fail
 rw [← nZ]
 have m0:=Mem.start1 w (nc 0) 27
 obtain ⟨w1,hw1⟩:∃ w1:World,w1=(w.alloc (.cells (nc 0) 27)):=⟨_,rfl⟩
 rw [← hw1] at m0 ⊢
 clear hw1
 obtain ⟨g,hg⟩:∃ g,g=w.heap.size:=⟨_,rfl⟩
 rw [← hg] at m0 ⊢
 have HG:=Hd hg
 have M:=Hd m0
 clear hg m0
 go_upto_region 1 with (fail)
 refine wp_region_lit ?_
 refine pK (.int .i64 (k.1:Int)) ?_
 refine wpList_fnE rfl _ _ _ _ rfl #[] #[.int .i64 (k.1:Int)] (by kernel_rfl) (by kernel_rfl) (fun u=>cE _ _ _ _ u Tryz.func30 (by kernel_rfl) (by kernel_rfl)) (T:=Nat) (fun c=>.pointer (some ⟨c,0,none⟩)) (fun c w'=>∃ f d,CurveAt w' c f d k.c∧Below w1.heap.size w1 w') ((k.open_ w1).mono fun e w' ⟨c,f,d,he,hr,_,hb⟩=>⟨c,he,f,d,hr,hb⟩) ?_
 rintro c w2 ⟨f,d,hc,hb⟩
 have M2:=Hd (MC.of (M.out.grow hb) hc)
 clear hc hb M
 refine pK (.pointer (some ⟨c,0,none⟩)) ?_
 refine wpList_nil ?_
 try simp only [Act.put,s_,t_,u_,v_,x_,y_]
 go_upto_region 2 with (fail)
 refine wp_region_lit ?_
 refine pK (.pointer (some ⟨dr,0,none⟩)) ?_
 refine pK (.bool false) ?_
 refine pK (.bool false) ?_
 refine wpList_nil ?_
 try simp only [Act.put,s_,t_,u_,v_,x_,y_]
 go_upto_region 4 with (fail)
 refine wp_region_lit ?_
 refine pK (.pointer (some ⟨c,0,none⟩)) ?_
 refine pK (.bool false) ?_
 refine pK (.bool false) ?_
 refine wpList_nil ?_
 try simp only [Act.put,s_,t_,u_,v_,x_,y_]
 go_upto_region 6 with (fail)
 refine wp_region_lit ?_
 refine pK (.pointer (some ⟨dr,0,none⟩)) ?_
 refine pK (.func (.func 35) #[.pointer (some ⟨dr,0,none⟩)] #[]) ?_
 refine pK (.func (.func 35) #[.pointer (some ⟨dr,0,none⟩)] #[]) ?_
 refine wpList_nil ?_
 try simp only [Act.put,s_,t_,u_,v_,x_,y_]
 go_upto_region 7 with (fail)
 refine wp_region_lit ?_
 refine pK (.int .i64 0) ?_
 refine wpList_nil ?_
 try simp only [Act.put,s_,t_,u_,v_,x_,y_]
 go_upto_region 8 with (fail)
 go_loopw [25] (fun iv wr=>∃ (j:Nat) (wb:World) (kv:ByteArray × ByteArray) (n:Int),j≤64∧iv=.int .i64 (j:Int)∧But dr w wb∧wb.heap.size=w.heap.size∧fit id kv∧0≤n∧n≤65∧DrbgAt wb dr id kv n∧MC wb wr [(g,nc 0,27)] c f d k.c) (fun iv _=>(64 - intOf iv).toNat)
 case atStart=>exact ⟨0,w,kv0,n0,by omega,rfl,But.refl _ _,rfl,hf0,hn0,hn1,hd0,M2.out⟩
 case round=>
  obtain ⟨j,wb,kv,n,hj,rfl,hbb,hbs,hf,hnn0,hnn1,hdb,hm⟩:=hrel
  have M:=Hd hm
  have HBB:=Hd hbb
  have HBS:=Hd hbs
  have HDB:=Hd hdb
  clear hm hbb hbs hdb hd0 hf0
  by_cases hlt:j<64
  ·skip
   go_upto_region 9 with (fail)
   refine wp_region_lit ?_
   refine pK (.int .i64 (j:Int)) ?_
   refine pK (.int .i64 (j:Int)) ?_
   refine wpList_nil ?_
   try simp only [Act.put,s_,t_,u_,v_,x_,y_]
   go_upto_region 10 with (fail)
   by_cases hn64:n≤64
   ·skip
    obtain ⟨X,hX⟩:∃ X,X=tryN k id kv:=⟨_,rfl⟩
    obtain ⟨ok,hok⟩:∃ ok,ok=decide (X≠0∧X<k.c.n):=⟨_,rfl⟩
    have HOK:=Hd hok
    have HTR:=Hd (show ∀ c f d W,CurveAt W c f d k.c→DrbgAt W dr id kv n→Calls Tryz.prog 34 #[.pointer (some ⟨c,0,none⟩),.func (.func 35) #[.pointer (some ⟨dr,0,none⟩)] #[]] W fun e w'=>e=.returned (.tuple #[.agg (nc X),.bool ok,.int .i64 0])∧DrbgAt w' dr id (tryK k id kv) (n+1)∧But dr W w' from fun c f d W H h=>by rw [hok,hX]; exact key_try k c f d dr id kv n W hi hf hnn0 hn64 H h)
    clear hX hok
    refine wp_region_lit ?_
    refine pK (.pointer (some ⟨c,0,none⟩)) ?_
    refine pK (.func (.func 35) #[.pointer (some ⟨dr,0,none⟩)] #[]) ?_
    refine wpList_fnE rfl _ _ _ _ rfl #[] #[.pointer (some ⟨c,0,none⟩),.func (.func 35) #[.pointer (some ⟨dr,0,none⟩)] #[]] (by kernel_rfl) (by kernel_rfl) (fun u=>cE _ _ _ _ u Tryz.func34 (by kernel_rfl) (by kernel_rfl)) (T:=Unit) (fun _=>.tuple #[.agg (nc X),.bool ok,.int .i64 0]) (fun _ w'=>DrbgAt w' dr id (tryK k id kv) (n+1)∧But dr wr w') ((HTR.out c f d wr M.out.crv ((M.out.below.block dr (lt_of HDB.out)).trans HDB.out)).mono fun e w' ⟨h1,h2,h3⟩=>⟨(),h1,h2,h3⟩) ?_
    rintro _ w3 ⟨hd3,hb3⟩
    have hoff:=M.out.crv.off ((M.out.below.block dr (lt_of HDB.out)).trans HDB.out)
    obtain ⟨wb2,hb4,hs4,hq4,hm4⟩:=M.out.rebase hb3 (lt_of HDB.out) hoff.1 hoff.2.1 hoff.2.2
    have HDB2:=Hd (show DrbgAt wb2 dr id (tryK k id kv) (n+1) from hq4.trans hd3)
    have HBB2:=Hd (HBB.out.trans hb4)
    have HBS2:=Hd (hs4.trans HBS.out)
    have M3:=Hd hm4
    clear hd3 hb3 hb4 hs4 hq4 hm4 hoff HTR HBB HBS HDB M
    refine pK (.tuple #[.agg (nc X),.bool ok,.int .i64 0]) ?_
    refine pK (.agg (nc X)) ?_
    refine pK (.bool ok) ?_
    refine pK (.int .i64 0) ?_
    refine nL rfl 27 rfl (.agg (nc 0)) (by rw [nZ]; kernel_rfl) ?_
    intro kb w4 hx hx2 hgv hh
    have M4:=Hd (show MC wb2 w4 [(g,nc 0,27),(kb,nc 0,27)] c f d k.c from M3.out.new hgv (Nat.le_of_eq hx) hh)
    clear hx hx2 hgv hh M3
    refine sB rfl 27 (.tmp 10) (.tmp 32) rfl kb (by kernel_rfl) _ _ (nc X) (by kernel_rfl) (M4.out.at 1 rfl) (by rw [nS]; kernel_rfl) (by simp only [nS]) (nO _) ?_
    intro w5 hw hb hs
    have M5:=Hd (M4.out.store 1 rfl hb hs hw)
    clear hw hb hs M4
    refine pK (.bool ok) ?_
    refine pK (.int .i64 0) ?_
    refine wpList_nil ?_
    try simp only [Act.put,s_,t_,u_,v_,x_,y_]
    go_upto_region 11 with (fail)
    refine wp_region_lit ?_
    refine pK (.int .i64 0) ?_
    refine pK (.bool false) ?_
    refine pK (.bool false) ?_
    refine wpList_nil ?_
    try simp only [Act.put,s_,t_,u_,v_,x_,y_]
    go_upto_region 13 with (fail)
    cases ok with
    | false=>
     refine wp_region_lit ?_
     refine pK (.bool false) ?_
     refine pK (.bool false) ?_
     refine wpList_nil ?_
     try simp only [Act.put,s_,t_,u_,v_,x_,y_]
     go_wp2_with (fail)
     exact ⟨⟨j+1,wb2,tryK k id kv,n+1,by omega,by go_num,HBB2.out,HBS2.out,genK_fit hi _ _ _,by omega,by omega,HDB2.out,M5.out.take 1⟩,by simp [intOf]; omega⟩
    | true=>
     have hkey:=of_decide_eq_true HOK.out.symm
     refine wp_region_lit ?_
     refine pK (.bool true) ?_
     refine pK (.bool true) ?_
     refine wpList_nil ?_
     try simp only [Act.put,s_,t_,u_,v_,x_,y_]
     go_upto_region 14 with (fail)
     refine wp_region_lit ?_
     refine l0N rfl (.tmp 10) rfl kb (by kernel_rfl) (M5.out.at 1 rfl) ?_
     refine pK (.int .i64 (j:Int)) ?_
     try simp only [Act.put,s_,t_,u_,v_,x_,y_]
     refine pL rfl (.int .i64 ((j+1:Nat):Int)) (fun u=>run_bini _ _ _ _ _ rfl (j:Int) ((1:Nat):Int) (by kernel_rfl) (by kernel_rfl) (bi_add _ (by omega)) u) ?_
     refine sB rfl 27 (.tmp 4) (.tmp 42) rfl g (by kernel_rfl) _ _ (nc X) (by kernel_rfl) (M5.out.at 0 rfl) (by rw [nS]; kernel_rfl) (by simp only [nS]) (nO _) ?_
     intro w122 hw hb hs
     have Nw122:=Hd (M5.out.store 0 rfl hb hs hw)
     clear hw hb hs M5
     refine pK (.int .i64 ((j+1:Nat):Int)) ?_
     refine pK (.int .i64 0) ?_
     refine wpList_nil ?_
     try simp only [Act.put,s_,t_,u_,v_,x_,y_]
     go_wp2_with (fail)
     exact bodyPost_ret (results_N3 rfl _ _ g _ _ _ _ _ rfl rfl rfl (Nw122.out.at 0 rfl)) rfl ⟨X,_,_,rfl,.inl ⟨rfl,hkey.1,hkey.2⟩,⟨tryK k id kv,n+1,genK_fit hi _ _ _,by omega,by omega,(Nw122.out.below.block dr (lt_of HDB2.out)).trans HDB2.out⟩,HBB2.out.trans (But.of_below Nw122.out.below)⟩
   ·skip
    have HTR:=Hd (fun c f d W (H:CurveAt W c f d k.c) (h:DrbgAt W dr id kv n)=>key_try_no k c f d dr id kv n W (by omega) H h)
    refine wp_region_lit ?_
    refine pK (.pointer (some ⟨c,0,none⟩)) ?_
    refine pK (.func (.func 35) #[.pointer (some ⟨dr,0,none⟩)] #[]) ?_
    refine fL rfl 34 (.func 34) #[.tmp 29,.tmp 30] #[70,80] rfl #[] #[.pointer (some ⟨c,0,none⟩),.func (.func 35) #[.pointer (some ⟨dr,0,none⟩)] #[]] (by kernel_rfl) (by kernel_rfl) (fun u=>cE _ _ _ _ u Tryz.func34 (by kernel_rfl) (by kernel_rfl)) (.tuple #[.agg (nc 0),.bool false,.int .i64 1103]) (HTR.out c f d wr M.out.crv ((M.out.below.block dr (lt_of HDB.out)).trans HDB.out)) (fun w3 hb=>?_)
    have M3:=Hd (M.out.grow hb)
    clear hb M
    refine pK (.tuple #[.agg (nc 0),.bool false,.int .i64 1103]) ?_
    refine pK (.agg (nc 0)) ?_
    refine pK (.bool false) ?_
    refine pK (.int .i64 1103) ?_
    refine nL rfl 27 rfl (.agg (nc 0)) (by rw [nZ]; kernel_rfl) ?_
    intro kb w4 hx hx2 hgv hh
    have M4:=Hd (show MC wb w4 [(g,nc 0,27),(kb,nc 0,27)] c f d k.c from M3.out.new hgv (Nat.le_of_eq hx) hh)
    clear hx hx2 hgv hh M3
    refine sB rfl 27 (.tmp 10) (.tmp 32) rfl kb (by kernel_rfl) _ _ (nc 0) (by kernel_rfl) (M4.out.at 1 rfl) (by rw [nS]; kernel_rfl) (by simp only [nS]) (nO _) ?_
    intro w5 hw hb hs
    have M5:=Hd (M4.out.store 1 rfl hb hs hw)
    clear hw hb hs M4
    refine pK (.bool false) ?_
    refine pK (.int .i64 1103) ?_
    refine wpList_nil ?_
    try simp only [Act.put,s_,t_,u_,v_,x_,y_]
    go_upto_region 11 with (fail)
    refine wp_region_lit ?_
    refine pK (.int .i64 1103) ?_
    refine pK (.bool true) ?_
    refine pK (.bool true) ?_
    refine wpList_nil ?_
    try simp only [Act.put,s_,t_,u_,v_,x_,y_]
    go_upto_region 12 with (fail)
    refine wp_region_lit ?_
    try simp only [Act.put,s_,t_,u_,v_,x_,y_]
    refine pL rfl (.agg (nc 0)) (fun u=>by rw [nZ]; kernel_rfl) ?_
    refine pK (.int .i64 (j:Int)) ?_
    refine sB rfl 27 (.tmp 4) (.tmp 38) rfl g (by kernel_rfl) _ _ (nc 0) (by kernel_rfl) (M5.out.at 0 rfl) (by rw [nS]; kernel_rfl) (by simp only [nS]) (nO _) ?_
    intro w82 hw hb hs
    have Nw82:=Hd (M5.out.store 0 rfl hb hs hw)
    clear hw hb hs M5
    refine pK (.int .i64 (j:Int)) ?_
    refine pK (.int .i64 2402) ?_
    refine wpList_nil ?_
    try simp only [Act.put,s_,t_,u_,v_,x_,y_]
    go_wp2_with (fail)
    exact bodyPost_ret (results_N3 rfl _ _ g _ _ _ _ _ rfl rfl rfl (Nw82.out.at 0 rfl)) rfl ⟨0,_,_,rfl,.inr (.inl rfl),⟨kv,n,hf,hnn0,hnn1,(Nw82.out.below.block dr (lt_of HDB.out)).trans HDB.out⟩,HBB.out.trans (But.of_below Nw82.out.below)⟩
  ·obtain rfl:j=64:=by omega
   go_upto_region 16 with (fail)
   refine wp_region_lit ?_
   try simp only [Act.put,s_,t_,u_,v_,x_,y_]
   refine pL rfl (.agg (nc 0)) (fun u=>by rw [nZ]; kernel_rfl) ?_
   refine sB rfl 27 (.tmp 4) (.tmp 46) rfl g (by kernel_rfl) _ _ (nc 0) (by kernel_rfl) (M.out.at 0 rfl) (by rw [nS]; kernel_rfl) (by simp only [nS]) (nO _) ?_
   intro w2 hw hb hs
   have Nw2:=Hd (M.out.store 0 rfl hb hs hw)
   clear hw hb hs M
   refine pK (.int .i64 64) ?_
   refine pK (.int .i64 2403) ?_
   refine wpList_nil ?_
   try simp only [Act.put,s_,t_,u_,v_,x_,y_]
   go_wp2_with (fail)
   exact bodyPost_ret (results_N3 rfl _ _ g _ _ _ _ _ rfl rfl rfl (Nw2.out.at 0 rfl)) rfl ⟨0,_,_,rfl,.inr (.inr rfl),⟨kv,n,hf,hnn0,hnn1,(Nw2.out.below.block dr (lt_of HDB.out)).trans HDB.out⟩,HBB.out.trans (But.of_below Nw2.out.below)⟩
end Go.Proofs.YtkoonhiplicbkaaGreat.Cw
set_option maxHeartbeats 1000000
set_option maxRecDepth 100000
namespace Go.Proofs.YtkoonhiplicbkaaGreat.Cw
open Go Go.RowKit
def num4 (k:Nat):ByteArray:=⟨#[0,0,0,UInt8.ofNat k]⟩
def kdB (id:Nat) (z info:ByteArray) (k:Nat):ByteArray:=dg id (num4 k++z++info)
def kdN (id:Nat) (z info:ByteArray):Nat→ByteArray
 | 0=>ByteArray.empty
 | n+1=>kdN id z info n++kdB id z info (n+1)
theorem kdN_size {id:Nat} (h:isId id) (z info:ByteArray):∀ n,(kdN id z info n).size=n*szOf id
 | 0=>by simp [kdN]
 | n+1=>by rw [kdN,ByteArray.size_append,kdN_size h z info n,kdB,dg_sz h,Nat.add_mul,Nat.one_mul]
def kd (id:Nat) (z info:ByteArray) (size:Nat):ByteArray:=(kdN id z info 64).extract 0 size
theorem kdN_pre {id:Nat} (h:isId id) (z info:ByteArray) (n size:Nat) (hn:size≤n*szOf id):∀ m,(kdN id z info (n+m)).extract 0 size=(kdN id z info n).extract 0 size
 | 0=>rfl
 | m+1=>by
  rw [← Nat.add_assoc,kdN,← kdN_pre h z info n size hn m]
  apply ByteArray.ext
  simp only [ByteArray.data_extract,ByteArray.data_append]
  have hs:size≤(kdN id z info (n+m)).data.size:=by
   show size≤(kdN id z info (n+m)).size
   rw [kdN_size h,Nat.add_mul]
   exact Nat.le_trans hn (Nat.le_add_right _ _)
  rw [Array.extract_append,show size - (kdN id z info (n+m)).data.size=0 by omega]
  simp
theorem kd_at {id:Nat} (h:isId id) (z info:ByteArray) (n size:Nat) (hn:size≤n*szOf id) (hm:n≤64):(kdN id z info n).extract 0 size=kd id z info size:=by
 have:=kdN_pre h z info n size hn (64 - n)
 rw [show n+(64 - n)=64 by omega] at this
 exact this.symm
theorem num4_size (k:Nat):(num4 k).size=4:=rfl
theorem conv4 (w:World) (n:Nat) (h:n<200):(convert 103 9 (.slice (some ⟨w.heap.size,0,none⟩) 4 4)).run Tryz.prog (w.alloc (.cells #[.int .u8 0,.int .u8 0,.int .u8 0,.int .u8 ((n:Int)+1)] 5))=.ok (.string (num4 (n+1))) (w.alloc (.cells #[.int .u8 0,.int .u8 0,.int .u8 0,.int .u8 ((n:Int)+1)] 5)):=by
 have e:v8 (UInt8.ofNat (n+1))=.int .u8 ((n:Int)+1):=by
  unfold v8
  rw [UInt8.toNat_ofNat',Nat.mod_eq_of_lt (by omega)]
  simp
 exact run_convert_rd (Rd.row [0,0,0,UInt8.ofNat (n+1)] 4 rfl (fun _=>True) trivial (new1 w _) (by simp only [List.map_cons,List.map_nil,e]; rfl)) 103 9 5 Tryz.underlying103 Tryz.underlying5 Tryz.underlying9
theorem kdf_yes (id:Nat) (z info:ByteArray) (size:Nat) (w:World) (hi:isId id) (h:size≤1024) (hs:z.size+info.size≤140737488351000) :
  Calls Tryz.prog 23 #[.int .i64 id,.string z,.string info,.int .i64 size] w fun e w'=>e=.returned (.tuple #[.string (kd id z info size),.int .i64 0])∧Below w.heap.size w w':=by
 have hz:=szOf_ne id
 have hsp:=szOf_pos id
 have hd0:decide ((size:Int)<0)=false:=by simp; try omega
 have hd1:decide (1024<(size:Int))=false:=by simp; omega
 go_enter Tryz.func23,Tryz.ntmps23
 go_wp2_with (fail)
 refine (hsize id hi _).mono ?_
 rintro e w1 ⟨rfl,hb1⟩
 go_wp2
 go_loopw [11,10] (fun k v wr=>∃ n:Nat,n≤37∧k=.int .i64 ((n:Int)+1)∧v=.string (kdN id z info n)∧Below w.heap.size w wr) (fun k _ _=>40 - (intOf k).toNat)
 case atStart=>exact ⟨0,by omega,rfl,rfl,hb1⟩
 case round=>
  obtain ⟨n,hn,rfl,rfl,hbr⟩:=hrel
  obtain ⟨L,hL⟩:∃ L,L=n*szOf id:=⟨_,rfl⟩
  have hsz:(kdN id z info n).size=L:=by rw [hL]; exact kdN_size hi z info n
  have hL28:n*28≤L:=by rw [hL]; exact Nat.mul_le_mul_left _ hsp.1
  have HL:=Hd hL
  clear hL
  by_cases hlt:L<size
  ·have e24:((n:Int)+1) / 16777216=0:=by omega
   have e16:((n:Int)+1) / 65536=0:=by omega
   have e8:((n:Int)+1) / 256=0:=by omega
   have hcv:=conv4 wr n (by omega)
   have hn4:=num4_size (n+1)
   have hz2:z.size≤140737488351000:=by omega
   have hi2:info.size≤140737488351000:=by omega
   go_wp2_with (fail)
   refine (hashOf_yes id (num4 (n+1)++z++info) _ hi (by simp [ByteArray.size_append]; rw [num4_size]; omega)).mono ?_
   rintro e w2 ⟨rfl,hb2⟩
   have hdz:=dg_sz hi (num4 (n+1)++z++info)
   have hBr:Below w.heap.size w w2:=(hbr.alloc hbr.size _).trans (hb2.mono (by have:=hbr.size; simp; omega))
   go_wp2
   go_roundw
   case rel=>exact ⟨n+1,by omega,by go_num,rfl,hBr⟩
   case measure=>simp [intOf]; omega
  ·go_wp2
   go_ret2
   refine ⟨?_,hbr⟩
   show Ending.returned (.tuple #[.string ((kdN id z info n).extract 0 size),.int .i64 0])=_
   rw [kd_at hi z info n size (by rw [← HL.out]; omega) (by omega)]
end Go.Proofs.YtkoonhiplicbkaaGreat.Cw
namespace Go.Proofs.YtkoonhiplicbkaaGreat.Cw
open Go Go.RowKit
theorem kd_size {id:Nat} (h:isId id) (z info:ByteArray) (size:Nat) (hs:size≤1024):(kd id z info size).size=size:=by
 unfold kd
 have:=szOf_pos id
 rw [ByteArray.size_extract,kdN_size h]
 omega
theorem and_nat (c:Int) (m:Nat) (hm:m<4611686018427387904):∃ k:Nat,bits BinOp.and IntKind.i64 c (m:Int)=(k:Int)∧k≤m:=by
 have h:((BitVec.ofInt 64 c) &&& (BitVec.ofInt 64 (m:Int))).toNat≤m:=by
  rw [BitVec.toNat_and,BitVec.ofInt_natCast]
  refine Nat.le_trans Nat.and_le_right ?_
  rw [BitVec.toNat_ofNat]
  exact Nat.mod_le _ _
 refine ⟨((BitVec.ofInt 64 c) &&& (BitVec.ofInt 64 (m:Int))).toNat,?_,h⟩
 show IntKind.i64.wrap (((BitVec.ofInt 64 c) &&& (BitVec.ofInt 64 (m:Int))).toNat:Int)=_
 exact IntWalk.i64_in _ (by omega)
theorem andb255 (c:Int):∃ k:Nat,bits BinOp.and IntKind.i64 c 255=(k:Int)∧k≤255:=and_nat c 255 (by decide)
end Go.Proofs.YtkoonhiplicbkaaGreat.Cw
