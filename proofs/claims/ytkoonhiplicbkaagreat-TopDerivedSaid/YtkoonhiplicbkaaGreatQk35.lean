/-
  (package field) half, one; (package divide) Modulus.Pow. Condition: numbers of nine words.
  Square roots modulo a prime by Tonelli and Shanks, in plain numbers. Condition: p is an odd prime.
-/
import Derived.Test.YtkoonhiplicbkaaGreatQk34
import Derived.Test.YtkoonhiplicbkaaGreatQk25
set_option linter.unusedSimpArgs false
set_option linter.unusedVariables false
set_option maxHeartbeats 4000000
set_option maxRecDepth 100000
namespace Go.Proofs.YtkoonhiplicbkaaGreat.Cw
open Go Go.RowKit
attribute [local irreducible] pc ptc nc ac cuc fc gpt
attribute [local go_sem ↓ high] wn_eql wn_neq wn_lss wn_gtr wn_leq wn_geq wn_cells wRS wn_guard lit0 lit1
attribute [local go_sem high] wn_match wRS wn_eql wn_neq wn_lss wn_gtr wn_leq wn_geq
theorem field_half (a:Nat) (w:World) (ha:a<pw 9):Calls Tryz.prog 139 #[.agg (nc a)] w fun e w'=>e=.returned (.agg (nc (a / 2)))∧Below w.heap.size w w':=by
 have A9:=Hd ha
 clear ha
 go_enter Tryz.func139,Tryz.ntmps139
 go_upto_region 1 with fail
 rw [← nZ]
 have m0:=Mem.start2 w (nc a) (nc 0) 27 27
 obtain ⟨w1,hw1⟩:∃ w1:World,w1=((w.alloc (.cells (nc a) 27)).alloc (.cells (nc 0) 27)):=⟨_,rfl⟩
 rw [← hw1] at m0 ⊢
 clear hw1
 obtain ⟨g,hg⟩:∃ g,g=w.heap.size:=⟨_,rfl⟩
 rw [← hg] at m0 ⊢
 have HG:=Hd hg
 have M:=Hd m0
 clear hg m0
 refine wp_region_lit ?_
 refine l0N rfl (.tmp 1) rfl g (by kernel_rfl) (M.out.at 0 rfl) ?_
 refine fL rfl 76 (.func 76) #[.tmp 6,.const (.int .i64 1)] #[27,3] rfl #[] #[.agg (nc a),.int .i64 1] (by kernel_rfl) (by kernel_rfl) (fun u=>cE _ _ _ _ u Tryz.func76 (by kernel_rfl) (by kernel_rfl)) (.tuple #[.agg (nc ((a / 2))),.int .i64 0]) (nat_shr a 1 w1 A9.out (by decide)) (fun w2 hb=>?_)
 have Nw2:=Hd (M.out.grow hb)
 clear hb M
 refine pK (.tuple #[.agg (nc ((a / 2))),.int .i64 0]) ?_
 refine pK (.agg (nc ((a / 2)))) ?_
 refine pK (.int .i64 0) ?_
 refine nL rfl 27 rfl (.agg (nc 0)) (by rw [nZ]; kernel_rfl) ?_
 intro y w3 hx hx2 hgv hh
 have Nw3:=Hd (show Mem w w3 [(g,nc a,27),(g+1,nc 0,27),(y,nc 0,27)] from Nw2.out.new hgv (Nat.le_of_eq hx) hh)
 clear hx hx2 hgv hh Nw2
 refine sB rfl 27 (.tmp 3) (.tmp 8) rfl y (by kernel_rfl) _ _ (nc ((a / 2))) (by kernel_rfl) (Nw3.out.at 2 rfl) (by rw [nS]; kernel_rfl) (by simp only [nS]) (nO _) ?_
 intro w4 hw hb hs
 have Nw4:=Hd (Nw3.out.store 2 rfl hb hs hw)
 clear hw hb hs Nw3
 refine pK (.int .i64 0) ?_
 refine wpList_nil ?_
 try simp only [Act.put,s_,t_,u_,v_,x_,y_]
 go_upto_region 2 with (fail)
 refine wp_region_lit ?_
 refine l0N rfl (.tmp 3) rfl y (by kernel_rfl) (Nw4.out.at 2 rfl) ?_
 refine sB rfl 27 (.tmp 2) (.tmp 10) rfl (g+1) (by kernel_rfl) _ _ (nc ((a / 2))) (by kernel_rfl) (Nw4.out.at 1 rfl) (by rw [nS]; kernel_rfl) (by simp only [nS]) (nO _) ?_
 intro w5 hw hb hs
 have Nw5:=Hd (Nw4.out.store 1 rfl hb hs hw)
 clear hw hb hs Nw4
 refine wpList_nil ?_
 try simp only [Act.put,s_,t_,u_,v_,x_,y_]
 go_wp2_with (fail)
 refine bodyPost_ret (results_N rfl _ _ (g+1) _ _ _ rfl (Nw5.out.at 1 rfl)) rfl ⟨rfl,Nw5.out.below⟩
theorem field_one (w:World):Calls Tryz.prog 137 #[] w fun e w'=>e=.returned (.agg (nc 1))∧Below w.heap.size w w':=by
 go_enter Tryz.func137,Tryz.ntmps137
 go_upto_region 1 with fail
 rw [← nZ]
 have m0:=Mem.start1 w (nc 0) 27
 obtain ⟨w1,hw1⟩:∃ w1:World,w1=(w.alloc (.cells (nc 0) 27)):=⟨_,rfl⟩
 rw [← hw1] at m0 ⊢
 clear hw1
 obtain ⟨g,hg⟩:∃ g,g=w.heap.size:=⟨_,rfl⟩
 rw [← hg] at m0 ⊢
 have HG:=Hd hg
 have M:=Hd m0
 clear hg m0
 refine wp_region_lit ?_
 refine fL rfl 47 (.func 47) #[.const (.int .i64 1)] #[3] rfl #[] #[.int .i64 1] (by kernel_rfl) (by kernel_rfl) (fun u=>cE _ _ _ _ u Tryz.func47 (by kernel_rfl) (by kernel_rfl)) (.agg (nc 1)) (nat_small 1 w1 (by decide)) (fun w2 hb=>?_)
 have Nw2:=Hd (M.out.grow hb)
 clear hb M
 refine sB rfl 27 (.tmp 0) (.tmp 1) rfl g (by kernel_rfl) _ _ (nc 1) (by kernel_rfl) (Nw2.out.at 0 rfl) (by rw [nS]; kernel_rfl) (by simp only [nS]) (nO _) ?_
 intro w3 hw hb hs
 have Nw3:=Hd (Nw2.out.store 0 rfl hb hs hw)
 clear hw hb hs Nw2
 refine wpList_nil ?_
 try simp only [Act.put,s_,t_,u_,v_,x_,y_]
 go_wp2_with (fail)
 refine bodyPost_ret (results_N rfl _ _ g _ _ _ rfl (Nw3.out.at 0 rfl)) rfl ⟨rfl,Nw3.out.below⟩
theorem pow_sq (a e m k:Nat) (hb:bitN e k=0):a ^ (e / 2 ^ (k+1))%m*(a ^ (e / 2 ^ (k+1))%m)%m=a ^ (e / 2 ^ k)%m:=by
 have h:e / 2 ^ k=e / 2 ^ (k+1)+e / 2 ^ (k+1):=by
  rw [Nat.pow_succ,← Nat.div_div_eq_div_mul]
  unfold bitN at hb
  omega
 obtain ⟨q,hq⟩:∃ q,q=e / 2 ^ (k+1):=⟨_,rfl⟩
 rw [← hq] at h ⊢
 rw [h,Nat.pow_add,← Nat.mul_mod]
theorem pow_sq1 (a e m k:Nat) (hb:bitN e k=1):a ^ (e / 2 ^ (k+1))%m*(a ^ (e / 2 ^ (k+1))%m)%m*a%m=a ^ (e / 2 ^ k)%m:=by
 have h:e / 2 ^ k=e / 2 ^ (k+1)+e / 2 ^ (k+1)+1:=by
  rw [Nat.pow_succ,← Nat.div_div_eq_div_mul]
  unfold bitN at hb
  omega
 obtain ⟨q,hq⟩:∃ q,q=e / 2 ^ (k+1):=⟨_,rfl⟩
 rw [← hq] at h ⊢
 rw [h,Nat.pow_succ,Nat.pow_add,Nat.mod_mul_mod,Nat.mul_assoc,Nat.mod_mul_mod,Nat.mul_left_comm,Nat.mod_mul_mod,Nat.mul_assoc]
theorem bit_or (e k:Nat):bitN e k=0∨bitN e k=1:=by have:=Nat.mod_lt (e / 2 ^ k) (show 0<2 by decide); unfold bitN; omega
theorem modulus_pow (d a e m:Nat) (w:World) (ha:a<pw 9) (he:e<pw 9) (hm:m<pw 9) (hm0:m≠0) (H:DivAt w d m):Calls Tryz.prog 138 #[.agg #[.pointer (some ⟨d,0,none⟩)],.agg (nc a),.agg (nc e)] w fun e' w'=>e'=.returned (.agg (nc (a ^ e%m)))∧Below w.heap.size w w':=by
 have HD:=Hd H
 have A9:=Hd ha
 have E9:=Hd he
 have HL:=Hd (show ∀ t,t%m<pw 9 from fun t=>Nat.lt_trans (Nat.mod_lt _ (by omega)) hm)
 have hbl:=bl_le576 e he
 have HWR:=Hd (show IntKind.i64.wrap ((bl e:Int) - 1)=(bl e:Int) - 1 from IntWalk.i64_in _ (by omega))
 have HST:=Hd (show 1*1%m=a ^ (e / 2 ^ bl e)%m by rw [Nat.div_eq_of_lt (bl_lt e),Nat.pow_zero])
 clear H ha he hm hm0
 go_enter Tryz.func138,Tryz.ntmps138
 go_upto_region 1 with fail
 rw [← nZ]
 have m0:=Mem.start4 w (#[.pointer (some ⟨d,0,none⟩)]) (nc a) (nc e) (nc 0) 92 27 27 27
 obtain ⟨w1,hw1⟩:∃ w1:World,w1=((((w.alloc (.cells (#[.pointer (some ⟨d,0,none⟩)]) 92)).alloc (.cells (nc a) 27)).alloc (.cells (nc e) 27)).alloc (.cells (nc 0) 27)):=⟨_,rfl⟩
 rw [← hw1] at m0 ⊢
 clear hw1
 obtain ⟨g,hg⟩:∃ g,g=w.heap.size:=⟨_,rfl⟩
 rw [← hg] at m0 ⊢
 have HG:=Hd hg
 have M:=Hd m0
 clear hg m0
 have D2:=Hd (M.out.drew)
 clear M
 refine rGw 4 5 (by kernel_rfl) (by kernel_rfl) (fun d v c a w h=>by cases d <;> exact h) ?_
 simp only [List.take_succ_cons,List.take_zero]
 refine wpGrow_load_seg rfl 92 (.tmp 3) rfl g 0 1 (by kernel_rfl) (#[.pointer (some ⟨d,0,none⟩)]) _ Tryz.underlying92 rfl (by kernel_rfl) (rfl) (fun u hu=>D2.out.up 0 rfl hu) (fun j hj=>by rw [Nat.zero_add]) ?_
 refine fG rfl 47 (.func 47) #[.const (.int .i64 1)] #[3] rfl #[] #[.int .i64 1] (by kernel_rfl) (by kernel_rfl) (fun u=>cE _ _ _ _ u Tryz.func47 (by kernel_rfl) (by kernel_rfl)) (.agg (nc 1)) (fun u hu=>by exact nat_small 1 u (by decide)) ?_
 refine fG rfl 47 (.func 47) #[.const (.int .i64 1)] #[3] rfl #[] #[.int .i64 1] (by kernel_rfl) (by kernel_rfl) (fun u=>cE _ _ _ _ u Tryz.func47 (by kernel_rfl) (by kernel_rfl)) (.agg (nc 1)) (fun u hu=>by exact nat_small 1 u (by decide)) ?_
 refine fG rfl 43 (.func 43) #[.tmp 9,.tmp 10,.tmp 11] #[92,27,27] rfl #[] #[.agg #[.pointer (some ⟨d,0,none⟩)],.agg (nc 1),.agg (nc 1)] (by kernel_rfl) (by kernel_rfl) (fun u=>cE _ _ _ _ u Tryz.func43 (by kernel_rfl) (by kernel_rfl)) (.agg (nc ((1*1%m)))) (fun u hu=>by exact modulus_mul d 1 1 m u one_pw9 one_pw9 (HD.out.up (gT _ _ _ D2.out.1 hu))) ?_
 refine gN ?_
 try simp only [Act.put,s_,t_,u_,v_,x_,y_]
 refine grow_alloc (i:=4) (f:=1) (by kernel_rfl) (by decide) rfl rfl 27 rfl (.agg (nc 0)) (by rw [nZ]; kernel_rfl) ?_
 intro y v3 hx hx2 hgv hh
 have Nv3:=Hd (D2.out.new hgv hx hh)
 have Nv3:Hid (Mem w v3 [(g,#[.pointer (some ⟨d,0,none⟩)],92),(g+1,nc a,27),(g+1+1,nc e,27),(g+1+1+1,nc 0,27),(y,nc 0,27)]):=Nv3
 clear hgv hx hx2 hh D2
 try simp only [Act.put,s_,t_,u_,v_,x_,y_]
 refine gS (rs:=[5]) (by kernel_rfl) (by decide) (fun w4 hg6=>?_)
 have Nw4:=Hd (Nv3.out.grow hg6)
 clear hg6 Nv3
 refine wpAny_ready (rs:=[5]) (by kernel_rfl) (by simp) ?_
 refine AllReady.cons rfl (fun K hK=>?_) AllReady.nil
 refine sK rfl 27 (.tmp 7) (.tmp 12) rfl y rfl _ _ _ rfl (Nw4.out.at 4 rfl) (by rw [nS]; kernel_rfl) (by simp only [nS]) (nO _) (fun w5 hw hb hs=>hK _ _ ?_)
 have Nw5:=Hd (Nw4.out.store 4 rfl hb hs hw)
 clear hK hw hb hs Nw4
 try simp only [Act.put,s_,t_,u_,v_,x_,y_]
 refine wpAny_done (by kernel_rfl) ?_ _
 try simp only [Act.put,s_,t_,u_,v_,x_,y_]
 rw [HST.out] at Nw5
 go_upto_region 2 with (fail)
 refine wp_region_lit ?_
 refine l0N rfl (.tmp 5) rfl (g+1+1) (by kernel_rfl) (Nw5.out.at 2 rfl) ?_
 refine fL rfl 72 (.func 72) #[.tmp 13] #[27] rfl #[] #[.agg (nc e)] (by kernel_rfl) (by kernel_rfl) (fun u=>cE _ _ _ _ u Tryz.func72 (by kernel_rfl) (by kernel_rfl)) (.int .i64 (bl e:Int)) (nat_bits e w5 E9.out) (fun w6 hb=>?_)
 have Nw6:=Hd (Nw5.out.grow hb)
 clear hb Nw5
 try simp only [Act.put,s_,t_,u_,v_,x_,y_]
 refine pL rfl (.int .i64 ((bl e:Int) - 1)) (fun u=>by go_simp; exact HWR.out) ?_
 refine pK (.int .i64 ((bl e:Int) - 1)) ?_
 refine wpList_nil ?_
 try simp only [Act.put,s_,t_,u_,v_,x_,y_]
 go_upto_region 3 with (fail)
 go_loopw [8] (fun iv wr=>∃ k:Nat,k≤bl e∧iv=.int .i64 ((k:Int) - 1)∧Mem w wr [(g,#[.pointer (some ⟨d,0,none⟩)],92),(g+1,nc a,27),(g+1+1,nc e,27),(g+1+1+1,nc 0,27),(y,nc ((a ^ (e / 2 ^ k)%m)),27)]) (fun iv _=>(intOf iv+1).toNat)
 case atStart=>exact ⟨bl e,Nat.le_refl _,rfl,Nw6.out⟩
 case round=>
  obtain ⟨k,hk,rfl,hm⟩:=hrel
  have M:=Hd hm
  clear hm
  rcases Nat.eq_zero_or_pos k with rfl | hpos
  ·have HF:=Hd (show a ^ (e / 2 ^ 0)%m=a ^ e%m by rw [Nat.pow_zero,Nat.div_one])
   have hm:=M.out
   rw [HF.out] at hm
   have M2:=Hd hm
   clear hm M
   go_upto_region 8 with (fail)
   refine wp_region_lit ?_
   refine l0N rfl (.tmp 7) rfl y (by kernel_rfl) (M2.out.at 4 rfl) ?_
   refine sB rfl 27 (.tmp 6) (.tmp 32) rfl (g+1+1+1) (by kernel_rfl) _ _ (nc ((a ^ e%m))) (by kernel_rfl) (M2.out.at 3 rfl) (by rw [nS]; kernel_rfl) (by simp only [nS]) (nO _) ?_
   intro w47 hw hb hs
   have Nw47:=Hd (M2.out.store 3 rfl hb hs hw)
   clear hw hb hs M2
   refine wpList_nil ?_
   try simp only [Act.put,s_,t_,u_,v_,x_,y_]
   go_wp2_with (fail)
   exact bodyPost_ret (results_N rfl _ _ (g+1+1+1) _ _ _ rfl (Nw47.out.at 3 rfl)) rfl ⟨rfl,Nw47.out.below⟩
  ·obtain ⟨j,rfl⟩:∃ j,k=j+1:=⟨k - 1,by omega⟩
   have em:((j+1:Nat):Int) - 1=(j:Int):=by omega
   rw [em]
   have hj576:j<576:=by omega
   rcases bit_or e j with hb | hb
   ·have HE:=Hd (pow_sq a e m j hb)
    obtain ⟨o,ho⟩:∃ o,o=a ^ (e / 2 ^ (j+1))%m:=⟨_,rfl⟩
    have O9:=Hd (show o<pw 9 by rw [ho]; exact HL.out _)
    rw [← ho] at M HE
    clear ho
    go_upto_region 5 with (fail)
    refine wp_region_lit ?_
    refine lS rfl 92 (.tmp 3) rfl g 0 1 (by kernel_rfl) _ _ (#[.pointer (some ⟨d,0,none⟩)]) _ _ (M.out.at 0 rfl) Tryz.underlying92 rfl (by kernel_rfl) (rfl) (fun j hj=>by rw [Nat.zero_add]) ?_
    refine l0N rfl (.tmp 7) rfl y (by kernel_rfl) (M.out.at 4 rfl) ?_
    refine l0N rfl (.tmp 7) rfl y (by kernel_rfl) (M.out.at 4 rfl) ?_
    refine fL rfl 43 (.func 43) #[.tmp 20,.tmp 21,.tmp 22] #[92,27,27] rfl #[] #[.agg #[.pointer (some ⟨d,0,none⟩)],.agg (nc o),.agg (nc o)] (by kernel_rfl) (by kernel_rfl) (fun u=>cE _ _ _ _ u Tryz.func43 (by kernel_rfl) (by kernel_rfl)) (.agg (nc ((o*o%m)))) (modulus_mul d o o m wr O9.out O9.out (HD.out.up M.out.1)) (fun w47 hb=>?_)
    have Nw47:=Hd (M.out.grow hb)
    clear hb M
    refine sB rfl 27 (.tmp 7) (.tmp 23) rfl y (by kernel_rfl) _ _ (nc ((o*o%m))) (by kernel_rfl) (Nw47.out.at 4 rfl) (by rw [nS]; kernel_rfl) (by simp only [nS]) (nO _) ?_
    intro w48 hw hb hs
    have Nw48:=Hd (Nw47.out.store 4 rfl hb hs hw)
    clear hw hb hs Nw47
    refine wpList_nil ?_
    try simp only [Act.put,s_,t_,u_,v_,x_,y_]
    go_upto_region 6 with (fail)
    refine wp_region_lit ?_
    refine l0N rfl (.tmp 5) rfl (g+1+1) (by kernel_rfl) (Nw48.out.at 2 rfl) ?_
    refine pK (.int .i64 (j:Int)) ?_
    refine fL rfl 51 (.func 51) #[.tmp 24,.tmp 25] #[27,3] rfl #[] #[.agg (nc e),.int .i64 (j:Int)] (by kernel_rfl) (by kernel_rfl) (fun u=>cE _ _ _ _ u Tryz.func51 (by kernel_rfl) (by kernel_rfl)) (.int .i64 ((0:Nat):Int)) ((hb ▸ nat_bit e j w48 hj576)) (fun w49 hb=>?_)
    have Nw49:=Hd (Nw48.out.grow hb)
    clear hb Nw48
    refine pK (.bool false) ?_
    refine wpList_nil ?_
    try simp only [Act.put,s_,t_,u_,v_,x_,y_]
    go_wp2_with (fail)
    have hfin:=Nw49.out
    rw [HE.out] at hfin
    exact ⟨⟨j,by omega,by go_num,hfin⟩,by simp [intOf]⟩
   ·have HE:=Hd (pow_sq1 a e m j hb)
    obtain ⟨o,ho⟩:∃ o,o=a ^ (e / 2 ^ (j+1))%m:=⟨_,rfl⟩
    have O9:=Hd (show o<pw 9 by rw [ho]; exact HL.out _)
    rw [← ho] at M HE
    clear ho
    go_upto_region 5 with (fail)
    refine wp_region_lit ?_
    refine lS rfl 92 (.tmp 3) rfl g 0 1 (by kernel_rfl) _ _ (#[.pointer (some ⟨d,0,none⟩)]) _ _ (M.out.at 0 rfl) Tryz.underlying92 rfl (by kernel_rfl) (rfl) (fun j hj=>by rw [Nat.zero_add]) ?_
    refine l0N rfl (.tmp 7) rfl y (by kernel_rfl) (M.out.at 4 rfl) ?_
    refine l0N rfl (.tmp 7) rfl y (by kernel_rfl) (M.out.at 4 rfl) ?_
    refine fL rfl 43 (.func 43) #[.tmp 20,.tmp 21,.tmp 22] #[92,27,27] rfl #[] #[.agg #[.pointer (some ⟨d,0,none⟩)],.agg (nc o),.agg (nc o)] (by kernel_rfl) (by kernel_rfl) (fun u=>cE _ _ _ _ u Tryz.func43 (by kernel_rfl) (by kernel_rfl)) (.agg (nc ((o*o%m)))) (modulus_mul d o o m wr O9.out O9.out (HD.out.up M.out.1)) (fun w47 hb=>?_)
    have Nw47:=Hd (M.out.grow hb)
    clear hb M
    refine sB rfl 27 (.tmp 7) (.tmp 23) rfl y (by kernel_rfl) _ _ (nc ((o*o%m))) (by kernel_rfl) (Nw47.out.at 4 rfl) (by rw [nS]; kernel_rfl) (by simp only [nS]) (nO _) ?_
    intro w48 hw hb hs
    have Nw48:=Hd (Nw47.out.store 4 rfl hb hs hw)
    clear hw hb hs Nw47
    refine wpList_nil ?_
    try simp only [Act.put,s_,t_,u_,v_,x_,y_]
    go_upto_region 6 with (fail)
    refine wp_region_lit ?_
    refine l0N rfl (.tmp 5) rfl (g+1+1) (by kernel_rfl) (Nw48.out.at 2 rfl) ?_
    refine pK (.int .i64 (j:Int)) ?_
    refine fL rfl 51 (.func 51) #[.tmp 24,.tmp 25] #[27,3] rfl #[] #[.agg (nc e),.int .i64 (j:Int)] (by kernel_rfl) (by kernel_rfl) (fun u=>cE _ _ _ _ u Tryz.func51 (by kernel_rfl) (by kernel_rfl)) (.int .i64 ((1:Nat):Int)) ((hb ▸ nat_bit e j w48 hj576)) (fun w49 hb=>?_)
    have Nw49:=Hd (Nw48.out.grow hb)
    clear hb Nw48
    refine pK (.bool true) ?_
    refine wpList_nil ?_
    try simp only [Act.put,s_,t_,u_,v_,x_,y_]
    go_upto_region 7 with (fail)
    refine wp_region_lit ?_
    refine lS rfl 92 (.tmp 3) rfl g 0 1 (by kernel_rfl) _ _ (#[.pointer (some ⟨d,0,none⟩)]) _ _ (Nw49.out.at 0 rfl) Tryz.underlying92 rfl (by kernel_rfl) (rfl) (fun j hj=>by rw [Nat.zero_add]) ?_
    refine l0N rfl (.tmp 7) rfl y (by kernel_rfl) (Nw49.out.at 4 rfl) ?_
    refine l0N rfl (.tmp 4) rfl (g+1) (by kernel_rfl) (Nw49.out.at 1 rfl) ?_
    refine fL rfl 43 (.func 43) #[.tmp 28,.tmp 29,.tmp 30] #[92,27,27] rfl #[] #[.agg #[.pointer (some ⟨d,0,none⟩)],.agg (nc ((o*o%m))),.agg (nc a)] (by kernel_rfl) (by kernel_rfl) (fun u=>cE _ _ _ _ u Tryz.func43 (by kernel_rfl) (by kernel_rfl)) (.agg (nc (((o*o%m)*a%m)))) (modulus_mul d ((o*o%m)) a m w49 (HL.out _) A9.out (HD.out.up Nw49.out.1)) (fun w50 hb=>?_)
    have Nw50:=Hd (Nw49.out.grow hb)
    clear hb Nw49
    refine sB rfl 27 (.tmp 7) (.tmp 31) rfl y (by kernel_rfl) _ _ (nc (((o*o%m)*a%m))) (by kernel_rfl) (Nw50.out.at 4 rfl) (by rw [nS]; kernel_rfl) (by simp only [nS]) (nO _) ?_
    intro w51 hw hb hs
    have Nw51:=Hd (Nw50.out.store 4 rfl hb hs hw)
    clear hw hb hs Nw50
    refine wpList_nil ?_
    try simp only [Act.put,s_,t_,u_,v_,x_,y_]
    go_wp2_with (fail)
    have hfin:=Nw51.out
    rw [HE.out] at hfin
    exact ⟨⟨j,by omega,by go_num,hfin⟩,by simp [intOf]⟩
end Go.Proofs.YtkoonhiplicbkaaGreat.Cw
namespace Go.Proofs.YtkoonhiplicbkaaGreat.Cw
theorem sq_one {p x:Nat} (hp:Pr p) (hx:x<p) (h:x*x%p=1):x=1∨x=p - 1:=by
 have h1:=hp.1
 have h2:p∣(x+1)*(x - 1)∨x=0:=by
  by_cases h0:x=0
  ·exact .inr h0
  ·refine .inl ?_
   have e:(x+1)*(x - 1)=x*x - 1:=by
    obtain ⟨y,rfl⟩:∃ y,x=y+1:=⟨x - 1,by omega⟩
    rw [Nat.add_sub_cancel,Nat.mul_add,Nat.mul_one,Nat.add_mul,Nat.add_mul]
    omega
   rw [e]
   have h3:=Nat.div_add_mod (x*x) p
   rw [h] at h3
   exact ⟨x*x / p,by omega⟩
 rcases h2 with h2 | h2
 ·rcases hp.dvd h2 with ⟨c,hc⟩ | ⟨c,hc⟩
  ·rcases (show c=0∨c=1∨2≤c by omega) with rfl | rfl | h3
   ·omega
   ·omega
   ·have:=Nat.mul_le_mul_left p h3; omega
  ·by_cases h0:x=0
   ·rw [h0] at h; simp at h
   ·rcases (show c=0∨1≤c by omega) with rfl | h3
    ·have hx1:x - 1=0:=by omega
     exact .inl (by omega)
    ·have:=Nat.mul_le_mul_left p h3; omega
 ·rw [h2] at h; simp at h
theorem sq_roots {p x y:Nat} (hp:Pr p) (hx:x<p) (hy:y<p) (h:x*x%p=y*y%p):x=y∨x+y=p∨(x=0∧y=0):=by
 have h1:=hp.1
 rcases Nat.le_total y x with hle | hle
 ·have e:p∣(x+y)*(x - y):=by
   obtain ⟨d,rfl⟩:∃ d,x=y+d:=⟨x - y,by omega⟩
   rw [Nat.add_sub_cancel_left]
   have e2:(y+d)*(y+d)=y*y+(y+d+y)*d:=by
    rw [Nat.mul_add,Nat.add_mul,Nat.add_mul,Nat.add_mul,Nat.add_mul]
    have:=Nat.mul_comm y d
    omega
   rw [e2] at h
   have h3:=Nat.div_add_mod (y*y+(y+d+y)*d) p
   have h4:=Nat.div_add_mod (y*y) p
   rw [h] at h3
   refine ⟨(y*y+(y+d+y)*d) / p - y*y / p,?_⟩
   rw [Nat.mul_sub]
   omega
  rcases hp.dvd e with ⟨c,hc⟩ | ⟨c,hc⟩
  ·rcases (show c=0∨c=1∨2≤c by omega) with rfl | rfl | h3
   ·exact .inr (.inr (by omega))
   ·exact .inr (.inl (by omega))
   ·have:=Nat.mul_le_mul_left p h3; omega
  ·rcases (show c=0∨1≤c by omega) with rfl | h3
   ·exact .inl (by omega)
   ·have:=Nat.mul_le_mul_left p h3; omega
 ·have e:p∣(y+x)*(y - x):=by
   obtain ⟨d,rfl⟩:∃ d,y=x+d:=⟨y - x,by omega⟩
   rw [Nat.add_sub_cancel_left]
   have e2:(x+d)*(x+d)=x*x+(x+d+x)*d:=by
    rw [Nat.mul_add,Nat.add_mul,Nat.add_mul,Nat.add_mul,Nat.add_mul]
    have:=Nat.mul_comm x d
    omega
   rw [e2] at h
   have h3:=Nat.div_add_mod (x*x+(x+d+x)*d) p
   have h4:=Nat.div_add_mod (x*x) p
   rw [← h] at h3
   refine ⟨(x*x+(x+d+x)*d) / p - x*x / p,?_⟩
   rw [Nat.mul_sub]
   omega
  rcases hp.dvd e with ⟨c,hc⟩ | ⟨c,hc⟩
  ·rcases (show c=0∨c=1∨2≤c by omega) with rfl | rfl | h3
   ·exact .inr (.inr (by omega))
   ·exact .inr (.inl (by omega))
   ·have:=Nat.mul_le_mul_left p h3; omega
  ·rcases (show c=0∨1≤c by omega) with rfl | h3
   ·exact .inl (by omega)
   ·have:=Nat.mul_le_mul_left p h3; omega
theorem nsq_one {p:Nat} (h:1<p):(p - 1)*(p - 1)%p=1:=by
 obtain ⟨q,rfl⟩:∃ q,p=q+2:=⟨p - 2,by omega⟩
 have e:(q+2 - 1)*(q+2 - 1)=1+(q+2)*q:=by
  rw [show q+2 - 1=q+1 by omega,Nat.mul_add,Nat.add_mul,Nat.add_mul,Nat.add_mul]; omega
 rw [e,Nat.add_mul_mod_self_left,Nat.mod_eq_of_lt (by omega)]
structure TS (p a x c t n:Nat):Prop where
 xl:x<p
 cl:c<p
 tl:t<p
 xx:x*x%p=a*t%p
 n1:1≤n
 tt:t ^ 2 ^ (n - 1)%p=1
 cc:c ^ 2 ^ (n - 1)%p=p - 1
theorem sqp (p b j:Nat):b ^ 2 ^ j%p*(b ^ 2 ^ j%p)%p=b ^ 2 ^ (j+1)%p:=by
 rw [← Nat.mul_mod,← Nat.pow_add,Nat.pow_succ,Nat.mul_two]
theorem TS.step {p a x c t n k:Nat} (hp:Pr p) (h:TS p a x c t n) (hk0:1≤k) (hk:t ^ 2 ^ k%p=1) (hkn:k≤n - 1) (hlow:t ^ 2 ^ (k - 1)%p≠1) :
  TS p a (x*(c ^ 2 ^ (n - k - 1)%p)%p) (c ^ 2 ^ (n - k - 1)%p*(c ^ 2 ^ (n - k - 1)%p)%p) (t*(c ^ 2 ^ (n - k - 1)%p*(c ^ 2 ^ (n - k - 1)%p)%p)%p) k:=by
 have h1:=hp.1
 have hm:∀ v,v%p<p:=fun v=>Nat.mod_lt _ (by omega)
 have e2:=sqp p c (n - k - 1)
 have ht1:t ^ 2 ^ (k - 1)%p=p - 1:=by
  have h2:t ^ 2 ^ (k - 1)%p*(t ^ 2 ^ (k - 1)%p)%p=1:=by
   rw [sqp,Nat.sub_add_cancel hk0,hk]
  rcases sq_one hp (hm _) h2 with h3 | h3
  ·exact absurd h3 hlow
  ·exact h3
 have hc1:(c ^ 2 ^ (n - k - 1+1)%p) ^ 2 ^ (k - 1)%p=p - 1:=by
  rw [← Nat.pow_mod,← Nat.pow_mul,← Nat.pow_add,show n - k - 1+1+(k - 1)=n - 1 by omega]
  exact h.cc
 refine ⟨hm _,hm _,hm _,?_,hk0,?_,?_⟩
 ·obtain ⟨b,hb⟩:∃ b,b=c ^ 2 ^ (n - k - 1)%p:=⟨_,rfl⟩
  rw [← hb,← Nat.mul_mod]
  have e3:x*b*(x*b)=x*x*(b*b):=by simp only [Nat.mul_assoc,Nat.mul_left_comm,Nat.mul_comm]
  have e4:a*(t*(b*b%p)%p)%p=a*t*(b*b)%p:=by
   rw [Nat.mul_mod_mod,← Nat.mul_assoc,Nat.mul_mod_mod]
  rw [e3,e4,Nat.mul_mod,h.xx,← Nat.mul_mod]
 ·rw [e2,← Nat.pow_mod,Nat.mul_pow,Nat.mul_mod,ht1,hc1]
  exact nsq_one h1
 ·rw [e2]; exact hc1
theorem TS.fin {p a x c n:Nat} (h:TS p a x c 1 n) (ha:a<p):x<p∧x*x%p=a:=⟨h.xl,by rw [h.xx,Nat.mul_one,Nat.mod_eq_of_lt ha]⟩
theorem TS.start {p a q o n:Nat} (h1:1<p) (ho:o*2 ^ n=p - 1) (hodd:o%2=1) (hn:1≤n) (ha:a ^ ((p - 1) / 2)%p=1) (hq:q ^ ((p - 1) / 2)%p=p - 1) :
  TS p a (a ^ ((o+1) / 2)%p) (q ^ o%p) (a ^ o%p) n:=by
 have hm:∀ v,v%p<p:=fun v=>Nat.mod_lt _ (by omega)
 have e:o*2 ^ (n - 1)=(p - 1) / 2:=by
  rw [← ho]
  obtain ⟨m,rfl⟩:∃ m,n=m+1:=⟨n - 1,by omega⟩
  rw [Nat.add_sub_cancel,Nat.pow_succ,← Nat.mul_assoc,Nat.mul_div_cancel _ (by decide)]
 refine ⟨hm _,hm _,hm _,?_,hn,?_,?_⟩
 ·rw [← Nat.mul_mod,← Nat.pow_add,show (o+1) / 2+(o+1) / 2=1+o by omega,Nat.mul_mod_mod,Nat.pow_add,Nat.pow_one]
 ·rw [← Nat.pow_mod,← Nat.pow_mul,e]; exact ha
 ·rw [← Nat.pow_mod,← Nat.pow_mul,e]; exact hq
end Go.Proofs.YtkoonhiplicbkaaGreat.Cw
