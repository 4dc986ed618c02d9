/-
  (package field) prime; (package curve) rows: a curve's numbers as digits. Condition: the numbers 1 to 15.
  (package field) Of: a curve's field. Condition: the numbers 1 to 15.
-/
import Derived.Test.YtkoonhiplicbkaaGreatQk20
set_option linter.unusedSimpArgs false
set_option linter.unusedVariables false
set_option maxHeartbeats 4000000
set_option maxRecDepth 100000
namespace Go.Proofs.YtkoonhiplicbkaaGreat.Cw
open Go Go.RowKit
theorem prime_1 (w:World):Calls Tryz.prog 104 #[.int .i64 1] w fun e w'=>e=.returned (.string (pstr 1))∧w=w':=by
 go_enter Tryz.func104,Tryz.ntmps104
 go_wp2
 go_ret
 exact ⟨rfl,rfl⟩
theorem prime_2 (w:World):Calls Tryz.prog 104 #[.int .i64 2] w fun e w'=>e=.returned (.string (pstr 2))∧w=w':=by
 go_enter Tryz.func104,Tryz.ntmps104
 go_wp2
 go_ret
 exact ⟨rfl,rfl⟩
theorem prime_3 (w:World):Calls Tryz.prog 104 #[.int .i64 3] w fun e w'=>e=.returned (.string (pstr 3))∧w=w':=by
 go_enter Tryz.func104,Tryz.ntmps104
 go_wp2
 go_ret
 exact ⟨rfl,rfl⟩
theorem prime_4 (w:World):Calls Tryz.prog 104 #[.int .i64 4] w fun e w'=>e=.returned (.string (pstr 4))∧w=w':=by
 go_enter Tryz.func104,Tryz.ntmps104
 go_wp2
 go_ret
 exact ⟨rfl,rfl⟩
theorem prime_5 (w:World):Calls Tryz.prog 104 #[.int .i64 5] w fun e w'=>e=.returned (.string (pstr 5))∧w=w':=by
 go_enter Tryz.func104,Tryz.ntmps104
 go_wp2
 go_ret
 exact ⟨rfl,rfl⟩
theorem prime_6 (w:World):Calls Tryz.prog 104 #[.int .i64 6] w fun e w'=>e=.returned (.string (pstr 6))∧w=w':=by
 go_enter Tryz.func104,Tryz.ntmps104
 go_wp2
 go_ret
 exact ⟨rfl,rfl⟩
theorem prime_7 (w:World):Calls Tryz.prog 104 #[.int .i64 7] w fun e w'=>e=.returned (.string (pstr 7))∧w=w':=by
 go_enter Tryz.func104,Tryz.ntmps104
 go_wp2
 go_ret
 exact ⟨rfl,rfl⟩
theorem prime_8 (w:World):Calls Tryz.prog 104 #[.int .i64 8] w fun e w'=>e=.returned (.string (pstr 8))∧w=w':=by
 go_enter Tryz.func104,Tryz.ntmps104
 go_wp2
 go_ret
 exact ⟨rfl,rfl⟩
theorem prime_9 (w:World):Calls Tryz.prog 104 #[.int .i64 9] w fun e w'=>e=.returned (.string (pstr 9))∧w=w':=by
 go_enter Tryz.func104,Tryz.ntmps104
 go_wp2
 go_ret
 exact ⟨rfl,rfl⟩
theorem prime_10 (w:World):Calls Tryz.prog 104 #[.int .i64 10] w fun e w'=>e=.returned (.string (pstr 10))∧w=w':=by
 go_enter Tryz.func104,Tryz.ntmps104
 go_wp2
 go_ret
 exact ⟨rfl,rfl⟩
theorem prime_11 (w:World):Calls Tryz.prog 104 #[.int .i64 11] w fun e w'=>e=.returned (.string (pstr 11))∧w=w':=by
 go_enter Tryz.func104,Tryz.ntmps104
 go_wp2
 go_ret
 exact ⟨rfl,rfl⟩
theorem prime_12 (w:World):Calls Tryz.prog 104 #[.int .i64 12] w fun e w'=>e=.returned (.string (pstr 12))∧w=w':=by
 go_enter Tryz.func104,Tryz.ntmps104
 go_wp2
 go_ret
 exact ⟨rfl,rfl⟩
theorem prime_13 (w:World):Calls Tryz.prog 104 #[.int .i64 13] w fun e w'=>e=.returned (.string (pstr 13))∧w=w':=by
 go_enter Tryz.func104,Tryz.ntmps104
 go_wp2
 go_ret
 exact ⟨rfl,rfl⟩
theorem prime_14 (w:World):Calls Tryz.prog 104 #[.int .i64 14] w fun e w'=>e=.returned (.string (pstr 14))∧w=w':=by
 go_enter Tryz.func104,Tryz.ntmps104
 go_wp2
 go_ret
 exact ⟨rfl,rfl⟩
theorem prime_15 (w:World):Calls Tryz.prog 104 #[.int .i64 15] w fun e w'=>e=.returned (.string (pstr 15))∧w=w':=by
 go_enter Tryz.func104,Tryz.ntmps104
 go_wp2
 go_ret
 exact ⟨rfl,rfl⟩
theorem field_prime (k:Nat) (h1:1≤k) (h2:k≤15) (w:World):Calls Tryz.prog 104 #[.int .i64 k] w fun e w'=>e=.returned (.string (pstr k))∧w=w':=by
 match k,h1,h2 with
 | 1,_,_=>exact prime_1 w
 | 2,_,_=>exact prime_2 w
 | 3,_,_=>exact prime_3 w
 | 4,_,_=>exact prime_4 w
 | 5,_,_=>exact prime_5 w
 | 6,_,_=>exact prime_6 w
 | 7,_,_=>exact prime_7 w
 | 8,_,_=>exact prime_8 w
 | 9,_,_=>exact prime_9 w
 | 10,_,_=>exact prime_10 w
 | 11,_,_=>exact prime_11 w
 | 12,_,_=>exact prime_12 w
 | 13,_,_=>exact prime_13 w
 | 14,_,_=>exact prime_14 w
 | 15,_,_=>exact prime_15 w
theorem rows_1 (w:World):Calls Tryz.prog 70 #[.int .i64 1] w fun e w'=>e=.returned (.agg #[.string (astr 1),.string (bstr 1),.string (nstr 1),.string (xstr 1),.string (ystr 1)])∧Below w.heap.size w w':=by
 go_enter Tryz.func70,Tryz.ntmps70
 go_wp2
 exact bodyPost_ret (results_blk rfl _ _ w.heap.size _ _ (0,0) _ rfl (new1 w _) Tryz.underlying137 rfl (by kernel_rfl)) rfl ⟨rfl,(Below.refl _ _).alloc (Nat.le_refl _) _⟩
theorem rows_2 (w:World):Calls Tryz.prog 70 #[.int .i64 2] w fun e w'=>e=.returned (.agg #[.string (astr 2),.string (bstr 2),.string (nstr 2),.string (xstr 2),.string (ystr 2)])∧Below w.heap.size w w':=by
 go_enter Tryz.func70,Tryz.ntmps70
 go_wp2
 exact bodyPost_ret (results_blk rfl _ _ w.heap.size _ _ (0,0) _ rfl (new1 w _) Tryz.underlying137 rfl (by kernel_rfl)) rfl ⟨rfl,(Below.refl _ _).alloc (Nat.le_refl _) _⟩
theorem rows_3 (w:World):Calls Tryz.prog 70 #[.int .i64 3] w fun e w'=>e=.returned (.agg #[.string (astr 3),.string (bstr 3),.string (nstr 3),.string (xstr 3),.string (ystr 3)])∧Below w.heap.size w w':=by
 go_enter Tryz.func70,Tryz.ntmps70
 go_wp2
 exact bodyPost_ret (results_blk rfl _ _ w.heap.size _ _ (0,0) _ rfl (new1 w _) Tryz.underlying137 rfl (by kernel_rfl)) rfl ⟨rfl,(Below.refl _ _).alloc (Nat.le_refl _) _⟩
theorem rows_4 (w:World):Calls Tryz.prog 70 #[.int .i64 4] w fun e w'=>e=.returned (.agg #[.string (astr 4),.string (bstr 4),.string (nstr 4),.string (xstr 4),.string (ystr 4)])∧Below w.heap.size w w':=by
 go_enter Tryz.func70,Tryz.ntmps70
 go_wp2
 exact bodyPost_ret (results_blk rfl _ _ w.heap.size _ _ (0,0) _ rfl (new1 w _) Tryz.underlying137 rfl (by kernel_rfl)) rfl ⟨rfl,(Below.refl _ _).alloc (Nat.le_refl _) _⟩
theorem rows_5 (w:World):Calls Tryz.prog 70 #[.int .i64 5] w fun e w'=>e=.returned (.agg #[.string (astr 5),.string (bstr 5),.string (nstr 5),.string (xstr 5),.string (ystr 5)])∧Below w.heap.size w w':=by
 go_enter Tryz.func70,Tryz.ntmps70
 go_wp2
 exact bodyPost_ret (results_blk rfl _ _ w.heap.size _ _ (0,0) _ rfl (new1 w _) Tryz.underlying137 rfl (by kernel_rfl)) rfl ⟨rfl,(Below.refl _ _).alloc (Nat.le_refl _) _⟩
theorem rows_6 (w:World):Calls Tryz.prog 70 #[.int .i64 6] w fun e w'=>e=.returned (.agg #[.string (astr 6),.string (bstr 6),.string (nstr 6),.string (xstr 6),.string (ystr 6)])∧Below w.heap.size w w':=by
 go_enter Tryz.func70,Tryz.ntmps70
 go_wp2
 exact bodyPost_ret (results_blk rfl _ _ w.heap.size _ _ (0,0) _ rfl (new1 w _) Tryz.underlying137 rfl (by kernel_rfl)) rfl ⟨rfl,(Below.refl _ _).alloc (Nat.le_refl _) _⟩
theorem rows_7 (w:World):Calls Tryz.prog 70 #[.int .i64 7] w fun e w'=>e=.returned (.agg #[.string (astr 7),.string (bstr 7),.string (nstr 7),.string (xstr 7),.string (ystr 7)])∧Below w.heap.size w w':=by
 go_enter Tryz.func70,Tryz.ntmps70
 go_wp2
 exact bodyPost_ret (results_blk rfl _ _ w.heap.size _ _ (0,0) _ rfl (new1 w _) Tryz.underlying137 rfl (by kernel_rfl)) rfl ⟨rfl,(Below.refl _ _).alloc (Nat.le_refl _) _⟩
theorem rows_8 (w:World):Calls Tryz.prog 70 #[.int .i64 8] w fun e w'=>e=.returned (.agg #[.string (astr 8),.string (bstr 8),.string (nstr 8),.string (xstr 8),.string (ystr 8)])∧Below w.heap.size w w':=by
 go_enter Tryz.func70,Tryz.ntmps70
 go_wp2
 exact bodyPost_ret (results_blk rfl _ _ w.heap.size _ _ (0,0) _ rfl (new1 w _) Tryz.underlying137 rfl (by kernel_rfl)) rfl ⟨rfl,(Below.refl _ _).alloc (Nat.le_refl _) _⟩
theorem rows_9 (w:World):Calls Tryz.prog 70 #[.int .i64 9] w fun e w'=>e=.returned (.agg #[.string (astr 9),.string (bstr 9),.string (nstr 9),.string (xstr 9),.string (ystr 9)])∧Below w.heap.size w w':=by
 go_enter Tryz.func70,Tryz.ntmps70
 go_wp2
 exact bodyPost_ret (results_blk rfl _ _ w.heap.size _ _ (0,0) _ rfl (new1 w _) Tryz.underlying137 rfl (by kernel_rfl)) rfl ⟨rfl,(Below.refl _ _).alloc (Nat.le_refl _) _⟩
theorem rows_10 (w:World):Calls Tryz.prog 70 #[.int .i64 10] w fun e w'=>e=.returned (.agg #[.string (astr 10),.string (bstr 10),.string (nstr 10),.string (xstr 10),.string (ystr 10)])∧Below w.heap.size w w':=by
 go_enter Tryz.func70,Tryz.ntmps70
 go_wp2
 exact bodyPost_ret (results_blk rfl _ _ w.heap.size _ _ (0,0) _ rfl (new1 w _) Tryz.underlying137 rfl (by kernel_rfl)) rfl ⟨rfl,(Below.refl _ _).alloc (Nat.le_refl _) _⟩
theorem rows_11 (w:World):Calls Tryz.prog 70 #[.int .i64 11] w fun e w'=>e=.returned (.agg #[.string (astr 11),.string (bstr 11),.string (nstr 11),.string (xstr 11),.string (ystr 11)])∧Below w.heap.size w w':=by
 go_enter Tryz.func70,Tryz.ntmps70
 go_wp2
 exact bodyPost_ret (results_blk rfl _ _ w.heap.size _ _ (0,0) _ rfl (new1 w _) Tryz.underlying137 rfl (by kernel_rfl)) rfl ⟨rfl,(Below.refl _ _).alloc (Nat.le_refl _) _⟩
theorem rows_12 (w:World):Calls Tryz.prog 70 #[.int .i64 12] w fun e w'=>e=.returned (.agg #[.string (astr 12),.string (bstr 12),.string (nstr 12),.string (xstr 12),.string (ystr 12)])∧Below w.heap.size w w':=by
 go_enter Tryz.func70,Tryz.ntmps70
 go_wp2
 exact bodyPost_ret (results_blk rfl _ _ w.heap.size _ _ (0,0) _ rfl (new1 w _) Tryz.underlying137 rfl (by kernel_rfl)) rfl ⟨rfl,(Below.refl _ _).alloc (Nat.le_refl _) _⟩
theorem rows_13 (w:World):Calls Tryz.prog 70 #[.int .i64 13] w fun e w'=>e=.returned (.agg #[.string (astr 13),.string (bstr 13),.string (nstr 13),.string (xstr 13),.string (ystr 13)])∧Below w.heap.size w w':=by
 go_enter Tryz.func70,Tryz.ntmps70
 go_wp2
 exact bodyPost_ret (results_blk rfl _ _ w.heap.size _ _ (0,0) _ rfl (new1 w _) Tryz.underlying137 rfl (by kernel_rfl)) rfl ⟨rfl,(Below.refl _ _).alloc (Nat.le_refl _) _⟩
theorem rows_14 (w:World):Calls Tryz.prog 70 #[.int .i64 14] w fun e w'=>e=.returned (.agg #[.string (astr 14),.string (bstr 14),.string (nstr 14),.string (xstr 14),.string (ystr 14)])∧Below w.heap.size w w':=by
 go_enter Tryz.func70,Tryz.ntmps70
 go_wp2
 exact bodyPost_ret (results_blk rfl _ _ w.heap.size _ _ (0,0) _ rfl (new1 w _) Tryz.underlying137 rfl (by kernel_rfl)) rfl ⟨rfl,(Below.refl _ _).alloc (Nat.le_refl _) _⟩
theorem rows_15 (w:World):Calls Tryz.prog 70 #[.int .i64 15] w fun e w'=>e=.returned (.agg #[.string (astr 15),.string (bstr 15),.string (nstr 15),.string (xstr 15),.string (ystr 15)])∧Below w.heap.size w w':=by
 go_enter Tryz.func70,Tryz.ntmps70
 go_wp2
 exact bodyPost_ret (results_blk rfl _ _ w.heap.size _ _ (0,0) _ rfl (new1 w _) Tryz.underlying137 rfl (by kernel_rfl)) rfl ⟨rfl,(Below.refl _ _).alloc (Nat.le_refl _) _⟩
def rc (k:Nat):Array Value:=#[.string (astr k),.string (bstr k),.string (nstr k),.string (xstr k),.string (ystr k)]
theorem curve_rows (k:Nat) (h1:1≤k) (h2:k≤15) (w:World):Calls Tryz.prog 70 #[.int .i64 k] w fun e w'=>e=.returned (.agg (rc k))∧Below w.heap.size w w':=by
 match k,h1,h2 with
 | 1,_,_=>exact rows_1 w
 | 2,_,_=>exact rows_2 w
 | 3,_,_=>exact rows_3 w
 | 4,_,_=>exact rows_4 w
 | 5,_,_=>exact rows_5 w
 | 6,_,_=>exact rows_6 w
 | 7,_,_=>exact rows_7 w
 | 8,_,_=>exact rows_8 w
 | 9,_,_=>exact rows_9 w
 | 10,_,_=>exact rows_10 w
 | 11,_,_=>exact rows_11 w
 | 12,_,_=>exact rows_12 w
 | 13,_,_=>exact rows_13 w
 | 14,_,_=>exact rows_14 w
 | 15,_,_=>exact rows_15 w
end Go.Proofs.YtkoonhiplicbkaaGreat.Cw
namespace Go.Proofs.YtkoonhiplicbkaaGreat.Cw
open Go Go.RowKit
attribute [local irreducible] pc ptc nc ac cuc fc
attribute [local go_sem ↓ high] wn_eql wn_neq wn_lss wn_gtr wn_leq wn_geq wn_cells wRS wn_guard lit0 lit1
attribute [local go_sem high] wn_match wRS wn_eql wn_neq wn_lss wn_gtr wn_leq wn_geq
theorem tab_p {k:Nat} (h1:1≤k) (h2:k≤15):goodB (pstr k)=true∧hexn (pstr k)=(cv k).p∧(cv k).p≠0∧2*(cv k).p<pw 9:=by
 have h:=tab_k h1 h2
 unfold tabB at h
 simp only [Bool.and_eq_true,beq_iff_eq,decide_eq_true_eq] at h
 obtain ⟨⟨⟨⟨⟨⟨⟨⟨⟨⟨⟨⟨⟨⟨⟨⟨⟨⟨⟨⟨⟨g1,_⟩,_⟩,_⟩,_⟩,_⟩,e1⟩,_⟩,_⟩,_⟩,_⟩,_⟩,_⟩,_⟩,n0⟩,_⟩,_⟩,_⟩,_⟩,_⟩,hp⟩,_⟩:=h
 exact ⟨g1,e1,n0,hp⟩
theorem pstr_some {k:Nat} (h1:1≤k) (h2:k≤15):(pstr k).toList.isEmpty=false:=by
 have:∀ i,i<15→(pstr (i+1)).toList.isEmpty=false:=by decide +kernel
 have h:=this (k - 1) (by omega)
 rwa [show k - 1+1=k by omega] at h
theorem field_of (k:Nat) (w:World) (h1:1≤k) (h2:k≤15):Calls Tryz.prog 69 #[.int .i64 k] w fun e w'=>∃ f d,e=.returned (.pointer (some ⟨f,0,none⟩))∧FieldAt w' f (cv k).p d∧w.heap.size≤f∧Below w.heap.size w w':=by
 obtain ⟨g1,e1,n0,hp2⟩:=tab_p h1 h2
 obtain ⟨hg1,hg2⟩:=good_of g1
 have hprime:=fun u=>field_prime k h1 h2 u
 have hne:=pstr_some h1 h2
 obtain ⟨s,hs⟩:∃ s,s=pstr k:=⟨_,rfl⟩
 rw [← hs] at hg1 hg2 hprime hne e1
 obtain ⟨p,hp⟩:∃ p,p=(cv k).p:=⟨_,rfl⟩
 rw [← hp] at e1 n0 hp2 ⊢
 have hhex:=fun u=>field_hex s u hg1 hg2
 rw [show hexv s s.size=p from e1] at hhex
 have HPR:=Hd hprime
 have HNE:=Hd hne
 have HHX:=Hd hhex
 have HBY:=Hd (fun u=>div_by p u n0 (by omega))
 have HP2:=Hd hp2
 have HN0:=Hd n0
 clear hne hg1 hg2 hprime hhex e1 hp hs g1 n0 hp2 h1 h2
 go_enter Tryz.func69,Tryz.ntmps69
 go_upto_region 1 with fail
 have M:=Hd (Mem.nil w)
 refine wp_region_lit ?_
 refine pK (.int .i64 (k:Int)) ?_
 refine fL rfl 104 (.func 104) #[.tmp 5] #[3] rfl #[] #[.int .i64 (k:Int)] (by kernel_rfl) (by kernel_rfl) (fun u=>cE _ _ _ _ u Tryz.func104 (by kernel_rfl) (by kernel_rfl)) (.string s) (((HPR.out w).mono fun e w' h=>⟨h.1,h.2 ▸ Below.refl _ _⟩)) (fun w2 hb=>?_)
 have Nw2:=Hd (M.out.grow hb)
 clear hb M
 refine pK (.string s) ?_
 refine wpList_nil ?_
 try simp only [Act.put,s_,t_,u_,v_,x_,y_]
 go_upto_region 2 with (fail)
 refine wp_region_lit ?_
 refine pK (.string s) ?_
 try simp only [Act.put,s_,t_,u_,v_,x_,y_]
 refine pL rfl (.bool false) (fun u=>by go_simp; intro h; have hh:=HNE.out; rw [h] at hh; cases hh) ?_
 refine wpList_nil ?_
 try simp only [Act.put,s_,t_,u_,v_,x_,y_]
 go_upto_region 4 with (fail)
 refine wp_region_lit ?_
 refine pK (.string s) ?_
 refine fL rfl 71 (.func 71) #[.tmp 9] #[9] rfl #[] #[.string s] (by kernel_rfl) (by kernel_rfl) (fun u=>cE _ _ _ _ u Tryz.func71 (by kernel_rfl) (by kernel_rfl)) (.agg (nc p)) (HHX.out w2) (fun w3 hb=>?_)
 have Nw3:=Hd (Nw2.out.grow hb)
 clear hb Nw2
 refine nL rfl 27 rfl (.agg (nc 0)) (by rw [nZ]; kernel_rfl) ?_
 intro x4 w4 hx hx2 hgv hh
 have Nw4:=Hd (show Mem w w4 [(x4,nc 0,27)] from Nw3.out.new hgv (Nat.le_of_eq hx) hh)
 clear hx hx2 hgv hh Nw3
 refine sB rfl 27 (.tmp 4) (.tmp 10) rfl x4 (by kernel_rfl) _ _ (nc p) (by kernel_rfl) (Nw4.out.at 0 rfl) (by rw [nS]; kernel_rfl) (by simp only [nS]) (nO _) ?_
 intro w5 hw hb hs
 have Nw5:=Hd (Nw4.out.store 0 rfl hb hs hw)
 clear hw hb hs Nw4
 refine wpList_nil ?_
 try simp only [Act.put,s_,t_,u_,v_,x_,y_]
 go_upto_region 5 with (fail)
 have D5:=Hd (Nw5.out.drew)
 clear Nw5
 refine rGw 2 6 (by kernel_rfl) (by kernel_rfl) (fun d v c a w h=>by cases d <;> exact h) ?_
 simp only [List.take_succ_cons,List.take_zero]
 refine lG rfl (.tmp 4) rfl x4 (by kernel_rfl) (fun u hu=>D5.out.up 0 rfl hu) ?_
 refine lG rfl (.tmp 4) rfl x4 (by kernel_rfl) (fun u hu=>D5.out.up 0 rfl hu) ?_
 refine gN ?_
 try simp only [Act.put,s_,t_,u_,v_,x_,y_]
 refine grow_ready (rs:=[2]) (by kernel_rfl) (by simp) (fun u1 hG1=>?_)
 have N1:=Hd (D5.out.grow hG1)
 clear hG1 D5
 refine GAll.cons (by decide) rfl (fun K hK=>?_) GAll.nil
 go_simp
 refine (HBY.out u1).mono ?_
 rintro e u2 ⟨d,rfl,hd,hds,hb⟩
 refine hK _ _ hb ?_
 clear hK
 have N2:=Hd (N1.out.grow hb)
 have HDV:=Hd hd
 clear hb hd hds N1
 try simp only [Act.put,s_,t_,u_,v_,x_,y_]
 refine grow_ready (rs:=[3]) (by kernel_rfl) (by simp) (fun u3 hG3=>?_)
 have N3:=Hd (N2.out.grow hG3)
 have HDV3:=Hd (HDV.out.up hG3)
 clear hG3 N2 HDV
 refine GAll.pure (by decide) rfl rfl (.agg (fc p d)) (fun u=>run_built_op 140 #[(0,.tmp 11),(1,.tmp 13)] rfl (fc p d) (by kernel_rfl)) ?_ GAll.nil
 try simp only [Act.put,s_,t_,u_,v_,x_,y_]
 refine grow_ready (rs:=[4]) (by kernel_rfl) (by simp) (fun u4 hG4=>?_)
 have N4:=Hd (N3.out.grow hG4)
 have HDV4:=Hd (HDV3.out.up hG4)
 clear hG4 N3 HDV3
 refine GAll.cons (by decide) rfl (fun K hK=>?_) GAll.nil
 go_simp
 refine hK _ _ (grows_alloc _ _) ?_
 clear hK
 have N5:=Hd (N4.out.alloc (fc p d) 140)
 have HDV5:=Hd (HDV4.out.up (grows_alloc u4 (.cells (fc p d) 140)))
 obtain ⟨u5,hu5⟩:∃ u5,u5=u4.alloc (.cells (fc p d) 140):=⟨_,rfl⟩
 rw [← hu5] at N5 HDV5 ⊢
 clear hu5
 obtain ⟨x,hx⟩:∃ x,x=u4.heap.size:=⟨_,rfl⟩
 rw [← hx] at N5 ⊢
 clear hx N4 HDV4
 refine grow_ready (rs:=[5]) (by kernel_rfl) (by simp) (fun u6 hG6=>?_)
 have N6:=Hd (N5.out.grow hG6)
 have HDV6:=Hd (HDV5.out.up hG6)
 clear hG6 N5 HDV5
 refine GAll.pure (by decide) rfl rfl (.pointer (some ⟨x,0,none⟩)) (fun u=>by kernel_rfl) ?_ GAll.nil
 try simp only [Act.put,s_,t_,u_,v_,x_,y_]
 intro u7 hG7
 refine ⟨by kernel_rfl,?_⟩
 have N7:=Hd (N6.out.grow hG7)
 have HDV7:=Hd (HDV6.out.up hG7)
 clear hG7 N6 HDV6
 try simp only [Act.put,s_,t_,u_,v_,x_,y_]
 go_wp2_with (fail)
 go_ret
 exact ⟨x,d,rfl,⟨by have:=HP2.out; omega,HN0.out,HP2.out,HDV7.out,N7.out.at 1 rfl⟩,N7.out.ge 1 rfl,N7.out.below⟩
end Go.Proofs.YtkoonhiplicbkaaGreat.Cw
