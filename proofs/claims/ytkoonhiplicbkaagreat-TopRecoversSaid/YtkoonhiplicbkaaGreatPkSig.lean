/-
  (package ecdsa) Sign: in each try a number of the generator, at most 64. Condition: a curve's number from 1 to 15, a private key, a new generator.
-/
import Derived.Test.YtkoonhiplicbkaaGreatPkTry
import Derived.Test.YtkoonhiplicbkaaGreatPk26
set_option linter.unusedSimpArgs false
set_option linter.unusedVariables false
set_option maxHeartbeats 4000000
set_option maxRecDepth 100000
namespace Go.Proofs.YtkoonhiplicbkaaGreat.Cw
open Go Go.RowKit
attribute [local irreducible] pc ptc nc ac cuc fc gpt
attribute [local go_sem ↓ high] wn_eql wn_neq wn_lss wn_gtr wn_leq wn_geq wn_cells wRS wn_guard lit0 lit1
attribute [local go_sem high] wn_match wRS wn_eql wn_neq wn_lss wn_gtr wn_leq wn_geq
theorem sg_zero:nc 0++nc 0=#[wn 0,wn 0,wn 0,wn 0,wn 0,wn 0,wn 0,wn 0,wn 0,wn 0,wn 0,wn 0,wn 0,wn 0,wn 0,wn 0,wn 0,wn 0]:=by
 rw [nZ]; rfl
theorem eql_no (t:TypeId) {p q:Int} (h:p≠q):binOp .eql t (.int .i64 p) (.int .i64 q)=pure (.bool false):=by
 show (pure (.bool (p == q)):Sem Value)=_
 congr 2
 simp [h]
theorem sg_size (a b:Nat):(nc a++nc b).size=18:=by simp [nS]
theorem sg_one (a b:Nat):∀ u ∈ (nc a++nc b).toList,u.oneCell'=true:=fun u hu=>by
 rw [Array.toList_append,List.mem_append] at hu
 rcases hu with h | h
 ·exact nO _ u h
 ·exact nO _ u h
theorem results_S3 {fn:Func} {p q r:Tmp} (h:fn.results=#[.cell p 36,.tmp q,.tmp r]) (tmps:Array Value) (w:World) (g:Nat) (t:TypeId) (cs:Array Value) (fr:Nat × Nat) (v u:Value) (hn:cs.size=18)
  (hp:tmps.getD p undef=.pointer (some ⟨g,0,none⟩)) (hq:tmps.getD q undef=v) (hr:tmps.getD r undef=u) (hg:w.heap[g]?=some (.cells cs t fr)) :
  (results fn tmps).run Tryz.prog w=.ok (.tuple #[.agg cs,v,u]) w:=by
 have hp':tmps[p]?.getD undef=.pointer (some ⟨g,0,none⟩):=by simpa using hp
 have hq':tmps[q]?.getD undef=v:=by simpa using hq
 have hr':tmps[r]?.getD undef=u:=by simpa using hr
 simp [results,h,hp',hq',hr',asAddr,run_load_seg w g 0 18 t 36 cs cs fr _ hg Tryz.underlying36 rfl (by kernel_rfl) hn (fun j _=>by rw [Nat.zero_add])]
def kvN (k:CK) (id:Nat) (kv:ByteArray × ByteArray):Nat→ByteArray × ByteArray
 | 0=>kv
 | j+1=>tryK k id (kvN k id kv j)
theorem kvN_fit {k:CK} {id:Nat} (hi:isId id) {kv:ByteArray × ByteArray} (h:fit id kv):∀ j,fit id (kvN k id kv j)
 | 0=>h
 | _+1=>genK_fit hi _ _ _
theorem kvN_succ (k:CK) (id:Nat) (kv:ByteArray × ByteArray) (j:Nat):tryK k id (kvN k id kv j)=kvN k id kv (j+1):=by rw [kvN]
def kN (k:CK) (id:Nat) (kv:ByteArray × ByteArray) (j:Nat):Nat:=tryN k id (kvN k id kv j)
noncomputable def rN (k:CK) (x:Nat):Nat:=pX k (gm k x)%k.c.n
def SgOk (k:CK) (hid id dk:Nat) (msg:ByteArray) (kv:ByteArray × ByteArray) (R S:Nat) (tries err:Int):Prop:=
 (err=0∧∃ j:Nat,j<64∧tries=(j:Int)+1∧kN k id kv j≠0∧kN k id kv j<k.c.n∧R=rN k (kN k id kv j)∧R≠0∧S≠0∧∃ y,y<k.c.n∧y*kN k id kv j%k.c.n=1∧S=(dgN k hid msg+R*dk%k.c.n)%k.c.n*y%k.c.n)∨err=2604
theorem pr_n:∀ k,1≤k→k≤15→Pr (cv k).n
 | 1,_,_=>pn4
 | 2,_,_=>pn12
 | 3,_,_=>pn21
 | 4,_,_=>pn30
 | 5,_,_=>pn39
 | 6,_,_=>pn45
 | 7,_,_=>pn52
 | 8,_,_=>pn62
 | 9,_,_=>pn68
 | 10,_,_=>pn76
 | 11,_,_=>pn84
 | 12,_,_=>pn90
 | 13,_,_=>pn91
 | 14,_,_=>pn92
 | 15,_,_=>pn93
 | 0,h,_=>absurd h (by omega)
 | _+16,_,h=>absurd h (by omega)
theorem CK.Nprime (k:CK):Pr k.c.n:=pr_n k.1 k.2.1 k.2.2
theorem CK.inv (k:CK) {a:Nat} (h0:a≠0) (h:a<k.c.n):∃ y,y<k.c.n∧y*a%k.c.n=1:=inv_nat k.Nprime (by rw [Nat.mod_eq_of_lt h]; exact h0)
theorem MtAt.off {w:World} {x m n less g id:Nat} {kv:ByteArray × ByteArray} {c:Int} (H:MtAt w x m n less) (HD:DrbgAt w g id kv c):x≠g:=type_neq HD H.2 (by decide)
theorem ecdsa_sign (k:CK) (hid id dk dr:Nat) (msg:ByteArray) (kv:ByteArray × ByteArray) (w:World) (hd0:dk≠0) (hdn:dk<k.c.n) (hh:isId hid) (ht:msg.size≤140737488351232) (hi:isId id) (hf:fit id kv) (HD:DrbgAt w dr id kv 1) :
  Calls Tryz.prog 12 #[.pointer none,.int .i64 k.1,.int .i64 hid,.agg (nc dk),.string msg,.pointer (some ⟨dr,0,none⟩)] w fun e w'=>∃ R S tries err,e=.returned (.tuple #[.agg (nc R++nc S),.int .i64 tries,.int .i64 err])∧SgOk k hid id dk msg kv R S tries err∧But dr w w':=by
 have HDR:=Hd HD
 have HLT:=Hd (lt_of HD)
 have HDN:=Hd hdn
 have D9:=Hd (show dk<pw 9 from Nat.lt_trans hdn k.n9)
 have N9:=Hd k.n9
 have HOKD:=Hd (show decide (dk≠0∧dk<k.c.n)=true from decide_eq_true ⟨hd0,hdn⟩)
 have HSZ:=Hd (show szOf hid≠0 by have:=(szOf_pos hid).1; omega)
 have HE:=Hd (show dgN k hid msg<k.c.n from Nat.mod_lt _ (by have:=k.n1; omega))
 obtain ⟨e,he⟩:∃ e,e=dgN k hid msg:=⟨_,rfl⟩
 rw [← he] at HE
 have HEE:=Hd he
 have HDG:=Hd (fun c f d w (H:CurveAt w c f d k.c)=>he ▸ ecdsa_digest k c f d hid msg w hh ht H)
 clear HD hd0 hdn he
 go_enter Tryz.func12,Tryz.ntmps12
 go_upto_region 1 with fail
 rw [← sg_zero]
 have m0:=Mem.start2 w (nc dk) (nc 0++nc 0) 27 36
 obtain ⟨w1,hw1⟩:∃ w1:World,w1=((w.alloc (.cells (nc dk) 27)).alloc (.cells (nc 0++nc 0) 36)):=⟨_,rfl⟩
 rw [← hw1] at m0 ⊢
 clear hw1
 obtain ⟨g,hg⟩:∃ g,g=w.heap.size:=⟨_,rfl⟩
 rw [← hg] at m0 ⊢
 have HG:=Hd hg
 have M:=Hd m0
 clear hg m0
 go_upto_region 1 with (fail)
 refine wp_region_lit ?_
 refine pL rfl (.int .i64 (k.1:Int)) (fun u=>by kernel_rfl) ?_
 refine wpList_fnE rfl _ _ _ _ rfl #[] #[.int .i64 (k.1:Int)] (by kernel_rfl) (by kernel_rfl) (fun u=>cE _ _ _ _ u Tryz.func30 (by kernel_rfl) (by kernel_rfl)) (T:=Nat) (fun c=>.pointer (some ⟨c,0,none⟩)) (fun c w'=>∃ f d,CurveAt w' c f d k.c∧Below w1.heap.size w1 w') ((k.open_ w1).mono fun e w' ⟨c,f,d,he,hr,_,hb⟩=>⟨c,he,f,d,hr,hb⟩) ?_
 rintro c w2 ⟨f,d,hc,hb⟩
 have M2:=Hd (MC.of (M.out.grow hb) hc)
 clear hc hb M
 refine pL rfl (.pointer (some ⟨c,0,none⟩)) (fun u=>by kernel_rfl) ?_
 refine wpList_nil ?_
 try simp only [Act.put,s_,t_,u_,v_,x_,y_]
 go_upto_region 2 with (fail)
 refine wp_region_lit ?_
 refine pL rfl (.pointer (some ⟨dr,0,none⟩)) (fun u=>by kernel_rfl) ?_
 refine pL rfl (.bool false) (fun u=>by kernel_rfl) ?_
 refine pL rfl (.bool false) (fun u=>by kernel_rfl) ?_
 refine wpList_nil ?_
 try simp only [Act.put,s_,t_,u_,v_,x_,y_]
 go_upto_region 4 with (fail)
 refine wp_region_lit ?_
 refine pL rfl (.pointer (some ⟨c,0,none⟩)) (fun u=>by kernel_rfl) ?_
 refine pL rfl (.bool false) (fun u=>by kernel_rfl) ?_
 refine pL rfl (.bool false) (fun u=>by kernel_rfl) ?_
 refine wpList_nil ?_
 try simp only [Act.put,s_,t_,u_,v_,x_,y_]
 go_upto_region 6 with (fail)
 refine wp_region_lit ?_
 refine pL rfl (.int .i64 (hid:Int)) (fun u=>by kernel_rfl) ?_
 refine fL rfl 26 (.func 26) #[.tmp 35] #[3] rfl #[] #[.int .i64 (hid:Int)] (by kernel_rfl) (by kernel_rfl) (fun u=>cE _ _ _ _ u Tryz.func26 (by kernel_rfl) (by kernel_rfl)) (.int .i64 (szOf hid:Int)) (hsize hid hh w2) (fun w2 hb=>?_)
 have Nw2:=Hd (M2.out.grow hb)
 clear hb M2
 try simp only [Act.put,s_,t_,u_,v_,x_,y_]
 refine pL rfl (.bool false) (fun u=>run_bini _ _ _ _ _ rfl (szOf hid:Int) 0 (by kernel_rfl) (by kernel_rfl) (eql_no _ (fun h=>HSZ.out (by omega))) u) ?_
 refine pL rfl (.bool false) (fun u=>by kernel_rfl) ?_
 refine wpList_nil ?_
 try simp only [Act.put,s_,t_,u_,v_,x_,y_]
 go_upto_region 8 with (fail)
 refine wp_region_lit ?_
 refine pL rfl (.pointer (some ⟨c,0,none⟩)) (fun u=>by kernel_rfl) ?_
 refine l0N rfl (.tmp 9) rfl g (by kernel_rfl) (Nw2.out.at 0 rfl) ?_
 refine fL rfl 31 (.func 31) #[.tmp 40,.tmp 41] #[70,27] rfl #[] #[.pointer (some ⟨c,0,none⟩),.agg (nc dk)] (by kernel_rfl) (by kernel_rfl) (fun u=>cE _ _ _ _ u Tryz.func31 (by kernel_rfl) (by kernel_rfl)) (.bool true) (HOKD.out ▸ curve_key k c f d dk w2 D9.out Nw2.out.crv) (fun w3 hb=>?_)
 have Nw3:=Hd (Nw2.out.grow hb)
 clear hb Nw2
 refine pL rfl (.bool false) (fun u=>by kernel_rfl) ?_
 refine pL rfl (.bool false) (fun u=>by kernel_rfl) ?_
 refine wpList_nil ?_
 try simp only [Act.put,s_,t_,u_,v_,x_,y_]
 go_upto_region 10 with (fail)
 refine wp_region_lit ?_
 refine pL rfl (.pointer (some ⟨c,0,none⟩)) (fun u=>by kernel_rfl) ?_
 refine wpList_fnE rfl _ _ _ _ rfl #[] #[.pointer (some ⟨c,0,none⟩)] (by kernel_rfl) (by kernel_rfl) (fun u=>cE _ _ _ _ u Tryz.func32 (by kernel_rfl) (by kernel_rfl)) (T:=Nat) (fun x=>.agg #[.pointer (some ⟨c,0,none⟩),.pointer (some ⟨x,0,none⟩)]) (fun x w'=>NAt k w' x∧w3.heap.size≤x∧Below w3.heap.size w3 w') ((ecdsa_of k c f d w3 Nw3.out.crv).mono fun e w' ⟨x,h1,h2,h4,h3⟩=>⟨x,h1,h2,h4,h3⟩) ?_
 rintro x wx ⟨hx,hge,hb⟩
 have HFX:=Hd hx.1
 have MX:=Hd (show MC w wx [(g,nc dk,27),(g+1,nc 0++nc 0,36),(x,mtc k.c.n (nwd k.c.n) (mless k.c.n) (pw (nwd k.c.n)*pw (nwd k.c.n)%k.c.n),179)] c f d k.c from Nw3.out.new hb hge hx.2)
 clear hx hge hb Nw3
 refine pL rfl (.pointer (some ⟨c,0,none⟩)) (fun u=>by kernel_rfl) ?_
 refine pL rfl (.int .i64 (hid:Int)) (fun u=>by kernel_rfl) ?_
 refine pL rfl (.string msg) (fun u=>by kernel_rfl) ?_
 refine fL rfl 33 (.func 33) #[.tmp 47,.tmp 48,.tmp 49] #[70,3,9] rfl #[] #[.pointer (some ⟨c,0,none⟩),.int .i64 (hid:Int),.string msg] (by kernel_rfl) (by kernel_rfl) (fun u=>cE _ _ _ _ u Tryz.func33 (by kernel_rfl) (by kernel_rfl)) (.agg (nc e)) (HDG.out c f d wx MX.out.crv) (fun wy hb=>?_)
 have MY:=Hd (MX.out.grow hb)
 clear hb MX
 refine nL rfl 75 rfl (.agg #[.pointer none,.pointer none]) (by kernel_rfl) ?_
 intro sc w4 hx hx2 hgv hh
 have Nw4:=Hd (show MC w w4 [(g,nc dk,27),(g+1,nc 0++nc 0,36),(x,mtc k.c.n (nwd k.c.n) (mless k.c.n) (pw (nwd k.c.n)*pw (nwd k.c.n)%k.c.n),179),(sc,#[.pointer none,.pointer none],75)] c f d k.c from MY.out.new hgv (Nat.le_of_eq hx) hh)
 clear hx hx2 hgv hh MY
 refine nL rfl 27 rfl (.agg (nc 0)) (by rw [nZ]; kernel_rfl) ?_
 intro eb w5 hx hx2 hgv hh
 have Nw5:=Hd (show MC w w5 [(g,nc dk,27),(g+1,nc 0++nc 0,36),(x,mtc k.c.n (nwd k.c.n) (mless k.c.n) (pw (nwd k.c.n)*pw (nwd k.c.n)%k.c.n),179),(sc,#[.pointer none,.pointer none],75),(eb,nc 0,27)] c f d k.c from Nw4.out.new hgv (Nat.le_of_eq hx) hh)
 clear hx hx2 hgv hh Nw4
 refine sB rfl 75 (.tmp 16) (.tmp 46) rfl sc (by kernel_rfl) _ _ (#[.pointer (some ⟨c,0,none⟩),.pointer (some ⟨x,0,none⟩)]) (by kernel_rfl) (Nw5.out.at 3 rfl) (by kernel_rfl) rfl (by intro u hu; simp at hu; rcases hu with rfl | rfl <;> rfl) ?_
 intro ws hw hb hs
 have MS:=Hd (Nw5.out.store 3 rfl hb hs hw)
 clear hw hb hs Nw5
 refine sB rfl 27 (.tmp 17) (.tmp 50) rfl eb (by kernel_rfl) _ _ (nc e) (by kernel_rfl) (MS.out.at 4 rfl) (by rw [nS]; kernel_rfl) (by simp only [nS]) (nO _) ?_
 intro wt hw hb hs
 have MT0:=Hd (MS.out.store 4 rfl hb hs hw)
 clear hw hb hs MS
 refine wpList_nil ?_
 try simp only [Act.put,s_,t_,u_,v_,x_,y_]
 go_upto_region 11 with (fail)
 refine wp_region_lit ?_
 refine pL rfl (.int .i64 0) (fun u=>by kernel_rfl) ?_
 refine wpList_nil ?_
 try simp only [Act.put,s_,t_,u_,v_,x_,y_]
 go_upto_region 12 with (fail)
 go_loopw [51] (fun iv wr=>∃ (j:Nat) (wb:World),j≤64∧iv=.int .i64 (j:Int)∧But dr w wb∧wb.heap.size=w.heap.size∧DrbgAt wb dr id (kvN k id kv j) (1+(j:Int))∧MC wb wr [(g,nc dk,27),(g+1,nc 0++nc 0,36),(x,mtc k.c.n (nwd k.c.n) (mless k.c.n) (pw (nwd k.c.n)*pw (nwd k.c.n)%k.c.n),179),(sc,#[.pointer (some ⟨c,0,none⟩),.pointer (some ⟨x,0,none⟩)],75),(eb,nc e,27)] c f d k.c) (fun iv _=>(64 - intOf iv).toNat)
 case atStart=>exact ⟨0,w,by omega,rfl,But.refl _ _,rfl,HDR.out,MT0.out⟩
 case round=>
  obtain ⟨j,wb,hj,rfl,hbb,hbs,hdb,hm⟩:=hrel
  have M:=Hd hm
  have HBB:=Hd hbb
  have HBS:=Hd hbs
  have HDB:=Hd hdb
  clear hm hbb hbs hdb
  by_cases hlt:j<64
  ·skip
   have hfit:=kvN_fit (k:=k) hi hf j
   have HTR:=Hd (fun c f d W (H:CurveAt W c f d k.c) (h:DrbgAt W dr id (kvN k id kv j) (1+(j:Int)))=>key_try k c f d dr id (kvN k id kv j) (1+(j:Int)) W hi hfit (by omega) (by omega) H h)
   clear hfit
   obtain ⟨X,hX⟩:∃ X,X=kN k id kv j:=⟨_,rfl⟩
   obtain ⟨ok,hok⟩:∃ ok,ok=decide (X≠0∧X<k.c.n):=⟨_,rfl⟩
   have HX:=Hd hX
   have HOK:=Hd hok
   have HTR2:=Hd (show ∀ c f d W,CurveAt W c f d k.c→DrbgAt W dr id (kvN k id kv j) (1+(j:Int))→Calls Tryz.prog 34 #[.pointer (some ⟨c,0,none⟩),.func (.func 35) #[.pointer (some ⟨dr,0,none⟩)] #[]] W fun e w'=>e=.returned (.tuple #[.agg (nc X),.bool ok,.int .i64 0])∧DrbgAt w' dr id (kvN k id kv (j+1)) (1+(j:Int)+1)∧But dr W w' from fun c f d W H h=>by rw [hok,hX,← kvN_succ]; exact HTR.out c f d W H h)
   clear hX hok HTR
   go_upto_region 13 with (fail)
   refine wp_region_lit ?_
   refine pL rfl (.int .i64 (j:Int)) (fun u=>by kernel_rfl) ?_
   refine pL rfl (.int .i64 (j:Int)) (fun u=>by kernel_rfl) ?_
   refine wpList_nil ?_
   try simp only [Act.put,s_,t_,u_,v_,x_,y_]
   go_upto_region 14 with (fail)
   refine wp_region_lit ?_
   refine pL rfl (.pointer (some ⟨c,0,none⟩)) (fun u=>by kernel_rfl) ?_
   refine pL rfl (.pointer (some ⟨dr,0,none⟩)) (fun u=>by kernel_rfl) ?_
   refine pL rfl (.func (.func 35) #[.pointer (some ⟨dr,0,none⟩)] #[]) (fun u=>by kernel_rfl) ?_
   refine wpList_fnE rfl _ _ _ _ rfl #[] #[.pointer (some ⟨c,0,none⟩),.func (.func 35) #[.pointer (some ⟨dr,0,none⟩)] #[]] (by kernel_rfl) (by kernel_rfl) (fun u=>cE _ _ _ _ u Tryz.func34 (by kernel_rfl) (by kernel_rfl)) (T:=Unit) (fun _=>.tuple #[.agg (nc X),.bool ok,.int .i64 0]) (fun _ w'=>DrbgAt w' dr id (kvN k id kv (j+1)) (1+(j:Int)+1)∧But dr wr w') ((HTR2.out c f d wr M.out.crv ((M.out.below.block dr (lt_of HDB.out)).trans HDB.out)).mono fun e w' ⟨h1,h2,h3⟩=>⟨(),h1,h2,h3⟩) ?_
   rintro _ w3 ⟨hd3,hb3⟩
   have hoff:=M.out.crv.off ((M.out.below.block dr (lt_of HDB.out)).trans HDB.out)
   obtain ⟨wb2,hb4,hs4,hq4,hm4⟩:=M.out.rebase hb3 (lt_of HDB.out) hoff.1 hoff.2.1 hoff.2.2
   have HDB2:=Hd (show DrbgAt wb2 dr id (kvN k id kv (j+1)) (1+((j+1:Nat):Int)) by rw [show 1+((j+1:Nat):Int)=1+(j:Int)+1 by omega]; exact hq4.trans hd3)
   have HBB2:=Hd (HBB.out.trans hb4)
   have HBS2:=Hd (hs4.trans HBS.out)
   have M3:=Hd hm4
   clear hd3 hb3 hb4 hs4 hq4 hm4 hoff HTR2 HBB HBS HDB M
   refine pL rfl (.tuple #[.agg (nc X),.bool ok,.int .i64 0]) (fun u=>by kernel_rfl) ?_
   refine pL rfl (.agg (nc X)) (fun u=>by kernel_rfl) ?_
   refine pL rfl (.bool ok) (fun u=>by kernel_rfl) ?_
   refine pL rfl (.int .i64 0) (fun u=>by kernel_rfl) ?_
   refine nL rfl 27 rfl (.agg (nc 0)) (by rw [nZ]; kernel_rfl) ?_
   intro kb w56 hx hx2 hgv hh
   have Nw56:=Hd (show MC wb2 w56 [(g,nc dk,27),(g+1,nc 0++nc 0,36),(x,mtc k.c.n (nwd k.c.n) (mless k.c.n) (pw (nwd k.c.n)*pw (nwd k.c.n)%k.c.n),179),(sc,#[.pointer (some ⟨c,0,none⟩),.pointer (some ⟨x,0,none⟩)],75),(eb,nc e,27),(kb,nc 0,27)] c f d k.c from M3.out.new hgv (Nat.le_of_eq hx) hh)
   clear hx hx2 hgv hh M3
   refine sB rfl 27 (.tmp 19) (.tmp 59) rfl kb (by kernel_rfl) _ _ (nc X) (by kernel_rfl) (Nw56.out.at 5 rfl) (by rw [nS]; kernel_rfl) (by simp only [nS]) (nO _) ?_
   intro w5 hw hb hs
   have M5:=Hd (Nw56.out.store 5 rfl hb hs hw)
   clear hw hb hs Nw56
   refine pL rfl (.bool ok) (fun u=>by kernel_rfl) ?_
   refine pL rfl (.int .i64 0) (fun u=>by kernel_rfl) ?_
   refine wpList_nil ?_
   try simp only [Act.put,s_,t_,u_,v_,x_,y_]
   go_upto_region 15 with (fail)
   refine wp_region_lit ?_
   refine pL rfl (.int .i64 0) (fun u=>by kernel_rfl) ?_
   refine pL rfl (.bool false) (fun u=>by kernel_rfl) ?_
   refine wpList_nil ?_
   try simp only [Act.put,s_,t_,u_,v_,x_,y_]
   go_upto_region 17 with (fail)
   cases ok with
   | false=>
    refine wp_region_lit ?_
    refine pL rfl (.bool false) (fun u=>by kernel_rfl) ?_
    refine pL rfl (.bool true) (fun u=>by kernel_rfl) ?_
    refine wpList_nil ?_
    try simp only [Act.put,s_,t_,u_,v_,x_,y_]
    go_wp2_with (fail)
    exact ⟨⟨j+1,wb2,by omega,by go_num,HBB2.out,HBS2.out,HDB2.out,M5.out.take 5⟩,by simp [intOf]; omega⟩
   | true=>
    refine wp_region_lit ?_
    refine pL rfl (.bool true) (fun u=>by kernel_rfl) ?_
    refine pL rfl (.bool false) (fun u=>by kernel_rfl) ?_
    refine wpList_nil ?_
    try simp only [Act.put,s_,t_,u_,v_,x_,y_]
    have hkey:=of_decide_eq_true HOK.out.symm
    have HKN:=Hd hkey.2
    obtain ⟨y,hy,hya⟩:=k.inv hkey.1 hkey.2
    have HK0:=Hd hkey.1
    have HY:=Hd hy
    have HYA:=Hd hya
    clear hkey hy hya
    have hn1:=k.n1
    have HR:=Hd (show rN k X<k.c.n from Nat.mod_lt _ (by omega))
    obtain ⟨px,hpx⟩:∃ px,px=pX k (gm k X):=⟨_,rfl⟩
    have PX9:=Hd (show px<pw 9 by rw [hpx]; exact Nat.lt_trans (pX_lt k _) k.p9)
    have HRE:=Hd (show px%k.c.n=rN k X by rw [hpx]; rfl)
    have HPX:=Hd hpx
    obtain ⟨R,hR⟩:∃ R,R=rN k X:=⟨_,rfl⟩
    rw [← hR] at HR HRE
    have HRR:=Hd hR
    have HRD:=Hd (show R*dk%k.c.n<k.c.n from Nat.mod_lt _ (by omega))
    have HS1:=Hd (show (e+R*dk%k.c.n)%k.c.n<k.c.n from Nat.mod_lt _ (by omega))
    obtain ⟨S,hS⟩:∃ S,S=(e+R*dk%k.c.n)%k.c.n*y%k.c.n:=⟨_,rfl⟩
    have HS:=Hd hS
    have HSN:=Hd (show S<k.c.n by rw [hS]; exact Nat.mod_lt _ (by omega))
    have R9:=Hd (Nat.lt_trans HR.out k.n9)
    have S9:=Hd (Nat.lt_trans HSN.out k.n9)
    clear hpx hR hS hn1
    go_upto_region 18 with (fail)
    refine wp_region_lit ?_
    refine pL rfl (.pointer (some ⟨c,0,none⟩)) (fun u=>by kernel_rfl) ?_
    refine pL rfl (.pointer none) (fun u=>by kernel_rfl) ?_
    refine pL rfl (.pointer (some ⟨c,0,none⟩)) (fun u=>by kernel_rfl) ?_
    refine l0N rfl (.tmp 19) rfl kb (by kernel_rfl) (M5.out.at 5 rfl) ?_
    refine fL rfl 37 (.func 37) #[.tmp 69,.tmp 70,.tmp 71] #[69,70,27] rfl #[] #[.pointer none,.pointer (some ⟨c,0,none⟩),.agg (nc X)] (by kernel_rfl) (by kernel_rfl) (fun u=>cE _ _ _ _ u Tryz.func37 (by kernel_rfl) (by kernel_rfl)) (.agg (gpt k X)) (base_times k c f d X w5 HKN.out M5.out.crv) (fun w97 hb=>?_)
    have Nw97:=Hd (M5.out.grow hb)
    clear hb M5
    try simp only [Act.put,s_,t_,u_,v_,x_,y_]
    refine pL rfl (.agg (nc px)) (fun u=>by rw [HPX.out]; kernel_rfl) ?_
    refine fL rfl 36 (.func 36) #[.tmp 68,.tmp 73] #[70,27] rfl #[] #[.pointer (some ⟨c,0,none⟩),.agg (nc px)] (by kernel_rfl) (by kernel_rfl) (fun u=>cE _ _ _ _ u Tryz.func36 (by kernel_rfl) (by kernel_rfl)) (.agg (nc R)) (HRE.out ▸ ecdsa_rest k c f d px w97 PX9.out Nw97.out.crv) (fun w98 hb=>?_)
    have Nw98:=Hd (Nw97.out.grow hb)
    clear hb Nw97
    refine nL rfl 27 rfl (.agg (nc 0)) (by rw [nZ]; kernel_rfl) ?_
    intro rb w99 hx hx2 hgv hh
    have Nw99:=Hd (show MC wb2 w99 [(g,nc dk,27),(g+1,nc 0++nc 0,36),(x,mtc k.c.n (nwd k.c.n) (mless k.c.n) (pw (nwd k.c.n)*pw (nwd k.c.n)%k.c.n),179),(sc,#[.pointer (some ⟨c,0,none⟩),.pointer (some ⟨x,0,none⟩)],75),(eb,nc e,27),(kb,nc X,27),(rb,nc 0,27)] c f d k.c from Nw98.out.new hgv (Nat.le_of_eq hx) hh)
    clear hx hx2 hgv hh Nw98
    refine sB rfl 27 (.tmp 22) (.tmp 74) rfl rb (by kernel_rfl) _ _ (nc R) (by kernel_rfl) (Nw99.out.at 6 rfl) (by rw [nS]; kernel_rfl) (by simp only [nS]) (nO _) ?_
    intro w100 hw hb hs
    have Nw100:=Hd (Nw99.out.store 6 rfl hb hs hw)
    clear hw hb hs Nw99
    refine wpList_nil ?_
    try simp only [Act.put,s_,t_,u_,v_,x_,y_]
    go_upto_region 19 with (fail)
    have D101:=Hd (Nw100.out.drew)
    clear Nw100
    refine wp_region_growT 12 13 (by kernel_rfl) (by kernel_rfl) (fun d v c a w h=>by cases d <;> exact h) ?_
    simp only [List.take_succ_cons,List.take_zero]
    refine wpGrow_load_seg rfl 75 (.tmp 16) rfl sc 0 2 (by kernel_rfl) (#[.pointer (some ⟨c,0,none⟩),.pointer (some ⟨x,0,none⟩)]) _ Tryz.underlying75 rfl (by kernel_rfl) (rfl) (fun u hu=>D101.out.up 3 rfl hu) (fun j hj=>by rw [Nat.zero_add]) ?_
    refine wpGrow_load_seg rfl 75 (.tmp 16) rfl sc 0 2 (by kernel_rfl) (#[.pointer (some ⟨c,0,none⟩),.pointer (some ⟨x,0,none⟩)]) _ Tryz.underlying75 rfl (by kernel_rfl) (rfl) (fun u hu=>D101.out.up 3 rfl hu) (fun j hj=>by rw [Nat.zero_add]) ?_
    refine lG rfl (.tmp 17) rfl eb (by kernel_rfl) (fun u hu=>D101.out.up 4 rfl hu) ?_
    refine wpGrow_load_seg rfl 75 (.tmp 16) rfl sc 0 2 (by kernel_rfl) (#[.pointer (some ⟨c,0,none⟩),.pointer (some ⟨x,0,none⟩)]) _ Tryz.underlying75 rfl (by kernel_rfl) (rfl) (fun u hu=>D101.out.up 3 rfl hu) (fun j hj=>by rw [Nat.zero_add]) ?_
    refine lG rfl (.tmp 22) rfl rb (by kernel_rfl) (fun u hu=>D101.out.up 6 rfl hu) ?_
    refine lG rfl (.tmp 9) rfl g (by kernel_rfl) (fun u hu=>D101.out.up 0 rfl hu) ?_
    refine fG rfl 38 (.func 38) #[.tmp 78,.tmp 79,.tmp 80] #[75,27,27] rfl #[] #[.agg #[.pointer (some ⟨c,0,none⟩),.pointer (some ⟨x,0,none⟩)],.agg (nc R),.agg (nc dk)] (by kernel_rfl) (by kernel_rfl) (fun u=>cE _ _ _ _ u Tryz.func38 (by kernel_rfl) (by kernel_rfl)) (.agg (nc ((R*dk%k.c.n)))) (fun u hu=>by exact scl_mul k c f d x R dk u HR.out HDN.out (D101.out.crv.up hu) (⟨HFX.out,D101.out.up 2 rfl hu⟩)) ?_
    refine fG rfl 39 (.func 39) #[.tmp 76,.tmp 77,.tmp 81] #[75,27,27] rfl #[] #[.agg #[.pointer (some ⟨c,0,none⟩),.pointer (some ⟨x,0,none⟩)],.agg (nc e),.agg (nc ((R*dk%k.c.n)))] (by kernel_rfl) (by kernel_rfl) (fun u=>cE _ _ _ _ u Tryz.func39 (by kernel_rfl) (by kernel_rfl)) (.agg (nc (((e+R*dk%k.c.n)%k.c.n)))) (fun u hu=>by exact scl_add k c f d x e (R*dk%k.c.n) u HE.out HRD.out (D101.out.crv.up hu) (⟨HFX.out,D101.out.up 2 rfl hu⟩)) ?_
    refine wpGrow_load_seg rfl 75 (.tmp 16) rfl sc 0 2 (by kernel_rfl) (#[.pointer (some ⟨c,0,none⟩),.pointer (some ⟨x,0,none⟩)]) _ Tryz.underlying75 rfl (by kernel_rfl) (rfl) (fun u hu=>D101.out.up 3 rfl hu) (fun j hj=>by rw [Nat.zero_add]) ?_
    refine lG rfl (.tmp 19) rfl kb (by kernel_rfl) (fun u hu=>D101.out.up 5 rfl hu) ?_
    refine fG rfl 40 (.func 40) #[.tmp 83,.tmp 84] #[75,27] rfl #[] #[.agg #[.pointer (some ⟨c,0,none⟩),.pointer (some ⟨x,0,none⟩)],.agg (nc X)] (by kernel_rfl) (by kernel_rfl) (fun u=>cE _ _ _ _ u Tryz.func40 (by kernel_rfl) (by kernel_rfl)) (.agg (nc y)) (fun u hu=>by exact scl_inv k c f d x X y u HKN.out HY.out HYA.out (D101.out.crv.up hu) (⟨HFX.out,D101.out.up 2 rfl hu⟩)) ?_
    refine fG rfl 38 (.func 38) #[.tmp 75,.tmp 82,.tmp 85] #[75,27,27] rfl #[] #[.agg #[.pointer (some ⟨c,0,none⟩),.pointer (some ⟨x,0,none⟩)],.agg (nc (((e+R*dk%k.c.n)%k.c.n))),.agg (nc y)] (by kernel_rfl) (by kernel_rfl) (fun u=>cE _ _ _ _ u Tryz.func38 (by kernel_rfl) (by kernel_rfl)) (.agg (nc S)) (fun u hu=>by exact (HS.out ▸ scl_mul k c f d x ((e+R*dk%k.c.n)%k.c.n) y u HS1.out HY.out (D101.out.crv.up hu) (⟨HFX.out,D101.out.up 2 rfl hu⟩))) ?_
    refine gN ?_
    try simp only [Act.put,s_,t_,u_,v_,x_,y_]
    refine grow_alloc (i:=12) (f:=1) (by kernel_rfl) (by decide) rfl rfl 27 rfl (.agg (nc 0)) (by rw [nZ]; kernel_rfl) ?_
    intro sb v102 hx hx2 hgv hh
    have Nv102:=Hd (D101.out.new hgv hx hh)
    have Nv102:Hid (MC wb2 v102 [(g,nc dk,27),(g+1,nc 0++nc 0,36),(x,mtc k.c.n (nwd k.c.n) (mless k.c.n) (pw (nwd k.c.n)*pw (nwd k.c.n)%k.c.n),179),(sc,#[.pointer (some ⟨c,0,none⟩),.pointer (some ⟨x,0,none⟩)],75),(eb,nc e,27),(kb,nc X,27),(rb,nc R,27),(sb,nc 0,27)] c f d k.c):=Nv102
    clear hgv hx hx2 hh D101
    try simp only [Act.put,s_,t_,u_,v_,x_,y_]
    refine gS (rs:=[13]) (by kernel_rfl) (by decide) (fun w103 hg6=>?_)
    have Nw103:=Hd (Nv102.out.grow hg6)
    clear hg6 Nv102
    refine wpAny_ready (rs:=[13]) (by kernel_rfl) (by simp) ?_
    refine AllReady.cons rfl (fun K hK=>?_) AllReady.nil
    refine sK rfl 27 (.tmp 23) (.tmp 86) rfl sb rfl _ _ _ rfl (Nw103.out.at 7 rfl) (by rw [nS]; kernel_rfl) (by simp only [nS]) (nO _) (fun w104 hw hb hs=>hK _ _ ?_)
    have Nw104:=Hd (Nw103.out.store 7 rfl hb hs hw)
    clear hK hw hb hs Nw103
    try simp only [Act.put,s_,t_,u_,v_,x_,y_]
    refine wpAny_done (by kernel_rfl) ?_ _
    try simp only [Act.put,s_,t_,u_,v_,x_,y_]
    by_cases hr0:R=0
    ·have HR0:=Hd hr0
     clear hr0
     go_upto_region 20 with (fail)
     refine wp_region_lit ?_
     refine l0N rfl (.tmp 22) rfl rb (by kernel_rfl) (Nw104.out.at 6 rfl) ?_
     try simp only [Act.put,s_,t_,u_,v_,x_,y_]
     refine pL rfl (.agg (nc 0)) (fun u=>by rw [nZ]; kernel_rfl) ?_
     try simp only [Act.put,s_,t_,u_,v_,x_,y_]
     refine pL rfl (.bool false) (fun u=>run_nen _ _ _ rfl R 0 (by kernel_rfl) (by kernel_rfl) R9.out (pw_pos 9) false (decide_eq_false (fun h=>h HR0.out)) u) ?_
     refine pL rfl (.bool false) (fun u=>by kernel_rfl) ?_
     try simp only [Act.put,s_,t_,u_,v_,x_,y_]
     refine wpList_skipL (by kernel_rfl) ?_
     try simp only [Act.put,s_,t_,u_,v_,x_,y_]
     refine wpList_skipL (by kernel_rfl) ?_
     try simp only [Act.put,s_,t_,u_,v_,x_,y_]
     refine wpList_skipL (by kernel_rfl) ?_
     refine pL rfl (.bool false) (fun u=>by kernel_rfl) ?_
     refine wpList_nil ?_
     try simp only [Act.put,s_,t_,u_,v_,x_,y_]
     go_wp2_with (fail)
     exact ⟨⟨j+1,wb2,by omega,by go_num,HBB2.out,HBS2.out,HDB2.out,Nw104.out.take 5⟩,by simp [intOf]; omega⟩
    ·have HR0:=Hd hr0
     clear hr0
     by_cases hs0:S=0
     ·have HS0:=Hd hs0
      clear hs0
      go_upto_region 20 with (fail)
      refine wp_region_lit ?_
      refine l0N rfl (.tmp 22) rfl rb (by kernel_rfl) (Nw104.out.at 6 rfl) ?_
      try simp only [Act.put,s_,t_,u_,v_,x_,y_]
      refine pL rfl (.agg (nc 0)) (fun u=>by rw [nZ]; kernel_rfl) ?_
      try simp only [Act.put,s_,t_,u_,v_,x_,y_]
      refine pL rfl (.bool true) (fun u=>run_nen _ _ _ rfl R 0 (by kernel_rfl) (by kernel_rfl) R9.out (pw_pos 9) true (decide_eq_true HR0.out) u) ?_
      refine pL rfl (.bool true) (fun u=>by kernel_rfl) ?_
      try simp only [Act.put,s_,t_,u_,v_,x_,y_]
      refine wpN_loadG2 (by kernel_rfl) (.tmp 23) rfl sb 0 (by kernel_rfl) (Nw104.out.at 7 rfl) (fun j hj=>by rw [Nat.zero_add]; exact nc_get _ j hj) ?_
      try simp only [Act.put,s_,t_,u_,v_,x_,y_]
      refine wL (by kernel_rfl) (.agg (nc 0)) (fun u=>by rw [nZ]; kernel_rfl) ?_
      try simp only [Act.put,s_,t_,u_,v_,x_,y_]
      refine wL (by kernel_rfl) (.bool false) (fun u=>run_nen _ _ _ rfl S 0 (by kernel_rfl) (by kernel_rfl) S9.out (pw_pos 9) false (decide_eq_false (fun h=>h HS0.out)) u) ?_
      try simp only [Act.put,s_,t_,u_,v_,x_,y_]
      refine pL rfl (.bool false) (fun u=>by kernel_rfl) ?_
      refine wpList_nil ?_
      try simp only [Act.put,s_,t_,u_,v_,x_,y_]
      go_wp2_with (fail)
      exact ⟨⟨j+1,wb2,by omega,by go_num,HBB2.out,HBS2.out,HDB2.out,Nw104.out.take 5⟩,by simp [intOf]; omega⟩
     ·have HS0:=Hd hs0
      clear hs0
      go_upto_region 20 with (fail)
      refine wp_region_lit ?_
      refine l0N rfl (.tmp 22) rfl rb (by kernel_rfl) (Nw104.out.at 6 rfl) ?_
      try simp only [Act.put,s_,t_,u_,v_,x_,y_]
      refine pL rfl (.agg (nc 0)) (fun u=>by rw [nZ]; kernel_rfl) ?_
      try simp only [Act.put,s_,t_,u_,v_,x_,y_]
      refine pL rfl (.bool true) (fun u=>run_nen _ _ _ rfl R 0 (by kernel_rfl) (by kernel_rfl) R9.out (pw_pos 9) true (decide_eq_true HR0.out) u) ?_
      refine pL rfl (.bool true) (fun u=>by kernel_rfl) ?_
      try simp only [Act.put,s_,t_,u_,v_,x_,y_]
      refine wpN_loadG2 (by kernel_rfl) (.tmp 23) rfl sb 0 (by kernel_rfl) (Nw104.out.at 7 rfl) (fun j hj=>by rw [Nat.zero_add]; exact nc_get _ j hj) ?_
      try simp only [Act.put,s_,t_,u_,v_,x_,y_]
      refine wL (by kernel_rfl) (.agg (nc 0)) (fun u=>by rw [nZ]; kernel_rfl) ?_
      try simp only [Act.put,s_,t_,u_,v_,x_,y_]
      refine wL (by kernel_rfl) (.bool true) (fun u=>run_nen _ _ _ rfl S 0 (by kernel_rfl) (by kernel_rfl) S9.out (pw_pos 9) true (decide_eq_true HS0.out) u) ?_
      try simp only [Act.put,s_,t_,u_,v_,x_,y_]
      refine pL rfl (.bool true) (fun u=>by kernel_rfl) ?_
      refine wpList_nil ?_
      try simp only [Act.put,s_,t_,u_,v_,x_,y_]
      go_upto_region 21 with (fail)
      refine wp_region_lit ?_
      refine l0N rfl (.tmp 22) rfl rb (by kernel_rfl) (Nw104.out.at 6 rfl) ?_
      refine l0N rfl (.tmp 23) rfl sb (by kernel_rfl) (Nw104.out.at 7 rfl) ?_
      refine wpList_built rfl 36 #[(0,.tmp 95),(1,.tmp 96)] rfl ((nc R++nc S)) (by kernel_rfl) ?_
      refine pL rfl (.int .i64 (j:Int)) (fun u=>by kernel_rfl) ?_
      refine pL rfl (.int .i64 ((j+1:Nat):Int)) (run_bini _ _ _ _ _ rfl (j:Int) ((1:Nat):Int) (by kernel_rfl) (by kernel_rfl) (bi_add _ (by omega))) ?_
      refine sB rfl 36 (.tmp 12) (.tmp 97) rfl (g+1) (by kernel_rfl) _ _ (nc R++nc S) (by kernel_rfl) (Nw104.out.at 1 rfl) (by rw [sg_size]; kernel_rfl) (by simp only [sg_size]) (sg_one _ _) ?_
      intro w145 hw hb hs
      have Nw145:=Hd (Nw104.out.store 1 rfl hb hs hw)
      clear hw hb hs Nw104
      refine pL rfl (.int .i64 ((j+1:Nat):Int)) (fun u=>by kernel_rfl) ?_
      refine pL rfl (.int .i64 0) (fun u=>by kernel_rfl) ?_
      refine wpList_nil ?_
      try simp only [Act.put,s_,t_,u_,v_,x_,y_]
      go_wp2_with (fail)
      refine bodyPost_ret (results_S3 rfl _ _ (g+1) _ _ _ _ _ (sg_size _ _) rfl rfl rfl (Nw145.out.at 1 rfl)) rfl ⟨R,S,_,_,rfl,.inl ⟨rfl,j,hlt,by omega,?_⟩,HBB2.out.trans (But.of_below Nw145.out.below)⟩
      rw [← HX.out,← HEE.out]
      exact ⟨HK0.out,HKN.out,HRR.out,HR0.out,HS0.out,y,HY.out,HYA.out,HS.out⟩
  ·obtain rfl:j=64:=by omega
   go_upto_region 23 with (fail)
   refine wp_region_lit ?_
   refine wpList_built rfl 36 #[] rfl ((nc 0++nc 0)) (by rw [sg_zero]; kernel_rfl) ?_
   refine sB rfl 36 (.tmp 12) (.tmp 101) rfl (g+1) (by kernel_rfl) _ _ (nc 0++nc 0) (by kernel_rfl) (M.out.at 1 rfl) (by rw [sg_size]; kernel_rfl) (by simp only [sg_size]) (sg_one _ _) ?_
   intro w6 hw hb hs
   have Nw6:=Hd (M.out.store 1 rfl hb hs hw)
   clear hw hb hs M
   refine pL rfl (.int .i64 64) (fun u=>by kernel_rfl) ?_
   refine pL rfl (.int .i64 2604) (fun u=>by kernel_rfl) ?_
   refine wpList_nil ?_
   try simp only [Act.put,s_,t_,u_,v_,x_,y_]
   go_wp2_with (fail)
   exact bodyPost_ret (results_S3 rfl _ _ (g+1) _ _ _ _ _ (sg_size _ _) rfl rfl rfl (Nw6.out.at 1 rfl)) rfl ⟨0,0,_,_,rfl,.inr rfl,HBB.out.trans (But.of_below Nw6.out.below)⟩
end Go.Proofs.YtkoonhiplicbkaaGreat.Cw
