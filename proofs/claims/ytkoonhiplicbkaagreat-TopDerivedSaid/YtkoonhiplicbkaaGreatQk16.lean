/-
  (package curve) Sum: two triples added up. Condition: numbers below P.
-/
import Derived.Test.YtkoonhiplicbkaaGreatQk15
import Derived.Test.YtkoonhiplicbkaaGreatQk14
set_option linter.unusedSimpArgs false
set_option linter.unusedVariables false
set_option maxHeartbeats 40000000
set_option maxRecDepth 100000
namespace Go.Proofs.YtkoonhiplicbkaaGreat.Cw
open Go Go.RowKit
attribute [local irreducible] pc ptc nc ac cuc fc
attribute [local go_sem ↓ high] wn_eql wn_neq wn_lss wn_gtr wn_leq wn_geq wn_cells wRS wn_guard lit0 lit1
attribute [local go_sem high] wn_match wRS wn_eql wn_neq wn_lss wn_gtr wn_leq wn_geq
structure Tri where (x y z:Nat)
def sum3 (p a b3:Nat) (s q:Tri):Tri:=
 let t0:=fml p s.x q.x
 let t1:=fml p s.y q.y
 let t2:=fml p s.z q.z
 let t3:=fsb p (fml p (fad p s.x s.y) (fad p q.x q.y)) (fad p t0 t1)
 let t4:=fsb p (fml p (fad p s.x s.z) (fad p q.x q.z)) (fad p t0 t2)
 let t5:=fsb p (fml p (fad p s.y s.z) (fad p q.y q.z)) (fad p t1 t2)
 let z:=fad p (fml p b3 t2) (fml p a t4)
 let x:=fsb p t1 z
 let z:=fad p t1 z
 let y:=fml p x z
 let t1:=fad p (fad p t0 t0) t0
 let t2:=fml p a t2
 let t4:=fml p b3 t4
 let t1:=fad p t1 t2
 let t2:=fml p a (fsb p t0 t2)
 let t4:=fad p t4 t2
 let y:=fad p y (fml p t1 t4)
 let x:=fsb p (fml p t3 x) (fml p t5 t4)
 let z:=fad p (fml p t5 z) (fml p t3 t1)
 ⟨x,y,z⟩
def Tri.In (p:Nat) (s:Tri):Prop:=s.x<p∧s.y<p∧s.z<p
def tc (s:Tri):Array Value:=pc s.x s.y s.z
theorem curve_sum (c f d x1 y1 z1 x2 y2 z2:Nat) (cu:Cv) (w:World) (h1:x1<cu.p∧y1<cu.p∧z1<cu.p) (h2:x2<cu.p∧y2<cu.p∧z2<cu.p) (H:CurveAt w c f d cu):Calls Tryz.prog 97 #[.pointer (some ⟨c,0,none⟩),.agg (pc x1 y1 z1),.agg (pc x2 y2 z2)] w fun e w'=>e=.returned (.agg (tc (sum3 cu.p cu.a cu.b3 ⟨x1,y1,z1⟩ ⟨x2,y2,z2⟩)))∧Below w.heap.size w w':=by
 obtain ⟨hx1,hy1,hz1⟩:=h1
 obtain ⟨hx2,hy2,hz2⟩:=h2
 obtain ⟨hk,hfd,hcb⟩:=H
 have HK:=Hd hk
 have HF:=Hd hfd
 have HCB:=Hd hcb
 have Hx1:=Hd hx1
 have Hy1:=Hd hy1
 have Hz1:=Hd hz1
 have Hx2:=Hd hx2
 have Hy2:=Hd hy2
 have Hz2:=Hd hz2
 clear hk hfd hcb hx1 hy1 hz1 hx2 hy2 hz2
 obtain ⟨k0,e0⟩:∃ v,v=fml cu.p x1 x2:=⟨_,rfl⟩
 obtain ⟨k1,e1⟩:∃ v,v=fml cu.p y1 y2:=⟨_,rfl⟩
 obtain ⟨k2,e2⟩:∃ v,v=fml cu.p z1 z2:=⟨_,rfl⟩
 obtain ⟨k3,e3⟩:∃ v,v=fad cu.p x1 y1:=⟨_,rfl⟩
 obtain ⟨k4,e4⟩:∃ v,v=fad cu.p x2 y2:=⟨_,rfl⟩
 obtain ⟨k5,e5⟩:∃ v,v=fml cu.p k3 k4:=⟨_,rfl⟩
 obtain ⟨k6,e6⟩:∃ v,v=fad cu.p k0 k1:=⟨_,rfl⟩
 obtain ⟨k7,e7⟩:∃ v,v=fsb cu.p k5 k6:=⟨_,rfl⟩
 obtain ⟨k8,e8⟩:∃ v,v=fad cu.p x1 z1:=⟨_,rfl⟩
 obtain ⟨k9,e9⟩:∃ v,v=fad cu.p x2 z2:=⟨_,rfl⟩
 obtain ⟨k10,e10⟩:∃ v,v=fml cu.p k8 k9:=⟨_,rfl⟩
 obtain ⟨k11,e11⟩:∃ v,v=fad cu.p k0 k2:=⟨_,rfl⟩
 obtain ⟨k12,e12⟩:∃ v,v=fsb cu.p k10 k11:=⟨_,rfl⟩
 obtain ⟨k13,e13⟩:∃ v,v=fad cu.p y1 z1:=⟨_,rfl⟩
 obtain ⟨k14,e14⟩:∃ v,v=fad cu.p y2 z2:=⟨_,rfl⟩
 obtain ⟨k15,e15⟩:∃ v,v=fml cu.p k13 k14:=⟨_,rfl⟩
 obtain ⟨k16,e16⟩:∃ v,v=fad cu.p k1 k2:=⟨_,rfl⟩
 obtain ⟨k17,e17⟩:∃ v,v=fsb cu.p k15 k16:=⟨_,rfl⟩
 obtain ⟨k18,e18⟩:∃ v,v=fml cu.p cu.b3 k2:=⟨_,rfl⟩
 obtain ⟨k19,e19⟩:∃ v,v=fml cu.p cu.a k12:=⟨_,rfl⟩
 obtain ⟨k20,e20⟩:∃ v,v=fad cu.p k18 k19:=⟨_,rfl⟩
 obtain ⟨k21,e21⟩:∃ v,v=fsb cu.p k1 k20:=⟨_,rfl⟩
 obtain ⟨k22,e22⟩:∃ v,v=fad cu.p k1 k20:=⟨_,rfl⟩
 obtain ⟨k23,e23⟩:∃ v,v=fml cu.p k21 k22:=⟨_,rfl⟩
 obtain ⟨k24,e24⟩:∃ v,v=fad cu.p k0 k0:=⟨_,rfl⟩
 obtain ⟨k25,e25⟩:∃ v,v=fad cu.p k24 k0:=⟨_,rfl⟩
 obtain ⟨k26,e26⟩:∃ v,v=fml cu.p cu.a k2:=⟨_,rfl⟩
 obtain ⟨k27,e27⟩:∃ v,v=fml cu.p cu.b3 k12:=⟨_,rfl⟩
 obtain ⟨k28,e28⟩:∃ v,v=fad cu.p k25 k26:=⟨_,rfl⟩
 obtain ⟨k29,e29⟩:∃ v,v=fsb cu.p k0 k26:=⟨_,rfl⟩
 obtain ⟨k30,e30⟩:∃ v,v=fml cu.p cu.a k29:=⟨_,rfl⟩
 obtain ⟨k31,e31⟩:∃ v,v=fad cu.p k27 k30:=⟨_,rfl⟩
 obtain ⟨k32,e32⟩:∃ v,v=fml cu.p k28 k31:=⟨_,rfl⟩
 obtain ⟨k33,e33⟩:∃ v,v=fad cu.p k23 k32:=⟨_,rfl⟩
 obtain ⟨k34,e34⟩:∃ v,v=fml cu.p k7 k21:=⟨_,rfl⟩
 obtain ⟨k35,e35⟩:∃ v,v=fml cu.p k17 k31:=⟨_,rfl⟩
 obtain ⟨k36,e36⟩:∃ v,v=fsb cu.p k34 k35:=⟨_,rfl⟩
 obtain ⟨k37,e37⟩:∃ v,v=fml cu.p k17 k22:=⟨_,rfl⟩
 obtain ⟨k38,e38⟩:∃ v,v=fml cu.p k7 k28:=⟨_,rfl⟩
 obtain ⟨k39,e39⟩:∃ v,v=fad cu.p k37 k38:=⟨_,rfl⟩
 have fin:sum3 cu.p cu.a cu.b3 ⟨x1,y1,z1⟩ ⟨x2,y2,z2⟩=⟨k36,k33,k39⟩:=by subst e0 e1 e2 e3 e4 e5 e6 e7 e8 e9 e10 e11 e12 e13 e14 e15 e16 e17 e18 e19 e20 e21 e22 e23 e24 e25 e26 e27 e28 e29 e30 e31 e32 e33 e34 e35 e36 e37 e38 e39; rfl
 have FIN:=Hd fin
 clear fin
 have E0:=Hd e0
 have L0:=Hd (show k0<cu.p by rw [E0.out]; exact fml_lt _ _ HK.out.1)
 clear e0
 have E1:=Hd e1
 have L1:=Hd (show k1<cu.p by rw [E1.out]; exact fml_lt _ _ HK.out.1)
 clear e1
 have E2:=Hd e2
 have L2:=Hd (show k2<cu.p by rw [E2.out]; exact fml_lt _ _ HK.out.1)
 clear e2
 have E3:=Hd e3
 have L3:=Hd (show k3<cu.p by rw [E3.out]; exact fad_lt _ _ HK.out.1)
 clear e3
 have E4:=Hd e4
 have L4:=Hd (show k4<cu.p by rw [E4.out]; exact fad_lt _ _ HK.out.1)
 clear e4
 have E5:=Hd e5
 have L5:=Hd (show k5<cu.p by rw [E5.out]; exact fml_lt _ _ HK.out.1)
 clear e5
 have E6:=Hd e6
 have L6:=Hd (show k6<cu.p by rw [E6.out]; exact fad_lt _ _ HK.out.1)
 clear e6
 have E7:=Hd e7
 have L7:=Hd (show k7<cu.p by rw [E7.out]; exact fsb_lt _ _ HK.out.1)
 clear e7
 have E8:=Hd e8
 have L8:=Hd (show k8<cu.p by rw [E8.out]; exact fad_lt _ _ HK.out.1)
 clear e8
 have E9:=Hd e9
 have L9:=Hd (show k9<cu.p by rw [E9.out]; exact fad_lt _ _ HK.out.1)
 clear e9
 have E10:=Hd e10
 have L10:=Hd (show k10<cu.p by rw [E10.out]; exact fml_lt _ _ HK.out.1)
 clear e10
 have E11:=Hd e11
 have L11:=Hd (show k11<cu.p by rw [E11.out]; exact fad_lt _ _ HK.out.1)
 clear e11
 have E12:=Hd e12
 have L12:=Hd (show k12<cu.p by rw [E12.out]; exact fsb_lt _ _ HK.out.1)
 clear e12
 have E13:=Hd e13
 have L13:=Hd (show k13<cu.p by rw [E13.out]; exact fad_lt _ _ HK.out.1)
 clear e13
 have E14:=Hd e14
 have L14:=Hd (show k14<cu.p by rw [E14.out]; exact fad_lt _ _ HK.out.1)
 clear e14
 have E15:=Hd e15
 have L15:=Hd (show k15<cu.p by rw [E15.out]; exact fml_lt _ _ HK.out.1)
 clear e15
 have E16:=Hd e16
 have L16:=Hd (show k16<cu.p by rw [E16.out]; exact fad_lt _ _ HK.out.1)
 clear e16
 have E17:=Hd e17
 have L17:=Hd (show k17<cu.p by rw [E17.out]; exact fsb_lt _ _ HK.out.1)
 clear e17
 have E18:=Hd e18
 have L18:=Hd (show k18<cu.p by rw [E18.out]; exact fml_lt _ _ HK.out.1)
 clear e18
 have E19:=Hd e19
 have L19:=Hd (show k19<cu.p by rw [E19.out]; exact fml_lt _ _ HK.out.1)
 clear e19
 have E20:=Hd e20
 have L20:=Hd (show k20<cu.p by rw [E20.out]; exact fad_lt _ _ HK.out.1)
 clear e20
 have E21:=Hd e21
 have L21:=Hd (show k21<cu.p by rw [E21.out]; exact fsb_lt _ _ HK.out.1)
 clear e21
 have E22:=Hd e22
 have L22:=Hd (show k22<cu.p by rw [E22.out]; exact fad_lt _ _ HK.out.1)
 clear e22
 have E23:=Hd e23
 have L23:=Hd (show k23<cu.p by rw [E23.out]; exact fml_lt _ _ HK.out.1)
 clear e23
 have E24:=Hd e24
 have L24:=Hd (show k24<cu.p by rw [E24.out]; exact fad_lt _ _ HK.out.1)
 clear e24
 have E25:=Hd e25
 have L25:=Hd (show k25<cu.p by rw [E25.out]; exact fad_lt _ _ HK.out.1)
 clear e25
 have E26:=Hd e26
 have L26:=Hd (show k26<cu.p by rw [E26.out]; exact fml_lt _ _ HK.out.1)
 clear e26
 have E27:=Hd e27
 have L27:=Hd (show k27<cu.p by rw [E27.out]; exact fml_lt _ _ HK.out.1)
 clear e27
 have E28:=Hd e28
 have L28:=Hd (show k28<cu.p by rw [E28.out]; exact fad_lt _ _ HK.out.1)
 clear e28
 have E29:=Hd e29
 have L29:=Hd (show k29<cu.p by rw [E29.out]; exact fsb_lt _ _ HK.out.1)
 clear e29
 have E30:=Hd e30
 have L30:=Hd (show k30<cu.p by rw [E30.out]; exact fml_lt _ _ HK.out.1)
 clear e30
 have E31:=Hd e31
 have L31:=Hd (show k31<cu.p by rw [E31.out]; exact fad_lt _ _ HK.out.1)
 clear e31
 have E32:=Hd e32
 have L32:=Hd (show k32<cu.p by rw [E32.out]; exact fml_lt _ _ HK.out.1)
 clear e32
 have E33:=Hd e33
 have L33:=Hd (show k33<cu.p by rw [E33.out]; exact fad_lt _ _ HK.out.1)
 clear e33
 have E34:=Hd e34
 have L34:=Hd (show k34<cu.p by rw [E34.out]; exact fml_lt _ _ HK.out.1)
 clear e34
 have E35:=Hd e35
 have L35:=Hd (show k35<cu.p by rw [E35.out]; exact fml_lt _ _ HK.out.1)
 clear e35
 have E36:=Hd e36
 have L36:=Hd (show k36<cu.p by rw [E36.out]; exact fsb_lt _ _ HK.out.1)
 clear e36
 have E37:=Hd e37
 have L37:=Hd (show k37<cu.p by rw [E37.out]; exact fml_lt _ _ HK.out.1)
 clear e37
 have E38:=Hd e38
 have L38:=Hd (show k38<cu.p by rw [E38.out]; exact fml_lt _ _ HK.out.1)
 clear e38
 have E39:=Hd e39
 have L39:=Hd (show k39<cu.p by rw [E39.out]; exact fad_lt _ _ HK.out.1)
 clear e39
 go_enter Tryz.func97,Tryz.ntmps97
 go_upto_region 1 with fail
 rw [← pc_zero]
 have m0:=Mem.start3 w (pc x1 y1 z1) (pc x2 y2 z2) (pc 0 0 0) 111 111 111
 obtain ⟨w1,hw1⟩:∃ w1:World,w1=(((w.alloc (.cells (pc x1 y1 z1) 111)).alloc (.cells (pc x2 y2 z2) 111)).alloc (.cells (pc 0 0 0) 111)):=⟨_,rfl⟩
 rw [← hw1] at m0 ⊢
 clear hw1
 obtain ⟨g,hg⟩:∃ g,g=w.heap.size:=⟨_,rfl⟩
 rw [← hg] at m0 ⊢
 have HG:=Hd hg
 have M:=Hd m0
 clear hg m0
 -- region 1
 have D2:=Hd (M.out.drew)
 clear M
 refine rGw 18 18 (by kernel_rfl) (by kernel_rfl) (fun d v c a w h=>by cases d <;> exact h) ?_
 simp only [List.take_succ_cons,List.take_zero]
 refine gK (.pointer (some ⟨c,0,none⟩)) ?_
 refine gK (.pointer (some ⟨c,0,none⟩)) ?_
 refine gK (.pointer (some ⟨c,59,none⟩)) ?_
 refine wpGrow_load_cell rfl 85 (.tmp 21) rfl c 59 (by kernel_rfl) (.pointer (some ⟨f,0,none⟩)) _ Tryz.underlying85 rfl (fun u hu=>(cO (grows_at HCB.out (gT _ _ _ D2.out.1 hu)) 59).trans (cuc_f cu f)) ?_
 refine gK (.func (.func 73) #[.pointer (some ⟨f,0,none⟩)] #[]) ?_
 refine gK (.pointer (some ⟨c,0,none⟩)) ?_
 refine gK (.pointer (some ⟨c,0,none⟩)) ?_
 refine gK (.pointer (some ⟨c,59,none⟩)) ?_
 refine wpGrow_load_cell rfl 85 (.tmp 26) rfl c 59 (by kernel_rfl) (.pointer (some ⟨f,0,none⟩)) _ Tryz.underlying85 rfl (fun u hu=>(cO (grows_at HCB.out (gT _ _ _ D2.out.1 hu)) 59).trans (cuc_f cu f)) ?_
 refine gK (.func (.func 117) #[.pointer (some ⟨f,0,none⟩)] #[]) ?_
 refine gK (.pointer (some ⟨c,0,none⟩)) ?_
 refine gK (.pointer (some ⟨c,0,none⟩)) ?_
 refine gK (.pointer (some ⟨c,59,none⟩)) ?_
 refine wpGrow_load_cell rfl 85 (.tmp 31) rfl c 59 (by kernel_rfl) (.pointer (some ⟨f,0,none⟩)) _ Tryz.underlying85 rfl (fun u hu=>(cO (grows_at HCB.out (gT _ _ _ D2.out.1 hu)) 59).trans (cuc_f cu f)) ?_
 refine gK (.func (.func 89) #[.pointer (some ⟨f,0,none⟩)] #[]) ?_
 refine gK (.func (.func 73) #[.pointer (some ⟨f,0,none⟩)] #[]) ?_
 refine gK (.func (.func 117) #[.pointer (some ⟨f,0,none⟩)] #[]) ?_
 refine gK (.func (.func 89) #[.pointer (some ⟨f,0,none⟩)] #[]) ?_
 refine gN ?_
 try simp only [Act.put,s_,t_,u_,v_,x_,y_]
 intro w3 hg6
 refine ⟨by kernel_rfl,?_⟩
 have Nw3:=Hd (D2.out.grow hg6)
 clear hg6 D2
 try simp only [Act.put,s_,t_,u_,v_,x_,y_]
 go_upto_region 2 with (fail)
 have D4:=Hd (Nw3.out.drew)
 clear Nw3
 rename_i K0 hK0
 have r8:∀ (x5 x6 x7:Nat) (w165:World),Mem (w3.drew) w165 [(x5,nc k0,27),(x6,nc k1,27),(x7,nc k2,27)]→K0 { tmps:=#[.pointer (some ⟨c,0,none⟩),.agg (pc x1 y1 z1),.agg (pc x2 y2 z2),undef,.pointer (some ⟨g,0,none⟩),.pointer (some ⟨g+1,0,none⟩),.pointer (some ⟨g+1+1,0,none⟩),.func (.func 73) #[.pointer (some ⟨f,0,none⟩)] #[],.func (.func 117) #[.pointer (some ⟨f,0,none⟩)] #[],.func (.func 89) #[.pointer (some ⟨f,0,none⟩)] #[],.pointer (some ⟨x5,0,none⟩),.pointer (some ⟨x6,0,none⟩),.pointer (some ⟨x7,0,none⟩),undef,undef,undef,undef,undef,undef,.pointer (some ⟨c,0,none⟩),.pointer (some ⟨c,0,none⟩),.pointer (some ⟨c,59,none⟩),.pointer (some ⟨f,0,none⟩),.func (.func 73) #[.pointer (some ⟨f,0,none⟩)] #[],.pointer (some ⟨c,0,none⟩),.pointer (some ⟨c,0,none⟩),.pointer (some ⟨c,59,none⟩),.pointer (some ⟨f,0,none⟩),.func (.func 117) #[.pointer (some ⟨f,0,none⟩)] #[],.pointer (some ⟨c,0,none⟩),.pointer (some ⟨c,0,none⟩),.pointer (some ⟨c,59,none⟩),.pointer (some ⟨f,0,none⟩),.func (.func 89) #[.pointer (some ⟨f,0,none⟩)] #[],.func (.func 89) #[.pointer (some ⟨f,0,none⟩)] #[],.pointer (some ⟨g,0,none⟩),.agg (nc x1),.pointer (some ⟨g+1,0,none⟩),.agg (nc x2),.agg (nc k0),.func (.func 89) #[.pointer (some ⟨f,0,none⟩)] #[],.pointer (some ⟨g,9,none⟩),.agg (nc y1),.pointer (some ⟨g+1,9,none⟩),.agg (nc y2),.agg (nc k1),.func (.func 89) #[.pointer (some ⟨f,0,none⟩)] #[],.pointer (some ⟨g,18,none⟩),.agg (nc z1),.pointer (some ⟨g+1,18,none⟩),.agg (nc z2),.agg (nc k2),undef,undef,undef,undef,undef,undef,undef,undef,undef,undef,undef,undef,undef,undef,undef,undef,undef,undef,undef,undef,undef,undef,undef,undef,undef,undef,undef,undef,undef,undef,undef,undef,undef,undef,undef,undef,undef,undef,undef,undef,undef,undef,undef,undef,undef,undef,undef,undef,undef,undef,undef,undef,undef,undef,undef,undef,undef,undef,undef,undef,undef,undef,undef,undef,undef,undef,undef,undef,undef,undef,undef,undef,undef,undef,undef,undef,undef,undef,undef,undef,undef,undef,undef,undef,undef,undef,undef,undef,undef,undef,undef,undef,undef,undef,undef,undef,undef,undef,undef,undef,undef,undef,undef,undef,undef,undef,undef,undef,undef,undef,undef,undef,undef,undef,undef,undef,undef,undef,undef,undef,undef,undef,undef,undef,undef,undef,undef,undef,undef,undef,undef,undef,undef,undef,undef,undef,undef,undef,undef,undef,undef,undef,undef,undef,undef,undef,undef,undef,undef,undef,undef,undef,undef,undef,undef,undef,undef,undef,undef,undef,undef],defers:=[] } w165:=by
  intro x5 x6 x7 w165 mm
  refine hK0 _ _ ?_
  clear hK0
  have N166:=Hd (show Mem w w165 [(g,pc x1 y1 z1,111),(g+1,pc x2 y2 z2,111),(g+1+1,pc 0 0 0,111),(x5,nc k0,27),(x6,nc k1,27),(x7,nc k2,27)] from D4.out.join mm)
  clear mm D4
  -- region 3
  go_upto_region 3 with (fail)
  have D167:=Hd (N166.out.drew)
  clear N166
  refine rGw 20 21 (by kernel_rfl) (by kernel_rfl) (fun d v c a w h=>by cases d <;> exact h) ?_
  simp only [List.take_succ_cons,List.take_zero]
  refine gK (.func (.func 117) #[.pointer (some ⟨f,0,none⟩)] #[]) ?_
  refine gK (.func (.func 89) #[.pointer (some ⟨f,0,none⟩)] #[]) ?_
  refine gK (.func (.func 73) #[.pointer (some ⟨f,0,none⟩)] #[]) ?_
  refine gK (.pointer (some ⟨g,0,none⟩)) ?_
  refine lN rfl (.tmp 55) rfl g 0 (by kernel_rfl) x1 (fun u hu=>D167.out.up 0 rfl hu) (pc_x x1 y1 z1) ?_
  refine gK (.pointer (some ⟨g,9,none⟩)) ?_
  refine lN rfl (.tmp 57) rfl g 9 (by kernel_rfl) y1 (fun u hu=>D167.out.up 0 rfl hu) (pc_y x1 y1 z1) ?_
  refine fG rfl 73 (.tmp 54) #[.tmp 56,.tmp 58] #[27,27] rfl #[.pointer (some ⟨f,0,none⟩)] #[.agg (nc x1),.agg (nc y1)] (by kernel_rfl) (by kernel_rfl) (fun u=>cE _ _ _ _ u Tryz.func73 (by kernel_rfl) (by kernel_rfl)) (.agg (nc k3)) (fun u hu=>by have hcc:=field_add f cu.p d x1 y1 u (Hx1.out) (Hy1.out) (HF.out.up (gT _ _ _ D167.out.1 hu)); rw [← E3.out] at hcc; exact hcc) ?_
  refine gK (.func (.func 73) #[.pointer (some ⟨f,0,none⟩)] #[]) ?_
  refine gK (.pointer (some ⟨g+1,0,none⟩)) ?_
  refine lN rfl (.tmp 61) rfl (g+1) 0 (by kernel_rfl) x2 (fun u hu=>D167.out.up 1 rfl hu) (pc_x x2 y2 z2) ?_
  refine gK (.pointer (some ⟨g+1,9,none⟩)) ?_
  refine lN rfl (.tmp 63) rfl (g+1) 9 (by kernel_rfl) y2 (fun u hu=>D167.out.up 1 rfl hu) (pc_y x2 y2 z2) ?_
  refine fG rfl 73 (.tmp 60) #[.tmp 62,.tmp 64] #[27,27] rfl #[.pointer (some ⟨f,0,none⟩)] #[.agg (nc x2),.agg (nc y2)] (by kernel_rfl) (by kernel_rfl) (fun u=>cE _ _ _ _ u Tryz.func73 (by kernel_rfl) (by kernel_rfl)) (.agg (nc k4)) (fun u hu=>by have hcc:=field_add f cu.p d x2 y2 u (Hx2.out) (Hy2.out) (HF.out.up (gT _ _ _ D167.out.1 hu)); rw [← E4.out] at hcc; exact hcc) ?_
  refine fG rfl 89 (.tmp 53) #[.tmp 59,.tmp 65] #[27,27] rfl #[.pointer (some ⟨f,0,none⟩)] #[.agg (nc k3),.agg (nc k4)] (by kernel_rfl) (by kernel_rfl) (fun u=>cE _ _ _ _ u Tryz.func89 (by kernel_rfl) (by kernel_rfl)) (.agg (nc k5)) (fun u hu=>by have hcc:=field_mul f cu.p d k3 k4 u (L3.out) (L4.out) (HF.out.up (gT _ _ _ D167.out.1 hu)); rw [← E5.out] at hcc; exact hcc) ?_
  refine gK (.func (.func 73) #[.pointer (some ⟨f,0,none⟩)] #[]) ?_
  refine lG rfl (.tmp 10) rfl x5 (by kernel_rfl) (fun u hu=>D167.out.up 3 rfl hu) ?_
  refine lG rfl (.tmp 11) rfl x6 (by kernel_rfl) (fun u hu=>D167.out.up 4 rfl hu) ?_
  refine fG rfl 73 (.tmp 67) #[.tmp 68,.tmp 69] #[27,27] rfl #[.pointer (some ⟨f,0,none⟩)] #[.agg (nc k0),.agg (nc k1)] (by kernel_rfl) (by kernel_rfl) (fun u=>cE _ _ _ _ u Tryz.func73 (by kernel_rfl) (by kernel_rfl)) (.agg (nc k6)) (fun u hu=>by have hcc:=field_add f cu.p d k0 k1 u (L0.out) (L1.out) (HF.out.up (gT _ _ _ D167.out.1 hu)); rw [← E6.out] at hcc; exact hcc) ?_
  refine fG rfl 117 (.tmp 52) #[.tmp 66,.tmp 70] #[27,27] rfl #[.pointer (some ⟨f,0,none⟩)] #[.agg (nc k5),.agg (nc k6)] (by kernel_rfl) (by kernel_rfl) (fun u=>cE _ _ _ _ u Tryz.func117 (by kernel_rfl) (by kernel_rfl)) (.agg (nc k7)) (fun u hu=>by have hcc:=field_sub f cu.p d k5 k6 u (L5.out) (L6.out) (HF.out.up (gT _ _ _ D167.out.1 hu)); rw [← E7.out] at hcc; exact hcc) ?_
  refine gN ?_
  try simp only [Act.put,s_,t_,u_,v_,x_,y_]
  refine grow_alloc (i:=20) (f:=1) (by kernel_rfl) (by decide) rfl rfl 27 rfl (.agg (nc 0)) (by rw [nZ]; kernel_rfl) ?_
  intro x168 v169 hx hx2 hgv hh
  have Nv169:=Hd (D167.out.new hgv hx hh)
  have Nv169:Hid (Mem w v169 [(g,pc x1 y1 z1,111),(g+1,pc x2 y2 z2,111),(g+1+1,pc 0 0 0,111),(x5,nc k0,27),(x6,nc k1,27),(x7,nc k2,27),(x168,nc 0,27)]):=Nv169
  clear hgv hx hx2 hh D167
  try simp only [Act.put,s_,t_,u_,v_,x_,y_]
  refine gS (rs:=[21]) (by kernel_rfl) (by decide) (fun w170 hg6=>?_)
  have Nw170:=Hd (Nv169.out.grow hg6)
  clear hg6 Nv169
  refine wpAny_ready (rs:=[21]) (by kernel_rfl) (by simp) ?_
  refine AllReady.cons rfl (fun K hK=>?_) AllReady.nil
  refine sK rfl 27 (.tmp 13) (.tmp 71) rfl x168 rfl _ _ _ rfl (Nw170.out.at 6 rfl) (by rw [nS]; kernel_rfl) (by rw [nS,nS]) (nO _) (fun w171 hw hb hs=>hK _ _ ?_)
  have Nw171:=Hd (Nw170.out.store 6 rfl hb hs hw)
  clear hK hw hb hs Nw170
  try simp only [Act.put,s_,t_,u_,v_,x_,y_]
  refine wpAny_done (by kernel_rfl) ?_ _
  try simp only [Act.put,s_,t_,u_,v_,x_,y_]
  -- region 4
  go_upto_region 4 with (fail)
  have D172:=Hd (Nw171.out.drew)
  clear Nw171
  refine rGw 20 21 (by kernel_rfl) (by kernel_rfl) (fun d v c a w h=>by cases d <;> exact h) ?_
  simp only [List.take_succ_cons,List.take_zero]
  refine gK (.func (.func 117) #[.pointer (some ⟨f,0,none⟩)] #[]) ?_
  refine gK (.func (.func 89) #[.pointer (some ⟨f,0,none⟩)] #[]) ?_
  refine gK (.func (.func 73) #[.pointer (some ⟨f,0,none⟩)] #[]) ?_
  refine gK (.pointer (some ⟨g,0,none⟩)) ?_
  refine lN rfl (.tmp 75) rfl g 0 (by kernel_rfl) x1 (fun u hu=>D172.out.up 0 rfl hu) (pc_x x1 y1 z1) ?_
  refine gK (.pointer (some ⟨g,18,none⟩)) ?_
  refine lN rfl (.tmp 77) rfl g 18 (by kernel_rfl) z1 (fun u hu=>D172.out.up 0 rfl hu) (pc_z x1 y1 z1) ?_
  refine fG rfl 73 (.tmp 74) #[.tmp 76,.tmp 78] #[27,27] rfl #[.pointer (some ⟨f,0,none⟩)] #[.agg (nc x1),.agg (nc z1)] (by kernel_rfl) (by kernel_rfl) (fun u=>cE _ _ _ _ u Tryz.func73 (by kernel_rfl) (by kernel_rfl)) (.agg (nc k8)) (fun u hu=>by have hcc:=field_add f cu.p d x1 z1 u (Hx1.out) (Hz1.out) (HF.out.up (gT _ _ _ D172.out.1 hu)); rw [← E8.out] at hcc; exact hcc) ?_
  refine gK (.func (.func 73) #[.pointer (some ⟨f,0,none⟩)] #[]) ?_
  refine gK (.pointer (some ⟨g+1,0,none⟩)) ?_
  refine lN rfl (.tmp 81) rfl (g+1) 0 (by kernel_rfl) x2 (fun u hu=>D172.out.up 1 rfl hu) (pc_x x2 y2 z2) ?_
  refine gK (.pointer (some ⟨g+1,18,none⟩)) ?_
  refine lN rfl (.tmp 83) rfl (g+1) 18 (by kernel_rfl) z2 (fun u hu=>D172.out.up 1 rfl hu) (pc_z x2 y2 z2) ?_
  refine fG rfl 73 (.tmp 80) #[.tmp 82,.tmp 84] #[27,27] rfl #[.pointer (some ⟨f,0,none⟩)] #[.agg (nc x2),.agg (nc z2)] (by kernel_rfl) (by kernel_rfl) (fun u=>cE _ _ _ _ u Tryz.func73 (by kernel_rfl) (by kernel_rfl)) (.agg (nc k9)) (fun u hu=>by have hcc:=field_add f cu.p d x2 z2 u (Hx2.out) (Hz2.out) (HF.out.up (gT _ _ _ D172.out.1 hu)); rw [← E9.out] at hcc; exact hcc) ?_
  refine fG rfl 89 (.tmp 73) #[.tmp 79,.tmp 85] #[27,27] rfl #[.pointer (some ⟨f,0,none⟩)] #[.agg (nc k8),.agg (nc k9)] (by kernel_rfl) (by kernel_rfl) (fun u=>cE _ _ _ _ u Tryz.func89 (by kernel_rfl) (by kernel_rfl)) (.agg (nc k10)) (fun u hu=>by have hcc:=field_mul f cu.p d k8 k9 u (L8.out) (L9.out) (HF.out.up (gT _ _ _ D172.out.1 hu)); rw [← E10.out] at hcc; exact hcc) ?_
  refine gK (.func (.func 73) #[.pointer (some ⟨f,0,none⟩)] #[]) ?_
  refine lG rfl (.tmp 10) rfl x5 (by kernel_rfl) (fun u hu=>D172.out.up 3 rfl hu) ?_
  refine lG rfl (.tmp 12) rfl x7 (by kernel_rfl) (fun u hu=>D172.out.up 5 rfl hu) ?_
  refine fG rfl 73 (.tmp 87) #[.tmp 88,.tmp 89] #[27,27] rfl #[.pointer (some ⟨f,0,none⟩)] #[.agg (nc k0),.agg (nc k2)] (by kernel_rfl) (by kernel_rfl) (fun u=>cE _ _ _ _ u Tryz.func73 (by kernel_rfl) (by kernel_rfl)) (.agg (nc k11)) (fun u hu=>by have hcc:=field_add f cu.p d k0 k2 u (L0.out) (L2.out) (HF.out.up (gT _ _ _ D172.out.1 hu)); rw [← E11.out] at hcc; exact hcc) ?_
  refine fG rfl 117 (.tmp 72) #[.tmp 86,.tmp 90] #[27,27] rfl #[.pointer (some ⟨f,0,none⟩)] #[.agg (nc k10),.agg (nc k11)] (by kernel_rfl) (by kernel_rfl) (fun u=>cE _ _ _ _ u Tryz.func117 (by kernel_rfl) (by kernel_rfl)) (.agg (nc k12)) (fun u hu=>by have hcc:=field_sub f cu.p d k10 k11 u (L10.out) (L11.out) (HF.out.up (gT _ _ _ D172.out.1 hu)); rw [← E12.out] at hcc; exact hcc) ?_
  refine gN ?_
  try simp only [Act.put,s_,t_,u_,v_,x_,y_]
  refine grow_alloc (i:=20) (f:=1) (by kernel_rfl) (by decide) rfl rfl 27 rfl (.agg (nc 0)) (by rw [nZ]; kernel_rfl) ?_
  intro x173 v174 hx hx2 hgv hh
  have Nv174:=Hd (D172.out.new hgv hx hh)
  have Nv174:Hid (Mem w v174 [(g,pc x1 y1 z1,111),(g+1,pc x2 y2 z2,111),(g+1+1,pc 0 0 0,111),(x5,nc k0,27),(x6,nc k1,27),(x7,nc k2,27),(x168,nc k7,27),(x173,nc 0,27)]):=Nv174
  clear hgv hx hx2 hh D172
  try simp only [Act.put,s_,t_,u_,v_,x_,y_]
  refine gS (rs:=[21]) (by kernel_rfl) (by decide) (fun w175 hg6=>?_)
  have Nw175:=Hd (Nv174.out.grow hg6)
  clear hg6 Nv174
  refine wpAny_ready (rs:=[21]) (by kernel_rfl) (by simp) ?_
  refine AllReady.cons rfl (fun K hK=>?_) AllReady.nil
  refine sK rfl 27 (.tmp 14) (.tmp 91) rfl x173 rfl _ _ _ rfl (Nw175.out.at 7 rfl) (by rw [nS]; kernel_rfl) (by rw [nS,nS]) (nO _) (fun w176 hw hb hs=>hK _ _ ?_)
  have Nw176:=Hd (Nw175.out.store 7 rfl hb hs hw)
  clear hK hw hb hs Nw175
  try simp only [Act.put,s_,t_,u_,v_,x_,y_]
  refine wpAny_done (by kernel_rfl) ?_ _
  try simp only [Act.put,s_,t_,u_,v_,x_,y_]
  -- region 5
  go_upto_region 5 with (fail)
  have D177:=Hd (Nw176.out.drew)
  clear Nw176
  refine rGw 20 21 (by kernel_rfl) (by kernel_rfl) (fun d v c a w h=>by cases d <;> exact h) ?_
  simp only [List.take_succ_cons,List.take_zero]
  refine gK (.func (.func 117) #[.pointer (some ⟨f,0,none⟩)] #[]) ?_
  refine gK (.func (.func 89) #[.pointer (some ⟨f,0,none⟩)] #[]) ?_
  refine gK (.func (.func 73) #[.pointer (some ⟨f,0,none⟩)] #[]) ?_
  refine gK (.pointer (some ⟨g,9,none⟩)) ?_
  refine lN rfl (.tmp 95) rfl g 9 (by kernel_rfl) y1 (fun u hu=>D177.out.up 0 rfl hu) (pc_y x1 y1 z1) ?_
  refine gK (.pointer (some ⟨g,18,none⟩)) ?_
  refine lN rfl (.tmp 97) rfl g 18 (by kernel_rfl) z1 (fun u hu=>D177.out.up 0 rfl hu) (pc_z x1 y1 z1) ?_
  refine fG rfl 73 (.tmp 94) #[.tmp 96,.tmp 98] #[27,27] rfl #[.pointer (some ⟨f,0,none⟩)] #[.agg (nc y1),.agg (nc z1)] (by kernel_rfl) (by kernel_rfl) (fun u=>cE _ _ _ _ u Tryz.func73 (by kernel_rfl) (by kernel_rfl)) (.agg (nc k13)) (fun u hu=>by have hcc:=field_add f cu.p d y1 z1 u (Hy1.out) (Hz1.out) (HF.out.up (gT _ _ _ D177.out.1 hu)); rw [← E13.out] at hcc; exact hcc) ?_
  refine gK (.func (.func 73) #[.pointer (some ⟨f,0,none⟩)] #[]) ?_
  refine gK (.pointer (some ⟨g+1,9,none⟩)) ?_
  refine lN rfl (.tmp 101) rfl (g+1) 9 (by kernel_rfl) y2 (fun u hu=>D177.out.up 1 rfl hu) (pc_y x2 y2 z2) ?_
  refine gK (.pointer (some ⟨g+1,18,none⟩)) ?_
  refine lN rfl (.tmp 103) rfl (g+1) 18 (by kernel_rfl) z2 (fun u hu=>D177.out.up 1 rfl hu) (pc_z x2 y2 z2) ?_
  refine fG rfl 73 (.tmp 100) #[.tmp 102,.tmp 104] #[27,27] rfl #[.pointer (some ⟨f,0,none⟩)] #[.agg (nc y2),.agg (nc z2)] (by kernel_rfl) (by kernel_rfl) (fun u=>cE _ _ _ _ u Tryz.func73 (by kernel_rfl) (by kernel_rfl)) (.agg (nc k14)) (fun u hu=>by have hcc:=field_add f cu.p d y2 z2 u (Hy2.out) (Hz2.out) (HF.out.up (gT _ _ _ D177.out.1 hu)); rw [← E14.out] at hcc; exact hcc) ?_
  refine fG rfl 89 (.tmp 93) #[.tmp 99,.tmp 105] #[27,27] rfl #[.pointer (some ⟨f,0,none⟩)] #[.agg (nc k13),.agg (nc k14)] (by kernel_rfl) (by kernel_rfl) (fun u=>cE _ _ _ _ u Tryz.func89 (by kernel_rfl) (by kernel_rfl)) (.agg (nc k15)) (fun u hu=>by have hcc:=field_mul f cu.p d k13 k14 u (L13.out) (L14.out) (HF.out.up (gT _ _ _ D177.out.1 hu)); rw [← E15.out] at hcc; exact hcc) ?_
  refine gK (.func (.func 73) #[.pointer (some ⟨f,0,none⟩)] #[]) ?_
  refine lG rfl (.tmp 11) rfl x6 (by kernel_rfl) (fun u hu=>D177.out.up 4 rfl hu) ?_
  refine lG rfl (.tmp 12) rfl x7 (by kernel_rfl) (fun u hu=>D177.out.up 5 rfl hu) ?_
  refine fG rfl 73 (.tmp 107) #[.tmp 108,.tmp 109] #[27,27] rfl #[.pointer (some ⟨f,0,none⟩)] #[.agg (nc k1),.agg (nc k2)] (by kernel_rfl) (by kernel_rfl) (fun u=>cE _ _ _ _ u Tryz.func73 (by kernel_rfl) (by kernel_rfl)) (.agg (nc k16)) (fun u hu=>by have hcc:=field_add f cu.p d k1 k2 u (L1.out) (L2.out) (HF.out.up (gT _ _ _ D177.out.1 hu)); rw [← E16.out] at hcc; exact hcc) ?_
  refine fG rfl 117 (.tmp 92) #[.tmp 106,.tmp 110] #[27,27] rfl #[.pointer (some ⟨f,0,none⟩)] #[.agg (nc k15),.agg (nc k16)] (by kernel_rfl) (by kernel_rfl) (fun u=>cE _ _ _ _ u Tryz.func117 (by kernel_rfl) (by kernel_rfl)) (.agg (nc k17)) (fun u hu=>by have hcc:=field_sub f cu.p d k15 k16 u (L15.out) (L16.out) (HF.out.up (gT _ _ _ D177.out.1 hu)); rw [← E17.out] at hcc; exact hcc) ?_
  refine gN ?_
  try simp only [Act.put,s_,t_,u_,v_,x_,y_]
  refine grow_alloc (i:=20) (f:=1) (by kernel_rfl) (by decide) rfl rfl 27 rfl (.agg (nc 0)) (by rw [nZ]; kernel_rfl) ?_
  intro x178 v179 hx hx2 hgv hh
  have Nv179:=Hd (D177.out.new hgv hx hh)
  have Nv179:Hid (Mem w v179 [(g,pc x1 y1 z1,111),(g+1,pc x2 y2 z2,111),(g+1+1,pc 0 0 0,111),(x5,nc k0,27),(x6,nc k1,27),(x7,nc k2,27),(x168,nc k7,27),(x173,nc k12,27),(x178,nc 0,27)]):=Nv179
  clear hgv hx hx2 hh D177
  try simp only [Act.put,s_,t_,u_,v_,x_,y_]
  refine gS (rs:=[21]) (by kernel_rfl) (by decide) (fun w180 hg6=>?_)
  have Nw180:=Hd (Nv179.out.grow hg6)
  clear hg6 Nv179
  refine wpAny_ready (rs:=[21]) (by kernel_rfl) (by simp) ?_
  refine AllReady.cons rfl (fun K hK=>?_) AllReady.nil
  refine sK rfl 27 (.tmp 15) (.tmp 111) rfl x178 rfl _ _ _ rfl (Nw180.out.at 8 rfl) (by rw [nS]; kernel_rfl) (by rw [nS,nS]) (nO _) (fun w181 hw hb hs=>hK _ _ ?_)
  have Nw181:=Hd (Nw180.out.store 8 rfl hb hs hw)
  clear hK hw hb hs Nw180
  try simp only [Act.put,s_,t_,u_,v_,x_,y_]
  refine wpAny_done (by kernel_rfl) ?_ _
  try simp only [Act.put,s_,t_,u_,v_,x_,y_]
  -- region 6
  go_upto_region 6 with (fail)
  have D182:=Hd (Nw181.out.drew)
  clear Nw181
  refine rGw 17 18 (by kernel_rfl) (by kernel_rfl) (fun d v c a w h=>by cases d <;> exact h) ?_
  simp only [List.take_succ_cons,List.take_zero]
  refine gK (.func (.func 73) #[.pointer (some ⟨f,0,none⟩)] #[]) ?_
  refine gK (.func (.func 89) #[.pointer (some ⟨f,0,none⟩)] #[]) ?_
  refine gK (.pointer (some ⟨c,0,none⟩)) ?_
  refine gK (.pointer (some ⟨c,0,none⟩)) ?_
  refine gK (.pointer (some ⟨c,60,none⟩)) ?_
  refine lN rfl (.tmp 116) rfl c 60 (by kernel_rfl) cu.b3 (fun u hu=>grows_at HCB.out (gT _ _ _ D182.out.1 hu)) (cuc_b3 cu f) ?_
  refine lG rfl (.tmp 12) rfl x7 (by kernel_rfl) (fun u hu=>D182.out.up 5 rfl hu) ?_
  refine fG rfl 89 (.tmp 113) #[.tmp 117,.tmp 118] #[27,27] rfl #[.pointer (some ⟨f,0,none⟩)] #[.agg (nc cu.b3),.agg (nc k2)] (by kernel_rfl) (by kernel_rfl) (fun u=>cE _ _ _ _ u Tryz.func89 (by kernel_rfl) (by kernel_rfl)) (.agg (nc k18)) (fun u hu=>by have hcc:=field_mul f cu.p d cu.b3 k2 u (b3_lt HK.out) (L2.out) (HF.out.up (gT _ _ _ D182.out.1 hu)); rw [← E18.out] at hcc; exact hcc) ?_
  refine gK (.func (.func 89) #[.pointer (some ⟨f,0,none⟩)] #[]) ?_
  refine gK (.pointer (some ⟨c,0,none⟩)) ?_
  refine gK (.pointer (some ⟨c,0,none⟩)) ?_
  refine gK (.pointer (some ⟨c,0,none⟩)) ?_
  refine gK (.pointer (some ⟨c,10,none⟩)) ?_
  refine lN rfl (.tmp 124) rfl c 10 (by kernel_rfl) cu.a (fun u hu=>grows_at HCB.out (gT _ _ _ D182.out.1 hu)) (cuc_a cu f) ?_
  refine lG rfl (.tmp 14) rfl x173 (by kernel_rfl) (fun u hu=>D182.out.up 7 rfl hu) ?_
  refine fG rfl 89 (.tmp 120) #[.tmp 125,.tmp 126] #[27,27] rfl #[.pointer (some ⟨f,0,none⟩)] #[.agg (nc cu.a),.agg (nc k12)] (by kernel_rfl) (by kernel_rfl) (fun u=>cE _ _ _ _ u Tryz.func89 (by kernel_rfl) (by kernel_rfl)) (.agg (nc k19)) (fun u hu=>by have hcc:=field_mul f cu.p d cu.a k12 u (HK.out.2.1) (L12.out) (HF.out.up (gT _ _ _ D182.out.1 hu)); rw [← E19.out] at hcc; exact hcc) ?_
  refine fG rfl 73 (.tmp 112) #[.tmp 119,.tmp 127] #[27,27] rfl #[.pointer (some ⟨f,0,none⟩)] #[.agg (nc k18),.agg (nc k19)] (by kernel_rfl) (by kernel_rfl) (fun u=>cE _ _ _ _ u Tryz.func73 (by kernel_rfl) (by kernel_rfl)) (.agg (nc k20)) (fun u hu=>by have hcc:=field_add f cu.p d k18 k19 u (L18.out) (L19.out) (HF.out.up (gT _ _ _ D182.out.1 hu)); rw [← E20.out] at hcc; exact hcc) ?_
  refine gN ?_
  try simp only [Act.put,s_,t_,u_,v_,x_,y_]
  refine grow_alloc (i:=17) (f:=1) (by kernel_rfl) (by decide) rfl rfl 27 rfl (.agg (nc 0)) (by rw [nZ]; kernel_rfl) ?_
  intro x183 v184 hx hx2 hgv hh
  have Nv184:=Hd (D182.out.new hgv hx hh)
  have Nv184:Hid (Mem w v184 [(g,pc x1 y1 z1,111),(g+1,pc x2 y2 z2,111),(g+1+1,pc 0 0 0,111),(x5,nc k0,27),(x6,nc k1,27),(x7,nc k2,27),(x168,nc k7,27),(x173,nc k12,27),(x178,nc k17,27),(x183,nc 0,27)]):=Nv184
  clear hgv hx hx2 hh D182
  try simp only [Act.put,s_,t_,u_,v_,x_,y_]
  refine gS (rs:=[18]) (by kernel_rfl) (by decide) (fun w185 hg6=>?_)
  have Nw185:=Hd (Nv184.out.grow hg6)
  clear hg6 Nv184
  refine wpAny_ready (rs:=[18]) (by kernel_rfl) (by simp) ?_
  refine AllReady.cons rfl (fun K hK=>?_) AllReady.nil
  refine sK rfl 27 (.tmp 16) (.tmp 128) rfl x183 rfl _ _ _ rfl (Nw185.out.at 9 rfl) (by rw [nS]; kernel_rfl) (by rw [nS,nS]) (nO _) (fun w186 hw hb hs=>hK _ _ ?_)
  have Nw186:=Hd (Nw185.out.store 9 rfl hb hs hw)
  clear hK hw hb hs Nw185
  try simp only [Act.put,s_,t_,u_,v_,x_,y_]
  refine wpAny_done (by kernel_rfl) ?_ _
  try simp only [Act.put,s_,t_,u_,v_,x_,y_]
  -- region 7
  go_upto_region 7 with (fail)
  refine wp_region_lit ?_
  refine pK (.func (.func 117) #[.pointer (some ⟨f,0,none⟩)] #[]) ?_
  refine l0N rfl (.tmp 11) rfl x6 (by kernel_rfl) (Nw186.out.at 4 rfl) ?_
  refine l0N rfl (.tmp 16) rfl x183 (by kernel_rfl) (Nw186.out.at 9 rfl) ?_
  have hcc:=field_sub f cu.p d k1 k20 w186 (L1.out) (L20.out) (HF.out.up Nw186.out.1); rw [← E21.out] at hcc
  refine fL rfl 117 (.tmp 129) #[.tmp 130,.tmp 131] #[27,27] rfl #[.pointer (some ⟨f,0,none⟩)] #[.agg (nc k1),.agg (nc k20)] (by kernel_rfl) (by kernel_rfl) (fun u=>cE _ _ _ _ u Tryz.func117 (by kernel_rfl) (by kernel_rfl)) (.agg (nc k21)) (hcc) (fun w187 hb=>?_)
  have Nw187:=Hd (Nw186.out.grow hb)
  clear hb Nw186 hcc
  refine nL rfl 27 rfl (.agg (nc 0)) (by rw [nZ]; kernel_rfl) ?_
  intro x188 w189 hx hx2 hgv hh
  have Nw189:=Hd (show Mem w w189 [(g,pc x1 y1 z1,111),(g+1,pc x2 y2 z2,111),(g+1+1,pc 0 0 0,111),(x5,nc k0,27),(x6,nc k1,27),(x7,nc k2,27),(x168,nc k7,27),(x173,nc k12,27),(x178,nc k17,27),(x183,nc k20,27),(x188,nc 0,27)] from Nw187.out.new hgv (Nat.le_of_eq hx) hh)
  clear hx hx2 hgv hh Nw187
  refine sB rfl 27 (.tmp 17) (.tmp 132) rfl x188 (by kernel_rfl) _ _ (nc k21) (by kernel_rfl) (Nw189.out.at 10 rfl) (by rw [nS]; kernel_rfl) (by rw [nS,nS]) (nO _) ?_
  intro w190 hw hb hs
  have Nw190:=Hd (Nw189.out.store 10 rfl hb hs hw)
  clear hw hb hs Nw189
  refine wpList_nil ?_
  try simp only [Act.put,s_,t_,u_,v_,x_,y_]
  -- region 8
  go_upto_region 8 with (fail)
  refine wp_region_lit ?_
  refine pK (.func (.func 73) #[.pointer (some ⟨f,0,none⟩)] #[]) ?_
  refine l0N rfl (.tmp 11) rfl x6 (by kernel_rfl) (Nw190.out.at 4 rfl) ?_
  refine l0N rfl (.tmp 16) rfl x183 (by kernel_rfl) (Nw190.out.at 9 rfl) ?_
  have hcc:=field_add f cu.p d k1 k20 w190 (L1.out) (L20.out) (HF.out.up Nw190.out.1); rw [← E22.out] at hcc
  refine fL rfl 73 (.tmp 133) #[.tmp 134,.tmp 135] #[27,27] rfl #[.pointer (some ⟨f,0,none⟩)] #[.agg (nc k1),.agg (nc k20)] (by kernel_rfl) (by kernel_rfl) (fun u=>cE _ _ _ _ u Tryz.func73 (by kernel_rfl) (by kernel_rfl)) (.agg (nc k22)) (hcc) (fun w191 hb=>?_)
  have Nw191:=Hd (Nw190.out.grow hb)
  clear hb Nw190 hcc
  refine sB rfl 27 (.tmp 16) (.tmp 136) rfl x183 (by kernel_rfl) _ _ (nc k22) (by kernel_rfl) (Nw191.out.at 9 rfl) (by rw [nS]; kernel_rfl) (by rw [nS,nS]) (nO _) ?_
  intro w192 hw hb hs
  have Nw192:=Hd (Nw191.out.store 9 rfl hb hs hw)
  clear hw hb hs Nw191
  refine wpList_nil ?_
  try simp only [Act.put,s_,t_,u_,v_,x_,y_]
  -- region 9
  go_upto_region 9 with (fail)
  refine wp_region_lit ?_
  refine pK (.func (.func 89) #[.pointer (some ⟨f,0,none⟩)] #[]) ?_
  refine l0N rfl (.tmp 17) rfl x188 (by kernel_rfl) (Nw192.out.at 10 rfl) ?_
  refine l0N rfl (.tmp 16) rfl x183 (by kernel_rfl) (Nw192.out.at 9 rfl) ?_
  have hcc:=field_mul f cu.p d k21 k22 w192 (L21.out) (L22.out) (HF.out.up Nw192.out.1); rw [← E23.out] at hcc
  refine fL rfl 89 (.tmp 137) #[.tmp 138,.tmp 139] #[27,27] rfl #[.pointer (some ⟨f,0,none⟩)] #[.agg (nc k21),.agg (nc k22)] (by kernel_rfl) (by kernel_rfl) (fun u=>cE _ _ _ _ u Tryz.func89 (by kernel_rfl) (by kernel_rfl)) (.agg (nc k23)) (hcc) (fun w193 hb=>?_)
  have Nw193:=Hd (Nw192.out.grow hb)
  clear hb Nw192 hcc
  refine nL rfl 27 rfl (.agg (nc 0)) (by rw [nZ]; kernel_rfl) ?_
  intro x194 w195 hx hx2 hgv hh
  have Nw195:=Hd (show Mem w w195 [(g,pc x1 y1 z1,111),(g+1,pc x2 y2 z2,111),(g+1+1,pc 0 0 0,111),(x5,nc k0,27),(x6,nc k1,27),(x7,nc k2,27),(x168,nc k7,27),(x173,nc k12,27),(x178,nc k17,27),(x183,nc k22,27),(x188,nc k21,27),(x194,nc 0,27)] from Nw193.out.new hgv (Nat.le_of_eq hx) hh)
  clear hx hx2 hgv hh Nw193
  refine sB rfl 27 (.tmp 18) (.tmp 140) rfl x194 (by kernel_rfl) _ _ (nc k23) (by kernel_rfl) (Nw195.out.at 11 rfl) (by rw [nS]; kernel_rfl) (by rw [nS,nS]) (nO _) ?_
  intro w196 hw hb hs
  have Nw196:=Hd (Nw195.out.store 11 rfl hb hs hw)
  clear hw hb hs Nw195
  refine wpList_nil ?_
  try simp only [Act.put,s_,t_,u_,v_,x_,y_]
  -- region 10
  go_upto_region 10 with (fail)
  have D197:=Hd (Nw196.out.drew)
  clear Nw196
  refine rGw 7 7 (by kernel_rfl) (by kernel_rfl) (fun d v c a w h=>by cases d <;> exact h) ?_
  simp only [List.take_succ_cons,List.take_zero]
  refine gK (.func (.func 73) #[.pointer (some ⟨f,0,none⟩)] #[]) ?_
  refine gK (.func (.func 73) #[.pointer (some ⟨f,0,none⟩)] #[]) ?_
  refine lG rfl (.tmp 10) rfl x5 (by kernel_rfl) (fun u hu=>D197.out.up 3 rfl hu) ?_
  refine lG rfl (.tmp 10) rfl x5 (by kernel_rfl) (fun u hu=>D197.out.up 3 rfl hu) ?_
  refine fG rfl 73 (.tmp 142) #[.tmp 143,.tmp 144] #[27,27] rfl #[.pointer (some ⟨f,0,none⟩)] #[.agg (nc k0),.agg (nc k0)] (by kernel_rfl) (by kernel_rfl) (fun u=>cE _ _ _ _ u Tryz.func73 (by kernel_rfl) (by kernel_rfl)) (.agg (nc k24)) (fun u hu=>by have hcc:=field_add f cu.p d k0 k0 u (L0.out) (L0.out) (HF.out.up (gT _ _ _ D197.out.1 hu)); rw [← E24.out] at hcc; exact hcc) ?_
  refine lG rfl (.tmp 10) rfl x5 (by kernel_rfl) (fun u hu=>D197.out.up 3 rfl hu) ?_
  refine fG rfl 73 (.tmp 141) #[.tmp 145,.tmp 146] #[27,27] rfl #[.pointer (some ⟨f,0,none⟩)] #[.agg (nc k24),.agg (nc k0)] (by kernel_rfl) (by kernel_rfl) (fun u=>cE _ _ _ _ u Tryz.func73 (by kernel_rfl) (by kernel_rfl)) (.agg (nc k25)) (fun u hu=>by have hcc:=field_add f cu.p d k24 k0 u (L24.out) (L0.out) (HF.out.up (gT _ _ _ D197.out.1 hu)); rw [← E25.out] at hcc; exact hcc) ?_
  refine gN ?_
  try simp only [Act.put,s_,t_,u_,v_,x_,y_]
  refine gS (rs:=[7]) (by kernel_rfl) (by decide) (fun w198 hg6=>?_)
  have Nw198:=Hd (D197.out.grow hg6)
  clear hg6 D197
  refine wpAny_ready (rs:=[7]) (by kernel_rfl) (by simp) ?_
  refine AllReady.cons rfl (fun K hK=>?_) AllReady.nil
  refine sK rfl 27 (.tmp 11) (.tmp 147) rfl x6 rfl _ _ _ rfl (Nw198.out.at 4 rfl) (by rw [nS]; kernel_rfl) (by rw [nS,nS]) (nO _) (fun w199 hw hb hs=>hK _ _ ?_)
  have Nw199:=Hd (Nw198.out.store 4 rfl hb hs hw)
  clear hK hw hb hs Nw198
  try simp only [Act.put,s_,t_,u_,v_,x_,y_]
  refine wpAny_done (by kernel_rfl) ?_ _
  try simp only [Act.put,s_,t_,u_,v_,x_,y_]
  -- region 11
  go_upto_region 11 with (fail)
  have D200:=Hd (Nw199.out.drew)
  clear Nw199
  refine rGw 8 8 (by kernel_rfl) (by kernel_rfl) (fun d v c a w h=>by cases d <;> exact h) ?_
  simp only [List.take_succ_cons,List.take_zero]
  refine gK (.func (.func 89) #[.pointer (some ⟨f,0,none⟩)] #[]) ?_
  refine gK (.pointer (some ⟨c,0,none⟩)) ?_
  refine gK (.pointer (some ⟨c,0,none⟩)) ?_
  refine gK (.pointer (some ⟨c,0,none⟩)) ?_
  refine gK (.pointer (some ⟨c,10,none⟩)) ?_
  refine lN rfl (.tmp 152) rfl c 10 (by kernel_rfl) cu.a (fun u hu=>grows_at HCB.out (gT _ _ _ D200.out.1 hu)) (cuc_a cu f) ?_
  refine lG rfl (.tmp 12) rfl x7 (by kernel_rfl) (fun u hu=>D200.out.up 5 rfl hu) ?_
  refine fG rfl 89 (.tmp 148) #[.tmp 153,.tmp 154] #[27,27] rfl #[.pointer (some ⟨f,0,none⟩)] #[.agg (nc cu.a),.agg (nc k2)] (by kernel_rfl) (by kernel_rfl) (fun u=>cE _ _ _ _ u Tryz.func89 (by kernel_rfl) (by kernel_rfl)) (.agg (nc k26)) (fun u hu=>by have hcc:=field_mul f cu.p d cu.a k2 u (HK.out.2.1) (L2.out) (HF.out.up (gT _ _ _ D200.out.1 hu)); rw [← E26.out] at hcc; exact hcc) ?_
  refine gN ?_
  try simp only [Act.put,s_,t_,u_,v_,x_,y_]
  refine gS (rs:=[8]) (by kernel_rfl) (by decide) (fun w201 hg6=>?_)
  have Nw201:=Hd (D200.out.grow hg6)
  clear hg6 D200
  refine wpAny_ready (rs:=[8]) (by kernel_rfl) (by simp) ?_
  refine AllReady.cons rfl (fun K hK=>?_) AllReady.nil
  refine sK rfl 27 (.tmp 12) (.tmp 155) rfl x7 rfl _ _ _ rfl (Nw201.out.at 5 rfl) (by rw [nS]; kernel_rfl) (by rw [nS,nS]) (nO _) (fun w202 hw hb hs=>hK _ _ ?_)
  have Nw202:=Hd (Nw201.out.store 5 rfl hb hs hw)
  clear hK hw hb hs Nw201
  try simp only [Act.put,s_,t_,u_,v_,x_,y_]
  refine wpAny_done (by kernel_rfl) ?_ _
  try simp only [Act.put,s_,t_,u_,v_,x_,y_]
  -- region 12
  go_upto_region 12 with (fail)
  have D203:=Hd (Nw202.out.drew)
  clear Nw202
  refine rGw 7 7 (by kernel_rfl) (by kernel_rfl) (fun d v c a w h=>by cases d <;> exact h) ?_
  simp only [List.take_succ_cons,List.take_zero]
  refine gK (.func (.func 89) #[.pointer (some ⟨f,0,none⟩)] #[]) ?_
  refine gK (.pointer (some ⟨c,0,none⟩)) ?_
  refine gK (.pointer (some ⟨c,0,none⟩)) ?_
  refine gK (.pointer (some ⟨c,60,none⟩)) ?_
  refine lN rfl (.tmp 159) rfl c 60 (by kernel_rfl) cu.b3 (fun u hu=>grows_at HCB.out (gT _ _ _ D203.out.1 hu)) (cuc_b3 cu f) ?_
  refine lG rfl (.tmp 14) rfl x173 (by kernel_rfl) (fun u hu=>D203.out.up 7 rfl hu) ?_
  refine fG rfl 89 (.tmp 156) #[.tmp 160,.tmp 161] #[27,27] rfl #[.pointer (some ⟨f,0,none⟩)] #[.agg (nc cu.b3),.agg (nc k12)] (by kernel_rfl) (by kernel_rfl) (fun u=>cE _ _ _ _ u Tryz.func89 (by kernel_rfl) (by kernel_rfl)) (.agg (nc k27)) (fun u hu=>by have hcc:=field_mul f cu.p d cu.b3 k12 u (b3_lt HK.out) (L12.out) (HF.out.up (gT _ _ _ D203.out.1 hu)); rw [← E27.out] at hcc; exact hcc) ?_
  refine gN ?_
  try simp only [Act.put,s_,t_,u_,v_,x_,y_]
  refine gS (rs:=[7]) (by kernel_rfl) (by decide) (fun w204 hg6=>?_)
  have Nw204:=Hd (D203.out.grow hg6)
  clear hg6 D203
  refine wpAny_ready (rs:=[7]) (by kernel_rfl) (by simp) ?_
  refine AllReady.cons rfl (fun K hK=>?_) AllReady.nil
  refine sK rfl 27 (.tmp 14) (.tmp 162) rfl x173 rfl _ _ _ rfl (Nw204.out.at 7 rfl) (by rw [nS]; kernel_rfl) (by rw [nS,nS]) (nO _) (fun w205 hw hb hs=>hK _ _ ?_)
  have Nw205:=Hd (Nw204.out.store 7 rfl hb hs hw)
  clear hK hw hb hs Nw204
  try simp only [Act.put,s_,t_,u_,v_,x_,y_]
  refine wpAny_done (by kernel_rfl) ?_ _
  try simp only [Act.put,s_,t_,u_,v_,x_,y_]
  -- region 13
  go_upto_region 13 with (fail)
  refine wp_region_lit ?_
  refine pK (.func (.func 73) #[.pointer (some ⟨f,0,none⟩)] #[]) ?_
  refine l0N rfl (.tmp 11) rfl x6 (by kernel_rfl) (Nw205.out.at 4 rfl) ?_
  refine l0N rfl (.tmp 12) rfl x7 (by kernel_rfl) (Nw205.out.at 5 rfl) ?_
  have hcc:=field_add f cu.p d k25 k26 w205 (L25.out) (L26.out) (HF.out.up Nw205.out.1); rw [← E28.out] at hcc
  refine fL rfl 73 (.tmp 163) #[.tmp 164,.tmp 165] #[27,27] rfl #[.pointer (some ⟨f,0,none⟩)] #[.agg (nc k25),.agg (nc k26)] (by kernel_rfl) (by kernel_rfl) (fun u=>cE _ _ _ _ u Tryz.func73 (by kernel_rfl) (by kernel_rfl)) (.agg (nc k28)) (hcc) (fun w206 hb=>?_)
  have Nw206:=Hd (Nw205.out.grow hb)
  clear hb Nw205 hcc
  refine sB rfl 27 (.tmp 11) (.tmp 166) rfl x6 (by kernel_rfl) _ _ (nc k28) (by kernel_rfl) (Nw206.out.at 4 rfl) (by rw [nS]; kernel_rfl) (by rw [nS,nS]) (nO _) ?_
  intro w207 hw hb hs
  have Nw207:=Hd (Nw206.out.store 4 rfl hb hs hw)
  clear hw hb hs Nw206
  refine wpList_nil ?_
  try simp only [Act.put,s_,t_,u_,v_,x_,y_]
  -- region 14
  go_upto_region 14 with (fail)
  have D208:=Hd (Nw207.out.drew)
  clear Nw207
  refine rGw 11 11 (by kernel_rfl) (by kernel_rfl) (fun d v c a w h=>by cases d <;> exact h) ?_
  simp only [List.take_succ_cons,List.take_zero]
  refine gK (.func (.func 89) #[.pointer (some ⟨f,0,none⟩)] #[]) ?_
  refine gK (.pointer (some ⟨c,0,none⟩)) ?_
  refine gK (.pointer (some ⟨c,0,none⟩)) ?_
  refine gK (.pointer (some ⟨c,0,none⟩)) ?_
  refine gK (.pointer (some ⟨c,10,none⟩)) ?_
  refine lN rfl (.tmp 171) rfl c 10 (by kernel_rfl) cu.a (fun u hu=>grows_at HCB.out (gT _ _ _ D208.out.1 hu)) (cuc_a cu f) ?_
  refine gK (.func (.func 117) #[.pointer (some ⟨f,0,none⟩)] #[]) ?_
  refine lG rfl (.tmp 10) rfl x5 (by kernel_rfl) (fun u hu=>D208.out.up 3 rfl hu) ?_
  refine lG rfl (.tmp 12) rfl x7 (by kernel_rfl) (fun u hu=>D208.out.up 5 rfl hu) ?_
  refine fG rfl 117 (.tmp 173) #[.tmp 174,.tmp 175] #[27,27] rfl #[.pointer (some ⟨f,0,none⟩)] #[.agg (nc k0),.agg (nc k26)] (by kernel_rfl) (by kernel_rfl) (fun u=>cE _ _ _ _ u Tryz.func117 (by kernel_rfl) (by kernel_rfl)) (.agg (nc k29)) (fun u hu=>by have hcc:=field_sub f cu.p d k0 k26 u (L0.out) (L26.out) (HF.out.up (gT _ _ _ D208.out.1 hu)); rw [← E29.out] at hcc; exact hcc) ?_
  refine fG rfl 89 (.tmp 167) #[.tmp 172,.tmp 176] #[27,27] rfl #[.pointer (some ⟨f,0,none⟩)] #[.agg (nc cu.a),.agg (nc k29)] (by kernel_rfl) (by kernel_rfl) (fun u=>cE _ _ _ _ u Tryz.func89 (by kernel_rfl) (by kernel_rfl)) (.agg (nc k30)) (fun u hu=>by have hcc:=field_mul f cu.p d cu.a k29 u (HK.out.2.1) (L29.out) (HF.out.up (gT _ _ _ D208.out.1 hu)); rw [← E30.out] at hcc; exact hcc) ?_
  refine gN ?_
  try simp only [Act.put,s_,t_,u_,v_,x_,y_]
  refine gS (rs:=[11]) (by kernel_rfl) (by decide) (fun w209 hg6=>?_)
  have Nw209:=Hd (D208.out.grow hg6)
  clear hg6 D208
  refine wpAny_ready (rs:=[11]) (by kernel_rfl) (by simp) ?_
  refine AllReady.cons rfl (fun K hK=>?_) AllReady.nil
  refine sK rfl 27 (.tmp 12) (.tmp 177) rfl x7 rfl _ _ _ rfl (Nw209.out.at 5 rfl) (by rw [nS]; kernel_rfl) (by rw [nS,nS]) (nO _) (fun w210 hw hb hs=>hK _ _ ?_)
  have Nw210:=Hd (Nw209.out.store 5 rfl hb hs hw)
  clear hK hw hb hs Nw209
  try simp only [Act.put,s_,t_,u_,v_,x_,y_]
  refine wpAny_done (by kernel_rfl) ?_ _
  try simp only [Act.put,s_,t_,u_,v_,x_,y_]
  go_upto_region 15 with (fail)
  refine wp_region_lit ?_
  refine pK (.func (.func 73) #[.pointer (some ⟨f,0,none⟩)] #[]) ?_
  refine l0N rfl (.tmp 14) rfl x173 (by kernel_rfl) (Nw210.out.at 7 rfl) ?_
  refine l0N rfl (.tmp 12) rfl x7 (by kernel_rfl) (Nw210.out.at 5 rfl) ?_
  have hcc:=field_add f cu.p d k27 k30 w210 (L27.out) (L30.out) (HF.out.up Nw210.out.1); rw [← E31.out] at hcc
  refine fL rfl 73 (.tmp 178) #[.tmp 179,.tmp 180] #[27,27] rfl #[.pointer (some ⟨f,0,none⟩)] #[.agg (nc k27),.agg (nc k30)] (by kernel_rfl) (by kernel_rfl) (fun u=>cE _ _ _ _ u Tryz.func73 (by kernel_rfl) (by kernel_rfl)) (.agg (nc k31)) (hcc) (fun w211 hb=>?_)
  have Nw211:=Hd (Nw210.out.grow hb)
  clear hb Nw210 hcc
  refine sB rfl 27 (.tmp 14) (.tmp 181) rfl x173 (by kernel_rfl) _ _ (nc k31) (by kernel_rfl) (Nw211.out.at 7 rfl) (by rw [nS]; kernel_rfl) (by rw [nS,nS]) (nO _) ?_
  intro w212 hw hb hs
  have Nw212:=Hd (Nw211.out.store 7 rfl hb hs hw)
  clear hw hb hs Nw211
  refine wpList_nil ?_
  try simp only [Act.put,s_,t_,u_,v_,x_,y_]
  -- region 16
  go_upto_region 16 with (fail)
  have D213:=Hd (Nw212.out.drew)
  clear Nw212
  refine rGw 7 7 (by kernel_rfl) (by kernel_rfl) (fun d v c a w h=>by cases d <;> exact h) ?_
  simp only [List.take_succ_cons,List.take_zero]
  refine gK (.func (.func 73) #[.pointer (some ⟨f,0,none⟩)] #[]) ?_
  refine lG rfl (.tmp 18) rfl x194 (by kernel_rfl) (fun u hu=>D213.out.up 11 rfl hu) ?_
  refine gK (.func (.func 89) #[.pointer (some ⟨f,0,none⟩)] #[]) ?_
  refine lG rfl (.tmp 11) rfl x6 (by kernel_rfl) (fun u hu=>D213.out.up 4 rfl hu) ?_
  refine lG rfl (.tmp 14) rfl x173 (by kernel_rfl) (fun u hu=>D213.out.up 7 rfl hu) ?_
  refine fG rfl 89 (.tmp 184) #[.tmp 185,.tmp 186] #[27,27] rfl #[.pointer (some ⟨f,0,none⟩)] #[.agg (nc k28),.agg (nc k31)] (by kernel_rfl) (by kernel_rfl) (fun u=>cE _ _ _ _ u Tryz.func89 (by kernel_rfl) (by kernel_rfl)) (.agg (nc k32)) (fun u hu=>by have hcc:=field_mul f cu.p d k28 k31 u (L28.out) (L31.out) (HF.out.up (gT _ _ _ D213.out.1 hu)); rw [← E32.out] at hcc; exact hcc) ?_
  refine fG rfl 73 (.tmp 182) #[.tmp 183,.tmp 187] #[27,27] rfl #[.pointer (some ⟨f,0,none⟩)] #[.agg (nc k23),.agg (nc k32)] (by kernel_rfl) (by kernel_rfl) (fun u=>cE _ _ _ _ u Tryz.func73 (by kernel_rfl) (by kernel_rfl)) (.agg (nc k33)) (fun u hu=>by have hcc:=field_add f cu.p d k23 k32 u (L23.out) (L32.out) (HF.out.up (gT _ _ _ D213.out.1 hu)); rw [← E33.out] at hcc; exact hcc) ?_
  refine gN ?_
  try simp only [Act.put,s_,t_,u_,v_,x_,y_]
  refine gS (rs:=[7]) (by kernel_rfl) (by decide) (fun w214 hg6=>?_)
  have Nw214:=Hd (D213.out.grow hg6)
  clear hg6 D213
  refine wpAny_ready (rs:=[7]) (by kernel_rfl) (by simp) ?_
  refine AllReady.cons rfl (fun K hK=>?_) AllReady.nil
  refine sK rfl 27 (.tmp 18) (.tmp 188) rfl x194 rfl _ _ _ rfl (Nw214.out.at 11 rfl) (by rw [nS]; kernel_rfl) (by rw [nS,nS]) (nO _) (fun w215 hw hb hs=>hK _ _ ?_)
  have Nw215:=Hd (Nw214.out.store 11 rfl hb hs hw)
  clear hK hw hb hs Nw214
  try simp only [Act.put,s_,t_,u_,v_,x_,y_]
  refine wpAny_done (by kernel_rfl) ?_ _
  try simp only [Act.put,s_,t_,u_,v_,x_,y_]
  -- region 17
  go_upto_region 17 with (fail)
  have D216:=Hd (Nw215.out.drew)
  clear Nw215
  refine rGw 10 10 (by kernel_rfl) (by kernel_rfl) (fun d v c a w h=>by cases d <;> exact h) ?_
  simp only [List.take_succ_cons,List.take_zero]
  refine gK (.func (.func 117) #[.pointer (some ⟨f,0,none⟩)] #[]) ?_
  refine gK (.func (.func 89) #[.pointer (some ⟨f,0,none⟩)] #[]) ?_
  refine lG rfl (.tmp 13) rfl x168 (by kernel_rfl) (fun u hu=>D216.out.up 6 rfl hu) ?_
  refine lG rfl (.tmp 17) rfl x188 (by kernel_rfl) (fun u hu=>D216.out.up 10 rfl hu) ?_
  refine fG rfl 89 (.tmp 190) #[.tmp 191,.tmp 192] #[27,27] rfl #[.pointer (some ⟨f,0,none⟩)] #[.agg (nc k7),.agg (nc k21)] (by kernel_rfl) (by kernel_rfl) (fun u=>cE _ _ _ _ u Tryz.func89 (by kernel_rfl) (by kernel_rfl)) (.agg (nc k34)) (fun u hu=>by have hcc:=field_mul f cu.p d k7 k21 u (L7.out) (L21.out) (HF.out.up (gT _ _ _ D216.out.1 hu)); rw [← E34.out] at hcc; exact hcc) ?_
  refine gK (.func (.func 89) #[.pointer (some ⟨f,0,none⟩)] #[]) ?_
  refine lG rfl (.tmp 15) rfl x178 (by kernel_rfl) (fun u hu=>D216.out.up 8 rfl hu) ?_
  refine lG rfl (.tmp 14) rfl x173 (by kernel_rfl) (fun u hu=>D216.out.up 7 rfl hu) ?_
  refine fG rfl 89 (.tmp 194) #[.tmp 195,.tmp 196] #[27,27] rfl #[.pointer (some ⟨f,0,none⟩)] #[.agg (nc k17),.agg (nc k31)] (by kernel_rfl) (by kernel_rfl) (fun u=>cE _ _ _ _ u Tryz.func89 (by kernel_rfl) (by kernel_rfl)) (.agg (nc k35)) (fun u hu=>by have hcc:=field_mul f cu.p d k17 k31 u (L17.out) (L31.out) (HF.out.up (gT _ _ _ D216.out.1 hu)); rw [← E35.out] at hcc; exact hcc) ?_
  refine fG rfl 117 (.tmp 189) #[.tmp 193,.tmp 197] #[27,27] rfl #[.pointer (some ⟨f,0,none⟩)] #[.agg (nc k34),.agg (nc k35)] (by kernel_rfl) (by kernel_rfl) (fun u=>cE _ _ _ _ u Tryz.func117 (by kernel_rfl) (by kernel_rfl)) (.agg (nc k36)) (fun u hu=>by have hcc:=field_sub f cu.p d k34 k35 u (L34.out) (L35.out) (HF.out.up (gT _ _ _ D216.out.1 hu)); rw [← E36.out] at hcc; exact hcc) ?_
  refine gN ?_
  try simp only [Act.put,s_,t_,u_,v_,x_,y_]
  refine gS (rs:=[10]) (by kernel_rfl) (by decide) (fun w217 hg6=>?_)
  have Nw217:=Hd (D216.out.grow hg6)
  clear hg6 D216
  refine wpAny_ready (rs:=[10]) (by kernel_rfl) (by simp) ?_
  refine AllReady.cons rfl (fun K hK=>?_) AllReady.nil
  refine sK rfl 27 (.tmp 17) (.tmp 198) rfl x188 rfl _ _ _ rfl (Nw217.out.at 10 rfl) (by rw [nS]; kernel_rfl) (by rw [nS,nS]) (nO _) (fun w218 hw hb hs=>hK _ _ ?_)
  have Nw218:=Hd (Nw217.out.store 10 rfl hb hs hw)
  clear hK hw hb hs Nw217
  try simp only [Act.put,s_,t_,u_,v_,x_,y_]
  refine wpAny_done (by kernel_rfl) ?_ _
  try simp only [Act.put,s_,t_,u_,v_,x_,y_]
  -- region 18
  go_upto_region 18 with (fail)
  have D219:=Hd (Nw218.out.drew)
  clear Nw218
  refine rGw 10 10 (by kernel_rfl) (by kernel_rfl) (fun d v c a w h=>by cases d <;> exact h) ?_
  simp only [List.take_succ_cons,List.take_zero]
  refine gK (.func (.func 73) #[.pointer (some ⟨f,0,none⟩)] #[]) ?_
  refine gK (.func (.func 89) #[.pointer (some ⟨f,0,none⟩)] #[]) ?_
  refine lG rfl (.tmp 15) rfl x178 (by kernel_rfl) (fun u hu=>D219.out.up 8 rfl hu) ?_
  refine lG rfl (.tmp 16) rfl x183 (by kernel_rfl) (fun u hu=>D219.out.up 9 rfl hu) ?_
  refine fG rfl 89 (.tmp 200) #[.tmp 201,.tmp 202] #[27,27] rfl #[.pointer (some ⟨f,0,none⟩)] #[.agg (nc k17),.agg (nc k22)] (by kernel_rfl) (by kernel_rfl) (fun u=>cE _ _ _ _ u Tryz.func89 (by kernel_rfl) (by kernel_rfl)) (.agg (nc k37)) (fun u hu=>by have hcc:=field_mul f cu.p d k17 k22 u (L17.out) (L22.out) (HF.out.up (gT _ _ _ D219.out.1 hu)); rw [← E37.out] at hcc; exact hcc) ?_
  refine gK (.func (.func 89) #[.pointer (some ⟨f,0,none⟩)] #[]) ?_
  refine lG rfl (.tmp 13) rfl x168 (by kernel_rfl) (fun u hu=>D219.out.up 6 rfl hu) ?_
  refine lG rfl (.tmp 11) rfl x6 (by kernel_rfl) (fun u hu=>D219.out.up 4 rfl hu) ?_
  refine fG rfl 89 (.tmp 204) #[.tmp 205,.tmp 206] #[27,27] rfl #[.pointer (some ⟨f,0,none⟩)] #[.agg (nc k7),.agg (nc k28)] (by kernel_rfl) (by kernel_rfl) (fun u=>cE _ _ _ _ u Tryz.func89 (by kernel_rfl) (by kernel_rfl)) (.agg (nc k38)) (fun u hu=>by have hcc:=field_mul f cu.p d k7 k28 u (L7.out) (L28.out) (HF.out.up (gT _ _ _ D219.out.1 hu)); rw [← E38.out] at hcc; exact hcc) ?_
  refine fG rfl 73 (.tmp 199) #[.tmp 203,.tmp 207] #[27,27] rfl #[.pointer (some ⟨f,0,none⟩)] #[.agg (nc k37),.agg (nc k38)] (by kernel_rfl) (by kernel_rfl) (fun u=>cE _ _ _ _ u Tryz.func73 (by kernel_rfl) (by kernel_rfl)) (.agg (nc k39)) (fun u hu=>by have hcc:=field_add f cu.p d k37 k38 u (L37.out) (L38.out) (HF.out.up (gT _ _ _ D219.out.1 hu)); rw [← E39.out] at hcc; exact hcc) ?_
  refine gN ?_
  try simp only [Act.put,s_,t_,u_,v_,x_,y_]
  refine gS (rs:=[10]) (by kernel_rfl) (by decide) (fun w220 hg6=>?_)
  have Nw220:=Hd (D219.out.grow hg6)
  clear hg6 D219
  refine wpAny_ready (rs:=[10]) (by kernel_rfl) (by simp) ?_
  refine AllReady.cons rfl (fun K hK=>?_) AllReady.nil
  refine sK rfl 27 (.tmp 16) (.tmp 208) rfl x183 rfl _ _ _ rfl (Nw220.out.at 9 rfl) (by rw [nS]; kernel_rfl) (by rw [nS,nS]) (nO _) (fun w221 hw hb hs=>hK _ _ ?_)
  have Nw221:=Hd (Nw220.out.store 9 rfl hb hs hw)
  clear hK hw hb hs Nw220
  try simp only [Act.put,s_,t_,u_,v_,x_,y_]
  refine wpAny_done (by kernel_rfl) ?_ _
  try simp only [Act.put,s_,t_,u_,v_,x_,y_]
  -- region 19
  go_upto_region 19 with (fail)
  refine wp_region_lit ?_
  refine l0N rfl (.tmp 17) rfl x188 (by kernel_rfl) (Nw221.out.at 10 rfl) ?_
  refine l0N rfl (.tmp 18) rfl x194 (by kernel_rfl) (Nw221.out.at 11 rfl) ?_
  refine l0N rfl (.tmp 16) rfl x183 (by kernel_rfl) (Nw221.out.at 9 rfl) ?_
  refine wpList_built rfl 111 #[(0,.tmp 209),(1,.tmp 210),(2,.tmp 211)] rfl ((pc k36 k33 k39)) (by kernel_rfl) ?_
  refine sB rfl 111 (.tmp 6) (.tmp 212) rfl (g+1+1) (by kernel_rfl) _ _ (pc k36 k33 k39) (by kernel_rfl) (Nw221.out.at 2 rfl) (by rw [pc_size]; kernel_rfl) (by rw [pc_size,pc_size]) (pc_one _ _ _) ?_
  intro w222 hw hb hs
  have Nw222:=Hd (Nw221.out.store 2 rfl hb hs hw)
  clear hw hb hs Nw221
  refine wpList_nil ?_
  try simp only [Act.put,s_,t_,u_,v_,x_,y_]
  go_wp2_with (fail)
  exact bodyPost_ret (results_J rfl _ _ (g+1+1) _ _ _ _ _ rfl (Nw222.out.at 2 rfl)) rfl ⟨by rw [FIN.out]; rfl,Nw222.out.below⟩
 refine wp_region_growB 18 (by kernel_rfl) (by kernel_rfl) (fun d v c a w h=>by cases d <;> exact h) ?_
 simp only [List.take_succ_cons,List.take_zero]
 refine gK (.func (.func 89) #[.pointer (some ⟨f,0,none⟩)] #[]) ?_
 refine gK (.pointer (some ⟨g,0,none⟩)) ?_
 refine lN rfl (.tmp 35) rfl g 0 (by kernel_rfl) x1 (fun u hu=>D4.out.up 0 rfl hu) (pc_x x1 y1 z1) ?_
 refine gK (.pointer (some ⟨g+1,0,none⟩)) ?_
 refine lN rfl (.tmp 37) rfl (g+1) 0 (by kernel_rfl) x2 (fun u hu=>D4.out.up 1 rfl hu) (pc_x x2 y2 z2) ?_
 refine fG rfl 89 (.tmp 34) #[.tmp 36,.tmp 38] #[27,27] rfl #[.pointer (some ⟨f,0,none⟩)] #[.agg (nc x1),.agg (nc x2)] (by kernel_rfl) (by kernel_rfl) (fun u=>cE _ _ _ _ u Tryz.func89 (by kernel_rfl) (by kernel_rfl)) (.agg (nc k0)) (fun u hu=>by have hcc:=field_mul f cu.p d x1 x2 u (Hx1.out) (Hx2.out) (HF.out.up (gT _ _ _ D4.out.1 hu)); rw [← E0.out] at hcc; exact hcc) ?_
 refine gK (.func (.func 89) #[.pointer (some ⟨f,0,none⟩)] #[]) ?_
 refine gK (.pointer (some ⟨g,9,none⟩)) ?_
 refine lN rfl (.tmp 41) rfl g 9 (by kernel_rfl) y1 (fun u hu=>D4.out.up 0 rfl hu) (pc_y x1 y1 z1) ?_
 refine gK (.pointer (some ⟨g+1,9,none⟩)) ?_
 refine lN rfl (.tmp 43) rfl (g+1) 9 (by kernel_rfl) y2 (fun u hu=>D4.out.up 1 rfl hu) (pc_y x2 y2 z2) ?_
 refine fG rfl 89 (.tmp 40) #[.tmp 42,.tmp 44] #[27,27] rfl #[.pointer (some ⟨f,0,none⟩)] #[.agg (nc y1),.agg (nc y2)] (by kernel_rfl) (by kernel_rfl) (fun u=>cE _ _ _ _ u Tryz.func89 (by kernel_rfl) (by kernel_rfl)) (.agg (nc k1)) (fun u hu=>by have hcc:=field_mul f cu.p d y1 y2 u (Hy1.out) (Hy2.out) (HF.out.up (gT _ _ _ D4.out.1 hu)); rw [← E1.out] at hcc; exact hcc) ?_
 refine gK (.func (.func 89) #[.pointer (some ⟨f,0,none⟩)] #[]) ?_
 refine gK (.pointer (some ⟨g,18,none⟩)) ?_
 refine lN rfl (.tmp 47) rfl g 18 (by kernel_rfl) z1 (fun u hu=>D4.out.up 0 rfl hu) (pc_z x1 y1 z1) ?_
 refine gK (.pointer (some ⟨g+1,18,none⟩)) ?_
 refine lN rfl (.tmp 49) rfl (g+1) 18 (by kernel_rfl) z2 (fun u hu=>D4.out.up 1 rfl hu) (pc_z x2 y2 z2) ?_
 refine fG rfl 89 (.tmp 46) #[.tmp 48,.tmp 50] #[27,27] rfl #[.pointer (some ⟨f,0,none⟩)] #[.agg (nc z1),.agg (nc z2)] (by kernel_rfl) (by kernel_rfl) (fun u=>cE _ _ _ _ u Tryz.func89 (by kernel_rfl) (by kernel_rfl)) (.agg (nc k2)) (fun u hu=>by have hcc:=field_mul f cu.p d z1 z2 u (Hz1.out) (Hz2.out) (HF.out.up (gT _ _ _ D4.out.1 hu)); rw [← E2.out] at hcc; exact hcc) ?_
 refine gN ?_
 try simp only [Act.put,s_,t_,u_,v_,x_,y_]
 have B9:=Hd (Mem.nil (w3.drew))
 refine grow_readyB (rs:=[18,19,20]) (by kernel_rfl) (by simp) (fun u10 hgB=>?_)
 have B11:=Hd (B9.out.grow hgB)
 clear hgB B9
 refine BAll.alloc rfl rfl 27 rfl (.agg (nc 0)) (by rw [nZ]; kernel_rfl) B11.out ?_ ?_
 ·intro y12 u13 mm
  have B14:=Hd (show Mem (w3.drew) u13 [(y12,nc 0,27)] from mm)
  clear mm B11
  try simp only [Act.put,s_,t_,u_,v_,x_,y_]
  refine grow_readyB (rs:=[19,20]) (by kernel_rfl) (by simp) (fun u15 hgB=>?_)
  have B16:=Hd (B14.out.grow hgB)
  clear hgB B14
  refine BAll.alloc rfl rfl 27 rfl (.agg (nc 0)) (by rw [nZ]; kernel_rfl) B16.out ?_ ?_
  ·intro y17 u18 mm
   have B19:=Hd (show Mem (w3.drew) u18 [(y12,nc 0,27),(y17,nc 0,27)] from mm)
   clear mm B16
   try simp only [Act.put,s_,t_,u_,v_,x_,y_]
   refine grow_readyB (rs:=[20]) (by kernel_rfl) (by simp) (fun u20 hgB=>?_)
   have B21:=Hd (B19.out.grow hgB)
   clear hgB B19
   refine BAll.alloc rfl rfl 27 rfl (.agg (nc 0)) (by rw [nZ]; kernel_rfl) B21.out ?_ BAll.nil
   ·intro y22 u23 mm
    have B24:=Hd (show Mem (w3.drew) u23 [(y12,nc 0,27),(y17,nc 0,27),(y22,nc 0,27)] from mm)
    clear mm B21
    try simp only [Act.put,s_,t_,u_,v_,x_,y_]
    refine grow_readyB (rs:=[21]) (by kernel_rfl) (by simp) (fun u25 hgB=>?_)
    have B26:=Hd (B24.out.grow hgB)
    clear hgB B24
    refine BAll.store rfl rfl 27 (.tmp 10) (.tmp 39) rfl B26.out 0 y12 rfl _ _ _ rfl rfl (by rw [nS]; kernel_rfl) (by rw [nS,nS]) (nO _) ?_ BAll.nil
    ·intro u28 mm
     have B29:=Hd (show Mem (w3.drew) u28 [(y12,nc k0,27),(y17,nc 0,27),(y22,nc 0,27)] from mm)
     clear mm B26
     try simp only [Act.put,s_,t_,u_,v_,x_,y_]
     refine grow_readyB (rs:=[22]) (by kernel_rfl) (by simp) (fun u30 hgB=>?_)
     have B31:=Hd (B29.out.grow hgB)
     clear hgB B29
     refine BAll.store rfl rfl 27 (.tmp 11) (.tmp 45) rfl B31.out 1 y17 rfl _ _ _ rfl rfl (by rw [nS]; kernel_rfl) (by rw [nS,nS]) (nO _) ?_ BAll.nil
     ·intro u33 mm
      have B34:=Hd (show Mem (w3.drew) u33 [(y12,nc k0,27),(y17,nc k1,27),(y22,nc 0,27)] from mm)
      clear mm B31
      try simp only [Act.put,s_,t_,u_,v_,x_,y_]
      refine grow_readyB (rs:=[23]) (by kernel_rfl) (by simp) (fun u35 hgB=>?_)
      have B36:=Hd (B34.out.grow hgB)
      clear hgB B34
      refine BAll.store rfl rfl 27 (.tmp 12) (.tmp 51) rfl B36.out 2 y22 rfl _ _ _ rfl rfl (by rw [nS]; kernel_rfl) (by rw [nS,nS]) (nO _) ?_ BAll.nil
      ·intro u38 mm
       have B39:=Hd (show Mem (w3.drew) u38 [(y12,nc k0,27),(y17,nc k1,27),(y22,nc k2,27)] from mm)
       clear mm B36
       try simp only [Act.put,s_,t_,u_,v_,x_,y_]
       refine grow_doneB (by kernel_rfl) (fun u1 hgB=>?_)
       exact r8 y12 y17 y22 _ ((B39.out.grow hgB).perm (List.Perm.refl _))
  refine BAll.alloc rfl rfl 27 rfl (.agg (nc 0)) (by rw [nZ]; kernel_rfl) B16.out ?_ BAll.nil
  ·intro y40 u41 mm
   have B42:=Hd (show Mem (w3.drew) u41 [(y12,nc 0,27),(y40,nc 0,27)] from mm)
   clear mm B16
   try simp only [Act.put,s_,t_,u_,v_,x_,y_]
   refine grow_readyB (rs:=[19]) (by kernel_rfl) (by simp) (fun u43 hgB=>?_)
   have B44:=Hd (B42.out.grow hgB)
   clear hgB B42
   refine BAll.alloc rfl rfl 27 rfl (.agg (nc 0)) (by rw [nZ]; kernel_rfl) B44.out ?_ BAll.nil
   ·intro y45 u46 mm
    have B47:=Hd (show Mem (w3.drew) u46 [(y12,nc 0,27),(y40,nc 0,27),(y45,nc 0,27)] from mm)
    clear mm B44
    try simp only [Act.put,s_,t_,u_,v_,x_,y_]
    refine grow_readyB (rs:=[21]) (by kernel_rfl) (by simp) (fun u48 hgB=>?_)
    have B49:=Hd (B47.out.grow hgB)
    clear hgB B47
    refine BAll.store rfl rfl 27 (.tmp 10) (.tmp 39) rfl B49.out 0 y12 rfl _ _ _ rfl rfl (by rw [nS]; kernel_rfl) (by rw [nS,nS]) (nO _) ?_ BAll.nil
    ·intro u51 mm
     have B52:=Hd (show Mem (w3.drew) u51 [(y12,nc k0,27),(y40,nc 0,27),(y45,nc 0,27)] from mm)
     clear mm B49
     try simp only [Act.put,s_,t_,u_,v_,x_,y_]
     refine grow_readyB (rs:=[22]) (by kernel_rfl) (by simp) (fun u53 hgB=>?_)
     have B54:=Hd (B52.out.grow hgB)
     clear hgB B52
     refine BAll.store rfl rfl 27 (.tmp 11) (.tmp 45) rfl B54.out 2 y45 rfl _ _ _ rfl rfl (by rw [nS]; kernel_rfl) (by rw [nS,nS]) (nO _) ?_ BAll.nil
     ·intro u56 mm
      have B57:=Hd (show Mem (w3.drew) u56 [(y12,nc k0,27),(y40,nc 0,27),(y45,nc k1,27)] from mm)
      clear mm B54
      try simp only [Act.put,s_,t_,u_,v_,x_,y_]
      refine grow_readyB (rs:=[23]) (by kernel_rfl) (by simp) (fun u58 hgB=>?_)
      have B59:=Hd (B57.out.grow hgB)
      clear hgB B57
      refine BAll.store rfl rfl 27 (.tmp 12) (.tmp 51) rfl B59.out 1 y40 rfl _ _ _ rfl rfl (by rw [nS]; kernel_rfl) (by rw [nS,nS]) (nO _) ?_ BAll.nil
      ·intro u61 mm
       have B62:=Hd (show Mem (w3.drew) u61 [(y12,nc k0,27),(y40,nc k2,27),(y45,nc k1,27)] from mm)
       clear mm B59
       try simp only [Act.put,s_,t_,u_,v_,x_,y_]
       refine grow_doneB (by kernel_rfl) (fun u1 hgB=>?_)
       exact r8 y12 y45 y40 _ ((B62.out.grow hgB).perm ((List.Perm.cons _ (List.Perm.swap _ _ _))))
 refine BAll.alloc rfl rfl 27 rfl (.agg (nc 0)) (by rw [nZ]; kernel_rfl) B11.out ?_ ?_
 ·intro y63 u64 mm
  have B65:=Hd (show Mem (w3.drew) u64 [(y63,nc 0,27)] from mm)
  clear mm B11
  try simp only [Act.put,s_,t_,u_,v_,x_,y_]
  refine grow_readyB (rs:=[18,20]) (by kernel_rfl) (by simp) (fun u66 hgB=>?_)
  have B67:=Hd (B65.out.grow hgB)
  clear hgB B65
  refine BAll.alloc rfl rfl 27 rfl (.agg (nc 0)) (by rw [nZ]; kernel_rfl) B67.out ?_ ?_
  ·intro y68 u69 mm
   have B70:=Hd (show Mem (w3.drew) u69 [(y63,nc 0,27),(y68,nc 0,27)] from mm)
   clear mm B67
   try simp only [Act.put,s_,t_,u_,v_,x_,y_]
   refine grow_readyB (rs:=[20]) (by kernel_rfl) (by simp) (fun u71 hgB=>?_)
   have B72:=Hd (B70.out.grow hgB)
   clear hgB B70
   refine BAll.alloc rfl rfl 27 rfl (.agg (nc 0)) (by rw [nZ]; kernel_rfl) B72.out ?_ BAll.nil
   ·intro y73 u74 mm
    have B75:=Hd (show Mem (w3.drew) u74 [(y63,nc 0,27),(y68,nc 0,27),(y73,nc 0,27)] from mm)
    clear mm B72
    try simp only [Act.put,s_,t_,u_,v_,x_,y_]
    refine grow_readyB (rs:=[21]) (by kernel_rfl) (by simp) (fun u76 hgB=>?_)
    have B77:=Hd (B75.out.grow hgB)
    clear hgB B75
    refine BAll.store rfl rfl 27 (.tmp 10) (.tmp 39) rfl B77.out 1 y68 rfl _ _ _ rfl rfl (by rw [nS]; kernel_rfl) (by rw [nS,nS]) (nO _) ?_ BAll.nil
    ·intro u79 mm
     have B80:=Hd (show Mem (w3.drew) u79 [(y63,nc 0,27),(y68,nc k0,27),(y73,nc 0,27)] from mm)
     clear mm B77
     try simp only [Act.put,s_,t_,u_,v_,x_,y_]
     refine grow_readyB (rs:=[22]) (by kernel_rfl) (by simp) (fun u81 hgB=>?_)
     have B82:=Hd (B80.out.grow hgB)
     clear hgB B80
     refine BAll.store rfl rfl 27 (.tmp 11) (.tmp 45) rfl B82.out 0 y63 rfl _ _ _ rfl rfl (by rw [nS]; kernel_rfl) (by rw [nS,nS]) (nO _) ?_ BAll.nil
     ·intro u84 mm
      have B85:=Hd (show Mem (w3.drew) u84 [(y63,nc k1,27),(y68,nc k0,27),(y73,nc 0,27)] from mm)
      clear mm B82
      try simp only [Act.put,s_,t_,u_,v_,x_,y_]
      refine grow_readyB (rs:=[23]) (by kernel_rfl) (by simp) (fun u86 hgB=>?_)
      have B87:=Hd (B85.out.grow hgB)
      clear hgB B85
      refine BAll.store rfl rfl 27 (.tmp 12) (.tmp 51) rfl B87.out 2 y73 rfl _ _ _ rfl rfl (by rw [nS]; kernel_rfl) (by rw [nS,nS]) (nO _) ?_ BAll.nil
      ·intro u89 mm
       have B90:=Hd (show Mem (w3.drew) u89 [(y63,nc k1,27),(y68,nc k0,27),(y73,nc k2,27)] from mm)
       clear mm B87
       try simp only [Act.put,s_,t_,u_,v_,x_,y_]
       refine grow_doneB (by kernel_rfl) (fun u1 hgB=>?_)
       exact r8 y68 y63 y73 _ ((B90.out.grow hgB).perm ((List.Perm.swap _ _ _)))
  refine BAll.alloc rfl rfl 27 rfl (.agg (nc 0)) (by rw [nZ]; kernel_rfl) B67.out ?_ BAll.nil
  ·intro y91 u92 mm
   have B93:=Hd (show Mem (w3.drew) u92 [(y63,nc 0,27),(y91,nc 0,27)] from mm)
   clear mm B67
   try simp only [Act.put,s_,t_,u_,v_,x_,y_]
   refine grow_readyB (rs:=[18]) (by kernel_rfl) (by simp) (fun u94 hgB=>?_)
   have B95:=Hd (B93.out.grow hgB)
   clear hgB B93
   refine BAll.alloc rfl rfl 27 rfl (.agg (nc 0)) (by rw [nZ]; kernel_rfl) B95.out ?_ BAll.nil
   ·intro y96 u97 mm
    have B98:=Hd (show Mem (w3.drew) u97 [(y63,nc 0,27),(y91,nc 0,27),(y96,nc 0,27)] from mm)
    clear mm B95
    try simp only [Act.put,s_,t_,u_,v_,x_,y_]
    refine grow_readyB (rs:=[21]) (by kernel_rfl) (by simp) (fun u99 hgB=>?_)
    have B100:=Hd (B98.out.grow hgB)
    clear hgB B98
    refine BAll.store rfl rfl 27 (.tmp 10) (.tmp 39) rfl B100.out 2 y96 rfl _ _ _ rfl rfl (by rw [nS]; kernel_rfl) (by rw [nS,nS]) (nO _) ?_ BAll.nil
    ·intro u102 mm
     have B103:=Hd (show Mem (w3.drew) u102 [(y63,nc 0,27),(y91,nc 0,27),(y96,nc k0,27)] from mm)
     clear mm B100
     try simp only [Act.put,s_,t_,u_,v_,x_,y_]
     refine grow_readyB (rs:=[22]) (by kernel_rfl) (by simp) (fun u104 hgB=>?_)
     have B105:=Hd (B103.out.grow hgB)
     clear hgB B103
     refine BAll.store rfl rfl 27 (.tmp 11) (.tmp 45) rfl B105.out 0 y63 rfl _ _ _ rfl rfl (by rw [nS]; kernel_rfl) (by rw [nS,nS]) (nO _) ?_ BAll.nil
     ·intro u107 mm
      have B108:=Hd (show Mem (w3.drew) u107 [(y63,nc k1,27),(y91,nc 0,27),(y96,nc k0,27)] from mm)
      clear mm B105
      try simp only [Act.put,s_,t_,u_,v_,x_,y_]
      refine grow_readyB (rs:=[23]) (by kernel_rfl) (by simp) (fun u109 hgB=>?_)
      have B110:=Hd (B108.out.grow hgB)
      clear hgB B108
      refine BAll.store rfl rfl 27 (.tmp 12) (.tmp 51) rfl B110.out 1 y91 rfl _ _ _ rfl rfl (by rw [nS]; kernel_rfl) (by rw [nS,nS]) (nO _) ?_ BAll.nil
      ·intro u112 mm
       have B113:=Hd (show Mem (w3.drew) u112 [(y63,nc k1,27),(y91,nc k2,27),(y96,nc k0,27)] from mm)
       clear mm B110
       try simp only [Act.put,s_,t_,u_,v_,x_,y_]
       refine grow_doneB (by kernel_rfl) (fun u1 hgB=>?_)
       exact r8 y96 y63 y91 _ ((B113.out.grow hgB).perm ((List.Perm.trans (List.Perm.cons _ (List.Perm.swap _ _ _)) (List.Perm.swap _ _ _))))
 refine BAll.alloc rfl rfl 27 rfl (.agg (nc 0)) (by rw [nZ]; kernel_rfl) B11.out ?_ BAll.nil
 ·intro y114 u115 mm
  have B116:=Hd (show Mem (w3.drew) u115 [(y114,nc 0,27)] from mm)
  clear mm B11
  try simp only [Act.put,s_,t_,u_,v_,x_,y_]
  refine grow_readyB (rs:=[18,19]) (by kernel_rfl) (by simp) (fun u117 hgB=>?_)
  have B118:=Hd (B116.out.grow hgB)
  clear hgB B116
  refine BAll.alloc rfl rfl 27 rfl (.agg (nc 0)) (by rw [nZ]; kernel_rfl) B118.out ?_ ?_
  ·intro y119 u120 mm
   have B121:=Hd (show Mem (w3.drew) u120 [(y114,nc 0,27),(y119,nc 0,27)] from mm)
   clear mm B118
   try simp only [Act.put,s_,t_,u_,v_,x_,y_]
   refine grow_readyB (rs:=[19]) (by kernel_rfl) (by simp) (fun u122 hgB=>?_)
   have B123:=Hd (B121.out.grow hgB)
   clear hgB B121
   refine BAll.alloc rfl rfl 27 rfl (.agg (nc 0)) (by rw [nZ]; kernel_rfl) B123.out ?_ BAll.nil
   ·intro y124 u125 mm
    have B126:=Hd (show Mem (w3.drew) u125 [(y114,nc 0,27),(y119,nc 0,27),(y124,nc 0,27)] from mm)
    clear mm B123
    try simp only [Act.put,s_,t_,u_,v_,x_,y_]
    refine grow_readyB (rs:=[21]) (by kernel_rfl) (by simp) (fun u127 hgB=>?_)
    have B128:=Hd (B126.out.grow hgB)
    clear hgB B126
    refine BAll.store rfl rfl 27 (.tmp 10) (.tmp 39) rfl B128.out 1 y119 rfl _ _ _ rfl rfl (by rw [nS]; kernel_rfl) (by rw [nS,nS]) (nO _) ?_ BAll.nil
    ·intro u130 mm
     have B131:=Hd (show Mem (w3.drew) u130 [(y114,nc 0,27),(y119,nc k0,27),(y124,nc 0,27)] from mm)
     clear mm B128
     try simp only [Act.put,s_,t_,u_,v_,x_,y_]
     refine grow_readyB (rs:=[22]) (by kernel_rfl) (by simp) (fun u132 hgB=>?_)
     have B133:=Hd (B131.out.grow hgB)
     clear hgB B131
     refine BAll.store rfl rfl 27 (.tmp 11) (.tmp 45) rfl B133.out 2 y124 rfl _ _ _ rfl rfl (by rw [nS]; kernel_rfl) (by rw [nS,nS]) (nO _) ?_ BAll.nil
     ·intro u135 mm
      have B136:=Hd (show Mem (w3.drew) u135 [(y114,nc 0,27),(y119,nc k0,27),(y124,nc k1,27)] from mm)
      clear mm B133
      try simp only [Act.put,s_,t_,u_,v_,x_,y_]
      refine grow_readyB (rs:=[23]) (by kernel_rfl) (by simp) (fun u137 hgB=>?_)
      have B138:=Hd (B136.out.grow hgB)
      clear hgB B136
      refine BAll.store rfl rfl 27 (.tmp 12) (.tmp 51) rfl B138.out 0 y114 rfl _ _ _ rfl rfl (by rw [nS]; kernel_rfl) (by rw [nS,nS]) (nO _) ?_ BAll.nil
      ·intro u140 mm
       have B141:=Hd (show Mem (w3.drew) u140 [(y114,nc k2,27),(y119,nc k0,27),(y124,nc k1,27)] from mm)
       clear mm B138
       try simp only [Act.put,s_,t_,u_,v_,x_,y_]
       refine grow_doneB (by kernel_rfl) (fun u1 hgB=>?_)
       exact r8 y119 y124 y114 _ ((B141.out.grow hgB).perm ((List.Perm.trans (List.Perm.swap _ _ _) (List.Perm.cons _ (List.Perm.swap _ _ _)))))
  refine BAll.alloc rfl rfl 27 rfl (.agg (nc 0)) (by rw [nZ]; kernel_rfl) B118.out ?_ BAll.nil
  ·intro y142 u143 mm
   have B144:=Hd (show Mem (w3.drew) u143 [(y114,nc 0,27),(y142,nc 0,27)] from mm)
   clear mm B118
   try simp only [Act.put,s_,t_,u_,v_,x_,y_]
   refine grow_readyB (rs:=[18]) (by kernel_rfl) (by simp) (fun u145 hgB=>?_)
   have B146:=Hd (B144.out.grow hgB)
   clear hgB B144
   refine BAll.alloc rfl rfl 27 rfl (.agg (nc 0)) (by rw [nZ]; kernel_rfl) B146.out ?_ BAll.nil
   ·intro y147 u148 mm
    have B149:=Hd (show Mem (w3.drew) u148 [(y114,nc 0,27),(y142,nc 0,27),(y147,nc 0,27)] from mm)
    clear mm B146
    try simp only [Act.put,s_,t_,u_,v_,x_,y_]
    refine grow_readyB (rs:=[21]) (by kernel_rfl) (by simp) (fun u150 hgB=>?_)
    have B151:=Hd (B149.out.grow hgB)
    clear hgB B149
    refine BAll.store rfl rfl 27 (.tmp 10) (.tmp 39) rfl B151.out 2 y147 rfl _ _ _ rfl rfl (by rw [nS]; kernel_rfl) (by rw [nS,nS]) (nO _) ?_ BAll.nil
    ·intro u153 mm
     have B154:=Hd (show Mem (w3.drew) u153 [(y114,nc 0,27),(y142,nc 0,27),(y147,nc k0,27)] from mm)
     clear mm B151
     try simp only [Act.put,s_,t_,u_,v_,x_,y_]
     refine grow_readyB (rs:=[22]) (by kernel_rfl) (by simp) (fun u155 hgB=>?_)
     have B156:=Hd (B154.out.grow hgB)
     clear hgB B154
     refine BAll.store rfl rfl 27 (.tmp 11) (.tmp 45) rfl B156.out 1 y142 rfl _ _ _ rfl rfl (by rw [nS]; kernel_rfl) (by rw [nS,nS]) (nO _) ?_ BAll.nil
     ·intro u158 mm
      have B159:=Hd (show Mem (w3.drew) u158 [(y114,nc 0,27),(y142,nc k1,27),(y147,nc k0,27)] from mm)
      clear mm B156
      try simp only [Act.put,s_,t_,u_,v_,x_,y_]
      refine grow_readyB (rs:=[23]) (by kernel_rfl) (by simp) (fun u160 hgB=>?_)
      have B161:=Hd (B159.out.grow hgB)
      clear hgB B159
      refine BAll.store rfl rfl 27 (.tmp 12) (.tmp 51) rfl B161.out 0 y114 rfl _ _ _ rfl rfl (by rw [nS]; kernel_rfl) (by rw [nS,nS]) (nO _) ?_ BAll.nil
      ·intro u163 mm
       have B164:=Hd (show Mem (w3.drew) u163 [(y114,nc k2,27),(y142,nc k1,27),(y147,nc k0,27)] from mm)
       clear mm B161
       try simp only [Act.put,s_,t_,u_,v_,x_,y_]
       refine grow_doneB (by kernel_rfl) (fun u1 hgB=>?_)
       exact r8 y147 y142 y114 _ ((B164.out.grow hgB).perm ((List.Perm.trans (List.Perm.trans (List.Perm.swap _ _ _) (List.Perm.cons _ (List.Perm.swap _ _ _))) (List.Perm.swap _ _ _))))
end Go.Proofs.YtkoonhiplicbkaaGreat.Cw
