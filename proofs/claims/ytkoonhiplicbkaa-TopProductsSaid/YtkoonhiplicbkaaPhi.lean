/-
  Multiples of G of the 15 curves: triples that stand for them, what Sum, Times, Plain, Triple, On give at them. Condition: a curve's number from 1 to 15.
-/
import Derived.Test.YtkoonhiplicbkaaNum
import Derived.Test.YtkoonhiplicbkaaOpn
import Derived.Test.YtkoonhiplicbkaaTp1
set_option linter.unusedSimpArgs false
set_option linter.unusedVariables false
namespace Go.Proofs.Ytkoonhiplicbkaa.Cw
open Go Go.RowKit
/-- a curve's number -/
abbrev CK := {k : Nat // 1 ≤ k ∧ k ≤ 15}
def CK.c (k : CK) : Cv := cv k.1
theorem CK.num (k : CK) : rootB k.c.p k.c.a k.c.b (rtc k.1) = true ∧ chkA k.c.p k.c.a k.c.b (3 * k.c.b % k.c.p) k.c.gx k.c.gy (20 * (Nat.log2 k.c.p + 1)) (240 * (Nat.log2 k.c.p + 1)) = true ∧ k.c.a < k.c.p ∧ k.c.b < k.c.p ∧ k.c.gx < k.c.p ∧ k.c.gy < k.c.p ∧ k.c.gy * k.c.gy % k.c.p = (k.c.gx * k.c.gx * k.c.gx + k.c.a * k.c.gx + k.c.b) % k.c.p := by
  have h := num_k k.2.1 k.2.2
  unfold numB at h
  simp only [Bool.and_eq_true, Nat.blt_eq] at h
  obtain ⟨h1, h2, ⟨h3, h4⟩, ⟨h5, h6⟩, h7⟩ := h
  exact ⟨h1, h2, h3, h4, h5, h6, Nat.eq_of_beq_eq_true h7⟩
theorem CK.pr (k : CK) : Pr k.c.p := pr_p k.1 k.2.1 k.2.2
theorem CK.p1 (k : CK) : 1 < k.c.p := k.pr.1
theorem CK.p0 (k : CK) : k.c.p ≠ 0 := by have := k.p1; omega
instance (k : CK) : NeZero k.c.p := ⟨k.p0⟩
theorem CK.ok (k : CK) : k.c.Ok := (tab_open k.2.1 k.2.2).2.2.2.2.2.1
section
variable (k : CK)
def cf (n : Nat) : Fin k.c.p := Fin.ofNat k.c.p n
def gA1 : Fin k.c.p := cf k k.c.a
def gB1 : Fin k.c.p := cf k k.c.b
def gB3 : Fin k.c.p := cf k k.c.b3
def gG : Pn k.c.p := some (cf k k.c.gx, cf k k.c.gy)
theorem b3_eq : k.c.b3 = 3 * k.c.b % k.c.p := by
  unfold Cv.b3 fad
  rw [Nat.mod_add_mod]
  congr 1
  omega
theorem cf_b3 : gB3 k = 3 * gB1 k := by
  unfold gB3 gB1 cf
  rw [b3_eq, of_mod, of_mul]; rfl
theorem ck_ok : CuOk (gA1 k) (gB1 k) (gB3 k) := by
  obtain ⟨h1, h2, h3, h4, h5, h6, h7⟩ := k.num
  obtain ⟨t, r⟩ := no_root_of k.pr (Nat.le_of_lt h3) (Nat.le_of_lt h4) h1
  exact ⟨k.pr, t, cf_b3 k, r⟩
theorem gG_on : OnV (gA1 k) (gB1 k) (gG k) := by
  obtain ⟨h1, h2, h3, h4, h5, h6, h7⟩ := k.num
  show cf k k.c.gy * cf k k.c.gy = cf k k.c.gx * cf k k.c.gx * cf k k.c.gx + cf k k.c.a * cf k k.c.gx + cf k k.c.b
  unfold cf
  rw [← of_mul, ← of_mul, ← of_mul, ← of_mul, ← of_add, ← of_add, ← of_mod (k.c.gy * k.c.gy), h7, of_mod]
theorem ck_ass : AssG (gA1 k) (gB1 k) (gB3 k) (gG k) := by
  obtain ⟨h1, h2, h3, h4, h5, h6, h7⟩ := k.num
  refine ⟨gG_on k, fun P Q hP hQ => ?_⟩
  rw [← b3_eq] at h2
  exact opl_ass h2 (Nat.le_of_lt h3) (Nat.le_of_lt (b3_lt k.ok)) (ck_ok k) (gG_on k) hP hQ
/-- n G -/
noncomputable def gm (n : Nat) : Pn k.c.p := mulG (gA1 k) (gB3 k) (gG k) n
noncomputable def gop (P Q : Pn k.c.p) : Pn k.c.p := opl (gA1 k) (gB3 k) P Q
theorem gm_on (n : Nat) : OnV (gA1 k) (gB1 k) (gm k n) := mulG_on (ck_ok k) (gG_on k) n
theorem gm_add (m n : Nat) : gop k (gm k m) (gm k n) = gm k (m + n) := mulG_add (ck_ok k) (ck_ass k) m n
theorem gm_one : gm k 1 = gG k := mulG_one (ck_ok k) (gG_on k)
theorem gm_zero : gm k 0 = none := rfl
/-- a point's numbers -/
def pX : Pn k.c.p → Nat
  | none => 0
  | some (x, _) => x.val
def pY : Pn k.c.p → Nat
  | none => 0
  | some (_, y) => y.val
def pI : Pn k.c.p → Bool
  | none => true
  | some _ => false
theorem pX_lt (P : Pn k.c.p) : pX k P < k.c.p := by
  rcases P with _ | ⟨x, y⟩
  · exact Nat.pos_of_ne_zero k.p0
  · exact x.isLt
theorem pY_lt (P : Pn k.c.p) : pY k P < k.c.p := by
  rcases P with _ | ⟨x, y⟩
  · exact Nat.pos_of_ne_zero k.p0
  · exact y.isLt
theorem p_inj (P Q : Pn k.c.p) (h1 : pX k P = pX k Q) (h2 : pY k P = pY k Q) (h3 : pI k P = pI k Q) : P = Q := by
  rcases P with _ | ⟨x, y⟩ <;> rcases Q with _ | ⟨x', y'⟩
  · rfl
  · cases h3
  · cases h3
  · have e1 : x = x' := Fin.ext h1
    have e2 : y = y' := Fin.ext h2
    rw [e1, e2]
theorem cf_val (x : Fin k.c.p) : cf k x.val = x := Fin.ext (by simp [cf, Nat.mod_eq_of_lt x.isLt])
theorem val_cf {n : Nat} (h : n < k.c.p) : (cf k n).val = n := by simp [cf, Nat.mod_eq_of_lt h]
def toT (t : Tri) : T3 k.c.p := ⟨cf k t.x, cf k t.y, cf k t.z⟩
theorem cf_fad (a b : Nat) : cf k (fad k.c.p a b) = cf k a + cf k b := by unfold cf fad; rw [of_mod, of_add]
theorem cf_fml (a b : Nat) : cf k (fml k.c.p a b) = cf k a * cf k b := by unfold cf fml; rw [of_mod, of_mul]
theorem cf_fsb (a b : Nat) (h : b < k.c.p) : cf k (fsb k.c.p a b) = cf k a - cf k b := by
  unfold cf fsb
  rw [of_mod, show a + k.c.p - b = a + (k.c.p - b) by omega, of_add, of_neg (Nat.le_of_lt h)]
  grind -lia -linarith -order (splits := 0) (ematch := 0)
theorem toT_sum {s q : Tri} (hs : s.In k.c.p) (hq : q.In k.c.p) : toT k (k.c.sum s q) = sumT (gA1 k) (gB3 k) (toT k s) (toT k q) := by
  have hp := k.p0
  have a1 := fun a b => fad_lt a b hp
  have a3 := fun a b => fml_lt a b hp
  refine T3.ext' ?_ ?_ ?_ <;> simp only [toT, Cv.sum, sum3, sumT, cf_fad, cf_fml, cf_fsb k _ _ (a1 _ _), cf_fsb k _ _ (a3 _ _), gA1, gB3]
/-- a triple stands for n G -/
def Rp (t : Tri) (n : Nat) : Prop := t.In k.c.p ∧ Rep (toT k t) (gm k n)
theorem cf0 : cf k 0 = 0 := rfl
theorem cf1 : cf k 1 = 1 := rfl
theorem rp_none : Rp k ⟨0, 1, 0⟩ 0 := ⟨one_lt_of k.ok k.p1, rep_trip k.pr none⟩
theorem rp_sum {s q : Tri} {m n : Nat} (hs : Rp k s m) (hq : Rp k q n) : Rp k (k.c.sum s q) (m + n) := by
  refine ⟨sum_in k.ok s q, ?_⟩
  rw [toT_sum k hs.1 hq.1, ← gm_add]
  exact sum_rep (ck_ok k) (gm_on k m) (gm_on k n) hs.2 hq.2
/-- the triple of a point -/
def trN (P : Pn k.c.p) : Tri := match P with
  | none => ⟨0, 1, 0⟩
  | some (x, y) => ⟨x.val, y.val, 1⟩
theorem rp_trip (n : Nat) : Rp k (trN k (gm k n)) n := by
  have key : ∀ P : Pn k.c.p, (trN k P).In k.c.p ∧ Rep (toT k (trN k P)) P := fun P => by
    rcases P with _ | ⟨x, y⟩
    · exact ⟨one_lt_of k.ok k.p1, rep_trip k.pr none⟩
    · refine ⟨⟨x.isLt, y.isLt, k.p1⟩, ?_⟩
      have e : toT k (trN k (some (x, y))) = trip (some (x, y)) := by
        refine T3.ext' (cf_val k x) (cf_val k y) (cf1 k)
      rw [e]; exact rep_trip k.pr _
  exact key _
theorem rp_times_go {q : Tri} {m n : Nat} (hq : Rp k q m) : ∀ (j : Nat) (o : Tri) (i : Nat), Rp k o (i * m) → i = n / 2 ^ j → Rp k (tmsR k.c.sum q n j o) (n * m)
  | 0, o, i, ho, hi => by
    rw [Nat.pow_zero, Nat.div_one] at hi
    subst hi
    exact ho
  | j + 1, o, i, ho, hi => by
    have hdiv : n / 2 ^ j = 2 * i + bitN n j := by
      rw [hi, bitN, Nat.pow_succ, ← Nat.div_div_eq_div_mul]
      have := Nat.div_add_mod (n / 2 ^ j) 2
      omega
    have hb : bitN n j = 0 ∨ bitN n j = 1 := by have := Nat.mod_lt (n / 2 ^ j) (show 0 < 2 by decide); unfold bitN; omega
    rcases hb with hb | hb
    · rw [tmsR_0 _ _ _ _ _ hb]
      refine rp_times_go hq j _ (2 * i) ?_ (by omega)
      have := rp_sum k ho ho
      rwa [show i * m + i * m = 2 * i * m by rw [Nat.mul_assoc]; omega] at this
    · rw [tmsR_1 _ _ _ _ _ hb]
      refine rp_times_go hq j _ (2 * i + 1) ?_ (by omega)
      have := rp_sum k (rp_sum k ho ho) hq
      rwa [show i * m + i * m + m = (2 * i + 1) * m by rw [Nat.add_mul, Nat.mul_assoc]; omega] at this
theorem rp_times {q : Tri} {m : Nat} (n : Nat) (hq : Rp k q m) : Rp k (k.c.times n q) (n * m) := by
  refine rp_times_go k hq (bl n) ⟨0, 1, 0⟩ 0 (by rw [Nat.zero_mul]; exact rp_none k) ?_
  rw [Nat.div_eq_of_lt (bl_lt n)]
theorem rp_inf {t : Tri} {n : Nat} (h : Rp k t n) : t.z = 0 → gm k n = none := fun hz => by
  have h2 := h.2
  rcases hg : gm k n with _ | ⟨x, y⟩
  · rfl
  · rw [hg] at h2
    exact absurd (by show cf k t.z = 0; rw [hz]; rfl) h2.1
theorem rp_fin {t : Tri} {n : Nat} (h : Rp k t n) (hz : t.z ≠ 0) : ∃ u, u < k.c.p ∧ u * t.z % k.c.p = 1 ∧ fml k.c.p t.x u = pX k (gm k n) ∧ fml k.c.p t.y u = pY k (gm k n) ∧ pI k (gm k n) = false := by
  obtain ⟨⟨hx, hy, hzp⟩, h2⟩ := h
  obtain ⟨u, hu, e⟩ := inv_nat k.pr (show t.z % k.c.p ≠ 0 by rw [Nat.mod_eq_of_lt hzp]; exact hz)
  refine ⟨u, hu, e, ?_⟩
  have e1 : cf k u * cf k t.z = 1 := by
    rw [← cf_fml, ← cf1]; unfold fml; rw [e]
  have hzf : cf k t.z ≠ 0 := fun h0 => hz (by have := congrArg Fin.val h0; rwa [val_cf k hzp] at this)
  rcases hg : gm k n with _ | ⟨x, y⟩
  · rw [hg] at h2
    exact absurd h2.2.1 hzf
  · rw [hg] at h2
    have g1 : cf k t.x = x * cf k t.z := h2.2.1
    have g2 : cf k t.y = y * cf k t.z := h2.2.2
    have key : ∀ a : Nat, ∀ v : Fin k.c.p, cf k a = v * cf k t.z → fml k.c.p a u = v.val := fun a v hv => by
      have e2 : cf k (fml k.c.p a u) = v := by
        rw [cf_fml, hv]
        have : v * cf k t.z * cf k u = v * (cf k u * cf k t.z) := by clear hx hy hzp h2 hz e e1 hzf hg g1 g2 hv; grind -lia -linarith -order (splits := 0) (ematch := 0)
        rw [this, e1]
        clear this
        grind -lia -linarith -order (splits := 0) (ematch := 0)
      rw [← e2, val_cf k (fml_lt _ _ k.p0)]
    exact ⟨key _ _ g1, key _ _ g2, rfl⟩
/-- the cells of n G -/
noncomputable def gpt (n : Nat) : Array Value := ptc (pX k (gm k n)) (pY k (gm k n)) (pI k (gm k n))
theorem plain_rp {t : Tri} {n : Nat} (c f d : Nat) (w : World) (h : Rp k t n) (H : CurveAt w c f d k.c) : Calls Try.prog 25 #[.pointer (some ⟨c, 0, none⟩), .agg (pc t.x t.y t.z)] w fun e w' => e = .returned (.agg (gpt k n)) ∧ Below w.heap.size w w' := by
  by_cases hz : t.z = 0
  · have e := rp_inf k h hz
    unfold gpt
    rw [e, hz]
    exact curve_plain_inf c f d t.x t.y k.c w
  · obtain ⟨u, hu, e, e1, e2, e3⟩ := rp_fin k h hz
    unfold gpt
    rw [← e1, ← e2, e3]
    exact curve_plain c f d t.x t.y t.z u k.c w h.1.1 h.1.2.1 h.1.2.2 hz hu e H
theorem triple_rp (n : Nat) (w : World) : Calls Try.prog 27 #[.agg (gpt k n)] w fun e w' => e = .returned (.agg (tc (trN k (gm k n)))) ∧ Below w.heap.size w w' := by
  unfold gpt
  rcases gm k n with _ | ⟨x, y⟩
  · exact curve_triple_true 0 0 w
  · exact curve_triple_false x.val y.val w
theorem gm_onC (n : Nat) : OnC k.c (pX k (gm k n)) (pY k (gm k n)) (pI k (gm k n)) := by
  have h := gm_on k n
  rcases hg : gm k n with _ | ⟨x, y⟩
  · exact .inl ⟨rfl, rfl, rfl⟩
  · rw [hg] at h
    refine .inr ⟨rfl, x.isLt, y.isLt, ?_⟩
    have h1 : y * y = x * x * x + gA1 k * x + gB1 k := h
    have e1 : cf k (fml k.c.p y.val y.val) = y * y := by rw [cf_fml, cf_val]
    have e2 : cf k (rgt k.c x.val) = x * x * x + gA1 k * x + gB1 k := by
      unfold rgt
      simp only [cf_fad, cf_fml, cf_val, gA1, gB1]
      clear h h1 hg e1
      grind -lia -linarith -order (splits := 0) (ematch := 0)
    have e3 := congrArg Fin.val (e1.trans (h1.trans e2.symm))
    rwa [val_cf k (fml_lt _ _ k.p0), val_cf k (rgt_lt _ k.ok)] at e3
theorem on_rp (n : Nat) (c f d : Nat) (w : World) (H : CurveAt w c f d k.c) : Calls Try.prog 28 #[.pointer (some ⟨c, 0, none⟩), .agg (gpt k n)] w fun e w' => e = .returned (.bool true) ∧ Below w.heap.size w w' :=
  curve_on c f d _ _ _ k.c w (gm_onC k n) H
theorem sum_rp {s q : Tri} {m n : Nat} (c f d : Nat) (w : World) (hs : Rp k s m) (hq : Rp k q n) (H : CurveAt w c f d k.c) : Calls Try.prog 48 #[.pointer (some ⟨c, 0, none⟩), .agg (pc s.x s.y s.z), .agg (pc q.x q.y q.z)] w fun e w' => e = .returned (.agg (tc (k.c.sum s q))) ∧ Below w.heap.size w w' :=
  curve_sum c f d s.x s.y s.z q.x q.y q.z k.c w hs.1 hq.1 H
end
end Go.Proofs.Ytkoonhiplicbkaa.Cw
