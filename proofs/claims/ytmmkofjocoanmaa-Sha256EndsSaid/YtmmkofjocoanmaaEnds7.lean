/-
  (package curvetlaw7) The walk of Sha256Ends: true. No condition.
-/
import Derived.Test.YtmmkofjocoanmaaLawA
import Derived.IntWalk
set_option linter.unusedSimpArgs false
set_option linter.unusedVariables false
namespace Go.Proofs.Ytmmkofjocoanmaa.Cw
open Go Go.RowKit

theorem and255 (c : Int) : ∃ k : Nat, bits BinOp.and IntKind.i64 c 255 = (k : Int) ∧ k < 256 := by
  have h : ((BitVec.ofInt 64 c) &&& (BitVec.ofInt 64 255)).toNat < 256 := by
    rw [BitVec.toNat_and]
    exact Nat.lt_of_le_of_lt Nat.and_le_right (by decide)
  refine ⟨((BitVec.ofInt 64 c) &&& (BitVec.ofInt 64 255)).toNat, ?_, h⟩
  show IntKind.i64.wrap (((BitVec.ofInt 64 c) &&& (BitVec.ofInt 64 255)).toNat : Int) = _
  exact IntWalk.i64_in _ (by omega)

/-- so many noughts -/
def noughts (k : Nat) : ByteArray := ⟨(List.replicate k 0).toArray⟩
theorem noughts_size (k : Nat) : (noughts k).size = k := by show (List.replicate k (0 : UInt8)).toArray.size = k; simp
theorem noughts_succ (k : Nat) : noughts k ++ ⟨#[0]⟩ = noughts (k + 1) := by
  apply ByteArray.ext
  rw [ByteArray.data_append]
  show (List.replicate k (0 : UInt8)).toArray ++ #[0] = (List.replicate (k + 1) (0 : UInt8)).toArray
  rw [List.replicate_succ', List.append_toArray]

section
variable {P : Program} {ops : Array Oper} {rest : List Oper} {o : Oper} {a : Act} {w : World} {Q : Exit → Act → World → Prop}
theorem Ow.of_own {B e size n : Nat} {v : Value} {xs : List Value} (h : w.ownsRow B e size v n xs) : Ow w B e size v n xs := by
  refine ⟨h.1, ?_⟩
  rcases h.2 with ⟨rfl, h0⟩ | ⟨g, cap, cur, hv, hb, hg, hnc, hcm, hcs, ht⟩
  · exact .inl ⟨rfl, h0⟩
  · exact .inr ⟨g, cap, cur, _, hv, hb, hg, .inl rfl, hnc, hcm, hcs, ht⟩
/-- 'make([]byte, n)' -/
theorem wpList_make_bytes (hg : o.guard = none) (l c : Operand) (t : TypeId) (hop : o.op = Op.makeSlice t l c)
    (B : Nat) (e : TypeId) (i : TypeInfo) (h1 : P.underlying t = some (.slice e)) (h2 : P.info? e = some i) (h3 : i.zero = some (.int .u8 0)) (h4 : i.size = 1) (h5 : i.bytes = 1)
    (kl kc : IntKind) (L C : Int) (n : Nat) (hl : a.eval l = .int kl L) (hc : a.eval c = .int kc C) (hL : L = (n : Int)) (hC : C = (n : Int)) (b2 : n ≤ 281474976710656) (b4 : B ≤ w.heap.size)
    (hK : ∀ w', Ow w' B e 1 (.slice (some ⟨w.heap.size, 0, none⟩) n n) n ((List.replicate n (0 : UInt8)).map v8) → w.grownBy w' none → wpList P ops Q rest (a.put o.dst (.slice (some ⟨w.heap.size, 0, none⟩) n n)) w') :
    wpList P ops Q (o :: rest) a w := by
  refine wpList_make_full w hg l c t hop B e i (.int .u8 0) 1 h1 h2 h3 h4 kl kc L C n hl hc hL hC (by rw [h5]; omega) (by simp only [maxLen]; omega) b4 fun w' ho hgr => hK w' ?_ hgr
  have e1 : (madeCells (Value.int .u8 0).cells (n * 1)).toList = (List.replicate n (0 : UInt8)).map v8 := by
    refine List.ext_getElem (by simp [madeCells]) fun j h1 h2 => ?_
    simp [madeCells, Value.cells, v8, Nat.mod_one]
  rw [e1] at ho
  exact Ow.of_own ho
end

set_option maxRecDepth 100000 in
set_option maxHeartbeats 2000000 in
theorem sha256Ends_walk (c : Int) (wide : Bool) (w : World) (hc : (Lit.int .i64 c).wf = true) : Calls Try.prog 7 #[.int .i64 c, .bool wide] w fun e w' => e = .returned (.bool true) ∧ Below w.heap.size w w' := by
  clear hc
  obtain ⟨k, hk, hk2⟩ := and255 c
  go_enter Try.func7, Try.ntmps7
  have b1 : isBits 256 := .inr rfl
  have b2 : isBits 224 := .inl rfl
  have d1 := d32_size 256 (noughts k) b1
  have d2 := d32_size 224 (noughts k) b2
  obtain ⟨i0, hi, hz0, hz1, hz2⟩ := info_parts info_u8
  have HI := Lib.hid hi
  have HZ0 := Lib.hid hz0
  have HZ1 := Lib.hid hz1
  have HZ2 := Lib.hid hz2
  clear hi hz0 hz1 hz2
  cases wide
  · go_wp2_with (first
        | (go_at_call 23; refine (awake_calls _).mono ?_; rintro e w0 ⟨rfl, hb0⟩)
        | (go_at_call 22; refine (num_calls _ _).mono ?_; rintro e w9 ⟨rfl, rfl⟩)
        | (refine wpList_make_bytes rfl (.tmp 19) (.tmp 19) 39 rfl w0.heap.size 5 i0 Try.underlying39 HI.out HZ0.out HZ1.out HZ2.out .i64 .i64 (k : Int) (k : Int) k rfl rfl rfl rfl (by omega) (Nat.le_refl _) ?_
           intro wm how hgm
           have hbm : Below w0.heap.size w0 wm := (Below.refl _ _).grown hgm (Nat.le_refl _) (fun k hk => by cases hk)
           have hcv := run_convert_rd (P := Try.prog) (how.rd (fun _ => True) (fun _ _ => trivial)) 39 9 5 Try.underlying39 Try.underlying5 Try.underlying9
           rw [show ({ data := (List.replicate k (0 : UInt8)).toArray } : ByteArray) = noughts k from rfl] at hcv
           clear how hgm)
        | (go_at_call 25; refine (new_yes 224 _ b2).mono ?_; rintro e w2 ⟨b, rfl, hh2, hbl, hb2⟩; have HH2 := Lib.hid hh2; clear hh2)
        | (go_at_call 20; refine (of_yes 224 (noughts k) _ b2 (by rw [noughts_size]; omega)).mono ?_; rintro e w1 ⟨rfl, hb1⟩))
    have z0 := hb0.size
    have zm := hbm.size
    have z1 := hb1.size
    have z2 := hb2.size
    have hbw : w.heap.size ≤ b := by omega
    go_loopw [12] (fun i wr => ∃ n : Nat, n ≤ k ∧ i = .int .i64 n ∧ HashS wr b 224 (noughts n) ∧ Below w.heap.size w wr) (fun i _ => k - (intOf i).toNat)
    case atStart => exact ⟨0, by omega, rfl, HH2.out, (((hb0.trans (hbm.mono (by omega))).trans (hb1.mono (by omega))).trans (hb2.mono (by omega)))⟩
    case round =>
      obtain ⟨n, hn, rfl, hh, hbr⟩ := hrel
      have HH := Lib.hid hh
      have hz := hbr.size
      clear hh
      by_cases hlt : n < k
      · go_wp2_with (go_at_call 26; refine (write_calls b 224 _ _ _ (by decide) HH.out).mono ?_; rintro e w3 ⟨rfl, hh3, hb3⟩; rw [noughts_succ] at hh3; have HH3 := Lib.hid hh3; clear hh3)
        go_roundw
        case rel => exact ⟨n + 1, by omega, by go_num, HH3.out, But.below hbr hb3 (by omega) hz⟩
        case measure => simp [intOf]; omega
      · obtain rfl : n = k := by omega
        go_wp2_with (first
          | (go_at_call 22; refine (num_calls _ _).mono ?_; rintro e w9 ⟨rfl, rfl⟩)
          | (go_at_call 26; refine (write_calls b 224 _ _ _ (by decide) HH.out).mono ?_; rintro e w3 ⟨rfl, hh3, hb3⟩; have HH3 := Lib.hid (show HashS w3 b 224 (noughts n) from by have hem : ({ data := #[] } : ByteArray) = ByteArray.empty := rfl; simpa [hem] using hh3); clear hh3)
          | (go_at_call 27; refine (sum_calls b 224 _ _ b2 HH3.out).mono ?_; rintro e w4 ⟨rfl, hb4⟩))
        go_ret
        have e3 := But.below hbr hb3 (by omega) hz
        exact ⟨rfl, e3.trans (hb4.mono e3.size)⟩
  · go_wp2_with (first
        | (go_at_call 23; refine (awake_calls _).mono ?_; rintro e w0 ⟨rfl, hb0⟩)
        | (go_at_call 22; refine (num_calls _ _).mono ?_; rintro e w9 ⟨rfl, rfl⟩)
        | (refine wpList_make_bytes rfl (.tmp 19) (.tmp 19) 39 rfl w0.heap.size 5 i0 Try.underlying39 HI.out HZ0.out HZ1.out HZ2.out .i64 .i64 (k : Int) (k : Int) k rfl rfl rfl rfl (by omega) (Nat.le_refl _) ?_
           intro wm how hgm
           have hbm : Below w0.heap.size w0 wm := (Below.refl _ _).grown hgm (Nat.le_refl _) (fun k hk => by cases hk)
           have hcv := run_convert_rd (P := Try.prog) (how.rd (fun _ => True) (fun _ _ => trivial)) 39 9 5 Try.underlying39 Try.underlying5 Try.underlying9
           rw [show ({ data := (List.replicate k (0 : UInt8)).toArray } : ByteArray) = noughts k from rfl] at hcv
           clear how hgm)
        | (go_at_call 25; refine (new_yes 256 _ b1).mono ?_; rintro e w2 ⟨b, rfl, hh2, hbl, hb2⟩; have HH2 := Lib.hid hh2; clear hh2)
        | (go_at_call 20; refine (of_yes 256 (noughts k) _ b1 (by rw [noughts_size]; omega)).mono ?_; rintro e w1 ⟨rfl, hb1⟩))
    have z0 := hb0.size
    have zm := hbm.size
    have z1 := hb1.size
    have z2 := hb2.size
    have hbw : w.heap.size ≤ b := by omega
    go_loopw [12] (fun i wr => ∃ n : Nat, n ≤ k ∧ i = .int .i64 n ∧ HashS wr b 256 (noughts n) ∧ Below w.heap.size w wr) (fun i _ => k - (intOf i).toNat)
    case atStart => exact ⟨0, by omega, rfl, HH2.out, (((hb0.trans (hbm.mono (by omega))).trans (hb1.mono (by omega))).trans (hb2.mono (by omega)))⟩
    case round =>
      obtain ⟨n, hn, rfl, hh, hbr⟩ := hrel
      have HH := Lib.hid hh
      have hz := hbr.size
      clear hh
      by_cases hlt : n < k
      · go_wp2_with (go_at_call 26; refine (write_calls b 256 _ _ _ (by decide) HH.out).mono ?_; rintro e w3 ⟨rfl, hh3, hb3⟩; rw [noughts_succ] at hh3; have HH3 := Lib.hid hh3; clear hh3)
        go_roundw
        case rel => exact ⟨n + 1, by omega, by go_num, HH3.out, But.below hbr hb3 (by omega) hz⟩
        case measure => simp [intOf]; omega
      · obtain rfl : n = k := by omega
        go_wp2_with (first
          | (go_at_call 22; refine (num_calls _ _).mono ?_; rintro e w9 ⟨rfl, rfl⟩)
          | (go_at_call 26; refine (write_calls b 256 _ _ _ (by decide) HH.out).mono ?_; rintro e w3 ⟨rfl, hh3, hb3⟩; have HH3 := Lib.hid (show HashS w3 b 256 (noughts n) from by have hem : ({ data := #[] } : ByteArray) = ByteArray.empty := rfl; simpa [hem] using hh3); clear hh3)
          | (go_at_call 27; refine (sum_calls b 256 _ _ b1 HH3.out).mono ?_; rintro e w4 ⟨rfl, hb4⟩))
        go_ret
        have e3 := But.below hbr hb3 (by omega) hz
        exact ⟨rfl, e3.trans (hb4.mono e3.size)⟩
end Go.Proofs.Ytmmkofjocoanmaa.Cw
