/-
  (package curvetref7) xor and Hmac: the same keyed hash. Condition: key and text take at most 2^46 bytes each.
-/
import Derived.Test.YtbgbfigndelogaaMacB
import Derived.Lib.LazyBuf
set_option linter.unusedSimpArgs false
set_option linter.unusedVariables false
namespace Go.Proofs.Ytbgbfigndelogaa.Cw
open Go Go.RowKit
attribute [local go_sem ↓ high] cells_v8 run_store_v8 bin_xor8
attribute [local go_sem high] match_v8 run_store_v8

theorem Ow.sets {B e n c g : Nat} : ∀ (t : List UInt8) (o : Nat) (l : List UInt8) (w : World), Ow w B e 1 (.slice (some ⟨g, 0, none⟩) n c) n (l.map v8) → o + t.length ≤ n →
    Ow (w.setCells g o (t.map v8)) B e 1 (.slice (some ⟨g, 0, none⟩) n c) n ((l.take o ++ t ++ l.drop (o + t.length)).map v8) ∧ But g w (w.setCells g o (t.map v8)) ∧ (w.setCells g o (t.map v8)).heap.size = w.heap.size
  | [], o, l, w, h, hn => by
    refine ⟨?_, But.refl _ _, rfl⟩
    simp only [List.length_nil, Nat.add_zero, List.append_nil, List.take_append_drop]
    exact h
  | x :: r, o, l, w, h, hn => by
    have hl : l.length = n := by simpa using h.1
    simp only [List.length_cons] at hn
    have h1 := h.set o (by omega) x
    obtain ⟨i1, i2, i3⟩ := Ow.sets r (o + 1) (l.set o x) (w.setCell ⟨g, o, none⟩ (v8 x)) h1 (by omega)
    refine ⟨?_, ((But.refl g w).setCell (.inl rfl) _).trans i2, i3.trans (by simp)⟩
    have e1 : (l.set o x).take (o + 1) = l.take o ++ [x] := by
      rw [List.take_succ_eq_append_getElem (by simp; omega)]
      rw [List.take_set, List.set_eq_of_length_le (by simp; omega)]
      simp
    have e2 : (l.set o x).drop (o + 1 + r.length) = l.drop (o + (r.length + 1)) := by
      rw [List.drop_set_of_lt (by omega), show o + 1 + r.length = o + (r.length + 1) by omega]
    rw [e1, e2] at i1
    show Ow ((w.setCell ⟨g, o, none⟩ (v8 x)).setCells g (o + 1) (r.map v8)) B e 1 _ n _
    simpa using i1

section
variable {P : Program} {ops : Array Oper} {rest : List Oper} {o : Oper} {a : Act} {w : World} {Q : Exit → Act → World → Prop}
theorem wpList_copy_str (hgd : o.guard = none) (d x : Operand) (dT sT : TypeId) (hop : o.op = Op.call { callee := Callee.builtin Builtin.copy, args := #[d, x], argTypes := #[dT, sT] })
    (elem : TypeId) (hu : P.underlying dT = some (.slice elem)) (hz : ∀ w, (Go.sizeOf elem).run P w = .ok 1 w) (B e g n c : Nat) (l : List UInt8) (hd : a.eval d = .slice (some ⟨g, 0, none⟩) n c) (t : ByteArray) (hx : a.eval x = .string t) (hle : t.size ≤ n)
    (how : Ow w B e 1 (.slice (some ⟨g, 0, none⟩) n c) n (l.map v8))
    (h : ∀ w', Ow w' B e 1 (.slice (some ⟨g, 0, none⟩) n c) n ((t.data.toList ++ l.drop t.size).map v8) → But g w w' → w'.heap.size = w.heap.size → wpList P ops Q rest (a.put o.dst (goInt t.size)) w') : wpList P ops Q (o :: rest) a w := by
  refine wpList_plain hgd fun K hK => ?_
  have hl : t.data.toList.length = t.size := by simp
  obtain ⟨i1, i2, i3⟩ := Ow.sets t.data.toList 0 l w how (by omega)
  have hrun := run_copy_string (P := P) w dT sT o.type elem g 0 n c t hu hz hle (fun j hj => by rw [Nat.zero_add, (how.cel j (by omega)).1]; rfl) (fun j hj => by rw [Nat.zero_add, (how.cel j (by omega)).2])
  unfold Oper.wp
  simp [execOp, hop, resolve, invoke, builtin, hd, hx, hrun, Result.andThen]
  refine hK _ _ (h (w.setCells g 0 (t.data.toList.map v8)) ?_ i2 i3)
  simpa [hl] using i1
end

set_option maxRecDepth 100000 in
set_option maxHeartbeats 1000000 in
theorem xor_short (id : Nat) (key : ByteArray) (x : UInt8) (w : World) (hi : isId id) (hs : key.size ≤ blockOf id) :
    Calls Try.prog 26 #[.int .i64 id, .string key, v8 x] w fun e w' => e = .returned (.string (xb x (key ++ noughts (blockOf id - key.size)))) ∧ Below w.heap.size w w' := by
  have hbp := blockOf_pos id
  obtain ⟨i0, hi0, hz0, hz1, hz2⟩ := info_parts info_u8
  have HI := Lib.hid hi0
  have HZ0 := Lib.hid hz0
  have HZ1 := Lib.hid hz1
  have HZ2 := Lib.hid hz2
  clear hi0 hz0 hz1 hz2
  obtain ⟨n, hn⟩ : ∃ n, n = blockOf id := ⟨_, rfl⟩
  have hn9 : n ≤ 200 := by omega
  have hrb := rblock id hi
  rw [← hn] at hrb hs
  rw [← hn]
  clear hbp hn
  go_enter Try.func26, Try.ntmps26
  go_wp2_with (first
    | (go_at_call 42; refine (hrb _).mono ?_; rintro e w9 ⟨rfl, rfl⟩)
    | (refine wpList_make_bytes rfl (.tmp 18) (.tmp 18) 35 rfl w.heap.size 5 i0 Try.underlying35 HI.out HZ0.out HZ1.out HZ2.out .i64 .i64 n n n rfl rfl rfl rfl (by omega) (Nat.le_refl _) ?_
       intro w1 how1 hg1
       have HW1 := Lib.hid how1
       have HG1 := Lib.hid hg1
       clear how1 hg1)
    | (refine wpList_copy_str rfl (.tmp 20) (.tmp 21) 35 9 rfl 5 Try.underlying35 (fun w => by kernel_rfl) w.heap.size 5 w.heap.size n n (List.replicate n 0) rfl key rfl hs HW1.out ?_
       intro w2 how2 hb2 hs2
       have HW2 := Lib.hid how2
       clear how2))
  obtain ⟨L, hL⟩ : ∃ L, L = key.data.toList ++ (List.replicate n 0).drop key.size := ⟨_, rfl⟩
  have hLn : L.length = n := by rw [hL]; simp; omega
  rw [← hL] at HW2
  have hB1 : Below w.heap.size w w1 := ⟨HG1.out.os, HG1.out.tape, HG1.out.output, HG1.out.size, fun i hi => HG1.out.block i hi (by simp)⟩
  have hB2 : Below w.heap.size w w2 := But.below hB1 hb2 (Nat.le_refl _) hB1.size
  have HL := Lib.hid hL
  have HLn := Lib.hid hLn
  clear hL hLn
  go_loopw [8] (fun i wr => ∃ k : Nat, k ≤ n ∧ i = .int .i64 k ∧ Ow wr w.heap.size 5 1 (.slice (some ⟨w.heap.size, 0, none⟩) n n) n ((xlk x L k).map v8) ∧ Below w.heap.size w wr) (fun i _ => n - (intOf i).toNat)
  case atStart => exact ⟨0, by omega, rfl, by rw [xlk_zero]; exact HW2.out, hB2⟩
  case round =>
    obtain ⟨k, hk, rfl, hown, hbr⟩ := hrel
    have HWr := Lib.hid hown
    clear hown
    by_cases hlt : k < n
    · have hc := (HWr.out.cel k hlt).1
      have hf := (HWr.out.cel k hlt).2
      rw [xlk_get x L k (by rw [HLn.out]; exact hlt)] at hc
      have HS := Lib.hid (HWr.out.set k hlt (L.getD k 0 ^^^ x))
      have HXS := Lib.hid (xlk_set x L k (by rw [HLn.out]; exact hlt))
      rw [HXS.out] at HS
      go_wp2
      go_roundw
      case rel => exact ⟨k + 1, by omega, by go_num, HS.out, hbr.setCell (by simp) _⟩
      case measure => simp [intOf]; omega
    · obtain rfl : k = n := by omega
      have hrd := HWr.out.rd (fun _ => True) (fun _ _ => trivial)
      rw [xlk_all x L _ (by rw [HLn.out]; exact Nat.le_refl _)] at hrd
      have hcv := run_convert_rd (P := Try.prog) hrd 35 9 5 Try.underlying35 Try.underlying5 Try.underlying9
      clear hrd
      go_wp2
      go_ret
      refine ⟨?_, hbr⟩
      have e : xb x (key ++ noughts (k - key.size)) = ⟨(xl x L).toArray⟩ := by
        unfold xb
        rw [HL.out, List.drop_replicate]
        congr 3
      rw [e]; rfl
set_option maxRecDepth 100000 in
set_option maxHeartbeats 1000000 in
theorem xor_long (id : Nat) (key : ByteArray) (x : UInt8) (w : World) (hi : isId id) (hs : blockOf id < key.size) (hk : key.size ≤ 140737488351232) :
    Calls Try.prog 26 #[.int .i64 id, .string key, v8 x] w fun e w' => e = .returned (.string (xb x (dg id key ++ noughts (blockOf id - szOf id)))) ∧ Below w.heap.size w w' := by
  have hbp := blockOf_pos id
  obtain ⟨i0, hi0, hz0, hz1, hz2⟩ := info_parts info_u8
  have HI := Lib.hid hi0
  have HZ0 := Lib.hid hz0
  have HZ1 := Lib.hid hz1
  have HZ2 := Lib.hid hz2
  clear hi0 hz0 hz1 hz2
  obtain ⟨n, hn⟩ : ∃ n, n = blockOf id := ⟨_, rfl⟩
  have hn9 : n ≤ 200 := by omega
  have hrb := rblock id hi
  have hlt := blk_lt hi
  obtain ⟨z, hz⟩ : ∃ z, z = szOf id := ⟨_, rfl⟩
  obtain ⟨key2, hk2⟩ : ∃ key2, key2 = dg id key := ⟨_, rfl⟩
  have hk2z : key2.size = z := by rw [hk2, hz]; exact dg_sz hi key
  have hzn : key2.size ≤ n := by omega
  have HZ := Lib.hid hz
  have HK2 := Lib.hid hk2
  rw [← hn] at hrb hs
  rw [← hn, ← hz, ← hk2, ← hk2z]
  have HK2Z := Lib.hid hk2z
  clear hbp hn hlt hz hk2 hk2z
  go_enter Try.func26, Try.ntmps26
  go_wp2_with (first
    | (go_at_call 42; refine (hrb _).mono ?_; rintro e w9 ⟨rfl, rfl⟩)
    | (go_at_call 25; refine (refOf_id id key _ hi hk).mono ?_; rintro e w0 ⟨he, hb0⟩; rw [← HK2.out] at he; subst he)
    | (refine wpList_make_bytes rfl (.tmp 18) (.tmp 18) 35 rfl w0.heap.size 5 i0 Try.underlying35 HI.out HZ0.out HZ1.out HZ2.out .i64 .i64 n n n rfl rfl rfl rfl (by omega) (Nat.le_refl _) ?_
       intro w1 how1 hg1
       have HW1 := Lib.hid how1
       have HG1 := Lib.hid hg1
       clear how1 hg1)
    | (refine wpList_copy_str rfl (.tmp 20) (.tmp 21) 35 9 rfl 5 Try.underlying35 (fun w => by kernel_rfl) w0.heap.size 5 w0.heap.size n n (List.replicate n 0) rfl key2 rfl hzn HW1.out ?_
       intro w2 how2 hb2 hs2
       have HW2 := Lib.hid how2
       clear how2))
  obtain ⟨L, hL⟩ : ∃ L, L = key2.data.toList ++ (List.replicate n 0).drop key2.size := ⟨_, rfl⟩
  have hLn : L.length = n := by rw [hL]; simp; omega
  rw [← hL] at HW2
  have hB1 : Below w0.heap.size w0 w1 := ⟨HG1.out.os, HG1.out.tape, HG1.out.output, HG1.out.size, fun i hi => HG1.out.block i hi (by simp)⟩
  have hB2 : Below w0.heap.size w0 w2 := But.below hB1 hb2 (Nat.le_refl _) hB1.size
  have HL := Lib.hid hL
  have HLn := Lib.hid hLn
  clear hL hLn
  go_loopw [8] (fun i wr => ∃ k : Nat, k ≤ n ∧ i = .int .i64 k ∧ Ow wr w0.heap.size 5 1 (.slice (some ⟨w0.heap.size, 0, none⟩) n n) n ((xlk x L k).map v8) ∧ Below w0.heap.size w0 wr) (fun i _ => n - (intOf i).toNat)
  case atStart => exact ⟨0, by omega, rfl, by rw [xlk_zero]; exact HW2.out, hB2⟩
  case round =>
    obtain ⟨k, hk, rfl, hown, hbr⟩ := hrel
    have HWr := Lib.hid hown
    clear hown
    by_cases hlt : k < n
    · have hc := (HWr.out.cel k hlt).1
      have hf := (HWr.out.cel k hlt).2
      rw [xlk_get x L k (by rw [HLn.out]; exact hlt)] at hc
      have HS := Lib.hid (HWr.out.set k hlt (L.getD k 0 ^^^ x))
      have HXS := Lib.hid (xlk_set x L k (by rw [HLn.out]; exact hlt))
      rw [HXS.out] at HS
      go_wp2
      go_roundw
      case rel => exact ⟨k + 1, by omega, by go_num, HS.out, hbr.setCell (by simp) _⟩
      case measure => simp [intOf]; omega
    · obtain rfl : k = n := by omega
      have hrd := HWr.out.rd (fun _ => True) (fun _ _ => trivial)
      rw [xlk_all x L _ (by rw [HLn.out]; exact Nat.le_refl _)] at hrd
      have hcv := run_convert_rd (P := Try.prog) hrd 35 9 5 Try.underlying35 Try.underlying5 Try.underlying9
      clear hrd
      go_wp2
      go_ret
      refine ⟨?_, hb0.trans (hbr.mono hb0.size)⟩
      have e : xb x (key2 ++ noughts (k - key2.size)) = ⟨(xl x L).toArray⟩ := by
        unfold xb
        rw [HL.out, List.drop_replicate]
        congr 3
      rw [e]; rfl
theorem xor_calls (id : Nat) (key : ByteArray) (x : UInt8) (w : World) (hi : isId id) (hk : key.size ≤ 140737488351232) :
    Calls Try.prog 26 #[.int .i64 id, .string key, v8 x] w fun e w' => e = .returned (.string (xb x (kp id key))) ∧ Below w.heap.size w w' := by
  unfold kp
  by_cases h : blockOf id < key.size
  · rw [if_pos h]; exact xor_long id key x w hi h hk
  · rw [if_neg h]; exact xor_short id key x w hi (by omega)
theorem xor54 (id : Nat) (key : ByteArray) (w : World) (hi : isId id) (hk : key.size ≤ 140737488351232) :
    Calls Try.prog 26 #[.int .i64 id, .string key, .int .u8 54] w fun e w' => e = .returned (.string (ipad id key)) ∧ Below w.heap.size w w' := xor_calls id key 54 w hi hk
theorem xor92 (id : Nat) (key : ByteArray) (w : World) (hi : isId id) (hk : key.size ≤ 140737488351232) :
    Calls Try.prog 26 #[.int .i64 id, .string key, .int .u8 92] w fun e w' => e = .returned (.string (opad id key)) ∧ Below w.heap.size w w' := xor_calls id key 92 w hi hk
theorem refHmac_calls (id : Nat) (key msg : ByteArray) (w : World) (hi : isId id) (hk : key.size ≤ 140737488351232) (hm9 : msg.size ≤ 140737488351000) :
    Calls Try.prog 15 #[.int .i64 id, .string key, .string msg] w fun e w' => e = .returned (.string (hm id key msg)) ∧ Below w.heap.size w w' := by
  have hiz := ipad_size hi key
  have hoz := opad_size hi key
  have hdz := dg_sz hi (ipad id key ++ msg)
  have hbp := blockOf_pos id
  have hsp := szOf_pos id
  have z1 : (ipad id key ++ msg).size ≤ 140737488351232 := by rw [ByteArray.size_append, hiz]; omega
  have z2 : (opad id key ++ dg id (ipad id key ++ msg)).size ≤ 140737488351232 := by rw [ByteArray.size_append, hoz, hdz]; omega
  have z3 : blockOf id ≤ 1000 := by omega
  clear hbp
  go_enter Try.func15, Try.ntmps15
  go_wp2_with (fail)
  with_reducible refine (xor92 id key _ hi hk).mono ?_
  rintro e w1 ⟨rfl, hb1⟩
  go_wp2_with (fail)
  with_reducible refine (xor54 id key _ hi hk).mono ?_
  rintro e w2 ⟨rfl, hb2⟩
  have hB2 := hb1.trans (hb2.mono hb1.size)
  go_wp2_with (fail)
  with_reducible refine (refOf_id id _ _ hi z1).mono ?_
  rintro e w3 ⟨rfl, hb3⟩
  have hB3 := hB2.trans (hb3.mono hB2.size)
  go_wp2_with (fail)
  with_reducible refine (refOf_id id _ _ hi z2).mono ?_
  rintro e w4 ⟨rfl, hb4⟩
  have hB4 := hB3.trans (hb4.mono hB3.size)
  go_wp2
  go_ret
  exact ⟨rfl, hB4⟩
end Go.Proofs.Ytbgbfigndelogaa.Cw
