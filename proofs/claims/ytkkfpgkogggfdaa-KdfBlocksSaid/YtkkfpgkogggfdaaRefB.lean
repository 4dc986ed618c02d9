/-
  (package curvetref7, 32 bits) What block32 computes: the words of the row 'h' become blk32 of them and of the block; of what memory held before nothing else turns. Condition: the rows are of 8 and 64 words, the block has 64 bytes.
-/
import Derived.Test.YtkkfpgkogggfdaaRefA
set_option linter.unusedVariables false
set_option linter.unusedSimpArgs false
set_option linter.unusedVariables false
namespace Go.Proofs.Ytkkfpgkogggfdaa.Cw
open Go Go.RowKit
attribute [local go_sem ↓ high] bin_or32 bin_xor32 bin_and32 bin_add32 bin_shr32 bin_shl32 un_xor32 rconv8_32 bin_xor_ones32
attribute [local go_sem ↓ high] cells_v32 cells_v8 run_store_v32 run_store_v8
attribute [local go_sem high] match_v32 match_v8 run_store_v32 run_store_v8

theorem info_u32 : (Try.prog.info? 50).map (fun i => (i.zero, i.size, i.bytes)) = some (some (.int .u32 0), 1, 4) := by kernel_rfl

set_option maxRecDepth 100000 in
set_option maxHeartbeats 4000000 in
theorem block32_calls (hq hc kq kc g off cap : Nat) (bs : Nat → UInt8) (h k : Nat → UInt32) (w : World) (hg : g < w.heap.size)
    (hb : ∀ i, i < 64 → w.cell? ⟨g, off + i, none⟩ = some (v8 (bs i))) (hh : w.heap[hq]? = some (.cells (fa v32 8 h) 50 (0, 0))) (hk : w.heap[kq]? = some (.cells (fa v32 64 k) 50 (0, 0))) :
    Calls Try.prog 23 #[.slice (some ⟨hq, 0, none⟩) 8 hc, .slice (some ⟨g, off, none⟩) 64 cap, .slice (some ⟨kq, 0, none⟩) 64 kc] w fun e w' => e = .returned (.tuple #[]) ∧ w'.heap[hq]? = some (.cells (fa v32 8 (blk32 k h bs)) 50 (0, 0)) ∧ But hq w w' := by
  have hhl := lt_of hh
  have hkl := lt_of hk
  have HH := Lib.hid hh
  have HK := Lib.hid hk
  have HB := Lib.hid hb
  clear hh hk hb
  obtain ⟨i0, hi, hz0, hz1, hz2⟩ := info_parts info_u32
  have HI := Lib.hid hi
  have HZ0 := Lib.hid hz0
  have HZ1 := Lib.hid hz1
  have HZ2 := Lib.hid hz2
  clear hi hz0 hz1 hz2
  go_enter Try.func23, Try.ntmps23
  go_wp2_with (first
    | (go_at_call 36; refine (words32_calls g off cap bs _ hg HB.out).mono ?_; rintro e w1 ⟨p, rfl, hp, hw, hb1⟩
       have HW := Lib.hid hw
       have hpl := lt_of hw
       have hs1 := hb1.size
       clear hw)
    | (at_builtin
       refine wpList_append_own _ rfl (.tmp 17) (.tmp 18) 45 rfl w1.heap.size 50 i0 (.int .u32 0) 1 4 Try.underlying45 HI.out HZ0.out HZ1.out HZ2.out rfl (by omega) (.slice (some ⟨w1.heap.size, 0, none⟩) 0 0) 0 [] rfl (World.ownsRow_made _ _ _ (Nat.le_refl _) (by simp [maxLen]) rfl) ⟨hq, 0, none⟩ 8 hc (fa v32 8 h).toList rfl (by simp [fa]) (cells_row (alloc_far (below_heap hb1 hhl HH.out) _) 0 _ (fun j u hu => by simpa using hu)) (one_fa _ _ _ one_v32) (by simp [maxLen]) (by omega) (by simp) ?_
       intro v2 w2 hown2 hg2 hn2
       obtain ⟨q, cap2, Z, rfl, hqb, hq2, hq3, hq4⟩ := own_prefix hown2 (by omega)
       have hB2 : Below w.heap.size w w2 := (hb1.alloc hs1 _).grown hg2 (by simp; omega) (fun r hr => by simp [Value.ownBlock] at hr; omega)
       have HW2 := Lib.hid ((hg2.block p (by simp; omega) (by simp [Value.ownBlock]; omega)).trans (alloc_far HW.out _))
       have HQ2 := Lib.hid (show w2.heap[q]? = some (.cells (fa v32 8 h ++ Z) 50 (0, 0)) from hq2)
       have hql := lt_of hq2
       have hs2 := hB2.size
       clear hown2 hg2 hn2 hq2 hq4))
  go_loopw [8] (fun i wr => ∃ m : Nat, m ≤ 64 ∧ i = .int .i64 m ∧ wr.heap[p]? = some (.cells (fa v32 64 (sch32 bs)) 50 (0, 0)) ∧ wr.heap[q]? = some (.cells (fa v32 8 (rs32 k (sch32 bs) h m) ++ Z) 50 (0, 0)) ∧ Below w.heap.size w wr) (fun i _ => 64 - (intOf i).toNat)
  case atStart => exact ⟨0, by omega, rfl, HW2.out, HQ2.out, hB2⟩
  case round =>
    obtain ⟨m, hm, rfl, hs, hx, hbw⟩ := hrel
    have HS := Lib.hid hs
    have HX := Lib.hid hx
    have hK := below_heap hbw hkl HK.out
    by_cases hlt : m < 64
    · have hsm : wr.cell? ⟨p, m, none⟩ = some (v32 (sch32 bs m)) := by rw [cell_of hs, fa_get _ _ _ _ hlt]
      have hkm : wr.cell? ⟨kq, m, none⟩ = some (v32 (k m)) := by rw [cell_of hK, fa_get _ _ _ _ hlt]
      obtain ⟨X, hXe⟩ : ∃ X, X = rs32 k (sch32 bs) h m := ⟨_, rfl⟩
      rw [← hXe] at hx
      have HX' := Lib.hid hx
      have hx0 : wr.cell? ⟨q, 0, none⟩ = some (v32 (X 0)) := by rw [cell_of hx, app_get _ _ _ _ _ (by omega)]
      have hx1 : wr.cell? ⟨q, 1, none⟩ = some (v32 (X 1)) := by rw [cell_of hx, app_get _ _ _ _ _ (by omega)]
      have hx2 : wr.cell? ⟨q, 2, none⟩ = some (v32 (X 2)) := by rw [cell_of hx, app_get _ _ _ _ _ (by omega)]
      have hx3 : wr.cell? ⟨q, 3, none⟩ = some (v32 (X 3)) := by rw [cell_of hx, app_get _ _ _ _ _ (by omega)]
      have hx4 : wr.cell? ⟨q, 4, none⟩ = some (v32 (X 4)) := by rw [cell_of hx, app_get _ _ _ _ _ (by omega)]
      have hx5 : wr.cell? ⟨q, 5, none⟩ = some (v32 (X 5)) := by rw [cell_of hx, app_get _ _ _ _ _ (by omega)]
      have hx6 : wr.cell? ⟨q, 6, none⟩ = some (v32 (X 6)) := by rw [cell_of hx, app_get _ _ _ _ _ (by omega)]
      have hx7 : wr.cell? ⟨q, 7, none⟩ = some (v32 (X 7)) := by rw [cell_of hx, app_get _ _ _ _ _ (by omega)]
      have hf0 : wr.frozen? ⟨q, 0, none⟩ = false := frozen_of hx _
      have hf1 : wr.frozen? ⟨q, 1, none⟩ = false := frozen_of hx _
      have hf2 : wr.frozen? ⟨q, 2, none⟩ = false := frozen_of hx _
      have hf3 : wr.frozen? ⟨q, 3, none⟩ = false := frozen_of hx _
      have hf4 : wr.frozen? ⟨q, 4, none⟩ = false := frozen_of hx _
      have hf5 : wr.frozen? ⟨q, 5, none⟩ = false := frozen_of hx _
      have hf6 : wr.frozen? ⟨q, 6, none⟩ = false := frozen_of hx _
      have hf7 : wr.frozen? ⟨q, 7, none⟩ = false := frozen_of hx _
      have HXE := Lib.hid hXe
      clear hs hx hXe hK
      go_wp2
      go_quiet ((go_at_call 37; exact rot32_quiet _ _ (by omega) (by omega) _ (fun n => ⟨_, by simp only [World.drewN_drewN, Nat.add_assoc]; rfl⟩)))
      go_wp2
      go_quiet (fail)
      go_wp2
      go_quiet (fail)
      go_wp2
      go_quiet ((go_at_call 37; exact rot32_quiet _ _ (by omega) (by omega) _ (fun n => ⟨_, by simp only [World.drewN_drewN, Nat.add_assoc]; rfl⟩)))
      go_wp2
      go_quiet (fail)
      go_wp2
      go_roundw
      case rel =>
        refine ⟨m + 1, by omega, by go_num, ?_, ?_, ?_⟩
        · iterate 8 refine set_far ?_ (by omega) _ _
          exact HS.out
        · refine (set_of (set_of (set_of (set_of (set_of (set_of (set_of (set_of (show (wr.drewN _).heap[q]? = _ from HX'.out) _ _) _ _) _ _) _ _) _ _) _ _) _ _) _ _).trans ?_
          rw [app_set _ _ _ _ _ (by omega), app_set _ _ _ _ _ (by omega), app_set _ _ _ _ _ (by omega), app_set _ _ _ _ _ (by omega), app_set _ _ _ _ _ (by omega), app_set _ _ _ _ _ (by omega), app_set _ _ _ _ _ (by omega), app_set _ _ _ _ _ (by omega)]
          congr 3
          refine fa_ext _ _ _ _ fun i hi => ?_
          rw [rs32, ← HXE.out]
          match i, hi with
          | 0, _ => rfl
          | 1, _ => rfl
          | 2, _ => rfl
          | 3, _ => rfl
          | 4, _ => rfl
          | 5, _ => rfl
          | 6, _ => rfl
          | 7, _ => rfl
        · iterate 8 refine Below.setCell ?_ (by simp; omega) _
          exact Below.drewN hbw _
      case measure => simp [intOf]; omega
    · obtain rfl : m = 64 := by omega
      clear hs hx hK
      go_wp2
      obtain ⟨X, hXe⟩ : ∃ X, X = rs32 k (sch32 bs) h 64 := ⟨_, rfl⟩
      have HXE := Lib.hid hXe
      have HX2 := Lib.hid (show wr.heap[q]? = some (.cells (fa v32 8 X ++ Z) 50 (0, 0)) from by rw [hXe]; exact HX.out)
      have HH2 := Lib.hid (below_heap hbw hhl HH.out)
      clear hXe HX
      obtain ⟨wo, rfl⟩ : ∃ wo : World, wo = wr := ⟨_, rfl⟩
      go_loopw [14] (fun i wr => ∃ m : Nat, m ≤ 8 ∧ i = .int .i64 m ∧ wr.heap[hq]? = some (.cells (fa v32 8 (fun j => if j < m then h j + X j else h j)) 50 (0, 0)) ∧ wr.heap[q]? = some (.cells (fa v32 8 X ++ Z) 50 (0, 0)) ∧ But hq w wr) (fun i _ => 8 - (intOf i).toNat)
      case atStart => exact ⟨0, by omega, rfl, by simpa using HH2.out, HX2.out, But.of_below hbw⟩
      case round =>
        obtain ⟨m, hm, rfl, ho, hx, hbt⟩ := hrel
        have HO5 := Lib.hid ho
        have HX5 := Lib.hid hx
        by_cases hlt : m < 8
        · have hc1 : wr.cell? ⟨hq, m, none⟩ = some (v32 (h m)) := by rw [cell_of ho, fa_get _ _ _ _ hlt, if_neg (by omega)]
          have hc2 : wr.cell? ⟨q, m, none⟩ = some (v32 (X m)) := by rw [cell_of hx, app_get _ _ _ _ _ hlt]
          have hfr : wr.frozen? ⟨hq, m, none⟩ = false := frozen_of ho _
          clear ho hx
          go_wp2
          go_region
          go_wp2
          go_roundw
          case rel =>
            refine ⟨m + 1, by omega, by go_num, (set_of HO5.out _ _).trans ?_, set_far HX5.out (by omega) _ _, But.setCell (But.drew hbt) (.inl rfl) _⟩
            rw [fa_set]
            congr 3
            funext j
            simp only [upd]
            by_cases e : j = m
            · subst e; simp
            · have : j < m + 1 ↔ j < m := by omega
              simp [e, this]
          case measure => simp [intOf]; omega
        · obtain rfl : m = 8 := by omega
          clear ho hx
          go_wp2
          go_end0
          refine ⟨rfl, HO5.out.trans ?_, hbt⟩
          rw [fa_ext v32 8 _ (blk32 k h bs) (fun i hi => by rw [if_pos hi, HXE.out]; rfl)]
end Go.Proofs.Ytkkfpgkogggfdaa.Cw
