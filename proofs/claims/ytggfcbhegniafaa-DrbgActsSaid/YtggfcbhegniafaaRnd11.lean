/-
  The rule of a generator's first bytes, in plain words: rounds of macs. No condition but what each says.
-/
import Derived.Test.YtggfcbhegniafaaGm3
import Derived.Deep.RegionWith
set_option linter.unusedSimpArgs false
set_option linter.unusedVariables false
namespace Go.Proofs.Ytggfcbhegniafaa.Cw
open Go Go.RowKit
theorem ones_succ (k : Nat) : ones k ++ ⟨#[1]⟩ = ones (k + 1) := by
  apply ByteArray.ext
  rw [ByteArray.data_append]
  show (List.replicate k (1 : UInt8)).toArray ++ #[1] = (List.replicate (k + 1) (1 : UInt8)).toArray
  rw [List.replicate_succ', ← List.append_toArray]
theorem sizes_row {id : Nat} (hi : isId id) (W : World) (t : TypeId) : (W.alloc (.cells #[.int .i64 0, .int .i64 28, .int .i64 32, .int .i64 48, .int .i64 64] t)).cell? ⟨W.heap.size, id, none⟩ = some (.int .i64 (szOf id)) := by
  rw [cell_of (new1 W _)]
  obtain ⟨h1, h2⟩ := hi
  rcases (show id = 1 ∨ id = 2 ∨ id = 3 ∨ id = 4 by omega) with rfl | rfl | rfl | rfl <;> rfl
theorem nbl_one {id : Nat} (hi : isId id) : nbl id (szOf id) = 1 := by
  have := szOf_le id hi
  exact (nbl_eq id (szOf id) 1 (by omega) (by omega)).symm
theorem genO_one {id : Nat} (hi : isId id) (kv : ByteArray × ByteArray) (more : ByteArray) : genO id kv (szOf id) more = hm id (pre id more kv).1 (pre id more kv).2 := by
  unfold genO
  rw [nbl_one hi]
  show (ByteArray.empty ++ hm id (pre id more kv).1 (pre id more kv).2).extract 0 (szOf id) = _
  rw [ByteArray.empty_append]
  apply ByteArray.ext
  have h : (hm id (pre id more kv).1 (pre id more kv).2).data.size = szOf id := hm_size hi _ _
  rw [ByteArray.data_extract, ← h, Array.extract_size]
theorem pre_none (id : Nat) (kv : ByteArray × ByteArray) : pre id ⟨#[]⟩ kv = kv := if_pos rfl
/-- the rule's rounds: two of a text -/
def rnds (id : Nat) (t : ByteArray) (kv : ByteArray × ByteArray) : Nat → ByteArray × ByteArray
  | 0 => kv
  | 1 => stp id t b0 kv
  | _ => stp id t b1 (stp id t b0 kv)
theorem rnds_fit {id : Nat} (hi : isId id) (t : ByteArray) (kv : ByteArray × ByteArray) (h : fit id kv) : ∀ n, fit id (rnds id t kv n)
  | 0 => h
  | 1 => stp_fit hi _ _ _
  | _ + 2 => stp_fit hi _ _ _
theorem upd2_rnds (id : Nat) (t : ByteArray) (kv : ByteArray × ByteArray) (h : t.size ≠ 0) : upd2 id t kv = rnds id t kv 2 := if_neg h
theorem b0_convert (W : World) : (convert 32 9 (.slice (some ⟨W.heap.size, 0, none⟩) 1 1)).run Try.prog (W.alloc (.cells #[.int .u8 0] 5)).drew = .ok (.string b0) (W.alloc (.cells #[.int .u8 0] 5)).drew := run_convert_rd (w := (W.alloc (.cells #[.int .u8 0] 5)).drew) (Rd.row [0] 1 rfl (fun _ => True) trivial (new1 W _) rfl) 32 9 5 Try.underlying32 Try.underlying5 Try.underlying9
theorem b1_convert (W : World) : (convert 32 9 (.slice (some ⟨W.heap.size, 0, none⟩) 1 1)).run Try.prog (W.alloc (.cells #[.int .u8 1] 5)).drew = .ok (.string b1) (W.alloc (.cells #[.int .u8 1] 5)).drew := run_convert_rd (w := (W.alloc (.cells #[.int .u8 1] 5)).drew) (Rd.row [1] 1 rfl (fun _ => True) trivial (new1 W _) rfl) 32 9 5 Try.underlying32 Try.underlying5 Try.underlying9
end Go.Proofs.Ytggfcbhegniafaa.Cw
