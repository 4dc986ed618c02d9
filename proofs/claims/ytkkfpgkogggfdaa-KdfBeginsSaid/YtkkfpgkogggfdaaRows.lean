/-
  No cell of these rows narrows 'for every input' (looked for: loops, veiled, ifaces, maps, wideKeys, modest, calm, conditions, laid).
  DERIVED. THE GIVEN ROWS OF THIS SEAT. 4 by the template 'for every input the law returns true; each argument reads behind the call as it read before'; 0 by the template 'total and deterministic' (their statements: YtkkfpgkogggfdaaTotals.lean).
  GIVEN WITH THE SEED: the statements are not yours to turn. If you find one false, say at which input.
  Laid BY PROGRAM, IN A SANDBOX (cutbox-rows.mjs): the forced cells as the released guide's own fill.sh prints them over the translation 75901bcd865d191c… (all of the seat's roots in one cut). By AI agents, Wed Nov 11 2026. No macro, syntax, notation, axiom, sorry.
-/
import Derived.Test.YtkkfpgkogggfdaaChecked
import GoSem.Claim
import GoSem.ClaimJoined
import GoSem.ClaimMapViews
import Derived.JoinedTies
import Derived.KernelRfl
namespace Go.Proofs.Ytkkfpgkogggfdaa
/- THE CELL 'sum', in the pinned program and in every row, IS THE sha256 OF THE DUMP (.gsa) THAT YtkkfpgkogggfdaaProg.lean LOADS. Nothing in Lean hashes anything: it is a label: what it is worth is what the hold of that sum in a sandbox is worth. -/
noncomputable def Try.pinned : Pinned := { name := "ytkkfpgkogggfdaa", sum := "75901bcd865d191c8fc3b350565728ae43a7ada3032f8a3629e8898ecfea66e8", checked := Try.checked }
namespace Rows
def none {H : Type} : Left H := { results := [], args := [] }

/-- 'curvetlaw12.Kdfs': WHATEVER THE INPUT: true; the input reads as it did. -/
def kdfsSpec : ChangeSpec := { name := "kdfs", fn := fun _ => fun
  | [d1, d2, d3, d4] => { results := [.lit (.bool true)], args := [d1, d2, d3, d4] }
  | _ => none }
def kdfsRow : OpenClaim := { program := "ytkkfpgkogggfdaa", sum := "75901bcd865d191c8fc3b350565728ae43a7ada3032f8a3629e8898ecfea66e8", func := "curvet/curvetlaw12.Kdfs", spec := "kdfs", unfollowed := true, recurses := true, apart := false }
def KdfsSaid : Prop := kdfsRow.holds Try.pinned (OpenSpec.ofChange kdfsSpec)

/-- ITS FALSE NEIGHBOUR: 'it returns false'. Refute it at one input. -/
def kdfsWrong : ChangeSpec := { name := "kdfs", fn := fun _ => fun
  | [d1, d2, d3, d4] => { results := [.lit (.bool false)], args := [d1, d2, d3, d4] }
  | _ => none }
def KdfsWrongFalsely : Prop := kdfsRow.holds Try.pinned (OpenSpec.ofChange kdfsWrong)

/-- 'curvetlaw12.KdfBegins': WHATEVER THE INPUT: true; the input reads as it did. -/
def kdfBeginsSpec : ChangeSpec := { name := "kdfBegins", fn := fun _ => fun
  | [d1, d2, d3, d4, d5] => { results := [.lit (.bool true)], args := [d1, d2, d3, d4, d5] }
  | _ => none }
def kdfBeginsRow : OpenClaim := { program := "ytkkfpgkogggfdaa", sum := "75901bcd865d191c8fc3b350565728ae43a7ada3032f8a3629e8898ecfea66e8", func := "curvet/curvetlaw12.KdfBegins", spec := "kdfBegins", unfollowed := true, recurses := true, apart := false }
def KdfBeginsSaid : Prop := kdfBeginsRow.holds Try.pinned (OpenSpec.ofChange kdfBeginsSpec)

/-- ITS FALSE NEIGHBOUR: 'it returns false'. Refute it at one input. -/
def kdfBeginsWrong : ChangeSpec := { name := "kdfBegins", fn := fun _ => fun
  | [d1, d2, d3, d4, d5] => { results := [.lit (.bool false)], args := [d1, d2, d3, d4, d5] }
  | _ => none }
def KdfBeginsWrongFalsely : Prop := kdfBeginsRow.holds Try.pinned (OpenSpec.ofChange kdfBeginsWrong)

/-- 'curvetlaw12.KdfBlocks': WHATEVER THE INPUT: true; the input reads as it did. -/
def kdfBlocksSpec : ChangeSpec := { name := "kdfBlocks", fn := fun _ => fun
  | [d1, d2, d3, d4] => { results := [.lit (.bool true)], args := [d1, d2, d3, d4] }
  | _ => none }
def kdfBlocksRow : OpenClaim := { program := "ytkkfpgkogggfdaa", sum := "75901bcd865d191c8fc3b350565728ae43a7ada3032f8a3629e8898ecfea66e8", func := "curvet/curvetlaw12.KdfBlocks", spec := "kdfBlocks", unfollowed := true, recurses := true, apart := false }
def KdfBlocksSaid : Prop := kdfBlocksRow.holds Try.pinned (OpenSpec.ofChange kdfBlocksSpec)

/-- ITS FALSE NEIGHBOUR: 'it returns false'. Refute it at one input. -/
def kdfBlocksWrong : ChangeSpec := { name := "kdfBlocks", fn := fun _ => fun
  | [d1, d2, d3, d4] => { results := [.lit (.bool false)], args := [d1, d2, d3, d4] }
  | _ => none }
def KdfBlocksWrongFalsely : Prop := kdfBlocksRow.holds Try.pinned (OpenSpec.ofChange kdfBlocksWrong)

/-- 'curvetlaw12.KdfOther': WHATEVER THE INPUT: true; the input reads as it did. -/
def kdfOtherSpec : ChangeSpec := { name := "kdfOther", fn := fun _ => fun
  | [d1, d2, d3, d4, d5] => { results := [.lit (.bool true)], args := [d1, d2, d3, d4, d5] }
  | _ => none }
def kdfOtherRow : OpenClaim := { program := "ytkkfpgkogggfdaa", sum := "75901bcd865d191c8fc3b350565728ae43a7ada3032f8a3629e8898ecfea66e8", func := "curvet/curvetlaw12.KdfOther", spec := "kdfOther", unfollowed := true, recurses := true, apart := false }
def KdfOtherSaid : Prop := kdfOtherRow.holds Try.pinned (OpenSpec.ofChange kdfOtherSpec)

/-- ITS FALSE NEIGHBOUR: 'it returns false'. Refute it at one input. -/
def kdfOtherWrong : ChangeSpec := { name := "kdfOther", fn := fun _ => fun
  | [d1, d2, d3, d4, d5] => { results := [.lit (.bool false)], args := [d1, d2, d3, d4, d5] }
  | _ => none }
def KdfOtherWrongFalsely : Prop := kdfOtherRow.holds Try.pinned (OpenSpec.ofChange kdfOtherWrong)

/- THE SECOND FORM. 'bulk': how many values and letters a reading holds, each counted each time it is reached (what is shared counts as often as it is met; a slice's spare places count too). A statement '..UptoSaid' is the law's where the arguments, and the package variables that the reading takes, are together of bulk at most 1048576: NARROWER than '..Said'. Prove '..Said' where nothing that the law and all that it calls make is longer than what came in: it says more and counts as full. Else prove '..UptoSaid'. A law counts once. -/
mutual
def uptoBulk {H : Type} : DataW H → Nat
  | .lit (.string bytes) => bytes.length + 1
  | .lit _ => 1
  | .nil => 1
  | .ptr d => uptoBulk d + 1
  | .slice elems spare => uptoBulkAll elems + uptoBulkAll spare + 1
  | .agg parts => uptoBulkAll parts + 1
  | .iface _ d => uptoBulk d + 1
  | .map entries => uptoBulkEntries entries + 1
  | .held _ => 1
def uptoBulkAll {H : Type} : List (DataW H) → Nat
  | [] => 0
  | d :: r => uptoBulk d + uptoBulkAll r
def uptoBulkEntries {H : Type} : List (Lit × DataW H) → Nat
  | [] => 0
  | x :: r => uptoBulkEntry x + uptoBulkEntries r
def uptoBulkEntry {H : Type} : Lit × DataW H → Nat
  | (.string bytes, d) => bytes.length + uptoBulk d + 1
  | (_, d) => uptoBulk d + 1
 end
def uptoSmall : (H : Type) → List (DataW H) → Bool := fun _ ds => decide (uptoBulkAll ds ≤ 1048576)
def OpenSpec.upto (s : _root_.Go.ChangeSpec) : _root_.Go.OpenSpec := { _root_.Go.OpenSpec.ofChange s with cond := some uptoSmall }

/-- 'curvetlaw12.Kdfs', WHERE WHAT IT READS IS OF BULK AT MOST 1048576: true; the input reads as it did. -/
def kdfsUptoRow : OpenClaim := { program := "ytkkfpgkogggfdaa", sum := "75901bcd865d191c8fc3b350565728ae43a7ada3032f8a3629e8898ecfea66e8", func := "curvet/curvetlaw12.Kdfs", spec := "kdfs", unfollowed := true, recurses := true, apart := false, narrowed := true }
def KdfsUptoSaid : Prop := kdfsUptoRow.holds Try.pinned (OpenSpec.upto kdfsSpec)

/-- 'curvetlaw12.KdfBegins', WHERE WHAT IT READS IS OF BULK AT MOST 1048576: true; the input reads as it did. -/
def kdfBeginsUptoRow : OpenClaim := { program := "ytkkfpgkogggfdaa", sum := "75901bcd865d191c8fc3b350565728ae43a7ada3032f8a3629e8898ecfea66e8", func := "curvet/curvetlaw12.KdfBegins", spec := "kdfBegins", unfollowed := true, recurses := true, apart := false, narrowed := true }
def KdfBeginsUptoSaid : Prop := kdfBeginsUptoRow.holds Try.pinned (OpenSpec.upto kdfBeginsSpec)

/-- 'curvetlaw12.KdfBlocks', WHERE WHAT IT READS IS OF BULK AT MOST 1048576: true; the input reads as it did. -/
def kdfBlocksUptoRow : OpenClaim := { program := "ytkkfpgkogggfdaa", sum := "75901bcd865d191c8fc3b350565728ae43a7ada3032f8a3629e8898ecfea66e8", func := "curvet/curvetlaw12.KdfBlocks", spec := "kdfBlocks", unfollowed := true, recurses := true, apart := false, narrowed := true }
def KdfBlocksUptoSaid : Prop := kdfBlocksUptoRow.holds Try.pinned (OpenSpec.upto kdfBlocksSpec)

/-- 'curvetlaw12.KdfOther', WHERE WHAT IT READS IS OF BULK AT MOST 1048576: true; the input reads as it did. -/
def kdfOtherUptoRow : OpenClaim := { program := "ytkkfpgkogggfdaa", sum := "75901bcd865d191c8fc3b350565728ae43a7ada3032f8a3629e8898ecfea66e8", func := "curvet/curvetlaw12.KdfOther", spec := "kdfOther", unfollowed := true, recurses := true, apart := false, narrowed := true }
def KdfOtherUptoSaid : Prop := kdfOtherUptoRow.holds Try.pinned (OpenSpec.upto kdfOtherSpec)

end Rows
end Go.Proofs.Ytkkfpgkogggfdaa
