/-
  No cell of these rows narrows 'for every input' (looked for: loops, veiled, ifaces, maps, wideKeys, modest, calm, conditions, laid).
  DERIVED. THE GIVEN ROWS OF THIS SEAT. 8 by the template 'for every input the law returns true; each argument reads behind the call as it read before'; 0 by the template 'total and deterministic' (their statements: YtggfcbhegniafaaTotals.lean).
  GIVEN WITH THE SEED: the statements are not yours to turn. If you find one false, say at which input.
  Laid BY PROGRAM, IN A SANDBOX (cutbox-rows.mjs): the forced cells as the released guide's own fill.sh prints them over the translation 63d1e7deb6915e0e… (all of the seat's roots in one cut). By AI agents, Wed Nov 11 2026. No macro, syntax, notation, axiom, sorry.
-/
import Derived.Test.YtggfcbhegniafaaChecked
import GoSem.Claim
import GoSem.ClaimJoined
import GoSem.ClaimMapViews
import Derived.JoinedTies
import Derived.KernelRfl
namespace Go.Proofs.Ytggfcbhegniafaa
/- THE CELL 'sum', in the pinned program and in every row, IS THE sha256 OF THE DUMP (.gsa) THAT YtggfcbhegniafaaProg.lean LOADS. Nothing in Lean hashes anything: it is a label: what it is worth is what the hold of that sum in a sandbox is worth. -/
noncomputable def Try.pinned : Pinned := { name := "ytggfcbhegniafaa", sum := "63d1e7deb6915e0ec06985902ac5a9e5e1e0495f63c546dd719e780469110d51", checked := Try.checked }
namespace Rows
def none {H : Type} : Left H := { results := [], args := [] }

/-- 'curvetlaw11.DrbgOnce': WHATEVER THE INPUT: true; the input reads as it did. -/
def drbgOnceSpec : ChangeSpec := { name := "drbgOnce", fn := fun _ => fun
  | [d1, d2, d3, d4] => { results := [.lit (.bool true)], args := [d1, d2, d3, d4] }
  | _ => none }
def drbgOnceRow : OpenClaim := { program := "ytggfcbhegniafaa", sum := "63d1e7deb6915e0ec06985902ac5a9e5e1e0495f63c546dd719e780469110d51", func := "curvet/curvetlaw11.DrbgOnce", spec := "drbgOnce", inPlace := ["internal/abi.NoEscape", "internal/bytealg.MakeNoZero"], unfollowed := true, recurses := true, apart := false }
def DrbgOnceSaid : Prop := drbgOnceRow.holds Try.pinned (OpenSpec.ofChange drbgOnceSpec)

/-- ITS FALSE NEIGHBOUR: 'it returns false'. Refute it at one input. -/
def drbgOnceWrong : ChangeSpec := { name := "drbgOnce", fn := fun _ => fun
  | [d1, d2, d3, d4] => { results := [.lit (.bool false)], args := [d1, d2, d3, d4] }
  | _ => none }
def DrbgOnceWrongFalsely : Prop := drbgOnceRow.holds Try.pinned (OpenSpec.ofChange drbgOnceWrong)

/-- 'curvetlaw11.DrbgEntropies': WHATEVER THE INPUT: true; the input reads as it did. -/
def drbgEntropiesSpec : ChangeSpec := { name := "drbgEntropies", fn := fun _ => fun
  | [d1, d2, d3] => { results := [.lit (.bool true)], args := [d1, d2, d3] }
  | _ => none }
def drbgEntropiesRow : OpenClaim := { program := "ytggfcbhegniafaa", sum := "63d1e7deb6915e0ec06985902ac5a9e5e1e0495f63c546dd719e780469110d51", func := "curvet/curvetlaw11.DrbgEntropies", spec := "drbgEntropies", inPlace := ["internal/abi.NoEscape", "internal/bytealg.MakeNoZero"], unfollowed := true, recurses := true, apart := false }
def DrbgEntropiesSaid : Prop := drbgEntropiesRow.holds Try.pinned (OpenSpec.ofChange drbgEntropiesSpec)

/-- ITS FALSE NEIGHBOUR: 'it returns false'. Refute it at one input. -/
def drbgEntropiesWrong : ChangeSpec := { name := "drbgEntropies", fn := fun _ => fun
  | [d1, d2, d3] => { results := [.lit (.bool false)], args := [d1, d2, d3] }
  | _ => none }
def DrbgEntropiesWrongFalsely : Prop := drbgEntropiesRow.holds Try.pinned (OpenSpec.ofChange drbgEntropiesWrong)

/-- 'curvetlaw11.DrbgFirst': WHATEVER THE INPUT: true; the input reads as it did. -/
def drbgFirstSpec : ChangeSpec := { name := "drbgFirst", fn := fun _ => fun
  | [d1, d2, d3] => { results := [.lit (.bool true)], args := [d1, d2, d3] }
  | _ => none }
def drbgFirstRow : OpenClaim := { program := "ytggfcbhegniafaa", sum := "63d1e7deb6915e0ec06985902ac5a9e5e1e0495f63c546dd719e780469110d51", func := "curvet/curvetlaw11.DrbgFirst", spec := "drbgFirst", inPlace := ["internal/abi.NoEscape", "internal/bytealg.MakeNoZero"], unfollowed := true, recurses := true, apart := false }
def DrbgFirstSaid : Prop := drbgFirstRow.holds Try.pinned (OpenSpec.ofChange drbgFirstSpec)

/-- ITS FALSE NEIGHBOUR: 'it returns false'. Refute it at one input. -/
def drbgFirstWrong : ChangeSpec := { name := "drbgFirst", fn := fun _ => fun
  | [d1, d2, d3] => { results := [.lit (.bool false)], args := [d1, d2, d3] }
  | _ => none }
def DrbgFirstWrongFalsely : Prop := drbgFirstRow.holds Try.pinned (OpenSpec.ofChange drbgFirstWrong)

/-- 'curvetlaw11.DrbgNone': WHATEVER THE INPUT: true; the input reads as it did. -/
def drbgNoneSpec : ChangeSpec := { name := "drbgNone", fn := fun _ => fun
  | [d1, d2, d3] => { results := [.lit (.bool true)], args := [d1, d2, d3] }
  | _ => none }
def drbgNoneRow : OpenClaim := { program := "ytggfcbhegniafaa", sum := "63d1e7deb6915e0ec06985902ac5a9e5e1e0495f63c546dd719e780469110d51", func := "curvet/curvetlaw11.DrbgNone", spec := "drbgNone", inPlace := ["internal/abi.NoEscape", "internal/bytealg.MakeNoZero"], unfollowed := true, recurses := true, apart := false }
def DrbgNoneSaid : Prop := drbgNoneRow.holds Try.pinned (OpenSpec.ofChange drbgNoneSpec)

/-- ITS FALSE NEIGHBOUR: 'it returns false'. Refute it at one input. -/
def drbgNoneWrong : ChangeSpec := { name := "drbgNone", fn := fun _ => fun
  | [d1, d2, d3] => { results := [.lit (.bool false)], args := [d1, d2, d3] }
  | _ => none }
def DrbgNoneWrongFalsely : Prop := drbgNoneRow.holds Try.pinned (OpenSpec.ofChange drbgNoneWrong)

/-- 'curvetlaw11.DrbgMore': WHATEVER THE INPUT: true; the input reads as it did. -/
def drbgMoreSpec : ChangeSpec := { name := "drbgMore", fn := fun _ => fun
  | [d1, d2, d3] => { results := [.lit (.bool true)], args := [d1, d2, d3] }
  | _ => none }
def drbgMoreRow : OpenClaim := { program := "ytggfcbhegniafaa", sum := "63d1e7deb6915e0ec06985902ac5a9e5e1e0495f63c546dd719e780469110d51", func := "curvet/curvetlaw11.DrbgMore", spec := "drbgMore", inPlace := ["internal/abi.NoEscape", "internal/bytealg.MakeNoZero"], unfollowed := true, recurses := true, apart := false }
def DrbgMoreSaid : Prop := drbgMoreRow.holds Try.pinned (OpenSpec.ofChange drbgMoreSpec)

/-- ITS FALSE NEIGHBOUR: 'it returns false'. Refute it at one input. -/
def drbgMoreWrong : ChangeSpec := { name := "drbgMore", fn := fun _ => fun
  | [d1, d2, d3] => { results := [.lit (.bool false)], args := [d1, d2, d3] }
  | _ => none }
def DrbgMoreWrongFalsely : Prop := drbgMoreRow.holds Try.pinned (OpenSpec.ofChange drbgMoreWrong)

/-- 'curvetlaw11.DrbgActs': WHATEVER THE INPUT: true; the input reads as it did. -/
def drbgActsSpec : ChangeSpec := { name := "drbgActs", fn := fun _ => fun
  | [d1, d2, d3, d4, d5] => { results := [.lit (.bool true)], args := [d1, d2, d3, d4, d5] }
  | _ => none }
def drbgActsRow : OpenClaim := { program := "ytggfcbhegniafaa", sum := "63d1e7deb6915e0ec06985902ac5a9e5e1e0495f63c546dd719e780469110d51", func := "curvet/curvetlaw11.DrbgActs", spec := "drbgActs", inPlace := ["internal/abi.NoEscape", "internal/bytealg.MakeNoZero"], unfollowed := true, recurses := true, apart := false }
def DrbgActsSaid : Prop := drbgActsRow.holds Try.pinned (OpenSpec.ofChange drbgActsSpec)

/-- ITS FALSE NEIGHBOUR: 'it returns false'. Refute it at one input. -/
def drbgActsWrong : ChangeSpec := { name := "drbgActs", fn := fun _ => fun
  | [d1, d2, d3, d4, d5] => { results := [.lit (.bool false)], args := [d1, d2, d3, d4, d5] }
  | _ => none }
def DrbgActsWrongFalsely : Prop := drbgActsRow.holds Try.pinned (OpenSpec.ofChange drbgActsWrong)

/-- 'curvetlaw11.DrbgLimits': WHATEVER THE INPUT: true; the input reads as it did. -/
def drbgLimitsSpec : ChangeSpec := { name := "drbgLimits", fn := fun _ => fun
  | [d1, d2, d3] => { results := [.lit (.bool true)], args := [d1, d2, d3] }
  | _ => none }
def drbgLimitsRow : OpenClaim := { program := "ytggfcbhegniafaa", sum := "63d1e7deb6915e0ec06985902ac5a9e5e1e0495f63c546dd719e780469110d51", func := "curvet/curvetlaw11.DrbgLimits", spec := "drbgLimits", inPlace := ["internal/abi.NoEscape", "internal/bytealg.MakeNoZero"], unfollowed := true, recurses := true, apart := false }
def DrbgLimitsSaid : Prop := drbgLimitsRow.holds Try.pinned (OpenSpec.ofChange drbgLimitsSpec)

/-- ITS FALSE NEIGHBOUR: 'it returns false'. Refute it at one input. -/
def drbgLimitsWrong : ChangeSpec := { name := "drbgLimits", fn := fun _ => fun
  | [d1, d2, d3] => { results := [.lit (.bool false)], args := [d1, d2, d3] }
  | _ => none }
def DrbgLimitsWrongFalsely : Prop := drbgLimitsRow.holds Try.pinned (OpenSpec.ofChange drbgLimitsWrong)

/-- 'curvetlaw11.DrbgReseeded': WHATEVER THE INPUT: true; the input reads as it did. -/
def drbgReseededSpec : ChangeSpec := { name := "drbgReseeded", fn := fun _ => fun
  | [d1, d2, d3, d4] => { results := [.lit (.bool true)], args := [d1, d2, d3, d4] }
  | _ => none }
def drbgReseededRow : OpenClaim := { program := "ytggfcbhegniafaa", sum := "63d1e7deb6915e0ec06985902ac5a9e5e1e0495f63c546dd719e780469110d51", func := "curvet/curvetlaw11.DrbgReseeded", spec := "drbgReseeded", inPlace := ["internal/abi.NoEscape", "internal/bytealg.MakeNoZero"], unfollowed := true, recurses := true, apart := false }
def DrbgReseededSaid : Prop := drbgReseededRow.holds Try.pinned (OpenSpec.ofChange drbgReseededSpec)

/-- ITS FALSE NEIGHBOUR: 'it returns false'. Refute it at one input. -/
def drbgReseededWrong : ChangeSpec := { name := "drbgReseeded", fn := fun _ => fun
  | [d1, d2, d3, d4] => { results := [.lit (.bool false)], args := [d1, d2, d3, d4] }
  | _ => none }
def DrbgReseededWrongFalsely : Prop := drbgReseededRow.holds Try.pinned (OpenSpec.ofChange drbgReseededWrong)

/- THE SECOND FORM. 'bulk': how many values and letters a reading holds, each counted each time it is reached (what is shared counts as often as it is met; a slice's spare places count too). A statement '..UptoSaid' is the law's where the arguments, and the package variables that the reading takes, are together of bulk at most 1048576: NARROWER than '..Said'. Prove '..Said' where nothing that the law and all that it calls make is longer than what came in: it says more and counts as full. Else prove '..UptoSaid'. A law counts once. -/
mutual
def uptoBulk {H : Type} : DataW H → Nat
  | .lit (.string bytes) => bytes.length + 1
  | .lit _ => 1
  | .nil => 1
  | .ptr d => uptoBulk d + 1
  | .slice elems spare => uptoBulkAll elems + uptoBulkAll spare + 1
  | .agg parts => uptoBulkAll parts + 1
  | .iface _ d => uptoBulk d + 1
  | .map entries => uptoBulkEntries entries + 1
  | .held _ => 1
def uptoBulkAll {H : Type} : List (DataW H) → Nat
  | [] => 0
  | d :: r => uptoBulk d + uptoBulkAll r
def uptoBulkEntries {H : Type} : List (Lit × DataW H) → Nat
  | [] => 0
  | x :: r => uptoBulkEntry x + uptoBulkEntries r
def uptoBulkEntry {H : Type} : Lit × DataW H → Nat
  | (.string bytes, d) => bytes.length + uptoBulk d + 1
  | (_, d) => uptoBulk d + 1
 end
def uptoSmall : (H : Type) → List (DataW H) → Bool := fun _ ds => decide (uptoBulkAll ds ≤ 1048576)
def OpenSpec.upto (s : _root_.Go.ChangeSpec) : _root_.Go.OpenSpec := { _root_.Go.OpenSpec.ofChange s with cond := some uptoSmall }

/-- 'curvetlaw11.DrbgOnce', WHERE WHAT IT READS IS OF BULK AT MOST 1048576: true; the input reads as it did. -/
def drbgOnceUptoRow : OpenClaim := { program := "ytggfcbhegniafaa", sum := "63d1e7deb6915e0ec06985902ac5a9e5e1e0495f63c546dd719e780469110d51", func := "curvet/curvetlaw11.DrbgOnce", spec := "drbgOnce", inPlace := ["internal/abi.NoEscape", "internal/bytealg.MakeNoZero"], unfollowed := true, recurses := true, apart := false, narrowed := true }
def DrbgOnceUptoSaid : Prop := drbgOnceUptoRow.holds Try.pinned (OpenSpec.upto drbgOnceSpec)

/-- 'curvetlaw11.DrbgEntropies', WHERE WHAT IT READS IS OF BULK AT MOST 1048576: true; the input reads as it did. -/
def drbgEntropiesUptoRow : OpenClaim := { program := "ytggfcbhegniafaa", sum := "63d1e7deb6915e0ec06985902ac5a9e5e1e0495f63c546dd719e780469110d51", func := "curvet/curvetlaw11.DrbgEntropies", spec := "drbgEntropies", inPlace := ["internal/abi.NoEscape", "internal/bytealg.MakeNoZero"], unfollowed := true, recurses := true, apart := false, narrowed := true }
def DrbgEntropiesUptoSaid : Prop := drbgEntropiesUptoRow.holds Try.pinned (OpenSpec.upto drbgEntropiesSpec)

/-- 'curvetlaw11.DrbgFirst', WHERE WHAT IT READS IS OF BULK AT MOST 1048576: true; the input reads as it did. -/
def drbgFirstUptoRow : OpenClaim := { program := "ytggfcbhegniafaa", sum := "63d1e7deb6915e0ec06985902ac5a9e5e1e0495f63c546dd719e780469110d51", func := "curvet/curvetlaw11.DrbgFirst", spec := "drbgFirst", inPlace := ["internal/abi.NoEscape", "internal/bytealg.MakeNoZero"], unfollowed := true, recurses := true, apart := false, narrowed := true }
def DrbgFirstUptoSaid : Prop := drbgFirstUptoRow.holds Try.pinned (OpenSpec.upto drbgFirstSpec)

/-- 'curvetlaw11.DrbgNone', WHERE WHAT IT READS IS OF BULK AT MOST 1048576: true; the input reads as it did. -/
def drbgNoneUptoRow : OpenClaim := { program := "ytggfcbhegniafaa", sum := "63d1e7deb6915e0ec06985902ac5a9e5e1e0495f63c546dd719e780469110d51", func := "curvet/curvetlaw11.DrbgNone", spec := "drbgNone", inPlace := ["internal/abi.NoEscape", "internal/bytealg.MakeNoZero"], unfollowed := true, recurses := true, apart := false, narrowed := true }
def DrbgNoneUptoSaid : Prop := drbgNoneUptoRow.holds Try.pinned (OpenSpec.upto drbgNoneSpec)

/-- 'curvetlaw11.DrbgMore', WHERE WHAT IT READS IS OF BULK AT MOST 1048576: true; the input reads as it did. -/
def drbgMoreUptoRow : OpenClaim := { program := "ytggfcbhegniafaa", sum := "63d1e7deb6915e0ec06985902ac5a9e5e1e0495f63c546dd719e780469110d51", func := "curvet/curvetlaw11.DrbgMore", spec := "drbgMore", inPlace := ["internal/abi.NoEscape", "internal/bytealg.MakeNoZero"], unfollowed := true, recurses := true, apart := false, narrowed := true }
def DrbgMoreUptoSaid : Prop := drbgMoreUptoRow.holds Try.pinned (OpenSpec.upto drbgMoreSpec)

/-- 'curvetlaw11.DrbgActs', WHERE WHAT IT READS IS OF BULK AT MOST 1048576: true; the input reads as it did. -/
def drbgActsUptoRow : OpenClaim := { program := "ytggfcbhegniafaa", sum := "63d1e7deb6915e0ec06985902ac5a9e5e1e0495f63c546dd719e780469110d51", func := "curvet/curvetlaw11.DrbgActs", spec := "drbgActs", inPlace := ["internal/abi.NoEscape", "internal/bytealg.MakeNoZero"], unfollowed := true, recurses := true, apart := false, narrowed := true }
def DrbgActsUptoSaid : Prop := drbgActsUptoRow.holds Try.pinned (OpenSpec.upto drbgActsSpec)

/-- 'curvetlaw11.DrbgLimits', WHERE WHAT IT READS IS OF BULK AT MOST 1048576: true; the input reads as it did. -/
def drbgLimitsUptoRow : OpenClaim := { program := "ytggfcbhegniafaa", sum := "63d1e7deb6915e0ec06985902ac5a9e5e1e0495f63c546dd719e780469110d51", func := "curvet/curvetlaw11.DrbgLimits", spec := "drbgLimits", inPlace := ["internal/abi.NoEscape", "internal/bytealg.MakeNoZero"], unfollowed := true, recurses := true, apart := false, narrowed := true }
def DrbgLimitsUptoSaid : Prop := drbgLimitsUptoRow.holds Try.pinned (OpenSpec.upto drbgLimitsSpec)

/-- 'curvetlaw11.DrbgReseeded', WHERE WHAT IT READS IS OF BULK AT MOST 1048576: true; the input reads as it did. -/
def drbgReseededUptoRow : OpenClaim := { program := "ytggfcbhegniafaa", sum := "63d1e7deb6915e0ec06985902ac5a9e5e1e0495f63c546dd719e780469110d51", func := "curvet/curvetlaw11.DrbgReseeded", spec := "drbgReseeded", inPlace := ["internal/abi.NoEscape", "internal/bytealg.MakeNoZero"], unfollowed := true, recurses := true, apart := false, narrowed := true }
def DrbgReseededUptoSaid : Prop := drbgReseededUptoRow.holds Try.pinned (OpenSpec.upto drbgReseededSpec)

end Rows
end Go.Proofs.Ytggfcbhegniafaa
