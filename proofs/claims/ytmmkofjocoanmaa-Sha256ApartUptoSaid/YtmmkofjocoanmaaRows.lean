/-
  No cell of these rows narrows 'for every input' (looked for: loops, veiled, ifaces, maps, wideKeys, modest, calm, conditions, laid).
  DERIVED. THE GIVEN ROWS OF THIS SEAT. 6 by the template 'for every input the law returns true; each argument reads behind the call as it read before'; 0 by the template 'total and deterministic' (their statements: YtmmkofjocoanmaaTotals.lean).
  GIVEN WITH THE SEED: the statements are not yours to turn. If you find one false, say at which input.
  Laid BY PROGRAM, IN A SANDBOX (cutbox-rows.mjs): the forced cells as the released guide's own fill.sh prints them over the translation eaec24041582591e… (all of the seat's roots in one cut). By AI agents, Wed Nov 11 2026. No macro, syntax, notation, axiom, sorry.
-/
import Derived.Test.YtmmkofjocoanmaaChecked
import GoSem.Claim
import GoSem.ClaimJoined
import GoSem.ClaimMapViews
import Derived.JoinedTies
import Derived.KernelRfl
namespace Go.Proofs.Ytmmkofjocoanmaa
/- THE CELL 'sum', in the pinned program and in every row, IS THE sha256 OF THE DUMP (.gsa) THAT YtmmkofjocoanmaaProg.lean LOADS. Nothing in Lean hashes anything: it is a label: what it is worth is what the hold of that sum in a sandbox is worth. -/
noncomputable def Try.pinned : Pinned := { name := "ytmmkofjocoanmaa", sum := "eaec24041582591e72194ca1c567b44701d8f67cf15e2726b00a51d88003029a", checked := Try.checked }
namespace Rows
def none {H : Type} : Left H := { results := [], args := [] }

/-- 'curvetlaw0.CurvetNames': WHATEVER THE INPUT: true; the input reads as it did. -/
def curvetNamesSpec : ChangeSpec := { name := "curvetNames", fn := fun _ => fun
  | [] => { results := [.lit (.bool true)], args := [] }
  | _ => none }
def curvetNamesRow : OpenClaim := { program := "ytmmkofjocoanmaa", sum := "eaec24041582591e72194ca1c567b44701d8f67cf15e2726b00a51d88003029a", func := "curvet/curvetlaw0.CurvetNames", spec := "curvetNames", apart := false }
def CurvetNamesSaid : Prop := curvetNamesRow.holds Try.pinned (OpenSpec.ofChange curvetNamesSpec)

/-- ITS FALSE NEIGHBOUR: 'it returns false'. Refute it at one input. -/
def curvetNamesWrong : ChangeSpec := { name := "curvetNames", fn := fun _ => fun
  | [] => { results := [.lit (.bool false)], args := [] }
  | _ => none }
def CurvetNamesWrongFalsely : Prop := curvetNamesRow.holds Try.pinned (OpenSpec.ofChange curvetNamesWrong)

/-- 'curvetlaw7.Sha256Of': WHATEVER THE INPUT: true; the input reads as it did. -/
def sha256OfSpec : ChangeSpec := { name := "sha256Of", fn := fun _ => fun
  | [d1, d2] => { results := [.lit (.bool true)], args := [d1, d2] }
  | _ => none }
def sha256OfRow : OpenClaim := { program := "ytmmkofjocoanmaa", sum := "eaec24041582591e72194ca1c567b44701d8f67cf15e2726b00a51d88003029a", func := "curvet/curvetlaw7.Sha256Of", spec := "sha256Of", unfollowed := true, recurses := true, apart := false }
def Sha256OfSaid : Prop := sha256OfRow.holds Try.pinned (OpenSpec.ofChange sha256OfSpec)

/-- ITS FALSE NEIGHBOUR: 'it returns false'. Refute it at one input. -/
def sha256OfWrong : ChangeSpec := { name := "sha256Of", fn := fun _ => fun
  | [d1, d2] => { results := [.lit (.bool false)], args := [d1, d2] }
  | _ => none }
def Sha256OfWrongFalsely : Prop := sha256OfRow.holds Try.pinned (OpenSpec.ofChange sha256OfWrong)

/-- 'curvetlaw7.Sha256Streams': WHATEVER THE INPUT: true; the input reads as it did. -/
def sha256StreamsSpec : ChangeSpec := { name := "sha256Streams", fn := fun _ => fun
  | [d1, d2] => { results := [.lit (.bool true)], args := [d1, d2] }
  | _ => none }
def sha256StreamsRow : OpenClaim := { program := "ytmmkofjocoanmaa", sum := "eaec24041582591e72194ca1c567b44701d8f67cf15e2726b00a51d88003029a", func := "curvet/curvetlaw7.Sha256Streams", spec := "sha256Streams", unfollowed := true, recurses := true, apart := false }
def Sha256StreamsSaid : Prop := sha256StreamsRow.holds Try.pinned (OpenSpec.ofChange sha256StreamsSpec)

/-- ITS FALSE NEIGHBOUR: 'it returns false'. Refute it at one input. -/
def sha256StreamsWrong : ChangeSpec := { name := "sha256Streams", fn := fun _ => fun
  | [d1, d2] => { results := [.lit (.bool false)], args := [d1, d2] }
  | _ => none }
def Sha256StreamsWrongFalsely : Prop := sha256StreamsRow.holds Try.pinned (OpenSpec.ofChange sha256StreamsWrong)

/-- 'curvetlaw7.Sha256Cuts': WHATEVER THE INPUT: true; the input reads as it did. -/
def sha256CutsSpec : ChangeSpec := { name := "sha256Cuts", fn := fun _ => fun
  | [d1, d2, d3] => { results := [.lit (.bool true)], args := [d1, d2, d3] }
  | _ => none }
def sha256CutsRow : OpenClaim := { program := "ytmmkofjocoanmaa", sum := "eaec24041582591e72194ca1c567b44701d8f67cf15e2726b00a51d88003029a", func := "curvet/curvetlaw7.Sha256Cuts", spec := "sha256Cuts", unfollowed := true, recurses := true, apart := false }
def Sha256CutsSaid : Prop := sha256CutsRow.holds Try.pinned (OpenSpec.ofChange sha256CutsSpec)

/-- ITS FALSE NEIGHBOUR: 'it returns false'. Refute it at one input. -/
def sha256CutsWrong : ChangeSpec := { name := "sha256Cuts", fn := fun _ => fun
  | [d1, d2, d3] => { results := [.lit (.bool false)], args := [d1, d2, d3] }
  | _ => none }
def Sha256CutsWrongFalsely : Prop := sha256CutsRow.holds Try.pinned (OpenSpec.ofChange sha256CutsWrong)

/-- 'curvetlaw7.Sha256Ends': WHATEVER THE INPUT: true; the input reads as it did. -/
def sha256EndsSpec : ChangeSpec := { name := "sha256Ends", fn := fun _ => fun
  | [d1, d2] => { results := [.lit (.bool true)], args := [d1, d2] }
  | _ => none }
def sha256EndsRow : OpenClaim := { program := "ytmmkofjocoanmaa", sum := "eaec24041582591e72194ca1c567b44701d8f67cf15e2726b00a51d88003029a", func := "curvet/curvetlaw7.Sha256Ends", spec := "sha256Ends", unfollowed := true, recurses := true, apart := false }
def Sha256EndsSaid : Prop := sha256EndsRow.holds Try.pinned (OpenSpec.ofChange sha256EndsSpec)

/-- ITS FALSE NEIGHBOUR: 'it returns false'. Refute it at one input. -/
def sha256EndsWrong : ChangeSpec := { name := "sha256Ends", fn := fun _ => fun
  | [d1, d2] => { results := [.lit (.bool false)], args := [d1, d2] }
  | _ => none }
def Sha256EndsWrongFalsely : Prop := sha256EndsRow.holds Try.pinned (OpenSpec.ofChange sha256EndsWrong)

/-- 'curvetlaw7.Sha256Apart': WHATEVER THE INPUT: true; the input reads as it did. -/
def sha256ApartSpec : ChangeSpec := { name := "sha256Apart", fn := fun _ => fun
  | [d1, d2] => { results := [.lit (.bool true)], args := [d1, d2] }
  | _ => none }
def sha256ApartRow : OpenClaim := { program := "ytmmkofjocoanmaa", sum := "eaec24041582591e72194ca1c567b44701d8f67cf15e2726b00a51d88003029a", func := "curvet/curvetlaw7.Sha256Apart", spec := "sha256Apart", unfollowed := true, recurses := true, apart := false }
def Sha256ApartSaid : Prop := sha256ApartRow.holds Try.pinned (OpenSpec.ofChange sha256ApartSpec)

/-- ITS FALSE NEIGHBOUR: 'it returns false'. Refute it at one input. -/
def sha256ApartWrong : ChangeSpec := { name := "sha256Apart", fn := fun _ => fun
  | [d1, d2] => { results := [.lit (.bool false)], args := [d1, d2] }
  | _ => none }
def Sha256ApartWrongFalsely : Prop := sha256ApartRow.holds Try.pinned (OpenSpec.ofChange sha256ApartWrong)

/- THE SECOND FORM. 'bulk': how many values and letters a reading holds, each counted each time it is reached (what is shared counts as often as it is met; a slice's spare places count too). A statement '..UptoSaid' is the law's where the arguments, and the package variables that the reading takes, are together of bulk at most 1048576: NARROWER than '..Said'. Prove '..Said' where nothing that the law and all that it calls make is longer than what came in: it says more and counts as full. Else prove '..UptoSaid'. A law counts once. -/
mutual
def uptoBulk {H : Type} : DataW H → Nat
  | .lit (.string bytes) => bytes.length + 1
  | .lit _ => 1
  | .nil => 1
  | .ptr d => uptoBulk d + 1
  | .slice elems spare => uptoBulkAll elems + uptoBulkAll spare + 1
  | .agg parts => uptoBulkAll parts + 1
  | .iface _ d => uptoBulk d + 1
  | .map entries => uptoBulkEntries entries + 1
  | .held _ => 1
def uptoBulkAll {H : Type} : List (DataW H) → Nat
  | [] => 0
  | d :: r => uptoBulk d + uptoBulkAll r
def uptoBulkEntries {H : Type} : List (Lit × DataW H) → Nat
  | [] => 0
  | x :: r => uptoBulkEntry x + uptoBulkEntries r
def uptoBulkEntry {H : Type} : Lit × DataW H → Nat
  | (.string bytes, d) => bytes.length + uptoBulk d + 1
  | (_, d) => uptoBulk d + 1
 end
def uptoSmall : (H : Type) → List (DataW H) → Bool := fun _ ds => decide (uptoBulkAll ds ≤ 1048576)
def OpenSpec.upto (s : _root_.Go.ChangeSpec) : _root_.Go.OpenSpec := { _root_.Go.OpenSpec.ofChange s with cond := some uptoSmall }

/-- 'curvetlaw0.CurvetNames', WHERE WHAT IT READS IS OF BULK AT MOST 1048576: true; the input reads as it did. -/
def curvetNamesUptoRow : OpenClaim := { program := "ytmmkofjocoanmaa", sum := "eaec24041582591e72194ca1c567b44701d8f67cf15e2726b00a51d88003029a", func := "curvet/curvetlaw0.CurvetNames", spec := "curvetNames", apart := false, narrowed := true }
def CurvetNamesUptoSaid : Prop := curvetNamesUptoRow.holds Try.pinned (OpenSpec.upto curvetNamesSpec)

/-- 'curvetlaw7.Sha256Of', WHERE WHAT IT READS IS OF BULK AT MOST 1048576: true; the input reads as it did. -/
def sha256OfUptoRow : OpenClaim := { program := "ytmmkofjocoanmaa", sum := "eaec24041582591e72194ca1c567b44701d8f67cf15e2726b00a51d88003029a", func := "curvet/curvetlaw7.Sha256Of", spec := "sha256Of", unfollowed := true, recurses := true, apart := false, narrowed := true }
def Sha256OfUptoSaid : Prop := sha256OfUptoRow.holds Try.pinned (OpenSpec.upto sha256OfSpec)

/-- 'curvetlaw7.Sha256Streams', WHERE WHAT IT READS IS OF BULK AT MOST 1048576: true; the input reads as it did. -/
def sha256StreamsUptoRow : OpenClaim := { program := "ytmmkofjocoanmaa", sum := "eaec24041582591e72194ca1c567b44701d8f67cf15e2726b00a51d88003029a", func := "curvet/curvetlaw7.Sha256Streams", spec := "sha256Streams", unfollowed := true, recurses := true, apart := false, narrowed := true }
def Sha256StreamsUptoSaid : Prop := sha256StreamsUptoRow.holds Try.pinned (OpenSpec.upto sha256StreamsSpec)

/-- 'curvetlaw7.Sha256Cuts', WHERE WHAT IT READS IS OF BULK AT MOST 1048576: true; the input reads as it did. -/
def sha256CutsUptoRow : OpenClaim := { program := "ytmmkofjocoanmaa", sum := "eaec24041582591e72194ca1c567b44701d8f67cf15e2726b00a51d88003029a", func := "curvet/curvetlaw7.Sha256Cuts", spec := "sha256Cuts", unfollowed := true, recurses := true, apart := false, narrowed := true }
def Sha256CutsUptoSaid : Prop := sha256CutsUptoRow.holds Try.pinned (OpenSpec.upto sha256CutsSpec)

/-- 'curvetlaw7.Sha256Ends', WHERE WHAT IT READS IS OF BULK AT MOST 1048576: true; the input reads as it did. -/
def sha256EndsUptoRow : OpenClaim := { program := "ytmmkofjocoanmaa", sum := "eaec24041582591e72194ca1c567b44701d8f67cf15e2726b00a51d88003029a", func := "curvet/curvetlaw7.Sha256Ends", spec := "sha256Ends", unfollowed := true, recurses := true, apart := false, narrowed := true }
def Sha256EndsUptoSaid : Prop := sha256EndsUptoRow.holds Try.pinned (OpenSpec.upto sha256EndsSpec)

/-- 'curvetlaw7.Sha256Apart', WHERE WHAT IT READS IS OF BULK AT MOST 1048576: true; the input reads as it did. -/
def sha256ApartUptoRow : OpenClaim := { program := "ytmmkofjocoanmaa", sum := "eaec24041582591e72194ca1c567b44701d8f67cf15e2726b00a51d88003029a", func := "curvet/curvetlaw7.Sha256Apart", spec := "sha256Apart", unfollowed := true, recurses := true, apart := false, narrowed := true }
def Sha256ApartUptoSaid : Prop := sha256ApartUptoRow.holds Try.pinned (OpenSpec.upto sha256ApartSpec)

end Rows
end Go.Proofs.Ytmmkofjocoanmaa
