/-
  No cell of these rows narrows 'for every input' (looked for: loops, veiled, ifaces, maps, wideKeys, modest, calm, conditions, laid).
  DERIVED. THE GIVEN ROWS OF THIS SEAT. 5 by the template 'for every input the law returns true; each argument reads behind the call as it read before'; 0 by the template 'total and deterministic' (their statements: YthoaaajgmiclnaaTotals.lean).
  GIVEN WITH THE SEED: the statements are not yours to turn. If you find one false, say at which input.
  Laid BY PROGRAM, IN A SANDBOX (cutbox-rows.mjs): the forced cells as the released guide's own fill.sh prints them over the translation 1381bfba510a5d65… (all of the seat's roots in one cut). By AI agents, Wed Nov 11 2026. No macro, syntax, notation, axiom, sorry.
-/
import Derived.Test.YthoaaajgmiclnaaChecked
import GoSem.Claim
import GoSem.ClaimJoined
import GoSem.ClaimMapViews
import Derived.JoinedTies
import Derived.KernelRfl
namespace Go.Proofs.Ythoaaajgmiclnaa
/- THE CELL 'sum', in the pinned program and in every row, IS THE sha256 OF THE DUMP (.gsa) THAT YthoaaajgmiclnaaProg.lean LOADS. Nothing in Lean hashes anything: it is a label: what it is worth is what the hold of that sum in a sandbox is worth. -/
noncomputable def Try.pinned : Pinned := { name := "ythoaaajgmiclnaa", sum := "1381bfba510a5d655c08817d510dfb42ae718366efc3f3f773ba9f3647906623", checked := Try.checked }
namespace Rows
def none {H : Type} : Left H := { results := [], args := [] }

/-- 'curvetlaw8.Sha512Of': WHATEVER THE INPUT: true; the input reads as it did. -/
def sha512OfSpec : ChangeSpec := { name := "sha512Of", fn := fun _ => fun
  | [d1, d2] => { results := [.lit (.bool true)], args := [d1, d2] }
  | _ => none }
def sha512OfRow : OpenClaim := { program := "ythoaaajgmiclnaa", sum := "1381bfba510a5d655c08817d510dfb42ae718366efc3f3f773ba9f3647906623", func := "curvet/curvetlaw8.Sha512Of", spec := "sha512Of", unfollowed := true, recurses := true, apart := false }
def Sha512OfSaid : Prop := sha512OfRow.holds Try.pinned (OpenSpec.ofChange sha512OfSpec)

/-- ITS FALSE NEIGHBOUR: 'it returns false'. Refute it at one input. -/
def sha512OfWrong : ChangeSpec := { name := "sha512Of", fn := fun _ => fun
  | [d1, d2] => { results := [.lit (.bool false)], args := [d1, d2] }
  | _ => none }
def Sha512OfWrongFalsely : Prop := sha512OfRow.holds Try.pinned (OpenSpec.ofChange sha512OfWrong)

/-- 'curvetlaw8.Sha512Streams': WHATEVER THE INPUT: true; the input reads as it did. -/
def sha512StreamsSpec : ChangeSpec := { name := "sha512Streams", fn := fun _ => fun
  | [d1, d2] => { results := [.lit (.bool true)], args := [d1, d2] }
  | _ => none }
def sha512StreamsRow : OpenClaim := { program := "ythoaaajgmiclnaa", sum := "1381bfba510a5d655c08817d510dfb42ae718366efc3f3f773ba9f3647906623", func := "curvet/curvetlaw8.Sha512Streams", spec := "sha512Streams", unfollowed := true, recurses := true, apart := false }
def Sha512StreamsSaid : Prop := sha512StreamsRow.holds Try.pinned (OpenSpec.ofChange sha512StreamsSpec)

/-- ITS FALSE NEIGHBOUR: 'it returns false'. Refute it at one input. -/
def sha512StreamsWrong : ChangeSpec := { name := "sha512Streams", fn := fun _ => fun
  | [d1, d2] => { results := [.lit (.bool false)], args := [d1, d2] }
  | _ => none }
def Sha512StreamsWrongFalsely : Prop := sha512StreamsRow.holds Try.pinned (OpenSpec.ofChange sha512StreamsWrong)

/-- 'curvetlaw8.Sha512Cuts': WHATEVER THE INPUT: true; the input reads as it did. -/
def sha512CutsSpec : ChangeSpec := { name := "sha512Cuts", fn := fun _ => fun
  | [d1, d2, d3] => { results := [.lit (.bool true)], args := [d1, d2, d3] }
  | _ => none }
def sha512CutsRow : OpenClaim := { program := "ythoaaajgmiclnaa", sum := "1381bfba510a5d655c08817d510dfb42ae718366efc3f3f773ba9f3647906623", func := "curvet/curvetlaw8.Sha512Cuts", spec := "sha512Cuts", unfollowed := true, recurses := true, apart := false }
def Sha512CutsSaid : Prop := sha512CutsRow.holds Try.pinned (OpenSpec.ofChange sha512CutsSpec)

/-- ITS FALSE NEIGHBOUR: 'it returns false'. Refute it at one input. -/
def sha512CutsWrong : ChangeSpec := { name := "sha512Cuts", fn := fun _ => fun
  | [d1, d2, d3] => { results := [.lit (.bool false)], args := [d1, d2, d3] }
  | _ => none }
def Sha512CutsWrongFalsely : Prop := sha512CutsRow.holds Try.pinned (OpenSpec.ofChange sha512CutsWrong)

/-- 'curvetlaw8.Sha512Ends': WHATEVER THE INPUT: true; the input reads as it did. -/
def sha512EndsSpec : ChangeSpec := { name := "sha512Ends", fn := fun _ => fun
  | [d1, d2] => { results := [.lit (.bool true)], args := [d1, d2] }
  | _ => none }
def sha512EndsRow : OpenClaim := { program := "ythoaaajgmiclnaa", sum := "1381bfba510a5d655c08817d510dfb42ae718366efc3f3f773ba9f3647906623", func := "curvet/curvetlaw8.Sha512Ends", spec := "sha512Ends", unfollowed := true, recurses := true, apart := false }
def Sha512EndsSaid : Prop := sha512EndsRow.holds Try.pinned (OpenSpec.ofChange sha512EndsSpec)

/-- ITS FALSE NEIGHBOUR: 'it returns false'. Refute it at one input. -/
def sha512EndsWrong : ChangeSpec := { name := "sha512Ends", fn := fun _ => fun
  | [d1, d2] => { results := [.lit (.bool false)], args := [d1, d2] }
  | _ => none }
def Sha512EndsWrongFalsely : Prop := sha512EndsRow.holds Try.pinned (OpenSpec.ofChange sha512EndsWrong)

/-- 'curvetlaw8.Sha512Apart': WHATEVER THE INPUT: true; the input reads as it did. -/
def sha512ApartSpec : ChangeSpec := { name := "sha512Apart", fn := fun _ => fun
  | [d1, d2] => { results := [.lit (.bool true)], args := [d1, d2] }
  | _ => none }
def sha512ApartRow : OpenClaim := { program := "ythoaaajgmiclnaa", sum := "1381bfba510a5d655c08817d510dfb42ae718366efc3f3f773ba9f3647906623", func := "curvet/curvetlaw8.Sha512Apart", spec := "sha512Apart", unfollowed := true, recurses := true, apart := false }
def Sha512ApartSaid : Prop := sha512ApartRow.holds Try.pinned (OpenSpec.ofChange sha512ApartSpec)

/-- ITS FALSE NEIGHBOUR: 'it returns false'. Refute it at one input. -/
def sha512ApartWrong : ChangeSpec := { name := "sha512Apart", fn := fun _ => fun
  | [d1, d2] => { results := [.lit (.bool false)], args := [d1, d2] }
  | _ => none }
def Sha512ApartWrongFalsely : Prop := sha512ApartRow.holds Try.pinned (OpenSpec.ofChange sha512ApartWrong)

/- THE SECOND FORM. 'bulk': how many values and letters a reading holds, each counted each time it is reached (what is shared counts as often as it is met; a slice's spare places count too). A statement '..UptoSaid' is the law's where the arguments, and the package variables that the reading takes, are together of bulk at most 1048576: NARROWER than '..Said'. Prove '..Said' where nothing that the law and all that it calls make is longer than what came in: it says more and counts as full. Else prove '..UptoSaid'. A law counts once. -/
mutual
def uptoBulk {H : Type} : DataW H → Nat
  | .lit (.string bytes) => bytes.length + 1
  | .lit _ => 1
  | .nil => 1
  | .ptr d => uptoBulk d + 1
  | .slice elems spare => uptoBulkAll elems + uptoBulkAll spare + 1
  | .agg parts => uptoBulkAll parts + 1
  | .iface _ d => uptoBulk d + 1
  | .map entries => uptoBulkEntries entries + 1
  | .held _ => 1
def uptoBulkAll {H : Type} : List (DataW H) → Nat
  | [] => 0
  | d :: r => uptoBulk d + uptoBulkAll r
def uptoBulkEntries {H : Type} : List (Lit × DataW H) → Nat
  | [] => 0
  | x :: r => uptoBulkEntry x + uptoBulkEntries r
def uptoBulkEntry {H : Type} : Lit × DataW H → Nat
  | (.string bytes, d) => bytes.length + uptoBulk d + 1
  | (_, d) => uptoBulk d + 1
 end
def uptoSmall : (H : Type) → List (DataW H) → Bool := fun _ ds => decide (uptoBulkAll ds ≤ 1048576)
def OpenSpec.upto (s : _root_.Go.ChangeSpec) : _root_.Go.OpenSpec := { _root_.Go.OpenSpec.ofChange s with cond := some uptoSmall }

/-- 'curvetlaw8.Sha512Of', WHERE WHAT IT READS IS OF BULK AT MOST 1048576: true; the input reads as it did. -/
def sha512OfUptoRow : OpenClaim := { program := "ythoaaajgmiclnaa", sum := "1381bfba510a5d655c08817d510dfb42ae718366efc3f3f773ba9f3647906623", func := "curvet/curvetlaw8.Sha512Of", spec := "sha512Of", unfollowed := true, recurses := true, apart := false, narrowed := true }
def Sha512OfUptoSaid : Prop := sha512OfUptoRow.holds Try.pinned (OpenSpec.upto sha512OfSpec)

/-- 'curvetlaw8.Sha512Streams', WHERE WHAT IT READS IS OF BULK AT MOST 1048576: true; the input reads as it did. -/
def sha512StreamsUptoRow : OpenClaim := { program := "ythoaaajgmiclnaa", sum := "1381bfba510a5d655c08817d510dfb42ae718366efc3f3f773ba9f3647906623", func := "curvet/curvetlaw8.Sha512Streams", spec := "sha512Streams", unfollowed := true, recurses := true, apart := false, narrowed := true }
def Sha512StreamsUptoSaid : Prop := sha512StreamsUptoRow.holds Try.pinned (OpenSpec.upto sha512StreamsSpec)

/-- 'curvetlaw8.Sha512Cuts', WHERE WHAT IT READS IS OF BULK AT MOST 1048576: true; the input reads as it did. -/
def sha512CutsUptoRow : OpenClaim := { program := "ythoaaajgmiclnaa", sum := "1381bfba510a5d655c08817d510dfb42ae718366efc3f3f773ba9f3647906623", func := "curvet/curvetlaw8.Sha512Cuts", spec := "sha512Cuts", unfollowed := true, recurses := true, apart := false, narrowed := true }
def Sha512CutsUptoSaid : Prop := sha512CutsUptoRow.holds Try.pinned (OpenSpec.upto sha512CutsSpec)

/-- 'curvetlaw8.Sha512Ends', WHERE WHAT IT READS IS OF BULK AT MOST 1048576: true; the input reads as it did. -/
def sha512EndsUptoRow : OpenClaim := { program := "ythoaaajgmiclnaa", sum := "1381bfba510a5d655c08817d510dfb42ae718366efc3f3f773ba9f3647906623", func := "curvet/curvetlaw8.Sha512Ends", spec := "sha512Ends", unfollowed := true, recurses := true, apart := false, narrowed := true }
def Sha512EndsUptoSaid : Prop := sha512EndsUptoRow.holds Try.pinned (OpenSpec.upto sha512EndsSpec)

/-- 'curvetlaw8.Sha512Apart', WHERE WHAT IT READS IS OF BULK AT MOST 1048576: true; the input reads as it did. -/
def sha512ApartUptoRow : OpenClaim := { program := "ythoaaajgmiclnaa", sum := "1381bfba510a5d655c08817d510dfb42ae718366efc3f3f773ba9f3647906623", func := "curvet/curvetlaw8.Sha512Apart", spec := "sha512Apart", unfollowed := true, recurses := true, apart := false, narrowed := true }
def Sha512ApartUptoSaid : Prop := sha512ApartUptoRow.holds Try.pinned (OpenSpec.upto sha512ApartSpec)

end Rows
end Go.Proofs.Ythoaaajgmiclnaa
