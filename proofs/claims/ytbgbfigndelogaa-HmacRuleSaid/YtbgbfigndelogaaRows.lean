/-
  No cell of these rows narrows 'for every input' (looked for: loops, veiled, ifaces, maps, wideKeys, modest, calm, conditions, laid).
  DERIVED. THE GIVEN ROWS OF THIS SEAT. 5 by the template 'for every input the law returns true; each argument reads behind the call as it read before'; 0 by the template 'total and deterministic' (their statements: YtbgbfigndelogaaTotals.lean).
  GIVEN WITH THE SEED: the statements are not yours to turn. If you find one false, say at which input.
  Laid BY PROGRAM, IN A SANDBOX (cutbox-rows.mjs): the forced cells as the released guide's own fill.sh prints them over the translation b0a4f396bf332acf… (all of the seat's roots in one cut). By AI agents, Wed Nov 11 2026. No macro, syntax, notation, axiom, sorry.
-/
import Derived.Test.YtbgbfigndelogaaChecked
import GoSem.Claim
import GoSem.ClaimJoined
import GoSem.ClaimMapViews
import Derived.JoinedTies
import Derived.KernelRfl
namespace Go.Proofs.Ytbgbfigndelogaa
/- THE CELL 'sum', in the pinned program and in every row, IS THE sha256 OF THE DUMP (.gsa) THAT YtbgbfigndelogaaProg.lean LOADS. Nothing in Lean hashes anything: it is a label: what it is worth is what the hold of that sum in a sandbox is worth. -/
noncomputable def Try.pinned : Pinned := { name := "ytbgbfigndelogaa", sum := "b0a4f396bf332acf3b443f1cc13d2f219893c8d8bb18c627be142d358eaa4f4b", checked := Try.checked }
namespace Rows
def none {H : Type} : Left H := { results := [], args := [] }

/-- 'curvetlaw10.Hmacs': WHATEVER THE INPUT: true; the input reads as it did. -/
def hmacsSpec : ChangeSpec := { name := "hmacs", fn := fun _ => fun
  | [d1, d2, d3, d4] => { results := [.lit (.bool true)], args := [d1, d2, d3, d4] }
  | _ => none }
def hmacsRow : OpenClaim := { program := "ytbgbfigndelogaa", sum := "b0a4f396bf332acf3b443f1cc13d2f219893c8d8bb18c627be142d358eaa4f4b", func := "curvet/curvetlaw10.Hmacs", spec := "hmacs", inPlace := ["internal/abi.NoEscape", "internal/bytealg.MakeNoZero"], unfollowed := true, recurses := true, apart := false }
def HmacsSaid : Prop := hmacsRow.holds Try.pinned (OpenSpec.ofChange hmacsSpec)

/-- ITS FALSE NEIGHBOUR: 'it returns false'. Refute it at one input. -/
def hmacsWrong : ChangeSpec := { name := "hmacs", fn := fun _ => fun
  | [d1, d2, d3, d4] => { results := [.lit (.bool false)], args := [d1, d2, d3, d4] }
  | _ => none }
def HmacsWrongFalsely : Prop := hmacsRow.holds Try.pinned (OpenSpec.ofChange hmacsWrong)

/-- 'curvetlaw10.HmacRule': WHATEVER THE INPUT: true; the input reads as it did. -/
def hmacRuleSpec : ChangeSpec := { name := "hmacRule", fn := fun _ => fun
  | [d1, d2, d3] => { results := [.lit (.bool true)], args := [d1, d2, d3] }
  | _ => none }
def hmacRuleRow : OpenClaim := { program := "ytbgbfigndelogaa", sum := "b0a4f396bf332acf3b443f1cc13d2f219893c8d8bb18c627be142d358eaa4f4b", func := "curvet/curvetlaw10.HmacRule", spec := "hmacRule", inPlace := ["internal/abi.NoEscape", "internal/bytealg.MakeNoZero"], unfollowed := true, recurses := true, apart := false }
def HmacRuleSaid : Prop := hmacRuleRow.holds Try.pinned (OpenSpec.ofChange hmacRuleSpec)

/-- ITS FALSE NEIGHBOUR: 'it returns false'. Refute it at one input. -/
def hmacRuleWrong : ChangeSpec := { name := "hmacRule", fn := fun _ => fun
  | [d1, d2, d3] => { results := [.lit (.bool false)], args := [d1, d2, d3] }
  | _ => none }
def HmacRuleWrongFalsely : Prop := hmacRuleRow.holds Try.pinned (OpenSpec.ofChange hmacRuleWrong)

/-- 'curvetlaw10.HmacOther': WHATEVER THE INPUT: true; the input reads as it did. -/
def hmacOtherSpec : ChangeSpec := { name := "hmacOther", fn := fun _ => fun
  | [d1, d2, d3] => { results := [.lit (.bool true)], args := [d1, d2, d3] }
  | _ => none }
def hmacOtherRow : OpenClaim := { program := "ytbgbfigndelogaa", sum := "b0a4f396bf332acf3b443f1cc13d2f219893c8d8bb18c627be142d358eaa4f4b", func := "curvet/curvetlaw10.HmacOther", spec := "hmacOther", inPlace := ["internal/abi.NoEscape", "internal/bytealg.MakeNoZero"], unfollowed := true, recurses := true, apart := false }
def HmacOtherSaid : Prop := hmacOtherRow.holds Try.pinned (OpenSpec.ofChange hmacOtherSpec)

/-- ITS FALSE NEIGHBOUR: 'it returns false'. Refute it at one input. -/
def hmacOtherWrong : ChangeSpec := { name := "hmacOther", fn := fun _ => fun
  | [d1, d2, d3] => { results := [.lit (.bool false)], args := [d1, d2, d3] }
  | _ => none }
def HmacOtherWrongFalsely : Prop := hmacOtherRow.holds Try.pinned (OpenSpec.ofChange hmacOtherWrong)

/-- 'curvetlaw10.HmacKnown': WHATEVER THE INPUT: true; the input reads as it did. -/
def hmacKnownSpec : ChangeSpec := { name := "hmacKnown", fn := fun _ => fun
  | [] => { results := [.lit (.bool true)], args := [] }
  | _ => none }
def hmacKnownRow : OpenClaim := { program := "ytbgbfigndelogaa", sum := "b0a4f396bf332acf3b443f1cc13d2f219893c8d8bb18c627be142d358eaa4f4b", func := "curvet/curvetlaw10.HmacKnown", spec := "hmacKnown", inPlace := ["internal/abi.NoEscape", "internal/bytealg.MakeNoZero"], unfollowed := true, recurses := true, apart := false }
def HmacKnownSaid : Prop := hmacKnownRow.holds Try.pinned (OpenSpec.ofChange hmacKnownSpec)

/-- ITS FALSE NEIGHBOUR: 'it returns false'. Refute it at one input. -/
def hmacKnownWrong : ChangeSpec := { name := "hmacKnown", fn := fun _ => fun
  | [] => { results := [.lit (.bool false)], args := [] }
  | _ => none }
def HmacKnownWrongFalsely : Prop := hmacKnownRow.holds Try.pinned (OpenSpec.ofChange hmacKnownWrong)

/-- 'curvetlaw10.HmacKeys': WHATEVER THE INPUT: true; the input reads as it did. -/
def hmacKeysSpec : ChangeSpec := { name := "hmacKeys", fn := fun _ => fun
  | [d1, d2, d3, d4] => { results := [.lit (.bool true)], args := [d1, d2, d3, d4] }
  | _ => none }
def hmacKeysRow : OpenClaim := { program := "ytbgbfigndelogaa", sum := "b0a4f396bf332acf3b443f1cc13d2f219893c8d8bb18c627be142d358eaa4f4b", func := "curvet/curvetlaw10.HmacKeys", spec := "hmacKeys", inPlace := ["internal/abi.NoEscape", "internal/bytealg.MakeNoZero"], unfollowed := true, recurses := true, apart := false }
def HmacKeysSaid : Prop := hmacKeysRow.holds Try.pinned (OpenSpec.ofChange hmacKeysSpec)

/-- ITS FALSE NEIGHBOUR: 'it returns false'. Refute it at one input. -/
def hmacKeysWrong : ChangeSpec := { name := "hmacKeys", fn := fun _ => fun
  | [d1, d2, d3, d4] => { results := [.lit (.bool false)], args := [d1, d2, d3, d4] }
  | _ => none }
def HmacKeysWrongFalsely : Prop := hmacKeysRow.holds Try.pinned (OpenSpec.ofChange hmacKeysWrong)

/- THE SECOND FORM. 'bulk': how many values and letters a reading holds, each counted each time it is reached (what is shared counts as often as it is met; a slice's spare places count too). A statement '..UptoSaid' is the law's where the arguments, and the package variables that the reading takes, are together of bulk at most 1048576: NARROWER than '..Said'. Prove '..Said' where nothing that the law and all that it calls make is longer than what came in: it says more and counts as full. Else prove '..UptoSaid'. A law counts once. -/
mutual
def uptoBulk {H : Type} : DataW H → Nat
  | .lit (.string bytes) => bytes.length + 1
  | .lit _ => 1
  | .nil => 1
  | .ptr d => uptoBulk d + 1
  | .slice elems spare => uptoBulkAll elems + uptoBulkAll spare + 1
  | .agg parts => uptoBulkAll parts + 1
  | .iface _ d => uptoBulk d + 1
  | .map entries => uptoBulkEntries entries + 1
  | .held _ => 1
def uptoBulkAll {H : Type} : List (DataW H) → Nat
  | [] => 0
  | d :: r => uptoBulk d + uptoBulkAll r
def uptoBulkEntries {H : Type} : List (Lit × DataW H) → Nat
  | [] => 0
  | x :: r => uptoBulkEntry x + uptoBulkEntries r
def uptoBulkEntry {H : Type} : Lit × DataW H → Nat
  | (.string bytes, d) => bytes.length + uptoBulk d + 1
  | (_, d) => uptoBulk d + 1
 end
def uptoSmall : (H : Type) → List (DataW H) → Bool := fun _ ds => decide (uptoBulkAll ds ≤ 1048576)
def OpenSpec.upto (s : _root_.Go.ChangeSpec) : _root_.Go.OpenSpec := { _root_.Go.OpenSpec.ofChange s with cond := some uptoSmall }

/-- 'curvetlaw10.Hmacs', WHERE WHAT IT READS IS OF BULK AT MOST 1048576: true; the input reads as it did. -/
def hmacsUptoRow : OpenClaim := { program := "ytbgbfigndelogaa", sum := "b0a4f396bf332acf3b443f1cc13d2f219893c8d8bb18c627be142d358eaa4f4b", func := "curvet/curvetlaw10.Hmacs", spec := "hmacs", inPlace := ["internal/abi.NoEscape", "internal/bytealg.MakeNoZero"], unfollowed := true, recurses := true, apart := false, narrowed := true }
def HmacsUptoSaid : Prop := hmacsUptoRow.holds Try.pinned (OpenSpec.upto hmacsSpec)

/-- 'curvetlaw10.HmacRule', WHERE WHAT IT READS IS OF BULK AT MOST 1048576: true; the input reads as it did. -/
def hmacRuleUptoRow : OpenClaim := { program := "ytbgbfigndelogaa", sum := "b0a4f396bf332acf3b443f1cc13d2f219893c8d8bb18c627be142d358eaa4f4b", func := "curvet/curvetlaw10.HmacRule", spec := "hmacRule", inPlace := ["internal/abi.NoEscape", "internal/bytealg.MakeNoZero"], unfollowed := true, recurses := true, apart := false, narrowed := true }
def HmacRuleUptoSaid : Prop := hmacRuleUptoRow.holds Try.pinned (OpenSpec.upto hmacRuleSpec)

/-- 'curvetlaw10.HmacOther', WHERE WHAT IT READS IS OF BULK AT MOST 1048576: true; the input reads as it did. -/
def hmacOtherUptoRow : OpenClaim := { program := "ytbgbfigndelogaa", sum := "b0a4f396bf332acf3b443f1cc13d2f219893c8d8bb18c627be142d358eaa4f4b", func := "curvet/curvetlaw10.HmacOther", spec := "hmacOther", inPlace := ["internal/abi.NoEscape", "internal/bytealg.MakeNoZero"], unfollowed := true, recurses := true, apart := false, narrowed := true }
def HmacOtherUptoSaid : Prop := hmacOtherUptoRow.holds Try.pinned (OpenSpec.upto hmacOtherSpec)

/-- 'curvetlaw10.HmacKnown', WHERE WHAT IT READS IS OF BULK AT MOST 1048576: true; the input reads as it did. -/
def hmacKnownUptoRow : OpenClaim := { program := "ytbgbfigndelogaa", sum := "b0a4f396bf332acf3b443f1cc13d2f219893c8d8bb18c627be142d358eaa4f4b", func := "curvet/curvetlaw10.HmacKnown", spec := "hmacKnown", inPlace := ["internal/abi.NoEscape", "internal/bytealg.MakeNoZero"], unfollowed := true, recurses := true, apart := false, narrowed := true }
def HmacKnownUptoSaid : Prop := hmacKnownUptoRow.holds Try.pinned (OpenSpec.upto hmacKnownSpec)

/-- 'curvetlaw10.HmacKeys', WHERE WHAT IT READS IS OF BULK AT MOST 1048576: true; the input reads as it did. -/
def hmacKeysUptoRow : OpenClaim := { program := "ytbgbfigndelogaa", sum := "b0a4f396bf332acf3b443f1cc13d2f219893c8d8bb18c627be142d358eaa4f4b", func := "curvet/curvetlaw10.HmacKeys", spec := "hmacKeys", inPlace := ["internal/abi.NoEscape", "internal/bytealg.MakeNoZero"], unfollowed := true, recurses := true, apart := false, narrowed := true }
def HmacKeysUptoSaid : Prop := hmacKeysUptoRow.holds Try.pinned (OpenSpec.upto hmacKeysSpec)

end Rows
end Go.Proofs.Ytbgbfigndelogaa
