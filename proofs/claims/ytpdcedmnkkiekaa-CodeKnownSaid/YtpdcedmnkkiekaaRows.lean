/-
  No cell of these rows narrows 'for every input' (looked for: loops, veiled, ifaces, maps, wideKeys, modest, calm, conditions, laid).
  DERIVED. THE GIVEN ROWS OF THIS SEAT. 7 by the template 'for every input the law returns true; each argument reads behind the call as it read before'; 0 by the template 'total and deterministic' (their statements: YtpdcedmnkkiekaaTotals.lean).
  GIVEN WITH THE SEED: the statements are not yours to turn. If you find one false, say at which input.
  Laid BY PROGRAM, IN A SANDBOX (cutbox-rows.mjs): the forced cells as the released guide's own fill.sh prints them over the translation 5f15774f9ac17eae… (all of the seat's roots in one cut). By AI agents, Wed Nov 11 2026. No macro, syntax, notation, axiom, sorry.
-/
import Derived.Test.YtpdcedmnkkiekaaChecked
import GoSem.Claim
import GoSem.ClaimJoined
import GoSem.ClaimMapViews
import Derived.JoinedTies
import Derived.KernelRfl
namespace Go.Proofs.Ytpdcedmnkkiekaa
/- THE CELL 'sum', in the pinned program and in every row, IS THE sha256 OF THE DUMP (.gsa) THAT YtpdcedmnkkiekaaProg.lean LOADS. Nothing in Lean hashes anything: it is a label: what it is worth is what the hold of that sum in a sandbox is worth. -/
noncomputable def Try.pinned : Pinned := { name := "ytpdcedmnkkiekaa", sum := "5f15774f9ac17eae77e0c54bf433d4bd33fa6633ca7497f2c72d32247e73eaae", checked := Try.checked }
namespace Rows
def none {H : Type} : Left H := { results := [], args := [] }

/-- 'tallowlaw20.CodeNames': WHATEVER THE INPUT: true; the input reads as it did. -/
def codeNamesSpec : ChangeSpec := { name := "codeNames", fn := fun _ => fun
  | [d1, d2] => { results := [.lit (.bool true)], args := [d1, d2] }
  | _ => none }
def codeNamesRow : OpenClaim := { program := "ytpdcedmnkkiekaa", sum := "5f15774f9ac17eae77e0c54bf433d4bd33fa6633ca7497f2c72d32247e73eaae", func := "tallow/tallowlaw20.CodeNames", spec := "codeNames", unfollowed := true, recurses := true, apart := false }
def CodeNamesSaid : Prop := codeNamesRow.holds Try.pinned (OpenSpec.ofChange codeNamesSpec)

/-- ITS FALSE NEIGHBOUR: 'it returns false'. Refute it at one input. -/
def codeNamesWrong : ChangeSpec := { name := "codeNames", fn := fun _ => fun
  | [d1, d2] => { results := [.lit (.bool false)], args := [d1, d2] }
  | _ => none }
def CodeNamesWrongFalsely : Prop := codeNamesRow.holds Try.pinned (OpenSpec.ofChange codeNamesWrong)

/-- 'tallowlaw20.CodeChecks': WHATEVER THE INPUT: true; the input reads as it did. -/
def codeChecksSpec : ChangeSpec := { name := "codeChecks", fn := fun _ => fun
  | [d1, d2] => { results := [.lit (.bool true)], args := [d1, d2] }
  | _ => none }
def codeChecksRow : OpenClaim := { program := "ytpdcedmnkkiekaa", sum := "5f15774f9ac17eae77e0c54bf433d4bd33fa6633ca7497f2c72d32247e73eaae", func := "tallow/tallowlaw20.CodeChecks", spec := "codeChecks", unfollowed := true, recurses := true, apart := false }
def CodeChecksSaid : Prop := codeChecksRow.holds Try.pinned (OpenSpec.ofChange codeChecksSpec)

/-- ITS FALSE NEIGHBOUR: 'it returns false'. Refute it at one input. -/
def codeChecksWrong : ChangeSpec := { name := "codeChecks", fn := fun _ => fun
  | [d1, d2] => { results := [.lit (.bool false)], args := [d1, d2] }
  | _ => none }
def CodeChecksWrongFalsely : Prop := codeChecksRow.holds Try.pinned (OpenSpec.ofChange codeChecksWrong)

/-- 'tallowlaw20.CodeInstrs': WHATEVER THE INPUT: true; the input reads as it did. -/
def codeInstrsSpec : ChangeSpec := { name := "codeInstrs", fn := fun _ => fun
  | [d1, d2] => { results := [.lit (.bool true)], args := [d1, d2] }
  | _ => none }
def codeInstrsRow : OpenClaim := { program := "ytpdcedmnkkiekaa", sum := "5f15774f9ac17eae77e0c54bf433d4bd33fa6633ca7497f2c72d32247e73eaae", func := "tallow/tallowlaw20.CodeInstrs", spec := "codeInstrs", unfollowed := true, recurses := true, apart := false }
def CodeInstrsSaid : Prop := codeInstrsRow.holds Try.pinned (OpenSpec.ofChange codeInstrsSpec)

/-- ITS FALSE NEIGHBOUR: 'it returns false'. Refute it at one input. -/
def codeInstrsWrong : ChangeSpec := { name := "codeInstrs", fn := fun _ => fun
  | [d1, d2] => { results := [.lit (.bool false)], args := [d1, d2] }
  | _ => none }
def CodeInstrsWrongFalsely : Prop := codeInstrsRow.holds Try.pinned (OpenSpec.ofChange codeInstrsWrong)

/-- 'tallowlaw20.CodeParts': WHATEVER THE INPUT: true; the input reads as it did. -/
def codePartsSpec : ChangeSpec := { name := "codeParts", fn := fun _ => fun
  | [d] => { results := [.lit (.bool true)], args := [d] }
  | _ => none }
def codePartsRow : OpenClaim := { program := "ytpdcedmnkkiekaa", sum := "5f15774f9ac17eae77e0c54bf433d4bd33fa6633ca7497f2c72d32247e73eaae", func := "tallow/tallowlaw20.CodeParts", spec := "codeParts", unfollowed := true, recurses := true, apart := false }
def CodePartsSaid : Prop := codePartsRow.holds Try.pinned (OpenSpec.ofChange codePartsSpec)

/-- ITS FALSE NEIGHBOUR: 'it returns false'. Refute it at one input. -/
def codePartsWrong : ChangeSpec := { name := "codeParts", fn := fun _ => fun
  | [d] => { results := [.lit (.bool false)], args := [d] }
  | _ => none }
def CodePartsWrongFalsely : Prop := codePartsRow.holds Try.pinned (OpenSpec.ofChange codePartsWrong)

/-- 'tallowlaw20.CodeMore': WHATEVER THE INPUT: true; the input reads as it did. -/
def codeMoreSpec : ChangeSpec := { name := "codeMore", fn := fun _ => fun
  | [d1, d2] => { results := [.lit (.bool true)], args := [d1, d2] }
  | _ => none }
def codeMoreRow : OpenClaim := { program := "ytpdcedmnkkiekaa", sum := "5f15774f9ac17eae77e0c54bf433d4bd33fa6633ca7497f2c72d32247e73eaae", func := "tallow/tallowlaw20.CodeMore", spec := "codeMore", unfollowed := true, recurses := true, apart := false }
def CodeMoreSaid : Prop := codeMoreRow.holds Try.pinned (OpenSpec.ofChange codeMoreSpec)

/-- ITS FALSE NEIGHBOUR: 'it returns false'. Refute it at one input. -/
def codeMoreWrong : ChangeSpec := { name := "codeMore", fn := fun _ => fun
  | [d1, d2] => { results := [.lit (.bool false)], args := [d1, d2] }
  | _ => none }
def CodeMoreWrongFalsely : Prop := codeMoreRow.holds Try.pinned (OpenSpec.ofChange codeMoreWrong)

/-- 'tallowlaw20.CodeBack': WHATEVER THE INPUT: true; the input reads as it did. -/
def codeBackSpec : ChangeSpec := { name := "codeBack", fn := fun _ => fun
  | [d1, d2] => { results := [.lit (.bool true)], args := [d1, d2] }
  | _ => none }
def codeBackRow : OpenClaim := { program := "ytpdcedmnkkiekaa", sum := "5f15774f9ac17eae77e0c54bf433d4bd33fa6633ca7497f2c72d32247e73eaae", func := "tallow/tallowlaw20.CodeBack", spec := "codeBack", unfollowed := true, recurses := true, apart := false }
def CodeBackSaid : Prop := codeBackRow.holds Try.pinned (OpenSpec.ofChange codeBackSpec)

/-- ITS FALSE NEIGHBOUR: 'it returns false'. Refute it at one input. -/
def codeBackWrong : ChangeSpec := { name := "codeBack", fn := fun _ => fun
  | [d1, d2] => { results := [.lit (.bool false)], args := [d1, d2] }
  | _ => none }
def CodeBackWrongFalsely : Prop := codeBackRow.holds Try.pinned (OpenSpec.ofChange codeBackWrong)

/-- 'tallowlaw20.CodeKnown': WHATEVER THE INPUT: true; the input reads as it did. -/
def codeKnownSpec : ChangeSpec := { name := "codeKnown", fn := fun _ => fun
  | [] => { results := [.lit (.bool true)], args := [] }
  | _ => none }
def codeKnownRow : OpenClaim := { program := "ytpdcedmnkkiekaa", sum := "5f15774f9ac17eae77e0c54bf433d4bd33fa6633ca7497f2c72d32247e73eaae", func := "tallow/tallowlaw20.CodeKnown", spec := "codeKnown", unfollowed := true, recurses := true, apart := false }
def CodeKnownSaid : Prop := codeKnownRow.holds Try.pinned (OpenSpec.ofChange codeKnownSpec)

/-- ITS FALSE NEIGHBOUR: 'it returns false'. Refute it at one input. -/
def codeKnownWrong : ChangeSpec := { name := "codeKnown", fn := fun _ => fun
  | [] => { results := [.lit (.bool false)], args := [] }
  | _ => none }
def CodeKnownWrongFalsely : Prop := codeKnownRow.holds Try.pinned (OpenSpec.ofChange codeKnownWrong)

/- THE SECOND FORM. 'bulk': how many values and letters a reading holds, each counted each time it is reached (what is shared counts as often as it is met; a slice's spare places count too). A statement '..UptoSaid' is the law's where the arguments, and the package variables that the reading takes, are together of bulk at most 1048576: NARROWER than '..Said'. Prove '..Said' where nothing that the law and all that it calls make is longer than what came in: it says more and counts as full. Else prove '..UptoSaid'. A law counts once. -/
mutual
def uptoBulk {H : Type} : DataW H → Nat
  | .lit (.string bytes) => bytes.length + 1
  | .lit _ => 1
  | .nil => 1
  | .ptr d => uptoBulk d + 1
  | .slice elems spare => uptoBulkAll elems + uptoBulkAll spare + 1
  | .agg parts => uptoBulkAll parts + 1
  | .iface _ d => uptoBulk d + 1
  | .map entries => uptoBulkEntries entries + 1
  | .held _ => 1
def uptoBulkAll {H : Type} : List (DataW H) → Nat
  | [] => 0
  | d :: r => uptoBulk d + uptoBulkAll r
def uptoBulkEntries {H : Type} : List (Lit × DataW H) → Nat
  | [] => 0
  | x :: r => uptoBulkEntry x + uptoBulkEntries r
def uptoBulkEntry {H : Type} : Lit × DataW H → Nat
  | (.string bytes, d) => bytes.length + uptoBulk d + 1
  | (_, d) => uptoBulk d + 1
 end
def uptoSmall : (H : Type) → List (DataW H) → Bool := fun _ ds => decide (uptoBulkAll ds ≤ 1048576)
def OpenSpec.upto (s : _root_.Go.ChangeSpec) : _root_.Go.OpenSpec := { _root_.Go.OpenSpec.ofChange s with cond := some uptoSmall }

/-- 'tallowlaw20.CodeNames', WHERE WHAT IT READS IS OF BULK AT MOST 1048576: true; the input reads as it did. -/
def codeNamesUptoRow : OpenClaim := { program := "ytpdcedmnkkiekaa", sum := "5f15774f9ac17eae77e0c54bf433d4bd33fa6633ca7497f2c72d32247e73eaae", func := "tallow/tallowlaw20.CodeNames", spec := "codeNames", unfollowed := true, recurses := true, apart := false, narrowed := true }
def CodeNamesUptoSaid : Prop := codeNamesUptoRow.holds Try.pinned (OpenSpec.upto codeNamesSpec)

/-- 'tallowlaw20.CodeChecks', WHERE WHAT IT READS IS OF BULK AT MOST 1048576: true; the input reads as it did. -/
def codeChecksUptoRow : OpenClaim := { program := "ytpdcedmnkkiekaa", sum := "5f15774f9ac17eae77e0c54bf433d4bd33fa6633ca7497f2c72d32247e73eaae", func := "tallow/tallowlaw20.CodeChecks", spec := "codeChecks", unfollowed := true, recurses := true, apart := false, narrowed := true }
def CodeChecksUptoSaid : Prop := codeChecksUptoRow.holds Try.pinned (OpenSpec.upto codeChecksSpec)

/-- 'tallowlaw20.CodeInstrs', WHERE WHAT IT READS IS OF BULK AT MOST 1048576: true; the input reads as it did. -/
def codeInstrsUptoRow : OpenClaim := { program := "ytpdcedmnkkiekaa", sum := "5f15774f9ac17eae77e0c54bf433d4bd33fa6633ca7497f2c72d32247e73eaae", func := "tallow/tallowlaw20.CodeInstrs", spec := "codeInstrs", unfollowed := true, recurses := true, apart := false, narrowed := true }
def CodeInstrsUptoSaid : Prop := codeInstrsUptoRow.holds Try.pinned (OpenSpec.upto codeInstrsSpec)

/-- 'tallowlaw20.CodeParts', WHERE WHAT IT READS IS OF BULK AT MOST 1048576: true; the input reads as it did. -/
def codePartsUptoRow : OpenClaim := { program := "ytpdcedmnkkiekaa", sum := "5f15774f9ac17eae77e0c54bf433d4bd33fa6633ca7497f2c72d32247e73eaae", func := "tallow/tallowlaw20.CodeParts", spec := "codeParts", unfollowed := true, recurses := true, apart := false, narrowed := true }
def CodePartsUptoSaid : Prop := codePartsUptoRow.holds Try.pinned (OpenSpec.upto codePartsSpec)

/-- 'tallowlaw20.CodeMore', WHERE WHAT IT READS IS OF BULK AT MOST 1048576: true; the input reads as it did. -/
def codeMoreUptoRow : OpenClaim := { program := "ytpdcedmnkkiekaa", sum := "5f15774f9ac17eae77e0c54bf433d4bd33fa6633ca7497f2c72d32247e73eaae", func := "tallow/tallowlaw20.CodeMore", spec := "codeMore", unfollowed := true, recurses := true, apart := false, narrowed := true }
def CodeMoreUptoSaid : Prop := codeMoreUptoRow.holds Try.pinned (OpenSpec.upto codeMoreSpec)

/-- 'tallowlaw20.CodeBack', WHERE WHAT IT READS IS OF BULK AT MOST 1048576: true; the input reads as it did. -/
def codeBackUptoRow : OpenClaim := { program := "ytpdcedmnkkiekaa", sum := "5f15774f9ac17eae77e0c54bf433d4bd33fa6633ca7497f2c72d32247e73eaae", func := "tallow/tallowlaw20.CodeBack", spec := "codeBack", unfollowed := true, recurses := true, apart := false, narrowed := true }
def CodeBackUptoSaid : Prop := codeBackUptoRow.holds Try.pinned (OpenSpec.upto codeBackSpec)

/-- 'tallowlaw20.CodeKnown', WHERE WHAT IT READS IS OF BULK AT MOST 1048576: true; the input reads as it did. -/
def codeKnownUptoRow : OpenClaim := { program := "ytpdcedmnkkiekaa", sum := "5f15774f9ac17eae77e0c54bf433d4bd33fa6633ca7497f2c72d32247e73eaae", func := "tallow/tallowlaw20.CodeKnown", spec := "codeKnown", unfollowed := true, recurses := true, apart := false, narrowed := true }
def CodeKnownUptoSaid : Prop := codeKnownUptoRow.holds Try.pinned (OpenSpec.upto codeKnownSpec)

end Rows
end Go.Proofs.Ytpdcedmnkkiekaa
