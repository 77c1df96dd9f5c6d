/-
  No cell of these rows narrows 'for every input' (looked for: loops, veiled, ifaces, maps, wideKeys, modest, calm, conditions, laid).
  DERIVED. THE GIVEN ROWS OF THIS SEAT. 6 by the template 'for every input the law returns true; each argument reads behind the call as it read before'; 0 by the template 'total and deterministic' (their statements: YtlpieciihlgdiaaTotals.lean).
  GIVEN WITH THE SEED: the statements are not yours to turn. If you find one false, say at which input.
  Laid BY PROGRAM, IN A SANDBOX (cutbox-rows.mjs): the forced cells as the released guide's own fill.sh prints them over the translation b10340d76cdbb930… (all of the seat's roots in one cut). By AI agents, Wed Nov 11 2026. No macro, syntax, notation, axiom, sorry.
-/
import Derived.Test.YtlpieciihlgdiaaChecked
import GoSem.Claim
import GoSem.ClaimJoined
import GoSem.ClaimMapViews
import Derived.JoinedTies
import Derived.KernelRfl
namespace Go.Proofs.Ytlpieciihlgdiaa
/- THE CELL 'sum', in the pinned program and in every row, IS THE sha256 OF THE DUMP (.gsa) THAT YtlpieciihlgdiaaProg.lean LOADS. Nothing in Lean hashes anything: it is a label: what it is worth is what the hold of that sum in a sandbox is worth. -/
noncomputable def Try.pinned : Pinned := { name := "ytlpieciihlgdiaa", sum := "b10340d76cdbb930933a9197fdcfdc31ab29856a15b57e4986e54083a942f8f5", checked := Try.checked }
namespace Rows
def none {H : Type} : Left H := { results := [], args := [] }

/-- 'tallowlaw10.GraphChecks': WHATEVER THE INPUT: true; the input reads as it did. -/
def graphChecksSpec : ChangeSpec := { name := "graphChecks", fn := fun _ => fun
  | [d] => { results := [.lit (.bool true)], args := [d] }
  | _ => none }
def graphChecksRow : OpenClaim := { program := "ytlpieciihlgdiaa", sum := "b10340d76cdbb930933a9197fdcfdc31ab29856a15b57e4986e54083a942f8f5", func := "tallow/tallowlaw10.GraphChecks", spec := "graphChecks", unfollowed := true, recurses := true, apart := false }
def GraphChecksSaid : Prop := graphChecksRow.holds Try.pinned (OpenSpec.ofChange graphChecksSpec)

/-- ITS FALSE NEIGHBOUR: 'it returns false'. Refute it at one input. -/
def graphChecksWrong : ChangeSpec := { name := "graphChecks", fn := fun _ => fun
  | [d] => { results := [.lit (.bool false)], args := [d] }
  | _ => none }
def GraphChecksWrongFalsely : Prop := graphChecksRow.holds Try.pinned (OpenSpec.ofChange graphChecksWrong)

/-- 'tallowlaw10.GraphHolds': WHATEVER THE INPUT: true; the input reads as it did. -/
def graphHoldsSpec : ChangeSpec := { name := "graphHolds", fn := fun _ => fun
  | [d1, d2, d3] => { results := [.lit (.bool true)], args := [d1, d2, d3] }
  | _ => none }
def graphHoldsRow : OpenClaim := { program := "ytlpieciihlgdiaa", sum := "b10340d76cdbb930933a9197fdcfdc31ab29856a15b57e4986e54083a942f8f5", func := "tallow/tallowlaw10.GraphHolds", spec := "graphHolds", unfollowed := true, recurses := true, apart := false }
def GraphHoldsSaid : Prop := graphHoldsRow.holds Try.pinned (OpenSpec.ofChange graphHoldsSpec)

/-- ITS FALSE NEIGHBOUR: 'it returns false'. Refute it at one input. -/
def graphHoldsWrong : ChangeSpec := { name := "graphHolds", fn := fun _ => fun
  | [d1, d2, d3] => { results := [.lit (.bool false)], args := [d1, d2, d3] }
  | _ => none }
def GraphHoldsWrongFalsely : Prop := graphHoldsRow.holds Try.pinned (OpenSpec.ofChange graphHoldsWrong)

/-- 'tallowlaw10.GraphSums': WHATEVER THE INPUT: true; the input reads as it did. -/
def graphSumsSpec : ChangeSpec := { name := "graphSums", fn := fun _ => fun
  | [d] => { results := [.lit (.bool true)], args := [d] }
  | _ => none }
def graphSumsRow : OpenClaim := { program := "ytlpieciihlgdiaa", sum := "b10340d76cdbb930933a9197fdcfdc31ab29856a15b57e4986e54083a942f8f5", func := "tallow/tallowlaw10.GraphSums", spec := "graphSums", unfollowed := true, recurses := true, apart := false }
def GraphSumsSaid : Prop := graphSumsRow.holds Try.pinned (OpenSpec.ofChange graphSumsSpec)

/-- ITS FALSE NEIGHBOUR: 'it returns false'. Refute it at one input. -/
def graphSumsWrong : ChangeSpec := { name := "graphSums", fn := fun _ => fun
  | [d] => { results := [.lit (.bool false)], args := [d] }
  | _ => none }
def GraphSumsWrongFalsely : Prop := graphSumsRow.holds Try.pinned (OpenSpec.ofChange graphSumsWrong)

/-- 'tallowlaw10.GraphHolders': WHATEVER THE INPUT: true; the input reads as it did. -/
def graphHoldersSpec : ChangeSpec := { name := "graphHolders", fn := fun _ => fun
  | [d1, d2] => { results := [.lit (.bool true)], args := [d1, d2] }
  | _ => none }
def graphHoldersRow : OpenClaim := { program := "ytlpieciihlgdiaa", sum := "b10340d76cdbb930933a9197fdcfdc31ab29856a15b57e4986e54083a942f8f5", func := "tallow/tallowlaw10.GraphHolders", spec := "graphHolders", unfollowed := true, recurses := true, apart := false }
def GraphHoldersSaid : Prop := graphHoldersRow.holds Try.pinned (OpenSpec.ofChange graphHoldersSpec)

/-- ITS FALSE NEIGHBOUR: 'it returns false'. Refute it at one input. -/
def graphHoldersWrong : ChangeSpec := { name := "graphHolders", fn := fun _ => fun
  | [d1, d2] => { results := [.lit (.bool false)], args := [d1, d2] }
  | _ => none }
def GraphHoldersWrongFalsely : Prop := graphHoldersRow.holds Try.pinned (OpenSpec.ofChange graphHoldersWrong)

/-- 'tallowlaw10.GraphRight': WHATEVER THE INPUT: true; the input reads as it did. -/
def graphRightSpec : ChangeSpec := { name := "graphRight", fn := fun _ => fun
  | [d1, d2, d3] => { results := [.lit (.bool true)], args := [d1, d2, d3] }
  | _ => none }
def graphRightRow : OpenClaim := { program := "ytlpieciihlgdiaa", sum := "b10340d76cdbb930933a9197fdcfdc31ab29856a15b57e4986e54083a942f8f5", func := "tallow/tallowlaw10.GraphRight", spec := "graphRight", unfollowed := true, recurses := true, apart := false }
def GraphRightSaid : Prop := graphRightRow.holds Try.pinned (OpenSpec.ofChange graphRightSpec)

/-- ITS FALSE NEIGHBOUR: 'it returns false'. Refute it at one input. -/
def graphRightWrong : ChangeSpec := { name := "graphRight", fn := fun _ => fun
  | [d1, d2, d3] => { results := [.lit (.bool false)], args := [d1, d2, d3] }
  | _ => none }
def GraphRightWrongFalsely : Prop := graphRightRow.holds Try.pinned (OpenSpec.ofChange graphRightWrong)

/-- 'tallowlaw10.GraphKnown': WHATEVER THE INPUT: true; the input reads as it did. -/
def graphKnownSpec : ChangeSpec := { name := "graphKnown", fn := fun _ => fun
  | [] => { results := [.lit (.bool true)], args := [] }
  | _ => none }
def graphKnownRow : OpenClaim := { program := "ytlpieciihlgdiaa", sum := "b10340d76cdbb930933a9197fdcfdc31ab29856a15b57e4986e54083a942f8f5", func := "tallow/tallowlaw10.GraphKnown", spec := "graphKnown", unfollowed := true, recurses := true, apart := false }
def GraphKnownSaid : Prop := graphKnownRow.holds Try.pinned (OpenSpec.ofChange graphKnownSpec)

/-- ITS FALSE NEIGHBOUR: 'it returns false'. Refute it at one input. -/
def graphKnownWrong : ChangeSpec := { name := "graphKnown", fn := fun _ => fun
  | [] => { results := [.lit (.bool false)], args := [] }
  | _ => none }
def GraphKnownWrongFalsely : Prop := graphKnownRow.holds Try.pinned (OpenSpec.ofChange graphKnownWrong)

/- THE SECOND FORM. 'bulk': how many values and letters a reading holds, each counted each time it is reached (what is shared counts as often as it is met; a slice's spare places count too). A statement '..UptoSaid' is the law's where the arguments, and the package variables that the reading takes, are together of bulk at most 1048576: NARROWER than '..Said'. Prove '..Said' where nothing that the law and all that it calls make is longer than what came in: it says more and counts as full. Else prove '..UptoSaid'. A law counts once. -/
mutual
def uptoBulk {H : Type} : DataW H → Nat
  | .lit (.string bytes) => bytes.length + 1
  | .lit _ => 1
  | .nil => 1
  | .ptr d => uptoBulk d + 1
  | .slice elems spare => uptoBulkAll elems + uptoBulkAll spare + 1
  | .agg parts => uptoBulkAll parts + 1
  | .iface _ d => uptoBulk d + 1
  | .map entries => uptoBulkEntries entries + 1
  | .held _ => 1
def uptoBulkAll {H : Type} : List (DataW H) → Nat
  | [] => 0
  | d :: r => uptoBulk d + uptoBulkAll r
def uptoBulkEntries {H : Type} : List (Lit × DataW H) → Nat
  | [] => 0
  | x :: r => uptoBulkEntry x + uptoBulkEntries r
def uptoBulkEntry {H : Type} : Lit × DataW H → Nat
  | (.string bytes, d) => bytes.length + uptoBulk d + 1
  | (_, d) => uptoBulk d + 1
 end
def uptoSmall : (H : Type) → List (DataW H) → Bool := fun _ ds => decide (uptoBulkAll ds ≤ 1048576)
def OpenSpec.upto (s : _root_.Go.ChangeSpec) : _root_.Go.OpenSpec := { _root_.Go.OpenSpec.ofChange s with cond := some uptoSmall }

/-- 'tallowlaw10.GraphChecks', WHERE WHAT IT READS IS OF BULK AT MOST 1048576: true; the input reads as it did. -/
def graphChecksUptoRow : OpenClaim := { program := "ytlpieciihlgdiaa", sum := "b10340d76cdbb930933a9197fdcfdc31ab29856a15b57e4986e54083a942f8f5", func := "tallow/tallowlaw10.GraphChecks", spec := "graphChecks", unfollowed := true, recurses := true, apart := false, narrowed := true }
def GraphChecksUptoSaid : Prop := graphChecksUptoRow.holds Try.pinned (OpenSpec.upto graphChecksSpec)

/-- 'tallowlaw10.GraphHolds', WHERE WHAT IT READS IS OF BULK AT MOST 1048576: true; the input reads as it did. -/
def graphHoldsUptoRow : OpenClaim := { program := "ytlpieciihlgdiaa", sum := "b10340d76cdbb930933a9197fdcfdc31ab29856a15b57e4986e54083a942f8f5", func := "tallow/tallowlaw10.GraphHolds", spec := "graphHolds", unfollowed := true, recurses := true, apart := false, narrowed := true }
def GraphHoldsUptoSaid : Prop := graphHoldsUptoRow.holds Try.pinned (OpenSpec.upto graphHoldsSpec)

/-- 'tallowlaw10.GraphSums', WHERE WHAT IT READS IS OF BULK AT MOST 1048576: true; the input reads as it did. -/
def graphSumsUptoRow : OpenClaim := { program := "ytlpieciihlgdiaa", sum := "b10340d76cdbb930933a9197fdcfdc31ab29856a15b57e4986e54083a942f8f5", func := "tallow/tallowlaw10.GraphSums", spec := "graphSums", unfollowed := true, recurses := true, apart := false, narrowed := true }
def GraphSumsUptoSaid : Prop := graphSumsUptoRow.holds Try.pinned (OpenSpec.upto graphSumsSpec)

/-- 'tallowlaw10.GraphHolders', WHERE WHAT IT READS IS OF BULK AT MOST 1048576: true; the input reads as it did. -/
def graphHoldersUptoRow : OpenClaim := { program := "ytlpieciihlgdiaa", sum := "b10340d76cdbb930933a9197fdcfdc31ab29856a15b57e4986e54083a942f8f5", func := "tallow/tallowlaw10.GraphHolders", spec := "graphHolders", unfollowed := true, recurses := true, apart := false, narrowed := true }
def GraphHoldersUptoSaid : Prop := graphHoldersUptoRow.holds Try.pinned (OpenSpec.upto graphHoldersSpec)

/-- 'tallowlaw10.GraphRight', WHERE WHAT IT READS IS OF BULK AT MOST 1048576: true; the input reads as it did. -/
def graphRightUptoRow : OpenClaim := { program := "ytlpieciihlgdiaa", sum := "b10340d76cdbb930933a9197fdcfdc31ab29856a15b57e4986e54083a942f8f5", func := "tallow/tallowlaw10.GraphRight", spec := "graphRight", unfollowed := true, recurses := true, apart := false, narrowed := true }
def GraphRightUptoSaid : Prop := graphRightUptoRow.holds Try.pinned (OpenSpec.upto graphRightSpec)

/-- 'tallowlaw10.GraphKnown', WHERE WHAT IT READS IS OF BULK AT MOST 1048576: true; the input reads as it did. -/
def graphKnownUptoRow : OpenClaim := { program := "ytlpieciihlgdiaa", sum := "b10340d76cdbb930933a9197fdcfdc31ab29856a15b57e4986e54083a942f8f5", func := "tallow/tallowlaw10.GraphKnown", spec := "graphKnown", unfollowed := true, recurses := true, apart := false, narrowed := true }
def GraphKnownUptoSaid : Prop := graphKnownUptoRow.holds Try.pinned (OpenSpec.upto graphKnownSpec)

end Rows
end Go.Proofs.Ytlpieciihlgdiaa
