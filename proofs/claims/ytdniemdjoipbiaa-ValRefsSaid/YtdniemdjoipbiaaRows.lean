/-
  No cell of these rows narrows 'for every input' (looked for: loops, veiled, ifaces, maps, wideKeys, modest, calm, conditions, laid).
  DERIVED. THE GIVEN ROWS OF THIS SEAT. 7 by the template 'for every input the law returns true; each argument reads behind the call as it read before'; 0 by the template 'total and deterministic' (their statements: YtdniemdjoipbiaaTotals.lean).
  GIVEN WITH THE SEED: the statements are not yours to turn. If you find one false, say at which input.
  Laid BY PROGRAM, IN A SANDBOX (cutbox-rows.mjs): the forced cells as the released guide's own fill.sh prints them over the translation 29d4cbd92f58ee44… (all of the seat's roots in one cut). By AI agents, Wed Nov 11 2026. No macro, syntax, notation, axiom, sorry.
-/
import Derived.Test.YtdniemdjoipbiaaChecked
import GoSem.Claim
import GoSem.ClaimJoined
import GoSem.ClaimMapViews
import Derived.JoinedTies
import Derived.KernelRfl
namespace Go.Proofs.Ytdniemdjoipbiaa
/- THE CELL 'sum', in the pinned program and in every row, IS THE sha256 OF THE DUMP (.gsa) THAT YtdniemdjoipbiaaProg.lean LOADS. Nothing in Lean hashes anything: it is a label: what it is worth is what the hold of that sum in a sandbox is worth. -/
noncomputable def Try.pinned : Pinned := { name := "ytdniemdjoipbiaa", sum := "29d4cbd92f58ee449bb92ef25e8856d0e9b0cf2491917194c06aa5b4a78ac359", checked := Try.checked }
namespace Rows
def none {H : Type} : Left H := { results := [], args := [] }

/-- 'tallowlaw02.ValLooks': WHATEVER THE INPUT: true; the input reads as it did. -/
def valLooksSpec : ChangeSpec := { name := "valLooks", fn := fun _ => fun
  | [d] => { results := [.lit (.bool true)], args := [d] }
  | _ => none }
def valLooksRow : OpenClaim := { program := "ytdniemdjoipbiaa", sum := "29d4cbd92f58ee449bb92ef25e8856d0e9b0cf2491917194c06aa5b4a78ac359", func := "tallow/tallowlaw02.ValLooks", spec := "valLooks", unfollowed := true, recurses := true, apart := false }
def ValLooksSaid : Prop := valLooksRow.holds Try.pinned (OpenSpec.ofChange valLooksSpec)

/-- ITS FALSE NEIGHBOUR: 'it returns false'. Refute it at one input. -/
def valLooksWrong : ChangeSpec := { name := "valLooks", fn := fun _ => fun
  | [d] => { results := [.lit (.bool false)], args := [d] }
  | _ => none }
def ValLooksWrongFalsely : Prop := valLooksRow.holds Try.pinned (OpenSpec.ofChange valLooksWrong)

/-- 'tallowlaw02.ValNames': WHATEVER THE INPUT: true; the input reads as it did. -/
def valNamesSpec : ChangeSpec := { name := "valNames", fn := fun _ => fun
  | [d1, d2] => { results := [.lit (.bool true)], args := [d1, d2] }
  | _ => none }
def valNamesRow : OpenClaim := { program := "ytdniemdjoipbiaa", sum := "29d4cbd92f58ee449bb92ef25e8856d0e9b0cf2491917194c06aa5b4a78ac359", func := "tallow/tallowlaw02.ValNames", spec := "valNames", unfollowed := true, recurses := true, apart := false }
def ValNamesSaid : Prop := valNamesRow.holds Try.pinned (OpenSpec.ofChange valNamesSpec)

/-- ITS FALSE NEIGHBOUR: 'it returns false'. Refute it at one input. -/
def valNamesWrong : ChangeSpec := { name := "valNames", fn := fun _ => fun
  | [d1, d2] => { results := [.lit (.bool false)], args := [d1, d2] }
  | _ => none }
def ValNamesWrongFalsely : Prop := valNamesRow.holds Try.pinned (OpenSpec.ofChange valNamesWrong)

/-- 'tallowlaw02.ValRefs': WHATEVER THE INPUT: true; the input reads as it did. -/
def valRefsSpec : ChangeSpec := { name := "valRefs", fn := fun _ => fun
  | [d] => { results := [.lit (.bool true)], args := [d] }
  | _ => none }
def valRefsRow : OpenClaim := { program := "ytdniemdjoipbiaa", sum := "29d4cbd92f58ee449bb92ef25e8856d0e9b0cf2491917194c06aa5b4a78ac359", func := "tallow/tallowlaw02.ValRefs", spec := "valRefs", unfollowed := true, recurses := true, apart := false }
def ValRefsSaid : Prop := valRefsRow.holds Try.pinned (OpenSpec.ofChange valRefsSpec)

/-- ITS FALSE NEIGHBOUR: 'it returns false'. Refute it at one input. -/
def valRefsWrong : ChangeSpec := { name := "valRefs", fn := fun _ => fun
  | [d] => { results := [.lit (.bool false)], args := [d] }
  | _ => none }
def ValRefsWrongFalsely : Prop := valRefsRow.holds Try.pinned (OpenSpec.ofChange valRefsWrong)

/-- 'tallowlaw02.ValParts': WHATEVER THE INPUT: true; the input reads as it did. -/
def valPartsSpec : ChangeSpec := { name := "valParts", fn := fun _ => fun
  | [d] => { results := [.lit (.bool true)], args := [d] }
  | _ => none }
def valPartsRow : OpenClaim := { program := "ytdniemdjoipbiaa", sum := "29d4cbd92f58ee449bb92ef25e8856d0e9b0cf2491917194c06aa5b4a78ac359", func := "tallow/tallowlaw02.ValParts", spec := "valParts", unfollowed := true, recurses := true, apart := false }
def ValPartsSaid : Prop := valPartsRow.holds Try.pinned (OpenSpec.ofChange valPartsSpec)

/-- ITS FALSE NEIGHBOUR: 'it returns false'. Refute it at one input. -/
def valPartsWrong : ChangeSpec := { name := "valParts", fn := fun _ => fun
  | [d] => { results := [.lit (.bool false)], args := [d] }
  | _ => none }
def ValPartsWrongFalsely : Prop := valPartsRow.holds Try.pinned (OpenSpec.ofChange valPartsWrong)

/-- 'tallowlaw02.ValBack': WHATEVER THE INPUT: true; the input reads as it did. -/
def valBackSpec : ChangeSpec := { name := "valBack", fn := fun _ => fun
  | [d1, d2, d3] => { results := [.lit (.bool true)], args := [d1, d2, d3] }
  | _ => none }
def valBackRow : OpenClaim := { program := "ytdniemdjoipbiaa", sum := "29d4cbd92f58ee449bb92ef25e8856d0e9b0cf2491917194c06aa5b4a78ac359", func := "tallow/tallowlaw02.ValBack", spec := "valBack", unfollowed := true, recurses := true, apart := false }
def ValBackSaid : Prop := valBackRow.holds Try.pinned (OpenSpec.ofChange valBackSpec)

/-- ITS FALSE NEIGHBOUR: 'it returns false'. Refute it at one input. -/
def valBackWrong : ChangeSpec := { name := "valBack", fn := fun _ => fun
  | [d1, d2, d3] => { results := [.lit (.bool false)], args := [d1, d2, d3] }
  | _ => none }
def ValBackWrongFalsely : Prop := valBackRow.holds Try.pinned (OpenSpec.ofChange valBackWrong)

/-- 'tallowlaw02.ValJoins': WHATEVER THE INPUT: true; the input reads as it did. -/
def valJoinsSpec : ChangeSpec := { name := "valJoins", fn := fun _ => fun
  | [d1, d2] => { results := [.lit (.bool true)], args := [d1, d2] }
  | _ => none }
def valJoinsRow : OpenClaim := { program := "ytdniemdjoipbiaa", sum := "29d4cbd92f58ee449bb92ef25e8856d0e9b0cf2491917194c06aa5b4a78ac359", func := "tallow/tallowlaw02.ValJoins", spec := "valJoins", unfollowed := true, recurses := true, apart := false }
def ValJoinsSaid : Prop := valJoinsRow.holds Try.pinned (OpenSpec.ofChange valJoinsSpec)

/-- ITS FALSE NEIGHBOUR: 'it returns false'. Refute it at one input. -/
def valJoinsWrong : ChangeSpec := { name := "valJoins", fn := fun _ => fun
  | [d1, d2] => { results := [.lit (.bool false)], args := [d1, d2] }
  | _ => none }
def ValJoinsWrongFalsely : Prop := valJoinsRow.holds Try.pinned (OpenSpec.ofChange valJoinsWrong)

/-- 'tallowlaw02.ValKnown': WHATEVER THE INPUT: true; the input reads as it did. -/
def valKnownSpec : ChangeSpec := { name := "valKnown", fn := fun _ => fun
  | [] => { results := [.lit (.bool true)], args := [] }
  | _ => none }
def valKnownRow : OpenClaim := { program := "ytdniemdjoipbiaa", sum := "29d4cbd92f58ee449bb92ef25e8856d0e9b0cf2491917194c06aa5b4a78ac359", func := "tallow/tallowlaw02.ValKnown", spec := "valKnown", unfollowed := true, recurses := true, apart := false }
def ValKnownSaid : Prop := valKnownRow.holds Try.pinned (OpenSpec.ofChange valKnownSpec)

/-- ITS FALSE NEIGHBOUR: 'it returns false'. Refute it at one input. -/
def valKnownWrong : ChangeSpec := { name := "valKnown", fn := fun _ => fun
  | [] => { results := [.lit (.bool false)], args := [] }
  | _ => none }
def ValKnownWrongFalsely : Prop := valKnownRow.holds Try.pinned (OpenSpec.ofChange valKnownWrong)

/- THE SECOND FORM. 'bulk': how many values and letters a reading holds, each counted each time it is reached (what is shared counts as often as it is met; a slice's spare places count too). A statement '..UptoSaid' is the law's where the arguments, and the package variables that the reading takes, are together of bulk at most 1048576: NARROWER than '..Said'. Prove '..Said' where nothing that the law and all that it calls make is longer than what came in: it says more and counts as full. Else prove '..UptoSaid'. A law counts once. -/
mutual
def uptoBulk {H : Type} : DataW H → Nat
  | .lit (.string bytes) => bytes.length + 1
  | .lit _ => 1
  | .nil => 1
  | .ptr d => uptoBulk d + 1
  | .slice elems spare => uptoBulkAll elems + uptoBulkAll spare + 1
  | .agg parts => uptoBulkAll parts + 1
  | .iface _ d => uptoBulk d + 1
  | .map entries => uptoBulkEntries entries + 1
  | .held _ => 1
def uptoBulkAll {H : Type} : List (DataW H) → Nat
  | [] => 0
  | d :: r => uptoBulk d + uptoBulkAll r
def uptoBulkEntries {H : Type} : List (Lit × DataW H) → Nat
  | [] => 0
  | x :: r => uptoBulkEntry x + uptoBulkEntries r
def uptoBulkEntry {H : Type} : Lit × DataW H → Nat
  | (.string bytes, d) => bytes.length + uptoBulk d + 1
  | (_, d) => uptoBulk d + 1
 end
def uptoSmall : (H : Type) → List (DataW H) → Bool := fun _ ds => decide (uptoBulkAll ds ≤ 1048576)
def OpenSpec.upto (s : _root_.Go.ChangeSpec) : _root_.Go.OpenSpec := { _root_.Go.OpenSpec.ofChange s with cond := some uptoSmall }

/-- 'tallowlaw02.ValLooks', WHERE WHAT IT READS IS OF BULK AT MOST 1048576: true; the input reads as it did. -/
def valLooksUptoRow : OpenClaim := { program := "ytdniemdjoipbiaa", sum := "29d4cbd92f58ee449bb92ef25e8856d0e9b0cf2491917194c06aa5b4a78ac359", func := "tallow/tallowlaw02.ValLooks", spec := "valLooks", unfollowed := true, recurses := true, apart := false, narrowed := true }
def ValLooksUptoSaid : Prop := valLooksUptoRow.holds Try.pinned (OpenSpec.upto valLooksSpec)

/-- 'tallowlaw02.ValNames', WHERE WHAT IT READS IS OF BULK AT MOST 1048576: true; the input reads as it did. -/
def valNamesUptoRow : OpenClaim := { program := "ytdniemdjoipbiaa", sum := "29d4cbd92f58ee449bb92ef25e8856d0e9b0cf2491917194c06aa5b4a78ac359", func := "tallow/tallowlaw02.ValNames", spec := "valNames", unfollowed := true, recurses := true, apart := false, narrowed := true }
def ValNamesUptoSaid : Prop := valNamesUptoRow.holds Try.pinned (OpenSpec.upto valNamesSpec)

/-- 'tallowlaw02.ValRefs', WHERE WHAT IT READS IS OF BULK AT MOST 1048576: true; the input reads as it did. -/
def valRefsUptoRow : OpenClaim := { program := "ytdniemdjoipbiaa", sum := "29d4cbd92f58ee449bb92ef25e8856d0e9b0cf2491917194c06aa5b4a78ac359", func := "tallow/tallowlaw02.ValRefs", spec := "valRefs", unfollowed := true, recurses := true, apart := false, narrowed := true }
def ValRefsUptoSaid : Prop := valRefsUptoRow.holds Try.pinned (OpenSpec.upto valRefsSpec)

/-- 'tallowlaw02.ValParts', WHERE WHAT IT READS IS OF BULK AT MOST 1048576: true; the input reads as it did. -/
def valPartsUptoRow : OpenClaim := { program := "ytdniemdjoipbiaa", sum := "29d4cbd92f58ee449bb92ef25e8856d0e9b0cf2491917194c06aa5b4a78ac359", func := "tallow/tallowlaw02.ValParts", spec := "valParts", unfollowed := true, recurses := true, apart := false, narrowed := true }
def ValPartsUptoSaid : Prop := valPartsUptoRow.holds Try.pinned (OpenSpec.upto valPartsSpec)

/-- 'tallowlaw02.ValBack', WHERE WHAT IT READS IS OF BULK AT MOST 1048576: true; the input reads as it did. -/
def valBackUptoRow : OpenClaim := { program := "ytdniemdjoipbiaa", sum := "29d4cbd92f58ee449bb92ef25e8856d0e9b0cf2491917194c06aa5b4a78ac359", func := "tallow/tallowlaw02.ValBack", spec := "valBack", unfollowed := true, recurses := true, apart := false, narrowed := true }
def ValBackUptoSaid : Prop := valBackUptoRow.holds Try.pinned (OpenSpec.upto valBackSpec)

/-- 'tallowlaw02.ValJoins', WHERE WHAT IT READS IS OF BULK AT MOST 1048576: true; the input reads as it did. -/
def valJoinsUptoRow : OpenClaim := { program := "ytdniemdjoipbiaa", sum := "29d4cbd92f58ee449bb92ef25e8856d0e9b0cf2491917194c06aa5b4a78ac359", func := "tallow/tallowlaw02.ValJoins", spec := "valJoins", unfollowed := true, recurses := true, apart := false, narrowed := true }
def ValJoinsUptoSaid : Prop := valJoinsUptoRow.holds Try.pinned (OpenSpec.upto valJoinsSpec)

/-- 'tallowlaw02.ValKnown', WHERE WHAT IT READS IS OF BULK AT MOST 1048576: true; the input reads as it did. -/
def valKnownUptoRow : OpenClaim := { program := "ytdniemdjoipbiaa", sum := "29d4cbd92f58ee449bb92ef25e8856d0e9b0cf2491917194c06aa5b4a78ac359", func := "tallow/tallowlaw02.ValKnown", spec := "valKnown", unfollowed := true, recurses := true, apart := false, narrowed := true }
def ValKnownUptoSaid : Prop := valKnownUptoRow.holds Try.pinned (OpenSpec.upto valKnownSpec)

end Rows
end Go.Proofs.Ytdniemdjoipbiaa
