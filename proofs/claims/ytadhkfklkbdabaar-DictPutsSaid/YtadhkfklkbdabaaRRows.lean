/-
  No cell of these rows narrows 'for every input' (looked for: loops, veiled, ifaces, maps, wideKeys, modest, calm, conditions, laid).
  DERIVED. THE GIVEN ROWS OF THIS SEAT. 6 by the template 'for every input the law returns true; each argument reads behind the call as it read before'; 0 by the template 'total and deterministic' (their statements: YtadhkfklkbdabaaRTotals.lean).
  GIVEN WITH THE SEED: the statements are not yours to turn. If you find one false, say at which input.
  Laid BY PROGRAM, IN A SANDBOX (cutbox-rows.mjs): the forced cells as the released guide's own fill.sh prints them over the translation 72165c5e28cf19bf… (all of the seat's roots in one cut). By AI agents, Wed Nov 11 2026. No macro, syntax, notation, axiom, sorry.
-/
import Derived.Test.YtadhkfklkbdabaaRChecked
import GoSem.Claim
import GoSem.ClaimJoined
import GoSem.ClaimMapViews
import Derived.JoinedTies
import Derived.KernelRfl
namespace Go.Proofs.YtadhkfklkbdabaaR
/- THE CELL 'sum', in the pinned program and in every row, IS THE sha256 OF THE DUMP (.gsa) THAT YtadhkfklkbdabaaRProg.lean LOADS. Nothing in Lean hashes anything: it is a label: what it is worth is what the hold of that sum in a sandbox is worth. -/
noncomputable def Try.pinned : Pinned := { name := "ytadhkfklkbdabaar", sum := "72165c5e28cf19bf6d475283316478867e107b9f76899061a0fdf7aebd402acf", checked := Try.checked }
namespace Rows
def none {H : Type} : Left H := { results := [], args := [] }

/-- 'tallowlaw09.DictPuts': WHATEVER THE INPUT: true; the input reads as it did. -/
def dictPutsSpec : ChangeSpec := { name := "dictPuts", fn := fun _ => fun
  | [d1, d2, d3] => { results := [.lit (.bool true)], args := [d1, d2, d3] }
  | _ => none }
def dictPutsRow : OpenClaim := { program := "ytadhkfklkbdabaar", sum := "72165c5e28cf19bf6d475283316478867e107b9f76899061a0fdf7aebd402acf", func := "tallow/tallowlaw09.DictPuts", spec := "dictPuts", unfollowed := true, recurses := true, plainKeys := false, apart := false }
def DictPutsSaid : Prop := dictPutsRow.holds Try.pinned (OpenSpec.ofChange dictPutsSpec)

/-- ITS FALSE NEIGHBOUR: 'it returns false'. Refute it at one input. -/
def dictPutsWrong : ChangeSpec := { name := "dictPuts", fn := fun _ => fun
  | [d1, d2, d3] => { results := [.lit (.bool false)], args := [d1, d2, d3] }
  | _ => none }
def DictPutsWrongFalsely : Prop := dictPutsRow.holds Try.pinned (OpenSpec.ofChange dictPutsWrong)

/-- 'tallowlaw09.DictOrder': WHATEVER THE INPUT: true; the input reads as it did. -/
def dictOrderSpec : ChangeSpec := { name := "dictOrder", fn := fun _ => fun
  | [d1, d2] => { results := [.lit (.bool true)], args := [d1, d2] }
  | _ => none }
def dictOrderRow : OpenClaim := { program := "ytadhkfklkbdabaar", sum := "72165c5e28cf19bf6d475283316478867e107b9f76899061a0fdf7aebd402acf", func := "tallow/tallowlaw09.DictOrder", spec := "dictOrder", unfollowed := true, recurses := true, plainKeys := false, apart := false }
def DictOrderSaid : Prop := dictOrderRow.holds Try.pinned (OpenSpec.ofChange dictOrderSpec)

/-- ITS FALSE NEIGHBOUR: 'it returns false'. Refute it at one input. -/
def dictOrderWrong : ChangeSpec := { name := "dictOrder", fn := fun _ => fun
  | [d1, d2] => { results := [.lit (.bool false)], args := [d1, d2] }
  | _ => none }
def DictOrderWrongFalsely : Prop := dictOrderRow.holds Try.pinned (OpenSpec.ofChange dictOrderWrong)

/-- 'tallowlaw09.DictLooks': WHATEVER THE INPUT: true; the input reads as it did. -/
def dictLooksSpec : ChangeSpec := { name := "dictLooks", fn := fun _ => fun
  | [d1, d2] => { results := [.lit (.bool true)], args := [d1, d2] }
  | _ => none }
def dictLooksRow : OpenClaim := { program := "ytadhkfklkbdabaar", sum := "72165c5e28cf19bf6d475283316478867e107b9f76899061a0fdf7aebd402acf", func := "tallow/tallowlaw09.DictLooks", spec := "dictLooks", unfollowed := true, recurses := true, plainKeys := false, apart := false }
def DictLooksSaid : Prop := dictLooksRow.holds Try.pinned (OpenSpec.ofChange dictLooksSpec)

/-- ITS FALSE NEIGHBOUR: 'it returns false'. Refute it at one input. -/
def dictLooksWrong : ChangeSpec := { name := "dictLooks", fn := fun _ => fun
  | [d1, d2] => { results := [.lit (.bool false)], args := [d1, d2] }
  | _ => none }
def DictLooksWrongFalsely : Prop := dictLooksRow.holds Try.pinned (OpenSpec.ofChange dictLooksWrong)

/-- 'tallowlaw09.DictHolds': WHATEVER THE INPUT: true; the input reads as it did. -/
def dictHoldsSpec : ChangeSpec := { name := "dictHolds", fn := fun _ => fun
  | [d1, d2] => { results := [.lit (.bool true)], args := [d1, d2] }
  | _ => none }
def dictHoldsRow : OpenClaim := { program := "ytadhkfklkbdabaar", sum := "72165c5e28cf19bf6d475283316478867e107b9f76899061a0fdf7aebd402acf", func := "tallow/tallowlaw09.DictHolds", spec := "dictHolds", unfollowed := true, recurses := true, plainKeys := false, apart := false }
def DictHoldsSaid : Prop := dictHoldsRow.holds Try.pinned (OpenSpec.ofChange dictHoldsSpec)

/-- ITS FALSE NEIGHBOUR: 'it returns false'. Refute it at one input. -/
def dictHoldsWrong : ChangeSpec := { name := "dictHolds", fn := fun _ => fun
  | [d1, d2] => { results := [.lit (.bool false)], args := [d1, d2] }
  | _ => none }
def DictHoldsWrongFalsely : Prop := dictHoldsRow.holds Try.pinned (OpenSpec.ofChange dictHoldsWrong)

/-- 'tallowlaw09.DictNexts': WHATEVER THE INPUT: true; the input reads as it did. -/
def dictNextsSpec : ChangeSpec := { name := "dictNexts", fn := fun _ => fun
  | [d1, d2] => { results := [.lit (.bool true)], args := [d1, d2] }
  | _ => none }
def dictNextsRow : OpenClaim := { program := "ytadhkfklkbdabaar", sum := "72165c5e28cf19bf6d475283316478867e107b9f76899061a0fdf7aebd402acf", func := "tallow/tallowlaw09.DictNexts", spec := "dictNexts", unfollowed := true, recurses := true, plainKeys := false, apart := false }
def DictNextsSaid : Prop := dictNextsRow.holds Try.pinned (OpenSpec.ofChange dictNextsSpec)

/-- ITS FALSE NEIGHBOUR: 'it returns false'. Refute it at one input. -/
def dictNextsWrong : ChangeSpec := { name := "dictNexts", fn := fun _ => fun
  | [d1, d2] => { results := [.lit (.bool false)], args := [d1, d2] }
  | _ => none }
def DictNextsWrongFalsely : Prop := dictNextsRow.holds Try.pinned (OpenSpec.ofChange dictNextsWrong)

/-- 'tallowlaw09.DictWalks': WHATEVER THE INPUT: true; the input reads as it did. -/
def dictWalksSpec : ChangeSpec := { name := "dictWalks", fn := fun _ => fun
  | [d] => { results := [.lit (.bool true)], args := [d] }
  | _ => none }
def dictWalksRow : OpenClaim := { program := "ytadhkfklkbdabaar", sum := "72165c5e28cf19bf6d475283316478867e107b9f76899061a0fdf7aebd402acf", func := "tallow/tallowlaw09.DictWalks", spec := "dictWalks", unfollowed := true, recurses := true, plainKeys := false, apart := false }
def DictWalksSaid : Prop := dictWalksRow.holds Try.pinned (OpenSpec.ofChange dictWalksSpec)

/-- ITS FALSE NEIGHBOUR: 'it returns false'. Refute it at one input. -/
def dictWalksWrong : ChangeSpec := { name := "dictWalks", fn := fun _ => fun
  | [d] => { results := [.lit (.bool false)], args := [d] }
  | _ => none }
def DictWalksWrongFalsely : Prop := dictWalksRow.holds Try.pinned (OpenSpec.ofChange dictWalksWrong)

/- THE SECOND FORM. 'bulk': how many values and letters a reading holds, each counted each time it is reached (what is shared counts as often as it is met; a slice's spare places count too). A statement '..UptoSaid' is the law's where the arguments, and the package variables that the reading takes, are together of bulk at most 1048576: NARROWER than '..Said'. Prove '..Said' where nothing that the law and all that it calls make is longer than what came in: it says more and counts as full. Else prove '..UptoSaid'. A law counts once. -/
mutual
def uptoBulk {H : Type} : DataW H → Nat
  | .lit (.string bytes) => bytes.length + 1
  | .lit _ => 1
  | .nil => 1
  | .ptr d => uptoBulk d + 1
  | .slice elems spare => uptoBulkAll elems + uptoBulkAll spare + 1
  | .agg parts => uptoBulkAll parts + 1
  | .iface _ d => uptoBulk d + 1
  | .map entries => uptoBulkEntries entries + 1
  | .held _ => 1
def uptoBulkAll {H : Type} : List (DataW H) → Nat
  | [] => 0
  | d :: r => uptoBulk d + uptoBulkAll r
def uptoBulkEntries {H : Type} : List (Lit × DataW H) → Nat
  | [] => 0
  | x :: r => uptoBulkEntry x + uptoBulkEntries r
def uptoBulkEntry {H : Type} : Lit × DataW H → Nat
  | (.string bytes, d) => bytes.length + uptoBulk d + 1
  | (_, d) => uptoBulk d + 1
 end
def uptoSmall : (H : Type) → List (DataW H) → Bool := fun _ ds => decide (uptoBulkAll ds ≤ 1048576)
def OpenSpec.upto (s : _root_.Go.ChangeSpec) : _root_.Go.OpenSpec := { _root_.Go.OpenSpec.ofChange s with cond := some uptoSmall }

/-- 'tallowlaw09.DictPuts', WHERE WHAT IT READS IS OF BULK AT MOST 1048576: true; the input reads as it did. -/
def dictPutsUptoRow : OpenClaim := { program := "ytadhkfklkbdabaar", sum := "72165c5e28cf19bf6d475283316478867e107b9f76899061a0fdf7aebd402acf", func := "tallow/tallowlaw09.DictPuts", spec := "dictPuts", unfollowed := true, recurses := true, plainKeys := false, apart := false, narrowed := true }
def DictPutsUptoSaid : Prop := dictPutsUptoRow.holds Try.pinned (OpenSpec.upto dictPutsSpec)

/-- 'tallowlaw09.DictOrder', WHERE WHAT IT READS IS OF BULK AT MOST 1048576: true; the input reads as it did. -/
def dictOrderUptoRow : OpenClaim := { program := "ytadhkfklkbdabaar", sum := "72165c5e28cf19bf6d475283316478867e107b9f76899061a0fdf7aebd402acf", func := "tallow/tallowlaw09.DictOrder", spec := "dictOrder", unfollowed := true, recurses := true, plainKeys := false, apart := false, narrowed := true }
def DictOrderUptoSaid : Prop := dictOrderUptoRow.holds Try.pinned (OpenSpec.upto dictOrderSpec)

/-- 'tallowlaw09.DictLooks', WHERE WHAT IT READS IS OF BULK AT MOST 1048576: true; the input reads as it did. -/
def dictLooksUptoRow : OpenClaim := { program := "ytadhkfklkbdabaar", sum := "72165c5e28cf19bf6d475283316478867e107b9f76899061a0fdf7aebd402acf", func := "tallow/tallowlaw09.DictLooks", spec := "dictLooks", unfollowed := true, recurses := true, plainKeys := false, apart := false, narrowed := true }
def DictLooksUptoSaid : Prop := dictLooksUptoRow.holds Try.pinned (OpenSpec.upto dictLooksSpec)

/-- 'tallowlaw09.DictHolds', WHERE WHAT IT READS IS OF BULK AT MOST 1048576: true; the input reads as it did. -/
def dictHoldsUptoRow : OpenClaim := { program := "ytadhkfklkbdabaar", sum := "72165c5e28cf19bf6d475283316478867e107b9f76899061a0fdf7aebd402acf", func := "tallow/tallowlaw09.DictHolds", spec := "dictHolds", unfollowed := true, recurses := true, plainKeys := false, apart := false, narrowed := true }
def DictHoldsUptoSaid : Prop := dictHoldsUptoRow.holds Try.pinned (OpenSpec.upto dictHoldsSpec)

/-- 'tallowlaw09.DictNexts', WHERE WHAT IT READS IS OF BULK AT MOST 1048576: true; the input reads as it did. -/
def dictNextsUptoRow : OpenClaim := { program := "ytadhkfklkbdabaar", sum := "72165c5e28cf19bf6d475283316478867e107b9f76899061a0fdf7aebd402acf", func := "tallow/tallowlaw09.DictNexts", spec := "dictNexts", unfollowed := true, recurses := true, plainKeys := false, apart := false, narrowed := true }
def DictNextsUptoSaid : Prop := dictNextsUptoRow.holds Try.pinned (OpenSpec.upto dictNextsSpec)

/-- 'tallowlaw09.DictWalks', WHERE WHAT IT READS IS OF BULK AT MOST 1048576: true; the input reads as it did. -/
def dictWalksUptoRow : OpenClaim := { program := "ytadhkfklkbdabaar", sum := "72165c5e28cf19bf6d475283316478867e107b9f76899061a0fdf7aebd402acf", func := "tallow/tallowlaw09.DictWalks", spec := "dictWalks", unfollowed := true, recurses := true, plainKeys := false, apart := false, narrowed := true }
def DictWalksUptoSaid : Prop := dictWalksUptoRow.holds Try.pinned (OpenSpec.upto dictWalksSpec)

end Rows
end Go.Proofs.YtadhkfklkbdabaaR
