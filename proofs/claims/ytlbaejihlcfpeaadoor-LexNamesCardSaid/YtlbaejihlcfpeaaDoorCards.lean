/-
  DERIVED. GIVEN WITH THE SEED: THE CARDS: each row of YtlbaejihlcfpeaaDoorRows.lean that lists a variable, with what it lists TIED to the program's text (the seventh form; the later family's looks); each row that meets fmt, with fmt's text TOLD by the authors' own Lean function (tested against real Go, not proved from fmt's source: count such statements apart). THE CARD IS WHAT COUNTS. Prove the row's statement (the work); the ties are given (YtlbaejihlcfpeaaDoorTie.lean); close each card by the builder's one call (the guide's Derived/Test/ToyasCard.lean, 'card_holds'). Laid BY PROGRAM, IN A SANDBOX (cutbox-door.mjs). By AI agents, Wed Nov 11 2026. No macro, syntax, notation, axiom, sorry.
-/
import Derived.Test.YtlbaejihlcfpeaaDoorRows
import GoSem.ClaimSeven
namespace Go.Proofs.YtlbaejihlcfpeaaDoor
namespace Rows

/-- THE TIED CARD OF 'tallowlaw04.LexReserved'. -/
def lexReservedCard : Claim7 := { stood := { row := lexReservedRow, standIns := [], harness := (true, "1a87d4921ad6c6b4a73df02d5673717835b5979c444233aace624db1c2171871"), looks := true }, kinds := [], alts := [], laidByText := true, laidKinds := [.data, .data, .data, .handle, .sentinel, .sentinel], laidTests := true, laidLooks := .later }
def LexReservedCardSaid : Prop := Claim7.holds Tryd.pinned (.plain (OpenSpec.ofChange lexReservedSpec)) lexReservedCard

/-- THE TIED CARD OF 'tallowlaw04.LexNames'. -/
def lexNamesCard : Claim7 := { stood := { row := lexNamesRow, standIns := [], harness := (true, "1a87d4921ad6c6b4a73df02d5673717835b5979c444233aace624db1c2171871"), looks := true }, kinds := [], alts := [], laidByText := true, laidKinds := [.data, .data, .data, .handle, .sentinel, .sentinel], laidTests := true, laidLooks := .later }
def LexNamesCardSaid : Prop := Claim7.holds Tryd.pinned (.plain (OpenSpec.ofChange lexNamesSpec)) lexNamesCard

/-- THE SECOND FORM's CARD OF 'tallowlaw04.LexReserved'. -/
def lexReservedUptoCard : Claim7 := { stood := { row := lexReservedUptoRow, standIns := [], harness := (true, "1a87d4921ad6c6b4a73df02d5673717835b5979c444233aace624db1c2171871"), looks := true }, kinds := [], alts := [], laidByText := true, laidKinds := [.data, .data, .data, .handle, .sentinel, .sentinel], laidTests := true, laidLooks := .later }
def LexReservedUptoCardSaid : Prop := Claim7.holds Tryd.pinned (.plain (OpenSpec.upto lexReservedSpec)) lexReservedUptoCard

/-- THE SECOND FORM's CARD OF 'tallowlaw04.LexNames'. -/
def lexNamesUptoCard : Claim7 := { stood := { row := lexNamesUptoRow, standIns := [], harness := (true, "1a87d4921ad6c6b4a73df02d5673717835b5979c444233aace624db1c2171871"), looks := true }, kinds := [], alts := [], laidByText := true, laidKinds := [.data, .data, .data, .handle, .sentinel, .sentinel], laidTests := true, laidLooks := .later }
def LexNamesUptoCardSaid : Prop := Claim7.holds Tryd.pinned (.plain (OpenSpec.upto lexNamesSpec)) lexNamesUptoCard
end Rows
end Go.Proofs.YtlbaejihlcfpeaaDoor
