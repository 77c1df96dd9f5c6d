import Derived.Shelf.Abstract
import Derived.LaidEql
import Derived.Stop.Asserts
import Derived.RowKitTokens
import Derived.Lib.LaidTab
import Derived.Lib.AppendIntMem
import Derived.Test.YtilmmmpbcgobaaaDoorPKnGxF15
import Derived.Lib.Hide
set_option linter.unusedVariables false
set_option linter.unusedSimpArgs false
section
namespace Go.Proofs.YtilmmmpbcgobaaaDoor.G
open Go.Shelf Go.Extern.Stop Go.Stop Go.Extern Go.RowKit Go.Proofs.YtilmmmpbcgobaaaDoorW.PrintWords Go.Proofs.YtilmmmpbcgobaaaDoorW.PrintLast Go.Proofs.YtilmmmpbcgobaaaDoorW.PrintMore
set_option linter.unusedVariables false
set_option linter.unusedSimpArgs false
theorem parse12 : num_Parse.f ⟨#[45, 49, 50]⟩ = some (-12, 0) := by decide +kernel
theorem text12 : num_Text.f (-12) = some ⟨#[45, 49, 50]⟩ := by
  unfold num_Text.f
  rw [if_pos (by decide)]
  unfold Lib.itoa
  rw [if_pos (by decide), show Int.natAbs (-12) = 12 from rfl, Lib.decDigits_two (by decide) (by decide)]
  rfl
theorem works_ok : tallowlaw01_works.f = some true := by
  have e1 : tallowlaw01_do.f 3 (-7) 2 = some (-4) := by decide +kernel
  have e2 : tallowlaw01_do.f 4 (-7) 2 = some 1 := by decide +kernel
  have e3 : tallowlaw01_do.f 8 1 3 = some 8 := by decide +kernel
  unfold tallowlaw01_works.f
  rw [parse12, e1, e2, e3, text12]
  simp only [Option.bind_some]
  rw [if_pos trivial, if_pos trivial, if_pos trivial, ByteArray.toList_mk, if_pos rfl, if_pos trivial]
  rfl
end Go.Proofs.YtilmmmpbcgobaaaDoor.G
end
