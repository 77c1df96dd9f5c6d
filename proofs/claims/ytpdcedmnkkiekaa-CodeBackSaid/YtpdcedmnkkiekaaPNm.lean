import Derived.Test.YtpdcedmnkkiekaaPN
import Derived.Test.YtpdcedmnkkiekaaGxF3
namespace Go.Proofs.Ytpdcedmnkkiekaa.Z
open Go.RowKit Go.Proofs.Ytpdcedmnkkiekaa.G Go.Proofs.YtpdcedmnkkiekaaW.PrintWords Go.Proofs.YtpdcedmnkkiekaaW.PrintLast Go.Proofs.YtpdcedmnkkiekaaW.PrintMore
set_option linter.unusedVariables false
set_option linter.unusedSimpArgs false
theorem works_ok : tallowlaw20_works.f = some true := rfl
theorem codeNames : tallowlaw20_CodeNames.Pure := by
  intro a0 a1 _ _
  refine ⟨100, ?_⟩
  unfold tallowlaw20_CodeNames.f code_Name.f tallowref20_Name.f code_Op.f
  rw [rop a1 100 (by decide), works_ok]
  simp only [Option.bind_some]
  rw [if_pos trivial, if_pos trivial]
end Go.Proofs.Ytpdcedmnkkiekaa.Z
