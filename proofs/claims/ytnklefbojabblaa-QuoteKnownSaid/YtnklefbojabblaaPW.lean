import Derived.Test.YtnklefbojabblaaPs
import Derived.Test.YtnklefbojabblaaGxF10
namespace Go.Proofs.Ytnklefbojabblaa.Z
open Go.RowKit Go.Proofs.Ytnklefbojabblaa.G Go.Proofs.Ytnklefbojabblaa.H Go.Proofs.YtnklefbojabblaaW.PrintWords Go.Proofs.YtnklefbojabblaaW.PrintLast Go.Proofs.YtnklefbojabblaaW.PrintMore
set_option linter.unusedVariables false
set_option linter.unusedSimpArgs false
theorem works_ok : tallowlaw03_works.f = some true := by decide +kernel
end Go.Proofs.Ytnklefbojabblaa.Z
