import Derived.Test.YtkkgbbfojmnopaaPLaPH
set_option linter.unusedVariables false
set_option linter.unusedSimpArgs false
section
namespace Go.Proofs.Ytkkgbbfojmnopaa.Z
open Go.RowKit Go.Proofs.Ytkkgbbfojmnopaa.G Go.Proofs.YtkkgbbfojmnopaaW.PrintWords Go.Proofs.YtkkgbbfojmnopaaW.PrintLast Go.Proofs.YtkkgbbfojmnopaaW.PrintMore
theorem short_inP {l : List S47} (h : inP l) : inP (shortL l) := by
 intro q hq c hc
 obtain ⟨q0, h0, rfl⟩ := List.mem_map.1 hq
 exact h q0 (List.mem_of_mem_take h0) c (List.mem_of_mem_take hc)
end Go.Proofs.Ytkkgbbfojmnopaa.Z
end
