import Derived.Test.YtkkgbbfojmnopaaPCuPH
set_option linter.unusedVariables false
set_option linter.unusedSimpArgs false
section
namespace Go.Proofs.Ytkkgbbfojmnopaa.Z
open Go.RowKit Go.Proofs.Ytkkgbbfojmnopaa.G Go.Proofs.YtkkgbbfojmnopaaW.PrintWords Go.Proofs.YtkkgbbfojmnopaaW.PrintLast Go.Proofs.YtkkgbbfojmnopaaW.PrintMore
set_option linter.unusedVariables false
set_option linter.unusedSimpArgs false
theorem short_in {l : List S47} : (∀ x ∈ shortL l, inB x) ∧ (shortL l).length ≤ 12 := by
  constructor
  · intro x hx
    obtain ⟨q, _, rfl⟩ := List.mem_map.1 hx
    exact ⟨by show (q.f2.take 70).length ≤ _; rw [List.length_take]; omega, by show (q.f3.take 60).length ≤ _; rw [List.length_take]; omega, by show (q.f4.take 200).length ≤ _; rw [List.length_take]; omega⟩
  · show ((l.take 12).map cutP).length ≤ 12
    rw [List.length_map, List.length_take]; omega
theorem short_inP {l : List S47} (h : inP l) : inP (shortL l) := by
  intro q hq c hc
  obtain ⟨q0, h0, rfl⟩ := List.mem_map.1 hq
  exact h q0 (List.mem_of_mem_take h0) c (List.mem_of_mem_take hc)
end Go.Proofs.Ytkkgbbfojmnopaa.Z
end
