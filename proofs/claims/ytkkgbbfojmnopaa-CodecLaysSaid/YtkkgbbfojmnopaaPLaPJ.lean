import Derived.Test.YtkkgbbfojmnopaaPLaPI
set_option linter.unusedVariables false
set_option linter.unusedSimpArgs false
section
namespace Go.Proofs.Ytkkgbbfojmnopaa.Z
open Go.RowKit Go.Proofs.Ytkkgbbfojmnopaa.G Go.Proofs.YtkkgbbfojmnopaaW.PrintWords Go.Proofs.YtkkgbbfojmnopaaW.PrintLast Go.Proofs.YtkkgbbfojmnopaaW.PrintMore
def OkL (l : List S47) : Prop := l.length * 88 ≤ 140737488351232 ∧ ∀ q ∈ l, (Lit.int .i64 q.f0).wf = true ∧ (Lit.int .i64 q.f1).wf = true ∧ (q.f2.length * 16 ≤ 140737488351232 ∧ ∀ u ∈ q.f2, True ∧ (Lit.int .i64 u.f1).wf = true) ∧
 (q.f3.length * 32 ≤ 140737488351232 ∧ ∀ c ∈ q.f3, (Lit.int .i64 c.f0).wf = true ∧ (Lit.int .i64 c.f1).wf = true ∧ c.f2.size ≤ 140737488351232) ∧ (q.f4.length * 24 ≤ 140737488351232 ∧ ∀ x ∈ q.f4, (Lit.int .i64 x.f0).wf = true ∧ (Lit.int .i64 x.f1).wf = true ∧ (Lit.int .i64 x.f2).wf = true)
theorem wf_i64 {n : Int} (h : (Lit.int .i64 n).wf = true) : -9223372036854775808 ≤ n ∧ n ≤ 9223372036854775807 := by
 simp [Lit.wf, IntKind.min, IntKind.max, IntKind.bits, IntKind.signed] at h
 omega
theorem OkL.inP {l : List S47} (h : OkL l) : inP l := fun q hq c hc => wf_i64 ((h.2 q hq).2.2.2.1.2 c hc).2.1
end Go.Proofs.Ytkkgbbfojmnopaa.Z
end
