import Derived.Test.YtlpieciihlgdiaaPr
import Derived.Test.YtlpieciihlgdiaaGxF4
import Derived.Lib.Hide
import Derived.Maps.OwnOps
import Derived.Maps.OwnSet
import Derived.Maps.Views
namespace Go.Proofs.Ytlpieciihlgdiaa.G
open Go.RowKit Go.Proofs.YtlpieciihlgdiaaW.PrintWords Go.Proofs.YtlpieciihlgdiaaW.PrintLast Go.Proofs.YtlpieciihlgdiaaW.PrintMore
set_option linter.unusedVariables false
set_option linter.unusedSimpArgs false
theorem holds_all (l : List S36) (more : List S40) (x : Int) (ok : l.length * 64 ≤ 140737488351232 ∧ ∀ x ∈ l, OkObj x) (ok1 : more.length * 16 ≤ 140737488351232 ∧ ∀ y ∈ more, (Lit.int .i64 y.f0).wf = true ∧ (Lit.int .i64 y.f1).wf = true) (_ : (Lit.int .i64 x).wf = true) : ∃ k, tallowlaw10_GraphHolds.f k l more x = some true := by
  have hz := sizes_ok ok
  have hm : more.length ≤ 8796093022208 := by omega
  obtain ⟨z1, z2⟩ := sizes_at hz
  obtain ⟨M, hM⟩ := fuelM l
  generalize hK : M + l.length + l.length * (l.length + 2) + more.length + 3 = K
  have h2 : 0 ≤ l.length * (l.length + 2) := Nat.zero_le _
  have a1 := intoL_le l
  have a2 := exactL_le l more
  have a3 := holdL_le l x
  have e1 : graph_Into.f l = some (intoL l) := if_pos hz
  have e2 : graph_Exact.f l more = some (exactL l more) := if_pos ⟨hz, hm⟩
  have e3 : tallowlaw10_works.f = some true := rfl
  refine ⟨K, ?_⟩
  unfold tallowlaw10_GraphHolds.f tallowlaw10_small.f
  rw [Option.bind_some]
  by_cases hs : decide ((l.length : Int) ≤ 300) = true
  · rw [if_pos hs, e1, Option.bind_some, rinto l hz M hM K (by omega), Option.bind_some, rints _ (by omega) K (by omega), Option.bind_some, if_pos rfl,
      e2, Option.bind_some, rexact l hz more hm M hM K (by omega), Option.bind_some, rints _ (by omega) K (by omega), Option.bind_some, if_pos rfl,
      gholders l hz x M hM K (by omega), Option.bind_some, rholders l hz x M hM K (by omega), Option.bind_some, rints _ (by omega) K (by omega), Option.bind_some, if_pos rfl, e3, Option.bind_some]
  · rw [if_neg hs, e3, Option.bind_some]
end Go.Proofs.Ytlpieciihlgdiaa.G
