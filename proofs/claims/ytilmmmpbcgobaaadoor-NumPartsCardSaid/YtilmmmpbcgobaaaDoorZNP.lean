import Derived.Shelf.Abstract
import Derived.LaidEql
import Derived.Stop.Asserts
import Derived.RowKitTokens
import Derived.Lib.LaidTab
import Derived.Lib.AppendIntMem
import Derived.Test.YtilmmmpbcgobaaaDoorGxF7
import Derived.Test.YtilmmmpbcgobaaaDoorZP
import Derived.Lib.Hide
namespace Go.Proofs.YtilmmmpbcgobaaaDoor.G
open Go.Shelf Go.Extern.Stop Go.Stop Go.Extern Go.RowKit Go.Proofs.YtilmmmpbcgobaaaDoorW.PrintWords Go.Proofs.YtilmmmpbcgobaaaDoorW.PrintLast Go.Proofs.YtilmmmpbcgobaaaDoorW.PrintMore
set_option linter.unusedVariables false
set_option linter.unusedSimpArgs false
theorem numParts (a b : Int) (ha : (Lit.int .i64 a).wf = true) (hb : (Lit.int .i64 b).wf = true) : tallowlaw01_NumParts.f a b = some true := by
  have ra := wf_i64 ha
  have rb := wf_i64 hb
  unfold tallowlaw01_NumParts.f
  by_cases h : b = 0
  · have e1 : num_Do.f 3 a b = some (0, 8) := by unfold num_Do.f; rw [if_neg (by decide), if_pos ⟨h, by decide⟩]
    have e2 : num_Do.f 4 a b = some (0, 8) := by unfold num_Do.f; rw [if_neg (by decide), if_pos ⟨h, by decide⟩]
    rw [e1, e2, Option.bind_some, Option.bind_some, if_pos h, if_pos rfl, if_pos rfl, if_pos rfl, if_pos rfl, works_ok]
    rfl
  · obtain ⟨Q, r, hp, he, hr⟩ := parts_spec ra rb h
    rw [Do_div h, Do_mod h, hp, Option.bind_some, Option.bind_some, Option.bind_some, Option.bind_some, if_neg h, if_pos rfl, if_pos rfl]
    have e3 : tallowlaw01_do.f 2 (wrap64 Q) b = some (wrap64 (b * Q)) := by rw [do_mul, w_mul, Int.mul_comm]
    have e4 : tallowlaw01_do.f 0 (wrap64 (b * Q)) r = some a := by rw [do_add, w_add, ← he, w_id ra]
    show ((tallowlaw01_do.f 2 (wrap64 Q) b).bind _) = _
    rw [e3, Option.bind_some]
    show ((tallowlaw01_do.f 0 (wrap64 (b * Q)) r).bind _) = _
    rw [e4, Option.bind_some, if_pos rfl]
    show (if b > 0 then (if r ≥ 0 then (if r < b then _ else _) else _) else (if b < 0 then (if r ≤ 0 then (if r > b then _ else _) else _) else _)) = _
    rcases hr with ⟨h1, h2, h3⟩ | ⟨h1, h2, h3⟩
    · rw [if_pos h1, if_pos (by omega), if_pos h3, works_ok]; rfl
    · rw [if_neg (by omega), if_pos h1, if_pos (by omega), if_pos (by omega), works_ok]; rfl
end Go.Proofs.YtilmmmpbcgobaaaDoor.G
