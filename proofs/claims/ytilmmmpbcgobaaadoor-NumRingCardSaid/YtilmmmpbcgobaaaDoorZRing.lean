import Derived.Shelf.Abstract
import Derived.LaidEql
import Derived.Stop.Asserts
import Derived.RowKitTokens
import Derived.Lib.LaidTab
import Derived.Lib.AppendIntMem
import Derived.Test.YtilmmmpbcgobaaaDoorGxF6
import Derived.Test.YtilmmmpbcgobaaaDoorZ0
import Derived.Lib.Hide
namespace Go.Proofs.YtilmmmpbcgobaaaDoor.G
open Go.Shelf Go.Extern.Stop Go.Stop Go.Extern Go.RowKit Go.Proofs.YtilmmmpbcgobaaaDoorW.PrintWords Go.Proofs.YtilmmmpbcgobaaaDoorW.PrintLast Go.Proofs.YtilmmmpbcgobaaaDoorW.PrintMore
set_option linter.unusedVariables false
set_option linter.unusedSimpArgs false
theorem numRing (a b c : Int) (ha : (Lit.int .i64 a).wf = true) (hb : (Lit.int .i64 b).wf = true) (hc : (Lit.int .i64 c).wf = true) : ∃ k, tallowlaw01_NumRing.f k a b c = some true := by
  have ra := wf_i64 ha
  refine ⟨1, ?_⟩
  unfold tallowlaw01_NumRing.f
  simp only [do_add, do_sub, Option.bind_some]
  rw [if_pos (by rw [Int.add_comm]), if_pos (by rw [w_add, w_add', Int.add_assoc]), if_pos (by rw [w_sub, show a + b - b = a by omega]; exact w_id ra)]
  have e0 : (wrap64 (a + 0) != a) = false := by rw [Int.add_zero, w_id ra]; simp
  rw [e0]
  simp only [tallowlaw01_NumRing.j0, do_add, do_mul, Option.bind_some]
  rw [if_neg (by decide), if_pos (by rw [Int.mul_comm]), if_pos (by rw [w_mul, w_mul', Int.mul_assoc]), if_pos (by rw [Int.mul_one]; exact w_id ra), if_pos (by rw [w_mul', w_add, w_add', Int.mul_add]), works_ok]
  rfl
end Go.Proofs.YtilmmmpbcgobaaaDoor.G
