import Derived.Shelf.Abstract
import Derived.LaidEql
import Derived.Stop.Asserts
import Derived.RowKitTokens
import Derived.Lib.LaidTab
import Derived.Lib.AppendIntMem
import Derived.Test.YtilmmmpbcgobaaaDoorPDoGxF15
import Derived.Lib.Hide
set_option linter.unusedVariables false
set_option linter.unusedSimpArgs false
section
namespace Go.Proofs.YtilmmmpbcgobaaaDoor.G
open Go.Shelf Go.Extern.Stop Go.Stop Go.Extern Go.RowKit Go.Proofs.YtilmmmpbcgobaaaDoorW.PrintWords Go.Proofs.YtilmmmpbcgobaaaDoorW.PrintLast Go.Proofs.YtilmmmpbcgobaaaDoorW.PrintMore
set_option linter.unusedVariables false
set_option linter.unusedSimpArgs false
theorem wf_i64 {n : Int} (h : (Lit.int .i64 n).wf = true) : -9223372036854775808 ≤ n ∧ n < 9223372036854775808 := by
  simp only [Lit.wf, Bool.and_eq_true, decide_eq_true_eq] at h
  have e0 : IntKind.i64.min = -9223372036854775808 := rfl
  have e1 : IntKind.i64.max = 9223372036854775807 := rfl
  rw [e0, e1] at h
  omega
theorem w_id {x : Int} (h : -9223372036854775808 ≤ x ∧ x < 9223372036854775808) : wrap64 x = x := by unfold wrap64; omega
theorem w_of {x y : Int} (k : Int) (h : x = y + 18446744073709551616 * k) : wrap64 x = wrap64 y := by unfold wrap64; omega
theorem w_ex (x : Int) : ∃ k, wrap64 x = x + 18446744073709551616 * k := ⟨-((x + 9223372036854775808) / 18446744073709551616), by unfold wrap64; omega⟩
theorem w_sub (x y : Int) : wrap64 (wrap64 x - y) = wrap64 (x - y) := by unfold wrap64; omega
theorem w_mul (x y : Int) : wrap64 (wrap64 x * y) = wrap64 (x * y) := by
  obtain ⟨k, hk⟩ := w_ex x
  exact w_of (k * y) (by rw [hk, Int.add_mul, Int.mul_assoc])
theorem parse12 : num_Parse.f ⟨#[45, 49, 50]⟩ = some (-12, 0) := by decide +kernel
theorem text12 : num_Text.f (-12) = some ⟨#[45, 49, 50]⟩ := by
  unfold num_Text.f
  rw [if_pos (by decide)]
  unfold Lib.itoa
  rw [if_pos (by decide), show Int.natAbs (-12) = 12 from rfl, Lib.decDigits_two (by decide) (by decide)]
  rfl
theorem works_ok : tallowlaw01_works.f = some true := by
  have e1 : tallowlaw01_do.f 3 (-7) 2 = some (-4) := by decide +kernel
  have e2 : tallowlaw01_do.f 4 (-7) 2 = some 1 := by decide +kernel
  have e3 : tallowlaw01_do.f 8 1 3 = some 8 := by decide +kernel
  unfold tallowlaw01_works.f
  rw [parse12, e1, e2, e3, text12]
  simp only [Option.bind_some]
  rw [if_pos trivial, if_pos trivial, if_pos trivial, ByteArray.toList_mk, if_pos rfl, if_pos trivial]
  rfl
end Go.Proofs.YtilmmmpbcgobaaaDoor.G
end
