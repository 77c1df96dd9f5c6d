import Derived.Shelf.Abstract
import Derived.LaidEql
import Derived.Stop.Asserts
import Derived.RowKitTokens
import Derived.Lib.LaidTab
import Derived.Lib.AppendIntMem
import Derived.Test.YtilmmmpbcgobaaaDoorGxF15
import Derived.Lib.Hide
namespace Go.Proofs.YtilmmmpbcgobaaaDoor.G
open Go.Shelf Go.Extern.Stop Go.Stop Go.Extern Go.RowKit Go.Proofs.YtilmmmpbcgobaaaDoorW.PrintWords Go.Proofs.YtilmmmpbcgobaaaDoorW.PrintLast Go.Proofs.YtilmmmpbcgobaaaDoorW.PrintMore
set_option linter.unusedVariables false
set_option linter.unusedSimpArgs false
/-! numbers -/
theorem wf_i64 {n : Int} (h : (Lit.int .i64 n).wf = true) : -9223372036854775808 ≤ n ∧ n < 9223372036854775808 := by
  simp only [Lit.wf, Bool.and_eq_true, decide_eq_true_eq] at h
  have e0 : IntKind.i64.min = -9223372036854775808 := rfl
  have e1 : IntKind.i64.max = 9223372036854775807 := rfl
  rw [e0, e1] at h
  omega
theorem wf_u8 {n : Int} (h : (Lit.int .u8 n).wf = true) : 0 ≤ n ∧ n < 256 := by
  simp only [Lit.wf, Bool.and_eq_true, decide_eq_true_eq] at h
  have e0 : IntKind.u8.min = 0 := rfl
  have e1 : IntKind.u8.max = 255 := rfl
  rw [e0, e1] at h
  omega
theorem w_range (x : Int) : -9223372036854775808 ≤ wrap64 x ∧ wrap64 x < 9223372036854775808 := by unfold wrap64; omega
theorem w_id {x : Int} (h : -9223372036854775808 ≤ x ∧ x < 9223372036854775808) : wrap64 x = x := by unfold wrap64; omega
theorem w_of {x y : Int} (k : Int) (h : x = y + 18446744073709551616 * k) : wrap64 x = wrap64 y := by unfold wrap64; omega
theorem w_ex (x : Int) : ∃ k, wrap64 x = x + 18446744073709551616 * k := ⟨-((x + 9223372036854775808) / 18446744073709551616), by unfold wrap64; omega⟩
theorem w_add (x y : Int) : wrap64 (wrap64 x + y) = wrap64 (x + y) := by unfold wrap64; omega
theorem w_add' (x y : Int) : wrap64 (y + wrap64 x) = wrap64 (y + x) := by unfold wrap64; omega
theorem w_sub (x y : Int) : wrap64 (wrap64 x - y) = wrap64 (x - y) := by unfold wrap64; omega
theorem w_sub' (x y : Int) : wrap64 (y - wrap64 x) = wrap64 (y - x) := by unfold wrap64; omega
theorem w_mul (x y : Int) : wrap64 (wrap64 x * y) = wrap64 (x * y) := by
  obtain ⟨k, hk⟩ := w_ex x
  exact w_of (k * y) (by rw [hk, Int.add_mul, Int.mul_assoc])
theorem w_mul' (x y : Int) : wrap64 (y * wrap64 x) = wrap64 (y * x) := by rw [Int.mul_comm, w_mul, Int.mul_comm]
/-! what 'do' makes -/
theorem do_of (op a b v : Int) (h0 : 0 ≤ op ∧ op ≤ 9) (h1 : ¬ (b = 0 ∧ (op = 3 ∨ op = 4))) (h : doF op a b = some v) : tallowlaw01_do.f op a b = some v := by
  unfold tallowlaw01_do.f num_Do.f
  rw [if_neg (by omega), if_neg h1, h]; rfl
theorem do_add (a b : Int) : tallowlaw01_do.f 0 a b = some (wrap64 (a + b)) := do_of _ _ _ _ (by decide) (by omega) rfl
theorem do_sub (a b : Int) : tallowlaw01_do.f 1 a b = some (wrap64 (a - b)) := do_of _ _ _ _ (by decide) (by omega) rfl
theorem do_mul (a b : Int) : tallowlaw01_do.f 2 a b = some (wrap64 (a * b)) := do_of _ _ _ _ (by decide) (by omega) rfl
theorem do_and (a b : Int) : tallowlaw01_do.f 5 a b = some (Go.bits .and .i64 a b) := do_of _ _ _ _ (by decide) (by omega) rfl
theorem do_or (a b : Int) : tallowlaw01_do.f 6 a b = some (Go.bits .or .i64 a b) := do_of _ _ _ _ (by decide) (by omega) rfl
theorem do_xor (a b : Int) : tallowlaw01_do.f 7 a b = some (Go.bits .xor .i64 a b) := do_of _ _ _ _ (by decide) (by omega) rfl
theorem parse12 : num_Parse.f ⟨#[45, 49, 50]⟩ = some (-12, 0) := by decide +kernel
theorem text12 : num_Text.f (-12) = some ⟨#[45, 49, 50]⟩ := by
  unfold num_Text.f
  rw [if_pos (by decide)]
  unfold Lib.itoa
  rw [if_pos (by decide), show Int.natAbs (-12) = 12 from rfl, Lib.decDigits_two (by decide) (by decide)]
  rfl
theorem works_ok : tallowlaw01_works.f = some true := by
  have e1 : tallowlaw01_do.f 3 (-7) 2 = some (-4) := by decide +kernel
  have e2 : tallowlaw01_do.f 4 (-7) 2 = some 1 := by decide +kernel
  have e3 : tallowlaw01_do.f 8 1 3 = some 8 := by decide +kernel
  unfold tallowlaw01_works.f
  rw [parse12, e1, e2, e3, text12]
  simp only [Option.bind_some]
  rw [if_pos trivial, if_pos trivial, if_pos trivial, ByteArray.toList_mk, if_pos rfl, if_pos trivial]
  rfl
end Go.Proofs.YtilmmmpbcgobaaaDoor.G
