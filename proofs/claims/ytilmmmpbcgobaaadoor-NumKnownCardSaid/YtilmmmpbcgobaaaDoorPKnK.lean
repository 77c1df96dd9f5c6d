import Derived.Shelf.Abstract
import Derived.LaidEql
import Derived.Stop.Asserts
import Derived.RowKitTokens
import Derived.Lib.LaidTab
import Derived.Lib.AppendIntMem
import Derived.Stop.LaidErr
import Derived.Test.YtilmmmpbcgobaaaDoorRows
import Derived.Test.YtilmmmpbcgobaaaDoorPKnV
import Derived.Lib.Hide
set_option linter.unusedVariables false
set_option linter.unusedSimpArgs false
section
namespace Go.Proofs.YtilmmmpbcgobaaaDoor.G
open Go.Shelf Go.Extern.Stop Go.Stop Go.Extern Go.RowKit Go.Proofs.YtilmmmpbcgobaaaDoorW.PrintWords Go.Proofs.YtilmmmpbcgobaaaDoorW.PrintLast Go.Proofs.YtilmmmpbcgobaaaDoorW.PrintMore
set_option linter.unusedVariables false
set_option linter.unusedSimpArgs false
theorem gE : Tryd.prog.globalNamed "strconv.ErrRange" = some 0 := by kernel_rfl
theorem gEType : (Tryd.prog.globals[0]?).map (·.type) = some 54 := by kernel_rfl
theorem gT : Tryd.prog.globalNamed "internal/strconv.uint64pow10" = some 2 := by kernel_rfl
theorem gTType : (Tryd.prog.globals[2]?).map (·.type) = some 99 := by kernel_rfl
theorem cells118 : Tryd.prog.cellsOf 118 = 1 := by kernel_rfl
theorem cells9 : Tryd.prog.cellsOf 9 = 1 := by kernel_rfl
theorem cells45 : Tryd.prog.cellsOf 45 = 1 := by kernel_rfl
theorem cells99 : Tryd.prog.cellsOf 99 = 20 := by kernel_rfl
theorem star : "*" ++ "errors.errorString" = "*errors.errorString" := by decide
theorem row116 (u : TypeId) (h : Tryd.prog.typeName? 3 u = some "*errors.errorString") : u = 116 :=
  typeName_ptr_named (nm := "errors.errorString") (by rw [star]; kernel_rfl) (by kernel_rfl) (by decide) u (by rw [star]; exact h)
theorem laid_of {r : List (String × DataW Unit)} {W : World} {x1 x2 x5 : String × DataW Unit} (h : laidMet Tryd.prog (x1 :: x2 :: ("internal/strconv.uint64pow10", Rows.laid_internal_strconv_uint64pow10) :: ("strconv.ErrRange", Rows.laid_strconv_ErrRange) :: x5 :: r) W) : Laid W := by
  have h2 := h.tail.tail
  refine ⟨Lib.tabIs_of_head (k := .u64) (zs := Lib.pow10Tab) gT gTType Tryd.underlying99 Tryd.underlying45 cells45 cells99 h2, ?_⟩
  obtain ⟨a0, s0, hv0, _⟩ := laid_sentinel h2.tail gE gEType Tryd.underlying54 row116 Tryd.underlying116 Tryd.underlying118 rfl rfl Tryd.underlying9 cells118 cells9
  exact ⟨a0, hv0⟩
end Go.Proofs.YtilmmmpbcgobaaaDoor.G
end
