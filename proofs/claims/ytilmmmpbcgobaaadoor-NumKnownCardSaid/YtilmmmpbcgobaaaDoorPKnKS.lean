import Derived.Shelf.Abstract
import Derived.LaidEql
import Derived.Stop.Asserts
import Derived.RowKitTokens
import Derived.Lib.LaidTab
import Derived.Lib.AppendIntMem
import Derived.Stop.LaidErr
import Derived.Test.YtilmmmpbcgobaaaDoorPKnK
import Derived.Test.YtilmmmpbcgobaaaDoorPKnGxF21
import Derived.Lib.Hide
set_option linter.unusedVariables false
set_option linter.unusedSimpArgs false
section
namespace Go.Proofs.YtilmmmpbcgobaaaDoor.G
open Go.Shelf Go.Extern.Stop Go.Stop Go.Extern Go.RowKit Go.Proofs.YtilmmmpbcgobaaaDoorW.PrintWords Go.Proofs.YtilmmmpbcgobaaaDoorW.PrintLast Go.Proofs.YtilmmmpbcgobaaaDoorW.PrintMore
set_option linter.unusedVariables false
set_option linter.unusedSimpArgs false
theorem gS : Tryd.prog.globalNamed "strings.asciiSpace" = some 1 := by kernel_rfl
theorem gSType : (Tryd.prog.globals[1]?).map (·.type) = some 94 := by kernel_rfl
theorem cells5 : Tryd.prog.cellsOf 5 = 1 := by kernel_rfl
theorem cells94 : Tryd.prog.cellsOf 94 = 256 := by kernel_rfl
set_option maxRecDepth 100000 in
theorem laid_ofS {r : List (String × DataW Unit)} {W : World} {x1 x2 x5 x6 : String × DataW Unit} (h : laidMet Tryd.prog (x1 :: x2 :: ("internal/strconv.uint64pow10", Rows.laid_internal_strconv_uint64pow10) :: ("strconv.ErrRange", Rows.laid_strconv_ErrRange) :: x5 :: x6 :: ("strings.asciiSpace", Rows.laid_strings_asciiSpace) :: r) W) : LaidS W :=
  ⟨laid_of h, Lib.tabIs_of_head (k := .u8) (zs := Lib.asciiSpaceTab) gS gSType Tryd.underlying94 Tryd.underlying5 cells5 cells94 h.tail.tail.tail.tail.tail.tail⟩
end Go.Proofs.YtilmmmpbcgobaaaDoor.G
end
