import Derived.LaidMore
import Derived.LaidHandle
import Derived.Stop.Joined
import Derived.Lib.IfaceEq
import Derived.Lib.ItoaLen
import Derived.Shelf.Strings.MapGrows
import Derived.Shelf.Abstract
import Derived.LaidEql
import Derived.Stop.Asserts
import Derived.RowKitTokens
import Derived.Lib.LaidTab
import Derived.Lib.AppendIntMem
import Derived.Stop.LaidErr
import Derived.WalkKit
import Derived.Deep.RegionLaw
import Derived.Deep.Cut
import Derived.WalkSpells
import Derived.Test.YtnombbcgdfgadaaDoorPKnR
import Derived.Test.YtnombbcgdfgadaaDoorPKnOW
import Derived.Test.YtnombbcgdfgadaaDoorPKnGx0
import Derived.Test.YtnombbcgdfgadaaDoorPKnGxE44
import Derived.Lib.Hide
set_option linter.unusedVariables false
set_option linter.unusedSimpArgs false
section
namespace Go.Proofs.YtnombbcgdfgadaaDoor.G
open Go.Shelf Go.Extern.Stop Go.Stop Go.Extern Go.RowKit Go.Proofs.YtnombbcgdfgadaaDoorW.PrintWords Go.Proofs.YtnombbcgdfgadaaDoorW.PrintLast Go.Proofs.YtnombbcgdfgadaaDoorW.PrintMore
set_option linter.unusedVariables false
set_option linter.unusedSimpArgs false
theorem okD_iff (d : S44) : okD d = true ↔ (0 ≤ d.f0 ∧ d.f0 < 5 ∧ 0 ≤ d.f1 ∧ d.f1 ≤ 2147483647 ∧ (d.f0 = 3 → d.f1 = 0)) := by
  unfold okD
  exact decide_eq_true_iff
end Go.Proofs.YtnombbcgdfgadaaDoor.G
end
