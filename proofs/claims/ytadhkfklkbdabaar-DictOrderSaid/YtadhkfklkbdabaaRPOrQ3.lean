import Derived.Deep.RegionLaw
import Derived.Deep.Cut
import Derived.WalkSpells
import Derived.Maps.OwnOps
import Derived.Maps.OwnSet
import Derived.Maps.Views
import Derived.Maps.Own
import Derived.DeepKeys5
import Derived.Outline
import Derived.Deep.AppendLies
import Derived.Laws.CopyRow
import Derived.Laws.CopyOwn
import Derived.StillTailTactics
import Derived.Test.YtadhkfklkbdabaaRPOrQ2
import Derived.Test.YtadhkfklkbdabaaRPOrGx0
import Derived.Test.YtadhkfklkbdabaaRPOrGxE24
import Derived.Test.YtadhkfklkbdabaaRPOrGxF14
import Derived.Test.YtadhkfklkbdabaaRPOrGxF22
import Derived.Test.YtadhkfklkbdabaaRPOrGxF13
import Derived.Test.YtadhkfklkbdabaaRPOrGxF17
import Derived.Test.YtadhkfklkbdabaaRPOrD18
set_option linter.unusedVariables false
set_option linter.unusedSimpArgs false
section
namespace Go.Proofs.YtadhkfklkbdabaaR.G
open Go.RowKit Go.Proofs.YtadhkfklkbdabaaRW.PrintWords Go.Proofs.YtadhkfklkbdabaaRW.PrintLast Go.Proofs.YtadhkfklkbdabaaRW.PrintMore
set_option linter.unusedVariables false
set_option linter.unusedSimpArgs false
theorem works_k : tallowlaw09_works.f 20 = some true := by decide +kernel
theorem eworks : Ev (fun f => tallowlaw09_works.f f) true := Ev.up (fun k => tallowlaw09_works.mono k) works_k
end Go.Proofs.YtadhkfklkbdabaaR.G
end
