import Derived.Deep.RegionLaw
import Derived.Deep.Cut
import Derived.WalkSpells
import Derived.Maps.OwnOps
import Derived.Maps.OwnSet
import Derived.Maps.Views
import Derived.Maps.Own
import Derived.DeepKeys5
import Derived.Outline
import Derived.Deep.AppendLies
import Derived.Laws.CopyRow
import Derived.Laws.CopyOwn
import Derived.StillTailTactics
import Derived.Test.YtadhkfklkbdabaaRPWaQ2
import Derived.Test.YtadhkfklkbdabaaRPWaGx0
import Derived.Test.YtadhkfklkbdabaaRPWaGxE24
import Derived.Test.YtadhkfklkbdabaaRPWaGxF14
import Derived.Test.YtadhkfklkbdabaaRPWaGxF22
import Derived.Test.YtadhkfklkbdabaaRPWaGxF13
import Derived.Test.YtadhkfklkbdabaaRPWaD18
set_option linter.unusedVariables false
set_option linter.unusedSimpArgs false
section
namespace Go.Proofs.YtadhkfklkbdabaaR.G
open Go.RowKit Go.Proofs.YtadhkfklkbdabaaRW.PrintWords Go.Proofs.YtadhkfklkbdabaaRW.PrintLast Go.Proofs.YtadhkfklkbdabaaRW.PrintMore
set_option linter.unusedVariables false
set_option linter.unusedSimpArgs false
theorem works_k : tallowlaw09_works.f 20 = some true := by decide +kernel
theorem eworks : Ev (fun f => tallowlaw09_works.f f) true := Ev.up (fun k => tallowlaw09_works.mono k) works_k
theorem okK {a b : Int} (ok : (Lit.int .i64 a).wf = true ∧ (Lit.int .i64 b).wf = true) : inV ⟨a, b⟩ = true := by
 unfold inV inR
 rw [show (Lit.int .i64 (⟨a, b⟩ : S24).f0).wf = true from ok.1, show (Lit.int .i64 (⟨a, b⟩ : S24).f1).wf = true from ok.2]; rfl
end Go.Proofs.YtadhkfklkbdabaaR.G
end
