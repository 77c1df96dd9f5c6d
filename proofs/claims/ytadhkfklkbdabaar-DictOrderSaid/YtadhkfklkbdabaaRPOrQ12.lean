import Derived.Deep.RegionLaw
import Derived.Deep.Cut
import Derived.WalkSpells
import Derived.Maps.OwnOps
import Derived.Maps.OwnSet
import Derived.Maps.Views
import Derived.Maps.Own
import Derived.DeepKeys5
import Derived.Outline
import Derived.Deep.AppendLies
import Derived.Laws.CopyRow
import Derived.Laws.CopyOwn
import Derived.StillTailTactics
import Derived.Test.YtadhkfklkbdabaaRPOrQ11
import Derived.Test.YtadhkfklkbdabaaRPOrGx0
import Derived.Test.YtadhkfklkbdabaaRPOrGxE24
import Derived.Test.YtadhkfklkbdabaaRPOrGxF10
import Derived.Test.YtadhkfklkbdabaaRPOrGxF22
import Derived.Test.YtadhkfklkbdabaaRPOrGxF13
import Derived.Test.YtadhkfklkbdabaaRPOrD18
import Derived.Test.YtadhkfklkbdabaaRPOrGxF14
import Derived.Test.YtadhkfklkbdabaaRPOrGxF46
set_option linter.unusedVariables false
set_option linter.unusedSimpArgs false
section
namespace Go.Proofs.YtadhkfklkbdabaaR.G
open Go.RowKit Go.Proofs.YtadhkfklkbdabaaRW.PrintWords Go.Proofs.YtadhkfklkbdabaaRW.PrintLast Go.Proofs.YtadhkfklkbdabaaRW.PrintMore
set_option linter.unusedVariables false
set_option linter.unusedSimpArgs false
def W1 (x : S24) : Nat := if refB x = true then 1 else 0
def cntI (n : Int) : List Int → Nat
 | [] => 0
 | x :: l => (if x = n then 1 else 0) + cntI n l
theorem rdI {l : List Int} {i : Nat} (h : i < l.length) : l.drop i = rd l (i : Int) :: l.drop (i + 1) := by
 rw [List.drop_eq_getElem_cons h]
 congr 1
 unfold rd
 rw [Int.toNat_natCast, List.getD_eq_getElem?_getD, List.getElem?_eq_getElem h]; rfl
end Go.Proofs.YtadhkfklkbdabaaR.G
end
