import Derived.Deep.RegionLaw
import Derived.Deep.Cut
import Derived.WalkSpells
import Derived.Maps.OwnOps
import Derived.Maps.OwnSet
import Derived.Maps.Views
import Derived.Maps.Own
import Derived.DeepKeys5
import Derived.Outline
import Derived.Deep.AppendLies
import Derived.Laws.CopyRow
import Derived.Laws.CopyOwn
import Derived.StillTailTactics
import Derived.Test.YtadhkfklkbdabaaRPPuQ7
set_option linter.unusedVariables false
set_option linter.unusedSimpArgs false
section
namespace Go.Proofs.YtadhkfklkbdabaaR.G
open Go.RowKit Go.Proofs.YtadhkfklkbdabaaRW.PrintWords Go.Proofs.YtadhkfklkbdabaaRW.PrintLast Go.Proofs.YtadhkfklkbdabaaRW.PrintMore
set_option linter.unusedVariables false
set_option linter.unusedSimpArgs false
structure PutOk (a : List S24) (P : List (S24 × S24)) (k v : S24) (a' : List S24) (P' : List (S24 × S24)) (g : List S24) : Prop where
 tok : TOk a' P'
 sm : ∀ k', sem a' P' k' = if sameV k' k = true then v else sem a P k'
 wt : ∀ W : S24 → Nat, (∀ x, refB x = false → W x = 0) → W k + W v + wA W a + wP W P = wA W a' + wP W P' + wA W g
 gone : k.f0 = 3 → g = refsL [sem a P k]
theorem rd_idx {l : List S24} {x : Int} (h0 : 0 ≤ x) : rd_T24 l x = rd_T24 l ((x.toNat : Nat) : Int) := by rw [Int.toNat_of_nonneg h0]
end Go.Proofs.YtadhkfklkbdabaaR.G
end
