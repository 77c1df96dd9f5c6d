import Derived.Shelf.Abstract
import Derived.LaidEql
import Derived.Stop.Asserts
import Derived.RowKitTokens
import Derived.Lib.LaidTab
import Derived.Lib.AppendIntMem
import Derived.Test.YtilmmmpbcgobaaaDoorPTeGxF4
import Derived.Test.YtilmmmpbcgobaaaDoorPTeZR
import Derived.Lib.Hide
set_option linter.unusedVariables false
set_option linter.unusedSimpArgs false
section
namespace Go.Proofs.YtilmmmpbcgobaaaDoor.G
open Go.Shelf Go.Extern.Stop Go.Stop Go.Extern Go.RowKit Go.Proofs.YtilmmmpbcgobaaaDoorW.PrintWords Go.Proofs.YtilmmmpbcgobaaaDoorW.PrintLast Go.Proofs.YtilmmmpbcgobaaaDoorW.PrintMore
set_option linter.unusedVariables false
set_option linter.unusedSimpArgs false
theorem numTexts (a : Int) (ha : (Lit.int .i64 a).wf = true) : ∃ k, tallowlaw01_NumTexts.f k a = some true := by
  have ra := wf_i64 ha
  suffices h : Ev (fun k => tallowlaw01_NumTexts.f k a) true from h.rounds
  have e1 : num_Text.f a = some (strL (Lib.itoa a)) := by unfold num_Text.f; rw [if_pos ⟨ra.1, by omega⟩]; rfl
  refine Ev.congr (f := fun k => (tallowref01_Text.f k a).bind fun t188 => (if (strL (Lib.itoa a)).toList = t188.toList then ((tallowlaw01_works.f).bind fun t189 => (some t189)) else (some false))) (fun k => by unfold tallowlaw01_NumTexts.f; rw [e1, Option.bind_some]) ?_
  refine Ev.bind (f := fun k t188 => (if (strL (Lib.itoa a)).toList = t188.toList then ((tallowlaw01_works.f).bind fun t189 => (some t189)) else (some false))) (text_of ra) ?_
  exact Ev.congr (f := fun _ => some true) (fun k => by rw [if_pos rfl, works_ok]; rfl) (Ev.now true)
end Go.Proofs.YtilmmmpbcgobaaaDoor.G
end
