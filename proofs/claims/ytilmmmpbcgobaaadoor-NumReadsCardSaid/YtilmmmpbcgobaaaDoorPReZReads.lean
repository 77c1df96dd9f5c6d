import Derived.Shelf.Abstract
import Derived.LaidEql
import Derived.Stop.Asserts
import Derived.RowKitTokens
import Derived.Lib.LaidTab
import Derived.Lib.AppendIntMem
import Derived.Test.YtilmmmpbcgobaaaDoorPReZRp
import Derived.Test.YtilmmmpbcgobaaaDoorPReGxF5
import Derived.Lib.Hide
set_option linter.unusedVariables false
set_option linter.unusedSimpArgs false
section
namespace Go.Proofs.YtilmmmpbcgobaaaDoor.G
open Go.Shelf Go.Extern.Stop Go.Stop Go.Extern Go.RowKit Go.Proofs.YtilmmmpbcgobaaaDoorW.PrintWords Go.Proofs.YtilmmmpbcgobaaaDoorW.PrintLast Go.Proofs.YtilmmmpbcgobaaaDoorW.PrintMore
set_option linter.unusedVariables false
set_option linter.unusedSimpArgs false
theorem cut_size (a : ByteArray) (m : Int) (h0 : 0 ≤ m) (h1 : m ≤ a.size) : ((a.extract 0 (m : Int).toNat).size : Int) = m := by
  rw [ByteArray.size_extract]; omega
theorem numReads (a : ByteArray) (ha : a.size ≤ 140737488351232) : ∃ k, tallowlaw01_NumReads.f k a = some true := by
  suffices h : Ev (fun k => tallowlaw01_NumReads.f k a) true from h.rounds
  obtain ⟨m, hm⟩ : ∃ m, mn (a.size : Int) 2000 = m := ⟨_, rfl⟩
  have h0 : 0 ≤ m ∧ m ≤ a.size ∧ m ≤ 2000 := by rw [← hm]; unfold mn; split <;> omega
  have hsz := cut_size a m h0.1 h0.2.1
  obtain ⟨s, hs⟩ : ∃ s, a.extract 0 (m : Int).toNat = s := ⟨_, rfl⟩
  rw [hs] at hsz
  have e1 : num_Parse.f s = some (readL s.data.toList) := by
    unfold num_Parse.f; rw [if_pos (by omega), parseF_read]
  refine Ev.congr (f := fun k => (tallowref01_Parse.f k s).bind fun bt193 => (if (readL s.data.toList).1 = bt193.1 then (if (readL s.data.toList).2 = bt193.2 then ((tallowlaw01_works.f).bind fun t195 => (some t195)) else (some false)) else (some false))) (fun k => by
    unfold tallowlaw01_NumReads.f
    rw [hm, if_pos h0.1, if_pos h0.2.1, hs, e1, Option.bind_some]) ?_
  refine Ev.bind (f := fun k bt193 => (if (readL s.data.toList).1 = bt193.1 then (if (readL s.data.toList).2 = bt193.2 then ((tallowlaw01_works.f).bind fun t195 => (some t195)) else (some false)) else (some false))) (r_parse s (by omega)) ?_
  exact Ev.congr (f := fun _ => some true) (fun k => by rw [if_pos rfl, if_pos rfl, works_ok]; rfl) (Ev.now true)
end Go.Proofs.YtilmmmpbcgobaaaDoor.G
end
