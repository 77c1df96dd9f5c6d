import Derived.Test.YtnklefbojabblaaPW
import Derived.Test.YtnklefbojabblaaGxF3
namespace Go.Proofs.Ytnklefbojabblaa.Z
open Go.RowKit Go.Proofs.Ytnklefbojabblaa.G Go.Proofs.Ytnklefbojabblaa.H Go.Proofs.YtnklefbojabblaaW.PrintWords Go.Proofs.YtnklefbojabblaaW.PrintLast Go.Proofs.YtnklefbojabblaaW.PrintMore
set_option linter.unusedVariables false
set_option linter.unusedSimpArgs false
theorem mn_le (a b : Int) : mn a b ≤ a ∧ mn a b ≤ b ∧ (0 ≤ a → 0 ≤ b → 0 ≤ mn a b) := by unfold mn; split <;> omega
theorem cut_size (a0 : ByteArray) (m : Nat) : (a0.extract 0 (mn (a0.size : Int) m).toNat).size ≤ m := by
  have := mn_le (a0.size : Int) m
  rw [ByteArray.size_extract]
  omega
theorem quote_some (s : ByteArray) (h : s.size ≤ 1000000) : quote_Quote.f s = some ⟨(qtext s).toArray⟩ := by unfold quote_Quote.f; rw [if_pos (by omega)]
theorem quoteWrites : tallowlaw03_QuoteWrites.Pure := by
  intro a0 _
  refine ⟨20000, ?_⟩
  have hm := mn_le (a0.size : Int) 6000
  have hs := cut_size a0 6000
  unfold tallowlaw03_QuoteWrites.f
  rw [if_pos (hm.2.2 (by omega) (by decide)), if_pos hm.1]
  have e : ((6000 : Nat) : Int) = 6000 := rfl
  rw [e] at hs
  generalize a0.extract 0 (mn (a0.size : Int) 6000).toNat = s at hs ⊢
  rw [rquote s (by omega) _ (by omega), quote_some s (by omega), Option.bind_some, Option.bind_some, if_pos rfl, works_ok]
  rfl
end Go.Proofs.Ytnklefbojabblaa.Z
