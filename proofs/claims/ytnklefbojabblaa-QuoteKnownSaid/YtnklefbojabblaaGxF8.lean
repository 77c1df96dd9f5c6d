-- written by a program of this session (handprint.sh), over functions proved by hand
import Derived.Test.YtnklefbojabblaaGx0
namespace Go.Proofs.Ytnklefbojabblaa.G
open Go.RowKit Go.Proofs.YtnklefbojabblaaW.PrintWords Go.Proofs.YtnklefbojabblaaW.PrintLast Go.Proofs.YtnklefbojabblaaW.PrintMore
attribute [local go_sem] max2_int min2_int max_two min_two max_three min_three max_four min_four   -- for this text's walks alone
set_option linter.unusedVariables false
set_option linter.unusedSimpArgs false

/-! ### quote_Quote: function 8 -/
def quote_Quote.f (a0 : ByteArray) : Option (ByteArray) := if a0.size ≤ 1099511627776 then some ⟨(H.qtext a0).toArray⟩ else none
theorem quote_Quote.calls (a0 : ByteArray) (r : ByteArray) (w : World) (h : quote_Quote.f a0 = some r) :
    Calls Try.prog 8 #[.string a0] w fun e w' => e = .returned (.string r) ∧ Below w.heap.size w w' := by
  unfold quote_Quote.f at h
  by_cases hs : a0.size ≤ 1099511627776
  · rw [if_pos hs] at h
    obtain rfl := Option.some.inj h
    exact H.Quote_any a0 hs w
  · rw [if_neg hs] at h
    cases h


end Go.Proofs.Ytnklefbojabblaa.G
