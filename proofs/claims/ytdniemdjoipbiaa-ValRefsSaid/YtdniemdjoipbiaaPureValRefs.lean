import Derived.Test.YtdniemdjoipbiaaPz
import Derived.Test.YtdniemdjoipbiaaGx4
namespace Go.Proofs.Ytdniemdjoipbiaa.Pure
open Go.RowKit Go.Proofs.Ytdniemdjoipbiaa.G Go.Proofs.Ytdniemdjoipbiaa.Z Go.Proofs.YtdniemdjoipbiaaW.PrintWords Go.Proofs.YtdniemdjoipbiaaW.PrintLast

theorem ValRefs (l : List S23) {p : Prop} (h : l.length * 16 ≤ 140737488351232 ∧ p) : ∃ k, tallowlaw02_ValRefs.f k l = some true := by
  have hl := h.1
  refine ⟨l.length + 2, ?_⟩
  unfold tallowlaw02_ValRefs.f
  rw [vrefs l (by omega) _ (by omega), rrefs l (by omega) _ (by omega)]
  simp only [Option.bind_some]
  rw [ints_same _ (by have := refsL_le l; omega) _ (by have := refsL_le l; omega)]
  rfl

end Go.Proofs.Ytdniemdjoipbiaa.Pure
