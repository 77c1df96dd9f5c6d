import Derived.Test.YtdniemdjoipbiaaPz
import Derived.Test.YtdniemdjoipbiaaGx3
namespace Go.Proofs.Ytdniemdjoipbiaa.Pure
open Go.RowKit Go.Proofs.Ytdniemdjoipbiaa.G Go.Proofs.Ytdniemdjoipbiaa.Z Go.Proofs.YtdniemdjoipbiaaW.PrintWords Go.Proofs.YtdniemdjoipbiaaW.PrintLast

theorem ValLooks (a b : Int) {p : Prop} (_ : p) : ∃ k, tallowlaw02_ValLooks.f k a b = some true := by
  refine ⟨1, ?_⟩
  unfold tallowlaw02_ValLooks.f
  rw [rmay, vref, rref, vtruth, rtruth, vkey, rkey]
  simp [val_May.f, tallowlaw02_works.f]

end Go.Proofs.Ytdniemdjoipbiaa.Pure
