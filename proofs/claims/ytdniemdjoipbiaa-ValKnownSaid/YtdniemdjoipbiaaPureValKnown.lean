/- ValKnown: the examples of the chapter on values hold; a closed statement without conditions. No condition beyond the row's own. -/
import Derived.Test.YtdniemdjoipbiaaPz
import Derived.Test.YtdniemdjoipbiaaGx7
namespace Go.Proofs.Ytdniemdjoipbiaa.Pure
open Go.RowKit Go.Proofs.Ytdniemdjoipbiaa.G Go.Proofs.Ytdniemdjoipbiaa.Z Go.Proofs.YtdniemdjoipbiaaW.PrintWords Go.Proofs.YtdniemdjoipbiaaW.PrintLast

theorem ValKnown : tallowlaw02_ValKnown.Pure := ⟨30, by decide +kernel⟩

end Go.Proofs.Ytdniemdjoipbiaa.Pure
