import Derived.Test.YtkkgbbfojmnopaaPRePR
import Derived.Test.YtkkgbbfojmnopaaPRePJ
import Derived.Test.YtkkgbbfojmnopaaPReGx0
import Derived.Test.YtkkgbbfojmnopaaPReGxF10
import Derived.Test.YtkkgbbfojmnopaaPReGxF21
import Derived.Test.YtkkgbbfojmnopaaPReGxF12
set_option linter.unusedVariables false
set_option linter.unusedSimpArgs false
section
namespace Go.Proofs.Ytkkgbbfojmnopaa.Z
open Go.RowKit Go.Proofs.Ytkkgbbfojmnopaa.G Go.Proofs.YtkkgbbfojmnopaaW.PrintWords Go.Proofs.YtkkgbbfojmnopaaW.PrintLast Go.Proofs.YtkkgbbfojmnopaaW.PrintMore
def mk (l : List UInt8) : ByteArray := ⟨l.toArray⟩
theorem mk_size (a : List UInt8) : (mk a).size = a.length := by
 show a.toArray.size = _
 simp
theorem mk_data (s : ByteArray) : mk s.data.toList = s := by
 ext1
 simp [mk]
end Go.Proofs.Ytkkgbbfojmnopaa.Z
end
