import Derived.Shelf.Abstract
import Derived.Test.YtpdcedmnkkiekaaPKnGxF19
import Derived.Test.YtpdcedmnkkiekaaPKnGxF15
import Derived.Test.YtpdcedmnkkiekaaPKnGxF14
import Derived.Test.YtpdcedmnkkiekaaPKnGxF20
import Derived.Lib.Hide
set_option linter.unusedVariables false
set_option linter.unusedSimpArgs false
section
namespace Go.Proofs.Ytpdcedmnkkiekaa.G
open Go.Shelf Go.RowKit Go.Proofs.YtpdcedmnkkiekaaW.PrintWords Go.Proofs.YtpdcedmnkkiekaaW.PrintLast Go.Proofs.YtpdcedmnkkiekaaW.PrintMore
set_option linter.unusedVariables false
set_option linter.unusedSimpArgs false
end Go.Proofs.Ytpdcedmnkkiekaa.G
end
