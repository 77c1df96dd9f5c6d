import Derived.Test.YtadhkfklkbdabaaRPNeGx0
import Derived.Test.YtadhkfklkbdabaaRPNeGxF45
import Derived.Test.YtadhkfklkbdabaaRPNeGxF43
set_option linter.unusedVariables false
set_option linter.unusedSimpArgs false
section
namespace Go.Proofs.YtadhkfklkbdabaaR.G
open Go.RowKit Go.Proofs.YtadhkfklkbdabaaRW.PrintWords Go.Proofs.YtadhkfklkbdabaaRW.PrintLast Go.Proofs.YtadhkfklkbdabaaRW.PrintMore
attribute [local go_sem] max2_int min2_int max_two min_two max_three min_three max_four min_four
set_option linter.unusedVariables false
set_option linter.unusedSimpArgs false
end Go.Proofs.YtadhkfklkbdabaaR.G
end
