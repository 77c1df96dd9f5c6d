import Derived.Test.YtadhkfklkbdabaaRPNeGx0
import Derived.Test.YtadhkfklkbdabaaRPNeGxE24
import Derived.Test.YtadhkfklkbdabaaRPNeGxF9
import Derived.Test.YtadhkfklkbdabaaRPNeGxF20
import Derived.Test.YtadhkfklkbdabaaRPNeGxF12
import Derived.Test.YtadhkfklkbdabaaRPNeGxF14
import Derived.Test.YtadhkfklkbdabaaRPNeGxF22
import Derived.Test.YtadhkfklkbdabaaRPNeGxF13
import Derived.Test.YtadhkfklkbdabaaRPNeGxF17
import Derived.Test.YtadhkfklkbdabaaRPNeGxF19
import Derived.Test.YtadhkfklkbdabaaRPNeGxF21
import Derived.Test.YtadhkfklkbdabaaRPNeGxF23
import Derived.Test.YtadhkfklkbdabaaRPNeGxF24
set_option linter.unusedVariables false
set_option linter.unusedSimpArgs false
section
namespace Go.Proofs.YtadhkfklkbdabaaR.G
open Go.RowKit Go.Proofs.YtadhkfklkbdabaaRW.PrintWords Go.Proofs.YtadhkfklkbdabaaRW.PrintLast Go.Proofs.YtadhkfklkbdabaaRW.PrintMore
attribute [local go_sem] max2_int min2_int max_two min_two max_three min_three max_four min_four
set_option linter.unusedVariables false
set_option linter.unusedSimpArgs false
attribute [local go_sem high] eqA24
end Go.Proofs.YtadhkfklkbdabaaR.G
end
