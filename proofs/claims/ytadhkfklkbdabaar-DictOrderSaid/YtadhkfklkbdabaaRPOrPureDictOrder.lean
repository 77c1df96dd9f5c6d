import Derived.Test.YtadhkfklkbdabaaRPOrQ16
set_option linter.unusedVariables false
set_option linter.unusedSimpArgs false
section
namespace Go.Proofs.YtadhkfklkbdabaaR.Pure
theorem DictOrder : Go.Proofs.YtadhkfklkbdabaaR.G.tallowlaw09_DictOrder.Pure := Go.Proofs.YtadhkfklkbdabaaR.G.order_all
end Go.Proofs.YtadhkfklkbdabaaR.Pure
end
