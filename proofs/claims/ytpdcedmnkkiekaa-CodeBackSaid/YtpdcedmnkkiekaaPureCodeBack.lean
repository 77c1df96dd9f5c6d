import Derived.Test.YtpdcedmnkkiekaaPBk
namespace Go.Proofs.Ytpdcedmnkkiekaa.Pure
open Go.RowKit Go.Proofs.Ytpdcedmnkkiekaa.G
theorem CodeBack : tallowlaw20_CodeBack.Pure := Z.codeBack
end Go.Proofs.Ytpdcedmnkkiekaa.Pure
