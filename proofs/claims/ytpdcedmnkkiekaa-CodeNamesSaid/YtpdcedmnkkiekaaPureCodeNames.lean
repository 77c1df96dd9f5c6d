import Derived.Test.YtpdcedmnkkiekaaPNm
namespace Go.Proofs.Ytpdcedmnkkiekaa.Pure
open Go.RowKit Go.Proofs.Ytpdcedmnkkiekaa.G
theorem CodeNames : tallowlaw20_CodeNames.Pure := Z.codeNames
end Go.Proofs.Ytpdcedmnkkiekaa.Pure
