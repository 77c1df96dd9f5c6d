import Derived.Test.YtnklefbojabblaaPK
namespace Go.Proofs.Ytnklefbojabblaa.Pure
open Go.RowKit Go.Proofs.Ytnklefbojabblaa.G
theorem QuoteKnown : tallowlaw03_QuoteKnown.Pure := Z.quoteKnown
end Go.Proofs.Ytnklefbojabblaa.Pure
