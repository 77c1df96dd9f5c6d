import Derived.Test.YtnklefbojabblaaPRd
namespace Go.Proofs.Ytnklefbojabblaa.Pure
open Go.RowKit Go.Proofs.Ytnklefbojabblaa.G
theorem QuoteReads : tallowlaw03_QuoteReads.Pure := Z.quoteReads
end Go.Proofs.Ytnklefbojabblaa.Pure
