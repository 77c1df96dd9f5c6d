import Derived.Test.YtnklefbojabblaaPBk
namespace Go.Proofs.Ytnklefbojabblaa.Pure
open Go.RowKit Go.Proofs.Ytnklefbojabblaa.G
theorem QuoteBack : tallowlaw03_QuoteBack.Pure := Z.quoteBack
end Go.Proofs.Ytnklefbojabblaa.Pure
