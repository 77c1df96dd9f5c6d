import Derived.Test.YtnklefbojabblaaPWr
namespace Go.Proofs.Ytnklefbojabblaa.Pure
open Go.RowKit Go.Proofs.Ytnklefbojabblaa.G
theorem QuoteWrites : tallowlaw03_QuoteWrites.Pure := Z.quoteWrites
end Go.Proofs.Ytnklefbojabblaa.Pure
