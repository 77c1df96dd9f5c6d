import Derived.Test.YtnklefbojabblaaPA
namespace Go.Proofs.Ytnklefbojabblaa.Pure
open Go.RowKit Go.Proofs.Ytnklefbojabblaa.G
theorem QuoteApart : tallowlaw03_QuoteApart.Pure := Z.quoteApart
end Go.Proofs.Ytnklefbojabblaa.Pure
