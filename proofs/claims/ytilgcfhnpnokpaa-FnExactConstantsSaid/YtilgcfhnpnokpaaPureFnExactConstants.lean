/- The law FnExactConstants returns true: the constants are the document's. No conditions. -/
import Derived.Test.YtilgcfhnpnokpaaPFnExactConstantsx1
namespace Go.Proofs.Ytilgcfhnpnokpaa.Pure
open Go.RowKit Go.Proofs.Ytilgcfhnpnokpaa.PFnExactConstants Go.Proofs.YtilgcfhnpnokpaaW.PrintWords Go.Proofs.YtilgcfhnpnokpaaW.PrintLast

theorem FnExactConstants : laws_FnExactConstants.Pure := rfl

end Go.Proofs.Ytilgcfhnpnokpaa.Pure
