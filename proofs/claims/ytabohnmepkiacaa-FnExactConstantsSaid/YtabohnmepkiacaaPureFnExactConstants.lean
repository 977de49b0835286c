/- The law FnExactConstants answers true: plain. No conditions. -/
import Derived.Test.YtabohnmepkiacaaPFnExactConstantsx1
namespace Go.Proofs.Ytabohnmepkiacaa.Pure
open Go.RowKit Go.Proofs.Ytabohnmepkiacaa.PFnExactConstants Go.Proofs.YtabohnmepkiacaaW.PrintWords Go.Proofs.YtabohnmepkiacaaW.PrintLast

theorem FnExactConstants : laws_FnExactConstants.Pure := rfl

end Go.Proofs.Ytabohnmepkiacaa.Pure
