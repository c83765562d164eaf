/- Proved: the pure statement behind the law FnExactConstants. Conditions: none beyond the statement's own. -/
import Derived.Test.YtdnegjmdahmlfaaPFnExactConstantsx1
namespace Go.Proofs.Ytdnegjmdahmlfaa.Pure
open Go.RowKit Go.Proofs.Ytdnegjmdahmlfaa.PFnExactConstants Go.Proofs.YtdnegjmdahmlfaaW.PrintWords Go.Proofs.YtdnegjmdahmlfaaW.PrintLast

theorem FnExactConstants : laws_FnExactConstants.Pure := by
  unfold laws_FnExactConstants.Pure laws_FnExactConstants.f
  rfl

end Go.Proofs.Ytdnegjmdahmlfaa.Pure
