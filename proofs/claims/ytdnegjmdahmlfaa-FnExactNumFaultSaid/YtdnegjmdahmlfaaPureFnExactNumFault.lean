/- Proved: the pure statement behind the law FnExactNumFault. Conditions: none beyond the statement's own. -/
import Derived.Test.YtdnegjmdahmlfaaPFnExactNumFaultx1
namespace Go.Proofs.Ytdnegjmdahmlfaa.Pure
open Go.RowKit Go.Proofs.Ytdnegjmdahmlfaa.PFnExactNumFault Go.Proofs.YtdnegjmdahmlfaaW.PrintWords Go.Proofs.YtdnegjmdahmlfaaW.PrintLast

theorem FnExactNumFault : laws_FnExactNumFault.Pure := by
  intro a0 _
  unfold laws_FnExactNumFault.f spec_NumFault.f impl_NumFault.f spec_l1Num.f spec_l1In.f impl_in.f
  by_cases h1 : -1000000000 ≤ a0 <;> by_cases h2 : a0 ≤ 1000000000 <;> simp [h1, h2]

end Go.Proofs.Ytdnegjmdahmlfaa.Pure
