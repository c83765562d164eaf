/- Proved: the pure statement behind the law FnExactIsTrue: whatever its arguments, the law's plain function answers true. Conditions: the arguments are well formed values of their types. -/
import Derived.Test.YtdnegjmdahmlfaaA2
import Derived.Test.YtdnegjmdahmlfaaAOk
namespace Go.Proofs.Ytdnegjmdahmlfaa.Pure
open Go.RowKit Go.Proofs.Ytdnegjmdahmlfaa.A Go.Proofs.YtdnegjmdahmlfaaW.PrintWords Go.Proofs.YtdnegjmdahmlfaaW.PrintLast

theorem FnExactIsTrue : ∀ (y0 : S26), (ok26 y0) → laws_FnExactIsTrue.f y0.f0 y0.f1 y0.f2 = some true := by
  intro y0 _
  unfold laws_FnExactIsTrue.f laws_szValue.f
  by_cases c1 : wrap64 (1048576 - (y0.f2.size : Int)) < 0
  · rw [if_pos c1]
    rfl
  · rw [if_neg c1]
    simp only [Option.bind_some]
    rw [if_neg c1]
    by_cases c2 : y0.f0 = 2 <;> simp [laws_toValue.f, spec_IsTrue.f, impl_IsTrue.f, c2]

end Go.Proofs.Ytdnegjmdahmlfaa.Pure
