/- Proved: the pure statement behind the law FnExactSameValues: whatever its arguments, the law's plain function answers true. Conditions: the arguments are well formed values of their types. -/
import Derived.Test.YtdnegjmdahmlfaaA2
import Derived.Test.YtdnegjmdahmlfaaAOk
namespace Go.Proofs.Ytdnegjmdahmlfaa.Pure
open Go.RowKit Go.Proofs.Ytdnegjmdahmlfaa.A Go.Proofs.YtdnegjmdahmlfaaW.PrintWords Go.Proofs.YtdnegjmdahmlfaaW.PrintLast

theorem FnExactSameValues : ∀ (y0 : S26) (y1 : S26), (ok26 y0) → (ok26 y1) → laws_FnExactSameValues.f y0.f0 y0.f1 y0.f2 y1.f0 y1.f1 y1.f2 = some true := by
  intro y0 y1 _ _
  unfold laws_FnExactSameValues.f laws_szValue.f
  by_cases c1 : wrap64 (1048576 - (y0.f2.size : Int)) < 0
  · rw [if_pos c1]
    rfl
  · rw [if_neg c1]
    simp only [Option.bind_some]
    rw [if_neg c1]
    by_cases c2 : wrap64 (wrap64 (1048576 - (y0.f2.size : Int)) - (y1.f2.size : Int)) < 0
    · rw [if_pos c2]
      rfl
    · rw [if_neg c2]
      simp only [Option.bind_some]
      rw [if_neg c2]
      simp [laws_toValue.f, spec_SameValues.f, impl_SameValues.f]

end Go.Proofs.Ytdnegjmdahmlfaa.Pure
