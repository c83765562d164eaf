/- Proved: the pure statement behind the law FnExactMulNum: whatever its arguments, the law's plain function answers true. Conditions: the arguments are well formed values of their types. -/
import Derived.Test.YtdnegjmdahmlfaaA3
import Derived.Test.YtdnegjmdahmlfaaAOk
namespace Go.Proofs.Ytdnegjmdahmlfaa.Pure
open Go.RowKit Go.Proofs.Ytdnegjmdahmlfaa.A Go.Proofs.YtdnegjmdahmlfaaW.PrintWords Go.Proofs.YtdnegjmdahmlfaaW.PrintLast

theorem FnExactMulNum : ∀ (a0 : Int) (a1 : Int), ((Lit.int .i64 a0).wf = true) → ((Lit.int .i64 a1).wf = true) → ∃ k, laws_FnExactMulNum.f k a0 a1 = some true := by
  intro a0 a1 _ _
  refine ⟨5, ?_⟩
  have e : impl_MulNum.f 5 a0 a1 = spec_MulNum.f a0 a1 := by
    unfold impl_MulNum.f impl_calculated__impl_MulNum_1.f spec_MulNum.f spec_l1Two.f spec_l1Of.f spec_l1Num.f spec_l1In.f impl_NumFault.f impl_in.f
    simp only [impl_calculated__impl_MulNum_1.j0, impl_NumFault.f, impl_in.f, impl_MulNum_1.f]
    by_cases h1 : -1000000000 ≤ a0 <;> by_cases h2 : a0 ≤ 1000000000 <;> by_cases h3 : -1000000000 ≤ a1 <;> by_cases h4 : a1 ≤ 1000000000 <;> by_cases h5 : -1000000000 ≤ wrap64 (a0 * a1) <;> by_cases h6 : wrap64 (a0 * a1) ≤ 1000000000 <;> simp [h1, h2, h3, h4, h5, h6]
  have hs : ∃ r, spec_MulNum.f a0 a1 = some r := by
    unfold spec_MulNum.f spec_l1Two.f spec_l1Of.f spec_l1Num.f spec_l1In.f
    by_cases h1 : -1000000000 ≤ a0 <;> by_cases h2 : a0 ≤ 1000000000 <;> by_cases h3 : -1000000000 ≤ a1 <;> by_cases h4 : a1 ≤ 1000000000 <;> by_cases h5 : -1000000000 ≤ wrap64 (a0 * a1) <;> by_cases h6 : wrap64 (a0 * a1) ≤ 1000000000 <;> simp [h1, h2, h3, h4, h5, h6]
  obtain ⟨r, hr⟩ := hs
  unfold laws_FnExactMulNum.f
  rw [e, hr]
  simp [laws_eqIntResult.f]

end Go.Proofs.Ytdnegjmdahmlfaa.Pure
