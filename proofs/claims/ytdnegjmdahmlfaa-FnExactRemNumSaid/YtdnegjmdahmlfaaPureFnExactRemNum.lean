/- Proved: the pure statement behind the law FnExactRemNum: whatever its arguments, the law's plain function answers true. Conditions: the arguments are well formed values of their types. -/
import Derived.Test.YtdnegjmdahmlfaaA5
import Derived.Test.YtdnegjmdahmlfaaAOk
namespace Go.Proofs.Ytdnegjmdahmlfaa.Pure
open Go.RowKit Go.Proofs.Ytdnegjmdahmlfaa.A Go.Proofs.YtdnegjmdahmlfaaW.PrintWords Go.Proofs.YtdnegjmdahmlfaaW.PrintLast
set_option linter.unusedSimpArgs false

/-- The two quotients are one. -/
theorem quo_eq (a b : Int) : impl_quotient.f a b = if b = 0 then some (0, false) else (spec_l1Quo.f a b).bind fun q => some (q, true) := by
  unfold impl_quotient.f spec_l1Quo.f
  by_cases h : b = 0
  · rw [if_pos h, if_pos h]
  · rw [if_neg h, if_neg h, if_neg h]
    by_cases h1 : Int.tmod a b = 0
    · rw [if_pos h1, if_pos h1]
      rfl
    · rw [if_neg h1, if_neg h1]
      by_cases h2 : ((decide (a < 0)) != (decide (b < 0))) = true
      · rw [if_pos h2, if_pos h2]
        rfl
      · rw [if_neg h2, if_neg h2]
        rfl
theorem quo_some (a b : Int) (h : ¬ b = 0) : ∃ q, spec_l1Quo.f a b = some q := by
  unfold spec_l1Quo.f
  rw [if_neg h]
  by_cases h1 : Int.tmod a b = 0
  · exact ⟨_, if_pos h1⟩
  · rw [if_neg h1]
    by_cases h2 : ((decide (a < 0)) != (decide (b < 0))) = true
    · exact ⟨_, if_pos h2⟩
    · exact ⟨_, if_neg h2⟩
theorem FnExactRemNum : ∀ (a0 : Int) (a1 : Int), ((Lit.int .i64 a0).wf = true) → ((Lit.int .i64 a1).wf = true) → ∃ k, laws_FnExactRemNum.f k a0 a1 = some true := by
  intro a0 a1 _ _
  refine ⟨5, ?_⟩
  have key : ∃ r, impl_RemNum.f 5 a0 a1 = some r ∧ spec_RemNum.f a0 a1 = some r := by
    unfold impl_RemNum.f impl_calculated__impl_RemNum_1.f spec_RemNum.f spec_l1Two.f spec_l1Num.f spec_l1In.f impl_NumFault.f impl_in.f
    simp only [impl_calculated__impl_RemNum_1.j0, impl_NumFault.f, impl_in.f, impl_RemNum_1.f, quo_eq]
    by_cases h1 : -1000000000 ≤ a0 <;> by_cases h2 : a0 ≤ 1000000000 <;> by_cases h3 : -1000000000 ≤ a1 <;> by_cases h4 : a1 ≤ 1000000000
    · by_cases h0 : a1 = 0
      · exact ⟨(7, 0), by simp [h1, h2, h3, h4, h0], by simp [h1, h2, h3, h4, h0]⟩
      · obtain ⟨q, hq⟩ := quo_some a0 a1 h0
        rw [hq]
        by_cases h5 : -1000000000 ≤ wrap64 (a0 - wrap64 (a1 * q)) <;> by_cases h6 : wrap64 (a0 - wrap64 (a1 * q)) ≤ 1000000000
        · exact ⟨(0, wrap64 (a0 - wrap64 (a1 * q))), by simp [h1, h2, h3, h4, h5, h6, h0], by simp [h1, h2, h3, h4, h5, h6, h0, spec_l1Of.f, spec_l1Num.f, spec_l1In.f]⟩
        all_goals exact ⟨(7, 0), by simp [h1, h2, h3, h4, h5, h6, h0], by simp [h1, h2, h3, h4, h5, h6, h0, spec_l1Of.f, spec_l1Num.f, spec_l1In.f]⟩
    all_goals exact ⟨(3, 0), by simp [h1, h2, h3, h4], by simp [h1, h2, h3, h4]⟩
  obtain ⟨r, hi, hs⟩ := key
  unfold laws_FnExactRemNum.f
  rw [hs, hi]
  simp [laws_eqIntResult.f]

end Go.Proofs.Ytdnegjmdahmlfaa.Pure
