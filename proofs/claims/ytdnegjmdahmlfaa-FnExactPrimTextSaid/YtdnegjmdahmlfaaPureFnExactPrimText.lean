/- Proved: the pure statement behind the law FnExactPrimText. Conditions: none beyond the statement's own. -/
import Derived.Test.YtdnegjmdahmlfaaPFnExactPrimTextx1
namespace Go.Proofs.Ytdnegjmdahmlfaa.Pure
open Go.RowKit Go.Proofs.Ytdnegjmdahmlfaa.PFnExactPrimText Go.Proofs.YtdnegjmdahmlfaaW.PrintWords Go.Proofs.YtdnegjmdahmlfaaW.PrintLast

theorem FnExactPrimText : laws_FnExactPrimText.Pure := by
  intro a0 _
  have e : impl_PrimText.f a0 = spec_PrimText.f a0 := by
    unfold impl_PrimText.f spec_PrimText.f impl_isPrim.f spec_l6Prim.f impl_in.f spec_l1In.f spec_l6Names.f impl_primNames.f
    rfl
  unfold laws_FnExactPrimText.f
  rw [e]
  have hs : ∃ r, spec_PrimText.f a0 = some r := by
    unfold spec_PrimText.f spec_l6Prim.f spec_l1In.f spec_l6Names.f
    by_cases h1 : 0 ≤ a0 <;> by_cases h2 : a0 ≤ 15
    · have h3 : a0 < 16 := by omega
      simp [h1, h2, h3]
    all_goals simp [h1, h2]
  obtain ⟨r, hr⟩ := hs
  rw [hr]
  simp [laws_eqTextResult.f]

end Go.Proofs.Ytdnegjmdahmlfaa.Pure
