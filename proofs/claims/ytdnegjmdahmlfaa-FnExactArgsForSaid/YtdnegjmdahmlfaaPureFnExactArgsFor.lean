/- Proved: the pure statement behind the law FnExactArgsFor. Conditions: none beyond the statement's own. -/
import Derived.Test.YtdnegjmdahmlfaaPFnExactArgsForx2
namespace Go.Proofs.Ytdnegjmdahmlfaa.Pure
open Go.RowKit Go.Proofs.Ytdnegjmdahmlfaa.PFnExactArgsFor Go.Proofs.YtdnegjmdahmlfaaW.PrintWords Go.Proofs.YtdnegjmdahmlfaaW.PrintLast

theorem takes_eq (a : Int) : impl_argsFor.f 20 a = spec_l6Takes.f 20 a := by
  unfold impl_argsFor.f spec_l6Takes.f
  simp only [impl_argsFor.j0, spec_l6Takes.j0]
theorem takes_some (a : Int) : ∃ x y, spec_l6Takes.f 20 a = some (x, y) := by
  unfold spec_l6Takes.f
  simp only [spec_l6Takes.j0]
  by_cases h1 : a ≤ 7 <;> by_cases h2 : a = 12 <;> by_cases h3 : a = 14 <;> simp [h1, h2, h3]
theorem same_eq (a : Int) : impl_ArgsFor.f 20 a = spec_ArgsFor.f 20 a := by
  unfold spec_ArgsFor.f spec_l6Prim.f spec_l1In.f impl_ArgsFor.f impl_isPrim.f impl_in.f
  rw [takes_eq]
theorem short (a : Int) : spec_ArgsFor.f 20 a = some (3, []) ∨ ∃ x y, spec_ArgsFor.f 20 a = some (0, [x, y]) := by
  unfold spec_ArgsFor.f spec_l6Prim.f spec_l1In.f
  obtain ⟨x, y, hxy⟩ := takes_some a
  rw [hxy]
  by_cases h1 : 0 ≤ a <;> by_cases h2 : a ≤ 15
  · exact .inr ⟨x, y, by simp [h1, h2]⟩
  all_goals exact .inl (by simp [h1, h2])
theorem FnExactArgsFor : laws_FnExactArgsFor.Pure := by
  intro a0 _
  refine ⟨20, ?_⟩
  unfold laws_FnExactArgsFor.f
  rw [same_eq]
  rcases short a0 with h | ⟨x, y, h⟩ <;> rw [h]
  · rfl
  · simp [laws_eqIntsResult.f, laws_eqInt64S.f, laws_eqInt64S.l0, laws_markIntsResult.f, laws_markInt64S.f, laws_markInt64S.l0, laws_heldIntsResult.f, laws_heldInt64S.f, laws_heldInt64S.l0, wrap64, rd]

end Go.Proofs.Ytdnegjmdahmlfaa.Pure
