/- Proved: the pure statement behind the law FnExactNumText: whatever its arguments, the law's plain function answers true. Conditions: the arguments are well formed values of their types. -/
import Derived.Test.YthjfdohcdkpdnaaDoorDigLib
import Derived.Test.YthjfdohcdkpdnaaDoorN2
import Derived.Test.YthjfdohcdkpdnaaDoorN1
namespace Go.Proofs.YthjfdohcdkpdnaaDoor.Pure
open Go.RowKit Go.Proofs.YthjfdohcdkpdnaaDoor.N Go.Proofs.YthjfdohcdkpdnaaDoorW.PrintWords Go.Proofs.YthjfdohcdkpdnaaDoorW.PrintLast Go.Proofs.YthjfdohcdkpdnaaDoor.PL

theorem FnExactNumText : ∀ (a0 : Int), ((Lit.int .i64 a0).wf = true) → ∃ k, laws_FnExactNumText.f k a0 = some true := by
  intro a0 _
  refine Ev.rounds (r := true) (Ev.congr (fun k => laws_FnExactNumText.f.eq_1 k _) ?_)
  by_cases c : numB a0 = true
  · have hs : Ev (fun k => spec_NumText.f k a0) (0, dig a0) := Ev.congr (fun k => spec_NumText.f.eq_1 k _) (Ev.bind0 (l1Num_eq a0) (Ev.ifp c (Ev.bind (digits_ev c) (Ev.now _))))
    have hi : impl_NumText.f a0 = some (0, dig a0) := by
      unfold impl_NumText.f
      rw [NumFault_eq, Option.bind_some, if_pos (numM_0.mpr c), dec_eq c, Option.bind_some]
    exact Ev.bind hs (Ev.bind0 hi (Ev.bind0 (a := true) (by unfold laws_eqTextResult.f; rw [if_pos rfl, if_pos rfl]) (Ev.ifp rfl (Ev.now _))))
  · have hs : Ev (fun k => spec_NumText.f k a0) (3, ⟨#[]⟩) := Ev.congr (fun k => spec_NumText.f.eq_1 k _) (Ev.bind0 (l1Num_eq a0) (Ev.ifn c (Ev.now _)))
    have hi : impl_NumText.f a0 = some (3, ⟨#[]⟩) := by
      unfold impl_NumText.f
      rw [NumFault_eq, Option.bind_some, if_neg (fun h => c (numM_0.mp h))]
      unfold numM
      rw [if_neg c]
    exact Ev.bind hs (Ev.bind0 hi (Ev.bind0 (a := true) (by unfold laws_eqTextResult.f; rw [if_pos rfl, if_pos rfl]) (Ev.ifp rfl (Ev.now _))))
end Go.Proofs.YthjfdohcdkpdnaaDoor.Pure
