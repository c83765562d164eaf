/- Proved: the pure statement behind the law FnExactSpotOf: whatever its arguments, the law's plain function answers true. Conditions: the arguments are well formed values of their types. -/
import Derived.Test.YteiokhfikbndbaaDoorLexLib
import Derived.Test.YteiokhfikbndbaaDoorA8
namespace Go.Proofs.YteiokhfikbndbaaDoor.Pure
open Go.RowKit Go.Proofs.YteiokhfikbndbaaDoor.A Go.Proofs.YteiokhfikbndbaaDoorW.PrintWords Go.Proofs.YteiokhfikbndbaaDoorW.PrintLast Go.Proofs.YteiokhfikbndbaaDoor.PL

theorem FnExactSpotOf : ∀ (a0 : ByteArray), (a0.size ≤ maxLen) → ∃ k, laws_FnExactSpotOf.f k a0 = some true := by
  intro a0 _
  have both : ∃ x : Int × Int, Ev (fun k => spec_SpotOf.f k a0) x ∧ Ev (fun k => impl_SpotOf.f k a0) x := by
    have hi := implTokensOf_ev a0
    have hsp := specTokensOf_ev a0
    generalize toksOf a0 = R at hi hsp
    by_cases c : R.1 = 0
    · exact ⟨_, Ev.congr (fun k => spec_SpotOf.f.eq_1 k _) (Ev.bind hsp (Ev.ifp c (Ev.now _))), Ev.congr (fun k => impl_SpotOf.f.eq_1 k _) (Ev.bind hi (Ev.ifp c (Ev.now _)))⟩
    · exact ⟨_, Ev.congr (fun k => spec_SpotOf.f.eq_1 k _) (Ev.bind hsp (Ev.ifn c (Ev.now _))), Ev.congr (fun k => impl_SpotOf.f.eq_1 k _) (Ev.bind hi (Ev.ifn c (Ev.now _)))⟩
  obtain ⟨x, h1, h2⟩ := both
  refine Ev.rounds (r := true) (Ev.congr (fun k => laws_FnExactSpotOf.f.eq_1 k _) (Ev.iff (fun _ => Ev.now _) (fun c => Ev.bind h1 (Ev.bind h2 (Ev.bind0 (a := true) (by unfold laws_eqIntResult.f; rw [if_pos rfl, if_pos rfl]) (Ev.ifp rfl (Ev.now _)))))))
end Go.Proofs.YteiokhfikbndbaaDoor.Pure
