/- Proved: the pure statement behind the law FnExactParseNum: whatever its arguments, the law's plain function answers true. Conditions: the arguments are well formed values of their types. -/
import Derived.Test.YteomhecieedcnaaDoorParseLib2
import Derived.Test.YteomhecieedcnaaDoorA3
import Derived.Test.YteomhecieedcnaaDoorA2
namespace Go.Proofs.YteomhecieedcnaaDoor.Pure
open Go.RowKit Go.Proofs.YteomhecieedcnaaDoor.A Go.Proofs.YteomhecieedcnaaDoorW.PrintWords Go.Proofs.YteomhecieedcnaaDoorW.PrintLast Go.Proofs.YteomhecieedcnaaDoor.PL

theorem FnExactParseNum : ∀ (a0 : ByteArray), (a0.size ≤ maxLen) → ∃ k, laws_FnExactParseNum.f k a0 = some true := by
  intro a0 _
  refine Ev.rounds (r := true) (Ev.congr (fun k => laws_FnExactParseNum.f.eq_1 k _) (Ev.iff (fun _ => Ev.now _) (fun c => ?_)))
  have hs : a0.size ≤ 1048576 := by omega
  have eqr : ∀ x : Int × Int, laws_eqIntResult.f x.1 x.2 x.1 x.2 = some true := fun x => by unfold laws_eqIntResult.f; rw [if_pos rfl, if_pos rfl]
  have both : ∃ x : Int × Int, Ev (fun k => spec_ParseNum.f k a0) x ∧ impl_ParseNum.f a0 = some x := by
    by_cases h : isDig a0
    · obtain ⟨n, hn, e⟩ := h
      exact ⟨(0, n), (specParseNum_ev a0 hs).1 n hn e, (implParseNum_eq a0 hs).1 n hn e⟩
    · exact ⟨(5, 0), (specParseNum_ev a0 hs).2 h, (implParseNum_eq a0 hs).2 h⟩
  obtain ⟨x, h1, h2⟩ := both
  exact Ev.bind h1 (Ev.bind0 h2 (Ev.bind0 (eqr x) (Ev.ifp rfl (Ev.now _))))
end Go.Proofs.YteomhecieedcnaaDoor.Pure
