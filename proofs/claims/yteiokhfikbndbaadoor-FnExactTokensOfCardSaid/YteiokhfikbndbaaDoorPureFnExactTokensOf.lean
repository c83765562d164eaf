/- Proved: the pure statement behind the law FnExactTokensOf: whatever its arguments, the law's plain function answers true. Conditions: the arguments are well formed values of their types. -/
import Derived.Test.YteiokhfikbndbaaDoorLexLib
import Derived.Test.YteiokhfikbndbaaDoorEqTokenLib
import Derived.Test.YteiokhfikbndbaaDoorMarkToken2Lib
import Derived.Test.YteiokhfikbndbaaDoorA7
import Derived.Test.YteiokhfikbndbaaDoorA5
import Derived.Test.YteiokhfikbndbaaDoorA6
namespace Go.Proofs.YteiokhfikbndbaaDoor.Pure
open Go.RowKit Go.Proofs.YteiokhfikbndbaaDoor.A Go.Proofs.YteiokhfikbndbaaDoorW.PrintWords Go.Proofs.YteiokhfikbndbaaDoorW.PrintLast Go.Proofs.YteiokhfikbndbaaDoor.PL

theorem FnExactTokensOf : ∀ (a0 : ByteArray), (a0.size ≤ maxLen) → ∃ k, laws_FnExactTokensOf.f k a0 = some true := by
  intro a0 _
  have hi := implTokensOf_ev a0
  have hsp := specTokensOf_ev a0
  have hlen := toksOf_len a0
  generalize toksOf a0 = R at hi hsp hlen
  obtain ⟨c, at', l⟩ := R
  have hlen' : l.length ≤ 120 := hlen
  have e1 : Ev (fun k => laws_eqTokensResult.f k c at' l c at' l) true := Ev.congr (fun k => laws_eqTokensResult.f.eq_1 k _ _ _ _ _ _) (Ev.ifp rfl (Ev.ifp rfl (Ev.bind (eqTokenS_ev l (by omega)) (Ev.ifp rfl (Ev.now _)))))
  have m1 : Ev (fun k => laws_markTokensResult.f k c at' l 1) (1 + 3 * (l.length : Int), markL markOfToken 3 l.length 1) := Ev.congr (fun k => laws_markTokensResult.f.eq_1 k _ _ _ _) (Ev.bind (markTokenS_ev l (by omega) 1 (by omega) (by omega)) (Ev.now _))
  have m2 : Ev (fun k => laws_heldTokensResult.f k c at' (markL markOfToken 3 l.length 1) 1) (1 + 3 * (l.length : Int)) := Ev.congr (fun k => laws_heldTokensResult.f.eq_1 k _ _ _ _) (Ev.bind (heldTokenS_ev l.length (by omega) 1 (by omega) (by omega)) (Ev.ifn (by omega) (Ev.now _)))
  refine Ev.rounds (r := true) ?_
  refine Ev.congr (fun k => laws_FnExactTokensOf.f.eq_1 k _ ) ?_
  refine Ev.iff (fun _ => Ev.now _) (fun _ => ?_)
  refine Ev.step (fun k => laws_FnExactTokensOf.j0.eq_2 _ k) ?_
  refine Ev.bind hsp ?_
  refine Ev.bind hi ?_
  refine Ev.bind e1 ?_
  refine Ev.ifp (by first | rfl | assumption | omega | (dsimp only; omega)) ?_
  refine Ev.step (fun k => laws_FnExactTokensOf.j1.eq_2 _ _ _ _ _ _ _ k) ?_
  refine Ev.bind m1 ?_
  refine Ev.bind m2 ?_
  refine Ev.ifn (by first | decide | omega | (dsimp only; omega) | simp) ?_
  refine Ev.step (fun k => laws_FnExactTokensOf.j2.eq_2 _ _ _ _ _ _ _ _ _ k) ?_
  refine Ev.ifp (by first | rfl | assumption | omega | (dsimp only; omega)) ?_
  refine Ev.step (fun k => laws_FnExactTokensOf.j3.eq_2 _ _ _ _ _ _ _ _ k) ?_
  refine Ev.bind hi ?_
  refine Ev.bind e1 ?_
  refine Ev.ifp (by first | rfl | assumption | omega | (dsimp only; omega)) ?_
  refine Ev.step (fun k => laws_FnExactTokensOf.j4.eq_2 _ _ _ _ k) ?_
  refine Ev.bind m2 ?_
  refine Ev.ifn (by first | decide | omega | (dsimp only; omega) | simp) ?_
  refine Ev.ifp (by first | rfl | assumption | omega | (dsimp only; omega)) ?_
  exact Ev.now _
end Go.Proofs.YteiokhfikbndbaaDoor.Pure
