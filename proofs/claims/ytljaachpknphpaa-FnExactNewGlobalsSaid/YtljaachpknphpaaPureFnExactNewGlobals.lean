/- Proved: the pure statement behind the law FnExactNewGlobals: whatever its arguments, the law's plain function answers true. Conditions: the arguments are well formed values of their types. -/
import Derived.Test.YtljaachpknphpaaNewGLib
import Derived.Test.YtljaachpknphpaaEqGlobalLib
import Derived.Test.YtljaachpknphpaaMarkGlobal2Lib
import Derived.Test.YtljaachpknphpaaA7
import Derived.Test.YtljaachpknphpaaA5
namespace Go.Proofs.Ytljaachpknphpaa.Pure
open Go.RowKit Go.Proofs.Ytljaachpknphpaa.A Go.Proofs.YtljaachpknphpaaW.PrintWords Go.Proofs.YtljaachpknphpaaW.PrintLast Go.Proofs.Ytljaachpknphpaa.PL

theorem FnExactNewGlobals : ∀ (a0 : Int), ((Lit.int .i64 a0).wf = true) → ∃ k, laws_FnExactNewGlobals.f k a0 = some true := by
  intro a0 _
  have hs := specNew_ev a0
  have hi := implNew_ev a0
  have hl := newR_len a0
  generalize newR a0 = R at hs hi hl
  obtain ⟨c, l⟩ := R
  have hl' : l.length ≤ 16 := hl
  have e1 : Ev (fun k => laws_eqGlobalsResult.f k c l c l) true := Ev.congr (fun k => laws_eqGlobalsResult.f.eq_1 k _ _ _ _) (Ev.ifp rfl (Ev.bind (eqGlobalS_ev l (by omega)) (Ev.ifp rfl (Ev.now _))))
  have m1 : Ev (fun k => laws_markGlobalsResult.f k c l 1) (1 + 5 * (l.length : Int), markL markOfGlobal 5 l.length 1) := Ev.congr (fun k => laws_markGlobalsResult.f.eq_1 k _ _ _) (Ev.bind (markGlobalS_ev l (by omega) 1 (by omega) (by omega)) (Ev.now _))
  have m2 : Ev (fun k => laws_heldGlobalsResult.f k c (markL markOfGlobal 5 l.length 1) 1) (1 + 5 * (l.length : Int)) := Ev.congr (fun k => laws_heldGlobalsResult.f.eq_1 k _ _ _) (Ev.bind (heldGlobalS_ev l.length (by omega) 1 (by omega) (by omega)) (Ev.ifn (by omega) (Ev.now _)))
  refine Ev.rounds (r := true) ?_
  refine Ev.congr (fun k => laws_FnExactNewGlobals.f.eq_1 k _ ) ?_
  refine Ev.bind hs ?_
  refine Ev.bind hi ?_
  refine Ev.bind e1 ?_
  refine Ev.ifp (by first | rfl | assumption | omega | (dsimp only; omega)) ?_
  refine Ev.step (fun k => laws_FnExactNewGlobals.j0.eq_2 _ _ _ _ _ k) ?_
  refine Ev.bind m1 ?_
  refine Ev.bind m2 ?_
  refine Ev.ifn (by first | decide | omega | (dsimp only; omega) | simp) ?_
  refine Ev.step (fun k => laws_FnExactNewGlobals.j1.eq_2 _ _ _ _ _ _ _ k) ?_
  refine Ev.ifp (by first | rfl | assumption | omega | (dsimp only; omega)) ?_
  refine Ev.step (fun k => laws_FnExactNewGlobals.j2.eq_2 _ _ _ _ _ _ k) ?_
  refine Ev.bind hi ?_
  refine Ev.bind e1 ?_
  refine Ev.ifp (by first | rfl | assumption | omega | (dsimp only; omega)) ?_
  refine Ev.step (fun k => laws_FnExactNewGlobals.j3.eq_2 _ _ _ k) ?_
  refine Ev.bind m2 ?_
  refine Ev.ifn (by first | decide | omega | (dsimp only; omega) | simp) ?_
  refine Ev.ifp (by first | rfl | assumption | omega | (dsimp only; omega)) ?_
  exact Ev.now _
end Go.Proofs.Ytljaachpknphpaa.Pure
