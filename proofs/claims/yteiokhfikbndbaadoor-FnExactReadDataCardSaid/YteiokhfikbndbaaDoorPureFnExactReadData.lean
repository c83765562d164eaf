/- Proved: the pure statement behind the law FnExactReadData: whatever its arguments, the law's plain function answers true. Conditions: the arguments are well formed values of their types. -/
import Derived.Test.YteiokhfikbndbaaDoorReadLib
import Derived.Test.YteiokhfikbndbaaDoorEqDatumLib
import Derived.Test.YteiokhfikbndbaaDoorMarkDatum2Lib
import Derived.Test.YteiokhfikbndbaaDoorR14
import Derived.Test.YteiokhfikbndbaaDoorR12
import Derived.Test.YteiokhfikbndbaaDoorR13
namespace Go.Proofs.YteiokhfikbndbaaDoor.Pure
open Go.RowKit Go.Proofs.YteiokhfikbndbaaDoor.R Go.Proofs.YteiokhfikbndbaaDoorW.PrintWords Go.Proofs.YteiokhfikbndbaaDoorW.PrintLast Go.Proofs.YteiokhfikbndbaaDoor.PL

theorem FnExactReadData : ∀ (a0 : ByteArray), (a0.size ≤ maxLen) → ∃ k, laws_FnExactReadData.f k a0 = some true := by
  intro a0 _
  have hi := implReadData_ev a0
  have hsp := specReadData_ev a0
  have hlen := readM_len a0
  generalize readM a0 = R at hi hsp hlen
  obtain ⟨c, at', l⟩ := R
  have hlen' : l.length ≤ 80 := hlen
  have e1 : Ev (fun k => laws_eqDataResult.f k c at' l c at' l) true := Ev.congr (fun k => laws_eqDataResult.f.eq_1 k _ _ _ _ _ _) (Ev.ifp rfl (Ev.ifp rfl (Ev.bind (eqDatumS_ev l (by omega)) (Ev.ifp rfl (Ev.now _)))))
  have m1 : Ev (fun k => laws_markDataResult.f k c at' l 1) (1 + 4 * (l.length : Int), markL markD 4 l.length 1) := Ev.congr (fun k => laws_markDataResult.f.eq_1 k _ _ _ _) (Ev.bind (markDatumS_ev l (by omega) 1 (by omega) (by omega)) (Ev.now _))
  have m2 : Ev (fun k => laws_heldDataResult.f k c at' (markL markD 4 l.length 1) 1) (1 + 4 * (l.length : Int)) := Ev.congr (fun k => laws_heldDataResult.f.eq_1 k _ _ _ _) (Ev.bind (heldDatumS_ev l.length (by omega) 1 (by omega) (by omega)) (Ev.ifn (by omega) (Ev.now _)))
  refine Ev.rounds (r := true) ?_
  refine Ev.congr (fun k => laws_FnExactReadData.f.eq_1 k _ ) ?_
  refine Ev.iff (fun _ => Ev.now _) (fun _ => ?_)
  refine Ev.step (fun k => laws_FnExactReadData.j0.eq_2 _ k) ?_
  refine Ev.bind hsp ?_
  refine Ev.bind hi ?_
  refine Ev.bind e1 ?_
  refine Ev.ifp (by first | rfl | assumption | omega | (dsimp only; omega)) ?_
  refine Ev.step (fun k => laws_FnExactReadData.j1.eq_2 _ _ _ _ _ _ _ k) ?_
  refine Ev.bind m1 ?_
  refine Ev.bind m2 ?_
  refine Ev.ifn (by first | decide | omega | (dsimp only; omega) | simp) ?_
  refine Ev.step (fun k => laws_FnExactReadData.j2.eq_2 _ _ _ _ _ _ _ _ _ k) ?_
  refine Ev.ifp (by first | rfl | assumption | omega | (dsimp only; omega)) ?_
  refine Ev.step (fun k => laws_FnExactReadData.j3.eq_2 _ _ _ _ _ _ _ _ k) ?_
  refine Ev.bind hi ?_
  refine Ev.bind e1 ?_
  refine Ev.ifp (by first | rfl | assumption | omega | (dsimp only; omega)) ?_
  refine Ev.step (fun k => laws_FnExactReadData.j4.eq_2 _ _ _ _ k) ?_
  refine Ev.bind m2 ?_
  refine Ev.ifn (by first | decide | omega | (dsimp only; omega) | simp) ?_
  refine Ev.ifp (by first | rfl | assumption | omega | (dsimp only; omega)) ?_
  exact Ev.now _
end Go.Proofs.YteiokhfikbndbaaDoor.Pure
