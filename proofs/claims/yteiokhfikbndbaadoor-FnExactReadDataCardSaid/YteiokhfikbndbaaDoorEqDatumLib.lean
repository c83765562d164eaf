/- Proved: a list of data is like itself. Conditions: those in each head. -/
import Derived.Test.YteiokhfikbndbaaDoorPL
import Derived.Test.YteiokhfikbndbaaDoorR12
namespace Go.Proofs.YteiokhfikbndbaaDoor.R
open Go.RowKit Go.Proofs.YteiokhfikbndbaaDoorW.PrintWords Go.Proofs.YteiokhfikbndbaaDoorW.PrintLast
set_option linter.unusedSimpArgs false

theorem eqDatumS_ev (xs : List S80) (hl : xs.length ≤ 1048576) : Ev (fun k => laws_eqDatumS.f k xs xs) true := by
  refine Ev.congr (fun k => ?_) (PL.all_ev xs.length (fun k i => laws_eqDatumS.l0 k xs xs i) true (fun k i hi => by
    simp only [laws_eqDatumS.l0, laws_eqDatum.f]
    rw [if_pos (by omega), if_pos (by omega), if_pos (by omega), if_pos trivial, if_pos trivial, if_pos trivial, if_pos trivial, Option.bind_some, if_pos rfl, PL.wrap_succ hi (by omega)]) (fun k => by simp only [laws_eqDatumS.l0]; rw [if_neg (by omega)]) xs.length 0 (by omega))
  unfold laws_eqDatumS.f
  rw [if_pos rfl]
  rfl
end Go.Proofs.YteiokhfikbndbaaDoor.R
