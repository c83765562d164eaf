/- Proved: a list of tokens is like itself. Conditions: those in each head. -/
import Derived.Test.YteiokhfikbndbaaDoorPL
import Derived.Test.YteiokhfikbndbaaDoorA5
namespace Go.Proofs.YteiokhfikbndbaaDoor.A
open Go.RowKit Go.Proofs.YteiokhfikbndbaaDoorW.PrintWords Go.Proofs.YteiokhfikbndbaaDoorW.PrintLast
set_option linter.unusedSimpArgs false

theorem eqTokenS_ev (xs : List S44) (hl : xs.length ≤ 1048576) : Ev (fun k => laws_eqTokenS.f k xs xs) true := by
  refine Ev.congr (fun k => ?_) (PL.all_ev xs.length (fun k i => laws_eqTokenS.l0 k xs xs i) true (fun k i hi => by
    simp only [laws_eqTokenS.l0, laws_eqToken.f]
    rw [if_pos (by omega), if_pos (by omega), if_pos (by omega), if_pos trivial, if_pos trivial, if_pos trivial, Option.bind_some, if_pos rfl, PL.wrap_succ hi (by omega)]) (fun k => by simp only [laws_eqTokenS.l0]; rw [if_neg (by omega)]) xs.length 0 (by omega))
  unfold laws_eqTokenS.f
  rw [if_pos rfl]
  rfl
end Go.Proofs.YteiokhfikbndbaaDoor.A
