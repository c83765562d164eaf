/- Proved: the laws' marks of data are read back. Conditions: those in each head. -/
import Derived.Test.YteiokhfikbndbaaDoorMarkDatumLib
import Derived.Test.YteiokhfikbndbaaDoorR13
namespace Go.Proofs.YteiokhfikbndbaaDoor.R
open Go.RowKit Go.Proofs.YteiokhfikbndbaaDoorW.PrintWords Go.Proofs.YteiokhfikbndbaaDoorW.PrintLast Go.Proofs.YteiokhfikbndbaaDoor.PL
set_option linter.unusedSimpArgs false

theorem heldDatumS_ev (n : Nat) (hl : n ≤ 1048576) (c : Int) (h0 : 0 ≤ c) (h1 : c + 4 * n ≤ 1000000000000) : Ev (fun k => laws_heldDatumS.f k (markL markD 4 n c) c) (c + 4 * n) := by
  refine Ev.congr (fun k => laws_heldDatumS.f.eq_1 k _ _) (Ev.cast (held_ev markD 4 (fun k xs c i => laws_heldDatumS.l0 k xs c i) (fun xs c i hi hl h0 h1 hx r hr => ?_) (fun k xs c => by rw [laws_heldDatumS.l0.eq_2]; rw [if_neg (by omega)]) (markL markD 4 n c) n 0 c (by rw [markL_length]; omega) (by rw [markL_length]; omega) h0 (by omega) rfl) (by simp))
  have e : c + 1 + 1 + 1 + 1 = c + ((4 : Nat) : Int) := by omega
  refine Ev.step (fun k => laws_heldDatumS.l0.eq_2 _ _ _ k) (Ev.ifp (by omega) (Ev.ifp (by omega) ?_))
  rw [rdMD_at hi, hx, wrap_id (x := c + 1) (by omega) (by omega), wrap_id (x := c + 1 + 1) (by omega) (by omega), wrap_id (x := c + 1 + 1 + 1) (by omega) (by omega), wrap_id (x := c + 1 + 1 + 1 + 1) (by omega) (by omega)]
  refine Ev.ifp rfl (Ev.ifp rfl (Ev.ifp rfl (Ev.bind (mtxt_ev _ (by omega)) (Ev.ifp rfl ?_))))
  rw [wrap_succ hi (by omega), e]
  exact hr
end Go.Proofs.YteiokhfikbndbaaDoor.R
