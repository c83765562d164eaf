/- Proved: the laws' marks of a list of a struct's values are read back. Conditions: those in each head. -/
import Derived.Test.YtljaachpknphpaaMarkGlobalLib
import Derived.Test.YtljaachpknphpaaA6
namespace Go.Proofs.Ytljaachpknphpaa.A
open Go.RowKit Go.Proofs.YtljaachpknphpaaW.PrintWords Go.Proofs.YtljaachpknphpaaW.PrintLast Go.Proofs.Ytljaachpknphpaa.PL
set_option linter.unusedSimpArgs false

theorem heldGlobalS_ev (n : Nat) (hl : n ≤ 1048576) (c : Int) (h0 : 0 ≤ c) (h1 : c + 5 * n ≤ 1000000000000) : Ev (fun k => laws_heldGlobalS.f k (markL markOfGlobal 5 n c) c) (c + 5 * n) := by
  refine Ev.congr (fun k => laws_heldGlobalS.f.eq_1 k _ _) (Ev.cast (held_ev markOfGlobal 5 (fun k xs c i => laws_heldGlobalS.l0 k xs c i) (fun xs c i hi hl h0 h1 hx r hr => ?_) (fun k xs c => by rw [laws_heldGlobalS.l0.eq_2]; rw [if_neg (by omega)]) (markL markOfGlobal 5 n c) n 0 c (by rw [markL_length]; omega) (by rw [markL_length]; omega) h0 (by omega) rfl) (by simp))
  have e : c + 1 + 1 + 1 + 1 + 1 = c + ((5 : Nat) : Int) := by omega
  refine Ev.step (fun k => laws_heldGlobalS.l0.eq_2 _ _ _ k) (Ev.ifp (by omega) (Ev.ifp (by omega) ?_))
  rw [rdMGlobal_at hi, hx, wrap_id (x := c + 1) (by omega) (by omega), wrap_id (x := c + 1 + 1) (by omega) (by omega), wrap_id (x := c + 1 + 1 + 1) (by omega) (by omega), wrap_id (x := c + 1 + 1 + 1 + 1) (by omega) (by omega), wrap_id (x := c + 1 + 1 + 1 + 1 + 1) (by omega) (by omega), wrap_succ hi (by omega)]
  refine Ev.bind (mtxt_ev _ (by omega)) (Ev.ifp rfl (Ev.ifp rfl (Ev.ifp rfl (Ev.bind (mtxt_ev _ (by omega)) (Ev.ifp rfl (Ev.ifp rfl ?_))))))
  rw [e]
  exact hr
end Go.Proofs.Ytljaachpknphpaa.A
