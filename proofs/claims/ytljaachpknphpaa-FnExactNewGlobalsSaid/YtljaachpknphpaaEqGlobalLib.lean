/- Proved: the laws' comparison of a list of globals with itself. Conditions: those in each head. -/
import Derived.Test.YtljaachpknphpaaPL
import Derived.Test.YtljaachpknphpaaA5
import Derived.Test.YtljaachpknphpaaA4
namespace Go.Proofs.Ytljaachpknphpaa.A
open Go.RowKit Go.Proofs.YtljaachpknphpaaW.PrintWords Go.Proofs.YtljaachpknphpaaW.PrintLast
set_option linter.unusedSimpArgs false

theorem eqGValue_self (K M : Int) (s : ByteArray) : laws_eqValue.f K M s K M s = some true := by
  unfold laws_eqValue.f
  rw [if_pos rfl, if_pos rfl, if_pos rfl]
theorem eqGlobal_self (n : ByteArray) (K M : Int) (s : ByteArray) (v : Int) : laws_eqGlobal.f n K M s v n K M s v = some true := by
  unfold laws_eqGlobal.f
  rw [if_pos rfl, eqGValue_self, Option.bind_some, if_pos rfl, if_pos rfl]
theorem eqGlobalS_ev (xs : List S91) (hl : xs.length ≤ 1048576) : Ev (fun k => laws_eqGlobalS.f k xs xs) true := by
  refine Ev.congr (fun k => ?_) (PL.all_ev xs.length (fun k i => laws_eqGlobalS.l0 k xs xs i) true (fun k i hi => by
    simp only [laws_eqGlobalS.l0]
    rw [if_pos (by omega), if_pos (by omega), if_pos (by omega), eqGlobal_self, Option.bind_some, if_pos rfl, PL.wrap_succ hi (by omega)]) (fun k => by simp only [laws_eqGlobalS.l0]; rw [if_neg (by omega)]) xs.length 0 (by omega))
  unfold laws_eqGlobalS.f
  rw [if_pos rfl]
  rfl
end Go.Proofs.Ytljaachpknphpaa.A
