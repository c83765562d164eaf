/- Proved: what a changed global leaves of globals without a fault. Conditions: those in each head. -/
import Derived.Test.YteoccmbphmiaaaaDoorGlobSemLib
import Derived.Test.YteoccmbphmiaaaaDoorDefLib
namespace Go.Proofs.YteoccmbphmiaaaaDoor.B
open Go.RowKit Go.Proofs.YteoccmbphmiaaaaDoorW.PrintWords Go.Proofs.YteoccmbphmiaaaaDoorW.PrintLast Go.Proofs.YteoccmbphmiaaaaDoor.PL
set_option linter.unusedSimpArgs false

/-- Another value at a place, with the next version: still without a fault. -/
theorem good_up {xs : List S33} (h : GoodG xs) (j : Nat) (hj : j < xs.length) (v : S26) (hv : valueM v.f0 v.f1 v.f2 = 0) (hn : xs[j].f2 < 99999) : upG xs j v = xs.set j ⟨xs[j].f0, v, xs[j].f2 + 1⟩ ∧ GoodG (upG xs j v) := by
  have ho := h.2.1 j hj
  have hb := inB_iff.mp ho.2.2
  have e : upG xs j v = xs.set j ⟨xs[j].f0, v, xs[j].f2 + 1⟩ := by
    unfold upG
    rw [rdGm hj, wrap_id (by omega) (by omega)]
  refine ⟨e, ?_⟩
  rw [e]
  have hname : ∀ i (hi : i < xs.length), ((xs.set j ⟨xs[j].f0, v, xs[j].f2 + 1⟩)[i]'(by rw [List.length_set]; exact hi)).f0 = xs[i].f0 := by
    intro i hi
    rw [List.getElem_set]
    split
    · rename_i z; subst z; rfl
    · rfl
  refine ⟨by rw [List.length_set]; exact h.1, fun i hi => ?_, fun i q hi hq hiq => ?_⟩
  · rw [List.length_set] at hi
    rw [List.getElem_set]
    split
    · exact ⟨ho.1, hv, inB_iff.mpr (by show 1 ≤ xs[j].f2 + 1 ∧ xs[j].f2 + 1 ≤ 99999; omega)⟩
    · exact h.2.1 i hi
  · rw [List.length_set] at hi hq
    rw [hname i hi, hname q hq]
    exact h.2.2 i q hi hq hiq
end Go.Proofs.YteoccmbphmiaaaaDoor.B
