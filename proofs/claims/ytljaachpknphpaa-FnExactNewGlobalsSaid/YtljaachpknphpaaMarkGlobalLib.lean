/- Proved: what the laws' marks of a list of a struct's values come to. Conditions: those in each head. -/
import Derived.Test.YtljaachpknphpaaMarkLib
import Derived.Test.YtljaachpknphpaaA5
namespace Go.Proofs.Ytljaachpknphpaa.A
open Go.RowKit Go.Proofs.YtljaachpknphpaaW.PrintWords Go.Proofs.YtljaachpknphpaaW.PrintLast Go.Proofs.Ytljaachpknphpaa.PL
set_option linter.unusedSimpArgs false

theorem rdMGlobal_at {xs : List S91} {i : Nat} (h : i < xs.length) : rd_T91 xs (i : Int) = xs[i] := by simp [rd_T91, h]
theorem rdMGlobal_set {xs : List S91} {i : Nat} (h : i < xs.length) (v : S91) : rd_T91 (xs.set i v) (i : Int) = v := by simp [rd_T91, h]
noncomputable def markOfGlobal (c : Int) : S91 := ⟨mtxt (c), ⟨c + 1, c + 1 + 1, mtxt (c + 1 + 1 + 1)⟩, c + 1 + 1 + 1 + 1⟩
theorem markGlobalS_ev (xs : List S91) (hl : xs.length ≤ 1048576) (c : Int) (h0 : 0 ≤ c) (h1 : c + 5 * xs.length ≤ 1000000000000) : Ev (fun k => laws_markGlobalS.f k xs c) (c + 5 * xs.length, markL markOfGlobal 5 xs.length c) := by
  refine Ev.congr (fun k => laws_markGlobalS.f.eq_1 k _ _) (Ev.cast (mark_ev markOfGlobal 5 (fun k xs c i => laws_markGlobalS.l0 k xs c i) (fun xs c i hi hl h0 h1 r hr => ?_) (fun k xs c => by rw [laws_markGlobalS.l0.eq_2]; rw [if_neg (by omega)]) xs.length 0 xs c (by omega) hl h0 (by omega)) (by simp))
  refine Ev.step (fun k => laws_markGlobalS.l0.eq_2 _ _ _ k) (Ev.ifp (by omega) ?_)
  rw [wrap_id (x := c + 1) (by omega) (by omega), wrap_id (x := c + 1 + 1) (by omega) (by omega), wrap_id (x := c + 1 + 1 + 1) (by omega) (by omega), wrap_id (x := c + 1 + 1 + 1 + 1) (by omega) (by omega), wrap_id (x := c + 1 + 1 + 1 + 1 + 1) (by omega) (by omega), wrap_succ hi (by omega)]
  refine Ev.bind (mtxt_ev _ (by omega)) (Ev.ifp (by omega) (Ev.bind0 rfl (Ev.bind0 rfl (Ev.bind0 rfl (Ev.bind (mtxt_ev _ (by omega)) (Ev.bind0 rfl ?_))))))
  have e : c + 1 + 1 + 1 + 1 + 1 = c + ((5 : Nat) : Int) := by omega
  rw [e]
  simp only [Int.toNat_natCast, List.set_set, rdMGlobal_set hi]
  exact hr
end Go.Proofs.Ytljaachpknphpaa.A
