/- Proved: what the laws' marks of data come to. Conditions: those in each head. -/
import Derived.Test.YteiokhfikbndbaaDoorMarkLib
import Derived.Test.YteiokhfikbndbaaDoorR12
namespace Go.Proofs.YteiokhfikbndbaaDoor.R
open Go.RowKit Go.Proofs.YteiokhfikbndbaaDoorW.PrintWords Go.Proofs.YteiokhfikbndbaaDoorW.PrintLast Go.Proofs.YteiokhfikbndbaaDoor.PL
set_option linter.unusedSimpArgs false

theorem rdMD_at {xs : List S80} {i : Nat} (h : i < xs.length) : rd_T80 xs (i : Int) = xs[i] := by simp [rd_T80, h]
theorem rdMD_set {xs : List S80} {i : Nat} (h : i < xs.length) (v : S80) : rd_T80 (xs.set i v) (i : Int) = v := by simp [rd_T80, h]
noncomputable def markD (c : Int) : S80 := ⟨c, c + 1, c + 1 + 1, mtxt (c + 1 + 1 + 1)⟩
theorem markDatumS_ev (xs : List S80) (hl : xs.length ≤ 1048576) (c : Int) (h0 : 0 ≤ c) (h1 : c + 4 * xs.length ≤ 1000000000000) : Ev (fun k => laws_markDatumS.f k xs c) (c + 4 * xs.length, markL markD 4 xs.length c) := by
  refine Ev.congr (fun k => laws_markDatumS.f.eq_1 k _ _) (Ev.cast (mark_ev markD 4 (fun k xs c i => laws_markDatumS.l0 k xs c i) (fun xs c i hi hl h0 h1 r hr => ?_) (fun k xs c => by rw [laws_markDatumS.l0.eq_2]; rw [if_neg (by omega)]) xs.length 0 xs c (by omega) hl h0 (by omega)) (by simp))
  refine Ev.step (fun k => laws_markDatumS.l0.eq_2 _ _ _ k) (Ev.ifp (by omega) (Ev.ifp (by omega) (Ev.bind0 rfl (Ev.bind0 rfl (Ev.bind0 rfl ?_)))))
  rw [wrap_id (x := c + 1) (by omega) (by omega), wrap_id (x := c + 1 + 1) (by omega) (by omega), wrap_id (x := c + 1 + 1 + 1) (by omega) (by omega), wrap_id (x := c + 1 + 1 + 1 + 1) (by omega) (by omega)]
  refine Ev.bind (mtxt_ev _ (by omega)) ?_
  have e : c + 1 + 1 + 1 + 1 = c + ((4 : Nat) : Int) := by omega
  rw [wrap_succ hi (by omega), e]
  simp only [Int.toNat_natCast, List.set_set, rdMD_set hi]
  exact hr
end Go.Proofs.YteiokhfikbndbaaDoor.R
