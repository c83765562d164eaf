/- Proved: what the laws' marks of a list of a struct's values come to. Conditions: those in each head. -/
import Derived.Test.YteiokhfikbndbaaDoorMarkLib
import Derived.Test.YteiokhfikbndbaaDoorA5
namespace Go.Proofs.YteiokhfikbndbaaDoor.A
open Go.RowKit Go.Proofs.YteiokhfikbndbaaDoorW.PrintWords Go.Proofs.YteiokhfikbndbaaDoorW.PrintLast Go.Proofs.YteiokhfikbndbaaDoor.PL
set_option linter.unusedSimpArgs false

theorem rdMToken_at {xs : List S44} {i : Nat} (h : i < xs.length) : rd_T44 xs (i : Int) = xs[i] := by simp [rd_T44, h]
theorem rdMToken_set {xs : List S44} {i : Nat} (h : i < xs.length) (v : S44) : rd_T44 (xs.set i v) (i : Int) = v := by simp [rd_T44, h]
noncomputable def markOfToken (c : Int) : S44 := ⟨c, c + 1, mtxt (c + 1 + 1)⟩
theorem markTokenS_ev (xs : List S44) (hl : xs.length ≤ 1048576) (c : Int) (h0 : 0 ≤ c) (h1 : c + 3 * xs.length ≤ 1000000000000) : Ev (fun k => laws_markTokenS.f k xs c) (c + 3 * xs.length, markL markOfToken 3 xs.length c) := by
  refine Ev.congr (fun k => laws_markTokenS.f.eq_1 k _ _) (Ev.cast (mark_ev markOfToken 3 (fun k xs c i => laws_markTokenS.l0 k xs c i) (fun xs c i hi hl h0 h1 r hr => ?_) (fun k xs c => by rw [laws_markTokenS.l0.eq_2]; rw [if_neg (by omega)]) xs.length 0 xs c (by omega) hl h0 (by omega)) (by simp))
  refine Ev.step (fun k => laws_markTokenS.l0.eq_2 _ _ _ k) (Ev.ifp (by omega) (Ev.ifp (by omega) ?_))
  rw [wrap_id (x := c + 1) (by omega) (by omega), wrap_id (x := c + 1 + 1) (by omega) (by omega), wrap_id (x := c + 1 + 1 + 1) (by omega) (by omega), wrap_succ hi (by omega)]
  refine Ev.bind0 rfl (Ev.bind0 rfl (Ev.bind (mtxt_ev _ (by omega)) ?_))
  have e : c + 1 + 1 + 1 = c + ((3 : Nat) : Int) := by omega
  rw [e]
  simp only [Int.toNat_natCast, List.set_set, rdMToken_set hi]
  exact hr
end Go.Proofs.YteiokhfikbndbaaDoor.A
