/- Proved: what the laws' small helpers over lists of tokens come to. Conditions: those in each head. -/
import Derived.Test.YthjfdohcdkpdnaaDoorPL
import Derived.Test.YthjfdohcdkpdnaaDoorJ1
import Derived.Test.YthjfdohcdkpdnaaDoorJ3
import Derived.Test.YthjfdohcdkpdnaaDoorJ5
import Derived.Test.YthjfdohcdkpdnaaDoorJOk
import Derived.Test.YthjfdohcdkpdnaaDoorJ4
namespace Go.Proofs.YthjfdohcdkpdnaaDoor.J
open Go.RowKit Go.Proofs.YthjfdohcdkpdnaaDoorW.PrintWords Go.Proofs.YthjfdohcdkpdnaaDoorW.PrintLast
set_option linter.unusedSimpArgs false

theorem rdLT_at {xs : List S33} {i : Nat} (h : i < xs.length) : rd_T33 xs (i : Int) = xs[i] := by simp [rd_T33, h]
theorem rdT_at {xs : List S36} {i : Nat} (h : i < xs.length) : rd_T36 xs (i : Int) = xs[i] := by simp [rd_T36, h]
/-- A token of the laws as one of the program. -/
def convT (x : S33) : S36 := ⟨x.f0, x.f1, x.f2⟩
theorem szTokenS_ev (xs : List S33) (hx : ∀ y ∈ xs, ok33 y) (hl : xs.length ≤ maxLen) (left : Int) (h0 : 0 ≤ left) (h1 : left ≤ 1048576) :
    ∃ r, Ev (fun k => laws_szTokenS.f k xs left) r ∧ r ≤ left ∧ (r < 0 ∨ xs.length ≤ 1048576) := by
  unfold maxLen at hl
  have hw : wrap64 (left - (xs.length : Int)) = left - (xs.length : Int) := PL.wrap_id (by omega) (by omega)
  by_cases c : left - (xs.length : Int) < 0
  · refine ⟨-1, Ev.congr (f := fun _ => some (-1)) (fun k => ?_) (Ev.now _), by omega, .inl (by omega)⟩
    unfold laws_szTokenS.f
    rw [hw, if_pos c]
  · obtain ⟨r, hr, hr1⟩ := PL.sz_ev xs (fun k left i => laws_szTokenS.l0 k xs left i) (fun left i hi h0 h1 => by
      have hs := (hx xs[i] (List.getElem_mem hi)).2.2
      unfold maxLen at hs
      have hw : wrap64 (left - (xs[i].f2.size : Int)) = left - (xs[i].f2.size : Int) := PL.wrap_id (by omega) (by omega)
      refine ⟨left - (xs[i].f2.size : Int), by omega, ?_⟩
      by_cases c : left - (xs[i].f2.size : Int) < 0
      · refine .inl ⟨c, fun k => ?_⟩
        simp only [laws_szTokenS.l0, laws_szToken.f]
        rw [if_pos (by omega), if_pos (by omega), rdLT_at hi, hw, if_pos c]
        rfl
      · refine .inr ⟨by omega, fun k => ?_⟩
        simp only [laws_szTokenS.l0, laws_szToken.f]
        rw [if_pos (by omega), if_pos (by omega), rdLT_at hi, hw, if_neg c, Option.bind_some, if_neg c, PL.wrap_succ hi (by omega)])
      (fun k left => by simp only [laws_szTokenS.l0]; rw [if_neg (by omega)]) xs.length 0 (left - (xs.length : Int)) (by omega) (by omega) (by omega)
    refine ⟨r, Ev.congr (fun k => ?_) hr, by omega, .inr (by omega)⟩
    unfold laws_szTokenS.f
    rw [hw, if_neg c]
    rfl
theorem toTokenS_ev (xs : List S33) (hl : xs.length ≤ 1048576) : Ev (fun k => laws_toTokenS.f k xs) (xs.map convT) := by
  refine Ev.congr (fun k => ?_) (PL.to_ev xs convT z36 (fun k out i => laws_toTokenS.l0 k xs out i) (fun k out i hi ho => by
    simp only [laws_toTokenS.l0, laws_toToken.f]
    rw [if_pos (by omega), if_pos (by omega), Option.bind_some, if_pos (by omega), rdLT_at hi, PL.wrap_succ hi (by omega)]
    rfl) (fun k out ho => by simp only [laws_toTokenS.l0]; rw [if_neg (by omega)]))
  unfold laws_toTokenS.f
  rw [if_pos (by omega), if_pos (by omega)]
  rfl
theorem eqTokenS_ev (xs : List S36) (hl : xs.length ≤ 1048576) : Ev (fun k => laws_eqTokenS.f k xs xs) true := by
  refine Ev.congr (fun k => ?_) (PL.all_ev xs.length (fun k i => laws_eqTokenS.l0 k xs xs i) true (fun k i hi => by
    simp only [laws_eqTokenS.l0, laws_eqToken.f]
    rw [if_pos (by omega), if_pos (by omega), if_pos (by omega), if_pos trivial, if_pos trivial, if_pos trivial, Option.bind_some, if_pos rfl, PL.wrap_succ hi (by omega)]) (fun k => by simp only [laws_eqTokenS.l0]; rw [if_neg (by omega)]) xs.length 0 (by omega))
  unfold laws_eqTokenS.f
  rw [if_pos rfl]
  rfl
end Go.Proofs.YthjfdohcdkpdnaaDoor.J
