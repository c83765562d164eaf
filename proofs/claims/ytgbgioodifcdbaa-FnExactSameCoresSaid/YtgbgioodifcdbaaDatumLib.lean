/- Proved: what the laws' small helpers over lists of data come to. Conditions: those in each head. -/
import Derived.Test.YtgbgioodifcdbaaPL
import Derived.Test.YtgbgioodifcdbaaC2
import Derived.Test.YtgbgioodifcdbaaC4
import Derived.Test.YtgbgioodifcdbaaC5
import Derived.Test.YtgbgioodifcdbaaCOk
namespace Go.Proofs.Ytgbgioodifcdbaa.C
open Go.RowKit Go.Proofs.YtgbgioodifcdbaaW.PrintWords Go.Proofs.YtgbgioodifcdbaaW.PrintLast
set_option linter.unusedSimpArgs false

theorem rdL_at {xs : List S44} {i : Nat} (h : i < xs.length) : rd_T44 xs (i : Int) = xs[i] := by simp [rd_T44, h]
theorem rdD_at {xs : List S41} {i : Nat} (h : i < xs.length) : rd_T41 xs (i : Int) = xs[i] := by simp [rd_T41, h]
/-- A datum of the laws as one of the program. -/
def convD (x : S44) : S41 := ⟨x.f0, x.f1, x.f2, x.f3⟩
theorem szDatumS_ev (xs : List S44) (hx : ∀ y ∈ xs, ok44 y) (hl : xs.length ≤ maxLen) (left : Int) (h0 : 0 ≤ left) (h1 : left ≤ 1048576) :
    ∃ r, Ev (fun k => laws_szDatumS.f k xs left) r ∧ r ≤ left ∧ (r < 0 ∨ xs.length ≤ 1048576) := by
  unfold maxLen at hl
  have hw : wrap64 (left - (xs.length : Int)) = left - (xs.length : Int) := PL.wrap_id (by omega) (by omega)
  by_cases c : left - (xs.length : Int) < 0
  · refine ⟨-1, Ev.congr (f := fun _ => some (-1)) (fun k => ?_) (Ev.now _), by omega, .inl (by omega)⟩
    unfold laws_szDatumS.f
    rw [hw, if_pos c]
  · obtain ⟨r, hr, hr1⟩ := PL.sz_ev xs (fun k left i => laws_szDatumS.l0 k xs left i) (fun left i hi h0 h1 => by
      have hs := (hx xs[i] (List.getElem_mem hi)).2.2.2
      unfold maxLen at hs
      have hw : wrap64 (left - (xs[i].f3.size : Int)) = left - (xs[i].f3.size : Int) := PL.wrap_id (by omega) (by omega)
      refine ⟨left - (xs[i].f3.size : Int), by omega, ?_⟩
      by_cases c : left - (xs[i].f3.size : Int) < 0
      · refine .inl ⟨c, fun k => ?_⟩
        simp only [laws_szDatumS.l0, laws_szDatum.f]
        rw [if_pos (by omega), if_pos (by omega), rdL_at hi, hw, if_pos c]
        rfl
      · refine .inr ⟨by omega, fun k => ?_⟩
        simp only [laws_szDatumS.l0, laws_szDatum.f]
        rw [if_pos (by omega), if_pos (by omega), rdL_at hi, hw, if_neg c, Option.bind_some, if_neg c, PL.wrap_succ hi (by omega)])
      (fun k left => by simp only [laws_szDatumS.l0]; rw [if_neg (by omega)]) xs.length 0 (left - (xs.length : Int)) (by omega) (by omega) (by omega)
    refine ⟨r, Ev.congr (fun k => ?_) hr, by omega, .inr (by omega)⟩
    unfold laws_szDatumS.f
    rw [hw, if_neg c]
    rfl
theorem toDatumS_ev (xs : List S44) (hl : xs.length ≤ 1048576) : Ev (fun k => laws_toDatumS.f k xs) (xs.map convD) := by
  refine Ev.congr (fun k => ?_) (PL.to_ev xs convD z41 (fun k out i => laws_toDatumS.l0 k xs out i) (fun k out i hi ho => by
    simp only [laws_toDatumS.l0, laws_toDatum.f]
    rw [if_pos (by omega), if_pos (by omega), Option.bind_some, if_pos (by omega), rdL_at hi, PL.wrap_succ hi (by omega)]
    rfl) (fun k out ho => by simp only [laws_toDatumS.l0]; rw [if_neg (by omega)]))
  unfold laws_toDatumS.f
  rw [if_pos (by omega), if_pos (by omega)]
  rfl
theorem eqDatumS_ev (xs : List S41) (hl : xs.length ≤ 1048576) : Ev (fun k => laws_eqDatumS.f k xs xs) true := by
  refine Ev.congr (fun k => ?_) (PL.all_ev xs.length (fun k i => laws_eqDatumS.l0 k xs xs i) true (fun k i hi => by
    simp only [laws_eqDatumS.l0, laws_eqDatum.f]
    rw [if_pos (by omega), if_pos (by omega), if_pos (by omega), if_pos trivial, if_pos trivial, if_pos trivial, if_pos trivial, Option.bind_some, if_pos rfl, PL.wrap_succ hi (by omega)]) (fun k => by simp only [laws_eqDatumS.l0]; rw [if_neg (by omega)]) xs.length 0 (by omega))
  unfold laws_eqDatumS.f
  rw [if_pos rfl]
  rfl
end Go.Proofs.Ytgbgioodifcdbaa.C
