/- Proved: the pure statement behind the law FnExactSameData: whatever its arguments, the law's plain function answers true. Conditions: the arguments are well formed values of their types. -/
import Derived.Test.YtnlaigphajiijaaDatumLib
import Derived.Test.YtnlaigphajiijaaA3
namespace Go.Proofs.Ytnlaigphajiijaa.Pure
open Go.RowKit Go.Proofs.Ytnlaigphajiijaa.A Go.Proofs.YtnlaigphajiijaaW.PrintWords Go.Proofs.YtnlaigphajiijaaW.PrintLast
set_option linter.unusedSimpArgs false

/-- Both compare element by element. -/
theorem same_loop (xs ys : List S50) (hl : xs.length ≤ 1048576) (he : xs.length = ys.length) : ∀ d i : Nat, i + d = xs.length →
    ∃ r, Ev (fun k => impl_Datum.l0 k xs ys (xs.length : Int) (i : Int)) r ∧ Ev (fun k => spec_SameData.l0 k xs ys (i : Int)) r
  | 0, i, hd => ⟨true, Ev.step (f := fun _ => some true) (fun k => by simp only [impl_Datum.l0]; rw [if_neg (by omega)]) (Ev.now _),
      Ev.step (f := fun _ => some true) (fun k => by simp only [spec_SameData.l0]; rw [if_neg (by omega)]) (Ev.now _)⟩
  | d + 1, i, hd => by
    have hi : i < xs.length := by omega
    obtain ⟨r, h1, h2⟩ := same_loop xs ys hl he d (i + 1) (by omega)
    generalize hc : (!(((rd_T50 xs (i : Int)).f0) == ((rd_T50 ys (i : Int)).f0)) || (!(((rd_T50 xs (i : Int)).f1) == ((rd_T50 ys (i : Int)).f1)) || (!(((rd_T50 xs (i : Int)).f2) == ((rd_T50 ys (i : Int)).f2)) || (!((((rd_T50 xs (i : Int)).f3).toList) == (((rd_T50 ys (i : Int)).f3).toList)))))) = c
    cases c with
    | true =>
      refine ⟨false, Ev.step (f := fun _ => some false) (fun k => ?_) (Ev.now _), Ev.step (f := fun _ => some false) (fun k => ?_) (Ev.now _)⟩
      · simp only [impl_Datum.l0]
        rw [if_pos (by omega), if_pos (by omega), if_pos (by omega), if_pos (by omega), hc, if_pos rfl]
      · simp only [spec_SameData.l0]
        rw [if_pos (by omega), if_pos (by omega), if_pos (by omega), hc, if_pos rfl]
    | false =>
      refine ⟨r, Ev.step (fun k => ?_) h1, Ev.step (fun k => ?_) h2⟩
      · simp only [impl_Datum.l0]
        rw [if_pos (by omega), if_pos (by omega), if_pos (by omega), if_pos (by omega), hc, if_neg (by decide), PL.wrap_succ hi (by omega)]
      · simp only [spec_SameData.l0]
        rw [if_pos (by omega), if_pos (by omega), if_pos (by omega), hc, if_neg (by decide), PL.wrap_succ hi (by omega)]
theorem same_ev (xs ys : List S50) (hl : xs.length ≤ 1048576) : ∃ r, Ev (fun k => impl_SameData.f k xs ys) r ∧ Ev (fun k => spec_SameData.f k xs ys) r := by
  by_cases he : (xs.length : Int) = (ys.length : Int)
  · obtain ⟨r, h1, h2⟩ := same_loop xs ys hl (by omega) xs.length 0 (by omega)
    refine ⟨r, ?_, Ev.congr (fun k => by unfold spec_SameData.f; rw [if_pos he]; rfl) h2⟩
    unfold impl_SameData.f
    exact Ev.bind (f := fun _ t => some t) (Ev.congr (fun k => by unfold impl_Datum.f; rw [if_pos he]; rfl) h1) (Ev.now _)
  · refine ⟨false, ?_, Ev.congr (f := fun _ => some false) (fun k => by unfold spec_SameData.f; rw [if_neg he]) (Ev.now _)⟩
    unfold impl_SameData.f
    exact Ev.bind (f := fun _ t => some t) (Ev.congr (f := fun _ => some false) (fun k => by unfold impl_Datum.f; rw [if_neg he]) (Ev.now _)) (Ev.now _)
theorem FnExactSameData : ∀ (l0 : List S49) (l1 : List S49), (l0.length ≤ maxLen ∧ ∀ y ∈ l0, ok49 y) → (l1.length ≤ maxLen ∧ ∀ y ∈ l1, ok49 y) → ∃ k, laws_FnExactSameData.f k l0 l1 = some true := by
  intro l0 l1 h0 h1
  obtain ⟨r, hr, hr1, hr2⟩ := szDatumS_ev l0 h0.2 h0.1 1048576 (by omega) (by omega)
  refine Ev.rounds (r := true) ?_
  unfold laws_FnExactSameData.f
  refine Ev.bind hr ?_
  by_cases c : r < 0
  · exact Ev.congr (fun _ => by rw [if_pos c]) (Ev.now _)
  · refine Ev.congr (fun _ => by rw [if_neg c]) ?_
    obtain ⟨q, hq, hq1, hq2⟩ := szDatumS_ev l1 h1.2 h1.1 r (by omega) (by omega)
    refine Ev.bind hq ?_
    by_cases c2 : q < 0
    · exact Ev.congr (fun _ => by rw [if_pos c2]) (Ev.now _)
    · refine Ev.congr (fun _ => by rw [if_neg c2]) ?_
      have t0 := toDatumS_ev l0 (by omega)
      have t1 := toDatumS_ev l1 (by omega)
      obtain ⟨v, hi, hs⟩ := same_ev (l0.map convD) (l1.map convD) (by rw [List.length_map]; omega)
      refine Ev.bind t0 (Ev.bind t1 (Ev.bind hs (Ev.bind t0 (Ev.bind t1 (Ev.bind hi ?_)))))
      refine Ev.congr (fun _ => by rw [if_neg (by simp)]) ?_
      refine Ev.bind t0 (Ev.bind (eqDatumS_ev _ (by rw [List.length_map]; omega)) ?_)
      refine Ev.congr (fun _ => by rw [if_pos rfl]) ?_
      refine Ev.bind t1 (Ev.bind (eqDatumS_ev _ (by rw [List.length_map]; omega)) ?_)
      exact Ev.now _
end Go.Proofs.Ytnlaigphajiijaa.Pure
