/- Proved: what the laws' small helpers over lists of instructions come to. Conditions: those in each head. -/
import Derived.Test.YtljaachpknphpaaPL2Lib
import Derived.Test.YtljaachpknphpaaDatumLib
import Derived.Test.YtljaachpknphpaaA2
import Derived.Test.YtljaachpknphpaaA4
import Derived.Test.YtljaachpknphpaaA6
import Derived.Test.YtljaachpknphpaaAOk
import Derived.Test.YtljaachpknphpaaA5
namespace Go.Proofs.Ytljaachpknphpaa.A
open Go.RowKit Go.Proofs.YtljaachpknphpaaW.PrintWords Go.Proofs.YtljaachpknphpaaW.PrintLast Go.Proofs.Ytljaachpknphpaa.PL
set_option linter.unusedSimpArgs false

theorem rdLO_at {xs : List S112} {i : Nat} (h : i < xs.length) : rd_T112 xs (i : Int) = xs[i] := by simp [rd_T112, h]
theorem rdO_at {xs : List S73} {i : Nat} (h : i < xs.length) : rd_T73 xs (i : Int) = xs[i] := by simp [rd_T73, h]
/-- An instruction of the laws as one of the program. -/
def convO (x : S112) : S73 := ⟨x.f0, x.f1, x.f2, x.f3, x.f4, x.f5, x.f6.map convD⟩
theorem szOp_ev (x : S112) (left : Int) (hx : ok112 x) (h0 : 0 ≤ left) (h1 : left ≤ 1048576) : ∃ r, Ev (fun k => laws_szOp.f k x.f0 x.f1 x.f2 x.f3 x.f4 x.f5 x.f6 left) r ∧ r ≤ left ∧ (r < 0 → r = -1) ∧ (r < 0 ∨ x.f6.length ≤ 1048576) := by
  have hn := hx.2.2.2.2.2.1
  have hd := hx.2.2.2.2.2.2
  unfold maxLen at hn
  have hw : wrap64 (left - (x.f5.size : Int)) = left - (x.f5.size : Int) := wrap_id (by omega) (by omega)
  by_cases c : left - (x.f5.size : Int) < 0
  · exact ⟨-1, Ev.congr (fun k => laws_szOp.f.eq_1 k _ _ _ _ _ _ _ _) (by rw [hw]; exact Ev.ifp c (Ev.now _)), by omega, fun _ => rfl, .inl (by omega)⟩
  · obtain ⟨q, hq, hq1, hq2⟩ := szDatumS_ev x.f6 hd.2 hd.1 (left - (x.f5.size : Int)) (by omega) (by omega)
    by_cases d : q < 0
    · exact ⟨-1, Ev.congr (fun k => laws_szOp.f.eq_1 k _ _ _ _ _ _ _ _) (by rw [hw]; exact Ev.ifn c (Ev.bind hq (Ev.ifp d (Ev.now _)))), by omega, fun _ => rfl, .inl (by omega)⟩
    · exact ⟨q, Ev.congr (fun k => laws_szOp.f.eq_1 k _ _ _ _ _ _ _ _) (by rw [hw]; exact Ev.ifn c (Ev.bind hq (Ev.ifn d (Ev.now _)))), by omega, fun h => absurd h d, hq2⟩
theorem szOpS_ev (xs : List S112) (hx : ∀ y ∈ xs, ok112 y) (hl : xs.length ≤ maxLen) (left : Int) (h0 : 0 ≤ left) (h1 : left ≤ 1048576) :
    ∃ r, Ev (fun k => laws_szOpS.f k xs left) r ∧ r ≤ left ∧ (r < 0 ∨ (xs.length ≤ 1048576 ∧ ∀ x ∈ xs, x.f6.length ≤ 1048576)) := by
  unfold maxLen at hl
  have hw : wrap64 (left - (xs.length : Int)) = left - (xs.length : Int) := wrap_id (by omega) (by omega)
  by_cases c : left - (xs.length : Int) < 0
  · exact ⟨-1, Ev.congr (fun k => laws_szOpS.f.eq_1 k _ _) (by rw [hw]; exact Ev.ifp c (Ev.now _)), by omega, .inl (by omega)⟩
  · obtain ⟨r, hr, hr1, hr2⟩ := sz_ev2 xs (fun x => x.f6.length ≤ 1048576) (fun k left i => laws_szOpS.l0 k xs left i) (fun left i hi h0 h1 => by
      obtain ⟨r, hr, hr1, hr2, hr3⟩ := szOp_ev xs[i] left (hx xs[i] (List.getElem_mem hi)) h0 h1
      refine ⟨r, hr1, ?_⟩
      by_cases c : r < 0
      · refine .inl ⟨c, Ev.step (fun k => laws_szOpS.l0.eq_2 _ _ _ k) (Ev.ifp (by omega) (Ev.ifp (by omega) ?_))⟩
        rw [rdLO_at hi]
        exact Ev.bind hr (Ev.ifp c (Ev.now _))
      · refine .inr ⟨by omega, hr3.resolve_left c, fun q hq => Ev.step (fun k => laws_szOpS.l0.eq_2 _ _ _ k) (Ev.ifp (by omega) (Ev.ifp (by omega) ?_))⟩
        rw [rdLO_at hi, wrap_succ hi (by omega)]
        exact Ev.bind hr (Ev.ifn c hq))
      (fun left => Ev.step (fun k => laws_szOpS.l0.eq_2 _ _ _ k) (Ev.ifn (by omega) (Ev.now _))) xs.length 0 (left - (xs.length : Int)) (by omega) (by omega) (by omega)
    refine ⟨r, Ev.congr (fun k => laws_szOpS.f.eq_1 k _ _) (by rw [hw]; exact Ev.ifn c hr), by omega, hr2.imp id (fun hz => ⟨by omega, fun x hx => ?_⟩)⟩
    obtain ⟨j, hj, rfl⟩ := List.mem_iff_getElem.mp hx
    exact hz j hj (by omega)
theorem toOpS_ev (xs : List S112) (hl : xs.length ≤ 1048576) (hd : ∀ x ∈ xs, x.f6.length ≤ 1048576) : Ev (fun k => laws_toOpS.f k xs) (xs.map convO) := by
  refine Ev.congr (fun k => laws_toOpS.f.eq_1 k _) (Ev.ifp (by omega) (Ev.ifp (by omega) ?_))
  exact to_ev2 xs convO z73 (fun k out i => laws_toOpS.l0 k xs out i) (fun out i hi ho r hr => by
    refine Ev.step (fun k => laws_toOpS.l0.eq_2 _ _ _ k) (Ev.ifp (by omega) (Ev.ifp (by omega) ?_))
    rw [rdLO_at hi, wrap_succ hi (by omega)]
    refine Ev.bind (Ev.congr (fun k => laws_toOp.f.eq_1 k _ _ _ _ _ _ _) (Ev.bind (toDatumS_ev xs[i].f6 (hd _ (List.getElem_mem hi))) (Ev.now _))) (Ev.ifp (by omega) ?_)
    exact hr) (fun out ho => Ev.step (fun k => laws_toOpS.l0.eq_2 _ _ _ k) (Ev.ifn (by omega) (Ev.now _)))
theorem eqOpS_ev (xs : List S73) (hl : xs.length ≤ 1048576) (hd : ∀ x ∈ xs, x.f6.length ≤ 1048576) : Ev (fun k => laws_eqOpS.f k xs xs) true := by
  refine Ev.congr (fun k => laws_eqOpS.f.eq_1 k _ _) (Ev.ifp rfl ?_)
  exact all_ev2 xs.length (fun k i => laws_eqOpS.l0 k xs xs i) true (fun i hi q hq => by
    refine Ev.step (fun k => laws_eqOpS.l0.eq_2 _ _ _ k) (Ev.ifp (by omega) (Ev.ifp (by omega) (Ev.ifp (by omega) ?_)))
    rw [rdO_at hi, wrap_succ hi (by omega)]
    exact Ev.bind (Ev.congr (fun k => laws_eqOp.f.eq_1 k _ _ _ _ _ _ _ _ _ _ _ _ _ _) (Ev.ifp rfl (Ev.ifp rfl (Ev.ifp rfl (Ev.ifp rfl (Ev.ifp rfl (Ev.ifp rfl (Ev.bind (eqDatumS_ev _ (hd _ (List.getElem_mem hi))) (Ev.ifp rfl (Ev.now _)))))))))) (Ev.ifp rfl hq)) (Ev.step (fun k => laws_eqOpS.l0.eq_2 _ _ _ k) (Ev.ifn (by omega) (Ev.now _))) xs.length 0 (by omega)
theorem convO_small {xs : List S112} (hd : ∀ x ∈ xs, x.f6.length ≤ 1048576) : ∀ x ∈ xs.map convO, x.f6.length ≤ 1048576 := by
  intro x hx
  obtain ⟨y, hy, rfl⟩ := List.mem_map.mp hx
  have := hd y hy
  simpa [convO] using this
end Go.Proofs.Ytljaachpknphpaa.A
