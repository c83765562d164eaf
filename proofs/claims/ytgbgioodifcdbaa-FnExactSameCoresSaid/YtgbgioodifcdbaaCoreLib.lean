/- Proved: what the laws' small helpers over lists of cores come to. Conditions: those in each head. -/
import Derived.Test.YtgbgioodifcdbaaPL2Lib
import Derived.Test.YtgbgioodifcdbaaDatumLib
import Derived.Test.YtgbgioodifcdbaaC2
import Derived.Test.YtgbgioodifcdbaaC4
import Derived.Test.YtgbgioodifcdbaaC6
import Derived.Test.YtgbgioodifcdbaaCOk
import Derived.Test.YtgbgioodifcdbaaC5
namespace Go.Proofs.Ytgbgioodifcdbaa.C
open Go.RowKit Go.Proofs.YtgbgioodifcdbaaW.PrintWords Go.Proofs.YtgbgioodifcdbaaW.PrintLast Go.Proofs.Ytgbgioodifcdbaa.PL
set_option linter.unusedSimpArgs false

theorem rdLC_at {xs : List S31} {i : Nat} (h : i < xs.length) : rd_T31 xs (i : Int) = xs[i] := by simp [rd_T31, h]
theorem rdC_at {xs : List S34} {i : Nat} (h : i < xs.length) : rd_T34 xs (i : Int) = xs[i] := by simp [rd_T34, h]
/-- A core of the laws as one of the program. -/
def convC (x : S31) : S34 := ⟨x.f0, x.f1, x.f2, x.f3, x.f4, x.f5.map convD⟩
theorem szCore_ev (x : S31) (left : Int) (hx : ok31 x) (h0 : 0 ≤ left) (h1 : left ≤ 1048576) : ∃ r, Ev (fun k => laws_szCore.f k x.f0 x.f1 x.f2 x.f3 x.f4 x.f5 left) r ∧ r ≤ left ∧ (r < 0 → r = -1) ∧ (r < 0 ∨ (x.f5.length ≤ 1048576 ∧ x.f4.size ≤ 1048576)) := by
  have hn := hx.2.2.2.2.1
  have hd := hx.2.2.2.2.2
  unfold maxLen at hn
  have hw : wrap64 (left - (x.f4.size : Int)) = left - (x.f4.size : Int) := wrap_id (by omega) (by omega)
  by_cases c : left - (x.f4.size : Int) < 0
  · exact ⟨-1, Ev.congr (fun k => laws_szCore.f.eq_1 k _ _ _ _ _ _ _) (by rw [hw]; exact Ev.ifp c (Ev.now _)), by omega, fun _ => rfl, .inl (by omega)⟩
  · obtain ⟨q, hq, hq1, hq2⟩ := szDatumS_ev x.f5 hd.2 hd.1 (left - (x.f4.size : Int)) (by omega) (by omega)
    by_cases d : q < 0
    · exact ⟨-1, Ev.congr (fun k => laws_szCore.f.eq_1 k _ _ _ _ _ _ _) (by rw [hw]; exact Ev.ifn c (Ev.bind hq (Ev.ifp d (Ev.now _)))), by omega, fun _ => rfl, .inl (by omega)⟩
    · exact ⟨q, Ev.congr (fun k => laws_szCore.f.eq_1 k _ _ _ _ _ _ _) (by rw [hw]; exact Ev.ifn c (Ev.bind hq (Ev.ifn d (Ev.now _)))), by omega, fun h => absurd h d, hq2.imp id (fun z => ⟨z, by omega⟩)⟩
theorem szCoreS_ev (xs : List S31) (hx : ∀ y ∈ xs, ok31 y) (hl : xs.length ≤ maxLen) (left : Int) (h0 : 0 ≤ left) (h1 : left ≤ 1048576) :
    ∃ r, Ev (fun k => laws_szCoreS.f k xs left) r ∧ r ≤ left ∧ (r < 0 ∨ (xs.length ≤ 1048576 ∧ ∀ x ∈ xs, x.f5.length ≤ 1048576 ∧ x.f4.size ≤ 1048576)) := by
  unfold maxLen at hl
  have hw : wrap64 (left - (xs.length : Int)) = left - (xs.length : Int) := wrap_id (by omega) (by omega)
  by_cases c : left - (xs.length : Int) < 0
  · exact ⟨-1, Ev.congr (fun k => laws_szCoreS.f.eq_1 k _ _) (by rw [hw]; exact Ev.ifp c (Ev.now _)), by omega, .inl (by omega)⟩
  · obtain ⟨r, hr, hr1, hr2⟩ := sz_ev2 xs (fun x => x.f5.length ≤ 1048576 ∧ x.f4.size ≤ 1048576) (fun k left i => laws_szCoreS.l0 k xs left i) (fun left i hi h0 h1 => by
      obtain ⟨r, hr, hr1, hr2, hr3⟩ := szCore_ev xs[i] left (hx xs[i] (List.getElem_mem hi)) h0 h1
      refine ⟨r, hr1, ?_⟩
      by_cases c : r < 0
      · refine .inl ⟨c, Ev.step (fun k => laws_szCoreS.l0.eq_2 _ _ _ k) (Ev.ifp (by omega) (Ev.ifp (by omega) ?_))⟩
        rw [rdLC_at hi]
        exact Ev.bind hr (Ev.ifp c (Ev.now _))
      · refine .inr ⟨by omega, hr3.resolve_left c, fun q hq => Ev.step (fun k => laws_szCoreS.l0.eq_2 _ _ _ k) (Ev.ifp (by omega) (Ev.ifp (by omega) ?_))⟩
        rw [rdLC_at hi, wrap_succ hi (by omega)]
        exact Ev.bind hr (Ev.ifn c hq))
      (fun left => Ev.step (fun k => laws_szCoreS.l0.eq_2 _ _ _ k) (Ev.ifn (by omega) (Ev.now _))) xs.length 0 (left - (xs.length : Int)) (by omega) (by omega) (by omega)
    refine ⟨r, Ev.congr (fun k => laws_szCoreS.f.eq_1 k _ _) (by rw [hw]; exact Ev.ifn c hr), by omega, hr2.imp id (fun hz => ⟨by omega, fun x hx => ?_⟩)⟩
    obtain ⟨j, hj, rfl⟩ := List.mem_iff_getElem.mp hx
    exact hz j hj (by omega)
theorem toCoreS_ev (xs : List S31) (hl : xs.length ≤ 1048576) (hd : ∀ x ∈ xs, x.f5.length ≤ 1048576) : Ev (fun k => laws_toCoreS.f k xs) (xs.map convC) := by
  refine Ev.congr (fun k => laws_toCoreS.f.eq_1 k _) (Ev.ifp (by omega) (Ev.ifp (by omega) ?_))
  exact to_ev2 xs convC z34 (fun k out i => laws_toCoreS.l0 k xs out i) (fun out i hi ho r hr => by
    refine Ev.step (fun k => laws_toCoreS.l0.eq_2 _ _ _ k) (Ev.ifp (by omega) (Ev.ifp (by omega) ?_))
    rw [rdLC_at hi, wrap_succ hi (by omega)]
    refine Ev.bind (Ev.congr (fun k => laws_toCore.f.eq_1 k _ _ _ _ _ _) (Ev.bind (toDatumS_ev xs[i].f5 (hd _ (List.getElem_mem hi))) (Ev.now _))) (Ev.ifp (by omega) ?_)
    exact hr) (fun out ho => Ev.step (fun k => laws_toCoreS.l0.eq_2 _ _ _ k) (Ev.ifn (by omega) (Ev.now _)))
theorem eqCoreS_ev (xs : List S34) (hl : xs.length ≤ 1048576) (hd : ∀ x ∈ xs, x.f5.length ≤ 1048576) : Ev (fun k => laws_eqCoreS.f k xs xs) true := by
  refine Ev.congr (fun k => laws_eqCoreS.f.eq_1 k _ _) (Ev.ifp rfl ?_)
  exact all_ev2 xs.length (fun k i => laws_eqCoreS.l0 k xs xs i) true (fun i hi q hq => by
    refine Ev.step (fun k => laws_eqCoreS.l0.eq_2 _ _ _ k) (Ev.ifp (by omega) (Ev.ifp (by omega) (Ev.ifp (by omega) ?_)))
    rw [rdC_at hi, wrap_succ hi (by omega)]
    exact Ev.bind (Ev.congr (fun k => laws_eqCore.f.eq_1 k _ _ _ _ _ _ _ _ _ _ _ _) (Ev.ifp rfl (Ev.ifp rfl (Ev.ifp rfl (Ev.ifp rfl (Ev.ifp rfl (Ev.bind (eqDatumS_ev _ (hd _ (List.getElem_mem hi))) (Ev.ifp rfl (Ev.now _))))))))) (Ev.ifp rfl hq)) (Ev.step (fun k => laws_eqCoreS.l0.eq_2 _ _ _ k) (Ev.ifn (by omega) (Ev.now _))) xs.length 0 (by omega)
theorem convC_small {xs : List S31} (hd : ∀ x ∈ xs, x.f5.length ≤ 1048576) : ∀ x ∈ xs.map convC, x.f5.length ≤ 1048576 := by
  intro x hx
  obtain ⟨y, hy, rfl⟩ := List.mem_map.mp hx
  have := hd y hy
  simpa [convC] using this
end Go.Proofs.Ytgbgioodifcdbaa.C
