/- Proved: what the laws' small helpers over lists of blocks come to. Conditions: those in each head. -/
import Derived.Test.YtljaachpknphpaaOpLib
import Derived.Test.YtljaachpknphpaaA2
import Derived.Test.YtljaachpknphpaaA4
import Derived.Test.YtljaachpknphpaaA7
import Derived.Test.YtljaachpknphpaaA6
namespace Go.Proofs.Ytljaachpknphpaa.A
open Go.RowKit Go.Proofs.YtljaachpknphpaaW.PrintWords Go.Proofs.YtljaachpknphpaaW.PrintLast Go.Proofs.Ytljaachpknphpaa.PL
set_option linter.unusedSimpArgs false

theorem rdLB_at {xs : List S66} {i : Nat} (h : i < xs.length) : rd_T66 xs (i : Int) = xs[i] := by simp [rd_T66, h]
theorem rdB_at {xs : List S69} {i : Nat} (h : i < xs.length) : rd_T69 xs (i : Int) = xs[i] := by simp [rd_T69, h]
/-- A block of the laws as one of the program. -/
def convB (x : S66) : S69 := ⟨x.f0, x.f1.map convO⟩
def smallLB (x : S66) : Prop := x.f1.length ≤ 1048576 ∧ ∀ o ∈ x.f1, o.f6.length ≤ 1048576
def smallB (x : S69) : Prop := x.f1.length ≤ 1048576 ∧ ∀ o ∈ x.f1, o.f6.length ≤ 1048576
theorem szBlock_ev (x : S66) (left : Int) (hx : ok66 x) (h0 : 0 ≤ left) (h1 : left ≤ 1048576) : ∃ r, Ev (fun k => laws_szBlock.f k x.f0 x.f1 left) r ∧ r ≤ left ∧ (r < 0 → r = -1) ∧ (r < 0 ∨ smallLB x) := by
  have hd := hx.2
  obtain ⟨q, hq, hq1, hq2⟩ := szOpS_ev x.f1 hd.2 hd.1 left h0 h1
  by_cases d : q < 0
  · exact ⟨-1, Ev.congr (fun k => laws_szBlock.f.eq_1 k _ _ _) (Ev.bind hq (Ev.ifp d (Ev.now _))), by omega, fun _ => rfl, .inl (by omega)⟩
  · exact ⟨q, Ev.congr (fun k => laws_szBlock.f.eq_1 k _ _ _) (Ev.bind hq (Ev.ifn d (Ev.now _))), by omega, fun h => absurd h d, hq2⟩
theorem szBlockS_ev (xs : List S66) (hx : ∀ y ∈ xs, ok66 y) (hl : xs.length ≤ maxLen) (left : Int) (h0 : 0 ≤ left) (h1 : left ≤ 1048576) :
    ∃ r, Ev (fun k => laws_szBlockS.f k xs left) r ∧ r ≤ left ∧ (r < 0 ∨ (xs.length ≤ 1048576 ∧ ∀ x ∈ xs, smallLB x)) := by
  unfold maxLen at hl
  have hw : wrap64 (left - (xs.length : Int)) = left - (xs.length : Int) := wrap_id (by omega) (by omega)
  by_cases c : left - (xs.length : Int) < 0
  · exact ⟨-1, Ev.congr (fun k => laws_szBlockS.f.eq_1 k _ _) (by rw [hw]; exact Ev.ifp c (Ev.now _)), by omega, .inl (by omega)⟩
  · obtain ⟨r, hr, hr1, hr2⟩ := sz_ev2 xs smallLB (fun k left i => laws_szBlockS.l0 k xs left i) (fun left i hi h0 h1 => by
      obtain ⟨r, hr, hr1, hr2, hr3⟩ := szBlock_ev xs[i] left (hx xs[i] (List.getElem_mem hi)) h0 h1
      refine ⟨r, hr1, ?_⟩
      by_cases c : r < 0
      · refine .inl ⟨c, Ev.step (fun k => laws_szBlockS.l0.eq_2 _ _ _ k) (Ev.ifp (by omega) (Ev.ifp (by omega) ?_))⟩
        rw [rdLB_at hi]
        exact Ev.bind hr (Ev.ifp c (Ev.now _))
      · refine .inr ⟨by omega, hr3.resolve_left c, fun q hq => Ev.step (fun k => laws_szBlockS.l0.eq_2 _ _ _ k) (Ev.ifp (by omega) (Ev.ifp (by omega) ?_))⟩
        rw [rdLB_at hi, wrap_succ hi (by omega)]
        exact Ev.bind hr (Ev.ifn c hq))
      (fun left => Ev.step (fun k => laws_szBlockS.l0.eq_2 _ _ _ k) (Ev.ifn (by omega) (Ev.now _))) xs.length 0 (left - (xs.length : Int)) (by omega) (by omega) (by omega)
    refine ⟨r, Ev.congr (fun k => laws_szBlockS.f.eq_1 k _ _) (by rw [hw]; exact Ev.ifn c hr), by omega, hr2.imp id (fun hz => ⟨by omega, fun x hx => ?_⟩)⟩
    obtain ⟨j, hj, rfl⟩ := List.mem_iff_getElem.mp hx
    exact hz j hj (by omega)
theorem toBlockS_ev (xs : List S66) (hl : xs.length ≤ 1048576) (hd : ∀ x ∈ xs, smallLB x) : Ev (fun k => laws_toBlockS.f k xs) (xs.map convB) := by
  refine Ev.congr (fun k => laws_toBlockS.f.eq_1 k _) (Ev.ifp (by omega) (Ev.ifp (by omega) ?_))
  exact to_ev2 xs convB z69 (fun k out i => laws_toBlockS.l0 k xs out i) (fun out i hi ho r hr => by
    refine Ev.step (fun k => laws_toBlockS.l0.eq_2 _ _ _ k) (Ev.ifp (by omega) (Ev.ifp (by omega) ?_))
    rw [rdLB_at hi, wrap_succ hi (by omega)]
    have hm := hd _ (List.getElem_mem hi)
    refine Ev.bind (Ev.congr (fun k => laws_toBlock.f.eq_1 k _ _) (Ev.bind (toOpS_ev xs[i].f1 hm.1 hm.2) (Ev.now _))) (Ev.ifp (by omega) ?_)
    exact hr) (fun out ho => Ev.step (fun k => laws_toBlockS.l0.eq_2 _ _ _ k) (Ev.ifn (by omega) (Ev.now _)))
theorem eqBlockS_ev (xs : List S69) (hl : xs.length ≤ 1048576) (hd : ∀ x ∈ xs, smallB x) : Ev (fun k => laws_eqBlockS.f k xs xs) true := by
  refine Ev.congr (fun k => laws_eqBlockS.f.eq_1 k _ _) (Ev.ifp rfl ?_)
  exact all_ev2 xs.length (fun k i => laws_eqBlockS.l0 k xs xs i) true (fun i hi q hq => by
    have hm := hd _ (List.getElem_mem hi)
    refine Ev.step (fun k => laws_eqBlockS.l0.eq_2 _ _ _ k) (Ev.ifp (by omega) (Ev.ifp (by omega) (Ev.ifp (by omega) ?_)))
    rw [rdB_at hi, wrap_succ hi (by omega)]
    exact Ev.bind (Ev.congr (fun k => laws_eqBlock.f.eq_1 k _ _ _ _) (Ev.ifp rfl (Ev.bind (eqOpS_ev _ hm.1 hm.2) (Ev.ifp rfl (Ev.now _))))) (Ev.ifp rfl hq)) (Ev.step (fun k => laws_eqBlockS.l0.eq_2 _ _ _ k) (Ev.ifn (by omega) (Ev.now _))) xs.length 0 (by omega)
theorem convB_small {xs : List S66} (hd : ∀ x ∈ xs, smallLB x) : ∀ x ∈ xs.map convB, smallB x := by
  intro x hx
  obtain ⟨y, hy, rfl⟩ := List.mem_map.mp hx
  have := hd y hy
  exact ⟨by simpa [convB] using this.1, convO_small this.2⟩
end Go.Proofs.Ytljaachpknphpaa.A
