/- Proved: the pure statement behind the law FnExactListFrom: whatever its arguments, the law's plain function answers true. Conditions: the arguments are well formed values of their types. -/
import Derived.Test.YtaeeoljihmndfaaDoorListLib
import Derived.Test.YtaeeoljihmndfaaDoorPairLib
import Derived.Test.YtaeeoljihmndfaaDoorMarkPairLib
import Derived.Test.YtaeeoljihmndfaaDoorMarkValue2Lib
import Derived.Test.YtaeeoljihmndfaaDoorA28
import Derived.Test.YtaeeoljihmndfaaDoorA25
import Derived.Test.YtaeeoljihmndfaaDoorA26
import Derived.Test.YtaeeoljihmndfaaDoorA27
namespace Go.Proofs.YtaeeoljihmndfaaDoor.Pure
open Go.RowKit Go.Proofs.YtaeeoljihmndfaaDoor.A Go.Proofs.YtaeeoljihmndfaaDoorW.PrintWords Go.Proofs.YtaeeoljihmndfaaDoorW.PrintLast Go.Proofs.YtaeeoljihmndfaaDoor.PL

theorem okPl_conv (l0 : List S108) (h : ∀ y ∈ l0, ok108 y) : okP (l0.map convP) := by
  intro x hx
  obtain ⟨y, hy, rfl⟩ := List.mem_map.mp hx
  exact okP_sizes (h y hy)
theorem rdVl_at {xs : List S32} {i : Nat} (h : i < xs.length) : rd_T32 xs (i : Int) = xs[i] := by simp [rd_T32, h]
theorem eqValueS_ev (xs : List S32) (hl : xs.length ≤ 1048576) : Ev (fun k => laws_eqValueS.f k xs xs) true := by
  refine Ev.congr (fun k => ?_) (PL.all_ev xs.length (fun k i => laws_eqValueS.l0 k xs xs i) true (fun k i hi => by
    simp only [laws_eqValueS.l0]
    rw [if_pos (by omega), if_pos (by omega), if_pos (by omega), eqValue_self, Option.bind_some, if_pos rfl, PL.wrap_succ hi (by omega)]) (fun k => by simp only [laws_eqValueS.l0]; rw [if_neg (by omega)]) xs.length 0 (by omega))
  unfold laws_eqValueS.f
  rw [if_pos rfl]
  rfl
set_option maxHeartbeats 8000000 in
theorem FnExactListFrom : ∀ (l0 : List S108) (y1 : S24), (l0.length ≤ maxLen ∧ ∀ y ∈ l0, ok108 y) → (ok24 y1) → ∃ k, laws_FnExactListFrom.f k l0 y1.f0 y1.f1 y1.f2 = some true := by
  intro l0 y1 h h1
  have hs := h1.2.2
  have hs' := hs
  unfold maxLen at hs'
  obtain ⟨r, hr, hr1, hr2⟩ := szPairS_ev l0 h.2 h.1 1048576 (by omega) (by omega)
  refine Ev.rounds (r := true) (Ev.congr (fun k => laws_FnExactListFrom.f.eq_1 k _ _ _ _) (Ev.bind hr (Ev.iff (fun _ => Ev.now _) (fun c => ?_))))
  obtain ⟨q, hq, _, _⟩ := szValue_eq y1.f0 y1.f1 y1.f2 r hs (by omega) hr1
  have t := toPairS_ev l0 (by omega)
  have hl : (l0.map convP).length ≤ 1048576 := by rw [List.length_map]; omega
  have ho := okPl_conv l0 h.2
  have hi := implListFrom_ev (l0.map convP) (convV y1) ho hs'
  have hsp := specListFrom_ev (l0.map convP) (convV y1) ho hs'
  have hlen := listFromM_len (l0.map convP) (convV y1)
  generalize listFromM (l0.map convP) (convV y1) = R at hi hsp hlen
  obtain ⟨cc, l, K, M, s⟩ := R
  have hlen' : l.length ≤ 200 := hlen
  have e1 := eqPairS_ev (l0.map convP) hl
  have e2 : Ev (fun k => laws_eqValuesResult.f k cc l K M s cc l K M s) true := Ev.congr (fun k => laws_eqValuesResult.f.eq_1 k _ _ _ _ _ _ _ _ _ _) (Ev.ifp rfl (Ev.bind (eqValueS_ev l (by omega)) (Ev.ifp rfl (Ev.bind0 (eqValue_self K M s) (Ev.ifp rfl (Ev.now _))))))
  have m1 := markPairS_ev (l0.map convP) hl 1 (by omega) (by omega)
  have m2 : Ev (fun k => laws_markValuesResult.f k cc l K M s 1) (1 + 3 * (l.length : Int), markL markOfValue 3 l.length 1) := Ev.congr (fun k => laws_markValuesResult.f.eq_1 k _ _ _ _ _ _) (Ev.bind (markValueS_ev l (by omega) 1 (by omega) (by omega)) (Ev.now _))
  have m3 : Ev (fun k => laws_heldValuesResult.f k cc (markL markOfValue 3 l.length 1) K M s 1) (1 + 3 * (l.length : Int)) := Ev.congr (fun k => laws_heldValuesResult.f.eq_1 k _ _ _ _ _ _) (Ev.bind (heldValueS_ev l.length (by omega) 1 (by omega) (by omega)) (Ev.ifn (by omega) (Ev.now _)))
  refine Ev.step (fun k => laws_FnExactListFrom.j0.eq_2 _ _ _ _ _ k) ?_
  refine Ev.bind0 hq ?_
  refine Ev.iff (fun _ => Ev.now _) (fun _ => ?_)
  refine Ev.step (fun k => laws_FnExactListFrom.j1.eq_2 _ _ _ _ k) ?_
  refine Ev.bind t ?_
  refine Ev.bind0 rfl ?_
  refine Ev.bind hsp ?_
  refine Ev.bind t ?_
  refine Ev.bind0 rfl ?_
  refine Ev.bind hi ?_
  refine Ev.bind e2 ?_
  refine Ev.ifp (by first | rfl | assumption | omega | (dsimp only; omega)) ?_
  refine Ev.step (fun k => laws_FnExactListFrom.j2.eq_2 _ _ _ _ _ _ _ _ _ _ _ _ _ _ _ k) ?_
  refine Ev.bind t ?_
  refine Ev.bind e1 ?_
  refine Ev.ifp (by first | rfl | assumption | omega | (dsimp only; omega)) ?_
  refine Ev.step (fun k => laws_FnExactListFrom.j3.eq_2 _ _ _ _ _ _ _ _ _ _ _ _ _ _ _ k) ?_
  refine Ev.bind m1 ?_
  refine Ev.ifn (by first | decide | omega | (dsimp only; omega) | simp) ?_
  refine Ev.bind e2 ?_
  refine Ev.step (fun k => laws_FnExactListFrom.j4.eq_2 _ _ _ _ _ _ _ _ _ _ _ _ _ _ _ k) ?_
  refine Ev.ifn (by first | decide | omega | (dsimp only; omega) | simp) ?_
  refine Ev.step (fun k => laws_FnExactListFrom.j5.eq_2 _ _ _ _ _ _ _ _ _ _ _ _ _ _ k) ?_
  refine Ev.bind m2 ?_
  refine Ev.bind m3 ?_
  refine Ev.ifn (by first | decide | omega | (dsimp only; omega) | simp) ?_
  refine Ev.step (fun k => laws_FnExactListFrom.j6.eq_2 _ _ _ _ _ _ _ _ _ _ _ _ _ _ _ _ k) ?_
  refine Ev.ifp (by first | rfl | assumption | omega | (dsimp only; omega)) ?_
  refine Ev.step (fun k => laws_FnExactListFrom.j7.eq_2 _ _ _ _ _ _ _ _ _ _ _ _ _ _ _ k) ?_
  refine Ev.bind t ?_
  refine Ev.bind0 rfl ?_
  refine Ev.bind hi ?_
  refine Ev.bind e2 ?_
  refine Ev.ifp (by first | rfl | assumption | omega | (dsimp only; omega)) ?_
  refine Ev.step (fun k => laws_FnExactListFrom.j8.eq_2 _ _ _ _ _ _ k) ?_
  refine Ev.bind m3 ?_
  refine Ev.ifn (by first | decide | omega | (dsimp only; omega) | simp) ?_
  refine Ev.ifp (by first | rfl | assumption | omega | (dsimp only; omega)) ?_
  exact Ev.now _
end Go.Proofs.YtaeeoljihmndfaaDoor.Pure
