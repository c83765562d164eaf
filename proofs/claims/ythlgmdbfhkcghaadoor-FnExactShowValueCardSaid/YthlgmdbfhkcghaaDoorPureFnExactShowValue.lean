/- Proved: the pure statement behind the law FnExactShowValue: whatever its arguments, the law's plain function answers true. Conditions: the arguments are well formed values of their types. -/
import Derived.Test.YthlgmdbfhkcghaaDoorShowLib
import Derived.Test.YthlgmdbfhkcghaaDoorPairLib
import Derived.Test.YthlgmdbfhkcghaaDoorS10
import Derived.Test.YthlgmdbfhkcghaaDoorS9
namespace Go.Proofs.YthlgmdbfhkcghaaDoor.Pure
open Go.RowKit Go.Proofs.YthlgmdbfhkcghaaDoor.S Go.Proofs.YthlgmdbfhkcghaaDoorW.PrintWords Go.Proofs.YthlgmdbfhkcghaaDoorW.PrintLast Go.Proofs.YthlgmdbfhkcghaaDoor.PL

theorem okPl_conv (l0 : List S86) (h : ∀ y ∈ l0, ok86 y) : okP (l0.map convP) := by
  intro x hx
  obtain ⟨y, hy, rfl⟩ := List.mem_map.mp hx
  exact okP_sizes (h y hy)
set_option maxHeartbeats 8000000 in
theorem FnExactShowValue : ∀ (l0 : List S86) (y1 : S24), (l0.length ≤ maxLen ∧ ∀ y ∈ l0, ok86 y) → (ok24 y1) → ∃ k, laws_FnExactShowValue.f k l0 y1.f0 y1.f1 y1.f2 = some true := by
  intro l0 y1 h h1
  have hs := h1.2.2
  have hs' := hs
  unfold maxLen at hs'
  obtain ⟨r, hr, hr1, hr2⟩ := szPairS_ev l0 h.2 h.1 1048576 (by omega) (by omega)
  refine Ev.rounds (r := true) (Ev.congr (fun k => laws_FnExactShowValue.f.eq_1 k _ _ _ _) (Ev.bind hr (Ev.iff (fun _ => Ev.now _) (fun c => ?_))))
  obtain ⟨q, hq, _, _⟩ := szValue_eq y1.f0 y1.f1 y1.f2 r hs (by omega) hr1
  have t := toPairS_ev l0 (by omega)
  have hl : (l0.map convP).length ≤ 1048576 := by rw [List.length_map]; omega
  have ho := okPl_conv l0 h.2
  have hi := implShowValue_ev (l0.map convP) (convV y1) ho hs'
  have hsp := specShowValue_ev (l0.map convP) (convV y1) ho hs'
  generalize showM (l0.map convP) (convV y1) = R at hi hsp
  obtain ⟨cc, s⟩ := R
  have e1 := eqPairS_ev (l0.map convP) hl
  have e2 : laws_eqTextResult.f cc s cc s = some true := by unfold laws_eqTextResult.f; rw [if_pos rfl, if_pos rfl]
  refine Ev.step (fun k => laws_FnExactShowValue.j0.eq_2 _ _ _ _ _ k) ?_
  refine Ev.bind0 hq ?_
  refine Ev.iff (fun _ => Ev.now _) (fun _ => ?_)
  refine Ev.step (fun k => laws_FnExactShowValue.j1.eq_2 _ _ _ _ k) ?_
  refine Ev.bind t ?_
  refine Ev.bind0 rfl ?_
  refine Ev.bind hsp ?_
  refine Ev.bind t ?_
  refine Ev.bind0 rfl ?_
  refine Ev.bind hi ?_
  refine Ev.bind0 e2 ?_
  refine Ev.ifp (by first | rfl | assumption | omega | (dsimp only; omega)) ?_
  refine Ev.step (fun k => laws_FnExactShowValue.j2.eq_2 _ _ k) ?_
  refine Ev.bind t ?_
  refine Ev.bind e1 ?_
  refine Ev.ifp (by first | rfl | assumption | omega | (dsimp only; omega)) ?_
  exact Ev.now _
end Go.Proofs.YthlgmdbfhkcghaaDoor.Pure
