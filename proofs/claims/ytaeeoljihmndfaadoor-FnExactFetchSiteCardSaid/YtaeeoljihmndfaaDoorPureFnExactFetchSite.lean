/- Proved: the pure statement behind the law FnExactFetchSite: whatever its arguments, the law's plain function answers true. Conditions: the arguments are well formed values of their types. -/
import Derived.Test.YtaeeoljihmndfaaDoorFetchLib
import Derived.Test.YtaeeoljihmndfaaDoorGlobalLib
import Derived.Test.YtaeeoljihmndfaaDoorA31
import Derived.Test.YtaeeoljihmndfaaDoorA29
import Derived.Test.YtaeeoljihmndfaaDoorA30
import Derived.Test.YtaeeoljihmndfaaDoorA6
namespace Go.Proofs.YtaeeoljihmndfaaDoor.Pure
open Go.RowKit Go.Proofs.YtaeeoljihmndfaaDoor.A Go.Proofs.YtaeeoljihmndfaaDoorW.PrintWords Go.Proofs.YtaeeoljihmndfaaDoorW.PrintLast Go.Proofs.YtaeeoljihmndfaaDoor.PL

theorem okGf_conv (l0 : List S83) (h : ∀ y ∈ l0, ok83 y) : okG (l0.map convG) := by
  intro x hx
  obtain ⟨y, hy, rfl⟩ := List.mem_map.mp hx
  exact okG_sizes (h y hy)
theorem FnExactFetchSite : ∀ (l0 : List S83) (a1 : ByteArray) (y2 : S26), (l0.length ≤ maxLen ∧ ∀ y ∈ l0, ok83 y) → (a1.size ≤ maxLen) → (ok26 y2) → ∃ k, laws_FnExactFetchSite.f k l0 a1 y2.f0 y2.f1.f0 y2.f1.f1 y2.f1.f2 = some true := by
  intro l0 a1 y2 h h1 h2
  have hs := h2.2.2.2
  have hs' := hs
  unfold maxLen at h1 hs'
  obtain ⟨r, hr, hr1, hr2⟩ := szGlobalS_ev l0 h.2 h.1 1048576 (by omega) (by omega)
  refine Ev.rounds (r := true) (Ev.congr (fun k => laws_FnExactFetchSite.f.eq_1 k _ _ _ _ _ _) (Ev.iff (fun _ => Ev.now _) (fun _ => ?_)))
  refine Ev.step (fun k => laws_FnExactFetchSite.j0.eq_2 _ _ _ _ _ _ k) (Ev.bind hr (Ev.iff (fun _ => Ev.now _) (fun c => ?_)))
  obtain ⟨q, hq, _, _⟩ := szGValue_eq y2.f1.f0 y2.f1.f1 y2.f1.f2 r hs (by omega) hr1
  have hsz : ∃ q, laws_szSite.f y2.f0 y2.f1.f0 y2.f1.f1 y2.f1.f2 r = some q := by unfold laws_szSite.f; rw [hq, Option.bind_some]; split <;> exact ⟨_, rfl⟩
  obtain ⟨p, hp⟩ := hsz
  refine Ev.step (fun k => laws_FnExactFetchSite.j1.eq_2 _ _ _ _ _ _ _ k) (Ev.bind0 hp (Ev.iff (fun _ => Ev.now _) (fun _ => ?_)))
  have t := toGlobalS_ev l0 (by omega)
  have hl : (l0.map convG).length ≤ 1048576 := by rw [List.length_map]; omega
  have ho := okGf_conv l0 h.2
  obtain ⟨v, hi, hsp⟩ := fetch_ev (l0.map convG) a1 y2.f0 y2.f1.f0 y2.f1.f1 y2.f1.f2 ho h1 hl hs'
  refine Ev.step (fun k => laws_FnExactFetchSite.j2.eq_2 _ _ _ _ _ _ k) (Ev.bind t (Ev.bind0 rfl (Ev.bind hsp (Ev.bind t (Ev.bind0 rfl (Ev.bind hi (Ev.bind0 (a := true) ?_ (Ev.ifp rfl ?_))))))))
  · unfold laws_eqFetchResult.f laws_eqSite.f
    rw [if_pos rfl, if_neg (by simp), eqGValue_self, Option.bind_some, if_pos rfl, if_pos rfl, eqGValue_self, Option.bind_some, if_pos rfl, Option.bind_some, if_pos rfl]
  · exact Ev.step (fun k => laws_FnExactFetchSite.j3.eq_2 _ _ k) (Ev.bind t (Ev.bind (eqGlobalS_ev _ hl) (Ev.ifp rfl (Ev.now _))))
end Go.Proofs.YtaeeoljihmndfaaDoor.Pure
