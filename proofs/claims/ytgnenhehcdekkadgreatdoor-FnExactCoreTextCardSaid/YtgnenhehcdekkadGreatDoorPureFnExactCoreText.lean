/- Proved: the pure statement behind the law FnExactCoreText: whatever its argument, the law's plain function answers true. Conditions: the argument is a well formed value of its type. -/
import Derived.Test.YtgnenhehcdekkadGreatDoorAllLib
import Derived.Test.YtgnenhehcdekkadGreatDoorA20
import Derived.Test.YtgnenhehcdekkadGreatDoorA19
import Derived.Test.YtgnenhehcdekkadGreatDoorA9
namespace Go.Proofs.YtgnenhehcdekkadGreatDoor.Pure
open Go.RowKit Go.Proofs.YtgnenhehcdekkadGreatDoor.A Go.Proofs.YtgnenhehcdekkadGreatDoorW.PrintWords Go.Proofs.YtgnenhehcdekkadGreatDoorW.PrintLast Go.Proofs.YtgnenhehcdekkadGreatDoor.PL

theorem okCt_conv (l0 : List S35) (h : ∀ y ∈ l0, ok35 y) : okCf (l0.map convC) := by
  intro x hx
  obtain ⟨y, hy, rfl⟩ := List.mem_map.mp hx
  have z := h y hy
  refine ⟨?_, ?_, ?_⟩
  · intro d hd
    obtain ⟨e, he, rfl⟩ := List.mem_map.mp (show d ∈ y.f5.map convD from hd)
    have := (z.2.2.2.2.2.2 e he).2.2.2
    unfold maxLen at this
    exact this
  · have := z.2.2.2.2.1
    unfold maxLen at this
    exact this
  · have := z.2.2.1
    simp [Lit.wf, IntKind.min, IntKind.max, IntKind.signed, IntKind.bits] at this
    exact this
theorem coreTextR_ev (xs : List S40) (hx : okCf xs) (hl : xs.length ≤ 1048576) (hs : ∀ x ∈ xs, x.f4.size ≤ 1048576) : ∃ r : Int × ByteArray, Ev (fun k => impl_CoreText.f k xs) r ∧ Ev (fun k => spec_CoreText.f k xs) r := by
  obtain ⟨v, p, q, hv⟩ := coreFault_ev xs hx hl
  by_cases c : v = 0
  · obtain ⟨h1, h2, hA, hf⟩ := hv c
    have hg : GoodC xs := fun j hj => by
      rw [rdCf_at hj]
      exact ⟨hf j hj, hs _ (List.getElem_mem hj)⟩
    obtain ⟨r, r1, r2, r3⟩ := implKids_ev xs h2 hA
    obtain ⟨e1, e2⟩ := bothC_ev xs r r2 r3 hA hg h2 xs.length 0 (by omega) (by omega)
    by_cases z : ((ctt xs xs.length ((0 : Nat) : Int)).size : Int) > 1500
    · exact ⟨(2, ⟨#[]⟩), Ev.congr (fun k => impl_CoreText.f.eq_1 k _) (Ev.bind p (Ev.ifp c (Ev.bind r1 (Ev.bind e1 (Ev.ifp z (Ev.now _)))))), Ev.congr (fun k => spec_CoreText.f.eq_1 k _) (Ev.bind q (Ev.ifp c (Ev.bind e2 (Ev.ifp z (Ev.now _)))))⟩
    · exact ⟨_, Ev.congr (fun k => impl_CoreText.f.eq_1 k _) (Ev.bind p (Ev.ifp c (Ev.bind r1 (Ev.bind e1 (Ev.ifn z (Ev.now _)))))), Ev.congr (fun k => spec_CoreText.f.eq_1 k _) (Ev.bind q (Ev.ifp c (Ev.bind e2 (Ev.ifn z (Ev.now _)))))⟩
  · exact ⟨(v, ⟨#[]⟩), Ev.congr (fun k => impl_CoreText.f.eq_1 k _) (Ev.bind p (Ev.ifn c (Ev.now _))), Ev.congr (fun k => spec_CoreText.f.eq_1 k _) (Ev.bind q (Ev.ifn c (Ev.now _)))⟩
theorem FnExactCoreText : ∀ (l0 : List S35), (l0.length ≤ maxLen ∧ ∀ y ∈ l0, ok35 y) → ∃ k, laws_FnExactCoreText.f k l0 = some true := by
  intro l0 h
  obtain ⟨r, hr, _, hr2⟩ := szCoreS_ev l0 h.2 h.1 1048576 (by omega) (by omega)
  refine Ev.rounds (r := true) (Ev.congr (fun k => laws_FnExactCoreText.f.eq_1 k _) (Ev.bind hr (Ev.iff (fun _ => Ev.now _) (fun c => ?_))))
  obtain ⟨hl, hd⟩ := hr2.resolve_left c
  have t := toCoreS_ev l0 hl (fun x hx => (hd x hx).1)
  have hl' : (l0.map convC).length ≤ 1048576 := by rw [List.length_map]; exact hl
  obtain ⟨x, hi, hs⟩ := coreTextR_ev (l0.map convC) (okCt_conv l0 h.2) hl' (fun x hx => by
    obtain ⟨y, hy, rfl⟩ := List.mem_map.mp hx
    exact (hd y hy).2)
  have eqr : laws_eqTextResult.f x.1 x.2 x.1 x.2 = some true := by unfold laws_eqTextResult.f; rw [if_pos rfl, if_pos rfl]
  exact Ev.bind t (Ev.bind hs (Ev.bind t (Ev.bind hi (Ev.bind0 eqr (Ev.ifp rfl (Ev.bind t (Ev.bind (eqCoreS_ev _ hl' (convC_small (fun x hx => (hd x hx).1))) (Ev.ifp rfl (Ev.now _)))))))))
end Go.Proofs.YtgnenhehcdekkadGreatDoor.Pure
