/- Proved: the pure statement behind the law FnExactCoreFault: whatever its argument, the law's plain function answers true. Conditions: the argument is a well formed value of its type. -/
import Derived.Test.YtcliaceiijaafaaDoorCoreFLib
import Derived.Test.YtcliaceiijaafaaDoorCoreLib
import Derived.Test.YtcliaceiijaafaaDoorC15
import Derived.Test.YtcliaceiijaafaaDoorC8
namespace Go.Proofs.YtcliaceiijaafaaDoor.Pure
open Go.RowKit Go.Proofs.YtcliaceiijaafaaDoor.C Go.Proofs.YtcliaceiijaafaaDoorW.PrintWords Go.Proofs.YtcliaceiijaafaaDoorW.PrintLast Go.Proofs.YtcliaceiijaafaaDoor.PL

theorem okCf_conv (l0 : List S90) (h : ∀ y ∈ l0, ok90 y) : okCf (l0.map convC) := by
  intro x hx
  obtain ⟨y, hy, rfl⟩ := List.mem_map.mp hx
  have z := h y hy
  refine ⟨?_, ?_, ?_⟩
  · intro d hd
    obtain ⟨e, he, rfl⟩ := List.mem_map.mp (show d ∈ y.f5.map convD from hd)
    have := (z.2.2.2.2.2.2 e he).2.2.2
    unfold maxLen at this
    exact this
  · have := z.2.2.2.2.1
    unfold maxLen at this
    exact this
  · have := z.2.2.1
    simp [Lit.wf, IntKind.min, IntKind.max, IntKind.signed, IntKind.bits] at this
    exact this
theorem FnExactCoreFault : ∀ (l0 : List S90), (l0.length ≤ maxLen ∧ ∀ y ∈ l0, ok90 y) → ∃ k, laws_FnExactCoreFault.f k l0 = some true := by
  intro l0 h
  obtain ⟨r, hr, _, hr2⟩ := szCoreS_ev l0 h.2 h.1 1048576 (by omega) (by omega)
  refine Ev.rounds (r := true) (Ev.congr (fun k => laws_FnExactCoreFault.f.eq_1 k _) (Ev.bind hr (Ev.iff (fun _ => Ev.now _) (fun c => ?_))))
  have z := hr2.resolve_left c
  have t := toCoreS_ev l0 z.1 z.2
  have hl : (l0.map convC).length ≤ 1048576 := by rw [List.length_map]; exact z.1
  obtain ⟨v, hi, hs⟩ := coreFault_ev (l0.map convC) (okCf_conv l0 h.2) hl
  exact Ev.bind t (Ev.bind (Ev.congr (fun k => spec_CoreFault.f.eq_1 k _) (Ev.bind hs (Ev.now _))) (Ev.bind t (Ev.bind hi (Ev.ifp rfl (Ev.bind t (Ev.bind (eqCoreS_ev _ hl (convC_small z.2)) (Ev.ifp rfl (Ev.now _))))))))
end Go.Proofs.YtcliaceiijaafaaDoor.Pure
