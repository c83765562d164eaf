/- Proved: the pure statement behind the law FnExactSameCode: whatever its arguments, the law's plain function answers true. Conditions: the arguments are well formed values of their types. -/
import Derived.Test.YtljaachpknphpaaSameCodeLib
import Derived.Test.YtljaachpknphpaaBlockLib
import Derived.Test.YtljaachpknphpaaA7
namespace Go.Proofs.Ytljaachpknphpaa.Pure
open Go.RowKit Go.Proofs.Ytljaachpknphpaa.A Go.Proofs.YtljaachpknphpaaW.PrintWords Go.Proofs.YtljaachpknphpaaW.PrintLast Go.Proofs.Ytljaachpknphpaa.PL

theorem FnExactSameCode : ∀ (l0 : List S66) (l1 : List S66), (l0.length ≤ maxLen ∧ ∀ y ∈ l0, ok66 y) → (l1.length ≤ maxLen ∧ ∀ y ∈ l1, ok66 y) → ∃ k, laws_FnExactSameCode.f k l0 l1 = some true := by
  intro l0 l1 h0 h1
  obtain ⟨r, hr, hr1, hr2⟩ := szBlockS_ev l0 h0.2 h0.1 1048576 (by omega) (by omega)
  refine Ev.rounds (r := true) (Ev.congr (fun k => laws_FnExactSameCode.f.eq_1 k _ _) (Ev.bind hr (Ev.iff (fun _ => Ev.now _) (fun c => ?_))))
  obtain ⟨q, hq, hq1, hq2⟩ := szBlockS_ev l1 h1.2 h1.1 r (by omega) (by omega)
  refine Ev.bind hq (Ev.iff (fun _ => Ev.now _) (fun c2 => ?_))
  have z0 := hr2.resolve_left c
  have z1 := hq2.resolve_left c2
  have t0 := toBlockS_ev l0 z0.1 z0.2
  have t1 := toBlockS_ev l1 z1.1 z1.2
  have n0 : (l0.map convB).length ≤ 1048576 := by rw [List.length_map]; exact z0.1
  have n1 : (l1.map convB).length ≤ 1048576 := by rw [List.length_map]; exact z1.1
  have hi := implSameCode_ev (l0.map convB) (l1.map convB) n0 (convB_small z0.2)
  have hs := specSameCode_ev (l0.map convB) (l1.map convB) n0 (convB_small z0.2)
  exact Ev.bind t0 (Ev.bind t1 (Ev.bind hs (Ev.bind t0 (Ev.bind t1 (Ev.bind hi (Ev.ifn (by simp) (Ev.bind t0 (Ev.bind (eqBlockS_ev _ n0 (convB_small z0.2)) (Ev.ifp rfl (Ev.bind t1 (Ev.bind (eqBlockS_ev _ n1 (convB_small z1.2)) (Ev.ifp rfl (Ev.now _)))))))))))))
end Go.Proofs.Ytljaachpknphpaa.Pure
