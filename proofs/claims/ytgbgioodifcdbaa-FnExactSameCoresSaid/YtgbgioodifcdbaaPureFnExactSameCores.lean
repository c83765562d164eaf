/- Proved: the pure statement behind the law FnExactSameCores: whatever its arguments, the law's plain function answers true. Conditions: the arguments are well formed values of their types. -/
import Derived.Test.YtgbgioodifcdbaaSameCoreLib
import Derived.Test.YtgbgioodifcdbaaCoreLib
import Derived.Test.YtgbgioodifcdbaaC6
namespace Go.Proofs.Ytgbgioodifcdbaa.Pure
open Go.RowKit Go.Proofs.Ytgbgioodifcdbaa.C Go.Proofs.YtgbgioodifcdbaaW.PrintWords Go.Proofs.YtgbgioodifcdbaaW.PrintLast Go.Proofs.Ytgbgioodifcdbaa.PL

theorem FnExactSameCores : ∀ (l0 : List S31) (l1 : List S31), (l0.length ≤ maxLen ∧ ∀ y ∈ l0, ok31 y) → (l1.length ≤ maxLen ∧ ∀ y ∈ l1, ok31 y) → ∃ k, laws_FnExactSameCores.f k l0 l1 = some true := by
  intro l0 l1 h0 h1
  obtain ⟨r, hr, hr1, hr2⟩ := szCoreS_ev l0 h0.2 h0.1 1048576 (by omega) (by omega)
  refine Ev.rounds (r := true) (Ev.congr (fun k => laws_FnExactSameCores.f.eq_1 k _ _) (Ev.bind hr (Ev.iff (fun _ => Ev.now _) (fun c => ?_))))
  obtain ⟨q, hq, hq1, hq2⟩ := szCoreS_ev l1 h1.2 h1.1 r (by omega) (by omega)
  refine Ev.bind hq (Ev.iff (fun _ => Ev.now _) (fun c2 => ?_))
  have z0 := hr2.resolve_left c
  have z1 := hq2.resolve_left c2
  have t0 := toCoreS_ev l0 z0.1 (fun x hx => (z0.2 x hx).1)
  have t1 := toCoreS_ev l1 z1.1 (fun x hx => (z1.2 x hx).1)
  have n0 : (l0.map convC).length ≤ 1048576 := by rw [List.length_map]; exact z0.1
  have n1 : (l1.map convC).length ≤ 1048576 := by rw [List.length_map]; exact z1.1
  have hi := implSameCores_ev (l0.map convC) (l1.map convC) n0 (convC_small (fun x hx => (z0.2 x hx).1))
  have hs := specSameCores_ev (l0.map convC) (l1.map convC) n0 (convC_small (fun x hx => (z0.2 x hx).1))
  exact Ev.bind t0 (Ev.bind t1 (Ev.bind hs (Ev.bind t0 (Ev.bind t1 (Ev.bind hi (Ev.ifn (by simp) (Ev.bind t0 (Ev.bind (eqCoreS_ev _ n0 (convC_small (fun x hx => (z0.2 x hx).1))) (Ev.ifp rfl (Ev.bind t1 (Ev.bind (eqCoreS_ev _ n1 (convC_small (fun x hx => (z1.2 x hx).1))) (Ev.ifp rfl (Ev.now _)))))))))))))
end Go.Proofs.Ytgbgioodifcdbaa.Pure
