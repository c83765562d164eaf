/- Proved: the pure statement behind the law FnExactGlobalsFault: whatever its argument, the law's plain function answers true. Conditions: the argument is a well formed value of its type. -/
import Derived.Test.YtigkkgikdpjdnaaDoorGlobLib
import Derived.Test.YtigkkgikdpjdnaaDoorGlobalLib
import Derived.Test.YtigkkgikdpjdnaaDoorA20
namespace Go.Proofs.YtigkkgikdpjdnaaDoor.Pure
open Go.RowKit Go.Proofs.YtigkkgikdpjdnaaDoor.A Go.Proofs.YtigkkgikdpjdnaaDoorW.PrintWords Go.Proofs.YtigkkgikdpjdnaaDoorW.PrintLast Go.Proofs.YtigkkgikdpjdnaaDoor.PL

theorem okG_conv (l0 : List S82) (h : ∀ y ∈ l0, ok82 y) : okG (l0.map convG) := by
  intro x hx
  obtain ⟨y, hy, rfl⟩ := List.mem_map.mp hx
  exact okG_sizes (h y hy)
theorem FnExactGlobalsFault : ∀ (l0 : List S82), (l0.length ≤ maxLen ∧ ∀ y ∈ l0, ok82 y) → ∃ k, laws_FnExactGlobalsFault.f k l0 = some true := by
  intro l0 h
  obtain ⟨r, hr, _, hr2⟩ := szGlobalS_ev l0 h.2 h.1 1048576 (by omega) (by omega)
  refine Ev.rounds (r := true) (Ev.congr (fun k => laws_FnExactGlobalsFault.f.eq_1 k _) (Ev.bind hr (Ev.iff (fun _ => Ev.now _) (fun c => ?_))))
  have t := toGlobalS_ev l0 (by omega)
  have hl : (l0.map convG).length ≤ 1048576 := by rw [List.length_map]; omega
  refine Ev.bind t (Ev.bind (specGlob_ev _ (okG_conv l0 h.2)) (Ev.bind t (Ev.bind (implGlob_ev _ (okG_conv l0 h.2)) (Ev.ifp rfl (Ev.bind t (Ev.bind (eqGlobalS_ev _ hl) (Ev.ifp rfl (Ev.now _))))))))
end Go.Proofs.YtigkkgikdpjdnaaDoor.Pure
