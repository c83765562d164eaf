/- Proved: the pure statement behind the law FnExactHeapFault: whatever its argument, the law's plain function answers true. Conditions: the argument is a well formed value of its type. -/
import Derived.Test.YtigkkgikdpjdnaaDoorHeapLib
import Derived.Test.YtigkkgikdpjdnaaDoorPairLib
import Derived.Test.YtigkkgikdpjdnaaDoorA5
namespace Go.Proofs.YtigkkgikdpjdnaaDoor.Pure
open Go.RowKit Go.Proofs.YtigkkgikdpjdnaaDoor.A Go.Proofs.YtigkkgikdpjdnaaDoorW.PrintWords Go.Proofs.YtigkkgikdpjdnaaDoorW.PrintLast Go.Proofs.YtigkkgikdpjdnaaDoor.PL

theorem okP_conv (l0 : List S67) (h : ∀ y ∈ l0, ok67 y) : okP (l0.map convP) := by
  intro x hx
  obtain ⟨y, hy, rfl⟩ := List.mem_map.mp hx
  exact okP_sizes (h y hy)
theorem FnExactHeapFault : ∀ (l0 : List S67), (l0.length ≤ maxLen ∧ ∀ y ∈ l0, ok67 y) → ∃ k, laws_FnExactHeapFault.f k l0 = some true := by
  intro l0 h
  obtain ⟨r, hr, _, hr2⟩ := szPairS_ev l0 h.2 h.1 1048576 (by omega) (by omega)
  refine Ev.rounds (r := true) (Ev.congr (fun k => laws_FnExactHeapFault.f.eq_1 k _) (Ev.bind hr (Ev.iff (fun _ => Ev.now _) (fun c => ?_))))
  have t := toPairS_ev l0 (by omega)
  have hl : (l0.map convP).length ≤ 1048576 := by rw [List.length_map]; omega
  refine Ev.bind t (Ev.bind (specHeap_ev _ (okP_conv l0 h.2)) (Ev.bind t (Ev.bind (implHeap_ev _ (okP_conv l0 h.2)) (Ev.ifp rfl (Ev.bind t (Ev.bind (eqPairS_ev _ hl) (Ev.ifp rfl (Ev.now _))))))))
end Go.Proofs.YtigkkgikdpjdnaaDoor.Pure
