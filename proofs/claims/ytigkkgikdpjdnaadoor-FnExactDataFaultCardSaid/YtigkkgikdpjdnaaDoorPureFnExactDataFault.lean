/- Proved: the pure statement behind the law FnExactDataFault: whatever its argument, the law's plain function answers true. Conditions: the argument is a well formed value of its type. -/
import Derived.Test.YtigkkgikdpjdnaaDoorDataFLib
import Derived.Test.YtigkkgikdpjdnaaDoorDatumLib
import Derived.Test.YtigkkgikdpjdnaaDoorA19
import Derived.Test.YtigkkgikdpjdnaaDoorA17
namespace Go.Proofs.YtigkkgikdpjdnaaDoor.Pure
open Go.RowKit Go.Proofs.YtigkkgikdpjdnaaDoor.A Go.Proofs.YtigkkgikdpjdnaaDoorW.PrintWords Go.Proofs.YtigkkgikdpjdnaaDoorW.PrintLast Go.Proofs.YtigkkgikdpjdnaaDoor.PL

theorem okD_conv (l0 : List S75) (h : ∀ y ∈ l0, ok75 y) : okD (l0.map convD) := by
  intro x hx
  obtain ⟨y, hy, rfl⟩ := List.mem_map.mp hx
  have := (h y hy).2.2.2
  unfold maxLen at this
  exact this
theorem FnExactDataFault : ∀ (l0 : List S75), (l0.length ≤ maxLen ∧ ∀ y ∈ l0, ok75 y) → ∃ k, laws_FnExactDataFault.f k l0 = some true := by
  intro l0 h
  obtain ⟨r, hr, _, hr2⟩ := szDatumS_ev l0 h.2 h.1 1048576 (by omega) (by omega)
  refine Ev.rounds (r := true) (Ev.congr (fun k => laws_FnExactDataFault.f.eq_1 k _) (Ev.bind hr (Ev.iff (fun _ => Ev.now _) (fun c => ?_))))
  have t := toDatumS_ev l0 (by omega)
  have hl : (l0.map convD).length ≤ 1048576 := by rw [List.length_map]; omega
  have hd := okD_conv l0 h.2
  refine Ev.bind t (Ev.bind (Ev.congr (fun k => spec_DataFault.f.eq_1 k _) (Ev.bind (l3Fault_ev _ hd) (Ev.now _))) (Ev.bind t (Ev.bind (implData_ev _ hd) (Ev.ifp rfl (Ev.bind t (Ev.bind (eqDatumS_ev _ hl) (Ev.ifp rfl (Ev.now _))))))))
end Go.Proofs.YtigkkgikdpjdnaaDoor.Pure
