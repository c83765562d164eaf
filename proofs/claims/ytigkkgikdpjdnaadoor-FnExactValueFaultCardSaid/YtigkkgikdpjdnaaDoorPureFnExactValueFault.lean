/- Proved: the pure statement behind the law FnExactValueFault: whatever its argument, the law's plain function answers true. Conditions: the argument is a well formed value of its type. -/
import Derived.Test.YtigkkgikdpjdnaaDoorValueLib
import Derived.Test.YtigkkgikdpjdnaaDoorA3
import Derived.Test.YtigkkgikdpjdnaaDoorAOk
namespace Go.Proofs.YtigkkgikdpjdnaaDoor.Pure
open Go.RowKit Go.Proofs.YtigkkgikdpjdnaaDoor.A Go.Proofs.YtigkkgikdpjdnaaDoorW.PrintWords Go.Proofs.YtigkkgikdpjdnaaDoorW.PrintLast Go.Proofs.YtigkkgikdpjdnaaDoor.PL

theorem FnExactValueFault : ∀ (y0 : S25), (ok25 y0) → ∃ k, laws_FnExactValueFault.f k y0.f0 y0.f1 y0.f2 = some true := by
  intro y0 h
  have hs : y0.f2.size ≤ 9223372036854775807 := by have := h.2.2; unfold maxLen at this; exact this
  refine Ev.rounds (r := true) (Ev.congr (fun k => laws_FnExactValueFault.f.eq_1 k _ _ _) ?_)
  have hsz : ∃ r, laws_szValue.f y0.f0 y0.f1 y0.f2 1048576 = some r := by unfold laws_szValue.f; split <;> exact ⟨_, rfl⟩
  obtain ⟨r, hr⟩ := hsz
  refine Ev.bind0 hr (Ev.iff (fun _ => Ev.now _) (fun _ => ?_))
  exact Ev.bind0 rfl (Ev.bind (specValue_ev _ _ _ hs) (Ev.bind0 rfl (Ev.bind (implValue_ev _ _ _ hs) (Ev.ifp rfl (Ev.now _)))))
end Go.Proofs.YtigkkgikdpjdnaaDoor.Pure
