/- Proved: the pure statement behind the law FnExactTokensText: whatever its arguments, the law's plain function answers true. Conditions: the arguments are well formed values of their types. -/
import Derived.Test.YthjfdohcdkpdnaaDoorToksLib
import Derived.Test.YthjfdohcdkpdnaaDoorTokenLib
import Derived.Test.YthjfdohcdkpdnaaDoorJ5
import Derived.Test.YthjfdohcdkpdnaaDoorJ1
namespace Go.Proofs.YthjfdohcdkpdnaaDoor.Pure
open Go.RowKit Go.Proofs.YthjfdohcdkpdnaaDoor.J Go.Proofs.YthjfdohcdkpdnaaDoorW.PrintWords Go.Proofs.YthjfdohcdkpdnaaDoorW.PrintLast Go.Proofs.YthjfdohcdkpdnaaDoor.PL

theorem FnExactTokensText : ∀ (l0 : List S33), (l0.length ≤ maxLen ∧ ∀ y ∈ l0, ok33 y) → ∃ k, laws_FnExactTokensText.f k l0 = some true := by
  intro l0 h
  obtain ⟨r, hr, _, hr2⟩ := szTokenS_ev l0 h.2 h.1 1048576 (by omega) (by omega)
  refine Ev.rounds (r := true) (Ev.congr (fun k => laws_FnExactTokensText.f.eq_1 k _) (Ev.bind hr (Ev.iff (fun _ => Ev.now _) (fun c => ?_))))
  have t := toTokenS_ev l0 (by omega)
  have hl : (l0.map convT).length ≤ 1048576 := by rw [List.length_map]; omega
  have ho : okT (l0.map convT) := by
    intro x hx
    obtain ⟨y, hy, rfl⟩ := List.mem_map.mp hx
    have := (h.2 y hy).2.2
    unfold maxLen at this
    exact this
  exact Ev.bind t (Ev.bind (specTokens_ev _ ho) (Ev.bind t (Ev.bind (implTokens_ev _ ho) (Ev.bind0 (a := true) (by unfold laws_eqTextResult.f; rw [if_pos rfl, if_pos rfl]) (Ev.ifp rfl (Ev.bind t (Ev.bind (eqTokenS_ev _ hl) (Ev.ifp rfl (Ev.now _)))))))))
end Go.Proofs.YthjfdohcdkpdnaaDoor.Pure
