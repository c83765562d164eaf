/- Proved: the pure statement behind the law FnExactTokenText: whatever its arguments, the law's plain function answers true. Conditions: the arguments are well formed values of their types. -/
import Derived.Test.YthjfdohcdkpdnaaDoorTokLib
import Derived.Test.YthjfdohcdkpdnaaDoorNOk
import Derived.Test.YthjfdohcdkpdnaaDoorN4
import Derived.Test.YthjfdohcdkpdnaaDoorN1
import Derived.Test.YthjfdohcdkpdnaaDoorN3
namespace Go.Proofs.YthjfdohcdkpdnaaDoor.Pure
open Go.RowKit Go.Proofs.YthjfdohcdkpdnaaDoor.N Go.Proofs.YthjfdohcdkpdnaaDoorW.PrintWords Go.Proofs.YthjfdohcdkpdnaaDoorW.PrintLast Go.Proofs.YthjfdohcdkpdnaaDoor.PL

theorem FnExactTokenText : ∀ (y0 : S33), (ok33 y0) → ∃ k, laws_FnExactTokenText.f k y0.f0 y0.f1 y0.f2 = some true := by
  intro y0 h
  have hs := h.2.2
  unfold maxLen at hs
  obtain ⟨q, hq⟩ : ∃ q, laws_szToken.f y0.f0 y0.f1 y0.f2 1048576 = some q := by unfold laws_szToken.f; split <;> exact ⟨_, rfl⟩
  refine Ev.rounds (r := true) (Ev.congr (fun k => laws_FnExactTokenText.f.eq_1 k _ _ _) (Ev.bind0 hq (Ev.iff (fun _ => Ev.now _) (fun _ => ?_))))
  exact Ev.bind0 rfl (Ev.bind (specTokenText_ev _ _ _ hs) (Ev.bind0 rfl (Ev.bind (implTokenText_ev _ _ _ hs) (Ev.bind0 (a := true) (by unfold laws_eqTextResult.f; rw [if_pos rfl, if_pos rfl]) (Ev.ifp rfl (Ev.now _))))))
end Go.Proofs.YthjfdohcdkpdnaaDoor.Pure
