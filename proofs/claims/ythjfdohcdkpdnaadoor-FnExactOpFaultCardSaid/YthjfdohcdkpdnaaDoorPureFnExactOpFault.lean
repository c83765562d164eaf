/- Proved: the pure statement behind the law FnExactOpFault: whatever its arguments, the law's plain function answers true. Conditions: the arguments are well formed values of their types. -/
import Derived.Test.YthjfdohcdkpdnaaDoorOpFLib
import Derived.Test.YthjfdohcdkpdnaaDoorDatumLib
import Derived.Test.YthjfdohcdkpdnaaDoorOpLib
import Derived.Test.YthjfdohcdkpdnaaDoorA23
import Derived.Test.YthjfdohcdkpdnaaDoorA19
namespace Go.Proofs.YthjfdohcdkpdnaaDoor.Pure
open Go.RowKit Go.Proofs.YthjfdohcdkpdnaaDoor.A Go.Proofs.YthjfdohcdkpdnaaDoorW.PrintWords Go.Proofs.YthjfdohcdkpdnaaDoorW.PrintLast Go.Proofs.YthjfdohcdkpdnaaDoor.PL

theorem okDo_conv (l0 : List S130) (h : ∀ y ∈ l0, ok130 y) : okD (l0.map convD) := by
  intro x hx
  obtain ⟨y, hy, rfl⟩ := List.mem_map.mp hx
  have := (h y hy).2.2.2
  unfold maxLen at this
  exact this
theorem FnExactOpFault : ∀ (y0 : S64), (ok64 y0) → ∃ k, laws_FnExactOpFault.f k y0.f0 y0.f1 y0.f2 y0.f3 y0.f4 y0.f5 y0.f6 = some true := by
  intro x hx
  obtain ⟨r, hr, hr1, _, hr2⟩ := szOp_ev x 1048576 hx (by omega) (by omega)
  refine Ev.rounds (r := true) (Ev.congr (fun k => laws_FnExactOpFault.f.eq_1 k _ _ _ _ _ _ _) (Ev.bind hr (Ev.iff (fun _ => Ev.now _) (fun c => ?_))))
  have hl := hr2.resolve_left c
  have hs := hx.2.2.2.2.2.1
  have hd := hx.2.2.2.2.2.2
  unfold maxLen at hs
  have hl' : (x.f6.map convD).length ≤ 1048576 := by rw [List.length_map]; exact hl
  have t : Ev (fun k => laws_toOp.f k x.f0 x.f1 x.f2 x.f3 x.f4 x.f5 x.f6) (x.f0, x.f1, x.f2, x.f3, x.f4, x.f5, x.f6.map convD) := Ev.congr (fun k => laws_toOp.f.eq_1 k _ _ _ _ _ _ _) (Ev.bind (toDatumS_ev x.f6 hl) (Ev.now _))
  have ho := okDo_conv x.f6 hd.2
  have e : Ev (fun k => laws_eqOp.f k x.f0 x.f1 x.f2 x.f3 x.f4 x.f5 (x.f6.map convD) x.f0 x.f1 x.f2 x.f3 x.f4 x.f5 (x.f6.map convD)) true := Ev.congr (fun k => laws_eqOp.f.eq_1 k _ _ _ _ _ _ _ _ _ _ _ _ _ _) (Ev.ifp rfl (Ev.ifp rfl (Ev.ifp rfl (Ev.ifp rfl (Ev.ifp rfl (Ev.ifp rfl (Ev.bind (eqDatumS_ev _ hl') (Ev.ifp rfl (Ev.now _)))))))))
  exact Ev.bind t (Ev.bind (specOpFault_ev _ _ _ _ _ _ _ ho hs) (Ev.bind t (Ev.bind (implOpFault_ev _ _ _ _ _ _ _ ho hs hl') (Ev.ifp rfl (Ev.bind t (Ev.bind e (Ev.ifp rfl (Ev.now _))))))))
end Go.Proofs.YthjfdohcdkpdnaaDoor.Pure
