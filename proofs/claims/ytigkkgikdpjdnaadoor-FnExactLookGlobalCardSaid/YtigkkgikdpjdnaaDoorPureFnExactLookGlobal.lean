/- Proved: the pure statement behind the law FnExactLookGlobal: whatever its arguments, the law's plain function answers true. Conditions: the arguments are well formed values of their types. -/
import Derived.Test.YtigkkgikdpjdnaaDoorLookLib
import Derived.Test.YtigkkgikdpjdnaaDoorGlobalLib
import Derived.Test.YtigkkgikdpjdnaaDoorA21
namespace Go.Proofs.YtigkkgikdpjdnaaDoor.Pure
open Go.RowKit Go.Proofs.YtigkkgikdpjdnaaDoor.A Go.Proofs.YtigkkgikdpjdnaaDoorW.PrintWords Go.Proofs.YtigkkgikdpjdnaaDoorW.PrintLast Go.Proofs.YtigkkgikdpjdnaaDoor.PL

theorem okGl_conv (l0 : List S82) (h : ∀ y ∈ l0, ok82 y) : okG (l0.map convG) := by
  intro x hx
  obtain ⟨y, hy, rfl⟩ := List.mem_map.mp hx
  exact okG_sizes (h y hy)
theorem FnExactLookGlobal : ∀ (l0 : List S82) (a1 : ByteArray), (l0.length ≤ maxLen ∧ ∀ y ∈ l0, ok82 y) → (a1.size ≤ maxLen) → ∃ k, laws_FnExactLookGlobal.f k l0 a1 = some true := by
  intro l0 a1 h h1
  unfold maxLen at h1
  obtain ⟨r, hr, _, hr2⟩ := szGlobalS_ev l0 h.2 h.1 1048576 (by omega) (by omega)
  refine Ev.rounds (r := true) (Ev.congr (fun k => laws_FnExactLookGlobal.f.eq_1 k _ _) (Ev.iff (fun _ => Ev.now _) (fun _ => Ev.bind hr (Ev.iff (fun _ => Ev.now _) (fun c => ?_)))))
  have t := toGlobalS_ev l0 (by omega)
  have hl : (l0.map convG).length ≤ 1048576 := by rw [List.length_map]; omega
  obtain ⟨v, hi, hs⟩ := look_ev (l0.map convG) a1 (okGl_conv l0 h.2) h1 hl
  refine Ev.bind t (Ev.bind hs (Ev.bind t (Ev.bind hi (Ev.bind0 (a := true) ?_ (Ev.ifp rfl (Ev.bind t (Ev.bind (eqGlobalS_ev _ hl) (Ev.ifp rfl (Ev.now _)))))))))
  unfold laws_eqGlobalResult.f
  rw [if_pos rfl, eqGlobal_self, Option.bind_some, if_pos rfl]
end Go.Proofs.YtigkkgikdpjdnaaDoor.Pure
