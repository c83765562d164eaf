/- Proved: what the laws' marks of numbers come to, and that they are read back. Conditions: those in each head. -/
import Derived.Test.YtaeeoljihmndfaaDoorMarkLib
import Derived.Test.YtaeeoljihmndfaaDoorA16
import Derived.Test.YtaeeoljihmndfaaDoorA16
import Derived.Test.YtaeeoljihmndfaaDoorA16
namespace Go.Proofs.YtaeeoljihmndfaaDoor.A
open Go.RowKit Go.Proofs.YtaeeoljihmndfaaDoorW.PrintWords Go.Proofs.YtaeeoljihmndfaaDoorW.PrintLast Go.Proofs.YtaeeoljihmndfaaDoor.PL
set_option linter.unusedSimpArgs false

theorem rdI_at {xs : List Int} {i : Nat} (h : i < xs.length) : rd xs (i : Int) = xs[i] := by simp [rd, h]
def markI (c : Int) : Int := c
theorem markInt64S_ev (xs : List Int) (hl : xs.length ≤ 1048576) (c : Int) (h0 : 0 ≤ c) (h1 : c + xs.length ≤ 1000000000000) : Ev (fun k => laws_markInt64S.f k xs c) (c + xs.length, markL markI 1 xs.length c) := by
  refine Ev.congr (fun k => laws_markInt64S.f.eq_1 k _ _) (Ev.cast (mark_ev markI 1 (fun k xs c i => laws_markInt64S.l0 k xs c i) (fun xs c i hi hl h0 h1 r hr => ?_) (fun k xs c => by rw [laws_markInt64S.l0.eq_2]; rw [if_neg (by omega)]) xs.length 0 xs c (by omega) hl h0 (by omega)) (by simp))
  refine Ev.step (fun k => laws_markInt64S.l0.eq_2 _ _ _ k) (Ev.ifp (by omega) (Ev.ifp (by omega) ?_))
  rw [wrap_id (x := c + 1) (by omega) (by omega), wrap_succ hi (by omega)]
  simp only [Int.toNat_natCast]
  exact hr
theorem heldInt64S_ev (n : Nat) (hl : n ≤ 1048576) (c : Int) (h0 : 0 ≤ c) (h1 : c + n ≤ 1000000000000) : Ev (fun k => laws_heldInt64S.f k (markL markI 1 n c) c) (c + n) := by
  refine Ev.congr (fun k => laws_heldInt64S.f.eq_1 k _ _) (Ev.cast (held_ev markI 1 (fun k xs c i => laws_heldInt64S.l0 k xs c i) (fun xs c i hi hl h0 h1 hx r hr => ?_) (fun k xs c => by rw [laws_heldInt64S.l0.eq_2]; rw [if_neg (by omega)]) (markL markI 1 n c) n 0 c (by rw [markL_length]; omega) (by rw [markL_length]; omega) h0 (by omega) rfl) (by simp))
  refine Ev.step (fun k => laws_heldInt64S.l0.eq_2 _ _ _ k) (Ev.ifp (by omega) (Ev.ifp (by omega) (Ev.ifp ?_ ?_)))
  · rw [rdI_at hi, hx]; rfl
  · rw [wrap_id (x := c + 1) (by omega) (by omega), wrap_succ hi (by omega)]
    exact hr
theorem eqInt64S_ev (xs : List Int) (hl : xs.length ≤ 1048576) : Ev (fun k => laws_eqInt64S.f k xs xs) true := by
  refine Ev.congr (fun k => ?_) (PL.all_ev xs.length (fun k i => laws_eqInt64S.l0 k xs xs i) true (fun k i hi => by
    simp only [laws_eqInt64S.l0]
    rw [if_pos (by omega), if_pos (by omega), if_pos (by omega), if_pos trivial, PL.wrap_succ hi (by omega)]) (fun k => by simp only [laws_eqInt64S.l0]; rw [if_neg (by omega)]) xs.length 0 (by omega))
  unfold laws_eqInt64S.f
  rw [if_pos rfl]
  rfl
end Go.Proofs.YtaeeoljihmndfaaDoor.A
