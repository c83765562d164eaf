/- Proved: the laws' marks of a list of a struct's values are read back. Conditions: those in each head. -/
import Derived.Test.YthlgmdbfhkcghaaDoorMarkPairLib
import Derived.Test.YthlgmdbfhkcghaaDoorA8
namespace Go.Proofs.YthlgmdbfhkcghaaDoor.A
open Go.RowKit Go.Proofs.YthlgmdbfhkcghaaDoorW.PrintWords Go.Proofs.YthlgmdbfhkcghaaDoorW.PrintLast Go.Proofs.YthlgmdbfhkcghaaDoor.PL
set_option linter.unusedSimpArgs false

theorem heldPairS_ev (n : Nat) (hl : n ≤ 1048576) (c : Int) (h0 : 0 ≤ c) (h1 : c + 6 * n ≤ 1000000000000) : Ev (fun k => laws_heldPairS.f k (markL markOfPair 6 n c) c) (c + 6 * n) := by
  refine Ev.congr (fun k => laws_heldPairS.f.eq_1 k _ _) (Ev.cast (held_ev markOfPair 6 (fun k xs c i => laws_heldPairS.l0 k xs c i) (fun xs c i hi hl h0 h1 hx r hr => ?_) (fun k xs c => by rw [laws_heldPairS.l0.eq_2]; rw [if_neg (by omega)]) (markL markOfPair 6 n c) n 0 c (by rw [markL_length]; omega) (by rw [markL_length]; omega) h0 (by omega) rfl) (by simp))
  have e : c + 1 + 1 + 1 + 1 + 1 + 1 = c + ((6 : Nat) : Int) := by omega
  refine Ev.step (fun k => laws_heldPairS.l0.eq_2 _ _ _ k) (Ev.ifp (by omega) (Ev.ifp (by omega) ?_))
  rw [rdMPair_at hi, hx, wrap_id (x := c + 1) (by omega) (by omega), wrap_id (x := c + 1 + 1) (by omega) (by omega), wrap_id (x := c + 1 + 1 + 1) (by omega) (by omega), wrap_id (x := c + 1 + 1 + 1 + 1) (by omega) (by omega), wrap_id (x := c + 1 + 1 + 1 + 1 + 1) (by omega) (by omega), wrap_id (x := c + 1 + 1 + 1 + 1 + 1 + 1) (by omega) (by omega), wrap_succ hi (by omega)]
  refine Ev.ifp rfl (Ev.ifp rfl (Ev.bind (mtxt_ev _ (by omega)) (Ev.ifp rfl (Ev.ifp rfl (Ev.ifp rfl (Ev.bind (mtxt_ev _ (by omega)) (Ev.ifp rfl ?_)))))))
  rw [e]
  exact hr
end Go.Proofs.YthlgmdbfhkcghaaDoor.A
