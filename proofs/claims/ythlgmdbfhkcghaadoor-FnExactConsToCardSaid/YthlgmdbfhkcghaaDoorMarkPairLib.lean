/- Proved: what the laws' marks of a list of a struct's values come to. Conditions: those in each head. -/
import Derived.Test.YthlgmdbfhkcghaaDoorMarkLib
import Derived.Test.YthlgmdbfhkcghaaDoorA7
namespace Go.Proofs.YthlgmdbfhkcghaaDoor.A
open Go.RowKit Go.Proofs.YthlgmdbfhkcghaaDoorW.PrintWords Go.Proofs.YthlgmdbfhkcghaaDoorW.PrintLast Go.Proofs.YthlgmdbfhkcghaaDoor.PL
set_option linter.unusedSimpArgs false

theorem rdMPair_at {xs : List S70} {i : Nat} (h : i < xs.length) : rd_T70 xs (i : Int) = xs[i] := by simp [rd_T70, h]
theorem rdMPair_set {xs : List S70} {i : Nat} (h : i < xs.length) (v : S70) : rd_T70 (xs.set i v) (i : Int) = v := by simp [rd_T70, h]
noncomputable def markOfPair (c : Int) : S70 := ⟨⟨c, c + 1, mtxt (c + 1 + 1)⟩, ⟨c + 1 + 1 + 1, c + 1 + 1 + 1 + 1, mtxt (c + 1 + 1 + 1 + 1 + 1)⟩⟩
theorem markPairS_ev (xs : List S70) (hl : xs.length ≤ 1048576) (c : Int) (h0 : 0 ≤ c) (h1 : c + 6 * xs.length ≤ 1000000000000) : Ev (fun k => laws_markPairS.f k xs c) (c + 6 * xs.length, markL markOfPair 6 xs.length c) := by
  refine Ev.congr (fun k => laws_markPairS.f.eq_1 k _ _) (Ev.cast (mark_ev markOfPair 6 (fun k xs c i => laws_markPairS.l0 k xs c i) (fun xs c i hi hl h0 h1 r hr => ?_) (fun k xs c => by rw [laws_markPairS.l0.eq_2]; rw [if_neg (by omega)]) xs.length 0 xs c (by omega) hl h0 (by omega)) (by simp))
  refine Ev.step (fun k => laws_markPairS.l0.eq_2 _ _ _ k) (Ev.ifp (by omega) (Ev.ifp (by omega) ?_))
  rw [wrap_id (x := c + 1) (by omega) (by omega), wrap_id (x := c + 1 + 1) (by omega) (by omega), wrap_id (x := c + 1 + 1 + 1) (by omega) (by omega), wrap_id (x := c + 1 + 1 + 1 + 1) (by omega) (by omega), wrap_id (x := c + 1 + 1 + 1 + 1 + 1) (by omega) (by omega), wrap_id (x := c + 1 + 1 + 1 + 1 + 1 + 1) (by omega) (by omega), wrap_succ hi (by omega)]
  refine Ev.bind0 rfl (Ev.bind0 rfl (Ev.bind (mtxt_ev _ (by omega)) (Ev.bind0 rfl (Ev.bind0 rfl (Ev.bind0 rfl (Ev.bind (mtxt_ev _ (by omega)) ?_))))))
  have e : c + 1 + 1 + 1 + 1 + 1 + 1 = c + ((6 : Nat) : Int) := by omega
  rw [e]
  simp only [Int.toNat_natCast, List.set_set, rdMPair_set hi]
  exact hr
end Go.Proofs.YthlgmdbfhkcghaaDoor.A
