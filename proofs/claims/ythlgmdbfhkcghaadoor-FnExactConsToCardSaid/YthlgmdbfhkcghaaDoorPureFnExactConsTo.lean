/- Proved: the pure statement behind the law FnExactConsTo: whatever its arguments, the law's plain function answers true. Conditions: the arguments are well formed values of their types. -/
import Derived.Test.YthlgmdbfhkcghaaDoorConsLib
import Derived.Test.YthlgmdbfhkcghaaDoorPairLib
import Derived.Test.YthlgmdbfhkcghaaDoorMarkPair2Lib
import Derived.Test.YthlgmdbfhkcghaaDoorA10
import Derived.Test.YthlgmdbfhkcghaaDoorA1
import Derived.Test.YthlgmdbfhkcghaaDoorA6
import Derived.Test.YthlgmdbfhkcghaaDoorA7
import Derived.Test.YthlgmdbfhkcghaaDoorA9
namespace Go.Proofs.YthlgmdbfhkcghaaDoor.Pure
open Go.RowKit Go.Proofs.YthlgmdbfhkcghaaDoor.A Go.Proofs.YthlgmdbfhkcghaaDoorW.PrintWords Go.Proofs.YthlgmdbfhkcghaaDoorW.PrintLast Go.Proofs.YthlgmdbfhkcghaaDoor.PL

theorem okPc_conv (l0 : List S86) (h : ∀ y ∈ l0, ok86 y) : okP (l0.map convP) := by
  intro x hx
  obtain ⟨y, hy, rfl⟩ := List.mem_map.mp hx
  exact okP_sizes (h y hy)
theorem szValueC_some (K M : Int) (s : ByteArray) (left : Int) : ∃ q, laws_szValue.f K M s left = some q := by
  unfold laws_szValue.f
  split <;> exact ⟨_, rfl⟩
set_option maxHeartbeats 8000000 in
theorem FnExactConsTo : ∀ (l0 : List S86) (y1 : S24) (y2 : S24), (l0.length ≤ maxLen ∧ ∀ y ∈ l0, ok86 y) → (ok24 y1) → (ok24 y2) → ∃ k, laws_FnExactConsTo.f k l0 y1.f0 y1.f1 y1.f2 y2.f0 y2.f1 y2.f2 = some true := by
  intro l0 y1 y2 h h1 h2
  have hs1 := h1.2.2
  have hs2 := h2.2.2
  unfold maxLen at hs1 hs2
  obtain ⟨r, hr, hr1, hr2⟩ := szPairS_ev l0 h.2 h.1 1048576 (by omega) (by omega)
  refine Ev.rounds (r := true) (Ev.congr (fun k => laws_FnExactConsTo.f.eq_1 k _ _ _ _ _ _ _) (Ev.bind hr (Ev.iff (fun _ => Ev.now _) (fun c => ?_))))
  obtain ⟨q1, hq1⟩ := szValueC_some y1.f0 y1.f1 y1.f2 r
  obtain ⟨q2, hq2⟩ := szValueC_some y2.f0 y2.f1 y2.f2 q1
  have t := toPairS_ev l0 (by omega)
  have hl : (l0.map convP).length ≤ 1048576 := by rw [List.length_map]; omega
  have ho := okPc_conv l0 h.2
  have hi := implConsTo_ev (l0.map convP) (convV y1) (convV y2) ho hs1 hs2
  have hsp := specConsTo_ev (l0.map convP) (convV y1) (convV y2) ho hs1 hs2
  have hlen := consM_len (l0.map convP) (convV y1) (convV y2)
  generalize consM (l0.map convP) (convV y1) (convV y2) = R at hi hsp hlen
  obtain ⟨cc, l, K, M, s⟩ := R
  have hlen' : l.length ≤ 4000 := hlen
  have e1 := eqPairS_ev (l0.map convP) hl
  have e2 : Ev (fun k => laws_eqValueResult.f k cc l K M s cc l K M s) true := Ev.congr (fun k => laws_eqValueResult.f.eq_1 k _ _ _ _ _ _ _ _ _ _) (Ev.ifp rfl (Ev.bind (eqPairS_ev l (by omega)) (Ev.ifp rfl (Ev.bind0 (eqValue_self K M s) (Ev.ifp rfl (Ev.now _))))))
  have m1 := markPairS_ev (l0.map convP) hl 1 (by omega) (by omega)
  have m2 : Ev (fun k => laws_markValueResult.f k cc l K M s 1) (1 + 6 * (l.length : Int), markL markOfPair 6 l.length 1) := Ev.congr (fun k => laws_markValueResult.f.eq_1 k _ _ _ _ _ _) (Ev.bind (markPairS_ev l (by omega) 1 (by omega) (by omega)) (Ev.now _))
  have m3 : Ev (fun k => laws_heldValueResult.f k cc (markL markOfPair 6 l.length 1) K M s 1) (1 + 6 * (l.length : Int)) := Ev.congr (fun k => laws_heldValueResult.f.eq_1 k _ _ _ _ _ _) (Ev.bind (heldPairS_ev l.length (by omega) 1 (by omega) (by omega)) (Ev.ifn (by omega) (Ev.now _)))
  refine Ev.step (fun k => laws_FnExactConsTo.j0.eq_2 _ _ _ _ _ _ _ _ k) ?_
  refine Ev.bind0 hq1 ?_
  refine Ev.iff (fun _ => Ev.now _) (fun _ => ?_)
  refine Ev.step (fun k => laws_FnExactConsTo.j1.eq_2 _ _ _ _ _ _ _ _ k) ?_
  refine Ev.bind0 hq2 ?_
  refine Ev.iff (fun _ => Ev.now _) (fun _ => ?_)
  refine Ev.step (fun k => laws_FnExactConsTo.j2.eq_2 _ _ _ _ _ _ _ k) ?_
  refine Ev.bind t ?_
  refine Ev.bind0 rfl ?_
  refine Ev.bind0 rfl ?_
  refine Ev.bind hsp ?_
  refine Ev.bind t ?_
  refine Ev.bind0 rfl ?_
  refine Ev.bind0 rfl ?_
  refine Ev.bind hi ?_
  refine Ev.bind e2 ?_
  refine Ev.ifp (by first | rfl | assumption | omega | (dsimp only; omega)) ?_
  refine Ev.step (fun k => laws_FnExactConsTo.j3.eq_2 _ _ _ _ _ _ _ _ _ _ _ _ _ _ _ _ _ _ k) ?_
  refine Ev.bind t ?_
  refine Ev.bind e1 ?_
  refine Ev.ifp (by first | rfl | assumption | omega | (dsimp only; omega)) ?_
  refine Ev.step (fun k => laws_FnExactConsTo.j4.eq_2 _ _ _ _ _ _ _ _ _ _ _ _ _ _ _ _ _ _ k) ?_
  refine Ev.bind m1 ?_
  refine Ev.ifn (by first | decide | omega | (dsimp only; omega) | simp) ?_
  refine Ev.bind e2 ?_
  refine Ev.step (fun k => laws_FnExactConsTo.j5.eq_2 _ _ _ _ _ _ _ _ _ _ _ _ _ _ _ _ _ _ k) ?_
  refine Ev.ifn (by first | decide | omega | (dsimp only; omega) | simp) ?_
  refine Ev.step (fun k => laws_FnExactConsTo.j6.eq_2 _ _ _ _ _ _ _ _ _ _ _ _ _ _ _ _ _ k) ?_
  refine Ev.bind m2 ?_
  refine Ev.bind m3 ?_
  refine Ev.ifn (by first | decide | omega | (dsimp only; omega) | simp) ?_
  refine Ev.step (fun k => laws_FnExactConsTo.j7.eq_2 _ _ _ _ _ _ _ _ _ _ _ _ _ _ _ _ _ _ _ k) ?_
  refine Ev.ifp (by first | rfl | assumption | omega | (dsimp only; omega)) ?_
  refine Ev.step (fun k => laws_FnExactConsTo.j8.eq_2 _ _ _ _ _ _ _ _ _ _ _ _ _ _ _ _ _ _ k) ?_
  refine Ev.bind t ?_
  refine Ev.bind0 rfl ?_
  refine Ev.bind0 rfl ?_
  refine Ev.bind hi ?_
  refine Ev.bind e2 ?_
  refine Ev.ifp (by first | rfl | assumption | omega | (dsimp only; omega)) ?_
  refine Ev.step (fun k => laws_FnExactConsTo.j9.eq_2 _ _ _ _ _ _ k) ?_
  refine Ev.bind m3 ?_
  refine Ev.ifn (by first | decide | omega | (dsimp only; omega) | simp) ?_
  refine Ev.ifp (by first | rfl | assumption | omega | (dsimp only; omega)) ?_
  exact Ev.now _
end Go.Proofs.YthlgmdbfhkcghaaDoor.Pure
