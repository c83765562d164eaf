/- Proved: the pure statement behind the law FnExactPutData: whatever its arguments, the law's plain function answers true. Conditions: the arguments are well formed values of their types. -/
import Derived.Test.YtolhanigjmhkgabDoorBaseLib
import Derived.Test.YtolhanigjmhkgabDoorA15
import Derived.Test.YtolhanigjmhkgabDoorA11
import Derived.Test.YtolhanigjmhkgabDoorA12
import Derived.Test.YtolhanigjmhkgabDoorA14
namespace Go.Proofs.YtolhanigjmhkgabDoor.Pure
open Go.RowKit Go.Proofs.YtolhanigjmhkgabDoor.A Go.Proofs.YtolhanigjmhkgabDoorW.PrintWords Go.Proofs.YtolhanigjmhkgabDoorW.PrintLast Go.Proofs.YtolhanigjmhkgabDoor.PL

theorem okPa_conv (l0 : List S45) (h : ∀ y ∈ l0, ok45 y) : okP (l0.map convP) := by
  intro x hx
  obtain ⟨y, hy, rfl⟩ := List.mem_map.mp hx
  exact okP_sizes (h y hy)
set_option maxHeartbeats 8000000 in
theorem FnExactPutData : ∀ (l0 : List S45) (l1 : List S48), (l0.length ≤ maxLen ∧ ∀ y ∈ l0, ok45 y) → (l1.length ≤ maxLen ∧ ∀ y ∈ l1, ok48 y) → ∃ k, laws_FnExactPutData.f k l0 l1 = some true := by
  intro l0 l2 h h2
  obtain ⟨r, hr, hr1, hr2⟩ := szPairS_ev l0 h.2 h.1 1048576 (by omega) (by omega)
  refine Ev.rounds (r := true) (Ev.congr (fun k => laws_FnExactPutData.f.eq_1 k _ _) (Ev.bind hr (Ev.iff (fun _ => Ev.now _) (fun c => ?_))))
  obtain ⟨q, hq, hq1, hq2⟩ := szDatumS_ev l2 h2.2 h2.1 r (by omega) hr1
  refine Ev.step (fun k => laws_FnExactPutData.j0.eq_2 _ _ _ k) (Ev.bind hq (Ev.iff (fun _ => Ev.now _) (fun c2 => ?_)))
  have t := toPairS_ev l0 (by omega)
  have t2 := toDatumS_ev l2 (by omega)
  have hl : (l0.map convP).length ≤ 1048576 := by rw [List.length_map]; omega
  have hl2 : (l2.map convD).length ≤ 1048576 := by rw [List.length_map]; omega
  have ho := okPa_conv l0 h.2
  have hv : okD (l2.map convD) := fun v hv => by
    obtain ⟨y, hy, rfl⟩ := List.mem_map.mp hv
    have := (h2.2 y hy).2.2.2
    unfold maxLen at this
    exact this
  have hi := implPutData_ev (l0.map convP) (l2.map convD) ho hv
  have hsp := specPutData_ev (l0.map convP) (l2.map convD) ho hv
  have hlen := putM_len (l0.map convP) (l2.map convD)
  generalize putM (l0.map convP) (l2.map convD) = R at hi hsp hlen
  obtain ⟨cc, l, K, M, s⟩ := R
  have hlen' : l.length ≤ 4010 := hlen
  have e1 := eqPairS_ev (l0.map convP) hl
  have e3 := eqDatumS_ev (l2.map convD) hl2
  have e2 : Ev (fun k => laws_eqValueResult.f k cc l K M s cc l K M s) true := Ev.congr (fun k => laws_eqValueResult.f.eq_1 k _ _ _ _ _ _ _ _ _ _) (Ev.ifp rfl (Ev.bind (eqPairS_ev l (by omega)) (Ev.ifp rfl (Ev.bind0 (eqValue_self K M s) (Ev.ifp rfl (Ev.now _))))))
  have m1 := markPairS_ev (l0.map convP) hl 1 (by omega) (by omega)
  have m1v := markDatumS_ev (l2.map convD) hl2 (1 + 6 * ((l0.map convP).length : Int)) (by omega) (by omega)
  have m2 : Ev (fun k => laws_markValueResult.f k cc l K M s 1) (1 + 6 * (l.length : Int), markL markOfPair 6 l.length 1) := Ev.congr (fun k => laws_markValueResult.f.eq_1 k _ _ _ _ _ _) (Ev.bind (markPairS_ev l (by omega) 1 (by omega) (by omega)) (Ev.now _))
  have m3 : Ev (fun k => laws_heldValueResult.f k cc (markL markOfPair 6 l.length 1) K M s 1) (1 + 6 * (l.length : Int)) := Ev.congr (fun k => laws_heldValueResult.f.eq_1 k _ _ _ _ _ _) (Ev.bind (heldPairS_ev l.length (by omega) 1 (by omega) (by omega)) (Ev.ifn (by omega) (Ev.now _)))
  refine Ev.step (fun k => laws_FnExactPutData.j1.eq_2 _ _ k) ?_
  refine Ev.bind t ?_
  refine Ev.bind t2 ?_
  refine Ev.bind hsp ?_
  refine Ev.bind t ?_
  refine Ev.bind t2 ?_
  refine Ev.bind hi ?_
  refine Ev.bind e2 ?_
  refine Ev.ifp (by first | rfl | assumption | omega | (dsimp only; omega)) ?_
  refine Ev.step (fun k => laws_FnExactPutData.j2.eq_2 _ _ _ _ _ _ _ _ _ _ _ _ _ _ k) ?_
  refine Ev.bind t ?_
  refine Ev.bind e1 ?_
  refine Ev.ifp (by first | rfl | assumption | omega | (dsimp only; omega)) ?_
  refine Ev.step (fun k => laws_FnExactPutData.j3.eq_2 _ _ _ _ _ _ _ _ _ _ _ _ _ _ k) ?_
  refine Ev.bind t2 ?_
  refine Ev.bind e3 ?_
  refine Ev.ifp (by first | rfl | assumption | omega | (dsimp only; omega)) ?_
  refine Ev.step (fun k => laws_FnExactPutData.j4.eq_2 _ _ _ _ _ _ _ _ _ _ _ _ _ _ k) ?_
  refine Ev.bind m1 ?_
  refine Ev.bind m1v ?_
  refine Ev.ifn (by first | decide | omega | (dsimp only; omega) | simp) ?_
  refine Ev.bind e2 ?_
  refine Ev.step (fun k => laws_FnExactPutData.j5.eq_2 _ _ _ _ _ _ _ _ _ _ _ _ _ k) ?_
  refine Ev.ifn (by first | decide | omega | (dsimp only; omega) | simp) ?_
  refine Ev.step (fun k => laws_FnExactPutData.j6.eq_2 _ _ _ _ _ _ _ _ _ _ _ _ k) ?_
  refine Ev.bind m2 ?_
  refine Ev.bind m3 ?_
  refine Ev.ifn (by first | decide | omega | (dsimp only; omega) | simp) ?_
  refine Ev.step (fun k => laws_FnExactPutData.j7.eq_2 _ _ _ _ _ _ _ _ _ _ _ _ _ _ k) ?_
  refine Ev.ifp (by first | rfl | assumption | omega | (dsimp only; omega)) ?_
  refine Ev.step (fun k => laws_FnExactPutData.j8.eq_2 _ _ _ _ _ _ _ _ _ _ _ _ _ k) ?_
  refine Ev.bind t ?_
  refine Ev.bind t2 ?_
  refine Ev.bind hi ?_
  refine Ev.bind e2 ?_
  refine Ev.ifp (by first | rfl | assumption | omega | (dsimp only; omega)) ?_
  refine Ev.step (fun k => laws_FnExactPutData.j9.eq_2 _ _ _ _ _ _ k) ?_
  refine Ev.bind m3 ?_
  refine Ev.ifn (by first | decide | omega | (dsimp only; omega) | simp) ?_
  refine Ev.ifp (by first | rfl | assumption | omega | (dsimp only; omega)) ?_
  exact Ev.now _
end Go.Proofs.YtolhanigjmhkgabDoor.Pure
