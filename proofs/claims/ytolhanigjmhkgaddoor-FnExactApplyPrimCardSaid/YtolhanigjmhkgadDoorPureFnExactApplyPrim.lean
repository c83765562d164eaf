/- Proved: the pure statement behind the law FnExactApplyPrim: whatever its arguments, the law's plain function answers true. Conditions: the arguments are well formed values of their types. -/
import Derived.Test.YtolhanigjmhkgadDoorBaseLib
import Derived.Test.YtolhanigjmhkgadDoorA19
import Derived.Test.YtolhanigjmhkgadDoorA15
import Derived.Test.YtolhanigjmhkgadDoorA16
import Derived.Test.YtolhanigjmhkgadDoorA18
import Derived.Test.YtolhanigjmhkgadDoorA2
import Derived.Test.YtolhanigjmhkgadDoorA8
namespace Go.Proofs.YtolhanigjmhkgadDoor.Pure
open Go.RowKit Go.Proofs.YtolhanigjmhkgadDoor.A Go.Proofs.YtolhanigjmhkgadDoorW.PrintWords Go.Proofs.YtolhanigjmhkgadDoorW.PrintLast Go.Proofs.YtolhanigjmhkgadDoor.PL

theorem okPa_conv (l0 : List S45) (h : ∀ y ∈ l0, ok45 y) : okP (l0.map convP) := by
  intro x hx
  obtain ⟨y, hy, rfl⟩ := List.mem_map.mp hx
  exact okP_sizes (h y hy)
theorem rdVa_at {xs : List S28} {i : Nat} (h : i < xs.length) : rd_T28 xs (i : Int) = xs[i] := by simp [rd_T28, h]
theorem rdLVa_at {xs : List S43} {i : Nat} (h : i < xs.length) : rd_T43 xs (i : Int) = xs[i] := by simp [rd_T43, h]
theorem eqValueSa_ev (xs : List S28) (hl : xs.length ≤ 1048576) : Ev (fun k => laws_eqValueS.f k xs xs) true := by
  refine Ev.congr (fun k => ?_) (PL.all_ev xs.length (fun k i => laws_eqValueS.l0 k xs xs i) true (fun k i hi => by
    simp only [laws_eqValueS.l0]
    rw [if_pos (by omega), if_pos (by omega), if_pos (by omega), eqValue_self, Option.bind_some, if_pos rfl, PL.wrap_succ hi (by omega)]) (fun k => by simp only [laws_eqValueS.l0]; rw [if_neg (by omega)]) xs.length 0 (by omega))
  unfold laws_eqValueS.f
  rw [if_pos rfl]
  rfl
theorem toValueSa_ev (xs : List S43) (hl : xs.length ≤ 1048576) : Ev (fun k => laws_toValueS.f k xs) (xs.map convV) := by
  refine Ev.congr (fun k => ?_) (PL.to_ev xs convV z28 (fun k out i => laws_toValueS.l0 k xs out i) (fun k out i hi ho => by
    simp only [laws_toValueS.l0, laws_toValue.f]
    rw [if_pos (by omega), if_pos (by omega), Option.bind_some, if_pos (by omega), rdLVa_at hi, PL.wrap_succ hi (by omega)]
    rfl) (fun k out ho => by simp only [laws_toValueS.l0]; rw [if_neg (by omega)]))
  unfold laws_toValueS.f
  rw [if_pos (by omega), if_pos (by omega)]
  rfl
theorem szValueSa_ev (xs : List S43) (hx : ∀ y ∈ xs, ok43 y) (hl : xs.length ≤ maxLen) (left : Int) (h0 : 0 ≤ left) (h1 : left ≤ 1048576) :
    ∃ r, Ev (fun k => laws_szValueS.f k xs left) r ∧ (r < 0 ∨ xs.length ≤ 1048576) := by
  unfold maxLen at hl
  have hw : wrap64 (left - (xs.length : Int)) = left - (xs.length : Int) := PL.wrap_id (by omega) (by omega)
  by_cases c : left - (xs.length : Int) < 0
  · refine ⟨-1, Ev.congr (f := fun _ => some (-1)) (fun k => ?_) (Ev.now _), .inl (by omega)⟩
    unfold laws_szValueS.f
    rw [hw, if_pos c]
  · obtain ⟨r, hr, hr1⟩ := PL.sz_ev xs (fun k left i => laws_szValueS.l0 k xs left i) (fun left i hi h0 h1 => by
      obtain ⟨r, hr, hr1, hr2⟩ := szValue_eq xs[i].f0 xs[i].f1 xs[i].f2 left (hx xs[i] (List.getElem_mem hi)).2.2 h0 h1
      refine ⟨r, hr1, ?_⟩
      by_cases c : r < 0
      · refine .inl ⟨c, fun k => ?_⟩
        simp only [laws_szValueS.l0]
        rw [if_pos (by omega), if_pos (by omega), rdLVa_at hi, hr, Option.bind_some, if_pos c]
      · refine .inr ⟨by omega, fun k => ?_⟩
        simp only [laws_szValueS.l0]
        rw [if_pos (by omega), if_pos (by omega), rdLVa_at hi, hr, Option.bind_some, if_neg c, PL.wrap_succ hi (by omega)]) (fun k left => by simp only [laws_szValueS.l0]; rw [if_neg (by omega)]) xs.length 0 (left - (xs.length : Int)) (by omega) (by omega) (by omega)
    refine ⟨r, Ev.congr (fun k => ?_) hr, .inr (by omega)⟩
    unfold laws_szValueS.f
    rw [hw, if_neg c]
    rfl
set_option maxHeartbeats 8000000 in
theorem FnExactApplyPrim : ∀ (l0 : List S45) (a1 : Int) (l2 : List S43), (l0.length ≤ maxLen ∧ ∀ y ∈ l0, ok45 y) → ((Lit.int .i64 a1).wf = true) → (l2.length ≤ maxLen ∧ ∀ y ∈ l2, ok43 y) → ∃ k, laws_FnExactApplyPrim.f k l0 a1 l2 = some true := by
  intro l0 a1 l2 h _ h2
  obtain ⟨r, hr, hr1, hr2⟩ := szPairS_ev l0 h.2 h.1 1048576 (by omega) (by omega)
  refine Ev.rounds (r := true) (Ev.congr (fun k => laws_FnExactApplyPrim.f.eq_1 k _ _ _) (Ev.bind hr (Ev.iff (fun _ => Ev.now _) (fun c => ?_))))
  obtain ⟨q, hq, hq2⟩ := szValueSa_ev l2 h2.2 h2.1 r (by omega) hr1
  refine Ev.step (fun k => laws_FnExactApplyPrim.j0.eq_2 _ _ _ _ k) (Ev.bind hq (Ev.iff (fun _ => Ev.now _) (fun c2 => ?_)))
  have t := toPairS_ev l0 (by omega)
  have t2 := toValueSa_ev l2 (by omega)
  have hl : (l0.map convP).length ≤ 1048576 := by rw [List.length_map]; omega
  have hl2 : (l2.map convV).length ≤ 1048576 := by rw [List.length_map]; omega
  have ho := okPa_conv l0 h.2
  have hv : ∀ v ∈ l2.map convV, okS v.f2 := fun v hv => by
    obtain ⟨y, hy, rfl⟩ := List.mem_map.mp hv
    have := (h2.2 y hy).2.2
    unfold maxLen at this
    exact this
  have hi := implApply_ev (l0.map convP) a1 (l2.map convV) ho hv
  have hsp := specApply_ev (l0.map convP) a1 (l2.map convV) ho hv
  have hlen := applyM_len (l0.map convP) a1 (l2.map convV)
  generalize applyM (l0.map convP) a1 (l2.map convV) = R at hi hsp hlen
  obtain ⟨cc, l, K, M, s⟩ := R
  have hlen' : l.length ≤ 4010 := hlen
  have e1 := eqPairS_ev (l0.map convP) hl
  have e3 := eqValueSa_ev (l2.map convV) hl2
  have e2 : Ev (fun k => laws_eqValueResult.f k cc l K M s cc l K M s) true := Ev.congr (fun k => laws_eqValueResult.f.eq_1 k _ _ _ _ _ _ _ _ _ _) (Ev.ifp rfl (Ev.bind (eqPairS_ev l (by omega)) (Ev.ifp rfl (Ev.bind0 (eqValue_self K M s) (Ev.ifp rfl (Ev.now _))))))
  have m1 := markPairS_ev (l0.map convP) hl 1 (by omega) (by omega)
  have m1v := markValueS_ev (l2.map convV) hl2 (1 + 6 * ((l0.map convP).length : Int)) (by omega) (by omega)
  have m2 : Ev (fun k => laws_markValueResult.f k cc l K M s 1) (1 + 6 * (l.length : Int), markL markOfPair 6 l.length 1) := Ev.congr (fun k => laws_markValueResult.f.eq_1 k _ _ _ _ _ _) (Ev.bind (markPairS_ev l (by omega) 1 (by omega) (by omega)) (Ev.now _))
  have m3 : Ev (fun k => laws_heldValueResult.f k cc (markL markOfPair 6 l.length 1) K M s 1) (1 + 6 * (l.length : Int)) := Ev.congr (fun k => laws_heldValueResult.f.eq_1 k _ _ _ _ _ _) (Ev.bind (heldPairS_ev l.length (by omega) 1 (by omega) (by omega)) (Ev.ifn (by omega) (Ev.now _)))
  refine Ev.step (fun k => laws_FnExactApplyPrim.j1.eq_2 _ _ _ k) ?_
  refine Ev.bind t ?_
  refine Ev.bind t2 ?_
  refine Ev.bind hsp ?_
  refine Ev.bind t ?_
  refine Ev.bind t2 ?_
  refine Ev.bind hi ?_
  refine Ev.bind e2 ?_
  refine Ev.ifp (by first | rfl | assumption | omega | (dsimp only; omega)) ?_
  refine Ev.step (fun k => laws_FnExactApplyPrim.j2.eq_2 _ _ _ _ _ _ _ _ _ _ _ _ _ _ _ k) ?_
  refine Ev.bind t ?_
  refine Ev.bind e1 ?_
  refine Ev.ifp (by first | rfl | assumption | omega | (dsimp only; omega)) ?_
  refine Ev.step (fun k => laws_FnExactApplyPrim.j3.eq_2 _ _ _ _ _ _ _ _ _ _ _ _ _ _ _ k) ?_
  refine Ev.bind t2 ?_
  refine Ev.bind e3 ?_
  refine Ev.ifp (by first | rfl | assumption | omega | (dsimp only; omega)) ?_
  refine Ev.step (fun k => laws_FnExactApplyPrim.j4.eq_2 _ _ _ _ _ _ _ _ _ _ _ _ _ _ _ k) ?_
  refine Ev.bind m1 ?_
  refine Ev.bind m1v ?_
  refine Ev.ifn (by first | decide | omega | (dsimp only; omega) | simp) ?_
  refine Ev.bind e2 ?_
  refine Ev.step (fun k => laws_FnExactApplyPrim.j5.eq_2 _ _ _ _ _ _ _ _ _ _ _ _ _ _ k) ?_
  refine Ev.ifn (by first | decide | omega | (dsimp only; omega) | simp) ?_
  refine Ev.step (fun k => laws_FnExactApplyPrim.j6.eq_2 _ _ _ _ _ _ _ _ _ _ _ _ _ k) ?_
  refine Ev.bind m2 ?_
  refine Ev.bind m3 ?_
  refine Ev.ifn (by first | decide | omega | (dsimp only; omega) | simp) ?_
  refine Ev.step (fun k => laws_FnExactApplyPrim.j7.eq_2 _ _ _ _ _ _ _ _ _ _ _ _ _ _ _ k) ?_
  refine Ev.ifp (by first | rfl | assumption | omega | (dsimp only; omega)) ?_
  refine Ev.step (fun k => laws_FnExactApplyPrim.j8.eq_2 _ _ _ _ _ _ _ _ _ _ _ _ _ _ k) ?_
  refine Ev.bind t ?_
  refine Ev.bind t2 ?_
  refine Ev.bind hi ?_
  refine Ev.bind e2 ?_
  refine Ev.ifp (by first | rfl | assumption | omega | (dsimp only; omega)) ?_
  refine Ev.step (fun k => laws_FnExactApplyPrim.j9.eq_2 _ _ _ _ _ _ k) ?_
  refine Ev.bind m3 ?_
  refine Ev.ifn (by first | decide | omega | (dsimp only; omega) | simp) ?_
  refine Ev.ifp (by first | rfl | assumption | omega | (dsimp only; omega)) ?_
  exact Ev.now _
end Go.Proofs.YtolhanigjmhkgadDoor.Pure
