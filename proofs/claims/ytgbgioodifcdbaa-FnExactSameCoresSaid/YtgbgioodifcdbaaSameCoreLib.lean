/- Proved: what the program's and the reference's comparisons of cores come to. Conditions: those in each head. -/
import Derived.Test.YtgbgioodifcdbaaSameLib
import Derived.Test.YtgbgioodifcdbaaC3
import Derived.Test.YtgbgioodifcdbaaC4
namespace Go.Proofs.Ytgbgioodifcdbaa.C
open Go.RowKit Go.Proofs.YtgbgioodifcdbaaW.PrintWords Go.Proofs.YtgbgioodifcdbaaW.PrintLast Go.Proofs.Ytgbgioodifcdbaa.PL
set_option linter.unusedSimpArgs false

def eqCoreB (x y : S34) : Bool := if x.f0 = y.f0 then (if x.f1 = y.f1 then (if x.f2 = y.f2 then (if x.f3 = y.f3 then (if x.f4.toList = y.f4.toList then sameD x.f5 y.f5 else false) else false) else false) else false) else false
/-- Are two lists of cores the same? -/
def sameC (xs ys : List S34) : Bool := if (xs.length : Int) = (ys.length : Int) then allB (fun i => eqCoreB (rd_T34 xs (i : Int)) (rd_T34 ys (i : Int))) xs.length else false
theorem eqCore1_ev (x y : S34) (h : x.f5.length ≤ 1048576) : Ev (fun k => impl_SameCores_1.f k x.f0 x.f1 x.f2 x.f3 x.f4 x.f5 y.f0 y.f1 y.f2 y.f3 y.f4 y.f5) (eqCoreB x y) := by
  refine Ev.congr (fun k => impl_SameCores_1.f.eq_1 k _ _ _ _ _ _ _ _ _ _ _ _) ?_
  refine Ev.iff (fun c0 => Ev.iff (fun c1 => Ev.iff (fun c2 => Ev.iff (fun c3 => Ev.iff (fun c4 => Ev.bind (implSameData_ev _ _ (by omega)) (Ev.leaf ?_)) (fun c4 => Ev.leaf ?_)) (fun c3 => Ev.leaf ?_)) (fun c2 => Ev.leaf ?_)) (fun c1 => Ev.leaf ?_)) (fun c0 => Ev.leaf ?_)
  all_goals simp only [eqCoreB, *, if_pos, if_neg, if_true, if_false, ite_true, ite_false]
theorem implSameCores_ev (xs ys : List S34) (hl : xs.length ≤ 1048576) (hd : ∀ x ∈ xs, x.f5.length ≤ 1048576) : Ev (fun k => impl_SameCores.f k xs ys) (sameC xs ys) := by
  refine Ev.congr (fun k => impl_SameCores.f.eq_1 k _ _) (Ev.bind (Ev.congr (fun k => impl_Core__impl_SameCores_1.f.eq_1 k _ _) (Ev.iff (fun c => ?_) (fun c => Ev.leaf (r := sameC xs ys) (by unfold sameC; rw [if_neg c])))) (Ev.now _))
  unfold sameC
  rw [if_pos c]
  exact cmp_ev xs.length (fun k i => impl_Core__impl_SameCores_1.l0 k ys xs (xs.length : Int) i) _ (fun i hi r hr => by
    refine Ev.step (fun k => impl_Core__impl_SameCores_1.l0.eq_2 _ _ _ _ k) (Ev.ifp (by omega) (Ev.ifp (by omega) (Ev.ifp (by omega) (Ev.ifp (by omega) ?_))))
    have hx : (rd_T34 xs (i : Int)).f5.length ≤ 1048576 := by
      have : rd_T34 xs (i : Int) = xs[i] := by simp [rd_T34, hi]
      rw [this]; exact hd _ (List.getElem_mem hi)
    rw [wrap_succ hi (by omega)]
    exact Ev.bind (eqCore1_ev _ _ hx) (Ev.iff (fun d => Ev.go hr (if_pos d)) (fun d => Ev.stop hr (if_neg d)))) (Ev.step (fun k => impl_Core__impl_SameCores_1.l0.eq_2 _ _ _ _ k) (Ev.ifn (by omega) (Ev.now _)))
theorem specSameCores_ev (xs ys : List S34) (hl : xs.length ≤ 1048576) (hd : ∀ x ∈ xs, x.f5.length ≤ 1048576) : Ev (fun k => spec_SameCores.f k xs ys) (sameC xs ys) := by
  refine Ev.congr (fun k => spec_SameCores.f.eq_1 k _ _) (Ev.iff (fun c => ?_) (fun c => Ev.leaf (by unfold sameC; rw [if_neg c])))
  unfold sameC
  rw [if_pos c]
  exact cmp_ev xs.length (fun k i => spec_SameCores.l0 k xs ys i) _ (fun i hi r hr => by
    refine Ev.step (fun k => spec_SameCores.l0.eq_2 _ _ _ k) (Ev.ifp (by omega) (Ev.ifp (by omega) (Ev.ifp (by omega) ?_)))
    have hx : (rd_T34 xs (i : Int)).f5.length ≤ 1048576 := by
      have : rd_T34 xs (i : Int) = xs[i] := by simp [rd_T34, hi]
      rw [this]; exact hd _ (List.getElem_mem hi)
    have J : ∀ b : Bool, eqCoreB (rd_T34 xs (i : Int)) (rd_T34 ys (i : Int)) = !b → Ev (fun k => spec_SameCores.j1 k xs ys (i : Int) b) r := fun b hb => by
      refine Ev.step (fun k => spec_SameCores.j1.eq_2 _ _ _ _ k) (Ev.iff (fun e => Ev.stop hr ?_) (fun e => ?_))
      · rw [hb, e]; exact if_neg (by simp)
      · rw [wrap_succ hi (by omega)]
        exact Ev.go hr (by rw [hb]; exact if_pos (by simpa using e))
    refine Ev.iff (fun c0 => Ev.iff (fun c1 => Ev.iff (fun c2 => Ev.iff (fun c3 => Ev.iff (fun c4 => Ev.bind (specSameData_ev _ _ (by omega)) (J _ ?_)) (fun c4 => J _ ?_)) (fun c3 => J _ ?_)) (fun c2 => J _ ?_)) (fun c1 => J _ ?_)) (fun c0 => J _ ?_)
    all_goals simp [eqCoreB, *]) (Ev.step (fun k => spec_SameCores.l0.eq_2 _ _ _ k) (Ev.ifn (by omega) (Ev.now _)))
theorem sameC_self (xs : List S34) : sameC xs xs = true := by
  unfold sameC
  rw [if_pos rfl]
  exact allB_true (fun j _ => by simp [eqCoreB, sameD_self])
end Go.Proofs.Ytgbgioodifcdbaa.C
