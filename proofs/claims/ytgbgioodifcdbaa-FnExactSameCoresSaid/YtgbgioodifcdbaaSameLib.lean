/- Proved: what the program's and the reference's comparisons of data come to. Conditions: those in each head. -/
import Derived.Test.YtgbgioodifcdbaaPL2Lib
import Derived.Test.YtgbgioodifcdbaaC2
import Derived.Test.YtgbgioodifcdbaaC4
namespace Go.Proofs.Ytgbgioodifcdbaa.C
open Go.RowKit Go.Proofs.YtgbgioodifcdbaaW.PrintWords Go.Proofs.YtgbgioodifcdbaaW.PrintLast Go.Proofs.Ytgbgioodifcdbaa.PL
set_option linter.unusedSimpArgs false

/-- Are two data the same? -/
def eqDatB (x y : S41) : Bool := !(!((x.f0) == (y.f0)) || (!((x.f1) == (y.f1)) || (!((x.f2) == (y.f2)) || (!(((x.f3).toList) == ((y.f3).toList))))))
/-- Are two lists of data the same? -/
def sameD (xs ys : List S41) : Bool := if (xs.length : Int) = (ys.length : Int) then allB (fun i => eqDatB (rd_T41 xs (i : Int)) (rd_T41 ys (i : Int))) xs.length else false
theorem implSameData_ev (xs ys : List S41) (hl : xs.length ≤ 9223372036854775807) : Ev (fun k => impl_SameData.f k xs ys) (sameD xs ys) := by
  refine Ev.congr (fun k => impl_SameData.f.eq_1 k _ _) (Ev.bind (Ev.congr (fun k => impl_Datum.f.eq_1 k _ _) (Ev.iff (fun c => ?_) (fun c => Ev.leaf (r := sameD xs ys) (by unfold sameD; rw [if_neg c])))) (Ev.now _))
  unfold sameD
  rw [if_pos c]
  exact cmp_ev xs.length (fun k i => impl_Datum.l0 k xs ys (xs.length : Int) i) _ (fun i hi r hr => by
    refine Ev.step (fun k => impl_Datum.l0.eq_2 _ _ _ _ k) (Ev.ifp (by omega) (Ev.ifp (by omega) (Ev.ifp (by omega) (Ev.ifp (by omega) ?_))))
    rw [wrap_succ hi hl]
    refine Ev.iff (fun d => Ev.stop hr (by unfold eqDatB; rw [d]; rfl)) (fun d => Ev.go hr ?_)
    unfold eqDatB
    rw [Bool.not_eq_true] at d
    rw [d]
    rfl) (Ev.step (fun k => impl_Datum.l0.eq_2 _ _ _ _ k) (Ev.ifn (by omega) (Ev.now _)))
theorem specSameData_ev (xs ys : List S41) (hl : xs.length ≤ 9223372036854775807) : Ev (fun k => spec_SameData.f k xs ys) (sameD xs ys) := by
  refine Ev.congr (fun k => spec_SameData.f.eq_1 k _ _) (Ev.iff (fun c => ?_) (fun c => Ev.leaf (by unfold sameD; rw [if_neg c])))
  unfold sameD
  rw [if_pos c]
  exact cmp_ev xs.length (fun k i => spec_SameData.l0 k xs ys i) _ (fun i hi r hr => by
    refine Ev.step (fun k => spec_SameData.l0.eq_2 _ _ _ k) (Ev.ifp (by omega) (Ev.ifp (by omega) (Ev.ifp (by omega) ?_)))
    rw [wrap_succ hi hl]
    refine Ev.iff (fun d => Ev.stop hr (by unfold eqDatB; rw [d]; rfl)) (fun d => Ev.go hr ?_)
    unfold eqDatB
    rw [Bool.not_eq_true] at d
    rw [d]
    rfl) (Ev.step (fun k => spec_SameData.l0.eq_2 _ _ _ k) (Ev.ifn (by omega) (Ev.now _)))
theorem sameD_self (xs : List S41) : sameD xs xs = true := by
  unfold sameD
  rw [if_pos rfl]
  exact allB_true (fun j _ => by simp [eqDatB])
end Go.Proofs.Ytgbgioodifcdbaa.C
