/- Proved: what the program's and the reference's comparisons of code come to. Conditions: those in each head. -/
import Derived.Test.YtljaachpknphpaaSameLib
import Derived.Test.YtljaachpknphpaaBlockLib
import Derived.Test.YtljaachpknphpaaA3
import Derived.Test.YtljaachpknphpaaA5
import Derived.Test.YtljaachpknphpaaA4
namespace Go.Proofs.Ytljaachpknphpaa.A
open Go.RowKit Go.Proofs.YtljaachpknphpaaW.PrintWords Go.Proofs.YtljaachpknphpaaW.PrintLast Go.Proofs.Ytljaachpknphpaa.PL
set_option linter.unusedSimpArgs false

def eqOpB (x y : S73) : Bool := if x.f0 = y.f0 then (if x.f1 = y.f1 then (if x.f2 = y.f2 then (if x.f3 = y.f3 then (if x.f4 = y.f4 then (if x.f5.toList = y.f5.toList then sameD x.f6 y.f6 else false) else false) else false) else false) else false) else false
theorem implOp_ev (x y : S73) (h : x.f6.length ≤ 1048576) : Ev (fun k => impl_Op_same.f k x.f0 x.f1 x.f2 x.f3 x.f4 x.f5 x.f6 y.f0 y.f1 y.f2 y.f3 y.f4 y.f5 y.f6) (eqOpB x y) := by
  refine Ev.congr (fun k => impl_Op_same.f.eq_1 k _ _ _ _ _ _ _ _ _ _ _ _ _ _) ?_
  refine Ev.iff (fun c0 => Ev.iff (fun c1 => Ev.iff (fun c2 => Ev.iff (fun c3 => Ev.iff (fun c4 => Ev.iff (fun c5 => Ev.bind (implSameData_ev _ _ (by omega)) (Ev.leaf ?_)) (fun c5 => Ev.leaf ?_)) (fun c4 => Ev.leaf ?_)) (fun c3 => Ev.leaf ?_)) (fun c2 => Ev.leaf ?_)) (fun c1 => Ev.leaf ?_)) (fun c0 => Ev.leaf ?_)
  all_goals simp [eqOpB, *]
theorem specOp_ev (x y : S73) (h : x.f6.length ≤ 1048576) : Ev (fun k => spec_l9SameOp.f k x.f0 x.f1 x.f2 x.f3 x.f4 x.f5 x.f6 y.f0 y.f1 y.f2 y.f3 y.f4 y.f5 y.f6) (eqOpB x y) := by
  refine Ev.congr (fun k => spec_l9SameOp.f.eq_1 k _ _ _ _ _ _ _ _ _ _ _ _ _ _) ?_
  refine Ev.iff (fun c0 => Ev.iff (fun c1 => Ev.iff (fun c2 => Ev.iff (fun c3 => Ev.iff (fun c4 => Ev.iff (fun c5 => Ev.bind (specSameData_ev _ _ (by omega)) (Ev.leaf ?_)) (fun c5 => Ev.leaf ?_)) (fun c4 => Ev.leaf ?_)) (fun c3 => Ev.leaf ?_)) (fun c2 => Ev.leaf ?_)) (fun c1 => Ev.leaf ?_)) (fun c0 => Ev.leaf ?_)
  all_goals simp [eqOpB, *]
theorem rdO_mem {xs : List S73} {i : Nat} (h : i < xs.length) : rd_T73 xs (i : Int) ∈ xs := by
  have : rd_T73 xs (i : Int) = xs[i] := by simp [rd_T73, h]
  rw [this]; exact List.getElem_mem h
theorem rdB_mem {xs : List S69} {i : Nat} (h : i < xs.length) : rd_T69 xs (i : Int) ∈ xs := by
  have : rd_T69 xs (i : Int) = xs[i] := by simp [rd_T69, h]
  rw [this]; exact List.getElem_mem h
/-- Do two lists of instructions agree at each place? -/
def allO (xs ys : List S73) : Bool := allB (fun i => eqOpB (rd_T73 xs (i : Int)) (rd_T73 ys (i : Int))) xs.length
theorem implOps_ev (xs ys : List S73) (hl : xs.length ≤ 1048576) (hd : ∀ x ∈ xs, x.f6.length ≤ 1048576) : Ev (fun k => impl_Op__impl_Op_same.f k xs ys) (if (xs.length : Int) = (ys.length : Int) then allO xs ys else false) := by
  refine Ev.congr (fun k => impl_Op__impl_Op_same.f.eq_1 k _ _) (Ev.iff (fun c => ?_) (fun c => Ev.leaf (by rw [if_neg c])))
  rw [if_pos c]
  exact cmp_ev xs.length (fun k i => impl_Op__impl_Op_same.l0 k ys xs (xs.length : Int) i) _ (fun i hi r hr => by
    refine Ev.step (fun k => impl_Op__impl_Op_same.l0.eq_2 _ _ _ _ k) (Ev.ifp (by omega) (Ev.ifp (by omega) (Ev.ifp (by omega) (Ev.ifp (by omega) ?_))))
    rw [wrap_succ hi (by omega)]
    exact Ev.bind (implOp_ev _ _ (hd _ (rdO_mem hi))) (Ev.iff (fun d => Ev.go hr (if_pos d)) (fun d => Ev.stop hr (if_neg d)))) (Ev.step (fun k => impl_Op__impl_Op_same.l0.eq_2 _ _ _ _ k) (Ev.ifn (by omega) (Ev.now _)))
def eqBlkB (x y : S69) : Bool := if x.f0 = y.f0 then (if (x.f1.length : Int) = (y.f1.length : Int) then allO x.f1 y.f1 else false) else false
/-- Is the code the same? -/
def sameK (xs ys : List S69) : Bool := if (xs.length : Int) = (ys.length : Int) then allB (fun i => eqBlkB (rd_T69 xs (i : Int)) (rd_T69 ys (i : Int))) xs.length else false
theorem implSameCode_ev (xs ys : List S69) (hl : xs.length ≤ 1048576) (hd : ∀ x ∈ xs, smallB x) : Ev (fun k => impl_SameCode.f k xs ys) (sameK xs ys) := by
  refine Ev.congr (fun k => impl_SameCode.f.eq_1 k _ _) (Ev.bind (Ev.congr (fun k => impl_Block__impl_SameCode_1.f.eq_1 k _ _) (Ev.iff (fun c => ?_) (fun c => Ev.leaf (r := sameK xs ys) (by unfold sameK; rw [if_neg c])))) (Ev.now _))
  unfold sameK
  rw [if_pos c]
  exact cmp_ev xs.length (fun k i => impl_Block__impl_SameCode_1.l0 k ys xs (xs.length : Int) i) _ (fun i hi r hr => by
    have hm := hd _ (rdB_mem hi)
    refine Ev.step (fun k => impl_Block__impl_SameCode_1.l0.eq_2 _ _ _ _ k) (Ev.ifp (by omega) (Ev.ifp (by omega) (Ev.ifp (by omega) (Ev.ifp (by omega) ?_))))
    rw [wrap_succ hi (by omega)]
    refine Ev.bind (a := eqBlkB (rd_T69 xs (i : Int)) (rd_T69 ys (i : Int))) (Ev.congr (fun k => impl_SameCode_1.f.eq_1 k _ _ _ _) (Ev.iff (fun d => Ev.bind (implOps_ev _ _ hm.1 hm.2) (Ev.leaf ?_)) (fun d => Ev.leaf ?_))) (Ev.iff (fun d => Ev.go hr (if_pos d)) (fun d => Ev.stop hr (if_neg d)))
    · unfold eqBlkB; rw [if_pos d]
    · unfold eqBlkB; rw [if_neg d]) (Ev.step (fun k => impl_Block__impl_SameCode_1.l0.eq_2 _ _ _ _ k) (Ev.ifn (by omega) (Ev.now _)))
theorem specOps_loop (xs ys : List S69) (i : Nat) (hi : i < xs.length) (hi2 : i < ys.length) (hl : xs.length ≤ 1048576) (us vs : List S73) (hus : (rd_T69 xs (i : Int)).f1 = us) (hvs : (rd_T69 ys (i : Int)).f1 = vs) (hul : us.length ≤ 1048576) (huv : us.length = vs.length) (hd : ∀ x ∈ us, x.f6.length ≤ 1048576) (r : Bool)
    (hr : Ev (elimB (if allO us vs = true then none else some false) (fun k => spec_SameCode.l0 k xs ys ((i + 1 : Nat) : Int))) r) : Ev (fun k => spec_SameCode.l1 k xs ys (i : Int) 0) r := by
  have H : ∀ d j, j + d = us.length → ∀ r, Ev (elimB (if runU (fun i => if eqOpB (rd_T73 us (i : Int)) (rd_T73 vs (i : Int)) = true then none else some false) true d j = true then none else some false) (fun k => spec_SameCode.l0 k xs ys ((i + 1 : Nat) : Int))) r → Ev (fun k => spec_SameCode.l1 k xs ys (i : Int) (j : Int)) r := by
    intro d
    induction d with
    | zero =>
      intro j hj r hr
      refine Ev.step (fun k => spec_SameCode.l1.eq_2 _ _ _ _ k) (Ev.ifp (by omega) (Ev.ifp (by omega) ?_))
      rw [hus, wrap_succ hi (by omega)]
      exact Ev.ifn (by omega) (Ev.go hr (if_pos rfl))
    | succ d ih =>
      intro j hj r hr
      have hju : j < us.length := by omega
      refine Ev.step (fun k => spec_SameCode.l1.eq_2 _ _ _ _ k) (Ev.ifp (by omega) (Ev.ifp (by omega) ?_))
      rw [hus, hvs, wrap_succ hju (by omega)]
      refine Ev.ifp (by omega) (Ev.ifp (by omega) (Ev.ifp (by omega) (Ev.ifp (by omega) (Ev.bind (specOp_ev _ _ (hd _ (rdO_mem hju))) ?_))))
      refine Ev.iff (fun c => ?_) (fun c => ?_)
      · have e1 : runU (fun i => if eqOpB (rd_T73 us (i : Int)) (rd_T73 vs (i : Int)) = true then none else some false) true (d + 1) j = runU (fun i => if eqOpB (rd_T73 us (i : Int)) (rd_T73 vs (i : Int)) = true then none else some false) true d (j + 1) := by
          simp only [runU]; rw [if_pos c]
        rw [e1] at hr
        exact ih (j + 1) (by omega) r hr
      · have e1 : runU (fun i => if eqOpB (rd_T73 us (i : Int)) (rd_T73 vs (i : Int)) = true then none else some false) true (d + 1) j = false := by
          simp only [runU]; rw [if_neg c]
        rw [e1] at hr
        exact Ev.stop hr (if_neg (by simp))
  exact H us.length 0 (by omega) r hr
theorem specSameCode_ev (xs ys : List S69) (hl : xs.length ≤ 1048576) (hd : ∀ x ∈ xs, smallB x) : Ev (fun k => spec_SameCode.f k xs ys) (sameK xs ys) := by
  refine Ev.congr (fun k => spec_SameCode.f.eq_1 k _ _) (Ev.iff (fun c => ?_) (fun c => Ev.leaf (by unfold sameK; rw [if_neg c])))
  unfold sameK
  rw [if_pos c]
  exact cmp_ev xs.length (fun k i => spec_SameCode.l0 k xs ys i) _ (fun i hi r hr => by
    have hm := hd _ (rdB_mem hi)
    refine Ev.step (fun k => spec_SameCode.l0.eq_2 _ _ _ k) (Ev.ifp (by omega) (Ev.ifp (by omega) (Ev.ifp (by omega) (Ev.iff (fun d => ?_) (fun d => ?_)))))
    · refine Ev.step (fun k => spec_SameCode.j1.eq_2 _ _ _ _ k) (Ev.iff (fun e => Ev.stop hr ?_) (fun e => ?_))
      · have e' : ¬ ((rd_T69 xs (i : Int)).f1.length : Int) = ((rd_T69 ys (i : Int)).f1.length : Int) := by simpa using e
        rw [if_neg]
        unfold eqBlkB
        rw [if_pos d, if_neg e']
        decide
      · have e' : ((rd_T69 xs (i : Int)).f1.length : Int) = ((rd_T69 ys (i : Int)).f1.length : Int) := by simpa using e
        refine specOps_loop xs ys i hi (by omega) hl _ _ rfl rfl hm.1 (by omega) hm.2 r ?_
        unfold eqBlkB at hr
        rw [if_pos d, if_pos e'] at hr
        exact hr
    · refine Ev.step (fun k => spec_SameCode.j1.eq_2 _ _ _ _ k) (Ev.ifp rfl (Ev.stop hr ?_))
      rw [if_neg]
      unfold eqBlkB
      rw [if_neg d]
      decide) (Ev.step (fun k => spec_SameCode.l0.eq_2 _ _ _ k) (Ev.ifn (by omega) (Ev.now _)))
end Go.Proofs.Ytljaachpknphpaa.A
