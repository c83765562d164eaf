/- Proved: what the program's and the reference's tests of globals come to. Conditions: those in each head. -/
import Derived.Test.YteoccmbphmiaaaaDoorValueLib
import Derived.Test.YteoccmbphmiaaaaDoorB9
import Derived.Test.YteoccmbphmiaaaaDoorB8
import Derived.Test.YteoccmbphmiaaaaDoorB5
import Derived.Test.YteoccmbphmiaaaaDoorB6
namespace Go.Proofs.YteoccmbphmiaaaaDoor.B
open Go.RowKit Go.Proofs.YteoccmbphmiaaaaDoorW.PrintWords Go.Proofs.YteoccmbphmiaaaaDoorW.PrintLast Go.Proofs.YteoccmbphmiaaaaDoor.PL
set_option linter.unusedSimpArgs false

theorem rdG_at {xs : List S33} {i : Nat} (h : i < xs.length) : rd_T33 xs (i : Int) = xs[i] := by simp [rd_T33, h]
def atB (xs : List S33) (nm : ByteArray) (i : Nat) : Option Int := if h : i < xs.length then (if (xs[i]).f0.toList = nm.toList then some (i : Int) else none) else none
/-- The place of a global, -1 if there is none. -/
def atM (xs : List S33) (nm : ByteArray) : Int := runU (atB xs nm) (-1) xs.length 0
theorem l7At_ev (xs : List S33) (nm : ByteArray) (hl : xs.length ≤ 9223372036854775807) : Ev (fun k => spec_l7At.f k xs nm) (atM xs nm) := by
  refine Ev.congr (fun k => spec_l7At.f.eq_1 k _ _) ?_
  exact loopO xs.length (fun k i => spec_l7At.l0 k xs nm i) (atB xs nm) (-1) (fun i hi r hr => by
    refine Ev.step (fun k => spec_l7At.l0.eq_2 _ _ _ k) (Ev.ifp (by omega) (Ev.ifp (by omega) ?_))
    rw [rdG_at hi, wrap_succ hi hl]
    exact Ev.iff (fun c => Ev.stop hr (by simp [atB, hi, c])) (fun c => Ev.go hr (by simp [atB, hi, c])))
    (Ev.step (fun k => spec_l7At.l0.eq_2 _ _ _ k) (Ev.ifn (by omega) (Ev.now _))) xs.length 0 (by omega)
theorem globalAt_ev (xs : List S33) (nm : ByteArray) (hl : xs.length ≤ 9223372036854775807) : Ev (fun k => impl_globalAt.f k xs nm) (atM xs nm) := by
  refine Ev.congr (fun k => impl_globalAt.f.eq_1 k _ _) (Ev.bind (a := atM xs nm) (Ev.congr (fun k => impl_Global__impl_globalAt_1.f.eq_1 k _ _) ?_) (Ev.now _))
  exact loopO xs.length (fun k i => impl_Global__impl_globalAt_1.l0 k xs (xs.length : Int) i nm) (atB xs nm) (-1) (fun i hi r hr => by
    refine Ev.step (fun k => impl_Global__impl_globalAt_1.l0.eq_2 _ _ _ _ k) (Ev.ifp (by omega) (Ev.ifp (by omega) (Ev.ifp (by omega) ?_)))
    rw [rdG_at hi, wrap_succ hi hl]
    refine Ev.bind0 (impl_globalAt_1.f.eq_1 _ _ _ _ _ _) (Ev.iff (fun c => Ev.stop hr (by simp at c; simp [atB, hi, c])) (fun c => Ev.go hr (by simp at c; simp [atB, hi, c]))))
    (Ev.step (fun k => impl_Global__impl_globalAt_1.l0.eq_2 _ _ _ _ k) (Ev.ifn (by omega) (Ev.now _))) xs.length 0 (by omega)
/-- What a list of globals stops with at a place. -/
def globStep (xs : List S33) (g : S33) (i : Nat) : Option Int :=
  if symB g.f0 = true then (if valueM g.f1.f0 g.f1.f1 g.f1.f2 = 0 then (if inB g.f2 1 99999 = true then (if 0 ≤ atM (xs.take i) g.f0 then some 1 else none) else some 3) else some (valueM g.f1.f0 g.f1.f1 g.f1.f2)) else some 5
def globAt (xs : List S33) (i : Nat) : Option Int := if h : i < xs.length then globStep xs xs[i] i else none
/-- The fault of globals. -/
def globM (xs : List S33) : Int := if 60 < xs.length then 2 else runU (globAt xs) 0 xs.length 0
def okG (xs : List S33) : Prop := ∀ x ∈ xs, x.f0.size ≤ 9223372036854775807 ∧ x.f1.f2.size ≤ 9223372036854775807
theorem implGlob_ev (xs : List S33) (hx : okG xs) : Ev (fun k => impl_GlobalsFault.f k xs) (globM xs) := by
  refine Ev.congr (fun k => impl_GlobalsFault.f.eq_1 k _) (Ev.iff (fun h => Ev.leaf (by unfold globM; rw [if_pos (by omega)])) (fun h => ?_))
  have hL := loopO xs.length (fun k i => impl_GlobalsFault.l0 k xs xs (xs.length : Int) i) (globAt xs) 0 (fun i hi r hr => by
    have hm := hx xs[i] (List.getElem_mem hi)
    refine Ev.step (fun k => impl_GlobalsFault.l0.eq_2 _ _ _ _ k) (Ev.ifp (by omega) (Ev.ifp (by omega) (Ev.ifp (by omega) ?_)))
    rw [rdG_at hi, wrap_succ hi (by omega)]
    refine Ev.bind0 (SymFault_eq _ hm.1) (Ev.iff (fun c0 => ?_) (fun c0 => Ev.stop hr (by
      have d0 : symB xs[i].f0 = false := by
        by_cases z : symB xs[i].f0 = true
        · exact absurd (by unfold symM; rw [if_pos z]) c0
        · simpa using z
      simp [globAt, hi, globStep, d0])))
    have d0 : symB xs[i].f0 = true := by
      by_cases z : symB xs[i].f0 = true
      · exact z
      · unfold symM at c0; rw [if_neg z] at c0; exact absurd c0 (by omega)
    refine Ev.bind (implValue_ev _ _ _ hm.2) (Ev.iff (fun c1 => ?_) (fun c1 => Ev.stop hr (by simp [globAt, hi, globStep, d0, c1])))
    refine Ev.bind0 (in_eq _ _ _) (Ev.iff (fun c2 => ?_) (fun c2 => Ev.stop hr (by simp [globAt, hi, globStep, d0, c1, c2])))
    refine Ev.ifp (by omega) (Ev.bind (globalAt_ev _ _ (by rw [List.length_take]; omega)) (Ev.iff (fun c3 => Ev.stop hr (by
      have c3' : 0 ≤ atM (xs.take i) xs[i].f0 := by simpa using c3
      simp [globAt, hi, globStep, d0, c1, c2, c3'])) (fun c3 => Ev.go hr (by
      have c3' : ¬ 0 ≤ atM (xs.take i) xs[i].f0 := by simpa using c3
      simp [globAt, hi, globStep, d0, c1, c2, c3'])))))
    (Ev.step (fun k => impl_GlobalsFault.l0.eq_2 _ _ _ _ k) (Ev.ifn (by omega) (Ev.now _))) xs.length 0 (by omega)
  unfold globM
  rw [if_neg (by omega)]
  exact hL
theorem l7Fault_ev (xs : List S33) (hx : okG xs) : Ev (fun k => spec_l7Fault.f k xs) (globM xs) := by
  refine Ev.congr (fun k => spec_l7Fault.f.eq_1 k _) (Ev.iff (fun h => Ev.leaf (by unfold globM; rw [if_pos (by omega)])) (fun h => ?_))
  have hL := loopO xs.length (fun k i => spec_l7Fault.l0 k xs i) (globAt xs) 0 (fun i hi r hr => by
    have hm := hx xs[i] (List.getElem_mem hi)
    refine Ev.step (fun k => spec_l7Fault.l0.eq_2 _ _ k) (Ev.ifp (by omega) (Ev.ifp (by omega) ?_))
    rw [rdG_at hi, wrap_succ hi (by omega)]
    refine Ev.bind (l2Sym_ev _ hm.1) (Ev.iff (fun d0 => ?_) (fun d0 => Ev.stop hr (by simp [globAt, hi, globStep, d0])))
    refine Ev.bind (l5Fault_ev _ _ _ hm.2) (Ev.iff (fun c1 => ?_) (fun c1 => Ev.stop hr (by simp [globAt, hi, globStep, d0, c1])))
    refine Ev.bind0 (a := inB xs[i].f2 1 99999) (by unfold spec_l7Version.f; rw [l1In_eq, Option.bind_some]) (Ev.iff (fun c2 => ?_) (fun c2 => Ev.stop hr (by simp [globAt, hi, globStep, d0, c1, c2])))
    refine Ev.ifp (by omega) (Ev.bind (l7At_ev _ _ (by rw [List.length_take]; omega)) (Ev.iff (fun c3 => Ev.stop hr (by
      have c3' : 0 ≤ atM (xs.take i) xs[i].f0 := by simpa using c3
      simp [globAt, hi, globStep, d0, c1, c2, c3'])) (fun c3 => Ev.go hr (by
      have c3' : ¬ 0 ≤ atM (xs.take i) xs[i].f0 := by simpa using c3
      simp [globAt, hi, globStep, d0, c1, c2, c3'])))))
    (Ev.step (fun k => spec_l7Fault.l0.eq_2 _ _ k) (Ev.ifn (by omega) (Ev.now _))) xs.length 0 (by omega)
  unfold globM
  rw [if_neg (by omega)]
  exact hL
theorem runU_range (B : Nat → Option Int) (e : Int) (P : Int → Prop) : ∀ d i, (∀ j v, i ≤ j → j < i + d → B j = some v → P v) → P e → P (runU B e d i)
  | 0, _, _, he => he
  | d + 1, i, h, he => by
    simp only [runU]
    cases hB : B i with
    | none => exact runU_range B e P d (i + 1) (fun j v h0 h1 hj => h j v (by omega) (by omega) hj) he
    | some v => exact h i v (by omega) (by omega) hB
theorem atM_lt (xs : List S33) (nm : ByteArray) : atM xs nm < 0 ∨ (0 ≤ atM xs nm ∧ atM xs nm < xs.length) := by
  unfold atM
  refine runU_range (atB xs nm) (-1) (fun v => v < 0 ∨ (0 ≤ v ∧ v < xs.length)) xs.length 0 (fun j v _ hj hv => ?_) (by omega)
  have hj' : j < xs.length := by omega
  unfold atB at hv
  rw [dif_pos hj'] at hv
  split at hv
  · obtain rfl := Option.some.inj hv; right; omega
  · cases hv
end Go.Proofs.YteoccmbphmiaaaaDoor.B
