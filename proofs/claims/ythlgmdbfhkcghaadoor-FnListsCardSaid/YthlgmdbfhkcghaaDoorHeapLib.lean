/- Proved: what the program's and the reference's tests of pairs come to. Conditions: those in each head. -/
import Derived.Test.YthlgmdbfhkcghaaDoorValueLib
import Derived.Test.YthlgmdbfhkcghaaDoorL5
import Derived.Test.YthlgmdbfhkcghaaDoorL3
import Derived.Test.YthlgmdbfhkcghaaDoorL4
namespace Go.Proofs.YthlgmdbfhkcghaaDoor.L
open Go.RowKit Go.Proofs.YthlgmdbfhkcghaaDoorW.PrintWords Go.Proofs.YthlgmdbfhkcghaaDoorW.PrintLast Go.Proofs.YthlgmdbfhkcghaaDoor.PL
set_option linter.unusedSimpArgs false

theorem rdQ_at {xs : List S70} {i : Nat} (h : i < xs.length) : rd_T70 xs (i : Int) = xs[i] := by simp [rd_T70, h]
/-- Sizes that strings may have. -/
def okS (s : ByteArray) : Prop := s.size ≤ 9223372036854775807
def valM (v : S28) : Int := valueM v.f0 v.f1 v.f2
/-- A pair that isn't among the first ones. -/
def beyB (v : S28) (n : Int) : Bool := v.f0 == 5 && decide (n ≤ v.f1)
theorem isBeyond_eq (v : S28) (n : Int) : impl_isBeyond.f v.f0 v.f1 v.f2 n = some (beyB v n) := by
  unfold impl_isBeyond.f beyB
  by_cases h : v.f0 = 5 <;> simp [h]
theorem l5In_eq (v : S28) (n : Int) : spec_l5In.f v.f0 v.f1 v.f2 n = some (!beyB v n) := by
  unfold spec_l5In.f beyB
  by_cases h : v.f0 = 5
  · rw [if_pos h]
    by_cases c : v.f1 < n
    · have c' : ¬ n ≤ v.f1 := by omega
      simp [h, c, c']
    · have c' : n ≤ v.f1 := by omega
      simp [h, c, c']
  · simp [h]
def heapStep (p : S70) (i : Nat) : Option Int := if valM p.f0 = 0 then (if valM p.f1 = 0 then (if beyB p.f0 i = true then some 1 else if beyB p.f1 i = true then some 1 else none) else some (valM p.f1)) else some (valM p.f0)
def heapAt (xs : List S70) (i : Nat) : Option Int := if h : i < xs.length then heapStep xs[i] i else none
/-- The fault of pairs. -/
def heapM (xs : List S70) : Int := if 4000 < xs.length then 2 else runU (heapAt xs) 0 xs.length 0
def okP (xs : List S70) : Prop := ∀ x ∈ xs, okS x.f0.f2 ∧ okS x.f1.f2
theorem implHeap_ev (xs : List S70) (hx : okP xs) : Ev (fun k => impl_HeapFault.f k xs) (heapM xs) := by
  refine Ev.congr (fun k => impl_HeapFault.f.eq_1 k _) (Ev.iff (fun h => Ev.leaf (by unfold heapM; rw [if_pos (by omega)])) (fun h => ?_))
  have hL := loopO xs.length (fun k i => impl_HeapFault.l0 k xs (xs.length : Int) i) (heapAt xs) 0 (fun i hi r hr => by
    have hm := hx xs[i] (List.getElem_mem hi)
    refine Ev.step (fun k => impl_HeapFault.l0.eq_2 _ _ _ k) (Ev.ifp (by omega) (Ev.ifp (by omega) (Ev.ifp (by omega) ?_)))
    rw [rdQ_at hi, wrap_succ hi (by omega)]
    refine Ev.bind (implValue_ev _ _ _ hm.1) (Ev.iff (fun c0 => ?_) (fun c0 => Ev.stop hr (by simp [heapAt, hi, heapStep, valM, c0])))
    refine Ev.bind (implValue_ev _ _ _ hm.2) (Ev.iff (fun c1 => ?_) (fun c1 => Ev.stop hr (by simp [heapAt, hi, heapStep, valM, c0, c1])))
    refine Ev.bind0 (isBeyond_eq xs[i].f0 (i : Int)) (Ev.iff (fun c2 => Ev.stop hr (by simp [heapAt, hi, heapStep, valM, c0, c1, c2])) (fun c2 => ?_))
    refine Ev.bind0 (isBeyond_eq xs[i].f1 (i : Int)) (Ev.iff (fun c3 => Ev.stop hr (by simp [heapAt, hi, heapStep, valM, c0, c1, c2, c3])) (fun c3 => Ev.go hr (by simp [heapAt, hi, heapStep, valM, c0, c1, c2, c3]))))
    (Ev.step (fun k => impl_HeapFault.l0.eq_2 _ _ _ k) (Ev.ifn (by omega) (Ev.now _))) xs.length 0 (by omega)
  unfold heapM
  rw [if_neg (by omega)]
  exact hL
theorem l5Heap_ev (xs : List S70) (hx : okP xs) : Ev (fun k => spec_l5Heap.f k xs) (heapM xs) := by
  refine Ev.congr (fun k => spec_l5Heap.f.eq_1 k _) (Ev.iff (fun h => Ev.leaf (by unfold heapM; rw [if_pos (by omega)])) (fun h => ?_))
  have hL := loopO xs.length (fun k i => spec_l5Heap.l0 k xs i) (heapAt xs) 0 (fun i hi r hr => by
    have hm := hx xs[i] (List.getElem_mem hi)
    refine Ev.step (fun k => spec_l5Heap.l0.eq_2 _ _ k) (Ev.ifp (by omega) (Ev.ifp (by omega) ?_))
    rw [rdQ_at hi, wrap_succ hi (by omega)]
    refine Ev.bind (l5Fault_ev _ _ _ hm.1) (Ev.iff (fun c0 => ?_) (fun c0 => Ev.stop hr (by simp [heapAt, hi, heapStep, valM, c0])))
    refine Ev.bind (l5Fault_ev _ _ _ hm.2) (Ev.iff (fun c1 => ?_) (fun c1 => Ev.stop hr (by simp [heapAt, hi, heapStep, valM, c0, c1])))
    refine Ev.bind0 (l5In_eq xs[i].f0 (i : Int)) (Ev.iff (fun c2 => ?_) (fun c2 => Ev.stop hr (by simp at c2; simp [heapAt, hi, heapStep, valM, c0, c1, c2])))
    refine Ev.bind0 (l5In_eq xs[i].f1 (i : Int)) (Ev.iff (fun c3 => Ev.go hr (by simp at c2 c3; simp [heapAt, hi, heapStep, valM, c0, c1, c2, c3])) (fun c3 => Ev.stop hr (by simp at c2 c3; simp [heapAt, hi, heapStep, valM, c0, c1, c2, c3]))))
    (Ev.step (fun k => spec_l5Heap.l0.eq_2 _ _ k) (Ev.ifn (by omega) (Ev.now _))) xs.length 0 (by omega)
  unfold heapM
  rw [if_neg (by omega)]
  exact hL
end Go.Proofs.YthlgmdbfhkcghaaDoor.L
