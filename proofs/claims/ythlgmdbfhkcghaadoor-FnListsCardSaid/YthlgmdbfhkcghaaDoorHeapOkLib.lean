/- Proved: what pairs without a fault hold, and what is asked of values in them. Conditions: those in each head. -/
import Derived.Test.YthlgmdbfhkcghaaDoorHeapLib
import Derived.Test.YthlgmdbfhkcghaaDoorL4
import Derived.Test.YthlgmdbfhkcghaaDoorL6
import Derived.Test.YthlgmdbfhkcghaaDoorL6
namespace Go.Proofs.YthlgmdbfhkcghaaDoor.L
open Go.RowKit Go.Proofs.YthlgmdbfhkcghaaDoorW.PrintWords Go.Proofs.YthlgmdbfhkcghaaDoorW.PrintLast Go.Proofs.YthlgmdbfhkcghaaDoor.PL
set_option linter.unusedSimpArgs false

/-- A value without a fault that is, if it is a pair, one of the first n. -/
def goodV (n : Int) (v : S28) : Prop := valM v = 0 ∧ beyB v n = false
theorem goodV_mono {n m : Int} {v : S28} (h : goodV n v) (hm : n ≤ m) : goodV m v := by
  refine ⟨h.1, ?_⟩
  have h2 := h.2
  unfold beyB at h2 ⊢
  cases hk : (v.f0 == 5)
  · simp
  · rw [hk] at h2
    simp at h2 ⊢
    omega
theorem goodV_pair {n : Int} {v : S28} (h : goodV n v) (hk : v.f0 = 5) : 0 ≤ v.f1 ∧ v.f1 < n := by
  have h1 := h.1
  have h2 := h.2
  unfold valM valueM at h1
  split at h1
  · omega
  · split at h1
    · omega
    · rename_i hr
      constructor
      · cases hz : inB v.f1 0 99999
        · exfalso
          apply hr
          unfold rangeB
          rw [hz, hk]
          simp [inB]
        · exact (inB_iff.mp hz).1
      · unfold beyB at h2
        rw [hk] at h2
        simp at h2
        exact h2
theorem heapAt_ne0 {xs : List S70} (j : Nat) (v : Int) (h : heapAt xs j = some v) : v ≠ 0 := by
  unfold heapAt at h
  split at h
  · unfold heapStep at h
    repeat' split at h
    all_goals first | (cases h; done) | (obtain rfl := Option.some.inj h; first | omega | assumption)
  · cases h
theorem heap_good {xs : List S70} (h : heapM xs = 0) (j : Nat) (hj : j < xs.length) : goodV j xs[j].f0 ∧ goodV j xs[j].f1 := by
  unfold heapM at h
  split at h
  · omega
  · have hn := runU_none (heapAt_ne0 (xs := xs)) xs.length 0 h j (by omega) (by omega)
    unfold heapAt at hn
    rw [dif_pos hj] at hn
    unfold heapStep at hn
    repeat' split at hn
    all_goals first | (cases hn; done) | skip
    rename_i a b c d
    exact ⟨⟨a, by simpa using c⟩, ⟨b, by simpa using d⟩⟩
theorem heap_len {xs : List S70} (h : heapM xs = 0) : xs.length ≤ 4000 := by
  unfold heapM at h
  split at h
  · omega
  · omega
/-- The fault of pairs, then of a value in them. -/
def askedM (xs : List S70) (v : S28) : Int := if heapM xs = 0 then (if valM v = 0 then (if beyB v xs.length = true then 4 else 0) else valM v) else heapM xs
theorem asked_good {xs : List S70} {v : S28} (h : askedM xs v = 0) : heapM xs = 0 ∧ goodV xs.length v := by
  unfold askedM at h
  split at h
  · rename_i a
    split at h
    · rename_i b
      split at h
      · omega
      · rename_i c
        exact ⟨a, b, by simpa using c⟩
    · rename_i b
      exact absurd h b
  · rename_i a
    exact absurd h a
theorem l5Asked_ev (xs : List S70) (v : S28) (hx : okP xs) (hv : okS v.f2) : Ev (fun k => spec_l5Asked.f k xs v.f0 v.f1 v.f2) (askedM xs v) := by
  refine Ev.congr (fun k => spec_l5Asked.f.eq_1 k _ _ _ _) (Ev.bind (l5Heap_ev xs hx) (Ev.iff (fun c => ?_) (fun c => Ev.leaf (by unfold askedM; rw [if_neg c]))))
  refine Ev.bind (l5Fault_ev _ _ _ hv) (Ev.iff (fun c1 => ?_) (fun c1 => Ev.leaf (by unfold askedM; rw [if_pos c, if_neg (show ¬ valM v = 0 from c1)]; rfl)))
  refine Ev.bind0 (l5In_eq v (xs.length : Int)) (Ev.iff (fun c2 => Ev.leaf ?_) (fun c2 => Ev.leaf ?_))
  · unfold askedM; rw [if_pos c, if_pos (show valM v = 0 from c1), if_neg (by simpa using c2)]
  · unfold askedM; rw [if_pos c, if_pos (show valM v = 0 from c1), if_pos (by simpa using c2)]
theorem rdV_at {xs : List S28} {i : Nat} (h : i < xs.length) : rd_T28 xs (i : Int) = xs[i] := by simp [rd_T28, h]
def inStep (n : Int) (v : S28) : Option Int := if valM v = 0 then (if beyB v n = true then some 4 else none) else some (valM v)
def inAt (n : Int) (vs : List S28) (i : Nat) : Option Int := if h : i < vs.length then inStep n vs[i] else none
/-- The fault of values in so many pairs. -/
def inM (n : Int) (vs : List S28) : Int := runU (inAt n vs) 0 vs.length 0
theorem inHeap_ev (xs : List S70) (vs : List S28) (hl : vs.length ≤ 1048576) (hv : ∀ v ∈ vs, okS v.f2) : Ev (fun k => impl_inHeap.f k xs vs) (inM xs.length vs) := by
  refine Ev.congr (fun k => impl_inHeap.f.eq_1 k _ _) ?_
  exact loopO vs.length (fun k i => impl_inHeap.l0 k xs vs (vs.length : Int) i) (inAt xs.length vs) 0 (fun i hi r hr => by
    have hm := hv vs[i] (List.getElem_mem hi)
    refine Ev.step (fun k => impl_inHeap.l0.eq_2 _ _ _ _ k) (Ev.ifp (by omega) (Ev.ifp (by omega) (Ev.ifp (by omega) ?_)))
    rw [rdV_at hi, wrap_succ hi (by omega)]
    refine Ev.bind (implValue_ev _ _ _ hm) (Ev.iff (fun c0 => ?_) (fun c0 => Ev.stop hr (by simp [inAt, hi, inStep, valM, c0])))
    exact Ev.bind0 (isBeyond_eq vs[i] (xs.length : Int)) (Ev.iff (fun c1 => Ev.stop hr (by simp [inAt, hi, inStep, valM, c0, c1])) (fun c1 => Ev.go hr (by simp [inAt, hi, inStep, valM, c0, c1]))))
    (Ev.step (fun k => impl_inHeap.l0.eq_2 _ _ _ _ k) (Ev.ifn (by omega) (Ev.now _))) vs.length 0 (by omega)
theorem heapFault1_ev (xs : List S70) (v : S28) (hx : okP xs) (hv : okS v.f2) : Ev (fun k => impl_heapFault.f k xs [v]) (askedM xs v) := by
  refine Ev.congr (fun k => impl_heapFault.f.eq_1 k _ _) (Ev.bind (implHeap_ev xs hx) (Ev.iff (fun c => ?_) (fun c => Ev.leaf (by unfold askedM; rw [if_neg c]))))
  refine Ev.bind (inHeap_ev xs [v] (by simp) (by simpa using hv)) (Ev.leaf ?_)
  unfold askedM
  rw [if_pos c]
  simp only [inM, List.length_singleton, runU, inAt, Nat.zero_lt_one, dif_pos, List.getElem_cons_zero, inStep]
  by_cases a : valM v = 0
  · rw [if_pos a, if_pos a]
    by_cases b : beyB v xs.length = true
    · rw [if_pos b, if_pos b]
    · rw [if_neg b, if_neg b]
  · rw [if_neg a, if_neg a]
end Go.Proofs.YthlgmdbfhkcghaaDoor.L
