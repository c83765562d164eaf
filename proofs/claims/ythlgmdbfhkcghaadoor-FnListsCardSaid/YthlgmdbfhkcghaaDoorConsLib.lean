/- Proved: what the program's and the reference's pairs put behind others come to: the same. Conditions: those in each head. -/
import Derived.Test.YthlgmdbfhkcghaaDoorHeapOkLib
import Derived.Test.YthlgmdbfhkcghaaDoorL4
import Derived.Test.YthlgmdbfhkcghaaDoorL6
namespace Go.Proofs.YthlgmdbfhkcghaaDoor.L
open Go.RowKit Go.Proofs.YthlgmdbfhkcghaaDoorW.PrintWords Go.Proofs.YthlgmdbfhkcghaaDoorW.PrintLast Go.Proofs.YthlgmdbfhkcghaaDoor.PL
set_option linter.unusedSimpArgs false

/-- The fault of pairs, then of values in them. -/
def askL (xs : List S70) (vs : List S28) : Int := if heapM xs = 0 then inM xs.length vs else heapM xs
theorem heapFaultL_ev (xs : List S70) (vs : List S28) (hx : okP xs) (hl : vs.length ≤ 1048576) (hv : ∀ v ∈ vs, okS v.f2) : Ev (fun k => impl_heapFault.f k xs vs) (askL xs vs) := by
  refine Ev.congr (fun k => impl_heapFault.f.eq_1 k _ _) (Ev.bind (implHeap_ev xs hx) (Ev.iff (fun c => ?_) (fun c => Ev.leaf (by unfold askL; rw [if_neg c]))))
  refine Ev.bind (inHeap_ev xs vs hl hv) (Ev.leaf ?_)
  unfold askL
  rw [if_pos c]
theorem implCloneP_eq (xs : List S70) (hl : xs.length ≤ 1048576) : impl_Pair.f xs = some xs := by
  unfold impl_Pair.f
  rw [Option.bind_some, if_pos (by simp; omega), List.nil_append]
theorem l5Copy_eq (xs : List S70) (hl : xs.length ≤ 1048576) : spec_l5Copy.f xs = some xs := by
  unfold spec_l5Copy.f
  rw [Option.bind_some, if_pos (by simp; omega), List.nil_append]
theorem heapCons_eq (xs : List S70) (h t : S28) (hl : xs.length ≤ 1048576) : impl_heap_cons.f xs h.f0 h.f1 h.f2 t.f0 t.f1 t.f2 = some (if 4000 ≤ xs.length then (0, 0, ⟨#[]⟩, false, xs) else (5, (xs.length : Int), ⟨#[]⟩, true, xs ++ [⟨h, t⟩])) := by
  unfold impl_heap_cons.f
  by_cases c : 4000 ≤ xs.length
  · rw [if_pos (by omega), if_pos c]
  · rw [if_neg (by omega), if_neg c, if_pos (by omega), Option.bind_some]
    have e : wrap64 (((xs ++ [(⟨(⟨h.f0, h.f1, h.f2⟩ : S28), (⟨t.f0, t.f1, t.f2⟩ : S28)⟩ : S70)]).length : Int) - 1) = (xs.length : Int) := by
      rw [List.length_append, List.length_singleton]
      unfold wrap64
      omega
    rw [e]
/-- A pair behind others, or the fault. -/
def consM (xs : List S70) (h t : S28) : Int × List S70 × Int × Int × ByteArray :=
  if askL xs [h, t] = 0 then (if 4000 ≤ xs.length then (2, [], 0, 0, ⟨#[]⟩) else (0, xs ++ [⟨h, t⟩], 5, (xs.length : Int), ⟨#[]⟩)) else (askL xs [h, t], [], 0, 0, ⟨#[]⟩)
theorem askL_heap {xs : List S70} {vs : List S28} (h : askL xs vs = 0) : heapM xs = 0 := by
  unfold askL at h
  split at h
  · assumption
  · rename_i c; exact absurd h c
theorem askL_two (xs : List S70) (h t : S28) : askL xs [h, t] = if askedM xs h = 0 then askedM xs t else askedM xs h := by
  unfold askL askedM
  by_cases c : heapM xs = 0
  · rw [if_pos c, if_pos c, if_pos c]
    simp only [inM, List.length_cons, List.length_nil, runU, inAt, inStep]
    by_cases a : valM h = 0
    · by_cases b : beyB h xs.length = true
      · simp [a, b]
      · by_cases a' : valM t = 0
        · by_cases b' : beyB t xs.length = true
          · simp [a, b, a', b']
          · simp [a, b, a', b']
        · simp [a, b, a']
    · simp [a]
  · simp only [if_neg c]
theorem implConsTo_ev (xs : List S70) (h t : S28) (hx : okP xs) (hh : okS h.f2) (ht : okS t.f2) : Ev (fun k => impl_ConsTo.f k xs h.f0 h.f1 h.f2 t.f0 t.f1 t.f2) (consM xs h t) := by
  refine Ev.congr (fun k => impl_ConsTo.f.eq_1 k _ _ _ _ _ _ _) (Ev.bind (heapFaultL_ev xs [h, t] hx (by simp) (by simp [hh, ht])) (Ev.iff (fun c => ?_) (fun c => Ev.leaf (by unfold consM; rw [if_neg c]))))
  have hl := heap_len (askL_heap c)
  refine Ev.bind0 (implCloneP_eq xs (by omega)) (Ev.bind0 (heapCons_eq xs h t (by omega)) ?_)
  unfold consM
  rw [if_pos c]
  by_cases d : 4000 ≤ xs.length
  · rw [if_pos d, if_pos d]
    exact Ev.ifn (by simp) (Ev.now _)
  · rw [if_neg d, if_neg d]
    exact Ev.ifp rfl (Ev.now _)
theorem specConsTo_ev (xs : List S70) (h t : S28) (hx : okP xs) (hh : okS h.f2) (ht : okS t.f2) : Ev (fun k => spec_ConsTo.f k xs h.f0 h.f1 h.f2 t.f0 t.f1 t.f2) (consM xs h t) := by
  have e := askL_two xs h t
  refine Ev.congr (fun k => spec_ConsTo.f.eq_1 k _ _ _ _ _ _ _) (Ev.bind (l5Asked_ev xs h hx hh) (Ev.iff (fun c => ?_) (fun c => Ev.leaf (by rw [if_neg c] at e; unfold consM; rw [e, if_neg c]))))
  rw [if_pos c] at e
  refine Ev.bind (l5Asked_ev xs t hx ht) (Ev.iff (fun c1 => ?_) (fun c1 => Ev.leaf (by unfold consM; rw [e, if_neg c1])))
  have hl := heap_len (asked_good c).1
  unfold consM
  rw [e, if_pos c1]
  refine Ev.iff (fun d => Ev.leaf (by rw [if_pos (by omega)])) (fun d => ?_)
  rw [if_neg (by omega)]
  refine Ev.bind0 (l5Copy_eq xs (by omega)) (Ev.bind0 rfl (Ev.ifp (by simp; omega) (Ev.now _)))
theorem consM_len (xs : List S70) (h t : S28) : (consM xs h t).2.1.length ≤ 4000 := by
  unfold consM
  split
  · split
    · simp
    · simp; omega
  · simp
end Go.Proofs.YthlgmdbfhkcghaaDoor.L
