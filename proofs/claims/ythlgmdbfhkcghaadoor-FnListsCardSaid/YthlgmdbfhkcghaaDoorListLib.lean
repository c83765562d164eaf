/- Proved: what the program's and the reference's lists out of pairs come to: the same. Conditions: those in each head. -/
import Derived.Test.YthlgmdbfhkcghaaDoorHeapOkLib
import Derived.Test.YthlgmdbfhkcghaaDoorL8
namespace Go.Proofs.YthlgmdbfhkcghaaDoor.L
open Go.RowKit Go.Proofs.YthlgmdbfhkcghaaDoorW.PrintWords Go.Proofs.YthlgmdbfhkcghaaDoorW.PrintLast Go.Proofs.YthlgmdbfhkcghaaDoor.PL
set_option linter.unusedSimpArgs false

/-- The list that begins with a value, behind others. -/
def listM (xs : List S70) : Nat → List S28 → S28 → Int × List S28 × Int × Int × ByteArray
  | 0, _, _ => (2, [], 0, 0, ⟨#[]⟩)
  | d + 1, out, v => if v.f0 = 5 then (if (out.length : Int) + 1 > 200 then (2, [], 0, 0, ⟨#[]⟩) else listM xs d (out ++ [(rd_T70 xs v.f1).f0]) (rd_T70 xs v.f1).f1) else (0, out, v.f0, v.f1, v.f2)
theorem tail_good {xs : List S70} (h : heapM xs = 0) {v : S28} (hg : goodV xs.length v) (hk : v.f0 = 5) : goodV xs.length (rd_T70 xs v.f1).f0 ∧ goodV xs.length (rd_T70 xs v.f1).f1 := by
  obtain ⟨h0, h1⟩ := goodV_pair hg hk
  obtain ⟨j, hj⟩ : ∃ j : Nat, (j : Int) = v.f1 := ⟨v.f1.toNat, Int.toNat_of_nonneg h0⟩
  have hj' : j < xs.length := by omega
  rw [← hj, rdQ_at hj']
  have := heap_good h j hj'
  exact ⟨goodV_mono this.1 (by omega), goodV_mono this.2 (by omega)⟩
theorem implList_loop (xs : List S70) (h : heapM xs = 0) : ∀ (d : Nat) (out : List S28) (v : S28), goodV xs.length v → 200 < out.length + d → out.length ≤ 200 → Ev (fun k => impl_ListFrom.l0 k xs out v.f0 v.f1 v.f2) (listM xs d out v)
  | 0, out, v, hg, h0, h1 => by omega
  | d + 1, out, v, hg, h0, h1 => by
    have hl := heap_len h
    refine Ev.step (fun k => impl_ListFrom.l0.eq_2 _ _ _ _ _ k) (Ev.iff (fun c => ?_) (fun c => Ev.leaf (by simp only [listM]; rw [if_neg c])))
    obtain ⟨g0, g1⟩ := goodV_pair hg c
    refine Ev.ifp g0 (Ev.ifp (by omega) (Ev.ifp (by omega) (Ev.bind0 rfl (Ev.iff (fun e => Ev.leaf ?_) (fun e => ?_)))))
    · simp only [listM]
      rw [if_pos c, if_pos (by simpa using e)]
    · have e' : ¬ (out.length : Int) + 1 > 200 := by simpa using e
      refine Ev.cast (implList_loop xs h d _ _ (tail_good h hg c).2 (by simp; omega) (by simp; omega)) ?_
      simp only [listM]
      rw [if_pos c, if_neg e']
theorem listM_len (xs : List S70) : ∀ (d : Nat) (out : List S28) (v : S28), out.length ≤ 200 → (listM xs d out v).2.1.length ≤ 200
  | 0, out, v, h => by simp [listM]
  | d + 1, out, v, h => by
    simp only [listM]
    split
    · split
      · simp
      · exact listM_len xs d _ _ (by simp; omega)
    · exact h
/-- The list that begins with a value, or the fault. -/
def listFromM (xs : List S70) (v : S28) : Int × List S28 × Int × Int × ByteArray := if askedM xs v = 0 then listM xs 201 [] v else (askedM xs v, [], 0, 0, ⟨#[]⟩)
theorem implListFrom_ev (xs : List S70) (v : S28) (hx : okP xs) (hv : okS v.f2) : Ev (fun k => impl_ListFrom.f k xs v.f0 v.f1 v.f2) (listFromM xs v) := by
  refine Ev.congr (fun k => impl_ListFrom.f.eq_1 k _ _ _ _) (Ev.bind (heapFault1_ev xs v hx hv) (Ev.iff (fun c => ?_) (fun c => Ev.leaf (by unfold listFromM; rw [if_neg c]))))
  obtain ⟨h, hg⟩ := asked_good c
  unfold listFromM
  rw [if_pos c]
  exact implList_loop xs h 201 [] v hg (by simp) (by simp)
theorem listFromM_len (xs : List S70) (v : S28) : (listFromM xs v).2.1.length ≤ 200 := by
  unfold listFromM
  split
  · exact listM_len xs 201 [] v (by simp)
  · simp
end Go.Proofs.YthlgmdbfhkcghaaDoor.L
