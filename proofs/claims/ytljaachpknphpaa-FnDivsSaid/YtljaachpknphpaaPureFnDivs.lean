/- Proved: the pure statement behind the law FnDivs: whatever its arguments, the law's plain function answers true. Conditions: the arguments are well formed values of their types. -/
import Derived.Test.YtljaachpknphpaaDivLib
import Derived.Test.YtljaachpknphpaaDrawLib
import Derived.Test.YtljaachpknphpaaD1
import Derived.Test.YtljaachpknphpaaD3
namespace Go.Proofs.Ytljaachpknphpaa.Pure
open Go.RowKit Go.Proofs.Ytljaachpknphpaa.D Go.Proofs.YtljaachpknphpaaW.PrintWords Go.Proofs.YtljaachpknphpaaW.PrintLast Go.Proofs.Ytljaachpknphpaa.PL

theorem pair_eq (l : List Int) (hl : okB l) : ∃ a b, spec_DrawQuoNum.f l = some (a, b) := by
  obtain ⟨a, ha, _⟩ := bent_eq l hl 0 (by omega) (by omega)
  obtain ⟨b, hb, _⟩ := bent_eq l hl (0 + 10) (by omega) (by omega)
  refine ⟨a, b, ?_⟩
  unfold spec_DrawQuoNum.f spec_l1Pair.f spec_l1Source.f
  rw [Option.bind_some]
  simp only []
  rw [ha, Option.bind_some]
  simp only []
  rw [hb, Option.bind_some]
  rfl
theorem divs_j3 (a b : Int) (q r : Int) (m : Int × Int) (hq : (quoM a b).2 = q) (hm : m.1 = 7 ∨ m.1 = 0 ∧ wrap64 (m.2 + r) = a) : Ev (fun k => laws_FnDivs.j3 k a b true 0 q 0 r m.1 m.2) true := by
  have j4 : Ev (fun k => laws_FnDivs.j4 k (q == (quoM a b).2)) true := Ev.step (fun k => laws_FnDivs.j4.eq_2 _ k) (Ev.leaf (by rw [hq]; simp))
  refine Ev.step (fun k => laws_FnDivs.j3.eq_2 _ _ _ _ _ _ _ _ _ k) (Ev.ifp rfl (Ev.ifp rfl (Ev.iff (fun _ => Ev.bind0 (specQuo_eq a b) j4) (fun c => ?_))))
  have h := hm.resolve_left c
  exact Ev.ifp h.1 (Ev.ifp h.2 (Ev.bind0 (specQuo_eq a b) j4))
theorem FnDivs : ∀ (l0 : List Int), (l0.length ≤ maxLen ∧ ∀ y ∈ l0, (Lit.int .u8 y).wf = true) → ∃ k, laws_FnDivs.f k l0 = some true := by
  intro l0 h
  refine Ev.rounds (r := true) (Ev.congr (fun k => laws_FnDivs.f.eq_1 k _) (Ev.bind0 rfl (Ev.iff (fun _ => Ev.now _) (fun c => ?_))))
  have hl : okB l0 := okB_of l0 (by have z := c; simp at z; omega) h.2
  obtain ⟨a, b, hd⟩ := pair_eq l0 hl
  refine Ev.step (fun k => laws_FnDivs.j0.eq_2 _ k) (Ev.bind0 hd (Ev.bind (implQuo_ev a b) (Ev.iff (fun c0 => ?_) (fun c0 => ?_))))
  · have c0' : (quoM a b).1 = 0 := c0
    have hab : (numB a && numB b) = true ∧ b ≠ 0 ∧ numB (flQ a b) = true ∧ quoM a b = (0, flQ a b) := by
      unfold quoM at c0' ⊢
      split at c0'
      · rename_i z
        split at c0'
        · simp at c0'
        · rename_i z2
          unfold ofR at c0' ⊢
          split at c0'
          · rename_i z3
            exact ⟨z, z2, z3, by rw [if_pos z, if_neg z2, if_pos z3]⟩
          · simp at c0'
      · simp at c0'
    obtain ⟨hn, hb, hf, hq⟩ := hab
    have hn2 := hn
    simp only [Bool.and_eq_true] at hn2
    have h1 := numB_iff.mp hn2.1
    have h2 := numB_iff.mp hn2.2
    have hr := flQ_rest (a := a) hb
    have hrem : remM a b = (0, a - b * flQ a b) := by
      unfold remM ofR
      rw [if_pos hn, if_neg hb, if_pos (numB_iff.mpr (by omega))]
    have hmul : mulM (flQ a b) b = ofR (b * flQ a b) := by
      unfold mulM
      rw [if_pos (by rw [hf, hn2.2]; rfl), Int.mul_comm, wrap_id (by omega) (by omega)]
    have hm : (ofR (b * flQ a b)).1 = 7 ∨ (ofR (b * flQ a b)).1 = 0 ∧ wrap64 ((ofR (b * flQ a b)).2 + (a - b * flQ a b)) = a := by
      unfold ofR
      split
      · right
        exact ⟨rfl, by show wrap64 (b * flQ a b + (a - b * flQ a b)) = a; rw [wrap_id (by omega) (by omega)]; omega⟩
      · left; rfl
    have hi := implRem_ev a b
    rw [hrem] at hi
    have hmu := implMul_ev (flQ a b) b
    rw [hmul] at hmu
    have j3 := divs_j3 a b (flQ a b) (a - b * flQ a b) _ (by rw [hq]) hm
    rw [hq]
    refine Ev.step (fun k => laws_FnDivs.j2.eq_2 _ _ _ _ k) (Ev.bind hi (Ev.bind hmu ?_))
    by_cases p : b > 0
    · have := hr.1 p
      exact Ev.ifp p (Ev.ifp this.1 (Ev.ifp this.2 j3))
    · have := hr.2 (by omega)
      refine Ev.ifn p (Ev.ifp (by omega) (Ev.ifp this.1 ?_))
      rw [decide_eq_true this.2]
      exact j3
  · exact Ev.bind0 (specQuo_eq a b) (Ev.ifp rfl (Ev.bind0 (specRem_eq a b) (Ev.bind (implRem_ev a b) (Ev.step (fun k => laws_FnDivs.j1.eq_2 _ k) (Ev.leaf (by simp))))))
end Go.Proofs.Ytljaachpknphpaa.Pure
