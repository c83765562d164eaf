/- Proved: what quotients, rests and products come to, and that they belong together. Conditions: those in each head. -/
import Derived.Test.YtljaachpknphpaaNumLib
import Derived.Test.YtljaachpknphpaaD2
import Derived.Test.YtljaachpknphpaaD2
import Derived.Test.YtljaachpknphpaaD1
import Derived.Test.YtljaachpknphpaaD2
import Derived.Test.YtljaachpknphpaaD2
namespace Go.Proofs.Ytljaachpknphpaa.D
open Go.RowKit Go.Proofs.YtljaachpknphpaaW.PrintWords Go.Proofs.YtljaachpknphpaaW.PrintLast Go.Proofs.Ytljaachpknphpaa.PL
set_option linter.unusedSimpArgs false

theorem tmod_facts {a b : Int} (hb : b ≠ 0) : b * Int.tdiv a b + Int.tmod a b = a ∧ (0 ≤ a → 0 ≤ Int.tmod a b) ∧ (a ≤ 0 → Int.tmod a b ≤ 0) ∧ (0 < b → Int.tmod a b < b ∧ -b < Int.tmod a b) ∧ (b < 0 → Int.tmod a b < -b ∧ b < Int.tmod a b) := by
  have e := Int.mul_tdiv_add_tmod a b
  have h1 : 0 ≤ a → 0 ≤ Int.tmod a b := fun h => Int.tmod_nonneg b h
  have h2 : a ≤ 0 → Int.tmod a b ≤ 0 := fun h => by
    have := Int.tmod_nonneg b (show 0 ≤ -a by omega)
    rw [Int.neg_tmod] at this
    omega
  have h3 : (Int.tmod a b).natAbs < b.natAbs := by
    rw [Int.natAbs_tmod]
    exact Nat.mod_lt _ (by omega)
  refine ⟨e, h1, h2, fun h => ?_, fun h => ?_⟩ <;> omega
/-- A quotient, rounded down. -/
def flQ (a b : Int) : Int := if Int.tmod a b = 0 then Int.tdiv a b else if ((decide (a < 0)) != (decide (b < 0))) = true then Int.tdiv a b - 1 else Int.tdiv a b
/-- The rest is nearer to 0 than what is divided by, on its side. -/
theorem flQ_rest {a b : Int} (hb : b ≠ 0) : (0 < b → 0 ≤ a - b * flQ a b ∧ a - b * flQ a b < b) ∧ (b < 0 → a - b * flQ a b ≤ 0 ∧ b < a - b * flQ a b) := by
  obtain ⟨e, h1, h2, h3, h4⟩ := tmod_facts (a := a) hb
  unfold flQ
  split
  · rename_i c
    constructor <;> intro h <;> constructor <;> omega
  · rename_i c
    split
    · rename_i d
      have d' : ¬ ((a < 0) ↔ (b < 0)) := by
        intro z
        simp only [z, bne_self_eq_false] at d
        cases d
      rw [Int.mul_sub, Int.mul_one]
      constructor <;> intro h <;> constructor <;> omega
    · rename_i d
      have d' : (a < 0) ↔ (b < 0) := by
        constructor
        · intro z
          by_cases y : b < 0
          · exact y
          · rw [decide_eq_true z, decide_eq_false y] at d; exact absurd rfl d
        · intro z
          by_cases y : a < 0
          · exact y
          · rw [decide_eq_false y, decide_eq_true z] at d; exact absurd rfl d
      constructor <;> intro h <;> constructor <;> omega
theorem flQ_wrap {a b : Int} (ha : numB a = true) : -9000000000 ≤ Int.tdiv a b ∧ Int.tdiv a b ≤ 9000000000 := by
  have h := numB_iff.mp ha
  have h2 : (Int.tdiv a b).natAbs ≤ a.natAbs := by
    rw [Int.natAbs_tdiv]
    exact Nat.div_le_self _ _
  omega
theorem l1Quo_eq {a b : Int} (hb : b ≠ 0) (ha : numB a = true) : spec_l1Quo.f a b = some (flQ a b) := by
  have h := flQ_wrap (b := b) ha
  unfold spec_l1Quo.f flQ
  rw [if_neg hb, wrap_id (x := Int.tdiv a b) (by omega) (by omega), wrap_id (x := Int.tdiv a b - 1) (by omega) (by omega)]
  split
  · rfl
  · split <;> rfl
theorem quotient_eq {a b : Int} (ha : numB a = true) : impl_quotient.f a b = some (if b = 0 then (0, false) else (flQ a b, true)) := by
  unfold impl_quotient.f
  by_cases hb : b = 0
  · rw [if_pos hb, if_pos hb]
  · have h := flQ_wrap (b := b) ha
    unfold flQ
    rw [if_neg hb, if_neg hb, wrap_id (x := Int.tdiv a b) (by omega) (by omega), wrap_id (x := Int.tdiv a b - 1) (by omega) (by omega)]
    split
    · rfl
    · split <;> rfl
def ofR (v : Int) : Int × Int := if numB v = true then (0, v) else (7, 0)
theorem l1Of_eq (v : Int) : spec_l1Of.f v = some (ofR v) := by
  unfold spec_l1Of.f ofR
  rw [l1Num_eq, Option.bind_some]
  split <;> rfl
theorem l1Two_eq (a b : Int) : spec_l1Two.f a b = some (numB a && numB b) := by
  unfold spec_l1Two.f
  rw [l1Num_eq, Option.bind_some, l1Num_eq]
  cases numB a <;> rfl
/-- What a quotient, a rest, a product answers. -/
def quoM (a b : Int) : Int × Int := if (numB a && numB b) = true then (if b = 0 then (7, 0) else ofR (flQ a b)) else (3, 0)
def remM (a b : Int) : Int × Int := if (numB a && numB b) = true then (if b = 0 then (7, 0) else ofR (a - b * flQ a b)) else (3, 0)
def mulM (a b : Int) : Int × Int := if (numB a && numB b) = true then ofR (wrap64 (a * b)) else (3, 0)
theorem specQuo_eq (a b : Int) : spec_QuoNum.f a b = some (quoM a b) := by
  unfold spec_QuoNum.f quoM
  rw [l1Two_eq, Option.bind_some]
  by_cases c : (numB a && numB b) = true
  · rw [if_pos c, if_pos c]
    by_cases d : b = 0
    · rw [if_pos d, if_pos d]
    · simp only [Bool.and_eq_true] at c
      rw [if_neg d, if_neg d, l1Quo_eq d c.1, Option.bind_some, l1Of_eq, Option.bind_some]
  · rw [if_neg c, if_neg c]
theorem rest_wrap {a b : Int} (d : b ≠ 0) (ha : numB a = true) (hb : numB b = true) : wrap64 (a - wrap64 (b * flQ a b)) = a - b * flQ a b := by
  have h := flQ_rest (a := a) d
  have h1 := numB_iff.mp ha
  have h2 := numB_iff.mp hb
  rw [wrap_id (x := b * flQ a b) (by omega) (by omega), wrap_id (by omega) (by omega)]
theorem specRem_eq (a b : Int) : spec_RemNum.f a b = some (remM a b) := by
  unfold spec_RemNum.f remM
  rw [l1Two_eq, Option.bind_some]
  by_cases c : (numB a && numB b) = true
  · rw [if_pos c, if_pos c]
    by_cases d : b = 0
    · rw [if_pos d, if_pos d]
    · simp only [Bool.and_eq_true] at c
      rw [if_neg d, if_neg d, l1Quo_eq d c.1, Option.bind_some, rest_wrap d c.1 c.2, l1Of_eq, Option.bind_some]
  · rw [if_neg c, if_neg c]
theorem implQuo_ev (a b : Int) : Ev (fun k => impl_QuoNum.f k a b) (quoM a b) := by
  refine Ev.congr (fun k => impl_QuoNum.f.eq_1 k _ _) (Ev.bind (a := quoM a b) (Ev.congr (fun k => impl_calculated__impl_quotient.f.eq_1 k _ _) (Ev.bind0 (NumFault_eq a) ?_)) (Ev.now _))
  have j : ∀ z : Bool, z = !(numB a && numB b) → Ev (fun k => impl_calculated__impl_quotient.j0 k a b z) (quoM a b) := fun z hz => by
    refine Ev.step (fun k => impl_calculated__impl_quotient.j0.eq_2 _ _ _ k) (Ev.iff (fun c => Ev.leaf ?_) (fun c => ?_))
    · rw [c] at hz
      unfold quoM
      rw [if_neg]
      intro z
      rw [z] at hz
      cases hz
    · have c' : (numB a && numB b) = true := by
        cases h : (numB a && numB b)
        · rw [h] at hz; exact absurd hz c
        · rfl
      have c2 := c'
      simp only [Bool.and_eq_true] at c2
      refine Ev.bind0 (quotient_eq c2.1) ?_
      unfold quoM
      rw [if_pos c']
      by_cases d : b = 0
      · rw [if_pos d, if_pos d]
        exact Ev.ifn (by simp) (Ev.now _)
      · rw [if_neg d, if_neg d]
        refine Ev.ifp rfl (Ev.bind0 (NumFault_eq _) (Ev.iff (fun e => Ev.leaf ?_) (fun e => Ev.leaf ?_)))
        · unfold ofR; rw [if_pos (numM_0.mp e)]
        · unfold ofR; rw [if_neg (fun z => e (numM_0.mpr z))]
  refine Ev.iff (fun c => Ev.bind0 (NumFault_eq b) (j _ ?_)) (fun c => j _ ?_)
  · rw [numM_0.mp c, Bool.true_and]
    unfold numM
    cases numB b <;> rfl
  · have : numB a = false := by
      cases h : numB a
      · rfl
      · exact absurd (numM_0.mpr h) c
    rw [this]; rfl
theorem implRem_ev (a b : Int) : Ev (fun k => impl_RemNum.f k a b) (remM a b) := by
  refine Ev.congr (fun k => impl_RemNum.f.eq_1 k _ _) (Ev.bind (a := remM a b) (Ev.congr (fun k => impl_calculated__impl_RemNum_1.f.eq_1 k _ _) (Ev.bind0 (NumFault_eq a) ?_)) (Ev.now _))
  have j : ∀ z : Bool, z = !(numB a && numB b) → Ev (fun k => impl_calculated__impl_RemNum_1.j0 k a b z) (remM a b) := fun z hz => by
    refine Ev.step (fun k => impl_calculated__impl_RemNum_1.j0.eq_2 _ _ _ k) (Ev.iff (fun c => Ev.leaf ?_) (fun c => ?_))
    · rw [c] at hz
      unfold remM
      rw [if_neg]
      intro z
      rw [z] at hz
      cases hz
    · have c' : (numB a && numB b) = true := by
        cases h : (numB a && numB b)
        · rw [h] at hz; exact absurd hz c
        · rfl
      have c2 := c'
      simp only [Bool.and_eq_true] at c2
      by_cases d : b = 0
      · refine Ev.bind0 (a := (wrap64 (a - wrap64 (b * 0)), false)) (by unfold impl_RemNum_1.f; rw [quotient_eq c2.1, Option.bind_some, if_pos d]) (Ev.ifn (by simp) (Ev.leaf ?_))
        unfold remM
        rw [if_pos c', if_pos d]
      · refine Ev.bind0 (a := (a - b * flQ a b, true)) (by unfold impl_RemNum_1.f; rw [quotient_eq c2.1, Option.bind_some, if_neg d, rest_wrap d c2.1 c2.2]) (Ev.ifp rfl (Ev.bind0 (NumFault_eq _) (Ev.iff (fun e => Ev.leaf ?_) (fun e => Ev.leaf ?_))))
        · unfold remM ofR; rw [if_pos c', if_neg d, if_pos (numM_0.mp e)]
        · unfold remM ofR; rw [if_pos c', if_neg d, if_neg (fun z => e (numM_0.mpr z))]
  refine Ev.iff (fun c => Ev.bind0 (NumFault_eq b) (j _ ?_)) (fun c => j _ ?_)
  · rw [numM_0.mp c, Bool.true_and]
    unfold numM
    cases numB b <;> rfl
  · have : numB a = false := by
      cases h : numB a
      · rfl
      · exact absurd (numM_0.mpr h) c
    rw [this]; rfl
theorem implMul_ev (a b : Int) : Ev (fun k => impl_MulNum.f k a b) (mulM a b) := by
  refine Ev.congr (fun k => impl_MulNum.f.eq_1 k _ _) (Ev.bind (a := mulM a b) (Ev.congr (fun k => impl_calculated__impl_MulNum_1.f.eq_1 k _ _) (Ev.bind0 (NumFault_eq a) ?_)) (Ev.now _))
  have j : ∀ z : Bool, z = !(numB a && numB b) → Ev (fun k => impl_calculated__impl_MulNum_1.j0 k a b z) (mulM a b) := fun z hz => by
    refine Ev.step (fun k => impl_calculated__impl_MulNum_1.j0.eq_2 _ _ _ k) (Ev.iff (fun c => Ev.leaf ?_) (fun c => ?_))
    · rw [c] at hz
      unfold mulM
      rw [if_neg]
      intro z
      rw [z] at hz
      cases hz
    · have c' : (numB a && numB b) = true := by
        cases h : (numB a && numB b)
        · rw [h] at hz; exact absurd hz c
        · rfl
      refine Ev.bind0 rfl (Ev.ifp rfl (Ev.bind0 (NumFault_eq _) (Ev.iff (fun e => Ev.leaf ?_) (fun e => Ev.leaf ?_))))
      · unfold mulM ofR; rw [if_pos c', if_pos (numM_0.mp e)]
      · unfold mulM ofR; rw [if_pos c', if_neg (fun z => e (numM_0.mpr z))]
  refine Ev.iff (fun c => Ev.bind0 (NumFault_eq b) (j _ ?_)) (fun c => j _ ?_)
  · rw [numM_0.mp c, Bool.true_and]
    unfold numM
    cases numB b <;> rfl
  · have : numB a = false := by
      cases h : numB a
      · rfl
      · exact absurd (numM_0.mpr h) c
    rw [this]; rfl
end Go.Proofs.Ytljaachpknphpaa.D
