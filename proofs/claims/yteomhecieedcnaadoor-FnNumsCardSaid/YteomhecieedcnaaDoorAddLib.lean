/- Proved: what sums and differences come to. Conditions: those in each head. -/
import Derived.Test.YteomhecieedcnaaDoorNumLib
import Derived.Test.YteomhecieedcnaaDoorA5
import Derived.Test.YteomhecieedcnaaDoorA4
import Derived.Test.YteomhecieedcnaaDoorA5
namespace Go.Proofs.YteomhecieedcnaaDoor.A
open Go.RowKit Go.Proofs.YteomhecieedcnaaDoorW.PrintWords Go.Proofs.YteomhecieedcnaaDoorW.PrintLast Go.Proofs.YteomhecieedcnaaDoor.PL
set_option linter.unusedSimpArgs false

def ofR (v : Int) : Int × Int := if numB v = true then (0, v) else (7, 0)
theorem l1Of_eq (v : Int) : spec_l1Of.f v = some (ofR v) := by
  unfold spec_l1Of.f ofR
  rw [l1Num_eq, Option.bind_some]
  split <;> rfl
theorem l1Two_eq (a b : Int) : spec_l1Two.f a b = some (numB a && numB b) := by
  unfold spec_l1Two.f
  rw [l1Num_eq, Option.bind_some, l1Num_eq]
  cases numB a <;> rfl
/-- What a sum, a difference answers. -/
def addM (a b : Int) : Int × Int := if (numB a && numB b) = true then ofR (wrap64 (a + b)) else (3, 0)
def subM (a b : Int) : Int × Int := if (numB a && numB b) = true then ofR (wrap64 (a - b)) else (3, 0)
theorem specAdd_eq (a b : Int) : spec_AddNum.f a b = some (addM a b) := by
  unfold spec_AddNum.f addM
  rw [l1Two_eq, Option.bind_some]
  by_cases c : (numB a && numB b) = true
  · rw [if_pos c, if_pos c, l1Of_eq, Option.bind_some]
  · rw [if_neg c, if_neg c]
theorem implAdd_ev (a b : Int) : Ev (fun k => impl_AddNum.f k a b) (addM a b) := by
  refine Ev.congr (fun k => impl_AddNum.f.eq_1 k _ _) (Ev.bind (a := addM a b) (Ev.congr (fun k => impl_calculated__impl_AddNum_1.f.eq_1 k _ _) (Ev.bind0 (NumFault_eq a) ?_)) (Ev.now _))
  have j : ∀ z : Bool, z = !(numB a && numB b) → Ev (fun k => impl_calculated__impl_AddNum_1.j0 k a b z) (addM a b) := fun z hz => by
    refine Ev.step (fun k => impl_calculated__impl_AddNum_1.j0.eq_2 _ _ _ k) (Ev.iff (fun c => Ev.leaf ?_) (fun c => ?_))
    · rw [c] at hz
      unfold addM
      rw [if_neg]
      intro z
      rw [z] at hz
      cases hz
    · have c' : (numB a && numB b) = true := by
        cases h : (numB a && numB b)
        · rw [h] at hz; exact absurd hz c
        · rfl
      refine Ev.bind0 rfl (Ev.ifp rfl (Ev.bind0 (NumFault_eq _) (Ev.iff (fun e => Ev.leaf ?_) (fun e => Ev.leaf ?_))))
      · unfold addM ofR; rw [if_pos c', if_pos (numM_0.mp e)]
      · unfold addM ofR; rw [if_pos c', if_neg (fun z => e (numM_0.mpr z))]
  refine Ev.iff (fun c => Ev.bind0 (NumFault_eq b) (j _ ?_)) (fun c => j _ ?_)
  · rw [numM_0.mp c, Bool.true_and]
    unfold numM
    cases numB b <;> rfl
  · have : numB a = false := by
      cases h : numB a
      · rfl
      · exact absurd (numM_0.mpr h) c
    rw [this]; rfl
theorem implSub_ev (a b : Int) : Ev (fun k => impl_SubNum.f k a b) (subM a b) := by
  refine Ev.congr (fun k => impl_SubNum.f.eq_1 k _ _) (Ev.bind (a := subM a b) (Ev.congr (fun k => impl_calculated__impl_SubNum_1.f.eq_1 k _ _) (Ev.bind0 (NumFault_eq a) ?_)) (Ev.now _))
  have j : ∀ z : Bool, z = !(numB a && numB b) → Ev (fun k => impl_calculated__impl_SubNum_1.j0 k a b z) (subM a b) := fun z hz => by
    refine Ev.step (fun k => impl_calculated__impl_SubNum_1.j0.eq_2 _ _ _ k) (Ev.iff (fun c => Ev.leaf ?_) (fun c => ?_))
    · rw [c] at hz
      unfold subM
      rw [if_neg]
      intro z
      rw [z] at hz
      cases hz
    · have c' : (numB a && numB b) = true := by
        cases h : (numB a && numB b)
        · rw [h] at hz; exact absurd hz c
        · rfl
      refine Ev.bind0 rfl (Ev.ifp rfl (Ev.bind0 (NumFault_eq _) (Ev.iff (fun e => Ev.leaf ?_) (fun e => Ev.leaf ?_))))
      · unfold subM ofR; rw [if_pos c', if_pos (numM_0.mp e)]
      · unfold subM ofR; rw [if_pos c', if_neg (fun z => e (numM_0.mpr z))]
  refine Ev.iff (fun c => Ev.bind0 (NumFault_eq b) (j _ ?_)) (fun c => j _ ?_)
  · rw [numM_0.mp c, Bool.true_and]
    unfold numM
    cases numB b <;> rfl
  · have : numB a = false := by
      cases h : numB a
      · rfl
      · exact absurd (numM_0.mpr h) c
    rw [this]; rfl
end Go.Proofs.YteomhecieedcnaaDoor.A
