/- Proved: what the program's and the reference's tests of numbers and values come to. Conditions: those in each head. -/
import Derived.Test.YtgnenhehcdekkacDoorSymLib
import Derived.Test.YtgnenhehcdekkacDoorNumLib
import Derived.Test.YtgnenhehcdekkacDoorA5
namespace Go.Proofs.YtgnenhehcdekkacDoor.A
open Go.RowKit Go.Proofs.YtgnenhehcdekkacDoorW.PrintWords Go.Proofs.YtgnenhehcdekkacDoorW.PrintLast Go.Proofs.YtgnenhehcdekkacDoor.PL
set_option linter.unusedSimpArgs false

/-- The fault of what a number, a bool or a name has. -/
def kindM (K a1 a2 a3 N : Int) (s : ByteArray) : Int := if K = a1 then numM N else if K = a3 then (if inB N 0 1 = true then 0 else 3) else if K = a2 then symM s else 0
theorem kindFault_eq (K a1 a2 a3 N : Int) (s : ByteArray) (hs : s.size ≤ 9223372036854775807) : impl_kindFault.f K a1 a2 a3 N s = some (kindM K a1 a2 a3 N s) := by
  unfold impl_kindFault.f kindM
  by_cases h1 : K = a1
  · rw [if_pos h1, if_pos h1, NumFault_eq, Option.bind_some]
  · rw [if_neg h1, if_neg h1]
    by_cases h3 : K = a3
    · rw [if_pos h3, if_pos h3, in_eq, Option.bind_some]
      split <;> rfl
    · rw [if_neg h3, if_neg h3]
      by_cases h2 : K = a2
      · rw [if_pos h2, if_pos h2, SymFault_eq s hs, Option.bind_some]
      · rw [if_neg h2, if_neg h2]
/-- A value's form is wrong. -/
def formB (K N : Int) (s : ByteArray) : Bool := !inB K 1 9 || (N != 0 && !inB K 5 8 && K != 1 && K != 2) || (!s.toList.isEmpty && K != 4)
/-- A value's number is out of range. -/
def rangeB (K N : Int) : Bool := (K == 1 && !numB N) || (K == 2 && !inB N 0 1) || (inB K 5 8 && !inB N 0 99999)
def valueM (K N : Int) (s : ByteArray) : Int := if formB K N s = true then 1 else if rangeB K N = true then 3 else if K = 4 then symM s else 0
theorem rest_eq (K N : Int) (s : ByteArray) : (if inB K 5 8 = true then (if inB N 0 99999 = true then kindM K 1 4 2 N s else 3) else kindM K 1 4 2 N s) = if rangeB K N = true then 3 else if K = 4 then symM s else 0 := by
  have p5 : ∀ z : Int, z < 5 → inB z 5 8 = false := fun z hz => inB_f.mpr (by omega)
  by_cases h1 : K = 1
  · subst h1
    simp only [rangeB, kindM, numM, p5 1 (by omega)]
    cases numB N <;> simp
  · by_cases h2 : K = 2
    · subst h2
      simp only [rangeB, kindM, p5 2 (by omega)]
      cases inB N 0 1 <;> simp
    · have hk : kindM K 1 4 2 N s = if K = 4 then symM s else 0 := by unfold kindM; rw [if_neg h1, if_neg h2]
      rw [hk]
      have hr : rangeB K N = (inB K 5 8 && !inB N 0 99999) := by simp [rangeB, h1, h2]
      rw [hr]
      cases inB K 5 8 <;> cases inB N 0 99999 <;> simp
end Go.Proofs.YtgnenhehcdekkacDoor.A
