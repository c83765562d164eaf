/- Proved: what the tests of numbers come to. Conditions: none. -/
import Derived.Test.YteiokhfikbndbaaDoorInLib
import Derived.Test.YteiokhfikbndbaaDoorA1
import Derived.Test.YteiokhfikbndbaaDoorA3
namespace Go.Proofs.YteiokhfikbndbaaDoor.A
open Go.RowKit Go.Proofs.YteiokhfikbndbaaDoorW.PrintWords Go.Proofs.YteiokhfikbndbaaDoorW.PrintLast Go.Proofs.YteiokhfikbndbaaDoor.PL
set_option linter.unusedSimpArgs false

/-- Is it a number of the language? -/
def numB (n : Int) : Bool := inB n (-1000000000) 1000000000
def numM (n : Int) : Int := if numB n = true then 0 else 3
theorem numB_iff {n : Int} : numB n = true ↔ -1000000000 ≤ n ∧ n ≤ 1000000000 := inB_iff
theorem numM_0 {n : Int} : numM n = 0 ↔ numB n = true := by unfold numM; split <;> simp_all
theorem NumFault_eq (n : Int) : impl_NumFault.f n = some (numM n) := by
  unfold impl_NumFault.f numM numB
  rw [in_eq, Option.bind_some]
  split <;> rfl
theorem l1Num_eq (n : Int) : spec_l1Num.f n = some (numB n) := by
  unfold spec_l1Num.f numB
  rw [l1In_eq, Option.bind_some]
end Go.Proofs.YteiokhfikbndbaaDoor.A
