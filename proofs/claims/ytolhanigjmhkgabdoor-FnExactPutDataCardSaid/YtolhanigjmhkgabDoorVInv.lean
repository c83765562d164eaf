/- Small laws about lists, memory and walks, as the texts of this claim name them: cut by a program out of the printed words. Conditions: those in each head. -/
import Derived.Test.YtolhanigjmhkgabDoorVTab
namespace Go.Proofs.YtolhanigjmhkgabDoorW.PrintLast
def up (b : Nat → Bool) (i : Nat) : Nat → Bool := fun j => if j = i then true else b j
end Go.Proofs.YtolhanigjmhkgabDoorW.PrintLast
