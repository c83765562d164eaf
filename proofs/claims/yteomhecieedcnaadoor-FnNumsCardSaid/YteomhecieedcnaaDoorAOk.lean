/- Proved: which values of the program's struct types are well formed, and that an argument of such a type can be opened. Conditions: none beyond each lemma's own. -/
import Derived.Test.YteomhecieedcnaaDoorA0
import Derived.Test.YteomhecieedcnaaDoorOpens
namespace Go.Proofs.YteomhecieedcnaaDoor.A
open Go.RowKit Go.Proofs.YteomhecieedcnaaDoorW.PrintWords Go.Proofs.YteomhecieedcnaaDoor
end Go.Proofs.YteomhecieedcnaaDoor.A
