/- Proved: which values of the program's struct types are well formed, and that an argument of such a type can be opened. Conditions: none beyond each lemma's own. -/
import Derived.Test.YteoccmbphmiaaaaDoorB0
import Derived.Test.YteoccmbphmiaaaaDoorOpens
namespace Go.Proofs.YteoccmbphmiaaaaDoor.B
open Go.RowKit Go.Proofs.YteoccmbphmiaaaaDoorW.PrintWords Go.Proofs.YteoccmbphmiaaaaDoor
end Go.Proofs.YteoccmbphmiaaaaDoor.B
