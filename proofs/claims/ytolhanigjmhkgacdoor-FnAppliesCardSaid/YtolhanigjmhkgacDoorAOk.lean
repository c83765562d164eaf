/- Proved: which values of the program's struct types are well formed, and that an argument of such a type can be opened. Conditions: none beyond each lemma's own. -/
import Derived.Test.YtolhanigjmhkgacDoorA0
import Derived.Test.YtolhanigjmhkgacDoorOpens
namespace Go.Proofs.YtolhanigjmhkgacDoor.A
open Go.RowKit Go.Proofs.YtolhanigjmhkgacDoorW.PrintWords Go.Proofs.YtolhanigjmhkgacDoor
end Go.Proofs.YtolhanigjmhkgacDoor.A
