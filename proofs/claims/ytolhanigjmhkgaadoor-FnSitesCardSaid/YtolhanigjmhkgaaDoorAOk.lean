/- Proved: which values of the program's struct types are well formed, and that an argument of such a type can be opened. Conditions: none beyond each lemma's own. -/
import Derived.Test.YtolhanigjmhkgaaDoorA0
import Derived.Test.YtolhanigjmhkgaaDoorOpens
namespace Go.Proofs.YtolhanigjmhkgaaDoor.A
open Go.RowKit Go.Proofs.YtolhanigjmhkgaaDoorW.PrintWords Go.Proofs.YtolhanigjmhkgaaDoor
end Go.Proofs.YtolhanigjmhkgaaDoor.A
