/- Proved: which values of the program's struct types are well formed, and that an argument of such a type can be opened. Conditions: none beyond each lemma's own. -/
import Derived.Test.YtcliaceiijaafaaDoorA0
import Derived.Test.YtcliaceiijaafaaDoorOpens
namespace Go.Proofs.YtcliaceiijaafaaDoor.A
open Go.RowKit Go.Proofs.YtcliaceiijaafaaDoorW.PrintWords Go.Proofs.YtcliaceiijaafaaDoor
end Go.Proofs.YtcliaceiijaafaaDoor.A
