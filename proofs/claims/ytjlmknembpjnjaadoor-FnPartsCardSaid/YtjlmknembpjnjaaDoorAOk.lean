/- Proved: which values of the program's struct types are well formed, and that an argument of such a type can be opened. Conditions: none beyond each lemma's own. -/
import Derived.Test.YtjlmknembpjnjaaDoorA0
import Derived.Test.YtjlmknembpjnjaaDoorOpens
namespace Go.Proofs.YtjlmknembpjnjaaDoor.A
open Go.RowKit Go.Proofs.YtjlmknembpjnjaaDoorW.PrintWords Go.Proofs.YtjlmknembpjnjaaDoor
end Go.Proofs.YtjlmknembpjnjaaDoor.A
