/- Proved: which values of the program's struct types are well formed, and that an argument of such a type can be opened. Conditions: none beyond each lemma's own. -/
import Derived.Test.YtljaachpknphpaaD0
import Derived.Test.YtljaachpknphpaaOpens
namespace Go.Proofs.Ytljaachpknphpaa.D
open Go.RowKit Go.Proofs.YtljaachpknphpaaW.PrintWords Go.Proofs.Ytljaachpknphpaa
end Go.Proofs.Ytljaachpknphpaa.D
