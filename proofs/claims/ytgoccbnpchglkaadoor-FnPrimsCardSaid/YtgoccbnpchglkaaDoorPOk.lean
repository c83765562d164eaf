/- Proved: which values of the program's struct types are well formed, and that an argument of such a type can be opened. Conditions: none beyond each lemma's own. -/
import Derived.Test.YtgoccbnpchglkaaDoorP0
import Derived.Test.YtgoccbnpchglkaaDoorOpens
namespace Go.Proofs.YtgoccbnpchglkaaDoor.P
open Go.RowKit Go.Proofs.YtgoccbnpchglkaaDoorW.PrintWords Go.Proofs.YtgoccbnpchglkaaDoor
end Go.Proofs.YtgoccbnpchglkaaDoor.P
