/- Proved: which values of the program's struct types are well formed, and that an argument of such a type can be opened. Conditions: none beyond each lemma's own. -/
import Derived.Test.YthlgmdbfhkcghaaDoorL0
import Derived.Test.YthlgmdbfhkcghaaDoorOpens
namespace Go.Proofs.YthlgmdbfhkcghaaDoor.L
open Go.RowKit Go.Proofs.YthlgmdbfhkcghaaDoorW.PrintWords Go.Proofs.YthlgmdbfhkcghaaDoor
end Go.Proofs.YthlgmdbfhkcghaaDoor.L
