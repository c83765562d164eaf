/- Proved: which values of the program's struct types are well formed, and that an argument of such a type can be opened. Conditions: none beyond each lemma's own. -/
import Derived.Test.YthjfdohcdkpdnaaDoorJ0
import Derived.Test.YthjfdohcdkpdnaaDoorOpens
namespace Go.Proofs.YthjfdohcdkpdnaaDoor.J
open Go.RowKit Go.Proofs.YthjfdohcdkpdnaaDoorW.PrintWords Go.Proofs.YthjfdohcdkpdnaaDoor
def ok33 (x : S33) : Prop := ((Lit.int .i64 x.f0).wf = true) ∧ ((Lit.int .i64 x.f1).wf = true) ∧ (x.f2.size ≤ maxLen)
set_option maxRecDepth 1000000 in
theorem opens33 : Opens.Opens Tryd.prog k33 33 ok33 := Opens.opens_imp (Opens.opens_struct Tryd.underlying33 (by kernel_rfl) (fun x : S33 => (x.f0, x.f1, x.f2)) (fun p => ⟨p.1, p.2.1, p.2.2⟩) (fun _ => rfl) (Opens.opensF_cons _ (Opens.opens_int Tryd.underlying2 (by kernel_rfl)) (Opens.opensF_cons _ (Opens.opens_int Tryd.underlying2 (by kernel_rfl)) (Opens.opensF_one _ (Opens.opens_string Tryd.underlying9 (by kernel_rfl)))))) (fun _ h => by exact h)
end Go.Proofs.YthjfdohcdkpdnaaDoor.J
