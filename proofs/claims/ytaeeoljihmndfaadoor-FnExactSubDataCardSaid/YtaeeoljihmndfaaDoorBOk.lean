/- Proved: which values of the program's struct types are well formed, and that an argument of such a type can be opened. Conditions: none beyond each lemma's own. -/
import Derived.Test.YtaeeoljihmndfaaDoorB0
import Derived.Test.YtaeeoljihmndfaaDoorOpens
namespace Go.Proofs.YtaeeoljihmndfaaDoor.B
open Go.RowKit Go.Proofs.YtaeeoljihmndfaaDoorW.PrintWords Go.Proofs.YtaeeoljihmndfaaDoor
def ok96 (x : S96) : Prop := ((Lit.int .i64 x.f0).wf = true) ∧ ((Lit.int .i64 x.f1).wf = true) ∧ ((Lit.int .i64 x.f2).wf = true) ∧ (x.f3.size ≤ maxLen)
set_option maxRecDepth 1000000 in
theorem opens96 : Opens.Opens Tryd.prog k96 96 ok96 := Opens.opens_imp (Opens.opens_struct Tryd.underlying96 (by kernel_rfl) (fun x : S96 => (x.f0, x.f1, x.f2, x.f3)) (fun p => ⟨p.1, p.2.1, p.2.2.1, p.2.2.2⟩) (fun _ => rfl) (Opens.opensF_cons _ (Opens.opens_int Tryd.underlying2 (by kernel_rfl)) (Opens.opensF_cons _ (Opens.opens_int Tryd.underlying2 (by kernel_rfl)) (Opens.opensF_cons _ (Opens.opens_int Tryd.underlying2 (by kernel_rfl)) (Opens.opensF_one _ (Opens.opens_string Tryd.underlying9 (by kernel_rfl))))))) (fun _ h => by exact h)
end Go.Proofs.YtaeeoljihmndfaaDoor.B
