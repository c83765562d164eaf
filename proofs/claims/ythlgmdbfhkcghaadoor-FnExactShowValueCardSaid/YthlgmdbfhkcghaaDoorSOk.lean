/- Proved: which values of the program's struct types are well formed, and that an argument of such a type can be opened. Conditions: none beyond each lemma's own. -/
import Derived.Test.YthlgmdbfhkcghaaDoorS0
import Derived.Test.YthlgmdbfhkcghaaDoorOpens
namespace Go.Proofs.YthlgmdbfhkcghaaDoor.S
open Go.RowKit Go.Proofs.YthlgmdbfhkcghaaDoorW.PrintWords Go.Proofs.YthlgmdbfhkcghaaDoor
def ok24 (x : S24) : Prop := ((Lit.int .i64 x.f0).wf = true) ∧ ((Lit.int .i64 x.f1).wf = true) ∧ (x.f2.size ≤ maxLen)
set_option maxRecDepth 1000000 in
theorem opens24 : Opens.Opens Tryd.prog k24 24 ok24 := Opens.opens_imp (Opens.opens_struct Tryd.underlying24 (by kernel_rfl) (fun x : S24 => (x.f0, x.f1, x.f2)) (fun p => ⟨p.1, p.2.1, p.2.2⟩) (fun _ => rfl) (Opens.opensF_cons _ (Opens.opens_int Tryd.underlying2 (by kernel_rfl)) (Opens.opensF_cons _ (Opens.opens_int Tryd.underlying2 (by kernel_rfl)) (Opens.opensF_one _ (Opens.opens_string Tryd.underlying9 (by kernel_rfl)))))) (fun _ h => by exact h)
def ok86 (x : S86) : Prop := (ok24 x.f0) ∧ (ok24 x.f1)
set_option maxRecDepth 1000000 in
theorem opens86 : Opens.Opens Tryd.prog k86 86 ok86 := Opens.opens_imp (Opens.opens_struct Tryd.underlying86 (by kernel_rfl) (fun x : S86 => (x.f0, x.f1)) (fun p => ⟨p.1, p.2⟩) (fun _ => rfl) (Opens.opensF_cons _ opens24 (Opens.opensF_one _ opens24))) (fun _ h => by exact h)
end Go.Proofs.YthlgmdbfhkcghaaDoor.S
