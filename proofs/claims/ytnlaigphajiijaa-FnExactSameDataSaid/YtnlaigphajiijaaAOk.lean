/- Proved: which values of the program's struct types are well formed, and that an argument of such a type can be opened. Conditions: none beyond each lemma's own. -/
import Derived.Test.YtnlaigphajiijaaA0
import Derived.Test.YtnlaigphajiijaaOpens
namespace Go.Proofs.Ytnlaigphajiijaa.A
open Go.RowKit Go.Proofs.YtnlaigphajiijaaW.PrintWords Go.Proofs.Ytnlaigphajiijaa
def ok49 (x : S49) : Prop := ((Lit.int .i64 x.f0).wf = true) ∧ ((Lit.int .i64 x.f1).wf = true) ∧ ((Lit.int .i64 x.f2).wf = true) ∧ (x.f3.size ≤ maxLen)
theorem opens49 : Opens.Opens Try.prog k49 49 ok49 := Opens.opens_imp (Opens.opens_struct Try.underlying49 (by kernel_rfl) (fun x : S49 => (x.f0, x.f1, x.f2, x.f3)) (fun p => ⟨p.1, p.2.1, p.2.2.1, p.2.2.2⟩) (fun _ => rfl) (Opens.opensF_cons _ (Opens.opens_int Try.underlying2 (by kernel_rfl)) (Opens.opensF_cons _ (Opens.opens_int Try.underlying2 (by kernel_rfl)) (Opens.opensF_cons _ (Opens.opens_int Try.underlying2 (by kernel_rfl)) (Opens.opensF_one _ (Opens.opens_string Try.underlying9 (by kernel_rfl))))))) (fun _ h => by exact h)
end Go.Proofs.Ytnlaigphajiijaa.A
