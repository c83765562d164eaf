/- Proved: which values of the program's struct types are well formed, and that an argument of such a type can be opened. Conditions: none beyond each lemma's own. -/
import Derived.Test.YtdnegjmdahmlfaaA0
import Derived.Test.YtdnegjmdahmlfaaOpens
namespace Go.Proofs.Ytdnegjmdahmlfaa.A
open Go.RowKit Go.Proofs.YtdnegjmdahmlfaaW.PrintWords Go.Proofs.Ytdnegjmdahmlfaa
def ok26 (x : S26) : Prop := ((Lit.int .i64 x.f0).wf = true) ∧ ((Lit.int .i64 x.f1).wf = true) ∧ (x.f2.size ≤ maxLen)
theorem opens26 : Opens.Opens Try.prog k26 26 ok26 := Opens.opens_imp (Opens.opens_struct Try.underlying26 (by kernel_rfl) (fun x : S26 => (x.f0, x.f1, x.f2)) (fun p => ⟨p.1, p.2.1, p.2.2⟩) (fun _ => rfl) (Opens.opensF_cons _ (Opens.opens_int Try.underlying2 (by kernel_rfl)) (Opens.opensF_cons _ (Opens.opens_int Try.underlying2 (by kernel_rfl)) (Opens.opensF_one _ (Opens.opens_string Try.underlying9 (by kernel_rfl)))))) (fun _ h => by exact h)
end Go.Proofs.Ytdnegjmdahmlfaa.A
