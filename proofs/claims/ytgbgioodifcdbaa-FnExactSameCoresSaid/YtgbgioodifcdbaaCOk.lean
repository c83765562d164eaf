/- Proved: which values of the program's struct types are well formed, and that an argument of such a type can be opened. Conditions: none beyond each lemma's own. -/
import Derived.Test.YtgbgioodifcdbaaC0
import Derived.Test.YtgbgioodifcdbaaOpens
namespace Go.Proofs.Ytgbgioodifcdbaa.C
open Go.RowKit Go.Proofs.YtgbgioodifcdbaaW.PrintWords Go.Proofs.Ytgbgioodifcdbaa
def ok44 (x : S44) : Prop := ((Lit.int .i64 x.f0).wf = true) ∧ ((Lit.int .i64 x.f1).wf = true) ∧ ((Lit.int .i64 x.f2).wf = true) ∧ (x.f3.size ≤ maxLen)
set_option maxRecDepth 1000000 in
theorem opens44 : Opens.Opens Try.prog k44 44 ok44 := Opens.opens_imp (Opens.opens_struct Try.underlying44 (by kernel_rfl) (fun x : S44 => (x.f0, x.f1, x.f2, x.f3)) (fun p => ⟨p.1, p.2.1, p.2.2.1, p.2.2.2⟩) (fun _ => rfl) (Opens.opensF_cons _ (Opens.opens_int Try.underlying2 (by kernel_rfl)) (Opens.opensF_cons _ (Opens.opens_int Try.underlying2 (by kernel_rfl)) (Opens.opensF_cons _ (Opens.opens_int Try.underlying2 (by kernel_rfl)) (Opens.opensF_one _ (Opens.opens_string Try.underlying9 (by kernel_rfl))))))) (fun _ h => by exact h)
def ok31 (x : S31) : Prop := ((Lit.int .i64 x.f0).wf = true) ∧ ((Lit.int .i64 x.f1).wf = true) ∧ ((Lit.int .i64 x.f2).wf = true) ∧ ((Lit.int .i64 x.f3).wf = true) ∧ (x.f4.size ≤ maxLen) ∧ (x.f5.length ≤ maxLen ∧ ∀ y ∈ x.f5, ok44 y)
set_option maxRecDepth 1000000 in
theorem opens31 : Opens.Opens Try.prog k31 31 ok31 := Opens.opens_imp (Opens.opens_struct Try.underlying31 (by kernel_rfl) (fun x : S31 => (x.f0, x.f1, x.f2, x.f3, x.f4, x.f5)) (fun p => ⟨p.1, p.2.1, p.2.2.1, p.2.2.2.1, p.2.2.2.2.1, p.2.2.2.2.2⟩) (fun _ => rfl) (Opens.opensF_cons _ (Opens.opens_int Try.underlying2 (by kernel_rfl)) (Opens.opensF_cons _ (Opens.opens_int Try.underlying2 (by kernel_rfl)) (Opens.opensF_cons _ (Opens.opens_int Try.underlying2 (by kernel_rfl)) (Opens.opensF_cons _ (Opens.opens_int Try.underlying2 (by kernel_rfl)) (Opens.opensF_cons _ (Opens.opens_string Try.underlying9 (by kernel_rfl)) (Opens.opensF_one _ (Opens.opens_slice Try.underlying29 (by kernel_rfl) opens44)))))))) (fun _ h => by exact h)
end Go.Proofs.Ytgbgioodifcdbaa.C
