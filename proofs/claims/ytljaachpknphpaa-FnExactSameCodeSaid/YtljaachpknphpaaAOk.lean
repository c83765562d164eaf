/- Proved: which values of the program's struct types are well formed, and that an argument of such a type can be opened. Conditions: none beyond each lemma's own. -/
import Derived.Test.YtljaachpknphpaaA0
import Derived.Test.YtljaachpknphpaaOpens
namespace Go.Proofs.Ytljaachpknphpaa.A
open Go.RowKit Go.Proofs.YtljaachpknphpaaW.PrintWords Go.Proofs.Ytljaachpknphpaa
def ok107 (x : S107) : Prop := ((Lit.int .i64 x.f0).wf = true) ∧ ((Lit.int .i64 x.f1).wf = true) ∧ ((Lit.int .i64 x.f2).wf = true) ∧ (x.f3.size ≤ maxLen)
set_option maxRecDepth 1000000 in
theorem opens107 : Opens.Opens Try.prog k107 107 ok107 := Opens.opens_imp (Opens.opens_struct Try.underlying107 (by kernel_rfl) (fun x : S107 => (x.f0, x.f1, x.f2, x.f3)) (fun p => ⟨p.1, p.2.1, p.2.2.1, p.2.2.2⟩) (fun _ => rfl) (Opens.opensF_cons _ (Opens.opens_int Try.underlying2 (by kernel_rfl)) (Opens.opensF_cons _ (Opens.opens_int Try.underlying2 (by kernel_rfl)) (Opens.opensF_cons _ (Opens.opens_int Try.underlying2 (by kernel_rfl)) (Opens.opensF_one _ (Opens.opens_string Try.underlying9 (by kernel_rfl))))))) (fun _ h => by exact h)
def ok112 (x : S112) : Prop := ((Lit.int .i64 x.f0).wf = true) ∧ ((Lit.int .i64 x.f1).wf = true) ∧ ((Lit.int .i64 x.f2).wf = true) ∧ ((Lit.int .i64 x.f3).wf = true) ∧ ((Lit.int .i64 x.f4).wf = true) ∧ (x.f5.size ≤ maxLen) ∧ (x.f6.length ≤ maxLen ∧ ∀ y ∈ x.f6, ok107 y)
set_option maxRecDepth 1000000 in
theorem opens112 : Opens.Opens Try.prog k112 112 ok112 := Opens.opens_imp (Opens.opens_struct Try.underlying112 (by kernel_rfl) (fun x : S112 => (x.f0, x.f1, x.f2, x.f3, x.f4, x.f5, x.f6)) (fun p => ⟨p.1, p.2.1, p.2.2.1, p.2.2.2.1, p.2.2.2.2.1, p.2.2.2.2.2.1, p.2.2.2.2.2.2⟩) (fun _ => rfl) (Opens.opensF_cons _ (Opens.opens_int Try.underlying2 (by kernel_rfl)) (Opens.opensF_cons _ (Opens.opens_int Try.underlying2 (by kernel_rfl)) (Opens.opensF_cons _ (Opens.opens_int Try.underlying2 (by kernel_rfl)) (Opens.opensF_cons _ (Opens.opens_int Try.underlying2 (by kernel_rfl)) (Opens.opensF_cons _ (Opens.opens_int Try.underlying2 (by kernel_rfl)) (Opens.opensF_cons _ (Opens.opens_string Try.underlying9 (by kernel_rfl)) (Opens.opensF_one _ (Opens.opens_slice Try.underlying53 (by kernel_rfl) opens107))))))))) (fun _ h => by exact h)
def ok66 (x : S66) : Prop := ((Lit.int .i64 x.f0).wf = true) ∧ (x.f1.length ≤ maxLen ∧ ∀ y ∈ x.f1, ok112 y)
set_option maxRecDepth 1000000 in
theorem opens66 : Opens.Opens Try.prog k66 66 ok66 := Opens.opens_imp (Opens.opens_struct Try.underlying66 (by kernel_rfl) (fun x : S66 => (x.f0, x.f1)) (fun p => ⟨p.1, p.2⟩) (fun _ => rfl) (Opens.opensF_cons _ (Opens.opens_int Try.underlying2 (by kernel_rfl)) (Opens.opensF_one _ (Opens.opens_slice Try.underlying64 (by kernel_rfl) opens112)))) (fun _ h => by exact h)
end Go.Proofs.Ytljaachpknphpaa.A
