/- Proved: which values of the program's struct types are well formed, and that an argument of such a type can be opened. Conditions: none beyond each lemma's own. -/
import Derived.Test.YtgnenhehcdekkadGreatDoorA0
import Derived.Test.YtgnenhehcdekkadGreatDoorOpens
namespace Go.Proofs.YtgnenhehcdekkadGreatDoor.A
open Go.RowKit Go.Proofs.YtgnenhehcdekkadGreatDoorW.PrintWords Go.Proofs.YtgnenhehcdekkadGreatDoor
def ok61 (x : S61) : Prop := ((Lit.int .i64 x.f0).wf = true) ∧ ((Lit.int .i64 x.f1).wf = true) ∧ ((Lit.int .i64 x.f2).wf = true) ∧ (x.f3.size ≤ maxLen)
set_option maxRecDepth 1000000 in
theorem opens61 : Opens.Opens Tryz.prog k61 61 ok61 := Opens.opens_imp (Opens.opens_struct Tryz.underlying61 (by kernel_rfl) (fun x : S61 => (x.f0, x.f1, x.f2, x.f3)) (fun p => ⟨p.1, p.2.1, p.2.2.1, p.2.2.2⟩) (fun _ => rfl) (Opens.opensF_cons _ (Opens.opens_int Tryz.underlying2 (by kernel_rfl)) (Opens.opensF_cons _ (Opens.opens_int Tryz.underlying2 (by kernel_rfl)) (Opens.opensF_cons _ (Opens.opens_int Tryz.underlying2 (by kernel_rfl)) (Opens.opensF_one _ (Opens.opens_string Tryz.underlying9 (by kernel_rfl))))))) (fun _ h => by exact h)
def ok35 (x : S35) : Prop := ((Lit.int .i64 x.f0).wf = true) ∧ ((Lit.int .i64 x.f1).wf = true) ∧ ((Lit.int .i64 x.f2).wf = true) ∧ ((Lit.int .i64 x.f3).wf = true) ∧ (x.f4.size ≤ maxLen) ∧ (x.f5.length ≤ maxLen ∧ ∀ y ∈ x.f5, ok61 y)
set_option maxRecDepth 1000000 in
theorem opens35 : Opens.Opens Tryz.prog k35 35 ok35 := Opens.opens_imp (Opens.opens_struct Tryz.underlying35 (by kernel_rfl) (fun x : S35 => (x.f0, x.f1, x.f2, x.f3, x.f4, x.f5)) (fun p => ⟨p.1, p.2.1, p.2.2.1, p.2.2.2.1, p.2.2.2.2.1, p.2.2.2.2.2⟩) (fun _ => rfl) (Opens.opensF_cons _ (Opens.opens_int Tryz.underlying2 (by kernel_rfl)) (Opens.opensF_cons _ (Opens.opens_int Tryz.underlying2 (by kernel_rfl)) (Opens.opensF_cons _ (Opens.opens_int Tryz.underlying2 (by kernel_rfl)) (Opens.opensF_cons _ (Opens.opens_int Tryz.underlying2 (by kernel_rfl)) (Opens.opensF_cons _ (Opens.opens_string Tryz.underlying9 (by kernel_rfl)) (Opens.opensF_one _ (Opens.opens_slice Tryz.underlying33 (by kernel_rfl) opens61)))))))) (fun _ h => by exact h)
end Go.Proofs.YtgnenhehcdekkadGreatDoor.A
