/- Proved: which values of the program's struct types are well formed, and that an argument of such a type can be opened. Conditions: none beyond each lemma's own. -/
import Derived.Test.YtigkkgikdpjdnaaDoorA0
import Derived.Test.YtigkkgikdpjdnaaDoorOpens
namespace Go.Proofs.YtigkkgikdpjdnaaDoor.A
open Go.RowKit Go.Proofs.YtigkkgikdpjdnaaDoorW.PrintWords Go.Proofs.YtigkkgikdpjdnaaDoor
def ok25 (x : S25) : Prop := ((Lit.int .i64 x.f0).wf = true) ∧ ((Lit.int .i64 x.f1).wf = true) ∧ (x.f2.size ≤ maxLen)
set_option maxRecDepth 1000000 in
theorem opens25 : Opens.Opens Tryd.prog k25 25 ok25 := Opens.opens_imp (Opens.opens_struct Tryd.underlying25 (by kernel_rfl) (fun x : S25 => (x.f0, x.f1, x.f2)) (fun p => ⟨p.1, p.2.1, p.2.2⟩) (fun _ => rfl) (Opens.opensF_cons _ (Opens.opens_int Tryd.underlying2 (by kernel_rfl)) (Opens.opensF_cons _ (Opens.opens_int Tryd.underlying2 (by kernel_rfl)) (Opens.opensF_one _ (Opens.opens_string Tryd.underlying9 (by kernel_rfl)))))) (fun _ h => by exact h)
def ok67 (x : S67) : Prop := (ok25 x.f0) ∧ (ok25 x.f1)
set_option maxRecDepth 1000000 in
theorem opens67 : Opens.Opens Tryd.prog k67 67 ok67 := Opens.opens_imp (Opens.opens_struct Tryd.underlying67 (by kernel_rfl) (fun x : S67 => (x.f0, x.f1)) (fun p => ⟨p.1, p.2⟩) (fun _ => rfl) (Opens.opensF_cons _ opens25 (Opens.opensF_one _ opens25))) (fun _ h => by exact h)
def ok75 (x : S75) : Prop := ((Lit.int .i64 x.f0).wf = true) ∧ ((Lit.int .i64 x.f1).wf = true) ∧ ((Lit.int .i64 x.f2).wf = true) ∧ (x.f3.size ≤ maxLen)
set_option maxRecDepth 1000000 in
theorem opens75 : Opens.Opens Tryd.prog k75 75 ok75 := Opens.opens_imp (Opens.opens_struct Tryd.underlying75 (by kernel_rfl) (fun x : S75 => (x.f0, x.f1, x.f2, x.f3)) (fun p => ⟨p.1, p.2.1, p.2.2.1, p.2.2.2⟩) (fun _ => rfl) (Opens.opensF_cons _ (Opens.opens_int Tryd.underlying2 (by kernel_rfl)) (Opens.opensF_cons _ (Opens.opens_int Tryd.underlying2 (by kernel_rfl)) (Opens.opensF_cons _ (Opens.opens_int Tryd.underlying2 (by kernel_rfl)) (Opens.opensF_one _ (Opens.opens_string Tryd.underlying9 (by kernel_rfl))))))) (fun _ h => by exact h)
def ok82 (x : S82) : Prop := (x.f0.size ≤ maxLen) ∧ (ok25 x.f1) ∧ ((Lit.int .i64 x.f2).wf = true)
set_option maxRecDepth 1000000 in
theorem opens82 : Opens.Opens Tryd.prog k82 82 ok82 := Opens.opens_imp (Opens.opens_struct Tryd.underlying82 (by kernel_rfl) (fun x : S82 => (x.f0, x.f1, x.f2)) (fun p => ⟨p.1, p.2.1, p.2.2⟩) (fun _ => rfl) (Opens.opensF_cons _ (Opens.opens_string Tryd.underlying9 (by kernel_rfl)) (Opens.opensF_cons _ opens25 (Opens.opensF_one _ (Opens.opens_int Tryd.underlying2 (by kernel_rfl)))))) (fun _ h => by exact h)
end Go.Proofs.YtigkkgikdpjdnaaDoor.A
