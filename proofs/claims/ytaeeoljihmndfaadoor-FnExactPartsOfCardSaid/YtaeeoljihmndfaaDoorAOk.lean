/- Proved: which values of the program's struct types are well formed, and that an argument of such a type can be opened. Conditions: none beyond each lemma's own. -/
import Derived.Test.YtaeeoljihmndfaaDoorA0
import Derived.Test.YtaeeoljihmndfaaDoorOpens
namespace Go.Proofs.YtaeeoljihmndfaaDoor.A
open Go.RowKit Go.Proofs.YtaeeoljihmndfaaDoorW.PrintWords Go.Proofs.YtaeeoljihmndfaaDoor
def ok24 (x : S24) : Prop := ((Lit.int .i64 x.f0).wf = true) ∧ ((Lit.int .i64 x.f1).wf = true) ∧ (x.f2.size ≤ maxLen)
set_option maxRecDepth 1000000 in
theorem opens24 : Opens.Opens Tryd.prog k24 24 ok24 := Opens.opens_imp (Opens.opens_struct Tryd.underlying24 (by kernel_rfl) (fun x : S24 => (x.f0, x.f1, x.f2)) (fun p => ⟨p.1, p.2.1, p.2.2⟩) (fun _ => rfl) (Opens.opensF_cons _ (Opens.opens_int Tryd.underlying2 (by kernel_rfl)) (Opens.opensF_cons _ (Opens.opens_int Tryd.underlying2 (by kernel_rfl)) (Opens.opensF_one _ (Opens.opens_string Tryd.underlying9 (by kernel_rfl)))))) (fun _ h => by exact h)
def ok83 (x : S83) : Prop := (x.f0.size ≤ maxLen) ∧ (ok24 x.f1) ∧ ((Lit.int .i64 x.f2).wf = true)
set_option maxRecDepth 1000000 in
theorem opens83 : Opens.Opens Tryd.prog k83 83 ok83 := Opens.opens_imp (Opens.opens_struct Tryd.underlying83 (by kernel_rfl) (fun x : S83 => (x.f0, x.f1, x.f2)) (fun p => ⟨p.1, p.2.1, p.2.2⟩) (fun _ => rfl) (Opens.opensF_cons _ (Opens.opens_string Tryd.underlying9 (by kernel_rfl)) (Opens.opensF_cons _ opens24 (Opens.opensF_one _ (Opens.opens_int Tryd.underlying2 (by kernel_rfl)))))) (fun _ h => by exact h)
def ok26 (x : S26) : Prop := ((Lit.int .i64 x.f0).wf = true) ∧ (ok24 x.f1)
set_option maxRecDepth 1000000 in
theorem opens26 : Opens.Opens Tryd.prog k26 26 ok26 := Opens.opens_imp (Opens.opens_struct Tryd.underlying26 (by kernel_rfl) (fun x : S26 => (x.f0, x.f1)) (fun p => ⟨p.1, p.2⟩) (fun _ => rfl) (Opens.opensF_cons _ (Opens.opens_int Tryd.underlying2 (by kernel_rfl)) (Opens.opensF_one _ opens24))) (fun _ h => by exact h)
def ok96 (x : S96) : Prop := ((Lit.int .i64 x.f0).wf = true) ∧ ((Lit.int .i64 x.f1).wf = true) ∧ ((Lit.int .i64 x.f2).wf = true) ∧ (x.f3.size ≤ maxLen)
set_option maxRecDepth 1000000 in
theorem opens96 : Opens.Opens Tryd.prog k96 96 ok96 := Opens.opens_imp (Opens.opens_struct Tryd.underlying96 (by kernel_rfl) (fun x : S96 => (x.f0, x.f1, x.f2, x.f3)) (fun p => ⟨p.1, p.2.1, p.2.2.1, p.2.2.2⟩) (fun _ => rfl) (Opens.opensF_cons _ (Opens.opens_int Tryd.underlying2 (by kernel_rfl)) (Opens.opensF_cons _ (Opens.opens_int Tryd.underlying2 (by kernel_rfl)) (Opens.opensF_cons _ (Opens.opens_int Tryd.underlying2 (by kernel_rfl)) (Opens.opensF_one _ (Opens.opens_string Tryd.underlying9 (by kernel_rfl))))))) (fun _ h => by exact h)
def ok108 (x : S108) : Prop := (ok24 x.f0) ∧ (ok24 x.f1)
set_option maxRecDepth 1000000 in
theorem opens108 : Opens.Opens Tryd.prog k108 108 ok108 := Opens.opens_imp (Opens.opens_struct Tryd.underlying108 (by kernel_rfl) (fun x : S108 => (x.f0, x.f1)) (fun p => ⟨p.1, p.2⟩) (fun _ => rfl) (Opens.opensF_cons _ opens24 (Opens.opensF_one _ opens24))) (fun _ h => by exact h)
end Go.Proofs.YtaeeoljihmndfaaDoor.A
