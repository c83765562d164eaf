/- Proved: which values of the program's struct types are well formed, and that an argument of such a type can be opened. Conditions: none beyond each lemma's own. -/
import Derived.Test.YthjfdohcdkpdnaaDoorA0
import Derived.Test.YthjfdohcdkpdnaaDoorOpens
namespace Go.Proofs.YthjfdohcdkpdnaaDoor.A
open Go.RowKit Go.Proofs.YthjfdohcdkpdnaaDoorW.PrintWords Go.Proofs.YthjfdohcdkpdnaaDoor
def ok47 (x : S47) : Prop := ((Lit.int .i64 x.f0).wf = true) ∧ ((Lit.int .i64 x.f1).wf = true) ∧ (x.f2.size ≤ maxLen)
set_option maxRecDepth 1000000 in
theorem opens47 : Opens.Opens Tryd.prog k47 47 ok47 := Opens.opens_imp (Opens.opens_struct Tryd.underlying47 (by kernel_rfl) (fun x : S47 => (x.f0, x.f1, x.f2)) (fun p => ⟨p.1, p.2.1, p.2.2⟩) (fun _ => rfl) (Opens.opensF_cons _ (Opens.opens_int Tryd.underlying2 (by kernel_rfl)) (Opens.opensF_cons _ (Opens.opens_int Tryd.underlying2 (by kernel_rfl)) (Opens.opensF_one _ (Opens.opens_string Tryd.underlying9 (by kernel_rfl)))))) (fun _ h => by exact h)
def ok91 (x : S91) : Prop := (x.f0.size ≤ maxLen) ∧ (ok47 x.f1) ∧ ((Lit.int .i64 x.f2).wf = true)
set_option maxRecDepth 1000000 in
theorem opens91 : Opens.Opens Tryd.prog k91 91 ok91 := Opens.opens_imp (Opens.opens_struct Tryd.underlying91 (by kernel_rfl) (fun x : S91 => (x.f0, x.f1, x.f2)) (fun p => ⟨p.1, p.2.1, p.2.2⟩) (fun _ => rfl) (Opens.opensF_cons _ (Opens.opens_string Tryd.underlying9 (by kernel_rfl)) (Opens.opensF_cons _ opens47 (Opens.opensF_one _ (Opens.opens_int Tryd.underlying2 (by kernel_rfl)))))) (fun _ h => by exact h)
def ok130 (x : S130) : Prop := ((Lit.int .i64 x.f0).wf = true) ∧ ((Lit.int .i64 x.f1).wf = true) ∧ ((Lit.int .i64 x.f2).wf = true) ∧ (x.f3.size ≤ maxLen)
set_option maxRecDepth 1000000 in
theorem opens130 : Opens.Opens Tryd.prog k130 130 ok130 := Opens.opens_imp (Opens.opens_struct Tryd.underlying130 (by kernel_rfl) (fun x : S130 => (x.f0, x.f1, x.f2, x.f3)) (fun p => ⟨p.1, p.2.1, p.2.2.1, p.2.2.2⟩) (fun _ => rfl) (Opens.opensF_cons _ (Opens.opens_int Tryd.underlying2 (by kernel_rfl)) (Opens.opensF_cons _ (Opens.opens_int Tryd.underlying2 (by kernel_rfl)) (Opens.opensF_cons _ (Opens.opens_int Tryd.underlying2 (by kernel_rfl)) (Opens.opensF_one _ (Opens.opens_string Tryd.underlying9 (by kernel_rfl))))))) (fun _ h => by exact h)
def ok64 (x : S64) : Prop := ((Lit.int .i64 x.f0).wf = true) ∧ ((Lit.int .i64 x.f1).wf = true) ∧ ((Lit.int .i64 x.f2).wf = true) ∧ ((Lit.int .i64 x.f3).wf = true) ∧ ((Lit.int .i64 x.f4).wf = true) ∧ (x.f5.size ≤ maxLen) ∧ (x.f6.length ≤ maxLen ∧ ∀ y ∈ x.f6, ok130 y)
set_option maxRecDepth 1000000 in
theorem opens64 : Opens.Opens Tryd.prog k64 64 ok64 := Opens.opens_imp (Opens.opens_struct Tryd.underlying64 (by kernel_rfl) (fun x : S64 => (x.f0, x.f1, x.f2, x.f3, x.f4, x.f5, x.f6)) (fun p => ⟨p.1, p.2.1, p.2.2.1, p.2.2.2.1, p.2.2.2.2.1, p.2.2.2.2.2.1, p.2.2.2.2.2.2⟩) (fun _ => rfl) (Opens.opensF_cons _ (Opens.opens_int Tryd.underlying2 (by kernel_rfl)) (Opens.opensF_cons _ (Opens.opens_int Tryd.underlying2 (by kernel_rfl)) (Opens.opensF_cons _ (Opens.opens_int Tryd.underlying2 (by kernel_rfl)) (Opens.opensF_cons _ (Opens.opens_int Tryd.underlying2 (by kernel_rfl)) (Opens.opensF_cons _ (Opens.opens_int Tryd.underlying2 (by kernel_rfl)) (Opens.opensF_cons _ (Opens.opens_string Tryd.underlying9 (by kernel_rfl)) (Opens.opensF_one _ (Opens.opens_slice Tryd.underlying62 (by kernel_rfl) opens130))))))))) (fun _ h => by exact h)
end Go.Proofs.YthjfdohcdkpdnaaDoor.A
