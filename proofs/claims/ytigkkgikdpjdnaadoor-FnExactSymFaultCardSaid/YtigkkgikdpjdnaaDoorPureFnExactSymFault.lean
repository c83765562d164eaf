/- Proved: the pure statement behind the law FnExactSymFault: whatever its argument, the law's plain function answers true. Conditions: the argument is a well formed value of its type. -/
import Derived.Test.YtigkkgikdpjdnaaDoorSymLib
import Derived.Test.YtigkkgikdpjdnaaDoorA1
namespace Go.Proofs.YtigkkgikdpjdnaaDoor.Pure
open Go.RowKit Go.Proofs.YtigkkgikdpjdnaaDoor.A Go.Proofs.YtigkkgikdpjdnaaDoorW.PrintWords Go.Proofs.YtigkkgikdpjdnaaDoorW.PrintLast Go.Proofs.YtigkkgikdpjdnaaDoor.PL

theorem FnExactSymFault : ∀ (a0 : ByteArray), (a0.size ≤ maxLen) → ∃ k, laws_FnExactSymFault.f k a0 = some true := by
  intro a0 h
  unfold maxLen at h
  refine Ev.rounds (r := true) (Ev.congr (fun k => laws_FnExactSymFault.f.eq_1 k _) (Ev.iff (fun _ => Ev.now _) (fun _ => ?_)))
  exact Ev.bind (specSymFault_ev a0 h) (Ev.bind0 (SymFault_eq a0 h) (Ev.ifp rfl (Ev.now _)))
end Go.Proofs.YtigkkgikdpjdnaaDoor.Pure
