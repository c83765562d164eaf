/- Proved: small laws on lists, spelled as the walks need them. Conditions: those in each head. -/
import Derived.Test.YtigkkgikdpjdnaaDoorWWords
namespace Go.Proofs.YtigkkgikdpjdnaaDoor
theorem ne_nil_b {α : Type} [BEq α] (l : List α) : (l != []) = !l.isEmpty := by cases l <;> rfl
theorem eq_nil_b {α : Type} [BEq α] (l : List α) : (l == []) = l.isEmpty := by cases l <;> rfl
end Go.Proofs.YtigkkgikdpjdnaaDoor
