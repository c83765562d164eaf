/- Proved: small laws on lists, spelled as the walks need them. Conditions: those in each head. -/
import Derived.Test.YthlgmdbfhkcghaaDoorVWords
namespace Go.Proofs.YthlgmdbfhkcghaaDoor
theorem ne_nil_b {α : Type} [BEq α] (l : List α) : (l != []) = !l.isEmpty := by cases l <;> rfl
theorem eq_nil_b {α : Type} [BEq α] (l : List α) : (l == []) = l.isEmpty := by cases l <;> rfl
open Go.Proofs.YthlgmdbfhkcghaaDoorW.PrintWords in
theorem ak {p : Prop} (h : p) : Aside0 p := ⟨h⟩
end Go.Proofs.YthlgmdbfhkcghaaDoor
