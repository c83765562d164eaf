/- Proved: what globals without a fault hold. Conditions: those in each head. -/
import Derived.Test.YteoccmbphmiaaaaDoorNameLib
namespace Go.Proofs.YteoccmbphmiaaaaDoor.B
open Go.RowKit Go.Proofs.YteoccmbphmiaaaaDoorW.PrintWords Go.Proofs.YteoccmbphmiaaaaDoorW.PrintLast Go.Proofs.YteoccmbphmiaaaaDoor.PL
set_option linter.unusedSimpArgs false

theorem globAt_ne0 {xs : List S33} (j : Nat) (v : Int) (h : globAt xs j = some v) : v ≠ 0 := by
  unfold globAt at h
  split at h
  · unfold globStep at h
    repeat' split at h
    all_goals first | (cases h; done) | (obtain rfl := Option.some.inj h; first | omega | assumption)
  · cases h
/-- Globals without a fault: each version is in its range. -/
theorem glob_versions {xs : List S33} (h : globM xs = 0) (j : Nat) (hj : j < xs.length) : 1 ≤ (xs[j]).f2 ∧ (xs[j]).f2 ≤ 99999 := by
  unfold globM at h
  split at h
  · omega
  · have hn := runU_none (globAt_ne0 (xs := xs)) xs.length 0 h j (by omega) (by omega)
    unfold globAt at hn
    rw [dif_pos hj] at hn
    unfold globStep at hn
    repeat' split at hn
    all_goals first | (cases hn; done) | (have z := inB_iff.mp (by assumption : inB _ 1 99999 = true); omega)
theorem glob_version {xs : List S33} (h : globM xs = 0) (j : Nat) (hj : j < xs.length) : 1 ≤ (xs[j]).f2 := (glob_versions h j hj).1
theorem glob_len {xs : List S33} (h : globM xs = 0) : xs.length ≤ 60 := by
  unfold globM at h
  split at h
  · omega
  · omega
theorem name_glob {xs : List S33} {nm : ByteArray} (h : nameM xs nm = 0) : globM xs = 0 := by
  unfold nameM at h
  split at h
  · assumption
  · exact h
end Go.Proofs.YteoccmbphmiaaaaDoor.B
