/- Proved: what the program's and the reference's cut of a datum out of data come to: the same. Conditions: those in each head. -/
import Derived.Test.YtgnenhehcdekkacDoorPartsLib
namespace Go.Proofs.YtgnenhehcdekkacDoor.A
open Go.RowKit Go.Proofs.YtgnenhehcdekkacDoorW.PrintWords Go.Proofs.YtgnenhehcdekkacDoorW.PrintLast Go.Proofs.YtgnenhehcdekkacDoor.PL
set_option linter.unusedSimpArgs false

theorem deepN_add (xs : List S37) : ∀ d a c, deepN xs d a c = c + deepN xs d a 0
  | 0, a, c => by simp [deepN]
  | d + 1, a, c => by
    simp only [deepN]
    split
    · rw [deepN_add xs d _ (c + 1), deepN_add xs d _ (0 + 1)]; omega
    · omega
theorem deepN_fuel (xs : List S37) (n : Nat) (hA : Ahead xs n) : ∀ (d e : Nat) (a c : Int), a < (d : Int) → a < (e : Int) → a < n → deepN xs d a c = deepN xs e a c
  | 0, 0, a, c, _, _, _ => rfl
  | 0, e + 1, a, c, h0, _, _ => by simp only [deepN]; rw [if_neg (by omega)]
  | d + 1, 0, a, c, _, h1, _ => by simp only [deepN]; rw [if_neg (by omega)]
  | d + 1, e + 1, a, c, h0, h1, h2 => by
    simp only [deepN]
    by_cases z : 0 ≤ a
    · rw [if_pos z, if_pos z]
      have hp : parD xs a < a := by
        have := hA a.toNat (by omega)
        rwa [Int.toNat_of_nonneg z] at this
      exact deepN_fuel xs n hA d e _ _ (by omega) (by omega) (by omega)
    · rw [if_neg z, if_neg z]
theorem upB_fuel (xs : List S37) (n : Nat) (hA : Ahead xs n) : ∀ (d e : Nat) (a t : Int), a < (d : Int) → a < (e : Int) → a < n → upB xs d a t = upB xs e a t
  | 0, 0, a, t, _, _, _ => rfl
  | 0, e + 1, a, t, h0, _, _ => by simp only [upB]; rw [if_neg (by omega)]
  | d + 1, 0, a, t, _, h1, _ => by simp only [upB]; rw [if_neg (by omega)]
  | d + 1, e + 1, a, t, h0, h1, h2 => by
    simp only [upB]
    by_cases z : 0 ≤ a
    · rw [if_pos z, if_pos z]
      have hp : parD xs a < a := by
        have := hA a.toNat (by omega)
        rwa [Int.toNat_of_nonneg z] at this
      rw [upB_fuel xs n hA d e _ t (by omega) (by omega) (by omega)]
    · rw [if_neg z, if_neg z]
/-- How deep a place lies; is a place one of those up from another. -/
def dep (xs : List S37) (j : Int) : Int := deepN xs (j.toNat + 1) j 0
def onB (xs : List S37) (j t : Int) : Bool := upB xs (j.toNat + 1) j t
theorem dep_neg {xs : List S37} {j : Int} (h : j < 0) : dep xs j = 0 := by unfold dep; simp only [deepN]; rw [if_neg (by omega)]
theorem on_neg {xs : List S37} {j t : Int} (h : j < 0) : onB xs j t = false := by unfold onB; simp only [upB]; rw [if_neg (by omega)]
theorem par_lt {xs : List S37} {n : Nat} (hA : Ahead xs n) {j : Int} (h0 : 0 ≤ j) (h1 : j < n) : parD xs j < j := by
  have := hA j.toNat (by omega)
  rwa [Int.toNat_of_nonneg h0] at this
theorem dep_step {xs : List S37} {n : Nat} (hA : Ahead xs n) {j : Int} (h0 : 0 ≤ j) (h1 : j < n) : dep xs j = 1 + dep xs (parD xs j) := by
  have hp := par_lt hA h0 h1
  unfold dep
  simp only [deepN]
  rw [if_pos h0, deepN_add xs _ _ (0 + 1), deepN_fuel xs n hA j.toNat ((parD xs j).toNat + 1) _ 0 (by omega) (by omega) (by omega)]
  simp only [deepN]
  omega
theorem on_step {xs : List S37} {n : Nat} (hA : Ahead xs n) {j t : Int} (h0 : 0 ≤ j) (h1 : j < n) : onB xs j t = if j = t then true else onB xs (parD xs j) t := by
  have hp := par_lt hA h0 h1
  unfold onB
  rw [show upB xs (j.toNat + 1) j t = if 0 ≤ j then (if j = t then true else upB xs j.toNat (parD xs j) t) else false from rfl, if_pos h0, upB_fuel xs n hA j.toNat ((parD xs j).toNat + 1) _ t (by omega) (by omega) (by omega)]
theorem on_dep {xs : List S37} {n : Nat} (hA : Ahead xs n) {t : Int} : ∀ (m : Nat) (j : Int), j < m → j < n → onB xs j t = true → 0 ≤ t ∧ t ≤ j ∧ dep xs t ≤ dep xs j ∧ (t < j → dep xs t < dep xs j)
  | 0, j, h0, _, h => by rw [on_neg (by omega)] at h; cases h
  | m + 1, j, h0, h1, h => by
    by_cases z : 0 ≤ j
    · rw [on_step hA z h1] at h
      by_cases e : j = t
      · subst e; exact ⟨z, by omega, by omega, by omega⟩
      · rw [if_neg e] at h
        have hp := par_lt hA z h1
        have hd := dep_step hA z h1
        obtain ⟨a, b, c, d⟩ := on_dep hA m (parD xs j) (by omega) (by omega) h
        exact ⟨a, by omega, by omega, fun _ => by omega⟩
    · rw [on_neg (by omega)] at h; cases h
theorem on_line {xs : List S37} {n : Nat} (hA : Ahead xs n) {a b : Int} (hab : b ≤ a) : ∀ (m : Nat) (j : Int), j < m → j < n → onB xs j a = true → onB xs j b = true → onB xs a b = true
  | 0, j, h0, _, h, _ => by rw [on_neg (by omega)] at h; cases h
  | m + 1, j, h0, h1, h, g => by
    by_cases e : j = a
    · subst e; exact g
    · have da := on_dep hA (m + 1) j h0 h1 h
      have z : 0 ≤ j := by omega
      have hp := par_lt hA z h1
      rw [on_step hA z h1, if_neg e] at h
      rw [on_step hA z h1, if_neg (by omega)] at g
      exact on_line hA hab m _ (by omega) (by omega) h g
theorem datAt_ne0 {xs : List S37} (j : Nat) (v : Int) (h : datAt xs j = some v) : v ≠ 0 := by
  unfold datAt at h
  split at h
  · unfold datStep at h
    repeat' split at h
    all_goals first | (cases h; done) | (obtain rfl := Option.some.inj h; first | omega | assumption)
  · cases h
theorem data_none {xs : List S37} (h : dataM xs = 0) (j : Nat) (hj : j < xs.length) : datAt xs j = none := by
  unfold dataM at h
  split at h
  · exact runU_none (datAt_ne0 (xs := xs)) xs.length 0 h j (by omega) (by omega)
  · omega
theorem data_ahead {xs : List S37} (h : dataM xs = 0) : Ahead xs xs.length := by
  have : ∀ n, n ≤ xs.length → Ahead xs n := fun n => by
    induction n with
    | zero => intro _ j hj; omega
    | succ n ih => intro hn; exact datAt_ahead (by omega) (ih (by omega)) (data_none h n (by omega))
  exact this xs.length (Nat.le_refl _)
/-- In data without a fault each parent lies on the line up from the place ahead. -/
theorem data_line {xs : List S37} (h : dataM xs = 0) (i : Nat) (h0 : 1 ≤ i) (h1 : i < xs.length) : 0 ≤ parD xs i ∧ parD xs i ≤ (i : Int) - 1 ∧ onB xs ((i : Int) - 1) (parD xs i) = true := by
  have hn := data_none h i h1
  unfold datAt at hn
  rw [dif_pos h1] at hn
  unfold datStep at hn
  have ep : parD xs (i : Int) = xs[i].f1 := by unfold parD; rw [rdDf_at h1]
  repeat' split at hn
  all_goals first | (cases hn; done) | omega | skip
  have z := inB_iff.mp (by assumption : inB xs[i].f1 0 ((i : Int) - 1) = true)
  have u : (upB xs i ((i : Int) - 1) xs[i].f1 && kindD xs xs[i].f1 == 4) = true := by assumption
  rw [Bool.and_eq_true] at u
  rw [ep]
  refine ⟨z.1, z.2, ?_⟩
  unfold onB
  rw [show ((i : Int) - 1).toNat + 1 = i from by omega]
  exact u.1
def elemS (xs : List S37) (a i : Int) : S37 := ⟨(rd_T37 xs i).f0, wrap64 ((rd_T37 xs i).f1 - a), (rd_T37 xs i).f2, (rd_T37 xs i).f3⟩
def firstS (xs : List S37) (a : Int) : S37 := ⟨(rd_T37 xs a).f0, (-1), (rd_T37 xs a).f2, (rd_T37 xs a).f3⟩
/-- What stands behind a datum's first place. -/
def subU (xs : List S37) (a : Int) : Nat → Nat → List S37
  | 0, _ => []
  | d + 1, i => if parD xs i < a then [] else elemS xs a i :: subU xs a d (i + 1)
theorem subU_length (xs : List S37) (a : Int) : ∀ d i, (subU xs a d i).length ≤ d
  | 0, _ => by simp [subU]
  | d + 1, i => by
    have := subU_length xs a d (i + 1)
    simp only [subU]
    split <;> simp <;> omega
def subM (xs : List S37) (a : Nat) : List S37 := firstS xs a :: subU xs a (xs.length - (a + 1)) (a + 1)
theorem rd_drop (xs : List S37) (m j : Nat) : rd_T37 (xs.drop m) (j : Int) = rd_T37 xs ((m + j : Nat) : Int) := by
  unfold rd_T37
  rw [Int.toNat_natCast, Int.toNat_natCast]
  simp [List.getD, List.getElem?_drop]
end Go.Proofs.YtgnenhehcdekkacDoor.A
