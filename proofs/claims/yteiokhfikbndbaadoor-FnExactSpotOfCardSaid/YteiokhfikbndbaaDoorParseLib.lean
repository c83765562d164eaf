/- Proved: decimal texts are read back: what a decimal text's bytes spell. Conditions: those in each head. -/
import Derived.Test.YteiokhfikbndbaaDoorDigLib
import Derived.Lib.ParseIntBTie
import Derived.Lib.AtoiTie
namespace Go.Proofs.YteiokhfikbndbaaDoor.A
open Go.RowKit Go.Proofs.YteiokhfikbndbaaDoorW.PrintWords Go.Proofs.YteiokhfikbndbaaDoorW.PrintLast Go.Proofs.YteiokhfikbndbaaDoor.PL
set_option linter.unusedSimpArgs false

theorem digit_val (d : Nat) (h : d < 10) : Lib.digitVal (UInt8.ofNat (48 + d)) = some d := by
  have e : (UInt8.ofNat (48 + d)).toNat = 48 + d := by simp; omega
  unfold Lib.digitVal
  rw [e, if_pos (by omega)]
  congr 1
  omega
theorem decFrom_digits : ∀ (m u : Nat), u ≤ m → Lib.decFrom 0 (Lib.decDigits u) = some u
  | m, u, h => by
    rw [Lib.decDigits]
    by_cases c : u < 10
    · rw [dif_pos c]
      simp only [Lib.decFrom, digit_val u c]
      simp
    · rw [dif_neg c]
      cases m with
      | zero => omega
      | succ m =>
        have ih := decFrom_digits m (u / 10) (by omega)
        have ht := Lib.decFrom_take (Lib.decDigits (u / 10) ++ [UInt8.ofNat (48 + u % 10)]) (Lib.decDigits (u / 10)).length 0 (u / 10) (UInt8.ofNat (48 + u % 10)) (u % 10) (by rw [List.take_left]; exact ih) (by simp) (digit_val _ (by omega))
        rw [List.take_of_length_le (by simp)] at ht
        rw [ht]
        congr 1
        omega
theorem digits_byte : ∀ (m u : Nat), u ≤ m → ∀ b ∈ Lib.decDigits u, 48 ≤ b.toNat ∧ b.toNat ≤ 57
  | m, u, h, b, hb => by
    rw [Lib.decDigits] at hb
    have one : ∀ d, d < 10 → b = UInt8.ofNat (48 + d) → 48 ≤ b.toNat ∧ b.toNat ≤ 57 := by
      intro d hd e
      subst e
      have : (UInt8.ofNat (48 + d)).toNat = 48 + d := by simp; omega
      omega
    by_cases c : u < 10
    · rw [dif_pos c, List.mem_singleton] at hb
      exact one u c hb
    · rw [dif_neg c] at hb
      cases m with
      | zero => omega
      | succ m =>
        rcases List.mem_append.mp hb with h1 | h1
        · exact digits_byte m (u / 10) (by omega) b h1
        · exact one (u % 10) (by omega) (List.mem_singleton.mp h1)
theorem digits_ne (u : Nat) : Lib.decDigits u ≠ [] := by
  rw [Lib.decDigits]
  split <;> simp
theorem digits_len : ∀ (k u : Nat), u < 10 ^ (k + 1) → (Lib.decDigits u).length ≤ k + 1
  | k, u, h => by
    rw [Lib.decDigits]
    by_cases c : u < 10
    · rw [dif_pos c]; simp
    · rw [dif_neg c]
      cases k with
      | zero => omega
      | succ k =>
        have := digits_len k (u / 10) (by rw [Nat.pow_succ] at h; omega)
        simp
        omega
theorem decNat_digits (u : Nat) : Lib.decNat (Lib.decDigits u) = some u := by
  unfold Lib.decNat
  rw [if_neg (by have := digits_ne u; simp [this])]
  exact decFrom_digits u u (Nat.le_refl _)
/-- The library reads its own decimal text back. -/
theorem parse_itoa {n : Int} (h : numB n = true) : Lib.parseIntB 64 (Lib.itoa n) = .ok n := by
  have h2 := numB_iff.mp h
  have hl : (Lib.decDigits n.natAbs).length ≤ 10 := digits_len 9 n.natAbs (by simp; omega)
  rw [Lib.parseIntB_64]
  unfold Lib.itoa
  by_cases c : n < 0
  · rw [if_pos c, Lib.atoiAll_short _ (by simp; omega)]
    have : Lib.atoi (45 :: Lib.decDigits n.natAbs) = some (-(n.natAbs : Int)) := by
      simp [Lib.atoi, decNat_digits]
    rw [this]
    show Lib.NumEnd.ok _ = _
    congr 1
    omega
  · rw [if_neg c]
    have e : n.toNat = n.natAbs := by omega
    rw [e, Lib.atoiAll_short _ (by omega)]
    have : Lib.atoi (Lib.decDigits n.natAbs) = some (n.natAbs : Int) := by
      have hb := digits_byte n.natAbs n.natAbs (Nat.le_refl _)
      have hn := decNat_digits n.natAbs
      cases hd : Lib.decDigits n.natAbs with
      | nil => exact absurd hd (digits_ne _)
      | cons b r =>
        rw [hd] at hb hn
        have h1 := hb b (by simp)
        have h3 : (b == 45) = false := by
          apply beq_eq_false_iff_ne.mpr
          rintro rfl
          exact absurd h1.1 (by decide)
        have h4 : (b == 43) = false := by
          apply beq_eq_false_iff_ne.mpr
          rintro rfl
          exact absurd h1.1 (by decide)
        simp [Lib.atoi, h3, h4, hn]
    rw [this]
    show Lib.NumEnd.ok _ = _
    congr 1
    omega
theorem dig_list (n : Int) : (dig n).data.toList = Lib.itoa n := by simp [dig]
theorem dig_inj {a b : Int} (ha : numB a = true) (hb : numB b = true) (h : dig a = dig b) : a = b := by
  have h1 := parse_itoa ha
  have h2 := parse_itoa hb
  rw [← dig_list, h, dig_list, h2] at h1
  exact (Lib.NumEnd.ok.inj h1).symm
theorem itoa_len {n : Int} (h : numB n = true) : (Lib.itoa n).length ≤ 11 := by
  have h2 := numB_iff.mp h
  have hl : (Lib.decDigits n.natAbs).length ≤ 10 := digits_len 9 n.natAbs (by simp; omega)
  unfold Lib.itoa
  by_cases c : n < 0
  · rw [if_pos c]; simp; omega
  · rw [if_neg c, show n.toNat = n.natAbs from by omega]; omega
end Go.Proofs.YteiokhfikbndbaaDoor.A
