/- Proved: what the program's and the reference's decimal texts come to: the same. Conditions: those in each head. -/
import Derived.Test.YteiokhfikbndbaaDoorNumLib
import Derived.Test.YteiokhfikbndbaaDoorA2
import Derived.Test.YteiokhfikbndbaaDoorA3
import Derived.Lib.ItoaNum
namespace Go.Proofs.YteiokhfikbndbaaDoor.A
open Go.RowKit Go.Proofs.YteiokhfikbndbaaDoorW.PrintWords Go.Proofs.YteiokhfikbndbaaDoorW.PrintLast Go.Proofs.YteiokhfikbndbaaDoor.PL
set_option linter.unusedSimpArgs false

/-- A number's decimal text. -/
def dig (n : Int) : ByteArray := ⟨(Lib.itoa n).toArray⟩
theorem dec_eq {n : Int} (h : numB n = true) : impl_dec.f n = some (dig n) := by
  have h2 := numB_iff.mp h
  unfold impl_dec.f strconv_FormatInt.f
  rw [if_pos ⟨by omega, by omega, rfl⟩, Option.bind_some]
  rfl
theorem decDigits_len : ∀ (m u : Nat), u ≤ m → (Lib.decDigits u).length ≤ u + 1
  | 0, u, h => by
    rw [Lib.decDigits]
    rw [dif_pos (by omega)]
    simp
  | m + 1, u, h => by
    rw [Lib.decDigits]
    by_cases c : u < 10
    · rw [dif_pos c]; simp
    · rw [dif_neg c, List.length_append]
      have := decDigits_len m (u / 10) (by omega)
      simp
      omega
theorem ba_append (a b : List UInt8) : (⟨a.toArray⟩ : ByteArray) ++ ⟨b.toArray⟩ = ⟨(a ++ b).toArray⟩ := by
  rw [ByteArray.ext_iff]
  simp [ByteArray.data_append]
theorem one_num (u : Nat) (h : u < 10) : strOfNums [wrap64 (48 + (u : Int)) % 256] = ⟨[UInt8.ofNat (48 + u)].toArray⟩ := by
  rw [wrap_id (by omega) (by omega)]
  have e : (48 + (u : Int)) % 256 = ((48 + u : Nat) : Int) := by omega
  rw [e]
  rfl
theorem digits_nat : ∀ (m u : Nat), u ≤ m → u ≤ 9223372036854775807 → Ev (fun k => spec_l1Digits.f k (u : Int)) ⟨(Lib.decDigits u).toArray⟩
  | m, u, h, hu => by
    rw [Lib.decDigits]
    by_cases c : u < 10
    · rw [dif_pos c]
      refine Ev.step (fun k => spec_l1Digits.f.eq_2 _ k) (Ev.ifn (by omega) (Ev.ifp (by omega) (Ev.leaf (one_num u c))))
    · rw [dif_neg c]
      cases m with
      | zero => omega
      | succ m =>
        have ih := digits_nat m (u / 10) (by omega) (by omega)
        have hl := decDigits_len (u / 10) (u / 10) (Nat.le_refl _)
        have hq : wrap64 (Int.tdiv (u : Int) 10) = ((u / 10 : Nat) : Int) := by
          rw [Int.tdiv_eq_ediv_of_nonneg (by omega), wrap_id (by omega) (by omega)]
          omega
        have hr : Int.tmod (u : Int) 10 = ((u % 10 : Nat) : Int) := by
          rw [Int.tmod_eq_emod_of_nonneg (by omega)]
          omega
        refine Ev.step (fun k => spec_l1Digits.f.eq_2 _ k) (Ev.ifn (by omega) (Ev.ifn (by omega) ?_))
        rw [hq, hr]
        refine Ev.bind ih (Ev.bind0 rfl ?_)
        rw [one_num (u % 10) (by omega)]
        refine Ev.ifp ?_ (Ev.leaf (ba_append _ _))
        have e1 : (⟨(Lib.decDigits (u / 10)).toArray⟩ : ByteArray).size = (Lib.decDigits (u / 10)).length := by simp [ByteArray.size]
        have e2 : (⟨[UInt8.ofNat (48 + u % 10)].toArray⟩ : ByteArray).size = 1 := by simp [ByteArray.size]
        omega
theorem digits_ev {n : Int} (h : numB n = true) : Ev (fun k => spec_l1Digits.f k n) (dig n) := by
  have h2 := numB_iff.mp h
  unfold dig Lib.itoa
  by_cases c : n < 0
  · rw [if_pos c]
    have ih := digits_nat n.natAbs n.natAbs (Nat.le_refl _) (by omega)
    have hl := decDigits_len n.natAbs n.natAbs (Nat.le_refl _)
    refine Ev.step (fun k => spec_l1Digits.f.eq_2 _ k) (Ev.ifp c ?_)
    rw [wrap_id (x := -n) (by omega) (by omega), show -n = ((n.natAbs : Nat) : Int) from by omega]
    refine Ev.bind ih (Ev.ifp ?_ (Ev.leaf (ba_append [45] _)))
    have e1 : (⟨(Lib.decDigits n.natAbs).toArray⟩ : ByteArray).size = (Lib.decDigits n.natAbs).length := by simp [ByteArray.size]
    omega
  · rw [if_neg c]
    have ih := digits_nat n.toNat n.toNat (Nat.le_refl _) (by omega)
    rw [show ((n.toNat : Nat) : Int) = n from by omega] at ih
    exact ih
theorem dlen : ∀ (k u : Nat), u < 10 ^ (k + 1) → (Lib.decDigits u).length ≤ k + 1
  | 0, u, hu => by rw [Lib.decDigits, dif_pos (by omega)]; simp
  | k + 1, u, hu => by
    rw [Lib.decDigits]
    by_cases c : u < 10
    · rw [dif_pos c]; simp
    · rw [dif_neg c]
      have := dlen k (u / 10) (by rw [Nat.pow_succ] at hu; omega)
      simp
      omega
theorem itoa_len' {n : Int} (h : numB n = true) : (Lib.itoa n).length ≤ 12 := by
  have h2 := numB_iff.mp h
  have h3 := dlen 9 n.natAbs (by simp; omega)
  unfold Lib.itoa
  by_cases c : n < 0
  · rw [if_pos c]; simp; omega
  · rw [if_neg c, show n.toNat = n.natAbs from by omega]; omega
theorem ba_size (l : List UInt8) : (⟨l.toArray⟩ : ByteArray).size = l.length := by simp [ByteArray.size]
theorem ba_eta (s : ByteArray) : (⟨s.data.toList.toArray⟩ : ByteArray) = s := by simp
end Go.Proofs.YteiokhfikbndbaaDoor.A
