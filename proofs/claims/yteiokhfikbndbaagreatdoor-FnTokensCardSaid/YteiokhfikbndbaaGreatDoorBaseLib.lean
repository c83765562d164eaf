/- Proved: what the program's and the reference's functions of this claim come to: the same, part by part. Conditions: those in each head. -/
import Derived.Test.YteiokhfikbndbaaGreatDoorPL
import Derived.Test.YteiokhfikbndbaaGreatDoorA4
import Derived.Test.YteiokhfikbndbaaGreatDoorA2
import Derived.Test.YteiokhfikbndbaaGreatDoorA5
import Derived.Test.YteiokhfikbndbaaGreatDoorA8
import Derived.Test.YteiokhfikbndbaaGreatDoorA7
import Derived.Lib.ItoaNum
import Derived.Test.YteiokhfikbndbaaGreatDoorA9
import Derived.Lib.Join
import Derived.Lib.ParseIntBTie
import Derived.Lib.AtoiTie
import Derived.Test.YteiokhfikbndbaaGreatDoorA3
import Derived.Test.YteiokhfikbndbaaGreatDoorA6
namespace Go.Proofs.YteiokhfikbndbaaGreatDoor.A
open Go.RowKit Go.Proofs.YteiokhfikbndbaaGreatDoorW.PrintWords Go.Proofs.YteiokhfikbndbaaGreatDoorW.PrintLast Go.Proofs.YteiokhfikbndbaaGreatDoor.PL
set_option linter.unusedSimpArgs false
def inB (a lo hi : Int) : Bool := decide (lo ≤ a) && decide (a ≤ hi)
theorem inB_iff {a lo hi : Int} : inB a lo hi = true ↔ lo ≤ a ∧ a ≤ hi := by simp [inB]
theorem in_eq (a lo hi : Int) : impl_in.f a lo hi = some (inB a lo hi) := by
  unfold impl_in.f inB
  by_cases h : lo ≤ a <;> simp [h]
theorem l1In_eq (a lo hi : Int) : spec_l1In.f a lo hi = some (inB a lo hi) := by
  unfold spec_l1In.f inB
  by_cases h : lo ≤ a <;> simp [h]
def numB (n : Int) : Bool := inB n (-1000000000) 1000000000
def numM (n : Int) : Int := if numB n = true then 0 else 3
theorem numB_iff {n : Int} : numB n = true ↔ -1000000000 ≤ n ∧ n ≤ 1000000000 := inB_iff
theorem numM_0 {n : Int} : numM n = 0 ↔ numB n = true := by unfold numM; split <;> simp_all
theorem NumFault_eq (n : Int) : impl_NumFault.f n = some (numM n) := by
  unfold impl_NumFault.f numM numB
  rw [in_eq, Option.bind_some]
  split <;> rfl
theorem l1Num_eq (n : Int) : spec_l1Num.f n = some (numB n) := by
  unfold spec_l1Num.f numB
  rw [l1In_eq, Option.bind_some]
def symC : List UInt8 := [97, 98, 99, 100, 101, 102, 103, 104, 105, 106, 107, 108, 109, 110, 111, 112, 113, 114, 115, 116, 117, 118, 119, 120, 121, 122, 43, 45, 42, 47, 60, 61, 63, 33]
theorem l2Byte_12 : ∀ n : Fin 256, spec_l2Byte.f 12 (n.val : Int) = some (symC.contains (UInt8.ofNat n.val)) := by decide +kernel
theorem l2Byte_ev (c : UInt8) : Ev (fun k => spec_l2Byte.f k (c.toNat : Int)) (symC.contains c) := by
  refine Ev.of (fun k => spec_l2Byte.mono _ k) (k := 12) ?_
  have h := l2Byte_12 ⟨c.toNat, c.toNat_lt⟩
  rw [UInt8.ofNat_toNat] at h
  exact h
def symB (s : ByteArray) : Bool := s.data.toList.all (symC.contains ·) && inB s.size 1 12
theorem runU_all (l : List UInt8) (e : Bool) : ∀ d i, i + d = l.length → runU (fun i => if symC.contains (l[i]?.getD 0) then none else some false) e d i = ((l.drop i).all (symC.contains ·) && e)
  | 0, i, h => by rw [List.drop_of_length_le (by omega)]; rfl
  | d + 1, i, h => by
    have hi : i < l.length := by omega
    rw [List.drop_eq_getElem_cons hi]
    simp only [runU, List.all_cons, List.getElem?_eq_getElem hi, Option.getD_some]
    by_cases c : symC.contains l[i] = true
    · rw [if_pos c, c, Bool.true_and]
      exact runU_all l e d (i + 1) (by omega)
    · rw [if_neg c]
      simp only [Bool.not_eq_true] at c
      rw [c]
      rfl
theorem l2Sym_ev (s : ByteArray) (hs : s.size ≤ 9223372036854775807) : Ev (fun k => spec_l2Sym.f k s) (symB s) := by
  refine Ev.congr (fun k => spec_l2Sym.f.eq_1 k _) ?_
  have h := loopU s.size (fun k i => spec_l2Sym.l0 k s i) (fun i => if symC.contains (s.data.toList[i]?.getD 0) then none else some false) (inB s.size 1 12) (fun i hi => by
    have hb := bt_data s i hi
    have hl : i < s.data.toList.length := by rw [data_length]; exact hi
    have hg := l2Byte_ev s.data.toList[i]
    rw [← hb] at hg
    rw [List.getElem?_eq_getElem hl, Option.getD_some]
    by_cases c : symC.contains s.data.toList[i] = true
    · rw [if_pos c]
      intro r hr
      refine Ev.step (fun k => spec_l2Sym.l0.eq_2 _ _ k) (Ev.ifp (by omega) (Ev.ifp (by omega) (Ev.bind hg (Ev.ifp c ?_))))
      rw [wrap_succ hi hs]
      exact hr
    · rw [if_neg c]
      exact Ev.step (fun k => spec_l2Sym.l0.eq_2 _ _ k) (Ev.ifp (by omega) (Ev.ifp (by omega) (Ev.bind hg (Ev.ifn c (Ev.now _))))))
    (Ev.step (fun k => spec_l2Sym.l0.eq_2 _ _ k) (Ev.ifn (by omega) (Ev.bind0 (l1In_eq _ _ _) (Ev.now _)))) s.size 0 (by omega)
  rw [runU_all _ _ s.size 0 (by rw [data_length]; omega), List.drop_zero] at h
  exact h
def symM (s : ByteArray) : Int := if symB s = true then 0 else 5
theorem specSymFault_ev (s : ByteArray) (hs : s.size ≤ 9223372036854775807) : Ev (fun k => spec_SymFault.f k s) (symM s) := by
  refine Ev.congr (fun k => spec_SymFault.f.eq_1 k _) (Ev.bind (l2Sym_ev s hs) ?_)
  exact Ev.iff (fun c => Ev.leaf (by unfold symM; rw [if_pos c])) (fun c => Ev.leaf (by unfold symM; rw [if_neg c]))
theorem dropWhile_nil {α : Type} (p : α → Bool) : ∀ l : List α, (l.dropWhile p = []) ↔ l.all p = true
  | [] => by simp
  | a :: l => by
    simp only [List.dropWhile_cons, List.all_cons]
    cases h : p a
    · simp
    · simpa using dropWhile_nil p l
theorem trimS_nil (l cs : List UInt8) : Lib.trimS l cs = [] ↔ l.all (cs.contains ·) = true := by
  unfold Lib.trimS Lib.trimLeftS
  rw [dropWhile_nil]
  unfold Lib.trimRightS
  constructor
  · intro h
    cases hd : l.reverse.dropWhile (cs.contains ·) with
    | nil =>
      have := (dropWhile_nil (cs.contains ·) l.reverse).mp hd
      simpa using this
    | cons a t =>
      exfalso
      rw [hd] at h
      have ha : cs.contains a = true := by
        have := List.all_eq_true.mp h a (by simp)
        exact this
      have hn : ¬ (cs.contains a = true) := by
        have := List.head?_dropWhile_not (cs.contains ·) l.reverse
        rw [hd] at this
        simpa using this
      exact hn ha
  · intro h
    have : l.reverse.all (cs.contains ·) = true := by simpa using h
    rw [(dropWhile_nil _ _).mpr this]
    rfl
theorem toList_mk (l : List UInt8) : ByteArray.toList ⟨l.toArray⟩ = l := by rw [ByteArray.toList_eq]
theorem SymFault_eq (s : ByteArray) (hs : s.size ≤ 9223372036854775807) : impl_SymFault.f s = some (symM s) := by
  unfold impl_SymFault.f
  rw [in_eq, Option.bind_some]
  unfold symM symB
  by_cases c : inB s.size 1 12 = true
  · rw [if_pos c, c, Bool.and_true]
    have ht : strings_Trim.f s (⟨#[97, 98, 99, 100, 101, 102, 103, 104, 105, 106, 107, 108, 109, 110, 111, 112, 113, 114, 115, 116, 117, 118, 119, 120, 121, 122, 43, 45, 42, 47, 60, 61, 63, 33]⟩ : ByteArray) = some ⟨(Lib.trimS s.data.toList symC).toArray⟩ := by
      unfold strings_Trim.f
      rw [if_pos ⟨hs, by decide, by decide⟩]
      rfl
    rw [ht, Option.bind_some, toList_mk]
    by_cases d : s.data.toList.all (symC.contains ·) = true
    · rw [if_pos ((trimS_nil _ _).mpr d), if_pos d]
    · rw [if_neg (fun h => d ((trimS_nil _ _).mp h)), if_neg d]
  · rw [if_neg c]
    rw [if_neg (by simp [c])]
def kindM (K a1 a2 a3 N : Int) (s : ByteArray) : Int := if K = a1 then numM N else if K = a3 then (if inB N 0 1 = true then 0 else 3) else if K = a2 then symM s else 0
theorem kindFault_eq (K a1 a2 a3 N : Int) (s : ByteArray) (hs : s.size ≤ 9223372036854775807) : impl_kindFault.f K a1 a2 a3 N s = some (kindM K a1 a2 a3 N s) := by
  unfold impl_kindFault.f kindM
  by_cases h1 : K = a1
  · rw [if_pos h1, if_pos h1, NumFault_eq, Option.bind_some]
  · rw [if_neg h1, if_neg h1]
    by_cases h3 : K = a3
    · rw [if_pos h3, if_pos h3, in_eq, Option.bind_some]
      split <;> rfl
    · rw [if_neg h3, if_neg h3]
      by_cases h2 : K = a2
      · rw [if_pos h2, if_pos h2, SymFault_eq s hs, Option.bind_some]
      · rw [if_neg h2, if_neg h2]
def dig (n : Int) : ByteArray := ⟨(Lib.itoa n).toArray⟩
theorem dec_eq {n : Int} (h : numB n = true) : impl_dec.f n = some (dig n) := by
  have h2 := numB_iff.mp h
  unfold impl_dec.f strconv_FormatInt.f
  rw [if_pos ⟨by omega, by omega, rfl⟩, Option.bind_some]
  rfl
theorem decDigits_len : ∀ (m u : Nat), u ≤ m → (Lib.decDigits u).length ≤ u + 1
  | 0, u, h => by
    rw [Lib.decDigits]
    rw [dif_pos (by omega)]
    simp
  | m + 1, u, h => by
    rw [Lib.decDigits]
    by_cases c : u < 10
    · rw [dif_pos c]; simp
    · rw [dif_neg c, List.length_append]
      have := decDigits_len m (u / 10) (by omega)
      simp
      omega
theorem ba_append (a b : List UInt8) : (⟨a.toArray⟩ : ByteArray) ++ ⟨b.toArray⟩ = ⟨(a ++ b).toArray⟩ := by
  rw [ByteArray.ext_iff]
  simp [ByteArray.data_append]
theorem one_num (u : Nat) (h : u < 10) : strOfNums [wrap64 (48 + (u : Int)) % 256] = ⟨[UInt8.ofNat (48 + u)].toArray⟩ := by
  rw [wrap_id (by omega) (by omega)]
  have e : (48 + (u : Int)) % 256 = ((48 + u : Nat) : Int) := by omega
  rw [e]
  rfl
theorem digits_nat : ∀ (m u : Nat), u ≤ m → u ≤ 9223372036854775807 → Ev (fun k => spec_l1Digits.f k (u : Int)) ⟨(Lib.decDigits u).toArray⟩
  | m, u, h, hu => by
    rw [Lib.decDigits]
    by_cases c : u < 10
    · rw [dif_pos c]
      refine Ev.step (fun k => spec_l1Digits.f.eq_2 _ k) (Ev.ifn (by omega) (Ev.ifp (by omega) (Ev.leaf (one_num u c))))
    · rw [dif_neg c]
      cases m with
      | zero => omega
      | succ m =>
        have ih := digits_nat m (u / 10) (by omega) (by omega)
        have hl := decDigits_len (u / 10) (u / 10) (Nat.le_refl _)
        have hq : wrap64 (Int.tdiv (u : Int) 10) = ((u / 10 : Nat) : Int) := by
          rw [Int.tdiv_eq_ediv_of_nonneg (by omega), wrap_id (by omega) (by omega)]
          omega
        have hr : Int.tmod (u : Int) 10 = ((u % 10 : Nat) : Int) := by
          rw [Int.tmod_eq_emod_of_nonneg (by omega)]
          omega
        refine Ev.step (fun k => spec_l1Digits.f.eq_2 _ k) (Ev.ifn (by omega) (Ev.ifn (by omega) ?_))
        rw [hq, hr]
        refine Ev.bind ih (Ev.bind0 rfl ?_)
        rw [one_num (u % 10) (by omega)]
        refine Ev.ifp ?_ (Ev.leaf (ba_append _ _))
        have e1 : (⟨(Lib.decDigits (u / 10)).toArray⟩ : ByteArray).size = (Lib.decDigits (u / 10)).length := by simp [ByteArray.size]
        have e2 : (⟨[UInt8.ofNat (48 + u % 10)].toArray⟩ : ByteArray).size = 1 := by simp [ByteArray.size]
        omega
theorem digits_ev {n : Int} (h : numB n = true) : Ev (fun k => spec_l1Digits.f k n) (dig n) := by
  have h2 := numB_iff.mp h
  unfold dig Lib.itoa
  by_cases c : n < 0
  · rw [if_pos c]
    have ih := digits_nat n.natAbs n.natAbs (Nat.le_refl _) (by omega)
    have hl := decDigits_len n.natAbs n.natAbs (Nat.le_refl _)
    refine Ev.step (fun k => spec_l1Digits.f.eq_2 _ k) (Ev.ifp c ?_)
    rw [wrap_id (x := -n) (by omega) (by omega), show -n = ((n.natAbs : Nat) : Int) from by omega]
    refine Ev.bind ih (Ev.ifp ?_ (Ev.leaf (ba_append [45] _)))
    have e1 : (⟨(Lib.decDigits n.natAbs).toArray⟩ : ByteArray).size = (Lib.decDigits n.natAbs).length := by simp [ByteArray.size]
    omega
  · rw [if_neg c]
    have ih := digits_nat n.toNat n.toNat (Nat.le_refl _) (by omega)
    rw [show ((n.toNat : Nat) : Int) = n from by omega] at ih
    exact ih
theorem ba_size (l : List UInt8) : (⟨l.toArray⟩ : ByteArray).size = l.length := by simp [ByteArray.size]
theorem ba_eta (s : ByteArray) : (⟨s.data.toList.toArray⟩ : ByteArray) = s := by simp
def tokBad (K N : Int) (s : ByteArray) : Bool := !inB K 1 6 || (N != 0 && K != 4 && K != 5) || (!s.toList.isEmpty && K != 6)
def tokM (K N : Int) (s : ByteArray) : Int := if tokBad K N s = true then 1 else kindM K 4 6 5 N s
def boolT (N : Int) : ByteArray := if N = 1 then ⟨#[35, 116]⟩ else ⟨#[35, 102]⟩
def tokT (K N : Int) (s : ByteArray) : ByteArray := if K = 1 then ⟨#[40]⟩ else if K = 2 then ⟨#[41]⟩ else if K = 3 then ⟨#[39]⟩ else if K = 4 then dig N else if K = 5 then boolT N else s
def tokR (K N : Int) (s : ByteArray) : Int × ByteArray := if tokM K N s = 0 then (0, tokT K N s) else (tokM K N s, ⟨#[]⟩)
theorem specNumFault_eq (n : Int) : spec_NumFault.f n = some (numM n) := by
  unfold spec_NumFault.f numM
  rw [l1Num_eq, Option.bind_some]
  split <;> rfl
theorem l2Fault_ev (K N : Int) (s : ByteArray) (hs : s.size ≤ 9223372036854775807) : Ev (fun k => spec_l2Fault.f k K N s) (tokM K N s) := by
  have j1 : ∀ b : Bool, b = tokBad K N s → Ev (fun k => spec_l2Fault.j1 k b K N s) (tokM K N s) := fun b hb => by
    subst hb
    unfold tokM
    refine Ev.step (fun k => spec_l2Fault.j1.eq_2 _ _ _ _ k) (Ev.iff (fun c => Ev.leaf (by rw [if_pos c])) (fun c => ?_))
    rw [if_neg c]
    unfold kindM
    refine Ev.iff (fun c4 => Ev.bind0 (specNumFault_eq N) (Ev.leaf (by rw [if_pos c4]))) (fun c4 => ?_)
    rw [if_neg c4]
    refine Ev.iff (fun c5 => ?_) (fun c5 => ?_)
    · rw [if_pos c5]
      exact Ev.bind0 (l1In_eq _ _ _) (Ev.iff (fun d => Ev.leaf (by rw [if_pos d])) (fun d => Ev.leaf (by rw [if_neg d])))
    · rw [if_neg c5]
      exact Ev.iff (fun c6 => Ev.bind (specSymFault_ev s hs) (Ev.leaf (by rw [if_pos c6]))) (fun c6 => Ev.leaf (by rw [if_neg c6]))
  have j0 : ∀ b : Bool, b = (K == 4 || K == 5) → Ev (fun k => spec_l2Fault.j0 k b K N s) (tokM K N s) := fun b hb => by
    refine Ev.step (fun k => spec_l2Fault.j0.eq_2 _ _ _ _ k) (Ev.bind0 (l1In_eq _ _ _) (Ev.iff (fun c => Ev.iff (fun d => Ev.iff (fun e => j1 _ ?_) (fun e => j1 _ ?_)) (fun d => Ev.iff (fun f => Ev.iff (fun e => j1 _ ?_) (fun e => j1 _ ?_)) (fun f => j1 _ ?_))) (fun c => j1 _ ?_)))
    all_goals unfold tokBad
    · have z : (N != 0 && K != 4 && K != 5) = false := by rw [d] at hb; cases h4 : (K == 4) <;> cases h5 : (K == 5) <;> simp_all
      rw [c, z, e]; simp
    · have z : (N != 0 && K != 4 && K != 5) = false := by rw [d] at hb; cases h4 : (K == 4) <;> cases h5 : (K == 5) <;> simp_all
      rw [c, z, ne_nil_b]; simp [e]
    · rw [c, f, e]; simp
    · rw [c, f, ne_nil_b]; simp [e]
    · have z : (N != 0 && K != 4 && K != 5) = true := by cases h4 : (K == 4) <;> cases h5 : (K == 5) <;> simp_all
      rw [z]; simp
    · simp only [Bool.not_eq_true] at c
      rw [c]; simp
  exact Ev.congr (fun k => spec_l2Fault.f.eq_1 k _ _ _) (Ev.iff (fun c => j0 _ (by simp [c])) (fun c => j0 _ (by simp [c])))
theorem tok_ok {K N : Int} {s : ByteArray} (h : tokM K N s = 0) : (1 ≤ K ∧ K ≤ 6) ∧ (K = 4 → numB N = true) ∧ (K = 5 → 0 ≤ N ∧ N ≤ 1) ∧ (K = 6 → symB s = true) := by
  unfold tokM at h
  by_cases c : tokBad K N s = true
  · rw [if_pos c] at h; omega
  · rw [if_neg c] at h
    have hk : inB K 1 6 = true := by
      cases z : inB K 1 6
      · exfalso; apply c; unfold tokBad; rw [z]; simp
      · rfl
    refine ⟨inB_iff.mp hk, fun e => ?_, fun e => ?_, fun e => ?_⟩
    · subst e; unfold kindM at h; rw [if_pos rfl] at h; exact numM_0.mp h
    · subst e
      unfold kindM at h
      rw [if_neg (by omega), if_pos rfl] at h
      by_cases z : inB N 0 1 = true
      · exact inB_iff.mp z
      · rw [if_neg z] at h; omega
    · subst e
      unfold kindM symM at h
      rw [if_neg (by omega), if_neg (by omega), if_pos rfl] at h
      by_cases z : symB s = true
      · exact z
      · rw [if_neg z] at h; omega
theorem l2Text_ev {K N : Int} {s : ByteArray} (h : tokM K N s = 0) : Ev (fun k => spec_l2Text.f k K N s) (tokT K N s) := by
  obtain ⟨hk, h4, h5, _⟩ := tok_ok h
  refine Ev.congr (fun k => spec_l2Text.f.eq_1 k _ _ _) ?_
  unfold tokT
  refine Ev.iff (fun c => Ev.leaf (by rw [if_pos c])) (fun c => ?_)
  rw [if_neg c]
  refine Ev.iff (fun c => Ev.leaf (by rw [if_pos c])) (fun c => ?_)
  rw [if_neg c]
  refine Ev.iff (fun c => Ev.leaf (by rw [if_pos c])) (fun c => ?_)
  rw [if_neg c]
  refine Ev.iff (fun c => Ev.bind (digits_ev (h4 c)) (Ev.leaf (by rw [if_pos c]))) (fun c => ?_)
  rw [if_neg c]
  refine Ev.iff (fun c => ?_) (fun c => Ev.leaf (by rw [if_neg c]))
  rw [if_pos c]
  have hb := h5 c
  refine Ev.bind0 rfl (Ev.ifp hb.1 (Ev.ifp (by simp; omega) (Ev.leaf ?_)))
  unfold boolT
  by_cases z : N = 1
  · subst z; rfl
  · obtain rfl : N = 0 := by omega
    rfl
theorem mark_text {K : Int} (h0 : 1 ≤ K) (h1 : K ≤ 3) : (⟨#[40, 41, 39]⟩ : ByteArray).extract (wrap64 (K - 1)).toNat K.toNat = if K = 1 then ⟨#[40]⟩ else if K = 2 then ⟨#[41]⟩ else ⟨#[39]⟩ := by
  rcases (show K = 1 ∨ K = 2 ∨ K = 3 by omega) with rfl | rfl | rfl <;> decide +kernel
theorem implTokenText_ev (K N : Int) (s : ByteArray) (hs : s.size ≤ 9223372036854775807) : Ev (fun k => impl_TokenText.f k K N s) (tokR K N s) := by
  have j0 : ∀ b : Bool, b = tokBad K N s → Ev (fun k => impl_TokenText.j0 k b K N s) (tokR K N s) := fun b hb => by
    subst hb
    refine Ev.step (fun k => impl_TokenText.j0.eq_2 _ _ _ _ k) (Ev.iff (fun c => Ev.leaf ?_) (fun c => ?_))
    · unfold tokR tokM; rw [if_pos c, if_neg (by omega)]
    · have hm : tokM K N s = kindM K 4 6 5 N s := by unfold tokM; rw [if_neg c]
      refine Ev.bind0 (kindFault_eq _ _ _ _ _ _ hs) (Ev.iff (fun d => ?_) (fun d => Ev.leaf ?_))
      · have h0 : tokM K N s = 0 := hm.trans d
        obtain ⟨hk, h4, h5, _⟩ := tok_ok h0
        unfold tokR tokT
        rw [if_pos h0]
        refine Ev.iff (fun e => ?_) (fun e => Ev.iff (fun f => ?_) (fun f => Ev.iff (fun g => ?_) (fun g => ?_)))
        · exact Ev.bind0 (dec_eq (h4 e)) (Ev.leaf (by rw [if_neg (by omega), if_neg (by omega), if_neg (by omega), if_pos e]))
        · refine Ev.bind0 (a := boolT N) (by unfold impl_boolText.f boolT; split <;> rfl) (Ev.leaf (by rw [if_neg (by omega), if_neg (by omega), if_neg (by omega), if_neg e, if_pos f]))
        · exact Ev.leaf (by rw [if_neg (by omega), if_neg (by omega), if_neg (by omega), if_neg e, if_neg f])
        · have hw : wrap64 (K - 1) = K - 1 := wrap_id (by omega) (by omega)
          refine Ev.ifp (by omega) (Ev.ifp (by omega) (Ev.ifp (by omega) (Ev.leaf ?_)))
          rw [mark_text (by omega) (by omega)]
          by_cases k1 : K = 1
          · rw [if_pos k1, if_pos k1]
          · rw [if_neg k1, if_neg k1]
            by_cases k2 : K = 2
            · rw [if_pos k2, if_pos k2]
            · rw [if_neg k2, if_neg k2, if_pos (by omega)]
      · unfold tokR; rw [if_neg (by rw [hm]; exact d), hm]
  refine Ev.congr (fun k => impl_TokenText.f.eq_1 k _ _ _) (Ev.bind0 (in_eq _ _ _) ?_)
  repeat' first
    | refine Ev.iff (fun _ => ?_) (fun _ => ?_)
    | refine j0 _ ?_
  all_goals simp_all [tokBad]
theorem rdTk_at {xs : List S37} {i : Nat} (h : i < xs.length) : rd_T37 xs (i : Int) = xs[i] := by simp [rd_T37, h]
def tT (x : S37) : ByteArray := tokT x.f0 x.f1 x.f2
def tF (x : S37) : Int := tokM x.f0 x.f1 x.f2
theorem itoa_lenT {n : Int} (h : numB n = true) : (Lib.itoa n).length ≤ 1000000002 := by
  have h2 := numB_iff.mp h
  unfold Lib.itoa
  split
  · have := decDigits_len n.natAbs n.natAbs (Nat.le_refl _)
    simp only [List.length_cons]
    omega
  · have := decDigits_len n.toNat n.toNat (Nat.le_refl _)
    omega
theorem tT_len {x : S37} (h : tF x = 0) : (tT x).data.toList.length ≤ 1000000002 := by
  obtain ⟨hk, h4, h5, h6⟩ := tok_ok h
  unfold tT tokT
  split
  · simp
  · split
    · simp
    · split
      · simp
      · split
        · rename_i c
          exact itoa_lenT (h4 c)
        · split
          · unfold boolT; split <;> simp
          · have hs := h6 (by omega)
            unfold symB at hs
            simp only [Bool.and_eq_true] at hs
            have := inB_iff.mp hs.2
            rw [data_length]
            omega
def jn (l : List ByteArray) : List UInt8 := Lib.join (l.map (·.data.toList)) [32]
theorem jn_snoc (l : List ByteArray) (x : ByteArray) : jn (l ++ [x]) = if l = [] then x.data.toList else jn l ++ [32] ++ x.data.toList := by
  unfold jn
  cases l with
  | nil => simp [Lib.join, List.intercalate]
  | cons a r =>
    rw [if_neg (by simp)]
    simp only [List.cons_append, List.map_cons, List.map_append, List.map_nil, Lib.join_cons, Lib.joinTail, List.flatten_append, List.append_assoc]
    simp
theorem jn_len (xs : List S37) : ∀ i, i ≤ xs.length → (∀ j (h : j < xs.length), j < i → tF xs[j] = 0) → (jn ((xs.take i).map tT)).length ≤ i * 1000000003
  | 0, _, _ => by simp [jn, Lib.join]
  | i + 1, h, hv => by
    have ih := jn_len xs i (by omega) (fun j hj hji => hv j hj (by omega))
    have hi : i < xs.length := by omega
    have hx := tT_len (hv i hi (by omega))
    rw [List.take_succ_eq_append_getElem hi, List.map_append, List.map_cons, List.map_nil, jn_snoc]
    split
    · omega
    · simp only [List.length_append, List.length_cons, List.length_nil]
      omega
def tokAt (xs : List S37) (i : Nat) : Option (Int × ByteArray) := if h : i < xs.length then (if tF xs[i] = 0 then none else some (tF xs[i], ⟨#[]⟩)) else none
def toksM (xs : List S37) : Int × ByteArray := if (xs.length : Int) > 120 then (2, ⟨#[]⟩) else runU (tokAt xs) (0, ⟨(jn (xs.map tT)).toArray⟩) xs.length 0
def okT (xs : List S37) : Prop := ∀ x ∈ xs, x.f2.size ≤ 9223372036854775807
theorem implToks_loop (xs : List S37) (hx : okT xs) (hl : xs.length ≤ 120) : ∀ d i, i + d = xs.length → (∀ j (h : j < xs.length), j < i → tF xs[j] = 0) → Ev (fun k => impl_TokensText.l0 k ((xs.take i).map tT) xs (xs.length : Int) (i : Int)) (runU (tokAt xs) (0, ⟨(jn (xs.map tT)).toArray⟩) d i)
  | 0, i, hd, hv => by
    have e : i = xs.length := by omega
    subst e
    have hj := jn_len xs xs.length (Nat.le_refl _) hv
    rw [List.take_length] at hj ⊢
    refine Ev.step (fun k => impl_TokensText.l0.eq_2 _ _ _ _ k) (Ev.ifn (by omega) (Ev.bind0 (a := ⟨(jn (xs.map tT)).toArray⟩) ?_ (Ev.now _)))
    have h1 : (xs.map tT).length ≤ 140737488355328 := by rw [List.length_map]; omega
    have h2 : (jn (xs.map tT)).length ≤ 140737488355328 := by omega
    unfold strings_Join.f
    exact if_pos ⟨h1, h2⟩
  | d + 1, i, hd, hv => by
    have hi : i < xs.length := by omega
    refine Ev.step (fun k => impl_TokensText.l0.eq_2 _ _ _ _ k) (Ev.ifp (by omega) (Ev.ifp (by omega) (Ev.ifp (by omega) ?_)))
    rw [rdTk_at hi, wrap_succ hi (by omega)]
    refine Ev.bind (implTokenText_ev _ _ _ (hx _ (List.getElem_mem hi))) ?_
    simp only [runU, tokAt, dif_pos hi]
    by_cases c : tF xs[i] = 0
    · rw [if_pos c]
      have hr : tokR xs[i].f0 xs[i].f1 xs[i].f2 = (0, tT xs[i]) := by unfold tokR; rw [if_pos (show tokM xs[i].f0 xs[i].f1 xs[i].f2 = 0 from c)]; rfl
      rw [hr]
      refine Ev.ifp rfl (Ev.ifp (by rw [List.length_map, List.length_take]; omega) ?_)
      have ih := implToks_loop xs hx hl d (i + 1) (by omega) (fun j hj hji => by
        by_cases e : j = i
        · subst e; exact c
        · exact hv j hj (by omega))
      rw [List.take_succ_eq_append_getElem hi, List.map_append] at ih
      exact ih
    · rw [if_neg c]
      have hr : tokR xs[i].f0 xs[i].f1 xs[i].f2 = (tF xs[i], ⟨#[]⟩) := by unfold tokR; rw [if_neg (show ¬ tokM xs[i].f0 xs[i].f1 xs[i].f2 = 0 from c)]; rfl
      rw [hr]
      exact Ev.ifn c (Ev.now _)
theorem implTokens_ev (xs : List S37) (hx : okT xs) : Ev (fun k => impl_TokensText.f k xs) (toksM xs) := by
  refine Ev.congr (fun k => impl_TokensText.f.eq_1 k _) (Ev.iff (fun c => Ev.leaf (by unfold toksM; rw [if_pos c])) (fun c => ?_))
  unfold toksM
  rw [if_neg c]
  exact implToks_loop xs hx (by omega) xs.length 0 (by omega) (fun j _ hj => by omega)
theorem ba_data (b : ByteArray) : (⟨b.data.toList.toArray⟩ : ByteArray) = b := by simp
theorem specToks_loop (xs : List S37) (hx : okT xs) (hl : xs.length ≤ 120) : ∀ d i, i + d = xs.length → (∀ j (h : j < xs.length), j < i → tF xs[j] = 0) → Ev (fun k => spec_TokensText.l0 k xs ⟨(jn ((xs.take i).map tT)).toArray⟩ (i : Int)) (runU (tokAt xs) (0, ⟨(jn (xs.map tT)).toArray⟩) d i)
  | 0, i, hd, hv => by
    have e : i = xs.length := by omega
    subst e
    rw [List.take_length]
    exact Ev.step (fun k => spec_TokensText.l0.eq_2 _ _ _ k) (Ev.ifn (by omega) (Ev.now _))
  | d + 1, i, hd, hv => by
    have hi : i < xs.length := by omega
    have hj := jn_len xs i (by omega) hv
    refine Ev.step (fun k => spec_TokensText.l0.eq_2 _ _ _ k) (Ev.ifp (by omega) (Ev.ifp (by omega) ?_))
    rw [rdTk_at hi, wrap_succ hi (by omega)]
    refine Ev.bind (l2Fault_ev _ _ _ (hx _ (List.getElem_mem hi))) ?_
    simp only [runU, tokAt, dif_pos hi]
    by_cases c : tF xs[i] = 0
    · rw [if_pos c]
      have ht := tT_len c
      have hts : (tT xs[i]).size = (tT xs[i]).data.toList.length := (data_length _).symm
      have ih := specToks_loop xs hx hl d (i + 1) (by omega) (fun j hj hji => by
        by_cases e : j = i
        · subst e; exact c
        · exact hv j hj (by omega))
      rw [List.take_succ_eq_append_getElem hi, List.map_append, List.map_cons, List.map_nil, jn_snoc] at ih
      refine Ev.ifp c (Ev.iff (fun p => ?_) (fun p => ?_))
      · have hne : (xs.take i).map tT ≠ [] := by
          intro z
          have := congrArg List.length z
          rw [List.length_map, List.length_take, List.length_nil] at this
          omega
        rw [if_neg hne] at ih
        refine Ev.ifp (by rw [ba_size]; omega) (Ev.bind (l2Text_ev c) ?_)
        have e1 : (⟨(jn ((xs.take i).map tT)).toArray⟩ : ByteArray) ++ ⟨#[32]⟩ = ⟨(jn ((xs.take i).map tT) ++ [32]).toArray⟩ := ba_append _ [32]
        rw [e1]
        refine Ev.ifp (by rw [ba_size, List.length_append]; show (_ + 1) + (tT xs[i]).size ≤ _; omega) ?_
        have e2 : (⟨(jn ((xs.take i).map tT) ++ [32]).toArray⟩ : ByteArray) ++ tT xs[i] = ⟨(jn ((xs.take i).map tT) ++ [32] ++ (tT xs[i]).data.toList).toArray⟩ := by
          have z := ba_append (jn ((xs.take i).map tT) ++ [32]) (tT xs[i]).data.toList
          rw [ba_data] at z
          exact z
        rw [← e2] at ih
        exact ih
      · obtain rfl : i = 0 := by omega
        rw [List.take_zero, List.map_nil, if_pos rfl] at ih
        refine Ev.bind (l2Text_ev c) (Ev.ifp ?_ ?_)
        · show (0 : Nat) + (tT xs[0]).size ≤ _
          omega
        · have e3 : (⟨(jn ((xs.take 0).map tT)).toArray⟩ : ByteArray) ++ tT xs[0] = ⟨((tT xs[0]).data.toList).toArray⟩ := by
            rw [ba_data]
            simp [jn, Lib.join, ByteArray.ext_iff]
          rw [← e3] at ih
          exact ih
    · rw [if_neg c]
      exact Ev.ifn c (Ev.now _)
theorem specTokens_ev (xs : List S37) (hx : okT xs) : Ev (fun k => spec_TokensText.f k xs) (toksM xs) := by
  refine Ev.congr (fun k => spec_TokensText.f.eq_1 k _) (Ev.iff (fun c => Ev.leaf (by unfold toksM; rw [if_pos c])) (fun c => ?_))
  unfold toksM
  rw [if_neg c]
  exact specToks_loop xs hx (by omega) xs.length 0 (by omega) (fun j _ hj => by omega)
theorem digit_val (d : Nat) (h : d < 10) : Lib.digitVal (UInt8.ofNat (48 + d)) = some d := by
  have e : (UInt8.ofNat (48 + d)).toNat = 48 + d := by simp; omega
  unfold Lib.digitVal
  rw [e, if_pos (by omega)]
  congr 1
  omega
theorem decFrom_digits : ∀ (m u : Nat), u ≤ m → Lib.decFrom 0 (Lib.decDigits u) = some u
  | m, u, h => by
    rw [Lib.decDigits]
    by_cases c : u < 10
    · rw [dif_pos c]
      simp only [Lib.decFrom, digit_val u c]
      simp
    · rw [dif_neg c]
      cases m with
      | zero => omega
      | succ m =>
        have ih := decFrom_digits m (u / 10) (by omega)
        have ht := Lib.decFrom_take (Lib.decDigits (u / 10) ++ [UInt8.ofNat (48 + u % 10)]) (Lib.decDigits (u / 10)).length 0 (u / 10) (UInt8.ofNat (48 + u % 10)) (u % 10) (by rw [List.take_left]; exact ih) (by simp) (digit_val _ (by omega))
        rw [List.take_of_length_le (by simp)] at ht
        rw [ht]
        congr 1
        omega
theorem digits_byte : ∀ (m u : Nat), u ≤ m → ∀ b ∈ Lib.decDigits u, 48 ≤ b.toNat ∧ b.toNat ≤ 57
  | m, u, h, b, hb => by
    rw [Lib.decDigits] at hb
    have one : ∀ d, d < 10 → b = UInt8.ofNat (48 + d) → 48 ≤ b.toNat ∧ b.toNat ≤ 57 := by
      intro d hd e
      subst e
      have : (UInt8.ofNat (48 + d)).toNat = 48 + d := by simp; omega
      omega
    by_cases c : u < 10
    · rw [dif_pos c, List.mem_singleton] at hb
      exact one u c hb
    · rw [dif_neg c] at hb
      cases m with
      | zero => omega
      | succ m =>
        rcases List.mem_append.mp hb with h1 | h1
        · exact digits_byte m (u / 10) (by omega) b h1
        · exact one (u % 10) (by omega) (List.mem_singleton.mp h1)
theorem digits_ne (u : Nat) : Lib.decDigits u ≠ [] := by
  rw [Lib.decDigits]
  split <;> simp
theorem digits_len : ∀ (k u : Nat), u < 10 ^ (k + 1) → (Lib.decDigits u).length ≤ k + 1
  | k, u, h => by
    rw [Lib.decDigits]
    by_cases c : u < 10
    · rw [dif_pos c]; simp
    · rw [dif_neg c]
      cases k with
      | zero => omega
      | succ k =>
        have := digits_len k (u / 10) (by rw [Nat.pow_succ] at h; omega)
        simp
        omega
theorem decNat_digits (u : Nat) : Lib.decNat (Lib.decDigits u) = some u := by
  unfold Lib.decNat
  rw [if_neg (by have := digits_ne u; simp [this])]
  exact decFrom_digits u u (Nat.le_refl _)
theorem parse_itoa {n : Int} (h : numB n = true) : Lib.parseIntB 64 (Lib.itoa n) = .ok n := by
  have h2 := numB_iff.mp h
  have hl : (Lib.decDigits n.natAbs).length ≤ 10 := digits_len 9 n.natAbs (by simp; omega)
  rw [Lib.parseIntB_64]
  unfold Lib.itoa
  by_cases c : n < 0
  · rw [if_pos c, Lib.atoiAll_short _ (by simp; omega)]
    have : Lib.atoi (45 :: Lib.decDigits n.natAbs) = some (-(n.natAbs : Int)) := by
      simp [Lib.atoi, decNat_digits]
    rw [this]
    show Lib.NumEnd.ok _ = _
    congr 1
    omega
  · rw [if_neg c]
    have e : n.toNat = n.natAbs := by omega
    rw [e, Lib.atoiAll_short _ (by omega)]
    have : Lib.atoi (Lib.decDigits n.natAbs) = some (n.natAbs : Int) := by
      have hb := digits_byte n.natAbs n.natAbs (Nat.le_refl _)
      have hn := decNat_digits n.natAbs
      cases hd : Lib.decDigits n.natAbs with
      | nil => exact absurd hd (digits_ne _)
      | cons b r =>
        rw [hd] at hb hn
        have h1 := hb b (by simp)
        have h3 : (b == 45) = false := by
          apply beq_eq_false_iff_ne.mpr
          rintro rfl
          exact absurd h1.1 (by decide)
        have h4 : (b == 43) = false := by
          apply beq_eq_false_iff_ne.mpr
          rintro rfl
          exact absurd h1.1 (by decide)
        simp [Lib.atoi, h3, h4, hn]
    rw [this]
    show Lib.NumEnd.ok _ = _
    congr 1
    omega
theorem dig_list (n : Int) : (dig n).data.toList = Lib.itoa n := by simp [dig]
theorem dig_inj {a b : Int} (ha : numB a = true) (hb : numB b = true) (h : dig a = dig b) : a = b := by
  have h1 := parse_itoa ha
  have h2 := parse_itoa hb
  rw [← dig_list, h, dig_list, h2] at h1
  exact (Lib.NumEnd.ok.inj h1).symm
theorem bytes_eqP {a b : ByteArray} (h : a.toList = b.toList) : a = b := by
  rw [ByteArray.toList_eq, ByteArray.toList_eq] at h
  exact Go.WideShapes.bytes_inj h
def finV (f : Int) (m : Nat) : Int := if f = 1 then -(m : Int) else m
def finM (t : ByteArray) (f : Int) (m : Nat) : Int × Bool := (finV f m, if numB (finV f m) = true then ((dig (finV f m)).toList == t.toList) else false)
theorem parse_loop (t : ByteArray) (ht : t.size ≤ 1048576) (f : Int) : ∀ (d i e n : Nat), i + d = t.size → e + d ≤ 10 → n < 10 ^ e → Ev (fun k => spec_l1Parse.l0 k t f (n : Int) (i : Int)) (match Lib.decFrom n (t.data.toList.drop i) with | some m => finM t f m | none => (0, false))
  | 0, i, e, n, hd, he, hn => by
    have hl : t.data.toList.drop i = [] := List.drop_eq_nil_of_le (by rw [data_length]; omega)
    rw [hl]
    have h10 : (10 : Nat) ^ e ≤ 10 ^ 10 := Nat.pow_le_pow_right (by omega) (by omega)
    have hn2 : n < 10000000000 := by
      have : (10 : Nat) ^ 10 = 10000000000 := by decide
      omega
    simp only [Lib.decFrom]
    refine Ev.step (fun k => spec_l1Parse.l0.eq_2 _ _ _ _ k) (Ev.ifn (by omega) (Ev.iff (fun c => ?_) (fun c => ?_)))
    · rw [wrap_id (x := -(n : Int)) (by omega) (by omega)]
      have hv : finV f n = -(n : Int) := by unfold finV; rw [if_pos c]
      unfold finM
      rw [hv]
      refine Ev.bind0 (l1Num_eq _) (Ev.iff (fun z => Ev.bind (digits_ev z) (Ev.leaf ?_)) (fun z => Ev.leaf ?_))
      · rw [if_pos z]
      · rw [if_neg z]
    · have hv : finV f n = (n : Int) := by unfold finV; rw [if_neg c]
      unfold finM
      rw [hv]
      refine Ev.bind0 (l1Num_eq _) (Ev.iff (fun z => Ev.bind (digits_ev z) (Ev.leaf ?_)) (fun z => Ev.leaf ?_))
      · rw [if_pos z]
      · rw [if_neg z]
  | d + 1, i, e, n, hd, he, hn => by
    have hi : i < t.size := by omega
    have hi' : i < t.data.toList.length := by rw [data_length]; exact hi
    have hb := bt_data t i hi
    have h10 : (10 : Nat) ^ e ≤ 10 ^ 9 := Nat.pow_le_pow_right (by omega) (by omega)
    have hn2 : n < 1000000000 := by
      have : (10 : Nat) ^ 9 = 1000000000 := by decide
      omega
    rw [List.drop_eq_getElem_cons hi']
    generalize hB : t.data.toList[i] = b at hb
    have hb2 : b.toNat < 256 := b.toNat_lt
    simp only [Lib.decFrom, Lib.digitVal]
    refine Ev.step (fun k => spec_l1Parse.l0.eq_2 _ _ _ _ k) (Ev.ifp (by omega) (Ev.ifp (by omega) (Ev.iff (fun c => Ev.leaf ?_) (fun c => Ev.iff (fun c2 => Ev.leaf ?_) (fun c2 => ?_)))))
    · rw [if_neg (by omega)]
    · rw [if_neg (by omega)]
    · rw [if_pos (show 48 ≤ b.toNat ∧ b.toNat ≤ 57 by omega), hb]
      have e1 : wrap64 (wrap64 ((n : Int) * 10) + ((b.toNat : Int) - 48) % 256) = ((n * 10 + (b.toNat - 48) : Nat) : Int) := by
        rw [wrap_id (x := (n : Int) * 10) (by omega) (by omega), wrap_id (by omega) (by omega)]
        omega
      rw [e1, wrap_succ hi (by omega)]
      exact parse_loop t ht f d (i + 1) (e + 1) _ (by omega) (by omega) (by rw [Nat.pow_succ]; omega)
theorem fin_true {t : ByteArray} {f : Int} {m : Nat} (h : (finM t f m).2 = true) : numB (finM t f m).1 = true ∧ t = dig (finM t f m).1 := by
  unfold finM at h ⊢
  simp only [] at h ⊢
  split at h
  · rename_i c
    exact ⟨c, (bytes_eqP (beq_iff_eq.mp h)).symm⟩
  · cases h
theorem fin_of {n : Int} (hn : numB n = true) {f : Int} {m : Nat} (h : finV f m = n) : finM (dig n) f m = (n, true) := by
  unfold finM
  rw [h, if_pos hn]
  simp
theorem parse_from (t : ByteArray) (ht : t.size ≤ 1048576) (f : Nat) (hf : f ≤ 1) (hs : f ≤ t.size) : Ev (fun k => spec_l1Parse.j1 k t (f : Int)) (if 1 ≤ t.size - f ∧ t.size - f ≤ 10 then (match Lib.decFrom 0 (t.data.toList.drop f) with | some m => finM t (f : Int) m | none => (0, false)) else (0, false)) := by
  have hw : wrap64 ((t.size : Int) - (f : Int)) = ((t.size - f : Nat) : Int) := by rw [wrap_id (by omega) (by omega)]; omega
  refine Ev.step (fun k => spec_l1Parse.j1.eq_2 _ _ k) ?_
  rw [hw]
  refine Ev.iff (fun c => Ev.step (fun k => spec_l1Parse.j2.eq_2 _ _ _ k) (Ev.ifp rfl (Ev.leaf ?_))) (fun c => Ev.step (fun k => spec_l1Parse.j2.eq_2 _ _ _ k) (Ev.iff (fun c2 => Ev.leaf ?_) (fun c2 => ?_)))
  · rw [if_neg (by omega)]
  · have c3 := of_decide_eq_true c2
    rw [if_neg (by omega)]
  · have c3 := of_decide_eq_false (by simpa using c2 : decide (((t.size - f : Nat) : Int) > 10) = false)
    rw [if_pos (by omega)]
    exact parse_loop t ht f (t.size - f) f 0 0 (by omega) (by omega) (by decide)
theorem specParse_ev (t : ByteArray) (ht : t.size ≤ 1048576) : ∃ v b, Ev (fun k => spec_l1Parse.f k t) (v, b) ∧ (b = true → numB v = true ∧ t = dig v) ∧ ∀ n, numB n = true → t = dig n → (v, b) = (n, true) := by
  have hsz : t.data.toList.length = t.size := data_length t
  have key : ∀ f : Nat, f ≤ 1 → f ≤ t.size → (∀ n, numB n = true → t = dig n → 1 ≤ t.size - f ∧ t.size - f ≤ 10 ∧ ∃ m, Lib.decFrom 0 (t.data.toList.drop f) = some m ∧ finV (f : Int) m = n) → ∃ v b, Ev (fun k => spec_l1Parse.j1 k t (f : Int)) (v, b) ∧ (b = true → numB v = true ∧ t = dig v) ∧ ∀ n, numB n = true → t = dig n → (v, b) = (n, true) := by
    intro f hf hs hk
    have h := parse_from t ht f hf hs
    by_cases c : 1 ≤ t.size - f ∧ t.size - f ≤ 10
    · rw [if_pos c] at h
      cases hd : Lib.decFrom 0 (t.data.toList.drop f) with
      | none =>
        rw [hd] at h
        refine ⟨0, false, h, fun z => absurd z (by simp), fun n hn e => ?_⟩
        obtain ⟨_, _, m, hm, _⟩ := hk n hn e
        rw [hd] at hm
        cases hm
      | some m =>
        rw [hd] at h
        refine ⟨(finM t f m).1, (finM t f m).2, h, fun z => fin_true z, fun n hn e => ?_⟩
        obtain ⟨_, _, m', hm, hv⟩ := hk n hn e
        rw [hd] at hm
        obtain rfl := Option.some.inj hm
        subst e
        exact fin_of hn hv
    · rw [if_neg c] at h
      refine ⟨0, false, h, fun z => absurd z (by simp), fun n hn e => ?_⟩
      obtain ⟨c1, c2, _⟩ := hk n hn e
      exact absurd ⟨c1, c2⟩ c
  have hdl : ∀ n, numB n = true → t = dig n → t.data.toList = Lib.itoa n := fun n _ e => by rw [e, dig_list]
  have hlen : ∀ n, numB n = true → (Lib.decDigits n.natAbs).length ≤ 10 := fun n hn => by
    have h2 := numB_iff.mp hn
    exact digits_len 9 n.natAbs (by simp; omega)
  have hpos : ∀ u, 1 ≤ (Lib.decDigits u).length := fun u => by
    have := digits_ne u
    cases h : Lib.decDigits u with
    | nil => exact absurd h this
    | cons a r => simp
  -- a text whose first byte is '-', or another
  have neg1 : ∀ n, numB n = true → t = dig n → ∀ (h0 : 0 < t.size), bt t 0 = 45 → n < 0 := by
    intro n hn e h0 hb
    have hl := hdl n hn e
    have hb' := bt_data t 0 h0
    have hb2 : bt t 0 = ((t.data.toList[0]'(by omega)).toNat : Int) := hb'
    rw [hb] at hb2
    by_cases c : n < 0
    · exact c
    · exfalso
      have hi : Lib.itoa n = Lib.decDigits n.toNat := by unfold Lib.itoa; rw [if_neg c]
      rw [hi] at hl
      have hm : t.data.toList[0]'(by omega) ∈ Lib.decDigits n.toNat := by rw [← hl]; exact List.getElem_mem _
      have := digits_byte n.toNat n.toNat (Nat.le_refl _) _ hm
      omega
  have pos1 : ∀ n, numB n = true → t = dig n → ¬ (0 < t.size ∧ bt t 0 = 45) → ¬ n < 0 := by
    intro n hn e hb c
    have hl := hdl n hn e
    have hi : Lib.itoa n = 45 :: Lib.decDigits n.natAbs := by unfold Lib.itoa; rw [if_pos c]
    rw [hi] at hl
    have h0 : 0 < t.size := by rw [← hsz, hl]; simp
    refine hb ⟨h0, ?_⟩
    have hb' := bt_data t 0 h0
    have hb2 : bt t 0 = ((t.data.toList[0]'(by omega)).toNat : Int) := hb'
    rw [hb2]
    have : t.data.toList[0]'(by omega) = 45 := by simp [hl]
    rw [this]
    rfl
  have minus : 0 < t.size → bt t 0 = 45 → ∃ v b, Ev (fun k => spec_l1Parse.j1 k t 1) (v, b) ∧ (b = true → numB v = true ∧ t = dig v) ∧ ∀ n, numB n = true → t = dig n → (v, b) = (n, true) := by
    intro h0 hb
    refine key 1 (by omega) h0 (fun n hn e => ?_)
    have c := neg1 n hn e h0 hb
    have hl := hdl n hn e
    have hi : Lib.itoa n = 45 :: Lib.decDigits n.natAbs := by unfold Lib.itoa; rw [if_pos c]
    rw [hi] at hl
    have hs : t.size = (Lib.decDigits n.natAbs).length + 1 := by rw [← hsz, hl]; simp
    have h1 := hlen n hn
    have h2 := hpos n.natAbs
    refine ⟨by omega, by omega, n.natAbs, ?_, ?_⟩
    · rw [hl]
      exact decFrom_digits _ _ (Nat.le_refl _)
    · unfold finV; rw [if_pos (show ((1 : Nat) : Int) = 1 from rfl)]; omega
  have plus : ¬ (0 < t.size ∧ bt t 0 = 45) → ∃ v b, Ev (fun k => spec_l1Parse.j1 k t 0) (v, b) ∧ (b = true → numB v = true ∧ t = dig v) ∧ ∀ n, numB n = true → t = dig n → (v, b) = (n, true) := by
    intro hb
    refine key 0 (by omega) (by omega) (fun n hn e => ?_)
    have c := pos1 n hn e hb
    have hl := hdl n hn e
    have hi : Lib.itoa n = Lib.decDigits n.natAbs := by unfold Lib.itoa; rw [if_neg c, show n.toNat = n.natAbs from by omega]
    rw [hi] at hl
    have hs : t.size = (Lib.decDigits n.natAbs).length := by rw [← hsz, hl]
    have h1 := hlen n hn
    have h2 := hpos n.natAbs
    refine ⟨by omega, by omega, n.natAbs, ?_, ?_⟩
    · rw [hl]
      exact decFrom_digits _ _ (Nat.le_refl _)
    · unfold finV; rw [if_neg (by omega)]; omega
  by_cases h0 : 0 < t.size
  · by_cases hb : bt t 0 = 45
    · obtain ⟨v, b, h, r⟩ := minus h0 hb
      refine ⟨v, b, Ev.congr (fun k => spec_l1Parse.f.eq_1 k _) (Ev.ifp (by omega) (Ev.ifp (by omega) (Ev.step (fun k => spec_l1Parse.j0.eq_2 _ _ _ k) (Ev.ifp (by rw [hb]; rfl) h)))), r⟩
    · obtain ⟨v, b, h, r⟩ := plus (fun z => hb z.2)
      refine ⟨v, b, Ev.congr (fun k => spec_l1Parse.f.eq_1 k _) (Ev.ifp (by omega) (Ev.ifp (by omega) (Ev.step (fun k => spec_l1Parse.j0.eq_2 _ _ _ k) (Ev.ifn (by simpa using hb) h)))), r⟩
  · obtain ⟨v, b, h, r⟩ := plus (fun z => h0 z.1)
    exact ⟨v, b, Ev.congr (fun k => spec_l1Parse.f.eq_1 k _) (Ev.ifn (by omega) (Ev.step (fun k => spec_l1Parse.j0.eq_2 _ _ _ k) (Ev.ifn (by simp) h))), r⟩
def isDig (t : ByteArray) : Prop := ∃ n, numB n = true ∧ t = dig n
theorem implParseNum_eq (t : ByteArray) (ht : t.size ≤ 1048576) : (∀ n, numB n = true → t = dig n → impl_ParseNum.f t = some (0, n)) ∧ (¬ isDig t → impl_ParseNum.f t = some (5, 0)) := by
  have h0 : t.size ≤ 281474976710656 ∧ (10 : Int) = 10 ∧ (64 : Int) = 64 := ⟨by omega, rfl, rfl⟩
  constructor
  · intro n hn e
    have hp : Lib.parseIntB 64 t.data.toList = .ok n := by rw [e, dig_list]; exact parse_itoa hn
    unfold impl_ParseNum.f strconv_ParseInt.f
    rw [if_pos h0, hp]
    simp only [Option.bind_some]
    rw [if_pos (show (none : Option Int).isNone = true from rfl), NumFault_eq, Option.bind_some, if_pos (numM_0.mpr hn), dec_eq hn, Option.bind_some, if_pos (by rw [e])]
  · intro hn
    unfold impl_ParseNum.f strconv_ParseInt.f
    rw [if_pos h0]
    cases hp : Lib.parseIntB 64 t.data.toList with
    | ok v =>
      simp only [Option.bind_some]
      rw [if_pos (show (none : Option Int).isNone = true from rfl), NumFault_eq, Option.bind_some]
      by_cases c : numM v = 0
      · rw [if_pos c, dec_eq (numM_0.mp c), Option.bind_some, if_neg (fun z => hn ⟨v, numM_0.mp c, (bytes_eqP z).symm⟩)]
      · rw [if_neg c]
    | «syntax» => simp
    | range => simp
def okB (l : List Int) : Prop := l.length ≤ 1048576 ∧ ∀ y ∈ l, 0 ≤ y ∧ y ≤ 255
theorem rdb (l : List Int) (h : okB l) (i : Int) : 0 ≤ rd l i ∧ rd l i ≤ 255 := by
  unfold rd
  by_cases c : i.toNat < l.length
  · have := h.2 (l.getD i.toNat 0) (by simp [List.getD, c])
    exact this
  · simp [List.getD, c]
theorem tmod_lt' {a b : Int} (ha : 0 ≤ a) (hb : 0 < b) : 0 ≤ Int.tmod a b ∧ Int.tmod a b < b := ⟨Int.tmod_nonneg b ha, Int.tmod_lt_of_pos a hb⟩
theorem next_eq (l : List Int) (hl : okB l) (s n : Int) (h0 : 0 ≤ s) (h1 : s ≤ 1000000000) (hn : n ≤ 1000000000) : ∃ v, spec_l1Next.f l s n = some (v, s + 1) ∧ 0 ≤ v ∧ (1 ≤ n → v < n) ∧ (n < 1 → v = 0) := by
  have hlen := hl.1
  unfold spec_l1Next.f
  rw [wrap_id (x := s + 1) (by omega) (by omega)]
  by_cases c : n < 1
  · exact ⟨0, by rw [if_pos c], by omega, by omega, fun _ => rfl⟩
  · rw [if_neg c, show s + 1 - 1 = s from by omega, wrap_id (x := s) (by omega) (by omega)]
    by_cases c1 : (l.length : Int) = 0
    · rw [if_pos c1, if_neg (by omega), wrap_id (x := s * 7) (by omega) (by omega)]
      have := tmod_lt' (a := s * 7) (b := n) (by omega) (by omega)
      exact ⟨_, rfl, this.1, fun _ => this.2, fun h => absurd h c⟩
    · have hp : (0 : Int) < l.length := by omega
      have m1 := tmod_lt' h0 hp
      have m2 := tmod_lt' (a := s + 1) (b := (l.length : Int)) (by omega) hp
      have d1 : 0 ≤ Int.tdiv s (l.length : Int) ∧ Int.tdiv s (l.length : Int) ≤ s := by
        rw [Int.tdiv_eq_ediv_of_nonneg h0]
        exact ⟨Int.ediv_nonneg h0 (by omega), Int.ediv_le_self _ h0⟩
      have r1 := rdb l hl (Int.tmod s (l.length : Int))
      have r2 := rdb l hl (Int.tmod (s + 1) (l.length : Int))
      rw [if_neg c1, if_pos m1.1, if_pos m1.2]
      by_cases c2 : n > 200
      · rw [if_pos c2, wrap_id (x := s + 1) (by omega) (by omega), if_pos m2.1, if_pos m2.2, if_neg (by omega)]
        generalize hq : Int.tdiv s (l.length : Int) = q at d1
        generalize ha : rd l (Int.tmod s (l.length : Int)) = a at r1
        generalize hb : rd l (Int.tmod (s + 1) (l.length : Int)) = b at r2
        rw [wrap_id (x := a) (by omega) (by omega), wrap_id (x := q) (by omega) (by omega), wrap_id (x := q * 37) (by omega) (by omega), wrap_id (x := a + q * 37) (by omega) (by omega), wrap_id (x := b) (by omega) (by omega), wrap_id (x := b * 13) (by omega) (by omega), wrap_id (x := (a + q * 37) * 251) (by omega) (by omega), wrap_id (x := (a + q * 37) * 251 + b * 13) (by omega) (by omega), wrap_id (x := (a + q * 37) * 251 + b * 13 + s) (by omega) (by omega)]
        have := tmod_lt' (a := (a + q * 37) * 251 + b * 13 + s) (b := n) (by omega) (by omega)
        exact ⟨_, rfl, this.1, fun _ => this.2, fun h => absurd h c⟩
      · rw [if_neg c2, if_neg (by omega)]
        generalize hq : Int.tdiv s (l.length : Int) = q at d1
        generalize ha : rd l (Int.tmod s (l.length : Int)) = a at r1
        rw [wrap_id (x := a) (by omega) (by omega), wrap_id (x := q) (by omega) (by omega), wrap_id (x := q * 37) (by omega) (by omega), wrap_id (x := a + q * 37) (by omega) (by omega)]
        have := tmod_lt' (a := a + q * 37) (b := n) (by omega) (by omega)
        exact ⟨_, rfl, this.1, fun _ => this.2, fun h => absurd h c⟩
theorem pick_eq (l : List Int) (hl : okB l) (s : Int) (xs : List Int) (h0 : 0 ≤ s) (h1 : s ≤ 1000000000) (hx : 0 < xs.length) (hx1 : xs.length ≤ 1000) : ∃ v, spec_l1Pick.f l s xs = some (v, s + 1) ∧ v ∈ xs := by
  obtain ⟨v, hv, v0, v1, _⟩ := next_eq l hl s (xs.length : Int) h0 h1 (by omega)
  have v2 := v1 (by omega)
  unfold spec_l1Pick.f
  rw [hv, Option.bind_some, if_pos v0, if_pos v2]
  refine ⟨_, rfl, ?_⟩
  unfold rd
  have hi : v.toNat < xs.length := by omega
  simp [List.getD, hi]
theorem draw_eq (l : List Int) (hl : okB l) (s : Int) (h0 : 0 ≤ s) (h1 : s ≤ 900000000) : ∃ v, spec_l1Draw.f l s = some (v, s + 3) ∧ -1000000000 ≤ v ∧ v ≤ 1000000000 := by
  obtain ⟨a, ha, a0, a1, _⟩ := next_eq l hl s 20 h0 (by omega) (by omega)
  obtain ⟨b, hb, b0, b1, _⟩ := next_eq l hl (s + 1) 100 (by omega) (by omega) (by omega)
  have a2 := a1 (by omega)
  have b2 := b1 (by omega)
  obtain ⟨v, hv, hm⟩ := pick_eq l hl (s + 1 + 1) [wrap64 (a - 9), b, 0, (-1), 1000000000, (-1000000000), 99999] (by omega) (by omega) (by simp) (by simp)
  rw [wrap_id (x := a - 9) (by omega) (by omega)] at hv hm
  unfold spec_l1Draw.f
  rw [ha, Option.bind_some]
  simp only []
  rw [hb, Option.bind_some]
  simp only []
  rw [wrap_id (x := a - 9) (by omega) (by omega), hv, Option.bind_some]
  refine ⟨v, by rw [show s + 1 + 1 + 1 = s + 3 from by omega], ?_⟩
  simp only [List.mem_cons, List.not_mem_nil, or_false] at hm
  omega
theorem okB_of (l : List Int) (h : l.length ≤ 1048576) (hw : ∀ y ∈ l, (Lit.int .u8 y).wf = true) : okB l := by
  refine ⟨h, fun y hy => ?_⟩
  have := hw y hy
  simp [Lit.wf, IntKind.min, IntKind.max, IntKind.signed, IntKind.bits] at this
  exact this
end Go.Proofs.YteiokhfikbndbaaGreatDoor.A
