/- Proved: what the program's and the reference's functions of this claim come to: the same, part by part. Conditions: those in each head. -/
import Derived.Test.YteiokhfikbndbaaDoorPL
import Derived.Test.YteiokhfikbndbaaDoorR1
import Derived.Test.YteiokhfikbndbaaDoorR8
import Derived.Test.YteiokhfikbndbaaDoorR3
import Derived.Test.YteiokhfikbndbaaDoorR2
import Derived.Lib.ItoaNum
import Derived.Lib.ParseIntBTie
import Derived.Lib.AtoiTie
namespace Go.Proofs.YteiokhfikbndbaaDoor.R
open Go.RowKit Go.Proofs.YteiokhfikbndbaaDoorW.PrintWords Go.Proofs.YteiokhfikbndbaaDoorW.PrintLast Go.Proofs.YteiokhfikbndbaaDoor.PL
set_option linter.unusedSimpArgs false
def inB (a lo hi : Int) : Bool := decide (lo ≤ a) && decide (a ≤ hi)
theorem inB_iff {a lo hi : Int} : inB a lo hi = true ↔ lo ≤ a ∧ a ≤ hi := by simp [inB]
theorem in_eq (a lo hi : Int) : impl_in.f a lo hi = some (inB a lo hi) := by
  unfold impl_in.f inB
  by_cases h : lo ≤ a <;> simp [h]
theorem l1In_eq (a lo hi : Int) : spec_l1In.f a lo hi = some (inB a lo hi) := by
  unfold spec_l1In.f inB
  by_cases h : lo ≤ a <;> simp [h]
def numB (n : Int) : Bool := inB n (-1000000000) 1000000000
def numM (n : Int) : Int := if numB n = true then 0 else 3
theorem numB_iff {n : Int} : numB n = true ↔ -1000000000 ≤ n ∧ n ≤ 1000000000 := inB_iff
theorem numM_0 {n : Int} : numM n = 0 ↔ numB n = true := by unfold numM; split <;> simp_all
theorem NumFault_eq (n : Int) : impl_NumFault.f n = some (numM n) := by
  unfold impl_NumFault.f numM numB
  rw [in_eq, Option.bind_some]
  split <;> rfl
theorem l1Num_eq (n : Int) : spec_l1Num.f n = some (numB n) := by
  unfold spec_l1Num.f numB
  rw [l1In_eq, Option.bind_some]
def symC : List UInt8 := [97, 98, 99, 100, 101, 102, 103, 104, 105, 106, 107, 108, 109, 110, 111, 112, 113, 114, 115, 116, 117, 118, 119, 120, 121, 122, 43, 45, 42, 47, 60, 61, 63, 33]
theorem l2Byte_12 : ∀ n : Fin 256, spec_l2Byte.f 12 (n.val : Int) = some (symC.contains (UInt8.ofNat n.val)) := by decide +kernel
theorem l2Byte_ev (c : UInt8) : Ev (fun k => spec_l2Byte.f k (c.toNat : Int)) (symC.contains c) := by
  refine Ev.of (fun k => spec_l2Byte.mono _ k) (k := 12) ?_
  have h := l2Byte_12 ⟨c.toNat, c.toNat_lt⟩
  rw [UInt8.ofNat_toNat] at h
  exact h
def symB (s : ByteArray) : Bool := s.data.toList.all (symC.contains ·) && inB s.size 1 12
theorem runU_all (l : List UInt8) (e : Bool) : ∀ d i, i + d = l.length → runU (fun i => if symC.contains (l[i]?.getD 0) then none else some false) e d i = ((l.drop i).all (symC.contains ·) && e)
  | 0, i, h => by rw [List.drop_of_length_le (by omega)]; rfl
  | d + 1, i, h => by
    have hi : i < l.length := by omega
    rw [List.drop_eq_getElem_cons hi]
    simp only [runU, List.all_cons, List.getElem?_eq_getElem hi, Option.getD_some]
    by_cases c : symC.contains l[i] = true
    · rw [if_pos c, c, Bool.true_and]
      exact runU_all l e d (i + 1) (by omega)
    · rw [if_neg c]
      simp only [Bool.not_eq_true] at c
      rw [c]
      rfl
theorem l2Sym_ev (s : ByteArray) (hs : s.size ≤ 9223372036854775807) : Ev (fun k => spec_l2Sym.f k s) (symB s) := by
  refine Ev.congr (fun k => spec_l2Sym.f.eq_1 k _) ?_
  have h := loopU s.size (fun k i => spec_l2Sym.l0 k s i) (fun i => if symC.contains (s.data.toList[i]?.getD 0) then none else some false) (inB s.size 1 12) (fun i hi => by
    have hb := bt_data s i hi
    have hl : i < s.data.toList.length := by rw [data_length]; exact hi
    have hg := l2Byte_ev s.data.toList[i]
    rw [← hb] at hg
    rw [List.getElem?_eq_getElem hl, Option.getD_some]
    by_cases c : symC.contains s.data.toList[i] = true
    · rw [if_pos c]
      intro r hr
      refine Ev.step (fun k => spec_l2Sym.l0.eq_2 _ _ k) (Ev.ifp (by omega) (Ev.ifp (by omega) (Ev.bind hg (Ev.ifp c ?_))))
      rw [wrap_succ hi hs]
      exact hr
    · rw [if_neg c]
      exact Ev.step (fun k => spec_l2Sym.l0.eq_2 _ _ k) (Ev.ifp (by omega) (Ev.ifp (by omega) (Ev.bind hg (Ev.ifn c (Ev.now _))))))
    (Ev.step (fun k => spec_l2Sym.l0.eq_2 _ _ k) (Ev.ifn (by omega) (Ev.bind0 (l1In_eq _ _ _) (Ev.now _)))) s.size 0 (by omega)
  rw [runU_all _ _ s.size 0 (by rw [data_length]; omega), List.drop_zero] at h
  exact h
def symM (s : ByteArray) : Int := if symB s = true then 0 else 5
theorem dropWhile_nil {α : Type} (p : α → Bool) : ∀ l : List α, (l.dropWhile p = []) ↔ l.all p = true
  | [] => by simp
  | a :: l => by
    simp only [List.dropWhile_cons, List.all_cons]
    cases h : p a
    · simp
    · simpa using dropWhile_nil p l
theorem trimS_nil (l cs : List UInt8) : Lib.trimS l cs = [] ↔ l.all (cs.contains ·) = true := by
  unfold Lib.trimS Lib.trimLeftS
  rw [dropWhile_nil]
  unfold Lib.trimRightS
  constructor
  · intro h
    cases hd : l.reverse.dropWhile (cs.contains ·) with
    | nil =>
      have := (dropWhile_nil (cs.contains ·) l.reverse).mp hd
      simpa using this
    | cons a t =>
      exfalso
      rw [hd] at h
      have ha : cs.contains a = true := by
        have := List.all_eq_true.mp h a (by simp)
        exact this
      have hn : ¬ (cs.contains a = true) := by
        have := List.head?_dropWhile_not (cs.contains ·) l.reverse
        rw [hd] at this
        simpa using this
      exact hn ha
  · intro h
    have : l.reverse.all (cs.contains ·) = true := by simpa using h
    rw [(dropWhile_nil _ _).mpr this]
    rfl
theorem toList_mk (l : List UInt8) : ByteArray.toList ⟨l.toArray⟩ = l := by rw [ByteArray.toList_eq]
theorem SymFault_eq (s : ByteArray) (hs : s.size ≤ 9223372036854775807) : impl_SymFault.f s = some (symM s) := by
  unfold impl_SymFault.f
  rw [in_eq, Option.bind_some]
  unfold symM symB
  by_cases c : inB s.size 1 12 = true
  · rw [if_pos c, c, Bool.and_true]
    have ht : strings_Trim.f s (⟨#[97, 98, 99, 100, 101, 102, 103, 104, 105, 106, 107, 108, 109, 110, 111, 112, 113, 114, 115, 116, 117, 118, 119, 120, 121, 122, 43, 45, 42, 47, 60, 61, 63, 33]⟩ : ByteArray) = some ⟨(Lib.trimS s.data.toList symC).toArray⟩ := by
      unfold strings_Trim.f
      rw [if_pos ⟨hs, by decide, by decide⟩]
      rfl
    rw [ht, Option.bind_some, toList_mk]
    by_cases d : s.data.toList.all (symC.contains ·) = true
    · rw [if_pos ((trimS_nil _ _).mpr d), if_pos d]
    · rw [if_neg (fun h => d ((trimS_nil _ _).mp h)), if_neg d]
  · rw [if_neg c]
    rw [if_neg (by simp [c])]
def dig (n : Int) : ByteArray := ⟨(Lib.itoa n).toArray⟩
theorem dec_eq {n : Int} (h : numB n = true) : impl_dec.f n = some (dig n) := by
  have h2 := numB_iff.mp h
  unfold impl_dec.f strconv_FormatInt.f
  rw [if_pos ⟨by omega, by omega, rfl⟩, Option.bind_some]
  rfl
theorem decDigits_len : ∀ (m u : Nat), u ≤ m → (Lib.decDigits u).length ≤ u + 1
  | 0, u, h => by
    rw [Lib.decDigits]
    rw [dif_pos (by omega)]
    simp
  | m + 1, u, h => by
    rw [Lib.decDigits]
    by_cases c : u < 10
    · rw [dif_pos c]; simp
    · rw [dif_neg c, List.length_append]
      have := decDigits_len m (u / 10) (by omega)
      simp
      omega
theorem ba_append (a b : List UInt8) : (⟨a.toArray⟩ : ByteArray) ++ ⟨b.toArray⟩ = ⟨(a ++ b).toArray⟩ := by
  rw [ByteArray.ext_iff]
  simp [ByteArray.data_append]
theorem one_num (u : Nat) (h : u < 10) : strOfNums [wrap64 (48 + (u : Int)) % 256] = ⟨[UInt8.ofNat (48 + u)].toArray⟩ := by
  rw [wrap_id (by omega) (by omega)]
  have e : (48 + (u : Int)) % 256 = ((48 + u : Nat) : Int) := by omega
  rw [e]
  rfl
theorem digits_nat : ∀ (m u : Nat), u ≤ m → u ≤ 9223372036854775807 → Ev (fun k => spec_l1Digits.f k (u : Int)) ⟨(Lib.decDigits u).toArray⟩
  | m, u, h, hu => by
    rw [Lib.decDigits]
    by_cases c : u < 10
    · rw [dif_pos c]
      refine Ev.step (fun k => spec_l1Digits.f.eq_2 _ k) (Ev.ifn (by omega) (Ev.ifp (by omega) (Ev.leaf (one_num u c))))
    · rw [dif_neg c]
      cases m with
      | zero => omega
      | succ m =>
        have ih := digits_nat m (u / 10) (by omega) (by omega)
        have hl := decDigits_len (u / 10) (u / 10) (Nat.le_refl _)
        have hq : wrap64 (Int.tdiv (u : Int) 10) = ((u / 10 : Nat) : Int) := by
          rw [Int.tdiv_eq_ediv_of_nonneg (by omega), wrap_id (by omega) (by omega)]
          omega
        have hr : Int.tmod (u : Int) 10 = ((u % 10 : Nat) : Int) := by
          rw [Int.tmod_eq_emod_of_nonneg (by omega)]
          omega
        refine Ev.step (fun k => spec_l1Digits.f.eq_2 _ k) (Ev.ifn (by omega) (Ev.ifn (by omega) ?_))
        rw [hq, hr]
        refine Ev.bind ih (Ev.bind0 rfl ?_)
        rw [one_num (u % 10) (by omega)]
        refine Ev.ifp ?_ (Ev.leaf (ba_append _ _))
        have e1 : (⟨(Lib.decDigits (u / 10)).toArray⟩ : ByteArray).size = (Lib.decDigits (u / 10)).length := by simp [ByteArray.size]
        have e2 : (⟨[UInt8.ofNat (48 + u % 10)].toArray⟩ : ByteArray).size = 1 := by simp [ByteArray.size]
        omega
theorem digits_ev {n : Int} (h : numB n = true) : Ev (fun k => spec_l1Digits.f k n) (dig n) := by
  have h2 := numB_iff.mp h
  unfold dig Lib.itoa
  by_cases c : n < 0
  · rw [if_pos c]
    have ih := digits_nat n.natAbs n.natAbs (Nat.le_refl _) (by omega)
    have hl := decDigits_len n.natAbs n.natAbs (Nat.le_refl _)
    refine Ev.step (fun k => spec_l1Digits.f.eq_2 _ k) (Ev.ifp c ?_)
    rw [wrap_id (x := -n) (by omega) (by omega), show -n = ((n.natAbs : Nat) : Int) from by omega]
    refine Ev.bind ih (Ev.ifp ?_ (Ev.leaf (ba_append [45] _)))
    have e1 : (⟨(Lib.decDigits n.natAbs).toArray⟩ : ByteArray).size = (Lib.decDigits n.natAbs).length := by simp [ByteArray.size]
    omega
  · rw [if_neg c]
    have ih := digits_nat n.toNat n.toNat (Nat.le_refl _) (by omega)
    rw [show ((n.toNat : Nat) : Int) = n from by omega] at ih
    exact ih
theorem ba_size (l : List UInt8) : (⟨l.toArray⟩ : ByteArray).size = l.length := by simp [ByteArray.size]
theorem digit_val (d : Nat) (h : d < 10) : Lib.digitVal (UInt8.ofNat (48 + d)) = some d := by
  have e : (UInt8.ofNat (48 + d)).toNat = 48 + d := by simp; omega
  unfold Lib.digitVal
  rw [e, if_pos (by omega)]
  congr 1
  omega
theorem decFrom_digits : ∀ (m u : Nat), u ≤ m → Lib.decFrom 0 (Lib.decDigits u) = some u
  | m, u, h => by
    rw [Lib.decDigits]
    by_cases c : u < 10
    · rw [dif_pos c]
      simp only [Lib.decFrom, digit_val u c]
      simp
    · rw [dif_neg c]
      cases m with
      | zero => omega
      | succ m =>
        have ih := decFrom_digits m (u / 10) (by omega)
        have ht := Lib.decFrom_take (Lib.decDigits (u / 10) ++ [UInt8.ofNat (48 + u % 10)]) (Lib.decDigits (u / 10)).length 0 (u / 10) (UInt8.ofNat (48 + u % 10)) (u % 10) (by rw [List.take_left]; exact ih) (by simp) (digit_val _ (by omega))
        rw [List.take_of_length_le (by simp)] at ht
        rw [ht]
        congr 1
        omega
theorem digits_byte : ∀ (m u : Nat), u ≤ m → ∀ b ∈ Lib.decDigits u, 48 ≤ b.toNat ∧ b.toNat ≤ 57
  | m, u, h, b, hb => by
    rw [Lib.decDigits] at hb
    have one : ∀ d, d < 10 → b = UInt8.ofNat (48 + d) → 48 ≤ b.toNat ∧ b.toNat ≤ 57 := by
      intro d hd e
      subst e
      have : (UInt8.ofNat (48 + d)).toNat = 48 + d := by simp; omega
      omega
    by_cases c : u < 10
    · rw [dif_pos c, List.mem_singleton] at hb
      exact one u c hb
    · rw [dif_neg c] at hb
      cases m with
      | zero => omega
      | succ m =>
        rcases List.mem_append.mp hb with h1 | h1
        · exact digits_byte m (u / 10) (by omega) b h1
        · exact one (u % 10) (by omega) (List.mem_singleton.mp h1)
theorem digits_ne (u : Nat) : Lib.decDigits u ≠ [] := by
  rw [Lib.decDigits]
  split <;> simp
theorem digits_len : ∀ (k u : Nat), u < 10 ^ (k + 1) → (Lib.decDigits u).length ≤ k + 1
  | k, u, h => by
    rw [Lib.decDigits]
    by_cases c : u < 10
    · rw [dif_pos c]; simp
    · rw [dif_neg c]
      cases k with
      | zero => omega
      | succ k =>
        have := digits_len k (u / 10) (by rw [Nat.pow_succ] at h; omega)
        simp
        omega
theorem decNat_digits (u : Nat) : Lib.decNat (Lib.decDigits u) = some u := by
  unfold Lib.decNat
  rw [if_neg (by have := digits_ne u; simp [this])]
  exact decFrom_digits u u (Nat.le_refl _)
theorem parse_itoa {n : Int} (h : numB n = true) : Lib.parseIntB 64 (Lib.itoa n) = .ok n := by
  have h2 := numB_iff.mp h
  have hl : (Lib.decDigits n.natAbs).length ≤ 10 := digits_len 9 n.natAbs (by simp; omega)
  rw [Lib.parseIntB_64]
  unfold Lib.itoa
  by_cases c : n < 0
  · rw [if_pos c, Lib.atoiAll_short _ (by simp; omega)]
    have : Lib.atoi (45 :: Lib.decDigits n.natAbs) = some (-(n.natAbs : Int)) := by
      simp [Lib.atoi, decNat_digits]
    rw [this]
    show Lib.NumEnd.ok _ = _
    congr 1
    omega
  · rw [if_neg c]
    have e : n.toNat = n.natAbs := by omega
    rw [e, Lib.atoiAll_short _ (by omega)]
    have : Lib.atoi (Lib.decDigits n.natAbs) = some (n.natAbs : Int) := by
      have hb := digits_byte n.natAbs n.natAbs (Nat.le_refl _)
      have hn := decNat_digits n.natAbs
      cases hd : Lib.decDigits n.natAbs with
      | nil => exact absurd hd (digits_ne _)
      | cons b r =>
        rw [hd] at hb hn
        have h1 := hb b (by simp)
        have h3 : (b == 45) = false := by
          apply beq_eq_false_iff_ne.mpr
          rintro rfl
          exact absurd h1.1 (by decide)
        have h4 : (b == 43) = false := by
          apply beq_eq_false_iff_ne.mpr
          rintro rfl
          exact absurd h1.1 (by decide)
        simp [Lib.atoi, h3, h4, hn]
    rw [this]
    show Lib.NumEnd.ok _ = _
    congr 1
    omega
theorem dig_list (n : Int) : (dig n).data.toList = Lib.itoa n := by simp [dig]
theorem bytes_eqP {a b : ByteArray} (h : a.toList = b.toList) : a = b := by
  rw [ByteArray.toList_eq, ByteArray.toList_eq] at h
  exact Go.WideShapes.bytes_inj h
def finV (f : Int) (m : Nat) : Int := if f = 1 then -(m : Int) else m
def finM (t : ByteArray) (f : Int) (m : Nat) : Int × Bool := (finV f m, if numB (finV f m) = true then ((dig (finV f m)).toList == t.toList) else false)
theorem parse_loop (t : ByteArray) (ht : t.size ≤ 1048576) (f : Int) : ∀ (d i e n : Nat), i + d = t.size → e + d ≤ 10 → n < 10 ^ e → Ev (fun k => spec_l1Parse.l0 k t f (n : Int) (i : Int)) (match Lib.decFrom n (t.data.toList.drop i) with | some m => finM t f m | none => (0, false))
  | 0, i, e, n, hd, he, hn => by
    have hl : t.data.toList.drop i = [] := List.drop_eq_nil_of_le (by rw [data_length]; omega)
    rw [hl]
    have h10 : (10 : Nat) ^ e ≤ 10 ^ 10 := Nat.pow_le_pow_right (by omega) (by omega)
    have hn2 : n < 10000000000 := by
      have : (10 : Nat) ^ 10 = 10000000000 := by decide
      omega
    simp only [Lib.decFrom]
    refine Ev.step (fun k => spec_l1Parse.l0.eq_2 _ _ _ _ k) (Ev.ifn (by omega) (Ev.iff (fun c => ?_) (fun c => ?_)))
    · rw [wrap_id (x := -(n : Int)) (by omega) (by omega)]
      have hv : finV f n = -(n : Int) := by unfold finV; rw [if_pos c]
      unfold finM
      rw [hv]
      refine Ev.bind0 (l1Num_eq _) (Ev.iff (fun z => Ev.bind (digits_ev z) (Ev.leaf ?_)) (fun z => Ev.leaf ?_))
      · rw [if_pos z]
      · rw [if_neg z]
    · have hv : finV f n = (n : Int) := by unfold finV; rw [if_neg c]
      unfold finM
      rw [hv]
      refine Ev.bind0 (l1Num_eq _) (Ev.iff (fun z => Ev.bind (digits_ev z) (Ev.leaf ?_)) (fun z => Ev.leaf ?_))
      · rw [if_pos z]
      · rw [if_neg z]
  | d + 1, i, e, n, hd, he, hn => by
    have hi : i < t.size := by omega
    have hi' : i < t.data.toList.length := by rw [data_length]; exact hi
    have hb := bt_data t i hi
    have h10 : (10 : Nat) ^ e ≤ 10 ^ 9 := Nat.pow_le_pow_right (by omega) (by omega)
    have hn2 : n < 1000000000 := by
      have : (10 : Nat) ^ 9 = 1000000000 := by decide
      omega
    rw [List.drop_eq_getElem_cons hi']
    generalize hB : t.data.toList[i] = b at hb
    have hb2 : b.toNat < 256 := b.toNat_lt
    simp only [Lib.decFrom, Lib.digitVal]
    refine Ev.step (fun k => spec_l1Parse.l0.eq_2 _ _ _ _ k) (Ev.ifp (by omega) (Ev.ifp (by omega) (Ev.iff (fun c => Ev.leaf ?_) (fun c => Ev.iff (fun c2 => Ev.leaf ?_) (fun c2 => ?_)))))
    · rw [if_neg (by omega)]
    · rw [if_neg (by omega)]
    · rw [if_pos (show 48 ≤ b.toNat ∧ b.toNat ≤ 57 by omega), hb]
      have e1 : wrap64 (wrap64 ((n : Int) * 10) + ((b.toNat : Int) - 48) % 256) = ((n * 10 + (b.toNat - 48) : Nat) : Int) := by
        rw [wrap_id (x := (n : Int) * 10) (by omega) (by omega), wrap_id (by omega) (by omega)]
        omega
      rw [e1, wrap_succ hi (by omega)]
      exact parse_loop t ht f d (i + 1) (e + 1) _ (by omega) (by omega) (by rw [Nat.pow_succ]; omega)
theorem fin_true {t : ByteArray} {f : Int} {m : Nat} (h : (finM t f m).2 = true) : numB (finM t f m).1 = true ∧ t = dig (finM t f m).1 := by
  unfold finM at h ⊢
  simp only [] at h ⊢
  split at h
  · rename_i c
    exact ⟨c, (bytes_eqP (beq_iff_eq.mp h)).symm⟩
  · cases h
theorem fin_of {n : Int} (hn : numB n = true) {f : Int} {m : Nat} (h : finV f m = n) : finM (dig n) f m = (n, true) := by
  unfold finM
  rw [h, if_pos hn]
  simp
theorem parse_from (t : ByteArray) (ht : t.size ≤ 1048576) (f : Nat) (hf : f ≤ 1) (hs : f ≤ t.size) : Ev (fun k => spec_l1Parse.j1 k t (f : Int)) (if 1 ≤ t.size - f ∧ t.size - f ≤ 10 then (match Lib.decFrom 0 (t.data.toList.drop f) with | some m => finM t (f : Int) m | none => (0, false)) else (0, false)) := by
  have hw : wrap64 ((t.size : Int) - (f : Int)) = ((t.size - f : Nat) : Int) := by rw [wrap_id (by omega) (by omega)]; omega
  refine Ev.step (fun k => spec_l1Parse.j1.eq_2 _ _ k) ?_
  rw [hw]
  refine Ev.iff (fun c => Ev.step (fun k => spec_l1Parse.j2.eq_2 _ _ _ k) (Ev.ifp rfl (Ev.leaf ?_))) (fun c => Ev.step (fun k => spec_l1Parse.j2.eq_2 _ _ _ k) (Ev.iff (fun c2 => Ev.leaf ?_) (fun c2 => ?_)))
  · rw [if_neg (by omega)]
  · have c3 := of_decide_eq_true c2
    rw [if_neg (by omega)]
  · have c3 := of_decide_eq_false (by simpa using c2 : decide (((t.size - f : Nat) : Int) > 10) = false)
    rw [if_pos (by omega)]
    exact parse_loop t ht f (t.size - f) f 0 0 (by omega) (by omega) (by decide)
theorem specParse_ev (t : ByteArray) (ht : t.size ≤ 1048576) : ∃ v b, Ev (fun k => spec_l1Parse.f k t) (v, b) ∧ (b = true → numB v = true ∧ t = dig v) ∧ ∀ n, numB n = true → t = dig n → (v, b) = (n, true) := by
  have hsz : t.data.toList.length = t.size := data_length t
  have key : ∀ f : Nat, f ≤ 1 → f ≤ t.size → (∀ n, numB n = true → t = dig n → 1 ≤ t.size - f ∧ t.size - f ≤ 10 ∧ ∃ m, Lib.decFrom 0 (t.data.toList.drop f) = some m ∧ finV (f : Int) m = n) → ∃ v b, Ev (fun k => spec_l1Parse.j1 k t (f : Int)) (v, b) ∧ (b = true → numB v = true ∧ t = dig v) ∧ ∀ n, numB n = true → t = dig n → (v, b) = (n, true) := by
    intro f hf hs hk
    have h := parse_from t ht f hf hs
    by_cases c : 1 ≤ t.size - f ∧ t.size - f ≤ 10
    · rw [if_pos c] at h
      cases hd : Lib.decFrom 0 (t.data.toList.drop f) with
      | none =>
        rw [hd] at h
        refine ⟨0, false, h, fun z => absurd z (by simp), fun n hn e => ?_⟩
        obtain ⟨_, _, m, hm, _⟩ := hk n hn e
        rw [hd] at hm
        cases hm
      | some m =>
        rw [hd] at h
        refine ⟨(finM t f m).1, (finM t f m).2, h, fun z => fin_true z, fun n hn e => ?_⟩
        obtain ⟨_, _, m', hm, hv⟩ := hk n hn e
        rw [hd] at hm
        obtain rfl := Option.some.inj hm
        subst e
        exact fin_of hn hv
    · rw [if_neg c] at h
      refine ⟨0, false, h, fun z => absurd z (by simp), fun n hn e => ?_⟩
      obtain ⟨c1, c2, _⟩ := hk n hn e
      exact absurd ⟨c1, c2⟩ c
  have hdl : ∀ n, numB n = true → t = dig n → t.data.toList = Lib.itoa n := fun n _ e => by rw [e, dig_list]
  have hlen : ∀ n, numB n = true → (Lib.decDigits n.natAbs).length ≤ 10 := fun n hn => by
    have h2 := numB_iff.mp hn
    exact digits_len 9 n.natAbs (by simp; omega)
  have hpos : ∀ u, 1 ≤ (Lib.decDigits u).length := fun u => by
    have := digits_ne u
    cases h : Lib.decDigits u with
    | nil => exact absurd h this
    | cons a r => simp
  -- a text whose first byte is '-', or another
  have neg1 : ∀ n, numB n = true → t = dig n → ∀ (h0 : 0 < t.size), bt t 0 = 45 → n < 0 := by
    intro n hn e h0 hb
    have hl := hdl n hn e
    have hb' := bt_data t 0 h0
    have hb2 : bt t 0 = ((t.data.toList[0]'(by omega)).toNat : Int) := hb'
    rw [hb] at hb2
    by_cases c : n < 0
    · exact c
    · exfalso
      have hi : Lib.itoa n = Lib.decDigits n.toNat := by unfold Lib.itoa; rw [if_neg c]
      rw [hi] at hl
      have hm : t.data.toList[0]'(by omega) ∈ Lib.decDigits n.toNat := by rw [← hl]; exact List.getElem_mem _
      have := digits_byte n.toNat n.toNat (Nat.le_refl _) _ hm
      omega
  have pos1 : ∀ n, numB n = true → t = dig n → ¬ (0 < t.size ∧ bt t 0 = 45) → ¬ n < 0 := by
    intro n hn e hb c
    have hl := hdl n hn e
    have hi : Lib.itoa n = 45 :: Lib.decDigits n.natAbs := by unfold Lib.itoa; rw [if_pos c]
    rw [hi] at hl
    have h0 : 0 < t.size := by rw [← hsz, hl]; simp
    refine hb ⟨h0, ?_⟩
    have hb' := bt_data t 0 h0
    have hb2 : bt t 0 = ((t.data.toList[0]'(by omega)).toNat : Int) := hb'
    rw [hb2]
    have : t.data.toList[0]'(by omega) = 45 := by simp [hl]
    rw [this]
    rfl
  have minus : 0 < t.size → bt t 0 = 45 → ∃ v b, Ev (fun k => spec_l1Parse.j1 k t 1) (v, b) ∧ (b = true → numB v = true ∧ t = dig v) ∧ ∀ n, numB n = true → t = dig n → (v, b) = (n, true) := by
    intro h0 hb
    refine key 1 (by omega) h0 (fun n hn e => ?_)
    have c := neg1 n hn e h0 hb
    have hl := hdl n hn e
    have hi : Lib.itoa n = 45 :: Lib.decDigits n.natAbs := by unfold Lib.itoa; rw [if_pos c]
    rw [hi] at hl
    have hs : t.size = (Lib.decDigits n.natAbs).length + 1 := by rw [← hsz, hl]; simp
    have h1 := hlen n hn
    have h2 := hpos n.natAbs
    refine ⟨by omega, by omega, n.natAbs, ?_, ?_⟩
    · rw [hl]
      exact decFrom_digits _ _ (Nat.le_refl _)
    · unfold finV; rw [if_pos (show ((1 : Nat) : Int) = 1 from rfl)]; omega
  have plus : ¬ (0 < t.size ∧ bt t 0 = 45) → ∃ v b, Ev (fun k => spec_l1Parse.j1 k t 0) (v, b) ∧ (b = true → numB v = true ∧ t = dig v) ∧ ∀ n, numB n = true → t = dig n → (v, b) = (n, true) := by
    intro hb
    refine key 0 (by omega) (by omega) (fun n hn e => ?_)
    have c := pos1 n hn e hb
    have hl := hdl n hn e
    have hi : Lib.itoa n = Lib.decDigits n.natAbs := by unfold Lib.itoa; rw [if_neg c, show n.toNat = n.natAbs from by omega]
    rw [hi] at hl
    have hs : t.size = (Lib.decDigits n.natAbs).length := by rw [← hsz, hl]
    have h1 := hlen n hn
    have h2 := hpos n.natAbs
    refine ⟨by omega, by omega, n.natAbs, ?_, ?_⟩
    · rw [hl]
      exact decFrom_digits _ _ (Nat.le_refl _)
    · unfold finV; rw [if_neg (by omega)]; omega
  by_cases h0 : 0 < t.size
  · by_cases hb : bt t 0 = 45
    · obtain ⟨v, b, h, r⟩ := minus h0 hb
      refine ⟨v, b, Ev.congr (fun k => spec_l1Parse.f.eq_1 k _) (Ev.ifp (by omega) (Ev.ifp (by omega) (Ev.step (fun k => spec_l1Parse.j0.eq_2 _ _ _ k) (Ev.ifp (by rw [hb]; rfl) h)))), r⟩
    · obtain ⟨v, b, h, r⟩ := plus (fun z => hb z.2)
      refine ⟨v, b, Ev.congr (fun k => spec_l1Parse.f.eq_1 k _) (Ev.ifp (by omega) (Ev.ifp (by omega) (Ev.step (fun k => spec_l1Parse.j0.eq_2 _ _ _ k) (Ev.ifn (by simpa using hb) h)))), r⟩
  · obtain ⟨v, b, h, r⟩ := plus (fun z => h0 z.1)
    exact ⟨v, b, Ev.congr (fun k => spec_l1Parse.f.eq_1 k _) (Ev.ifn (by omega) (Ev.step (fun k => spec_l1Parse.j0.eq_2 _ _ _ k) (Ev.ifn (by simp) h))), r⟩
def isDig (t : ByteArray) : Prop := ∃ n, numB n = true ∧ t = dig n
theorem implParseNum_eq (t : ByteArray) (ht : t.size ≤ 1048576) : (∀ n, numB n = true → t = dig n → impl_ParseNum.f t = some (0, n)) ∧ (¬ isDig t → impl_ParseNum.f t = some (5, 0)) := by
  have h0 : t.size ≤ 281474976710656 ∧ (10 : Int) = 10 ∧ (64 : Int) = 64 := ⟨by omega, rfl, rfl⟩
  constructor
  · intro n hn e
    have hp : Lib.parseIntB 64 t.data.toList = .ok n := by rw [e, dig_list]; exact parse_itoa hn
    unfold impl_ParseNum.f strconv_ParseInt.f
    rw [if_pos h0, hp]
    simp only [Option.bind_some]
    rw [if_pos (show (none : Option Int).isNone = true from rfl), NumFault_eq, Option.bind_some, if_pos (numM_0.mpr hn), dec_eq hn, Option.bind_some, if_pos (by rw [e])]
  · intro hn
    unfold impl_ParseNum.f strconv_ParseInt.f
    rw [if_pos h0]
    cases hp : Lib.parseIntB 64 t.data.toList with
    | ok v =>
      simp only [Option.bind_some]
      rw [if_pos (show (none : Option Int).isNone = true from rfl), NumFault_eq, Option.bind_some]
      by_cases c : numM v = 0
      · rw [if_pos c, dec_eq (numM_0.mp c), Option.bind_some, if_neg (fun z => hn ⟨v, numM_0.mp c, (bytes_eqP z).symm⟩)]
      · rw [if_neg c]
    | «syntax» => simp
    | range => simp
end Go.Proofs.YteiokhfikbndbaaDoor.R
