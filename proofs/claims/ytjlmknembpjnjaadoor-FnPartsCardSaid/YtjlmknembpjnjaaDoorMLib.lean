/- Proved: what the program's and the reference's functions of this claim come to: the same, part by part. Conditions: those in each head. -/
import Derived.Test.YtjlmknembpjnjaaDoorPL
import Derived.Test.YtjlmknembpjnjaaDoorA5
import Derived.Test.YtjlmknembpjnjaaDoorA3
import Derived.Test.YtjlmknembpjnjaaDoorA6
import Derived.Test.YtjlmknembpjnjaaDoorA7
import Derived.Test.YtjlmknembpjnjaaDoorA4
import Derived.Test.YtjlmknembpjnjaaDoorA8
import Derived.Test.YtjlmknembpjnjaaDoorA10
import Derived.Test.YtjlmknembpjnjaaDoorA9
import Derived.Lib.ItoaNum
import Derived.Lib.Join
import Derived.Test.YtjlmknembpjnjaaDoorA2
namespace Go.Proofs.YtjlmknembpjnjaaDoor.PL
open Go.RowKit Go.Proofs.YtjlmknembpjnjaaDoorW.PrintWords
def allB (P : Nat → Bool) (n : Nat) : Bool := runU (fun i => if P i = true then none else some false) true n 0
theorem cmp_ev (n : Nat) (l : Nat → Int → Option Bool) (P : Nat → Bool)
    (hs : ∀ i, i < n → ∀ r, Ev (elimB (if P i = true then none else some false) (fun k => l k ((i + 1 : Nat) : Int))) r → Ev (fun k => l k (i : Int)) r)
    (he : Ev (fun k => l k (n : Int)) true) : Ev (fun k => l k 0) (allB P n) :=
  loopO n l (fun i => if P i = true then none else some false) true hs he n 0 (by omega)
theorem allB_true_of {P : Nat → Bool} : ∀ d i, (∀ j, i ≤ j → j < i + d → P j = true) → runU (fun i => if P i = true then none else some false) true d i = true
  | 0, _, _ => rfl
  | d + 1, i, h => by
    simp only [runU]
    rw [if_pos (h i (by omega) (by omega))]
    exact allB_true_of d (i + 1) (fun j h0 h1 => h j (by omega) (by omega))
theorem allB_true {P : Nat → Bool} {n : Nat} (h : ∀ j, j < n → P j = true) : allB P n = true := allB_true_of n 0 (fun j _ h1 => h j (by omega))
end Go.Proofs.YtjlmknembpjnjaaDoor.PL
namespace Go.Proofs.YtjlmknembpjnjaaDoor.A
open Go.RowKit Go.Proofs.YtjlmknembpjnjaaDoorW.PrintWords Go.Proofs.YtjlmknembpjnjaaDoorW.PrintLast Go.Proofs.YtjlmknembpjnjaaDoor.PL
set_option linter.unusedSimpArgs false
def inB (a lo hi : Int) : Bool := decide (lo ≤ a) && decide (a ≤ hi)
theorem inB_iff {a lo hi : Int} : inB a lo hi = true ↔ lo ≤ a ∧ a ≤ hi := by simp [inB]
theorem inB_f {a lo hi : Int} : inB a lo hi = false ↔ ¬ (lo ≤ a ∧ a ≤ hi) := by simp [inB]
theorem in_eq (a lo hi : Int) : impl_in.f a lo hi = some (inB a lo hi) := by
  unfold impl_in.f inB
  by_cases h : lo ≤ a <;> simp [h]
theorem l1In_eq (a lo hi : Int) : spec_l1In.f a lo hi = some (inB a lo hi) := by
  unfold spec_l1In.f inB
  by_cases h : lo ≤ a <;> simp [h]
def numB (n : Int) : Bool := inB n (-1000000000) 1000000000
def numM (n : Int) : Int := if numB n = true then 0 else 3
theorem numB_iff {n : Int} : numB n = true ↔ -1000000000 ≤ n ∧ n ≤ 1000000000 := inB_iff
theorem numM_0 {n : Int} : numM n = 0 ↔ numB n = true := by unfold numM; split <;> simp_all
theorem NumFault_eq (n : Int) : impl_NumFault.f n = some (numM n) := by
  unfold impl_NumFault.f numM numB
  rw [in_eq, Option.bind_some]
  split <;> rfl
theorem l1Num_eq (n : Int) : spec_l1Num.f n = some (numB n) := by
  unfold spec_l1Num.f numB
  rw [l1In_eq, Option.bind_some]
def symC : List UInt8 := [97, 98, 99, 100, 101, 102, 103, 104, 105, 106, 107, 108, 109, 110, 111, 112, 113, 114, 115, 116, 117, 118, 119, 120, 121, 122, 43, 45, 42, 47, 60, 61, 63, 33]
theorem l2Byte_12 : ∀ n : Fin 256, spec_l2Byte.f 12 (n.val : Int) = some (symC.contains (UInt8.ofNat n.val)) := by decide +kernel
theorem l2Byte_ev (c : UInt8) : Ev (fun k => spec_l2Byte.f k (c.toNat : Int)) (symC.contains c) := by
  refine Ev.of (fun k => spec_l2Byte.mono _ k) (k := 12) ?_
  have h := l2Byte_12 ⟨c.toNat, c.toNat_lt⟩
  rw [UInt8.ofNat_toNat] at h
  exact h
def symB (s : ByteArray) : Bool := s.data.toList.all (symC.contains ·) && inB s.size 1 12
theorem runU_all (l : List UInt8) (e : Bool) : ∀ d i, i + d = l.length → runU (fun i => if symC.contains (l[i]?.getD 0) then none else some false) e d i = ((l.drop i).all (symC.contains ·) && e)
  | 0, i, h => by rw [List.drop_of_length_le (by omega)]; rfl
  | d + 1, i, h => by
    have hi : i < l.length := by omega
    rw [List.drop_eq_getElem_cons hi]
    simp only [runU, List.all_cons, List.getElem?_eq_getElem hi, Option.getD_some]
    by_cases c : symC.contains l[i] = true
    · rw [if_pos c, c, Bool.true_and]
      exact runU_all l e d (i + 1) (by omega)
    · rw [if_neg c]
      simp only [Bool.not_eq_true] at c
      rw [c]
      rfl
theorem l2Sym_ev (s : ByteArray) (hs : s.size ≤ 9223372036854775807) : Ev (fun k => spec_l2Sym.f k s) (symB s) := by
  refine Ev.congr (fun k => spec_l2Sym.f.eq_1 k _) ?_
  have h := loopU s.size (fun k i => spec_l2Sym.l0 k s i) (fun i => if symC.contains (s.data.toList[i]?.getD 0) then none else some false) (inB s.size 1 12) (fun i hi => by
    have hb := bt_data s i hi
    have hl : i < s.data.toList.length := by rw [data_length]; exact hi
    have hg := l2Byte_ev s.data.toList[i]
    rw [← hb] at hg
    rw [List.getElem?_eq_getElem hl, Option.getD_some]
    by_cases c : symC.contains s.data.toList[i] = true
    · rw [if_pos c]
      intro r hr
      refine Ev.step (fun k => spec_l2Sym.l0.eq_2 _ _ k) (Ev.ifp (by omega) (Ev.ifp (by omega) (Ev.bind hg (Ev.ifp c ?_))))
      rw [wrap_succ hi hs]
      exact hr
    · rw [if_neg c]
      exact Ev.step (fun k => spec_l2Sym.l0.eq_2 _ _ k) (Ev.ifp (by omega) (Ev.ifp (by omega) (Ev.bind hg (Ev.ifn c (Ev.now _))))))
    (Ev.step (fun k => spec_l2Sym.l0.eq_2 _ _ k) (Ev.ifn (by omega) (Ev.bind0 (l1In_eq _ _ _) (Ev.now _)))) s.size 0 (by omega)
  rw [runU_all _ _ s.size 0 (by rw [data_length]; omega), List.drop_zero] at h
  exact h
def symM (s : ByteArray) : Int := if symB s = true then 0 else 5
theorem dropWhile_nil {α : Type} (p : α → Bool) : ∀ l : List α, (l.dropWhile p = []) ↔ l.all p = true
  | [] => by simp
  | a :: l => by
    simp only [List.dropWhile_cons, List.all_cons]
    cases h : p a
    · simp
    · simpa using dropWhile_nil p l
theorem trimS_nil (l cs : List UInt8) : Lib.trimS l cs = [] ↔ l.all (cs.contains ·) = true := by
  unfold Lib.trimS Lib.trimLeftS
  rw [dropWhile_nil]
  unfold Lib.trimRightS
  constructor
  · intro h
    cases hd : l.reverse.dropWhile (cs.contains ·) with
    | nil =>
      have := (dropWhile_nil (cs.contains ·) l.reverse).mp hd
      simpa using this
    | cons a t =>
      exfalso
      rw [hd] at h
      have ha : cs.contains a = true := by
        have := List.all_eq_true.mp h a (by simp)
        exact this
      have hn : ¬ (cs.contains a = true) := by
        have := List.head?_dropWhile_not (cs.contains ·) l.reverse
        rw [hd] at this
        simpa using this
      exact hn ha
  · intro h
    have : l.reverse.all (cs.contains ·) = true := by simpa using h
    rw [(dropWhile_nil _ _).mpr this]
    rfl
theorem toList_mk (l : List UInt8) : ByteArray.toList ⟨l.toArray⟩ = l := by rw [ByteArray.toList_eq]
theorem SymFault_eq (s : ByteArray) (hs : s.size ≤ 9223372036854775807) : impl_SymFault.f s = some (symM s) := by
  unfold impl_SymFault.f
  rw [in_eq, Option.bind_some]
  unfold symM symB
  by_cases c : inB s.size 1 12 = true
  · rw [if_pos c, c, Bool.and_true]
    have ht : strings_Trim.f s (⟨#[97, 98, 99, 100, 101, 102, 103, 104, 105, 106, 107, 108, 109, 110, 111, 112, 113, 114, 115, 116, 117, 118, 119, 120, 121, 122, 43, 45, 42, 47, 60, 61, 63, 33]⟩ : ByteArray) = some ⟨(Lib.trimS s.data.toList symC).toArray⟩ := by
      unfold strings_Trim.f
      rw [if_pos ⟨hs, by decide, by decide⟩]
      rfl
    rw [ht, Option.bind_some, toList_mk]
    by_cases d : s.data.toList.all (symC.contains ·) = true
    · rw [if_pos ((trimS_nil _ _).mpr d), if_pos d]
    · rw [if_neg (fun h => d ((trimS_nil _ _).mp h)), if_neg d]
  · rw [if_neg c]
    rw [if_neg (by simp [c])]
def kindM (K a1 a2 a3 N : Int) (s : ByteArray) : Int := if K = a1 then numM N else if K = a3 then (if inB N 0 1 = true then 0 else 3) else if K = a2 then symM s else 0
theorem kindFault_eq (K a1 a2 a3 N : Int) (s : ByteArray) (hs : s.size ≤ 9223372036854775807) : impl_kindFault.f K a1 a2 a3 N s = some (kindM K a1 a2 a3 N s) := by
  unfold impl_kindFault.f kindM
  by_cases h1 : K = a1
  · rw [if_pos h1, if_pos h1, NumFault_eq, Option.bind_some]
  · rw [if_neg h1, if_neg h1]
    by_cases h3 : K = a3
    · rw [if_pos h3, if_pos h3, in_eq, Option.bind_some]
      split <;> rfl
    · rw [if_neg h3, if_neg h3]
      by_cases h2 : K = a2
      · rw [if_pos h2, if_pos h2, SymFault_eq s hs, Option.bind_some]
      · rw [if_neg h2, if_neg h2]
theorem rdDf_at {xs : List S45} {i : Nat} (h : i < xs.length) : rd_T45 xs (i : Int) = xs[i] := by simp [rd_T45, h]
def parD (xs : List S45) (at_ : Int) : Int := (rd_T45 xs at_).f1
def kindD (xs : List S45) (at_ : Int) : Int := (rd_T45 xs at_).f0
def upB (xs : List S45) : Nat → Int → Int → Bool
  | 0, _, _ => false
  | d + 1, at_, to_ => if 0 ≤ at_ then (if at_ = to_ then true else upB xs d (parD xs at_) to_) else false
def deepN (xs : List S45) : Nat → Int → Int → Int
  | 0, _, c => c
  | d + 1, at_, c => if 0 ≤ at_ then deepN xs d (parD xs at_) (c + 1) else c
def Ahead (xs : List S45) (n : Nat) : Prop := ∀ j : Nat, j < n → parD xs j < j
theorem isUp_ev (xs : List S45) (to_ : Int) (n : Nat) (hn : n ≤ xs.length) (hA : Ahead xs n) : ∀ (d : Nat) (at_ : Int), at_ < d → at_ < n → Ev (fun k => impl_isUp__impl_datumFault_1.l0 k to_ at_ xs) (upB xs d at_ to_)
  | 0, at_, h0, h1 => Ev.step (fun k => impl_isUp__impl_datumFault_1.l0.eq_2 _ _ _ k) (Ev.ifn (by omega) (Ev.now _))
  | d + 1, at_, h0, h1 => by
    refine Ev.step (fun k => impl_isUp__impl_datumFault_1.l0.eq_2 _ _ _ k) (Ev.iff (fun c => Ev.iff (fun e => Ev.leaf (by simp only [upB]; rw [if_pos c, if_pos e])) (fun e => ?_)) (fun c => Ev.leaf (by simp only [upB]; rw [if_neg c])))
    have hp : parD xs at_ < at_ := by
      have := hA at_.toNat (by omega)
      rwa [Int.toNat_of_nonneg c] at this
    refine Ev.bind0 (a := parD xs at_) (by unfold impl_datumFault_1.f; rw [if_pos c, if_pos (by omega)]; rfl) ?_
    simp only [upB]
    rw [if_pos c, if_neg e]
    exact isUp_ev xs to_ n hn hA d _ (by omega) (by omega)
theorem l3Line_ev (xs : List S45) (i : Int) (hi0 : 0 ≤ i) (hi1 : i < xs.length) (n : Nat) (hn : n ≤ xs.length) (hA : Ahead xs n) : ∀ (d : Nat) (at_ : Int), at_ < d → at_ < n → Ev (fun k => spec_l3Line.l0 k xs i at_) (upB xs d at_ (parD xs i) && kindD xs (parD xs i) == 4)
  | 0, at_, h0, h1 => Ev.step (fun k => spec_l3Line.l0.eq_2 _ _ _ k) (Ev.ifn (by omega) (Ev.now _))
  | d + 1, at_, h0, h1 => by
    refine Ev.step (fun k => spec_l3Line.l0.eq_2 _ _ _ k) (Ev.iff (fun c => Ev.ifp hi0 (Ev.ifp hi1 (Ev.iff (fun e => Ev.ifp c (Ev.ifp (by omega) (Ev.leaf ?_))) (fun e => Ev.ifp c (Ev.ifp (by omega) ?_))))) (fun c => Ev.leaf (by simp only [upB]; rw [if_neg c]; rfl)))
    · have e' : at_ = parD xs i := e
      simp only [upB]
      rw [if_pos c, if_pos e', Bool.true_and, ← e']
      rfl
    · have hp : parD xs at_ < at_ := by
        have := hA at_.toNat (by omega)
        rwa [Int.toNat_of_nonneg c] at this
      have hp' : (rd_T45 xs at_).f1 < at_ := hp
      have e' : ¬ at_ = parD xs i := e
      simp only [upB]
      rw [if_pos c, if_neg e']
      exact l3Line_ev xs i hi0 hi1 n hn hA d _ (by omega) (by omega)
theorem deep_ev (xs : List S45) (n : Nat) (hn : n ≤ xs.length) (hA : Ahead xs n) : ∀ (d : Nat) (at_ c : Int), at_ < d → at_ < n → 0 ≤ c → c + at_ < 1000000 → Ev (fun k => impl_deep.l0 k xs at_ c) (deepN xs d at_ c)
  | 0, at_, c, h0, h1, h2, h3 => Ev.step (fun k => impl_deep.l0.eq_2 _ _ _ k) (Ev.ifn (by omega) (Ev.now _))
  | d + 1, at_, c, h0, h1, h2, h3 => by
    refine Ev.step (fun k => impl_deep.l0.eq_2 _ _ _ k) (Ev.iff (fun e => Ev.ifp e (Ev.ifp (by omega) ?_)) (fun e => Ev.leaf (by simp only [deepN]; rw [if_neg e])))
    have hp : parD xs at_ < at_ := by
      have := hA at_.toNat (by omega)
      rwa [Int.toNat_of_nonneg e] at this
    have hp' : (rd_T45 xs at_).f1 < at_ := hp
    rw [wrap_id (by omega) (by omega)]
    simp only [deepN]
    rw [if_pos e]
    exact deep_ev xs n hn hA d _ _ (by omega) (by omega) (by omega) (by omega)
theorem l3Deep_ev (xs : List S45) (n : Nat) (hn : n ≤ xs.length) (hA : Ahead xs n) : ∀ (d : Nat) (at_ c : Int), at_ < d → at_ < n → 0 ≤ c → c + at_ < 100 → Ev (fun k => spec_l3Deep.l0 k xs at_ c) (deepN xs d at_ c)
  | 0, at_, c, h0, h1, h2, h3 => Ev.step (fun k => spec_l3Deep.l0.eq_2 _ _ _ k) (Ev.ifn (by omega) (Ev.now _))
  | d + 1, at_, c, h0, h1, h2, h3 => by
    refine Ev.step (fun k => spec_l3Deep.l0.eq_2 _ _ _ k) (Ev.iff (fun e => Ev.ifp (by omega) (Ev.ifp e (Ev.ifp (by omega) ?_))) (fun e => Ev.leaf (by simp only [deepN]; rw [if_neg e])))
    have hp : parD xs at_ < at_ := by
      have := hA at_.toNat (by omega)
      rwa [Int.toNat_of_nonneg e] at this
    have hp' : (rd_T45 xs at_).f1 < at_ := hp
    rw [wrap_id (by omega) (by omega)]
    simp only [deepN]
    rw [if_pos e]
    exact l3Deep_ev xs n hn hA d _ _ (by omega) (by omega) (by omega) (by omega)
def bareB (K N : Int) (s : ByteArray) : Bool := inB K 1 4 && (N == 0 || K == 1 || K == 2) && (s.toList.isEmpty || K == 3)
def datStep (xs : List S45) (x : S45) (i : Nat) : Option Int :=
  if bareB x.f0 x.f2 x.f3 = true then (if kindM x.f0 1 3 2 x.f2 x.f3 = 0 then (if i = 0 then (if x.f1 = -1 then none else some 3) else (if inB x.f1 0 ((i : Int) - 1) = true then (if (upB xs i ((i : Int) - 1) x.f1 && kindD xs x.f1 == 4) = true then (if 12 < deepN xs (i + 1) i 0 then some 2 else none) else some 1) else some 3)) else some (kindM x.f0 1 3 2 x.f2 x.f3)) else some 1
def datAt (xs : List S45) (i : Nat) : Option Int := if h : i < xs.length then datStep xs xs[i] i else none
def dataM (xs : List S45) : Int := if inB xs.length 1 80 = true then runU (datAt xs) 0 xs.length 0 else 2
def okD (xs : List S45) : Prop := ∀ x ∈ xs, x.f3.size ≤ 9223372036854775807
theorem ahead_next {xs : List S45} {i : Nat} (hi : i < xs.length) (hA : Ahead xs i) (h : xs[i].f1 < i) : Ahead xs (i + 1) := by
  intro j hj
  by_cases e : j = i
  · subst e; unfold parD; rw [rdDf_at hi]; exact h
  · exact hA j (by omega)
theorem datAt_ahead {xs : List S45} {i : Nat} (hi : i < xs.length) (hA : Ahead xs i) (h : datAt xs i = none) : Ahead xs (i + 1) := by
  refine ahead_next hi hA ?_
  unfold datAt at h
  rw [dif_pos hi] at h
  unfold datStep at h
  repeat' split at h
  all_goals first | (cases h; done) | skip
  all_goals first | omega | (have z := inB_iff.mp (by assumption : inB _ 0 _ = true); omega)
theorem nb_t {x : Bool} (h : true = !x) : ¬ (x = true) := by cases x <;> simp_all
theorem kind_range (K N : Int) (s : ByteArray) (h : true = ((K == 1 && !numB N) || (K == 2 && !inB N 0 1))) : kindM K 1 3 2 N s = 3 := by
  unfold kindM numM
  by_cases z1 : K = 1
  · subst z1
    rw [if_pos rfl]
    cases hz : numB N
    · rfl
    · rw [hz] at h; simp at h
  · rw [if_neg z1]
    by_cases z2 : K = 2
    · subst z2
      rw [if_pos rfl]
      cases hz : inB N 0 1
      · rfl
      · rw [hz] at h; simp at h
    · simp [z1, z2] at h
theorem kind_plain (K N : Int) (s : ByteArray) (h : false = ((K == 1 && !numB N) || (K == 2 && !inB N 0 1))) : kindM K 1 3 2 N s = if K = 3 then symM s else 0 := by
  unfold kindM numM
  by_cases z1 : K = 1
  · subst z1
    rw [if_pos rfl]
    cases hz : numB N
    · rw [hz] at h; simp at h
    · simp
  · rw [if_neg z1]
    by_cases z2 : K = 2
    · subst z2
      rw [if_pos rfl]
      cases hz : inB N 0 1
      · rw [hz] at h; simp at h
      · simp
    · rw [if_neg z2]
theorem datumFault_step (xs : List S45) (hx : okD xs) (hl : xs.length ≤ 80) (i : Nat) (hi : i < xs.length) (hA : Ahead xs i) : Ev (fun k => impl_datumFault.f k xs (i : Int)) ((datAt xs i).getD 0) ∧ (datAt xs i ≠ some 0) := by
  have hm := hx xs[i] (List.getElem_mem hi)
  have e0 : datAt xs i = datStep xs xs[i] i := by unfold datAt; rw [dif_pos hi]
  have hk0 : ∀ v, kindM xs[i].f0 1 3 2 xs[i].f2 xs[i].f3 = v → v = 0 ∨ v ≠ 0 := fun v _ => by omega
  refine ⟨?_, by rw [e0]; unfold datStep; repeat' split
                 all_goals simp_all⟩
  rw [e0]
  have hj : ∀ (hb : bareB xs[i].f0 xs[i].f2 xs[i].f3 = true), Ev (fun k => impl_datumFault.j0 k (i : Int) xs xs[i].f0 xs[i].f1 xs[i].f2 xs[i].f3) ((datStep xs xs[i] i).getD 0) := fun hb => by
    refine Ev.step (fun k => impl_datumFault.j0.eq_2 _ _ _ _ _ _ k) (Ev.bind0 (kindFault_eq _ _ _ _ _ _ hm) (Ev.iff (fun c0 => ?_) (fun c0 => Ev.leaf (by unfold datStep; rw [if_pos hb, if_neg c0]; rfl))))
    refine Ev.iff (fun c1 => Ev.iff (fun c2 => Ev.leaf (by unfold datStep; rw [if_pos hb, if_pos c0, if_pos (by omega), if_pos c2]; rfl)) (fun c2 => Ev.leaf (by unfold datStep; rw [if_pos hb, if_pos c0, if_pos (by omega), if_neg c2]; rfl))) (fun c1 => ?_)
    rw [wrap_id (by omega) (by omega)]
    refine Ev.bind0 (in_eq _ _ _) (Ev.iff (fun c2 => ?_) (fun c2 => Ev.leaf (by unfold datStep; rw [if_pos hb, if_pos c0, if_neg (by omega), if_neg c2]; rfl)))
    have hp := inB_iff.mp c2
    have hup := isUp_ev xs xs[i].f1 i (by omega) hA i ((i : Int) - 1) (by omega) (by omega)
    have hj1 : ∀ b : Bool, b = !(upB xs i ((i : Int) - 1) xs[i].f1 && kindD xs xs[i].f1 == 4) → Ev (fun k => impl_datumFault.j1 k (i : Int) b xs) ((datStep xs xs[i] i).getD 0) := fun b hb1 => by
      have hA1 : Ahead xs (i + 1) := ahead_next hi hA (by omega)
      refine Ev.step (fun k => impl_datumFault.j1.eq_2 _ _ _ k) (Ev.iff (fun c => Ev.leaf ?_) (fun c => ?_))
      · have c' : ¬ ((upB xs i ((i : Int) - 1) xs[i].f1 && kindD xs xs[i].f1 == 4) = true) := by rw [c] at hb1; exact nb_t hb1
        unfold datStep; rw [if_pos hb, if_pos c0, if_neg (by omega), if_pos c2, if_neg c']; rfl
      · have c' : (upB xs i ((i : Int) - 1) xs[i].f1 && kindD xs xs[i].f1 == 4) = true := by
          simp only [Bool.not_eq_true] at c
          rw [c] at hb1
          cases hz : (upB xs i ((i : Int) - 1) xs[i].f1 && kindD xs xs[i].f1 == 4)
          · rw [hz] at hb1; cases hb1
          · rfl
        have hd := deep_ev xs (i + 1) (by omega) hA1 (i + 1) (i : Int) 0 (by omega) (by omega) (by omega) (by omega)
        refine Ev.bind (Ev.congr (fun k => impl_deep.f.eq_1 k _ _) hd) (Ev.iff (fun c3 => Ev.leaf ?_) (fun c3 => Ev.leaf ?_))
        · unfold datStep; rw [if_pos hb, if_pos c0, if_neg (by omega), if_pos c2, if_pos c', if_pos (by omega)]; rfl
        · unfold datStep; rw [if_pos hb, if_pos c0, if_neg (by omega), if_pos c2, if_pos c', if_neg (by omega)]; rfl
    refine Ev.ifp (by omega) (Ev.ifp (by omega) (Ev.iff (fun c3 => ?_) (fun c3 => ?_)))
    · refine Ev.bind (Ev.congr (fun k => impl_isUp__impl_datumFault_1.f.eq_1 k _ _ _) hup) (hj1 _ ?_)
      have c3' : kindD xs xs[i].f1 = 4 := c3
      simp [c3']
    · refine hj1 _ ?_
      have c3' : ¬ kindD xs xs[i].f1 = 4 := c3
      simp [c3']
  have h1 : bareB xs[i].f0 xs[i].f2 xs[i].f3 = false → some ((datStep xs xs[i] i).getD 0) = some (1 : Int) := fun hb => by
    unfold datStep; rw [if_neg (by rw [hb]; decide)]; rfl
  refine Ev.congr (fun k => impl_datumFault.f.eq_1 k _ _) (Ev.ifp (by omega) (Ev.ifp (by omega) ?_))
  rw [rdDf_at hi]
  refine Ev.bind0 (in_eq _ _ _) ?_
  have fin : ∀ b, b = bareB xs[i].f0 xs[i].f2 xs[i].f3 → b = true → Ev (fun k => impl_datumFault.j0 k (i : Int) xs xs[i].f0 xs[i].f1 xs[i].f2 xs[i].f3) ((datStep xs xs[i] i).getD 0) := fun b hb h => hj (by rw [← hb]; exact h)
  repeat' first
    | refine Ev.iff (fun _ => ?_) (fun _ => ?_)
    | refine hj ?_
    | refine Ev.leaf (Option.some.inj (h1 ?_).symm)
  all_goals clear hj h1 fin
  all_goals simp_all [bareB]
theorem implData_ev (xs : List S45) (hx : okD xs) : Ev (fun k => impl_DataFault.f k xs) (dataM xs) := by
  refine Ev.congr (fun k => impl_DataFault.f.eq_1 k _) (Ev.bind0 (in_eq _ _ _) (Ev.iff (fun h => ?_) (fun h => Ev.leaf (by unfold dataM; rw [if_neg h]))))
  have hh := inB_iff.mp h
  have hL := loopI xs.length (fun k i => impl_DataFault.l0 k xs (xs.length : Int) i) (datAt xs) 0 (Ahead xs) (fun i hi hA r hr => by
    obtain ⟨hd, hd0⟩ := datumFault_step xs hx (by omega) i hi hA
    refine Ev.step (fun k => impl_DataFault.l0.eq_2 _ _ _ k) (Ev.ifp (by omega) (Ev.bind hd ?_))
    cases hB : datAt xs i with
    | none => rw [wrap_succ hi (by omega)]; exact Ev.ifp rfl (Ev.go hr hB)
    | some v => exact Ev.ifn (fun hv => hd0 (by rw [hB]; exact congrArg some hv)) (Ev.stop hr (by rw [hB]; rfl)))
    (fun i hi hA hB => datAt_ahead hi hA hB)
    (fun _ => Ev.step (fun k => impl_DataFault.l0.eq_2 _ _ _ k) (Ev.ifn (by omega) (Ev.now _))) xs.length 0 (by omega) (fun j hj => by omega)
  unfold dataM
  rw [if_pos h]
  exact hL
theorem l3Bare_eq (K P N : Int) (s : ByteArray) : spec_l3Bare.f K P N s = some (bareB K N s) := by
  unfold spec_l3Bare.f bareB
  rw [l1In_eq]
  simp only [Option.bind_some]
  by_cases h1 : K = 1 <;> by_cases h2 : K = 2 <;> by_cases h3 : K = 3 <;> by_cases h4 : N = 0 <;> cases h5 : inB K 1 4 <;> simp_all [eq_nil_b]
theorem l3Fault_ev (xs : List S45) (hx : okD xs) : Ev (fun k => spec_l3Fault.f k xs) (dataM xs) := by
  have hL : inB xs.length 1 80 = true → Ev (fun k => spec_l3Fault.l0 k xs 0) (dataM xs) := fun h => by
    have hh := inB_iff.mp h
    have hL := loopI xs.length (fun k i => spec_l3Fault.l0 k xs i) (datAt xs) 0 (Ahead xs) (fun i hi hA r hr => by
      have hm := hx xs[i] (List.getElem_mem hi)
      have e0 : datAt xs i = datStep xs xs[i] i := by unfold datAt; rw [dif_pos hi]
      refine Ev.step (fun k => spec_l3Fault.l0.eq_2 _ _ k) (Ev.ifp (by omega) (Ev.ifp (by omega) ?_))
      rw [rdDf_at hi]
      refine Ev.bind0 (l3Bare_eq _ _ _ _) (Ev.iff (fun hb => ?_) (fun hb => Ev.stop hr (by rw [e0]; unfold datStep; rw [if_neg hb])))
      have j5 : kindM xs[i].f0 1 3 2 xs[i].f2 xs[i].f3 = 0 → (i = 0 → xs[i].f1 = -1) → (i ≠ 0 → inB xs[i].f1 0 ((i : Int) - 1) = true) → ∀ b : Bool, b = (decide (0 < i) && !(upB xs i ((i : Int) - 1) xs[i].f1 && kindD xs xs[i].f1 == 4)) → Ev (fun k => spec_l3Fault.j5 k xs (i : Int) b) r := fun c0 c1 c2 b hb5 => by
        have hA1 : Ahead xs (i + 1) := ahead_next hi hA (by
          by_cases z : i = 0
          · have := c1 z; omega
          · have := (inB_iff.mp (c2 z)).2; omega)
        refine Ev.step (fun k => spec_l3Fault.j5.eq_2 _ _ _ k) (Ev.iff (fun c => ?_) (fun c => ?_))
        · have hi0 : i ≠ 0 := fun z => by subst z; rw [c] at hb5; simp at hb5
          refine Ev.stop hr ?_
          have c' : ¬ ((upB xs i ((i : Int) - 1) xs[i].f1 && kindD xs xs[i].f1 == 4) = true) := by
            rw [c] at hb5
            intro z
            rw [z] at hb5
            simp at hb5
          rw [e0]; unfold datStep; rw [if_pos hb, if_pos c0, if_neg hi0, if_pos (c2 hi0), if_neg c']
        · have hd := l3Deep_ev xs (i + 1) (by omega) hA1 (i + 1) (i : Int) 0 (by omega) (by omega) (by omega) (by omega)
          refine Ev.bind (Ev.congr (fun k => spec_l3Deep.f.eq_1 k _ _) hd) ?_
          by_cases z : i = 0
          · have hd0 : deepN xs (i + 1) (i : Int) 0 = 1 := by
              subst z
              simp only [deepN]
              rw [if_pos (by omega)]
              rfl
            rw [hd0, wrap_succ hi (by omega)]
            refine Ev.ifn (by omega) (Ev.go hr ?_)
            rw [e0]; unfold datStep; rw [if_pos hb, if_pos c0, if_pos z, if_pos (c1 z)]
          · have c' : (upB xs i ((i : Int) - 1) xs[i].f1 && kindD xs xs[i].f1 == 4) = true := by
              simp only [Bool.not_eq_true] at c
              rw [c] at hb5
              have z' : decide (0 < i) = true := by simp; omega
              rw [z', Bool.true_and] at hb5
              cases hz : (upB xs i ((i : Int) - 1) xs[i].f1 && kindD xs xs[i].f1 == 4)
              · rw [hz] at hb5; cases hb5
              · rfl
            refine Ev.iff (fun c3 => Ev.stop hr ?_) (fun c3 => ?_)
            · rw [e0]; unfold datStep; rw [if_pos hb, if_pos c0, if_neg z, if_pos (c2 z), if_pos c', if_pos (by omega)]
            · rw [wrap_succ hi (by omega)]
              refine Ev.go hr ?_
              rw [e0]; unfold datStep; rw [if_pos hb, if_pos c0, if_neg z, if_pos (c2 z), if_pos c', if_neg (by omega)]
      have j4 : kindM xs[i].f0 1 3 2 xs[i].f2 xs[i].f3 = 0 → ∀ b : Bool, b = (if i = 0 then xs[i].f1 != -1 else !inB xs[i].f1 0 ((i : Int) - 1)) → Ev (fun k => spec_l3Fault.j4 k xs (i : Int) b) r := fun c0 b hb4 => by
        refine Ev.step (fun k => spec_l3Fault.j4.eq_2 _ _ _ k) (Ev.iff (fun c => Ev.stop hr ?_) (fun c => ?_))
        · rw [c] at hb4
          by_cases z : i = 0
          · rw [if_pos z] at hb4
            have : ¬ xs[i].f1 = -1 := by simpa using hb4.symm
            rw [e0]; unfold datStep; rw [if_pos hb, if_pos c0, if_pos z, if_neg this]
          · rw [if_neg z] at hb4
            have : ¬ (inB xs[i].f1 0 ((i : Int) - 1) = true) := by simpa using hb4.symm
            rw [e0]; unfold datStep; rw [if_pos hb, if_pos c0, if_neg z, if_neg this]
        · simp only [Bool.not_eq_true] at c
          rw [c] at hb4
          have c1 : i = 0 → xs[i].f1 = -1 := fun z => by rw [if_pos z] at hb4; simpa using hb4.symm
          have c2 : i ≠ 0 → inB xs[i].f1 0 ((i : Int) - 1) = true := fun z => by rw [if_neg z] at hb4; simpa using hb4.symm
          refine Ev.iff (fun c3 => ?_) (fun c3 => j5 c0 c1 c2 _ (by
            have : i = 0 := by omega
            subst this; simp))
          have hp := inB_iff.mp (c2 (by omega))
          have hl := l3Line_ev xs (i : Int) (by omega) (by omega) i (by omega) hA i ((i : Int) - 1) (by omega) (by omega)
          have ep : parD xs (i : Int) = xs[i].f1 := by unfold parD; rw [rdDf_at hi]
          rw [ep] at hl
          refine Ev.bind (Ev.congr (fun k => by rw [spec_l3Line.f.eq_1, wrap_id (by omega) (by omega)]) hl) (j5 c0 c1 c2 _ ?_)
          have z' : decide (0 < i) = true := by simp; omega
          rw [z', Bool.true_and]
      have j3 : ∀ b : Bool, kindM xs[i].f0 1 3 2 xs[i].f2 xs[i].f3 = (if b = true then 5 else 0) → Ev (fun k => spec_l3Fault.j3 k xs (i : Int) b) r := fun b hb3 => by
        refine Ev.step (fun k => spec_l3Fault.j3.eq_2 _ _ _ k) (Ev.iff (fun c => Ev.stop hr ?_) (fun c => ?_))
        · rw [if_pos c] at hb3
          rw [e0]; unfold datStep; rw [if_pos hb, if_neg (by omega), hb3]
        · rw [if_neg c] at hb3
          rw [rdDf_at hi]
          refine Ev.iff (fun c1 => Ev.ifp (by omega) (Ev.ifp (by omega) (Ev.iff (fun c2 => Ev.ifn (by omega) (j4 hb3 _ ?_)) (fun c2 => j4 hb3 _ ?_)))) (fun c1 => Ev.ifp (by omega) (Ev.ifp (by omega) (Ev.ifp (by omega) ?_)))
          · rw [if_pos (by omega), c2]; rfl
          · rw [if_pos (by omega)]; simpa using c2
          · rw [wrap_id (by omega) (by omega)]
            refine Ev.bind0 (l1In_eq _ _ _) (j4 hb3 _ ?_)
            rw [if_neg (by omega)]
      have hin := (Bool.and_eq_true_iff.mp (Bool.and_eq_true_iff.mp hb).1).1
      have hin' := inB_iff.mp hin
      have j2 : ∀ b : Bool, b = ((xs[i].f0 == 1 && !numB xs[i].f2) || (xs[i].f0 == 2 && !inB xs[i].f2 0 1)) → Ev (fun k => spec_l3Fault.j2 k xs (i : Int) b) r := fun b hb2 => by
        refine Ev.step (fun k => spec_l3Fault.j2.eq_2 _ _ _ k) (Ev.iff (fun c => Ev.stop hr ?_) (fun c => ?_))
        · have hk : kindM xs[i].f0 1 3 2 xs[i].f2 xs[i].f3 = 3 := kind_range _ _ _ (by rw [c] at hb2; exact hb2)
          rw [e0]; unfold datStep; rw [if_pos hb, if_neg (by omega), hk]
        · simp only [Bool.not_eq_true] at c
          rw [c] at hb2
          have hk := kind_plain xs[i].f0 xs[i].f2 xs[i].f3 hb2
          refine Ev.ifp (by omega) (Ev.ifp (by omega) ?_)
          rw [rdDf_at hi]
          refine Ev.iff (fun c3 => Ev.bind (l2Sym_ev _ hm) (j3 _ ?_)) (fun c3 => j3 _ ?_)
          · rw [hk, if_pos c3]
            unfold symM
            cases symB xs[i].f3 <;> rfl
          · rw [hk, if_neg c3]
            rfl
      repeat' first
        | refine Ev.iff (fun _ => ?_) (fun _ => ?_)
        | refine Ev.bind0 (l1Num_eq _) ?_
        | refine Ev.bind0 (l1In_eq _ _ _) ?_
        | refine j2 _ ?_
      all_goals clear j2 j3 j4 j5
      all_goals simp_all)
      (fun i hi hA hB => datAt_ahead hi hA hB)
      (fun _ => Ev.step (fun k => spec_l3Fault.l0.eq_2 _ _ k) (Ev.ifn (by omega) (Ev.now _))) xs.length 0 (by omega) (fun j hj => by omega)
    unfold dataM
    rw [if_pos h]
    exact hL
  have j0 : ∀ b : Bool, b = !inB xs.length 1 80 → Ev (fun k => spec_l3Fault.j0 k xs b) (dataM xs) := fun b hb => by
    refine Ev.step (fun k => spec_l3Fault.j0.eq_2 _ _ k) (Ev.iff (fun c => Ev.leaf ?_) (fun c => hL ?_))
    · unfold dataM
      rw [if_neg (fun z => by rw [c, z] at hb; cases hb)]
    · simp only [Bool.not_eq_true] at c
      rw [c] at hb
      simpa using hb.symm
  refine Ev.congr (fun k => spec_l3Fault.f.eq_1 k _) (Ev.iff (fun c => j0 _ ?_) (fun c => j0 _ ?_))
  · rw [inB_f.mpr (by omega)]; rfl
  · unfold inB
    have : decide ((1 : Int) ≤ xs.length) = true := by simp; omega
    rw [this, Bool.true_and]
    by_cases z : (xs.length : Int) ≤ 80
    · have z' : ¬ (xs.length : Int) > 80 := by omega
      simp [z, z']
    · have z' : (xs.length : Int) > 80 := by omega
      simp [z, z']
def placeM (xs : List S45) (a : Int) : Int := if dataM xs = 0 then (if inB a 0 ((xs.length : Int) - 1) = true then 0 else 3) else dataM xs
theorem placeFault_ev (xs : List S45) (a : Int) (hx : okD xs) (hl : xs.length ≤ 1048576) : Ev (fun k => impl_placeFault.f k xs a) (placeM xs a) := by
  refine Ev.congr (fun k => impl_placeFault.f.eq_1 k _ _) (Ev.bind (implData_ev xs hx) (Ev.iff (fun c => ?_) (fun c => Ev.leaf (by unfold placeM; rw [if_neg c]))))
  rw [wrap_id (by omega) (by omega)]
  refine Ev.bind0 (in_eq _ _ _) (Ev.iff (fun d => Ev.leaf (by unfold placeM; rw [if_pos c, if_pos d])) (fun d => Ev.leaf (by unfold placeM; rw [if_pos c, if_neg d])))
theorem l3Asked_ev (xs : List S45) (a : Int) (hx : okD xs) (hl : xs.length ≤ 1048576) : Ev (fun k => spec_l3Asked.f k xs a) (placeM xs a) := by
  refine Ev.congr (fun k => spec_l3Asked.f.eq_1 k _ _) (Ev.bind (l3Fault_ev xs hx) (Ev.iff (fun c => ?_) (fun c => Ev.leaf (by unfold placeM; rw [if_neg c]))))
  rw [wrap_id (by omega) (by omega)]
  refine Ev.bind0 (l1In_eq _ _ _) (Ev.iff (fun d => Ev.leaf (by unfold placeM; rw [if_pos c, if_pos d])) (fun d => Ev.leaf (by unfold placeM; rw [if_pos c, if_neg d])))
theorem place_in {xs : List S45} {a : Int} (h : placeM xs a = 0) : dataM xs = 0 ∧ 0 ≤ a ∧ a < xs.length := by
  unfold placeM at h
  split at h
  · rename_i c
    split at h
    · rename_i d
      have := inB_iff.mp d
      exact ⟨c, by omega, by omega⟩
    · omega
  · rename_i c
    exact absurd h c
theorem data_len {xs : List S45} (h : dataM xs = 0) : 1 ≤ xs.length ∧ xs.length ≤ 80 := by
  unfold dataM at h
  split at h
  · rename_i c
    have := inB_iff.mp c
    omega
  · omega
def partsU (xs : List S45) (a : Int) : Nat → Nat → List Int
  | 0, _ => []
  | d + 1, i => (if parD xs i = a then [(i : Int)] else []) ++ partsU xs a d (i + 1)
theorem partsU_length (xs : List S45) (a : Int) : ∀ d i, (partsU xs a d i).length ≤ d
  | 0, _ => by simp [partsU]
  | d + 1, i => by
    have := partsU_length xs a d (i + 1)
    simp only [partsU, List.length_append]
    split <;> simp <;> omega
theorem parts_ev (xs : List S45) (a : Int) (hl : xs.length ≤ 1048576) : ∀ d i acc, i + d = xs.length → acc.length + d ≤ 1048576 → Ev (fun k => impl_parts.l0 k a acc xs (xs.length : Int) (i : Int)) (acc ++ partsU xs a d i)
  | 0, i, acc, hd, ha => by
    have e : i = xs.length := by omega
    subst e
    exact Ev.step (fun k => impl_parts.l0.eq_2 _ _ _ _ _ k) (Ev.ifn (by omega) (Ev.leaf (by simp [partsU])))
  | d + 1, i, acc, hd, ha => by
    have hi : i < xs.length := by omega
    refine Ev.step (fun k => impl_parts.l0.eq_2 _ _ _ _ _ k) (Ev.ifp (by omega) (Ev.ifp (by omega) (Ev.ifp (by omega) (Ev.iff (fun c => Ev.ifp (by omega) ?_) (fun c => ?_)))))
    · rw [wrap_succ hi (by omega)]
      refine Ev.cast (parts_ev xs a hl d (i + 1) _ (by omega) (by simp; omega)) ?_
      simp only [partsU]
      rw [if_pos (show parD xs i = a from c), List.append_assoc]
    · rw [wrap_succ hi (by omega)]
      refine Ev.cast (parts_ev xs a hl d (i + 1) _ (by omega) (by omega)) ?_
      simp only [partsU]
      rw [if_neg (show ¬ parD xs i = a from c), List.nil_append]
theorem l3Parts_ev (xs : List S45) (a : Int) (hl : xs.length ≤ 1048576) : ∀ d i acc, i + d = xs.length → acc.length + d ≤ 1048576 → Ev (fun k => spec_l3Parts.l0 k xs a acc (i : Int)) (acc ++ partsU xs a d i)
  | 0, i, acc, hd, ha => by
    have e : i = xs.length := by omega
    subst e
    exact Ev.step (fun k => spec_l3Parts.l0.eq_2 _ _ _ _ k) (Ev.ifn (by omega) (Ev.leaf (by simp [partsU])))
  | d + 1, i, acc, hd, ha => by
    have hi : i < xs.length := by omega
    refine Ev.step (fun k => spec_l3Parts.l0.eq_2 _ _ _ _ k) (Ev.ifp (by omega) (Ev.ifp (by omega) (Ev.iff (fun c => Ev.ifp (by omega) ?_) (fun c => ?_))))
    · rw [wrap_succ hi (by omega)]
      refine Ev.cast (l3Parts_ev xs a hl d (i + 1) _ (by omega) (by simp; omega)) ?_
      simp only [partsU]
      rw [if_pos (show parD xs i = a from c), List.append_assoc]
    · rw [wrap_succ hi (by omega)]
      refine Ev.cast (l3Parts_ev xs a hl d (i + 1) _ (by omega) (by omega)) ?_
      simp only [partsU]
      rw [if_neg (show ¬ parD xs i = a from c), List.nil_append]
def partsM (xs : List S45) (a : Int) : List Int := partsU xs a xs.length 0
theorem implParts_ev (xs : List S45) (a : Int) (hl : xs.length ≤ 1048576) : Ev (fun k => impl_parts.f k xs a) (partsM xs a) :=
  Ev.congr (fun k => impl_parts.f.eq_1 k _ _) (Ev.cast (parts_ev xs a hl xs.length 0 [] (by omega) (by simp; omega)) (by simp [partsM]))
theorem specParts_ev (xs : List S45) (a : Int) (hl : xs.length ≤ 1048576) : Ev (fun k => spec_l3Parts.f k xs a) (partsM xs a) :=
  Ev.congr (fun k => spec_l3Parts.f.eq_1 k _ _) (Ev.cast (l3Parts_ev xs a hl xs.length 0 [] (by omega) (by simp; omega)) (by simp [partsM]))
theorem deepN_add (xs : List S45) : ∀ d a c, deepN xs d a c = c + deepN xs d a 0
  | 0, a, c => by simp [deepN]
  | d + 1, a, c => by
    simp only [deepN]
    split
    · rw [deepN_add xs d _ (c + 1), deepN_add xs d _ (0 + 1)]; omega
    · omega
theorem deepN_fuel (xs : List S45) (n : Nat) (hA : Ahead xs n) : ∀ (d e : Nat) (a c : Int), a < (d : Int) → a < (e : Int) → a < n → deepN xs d a c = deepN xs e a c
  | 0, 0, a, c, _, _, _ => rfl
  | 0, e + 1, a, c, h0, _, _ => by simp only [deepN]; rw [if_neg (by omega)]
  | d + 1, 0, a, c, _, h1, _ => by simp only [deepN]; rw [if_neg (by omega)]
  | d + 1, e + 1, a, c, h0, h1, h2 => by
    simp only [deepN]
    by_cases z : 0 ≤ a
    · rw [if_pos z, if_pos z]
      have hp : parD xs a < a := by
        have := hA a.toNat (by omega)
        rwa [Int.toNat_of_nonneg z] at this
      exact deepN_fuel xs n hA d e _ _ (by omega) (by omega) (by omega)
    · rw [if_neg z, if_neg z]
theorem upB_fuel (xs : List S45) (n : Nat) (hA : Ahead xs n) : ∀ (d e : Nat) (a t : Int), a < (d : Int) → a < (e : Int) → a < n → upB xs d a t = upB xs e a t
  | 0, 0, a, t, _, _, _ => rfl
  | 0, e + 1, a, t, h0, _, _ => by simp only [upB]; rw [if_neg (by omega)]
  | d + 1, 0, a, t, _, h1, _ => by simp only [upB]; rw [if_neg (by omega)]
  | d + 1, e + 1, a, t, h0, h1, h2 => by
    simp only [upB]
    by_cases z : 0 ≤ a
    · rw [if_pos z, if_pos z]
      have hp : parD xs a < a := by
        have := hA a.toNat (by omega)
        rwa [Int.toNat_of_nonneg z] at this
      rw [upB_fuel xs n hA d e _ t (by omega) (by omega) (by omega)]
    · rw [if_neg z, if_neg z]
def dep (xs : List S45) (j : Int) : Int := deepN xs (j.toNat + 1) j 0
def onB (xs : List S45) (j t : Int) : Bool := upB xs (j.toNat + 1) j t
theorem dep_neg {xs : List S45} {j : Int} (h : j < 0) : dep xs j = 0 := by unfold dep; simp only [deepN]; rw [if_neg (by omega)]
theorem on_neg {xs : List S45} {j t : Int} (h : j < 0) : onB xs j t = false := by unfold onB; simp only [upB]; rw [if_neg (by omega)]
theorem par_lt {xs : List S45} {n : Nat} (hA : Ahead xs n) {j : Int} (h0 : 0 ≤ j) (h1 : j < n) : parD xs j < j := by
  have := hA j.toNat (by omega)
  rwa [Int.toNat_of_nonneg h0] at this
theorem dep_step {xs : List S45} {n : Nat} (hA : Ahead xs n) {j : Int} (h0 : 0 ≤ j) (h1 : j < n) : dep xs j = 1 + dep xs (parD xs j) := by
  have hp := par_lt hA h0 h1
  unfold dep
  simp only [deepN]
  rw [if_pos h0, deepN_add xs _ _ (0 + 1), deepN_fuel xs n hA j.toNat ((parD xs j).toNat + 1) _ 0 (by omega) (by omega) (by omega)]
  simp only [deepN]
  omega
theorem on_step {xs : List S45} {n : Nat} (hA : Ahead xs n) {j t : Int} (h0 : 0 ≤ j) (h1 : j < n) : onB xs j t = if j = t then true else onB xs (parD xs j) t := by
  have hp := par_lt hA h0 h1
  unfold onB
  rw [show upB xs (j.toNat + 1) j t = if 0 ≤ j then (if j = t then true else upB xs j.toNat (parD xs j) t) else false from rfl, if_pos h0, upB_fuel xs n hA j.toNat ((parD xs j).toNat + 1) _ t (by omega) (by omega) (by omega)]
theorem on_dep {xs : List S45} {n : Nat} (hA : Ahead xs n) {t : Int} : ∀ (m : Nat) (j : Int), j < m → j < n → onB xs j t = true → 0 ≤ t ∧ t ≤ j ∧ dep xs t ≤ dep xs j ∧ (t < j → dep xs t < dep xs j)
  | 0, j, h0, _, h => by rw [on_neg (by omega)] at h; cases h
  | m + 1, j, h0, h1, h => by
    by_cases z : 0 ≤ j
    · rw [on_step hA z h1] at h
      by_cases e : j = t
      · subst e; exact ⟨z, by omega, by omega, by omega⟩
      · rw [if_neg e] at h
        have hp := par_lt hA z h1
        have hd := dep_step hA z h1
        obtain ⟨a, b, c, d⟩ := on_dep hA m (parD xs j) (by omega) (by omega) h
        exact ⟨a, by omega, by omega, fun _ => by omega⟩
    · rw [on_neg (by omega)] at h; cases h
theorem on_line {xs : List S45} {n : Nat} (hA : Ahead xs n) {a b : Int} (hab : b ≤ a) : ∀ (m : Nat) (j : Int), j < m → j < n → onB xs j a = true → onB xs j b = true → onB xs a b = true
  | 0, j, h0, _, h, _ => by rw [on_neg (by omega)] at h; cases h
  | m + 1, j, h0, h1, h, g => by
    by_cases e : j = a
    · subst e; exact g
    · have da := on_dep hA (m + 1) j h0 h1 h
      have z : 0 ≤ j := by omega
      have hp := par_lt hA z h1
      rw [on_step hA z h1, if_neg e] at h
      rw [on_step hA z h1, if_neg (by omega)] at g
      exact on_line hA hab m _ (by omega) (by omega) h g
theorem datAt_ne0 {xs : List S45} (j : Nat) (v : Int) (h : datAt xs j = some v) : v ≠ 0 := by
  unfold datAt at h
  split at h
  · unfold datStep at h
    repeat' split at h
    all_goals first | (cases h; done) | (obtain rfl := Option.some.inj h; first | omega | assumption)
  · cases h
theorem data_none {xs : List S45} (h : dataM xs = 0) (j : Nat) (hj : j < xs.length) : datAt xs j = none := by
  unfold dataM at h
  split at h
  · exact runU_none (datAt_ne0 (xs := xs)) xs.length 0 h j (by omega) (by omega)
  · omega
theorem data_ahead {xs : List S45} (h : dataM xs = 0) : Ahead xs xs.length := by
  have : ∀ n, n ≤ xs.length → Ahead xs n := fun n => by
    induction n with
    | zero => intro _ j hj; omega
    | succ n ih => intro hn; exact datAt_ahead (by omega) (ih (by omega)) (data_none h n (by omega))
  exact this xs.length (Nat.le_refl _)
theorem data_line {xs : List S45} (h : dataM xs = 0) (i : Nat) (h0 : 1 ≤ i) (h1 : i < xs.length) : 0 ≤ parD xs i ∧ parD xs i ≤ (i : Int) - 1 ∧ onB xs ((i : Int) - 1) (parD xs i) = true := by
  have hn := data_none h i h1
  unfold datAt at hn
  rw [dif_pos h1] at hn
  unfold datStep at hn
  have ep : parD xs (i : Int) = xs[i].f1 := by unfold parD; rw [rdDf_at h1]
  repeat' split at hn
  all_goals first | (cases hn; done) | omega | skip
  have z := inB_iff.mp (by assumption : inB xs[i].f1 0 ((i : Int) - 1) = true)
  have u : (upB xs i ((i : Int) - 1) xs[i].f1 && kindD xs xs[i].f1 == 4) = true := by assumption
  rw [Bool.and_eq_true] at u
  rw [ep]
  refine ⟨z.1, z.2, ?_⟩
  unfold onB
  rw [show ((i : Int) - 1).toNat + 1 = i from by omega]
  exact u.1
def elemS (xs : List S45) (a i : Int) : S45 := ⟨(rd_T45 xs i).f0, wrap64 ((rd_T45 xs i).f1 - a), (rd_T45 xs i).f2, (rd_T45 xs i).f3⟩
def firstS (xs : List S45) (a : Int) : S45 := ⟨(rd_T45 xs a).f0, (-1), (rd_T45 xs a).f2, (rd_T45 xs a).f3⟩
def subU (xs : List S45) (a : Int) : Nat → Nat → List S45
  | 0, _ => []
  | d + 1, i => if parD xs i < a then [] else elemS xs a i :: subU xs a d (i + 1)
theorem subU_length (xs : List S45) (a : Int) : ∀ d i, (subU xs a d i).length ≤ d
  | 0, _ => by simp [subU]
  | d + 1, i => by
    have := subU_length xs a d (i + 1)
    simp only [subU]
    split <;> simp <;> omega
theorem l3Sub_loop (xs : List S45) (a : Nat) (h : dataM xs = 0) (ha : a < xs.length) : ∀ d i acc, i + d = xs.length → a < i → acc.length + d ≤ 1048576 → onB xs ((i : Int) - 1) a = true → Ev (fun k => spec_l3Sub.l0 k xs (a : Int) (dep xs a) acc (i : Int)) (acc ++ subU xs a d i)
  | 0, i, acc, hd, hi, hl, ho => by
    have e : i = xs.length := by omega
    subst e
    exact Ev.step (fun k => spec_l3Sub.l0.eq_2 _ _ _ _ _ k) (Ev.ifn (by omega) (Ev.step (fun k => spec_l3Sub.j1.eq_2 _ _ _ _ _ _ k) (Ev.ifn (by decide) (Ev.leaf (by simp [subU])))))
  | d + 1, i, acc, hd, hi, hl, ho => by
    have hA := data_ahead h
    have hn := data_len h
    have hi' : i < xs.length := by omega
    have hdp := l3Deep_ev xs xs.length (Nat.le_refl _) hA (i + 1) (i : Int) 0 (by omega) (by omega) (by omega) (by omega)
    obtain ⟨p0, p1, p2⟩ := data_line h i (by omega) hi'
    have hst := dep_step hA (j := (i : Int)) (by omega) (by omega)
    have edep : deepN xs (i + 1) (i : Int) 0 = dep xs i := by unfold dep; rw [Int.toNat_natCast]
    rw [edep] at hdp
    refine Ev.step (fun k => spec_l3Sub.l0.eq_2 _ _ _ _ _ k) (Ev.ifp (by omega) (Ev.ifn (by omega) (Ev.bind (Ev.congr (fun k => spec_l3Deep.f.eq_1 k _ _) hdp) ?_)))
    by_cases c : parD xs i < a
    · have hup := on_line hA (by omega : parD xs i ≤ (a : Int)) i ((i : Int) - 1) (by omega) (by omega) ho p2
      have hlt := (on_dep hA xs.length (a : Int) (by omega) (by omega) hup).2.2.2 c
      have e : decide (dep xs i > dep xs a) = false := by simp; omega
      rw [e]
      exact Ev.step (fun k => spec_l3Sub.j1.eq_2 _ _ _ _ _ _ k) (Ev.ifn (by decide) (Ev.leaf (by simp only [subU]; rw [if_pos c, List.append_nil])))
    · have hup := on_line hA (by omega : (a : Int) ≤ parD xs i) i ((i : Int) - 1) (by omega) (by omega) p2 ho
      have hlt := (on_dep hA xs.length (parD xs i) (by omega) (by omega) hup).2.2.1
      have e : decide (dep xs i > dep xs a) = true := by simp; omega
      rw [e]
      refine Ev.step (fun k => spec_l3Sub.j1.eq_2 _ _ _ _ _ _ k) (Ev.ifp rfl (Ev.ifp (by omega) (Ev.ifp (by omega) (Ev.ifn (by omega) (Ev.step (fun k => spec_l3Sub.j2.eq_2 _ _ _ _ _ _ _ _ _ k) (Ev.ifp (by omega) ?_))))))
      rw [wrap_succ hi' (by omega)]
      refine Ev.cast (l3Sub_loop xs a h ha d (i + 1) _ (by omega) (by omega) (by simp; omega) ?_) ?_
      · rw [show (((i + 1 : Nat) : Int) - 1) = (i : Int) from by omega, on_step hA (by omega) (by omega), if_neg (by omega)]
        exact hup
      · simp only [subU]
        rw [if_neg c, List.append_assoc]
        rfl
def subM (xs : List S45) (a : Nat) : List S45 := firstS xs a :: subU xs a (xs.length - (a + 1)) (a + 1)
theorem specSub_ev (xs : List S45) (a : Nat) (h : dataM xs = 0) (ha : a < xs.length) : Ev (fun k => spec_l3Sub.f k xs (a : Int)) (subM xs a) := by
  have hA := data_ahead h
  have hn := data_len h
  have hdp := l3Deep_ev xs xs.length (Nat.le_refl _) hA (a + 1) (a : Int) 0 (by omega) (by omega) (by omega) (by omega)
  have edep : deepN xs (a + 1) (a : Int) 0 = dep xs a := by unfold dep; rw [Int.toNat_natCast]
  rw [edep] at hdp
  refine Ev.congr (fun k => spec_l3Sub.f.eq_1 k _ _) (Ev.bind (Ev.congr (fun k => spec_l3Deep.f.eq_1 k _ _) hdp) ?_)
  refine Ev.step (fun k => spec_l3Sub.l0.eq_2 _ _ _ _ _ k) (Ev.ifp (by omega) (Ev.ifp rfl (Ev.step (fun k => spec_l3Sub.j1.eq_2 _ _ _ _ _ _ k) (Ev.ifp rfl (Ev.ifp (by omega) (Ev.ifp (by omega) (Ev.ifp rfl (Ev.step (fun k => spec_l3Sub.j2.eq_2 _ _ _ _ _ _ _ _ _ k) (Ev.ifp (by simp) ?_)))))))))
  rw [wrap_succ ha (by omega)]
  refine Ev.cast (l3Sub_loop xs a h ha (xs.length - (a + 1)) (a + 1) _ (by omega) (by omega) (by simp; omega) ?_) ?_
  · rw [show (((a + 1 : Nat) : Int) - 1) = (a : Int) from by omega, on_step hA (by omega) (by omega), if_pos rfl]
  · rfl
theorem rd_drop (xs : List S45) (m j : Nat) : rd_T45 (xs.drop m) (j : Int) = rd_T45 xs ((m + j : Nat) : Int) := by
  unfold rd_T45
  rw [Int.toNat_natCast, Int.toNat_natCast]
  simp [List.getD, List.getElem?_drop]
theorem sub_loop (xs : List S45) (a : Nat) (ha : a < xs.length) (hn : xs.length ≤ 80) : ∀ d j acc, j + d = (xs.drop (a + 1)).length → acc.length + d ≤ 1048576 → Ev (fun k => impl_sub.l0 k (a : Int) acc (xs.drop (a + 1)) ((xs.drop (a + 1)).length : Int) (j : Int)) (acc ++ subU xs a d (a + 1 + j))
  | 0, j, acc, hd, hl => Ev.step (fun k => impl_sub.l0.eq_2 _ _ _ _ _ k) (Ev.ifn (by omega) (Ev.leaf (by simp [subU])))
  | d + 1, j, acc, hd, hl => by
    have hj : j < (xs.drop (a + 1)).length := by omega
    have hle : (xs.drop (a + 1)).length ≤ 80 := by rw [List.length_drop]; omega
    refine Ev.step (fun k => impl_sub.l0.eq_2 _ _ _ _ _ k) (Ev.ifp (by omega) (Ev.ifp (by omega) (Ev.ifp (by omega) ?_)))
    rw [rd_drop xs (a + 1) j]
    refine Ev.iff (fun c => Ev.leaf ?_) (fun c => Ev.ifp (by omega) ?_)
    · simp only [subU]
      rw [if_pos (show parD xs ((a + 1 + j : Nat) : Int) < a from c), List.append_nil]
    · rw [wrap_succ hj (by omega)]
      refine Ev.cast (sub_loop xs a ha hn d (j + 1) _ (by omega) (by simp; omega)) ?_
      simp only [subU]
      rw [if_neg (show ¬ parD xs ((a + 1 + j : Nat) : Int) < a from c), List.append_assoc]
      rfl
theorem implSub_ev (xs : List S45) (a : Nat) (ha : a < xs.length) (hn : xs.length ≤ 80) : Ev (fun k => impl_sub.f k xs (a : Int)) (subM xs a) := by
  refine Ev.congr (fun k => impl_sub.f.eq_1 k _ _) (Ev.ifp (by omega) (Ev.ifp (by omega) (Ev.bind0 rfl (Ev.ifp (by simp) ?_))))
  rw [wrap_id (x := (a : Int) + 1) (by omega) (by omega)]
  refine Ev.ifp (by omega) (Ev.ifp (by omega) (Ev.bind0 rfl ?_))
  rw [show ((a : Int) + 1).toNat = a + 1 from by omega]
  refine Ev.cast (sub_loop xs a ha hn (xs.drop (a + 1)).length 0 _ (by omega) (by simp [List.length_drop]; omega)) ?_
  rw [List.length_drop]
  rfl
def dig (n : Int) : ByteArray := ⟨(Lib.itoa n).toArray⟩
theorem dec_eq {n : Int} (h : numB n = true) : impl_dec.f n = some (dig n) := by
  have h2 := numB_iff.mp h
  unfold impl_dec.f strconv_FormatInt.f
  rw [if_pos ⟨by omega, by omega, rfl⟩, Option.bind_some]
  rfl
theorem decDigits_len : ∀ (m u : Nat), u ≤ m → (Lib.decDigits u).length ≤ u + 1
  | 0, u, h => by
    rw [Lib.decDigits]
    rw [dif_pos (by omega)]
    simp
  | m + 1, u, h => by
    rw [Lib.decDigits]
    by_cases c : u < 10
    · rw [dif_pos c]; simp
    · rw [dif_neg c, List.length_append]
      have := decDigits_len m (u / 10) (by omega)
      simp
      omega
theorem ba_append (a b : List UInt8) : (⟨a.toArray⟩ : ByteArray) ++ ⟨b.toArray⟩ = ⟨(a ++ b).toArray⟩ := by
  rw [ByteArray.ext_iff]
  simp [ByteArray.data_append]
theorem one_num (u : Nat) (h : u < 10) : strOfNums [wrap64 (48 + (u : Int)) % 256] = ⟨[UInt8.ofNat (48 + u)].toArray⟩ := by
  rw [wrap_id (by omega) (by omega)]
  have e : (48 + (u : Int)) % 256 = ((48 + u : Nat) : Int) := by omega
  rw [e]
  rfl
theorem digits_nat : ∀ (m u : Nat), u ≤ m → u ≤ 9223372036854775807 → Ev (fun k => spec_l1Digits.f k (u : Int)) ⟨(Lib.decDigits u).toArray⟩
  | m, u, h, hu => by
    rw [Lib.decDigits]
    by_cases c : u < 10
    · rw [dif_pos c]
      refine Ev.step (fun k => spec_l1Digits.f.eq_2 _ k) (Ev.ifn (by omega) (Ev.ifp (by omega) (Ev.leaf (one_num u c))))
    · rw [dif_neg c]
      cases m with
      | zero => omega
      | succ m =>
        have ih := digits_nat m (u / 10) (by omega) (by omega)
        have hl := decDigits_len (u / 10) (u / 10) (Nat.le_refl _)
        have hq : wrap64 (Int.tdiv (u : Int) 10) = ((u / 10 : Nat) : Int) := by
          rw [Int.tdiv_eq_ediv_of_nonneg (by omega), wrap_id (by omega) (by omega)]
          omega
        have hr : Int.tmod (u : Int) 10 = ((u % 10 : Nat) : Int) := by
          rw [Int.tmod_eq_emod_of_nonneg (by omega)]
          omega
        refine Ev.step (fun k => spec_l1Digits.f.eq_2 _ k) (Ev.ifn (by omega) (Ev.ifn (by omega) ?_))
        rw [hq, hr]
        refine Ev.bind ih (Ev.bind0 rfl ?_)
        rw [one_num (u % 10) (by omega)]
        refine Ev.ifp ?_ (Ev.leaf (ba_append _ _))
        have e1 : (⟨(Lib.decDigits (u / 10)).toArray⟩ : ByteArray).size = (Lib.decDigits (u / 10)).length := by simp [ByteArray.size]
        have e2 : (⟨[UInt8.ofNat (48 + u % 10)].toArray⟩ : ByteArray).size = 1 := by simp [ByteArray.size]
        omega
theorem digits_ev {n : Int} (h : numB n = true) : Ev (fun k => spec_l1Digits.f k n) (dig n) := by
  have h2 := numB_iff.mp h
  unfold dig Lib.itoa
  by_cases c : n < 0
  · rw [if_pos c]
    have ih := digits_nat n.natAbs n.natAbs (Nat.le_refl _) (by omega)
    have hl := decDigits_len n.natAbs n.natAbs (Nat.le_refl _)
    refine Ev.step (fun k => spec_l1Digits.f.eq_2 _ k) (Ev.ifp c ?_)
    rw [wrap_id (x := -n) (by omega) (by omega), show -n = ((n.natAbs : Nat) : Int) from by omega]
    refine Ev.bind ih (Ev.ifp ?_ (Ev.leaf (ba_append [45] _)))
    have e1 : (⟨(Lib.decDigits n.natAbs).toArray⟩ : ByteArray).size = (Lib.decDigits n.natAbs).length := by simp [ByteArray.size]
    omega
  · rw [if_neg c]
    have ih := digits_nat n.toNat n.toNat (Nat.le_refl _) (by omega)
    rw [show ((n.toNat : Nat) : Int) = n from by omega] at ih
    exact ih
def sumU (g : Nat → Nat) : Nat → Nat → Nat
  | 0, _ => 0
  | d + 1, i => g i + sumU g d (i + 1)
theorem sumU_le {g1 g2 g3 : Nat → Nat} {i w : Nat} (h : ∀ j, g1 j + g2 j ≤ g3 j + (if j = i then w else 0)) : ∀ d s, sumU g1 d s + sumU g2 d s ≤ sumU g3 d s + (if s ≤ i ∧ i < s + d then w else 0)
  | 0, s => by simp [sumU]
  | d + 1, s => by
    have ih := sumU_le h d (s + 1)
    have h0 := h s
    simp only [sumU]
    by_cases c : s = i
    · rw [if_pos c] at h0
      rw [if_neg (by omega)] at ih
      rw [if_pos (by omega)]
      omega
    · rw [if_neg c] at h0
      by_cases c2 : s + 1 ≤ i ∧ i < s + 1 + d
      · rw [if_pos c2] at ih
        rw [if_pos (by omega)]
        omega
      · rw [if_neg c2] at ih
        rw [if_neg (by omega)]
        omega
theorem sumU_at {g : Nat → Nat} {i : Nat} : ∀ d s, s ≤ i → i < s + d → g i ≤ sumU g d s
  | 0, s, h0, h1 => by omega
  | d + 1, s, h0, h1 => by
    simp only [sumU]
    by_cases c : s = i
    · subst c; omega
    · have := sumU_at (g := g) (i := i) d (s + 1) (by omega) (by omega)
      omega
theorem sumU_zero {g : Nat → Nat} : ∀ d s, (∀ j, s ≤ j → j < s + d → g j = 0) → sumU g d s = 0
  | 0, s, h => rfl
  | d + 1, s, h => by
    simp only [sumU]
    rw [h s (by omega) (by omega), sumU_zero d (s + 1) (fun j h0 h1 => h j (by omega) (by omega))]
theorem sumU_same {g1 g2 : Nat → Nat} : ∀ {d s : Nat}, (∀ j, s ≤ j → j < s + d → g1 j = g2 j) → sumU g1 d s = sumU g2 d s
  | 0, s, h => rfl
  | d + 1, s, h => by
    simp only [sumU]
    rw [h s (by omega) (by omega), sumU_same (fun j h0 h1 => h j (by omega) (by omega))]
theorem sumU_mono {g1 g2 : Nat → Nat} (h : ∀ j, g1 j ≤ g2 j) : ∀ d s, sumU g1 d s ≤ sumU g2 d s
  | 0, s => Nat.le_refl _
  | d + 1, s => by
    have := sumU_mono h d (s + 1)
    have := h s
    simp only [sumU]
    omega
theorem parts_sum (xs : List S45) (a : Int) (g : Int → Nat) : ∀ d i, ((partsU xs a d i).map g).sum = sumU (fun j => if parD xs (j : Int) = a then g (j : Int) else 0) d i
  | 0, i => rfl
  | d + 1, i => by
    have ih := parts_sum xs a g d (i + 1)
    simp only [partsU, sumU, List.map_append, List.sum_append, ih]
    split <;> simp
theorem parts_mem (xs : List S45) (a : Int) : ∀ d i p, p ∈ partsU xs a d i → ∃ j : Nat, (j : Int) = p ∧ i ≤ j ∧ j < i + d ∧ parD xs p = a
  | 0, i, p, h => by simp [partsU] at h
  | d + 1, i, p, h => by
    simp only [partsU, List.mem_append] at h
    rcases h with h | h
    · split at h
      · rename_i c
        rw [List.mem_singleton] at h
        subst h
        exact ⟨i, rfl, by omega, by omega, c⟩
      · simp at h
    · obtain ⟨j, e, h0, h1, h2⟩ := parts_mem xs a d (i + 1) p h
      exact ⟨j, e, by omega, by omega, h2⟩
def wt (xs : List S45) : Nat → Int → Nat
  | 0, _ => 1
  | d + 1, a => 1 + ((partsM xs a).map (wt xs d)).sum
theorem wt_succ (xs : List S45) (d : Nat) (a : Int) : wt xs (d + 1) a = 1 + sumU (fun j => if parD xs (j : Int) = a then wt xs d (j : Int) else 0) xs.length 0 := by
  simp only [wt, partsM, parts_sum]
theorem wt_mono (xs : List S45) : ∀ d a, wt xs d a ≤ wt xs (d + 1) a
  | 0, a => by rw [wt_succ]; simp only [wt]; omega
  | d + 1, a => by
    rw [wt_succ, wt_succ]
    have := sumU_mono (g1 := fun j => if parD xs (j : Int) = a then wt xs d (j : Int) else 0) (g2 := fun j => if parD xs (j : Int) = a then wt xs (d + 1) (j : Int) else 0) (fun j => by
      have := wt_mono xs d (j : Int)
      show (if _ then _ else _) ≤ (if _ then _ else _)
      split <;> omega) xs.length 0
    omega
theorem wt_rec (xs : List S45) (d : Nat) (a : Int) : wt xs d a ≤ 1 + sumU (fun j => if parD xs (j : Int) = a then wt xs d (j : Int) else 0) xs.length 0 := by
  have h1 := wt_mono xs d a
  rw [wt_succ] at h1
  exact h1
theorem wt_le (xs : List S45) (hA : Ahead xs xs.length) (d : Nat) : ∀ (m i : Nat), i + m = xs.length → sumU (fun j => if i ≤ j ∧ parD xs (j : Int) < (i : Int) then wt xs d (j : Int) else 0) xs.length 0 ≤ m
  | 0, i, h => by
    rw [sumU_zero _ _ (fun j h0 h1 => if_neg (by omega))]
    exact Nat.le_refl _
  | m + 1, i, h => by
    have ih := wt_le xs hA d m (i + 1) (by omega)
    have hr := wt_rec xs d (i : Int)
    have hs := sumU_le (g1 := fun j => if i ≤ j ∧ parD xs (j : Int) < (i : Int) then wt xs d (j : Int) else 0) (g2 := fun j => if parD xs (j : Int) = (i : Int) ∧ j < xs.length then wt xs d (j : Int) else 0) (g3 := fun j => if i + 1 ≤ j ∧ parD xs (j : Int) < ((i + 1 : Nat) : Int) then wt xs d (j : Int) else 0) (i := i) (w := wt xs d (i : Int)) (fun j => by
      show (if _ then _ else _) + (if _ then _ else _) ≤ (if _ then _ else _) + _
      by_cases c : j = i
      · subst c
        rw [if_pos rfl]
        have hi := hA j (by omega)
        rw [if_neg (show ¬ (parD xs (j : Int) = (j : Int) ∧ j < xs.length) by omega)]
        split <;> omega
      · rw [if_neg c]
        by_cases c2 : j < xs.length
        · have hj := hA j c2
          by_cases c3 : parD xs (j : Int) = (i : Int)
          · rw [if_neg (show ¬ (i ≤ j ∧ parD xs (j : Int) < (i : Int)) by omega), if_pos (show parD xs (j : Int) = (i : Int) ∧ j < xs.length from ⟨c3, c2⟩), if_pos (show i + 1 ≤ j ∧ parD xs (j : Int) < ((i + 1 : Nat) : Int) by omega)]
            omega
          · rw [if_neg (show ¬ (parD xs (j : Int) = (i : Int) ∧ j < xs.length) by omega)]
            by_cases c4 : i ≤ j ∧ parD xs (j : Int) < (i : Int)
            · rw [if_pos c4, if_pos (by omega)]
              omega
            · rw [if_neg c4]
              omega
        · rw [if_neg (show ¬ (parD xs (j : Int) = (i : Int) ∧ j < xs.length) by omega)]
          by_cases c4 : i ≤ j ∧ parD xs (j : Int) < (i : Int)
          · rw [if_pos c4, if_pos (by omega)]
            omega
          · rw [if_neg c4]
            omega) xs.length 0
    rw [if_pos (by omega)] at hs
    have he : sumU (fun j => if parD xs (j : Int) = (i : Int) then wt xs d (j : Int) else 0) xs.length 0 = sumU (fun j => if parD xs (j : Int) = (i : Int) ∧ j < xs.length then wt xs d (j : Int) else 0) xs.length 0 := sumU_same (fun j h0 h1 => by
      show (if _ then _ else _) = (if _ then _ else _)
      by_cases c : parD xs (j : Int) = (i : Int)
      · rw [if_pos c, if_pos ⟨c, by omega⟩]
      · rw [if_neg c, if_neg (fun z => c z.1)])
    omega
theorem wt_at (xs : List S45) (hA : Ahead xs xs.length) (d a : Nat) (ha : a < xs.length) : wt xs d (a : Int) ≤ xs.length - a := by
  have h := wt_le xs hA d (xs.length - a) a (by omega)
  have h2 := sumU_at (g := fun j => if a ≤ j ∧ parD xs (j : Int) < (a : Int) then wt xs d (j : Int) else 0) (i := a) xs.length 0 (by omega) (by omega)
  have h3 : (if a ≤ a ∧ parD xs (a : Int) < (a : Int) then wt xs d (a : Int) else 0) = wt xs d (a : Int) := if_pos ⟨Nat.le_refl _, hA a ha⟩
  have h4 : wt xs d (a : Int) ≤ sumU (fun j => if a ≤ j ∧ parD xs (j : Int) < (a : Int) then wt xs d (j : Int) else 0) xs.length 0 := by
    rw [← h3]
    exact h2
  omega
def boolL (N : Int) : List UInt8 := if N = 1 then [35, 116] else [35, 102]
def wr (xs : List S45) : Nat → Int → List UInt8
  | 0, _ => []
  | d + 1, a => if kindD xs a = 1 then Lib.itoa (rd_T45 xs a).f2 else if kindD xs a = 2 then boolL (rd_T45 xs a).f2 else if kindD xs a = 3 then (rd_T45 xs a).f3.data.toList else 40 :: (Lib.join ((partsM xs a).map (wr xs d)) [32] ++ [41])
def GoodD (xs : List S45) : Prop := ∀ j : Nat, j < xs.length → (kindD xs j = 1 → numB (rd_T45 xs j).f2 = true) ∧ (kindD xs j = 2 → 0 ≤ (rd_T45 xs j).f2 ∧ (rd_T45 xs j).f2 ≤ 1) ∧ (kindD xs j = 3 → (rd_T45 xs j).f3.size ≤ 12)
theorem data_good {xs : List S45} (h : dataM xs = 0) : GoodD xs := by
  intro j hj
  have hn := data_none h j hj
  unfold datAt at hn
  rw [dif_pos hj] at hn
  unfold datStep at hn
  have hk : kindM xs[j].f0 1 3 2 xs[j].f2 xs[j].f3 = 0 := by
    repeat' split at hn
    all_goals first | (cases hn; done) | assumption
  unfold kindD
  rw [rdDf_at hj]
  unfold kindM at hk
  refine ⟨fun c => ?_, fun c => ?_, fun c => ?_⟩
  · rw [if_pos c] at hk
    exact numM_0.mp hk
  · rw [if_neg (by omega), if_pos c] at hk
    split at hk
    · rename_i z
      exact inB_iff.mp z
    · omega
  · rw [if_neg (by omega), if_neg (by omega), if_pos c] at hk
    unfold symM at hk
    split at hk
    · rename_i z
      unfold symB at z
      rw [Bool.and_eq_true] at z
      have := inB_iff.mp z.2
      omega
    · omega
theorem dlen : ∀ (k u : Nat), u < 10 ^ (k + 1) → (Lib.decDigits u).length ≤ k + 1
  | 0, u, hu => by rw [Lib.decDigits, dif_pos (by omega)]; simp
  | k + 1, u, hu => by
    rw [Lib.decDigits]
    by_cases c : u < 10
    · rw [dif_pos c]; simp
    · rw [dif_neg c]
      have := dlen k (u / 10) (by rw [Nat.pow_succ] at hu; omega)
      simp
      omega
theorem itoa_len' {n : Int} (h : numB n = true) : (Lib.itoa n).length ≤ 12 := by
  have h2 := numB_iff.mp h
  have h3 := dlen 9 n.natAbs (by simp; omega)
  unfold Lib.itoa
  by_cases c : n < 0
  · rw [if_pos c]; simp; omega
  · rw [if_neg c, show n.toNat = n.natAbs from by omega]; omega
theorem join_len (l : List (List UInt8)) : (Lib.join l [32]).length ≤ (l.map (fun x => x.length + 1)).sum := by
  cases l with
  | nil => simp [Lib.join_nil]
  | cons x r =>
    rw [Lib.join_cons, List.length_append]
    have : ∀ r : List (List UInt8), (Lib.joinTail [32] r).length = (r.map (fun x => x.length + 1)).sum := by
      intro r
      induction r with
      | nil => rfl
      | cons y r ih =>
        simp only [Lib.joinTail, List.map_cons, List.flatten_cons, List.length_append, List.sum_cons] at ih ⊢
        rw [ih]
        simp
        omega
    rw [this]
    simp
theorem wr_len (xs : List S45) (hg : GoodD xs) : ∀ (d a : Nat), a < xs.length → (wr xs d (a : Int)).length + 1 ≤ 14 * wt xs d (a : Int)
  | 0, a, ha => by simp [wr, wt]
  | d + 1, a, ha => by
    obtain ⟨g1, g2, g3⟩ := hg a ha
    have hw : wt xs (d + 1) (a : Int) = 1 + ((partsM xs (a : Int)).map (wt xs d)).sum := rfl
    simp only [wr]
    by_cases c1 : kindD xs (a : Int) = 1
    · rw [if_pos c1]
      have := itoa_len' (g1 c1)
      omega
    rw [if_neg c1]
    by_cases c2 : kindD xs (a : Int) = 2
    · rw [if_pos c2]
      unfold boolL
      split <;> simp <;> omega
    rw [if_neg c2]
    by_cases c3 : kindD xs (a : Int) = 3
    · rw [if_pos c3]
      have := g3 c3
      rw [data_length]
      omega
    rw [if_neg c3]
    have hj := join_len ((partsM xs (a : Int)).map (wr xs d))
    have hs : ∀ l : List Int, (∀ p ∈ l, ∃ j : Nat, (j : Int) = p ∧ j < xs.length) → ((l.map (wr xs d)).map (fun x => x.length + 1)).sum ≤ 14 * (l.map (wt xs d)).sum := by
      intro l
      induction l with
      | nil => intro _; simp
      | cons p l ih =>
        intro hp
        have h1 := ih (fun q hq => hp q (List.mem_cons_of_mem _ hq))
        obtain ⟨j, e, hj⟩ := hp p (by simp)
        have h2 := wr_len xs hg d j hj
        rw [e] at h2
        simp only [List.map_cons, List.sum_cons]
        omega
    have h4 := hs (partsM xs (a : Int)) (fun p hp => by
      obtain ⟨j, e, h0, h1, _⟩ := parts_mem xs (a : Int) xs.length 0 p hp
      exact ⟨j, e, by omega⟩)
    simp only [List.length_cons, List.length_append, List.length_nil]
    omega
theorem ba_size (l : List UInt8) : (⟨l.toArray⟩ : ByteArray).size = l.length := by simp [ByteArray.size]
theorem ba_eta (s : ByteArray) : (⟨s.data.toList.toArray⟩ : ByteArray) = s := by simp
def txt (xs : List S45) (d : Nat) (p : Int) : ByteArray := ⟨(wr xs d p).toArray⟩
theorem txt_size (xs : List S45) (d : Nat) (p : Int) : (txt xs d p).size = (wr xs d p).length := ba_size _
theorem txt_lists (xs : List S45) (d : Nat) (l : List Int) : (l.map (txt xs d)).map (fun x : ByteArray => x.data.toList) = l.map (wr xs d) := by
  simp [txt]
theorem written_loop (xs : List S45) (d : Nat) (ps : List Int) (hp : ∀ p ∈ ps, Ev (fun k => impl_written.f k xs p) (txt xs d p)) (hl : ps.length ≤ 1048576) (hj : (Lib.join (ps.map (wr xs d)) [32]).length ≤ 1000000) : ∀ (m i : Nat) (acc : List ByteArray), i + m = ps.length → acc = (ps.take i).map (txt xs d) → Ev (fun k => impl_written.l0 k xs acc ps (ps.length : Int) (i : Int)) ⟨(40 :: (Lib.join (ps.map (wr xs d)) [32] ++ [41])).toArray⟩
  | 0, i, acc, h, ha => by
    have e : i = ps.length := by omega
    subst e
    rw [List.take_length] at ha
    have hs : acc.map (fun x : ByteArray => x.data.toList) = ps.map (wr xs d) := by rw [ha, txt_lists]
    have hJ : strings_Join.f acc (⟨#[32]⟩ : ByteArray) = some ⟨(Lib.join (ps.map (wr xs d)) [32]).toArray⟩ := by
      unfold strings_Join.f
      have hs' : acc.map (fun x => x.data.toList) = ps.map (wr xs d) := hs
      rw [hs', if_pos ⟨by rw [ha, List.length_map]; omega, by show (Lib.join _ [32]).length ≤ _; omega⟩]
    have e1 : (⟨#[40]⟩ : ByteArray) ++ ⟨(Lib.join (ps.map (wr xs d)) [32]).toArray⟩ = ⟨(40 :: Lib.join (ps.map (wr xs d)) [32]).toArray⟩ := ba_append [40] _
    have e2 : (⟨(40 :: Lib.join (ps.map (wr xs d)) [32]).toArray⟩ : ByteArray) ++ ⟨#[41]⟩ = ⟨(40 :: Lib.join (ps.map (wr xs d)) [32] ++ [41]).toArray⟩ := ba_append _ [41]
    refine Ev.step (fun k => impl_written.l0.eq_2 _ _ _ _ _ k) (Ev.ifn (by omega) (Ev.bind0 hJ (Ev.ifp (by rw [ba_size]; omega) ?_)))
    rw [e1]
    refine Ev.ifp (by rw [ba_size]; simp; omega) (Ev.leaf ?_)
    rw [e2]
    rfl
  | m + 1, i, acc, h, ha => by
    have hi : i < ps.length := by omega
    have hr : rd ps (i : Int) = ps[i] := by simp [rd, hi]
    refine Ev.step (fun k => impl_written.l0.eq_2 _ _ _ _ _ k) (Ev.ifp (by omega) (Ev.ifp (by omega) (Ev.ifp (by omega) ?_)))
    rw [hr]
    refine Ev.bind (hp _ (List.getElem_mem hi)) (Ev.ifp (by rw [ha, List.length_map, List.length_take]; omega) ?_)
    rw [wrap_succ hi (by omega)]
    refine written_loop xs d ps hp hl hj m (i + 1) _ (by omega) ?_
    rw [ha, List.take_succ_eq_append_getElem hi, List.map_append]
    rfl
theorem write_tail (xs : List S45) (d : Nat) (ps : List Int) (hp : ∀ p ∈ ps, Ev (fun k => spec_l3Write.f k xs p) (txt xs d p)) (hl : ps.length ≤ 1048576) : ∀ (m i : Nat) (A : List UInt8), i + m = ps.length → 1 ≤ i → (A ++ Lib.joinTail [32] ((ps.drop i).map (wr xs d))).length ≤ 1000000 → Ev (fun k => spec_l3Write.l0 k xs ⟨A.toArray⟩ ps (i : Int)) ⟨(A ++ Lib.joinTail [32] ((ps.drop i).map (wr xs d)) ++ [41]).toArray⟩
  | 0, i, A, h, h1, hb => by
    have e : ps.drop i = [] := List.drop_eq_nil_of_le (by omega)
    rw [e] at hb ⊢
    have e0 : Lib.joinTail [32] (List.map (wr xs d) []) = [] := rfl
    rw [e0, List.append_nil] at hb ⊢
    exact Ev.step (fun k => spec_l3Write.l0.eq_2 _ _ _ _ k) (Ev.ifn (by omega) (Ev.ifp (by rw [ba_size]; omega) (Ev.leaf (ba_append A [41]))))
  | m + 1, i, A, h, h1, hb => by
    have hi : i < ps.length := by omega
    have hr : rd ps (i : Int) = ps[i] := by simp [rd, hi]
    rw [List.drop_eq_getElem_cons hi] at hb ⊢
    have e0 : Lib.joinTail [32] (List.map (wr xs d) (ps[i] :: ps.drop (i + 1))) = [32] ++ wr xs d ps[i] ++ Lib.joinTail [32] (List.map (wr xs d) (ps.drop (i + 1))) := rfl
    rw [e0] at hb ⊢
    have e1 : (⟨A.toArray⟩ : ByteArray) ++ ⟨#[32]⟩ = ⟨(A ++ [32]).toArray⟩ := ba_append A [32]
    have e2 : (⟨(A ++ [32]).toArray⟩ : ByteArray) ++ txt xs d ps[i] = ⟨(A ++ [32] ++ wr xs d ps[i]).toArray⟩ := ba_append _ _
    have e3 : A ++ ([32] ++ wr xs d ps[i] ++ Lib.joinTail [32] (List.map (wr xs d) (ps.drop (i + 1)))) = A ++ [32] ++ wr xs d ps[i] ++ Lib.joinTail [32] (List.map (wr xs d) (ps.drop (i + 1))) := by simp
    rw [e3] at hb ⊢
    have hb2 := hb
    simp only [List.length_append, List.length_cons, List.length_nil] at hb2
    refine Ev.step (fun k => spec_l3Write.l0.eq_2 _ _ _ _ k) (Ev.ifp (by omega) (Ev.ifp (by omega) (Ev.ifp (by rw [ba_size]; omega) (Ev.ifp (by omega) ?_))))
    rw [hr, e1]
    refine Ev.bind (hp _ (List.getElem_mem hi)) (Ev.ifp (by rw [txt_size, ba_size]; simp; omega) ?_)
    rw [e2, wrap_succ hi (by omega)]
    exact write_tail xs d ps hp hl m (i + 1) _ (by omega) (by omega) hb
theorem write_loop (xs : List S45) (d : Nat) (ps : List Int) (hp : ∀ p ∈ ps, Ev (fun k => spec_l3Write.f k xs p) (txt xs d p)) (hl : ps.length ≤ 1048576) (hj : (Lib.join (ps.map (wr xs d)) [32]).length ≤ 100000) : Ev (fun k => spec_l3Write.l0 k xs (⟨#[40]⟩ : ByteArray) ps 0) ⟨(40 :: (Lib.join (ps.map (wr xs d)) [32] ++ [41])).toArray⟩ := by
  cases ps with
  | nil => exact Ev.step (fun k => spec_l3Write.l0.eq_2 _ _ _ _ k) (Ev.ifn (by simp) (Ev.ifp (by decide) (Ev.leaf (ba_append [40] [41]))))
  | cons p r =>
    rw [List.map_cons, Lib.join_cons] at hj ⊢
    have hr : rd (p :: r) 0 = p := rfl
    have e1 : (⟨#[40]⟩ : ByteArray) ++ txt xs d p = ⟨([40] ++ wr xs d p).toArray⟩ := ba_append [40] _
    have hj2 := hj
    simp only [List.length_append] at hj2
    have ht := write_tail xs d (p :: r) hp hl r.length 1 ([40] ++ wr xs d p) (by rw [List.length_cons]; omega) (by omega) (by
      show ([40] ++ wr xs d p ++ Lib.joinTail [32] (r.map (wr xs d))).length ≤ 1000000
      simp only [List.length_append, List.length_cons, List.length_nil]
      omega)
    refine Ev.step (fun k => spec_l3Write.l0.eq_2 _ _ _ _ k) (Ev.ifp (by rw [List.length_cons]; omega) (Ev.ifn (by omega) (Ev.ifp (by omega) ?_)))
    rw [hr]
    refine Ev.bind (hp p (by simp)) (Ev.ifp (by rw [txt_size]; have : (⟨#[40]⟩ : ByteArray).size = 1 := rfl; omega) ?_)
    rw [e1, show wrap64 (0 + 1) = ((1 : Nat) : Int) from by rw [wrap_id (by omega) (by omega)]; rfl]
    refine Ev.cast ht ?_
    show _ = (⟨_⟩ : ByteArray)
    congr 2
theorem join_bound (xs : List S45) (hA : Ahead xs xs.length) (hg : GoodD xs) (d a : Nat) (ha : a < xs.length) (hn : xs.length ≤ 80) (h3 : ¬ (kindD xs (a : Int) = 1 ∨ kindD xs (a : Int) = 2 ∨ kindD xs (a : Int) = 3)) : (Lib.join ((partsM xs (a : Int)).map (wr xs d)) [32]).length ≤ 1120 := by
  have h1 := wr_len xs hg (d + 1) a ha
  have h2 := wt_at xs hA (d + 1) a ha
  simp only [wr] at h1
  rw [if_neg (fun z => h3 (.inl z)), if_neg (fun z => h3 (.inr (.inl z))), if_neg (fun z => h3 (.inr (.inr z)))] at h1
  simp only [List.length_cons, List.length_append, List.length_nil] at h1
  omega
theorem both_ev (xs : List S45) (hA : Ahead xs xs.length) (hg : GoodD xs) (hn : xs.length ≤ 80) : ∀ (d a : Nat), a < xs.length → xs.length - a ≤ d → Ev (fun k => impl_written.f k xs (a : Int)) (txt xs d (a : Int)) ∧ Ev (fun k => spec_l3Write.f k xs (a : Int)) (txt xs d (a : Int))
  | 0, a, ha, hd => by omega
  | d + 1, a, ha, hd => by
    obtain ⟨g1, g2, g3⟩ := hg a ha
    by_cases c1 : kindD xs (a : Int) = 1
    · have e : txt xs (d + 1) (a : Int) = dig (rd_T45 xs (a : Int)).f2 := by unfold txt; simp only [wr]; rw [if_pos c1]; rfl
      rw [e]
      exact ⟨Ev.step (fun k => impl_written.f.eq_2 _ _ k) (Ev.ifp (by omega) (Ev.ifp (by omega) (Ev.ifp c1 (Ev.bind0 (dec_eq (g1 c1)) (Ev.now _))))),
        Ev.step (fun k => spec_l3Write.f.eq_2 _ _ k) (Ev.ifp (by omega) (Ev.ifp (by omega) (Ev.ifp c1 (Ev.bind (digits_ev (g1 c1)) (Ev.now _)))))⟩
    by_cases c2 : kindD xs (a : Int) = 2
    · have e : txt xs (d + 1) (a : Int) = ⟨(boolL (rd_T45 xs (a : Int)).f2).toArray⟩ := by unfold txt; simp only [wr]; rw [if_neg c1, if_pos c2]
      rw [e]
      have hb := g2 c2
      generalize hN : (rd_T45 xs (a : Int)).f2 = N at hb
      refine ⟨Ev.step (fun k => impl_written.f.eq_2 _ _ k) (Ev.ifp (by omega) (Ev.ifp (by omega) (Ev.ifn c1 (Ev.ifp c2 (Ev.bind0 (a := ⟨(boolL N).toArray⟩) ?_ (Ev.now _)))))),
        Ev.step (fun k => spec_l3Write.f.eq_2 _ _ k) (Ev.ifp (by omega) (Ev.ifp (by omega) (Ev.ifn c1 (Ev.ifp c2 (Ev.bind0 rfl ?_)))))⟩
      · rw [hN]
        unfold impl_boolText.f boolL
        split <;> rfl
      · rw [hN]
        refine Ev.ifp hb.1 (Ev.ifp (by simp; omega) (Ev.leaf ?_))
        by_cases z : N = 1
        · subst z; rfl
        · obtain rfl : N = 0 := by omega
          rfl
    by_cases c3 : kindD xs (a : Int) = 3
    · have e : txt xs (d + 1) (a : Int) = (rd_T45 xs (a : Int)).f3 := by unfold txt; simp only [wr]; rw [if_neg c1, if_neg c2, if_pos c3, ba_eta]
      rw [e]
      exact ⟨Ev.step (fun k => impl_written.f.eq_2 _ _ k) (Ev.ifp (by omega) (Ev.ifp (by omega) (Ev.ifn c1 (Ev.ifn c2 (Ev.ifp c3 (Ev.now _)))))),
        Ev.step (fun k => spec_l3Write.f.eq_2 _ _ k) (Ev.ifp (by omega) (Ev.ifp (by omega) (Ev.ifn c1 (Ev.ifn c2 (Ev.ifp c3 (Ev.now _))))))⟩
    have e : txt xs (d + 1) (a : Int) = ⟨(40 :: (Lib.join ((partsM xs (a : Int)).map (wr xs d)) [32] ++ [41])).toArray⟩ := by unfold txt; simp only [wr]; rw [if_neg c1, if_neg c2, if_neg c3]
    rw [e]
    have hj := join_bound xs hA hg d a ha hn (by rintro (z | z | z) <;> contradiction)
    have hpl : (partsM xs (a : Int)).length ≤ 1048576 := by
      have := partsU_length xs (a : Int) xs.length 0
      unfold partsM
      omega
    have hp : ∀ p ∈ partsM xs (a : Int), Ev (fun k => impl_written.f k xs p) (txt xs d p) ∧ Ev (fun k => spec_l3Write.f k xs p) (txt xs d p) := by
      intro p hp
      obtain ⟨j, rfl, h0, h1, h2⟩ := parts_mem xs (a : Int) xs.length 0 p hp
      have hj := hA j (by omega)
      exact both_ev xs hA hg hn d j (by omega) (by omega)
    exact ⟨Ev.step (fun k => impl_written.f.eq_2 _ _ k) (Ev.ifp (by omega) (Ev.ifp (by omega) (Ev.ifn c1 (Ev.ifn c2 (Ev.ifn c3 (Ev.bind (implParts_ev xs (a : Int) (by omega)) (written_loop xs d _ (fun p z => (hp p z).1) hpl (by omega) (partsM xs (a : Int)).length 0 [] (by omega) rfl))))))),
      Ev.step (fun k => spec_l3Write.f.eq_2 _ _ k) (Ev.ifp (by omega) (Ev.ifp (by omega) (Ev.ifn c1 (Ev.ifn c2 (Ev.ifn c3 (Ev.bind (specParts_ev xs (a : Int) (by omega)) (write_loop xs d _ (fun p z => (hp p z).2) hpl (by omega))))))))⟩
theorem data_len80' {xs : List S45} (h : dataM xs = 0) : 1 ≤ xs.length ∧ xs.length ≤ 80 := by
  unfold dataM at h
  split at h
  · rename_i c
    have := inB_iff.mp c
    omega
  · omega
theorem on_trans {xs : List S45} {n : Nat} (hA : Ahead xs n) {p a : Int} : ∀ (m : Nat) (j : Int), j < m → j < n → onB xs j p = true → onB xs p a = true → onB xs j a = true
  | 0, j, h0, h1, h2, h3 => by rw [on_neg (by omega)] at h2; cases h2
  | m + 1, j, h0, h1, h2, h3 => by
    by_cases hj : j < 0
    · rw [on_neg hj] at h2; cases h2
    rw [on_step hA (by omega) h1] at h2
    by_cases e : j = p
    · subst e; exact h3
    · rw [if_neg e] at h2
      have hp := par_lt hA (by omega : 0 ≤ j) h1
      have := on_trans hA m (parD xs j) (by omega) (by omega) h2 h3
      rw [on_step hA (by omega) h1]
      split
      · rfl
      · exact this
theorem on_past {xs : List S45} (h : dataM xs = 0) (a j0 : Nat) (h0 : a < j0) (hj0 : j0 < xs.length) (hp : parD xs (j0 : Int) < (a : Int)) : ∀ d : Nat, j0 + d < xs.length → onB xs ((j0 + d : Nat) : Int) (a : Int) = false
  | 0, hd => by
    have hA := data_ahead h
    cases c : onB xs ((j0 + 0 : Nat) : Int) (a : Int)
    · rfl
    · rw [Nat.add_zero, on_step hA (by omega) (by omega), if_neg (by omega)] at c
      have := on_dep hA xs.length (parD xs (j0 : Int)) (by omega) (by omega) c
      omega
  | d + 1, hd => by
    have hA := data_ahead h
    have ih := on_past h a j0 h0 hj0 hp d (by omega)
    cases c : onB xs ((j0 + (d + 1) : Nat) : Int) (a : Int)
    · rfl
    · exfalso
      rw [on_step hA (by omega) (by omega), if_neg (by omega)] at c
      obtain ⟨p0, p1, p2⟩ := data_line h (j0 + (d + 1)) (by omega) hd
      rw [show (((j0 + (d + 1) : Nat) : Int) - 1) = ((j0 + d : Nat) : Int) from by omega] at p1 p2
      have := on_trans hA xs.length ((j0 + d : Nat) : Int) (by omega) (by omega) p2 c
      rw [ih] at this
      cases this
def cntD (xs : List S45) (a : Int) : Nat := sumU (fun j => if onB xs (j : Int) a = true then 1 else 0) xs.length 0
theorem sub_cnt {xs : List S45} (h : dataM xs = 0) (a : Nat) : ∀ (d i : Nat), i + d = xs.length → a < i → onB xs ((i : Int) - 1) a = true → (subU xs a d i).length = sumU (fun j => if onB xs (j : Int) (a : Int) = true then 1 else 0) d i
  | 0, i, hd, hi, ho => rfl
  | d + 1, i, hd, hi, ho => by
    have hA := data_ahead h
    obtain ⟨p0, p1, p2⟩ := data_line h i (by omega) (by omega)
    simp only [subU]
    by_cases c : parD xs (i : Int) < (a : Int)
    · rw [if_pos c, sumU_zero (g := fun j => if onB xs (j : Int) (a : Int) = true then 1 else 0)]
      · rfl
      · intro j h0 h1
        have := on_past h a i hi (by omega) c (j - i) (by omega)
        rw [show i + (j - i) = j from by omega] at this
        exact if_neg (by rw [this]; decide)
    · have hup := on_line hA (by omega : (a : Int) ≤ parD xs (i : Int)) i ((i : Int) - 1) (by omega) (by omega) p2 ho
      have hon : onB xs (i : Int) (a : Int) = true := by
        rw [on_step hA (by omega) (by omega), if_neg (by omega)]
        exact hup
      rw [if_neg c, List.length_cons, sub_cnt h a d (i + 1) (by omega) (by omega) (by rw [show (((i + 1 : Nat) : Int) - 1) = (i : Int) from by omega]; exact hon)]
      simp only [sumU]
      rw [if_pos hon]
      omega
theorem sumU_split (g : Nat → Nat) : ∀ (a d s : Nat), sumU g (a + d) s = sumU g a s + sumU g d (s + a)
  | 0, d, s => by rw [Nat.zero_add]; simp [sumU]
  | a + 1, d, s => by
    rw [show a + 1 + d = (a + d) + 1 from by omega]
    simp only [sumU]
    rw [sumU_split g a d (s + 1), show s + 1 + a = s + (a + 1) from by omega]
    omega
theorem subM_cnt {xs : List S45} (h : dataM xs = 0) (a : Nat) (ha : a < xs.length) : (subM xs a).length = cntD xs (a : Int) := by
  have hA := data_ahead h
  have hself : onB xs (a : Int) (a : Int) = true := by rw [on_step hA (by omega) (by omega), if_pos rfl]
  have h1 := sub_cnt h a (xs.length - (a + 1)) (a + 1) (by omega) (by omega) (by rw [show (((a + 1 : Nat) : Int) - 1) = (a : Int) from by omega]; exact hself)
  unfold subM cntD
  rw [List.length_cons, h1]
  have h2 := sumU_split (fun j => if onB xs (j : Int) (a : Int) = true then 1 else 0) a (xs.length - a) 0
  rw [show a + (xs.length - a) = xs.length from by omega, Nat.zero_add] at h2
  rw [h2, sumU_zero (g := fun j => if onB xs (j : Int) (a : Int) = true then 1 else 0) a 0 (fun j h0 h3 => if_neg (fun c => by
    have := on_dep hA xs.length (j : Int) (by omega) (by omega) c
    omega))]
  rw [show xs.length - a = (xs.length - (a + 1)) + 1 from by omega]
  simp only [sumU]
  rw [if_pos hself]
  omega
theorem on_parts {xs : List S45} (hA : Ahead xs xs.length) (a : Nat) : ∀ (m : Nat) (j : Int), j < m → 0 ≤ j → j < xs.length → (if onB xs j (a : Int) = true then 1 else 0) = (if j = (a : Int) then 1 else 0) + sumU (fun k => if parD xs (k : Int) = (a : Int) then (if onB xs j (k : Int) = true then 1 else 0) else 0) xs.length 0
  | 0, j, h0, h1, h2 => by omega
  | m + 1, j, h0, h1, h2 => by
    obtain ⟨i, rfl⟩ : ∃ i : Nat, (i : Int) = j := ⟨j.toNat, Int.toNat_of_nonneg h1⟩
    have hi : i < xs.length := by omega
    have hp := par_lt hA h1 h2
    by_cases e : (i : Int) = (a : Int)
    · have e' : i = a := by omega
      subst e'
      rw [if_pos rfl, if_pos (by rw [on_step hA h1 h2, if_pos rfl]), sumU_zero]
      intro k _ hk
      by_cases c : parD xs (k : Int) = (i : Int)
      · rw [if_pos c, if_neg]
        intro z
        have := on_dep hA xs.length (i : Int) (by omega) (by omega) z
        have := par_lt hA (j := (k : Int)) (by omega) (by omega)
        omega
      · rw [if_neg c]
    · rw [if_neg e, Nat.zero_add, on_step hA h1 h2, if_neg e]
      have hsum : sumU (fun k => if parD xs (k : Int) = (a : Int) then (if onB xs (i : Int) (k : Int) = true then 1 else 0) else 0) xs.length 0 = (if parD xs (i : Int) = (a : Int) then 1 else 0) + sumU (fun k => if parD xs (k : Int) = (a : Int) then (if onB xs (parD xs (i : Int)) (k : Int) = true then 1 else 0) else 0) xs.length 0 := by
        have key : ∀ d s, sumU (fun k => if parD xs (k : Int) = (a : Int) then (if onB xs (i : Int) (k : Int) = true then 1 else 0) else 0) d s = (if s ≤ i ∧ i < s + d ∧ parD xs (i : Int) = (a : Int) then 1 else 0) + sumU (fun k => if parD xs (k : Int) = (a : Int) then (if onB xs (parD xs (i : Int)) (k : Int) = true then 1 else 0) else 0) d s := by
          intro d
          induction d with
          | zero =>
            intro s
            simp only [sumU]
            rw [if_neg (show ¬ (s ≤ i ∧ i < s + 0 ∧ parD xs (i : Int) = (a : Int)) by omega)]
          | succ d ih =>
            intro s
            simp only [sumU]
            rw [ih (s + 1)]
            by_cases q : i = s
            · subst q
              have z1 : ¬ (i + 1 ≤ i ∧ i < i + 1 + d ∧ parD xs (i : Int) = (a : Int)) := by omega
              have o : onB xs (i : Int) (i : Int) = true := by rw [on_step hA h1 h2, if_pos rfl]
              have hn : ¬ onB xs (parD xs (i : Int)) (i : Int) = true := by
                intro z
                have := on_dep hA xs.length (parD xs (i : Int)) (by omega) (by omega) z
                omega
              rw [if_neg z1]
              by_cases c : parD xs (i : Int) = (a : Int)
              · have z2 : i ≤ i ∧ i < i + (d + 1) ∧ parD xs (i : Int) = (a : Int) := ⟨Nat.le_refl _, by omega, c⟩
                rw [if_pos z2, if_pos c, if_pos c, if_pos o, if_neg hn]
                try omega
              · have z2 : ¬ (i ≤ i ∧ i < i + (d + 1) ∧ parD xs (i : Int) = (a : Int)) := fun z => c z.2.2
                rw [if_neg z2, if_neg c, if_neg c]
            · have o : onB xs (i : Int) (s : Int) = onB xs (parD xs (i : Int)) (s : Int) := by rw [on_step hA h1 h2, if_neg (show ¬ (i : Int) = (s : Int) by omega)]
              rw [o]
              by_cases w : s + 1 ≤ i ∧ i < s + 1 + d ∧ parD xs (i : Int) = (a : Int)
              · rw [if_pos w, if_pos (show s ≤ i ∧ i < s + (d + 1) ∧ parD xs (i : Int) = (a : Int) from ⟨by omega, by omega, w.2.2⟩)]
                omega
              · rw [if_neg w, if_neg (show ¬ (s ≤ i ∧ i < s + (d + 1) ∧ parD xs (i : Int) = (a : Int)) by omega)]
                omega
        rw [key xs.length 0]
        by_cases c : parD xs (i : Int) = (a : Int)
        · rw [if_pos c, if_pos (show 0 ≤ i ∧ i < 0 + xs.length ∧ parD xs (i : Int) = (a : Int) from ⟨by omega, by omega, c⟩)]
        · rw [if_neg c, if_neg (show ¬ (0 ≤ i ∧ i < 0 + xs.length ∧ parD xs (i : Int) = (a : Int)) from fun z => c z.2.2)]
      rw [hsum]
      by_cases n : parD xs (i : Int) < 0
      · rw [on_neg n, if_neg (by decide), if_neg (by omega), sumU_zero]
        intro k _ hk
        split
        · exact if_neg (by rw [on_neg n]; decide)
        · rfl
      · exact on_parts hA a m (parD xs (i : Int)) (by omega) (by omega) (by omega)
theorem sumU_add (g1 g2 : Nat → Nat) : ∀ d s, sumU (fun j => g1 j + g2 j) d s = sumU g1 d s + sumU g2 d s
  | 0, s => rfl
  | d + 1, s => by
    simp only [sumU]
    rw [sumU_add g1 g2 d (s + 1)]
    omega
theorem sumU_comm (f : Nat → Nat → Nat) (n : Nat) : ∀ d s, sumU (fun j => sumU (fun k => f j k) n 0) d s = sumU (fun k => sumU (fun j => f j k) d s) n 0
  | 0, s => by
    simp only [sumU]
    rw [sumU_zero _ _ (fun j _ _ => rfl)]
  | d + 1, s => by
    simp only [sumU]
    rw [sumU_comm f n d (s + 1), sumU_add]
theorem sumU_one (a : Nat) : ∀ d s, s ≤ a → a < s + d → sumU (fun j => if (j : Int) = (a : Int) then 1 else 0) d s = 1
  | 0, s, h0, h1 => by omega
  | d + 1, s, h0, h1 => by
    simp only [sumU]
    by_cases c : s = a
    · subst c
      rw [if_pos rfl, sumU_zero _ _ (fun j h2 _ => if_neg (by omega))]
    · rw [if_neg (by omega), sumU_one a d (s + 1) (by omega) (by omega)]
theorem cnt_parts {xs : List S45} (hA : Ahead xs xs.length) (a : Nat) (ha : a < xs.length) : cntD xs (a : Int) = 1 + ((partsM xs (a : Int)).map (cntD xs)).sum := by
  unfold partsM
  rw [parts_sum xs (a : Int) (cntD xs) xs.length 0]
  have h1 : cntD xs (a : Int) = sumU (fun j => (if (j : Int) = (a : Int) then 1 else 0) + sumU (fun k => if parD xs (k : Int) = (a : Int) then (if onB xs (j : Int) (k : Int) = true then 1 else 0) else 0) xs.length 0) xs.length 0 :=
    sumU_same (fun j _ h => on_parts hA a (j + 1) (j : Int) (by omega) (by omega) (by omega))
  rw [h1, sumU_add, sumU_one a xs.length 0 (by omega) (by omega), sumU_comm]
  congr 1
  refine sumU_same (fun k _ _ => ?_)
  show sumU (fun j => if parD xs (k : Int) = (a : Int) then (if onB xs (j : Int) (k : Int) = true then 1 else 0) else 0) xs.length 0 = if parD xs (k : Int) = (a : Int) then cntD xs (k : Int) else 0
  by_cases c : parD xs (k : Int) = (a : Int)
  · rw [if_pos c]
    exact sumU_same (fun j _ _ => if_pos c)
  · rw [if_neg c]
    exact sumU_zero _ _ (fun j _ _ => if_neg c)
theorem subU_get (xs : List S45) (a : Int) : ∀ d i t (ht : t < (subU xs a d i).length), (subU xs a d i)[t] = elemS xs a ((i + t : Nat) : Int) ∧ a ≤ parD xs ((i + t : Nat) : Int)
  | 0, i, t, ht => by simp [subU] at ht
  | d + 1, i, t, ht => by
    by_cases c : parD xs (i : Int) < a
    · have e : subU xs a (d + 1) i = [] := by simp only [subU]; rw [if_pos c]
      rw [e] at ht
      simp at ht
    · have e : subU xs a (d + 1) i = elemS xs a (i : Int) :: subU xs a d (i + 1) := by simp only [subU]; rw [if_neg c]
      cases t with
      | zero =>
        refine ⟨?_, by rw [Nat.add_zero]; omega⟩
        simp [e]
      | succ t =>
        have ht' : t < (subU xs a d (i + 1)).length := by rw [e, List.length_cons] at ht; omega
        have ih := subU_get xs a d (i + 1) t ht'
        rw [show i + 1 + t = i + (t + 1) from by omega] at ih
        refine ⟨?_, ih.2⟩
        simp only [e, List.getElem_cons_succ]
        exact ih.1
theorem sub_len_le (xs : List S45) (a : Nat) (ha : a < xs.length) : (subM xs a).length ≤ xs.length - a := by
  have := subU_length xs (a : Int) (xs.length - (a + 1)) (a + 1)
  simp only [subM, List.length_cons]
  omega
theorem sub_par0 (xs : List S45) (a : Nat) : parD (subM xs a) ((0 : Nat) : Int) = -1 := rfl
theorem sub_at {xs : List S45} (h : dataM xs = 0) (a : Nat) (ha : a < xs.length) (t : Nat) (h0 : 1 ≤ t) (ht : t < (subM xs a).length) : rd_T45 (subM xs a) (t : Int) = ⟨(rd_T45 xs ((a + t : Nat) : Int)).f0, parD xs ((a + t : Nat) : Int) - a, (rd_T45 xs ((a + t : Nat) : Int)).f2, (rd_T45 xs ((a + t : Nat) : Int)).f3⟩ ∧ (a : Int) ≤ parD xs ((a + t : Nat) : Int) := by
  have hl := sub_len_le xs a ha
  have hn := data_len80' h
  have ht' : t - 1 < (subU xs (a : Int) (xs.length - (a + 1)) (a + 1)).length := by simp only [subM, List.length_cons] at ht; omega
  obtain ⟨e, p⟩ := subU_get xs (a : Int) _ (a + 1) (t - 1) ht'
  rw [show a + 1 + (t - 1) = a + t from by omega] at e p
  have hA := data_ahead h (a + t) (by omega)
  refine ⟨?_, p⟩
  rw [rdDf_at ht]
  have e2 : (subM xs a)[t] = (subU xs (a : Int) (xs.length - (a + 1)) (a + 1))[t - 1] := by
    simp only [subM]
    obtain ⟨u, rfl⟩ : ∃ u, t = u + 1 := ⟨t - 1, by omega⟩
    simp
  rw [e2, e]
  unfold elemS
  rw [wrap_id (x := (rd_T45 xs ((a + t : Nat) : Int)).f1 - (a : Int)) (by show _ ≤ parD xs ((a + t : Nat) : Int) - (a : Int); omega) (by show parD xs ((a + t : Nat) : Int) - (a : Int) ≤ _; omega)]
  rfl
theorem sub_ahead {xs : List S45} (h : dataM xs = 0) (a : Nat) (ha : a < xs.length) : Ahead (subM xs a) (subM xs a).length := by
  intro j hj
  have hl := sub_len_le xs a ha
  by_cases c : j = 0
  · subst c; rw [sub_par0]; omega
  · have e := (sub_at h a ha j (by omega) hj).1
    have hA := data_ahead h (a + j) (by omega)
    have : parD (subM xs a) (j : Int) = parD xs ((a + j : Nat) : Int) - a := by unfold parD; rw [e]; rfl
    omega
theorem sub_par {xs : List S45} (h : dataM xs = 0) (a : Nat) (ha : a < xs.length) (j : Nat) (h0 : 1 ≤ j) (hj : j < (subM xs a).length) : parD (subM xs a) (j : Int) = parD xs ((a + j : Nat) : Int) - a := by
  have e := (sub_at h a ha j h0 hj).1
  unfold parD; rw [e]; rfl
theorem dep_pos (xs : List S45) : ∀ (d : Nat) (a c : Int), c ≤ deepN xs d a c
  | 0, a, c => by simp [deepN]
  | d + 1, a, c => by
    simp only [deepN]
    split
    · have := dep_pos xs d (parD xs a) (c + 1)
      omega
    · omega
theorem on_sub {xs : List S45} (h : dataM xs = 0) (a : Nat) (ha : a < xs.length) (q : Nat) : ∀ (m j : Nat), j < m → j < (subM xs a).length → onB xs ((a + j : Nat) : Int) ((a + q : Nat) : Int) = true → onB (subM xs a) (j : Int) (q : Int) = true
  | 0, j, h0, h1, h2 => by omega
  | m + 1, j, h0, h1, h2 => by
    have hA := data_ahead h
    have hB := sub_ahead h a ha
    have hl := sub_len_le xs a ha
    rw [on_step hB (by omega) (by omega)]
    by_cases c : (j : Int) = (q : Int)
    · rw [if_pos c]
    · rw [if_neg c]
      rw [on_step hA (by omega) (by omega), if_neg (by omega)] at h2
      have hd := on_dep hA xs.length (parD xs ((a + j : Nat) : Int)) (by have := par_lt hA (j := ((a + j : Nat) : Int)) (by omega) (by omega); omega) (by have := par_lt hA (j := ((a + j : Nat) : Int)) (by omega) (by omega); omega) h2
      have hp := par_lt hA (j := ((a + j : Nat) : Int)) (by omega) (by omega)
      by_cases c0 : j = 0
      · exfalso; subst c0; omega
      · rw [sub_par h a ha j (by omega) h1]
        obtain ⟨i, hi⟩ : ∃ i : Nat, (i : Int) = parD xs ((a + j : Nat) : Int) - a := ⟨(parD xs ((a + j : Nat) : Int) - a).toNat, Int.toNat_of_nonneg (by omega)⟩
        rw [← hi]
        exact on_sub h a ha q m i (by omega) (by omega) (by rw [show ((a + i : Nat) : Int) = parD xs ((a + j : Nat) : Int) from by omega]; exact h2)
theorem dep_sub {xs : List S45} (h : dataM xs = 0) (a : Nat) (ha : a < xs.length) : ∀ (m j : Nat), j < m → j < (subM xs a).length → dep (subM xs a) (j : Int) ≤ dep xs ((a + j : Nat) : Int)
  | 0, j, h0, h1 => by omega
  | m + 1, j, h0, h1 => by
    have hA := data_ahead h
    have hB := sub_ahead h a ha
    have hl := sub_len_le xs a ha
    rw [dep_step hB (by omega) (by omega), dep_step hA (j := ((a + j : Nat) : Int)) (by omega) (by omega)]
    by_cases c0 : j = 0
    · subst c0
      rw [sub_par0, dep_neg (by omega)]
      have := dep_pos xs ((parD xs ((a + 0 : Nat) : Int)).toNat + 1) (parD xs ((a + 0 : Nat) : Int)) 0
      unfold dep
      omega
    · have hg := (sub_at h a ha j (by omega) h1).2
      have hp := par_lt hA (j := ((a + j : Nat) : Int)) (by omega) (by omega)
      rw [sub_par h a ha j (by omega) h1]
      obtain ⟨i, hi⟩ : ∃ i : Nat, (i : Int) = parD xs ((a + j : Nat) : Int) - a := ⟨(parD xs ((a + j : Nat) : Int) - a).toNat, Int.toNat_of_nonneg (by omega)⟩
      rw [← hi, show parD xs ((a + j : Nat) : Int) = ((a + i : Nat) : Int) from by omega]
      have := dep_sub h a ha m i (by omega) (by omega)
      omega
theorem runU_all0 {B : Nat → Option Int} {e : Int} : ∀ d i, (∀ q, i ≤ q → q < i + d → B q = none) → runU B e d i = e
  | 0, _, _ => rfl
  | d + 1, i, h => by
    simp only [runU]
    rw [h i (Nat.le_refl _) (by omega)]
    exact runU_all0 d (i + 1) (fun q h0 h1 => h q (by omega) (by omega))
theorem sub_ok {xs : List S45} (h : dataM xs = 0) (a : Nat) (ha : a < xs.length) : dataM (subM xs a) = 0 := by
  have hl := sub_len_le xs a ha
  have hn := data_len80' h
  have h1 : 1 ≤ (subM xs a).length := by simp [subM]
  have hA := data_ahead h
  have hB := sub_ahead h a ha
  unfold dataM
  rw [if_pos (inB_iff.mpr (by omega))]
  refine runU_all0 _ _ (fun t _ ht => ?_)
  have ht' : t < (subM xs a).length := by omega
  have hx := data_none h (a + t) (by omega)
  unfold datAt at hx ⊢
  rw [dif_pos (by omega)] at hx
  rw [dif_pos ht']
  unfold datStep at hx ⊢
  have ex : xs[a + t]'(by omega) = rd_T45 xs ((a + t : Nat) : Int) := (rdDf_at (by omega)).symm
  rw [ex] at hx
  by_cases c0 : t = 0
  · subst c0
    have e0 : (subM xs a)[0]'ht' = firstS xs a := rfl
    rw [e0]
    have f0 : (firstS xs (a : Int)).f0 = (rd_T45 xs ((a + 0 : Nat) : Int)).f0 := rfl
    have f2 : (firstS xs (a : Int)).f2 = (rd_T45 xs ((a + 0 : Nat) : Int)).f2 := rfl
    have f3 : (firstS xs (a : Int)).f3 = (rd_T45 xs ((a + 0 : Nat) : Int)).f3 := rfl
    have f1 : (firstS xs (a : Int)).f1 = -1 := rfl
    rw [f0, f2, f3, f1]
    by_cases b1 : bareB (rd_T45 xs ((a + 0 : Nat) : Int)).f0 (rd_T45 xs ((a + 0 : Nat) : Int)).f2 (rd_T45 xs ((a + 0 : Nat) : Int)).f3 = true
    · rw [if_pos b1] at hx ⊢
      by_cases b2 : kindM (rd_T45 xs ((a + 0 : Nat) : Int)).f0 1 3 2 (rd_T45 xs ((a + 0 : Nat) : Int)).f2 (rd_T45 xs ((a + 0 : Nat) : Int)).f3 = 0
      · rw [if_pos b2, if_pos rfl, if_pos rfl]
      · rw [if_neg b2] at hx; cases hx
    · rw [if_neg b1] at hx; cases hx
  · obtain ⟨e, pge⟩ := sub_at h a ha t (by omega) ht'
    have e0 : (subM xs a)[t]'ht' = rd_T45 (subM xs a) (t : Int) := (rdDf_at ht').symm
    rw [e0, e]
    show (if bareB _ _ _ = true then _ else _) = none
    by_cases b1 : bareB (rd_T45 xs ((a + t : Nat) : Int)).f0 (rd_T45 xs ((a + t : Nat) : Int)).f2 (rd_T45 xs ((a + t : Nat) : Int)).f3 = true
    · rw [if_pos b1] at hx ⊢
      by_cases b2 : kindM (rd_T45 xs ((a + t : Nat) : Int)).f0 1 3 2 (rd_T45 xs ((a + t : Nat) : Int)).f2 (rd_T45 xs ((a + t : Nat) : Int)).f3 = 0
      · rw [if_pos b2] at hx ⊢
        rw [if_neg (by omega)] at hx ⊢
        obtain ⟨p0, p1, p2⟩ := data_line h (a + t) (by omega) (by omega)
        have i1 : inB (parD xs ((a + t : Nat) : Int) - (a : Int)) 0 ((t : Int) - 1) = true := inB_iff.mpr (by omega)
        rw [if_pos i1]
        have i2 : inB (rd_T45 xs ((a + t : Nat) : Int)).f1 0 (((a + t : Nat) : Int) - 1) = true := inB_iff.mpr ⟨p0, p1⟩
        rw [if_pos i2] at hx
        by_cases b3 : (upB xs (a + t) (((a + t : Nat) : Int) - 1) (rd_T45 xs ((a + t : Nat) : Int)).f1 && kindD xs (rd_T45 xs ((a + t : Nat) : Int)).f1 == 4) = true
        · rw [if_pos b3] at hx
          rw [Bool.and_eq_true] at b3
          obtain ⟨q, hq⟩ : ∃ q : Nat, (q : Int) = parD xs ((a + t : Nat) : Int) - a := ⟨(parD xs ((a + t : Nat) : Int) - a).toNat, Int.toNat_of_nonneg (by omega)⟩
          have u : upB (subM xs a) t ((t : Int) - 1) (parD xs ((a + t : Nat) : Int) - a) = true := by
            have o := on_sub h a ha q t (t - 1) (by omega) (by omega) (by
              rw [show ((a + q : Nat) : Int) = parD xs ((a + t : Nat) : Int) from by omega, show ((a + (t - 1) : Nat) : Int) = ((a + t : Nat) : Int) - 1 from by omega]
              exact p2)
            unfold onB at o
            rw [Int.toNat_natCast, show t - 1 + 1 = t from by omega, show ((t - 1 : Nat) : Int) = (t : Int) - 1 from by omega, hq] at o
            exact o
          have kd : kindD (subM xs a) (parD xs ((a + t : Nat) : Int) - a) = kindD xs (parD xs ((a + t : Nat) : Int)) := by
            rw [← hq]
            by_cases q0 : q = 0
            · subst q0
              rw [show parD xs ((a + t : Nat) : Int) = (a : Int) from by omega]
              rfl
            · have e3 := (sub_at h a ha q (by omega) (by omega)).1
              unfold kindD
              rw [e3, show parD xs ((a + t : Nat) : Int) = ((a + q : Nat) : Int) from by omega]
          rw [if_pos (by rw [u, kd, Bool.true_and]; exact b3.2)]
          by_cases b4 : 12 < deepN xs (a + t + 1) ((a + t : Nat) : Int) 0
          · rw [if_pos b4] at hx; cases hx
          · have dd := dep_sub h a ha (t + 1) t (by omega) ht'
            unfold dep at dd
            rw [Int.toNat_natCast, Int.toNat_natCast] at dd
            rw [if_neg (by omega)]
        · rw [if_neg b3] at hx; cases hx
      · rw [if_neg b2] at hx; cases hx
    · rw [if_neg b1] at hx; cases hx
def okB (l : List Int) : Prop := l.length ≤ 1048576 ∧ ∀ y ∈ l, 0 ≤ y ∧ y ≤ 255
theorem rdb (l : List Int) (h : okB l) (i : Int) : 0 ≤ rd l i ∧ rd l i ≤ 255 := by
  unfold rd
  by_cases c : i.toNat < l.length
  · have := h.2 (l.getD i.toNat 0) (by simp [List.getD, c])
    exact this
  · simp [List.getD, c]
theorem tmod_lt' {a b : Int} (ha : 0 ≤ a) (hb : 0 < b) : 0 ≤ Int.tmod a b ∧ Int.tmod a b < b := ⟨Int.tmod_nonneg b ha, Int.tmod_lt_of_pos a hb⟩
theorem next_eq (l : List Int) (hl : okB l) (s n : Int) (h0 : 0 ≤ s) (h1 : s ≤ 1000000000) (hn : n ≤ 1000000000) : ∃ v, spec_l1Next.f l s n = some (v, s + 1) ∧ 0 ≤ v ∧ (1 ≤ n → v < n) ∧ (n < 1 → v = 0) := by
  have hlen := hl.1
  unfold spec_l1Next.f
  rw [wrap_id (x := s + 1) (by omega) (by omega)]
  by_cases c : n < 1
  · exact ⟨0, by rw [if_pos c], by omega, by omega, fun _ => rfl⟩
  · rw [if_neg c, show s + 1 - 1 = s from by omega, wrap_id (x := s) (by omega) (by omega)]
    by_cases c1 : (l.length : Int) = 0
    · rw [if_pos c1, if_neg (by omega), wrap_id (x := s * 7) (by omega) (by omega)]
      have := tmod_lt' (a := s * 7) (b := n) (by omega) (by omega)
      exact ⟨_, rfl, this.1, fun _ => this.2, fun h => absurd h c⟩
    · have hp : (0 : Int) < l.length := by omega
      have m1 := tmod_lt' h0 hp
      have m2 := tmod_lt' (a := s + 1) (b := (l.length : Int)) (by omega) hp
      have d1 : 0 ≤ Int.tdiv s (l.length : Int) ∧ Int.tdiv s (l.length : Int) ≤ s := by
        rw [Int.tdiv_eq_ediv_of_nonneg h0]
        exact ⟨Int.ediv_nonneg h0 (by omega), Int.ediv_le_self _ h0⟩
      have r1 := rdb l hl (Int.tmod s (l.length : Int))
      have r2 := rdb l hl (Int.tmod (s + 1) (l.length : Int))
      rw [if_neg c1, if_pos m1.1, if_pos m1.2]
      by_cases c2 : n > 200
      · rw [if_pos c2, wrap_id (x := s + 1) (by omega) (by omega), if_pos m2.1, if_pos m2.2, if_neg (by omega)]
        generalize hq : Int.tdiv s (l.length : Int) = q at d1
        generalize ha : rd l (Int.tmod s (l.length : Int)) = a at r1
        generalize hb : rd l (Int.tmod (s + 1) (l.length : Int)) = b at r2
        rw [wrap_id (x := a) (by omega) (by omega), wrap_id (x := q) (by omega) (by omega), wrap_id (x := q * 37) (by omega) (by omega), wrap_id (x := a + q * 37) (by omega) (by omega), wrap_id (x := b) (by omega) (by omega), wrap_id (x := b * 13) (by omega) (by omega), wrap_id (x := (a + q * 37) * 251) (by omega) (by omega), wrap_id (x := (a + q * 37) * 251 + b * 13) (by omega) (by omega), wrap_id (x := (a + q * 37) * 251 + b * 13 + s) (by omega) (by omega)]
        have := tmod_lt' (a := (a + q * 37) * 251 + b * 13 + s) (b := n) (by omega) (by omega)
        exact ⟨_, rfl, this.1, fun _ => this.2, fun h => absurd h c⟩
      · rw [if_neg c2, if_neg (by omega)]
        generalize hq : Int.tdiv s (l.length : Int) = q at d1
        generalize ha : rd l (Int.tmod s (l.length : Int)) = a at r1
        rw [wrap_id (x := a) (by omega) (by omega), wrap_id (x := q) (by omega) (by omega), wrap_id (x := q * 37) (by omega) (by omega), wrap_id (x := a + q * 37) (by omega) (by omega)]
        have := tmod_lt' (a := a + q * 37) (b := n) (by omega) (by omega)
        exact ⟨_, rfl, this.1, fun _ => this.2, fun h => absurd h c⟩
theorem pick_eq (l : List Int) (hl : okB l) (s : Int) (xs : List Int) (h0 : 0 ≤ s) (h1 : s ≤ 1000000000) (hx : 0 < xs.length) (hx1 : xs.length ≤ 1000) : ∃ v, spec_l1Pick.f l s xs = some (v, s + 1) ∧ v ∈ xs := by
  obtain ⟨v, hv, v0, v1, _⟩ := next_eq l hl s (xs.length : Int) h0 h1 (by omega)
  have v2 := v1 (by omega)
  unfold spec_l1Pick.f
  rw [hv, Option.bind_some, if_pos v0, if_pos v2]
  refine ⟨_, rfl, ?_⟩
  unfold rd
  have hi : v.toNat < xs.length := by omega
  simp [List.getD, hi]
theorem okB_of (l : List Int) (h : l.length ≤ 1048576) (hw : ∀ y ∈ l, (Lit.int .u8 y).wf = true) : okB l := by
  refine ⟨h, fun y hy => ?_⟩
  have := hw y hy
  simp [Lit.wf, IntKind.min, IntKind.max, IntKind.signed, IntKind.bits] at this
  exact this
theorem rdOf_memD {α : Type} {d : α} {xs : List α} {i : Int} (h0 : 0 ≤ i) (h1 : i < (xs.length : Int)) : rdOf d xs i ∈ xs := by
  unfold rdOf
  have hi : i.toNat < xs.length := by omega
  simp [List.getD, hi]
theorem l2NameD_eq (l : List Int) (hl : okB l) (s : Int) (h0 : 0 ≤ s) (h1 : s ≤ 900000000) : ∃ n, spec_l2Name.f l s = some (n, s + 1) ∧ n.size ≤ 12 := by
  obtain ⟨v, hv, v0, v1, _⟩ := next_eq l hl s 8 h0 (by omega) (by omega)
  have v2 := v1 (by omega)
  unfold spec_l2Name.f
  rw [Option.bind_some]
  rw [hv, Option.bind_some, if_pos v0, if_pos (by simp; omega)]
  refine ⟨_, rfl, ?_⟩
  have hm := rdOf_memD (d := ByteArray.empty) (xs := [(⟨#[120]⟩ : ByteArray), (⟨#[121]⟩ : ByteArray), (⟨#[102]⟩ : ByteArray), (⟨#[43]⟩ : ByteArray), (⟨#[99, 97, 114]⟩ : ByteArray), (⟨#[105, 102]⟩ : ByteArray), (⟨#[110, 117, 108, 108, 63]⟩ : ByteArray), (⟨#[97]⟩ : ByteArray)]) v0 (by simp; omega)
  exact (by decide +kernel : ∀ m ∈ [(⟨#[120]⟩ : ByteArray), (⟨#[121]⟩ : ByteArray), (⟨#[102]⟩ : ByteArray), (⟨#[43]⟩ : ByteArray), (⟨#[99, 97, 114]⟩ : ByteArray), (⟨#[105, 102]⟩ : ByteArray), (⟨#[110, 117, 108, 108, 63]⟩ : ByteArray), (⟨#[97]⟩ : ByteArray)], m.size ≤ 12) _ hm
def smallD (xs : List S45) : Prop := ∀ x ∈ xs, x.f3.size ≤ 12
theorem smallD_ok {xs : List S45} (h : smallD xs) : okD xs := fun x hx => by have := h x hx; omega
theorem smallD_add {xs : List S45} (h : smallD xs) (x : S45) (hx : x.f3.size ≤ 12) : smallD (xs ++ [x]) := by
  intro y hy
  rcases List.mem_append.mp hy with hm | hm
  · exact h y hm
  · rw [List.mem_singleton] at hm; subst hm; exact hx
theorem smallD_set {xs : List S45} (h : smallD xs) (i : Nat) (x : S45) (hx : x.f3.size ≤ 12) : smallD (xs.set i x) := by
  intro y hy
  rcases List.mem_or_eq_of_mem_set hy with hm | rfl
  · exact h y hm
  · exact hx
theorem leaf_eq (l : List Int) (hl : okB l) (s p : Int) (h0 : 0 ≤ s) (h1 : s ≤ 800000000) : ∃ a c n s', spec_l3Leaf.f l s p = some (a, p, c, n, s') ∧ n.size ≤ 12 ∧ s ≤ s' ∧ s' ≤ s + 2 := by
  obtain ⟨v, hv, _⟩ := next_eq l hl s 3 h0 (by omega) (by omega)
  obtain ⟨b, hb, _⟩ := next_eq l hl (s + 1) 20 (by omega) (by omega) (by omega)
  obtain ⟨c, hc, _⟩ := next_eq l hl (s + 1) 2 (by omega) (by omega) (by omega)
  obtain ⟨m, hm, hz⟩ := l2NameD_eq l hl (s + 1) (by omega) (by omega)
  have z : (⟨#[]⟩ : ByteArray).size ≤ 12 := by decide
  unfold spec_l3Leaf.f
  rw [hv, Option.bind_some]
  by_cases c0 : v = 0
  · exact ⟨1, b, _, s + 1 + 1, by simp only [if_pos c0, hb, Option.bind_some], z, by omega, by omega⟩
  by_cases c1 : v = 1
  · exact ⟨2, c, _, s + 1 + 1, by simp only [if_neg c0, if_pos c1, hc, Option.bind_some], z, by omega, by omega⟩
  · exact ⟨3, 0, m, s + 1 + 1, by simp only [if_neg c0, if_neg c1, hm, Option.bind_some], hz, by omega, by omega⟩
def mk (D : Nat) : Nat := 4 * 5 ^ D
theorem make_ev (l : List Int) (hl : okB l) : ∀ (D : Nat) (xs : List S45) (s p : Int), smallD xs → xs.length + mk D ≤ 100000 → 0 ≤ s → s + mk D ≤ 100000 → D ≤ 4 → ∃ ys s', Ev (fun k => spec_l3Make.f k l s xs p (D : Int)) (ys, s') ∧ smallD ys ∧ 1 ≤ ys.length ∧ ys.length ≤ xs.length + mk D ∧ s ≤ s' ∧ s' ≤ s + mk D := by
  intro D
  induction D with
  | zero =>
    intro xs s p hx hn h0 h1 _
    have m0 : mk 0 = 4 := rfl
    obtain ⟨a, c, n, s', he, hz, e0, e1⟩ := leaf_eq l hl s p h0 (by omega)
    exact ⟨_, s', Ev.step (fun k => spec_l3Make.f.eq_2 _ _ _ _ _ k) (Ev.ifp rfl (Ev.step (fun k => spec_l3Make.j0.eq_2 _ _ _ _ _ _ k) (Ev.ifp rfl (Ev.bind0 he (Ev.ifp (by omega) (Ev.now _)))))), smallD_add hx _ hz, by simp, by simp; omega, e0, by omega⟩
  | succ D ih =>
    intro xs s p hx hn h0 h1 hD
    have hmk : mk (D + 1) = 5 * mk D := by unfold mk; rw [Nat.pow_succ]; omega
    have hm1 : 4 ≤ mk D := by unfold mk; have := Nat.pow_le_pow_right (show 0 < 5 by decide) (Nat.zero_le D); omega
    have leaf : ∀ (b : Bool) (s2 : Int), b = true → s ≤ s2 → s2 ≤ s + 1 → ∃ ys s', Ev (fun k => spec_l3Make.j0 k xs p ((D + 1 : Nat) : Int) b l s2) (ys, s') ∧ smallD ys ∧ 1 ≤ ys.length ∧ ys.length ≤ xs.length + mk (D + 1) ∧ s ≤ s' ∧ s' ≤ s + mk (D + 1) := by
      intro b s2 hb i0 i1
      obtain ⟨a, c, n, s', he, hz, e0, e1⟩ := leaf_eq l hl s2 p (by omega) (by omega)
      exact ⟨_, s', Ev.step (fun k => spec_l3Make.j0.eq_2 _ _ _ _ _ _ k) (Ev.ifp hb (Ev.bind0 he (Ev.ifp (by omega) (Ev.now _)))), smallD_add hx _ hz, by simp, by simp; omega, by omega, by omega⟩
    have loop : ∀ (c : Nat) (zs : List S45) (s2 q : Int), smallD zs → 1 ≤ zs.length → zs.length + c * mk D ≤ 100000 → 0 ≤ s2 → s2 + ((c * mk D : Nat) : Int) ≤ 100000 → ∃ ys s', Ev (fun k => spec_l3Make.l0 k zs ((D + 1 : Nat) : Int) q (c : Int) l s2) (ys, s') ∧ smallD ys ∧ 1 ≤ ys.length ∧ ys.length ≤ zs.length + c * mk D ∧ s2 ≤ s' ∧ s' ≤ s2 + ((c * mk D : Nat) : Int) := by
      intro c
      induction c with
      | zero =>
        intro zs s2 q hz h1 _ _ _
        exact ⟨zs, s2, Ev.step (fun k => spec_l3Make.l0.eq_2 _ _ _ _ _ _ k) (Ev.ifn (by omega) (Ev.now _)), hz, h1, by omega, by omega, by omega⟩
      | succ c ihc =>
        intro zs s2 q hz h1 hb1 h2 hb2
        have hmul : (c + 1) * mk D = c * mk D + mk D := Nat.succ_mul _ _
        obtain ⟨ys, s3, he, hy, hy1, hy2, e0, e1⟩ := ih zs s2 q hz (by omega) h2 (by omega) (by omega)
        obtain ⟨zs', s4, he2, hz', hz1, hz2, e2, e3⟩ := ihc ys s3 q hy hy1 (by omega) (by omega) (by omega)
        refine ⟨zs', s4, Ev.step (fun k => spec_l3Make.l0.eq_2 _ _ _ _ _ _ k) (Ev.ifp (by omega) ?_), hz', hz1, by omega, by omega, by omega⟩
        have hcle : c ≤ c * mk D := Nat.le_mul_of_pos_right c (by omega)
        have w1 : wrap64 (((D + 1 : Nat) : Int) - 1) = (D : Int) := by rw [wrap_id (by omega) (by omega)]; omega
        have w2 : wrap64 (((c + 1 : Nat) : Int) - 1) = (c : Int) := by rw [wrap_id (by omega) (by omega)]; omega
        rw [w1, w2]
        exact Ev.bind he he2
    by_cases cz : (xs.length : Int) > 30
    · obtain ⟨ys, s', he, r⟩ := leaf true s rfl (by omega) (by omega)
      exact ⟨ys, s', Ev.step (fun k => spec_l3Make.f.eq_2 _ _ _ _ _ k) (Ev.ifn (by omega) (Ev.ifp cz he)), r⟩
    · obtain ⟨v, hv, v0, v1, _⟩ := next_eq l hl s 3 h0 (by omega) (by omega)
      have hch : spec_l1Chance.f l s 3 = some ((v == 0), s + 1) := by unfold spec_l1Chance.f; rw [hv, Option.bind_some]
      by_cases b : (v == 0) = true
      · obtain ⟨ys, s', he, r⟩ := leaf (v == 0) (s + 1) b (by omega) (by omega)
        exact ⟨ys, s', Ev.step (fun k => spec_l3Make.f.eq_2 _ _ _ _ _ k) (Ev.ifn (by omega) (Ev.ifn cz (Ev.bind0 hch he))), r⟩
      · obtain ⟨n, hn2, n0, n1, _⟩ := next_eq l hl (s + 1) 4 (by omega) (by omega) (by omega)
        have n2 := n1 (by omega)
        obtain ⟨c, rfl⟩ : ∃ c : Nat, (c : Int) = n := ⟨n.toNat, Int.toNat_of_nonneg n0⟩
        have hc : c * mk D ≤ 3 * mk D := Nat.mul_le_mul_right _ (by omega)
        obtain ⟨ys, s', he, hy, hy1, hy2, e0, e1⟩ := loop c (xs ++ [⟨4, p, 0, ⟨#[]⟩⟩]) (s + 1 + 1) (xs.length : Int) (smallD_add hx _ (by show (⟨#[]⟩ : ByteArray).size ≤ 12; decide)) (by simp) (by simp; omega) (by omega) (by omega)
        refine ⟨ys, s', Ev.step (fun k => spec_l3Make.f.eq_2 _ _ _ _ _ k) (Ev.ifn (by omega) (Ev.ifn cz (Ev.bind0 hch (Ev.step (fun k => spec_l3Make.j0.eq_2 _ _ _ _ _ _ k) (Ev.ifn b (Ev.ifp (by omega) (Ev.bind0 hn2 he))))))), hy, hy1, ?_, by omega, by omega⟩
        rw [List.length_append, List.length_singleton] at hy2
        omega
theorem bentD_ev (l : List Int) (hl : okB l) (s : Int) (h0 : 0 ≤ s) (h1 : s ≤ 10) : ∃ ys s', Ev (fun k => spec_l3Bent.f k l s) (ys, s') ∧ smallD ys ∧ 1 ≤ ys.length ∧ ys.length ≤ 100000 ∧ 0 ≤ s' ∧ s' ≤ 200000 := by
  have m4 : mk 4 = 2500 := by decide
  obtain ⟨ys, s1, hr, hy, y1, y2, f0, f1⟩ := make_ev l hl 4 [] s (-1) (fun x hx => by cases hx) (by rw [List.length_nil]; omega) h0 (by omega) (by omega)
  rw [List.length_nil] at y2
  obtain ⟨i, hi, i0, i1, _⟩ := next_eq l hl s1 (ys.length : Int) (by omega) (by omega) (by omega)
  have i2 := i1 (by omega)
  obtain ⟨v, hv, _⟩ := next_eq l hl (s1 + 1) 12 (by omega) (by omega) (by omega)
  obtain ⟨p, hp, _⟩ := pick_eq l hl (s1 + 1 + 1) [0, 5, 1, 4] (by omega) (by omega) (by simp) (by simp)
  obtain ⟨q, hq, _⟩ := pick_eq l hl (s1 + 1 + 1) [(-1), 0, 1, 90] (by omega) (by omega) (by simp) (by simp)
  obtain ⟨r, hr2, _⟩ := pick_eq l hl (s1 + 1 + 1) [2, 1000000001] (by omega) (by omega) (by simp) (by simp)
  obtain ⟨u, hu, u0, u1, _⟩ := next_eq l hl (s1 + 1 + 1) 3 (by omega) (by omega) (by omega)
  have u2 := u1 (by omega)
  have hf : (rd_T45 ys i).f3.size ≤ 12 := by
    obtain ⟨j, rfl⟩ : ∃ j : Nat, (j : Int) = i := ⟨i.toNat, Int.toNat_of_nonneg i0⟩
    rw [rdDf_at (by omega)]
    exact hy _ (List.getElem_mem _)
  have hm : (rdOf ByteArray.empty [(⟨#[]⟩ : ByteArray), (⟨#[65]⟩ : ByteArray), (⟨#[120]⟩ : ByteArray)] u).size ≤ 12 := (by decide +kernel : ∀ m ∈ [(⟨#[]⟩ : ByteArray), (⟨#[65]⟩ : ByteArray), (⟨#[120]⟩ : ByteArray)], m.size ≤ 12) _ (rdOf_memD u0 (by simp; omega))
  have i2' : i < (ys.length : Int) := i2
  have go : ∀ r, Ev (fun k => spec_l3Bent.f k l s) r → Ev (fun k => spec_l3Bent.f k l s) r := fun _ h => h
  by_cases c0 : v = 0
  · exact ⟨_, s1 + 1 + 1 + 1, Ev.congr (fun k => spec_l3Bent.f.eq_1 k _ _) (Ev.bind hr (Ev.bind0 hi (Ev.bind0 hv (Ev.ifp c0 (Ev.bind0 hp (Ev.ifp i0 (Ev.ifp i2' (Ev.now _)))))))), smallD_set hy _ _ hf, by simp only [List.length_set]; omega, by simp only [List.length_set]; omega, by omega, by omega⟩
  by_cases c1 : v = 1
  · exact ⟨_, s1 + 1 + 1 + 1, Ev.congr (fun k => spec_l3Bent.f.eq_1 k _ _) (Ev.bind hr (Ev.bind0 hi (Ev.bind0 hv (Ev.ifn c0 (Ev.ifp c1 (Ev.bind0 hq (Ev.ifp i0 (Ev.ifp i2' (Ev.now _))))))))), smallD_set hy _ _ hf, by simp only [List.length_set]; omega, by simp only [List.length_set]; omega, by omega, by omega⟩
  by_cases c2 : v = 2
  · exact ⟨_, s1 + 1 + 1 + 1, Ev.congr (fun k => spec_l3Bent.f.eq_1 k _ _) (Ev.bind hr (Ev.bind0 hi (Ev.bind0 hv (Ev.ifn c0 (Ev.ifn c1 (Ev.ifp c2 (Ev.bind0 hr2 (Ev.ifp i0 (Ev.ifp i2' (Ev.now _)))))))))), smallD_set hy _ _ hf, by simp only [List.length_set]; omega, by simp only [List.length_set]; omega, by omega, by omega⟩
  by_cases c3 : v = 3
  · exact ⟨_, s1 + 1 + 1 + 1, Ev.congr (fun k => spec_l3Bent.f.eq_1 k _ _) (Ev.bind hr (Ev.bind0 hi (Ev.bind0 hv (Ev.ifn c0 (Ev.ifn c1 (Ev.ifn c2 (Ev.ifp c3 (Ev.bind0 rfl (Ev.bind0 hu (Ev.ifp u0 (Ev.ifp (by simp; omega) (Ev.ifp i0 (Ev.ifp i2' (Ev.now _)))))))))))))), smallD_set hy _ _ hm, by simp only [List.length_set]; omega, by simp only [List.length_set]; omega, by omega, by omega⟩
  by_cases c4 : v = 4
  · refine ⟨_, s1 + 1 + 1, Ev.congr (fun k => spec_l3Bent.f.eq_1 k _ _) (Ev.bind hr (Ev.bind0 hi (Ev.bind0 hv (Ev.ifn c0 (Ev.ifn c1 (Ev.ifn c2 (Ev.ifn c3 (Ev.ifp c4 (Ev.ifp (by omega) (Ev.now _)))))))))), fun x hx => ?_, by rw [List.length_replicate]; omega, by rw [List.length_replicate]; omega, by omega, by omega⟩
    obtain rfl := List.eq_of_mem_replicate hx
    exact (by decide : (⟨#[]⟩ : ByteArray).size ≤ 12)
  · exact ⟨ys, s1 + 1 + 1, Ev.congr (fun k => spec_l3Bent.f.eq_1 k _ _) (Ev.bind hr (Ev.bind0 hi (Ev.bind0 hv (Ev.ifn c0 (Ev.ifn c1 (Ev.ifn c2 (Ev.ifn c3 (Ev.ifn c4 (Ev.now _))))))))), hy, y1, by omega, by omega, by omega⟩
theorem drawSub_ev (l : List Int) (hl : okB l) : ∃ xs a, Ev (fun k => spec_DrawSubData.f k l) (xs, a) ∧ smallD xs ∧ xs.length ≤ 1048576 := by
  obtain ⟨xs, s1, h1, hx, y1, y2, f0, f1⟩ := bentD_ev l hl 0 (by omega) (by omega)
  obtain ⟨v, hv, _⟩ := next_eq l hl s1 (wrap64 ((xs.length : Int) + 2)) f0 (by omega) (by rw [wrap_id (by omega) (by omega)]; omega)
  exact ⟨xs, _, Ev.congr (fun k => spec_DrawSubData.f.eq_1 k _) (Ev.bind (Ev.congr (fun k => spec_DrawPartsOf.f.eq_1 k _) (Ev.bind0 rfl (Ev.bind h1 (Ev.bind0 hv (Ev.now _))))) (Ev.now _)), hx, by omega⟩
def eqDatB (x y : S45) : Bool := !(!((x.f0) == (y.f0)) || (!((x.f1) == (y.f1)) || (!((x.f2) == (y.f2)) || (!(((x.f3).toList) == ((y.f3).toList))))))
def sameD (xs ys : List S45) : Bool := if (xs.length : Int) = (ys.length : Int) then allB (fun i => eqDatB (rd_T45 xs (i : Int)) (rd_T45 ys (i : Int))) xs.length else false
theorem implSameData_ev (xs ys : List S45) (hl : xs.length ≤ 9223372036854775807) : Ev (fun k => impl_SameData.f k xs ys) (sameD xs ys) := by
  refine Ev.congr (fun k => impl_SameData.f.eq_1 k _ _) (Ev.bind (Ev.congr (fun k => impl_Datum.f.eq_1 k _ _) (Ev.iff (fun c => ?_) (fun c => Ev.leaf (r := sameD xs ys) (by unfold sameD; rw [if_neg c])))) (Ev.now _))
  unfold sameD
  rw [if_pos c]
  exact cmp_ev xs.length (fun k i => impl_Datum.l0 k xs ys (xs.length : Int) i) _ (fun i hi r hr => by
    refine Ev.step (fun k => impl_Datum.l0.eq_2 _ _ _ _ k) (Ev.ifp (by omega) (Ev.ifp (by omega) (Ev.ifp (by omega) (Ev.ifp (by omega) ?_))))
    rw [wrap_succ hi hl]
    refine Ev.iff (fun d => Ev.stop hr (by unfold eqDatB; rw [d]; rfl)) (fun d => Ev.go hr ?_)
    unfold eqDatB
    rw [Bool.not_eq_true] at d
    rw [d]
    rfl) (Ev.step (fun k => impl_Datum.l0.eq_2 _ _ _ _ k) (Ev.ifn (by omega) (Ev.now _)))
theorem sameD_self (xs : List S45) : sameD xs xs = true := by
  unfold sameD
  rw [if_pos rfl]
  exact allB_true (fun j _ => by simp [eqDatB])
end Go.Proofs.YtjlmknembpjnjaaDoor.A
