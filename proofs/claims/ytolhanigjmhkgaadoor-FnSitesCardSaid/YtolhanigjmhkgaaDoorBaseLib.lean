/- Proved: what the program's and the reference's functions of this claim come to: the same, part by part. Conditions: those in each head. -/
import Derived.Test.YtolhanigjmhkgaaDoorPL
import Derived.Test.YtolhanigjmhkgaaDoorA3
import Derived.Test.YtolhanigjmhkgaaDoorA9
import Derived.Test.YtolhanigjmhkgaaDoorA5
import Derived.Test.YtolhanigjmhkgaaDoorA4
import Derived.Test.YtolhanigjmhkgaaDoorA10
import Derived.Test.YtolhanigjmhkgaaDoorA8
import Derived.Test.YtolhanigjmhkgaaDoorA12
import Derived.Test.YtolhanigjmhkgaaDoorA2
import Derived.Test.YtolhanigjmhkgaaDoorA11
import Derived.Test.YtolhanigjmhkgaaDoorA6
import Derived.Test.YtolhanigjmhkgaaDoorA7
namespace Go.Proofs.YtolhanigjmhkgaaDoor.A
open Go.RowKit Go.Proofs.YtolhanigjmhkgaaDoorW.PrintWords Go.Proofs.YtolhanigjmhkgaaDoorW.PrintLast Go.Proofs.YtolhanigjmhkgaaDoor.PL
set_option linter.unusedSimpArgs false
def inB (a lo hi : Int) : Bool := decide (lo ≤ a) && decide (a ≤ hi)
theorem inB_t {a lo hi : Int} (h0 : lo ≤ a) (h1 : a ≤ hi) : inB a lo hi = true := by simp [inB, h0, h1]
theorem inB_iff {a lo hi : Int} : inB a lo hi = true ↔ lo ≤ a ∧ a ≤ hi := by simp [inB]
theorem inB_f {a lo hi : Int} : inB a lo hi = false ↔ ¬ (lo ≤ a ∧ a ≤ hi) := by simp [inB]
theorem in_eq (a lo hi : Int) : impl_in.f a lo hi = some (inB a lo hi) := by
  unfold impl_in.f inB
  by_cases h : lo ≤ a <;> simp [h]
theorem l1In_eq (a lo hi : Int) : spec_l1In.f a lo hi = some (inB a lo hi) := by
  unfold spec_l1In.f inB
  by_cases h : lo ≤ a <;> simp [h]
def numB (n : Int) : Bool := inB n (-1000000000) 1000000000
def numM (n : Int) : Int := if numB n = true then 0 else 3
theorem NumFault_eq (n : Int) : impl_NumFault.f n = some (numM n) := by
  unfold impl_NumFault.f numM numB
  rw [in_eq, Option.bind_some]
  split <;> rfl
theorem l1Num_eq (n : Int) : spec_l1Num.f n = some (numB n) := by
  unfold spec_l1Num.f numB
  rw [l1In_eq, Option.bind_some]
def symC : List UInt8 := [97, 98, 99, 100, 101, 102, 103, 104, 105, 106, 107, 108, 109, 110, 111, 112, 113, 114, 115, 116, 117, 118, 119, 120, 121, 122, 43, 45, 42, 47, 60, 61, 63, 33]
theorem l2Byte_12 : ∀ n : Fin 256, spec_l2Byte.f 12 (n.val : Int) = some (symC.contains (UInt8.ofNat n.val)) := by decide +kernel
theorem l2Byte_ev (c : UInt8) : Ev (fun k => spec_l2Byte.f k (c.toNat : Int)) (symC.contains c) := by
  refine Ev.of (fun k => spec_l2Byte.mono _ k) (k := 12) ?_
  have h := l2Byte_12 ⟨c.toNat, c.toNat_lt⟩
  rw [UInt8.ofNat_toNat] at h
  exact h
def symB (s : ByteArray) : Bool := s.data.toList.all (symC.contains ·) && inB s.size 1 12
theorem runU_all (l : List UInt8) (e : Bool) : ∀ d i, i + d = l.length → runU (fun i => if symC.contains (l[i]?.getD 0) then none else some false) e d i = ((l.drop i).all (symC.contains ·) && e)
  | 0, i, h => by rw [List.drop_of_length_le (by omega)]; rfl
  | d + 1, i, h => by
    have hi : i < l.length := by omega
    rw [List.drop_eq_getElem_cons hi]
    simp only [runU, List.all_cons, List.getElem?_eq_getElem hi, Option.getD_some]
    by_cases c : symC.contains l[i] = true
    · rw [if_pos c, c, Bool.true_and]
      exact runU_all l e d (i + 1) (by omega)
    · rw [if_neg c]
      simp only [Bool.not_eq_true] at c
      rw [c]
      rfl
theorem l2Sym_ev (s : ByteArray) (hs : s.size ≤ 9223372036854775807) : Ev (fun k => spec_l2Sym.f k s) (symB s) := by
  refine Ev.congr (fun k => spec_l2Sym.f.eq_1 k _) ?_
  have h := loopU s.size (fun k i => spec_l2Sym.l0 k s i) (fun i => if symC.contains (s.data.toList[i]?.getD 0) then none else some false) (inB s.size 1 12) (fun i hi => by
    have hb := bt_data s i hi
    have hl : i < s.data.toList.length := by rw [data_length]; exact hi
    have hg := l2Byte_ev s.data.toList[i]
    rw [← hb] at hg
    rw [List.getElem?_eq_getElem hl, Option.getD_some]
    by_cases c : symC.contains s.data.toList[i] = true
    · rw [if_pos c]
      intro r hr
      refine Ev.step (fun k => spec_l2Sym.l0.eq_2 _ _ k) (Ev.ifp (by omega) (Ev.ifp (by omega) (Ev.bind hg (Ev.ifp c ?_))))
      rw [wrap_succ hi hs]
      exact hr
    · rw [if_neg c]
      exact Ev.step (fun k => spec_l2Sym.l0.eq_2 _ _ k) (Ev.ifp (by omega) (Ev.ifp (by omega) (Ev.bind hg (Ev.ifn c (Ev.now _))))))
    (Ev.step (fun k => spec_l2Sym.l0.eq_2 _ _ k) (Ev.ifn (by omega) (Ev.bind0 (l1In_eq _ _ _) (Ev.now _)))) s.size 0 (by omega)
  rw [runU_all _ _ s.size 0 (by rw [data_length]; omega), List.drop_zero] at h
  exact h
def symM (s : ByteArray) : Int := if symB s = true then 0 else 5
theorem specSymFault_ev (s : ByteArray) (hs : s.size ≤ 9223372036854775807) : Ev (fun k => spec_SymFault.f k s) (symM s) := by
  refine Ev.congr (fun k => spec_SymFault.f.eq_1 k _) (Ev.bind (l2Sym_ev s hs) ?_)
  exact Ev.iff (fun c => Ev.leaf (by unfold symM; rw [if_pos c])) (fun c => Ev.leaf (by unfold symM; rw [if_neg c]))
theorem dropWhile_nil {α : Type} (p : α → Bool) : ∀ l : List α, (l.dropWhile p = []) ↔ l.all p = true
  | [] => by simp
  | a :: l => by
    simp only [List.dropWhile_cons, List.all_cons]
    cases h : p a
    · simp
    · simpa using dropWhile_nil p l
theorem trimS_nil (l cs : List UInt8) : Lib.trimS l cs = [] ↔ l.all (cs.contains ·) = true := by
  unfold Lib.trimS Lib.trimLeftS
  rw [dropWhile_nil]
  unfold Lib.trimRightS
  constructor
  · intro h
    cases hd : l.reverse.dropWhile (cs.contains ·) with
    | nil =>
      have := (dropWhile_nil (cs.contains ·) l.reverse).mp hd
      simpa using this
    | cons a t =>
      exfalso
      rw [hd] at h
      have ha : cs.contains a = true := by
        have := List.all_eq_true.mp h a (by simp)
        exact this
      have hn : ¬ (cs.contains a = true) := by
        have := List.head?_dropWhile_not (cs.contains ·) l.reverse
        rw [hd] at this
        simpa using this
      exact hn ha
  · intro h
    have : l.reverse.all (cs.contains ·) = true := by simpa using h
    rw [(dropWhile_nil _ _).mpr this]
    rfl
theorem toList_mk (l : List UInt8) : ByteArray.toList ⟨l.toArray⟩ = l := by rw [ByteArray.toList_eq]
theorem SymFault_eq (s : ByteArray) (hs : s.size ≤ 9223372036854775807) : impl_SymFault.f s = some (symM s) := by
  unfold impl_SymFault.f
  rw [in_eq, Option.bind_some]
  unfold symM symB
  by_cases c : inB s.size 1 12 = true
  · rw [if_pos c, c, Bool.and_true]
    have ht : strings_Trim.f s (⟨#[97, 98, 99, 100, 101, 102, 103, 104, 105, 106, 107, 108, 109, 110, 111, 112, 113, 114, 115, 116, 117, 118, 119, 120, 121, 122, 43, 45, 42, 47, 60, 61, 63, 33]⟩ : ByteArray) = some ⟨(Lib.trimS s.data.toList symC).toArray⟩ := by
      unfold strings_Trim.f
      rw [if_pos ⟨hs, by decide, by decide⟩]
      rfl
    rw [ht, Option.bind_some, toList_mk]
    by_cases d : s.data.toList.all (symC.contains ·) = true
    · rw [if_pos ((trimS_nil _ _).mpr d), if_pos d]
    · rw [if_neg (fun h => d ((trimS_nil _ _).mp h)), if_neg d]
  · rw [if_neg c]
    rw [if_neg (by simp [c])]
def kindM (K a1 a2 a3 N : Int) (s : ByteArray) : Int := if K = a1 then numM N else if K = a3 then (if inB N 0 1 = true then 0 else 3) else if K = a2 then symM s else 0
theorem kindFault_eq (K a1 a2 a3 N : Int) (s : ByteArray) (hs : s.size ≤ 9223372036854775807) : impl_kindFault.f K a1 a2 a3 N s = some (kindM K a1 a2 a3 N s) := by
  unfold impl_kindFault.f kindM
  by_cases h1 : K = a1
  · rw [if_pos h1, if_pos h1, NumFault_eq, Option.bind_some]
  · rw [if_neg h1, if_neg h1]
    by_cases h3 : K = a3
    · rw [if_pos h3, if_pos h3, in_eq, Option.bind_some]
      split <;> rfl
    · rw [if_neg h3, if_neg h3]
      by_cases h2 : K = a2
      · rw [if_pos h2, if_pos h2, SymFault_eq s hs, Option.bind_some]
      · rw [if_neg h2, if_neg h2]
theorem isPlaced_eq (K : Int) : impl_isPlaced.f K = some (inB K 5 8) := by
  unfold impl_isPlaced.f
  rw [in_eq, Option.bind_some]
theorem l5Placed_eq (K : Int) : spec_l5Placed.f K = some (inB K 5 8) := by
  unfold spec_l5Placed.f
  rw [l1In_eq, Option.bind_some]
def formB (K N : Int) (s : ByteArray) : Bool := !inB K 1 9 || (N != 0 && !inB K 5 8 && K != 1 && K != 2) || (!s.toList.isEmpty && K != 4)
def rangeB (K N : Int) : Bool := (K == 1 && !numB N) || (K == 2 && !inB N 0 1) || (inB K 5 8 && !inB N 0 99999)
def valueM (K N : Int) (s : ByteArray) : Int := if formB K N s = true then 1 else if rangeB K N = true then 3 else if K = 4 then symM s else 0
theorem rest_eq (K N : Int) (s : ByteArray) : (if inB K 5 8 = true then (if inB N 0 99999 = true then kindM K 1 4 2 N s else 3) else kindM K 1 4 2 N s) = if rangeB K N = true then 3 else if K = 4 then symM s else 0 := by
  have p5 : ∀ z : Int, z < 5 → inB z 5 8 = false := fun z hz => inB_f.mpr (by omega)
  by_cases h1 : K = 1
  · subst h1
    simp only [rangeB, kindM, numM, p5 1 (by omega)]
    cases numB N <;> simp
  · by_cases h2 : K = 2
    · subst h2
      simp only [rangeB, kindM, p5 2 (by omega)]
      cases inB N 0 1 <;> simp
    · have hk : kindM K 1 4 2 N s = if K = 4 then symM s else 0 := by unfold kindM; rw [if_neg h1, if_neg h2]
      rw [hk]
      have hr : rangeB K N = (inB K 5 8 && !inB N 0 99999) := by simp [rangeB, h1, h2]
      rw [hr]
      cases inB K 5 8 <;> cases inB N 0 99999 <;> simp
theorem implValue_ev (K N : Int) (s : ByteArray) (hs : s.size ≤ 9223372036854775807) : Ev (fun k => impl_ValueFault.f k K N s) (valueM K N s) := by
  have j0 : ∀ b : Bool, Ev (fun k => impl_ValueFault.j0 k b K N s) (if b = true then 1 else if rangeB K N = true then 3 else if K = 4 then symM s else 0) := fun b => by
    refine Ev.step (fun k => impl_ValueFault.j0.eq_2 _ _ _ _ k) (Ev.iff (fun h => Ev.leaf (by rw [if_pos h])) (fun h => ?_))
    rw [if_neg h, ← rest_eq]
    refine Ev.bind0 (isPlaced_eq _) (Ev.iff (fun h1 => ?_) (fun h1 => ?_))
    · rw [if_pos h1]
      refine Ev.bind0 (in_eq _ _ _) (Ev.iff (fun h2 => ?_) (fun h2 => ?_))
      · rw [if_pos h2]; exact Ev.bind0 (kindFault_eq _ _ _ _ _ _ hs) (Ev.now _)
      · rw [if_neg h2]; exact Ev.now _
    · rw [if_neg h1]; exact Ev.bind0 (kindFault_eq _ _ _ _ _ _ hs) (Ev.now _)
  have fin : ∀ b : Bool, b = formB K N s → Ev (fun k => impl_ValueFault.j0 k b K N s) (valueM K N s) := fun b hb => by subst hb; exact j0 _
  refine Ev.congr (fun k => impl_ValueFault.f.eq_1 k _ _ _) (Ev.bind0 (in_eq _ _ _) ?_)
  repeat' first
    | refine Ev.iff (fun _ => ?_) (fun _ => ?_)
    | refine Ev.bind0 (isPlaced_eq _) ?_
    | refine fin _ ?_
  all_goals simp_all [formB]
theorem l5Fault_ev (K N : Int) (s : ByteArray) (hs : s.size ≤ 9223372036854775807) : Ev (fun k => spec_l5Fault.f k K N s) (valueM K N s) := by
  have j2 : ∀ b : Bool, Ev (fun k => spec_l5Fault.j2 k b K N s) (if b = true then 3 else if K = 4 then symM s else 0) := fun b => by
    refine Ev.step (fun k => spec_l5Fault.j2.eq_2 _ _ _ _ k) (Ev.iff (fun h => Ev.leaf (by rw [if_pos h])) (fun h => ?_))
    rw [if_neg h]
    refine Ev.iff (fun h => ?_) (fun h => Ev.leaf (by rw [if_neg h]))
    rw [if_pos h]
    exact Ev.bind (l2Sym_ev s hs) (Ev.iff (fun c => Ev.leaf (by unfold symM; rw [if_pos c])) (fun c => Ev.leaf (by unfold symM; rw [if_neg c])))
  have fin2 : ∀ b : Bool, b = rangeB K N → Ev (fun k => spec_l5Fault.j2 k b K N s) (if rangeB K N = true then 3 else if K = 4 then symM s else 0) := fun b hb => by subst hb; exact j2 _
  have j1 : ∀ b : Bool, Ev (fun k => spec_l5Fault.j1 k b K N s) (if b = true then 1 else if rangeB K N = true then 3 else if K = 4 then symM s else 0) := fun b => by
    refine Ev.step (fun k => spec_l5Fault.j1.eq_2 _ _ _ _ k) (Ev.iff (fun h => Ev.leaf (by rw [if_pos h])) (fun h => ?_))
    rw [if_neg h]
    repeat' first
      | refine Ev.iff (fun _ => ?_) (fun _ => ?_)
      | refine Ev.bind0 (l5Placed_eq _) ?_
      | refine Ev.bind0 (l1Num_eq _) ?_
      | refine Ev.bind0 (l1In_eq _ _ _) ?_
      | refine fin2 _ ?_
    all_goals simp_all [rangeB]
  have fin1 : ∀ b : Bool, b = formB K N s → Ev (fun k => spec_l5Fault.j1 k b K N s) (valueM K N s) := fun b hb => by subst hb; exact j1 _
  have j0 : ∀ b : Bool, b = (K == 1 || K == 2 || inB K 5 8) → Ev (fun k => spec_l5Fault.j0 k b K N s) (valueM K N s) := fun b hb => by
    refine Ev.step (fun k => spec_l5Fault.j0.eq_2 _ _ _ _ k) (Ev.bind0 (l1In_eq _ _ _) ?_)
    repeat' first
      | refine Ev.iff (fun _ => ?_) (fun _ => ?_)
      | refine fin1 _ ?_
    all_goals clear j2 fin2 j1 fin1
    all_goals (cases h9 : inB K 1 9 <;> cases h5 : inB K 5 8 <;> (try simp_all [formB, ne_nil_b]) <;> (rcases hb with rfl | rfl <;> simp_all))
  refine Ev.congr (fun k => spec_l5Fault.f.eq_1 k _ _ _) ?_
  repeat' first
    | refine Ev.iff (fun _ => ?_) (fun _ => ?_)
    | refine Ev.bind0 (l5Placed_eq _) ?_
    | refine j0 _ ?_
  all_goals simp_all
theorem rdG_at {xs : List S35} {i : Nat} (h : i < xs.length) : rd_T35 xs (i : Int) = xs[i] := by simp [rd_T35, h]
def atB (xs : List S35) (nm : ByteArray) (i : Nat) : Option Int := if h : i < xs.length then (if (xs[i]).f0.toList = nm.toList then some (i : Int) else none) else none
def atM (xs : List S35) (nm : ByteArray) : Int := runU (atB xs nm) (-1) xs.length 0
theorem l7At_ev (xs : List S35) (nm : ByteArray) (hl : xs.length ≤ 9223372036854775807) : Ev (fun k => spec_l7At.f k xs nm) (atM xs nm) := by
  refine Ev.congr (fun k => spec_l7At.f.eq_1 k _ _) ?_
  exact loopO xs.length (fun k i => spec_l7At.l0 k xs nm i) (atB xs nm) (-1) (fun i hi r hr => by
    refine Ev.step (fun k => spec_l7At.l0.eq_2 _ _ _ k) (Ev.ifp (by omega) (Ev.ifp (by omega) ?_))
    rw [rdG_at hi, wrap_succ hi hl]
    exact Ev.iff (fun c => Ev.stop hr (by simp [atB, hi, c])) (fun c => Ev.go hr (by simp [atB, hi, c])))
    (Ev.step (fun k => spec_l7At.l0.eq_2 _ _ _ k) (Ev.ifn (by omega) (Ev.now _))) xs.length 0 (by omega)
theorem globalAt_ev (xs : List S35) (nm : ByteArray) (hl : xs.length ≤ 9223372036854775807) : Ev (fun k => impl_globalAt.f k xs nm) (atM xs nm) := by
  refine Ev.congr (fun k => impl_globalAt.f.eq_1 k _ _) (Ev.bind (a := atM xs nm) (Ev.congr (fun k => impl_Global__impl_globalAt_1.f.eq_1 k _ _) ?_) (Ev.now _))
  exact loopO xs.length (fun k i => impl_Global__impl_globalAt_1.l0 k xs (xs.length : Int) i nm) (atB xs nm) (-1) (fun i hi r hr => by
    refine Ev.step (fun k => impl_Global__impl_globalAt_1.l0.eq_2 _ _ _ _ k) (Ev.ifp (by omega) (Ev.ifp (by omega) (Ev.ifp (by omega) ?_)))
    rw [rdG_at hi, wrap_succ hi hl]
    refine Ev.bind0 (impl_globalAt_1.f.eq_1 _ _ _ _ _ _) (Ev.iff (fun c => Ev.stop hr (by simp at c; simp [atB, hi, c])) (fun c => Ev.go hr (by simp at c; simp [atB, hi, c]))))
    (Ev.step (fun k => impl_Global__impl_globalAt_1.l0.eq_2 _ _ _ _ k) (Ev.ifn (by omega) (Ev.now _))) xs.length 0 (by omega)
def globStep (xs : List S35) (g : S35) (i : Nat) : Option Int :=
  if symB g.f0 = true then (if valueM g.f1.f0 g.f1.f1 g.f1.f2 = 0 then (if inB g.f2 1 99999 = true then (if 0 ≤ atM (xs.take i) g.f0 then some 1 else none) else some 3) else some (valueM g.f1.f0 g.f1.f1 g.f1.f2)) else some 5
def globAt (xs : List S35) (i : Nat) : Option Int := if h : i < xs.length then globStep xs xs[i] i else none
def globM (xs : List S35) : Int := if 60 < xs.length then 2 else runU (globAt xs) 0 xs.length 0
def okG (xs : List S35) : Prop := ∀ x ∈ xs, x.f0.size ≤ 9223372036854775807 ∧ x.f1.f2.size ≤ 9223372036854775807
theorem implGlob_ev (xs : List S35) (hx : okG xs) : Ev (fun k => impl_GlobalsFault.f k xs) (globM xs) := by
  refine Ev.congr (fun k => impl_GlobalsFault.f.eq_1 k _) (Ev.iff (fun h => Ev.leaf (by unfold globM; rw [if_pos (by omega)])) (fun h => ?_))
  have hL := loopO xs.length (fun k i => impl_GlobalsFault.l0 k xs xs (xs.length : Int) i) (globAt xs) 0 (fun i hi r hr => by
    have hm := hx xs[i] (List.getElem_mem hi)
    refine Ev.step (fun k => impl_GlobalsFault.l0.eq_2 _ _ _ _ k) (Ev.ifp (by omega) (Ev.ifp (by omega) (Ev.ifp (by omega) ?_)))
    rw [rdG_at hi, wrap_succ hi (by omega)]
    refine Ev.bind0 (SymFault_eq _ hm.1) (Ev.iff (fun c0 => ?_) (fun c0 => Ev.stop hr (by
      have d0 : symB xs[i].f0 = false := by
        by_cases z : symB xs[i].f0 = true
        · exact absurd (by unfold symM; rw [if_pos z]) c0
        · simpa using z
      simp [globAt, hi, globStep, d0])))
    have d0 : symB xs[i].f0 = true := by
      by_cases z : symB xs[i].f0 = true
      · exact z
      · unfold symM at c0; rw [if_neg z] at c0; exact absurd c0 (by omega)
    refine Ev.bind (implValue_ev _ _ _ hm.2) (Ev.iff (fun c1 => ?_) (fun c1 => Ev.stop hr (by simp [globAt, hi, globStep, d0, c1])))
    refine Ev.bind0 (in_eq _ _ _) (Ev.iff (fun c2 => ?_) (fun c2 => Ev.stop hr (by simp [globAt, hi, globStep, d0, c1, c2])))
    refine Ev.ifp (by omega) (Ev.bind (globalAt_ev _ _ (by rw [List.length_take]; omega)) (Ev.iff (fun c3 => Ev.stop hr (by
      have c3' : 0 ≤ atM (xs.take i) xs[i].f0 := by simpa using c3
      simp [globAt, hi, globStep, d0, c1, c2, c3'])) (fun c3 => Ev.go hr (by
      have c3' : ¬ 0 ≤ atM (xs.take i) xs[i].f0 := by simpa using c3
      simp [globAt, hi, globStep, d0, c1, c2, c3'])))))
    (Ev.step (fun k => impl_GlobalsFault.l0.eq_2 _ _ _ _ k) (Ev.ifn (by omega) (Ev.now _))) xs.length 0 (by omega)
  unfold globM
  rw [if_neg (by omega)]
  exact hL
theorem l7Fault_ev (xs : List S35) (hx : okG xs) : Ev (fun k => spec_l7Fault.f k xs) (globM xs) := by
  refine Ev.congr (fun k => spec_l7Fault.f.eq_1 k _) (Ev.iff (fun h => Ev.leaf (by unfold globM; rw [if_pos (by omega)])) (fun h => ?_))
  have hL := loopO xs.length (fun k i => spec_l7Fault.l0 k xs i) (globAt xs) 0 (fun i hi r hr => by
    have hm := hx xs[i] (List.getElem_mem hi)
    refine Ev.step (fun k => spec_l7Fault.l0.eq_2 _ _ k) (Ev.ifp (by omega) (Ev.ifp (by omega) ?_))
    rw [rdG_at hi, wrap_succ hi (by omega)]
    refine Ev.bind (l2Sym_ev _ hm.1) (Ev.iff (fun d0 => ?_) (fun d0 => Ev.stop hr (by simp [globAt, hi, globStep, d0])))
    refine Ev.bind (l5Fault_ev _ _ _ hm.2) (Ev.iff (fun c1 => ?_) (fun c1 => Ev.stop hr (by simp [globAt, hi, globStep, d0, c1])))
    refine Ev.bind0 (a := inB xs[i].f2 1 99999) (by unfold spec_l7Version.f; rw [l1In_eq, Option.bind_some]) (Ev.iff (fun c2 => ?_) (fun c2 => Ev.stop hr (by simp [globAt, hi, globStep, d0, c1, c2])))
    refine Ev.ifp (by omega) (Ev.bind (l7At_ev _ _ (by rw [List.length_take]; omega)) (Ev.iff (fun c3 => Ev.stop hr (by
      have c3' : 0 ≤ atM (xs.take i) xs[i].f0 := by simpa using c3
      simp [globAt, hi, globStep, d0, c1, c2, c3'])) (fun c3 => Ev.go hr (by
      have c3' : ¬ 0 ≤ atM (xs.take i) xs[i].f0 := by simpa using c3
      simp [globAt, hi, globStep, d0, c1, c2, c3'])))))
    (Ev.step (fun k => spec_l7Fault.l0.eq_2 _ _ k) (Ev.ifn (by omega) (Ev.now _))) xs.length 0 (by omega)
  unfold globM
  rw [if_neg (by omega)]
  exact hL
theorem runU_range (B : Nat → Option Int) (e : Int) (P : Int → Prop) : ∀ d i, (∀ j v, i ≤ j → j < i + d → B j = some v → P v) → P e → P (runU B e d i)
  | 0, _, _, he => he
  | d + 1, i, h, he => by
    simp only [runU]
    cases hB : B i with
    | none => exact runU_range B e P d (i + 1) (fun j v h0 h1 hj => h j v (by omega) (by omega) hj) he
    | some v => exact h i v (by omega) (by omega) hB
theorem atM_lt (xs : List S35) (nm : ByteArray) : atM xs nm < 0 ∨ (0 ≤ atM xs nm ∧ atM xs nm < xs.length) := by
  unfold atM
  refine runU_range (atB xs nm) (-1) (fun v => v < 0 ∨ (0 ≤ v ∧ v < xs.length)) xs.length 0 (fun j v _ hj hv => ?_) (by omega)
  have hj' : j < xs.length := by omega
  unfold atB at hv
  rw [dif_pos hj'] at hv
  split at hv
  · obtain rfl := Option.some.inj hv; right; omega
  · cases hv
def nameM (xs : List S35) (nm : ByteArray) : Int := if globM xs = 0 then symM nm else globM xs
theorem nameFault_ev (xs : List S35) (nm : ByteArray) (hx : okG xs) (hn : nm.size ≤ 9223372036854775807) : Ev (fun k => impl_nameFault.f k xs nm) (nameM xs nm) := by
  refine Ev.congr (fun k => impl_nameFault.f.eq_1 k _ _) (Ev.bind (implGlob_ev xs hx) (Ev.iff (fun c => Ev.bind0 (SymFault_eq nm hn) (Ev.leaf (by unfold nameM; rw [if_pos c]))) (fun c => Ev.leaf (by unfold nameM; rw [if_neg c]))))
theorem l7Asked_ev (xs : List S35) (nm : ByteArray) (hx : okG xs) (hn : nm.size ≤ 9223372036854775807) : Ev (fun k => spec_l7Asked.f k xs nm) (nameM xs nm) := by
  refine Ev.congr (fun k => spec_l7Asked.f.eq_1 k _ _) (Ev.bind (l7Fault_ev xs hx) (Ev.iff (fun c => Ev.bind (specSymFault_ev nm hn) (Ev.leaf (by unfold nameM; rw [if_pos c]))) (fun c => Ev.leaf (by unfold nameM; rw [if_neg c]))))
theorem globAt_ne0 {xs : List S35} (j : Nat) (v : Int) (h : globAt xs j = some v) : v ≠ 0 := by
  unfold globAt at h
  split at h
  · unfold globStep at h
    repeat' split at h
    all_goals first | (cases h; done) | (obtain rfl := Option.some.inj h; first | omega | assumption)
  · cases h
theorem glob_versions {xs : List S35} (h : globM xs = 0) (j : Nat) (hj : j < xs.length) : 1 ≤ (xs[j]).f2 ∧ (xs[j]).f2 ≤ 99999 := by
  unfold globM at h
  split at h
  · omega
  · have hn := runU_none (globAt_ne0 (xs := xs)) xs.length 0 h j (by omega) (by omega)
    unfold globAt at hn
    rw [dif_pos hj] at hn
    unfold globStep at hn
    repeat' split at hn
    all_goals first | (cases hn; done) | (have z := inB_iff.mp (by assumption : inB _ 1 99999 = true); omega)
theorem glob_version {xs : List S35} (h : globM xs = 0) (j : Nat) (hj : j < xs.length) : 1 ≤ (xs[j]).f2 := (glob_versions h j hj).1
theorem glob_len {xs : List S35} (h : globM xs = 0) : xs.length ≤ 60 := by
  unfold globM at h
  split at h
  · omega
  · omega
theorem name_glob {xs : List S35} {nm : ByteArray} (h : nameM xs nm = 0) : globM xs = 0 := by
  unfold nameM at h
  split at h
  · assumption
  · exact h
theorem bytes_eq' {a b : ByteArray} (h : a.toList = b.toList) : a = b := by
  rw [ByteArray.toList_eq, ByteArray.toList_eq] at h
  exact Go.WideShapes.bytes_inj h
theorem runU_first {ρ : Type} {B : Nat → Option ρ} {e v : ρ} : ∀ d i j, i ≤ j → j < i + d → (∀ q, i ≤ q → q < j → B q = none) → B j = some v → runU B e d i = v
  | 0, i, j, h0, h1, _, _ => by omega
  | d + 1, i, j, h0, h1, hn, hj => by
    simp only [runU]
    by_cases c : i = j
    · subst c; rw [hj]
    · rw [hn i (Nat.le_refl _) (by omega)]
      exact runU_first d (i + 1) j (by omega) (by omega) (fun q hq hq2 => hn q (by omega) hq2) hj
theorem runU_end {ρ : Type} {B : Nat → Option ρ} {e : ρ} : ∀ d i, (∀ q, i ≤ q → q < i + d → B q = none) → runU B e d i = e
  | 0, _, _ => rfl
  | d + 1, i, h => by
    simp only [runU]
    rw [h i (Nat.le_refl _) (by omega)]
    exact runU_end d (i + 1) (fun q h0 h1 => h q (by omega) (by omega))
theorem atB_some {xs : List S35} {nm : ByteArray} {j : Nat} (hj : j < xs.length) (h : xs[j].f0 = nm) : atB xs nm j = some (j : Int) := by
  unfold atB; rw [dif_pos hj, if_pos (by rw [h])]
theorem atB_none {xs : List S35} {nm : ByteArray} {j : Nat} (h : ∀ (hj : j < xs.length), xs[j].f0 ≠ nm) : atB xs nm j = none := by
  unfold atB
  split
  · rename_i hj
    rw [if_neg (fun z => h hj (bytes_eq' z))]
  · rfl
theorem atM_eq {xs : List S35} {nm : ByteArray} {j : Nat} (hj : j < xs.length) (h : xs[j].f0 = nm) (hn : ∀ i (hi : i < xs.length), i < j → xs[i].f0 ≠ nm) : atM xs nm = (j : Int) := by
  unfold atM
  exact runU_first xs.length 0 j (by omega) (by omega) (fun q _ hq => atB_none (fun hq2 => hn q hq2 hq)) (atB_some hj h)
theorem atM_none {xs : List S35} {nm : ByteArray} (h : ∀ i (hi : i < xs.length), xs[i].f0 ≠ nm) : atM xs nm = -1 := by
  unfold atM
  exact runU_end xs.length 0 (fun q _ _ => atB_none (fun hq => h q hq))
theorem atM_found {xs : List S35} {nm : ByteArray} (h : 0 ≤ atM xs nm) : ∃ (j : Nat) (hj : j < xs.length), atM xs nm = (j : Int) ∧ xs[j].f0 = nm := by
  by_cases c : ∃ (j : Nat) (hj : j < xs.length), xs[j].f0 = nm
  · obtain ⟨j, hj, hm⟩ := c
    have : ∃ (q : Nat) (hq : q < xs.length), xs[q].f0 = nm ∧ ∀ i (hi : i < xs.length), i < q → xs[i].f0 ≠ nm := by
      clear h
      induction j using Nat.strongRecOn with
      | _ j ih =>
        by_cases z : ∃ (i : Nat) (hi : i < xs.length), i < j ∧ xs[i].f0 = nm
        · obtain ⟨i, hi, hij, hz⟩ := z
          exact ih i hij hi hz
        · exact ⟨j, hj, hm, fun i hi hij hz => z ⟨i, hi, hij, hz⟩⟩
    obtain ⟨q, hq, hqm, hqn⟩ := this
    exact ⟨q, hq, atM_eq hq hqm hqn, hqm⟩
  · have := atM_none (xs := xs) (nm := nm) (fun i hi hz => c ⟨i, hi, hz⟩)
    omega
theorem atM_missing {xs : List S35} {nm : ByteArray} (h : atM xs nm < 0) : ∀ i (hi : i < xs.length), xs[i].f0 ≠ nm := by
  intro i hi hz
  have : ∃ (q : Nat) (hq : q < xs.length), xs[q].f0 = nm ∧ ∀ i (hi : i < xs.length), i < q → xs[i].f0 ≠ nm := by
    clear h
    induction i using Nat.strongRecOn with
    | _ j ih =>
      by_cases z : ∃ (i : Nat) (hi : i < xs.length), i < j ∧ xs[i].f0 = nm
      · obtain ⟨i, hi2, hij, hz2⟩ := z
        exact ih i hij hi2 hz2
      · exact ⟨j, hi, hz, fun i hi hij hz => z ⟨i, hi, hij, hz⟩⟩
  obtain ⟨q, hq, hqm, hqn⟩ := this
  have := atM_eq hq hqm hqn
  omega
def okOne (g : S35) : Prop := symB g.f0 = true ∧ valueM g.f1.f0 g.f1.f1 g.f1.f2 = 0 ∧ inB g.f2 1 99999 = true
def GoodG (xs : List S35) : Prop := xs.length ≤ 60 ∧ (∀ i (h : i < xs.length), okOne xs[i]) ∧ ∀ i j (hi : i < xs.length) (hj : j < xs.length), i < j → xs[i].f0 ≠ xs[j].f0
theorem good_of {xs : List S35} (h : globM xs = 0) : GoodG xs := by
  have hl := glob_len h
  have hs : ∀ j (hj : j < xs.length), globStep xs xs[j] j = none := by
    intro j hj
    unfold globM at h
    rw [if_neg (by omega)] at h
    have hn := runU_none (globAt_ne0 (xs := xs)) xs.length 0 h j (by omega) (by omega)
    unfold globAt at hn
    rw [dif_pos hj] at hn
    exact hn
  have hp : ∀ j (hj : j < xs.length), okOne xs[j] ∧ ¬ 0 ≤ atM (xs.take j) xs[j].f0 := by
    intro j hj
    have h1 := hs j hj
    unfold globStep at h1
    repeat' split at h1
    all_goals first | (cases h1; done) | skip
    exact ⟨⟨by assumption, by assumption, by assumption⟩, by assumption⟩
  refine ⟨hl, fun i hi => (hp i hi).1, fun i j hi hj hij hz => ?_⟩
  have h2 := (hp j hj).2
  have h3 := atM_missing (xs := xs.take j) (nm := xs[j].f0) (by omega) i (by rw [List.length_take]; omega)
  rw [List.getElem_take] at h3
  exact h3 hz
theorem of_good {xs : List S35} (h : GoodG xs) : globM xs = 0 := by
  unfold globM
  rw [if_neg (by have := h.1; omega)]
  refine runU_end xs.length 0 (fun j _ hj => ?_)
  have hj' : j < xs.length := by omega
  have ho := h.2.1 j hj'
  have hm : atM (xs.take j) xs[j].f0 = -1 := atM_none (fun i hi => by
    rw [List.length_take] at hi
    rw [List.getElem_take]
    exact h.2.2 i j (by omega) hj' (by omega))
  unfold globAt globStep
  rw [dif_pos hj', if_pos ho.1, if_pos ho.2.1, if_pos ho.2.2, if_neg (by omega)]
theorem good_at {xs : List S35} (h : GoodG xs) (j : Nat) (hj : j < xs.length) : atM xs xs[j].f0 = (j : Int) :=
  atM_eq hj rfl (fun i hi hij => h.2.2 i j hi hj hij)
theorem rdGm {xs : List S35} {j : Nat} (h : j < xs.length) : rd_T35 xs (j : Int) = xs[j] := by simp [rd_T35, h]
theorem nameM_0 {xs : List S35} {nm : ByteArray} : nameM xs nm = 0 ↔ globM xs = 0 ∧ symB nm = true := by
  unfold nameM symM
  constructor
  · intro h
    split at h
    · rename_i a
      split at h
      · rename_i b; exact ⟨a, b⟩
      · omega
    · rename_i a; exact absurd h a
  · rintro ⟨a, b⟩
    rw [if_pos a, if_pos b]
theorem look_hit {xs : List S35} (h : GoodG xs) (hx : okG xs) (hl : xs.length ≤ 1048576) (j : Nat) (hj : j < xs.length) : Ev (fun k => impl_LookGlobal.f k xs xs[j].f0) (0, xs[j].f0, xs[j].f1.f0, xs[j].f1.f1, xs[j].f1.f2, xs[j].f2) := by
  have hm := hx xs[j] (List.getElem_mem hj)
  have a := nameFault_ev xs xs[j].f0 hx hm.1
  have c : nameM xs xs[j].f0 = 0 := nameM_0.mpr ⟨of_good h, (h.2.1 j hj).1⟩
  have g := globalAt_ev xs xs[j].f0 (by omega)
  rw [good_at h j hj] at g
  exact Ev.congr (fun k => impl_LookGlobal.f.eq_1 k _ _) (Ev.bind a (Ev.ifp c (Ev.bind g (Ev.ifn (by omega) (Ev.ifp (by omega) (Ev.ifp (by omega) (Ev.leaf (by rw [rdGm hj]))))))))
def newU (v : Int) (ns : List ByteArray) : Nat → Nat → List S35
  | 0, _ => []
  | d + 1, i => ⟨rdOf ByteArray.empty ns (i : Int), ⟨8, (i : Int), ⟨#[]⟩⟩, v⟩ :: newU v ns d (i + 1)
theorem newU_length (v : Int) (ns : List ByteArray) : ∀ d i, (newU v ns d i).length = d
  | 0, _ => rfl
  | d + 1, i => by simp [newU, newU_length v ns d]
theorem l7New_loop (v : Int) (ns : List ByteArray) (hn : ns.length ≤ 1048576) : ∀ d i acc, i + d = ns.length → acc.length + d ≤ 1048576 → Ev (fun k => spec_l7New.l0 k v acc ns (i : Int)) (acc ++ newU v ns d i)
  | 0, i, acc, hd, ha => Ev.step (fun k => spec_l7New.l0.eq_2 _ _ _ _ k) (Ev.ifn (by omega) (Ev.leaf (by simp [newU])))
  | d + 1, i, acc, hd, ha => by
    have hi : i < ns.length := by omega
    refine Ev.step (fun k => spec_l7New.l0.eq_2 _ _ _ _ k) (Ev.ifp (by omega) (Ev.ifp (by omega) (Ev.ifp (by omega) ?_)))
    rw [wrap_succ hi (by omega)]
    exact Ev.cast (l7New_loop v ns hn d (i + 1) _ (by omega) (by simp; omega)) (by simp [newU])
def primN : List ByteArray := [⟨#[43]⟩, ⟨#[45]⟩, ⟨#[42]⟩, ⟨#[113, 117, 111]⟩, ⟨#[114, 101, 109]⟩, ⟨#[60]⟩, ⟨#[61]⟩, ⟨#[99, 111, 110, 115]⟩, ⟨#[99, 97, 114]⟩, ⟨#[99, 100, 114]⟩, ⟨#[110, 117, 108, 108, 63]⟩, ⟨#[112, 97, 105, 114, 63]⟩, ⟨#[101, 113, 63]⟩, ⟨#[110, 111, 116]⟩, ⟨#[108, 105, 115, 116]⟩, ⟨#[99, 97, 108, 108, 47, 99, 99]⟩]
def newM (v : Int) : List S35 := newU v primN 16 0
theorem l7New_ev (v : Int) : Ev (fun k => spec_l7New.f k v) (newM v) :=
  Ev.congr (fun k => spec_l7New.f.eq_1 k _) (Ev.bind0 (a := primN) rfl (l7New_loop v primN (by decide) 16 0 [] rfl (by decide)))
def okB (l : List Int) : Prop := l.length ≤ 1048576 ∧ ∀ y ∈ l, 0 ≤ y ∧ y ≤ 255
theorem rdb (l : List Int) (h : okB l) (i : Int) : 0 ≤ rd l i ∧ rd l i ≤ 255 := by
  unfold rd
  by_cases c : i.toNat < l.length
  · have := h.2 (l.getD i.toNat 0) (by simp [List.getD, c])
    exact this
  · simp [List.getD, c]
theorem tmod_lt' {a b : Int} (ha : 0 ≤ a) (hb : 0 < b) : 0 ≤ Int.tmod a b ∧ Int.tmod a b < b := ⟨Int.tmod_nonneg b ha, Int.tmod_lt_of_pos a hb⟩
theorem next_eq (l : List Int) (hl : okB l) (s n : Int) (h0 : 0 ≤ s) (h1 : s ≤ 1000000000) (hn : n ≤ 1000000000) : ∃ v, spec_l1Next.f l s n = some (v, s + 1) ∧ 0 ≤ v ∧ (1 ≤ n → v < n) ∧ (n < 1 → v = 0) := by
  have hlen := hl.1
  unfold spec_l1Next.f
  rw [wrap_id (x := s + 1) (by omega) (by omega)]
  by_cases c : n < 1
  · exact ⟨0, by rw [if_pos c], by omega, by omega, fun _ => rfl⟩
  · rw [if_neg c, show s + 1 - 1 = s from by omega, wrap_id (x := s) (by omega) (by omega)]
    by_cases c1 : (l.length : Int) = 0
    · rw [if_pos c1, if_neg (by omega), wrap_id (x := s * 7) (by omega) (by omega)]
      have := tmod_lt' (a := s * 7) (b := n) (by omega) (by omega)
      exact ⟨_, rfl, this.1, fun _ => this.2, fun h => absurd h c⟩
    · have hp : (0 : Int) < l.length := by omega
      have m1 := tmod_lt' h0 hp
      have m2 := tmod_lt' (a := s + 1) (b := (l.length : Int)) (by omega) hp
      have d1 : 0 ≤ Int.tdiv s (l.length : Int) ∧ Int.tdiv s (l.length : Int) ≤ s := by
        rw [Int.tdiv_eq_ediv_of_nonneg h0]
        exact ⟨Int.ediv_nonneg h0 (by omega), Int.ediv_le_self _ h0⟩
      have r1 := rdb l hl (Int.tmod s (l.length : Int))
      have r2 := rdb l hl (Int.tmod (s + 1) (l.length : Int))
      rw [if_neg c1, if_pos m1.1, if_pos m1.2]
      by_cases c2 : n > 200
      · rw [if_pos c2, wrap_id (x := s + 1) (by omega) (by omega), if_pos m2.1, if_pos m2.2, if_neg (by omega)]
        generalize hq : Int.tdiv s (l.length : Int) = q at d1
        generalize ha : rd l (Int.tmod s (l.length : Int)) = a at r1
        generalize hb : rd l (Int.tmod (s + 1) (l.length : Int)) = b at r2
        rw [wrap_id (x := a) (by omega) (by omega), wrap_id (x := q) (by omega) (by omega), wrap_id (x := q * 37) (by omega) (by omega), wrap_id (x := a + q * 37) (by omega) (by omega), wrap_id (x := b) (by omega) (by omega), wrap_id (x := b * 13) (by omega) (by omega), wrap_id (x := (a + q * 37) * 251) (by omega) (by omega), wrap_id (x := (a + q * 37) * 251 + b * 13) (by omega) (by omega), wrap_id (x := (a + q * 37) * 251 + b * 13 + s) (by omega) (by omega)]
        have := tmod_lt' (a := (a + q * 37) * 251 + b * 13 + s) (b := n) (by omega) (by omega)
        exact ⟨_, rfl, this.1, fun _ => this.2, fun h => absurd h c⟩
      · rw [if_neg c2, if_neg (by omega)]
        generalize hq : Int.tdiv s (l.length : Int) = q at d1
        generalize ha : rd l (Int.tmod s (l.length : Int)) = a at r1
        rw [wrap_id (x := a) (by omega) (by omega), wrap_id (x := q) (by omega) (by omega), wrap_id (x := q * 37) (by omega) (by omega), wrap_id (x := a + q * 37) (by omega) (by omega)]
        have := tmod_lt' (a := a + q * 37) (b := n) (by omega) (by omega)
        exact ⟨_, rfl, this.1, fun _ => this.2, fun h => absurd h c⟩
theorem pick_eq (l : List Int) (hl : okB l) (s : Int) (xs : List Int) (h0 : 0 ≤ s) (h1 : s ≤ 1000000000) (hx : 0 < xs.length) (hx1 : xs.length ≤ 1000) : ∃ v, spec_l1Pick.f l s xs = some (v, s + 1) ∧ v ∈ xs := by
  obtain ⟨v, hv, v0, v1, _⟩ := next_eq l hl s (xs.length : Int) h0 h1 (by omega)
  have v2 := v1 (by omega)
  unfold spec_l1Pick.f
  rw [hv, Option.bind_some, if_pos v0, if_pos v2]
  refine ⟨_, rfl, ?_⟩
  unfold rd
  have hi : v.toNat < xs.length := by omega
  simp [List.getD, hi]
theorem draw_eq (l : List Int) (hl : okB l) (s : Int) (h0 : 0 ≤ s) (h1 : s ≤ 900000000) : ∃ v, spec_l1Draw.f l s = some (v, s + 3) ∧ -1000000000 ≤ v ∧ v ≤ 1000000000 := by
  obtain ⟨a, ha, a0, a1, _⟩ := next_eq l hl s 20 h0 (by omega) (by omega)
  obtain ⟨b, hb, b0, b1, _⟩ := next_eq l hl (s + 1) 100 (by omega) (by omega) (by omega)
  have a2 := a1 (by omega)
  have b2 := b1 (by omega)
  obtain ⟨v, hv, hm⟩ := pick_eq l hl (s + 1 + 1) [wrap64 (a - 9), b, 0, (-1), 1000000000, (-1000000000), 99999] (by omega) (by omega) (by simp) (by simp)
  rw [wrap_id (x := a - 9) (by omega) (by omega)] at hv hm
  unfold spec_l1Draw.f
  rw [ha, Option.bind_some]
  simp only []
  rw [hb, Option.bind_some]
  simp only []
  rw [wrap_id (x := a - 9) (by omega) (by omega), hv, Option.bind_some]
  refine ⟨v, by rw [show s + 1 + 1 + 1 = s + 3 from by omega], ?_⟩
  simp only [List.mem_cons, List.not_mem_nil, or_false] at hm
  omega
theorem okB_of (l : List Int) (h : l.length ≤ 1048576) (hw : ∀ y ∈ l, (Lit.int .u8 y).wf = true) : okB l := by
  refine ⟨h, fun y hy => ?_⟩
  have := hw y hy
  simp [Lit.wf, IntKind.min, IntKind.max, IntKind.signed, IntKind.bits] at this
  exact this
theorem rdG_set {xs : List S35} {i : Nat} (h : i < xs.length) (v : S35) : rd_T35 (xs.set i v) (i : Int) = v := by simp [rd_T35, h]
def upG (xs : List S35) (i : Nat) (v : S26) : List S35 := xs.set i ⟨(rd_T35 xs (i : Int)).f0, v, wrap64 ((rd_T35 xs (i : Int)).f2 + 1)⟩
def putG (xs : List S35) (nm : ByteArray) (v : S26) : List S35 × Int :=
  if 0 ≤ atM xs nm then (if (rd_T35 xs (atM xs nm)).f2 ≥ 99999 then ([], 3) else (upG xs (atM xs nm).toNat v, 0)) else (if (xs.length : Int) ≥ 60 then ([], 2) else (xs ++ [⟨nm, v, 1⟩], 0))
theorem l7Put_ev (xs : List S35) (nm : ByteArray) (v : S26) (hl : xs.length ≤ 1048576) : Ev (fun k => spec_l7Put.f k xs nm v.f0 v.f1 v.f2) (putG xs nm v) := by
  refine Ev.congr (fun k => spec_l7Put.f.eq_1 k _ _ _ _ _) (Ev.bind0 rfl (Ev.ifp (by simp; omega) (Ev.bind0 rfl ?_)))
  rw [List.nil_append]
  refine Ev.bind (l7At_ev xs nm (by omega)) (Ev.iff (fun c => ?_) (fun c => ?_))
  · have c' : 0 ≤ atM xs nm := c
    have d := atM_lt xs nm
    obtain ⟨j, hj⟩ : ∃ j : Nat, (j : Int) = atM xs nm := ⟨(atM xs nm).toNat, Int.toNat_of_nonneg c'⟩
    have hj' : j < xs.length := by omega
    refine Ev.ifp c' (Ev.ifp (by omega) (Ev.iff (fun e => Ev.leaf ?_) (fun e => Ev.bind0 rfl (Ev.leaf ?_))))
    · unfold putG; rw [if_pos c', if_pos e]
    · unfold putG upG
      rw [if_pos c', if_neg e, ← hj]
      simp only [Int.toNat_natCast, rdG_set hj', List.set_set]
  · have c' : ¬ 0 ≤ atM xs nm := c
    refine Ev.iff (fun e => Ev.leaf ?_) (fun e => Ev.ifp (by omega) (Ev.leaf ?_))
    · unfold putG; rw [if_neg c', if_pos e]
    · unfold putG; rw [if_neg c', if_neg e]
theorem defined_ev (xs : List S35) (nm : ByteArray) (v : S26) (b : Bool) (hg : globM xs = 0) : Ev (fun k => impl_defined.f k xs nm v.f0 v.f1 v.f2 b) (if ¬ 0 ≤ atM xs nm ∧ b = true then ([], 4) else putG xs nm v) := by
  have hl := glob_len hg
  have d := atM_lt xs nm
  refine Ev.congr (fun k => impl_defined.f.eq_1 k _ _ _ _ _ _) (Ev.bind (globalAt_ev xs nm (by omega)) (Ev.bind0 (a := xs) (by unfold impl_Global_45.f; rw [Option.bind_some, if_pos (by simp; omega), List.nil_append]) ?_))
  have j1 : ∀ z : Bool, z = (decide (atM xs nm < 0) && ((xs.length : Int) == 60)) → Ev (fun k => impl_defined.j1 k xs nm (atM xs nm) xs z v.f0 v.f1 v.f2) (putG xs nm v) := fun z hz => by
    refine Ev.step (fun k => impl_defined.j1.eq_2 _ _ _ _ _ _ _ _ k) (Ev.iff (fun c => Ev.leaf ?_) (fun c => Ev.iff (fun c2 => Ev.ifp (by omega) (Ev.leaf ?_)) (fun c2 => ?_)))
    · rw [c] at hz
      have h2 : atM xs nm < 0 ∧ (xs.length : Int) = 60 := by simpa using hz.symm
      unfold putG; rw [if_neg (by omega), if_pos (by omega)]
    · have h2 : ¬ (xs.length : Int) = 60 := fun h => c (by rw [hz, h]; simp [c2])
      unfold putG; rw [if_neg (by omega), if_neg (by omega)]
    · obtain ⟨j, hj⟩ : ∃ j : Nat, (j : Int) = atM xs nm := ⟨(atM xs nm).toNat, Int.toNat_of_nonneg (by omega)⟩
      have hj' : j < xs.length := by omega
      have hv := glob_versions hg j hj'
      have hr : (rd_T35 xs (atM xs nm)).f2 = (xs[j]).f2 := by rw [← hj, rdG_at hj']
      refine Ev.ifp (by omega) (Ev.ifp (by omega) (Ev.iff (fun e => Ev.leaf ?_) (fun e => Ev.ifp (by omega) (Ev.bind0 rfl (Ev.leaf ?_)))))
      · unfold putG; rw [if_pos (by omega), if_pos (by omega)]
      · unfold putG upG
        rw [if_pos (by omega), if_neg (by omega), ← hj]
        simp only [Int.toNat_natCast, rdG_set hj', List.set_set]
  have j0 : ∀ z : Bool, z = (decide (atM xs nm < 0) && b) → Ev (fun k => impl_defined.j0 k xs nm (atM xs nm) xs z v.f0 v.f1 v.f2) (if ¬ 0 ≤ atM xs nm ∧ b = true then ([], 4) else putG xs nm v) := fun z hz => by
    refine Ev.step (fun k => impl_defined.j0.eq_2 _ _ _ _ _ _ _ _ k) (Ev.iff (fun c => Ev.leaf ?_) (fun c => ?_))
    · rw [c] at hz
      have h2 : atM xs nm < 0 ∧ b = true := by simpa using hz.symm
      rw [if_pos ⟨by omega, h2.2⟩]
    · rw [if_neg (fun h => c (by rw [hz, h.2]; simp; omega))]
      exact Ev.iff (fun c2 => j1 _ (by simp [c2])) (fun c2 => j1 _ (by simp [c2]))
  exact Ev.iff (fun c => j0 _ (by simp [c])) (fun c => j0 _ (by simp [c]))
def turnM (xs : List S35) (nm : ByteArray) (v : S26) (b : Bool) : Int × List S35 :=
  if nameM xs nm = 0 then (if valueM v.f0 v.f1 v.f2 = 0 then (if ¬ 0 ≤ atM xs nm ∧ b = true then (4, []) else ((putG xs nm v).2, (putG xs nm v).1)) else (valueM v.f0 v.f1 v.f2, [])) else (nameM xs nm, [])
theorem turn_ev (xs : List S35) (nm : ByteArray) (v : S26) (b : Bool) (hx : okG xs) (hn : nm.size ≤ 9223372036854775807) (hv : v.f2.size ≤ 9223372036854775807) : Ev (fun k => impl_turnGlobal.f k xs nm v.f0 v.f1 v.f2 b) (turnM xs nm v b) := by
  refine Ev.congr (fun k => impl_turnGlobal.f.eq_1 k _ _ _ _ _ _) (Ev.bind (nameFault_ev xs nm hx hn) (Ev.iff (fun c => Ev.bind (implValue_ev _ _ _ hv) (Ev.iff (fun d => Ev.bind (defined_ev xs nm v b (name_glob c)) (Ev.leaf ?_)) (fun d => Ev.leaf ?_))) (fun c => Ev.leaf ?_)))
  · unfold turnM
    rw [if_pos c, if_pos d]
    split <;> rfl
  · unfold turnM; rw [if_pos c, if_neg d]
  · unfold turnM; rw [if_neg c]
theorem turnM_len (xs : List S35) (nm : ByteArray) (v : S26) (b : Bool) : (turnM xs nm v b).2.length ≤ xs.length + 1 := by
  unfold turnM putG upG
  repeat' split
  all_goals simp
theorem turnM_len2 (xs : List S35) (nm : ByteArray) (v : S26) (b : Bool) : (turnM xs nm v b).2.length ≤ 61 := by
  by_cases c : nameM xs nm = 0
  · have h1 := turnM_len xs nm v b
    have h2 := glob_len (name_glob c)
    omega
  · unfold turnM
    rw [if_neg c]
    simp
theorem good_up {xs : List S35} (h : GoodG xs) (j : Nat) (hj : j < xs.length) (v : S26) (hv : valueM v.f0 v.f1 v.f2 = 0) (hn : xs[j].f2 < 99999) : upG xs j v = xs.set j ⟨xs[j].f0, v, xs[j].f2 + 1⟩ ∧ GoodG (upG xs j v) := by
  have ho := h.2.1 j hj
  have hb := inB_iff.mp ho.2.2
  have e : upG xs j v = xs.set j ⟨xs[j].f0, v, xs[j].f2 + 1⟩ := by
    unfold upG
    rw [rdGm hj, wrap_id (by omega) (by omega)]
  refine ⟨e, ?_⟩
  rw [e]
  have hname : ∀ i (hi : i < xs.length), ((xs.set j ⟨xs[j].f0, v, xs[j].f2 + 1⟩)[i]'(by rw [List.length_set]; exact hi)).f0 = xs[i].f0 := by
    intro i hi
    rw [List.getElem_set]
    split
    · rename_i z; subst z; rfl
    · rfl
  refine ⟨by rw [List.length_set]; exact h.1, fun i hi => ?_, fun i q hi hq hiq => ?_⟩
  · rw [List.length_set] at hi
    rw [List.getElem_set]
    split
    · exact ⟨ho.1, hv, inB_iff.mpr (by show 1 ≤ xs[j].f2 + 1 ∧ xs[j].f2 + 1 ≤ 99999; omega)⟩
    · exact h.2.1 i hi
  · rw [List.length_set] at hi hq
    rw [hname i hi, hname q hq]
    exact h.2.2 i q hi hq hiq
def neqB (xs : List S35) (a : Int) (K M : Int) (s : ByteArray) : Bool := (!((rd_T35 xs a).f1.f0 == K) || (!((rd_T35 xs a).f1.f1 == M) || (!(((rd_T35 xs a).f1.f2).toList == s.toList))))
def siteM (xs : List S35) (nm : ByteArray) (v K M : Int) (s : ByteArray) : Int :=
  if inB v 0 99999 = true then (if v = 0 then (if (!(K == 0) || (!(M == 0) || (!(s.toList == ([] : List UInt8))))) = true then 1 else 0) else (if valueM K M s = 0 then (if 0 ≤ atM xs nm then (if (rd_T35 xs (atM xs nm)).f2 = v then (if neqB xs (atM xs nm) K M s = true then 1 else 0) else 0) else 0) else valueM K M s)) else 3
theorem l7Site_ev (xs : List S35) (nm : ByteArray) (v K M : Int) (s : ByteArray) (hl : xs.length ≤ 1048576) (hs : s.size ≤ 9223372036854775807) : Ev (fun k => spec_l7Site.f k xs nm v K M s) (siteM xs nm v K M s) := by
  refine Ev.congr (fun k => spec_l7Site.f.eq_1 k _ _ _ _ _ _) (Ev.bind0 (l1In_eq _ _ _) (Ev.iff (fun c => Ev.iff (fun c1 => Ev.iff (fun c2 => Ev.leaf ?_) (fun c2 => Ev.leaf ?_)) (fun c1 => Ev.bind (l5Fault_ev _ _ _ hs) (Ev.iff (fun c2 => Ev.bind (l7At_ev xs nm (by omega)) (Ev.iff (fun c3 => ?_) (fun c3 => Ev.leaf ?_))) (fun c2 => Ev.leaf ?_)))) (fun c => Ev.leaf ?_)))
  · unfold siteM; rw [if_pos c, if_pos c1, if_pos c2]
  · unfold siteM; rw [if_pos c, if_pos c1, if_neg c2]
  · have c3' : 0 ≤ atM xs nm := c3
    have d := atM_lt xs nm
    refine Ev.ifp c3' (Ev.ifp (by omega) (Ev.iff (fun c4 => Ev.iff (fun c5 => Ev.leaf ?_) (fun c5 => Ev.leaf ?_)) (fun c4 => Ev.leaf ?_)))
    · unfold siteM; rw [if_pos c, if_neg c1, if_pos c2, if_pos c3', if_pos c4]; exact (if_pos (c := neqB xs (atM xs nm) K M s = true) c5).symm
    · unfold siteM; rw [if_pos c, if_neg c1, if_pos c2, if_pos c3', if_pos c4]; exact (if_neg (c := neqB xs (atM xs nm) K M s = true) c5).symm
    · unfold siteM; rw [if_pos c, if_neg c1, if_pos c2, if_pos c3', if_neg c4]
  · unfold siteM; rw [if_pos c, if_neg c1, if_pos c2, if_neg c3]
  · unfold siteM; rw [if_pos c, if_neg c1, if_neg c2]
  · unfold siteM; rw [if_neg c]
def siteF (xs : List S35) (nm : ByteArray) (v K M : Int) (s : ByteArray) : Int := if nameM xs nm = 0 then siteM xs nm v K M s else nameM xs nm
theorem specSite_ev (xs : List S35) (nm : ByteArray) (v K M : Int) (s : ByteArray) (hx : okG xs) (hn : nm.size ≤ 9223372036854775807) (hl : xs.length ≤ 1048576) (hs : s.size ≤ 9223372036854775807) : Ev (fun k => spec_SiteFault.f k xs nm v K M s) (siteF xs nm v K M s) := by
  refine Ev.congr (fun k => spec_SiteFault.f.eq_1 k _ _ _ _ _ _) (Ev.bind (l7Asked_ev xs nm hx hn) (Ev.iff (fun c => Ev.bind (l7Site_ev xs nm v K M s hl hs) (Ev.leaf ?_)) (fun c => Ev.leaf ?_)))
  · unfold siteF; rw [if_pos c]
  · unfold siteF; rw [if_neg c]
theorem implSite_ev (xs : List S35) (nm : ByteArray) (v K M : Int) (s : ByteArray) (hx : okG xs) (hn : nm.size ≤ 9223372036854775807) (hl : xs.length ≤ 1048576) (hs : s.size ≤ 9223372036854775807) : Ev (fun k => impl_SiteFault.f k xs nm v K M s) (siteF xs nm v K M s) := by
  refine Ev.congr (fun k => impl_SiteFault.f.eq_1 k _ _ _ _ _ _) (Ev.bind (nameFault_ev xs nm hx hn) (Ev.iff (fun c0 => ?_) (fun c0 => Ev.leaf (by unfold siteF; rw [if_neg c0]))))
  have e : siteF xs nm v K M s = siteM xs nm v K M s := by unfold siteF; rw [if_pos c0]
  rw [e]
  refine Ev.bind0 (in_eq _ _ _) (Ev.iff (fun c => Ev.iff (fun c1 => Ev.iff (fun c2 => Ev.leaf ?_) (fun c2 => Ev.leaf ?_)) (fun c1 => Ev.bind (implValue_ev _ _ _ hs) (Ev.iff (fun c2 => Ev.bind (globalAt_ev xs nm (by omega)) (Ev.iff (fun c3 => ?_) (fun c3 => Ev.leaf ?_))) (fun c2 => Ev.leaf ?_)))) (fun c => Ev.leaf ?_))
  · unfold siteM; rw [if_pos c, if_pos c1, if_pos c2]
  · unfold siteM; rw [if_pos c, if_pos c1, if_neg c2]
  · have c3' : 0 ≤ atM xs nm := c3
    have d := atM_lt xs nm
    refine Ev.ifp c3' (Ev.ifp (by omega) (Ev.iff (fun c4 => Ev.iff (fun c5 => Ev.leaf ?_) (fun c5 => Ev.leaf ?_)) (fun c4 => Ev.leaf ?_)))
    · unfold siteM; rw [if_pos c, if_neg c1, if_pos c2, if_pos c3', if_pos c4]; exact (if_pos (c := neqB xs (atM xs nm) K M s = true) c5).symm
    · unfold siteM; rw [if_pos c, if_neg c1, if_pos c2, if_pos c3', if_pos c4]; exact (if_neg (c := neqB xs (atM xs nm) K M s = true) c5).symm
    · unfold siteM; rw [if_pos c, if_neg c1, if_pos c2, if_pos c3', if_neg c4]
  · unfold siteM; rw [if_pos c, if_neg c1, if_pos c2, if_neg c3]
  · unfold siteM; rw [if_pos c, if_neg c1, if_neg c2]
  · unfold siteM; rw [if_neg c]
theorem bytes_eq {a b : ByteArray} (h : a.toList = b.toList) : a = b := by
  rw [ByteArray.toList_eq, ByteArray.toList_eq] at h
  exact Go.WideShapes.bytes_inj h
theorem fetch_ev (xs : List S35) (nm : ByteArray) (v K M : Int) (s : ByteArray) (hx : okG xs) (hn : nm.size ≤ 9223372036854775807) (hl : xs.length ≤ 1048576) (hs : s.size ≤ 9223372036854775807) : ∃ r, Ev (fun k => impl_FetchSite.f k xs nm v K M s) r ∧ Ev (fun k => spec_FetchSite.f k xs nm v K M s) r := by
  have a := implSite_ev xs nm v K M s hx hn hl hs
  have b := specSite_ev xs nm v K M s hx hn hl hs
  have g := globalAt_ev xs nm (by omega)
  have t := l7At_ev xs nm (by omega)
  by_cases c : siteF xs nm v K M s = 0
  · rcases atM_lt xs nm with d | ⟨d0, d1⟩
    · exact ⟨_, Ev.congr (fun k => impl_FetchSite.f.eq_1 k _ _ _ _ _ _) (Ev.bind a (Ev.ifp c (Ev.bind g (Ev.ifp d (Ev.now _))))), Ev.congr (fun k => spec_FetchSite.f.eq_1 k _ _ _ _ _ _) (Ev.bind b (Ev.ifp c (Ev.bind t (Ev.ifp d (Ev.now _)))))⟩
    · refine ⟨_, Ev.congr (fun k => impl_FetchSite.f.eq_1 k _ _ _ _ _ _) (Ev.bind a (Ev.ifp c (Ev.bind g (Ev.ifn (by omega) (Ev.ifp d0 (Ev.ifp d1 (Ev.now _))))))), Ev.congr (fun k => spec_FetchSite.f.eq_1 k _ _ _ _ _ _) (Ev.bind b (Ev.ifp c (Ev.bind t (Ev.ifn (by omega) (Ev.ifp d0 (Ev.ifp d1 (Ev.iff (fun e => Ev.leaf ?_) (fun e => Ev.leaf ?_))))))))⟩
      · unfold siteF at c
        by_cases cn : nameM xs nm = 0
        · rw [if_pos cn] at c
          have hv : 1 ≤ v := by
            obtain ⟨j, hj⟩ : ∃ j : Nat, (j : Int) = atM xs nm := ⟨(atM xs nm).toNat, Int.toNat_of_nonneg d0⟩
            have hj' : j < xs.length := by omega
            have := glob_version (name_glob cn) j hj'
            rw [← hj, rdG_at hj'] at e
            omega
          unfold siteM at c
          by_cases z : inB v 0 99999 = true
          · rw [if_pos z, if_neg (by omega)] at c
            by_cases z1 : valueM K M s = 0
            · rw [if_pos z1, if_pos d0, if_pos e] at c
              by_cases z2 : neqB xs (atM xs nm) K M s = true
              · rw [if_pos z2] at c; omega
              · unfold neqB at z2
                simp only [Bool.or_eq_true, Bool.not_eq_true', beq_eq_false_iff_ne, ne_eq, not_or, Decidable.not_not] at z2
                rw [z2.1, z2.2.1, bytes_eq z2.2.2, e]
                simp
            · rw [if_neg z1] at c; omega
          · rw [if_neg z] at c; omega
        · rw [if_neg cn] at c; omega
      · have e' : (v == (rd_T35 xs (atM xs nm)).f2) = false := by
          rw [beq_eq_false_iff_ne]
          exact fun h => e h.symm
        rw [e']
  · exact ⟨_, Ev.congr (fun k => impl_FetchSite.f.eq_1 k _ _ _ _ _ _) (Ev.bind a (Ev.ifn c (Ev.now _))), Ev.congr (fun k => spec_FetchSite.f.eq_1 k _ _ _ _ _ _) (Ev.bind b (Ev.ifn c (Ev.now _)))⟩
theorem specDefine_ev (xs : List S35) (nm : ByteArray) (v : S26) (hx : okG xs) (hn : nm.size ≤ 9223372036854775807) (hv : v.f2.size ≤ 9223372036854775807) (hl : xs.length ≤ 1048576) : Ev (fun k => spec_DefineGlobal.f k xs nm v.f0 v.f1 v.f2) (turnM xs nm v false) := by
  refine Ev.congr (fun k => spec_DefineGlobal.f.eq_1 k _ _ _ _ _) (Ev.bind (l7Asked_ev xs nm hx hn) (Ev.iff (fun c => Ev.bind (l5Fault_ev _ _ _ hv) (Ev.iff (fun d => Ev.bind (l7Put_ev xs nm v hl) (Ev.leaf ?_)) (fun d => Ev.leaf ?_))) (fun c => Ev.leaf ?_)))
  · unfold turnM; rw [if_pos c, if_pos d, if_neg (by simp)]
  · unfold turnM; rw [if_pos c, if_neg d]
  · unfold turnM; rw [if_neg c]
def smallV (v : S26) : Prop := v.f2.size ≤ 12
def drawG (xs : List S35) : Prop := 1 ≤ xs.length ∧ xs.length ≤ 61 ∧ ∀ x ∈ xs, x.f0.size ≤ 12 ∧ x.f1.f2.size ≤ 12
theorem drawG_ok {xs : List S35} (h : drawG xs) : okG xs := fun x hx => ⟨by have := (h.2.2 x hx).1; omega, by have := (h.2.2 x hx).2; omega⟩
theorem drawG_turn {xs : List S35} {nm : ByteArray} {v : S26} (h : drawG xs) (hn : nm.size ≤ 12) (hv : smallV v) (c : (turnM xs nm v false).1 = 0) : drawG (turnM xs nm v false).2 := by
  have hl := turnM_len2 xs nm v false
  unfold turnM at c hl ⊢
  by_cases c0 : nameM xs nm = 0
  · rw [if_pos c0] at c hl ⊢
    by_cases c1 : valueM v.f0 v.f1 v.f2 = 0
    · rw [if_pos c1, if_neg (by simp)] at c hl ⊢
      unfold putG at c hl ⊢
      by_cases c2 : 0 ≤ atM xs nm
      · rw [if_pos c2] at c hl ⊢
        split at c
        · simp at c
        · rename_i c3
          rw [if_neg c3] at hl ⊢
          have d := atM_lt xs nm
          refine ⟨by simp only [upG, List.length_set]; exact h.1, hl, fun x hx => ?_⟩
          simp only [upG] at hx
          rcases List.mem_or_eq_of_mem_set hx with hm | rfl
          · exact h.2.2 x hm
          · refine ⟨?_, hv⟩
            have hj : (atM xs nm).toNat < xs.length := by omega
            have := (h.2.2 xs[(atM xs nm).toNat] (List.getElem_mem hj)).1
            rw [rdGm hj]
            exact this
      · rw [if_neg c2] at c hl ⊢
        split at c
        · simp at c
        · rename_i c3
          rw [if_neg c3] at hl ⊢
          refine ⟨by simp, hl, fun x hx => ?_⟩
          rcases List.mem_append.mp hx with hm | hm
          · exact h.2.2 x hm
          · rw [List.mem_singleton] at hm
            subst hm
            exact ⟨hn, hv⟩
    · rw [if_neg c1] at c; exact absurd c c1
  · rw [if_neg c0] at c; exact absurd c c0
theorem rdOf_mem {α : Type} {d : α} {xs : List α} {i : Int} (h0 : 0 ≤ i) (h1 : i < (xs.length : Int)) : rdOf d xs i ∈ xs := by
  unfold rdOf
  have hi : i.toNat < xs.length := by omega
  simp [List.getD, hi]
theorem l2Name_eq (l : List Int) (hl : okB l) (s : Int) (h0 : 0 ≤ s) (h1 : s ≤ 900000000) : ∃ n, spec_l2Name.f l s = some (n, s + 1) ∧ n.size ≤ 12 := by
  obtain ⟨v, hv, v0, v1, _⟩ := next_eq l hl s 8 h0 (by omega) (by omega)
  have v2 := v1 (by omega)
  unfold spec_l2Name.f
  rw [Option.bind_some]
  rw [hv, Option.bind_some, if_pos v0, if_pos (by simp; omega)]
  refine ⟨_, rfl, ?_⟩
  have hm := rdOf_mem (d := ByteArray.empty) (xs := [(⟨#[120]⟩ : ByteArray), (⟨#[121]⟩ : ByteArray), (⟨#[102]⟩ : ByteArray), (⟨#[43]⟩ : ByteArray), (⟨#[99, 97, 114]⟩ : ByteArray), (⟨#[105, 102]⟩ : ByteArray), (⟨#[110, 117, 108, 108, 63]⟩ : ByteArray), (⟨#[97]⟩ : ByteArray)]) v0 (by simp; omega)
  exact (by decide +kernel : ∀ m ∈ [(⟨#[120]⟩ : ByteArray), (⟨#[121]⟩ : ByteArray), (⟨#[102]⟩ : ByteArray), (⟨#[43]⟩ : ByteArray), (⟨#[99, 97, 114]⟩ : ByteArray), (⟨#[105, 102]⟩ : ByteArray), (⟨#[110, 117, 108, 108, 63]⟩ : ByteArray), (⟨#[97]⟩ : ByteArray)], m.size ≤ 12) _ hm
theorem pick3_ev (l : List Int) (hl : okB l) (s x : Int) (b : Bool) (h0 : 0 ≤ s) (h1 : s ≤ 900000000) : ∃ a c n s', Ev (fun k => spec_l5Draw.j0 k 3 x b l s) (a, c, n, s') ∧ n.size ≤ 12 ∧ s ≤ s' ∧ s' ≤ s + 4 := by
  obtain ⟨v, hv, _⟩ := next_eq l hl s 3 h0 (by omega) (by omega)
  obtain ⟨d, hd, _⟩ := draw_eq l hl s h0 (by omega)
  obtain ⟨p, hp, _⟩ := pick_eq l hl s [6, 7, 8] h0 (by omega) (by simp) (by simp)
  obtain ⟨q, hq, _⟩ := next_eq l hl (s + 1) 9 (by omega) (by omega) (by omega)
  have hz : (⟨#[]⟩ : ByteArray).size ≤ 12 := by decide
  by_cases c : b = true
  · exact ⟨5, v, _, s + 1, Ev.step (fun k => spec_l5Draw.j0.eq_2 _ _ _ _ _ k) (Ev.ifp c (Ev.ifp (by omega) (Ev.bind0 hv (Ev.now _)))), hz, by omega, by omega⟩
  · by_cases c2 : x = 5
    · exact ⟨p, q, _, s + 1 + 1, Ev.step (fun k => spec_l5Draw.j0.eq_2 _ _ _ _ _ k) (Ev.ifn c (Ev.ifp c2 (Ev.bind0 hp (Ev.bind0 hq (Ev.now _))))), hz, by omega, by omega⟩
    · exact ⟨1, d, _, s + 3, Ev.step (fun k => spec_l5Draw.j0.eq_2 _ _ _ _ _ k) (Ev.ifn c (Ev.ifn c2 (Ev.bind0 hd (Ev.now _)))), hz, by omega, by omega⟩
theorem value_ev (l : List Int) (hl : okB l) (s : Int) (h0 : 0 ≤ s) (h1 : s ≤ 800000000) : ∃ a c n s', Ev (fun k => spec_l5Draw.f k l s 3) (a, c, n, s') ∧ n.size ≤ 12 ∧ s ≤ s' ∧ s' ≤ s + 5 := by
  obtain ⟨v, hv, _⟩ := next_eq l hl s 7 h0 (by omega) (by omega)
  obtain ⟨b, hb, _⟩ := next_eq l hl (s + 1) 2 (by omega) (by omega) (by omega)
  obtain ⟨m, hm, hmz⟩ := l2Name_eq l hl (s + 1) (by omega) (by omega)
  have hz : (⟨#[]⟩ : ByteArray).size ≤ 12 := by decide
  by_cases c0 : v = 0
  · exact ⟨2, b, _, s + 1 + 1, Ev.congr (fun k => spec_l5Draw.f.eq_1 k _ _ _) (Ev.bind0 hv (Ev.ifp c0 (Ev.bind0 hb (Ev.now _)))), hz, by omega, by omega⟩
  by_cases c1 : v = 1
  · exact ⟨3, 0, _, s + 1, Ev.congr (fun k => spec_l5Draw.f.eq_1 k _ _ _) (Ev.bind0 hv (Ev.ifn c0 (Ev.ifp c1 (Ev.now _)))), hz, by omega, by omega⟩
  by_cases c2 : v = 2
  · exact ⟨4, 0, m, s + 1 + 1, Ev.congr (fun k => spec_l5Draw.f.eq_1 k _ _ _) (Ev.bind0 hv (Ev.ifn c0 (Ev.ifn c1 (Ev.ifp c2 (Ev.bind0 hm (Ev.now _)))))), hmz, by omega, by omega⟩
  by_cases c3 : v = 3
  · obtain ⟨a, c, n, s', he, hn, e0, e1⟩ := pick3_ev l hl (s + 1) v (v == 3) (by omega) (by omega)
    exact ⟨a, c, n, s', Ev.congr (fun k => spec_l5Draw.f.eq_1 k _ _ _) (Ev.bind0 hv (Ev.ifn c0 (Ev.ifn c1 (Ev.ifn c2 (Ev.ifp c3 he))))), hn, by omega, by omega⟩
  · obtain ⟨a, c, n, s', he, hn, e0, e1⟩ := pick3_ev l hl (s + 1) v (v == 4) (by omega) (by omega)
    exact ⟨a, c, n, s', Ev.congr (fun k => spec_l5Draw.f.eq_1 k _ _ _) (Ev.bind0 hv (Ev.ifn c0 (Ev.ifn c1 (Ev.ifn c2 (Ev.ifn c3 he))))), hn, by omega, by omega⟩
theorem bentValue_ev (l : List Int) (hl : okB l) (s : Int) (h0 : 0 ≤ s) (h1 : s ≤ 700000000) : ∃ a c n s', Ev (fun k => spec_l5BentValue.f k l s 3) (a, c, n, s') ∧ n.size ≤ 12 ∧ s ≤ s' ∧ s' ≤ s + 7 := by
  obtain ⟨a, c, n, s', he, hn, e0, e1⟩ := value_ev l hl s h0 (by omega)
  obtain ⟨v, hv, _⟩ := next_eq l hl s' 12 (by omega) (by omega) (by omega)
  obtain ⟨p, hp, _⟩ := pick_eq l hl (s' + 1) [0, 10, 5, 1] (by omega) (by omega) (by simp) (by simp)
  obtain ⟨q, hq, _⟩ := pick_eq l hl (s' + 1) [(-1), 2, 100000, 1000000001] (by omega) (by omega) (by simp) (by simp)
  obtain ⟨r, hr, r0, r1, _⟩ := next_eq l hl (s' + 1) 3 (by omega) (by omega) (by omega)
  have r2 := r1 (by omega)
  by_cases c0 : v = 0
  · exact ⟨p, c, n, s' + 1 + 1, Ev.congr (fun k => spec_l5BentValue.f.eq_1 k _ _ _) (Ev.bind he (Ev.bind0 hv (Ev.ifp c0 (Ev.bind0 hp (Ev.now _))))), hn, by omega, by omega⟩
  by_cases c1 : v = 1
  · exact ⟨a, q, n, s' + 1 + 1, Ev.congr (fun k => spec_l5BentValue.f.eq_1 k _ _ _) (Ev.bind he (Ev.bind0 hv (Ev.ifn c0 (Ev.ifp c1 (Ev.bind0 hq (Ev.now _)))))), hn, by omega, by omega⟩
  by_cases c2 : v = 2
  · refine ⟨a, c, _, s' + 1 + 1, Ev.congr (fun k => spec_l5BentValue.f.eq_1 k _ _ _) (Ev.bind he (Ev.bind0 hv (Ev.ifn c0 (Ev.ifn c1 (Ev.ifp c2 (Ev.bind0 rfl (Ev.bind0 hr (Ev.ifp r0 (Ev.ifp (by simp; omega) (Ev.now _)))))))))), ?_, by omega, by omega⟩
    have hm := rdOf_mem (d := ByteArray.empty) (xs := [(⟨#[]⟩ : ByteArray), (⟨#[65]⟩ : ByteArray), (⟨#[113]⟩ : ByteArray)]) r0 (by simp; omega)
    exact (by decide +kernel : ∀ m ∈ [(⟨#[]⟩ : ByteArray), (⟨#[65]⟩ : ByteArray), (⟨#[113]⟩ : ByteArray)], m.size ≤ 12) _ hm
  · exact ⟨a, c, n, s' + 1, Ev.congr (fun k => spec_l5BentValue.f.eq_1 k _ _ _) (Ev.bind he (Ev.bind0 hv (Ev.ifn c0 (Ev.ifn c1 (Ev.ifn c2 (Ev.now _)))))), hn, by omega, by omega⟩
theorem l7Name_eq (l : List Int) (hl : okB l) (s : Int) (h0 : 0 ≤ s) (h1 : s ≤ 900000000) : ∃ n, spec_l7Name.f l s = some (n, s + 2) ∧ n.size ≤ 12 := by
  obtain ⟨v, hv, v0, v1, _⟩ := next_eq l hl s 7 h0 (by omega) (by omega)
  have v2 := v1 (by omega)
  obtain ⟨p, hp, pm⟩ := pick_eq l hl (s + 1) [0, 1, 2, 3, 0, 1, 4, v] (by omega) (by omega) (by simp) (by simp)
  have pb : 0 ≤ p ∧ p < 7 := by
    simp only [List.mem_cons, List.not_mem_nil, or_false] at pm
    omega
  unfold spec_l7Name.f
  rw [Option.bind_some]
  rw [hv, Option.bind_some]
  simp only []
  rw [hp, Option.bind_some]
  simp only []
  rw [if_pos pb.1, if_pos (by simp; omega)]
  refine ⟨_, by rw [show s + 1 + 1 = s + 2 from by omega], ?_⟩
  have hm := rdOf_mem (d := ByteArray.empty) (xs := [(⟨#[103]⟩ : ByteArray), (⟨#[104]⟩ : ByteArray), (⟨#[99, 97, 114]⟩ : ByteArray), (⟨#[43]⟩ : ByteArray), (⟨#[113]⟩ : ByteArray), (⟨#[65]⟩ : ByteArray), (⟨#[]⟩ : ByteArray)]) pb.1 (by simp; omega)
  exact (by decide +kernel : ∀ m ∈ [(⟨#[103]⟩ : ByteArray), (⟨#[104]⟩ : ByteArray), (⟨#[99, 97, 114]⟩ : ByteArray), (⟨#[43]⟩ : ByteArray), (⟨#[113]⟩ : ByteArray), (⟨#[65]⟩ : ByteArray), (⟨#[]⟩ : ByteArray)], m.size ≤ 12) _ hm
theorem right_loop (l : List Int) (hl : okB l) : ∀ (d : Nat) (xs : List S35) (s : Int), drawG xs → 0 ≤ s → s + 6 * d ≤ 500000000 → ∃ ys s', Ev (fun k => spec_l7Right.l0 k xs (d : Int) l s) (ys, s') ∧ drawG ys ∧ s ≤ s' ∧ s' ≤ s + 6 * d
  | 0, xs, s, hx, h0, h1 => ⟨xs, s, Ev.step (fun k => spec_l7Right.l0.eq_2 _ _ _ _ k) (Ev.ifn (by omega) (Ev.now _)), hx, by omega, by omega⟩
  | d + 1, xs, s, hx, h0, h1 => by
    obtain ⟨v, hv, v0, v1, _⟩ := next_eq l hl s 4 h0 (by omega) (by omega)
    have v2 := v1 (by omega)
    obtain ⟨a, c, n, s1, he, hn, e0, e1⟩ := value_ev l hl (s + 1) (by omega) (by omega)
    have hm := rdOf_mem (d := ByteArray.empty) (xs := [(⟨#[103]⟩ : ByteArray), (⟨#[104]⟩ : ByteArray), (⟨#[99, 97, 114]⟩ : ByteArray), (⟨#[43]⟩ : ByteArray)]) v0 (by simp; omega)
    have hz := (by decide +kernel : ∀ m ∈ [(⟨#[103]⟩ : ByteArray), (⟨#[104]⟩ : ByteArray), (⟨#[99, 97, 114]⟩ : ByteArray), (⟨#[43]⟩ : ByteArray)], m.size ≤ 12) _ hm
    generalize hN : rdOf ByteArray.empty [(⟨#[103]⟩ : ByteArray), (⟨#[104]⟩ : ByteArray), (⟨#[99, 97, 114]⟩ : ByteArray), (⟨#[43]⟩ : ByteArray)] v = N at hz
    have hd := specDefine_ev xs N ⟨a, c, n⟩ (drawG_ok hx) (by omega) (by show n.size ≤ _; omega) (by have := hx.2.1; omega)
    have ht : drawG xs → (turnM xs N ⟨a, c, n⟩ false).1 = 0 → drawG (turnM xs N ⟨a, c, n⟩ false).2 := fun hx c0 => drawG_turn hx hz hn c0
    generalize turnM xs N ⟨a, c, n⟩ false = R at hd ht
    have hw : wrap64 (((d + 1 : Nat) : Int) - 1) = (d : Int) := by rw [wrap_id (by omega) (by omega)]; omega
    by_cases c0 : R.1 = 0
    · obtain ⟨ys, s', hr, hy, f0, f1⟩ := right_loop l hl d R.2 s1 (ht hx c0) (by omega) (by omega)
      refine ⟨ys, s', Ev.step (fun k => spec_l7Right.l0.eq_2 _ _ _ _ k) (Ev.ifp (by omega) (Ev.bind0 rfl (Ev.bind0 hv (Ev.ifp v0 (Ev.ifp (by simp; omega) (Ev.bind he ?_)))))), hy, by omega, by omega⟩
      simp only [hN]
      refine Ev.bind hd (Ev.ifp c0 ?_)
      rw [hw]
      exact hr
    · obtain ⟨ys, s', hr, hy, f0, f1⟩ := right_loop l hl d xs s1 hx (by omega) (by omega)
      refine ⟨ys, s', Ev.step (fun k => spec_l7Right.l0.eq_2 _ _ _ _ k) (Ev.ifp (by omega) (Ev.bind0 rfl (Ev.bind0 hv (Ev.ifp v0 (Ev.ifp (by simp; omega) (Ev.bind he ?_)))))), hy, by omega, by omega⟩
      simp only [hN]
      refine Ev.bind hd (Ev.ifn c0 ?_)
      rw [hw]
      exact hr
theorem newU_get (v : Int) (ns : List ByteArray) : ∀ d i j (h : j < (newU v ns d i).length), (newU v ns d i)[j] = ⟨rdOf ByteArray.empty ns ((i + j : Nat) : Int), ⟨8, ((i + j : Nat) : Int), ⟨#[]⟩⟩, v⟩
  | 0, _, _, h => by simp [newU] at h
  | d + 1, i, 0, h => by simp [newU]
  | d + 1, i, j + 1, h => by
    have h' : j < (newU v ns d (i + 1)).length := by rw [newU_length] at h ⊢; omega
    have := newU_get v ns d (i + 1) j h'
    rw [show i + 1 + j = i + (j + 1) from by omega] at this
    simpa [newU] using this
theorem newM_draw (v : Int) : drawG (newM v) := by
  have hl : (newM v).length = 16 := newU_length _ _ _ _
  refine ⟨by omega, by omega, fun x hx => ?_⟩
  obtain ⟨i, hi, rfl⟩ := List.getElem_of_mem hx
  have he := newU_get v primN 16 0 i hi
  rw [Nat.zero_add] at he
  have he' : (newM v)[i] = _ := he
  rw [he']
  have hi' : i < 16 := by omega
  exact ⟨(by decide +kernel : ∀ j : Fin 16, (rdOf ByteArray.empty primN (j.val : Int)).size ≤ 12) ⟨i, hi'⟩, (by decide : (⟨#[]⟩ : ByteArray).size ≤ 12)⟩
theorem right_ev (l : List Int) (hl : okB l) (s : Int) (h0 : 0 ≤ s) (h1 : s ≤ 400000000) : ∃ ys s', Ev (fun k => spec_l7Right.f k l s) (ys, s') ∧ drawG ys ∧ s ≤ s' ∧ s' ≤ s + 40 := by
  obtain ⟨v, hv, v0, v1, _⟩ := next_eq l hl s 6 h0 (by omega) (by omega)
  have v2 := v1 (by omega)
  obtain ⟨n, rfl⟩ : ∃ n : Nat, (n : Int) = v := ⟨v.toNat, Int.toNat_of_nonneg v0⟩
  obtain ⟨ys, s', hr, hy, f0, f1⟩ := right_loop l hl n (newM 1) (s + 1) (newM_draw 1) (by omega) (by omega)
  exact ⟨ys, s', Ev.congr (fun k => spec_l7Right.f.eq_1 k _ _) (Ev.bind (l7New_ev 1) (Ev.bind0 hv hr)), hy, by omega, by omega⟩
def smallG (xs : List S35) : Prop := xs.length ≤ 61 ∧ ∀ x ∈ xs, x.f0.size ≤ 12 ∧ x.f1.f2.size ≤ 12
theorem smallG_ok {xs : List S35} (h : smallG xs) : okG xs := fun x hx => ⟨by have := (h.2 x hx).1; omega, by have := (h.2 x hx).2; omega⟩
theorem smallG_set {xs : List S35} (h : drawG xs) (g : S35) (h0 : g.f0.size ≤ 12) (h1 : g.f1.f2.size ≤ 12) : smallG (xs.set 0 g) := by
  refine ⟨by rw [List.length_set]; exact h.2.1, fun x hx => ?_⟩
  rcases List.mem_or_eq_of_mem_set hx with hm | rfl
  · exact h.2.2 x hm
  · exact ⟨h0, h1⟩
theorem bent_ev (l : List Int) (hl : okB l) (s : Int) (h0 : 0 ≤ s) (h1 : s ≤ 300000000) : ∃ ys s', Ev (fun k => spec_l7Bent.f k l s) (ys, s') ∧ smallG ys ∧ s ≤ s' ∧ s' ≤ s + 60 := by
  obtain ⟨ys, s1, hr, hy, f0, f1⟩ := right_ev l hl s h0 (by omega)
  obtain ⟨v, hv, _⟩ := next_eq l hl s1 12 (by omega) (by omega) (by omega)
  obtain ⟨p, hp, _⟩ := pick_eq l hl (s1 + 1) [0, 99999, 100000] (by omega) (by omega) (by simp) (by simp)
  obtain ⟨r, hr2, r0, r1, _⟩ := next_eq l hl (s1 + 1) 3 (by omega) (by omega) (by omega)
  obtain ⟨a, c, n, s2, he, hn, e0, e1⟩ := bentValue_ev l hl (s1 + 1) (by omega) (by omega)
  have r2 := r1 (by omega)
  have hz := hy.1
  have hz0 : (0 : Int) < (ys.length : Int) := by omega
  have hf : rd_T35 ys 0 ∈ ys := by
    have : 0 < ys.length := by omega
    have e := rdGm this
    have e' : rd_T35 ys 0 = ys[0] := e
    rw [e']
    exact List.getElem_mem _
  have hf1 := hy.2.2 _ hf
  by_cases c0 : v = 0
  · exact ⟨_, s1 + 1 + 1, Ev.congr (fun k => spec_l7Bent.f.eq_1 k _ _) (Ev.bind hr (Ev.bind0 hv (Ev.ifp c0 (Ev.bind0 hp (Ev.ifp hz0 (Ev.now _)))))), smallG_set hy _ hf1.1 hf1.2, by omega, by omega⟩
  by_cases c1 : v = 1
  · refine ⟨_, s1 + 1 + 1, Ev.congr (fun k => spec_l7Bent.f.eq_1 k _ _) (Ev.bind hr (Ev.bind0 hv (Ev.ifn c0 (Ev.ifp c1 (Ev.bind0 rfl (Ev.bind0 hr2 (Ev.ifp r0 (Ev.ifp (by simp; omega) (Ev.ifp hz0 (Ev.now _)))))))))), smallG_set hy _ ?_ hf1.2, by omega, by omega⟩
    have hm := rdOf_mem (d := ByteArray.empty) (xs := [(⟨#[]⟩ : ByteArray), (⟨#[99, 97, 114]⟩ : ByteArray), (⟨#[65]⟩ : ByteArray)]) r0 (by simp; omega)
    exact (by decide +kernel : ∀ m ∈ [(⟨#[]⟩ : ByteArray), (⟨#[99, 97, 114]⟩ : ByteArray), (⟨#[65]⟩ : ByteArray)], m.size ≤ 12) _ hm
  by_cases c2 : v = 2
  · exact ⟨_, s2, Ev.congr (fun k => spec_l7Bent.f.eq_1 k _ _) (Ev.bind hr (Ev.bind0 hv (Ev.ifn c0 (Ev.ifn c1 (Ev.ifp c2 (Ev.bind he (Ev.ifp hz0 (Ev.now _)))))))), smallG_set hy _ hf1.1 hn, by omega, by omega⟩
  by_cases c3 : v = 3
  · refine ⟨_, s1 + 1, Ev.congr (fun k => spec_l7Bent.f.eq_1 k _ _) (Ev.bind hr (Ev.bind0 hv (Ev.ifn c0 (Ev.ifn c1 (Ev.ifn c2 (Ev.ifp c3 (Ev.ifp (by omega) (Ev.now _)))))))), ⟨by rw [List.length_replicate]; omega, fun x hx => ?_⟩, by omega, by omega⟩
    obtain rfl := List.eq_of_mem_replicate hx
    exact ⟨by decide, by decide⟩
  · exact ⟨ys, s1 + 1, Ev.congr (fun k => spec_l7Bent.f.eq_1 k _ _) (Ev.bind hr (Ev.bind0 hv (Ev.ifn c0 (Ev.ifn c1 (Ev.ifn c2 (Ev.ifn c3 (Ev.now _))))))), ⟨hy.2.1, hy.2.2⟩, by omega, by omega⟩
end Go.Proofs.YtolhanigjmhkgaaDoor.A
