/- Proved: what the program's and the reference's functions of this claim come to: the same, part by part. Conditions: those in each head. -/
import Derived.Test.YtolhanigjmhkgabDoorPL
import Derived.Test.YtolhanigjmhkgabDoorA1
import Derived.Test.YtolhanigjmhkgabDoorA6
import Derived.Test.YtolhanigjmhkgabDoorA2
import Derived.Test.YtolhanigjmhkgabDoorA7
import Derived.Test.YtolhanigjmhkgabDoorA3
import Derived.Test.YtolhanigjmhkgabDoorA5
import Derived.Test.YtolhanigjmhkgabDoorA9
import Derived.Test.YtolhanigjmhkgabDoorA4
import Derived.Test.YtolhanigjmhkgabDoorA8
import Derived.Test.YtolhanigjmhkgabDoorA10
import Derived.Test.YtolhanigjmhkgabDoorA11
import Derived.Test.YtolhanigjmhkgabDoorAOk
import Derived.Test.YtolhanigjmhkgabDoorA12
import Derived.Test.YtolhanigjmhkgabDoorA13
namespace Go.Proofs.YtolhanigjmhkgabDoor.A
open Go.RowKit Go.Proofs.YtolhanigjmhkgabDoorW.PrintWords Go.Proofs.YtolhanigjmhkgabDoorW.PrintLast Go.Proofs.YtolhanigjmhkgabDoor.PL
set_option linter.unusedSimpArgs false
def inB (a lo hi : Int) : Bool := decide (lo ≤ a) && decide (a ≤ hi)
theorem inB_t {a lo hi : Int} (h0 : lo ≤ a) (h1 : a ≤ hi) : inB a lo hi = true := by simp [inB, h0, h1]
theorem inB_iff {a lo hi : Int} : inB a lo hi = true ↔ lo ≤ a ∧ a ≤ hi := by simp [inB]
theorem inB_f {a lo hi : Int} : inB a lo hi = false ↔ ¬ (lo ≤ a ∧ a ≤ hi) := by simp [inB]
theorem in_eq (a lo hi : Int) : impl_in.f a lo hi = some (inB a lo hi) := by
  unfold impl_in.f inB
  by_cases h : lo ≤ a <;> simp [h]
theorem l1In_eq (a lo hi : Int) : spec_l1In.f a lo hi = some (inB a lo hi) := by
  unfold spec_l1In.f inB
  by_cases h : lo ≤ a <;> simp [h]
def numB (n : Int) : Bool := inB n (-1000000000) 1000000000
def numM (n : Int) : Int := if numB n = true then 0 else 3
theorem NumFault_eq (n : Int) : impl_NumFault.f n = some (numM n) := by
  unfold impl_NumFault.f numM numB
  rw [in_eq, Option.bind_some]
  split <;> rfl
theorem l1Num_eq (n : Int) : spec_l1Num.f n = some (numB n) := by
  unfold spec_l1Num.f numB
  rw [l1In_eq, Option.bind_some]
def symC : List UInt8 := [97, 98, 99, 100, 101, 102, 103, 104, 105, 106, 107, 108, 109, 110, 111, 112, 113, 114, 115, 116, 117, 118, 119, 120, 121, 122, 43, 45, 42, 47, 60, 61, 63, 33]
theorem l2Byte_12 : ∀ n : Fin 256, spec_l2Byte.f 12 (n.val : Int) = some (symC.contains (UInt8.ofNat n.val)) := by decide +kernel
theorem l2Byte_ev (c : UInt8) : Ev (fun k => spec_l2Byte.f k (c.toNat : Int)) (symC.contains c) := by
  refine Ev.of (fun k => spec_l2Byte.mono _ k) (k := 12) ?_
  have h := l2Byte_12 ⟨c.toNat, c.toNat_lt⟩
  rw [UInt8.ofNat_toNat] at h
  exact h
def symB (s : ByteArray) : Bool := s.data.toList.all (symC.contains ·) && inB s.size 1 12
theorem runU_all (l : List UInt8) (e : Bool) : ∀ d i, i + d = l.length → runU (fun i => if symC.contains (l[i]?.getD 0) then none else some false) e d i = ((l.drop i).all (symC.contains ·) && e)
  | 0, i, h => by rw [List.drop_of_length_le (by omega)]; rfl
  | d + 1, i, h => by
    have hi : i < l.length := by omega
    rw [List.drop_eq_getElem_cons hi]
    simp only [runU, List.all_cons, List.getElem?_eq_getElem hi, Option.getD_some]
    by_cases c : symC.contains l[i] = true
    · rw [if_pos c, c, Bool.true_and]
      exact runU_all l e d (i + 1) (by omega)
    · rw [if_neg c]
      simp only [Bool.not_eq_true] at c
      rw [c]
      rfl
theorem l2Sym_ev (s : ByteArray) (hs : s.size ≤ 9223372036854775807) : Ev (fun k => spec_l2Sym.f k s) (symB s) := by
  refine Ev.congr (fun k => spec_l2Sym.f.eq_1 k _) ?_
  have h := loopU s.size (fun k i => spec_l2Sym.l0 k s i) (fun i => if symC.contains (s.data.toList[i]?.getD 0) then none else some false) (inB s.size 1 12) (fun i hi => by
    have hb := bt_data s i hi
    have hl : i < s.data.toList.length := by rw [data_length]; exact hi
    have hg := l2Byte_ev s.data.toList[i]
    rw [← hb] at hg
    rw [List.getElem?_eq_getElem hl, Option.getD_some]
    by_cases c : symC.contains s.data.toList[i] = true
    · rw [if_pos c]
      intro r hr
      refine Ev.step (fun k => spec_l2Sym.l0.eq_2 _ _ k) (Ev.ifp (by omega) (Ev.ifp (by omega) (Ev.bind hg (Ev.ifp c ?_))))
      rw [wrap_succ hi hs]
      exact hr
    · rw [if_neg c]
      exact Ev.step (fun k => spec_l2Sym.l0.eq_2 _ _ k) (Ev.ifp (by omega) (Ev.ifp (by omega) (Ev.bind hg (Ev.ifn c (Ev.now _))))))
    (Ev.step (fun k => spec_l2Sym.l0.eq_2 _ _ k) (Ev.ifn (by omega) (Ev.bind0 (l1In_eq _ _ _) (Ev.now _)))) s.size 0 (by omega)
  rw [runU_all _ _ s.size 0 (by rw [data_length]; omega), List.drop_zero] at h
  exact h
def symM (s : ByteArray) : Int := if symB s = true then 0 else 5
theorem dropWhile_nil {α : Type} (p : α → Bool) : ∀ l : List α, (l.dropWhile p = []) ↔ l.all p = true
  | [] => by simp
  | a :: l => by
    simp only [List.dropWhile_cons, List.all_cons]
    cases h : p a
    · simp
    · simpa using dropWhile_nil p l
theorem trimS_nil (l cs : List UInt8) : Lib.trimS l cs = [] ↔ l.all (cs.contains ·) = true := by
  unfold Lib.trimS Lib.trimLeftS
  rw [dropWhile_nil]
  unfold Lib.trimRightS
  constructor
  · intro h
    cases hd : l.reverse.dropWhile (cs.contains ·) with
    | nil =>
      have := (dropWhile_nil (cs.contains ·) l.reverse).mp hd
      simpa using this
    | cons a t =>
      exfalso
      rw [hd] at h
      have ha : cs.contains a = true := by
        have := List.all_eq_true.mp h a (by simp)
        exact this
      have hn : ¬ (cs.contains a = true) := by
        have := List.head?_dropWhile_not (cs.contains ·) l.reverse
        rw [hd] at this
        simpa using this
      exact hn ha
  · intro h
    have : l.reverse.all (cs.contains ·) = true := by simpa using h
    rw [(dropWhile_nil _ _).mpr this]
    rfl
theorem toList_mk (l : List UInt8) : ByteArray.toList ⟨l.toArray⟩ = l := by rw [ByteArray.toList_eq]
theorem SymFault_eq (s : ByteArray) (hs : s.size ≤ 9223372036854775807) : impl_SymFault.f s = some (symM s) := by
  unfold impl_SymFault.f
  rw [in_eq, Option.bind_some]
  unfold symM symB
  by_cases c : inB s.size 1 12 = true
  · rw [if_pos c, c, Bool.and_true]
    have ht : strings_Trim.f s (⟨#[97, 98, 99, 100, 101, 102, 103, 104, 105, 106, 107, 108, 109, 110, 111, 112, 113, 114, 115, 116, 117, 118, 119, 120, 121, 122, 43, 45, 42, 47, 60, 61, 63, 33]⟩ : ByteArray) = some ⟨(Lib.trimS s.data.toList symC).toArray⟩ := by
      unfold strings_Trim.f
      rw [if_pos ⟨hs, by decide, by decide⟩]
      rfl
    rw [ht, Option.bind_some, toList_mk]
    by_cases d : s.data.toList.all (symC.contains ·) = true
    · rw [if_pos ((trimS_nil _ _).mpr d), if_pos d]
    · rw [if_neg (fun h => d ((trimS_nil _ _).mp h)), if_neg d]
  · rw [if_neg c]
    rw [if_neg (by simp [c])]
def kindM (K a1 a2 a3 N : Int) (s : ByteArray) : Int := if K = a1 then numM N else if K = a3 then (if inB N 0 1 = true then 0 else 3) else if K = a2 then symM s else 0
theorem kindFault_eq (K a1 a2 a3 N : Int) (s : ByteArray) (hs : s.size ≤ 9223372036854775807) : impl_kindFault.f K a1 a2 a3 N s = some (kindM K a1 a2 a3 N s) := by
  unfold impl_kindFault.f kindM
  by_cases h1 : K = a1
  · rw [if_pos h1, if_pos h1, NumFault_eq, Option.bind_some]
  · rw [if_neg h1, if_neg h1]
    by_cases h3 : K = a3
    · rw [if_pos h3, if_pos h3, in_eq, Option.bind_some]
      split <;> rfl
    · rw [if_neg h3, if_neg h3]
      by_cases h2 : K = a2
      · rw [if_pos h2, if_pos h2, SymFault_eq s hs, Option.bind_some]
      · rw [if_neg h2, if_neg h2]
theorem isPlaced_eq (K : Int) : impl_isPlaced.f K = some (inB K 5 8) := by
  unfold impl_isPlaced.f
  rw [in_eq, Option.bind_some]
theorem l5Placed_eq (K : Int) : spec_l5Placed.f K = some (inB K 5 8) := by
  unfold spec_l5Placed.f
  rw [l1In_eq, Option.bind_some]
def formB (K N : Int) (s : ByteArray) : Bool := !inB K 1 9 || (N != 0 && !inB K 5 8 && K != 1 && K != 2) || (!s.toList.isEmpty && K != 4)
def rangeB (K N : Int) : Bool := (K == 1 && !numB N) || (K == 2 && !inB N 0 1) || (inB K 5 8 && !inB N 0 99999)
def valueM (K N : Int) (s : ByteArray) : Int := if formB K N s = true then 1 else if rangeB K N = true then 3 else if K = 4 then symM s else 0
theorem rest_eq (K N : Int) (s : ByteArray) : (if inB K 5 8 = true then (if inB N 0 99999 = true then kindM K 1 4 2 N s else 3) else kindM K 1 4 2 N s) = if rangeB K N = true then 3 else if K = 4 then symM s else 0 := by
  have p5 : ∀ z : Int, z < 5 → inB z 5 8 = false := fun z hz => inB_f.mpr (by omega)
  by_cases h1 : K = 1
  · subst h1
    simp only [rangeB, kindM, numM, p5 1 (by omega)]
    cases numB N <;> simp
  · by_cases h2 : K = 2
    · subst h2
      simp only [rangeB, kindM, p5 2 (by omega)]
      cases inB N 0 1 <;> simp
    · have hk : kindM K 1 4 2 N s = if K = 4 then symM s else 0 := by unfold kindM; rw [if_neg h1, if_neg h2]
      rw [hk]
      have hr : rangeB K N = (inB K 5 8 && !inB N 0 99999) := by simp [rangeB, h1, h2]
      rw [hr]
      cases inB K 5 8 <;> cases inB N 0 99999 <;> simp
theorem implValue_ev (K N : Int) (s : ByteArray) (hs : s.size ≤ 9223372036854775807) : Ev (fun k => impl_ValueFault.f k K N s) (valueM K N s) := by
  have j0 : ∀ b : Bool, Ev (fun k => impl_ValueFault.j0 k b K N s) (if b = true then 1 else if rangeB K N = true then 3 else if K = 4 then symM s else 0) := fun b => by
    refine Ev.step (fun k => impl_ValueFault.j0.eq_2 _ _ _ _ k) (Ev.iff (fun h => Ev.leaf (by rw [if_pos h])) (fun h => ?_))
    rw [if_neg h, ← rest_eq]
    refine Ev.bind0 (isPlaced_eq _) (Ev.iff (fun h1 => ?_) (fun h1 => ?_))
    · rw [if_pos h1]
      refine Ev.bind0 (in_eq _ _ _) (Ev.iff (fun h2 => ?_) (fun h2 => ?_))
      · rw [if_pos h2]; exact Ev.bind0 (kindFault_eq _ _ _ _ _ _ hs) (Ev.now _)
      · rw [if_neg h2]; exact Ev.now _
    · rw [if_neg h1]; exact Ev.bind0 (kindFault_eq _ _ _ _ _ _ hs) (Ev.now _)
  have fin : ∀ b : Bool, b = formB K N s → Ev (fun k => impl_ValueFault.j0 k b K N s) (valueM K N s) := fun b hb => by subst hb; exact j0 _
  refine Ev.congr (fun k => impl_ValueFault.f.eq_1 k _ _ _) (Ev.bind0 (in_eq _ _ _) ?_)
  repeat' first
    | refine Ev.iff (fun _ => ?_) (fun _ => ?_)
    | refine Ev.bind0 (isPlaced_eq _) ?_
    | refine fin _ ?_
  all_goals simp_all [formB]
theorem l5Fault_ev (K N : Int) (s : ByteArray) (hs : s.size ≤ 9223372036854775807) : Ev (fun k => spec_l5Fault.f k K N s) (valueM K N s) := by
  have j2 : ∀ b : Bool, Ev (fun k => spec_l5Fault.j2 k b K N s) (if b = true then 3 else if K = 4 then symM s else 0) := fun b => by
    refine Ev.step (fun k => spec_l5Fault.j2.eq_2 _ _ _ _ k) (Ev.iff (fun h => Ev.leaf (by rw [if_pos h])) (fun h => ?_))
    rw [if_neg h]
    refine Ev.iff (fun h => ?_) (fun h => Ev.leaf (by rw [if_neg h]))
    rw [if_pos h]
    exact Ev.bind (l2Sym_ev s hs) (Ev.iff (fun c => Ev.leaf (by unfold symM; rw [if_pos c])) (fun c => Ev.leaf (by unfold symM; rw [if_neg c])))
  have fin2 : ∀ b : Bool, b = rangeB K N → Ev (fun k => spec_l5Fault.j2 k b K N s) (if rangeB K N = true then 3 else if K = 4 then symM s else 0) := fun b hb => by subst hb; exact j2 _
  have j1 : ∀ b : Bool, Ev (fun k => spec_l5Fault.j1 k b K N s) (if b = true then 1 else if rangeB K N = true then 3 else if K = 4 then symM s else 0) := fun b => by
    refine Ev.step (fun k => spec_l5Fault.j1.eq_2 _ _ _ _ k) (Ev.iff (fun h => Ev.leaf (by rw [if_pos h])) (fun h => ?_))
    rw [if_neg h]
    repeat' first
      | refine Ev.iff (fun _ => ?_) (fun _ => ?_)
      | refine Ev.bind0 (l5Placed_eq _) ?_
      | refine Ev.bind0 (l1Num_eq _) ?_
      | refine Ev.bind0 (l1In_eq _ _ _) ?_
      | refine fin2 _ ?_
    all_goals simp_all [rangeB]
  have fin1 : ∀ b : Bool, b = formB K N s → Ev (fun k => spec_l5Fault.j1 k b K N s) (valueM K N s) := fun b hb => by subst hb; exact j1 _
  have j0 : ∀ b : Bool, b = (K == 1 || K == 2 || inB K 5 8) → Ev (fun k => spec_l5Fault.j0 k b K N s) (valueM K N s) := fun b hb => by
    refine Ev.step (fun k => spec_l5Fault.j0.eq_2 _ _ _ _ k) (Ev.bind0 (l1In_eq _ _ _) ?_)
    repeat' first
      | refine Ev.iff (fun _ => ?_) (fun _ => ?_)
      | refine fin1 _ ?_
    all_goals clear j2 fin2 j1 fin1
    all_goals (cases h9 : inB K 1 9 <;> cases h5 : inB K 5 8 <;> (try simp_all [formB, ne_nil_b]) <;> (rcases hb with rfl | rfl <;> simp_all))
  refine Ev.congr (fun k => spec_l5Fault.f.eq_1 k _ _ _) ?_
  repeat' first
    | refine Ev.iff (fun _ => ?_) (fun _ => ?_)
    | refine Ev.bind0 (l5Placed_eq _) ?_
    | refine j0 _ ?_
  all_goals simp_all
theorem rdQ_at {xs : List S55} {i : Nat} (h : i < xs.length) : rd_T55 xs (i : Int) = xs[i] := by simp [rd_T55, h]
def okS (s : ByteArray) : Prop := s.size ≤ 9223372036854775807
def valM (v : S28) : Int := valueM v.f0 v.f1 v.f2
def beyB (v : S28) (n : Int) : Bool := v.f0 == 5 && decide (n ≤ v.f1)
theorem isBeyond_eq (v : S28) (n : Int) : impl_isBeyond.f v.f0 v.f1 v.f2 n = some (beyB v n) := by
  unfold impl_isBeyond.f beyB
  by_cases h : v.f0 = 5 <;> simp [h]
theorem l5In_eq (v : S28) (n : Int) : spec_l5In.f v.f0 v.f1 v.f2 n = some (!beyB v n) := by
  unfold spec_l5In.f beyB
  by_cases h : v.f0 = 5
  · rw [if_pos h]
    by_cases c : v.f1 < n
    · have c' : ¬ n ≤ v.f1 := by omega
      simp [h, c, c']
    · have c' : n ≤ v.f1 := by omega
      simp [h, c, c']
  · simp [h]
def heapStep (p : S55) (i : Nat) : Option Int := if valM p.f0 = 0 then (if valM p.f1 = 0 then (if beyB p.f0 i = true then some 1 else if beyB p.f1 i = true then some 1 else none) else some (valM p.f1)) else some (valM p.f0)
def heapAt (xs : List S55) (i : Nat) : Option Int := if h : i < xs.length then heapStep xs[i] i else none
def heapM (xs : List S55) : Int := if 4000 < xs.length then 2 else runU (heapAt xs) 0 xs.length 0
def okP (xs : List S55) : Prop := ∀ x ∈ xs, okS x.f0.f2 ∧ okS x.f1.f2
theorem implHeap_ev (xs : List S55) (hx : okP xs) : Ev (fun k => impl_HeapFault.f k xs) (heapM xs) := by
  refine Ev.congr (fun k => impl_HeapFault.f.eq_1 k _) (Ev.iff (fun h => Ev.leaf (by unfold heapM; rw [if_pos (by omega)])) (fun h => ?_))
  have hL := loopO xs.length (fun k i => impl_HeapFault.l0 k xs (xs.length : Int) i) (heapAt xs) 0 (fun i hi r hr => by
    have hm := hx xs[i] (List.getElem_mem hi)
    refine Ev.step (fun k => impl_HeapFault.l0.eq_2 _ _ _ k) (Ev.ifp (by omega) (Ev.ifp (by omega) (Ev.ifp (by omega) ?_)))
    rw [rdQ_at hi, wrap_succ hi (by omega)]
    refine Ev.bind (implValue_ev _ _ _ hm.1) (Ev.iff (fun c0 => ?_) (fun c0 => Ev.stop hr (by simp [heapAt, hi, heapStep, valM, c0])))
    refine Ev.bind (implValue_ev _ _ _ hm.2) (Ev.iff (fun c1 => ?_) (fun c1 => Ev.stop hr (by simp [heapAt, hi, heapStep, valM, c0, c1])))
    refine Ev.bind0 (isBeyond_eq xs[i].f0 (i : Int)) (Ev.iff (fun c2 => Ev.stop hr (by simp [heapAt, hi, heapStep, valM, c0, c1, c2])) (fun c2 => ?_))
    refine Ev.bind0 (isBeyond_eq xs[i].f1 (i : Int)) (Ev.iff (fun c3 => Ev.stop hr (by simp [heapAt, hi, heapStep, valM, c0, c1, c2, c3])) (fun c3 => Ev.go hr (by simp [heapAt, hi, heapStep, valM, c0, c1, c2, c3]))))
    (Ev.step (fun k => impl_HeapFault.l0.eq_2 _ _ _ k) (Ev.ifn (by omega) (Ev.now _))) xs.length 0 (by omega)
  unfold heapM
  rw [if_neg (by omega)]
  exact hL
theorem l5Heap_ev (xs : List S55) (hx : okP xs) : Ev (fun k => spec_l5Heap.f k xs) (heapM xs) := by
  refine Ev.congr (fun k => spec_l5Heap.f.eq_1 k _) (Ev.iff (fun h => Ev.leaf (by unfold heapM; rw [if_pos (by omega)])) (fun h => ?_))
  have hL := loopO xs.length (fun k i => spec_l5Heap.l0 k xs i) (heapAt xs) 0 (fun i hi r hr => by
    have hm := hx xs[i] (List.getElem_mem hi)
    refine Ev.step (fun k => spec_l5Heap.l0.eq_2 _ _ k) (Ev.ifp (by omega) (Ev.ifp (by omega) ?_))
    rw [rdQ_at hi, wrap_succ hi (by omega)]
    refine Ev.bind (l5Fault_ev _ _ _ hm.1) (Ev.iff (fun c0 => ?_) (fun c0 => Ev.stop hr (by simp [heapAt, hi, heapStep, valM, c0])))
    refine Ev.bind (l5Fault_ev _ _ _ hm.2) (Ev.iff (fun c1 => ?_) (fun c1 => Ev.stop hr (by simp [heapAt, hi, heapStep, valM, c0, c1])))
    refine Ev.bind0 (l5In_eq xs[i].f0 (i : Int)) (Ev.iff (fun c2 => ?_) (fun c2 => Ev.stop hr (by simp at c2; simp [heapAt, hi, heapStep, valM, c0, c1, c2])))
    refine Ev.bind0 (l5In_eq xs[i].f1 (i : Int)) (Ev.iff (fun c3 => Ev.go hr (by simp at c2 c3; simp [heapAt, hi, heapStep, valM, c0, c1, c2, c3])) (fun c3 => Ev.stop hr (by simp at c2 c3; simp [heapAt, hi, heapStep, valM, c0, c1, c2, c3]))))
    (Ev.step (fun k => spec_l5Heap.l0.eq_2 _ _ k) (Ev.ifn (by omega) (Ev.now _))) xs.length 0 (by omega)
  unfold heapM
  rw [if_neg (by omega)]
  exact hL
theorem heap_len {xs : List S55} (h : heapM xs = 0) : xs.length ≤ 4000 := by
  unfold heapM at h
  split at h
  · omega
  · omega
theorem implCloneP_eq (xs : List S55) (hl : xs.length ≤ 1048576) : impl_Pair.f xs = some xs := by
  unfold impl_Pair.f
  rw [Option.bind_some, if_pos (by simp; omega), List.nil_append]
theorem l5Copy_eq (xs : List S55) (hl : xs.length ≤ 1048576) : spec_l5Copy.f xs = some xs := by
  unfold spec_l5Copy.f
  rw [Option.bind_some, if_pos (by simp; omega), List.nil_append]
theorem heapCons_eq (xs : List S55) (h t : S28) (hl : xs.length ≤ 1048576) : impl_heap_cons.f xs h.f0 h.f1 h.f2 t.f0 t.f1 t.f2 = some (if 4000 ≤ xs.length then (0, 0, ⟨#[]⟩, false, xs) else (5, (xs.length : Int), ⟨#[]⟩, true, xs ++ [⟨h, t⟩])) := by
  unfold impl_heap_cons.f
  by_cases c : 4000 ≤ xs.length
  · rw [if_pos (by omega), if_pos c]
  · rw [if_neg (by omega), if_neg c, if_pos (by omega), Option.bind_some]
    have e : wrap64 (((xs ++ [(⟨(⟨h.f0, h.f1, h.f2⟩ : S28), (⟨t.f0, t.f1, t.f2⟩ : S28)⟩ : S55)]).length : Int) - 1) = (xs.length : Int) := by
      rw [List.length_append, List.length_singleton]
      unfold wrap64
      omega
    rw [e]
theorem rdDf_at {xs : List S57} {i : Nat} (h : i < xs.length) : rd_T57 xs (i : Int) = xs[i] := by simp [rd_T57, h]
def parD (xs : List S57) (at_ : Int) : Int := (rd_T57 xs at_).f1
def kindD (xs : List S57) (at_ : Int) : Int := (rd_T57 xs at_).f0
def upB (xs : List S57) : Nat → Int → Int → Bool
  | 0, _, _ => false
  | d + 1, at_, to_ => if 0 ≤ at_ then (if at_ = to_ then true else upB xs d (parD xs at_) to_) else false
def deepN (xs : List S57) : Nat → Int → Int → Int
  | 0, _, c => c
  | d + 1, at_, c => if 0 ≤ at_ then deepN xs d (parD xs at_) (c + 1) else c
def Ahead (xs : List S57) (n : Nat) : Prop := ∀ j : Nat, j < n → parD xs j < j
theorem isUp_ev (xs : List S57) (to_ : Int) (n : Nat) (hn : n ≤ xs.length) (hA : Ahead xs n) : ∀ (d : Nat) (at_ : Int), at_ < d → at_ < n → Ev (fun k => impl_isUp__impl_datumFault_1.l0 k to_ at_ xs) (upB xs d at_ to_)
  | 0, at_, h0, h1 => Ev.step (fun k => impl_isUp__impl_datumFault_1.l0.eq_2 _ _ _ k) (Ev.ifn (by omega) (Ev.now _))
  | d + 1, at_, h0, h1 => by
    refine Ev.step (fun k => impl_isUp__impl_datumFault_1.l0.eq_2 _ _ _ k) (Ev.iff (fun c => Ev.iff (fun e => Ev.leaf (by simp only [upB]; rw [if_pos c, if_pos e])) (fun e => ?_)) (fun c => Ev.leaf (by simp only [upB]; rw [if_neg c])))
    have hp : parD xs at_ < at_ := by
      have := hA at_.toNat (by omega)
      rwa [Int.toNat_of_nonneg c] at this
    refine Ev.bind0 (a := parD xs at_) (by unfold impl_datumFault_1.f; rw [if_pos c, if_pos (by omega)]; rfl) ?_
    simp only [upB]
    rw [if_pos c, if_neg e]
    exact isUp_ev xs to_ n hn hA d _ (by omega) (by omega)
theorem l3Line_ev (xs : List S57) (i : Int) (hi0 : 0 ≤ i) (hi1 : i < xs.length) (n : Nat) (hn : n ≤ xs.length) (hA : Ahead xs n) : ∀ (d : Nat) (at_ : Int), at_ < d → at_ < n → Ev (fun k => spec_l3Line.l0 k xs i at_) (upB xs d at_ (parD xs i) && kindD xs (parD xs i) == 4)
  | 0, at_, h0, h1 => Ev.step (fun k => spec_l3Line.l0.eq_2 _ _ _ k) (Ev.ifn (by omega) (Ev.now _))
  | d + 1, at_, h0, h1 => by
    refine Ev.step (fun k => spec_l3Line.l0.eq_2 _ _ _ k) (Ev.iff (fun c => Ev.ifp hi0 (Ev.ifp hi1 (Ev.iff (fun e => Ev.ifp c (Ev.ifp (by omega) (Ev.leaf ?_))) (fun e => Ev.ifp c (Ev.ifp (by omega) ?_))))) (fun c => Ev.leaf (by simp only [upB]; rw [if_neg c]; rfl)))
    · have e' : at_ = parD xs i := e
      simp only [upB]
      rw [if_pos c, if_pos e', Bool.true_and, ← e']
      rfl
    · have hp : parD xs at_ < at_ := by
        have := hA at_.toNat (by omega)
        rwa [Int.toNat_of_nonneg c] at this
      have hp' : (rd_T57 xs at_).f1 < at_ := hp
      have e' : ¬ at_ = parD xs i := e
      simp only [upB]
      rw [if_pos c, if_neg e']
      exact l3Line_ev xs i hi0 hi1 n hn hA d _ (by omega) (by omega)
theorem deep_ev (xs : List S57) (n : Nat) (hn : n ≤ xs.length) (hA : Ahead xs n) : ∀ (d : Nat) (at_ c : Int), at_ < d → at_ < n → 0 ≤ c → c + at_ < 1000000 → Ev (fun k => impl_deep.l0 k xs at_ c) (deepN xs d at_ c)
  | 0, at_, c, h0, h1, h2, h3 => Ev.step (fun k => impl_deep.l0.eq_2 _ _ _ k) (Ev.ifn (by omega) (Ev.now _))
  | d + 1, at_, c, h0, h1, h2, h3 => by
    refine Ev.step (fun k => impl_deep.l0.eq_2 _ _ _ k) (Ev.iff (fun e => Ev.ifp e (Ev.ifp (by omega) ?_)) (fun e => Ev.leaf (by simp only [deepN]; rw [if_neg e])))
    have hp : parD xs at_ < at_ := by
      have := hA at_.toNat (by omega)
      rwa [Int.toNat_of_nonneg e] at this
    have hp' : (rd_T57 xs at_).f1 < at_ := hp
    rw [wrap_id (by omega) (by omega)]
    simp only [deepN]
    rw [if_pos e]
    exact deep_ev xs n hn hA d _ _ (by omega) (by omega) (by omega) (by omega)
theorem l3Deep_ev (xs : List S57) (n : Nat) (hn : n ≤ xs.length) (hA : Ahead xs n) : ∀ (d : Nat) (at_ c : Int), at_ < d → at_ < n → 0 ≤ c → c + at_ < 100 → Ev (fun k => spec_l3Deep.l0 k xs at_ c) (deepN xs d at_ c)
  | 0, at_, c, h0, h1, h2, h3 => Ev.step (fun k => spec_l3Deep.l0.eq_2 _ _ _ k) (Ev.ifn (by omega) (Ev.now _))
  | d + 1, at_, c, h0, h1, h2, h3 => by
    refine Ev.step (fun k => spec_l3Deep.l0.eq_2 _ _ _ k) (Ev.iff (fun e => Ev.ifp (by omega) (Ev.ifp e (Ev.ifp (by omega) ?_))) (fun e => Ev.leaf (by simp only [deepN]; rw [if_neg e])))
    have hp : parD xs at_ < at_ := by
      have := hA at_.toNat (by omega)
      rwa [Int.toNat_of_nonneg e] at this
    have hp' : (rd_T57 xs at_).f1 < at_ := hp
    rw [wrap_id (by omega) (by omega)]
    simp only [deepN]
    rw [if_pos e]
    exact l3Deep_ev xs n hn hA d _ _ (by omega) (by omega) (by omega) (by omega)
def bareB (K N : Int) (s : ByteArray) : Bool := inB K 1 4 && (N == 0 || K == 1 || K == 2) && (s.toList.isEmpty || K == 3)
def datStep (xs : List S57) (x : S57) (i : Nat) : Option Int :=
  if bareB x.f0 x.f2 x.f3 = true then (if kindM x.f0 1 3 2 x.f2 x.f3 = 0 then (if i = 0 then (if x.f1 = -1 then none else some 3) else (if inB x.f1 0 ((i : Int) - 1) = true then (if (upB xs i ((i : Int) - 1) x.f1 && kindD xs x.f1 == 4) = true then (if 12 < deepN xs (i + 1) i 0 then some 2 else none) else some 1) else some 3)) else some (kindM x.f0 1 3 2 x.f2 x.f3)) else some 1
def datAt (xs : List S57) (i : Nat) : Option Int := if h : i < xs.length then datStep xs xs[i] i else none
def dataM (xs : List S57) : Int := if inB xs.length 1 80 = true then runU (datAt xs) 0 xs.length 0 else 2
def okD (xs : List S57) : Prop := ∀ x ∈ xs, x.f3.size ≤ 9223372036854775807
theorem ahead_next {xs : List S57} {i : Nat} (hi : i < xs.length) (hA : Ahead xs i) (h : xs[i].f1 < i) : Ahead xs (i + 1) := by
  intro j hj
  by_cases e : j = i
  · subst e; unfold parD; rw [rdDf_at hi]; exact h
  · exact hA j (by omega)
theorem datAt_ahead {xs : List S57} {i : Nat} (hi : i < xs.length) (hA : Ahead xs i) (h : datAt xs i = none) : Ahead xs (i + 1) := by
  refine ahead_next hi hA ?_
  unfold datAt at h
  rw [dif_pos hi] at h
  unfold datStep at h
  repeat' split at h
  all_goals first | (cases h; done) | skip
  all_goals first | omega | (have z := inB_iff.mp (by assumption : inB _ 0 _ = true); omega)
theorem nb_t {x : Bool} (h : true = !x) : ¬ (x = true) := by cases x <;> simp_all
theorem kind_range (K N : Int) (s : ByteArray) (h : true = ((K == 1 && !numB N) || (K == 2 && !inB N 0 1))) : kindM K 1 3 2 N s = 3 := by
  unfold kindM numM
  by_cases z1 : K = 1
  · subst z1
    rw [if_pos rfl]
    cases hz : numB N
    · rfl
    · rw [hz] at h; simp at h
  · rw [if_neg z1]
    by_cases z2 : K = 2
    · subst z2
      rw [if_pos rfl]
      cases hz : inB N 0 1
      · rfl
      · rw [hz] at h; simp at h
    · simp [z1, z2] at h
theorem kind_plain (K N : Int) (s : ByteArray) (h : false = ((K == 1 && !numB N) || (K == 2 && !inB N 0 1))) : kindM K 1 3 2 N s = if K = 3 then symM s else 0 := by
  unfold kindM numM
  by_cases z1 : K = 1
  · subst z1
    rw [if_pos rfl]
    cases hz : numB N
    · rw [hz] at h; simp at h
    · simp
  · rw [if_neg z1]
    by_cases z2 : K = 2
    · subst z2
      rw [if_pos rfl]
      cases hz : inB N 0 1
      · rw [hz] at h; simp at h
      · simp
    · rw [if_neg z2]
theorem datumFault_step (xs : List S57) (hx : okD xs) (hl : xs.length ≤ 80) (i : Nat) (hi : i < xs.length) (hA : Ahead xs i) : Ev (fun k => impl_datumFault.f k xs (i : Int)) ((datAt xs i).getD 0) ∧ (datAt xs i ≠ some 0) := by
  have hm := hx xs[i] (List.getElem_mem hi)
  have e0 : datAt xs i = datStep xs xs[i] i := by unfold datAt; rw [dif_pos hi]
  have hk0 : ∀ v, kindM xs[i].f0 1 3 2 xs[i].f2 xs[i].f3 = v → v = 0 ∨ v ≠ 0 := fun v _ => by omega
  refine ⟨?_, by rw [e0]; unfold datStep; repeat' split
                 all_goals simp_all⟩
  rw [e0]
  have hj : ∀ (hb : bareB xs[i].f0 xs[i].f2 xs[i].f3 = true), Ev (fun k => impl_datumFault.j0 k (i : Int) xs xs[i].f0 xs[i].f1 xs[i].f2 xs[i].f3) ((datStep xs xs[i] i).getD 0) := fun hb => by
    refine Ev.step (fun k => impl_datumFault.j0.eq_2 _ _ _ _ _ _ k) (Ev.bind0 (kindFault_eq _ _ _ _ _ _ hm) (Ev.iff (fun c0 => ?_) (fun c0 => Ev.leaf (by unfold datStep; rw [if_pos hb, if_neg c0]; rfl))))
    refine Ev.iff (fun c1 => Ev.iff (fun c2 => Ev.leaf (by unfold datStep; rw [if_pos hb, if_pos c0, if_pos (by omega), if_pos c2]; rfl)) (fun c2 => Ev.leaf (by unfold datStep; rw [if_pos hb, if_pos c0, if_pos (by omega), if_neg c2]; rfl))) (fun c1 => ?_)
    rw [wrap_id (by omega) (by omega)]
    refine Ev.bind0 (in_eq _ _ _) (Ev.iff (fun c2 => ?_) (fun c2 => Ev.leaf (by unfold datStep; rw [if_pos hb, if_pos c0, if_neg (by omega), if_neg c2]; rfl)))
    have hp := inB_iff.mp c2
    have hup := isUp_ev xs xs[i].f1 i (by omega) hA i ((i : Int) - 1) (by omega) (by omega)
    have hj1 : ∀ b : Bool, b = !(upB xs i ((i : Int) - 1) xs[i].f1 && kindD xs xs[i].f1 == 4) → Ev (fun k => impl_datumFault.j1 k (i : Int) b xs) ((datStep xs xs[i] i).getD 0) := fun b hb1 => by
      have hA1 : Ahead xs (i + 1) := ahead_next hi hA (by omega)
      refine Ev.step (fun k => impl_datumFault.j1.eq_2 _ _ _ k) (Ev.iff (fun c => Ev.leaf ?_) (fun c => ?_))
      · have c' : ¬ ((upB xs i ((i : Int) - 1) xs[i].f1 && kindD xs xs[i].f1 == 4) = true) := by rw [c] at hb1; exact nb_t hb1
        unfold datStep; rw [if_pos hb, if_pos c0, if_neg (by omega), if_pos c2, if_neg c']; rfl
      · have c' : (upB xs i ((i : Int) - 1) xs[i].f1 && kindD xs xs[i].f1 == 4) = true := by
          simp only [Bool.not_eq_true] at c
          rw [c] at hb1
          cases hz : (upB xs i ((i : Int) - 1) xs[i].f1 && kindD xs xs[i].f1 == 4)
          · rw [hz] at hb1; cases hb1
          · rfl
        have hd := deep_ev xs (i + 1) (by omega) hA1 (i + 1) (i : Int) 0 (by omega) (by omega) (by omega) (by omega)
        refine Ev.bind (Ev.congr (fun k => impl_deep.f.eq_1 k _ _) hd) (Ev.iff (fun c3 => Ev.leaf ?_) (fun c3 => Ev.leaf ?_))
        · unfold datStep; rw [if_pos hb, if_pos c0, if_neg (by omega), if_pos c2, if_pos c', if_pos (by omega)]; rfl
        · unfold datStep; rw [if_pos hb, if_pos c0, if_neg (by omega), if_pos c2, if_pos c', if_neg (by omega)]; rfl
    refine Ev.ifp (by omega) (Ev.ifp (by omega) (Ev.iff (fun c3 => ?_) (fun c3 => ?_)))
    · refine Ev.bind (Ev.congr (fun k => impl_isUp__impl_datumFault_1.f.eq_1 k _ _ _) hup) (hj1 _ ?_)
      have c3' : kindD xs xs[i].f1 = 4 := c3
      simp [c3']
    · refine hj1 _ ?_
      have c3' : ¬ kindD xs xs[i].f1 = 4 := c3
      simp [c3']
  have h1 : bareB xs[i].f0 xs[i].f2 xs[i].f3 = false → some ((datStep xs xs[i] i).getD 0) = some (1 : Int) := fun hb => by
    unfold datStep; rw [if_neg (by rw [hb]; decide)]; rfl
  refine Ev.congr (fun k => impl_datumFault.f.eq_1 k _ _) (Ev.ifp (by omega) (Ev.ifp (by omega) ?_))
  rw [rdDf_at hi]
  refine Ev.bind0 (in_eq _ _ _) ?_
  have fin : ∀ b, b = bareB xs[i].f0 xs[i].f2 xs[i].f3 → b = true → Ev (fun k => impl_datumFault.j0 k (i : Int) xs xs[i].f0 xs[i].f1 xs[i].f2 xs[i].f3) ((datStep xs xs[i] i).getD 0) := fun b hb h => hj (by rw [← hb]; exact h)
  repeat' first
    | refine Ev.iff (fun _ => ?_) (fun _ => ?_)
    | refine hj ?_
    | refine Ev.leaf (Option.some.inj (h1 ?_).symm)
  all_goals clear hj h1 fin
  all_goals simp_all [bareB]
theorem implData_ev (xs : List S57) (hx : okD xs) : Ev (fun k => impl_DataFault.f k xs) (dataM xs) := by
  refine Ev.congr (fun k => impl_DataFault.f.eq_1 k _) (Ev.bind0 (in_eq _ _ _) (Ev.iff (fun h => ?_) (fun h => Ev.leaf (by unfold dataM; rw [if_neg h]))))
  have hh := inB_iff.mp h
  have hL := loopI xs.length (fun k i => impl_DataFault.l0 k xs (xs.length : Int) i) (datAt xs) 0 (Ahead xs) (fun i hi hA r hr => by
    obtain ⟨hd, hd0⟩ := datumFault_step xs hx (by omega) i hi hA
    refine Ev.step (fun k => impl_DataFault.l0.eq_2 _ _ _ k) (Ev.ifp (by omega) (Ev.bind hd ?_))
    cases hB : datAt xs i with
    | none => rw [wrap_succ hi (by omega)]; exact Ev.ifp rfl (Ev.go hr hB)
    | some v => exact Ev.ifn (fun hv => hd0 (by rw [hB]; exact congrArg some hv)) (Ev.stop hr (by rw [hB]; rfl)))
    (fun i hi hA hB => datAt_ahead hi hA hB)
    (fun _ => Ev.step (fun k => impl_DataFault.l0.eq_2 _ _ _ k) (Ev.ifn (by omega) (Ev.now _))) xs.length 0 (by omega) (fun j hj => by omega)
  unfold dataM
  rw [if_pos h]
  exact hL
theorem l3Bare_eq (K P N : Int) (s : ByteArray) : spec_l3Bare.f K P N s = some (bareB K N s) := by
  unfold spec_l3Bare.f bareB
  rw [l1In_eq]
  simp only [Option.bind_some]
  by_cases h1 : K = 1 <;> by_cases h2 : K = 2 <;> by_cases h3 : K = 3 <;> by_cases h4 : N = 0 <;> cases h5 : inB K 1 4 <;> simp_all [eq_nil_b]
theorem l3Fault_ev (xs : List S57) (hx : okD xs) : Ev (fun k => spec_l3Fault.f k xs) (dataM xs) := by
  have hL : inB xs.length 1 80 = true → Ev (fun k => spec_l3Fault.l0 k xs 0) (dataM xs) := fun h => by
    have hh := inB_iff.mp h
    have hL := loopI xs.length (fun k i => spec_l3Fault.l0 k xs i) (datAt xs) 0 (Ahead xs) (fun i hi hA r hr => by
      have hm := hx xs[i] (List.getElem_mem hi)
      have e0 : datAt xs i = datStep xs xs[i] i := by unfold datAt; rw [dif_pos hi]
      refine Ev.step (fun k => spec_l3Fault.l0.eq_2 _ _ k) (Ev.ifp (by omega) (Ev.ifp (by omega) ?_))
      rw [rdDf_at hi]
      refine Ev.bind0 (l3Bare_eq _ _ _ _) (Ev.iff (fun hb => ?_) (fun hb => Ev.stop hr (by rw [e0]; unfold datStep; rw [if_neg hb])))
      have j5 : kindM xs[i].f0 1 3 2 xs[i].f2 xs[i].f3 = 0 → (i = 0 → xs[i].f1 = -1) → (i ≠ 0 → inB xs[i].f1 0 ((i : Int) - 1) = true) → ∀ b : Bool, b = (decide (0 < i) && !(upB xs i ((i : Int) - 1) xs[i].f1 && kindD xs xs[i].f1 == 4)) → Ev (fun k => spec_l3Fault.j5 k xs (i : Int) b) r := fun c0 c1 c2 b hb5 => by
        have hA1 : Ahead xs (i + 1) := ahead_next hi hA (by
          by_cases z : i = 0
          · have := c1 z; omega
          · have := (inB_iff.mp (c2 z)).2; omega)
        refine Ev.step (fun k => spec_l3Fault.j5.eq_2 _ _ _ k) (Ev.iff (fun c => ?_) (fun c => ?_))
        · have hi0 : i ≠ 0 := fun z => by subst z; rw [c] at hb5; simp at hb5
          refine Ev.stop hr ?_
          have c' : ¬ ((upB xs i ((i : Int) - 1) xs[i].f1 && kindD xs xs[i].f1 == 4) = true) := by
            rw [c] at hb5
            intro z
            rw [z] at hb5
            simp at hb5
          rw [e0]; unfold datStep; rw [if_pos hb, if_pos c0, if_neg hi0, if_pos (c2 hi0), if_neg c']
        · have hd := l3Deep_ev xs (i + 1) (by omega) hA1 (i + 1) (i : Int) 0 (by omega) (by omega) (by omega) (by omega)
          refine Ev.bind (Ev.congr (fun k => spec_l3Deep.f.eq_1 k _ _) hd) ?_
          by_cases z : i = 0
          · have hd0 : deepN xs (i + 1) (i : Int) 0 = 1 := by
              subst z
              simp only [deepN]
              rw [if_pos (by omega)]
              rfl
            rw [hd0, wrap_succ hi (by omega)]
            refine Ev.ifn (by omega) (Ev.go hr ?_)
            rw [e0]; unfold datStep; rw [if_pos hb, if_pos c0, if_pos z, if_pos (c1 z)]
          · have c' : (upB xs i ((i : Int) - 1) xs[i].f1 && kindD xs xs[i].f1 == 4) = true := by
              simp only [Bool.not_eq_true] at c
              rw [c] at hb5
              have z' : decide (0 < i) = true := by simp; omega
              rw [z', Bool.true_and] at hb5
              cases hz : (upB xs i ((i : Int) - 1) xs[i].f1 && kindD xs xs[i].f1 == 4)
              · rw [hz] at hb5; cases hb5
              · rfl
            refine Ev.iff (fun c3 => Ev.stop hr ?_) (fun c3 => ?_)
            · rw [e0]; unfold datStep; rw [if_pos hb, if_pos c0, if_neg z, if_pos (c2 z), if_pos c', if_pos (by omega)]
            · rw [wrap_succ hi (by omega)]
              refine Ev.go hr ?_
              rw [e0]; unfold datStep; rw [if_pos hb, if_pos c0, if_neg z, if_pos (c2 z), if_pos c', if_neg (by omega)]
      have j4 : kindM xs[i].f0 1 3 2 xs[i].f2 xs[i].f3 = 0 → ∀ b : Bool, b = (if i = 0 then xs[i].f1 != -1 else !inB xs[i].f1 0 ((i : Int) - 1)) → Ev (fun k => spec_l3Fault.j4 k xs (i : Int) b) r := fun c0 b hb4 => by
        refine Ev.step (fun k => spec_l3Fault.j4.eq_2 _ _ _ k) (Ev.iff (fun c => Ev.stop hr ?_) (fun c => ?_))
        · rw [c] at hb4
          by_cases z : i = 0
          · rw [if_pos z] at hb4
            have : ¬ xs[i].f1 = -1 := by simpa using hb4.symm
            rw [e0]; unfold datStep; rw [if_pos hb, if_pos c0, if_pos z, if_neg this]
          · rw [if_neg z] at hb4
            have : ¬ (inB xs[i].f1 0 ((i : Int) - 1) = true) := by simpa using hb4.symm
            rw [e0]; unfold datStep; rw [if_pos hb, if_pos c0, if_neg z, if_neg this]
        · simp only [Bool.not_eq_true] at c
          rw [c] at hb4
          have c1 : i = 0 → xs[i].f1 = -1 := fun z => by rw [if_pos z] at hb4; simpa using hb4.symm
          have c2 : i ≠ 0 → inB xs[i].f1 0 ((i : Int) - 1) = true := fun z => by rw [if_neg z] at hb4; simpa using hb4.symm
          refine Ev.iff (fun c3 => ?_) (fun c3 => j5 c0 c1 c2 _ (by
            have : i = 0 := by omega
            subst this; simp))
          have hp := inB_iff.mp (c2 (by omega))
          have hl := l3Line_ev xs (i : Int) (by omega) (by omega) i (by omega) hA i ((i : Int) - 1) (by omega) (by omega)
          have ep : parD xs (i : Int) = xs[i].f1 := by unfold parD; rw [rdDf_at hi]
          rw [ep] at hl
          refine Ev.bind (Ev.congr (fun k => by rw [spec_l3Line.f.eq_1, wrap_id (by omega) (by omega)]) hl) (j5 c0 c1 c2 _ ?_)
          have z' : decide (0 < i) = true := by simp; omega
          rw [z', Bool.true_and]
      have j3 : ∀ b : Bool, kindM xs[i].f0 1 3 2 xs[i].f2 xs[i].f3 = (if b = true then 5 else 0) → Ev (fun k => spec_l3Fault.j3 k xs (i : Int) b) r := fun b hb3 => by
        refine Ev.step (fun k => spec_l3Fault.j3.eq_2 _ _ _ k) (Ev.iff (fun c => Ev.stop hr ?_) (fun c => ?_))
        · rw [if_pos c] at hb3
          rw [e0]; unfold datStep; rw [if_pos hb, if_neg (by omega), hb3]
        · rw [if_neg c] at hb3
          rw [rdDf_at hi]
          refine Ev.iff (fun c1 => Ev.ifp (by omega) (Ev.ifp (by omega) (Ev.iff (fun c2 => Ev.ifn (by omega) (j4 hb3 _ ?_)) (fun c2 => j4 hb3 _ ?_)))) (fun c1 => Ev.ifp (by omega) (Ev.ifp (by omega) (Ev.ifp (by omega) ?_)))
          · rw [if_pos (by omega), c2]; rfl
          · rw [if_pos (by omega)]; simpa using c2
          · rw [wrap_id (by omega) (by omega)]
            refine Ev.bind0 (l1In_eq _ _ _) (j4 hb3 _ ?_)
            rw [if_neg (by omega)]
      have hin := (Bool.and_eq_true_iff.mp (Bool.and_eq_true_iff.mp hb).1).1
      have hin' := inB_iff.mp hin
      have j2 : ∀ b : Bool, b = ((xs[i].f0 == 1 && !numB xs[i].f2) || (xs[i].f0 == 2 && !inB xs[i].f2 0 1)) → Ev (fun k => spec_l3Fault.j2 k xs (i : Int) b) r := fun b hb2 => by
        refine Ev.step (fun k => spec_l3Fault.j2.eq_2 _ _ _ k) (Ev.iff (fun c => Ev.stop hr ?_) (fun c => ?_))
        · have hk : kindM xs[i].f0 1 3 2 xs[i].f2 xs[i].f3 = 3 := kind_range _ _ _ (by rw [c] at hb2; exact hb2)
          rw [e0]; unfold datStep; rw [if_pos hb, if_neg (by omega), hk]
        · simp only [Bool.not_eq_true] at c
          rw [c] at hb2
          have hk := kind_plain xs[i].f0 xs[i].f2 xs[i].f3 hb2
          refine Ev.ifp (by omega) (Ev.ifp (by omega) ?_)
          rw [rdDf_at hi]
          refine Ev.iff (fun c3 => Ev.bind (l2Sym_ev _ hm) (j3 _ ?_)) (fun c3 => j3 _ ?_)
          · rw [hk, if_pos c3]
            unfold symM
            cases symB xs[i].f3 <;> rfl
          · rw [hk, if_neg c3]
            rfl
      repeat' first
        | refine Ev.iff (fun _ => ?_) (fun _ => ?_)
        | refine Ev.bind0 (l1Num_eq _) ?_
        | refine Ev.bind0 (l1In_eq _ _ _) ?_
        | refine j2 _ ?_
      all_goals clear j2 j3 j4 j5
      all_goals simp_all)
      (fun i hi hA hB => datAt_ahead hi hA hB)
      (fun _ => Ev.step (fun k => spec_l3Fault.l0.eq_2 _ _ k) (Ev.ifn (by omega) (Ev.now _))) xs.length 0 (by omega) (fun j hj => by omega)
    unfold dataM
    rw [if_pos h]
    exact hL
  have j0 : ∀ b : Bool, b = !inB xs.length 1 80 → Ev (fun k => spec_l3Fault.j0 k xs b) (dataM xs) := fun b hb => by
    refine Ev.step (fun k => spec_l3Fault.j0.eq_2 _ _ k) (Ev.iff (fun c => Ev.leaf ?_) (fun c => hL ?_))
    · unfold dataM
      rw [if_neg (fun z => by rw [c, z] at hb; cases hb)]
    · simp only [Bool.not_eq_true] at c
      rw [c] at hb
      simpa using hb.symm
  refine Ev.congr (fun k => spec_l3Fault.f.eq_1 k _) (Ev.iff (fun c => j0 _ ?_) (fun c => j0 _ ?_))
  · rw [inB_f.mpr (by omega)]; rfl
  · unfold inB
    have : decide ((1 : Int) ≤ xs.length) = true := by simp; omega
    rw [this, Bool.true_and]
    by_cases z : (xs.length : Int) ≤ 80
    · have z' : ¬ (xs.length : Int) > 80 := by omega
      simp [z, z']
    · have z' : (xs.length : Int) > 80 := by omega
      simp [z, z']
theorem data_len {xs : List S57} (h : dataM xs = 0) : 1 ≤ xs.length ∧ xs.length ≤ 80 := by
  unfold dataM at h
  split at h
  · rename_i c
    have := inB_iff.mp c
    omega
  · omega
def partsU (xs : List S57) (a : Int) : Nat → Nat → List Int
  | 0, _ => []
  | d + 1, i => (if parD xs i = a then [(i : Int)] else []) ++ partsU xs a d (i + 1)
theorem partsU_length (xs : List S57) (a : Int) : ∀ d i, (partsU xs a d i).length ≤ d
  | 0, _ => by simp [partsU]
  | d + 1, i => by
    have := partsU_length xs a d (i + 1)
    simp only [partsU, List.length_append]
    split <;> simp <;> omega
theorem parts_ev (xs : List S57) (a : Int) (hl : xs.length ≤ 1048576) : ∀ d i acc, i + d = xs.length → acc.length + d ≤ 1048576 → Ev (fun k => impl_parts.l0 k a acc xs (xs.length : Int) (i : Int)) (acc ++ partsU xs a d i)
  | 0, i, acc, hd, ha => by
    have e : i = xs.length := by omega
    subst e
    exact Ev.step (fun k => impl_parts.l0.eq_2 _ _ _ _ _ k) (Ev.ifn (by omega) (Ev.leaf (by simp [partsU])))
  | d + 1, i, acc, hd, ha => by
    have hi : i < xs.length := by omega
    refine Ev.step (fun k => impl_parts.l0.eq_2 _ _ _ _ _ k) (Ev.ifp (by omega) (Ev.ifp (by omega) (Ev.ifp (by omega) (Ev.iff (fun c => Ev.ifp (by omega) ?_) (fun c => ?_)))))
    · rw [wrap_succ hi (by omega)]
      refine Ev.cast (parts_ev xs a hl d (i + 1) _ (by omega) (by simp; omega)) ?_
      simp only [partsU]
      rw [if_pos (show parD xs i = a from c), List.append_assoc]
    · rw [wrap_succ hi (by omega)]
      refine Ev.cast (parts_ev xs a hl d (i + 1) _ (by omega) (by omega)) ?_
      simp only [partsU]
      rw [if_neg (show ¬ parD xs i = a from c), List.nil_append]
theorem l3Parts_ev (xs : List S57) (a : Int) (hl : xs.length ≤ 1048576) : ∀ d i acc, i + d = xs.length → acc.length + d ≤ 1048576 → Ev (fun k => spec_l3Parts.l0 k xs a acc (i : Int)) (acc ++ partsU xs a d i)
  | 0, i, acc, hd, ha => by
    have e : i = xs.length := by omega
    subst e
    exact Ev.step (fun k => spec_l3Parts.l0.eq_2 _ _ _ _ k) (Ev.ifn (by omega) (Ev.leaf (by simp [partsU])))
  | d + 1, i, acc, hd, ha => by
    have hi : i < xs.length := by omega
    refine Ev.step (fun k => spec_l3Parts.l0.eq_2 _ _ _ _ k) (Ev.ifp (by omega) (Ev.ifp (by omega) (Ev.iff (fun c => Ev.ifp (by omega) ?_) (fun c => ?_))))
    · rw [wrap_succ hi (by omega)]
      refine Ev.cast (l3Parts_ev xs a hl d (i + 1) _ (by omega) (by simp; omega)) ?_
      simp only [partsU]
      rw [if_pos (show parD xs i = a from c), List.append_assoc]
    · rw [wrap_succ hi (by omega)]
      refine Ev.cast (l3Parts_ev xs a hl d (i + 1) _ (by omega) (by omega)) ?_
      simp only [partsU]
      rw [if_neg (show ¬ parD xs i = a from c), List.nil_append]
def partsM (xs : List S57) (a : Int) : List Int := partsU xs a xs.length 0
theorem implParts_ev (xs : List S57) (a : Int) (hl : xs.length ≤ 1048576) : Ev (fun k => impl_parts.f k xs a) (partsM xs a) :=
  Ev.congr (fun k => impl_parts.f.eq_1 k _ _) (Ev.cast (parts_ev xs a hl xs.length 0 [] (by omega) (by simp; omega)) (by simp [partsM]))
theorem specParts_ev (xs : List S57) (a : Int) (hl : xs.length ≤ 1048576) : Ev (fun k => spec_l3Parts.f k xs a) (partsM xs a) :=
  Ev.congr (fun k => spec_l3Parts.f.eq_1 k _ _) (Ev.cast (l3Parts_ev xs a hl xs.length 0 [] (by omega) (by simp; omega)) (by simp [partsM]))
def sumN (f : Nat → Nat) : Nat → Nat → Nat
  | 0, _ => 0
  | d + 1, i => f i + sumN f d (i + 1)
theorem sumN_congr {f g : Nat → Nat} : ∀ d i, (∀ q, i ≤ q → q < i + d → f q = g q) → sumN f d i = sumN g d i
  | 0, _, _ => rfl
  | d + 1, i, h => by rw [sumN, sumN, h i (Nat.le_refl i) (by omega), sumN_congr d (i + 1) (fun q a b => h q (by omega) (by omega))]
theorem sumN_zero {f : Nat → Nat} : ∀ d i, (∀ q, i ≤ q → q < i + d → f q = 0) → sumN f d i = 0
  | 0, _, _ => rfl
  | d + 1, i, h => by rw [sumN, h i (Nat.le_refl i) (by omega), sumN_zero d (i + 1) (fun q a b => h q (by omega) (by omega))]
theorem sumN_one {f : Nat → Nat} (x : Nat) : ∀ d i, i ≤ x → x < i + d → (∀ q, i ≤ q → q < i + d → q ≠ x → f q = 0) → sumN f d i = f x
  | 0, i, h0, h1, _ => by omega
  | d + 1, i, h0, h1, h => by
    rw [sumN]
    by_cases e : i = x
    · subst e
      rw [sumN_zero d (i + 1) (fun q a b => h q (by omega) (by omega) (by omega))]; omega
    · rw [h i (Nat.le_refl i) (by omega) e, sumN_one x d (i + 1) (by omega) (by omega) (fun q a b c => h q (by omega) (by omega) c)]; omega
theorem sumN_add (f g : Nat → Nat) : ∀ d i, sumN (fun q => f q + g q) d i = sumN f d i + sumN g d i
  | 0, _ => rfl
  | d + 1, i => by rw [sumN, sumN, sumN, sumN_add f g d (i + 1)]; omega
theorem sumN_const0 : ∀ d i, sumN (fun _ => 0) d i = 0 := fun d i => sumN_zero d i (fun _ _ _ => rfl)
theorem sumN_swap (F : Nat → Nat → Nat) (n m : Nat) : ∀ d i, sumN (fun q => sumN (fun j => F q j) n m) d i = sumN (fun j => sumN (fun q => F q j) d i) n m
  | 0, i => (sumN_const0 n m).symm
  | d + 1, i => by
    rw [sumN, sumN_swap F n m d (i + 1)]
    simp only [sumN]
    rw [sumN_add]
theorem sumN_all : ∀ d i, sumN (fun _ => 1) d i = d
  | 0, _ => rfl
  | d + 1, i => by rw [sumN, sumN_all d (i + 1)]; omega
def leW (u : Nat → Nat) (i p : Nat) : Bool := i == p || (if _h : 0 < i ∧ u i < i then leW u (u i) p else false)
termination_by i
decreasing_by exact _h.2
theorem leW_self (u : Nat → Nat) (i : Nat) : leW u i i = true := by rw [leW]; simp
theorem leW_le (u : Nat → Nat) (p : Nat) : ∀ i, leW u i p = true → p ≤ i := fun i => by
  induction i using Nat.strongRecOn with
  | ind i ih =>
    intro h
    rw [leW] at h
    by_cases e : i = p
    · omega
    · rw [beq_eq_false_iff_ne.mpr e, Bool.false_or] at h
      split at h
      · rename_i c
        have := ih (u i) c.2 h
        omega
      · cases h
theorem leW_up (u : Nat → Nat) {i p : Nat} (hi : 0 < i) (hu : u i < i) (e : i ≠ p) : leW u i p = leW u (u i) p := by
  rw [leW, beq_eq_false_iff_ne.mpr e, Bool.false_or, dif_pos ⟨hi, hu⟩]
theorem leW_zero (u : Nat → Nat) : ∀ i n, i < n → (∀ j, 0 < j → j < n → u j < j) → leW u i 0 = true := fun i n => by
  induction i using Nat.strongRecOn with
  | ind i ih =>
    intro hn hu
    by_cases e : i = 0
    · subst e; exact leW_self u 0
    · rw [leW_up u (by omega) (hu i (by omega) hn) e]
      have := hu i (by omega) hn
      exact ih (u i) this (by omega) hu
def cntW (u : Nat → Nat) (n a : Nat) : Nat := sumN (fun j => if leW u j a = true then 1 else 0) n 0
structure Tree (par : Nat → Int) (n : Nat) : Prop where
  first : par 0 = -1
  up : ∀ j, 0 < j → j < n → 0 ≤ par j ∧ par j < j
theorem tree_step {par : Nat → Int} {n : Nat} (h : Tree par n) (a : Nat) : ∀ j, j < n → sumN (fun q => if par q = (a : Int) ∧ leW (fun i => (par i).toNat) j q = true then 1 else 0) n 0 = if leW (fun i => (par i).toNat) j a = true ∧ j ≠ a then 1 else 0 := fun j => by
  have gt : ∀ q, q < n → par q = (a : Int) → a < q := fun q hq e => by
    by_cases z : q = 0
    · subst z; rw [h.first] at e; omega
    · have := h.up q (by omega) hq; omega
  induction j using Nat.strongRecOn with
  | ind j ih =>
    intro hj
    by_cases e : j = a
    · subst e
      rw [if_neg (fun z => z.2 rfl)]
      refine sumN_zero _ _ (fun q _ hq => if_neg (fun z => ?_))
      have := leW_le _ _ _ z.2
      have := gt q (by omega) z.1
      omega
    by_cases j0 : j = 0
    · subst j0
      rw [if_neg (fun z => by have := leW_le _ _ _ z.1; omega)]
      refine sumN_zero _ _ (fun q _ hq => if_neg (fun z => ?_))
      have := leW_le _ _ _ z.2
      have := gt q (by omega) z.1
      omega
    have hu := h.up j (by omega) hj
    have hul : (par j).toNat < j := by omega
    by_cases c : par j = (a : Int)
    · have ea : (par j).toNat = a := by omega
      rw [if_pos ⟨by rw [leW_up _ (by omega) hul e]; show leW _ (par j).toNat a = true; rw [ea]; exact leW_self _ a, e⟩]
      rw [sumN_one j n 0 (by omega) (by omega) (fun q _ hq hne => if_neg (fun z => ?_)), if_pos ⟨c, leW_self _ j⟩]
      have l := z.2
      rw [leW_up _ (by omega) hul (fun w => hne w.symm)] at l
      have l' : leW (fun i => (par i).toNat) (par j).toNat q = true := l
      rw [ea] at l'
      have := leW_le _ _ _ l'
      have := gt q (by omega) z.1
      omega
    · have i1 := ih (par j).toNat hul (by omega)
      have e2 : (par j).toNat ≠ a := by omega
      have r : leW (fun i => (par i).toNat) j a = leW (fun i => (par i).toNat) (par j).toNat a := leW_up _ (by omega) hul e
      have s : sumN (fun q => if par q = (a : Int) ∧ leW (fun i => (par i).toNat) j q = true then 1 else 0) n 0 = sumN (fun q => if par q = (a : Int) ∧ leW (fun i => (par i).toNat) (par j).toNat q = true then 1 else 0) n 0 := by
        refine sumN_congr _ _ (fun q _ hq => ?_)
        by_cases z : par q = (a : Int)
        · have hne : j ≠ q := fun w => c (by rw [w]; exact z)
          have : leW (fun i => (par i).toNat) j q = leW (fun i => (par i).toNat) (par j).toNat q := leW_up _ (by omega) hul hne
          rw [this]
        · rw [if_neg (fun w => z w.1), if_neg (fun w => z w.1)]
      rw [s, i1, r]
      by_cases b : leW (fun i => (par i).toNat) (par j).toNat a = true
      · rw [if_pos ⟨b, e2⟩, if_pos ⟨b, e⟩]
      · rw [if_neg (fun w => b w.1), if_neg (fun w => b w.1)]
theorem cnt_step {par : Nat → Int} {n : Nat} (h : Tree par n) (a : Nat) (ha : a < n) : cntW (fun i => (par i).toNat) n a = 1 + sumN (fun q => if par q = (a : Int) then cntW (fun i => (par i).toNat) n q else 0) n 0 := by
  have e1 : sumN (fun q => if par q = (a : Int) then cntW (fun i => (par i).toNat) n q else 0) n 0 = sumN (fun q => sumN (fun j => if par q = (a : Int) ∧ leW (fun i => (par i).toNat) j q = true then 1 else 0) n 0) n 0 := by
    refine sumN_congr _ _ (fun q _ _ => ?_)
    by_cases z : par q = (a : Int)
    · rw [if_pos z]
      unfold cntW
      refine sumN_congr _ _ (fun j _ _ => ?_)
      by_cases y : leW (fun i => (par i).toNat) j q = true
      · rw [if_pos y, if_pos ⟨z, y⟩]
      · rw [if_neg y, if_neg (fun w => y w.2)]
    · rw [if_neg z]
      exact (sumN_zero _ _ (fun j _ _ => if_neg (fun w => z w.1))).symm
  rw [e1, sumN_swap, sumN_congr n 0 (fun j _ hj => tree_step h a j (by omega))]
  unfold cntW
  have e2 : sumN (fun j => if j = a then 1 else 0) n 0 = 1 := by
    rw [sumN_one a n 0 (by omega) (by omega) (fun q _ _ hne => if_neg hne), if_pos rfl]
  have e3 : sumN (fun j => if leW (fun i => (par i).toNat) j a = true then 1 else 0) n 0 = sumN (fun j => (if j = a then 1 else 0) + (if leW (fun i => (par i).toNat) j a = true ∧ j ≠ a then 1 else 0)) n 0 := by
    refine sumN_congr _ _ (fun j _ _ => ?_)
    by_cases z : j = a
    · subst z
      rw [if_pos (leW_self _ j), if_pos rfl, if_neg (fun w => w.2 rfl)]
    · rw [if_neg z]
      by_cases y : leW (fun i => (par i).toNat) j a = true
      · rw [if_pos y, if_pos ⟨y, z⟩]
      · rw [if_neg y, if_neg (fun w => y w.1)]
  rw [e3, sumN_add, e2]
theorem cnt_zero {par : Nat → Int} {n : Nat} (h : Tree par n) : cntW (fun i => (par i).toNat) n 0 = n := by
  unfold cntW
  rw [sumN_congr n 0 (g := fun _ => 1) (fun j _ hj => if_pos (leW_zero _ j n (by omega) (fun i a b => by have := h.up i a b; show (par i).toNat < i; omega))), sumN_all]
theorem datAt_ne0 {xs : List S57} (i : Nat) (v : Int) (h : datAt xs i = some v) : v ≠ 0 := by
  unfold datAt at h
  split at h
  · unfold datStep at h
    repeat' split at h
    all_goals first | (cases h; done) | (obtain rfl := Option.some.inj h; first | omega | assumption)
  · cases h
theorem data_at {xs : List S57} (h : dataM xs = 0) (i : Nat) (hi : i < xs.length) : (i = 0 → parD xs i = -1) ∧ (0 < i → 0 ≤ parD xs i ∧ parD xs i < i ∧ kindD xs (parD xs i) = 4) := by
  have hl := data_len h
  unfold dataM at h
  rw [if_pos (inB_t (by omega) (by omega))] at h
  have hn := runU_none (fun j v => datAt_ne0 (xs := xs) j v) xs.length 0 h i (by omega) (by omega)
  have ep : parD xs i = xs[i].f1 := by unfold parD; rw [rdDf_at hi]
  unfold datAt at hn
  rw [dif_pos hi] at hn
  unfold datStep at hn
  rw [ep]
  split at hn
  case isFalse => cases hn
  split at hn
  case isFalse => cases hn
  split at hn
  · rename_i i0
    split at hn
    · rename_i c; exact ⟨fun _ => c, fun z => by omega⟩
    · cases hn
  · rename_i i0
    split at hn
    case isFalse => cases hn
    rename_i c1
    split at hn
    case isFalse => cases hn
    rename_i c2
    have b := inB_iff.mp c1
    rw [Bool.and_eq_true] at c2
    exact ⟨fun z => absurd z i0, fun _ => ⟨b.1, by omega, by simpa using c2.2⟩⟩
theorem data_tree {xs : List S57} (h : dataM xs = 0) : Tree (fun j => parD xs (j : Int)) xs.length :=
  ⟨(data_at h 0 (by have := data_len h; omega)).1 rfl, fun j h0 hj => ⟨((data_at h j hj).2 h0).1, ((data_at h j hj).2 h0).2.1⟩⟩
theorem mem_partsU {xs : List S57} {a : Int} : ∀ d i, i + d ≤ xs.length → ∀ q ∈ partsU xs a d i, ∃ j : Nat, q = (j : Int) ∧ i ≤ j ∧ j < xs.length ∧ parD xs j = a
  | 0, i, _, q, hq => by cases hq
  | d + 1, i, h, q, hq => by
    rw [partsU] at hq
    rcases List.mem_append.mp hq with hm | hm
    · split at hm
      · rename_i c
        rw [List.mem_singleton] at hm
        exact ⟨i, hm, Nat.le_refl i, by omega, c⟩
      · cases hm
    · obtain ⟨j, e, a1, a2, a3⟩ := mem_partsU d (i + 1) (by omega) q hm
      exact ⟨j, e, by omega, a2, a3⟩
theorem part_at {xs : List S57} (h : dataM xs = 0) (a : Nat) (q : Int) (hq : q ∈ partsM xs a) : ∃ j : Nat, q = (j : Int) ∧ a < j ∧ j < xs.length ∧ kindD xs a = 4 := by
  obtain ⟨j, e, _, hj, hp⟩ := mem_partsU xs.length 0 (by omega) q hq
  have d := data_at h j hj
  by_cases z : j = 0
  · have := d.1 z; omega
  · have d2 := d.2 (by omega)
    exact ⟨j, e, by omega, hj, by rw [← hp]; exact d2.2.2⟩
def prs (xs : List S57) : Nat → Int → Nat
  | 0, _ => 0
  | N + 1, a => if kindD xs a = 1 ∨ kindD xs a = 2 ∨ kindD xs a = 3 then 0 else ((partsM xs a).map (fun q => 1 + prs xs N q)).sum
theorem sum_parts (xs : List S57) (a : Int) (G : Int → Nat) : ∀ d i, ((partsU xs a d i).map G).sum = sumN (fun q => if parD xs (q : Int) = a then G (q : Int) else 0) d i
  | 0, _ => rfl
  | d + 1, i => by
    rw [partsU, List.map_append, List.sum_append, sumN, sum_parts xs a G d (i + 1)]
    split <;> simp
theorem prs_cnt {xs : List S57} (h : dataM xs = 0) : ∀ (N a : Nat), a < xs.length → xs.length ≤ a + N → prs xs N (a : Int) + 1 = cntW (fun i => (parD xs (i : Int)).toNat) xs.length a
  | 0, a, h0, h1 => by omega
  | N + 1, a, h0, h1 => by
    have hs := cnt_step (data_tree h) a h0
    have hk : ∀ q, q < xs.length → parD xs (q : Int) = (a : Int) → a < q ∧ kindD xs (a : Int) = 4 := fun q hq e => by
      have d := data_at h q hq
      by_cases z : q = 0
      · have := d.1 z; omega
      · have d2 := d.2 (by omega)
        exact ⟨by omega, by rw [← e]; exact d2.2.2⟩
    rw [hs, prs]
    by_cases c : kindD xs (a : Int) = 1 ∨ kindD xs (a : Int) = 2 ∨ kindD xs (a : Int) = 3
    · rw [if_pos c]
      have : sumN (fun q => if parD xs (q : Int) = (a : Int) then cntW (fun i => (parD xs (i : Int)).toNat) xs.length q else 0) xs.length 0 = 0 := sumN_zero _ _ (fun q _ hq => if_neg (fun e => by have := (hk q (by omega) e).2; omega))
      rw [this]
    · rw [if_neg c]
      unfold partsM
      rw [sum_parts, Nat.add_comm]
      congr 1
      refine sumN_congr _ _ (fun q _ hq => ?_)
      by_cases e : parD xs (q : Int) = (a : Int)
      · rw [if_pos e, if_pos e, Nat.add_comm]
        exact prs_cnt h N q (by omega) (by have := (hk q (by omega) e).1; omega)
      · rw [if_neg e, if_neg e]
theorem prs_all {xs : List S57} (h : dataM xs = 0) : prs xs xs.length 0 + 1 = xs.length := by
  have hl := data_len h
  have e := prs_cnt h xs.length 0 (by omega) (by omega)
  rw [cnt_zero (data_tree h)] at e
  exact e
abbrev POut : Type := Int × Int × ByteArray × List S55
def goM (F : List S55 → Int → POut) : List Int → Int → Int → ByteArray → List S55 → POut
  | [], K, M, s, xs => (K, M, s, xs)
  | p :: r, K, M, s, xs => goM F r 5 ((F xs p).2.2.2.length : Int) ⟨#[]⟩ ((F xs p).2.2.2 ++ [⟨⟨(F xs p).1, (F xs p).2.1, (F xs p).2.2.1⟩, ⟨K, M, s⟩⟩])
def putD (d : List S57) : Nat → List S55 → Int → POut
  | 0, xs, _ => (0, 0, ⟨#[]⟩, xs)
  | N + 1, xs, a => if kindD d a = 1 then (1, (rd_T57 d a).f2, ⟨#[]⟩, xs) else if kindD d a = 2 then (2, (rd_T57 d a).f2, ⟨#[]⟩, xs) else if kindD d a = 3 then (4, 0, (rd_T57 d a).f3, xs) else goM (fun ys q => putD d N ys q) (partsM d a).reverse 3 0 ⟨#[]⟩ xs
theorem goM_len {F : List S55 → Int → POut} {G : Int → Nat} : ∀ (l : List Int) (_ : ∀ q ∈ l, ∀ ys, (F ys q).2.2.2.length = ys.length + G q) (K M : Int) (s : ByteArray) (xs : List S55), (goM F l K M s xs).2.2.2.length = xs.length + (l.map (fun q => 1 + G q)).sum
  | [], _, K, M, s, xs => by simp [goM]
  | p :: r, h, K, M, s, xs => by
    rw [goM, goM_len r (fun q hq => h q (by simp [hq])), List.length_append, List.length_singleton, h p (by simp), List.map_cons, List.sum_cons]
    omega
theorem sum_rev (l : List Int) (G : Int → Nat) : (l.reverse.map G).sum = (l.map G).sum := by
  rw [List.map_reverse, List.sum_reverse]
theorem putD_len (d : List S57) : ∀ (N : Nat) (xs : List S55) (a : Int), (putD d N xs a).2.2.2.length = xs.length + prs d N a
  | 0, xs, a => by simp [putD, prs]
  | N + 1, xs, a => by
    rw [putD, prs]
    by_cases c1 : kindD d a = 1
    · rw [if_pos c1, if_pos (.inl c1)]; rfl
    by_cases c2 : kindD d a = 2
    · rw [if_neg c1, if_pos c2, if_pos (.inr (.inl c2))]; rfl
    by_cases c3 : kindD d a = 3
    · rw [if_neg c1, if_neg c2, if_pos c3, if_pos (.inr (.inr c3))]; rfl
    rw [if_neg c1, if_neg c2, if_neg c3, if_neg (by omega), goM_len (G := fun q => prs d N q) _ (fun q _ ys => putD_len d N ys q), sum_rev]
theorem implGo_ev {d : List S57} {N : Nat} : ∀ (l : List Int) (_ : ∀ q ∈ l, ∀ ys : List S55, ys.length + prs d N q ≤ 4000 → Ev (fun k => impl_heap_data.f k ys d q) (putD d N ys q)) (K M : Int) (s : ByteArray) (xs : List S55), xs.length + (l.map (fun q => 1 + prs d N q)).sum ≤ 4000 → Ev (fun k => impl_heap_data.go (fun ys q => impl_heap_data.f k ys d q) l K M s xs) (goM (fun ys q => putD d N ys q) l K M s xs)
  | [], _, K, M, s, xs, _ => Ev.now _
  | p :: r, h, K, M, s, xs, hl => by
    rw [List.map_cons, List.sum_cons] at hl
    have hp := putD_len d N xs p
    refine Ev.congr (fun k => by rw [impl_heap_data.go]) (Ev.bind (h p (by simp) xs (by omega)) ?_)
    have e := heapCons_eq (putD d N xs p).2.2.2 ⟨(putD d N xs p).1, (putD d N xs p).2.1, (putD d N xs p).2.2.1⟩ ⟨K, M, s⟩ (by omega)
    rw [if_neg (by omega)] at e
    refine Ev.bind0 e ?_
    rw [goM]
    exact implGo_ev r (fun q hq => h q (by simp [hq])) _ _ _ _ (by rw [List.length_append, List.length_singleton]; omega)
theorem implData2_ev {d : List S57} (h : dataM d = 0) : ∀ (N a : Nat) (xs : List S55), a < d.length → d.length ≤ a + N → xs.length + prs d N (a : Int) ≤ 4000 → Ev (fun k => impl_heap_data.f k xs d (a : Int)) (putD d N xs (a : Int))
  | 0, a, xs, h0, h1, _ => by omega
  | N + 1, a, xs, h0, h1, hl => by
    have hd := data_len h
    refine Ev.step (fun k => by rw [impl_heap_data.f]) (Ev.ifp (by omega) (Ev.ifp (by omega) ?_))
    rw [putD]
    refine Ev.iff (fun c => Ev.leaf ?_) (fun c1 => Ev.iff (fun c => Ev.leaf ?_) (fun c2 => Ev.iff (fun c => Ev.leaf ?_) (fun c3 => ?_)))
    · rw [if_pos (show kindD d (a : Int) = 1 from c)]
    · rw [if_neg (show ¬ kindD d (a : Int) = 1 from c1), if_pos (show kindD d (a : Int) = 2 from c)]
    · rw [if_neg (show ¬ kindD d (a : Int) = 1 from c1), if_neg (show ¬ kindD d (a : Int) = 2 from c2), if_pos (show kindD d (a : Int) = 3 from c)]
    · have k1 : ¬ kindD d (a : Int) = 1 := c1
      have k2 : ¬ kindD d (a : Int) = 2 := c2
      have k3 : ¬ kindD d (a : Int) = 3 := c3
      rw [if_neg k1, if_neg k2, if_neg k3]
      rw [prs, if_neg (by omega)] at hl
      refine Ev.bind (implParts_ev d (a : Int) (by omega)) (Ev.ifp (by have := partsU_length d (a : Int) d.length 0; unfold partsM; omega) ?_)
      refine implGo_ev _ (fun q hq ys hy => ?_) 3 0 ⟨#[]⟩ xs (by rw [sum_rev]; exact hl)
      obtain ⟨j, rfl, j1, j2, _⟩ := part_at h a q (List.mem_reverse.mp hq)
      exact implData2_ev h N j ys j2 (by omega) hy
theorem rd_int {ps : List Int} {n : Nat} (h : n < ps.length) : rd ps (n : Int) = ps[n] := by simp [rd, h]
theorem specGo_ev {d : List S57} {N : Nat} (ps : List Int) (hps : ps.length ≤ 1000) (h : ∀ q ∈ ps, ∀ ys : List S55, ys.length + prs d N q ≤ 100000 → Ev (fun k => spec_l5Put.f k ys d q) (putD d N ys q)) : ∀ (n : Nat) (K M : Int) (s : ByteArray) (xs : List S55), n ≤ ps.length → xs.length + ((ps.take n).map (fun q => 1 + prs d N q)).sum ≤ 100000 → Ev (fun k => spec_l5Put.l0 k d ps ((n : Int) - 1) xs K M s) (goM (fun ys q => putD d N ys q) (ps.take n).reverse K M s xs)
  | 0, K, M, s, xs, _, _ => Ev.step (fun k => spec_l5Put.l0.eq_2 _ _ _ _ _ _ _ k) (Ev.ifn (by omega) (Ev.leaf (by simp [goM])))
  | n + 1, K, M, s, xs, hn, hl => by
    have hn' : n < ps.length := by omega
    have e1 : ((n + 1 : Nat) : Int) - 1 = (n : Int) := by omega
    rw [List.take_succ_eq_append_getElem hn', List.map_append, List.sum_append, List.map_singleton, List.sum_singleton] at hl
    have hp := putD_len d N xs ps[n]
    rw [e1, List.take_succ_eq_append_getElem hn', List.reverse_append]
    refine Ev.step (fun k => spec_l5Put.l0.eq_2 _ _ _ _ _ _ _ k) (Ev.ifp (by omega) (Ev.ifp (by omega) (Ev.ifp (by omega) ?_)))
    rw [rd_int hn']
    refine Ev.bind (h _ (List.getElem_mem hn') xs (by omega)) (Ev.ifp (by omega) (Ev.bind0 rfl ?_))
    rw [wrap_id (x := (n : Int) - 1) (by omega) (by omega), List.length_append, List.length_singleton, wrap_id (by omega) (by omega), show (((putD d N xs ps[n]).2.2.2.length + 1 : Nat) : Int) - 1 = ((putD d N xs ps[n]).2.2.2.length : Int) from by omega]
    show Ev _ (goM _ (ps[n] :: (ps.take n).reverse) K M s xs)
    rw [goM]
    exact specGo_ev ps hps h n 5 _ ⟨#[]⟩ _ (by omega) (by rw [List.length_append, List.length_singleton]; omega)
theorem specPut_ev {d : List S57} (h : dataM d = 0) : ∀ (N a : Nat) (xs : List S55), a < d.length → d.length ≤ a + N → xs.length + prs d N (a : Int) ≤ 100000 → Ev (fun k => spec_l5Put.f k xs d (a : Int)) (putD d N xs (a : Int))
  | 0, a, xs, h0, h1, _ => by omega
  | N + 1, a, xs, h0, h1, hl => by
    have hd := data_len h
    refine Ev.step (fun k => spec_l5Put.f.eq_2 _ _ _ k) (Ev.ifp (by omega) (Ev.ifp (by omega) ?_))
    rw [putD]
    refine Ev.iff (fun c => Ev.leaf ?_) (fun c1 => Ev.iff (fun c => Ev.leaf ?_) (fun c2 => Ev.iff (fun c => Ev.leaf ?_) (fun c3 => ?_)))
    · rw [if_pos (show kindD d (a : Int) = 1 from c)]
    · rw [if_neg (show ¬ kindD d (a : Int) = 1 from c1), if_pos (show kindD d (a : Int) = 2 from c)]
    · rw [if_neg (show ¬ kindD d (a : Int) = 1 from c1), if_neg (show ¬ kindD d (a : Int) = 2 from c2), if_pos (show kindD d (a : Int) = 3 from c)]
    · have k1 : ¬ kindD d (a : Int) = 1 := c1
      have k2 : ¬ kindD d (a : Int) = 2 := c2
      have k3 : ¬ kindD d (a : Int) = 3 := c3
      rw [if_neg k1, if_neg k2, if_neg k3]
      rw [prs, if_neg (by omega)] at hl
      have hpl := partsU_length d (a : Int) d.length 0
      have hpl' : (partsM d (a : Int)).length ≤ d.length := hpl
      refine Ev.bind (specParts_ev d (a : Int) (by omega)) ?_
      rw [wrap_id (by omega) (by omega)]
      have g := specGo_ev (N := N) (partsM d (a : Int)) (by omega) (fun q hq ys hy => by
        obtain ⟨j, rfl, j1, j2, _⟩ := part_at h a q hq
        exact specPut_ev h N j ys j2 (by omega) hy) (partsM d (a : Int)).length 3 0 ⟨#[]⟩ xs (Nat.le_refl _) (by rw [List.take_length]; exact hl)
      rw [List.take_length] at g
      exact g
def putM (xs : List S55) (d : List S57) : Int × List S55 × Int × Int × ByteArray :=
  if heapM xs = 0 then (if dataM d = 0 then (if 4000 < xs.length + d.length - 1 then (2, [], 0, 0, ⟨#[]⟩) else (0, (putD d d.length xs 0).2.2.2, (putD d d.length xs 0).1, (putD d d.length xs 0).2.1, (putD d d.length xs 0).2.2.1)) else (dataM d, [], 0, 0, ⟨#[]⟩)) else (heapM xs, [], 0, 0, ⟨#[]⟩)
theorem implPutData_ev (xs : List S55) (d : List S57) (hx : okP xs) (hd : okD d) : Ev (fun k => impl_PutData.f k xs d) (putM xs d) := by
  refine Ev.congr (fun k => impl_PutData.f.eq_1 k _ _) (Ev.bind (implHeap_ev xs hx) (Ev.iff (fun c => ?_) (fun c => Ev.leaf (by unfold putM; rw [if_neg c]))))
  refine Ev.bind (implData_ev d hd) (Ev.iff (fun c1 => ?_) (fun c1 => Ev.leaf (by unfold putM; rw [if_pos c, if_neg c1])))
  have hl := heap_len c
  have hdl := data_len c1
  have hp := prs_all c1
  refine Ev.bind0 (implCloneP_eq xs (by omega)) ?_
  unfold putM
  rw [if_pos c, if_pos c1]
  by_cases z : 4000 < xs.length + d.length - 1
  · rw [if_pos z]
    refine Ev.bind (a := (0, 0, ⟨#[]⟩, false, xs)) (Ev.congr (fun k => impl_heap_put.f.eq_1 k _ _) ?_) (Ev.ifn (by simp) (Ev.now _))
    rw [wrap_id (x := (xs.length : Int) + (d.length : Int)) (by omega) (by omega), wrap_id (by omega) (by omega)]
    exact Ev.ifp (by omega) (Ev.now _)
  · rw [if_neg z]
    refine Ev.bind (a := ((putD d d.length xs 0).1, (putD d d.length xs 0).2.1, (putD d d.length xs 0).2.2.1, true, (putD d d.length xs 0).2.2.2)) (Ev.congr (fun k => impl_heap_put.f.eq_1 k _ _) ?_) (Ev.ifp rfl (Ev.now _))
    rw [wrap_id (x := (xs.length : Int) + (d.length : Int)) (by omega) (by omega), wrap_id (by omega) (by omega)]
    exact Ev.ifn (by omega) (Ev.bind (implData2_ev c1 d.length 0 xs (by omega) (by omega) (by show xs.length + prs d d.length 0 ≤ 4000; omega)) (Ev.now _))
theorem specPutData_ev (xs : List S55) (d : List S57) (hx : okP xs) (hd : okD d) : Ev (fun k => spec_PutData.f k xs d) (putM xs d) := by
  refine Ev.congr (fun k => spec_PutData.f.eq_1 k _ _) (Ev.bind (l5Heap_ev xs hx) (Ev.iff (fun c => ?_) (fun c => Ev.leaf (by unfold putM; rw [if_neg c]))))
  refine Ev.bind (l3Fault_ev d hd) (Ev.iff (fun c1 => ?_) (fun c1 => Ev.leaf (by unfold putM; rw [if_pos c, if_neg c1])))
  have hl := heap_len c
  have hdl := data_len c1
  have hp := prs_all c1
  have hlen := putD_len d d.length xs 0
  refine Ev.bind0 (l5Copy_eq xs (by omega)) (Ev.bind (specPut_ev c1 d.length 0 xs (by omega) (by omega) (by show xs.length + prs d d.length 0 ≤ 100000; omega)) ?_)
  unfold putM
  rw [if_pos c, if_pos c1]
  refine Ev.iff (fun z => Ev.leaf ?_) (fun z => Ev.leaf ?_)
  · have z' : ((putD d d.length xs 0).2.2.2.length : Int) > 4000 := z
    rw [if_pos (by omega)]
  · have z' : ¬ ((putD d d.length xs 0).2.2.2.length : Int) > 4000 := z
    rw [if_neg (by omega)]
    rfl
theorem putM_len (xs : List S55) (d : List S57) : (putM xs d).2.1.length ≤ 4010 := by
  unfold putM
  split
  · split
    · rename_i c1
      have hp := prs_all c1
      have hdl := data_len c1
      have hlen := putD_len d d.length xs 0
      split
      · simp
      · show (putD d d.length xs 0).2.2.2.length ≤ 4010
        omega
    · simp
  · simp
theorem rdLP_at {xs : List S45} {i : Nat} (h : i < xs.length) : rd_T45 xs (i : Int) = xs[i] := by simp [rd_T45, h]
def convV (x : S43) : S28 := ⟨x.f0, x.f1, x.f2⟩
def convP (x : S45) : S55 := ⟨convV x.f0, convV x.f1⟩
theorem szValue_eq (K M : Int) (s : ByteArray) (left : Int) (hs : s.size ≤ maxLen) (h0 : 0 ≤ left) (h1 : left ≤ 1048576) : ∃ r, laws_szValue.f K M s left = some r ∧ r ≤ left ∧ -1 ≤ r := by
  unfold maxLen at hs
  unfold laws_szValue.f
  rw [PL.wrap_id (x := left - (s.size : Int)) (by omega) (by omega)]
  by_cases c : left - (s.size : Int) < 0
  · exact ⟨-1, by rw [if_pos c], by omega, by omega⟩
  · exact ⟨left - (s.size : Int), by rw [if_neg c], by omega, by omega⟩
theorem szPair_eq (x : S45) (left : Int) (hx : ok45 x) (h0 : 0 ≤ left) (h1 : left ≤ 1048576) : ∃ r, laws_szPair.f x.f0.f0 x.f0.f1 x.f0.f2 x.f1.f0 x.f1.f1 x.f1.f2 left = some r ∧ r ≤ left ∧ -1 ≤ r := by
  obtain ⟨r, hr, hr1, hr2⟩ := szValue_eq x.f0.f0 x.f0.f1 x.f0.f2 left hx.1.2.2 h0 h1
  unfold laws_szPair.f
  rw [hr, Option.bind_some]
  by_cases c : r < 0
  · exact ⟨-1, by rw [if_pos c], by omega, by omega⟩
  · obtain ⟨q, hq, hq1, hq2⟩ := szValue_eq x.f1.f0 x.f1.f1 x.f1.f2 r hx.2.2.2 (by omega) (by omega)
    rw [if_neg c, hq, Option.bind_some]
    by_cases d : q < 0
    · exact ⟨-1, by rw [if_pos d], by omega, by omega⟩
    · exact ⟨q, by rw [if_neg d], by omega, by omega⟩
theorem szPairS_ev (xs : List S45) (hx : ∀ y ∈ xs, ok45 y) (hl : xs.length ≤ maxLen) (left : Int) (h0 : 0 ≤ left) (h1 : left ≤ 1048576) :
    ∃ r, Ev (fun k => laws_szPairS.f k xs left) r ∧ r ≤ left ∧ (r < 0 ∨ xs.length ≤ 1048576) := by
  unfold maxLen at hl
  have hw : wrap64 (left - (xs.length : Int)) = left - (xs.length : Int) := PL.wrap_id (by omega) (by omega)
  by_cases c : left - (xs.length : Int) < 0
  · refine ⟨-1, Ev.congr (f := fun _ => some (-1)) (fun k => ?_) (Ev.now _), by omega, .inl (by omega)⟩
    unfold laws_szPairS.f
    rw [hw, if_pos c]
  · obtain ⟨r, hr, hr1⟩ := PL.sz_ev xs (fun k left i => laws_szPairS.l0 k xs left i) (fun left i hi h0 h1 => by
      obtain ⟨r, hr, hr1, hr2⟩ := szPair_eq xs[i] left (hx xs[i] (List.getElem_mem hi)) h0 h1
      refine ⟨r, hr1, ?_⟩
      by_cases c : r < 0
      · refine .inl ⟨c, fun k => ?_⟩
        simp only [laws_szPairS.l0]
        rw [if_pos (by omega), if_pos (by omega), rdLP_at hi, hr, Option.bind_some, if_pos c]
      · refine .inr ⟨by omega, fun k => ?_⟩
        simp only [laws_szPairS.l0]
        rw [if_pos (by omega), if_pos (by omega), rdLP_at hi, hr, Option.bind_some, if_neg c, PL.wrap_succ hi (by omega)])
      (fun k left => by simp only [laws_szPairS.l0]; rw [if_neg (by omega)]) xs.length 0 (left - (xs.length : Int)) (by omega) (by omega) (by omega)
    refine ⟨r, Ev.congr (fun k => ?_) hr, by omega, .inr (by omega)⟩
    unfold laws_szPairS.f
    rw [hw, if_neg c]
    rfl
theorem toPairS_ev (xs : List S45) (hl : xs.length ≤ 1048576) : Ev (fun k => laws_toPairS.f k xs) (xs.map convP) := by
  refine Ev.congr (fun k => ?_) (PL.to_ev xs convP z55 (fun k out i => laws_toPairS.l0 k xs out i) (fun k out i hi ho => by
    simp only [laws_toPairS.l0, laws_toPair.f, laws_toValue.f]
    rw [if_pos (by omega), if_pos (by omega), Option.bind_some, Option.bind_some, Option.bind_some, if_pos (by omega), rdLP_at hi, PL.wrap_succ hi (by omega)]
    rfl) (fun k out ho => by simp only [laws_toPairS.l0]; rw [if_neg (by omega)]))
  unfold laws_toPairS.f
  rw [if_pos (by omega), if_pos (by omega)]
  rfl
theorem eqValue_self (K M : Int) (s : ByteArray) : laws_eqValue.f K M s K M s = some true := by
  unfold laws_eqValue.f
  rw [if_pos rfl, if_pos rfl, if_pos rfl]
theorem eqPairS_ev (xs : List S55) (hl : xs.length ≤ 1048576) : Ev (fun k => laws_eqPairS.f k xs xs) true := by
  refine Ev.congr (fun k => ?_) (PL.all_ev xs.length (fun k i => laws_eqPairS.l0 k xs xs i) true (fun k i hi => by
    simp only [laws_eqPairS.l0, laws_eqPair.f]
    rw [if_pos (by omega), if_pos (by omega), if_pos (by omega), eqValue_self, Option.bind_some, if_pos rfl, eqValue_self, Option.bind_some, if_pos rfl, Option.bind_some, if_pos rfl, PL.wrap_succ hi (by omega)]) (fun k => by simp only [laws_eqPairS.l0]; rw [if_neg (by omega)]) xs.length 0 (by omega))
  unfold laws_eqPairS.f
  rw [if_pos rfl]
  rfl
theorem okP_sizes {x : S45} (h : ok45 x) : x.f0.f2.size ≤ 9223372036854775807 ∧ x.f1.f2.size ≤ 9223372036854775807 := by
  have h1 := h.1.2.2
  have h2 := h.2.2.2
  unfold maxLen at h1 h2
  exact ⟨h1, h2⟩
theorem rdL_at {xs : List S48} {i : Nat} (h : i < xs.length) : rd_T48 xs (i : Int) = xs[i] := by simp [rd_T48, h]
def convD (x : S48) : S57 := ⟨x.f0, x.f1, x.f2, x.f3⟩
theorem szDatumS_ev (xs : List S48) (hx : ∀ y ∈ xs, ok48 y) (hl : xs.length ≤ maxLen) (left : Int) (h0 : 0 ≤ left) (h1 : left ≤ 1048576) :
    ∃ r, Ev (fun k => laws_szDatumS.f k xs left) r ∧ r ≤ left ∧ (r < 0 ∨ xs.length ≤ 1048576) := by
  unfold maxLen at hl
  have hw : wrap64 (left - (xs.length : Int)) = left - (xs.length : Int) := PL.wrap_id (by omega) (by omega)
  by_cases c : left - (xs.length : Int) < 0
  · refine ⟨-1, Ev.congr (f := fun _ => some (-1)) (fun k => ?_) (Ev.now _), by omega, .inl (by omega)⟩
    unfold laws_szDatumS.f
    rw [hw, if_pos c]
  · obtain ⟨r, hr, hr1⟩ := PL.sz_ev xs (fun k left i => laws_szDatumS.l0 k xs left i) (fun left i hi h0 h1 => by
      have hs := (hx xs[i] (List.getElem_mem hi)).2.2.2
      unfold maxLen at hs
      have hw : wrap64 (left - (xs[i].f3.size : Int)) = left - (xs[i].f3.size : Int) := PL.wrap_id (by omega) (by omega)
      refine ⟨left - (xs[i].f3.size : Int), by omega, ?_⟩
      by_cases c : left - (xs[i].f3.size : Int) < 0
      · refine .inl ⟨c, fun k => ?_⟩
        simp only [laws_szDatumS.l0, laws_szDatum.f]
        rw [if_pos (by omega), if_pos (by omega), rdL_at hi, hw, if_pos c]
        rfl
      · refine .inr ⟨by omega, fun k => ?_⟩
        simp only [laws_szDatumS.l0, laws_szDatum.f]
        rw [if_pos (by omega), if_pos (by omega), rdL_at hi, hw, if_neg c, Option.bind_some, if_neg c, PL.wrap_succ hi (by omega)])
      (fun k left => by simp only [laws_szDatumS.l0]; rw [if_neg (by omega)]) xs.length 0 (left - (xs.length : Int)) (by omega) (by omega) (by omega)
    refine ⟨r, Ev.congr (fun k => ?_) hr, by omega, .inr (by omega)⟩
    unfold laws_szDatumS.f
    rw [hw, if_neg c]
    rfl
theorem toDatumS_ev (xs : List S48) (hl : xs.length ≤ 1048576) : Ev (fun k => laws_toDatumS.f k xs) (xs.map convD) := by
  refine Ev.congr (fun k => ?_) (PL.to_ev xs convD z57 (fun k out i => laws_toDatumS.l0 k xs out i) (fun k out i hi ho => by
    simp only [laws_toDatumS.l0, laws_toDatum.f]
    rw [if_pos (by omega), if_pos (by omega), Option.bind_some, if_pos (by omega), rdL_at hi, PL.wrap_succ hi (by omega)]
    rfl) (fun k out ho => by simp only [laws_toDatumS.l0]; rw [if_neg (by omega)]))
  unfold laws_toDatumS.f
  rw [if_pos (by omega), if_pos (by omega)]
  rfl
theorem eqDatumS_ev (xs : List S57) (hl : xs.length ≤ 1048576) : Ev (fun k => laws_eqDatumS.f k xs xs) true := by
  refine Ev.congr (fun k => ?_) (PL.all_ev xs.length (fun k i => laws_eqDatumS.l0 k xs xs i) true (fun k i hi => by
    simp only [laws_eqDatumS.l0, laws_eqDatum.f]
    rw [if_pos (by omega), if_pos (by omega), if_pos (by omega), if_pos trivial, if_pos trivial, if_pos trivial, if_pos trivial, Option.bind_some, if_pos rfl, PL.wrap_succ hi (by omega)]) (fun k => by simp only [laws_eqDatumS.l0]; rw [if_neg (by omega)]) xs.length 0 (by omega))
  unfold laws_eqDatumS.f
  rw [if_pos rfl]
  rfl
theorem one_size (a : Int) : (strOfNums [a]).size = 1 := by simp [strOfNums, ByteArray.size]
theorem mt_loop : ∀ (d : Nat) (x : Int) (s : ByteArray), x ≤ d → 0 ≤ x → x + s.size ≤ 4611686018427387904 → ∃ t, Ev (fun k => laws_markText.l0 k x s) t
  | 0, x, s, h0, h1, h2 => ⟨_, Ev.step (fun k => laws_markText.l0.eq_2 _ _ k) (Ev.ifn (by omega) (Ev.ifp (by omega) (Ev.now _)))⟩
  | d + 1, x, s, h0, h1, h2 => by
    by_cases c : x > 0
    · have hq : Int.tdiv x 10 = x / 10 := Int.tdiv_eq_ediv_of_nonneg h1
      have hs := one_size ((wrap64 (48 + (Int.tmod x 10))) % 256)
      have hsz : (strOfNums [(wrap64 (48 + (Int.tmod x 10))) % 256] ++ s).size = 1 + s.size := by rw [ByteArray.size_append, hs]
      obtain ⟨t, ht⟩ := mt_loop d (x / 10) (strOfNums [(wrap64 (48 + (Int.tmod x 10))) % 256] ++ s) (by omega) (by omega) (by rw [hsz]; omega)
      refine ⟨t, Ev.step (fun k => laws_markText.l0.eq_2 _ _ k) (Ev.ifp c (Ev.bind0 rfl (Ev.ifp (by rw [hs]; omega) ?_)))⟩
      rw [hq, wrap_id (by omega) (by omega)]
      exact ht
    · exact ⟨_, Ev.step (fun k => laws_markText.l0.eq_2 _ _ k) (Ev.ifn c (Ev.ifp (by omega) (Ev.now _)))⟩
theorem markText_some (n : Int) (h : n ≤ 1152921504606846976) : ∃ t, Ev (fun k => laws_markText.f k n) t := by
  by_cases c : n ≤ 0
  · exact ⟨_, Ev.congr (fun k => laws_markText.f.eq_1 k _) (Ev.ifp c (Ev.now _))⟩
  · obtain ⟨t, ht⟩ := mt_loop n.toNat n ⟨#[]⟩ (by omega) (by omega) (by
      have : (⟨#[]⟩ : ByteArray).size = 0 := rfl
      rw [this]; omega)
    exact ⟨t, Ev.congr (fun k => laws_markText.f.eq_1 k _) (Ev.ifn c ht)⟩
open Classical in
noncomputable def mtxt (n : Int) : ByteArray := if h : ∃ t, Ev (fun k => laws_markText.f k n) t then Classical.choose h else ByteArray.empty
theorem mtxt_ev (n : Int) (h : n ≤ 1152921504606846976) : Ev (fun k => laws_markText.f k n) (mtxt n) := by
  have hs := markText_some n h
  unfold mtxt
  rw [dif_pos hs]
  exact Classical.choose_spec hs
def markL {α : Type} (F : Int → α) (m : Nat) : Nat → Int → List α
  | 0, _ => []
  | d + 1, c => F c :: markL F m d (c + m)
theorem markL_length {α : Type} (F : Int → α) (m : Nat) : ∀ d c, (markL F m d c).length = d
  | 0, _ => rfl
  | d + 1, c => by simp [markL, markL_length F m d]
theorem mark_ev {α : Type} (F : Int → α) (m : Nat) (l : Nat → List α → Int → Int → Option (Int × List α))
    (hs : ∀ (xs : List α) (c : Int) (i : Nat), i < xs.length → xs.length ≤ 1048576 → 0 ≤ c → c ≤ 1000000000000 → ∀ r, Ev (fun k => l k (xs.set i (F c)) (c + (m : Int)) ((i + 1 : Nat) : Int)) r → Ev (fun k => l k xs c (i : Int)) r)
    (he : ∀ (k : Nat) (xs : List α) (c : Int), l (k + 1) xs c (xs.length : Int) = some (c, xs)) : ∀ (d i : Nat) (xs : List α) (c : Int), i + d = xs.length → xs.length ≤ 1048576 → 0 ≤ c → c + (m : Int) * (d : Int) ≤ 1000000000000 → Ev (fun k => l k xs c (i : Int)) (c + (m : Int) * (d : Int), xs.take i ++ markL F m d c)
  | 0, i, xs, c, hd, hl, h0, h1 => by
    have e : i = xs.length := by omega
    subst e
    refine Ev.step (fun k => he k xs c) (Ev.leaf ?_)
    simp [markL]
  | d + 1, i, xs, c, hd, hl, h0, h1 => by
    have hi : i < xs.length := by omega
    have hm : (m : Int) * ((d + 1 : Nat) : Int) = m + m * (d : Int) := by rw [Int.natCast_add, Int.mul_add]; simp; omega
    have hmd : (0 : Int) ≤ (m : Int) * (d : Int) := Int.mul_nonneg (by omega) (by omega)
    refine hs xs c i hi hl h0 (by omega) _ (Ev.cast (mark_ev F m l hs he d (i + 1) (xs.set i (F c)) (c + m) (by rw [List.length_set]; omega) (by rw [List.length_set]; exact hl) (by omega) (by omega)) ?_)
    refine Prod.ext (by simp only; omega) ?_
    simp only [markL]
    rw [List.take_succ_eq_append_getElem (by rw [List.length_set]; omega), List.getElem_set_self, List.take_set_of_le (Nat.le_refl i), List.append_assoc]
    rfl
theorem held_ev {α : Type} (F : Int → α) (m : Nat) (l : Nat → List α → Int → Int → Option Int)
    (hs : ∀ (xs : List α) (c : Int) (i : Nat) (hi : i < xs.length), xs.length ≤ 1048576 → 0 ≤ c → c ≤ 1000000000000 → xs[i] = F c → ∀ r, Ev (fun k => l k xs (c + (m : Int)) ((i + 1 : Nat) : Int)) r → Ev (fun k => l k xs c (i : Int)) r)
    (he : ∀ (k : Nat) (xs : List α) (c : Int), l (k + 1) xs c (xs.length : Int) = some c) (xs : List α) : ∀ (d i : Nat) (c : Int), i + d = xs.length → xs.length ≤ 1048576 → 0 ≤ c → c + (m : Int) * (d : Int) ≤ 1000000000000 → xs.drop i = markL F m d c → Ev (fun k => l k xs c (i : Int)) (c + (m : Int) * (d : Int))
  | 0, i, c, hd, hl, h0, h1, hx => by
    have e : i = xs.length := by omega
    subst e
    refine Ev.step (fun k => he k xs c) (Ev.leaf (by simp))
  | d + 1, i, c, hd, hl, h0, h1, hx => by
    have hi : i < xs.length := by omega
    have hm : (m : Int) * ((d + 1 : Nat) : Int) = m + m * (d : Int) := by rw [Int.natCast_add, Int.mul_add]; simp; omega
    have hmd : (0 : Int) ≤ (m : Int) * (d : Int) := Int.mul_nonneg (by omega) (by omega)
    rw [List.drop_eq_getElem_cons hi] at hx
    simp only [markL, List.cons.injEq] at hx
    exact hs xs c i hi hl h0 (by omega) hx.1 _ (Ev.cast (held_ev F m l hs he xs d (i + 1) (c + m) (by omega) hl (by omega) (by omega) hx.2) (by omega))
theorem rdMPair_at {xs : List S55} {i : Nat} (h : i < xs.length) : rd_T55 xs (i : Int) = xs[i] := by simp [rd_T55, h]
theorem rdMPair_set {xs : List S55} {i : Nat} (h : i < xs.length) (v : S55) : rd_T55 (xs.set i v) (i : Int) = v := by simp [rd_T55, h]
noncomputable def markOfPair (c : Int) : S55 := ⟨⟨c, c + 1, mtxt (c + 1 + 1)⟩, ⟨c + 1 + 1 + 1, c + 1 + 1 + 1 + 1, mtxt (c + 1 + 1 + 1 + 1 + 1)⟩⟩
theorem markPairS_ev (xs : List S55) (hl : xs.length ≤ 1048576) (c : Int) (h0 : 0 ≤ c) (h1 : c + 6 * xs.length ≤ 1000000000000) : Ev (fun k => laws_markPairS.f k xs c) (c + 6 * xs.length, markL markOfPair 6 xs.length c) := by
  refine Ev.congr (fun k => laws_markPairS.f.eq_1 k _ _) (Ev.cast (mark_ev markOfPair 6 (fun k xs c i => laws_markPairS.l0 k xs c i) (fun xs c i hi hl h0 h1 r hr => ?_) (fun k xs c => by rw [laws_markPairS.l0.eq_2]; rw [if_neg (by omega)]) xs.length 0 xs c (by omega) hl h0 (by omega)) (by simp))
  refine Ev.step (fun k => laws_markPairS.l0.eq_2 _ _ _ k) (Ev.ifp (by omega) (Ev.ifp (by omega) ?_))
  rw [wrap_id (x := c + 1) (by omega) (by omega), wrap_id (x := c + 1 + 1) (by omega) (by omega), wrap_id (x := c + 1 + 1 + 1) (by omega) (by omega), wrap_id (x := c + 1 + 1 + 1 + 1) (by omega) (by omega), wrap_id (x := c + 1 + 1 + 1 + 1 + 1) (by omega) (by omega), wrap_id (x := c + 1 + 1 + 1 + 1 + 1 + 1) (by omega) (by omega), wrap_succ hi (by omega)]
  refine Ev.bind0 rfl (Ev.bind0 rfl (Ev.bind (mtxt_ev _ (by omega)) (Ev.bind0 rfl (Ev.bind0 rfl (Ev.bind0 rfl (Ev.bind (mtxt_ev _ (by omega)) ?_))))))
  have e : c + 1 + 1 + 1 + 1 + 1 + 1 = c + ((6 : Nat) : Int) := by omega
  rw [e]
  simp only [Int.toNat_natCast, List.set_set, rdMPair_set hi]
  exact hr
theorem heldPairS_ev (n : Nat) (hl : n ≤ 1048576) (c : Int) (h0 : 0 ≤ c) (h1 : c + 6 * n ≤ 1000000000000) : Ev (fun k => laws_heldPairS.f k (markL markOfPair 6 n c) c) (c + 6 * n) := by
  refine Ev.congr (fun k => laws_heldPairS.f.eq_1 k _ _) (Ev.cast (held_ev markOfPair 6 (fun k xs c i => laws_heldPairS.l0 k xs c i) (fun xs c i hi hl h0 h1 hx r hr => ?_) (fun k xs c => by rw [laws_heldPairS.l0.eq_2]; rw [if_neg (by omega)]) (markL markOfPair 6 n c) n 0 c (by rw [markL_length]; omega) (by rw [markL_length]; omega) h0 (by omega) rfl) (by simp))
  have e : c + 1 + 1 + 1 + 1 + 1 + 1 = c + ((6 : Nat) : Int) := by omega
  refine Ev.step (fun k => laws_heldPairS.l0.eq_2 _ _ _ k) (Ev.ifp (by omega) (Ev.ifp (by omega) ?_))
  rw [rdMPair_at hi, hx, wrap_id (x := c + 1) (by omega) (by omega), wrap_id (x := c + 1 + 1) (by omega) (by omega), wrap_id (x := c + 1 + 1 + 1) (by omega) (by omega), wrap_id (x := c + 1 + 1 + 1 + 1) (by omega) (by omega), wrap_id (x := c + 1 + 1 + 1 + 1 + 1) (by omega) (by omega), wrap_id (x := c + 1 + 1 + 1 + 1 + 1 + 1) (by omega) (by omega), wrap_succ hi (by omega)]
  refine Ev.ifp rfl (Ev.ifp rfl (Ev.bind (mtxt_ev _ (by omega)) (Ev.ifp rfl (Ev.ifp rfl (Ev.ifp rfl (Ev.bind (mtxt_ev _ (by omega)) (Ev.ifp rfl ?_)))))))
  rw [e]
  exact hr
theorem rdMD_set {xs : List S57} {i : Nat} (h : i < xs.length) (v : S57) : rd_T57 (xs.set i v) (i : Int) = v := by simp [rd_T57, h]
noncomputable def markD (c : Int) : S57 := ⟨c, c + 1, c + 1 + 1, mtxt (c + 1 + 1 + 1)⟩
theorem markDatumS_ev (xs : List S57) (hl : xs.length ≤ 1048576) (c : Int) (h0 : 0 ≤ c) (h1 : c + 4 * xs.length ≤ 1000000000000) : Ev (fun k => laws_markDatumS.f k xs c) (c + 4 * xs.length, markL markD 4 xs.length c) := by
  refine Ev.congr (fun k => laws_markDatumS.f.eq_1 k _ _) (Ev.cast (mark_ev markD 4 (fun k xs c i => laws_markDatumS.l0 k xs c i) (fun xs c i hi hl h0 h1 r hr => ?_) (fun k xs c => by rw [laws_markDatumS.l0.eq_2]; rw [if_neg (by omega)]) xs.length 0 xs c (by omega) hl h0 (by omega)) (by simp))
  refine Ev.step (fun k => laws_markDatumS.l0.eq_2 _ _ _ k) (Ev.ifp (by omega) (Ev.ifp (by omega) (Ev.bind0 rfl (Ev.bind0 rfl (Ev.bind0 rfl ?_)))))
  rw [wrap_id (x := c + 1) (by omega) (by omega), wrap_id (x := c + 1 + 1) (by omega) (by omega), wrap_id (x := c + 1 + 1 + 1) (by omega) (by omega), wrap_id (x := c + 1 + 1 + 1 + 1) (by omega) (by omega)]
  refine Ev.bind (mtxt_ev _ (by omega)) ?_
  have e : c + 1 + 1 + 1 + 1 = c + ((4 : Nat) : Int) := by omega
  rw [wrap_succ hi (by omega), e]
  simp only [Int.toNat_natCast, List.set_set, rdMD_set hi]
  exact hr
end Go.Proofs.YtolhanigjmhkgabDoor.A
