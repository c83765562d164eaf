/- Proved: what the program's and the reference's functions of this claim come to: the same, part by part. Conditions: those in each head. -/
import Derived.Test.YtolhanigjmhkgacDoorPL
import Derived.Test.YtolhanigjmhkgacDoorA11
import Derived.Test.YtolhanigjmhkgacDoorA4
import Derived.Test.YtolhanigjmhkgacDoorA5
import Derived.Test.YtolhanigjmhkgacDoorA12
import Derived.Test.YtolhanigjmhkgacDoorA13
import Derived.Test.YtolhanigjmhkgacDoorA9
import Derived.Test.YtolhanigjmhkgacDoorA15
import Derived.Test.YtolhanigjmhkgacDoorA8
import Derived.Test.YtolhanigjmhkgacDoorA14
import Derived.Test.YtolhanigjmhkgacDoorA6
import Derived.Test.YtolhanigjmhkgacDoorA7
import Derived.Test.YtolhanigjmhkgacDoorA17
import Derived.Test.YtolhanigjmhkgacDoorA10
import Derived.Test.YtolhanigjmhkgacDoorA16
import Derived.Test.YtolhanigjmhkgacDoorA3
namespace Go.Proofs.YtolhanigjmhkgacDoor.A
open Go.RowKit Go.Proofs.YtolhanigjmhkgacDoorW.PrintWords Go.Proofs.YtolhanigjmhkgacDoorW.PrintLast Go.Proofs.YtolhanigjmhkgacDoor.PL
set_option linter.unusedSimpArgs false
def inB (a lo hi : Int) : Bool := decide (lo ≤ a) && decide (a ≤ hi)
theorem inB_t {a lo hi : Int} (h0 : lo ≤ a) (h1 : a ≤ hi) : inB a lo hi = true := by simp [inB, h0, h1]
theorem inB_iff {a lo hi : Int} : inB a lo hi = true ↔ lo ≤ a ∧ a ≤ hi := by simp [inB]
theorem inB_f {a lo hi : Int} : inB a lo hi = false ↔ ¬ (lo ≤ a ∧ a ≤ hi) := by simp [inB]
theorem in_eq (a lo hi : Int) : impl_in.f a lo hi = some (inB a lo hi) := by
  unfold impl_in.f inB
  by_cases h : lo ≤ a <;> simp [h]
theorem l1In_eq (a lo hi : Int) : spec_l1In.f a lo hi = some (inB a lo hi) := by
  unfold spec_l1In.f inB
  by_cases h : lo ≤ a <;> simp [h]
def numB (n : Int) : Bool := inB n (-1000000000) 1000000000
def numM (n : Int) : Int := if numB n = true then 0 else 3
theorem numM_0 {n : Int} : numM n = 0 ↔ numB n = true := by unfold numM; split <;> simp_all
theorem NumFault_eq (n : Int) : impl_NumFault.f n = some (numM n) := by
  unfold impl_NumFault.f numM numB
  rw [in_eq, Option.bind_some]
  split <;> rfl
theorem l1Num_eq (n : Int) : spec_l1Num.f n = some (numB n) := by
  unfold spec_l1Num.f numB
  rw [l1In_eq, Option.bind_some]
def symC : List UInt8 := [97, 98, 99, 100, 101, 102, 103, 104, 105, 106, 107, 108, 109, 110, 111, 112, 113, 114, 115, 116, 117, 118, 119, 120, 121, 122, 43, 45, 42, 47, 60, 61, 63, 33]
theorem l2Byte_12 : ∀ n : Fin 256, spec_l2Byte.f 12 (n.val : Int) = some (symC.contains (UInt8.ofNat n.val)) := by decide +kernel
theorem l2Byte_ev (c : UInt8) : Ev (fun k => spec_l2Byte.f k (c.toNat : Int)) (symC.contains c) := by
  refine Ev.of (fun k => spec_l2Byte.mono _ k) (k := 12) ?_
  have h := l2Byte_12 ⟨c.toNat, c.toNat_lt⟩
  rw [UInt8.ofNat_toNat] at h
  exact h
def symB (s : ByteArray) : Bool := s.data.toList.all (symC.contains ·) && inB s.size 1 12
theorem runU_all (l : List UInt8) (e : Bool) : ∀ d i, i + d = l.length → runU (fun i => if symC.contains (l[i]?.getD 0) then none else some false) e d i = ((l.drop i).all (symC.contains ·) && e)
  | 0, i, h => by rw [List.drop_of_length_le (by omega)]; rfl
  | d + 1, i, h => by
    have hi : i < l.length := by omega
    rw [List.drop_eq_getElem_cons hi]
    simp only [runU, List.all_cons, List.getElem?_eq_getElem hi, Option.getD_some]
    by_cases c : symC.contains l[i] = true
    · rw [if_pos c, c, Bool.true_and]
      exact runU_all l e d (i + 1) (by omega)
    · rw [if_neg c]
      simp only [Bool.not_eq_true] at c
      rw [c]
      rfl
theorem l2Sym_ev (s : ByteArray) (hs : s.size ≤ 9223372036854775807) : Ev (fun k => spec_l2Sym.f k s) (symB s) := by
  refine Ev.congr (fun k => spec_l2Sym.f.eq_1 k _) ?_
  have h := loopU s.size (fun k i => spec_l2Sym.l0 k s i) (fun i => if symC.contains (s.data.toList[i]?.getD 0) then none else some false) (inB s.size 1 12) (fun i hi => by
    have hb := bt_data s i hi
    have hl : i < s.data.toList.length := by rw [data_length]; exact hi
    have hg := l2Byte_ev s.data.toList[i]
    rw [← hb] at hg
    rw [List.getElem?_eq_getElem hl, Option.getD_some]
    by_cases c : symC.contains s.data.toList[i] = true
    · rw [if_pos c]
      intro r hr
      refine Ev.step (fun k => spec_l2Sym.l0.eq_2 _ _ k) (Ev.ifp (by omega) (Ev.ifp (by omega) (Ev.bind hg (Ev.ifp c ?_))))
      rw [wrap_succ hi hs]
      exact hr
    · rw [if_neg c]
      exact Ev.step (fun k => spec_l2Sym.l0.eq_2 _ _ k) (Ev.ifp (by omega) (Ev.ifp (by omega) (Ev.bind hg (Ev.ifn c (Ev.now _))))))
    (Ev.step (fun k => spec_l2Sym.l0.eq_2 _ _ k) (Ev.ifn (by omega) (Ev.bind0 (l1In_eq _ _ _) (Ev.now _)))) s.size 0 (by omega)
  rw [runU_all _ _ s.size 0 (by rw [data_length]; omega), List.drop_zero] at h
  exact h
def symM (s : ByteArray) : Int := if symB s = true then 0 else 5
theorem dropWhile_nil {α : Type} (p : α → Bool) : ∀ l : List α, (l.dropWhile p = []) ↔ l.all p = true
  | [] => by simp
  | a :: l => by
    simp only [List.dropWhile_cons, List.all_cons]
    cases h : p a
    · simp
    · simpa using dropWhile_nil p l
theorem trimS_nil (l cs : List UInt8) : Lib.trimS l cs = [] ↔ l.all (cs.contains ·) = true := by
  unfold Lib.trimS Lib.trimLeftS
  rw [dropWhile_nil]
  unfold Lib.trimRightS
  constructor
  · intro h
    cases hd : l.reverse.dropWhile (cs.contains ·) with
    | nil =>
      have := (dropWhile_nil (cs.contains ·) l.reverse).mp hd
      simpa using this
    | cons a t =>
      exfalso
      rw [hd] at h
      have ha : cs.contains a = true := by
        have := List.all_eq_true.mp h a (by simp)
        exact this
      have hn : ¬ (cs.contains a = true) := by
        have := List.head?_dropWhile_not (cs.contains ·) l.reverse
        rw [hd] at this
        simpa using this
      exact hn ha
  · intro h
    have : l.reverse.all (cs.contains ·) = true := by simpa using h
    rw [(dropWhile_nil _ _).mpr this]
    rfl
theorem toList_mk (l : List UInt8) : ByteArray.toList ⟨l.toArray⟩ = l := by rw [ByteArray.toList_eq]
theorem SymFault_eq (s : ByteArray) (hs : s.size ≤ 9223372036854775807) : impl_SymFault.f s = some (symM s) := by
  unfold impl_SymFault.f
  rw [in_eq, Option.bind_some]
  unfold symM symB
  by_cases c : inB s.size 1 12 = true
  · rw [if_pos c, c, Bool.and_true]
    have ht : strings_Trim.f s (⟨#[97, 98, 99, 100, 101, 102, 103, 104, 105, 106, 107, 108, 109, 110, 111, 112, 113, 114, 115, 116, 117, 118, 119, 120, 121, 122, 43, 45, 42, 47, 60, 61, 63, 33]⟩ : ByteArray) = some ⟨(Lib.trimS s.data.toList symC).toArray⟩ := by
      unfold strings_Trim.f
      rw [if_pos ⟨hs, by decide, by decide⟩]
      rfl
    rw [ht, Option.bind_some, toList_mk]
    by_cases d : s.data.toList.all (symC.contains ·) = true
    · rw [if_pos ((trimS_nil _ _).mpr d), if_pos d]
    · rw [if_neg (fun h => d ((trimS_nil _ _).mp h)), if_neg d]
  · rw [if_neg c]
    rw [if_neg (by simp [c])]
def kindM (K a1 a2 a3 N : Int) (s : ByteArray) : Int := if K = a1 then numM N else if K = a3 then (if inB N 0 1 = true then 0 else 3) else if K = a2 then symM s else 0
theorem kindFault_eq (K a1 a2 a3 N : Int) (s : ByteArray) (hs : s.size ≤ 9223372036854775807) : impl_kindFault.f K a1 a2 a3 N s = some (kindM K a1 a2 a3 N s) := by
  unfold impl_kindFault.f kindM
  by_cases h1 : K = a1
  · rw [if_pos h1, if_pos h1, NumFault_eq, Option.bind_some]
  · rw [if_neg h1, if_neg h1]
    by_cases h3 : K = a3
    · rw [if_pos h3, if_pos h3, in_eq, Option.bind_some]
      split <;> rfl
    · rw [if_neg h3, if_neg h3]
      by_cases h2 : K = a2
      · rw [if_pos h2, if_pos h2, SymFault_eq s hs, Option.bind_some]
      · rw [if_neg h2, if_neg h2]
theorem isPlaced_eq (K : Int) : impl_isPlaced.f K = some (inB K 5 8) := by
  unfold impl_isPlaced.f
  rw [in_eq, Option.bind_some]
theorem l5Placed_eq (K : Int) : spec_l5Placed.f K = some (inB K 5 8) := by
  unfold spec_l5Placed.f
  rw [l1In_eq, Option.bind_some]
def formB (K N : Int) (s : ByteArray) : Bool := !inB K 1 9 || (N != 0 && !inB K 5 8 && K != 1 && K != 2) || (!s.toList.isEmpty && K != 4)
def rangeB (K N : Int) : Bool := (K == 1 && !numB N) || (K == 2 && !inB N 0 1) || (inB K 5 8 && !inB N 0 99999)
def valueM (K N : Int) (s : ByteArray) : Int := if formB K N s = true then 1 else if rangeB K N = true then 3 else if K = 4 then symM s else 0
theorem rest_eq (K N : Int) (s : ByteArray) : (if inB K 5 8 = true then (if inB N 0 99999 = true then kindM K 1 4 2 N s else 3) else kindM K 1 4 2 N s) = if rangeB K N = true then 3 else if K = 4 then symM s else 0 := by
  have p5 : ∀ z : Int, z < 5 → inB z 5 8 = false := fun z hz => inB_f.mpr (by omega)
  by_cases h1 : K = 1
  · subst h1
    simp only [rangeB, kindM, numM, p5 1 (by omega)]
    cases numB N <;> simp
  · by_cases h2 : K = 2
    · subst h2
      simp only [rangeB, kindM, p5 2 (by omega)]
      cases inB N 0 1 <;> simp
    · have hk : kindM K 1 4 2 N s = if K = 4 then symM s else 0 := by unfold kindM; rw [if_neg h1, if_neg h2]
      rw [hk]
      have hr : rangeB K N = (inB K 5 8 && !inB N 0 99999) := by simp [rangeB, h1, h2]
      rw [hr]
      cases inB K 5 8 <;> cases inB N 0 99999 <;> simp
theorem implValue_ev (K N : Int) (s : ByteArray) (hs : s.size ≤ 9223372036854775807) : Ev (fun k => impl_ValueFault.f k K N s) (valueM K N s) := by
  have j0 : ∀ b : Bool, Ev (fun k => impl_ValueFault.j0 k b K N s) (if b = true then 1 else if rangeB K N = true then 3 else if K = 4 then symM s else 0) := fun b => by
    refine Ev.step (fun k => impl_ValueFault.j0.eq_2 _ _ _ _ k) (Ev.iff (fun h => Ev.leaf (by rw [if_pos h])) (fun h => ?_))
    rw [if_neg h, ← rest_eq]
    refine Ev.bind0 (isPlaced_eq _) (Ev.iff (fun h1 => ?_) (fun h1 => ?_))
    · rw [if_pos h1]
      refine Ev.bind0 (in_eq _ _ _) (Ev.iff (fun h2 => ?_) (fun h2 => ?_))
      · rw [if_pos h2]; exact Ev.bind0 (kindFault_eq _ _ _ _ _ _ hs) (Ev.now _)
      · rw [if_neg h2]; exact Ev.now _
    · rw [if_neg h1]; exact Ev.bind0 (kindFault_eq _ _ _ _ _ _ hs) (Ev.now _)
  have fin : ∀ b : Bool, b = formB K N s → Ev (fun k => impl_ValueFault.j0 k b K N s) (valueM K N s) := fun b hb => by subst hb; exact j0 _
  refine Ev.congr (fun k => impl_ValueFault.f.eq_1 k _ _ _) (Ev.bind0 (in_eq _ _ _) ?_)
  repeat' first
    | refine Ev.iff (fun _ => ?_) (fun _ => ?_)
    | refine Ev.bind0 (isPlaced_eq _) ?_
    | refine fin _ ?_
  all_goals simp_all [formB]
theorem l5Fault_ev (K N : Int) (s : ByteArray) (hs : s.size ≤ 9223372036854775807) : Ev (fun k => spec_l5Fault.f k K N s) (valueM K N s) := by
  have j2 : ∀ b : Bool, Ev (fun k => spec_l5Fault.j2 k b K N s) (if b = true then 3 else if K = 4 then symM s else 0) := fun b => by
    refine Ev.step (fun k => spec_l5Fault.j2.eq_2 _ _ _ _ k) (Ev.iff (fun h => Ev.leaf (by rw [if_pos h])) (fun h => ?_))
    rw [if_neg h]
    refine Ev.iff (fun h => ?_) (fun h => Ev.leaf (by rw [if_neg h]))
    rw [if_pos h]
    exact Ev.bind (l2Sym_ev s hs) (Ev.iff (fun c => Ev.leaf (by unfold symM; rw [if_pos c])) (fun c => Ev.leaf (by unfold symM; rw [if_neg c])))
  have fin2 : ∀ b : Bool, b = rangeB K N → Ev (fun k => spec_l5Fault.j2 k b K N s) (if rangeB K N = true then 3 else if K = 4 then symM s else 0) := fun b hb => by subst hb; exact j2 _
  have j1 : ∀ b : Bool, Ev (fun k => spec_l5Fault.j1 k b K N s) (if b = true then 1 else if rangeB K N = true then 3 else if K = 4 then symM s else 0) := fun b => by
    refine Ev.step (fun k => spec_l5Fault.j1.eq_2 _ _ _ _ k) (Ev.iff (fun h => Ev.leaf (by rw [if_pos h])) (fun h => ?_))
    rw [if_neg h]
    repeat' first
      | refine Ev.iff (fun _ => ?_) (fun _ => ?_)
      | refine Ev.bind0 (l5Placed_eq _) ?_
      | refine Ev.bind0 (l1Num_eq _) ?_
      | refine Ev.bind0 (l1In_eq _ _ _) ?_
      | refine fin2 _ ?_
    all_goals simp_all [rangeB]
  have fin1 : ∀ b : Bool, b = formB K N s → Ev (fun k => spec_l5Fault.j1 k b K N s) (valueM K N s) := fun b hb => by subst hb; exact j1 _
  have j0 : ∀ b : Bool, b = (K == 1 || K == 2 || inB K 5 8) → Ev (fun k => spec_l5Fault.j0 k b K N s) (valueM K N s) := fun b hb => by
    refine Ev.step (fun k => spec_l5Fault.j0.eq_2 _ _ _ _ k) (Ev.bind0 (l1In_eq _ _ _) ?_)
    repeat' first
      | refine Ev.iff (fun _ => ?_) (fun _ => ?_)
      | refine fin1 _ ?_
    all_goals clear j2 fin2 j1 fin1
    all_goals (cases h9 : inB K 1 9 <;> cases h5 : inB K 5 8 <;> (try simp_all [formB, ne_nil_b]) <;> (rcases hb with rfl | rfl <;> simp_all))
  refine Ev.congr (fun k => spec_l5Fault.f.eq_1 k _ _ _) ?_
  repeat' first
    | refine Ev.iff (fun _ => ?_) (fun _ => ?_)
    | refine Ev.bind0 (l5Placed_eq _) ?_
    | refine j0 _ ?_
  all_goals simp_all
theorem rdQ_at {xs : List S34} {i : Nat} (h : i < xs.length) : rd_T34 xs (i : Int) = xs[i] := by simp [rd_T34, h]
def okS (s : ByteArray) : Prop := s.size ≤ 9223372036854775807
def valM (v : S29) : Int := valueM v.f0 v.f1 v.f2
def beyB (v : S29) (n : Int) : Bool := v.f0 == 5 && decide (n ≤ v.f1)
theorem isBeyond_eq (v : S29) (n : Int) : impl_isBeyond.f v.f0 v.f1 v.f2 n = some (beyB v n) := by
  unfold impl_isBeyond.f beyB
  by_cases h : v.f0 = 5 <;> simp [h]
theorem l5In_eq (v : S29) (n : Int) : spec_l5In.f v.f0 v.f1 v.f2 n = some (!beyB v n) := by
  unfold spec_l5In.f beyB
  by_cases h : v.f0 = 5
  · rw [if_pos h]
    by_cases c : v.f1 < n
    · have c' : ¬ n ≤ v.f1 := by omega
      simp [h, c, c']
    · have c' : n ≤ v.f1 := by omega
      simp [h, c, c']
  · simp [h]
def heapStep (p : S34) (i : Nat) : Option Int := if valM p.f0 = 0 then (if valM p.f1 = 0 then (if beyB p.f0 i = true then some 1 else if beyB p.f1 i = true then some 1 else none) else some (valM p.f1)) else some (valM p.f0)
def heapAt (xs : List S34) (i : Nat) : Option Int := if h : i < xs.length then heapStep xs[i] i else none
def heapM (xs : List S34) : Int := if 4000 < xs.length then 2 else runU (heapAt xs) 0 xs.length 0
def okP (xs : List S34) : Prop := ∀ x ∈ xs, okS x.f0.f2 ∧ okS x.f1.f2
theorem implHeap_ev (xs : List S34) (hx : okP xs) : Ev (fun k => impl_HeapFault.f k xs) (heapM xs) := by
  refine Ev.congr (fun k => impl_HeapFault.f.eq_1 k _) (Ev.iff (fun h => Ev.leaf (by unfold heapM; rw [if_pos (by omega)])) (fun h => ?_))
  have hL := loopO xs.length (fun k i => impl_HeapFault.l0 k xs (xs.length : Int) i) (heapAt xs) 0 (fun i hi r hr => by
    have hm := hx xs[i] (List.getElem_mem hi)
    refine Ev.step (fun k => impl_HeapFault.l0.eq_2 _ _ _ k) (Ev.ifp (by omega) (Ev.ifp (by omega) (Ev.ifp (by omega) ?_)))
    rw [rdQ_at hi, wrap_succ hi (by omega)]
    refine Ev.bind (implValue_ev _ _ _ hm.1) (Ev.iff (fun c0 => ?_) (fun c0 => Ev.stop hr (by simp [heapAt, hi, heapStep, valM, c0])))
    refine Ev.bind (implValue_ev _ _ _ hm.2) (Ev.iff (fun c1 => ?_) (fun c1 => Ev.stop hr (by simp [heapAt, hi, heapStep, valM, c0, c1])))
    refine Ev.bind0 (isBeyond_eq xs[i].f0 (i : Int)) (Ev.iff (fun c2 => Ev.stop hr (by simp [heapAt, hi, heapStep, valM, c0, c1, c2])) (fun c2 => ?_))
    refine Ev.bind0 (isBeyond_eq xs[i].f1 (i : Int)) (Ev.iff (fun c3 => Ev.stop hr (by simp [heapAt, hi, heapStep, valM, c0, c1, c2, c3])) (fun c3 => Ev.go hr (by simp [heapAt, hi, heapStep, valM, c0, c1, c2, c3]))))
    (Ev.step (fun k => impl_HeapFault.l0.eq_2 _ _ _ k) (Ev.ifn (by omega) (Ev.now _))) xs.length 0 (by omega)
  unfold heapM
  rw [if_neg (by omega)]
  exact hL
theorem l5Heap_ev (xs : List S34) (hx : okP xs) : Ev (fun k => spec_l5Heap.f k xs) (heapM xs) := by
  refine Ev.congr (fun k => spec_l5Heap.f.eq_1 k _) (Ev.iff (fun h => Ev.leaf (by unfold heapM; rw [if_pos (by omega)])) (fun h => ?_))
  have hL := loopO xs.length (fun k i => spec_l5Heap.l0 k xs i) (heapAt xs) 0 (fun i hi r hr => by
    have hm := hx xs[i] (List.getElem_mem hi)
    refine Ev.step (fun k => spec_l5Heap.l0.eq_2 _ _ k) (Ev.ifp (by omega) (Ev.ifp (by omega) ?_))
    rw [rdQ_at hi, wrap_succ hi (by omega)]
    refine Ev.bind (l5Fault_ev _ _ _ hm.1) (Ev.iff (fun c0 => ?_) (fun c0 => Ev.stop hr (by simp [heapAt, hi, heapStep, valM, c0])))
    refine Ev.bind (l5Fault_ev _ _ _ hm.2) (Ev.iff (fun c1 => ?_) (fun c1 => Ev.stop hr (by simp [heapAt, hi, heapStep, valM, c0, c1])))
    refine Ev.bind0 (l5In_eq xs[i].f0 (i : Int)) (Ev.iff (fun c2 => ?_) (fun c2 => Ev.stop hr (by simp at c2; simp [heapAt, hi, heapStep, valM, c0, c1, c2])))
    refine Ev.bind0 (l5In_eq xs[i].f1 (i : Int)) (Ev.iff (fun c3 => Ev.go hr (by simp at c2 c3; simp [heapAt, hi, heapStep, valM, c0, c1, c2, c3])) (fun c3 => Ev.stop hr (by simp at c2 c3; simp [heapAt, hi, heapStep, valM, c0, c1, c2, c3]))))
    (Ev.step (fun k => spec_l5Heap.l0.eq_2 _ _ k) (Ev.ifn (by omega) (Ev.now _))) xs.length 0 (by omega)
  unfold heapM
  rw [if_neg (by omega)]
  exact hL
def goodV (n : Int) (v : S29) : Prop := valM v = 0 ∧ beyB v n = false
theorem goodV_mono {n m : Int} {v : S29} (h : goodV n v) (hm : n ≤ m) : goodV m v := by
  refine ⟨h.1, ?_⟩
  have h2 := h.2
  unfold beyB at h2 ⊢
  cases hk : (v.f0 == 5)
  · simp
  · rw [hk] at h2
    simp at h2 ⊢
    omega
theorem goodV_pair {n : Int} {v : S29} (h : goodV n v) (hk : v.f0 = 5) : 0 ≤ v.f1 ∧ v.f1 < n := by
  have h1 := h.1
  have h2 := h.2
  unfold valM valueM at h1
  split at h1
  · omega
  · split at h1
    · omega
    · rename_i hr
      constructor
      · cases hz : inB v.f1 0 99999
        · exfalso
          apply hr
          unfold rangeB
          rw [hz, hk]
          simp [inB]
        · exact (inB_iff.mp hz).1
      · unfold beyB at h2
        rw [hk] at h2
        simp at h2
        exact h2
theorem heapAt_ne0 {xs : List S34} (j : Nat) (v : Int) (h : heapAt xs j = some v) : v ≠ 0 := by
  unfold heapAt at h
  split at h
  · unfold heapStep at h
    repeat' split at h
    all_goals first | (cases h; done) | (obtain rfl := Option.some.inj h; first | omega | assumption)
  · cases h
theorem heap_good {xs : List S34} (h : heapM xs = 0) (j : Nat) (hj : j < xs.length) : goodV j xs[j].f0 ∧ goodV j xs[j].f1 := by
  unfold heapM at h
  split at h
  · omega
  · have hn := runU_none (heapAt_ne0 (xs := xs)) xs.length 0 h j (by omega) (by omega)
    unfold heapAt at hn
    rw [dif_pos hj] at hn
    unfold heapStep at hn
    repeat' split at hn
    all_goals first | (cases hn; done) | skip
    rename_i a b c d
    exact ⟨⟨a, by simpa using c⟩, ⟨b, by simpa using d⟩⟩
theorem heap_len {xs : List S34} (h : heapM xs = 0) : xs.length ≤ 4000 := by
  unfold heapM at h
  split at h
  · omega
  · omega
def askedM (xs : List S34) (v : S29) : Int := if heapM xs = 0 then (if valM v = 0 then (if beyB v xs.length = true then 4 else 0) else valM v) else heapM xs
theorem asked_good {xs : List S34} {v : S29} (h : askedM xs v = 0) : heapM xs = 0 ∧ goodV xs.length v := by
  unfold askedM at h
  split at h
  · rename_i a
    split at h
    · rename_i b
      split at h
      · omega
      · rename_i c
        exact ⟨a, b, by simpa using c⟩
    · rename_i b
      exact absurd h b
  · rename_i a
    exact absurd h a
theorem l5Asked_ev (xs : List S34) (v : S29) (hx : okP xs) (hv : okS v.f2) : Ev (fun k => spec_l5Asked.f k xs v.f0 v.f1 v.f2) (askedM xs v) := by
  refine Ev.congr (fun k => spec_l5Asked.f.eq_1 k _ _ _ _) (Ev.bind (l5Heap_ev xs hx) (Ev.iff (fun c => ?_) (fun c => Ev.leaf (by unfold askedM; rw [if_neg c]))))
  refine Ev.bind (l5Fault_ev _ _ _ hv) (Ev.iff (fun c1 => ?_) (fun c1 => Ev.leaf (by unfold askedM; rw [if_pos c, if_neg (show ¬ valM v = 0 from c1)]; rfl)))
  refine Ev.bind0 (l5In_eq v (xs.length : Int)) (Ev.iff (fun c2 => Ev.leaf ?_) (fun c2 => Ev.leaf ?_))
  · unfold askedM; rw [if_pos c, if_pos (show valM v = 0 from c1), if_neg (by simpa using c2)]
  · unfold askedM; rw [if_pos c, if_pos (show valM v = 0 from c1), if_pos (by simpa using c2)]
theorem rdV_at {xs : List S29} {i : Nat} (h : i < xs.length) : rd_T29 xs (i : Int) = xs[i] := by simp [rd_T29, h]
def inStep (n : Int) (v : S29) : Option Int := if valM v = 0 then (if beyB v n = true then some 4 else none) else some (valM v)
def inAt (n : Int) (vs : List S29) (i : Nat) : Option Int := if h : i < vs.length then inStep n vs[i] else none
def inM (n : Int) (vs : List S29) : Int := runU (inAt n vs) 0 vs.length 0
theorem inHeap_ev (xs : List S34) (vs : List S29) (hl : vs.length ≤ 1048576) (hv : ∀ v ∈ vs, okS v.f2) : Ev (fun k => impl_inHeap.f k xs vs) (inM xs.length vs) := by
  refine Ev.congr (fun k => impl_inHeap.f.eq_1 k _ _) ?_
  exact loopO vs.length (fun k i => impl_inHeap.l0 k xs vs (vs.length : Int) i) (inAt xs.length vs) 0 (fun i hi r hr => by
    have hm := hv vs[i] (List.getElem_mem hi)
    refine Ev.step (fun k => impl_inHeap.l0.eq_2 _ _ _ _ k) (Ev.ifp (by omega) (Ev.ifp (by omega) (Ev.ifp (by omega) ?_)))
    rw [rdV_at hi, wrap_succ hi (by omega)]
    refine Ev.bind (implValue_ev _ _ _ hm) (Ev.iff (fun c0 => ?_) (fun c0 => Ev.stop hr (by simp [inAt, hi, inStep, valM, c0])))
    exact Ev.bind0 (isBeyond_eq vs[i] (xs.length : Int)) (Ev.iff (fun c1 => Ev.stop hr (by simp [inAt, hi, inStep, valM, c0, c1])) (fun c1 => Ev.go hr (by simp [inAt, hi, inStep, valM, c0, c1]))))
    (Ev.step (fun k => impl_inHeap.l0.eq_2 _ _ _ _ k) (Ev.ifn (by omega) (Ev.now _))) vs.length 0 (by omega)
theorem implCloneP_eq (xs : List S34) (hl : xs.length ≤ 1048576) : impl_Pair.f xs = some xs := by
  unfold impl_Pair.f
  rw [Option.bind_some, if_pos (by simp; omega), List.nil_append]
theorem l5Copy_eq (xs : List S34) (hl : xs.length ≤ 1048576) : spec_l5Copy.f xs = some xs := by
  unfold spec_l5Copy.f
  rw [Option.bind_some, if_pos (by simp; omega), List.nil_append]
theorem heapCons_eq (xs : List S34) (h t : S29) (hl : xs.length ≤ 1048576) : impl_heap_cons.f xs h.f0 h.f1 h.f2 t.f0 t.f1 t.f2 = some (if 4000 ≤ xs.length then (0, 0, ⟨#[]⟩, false, xs) else (5, (xs.length : Int), ⟨#[]⟩, true, xs ++ [⟨h, t⟩])) := by
  unfold impl_heap_cons.f
  by_cases c : 4000 ≤ xs.length
  · rw [if_pos (by omega), if_pos c]
  · rw [if_neg (by omega), if_neg c, if_pos (by omega), Option.bind_some]
    have e : wrap64 (((xs ++ [(⟨(⟨h.f0, h.f1, h.f2⟩ : S29), (⟨t.f0, t.f1, t.f2⟩ : S29)⟩ : S34)]).length : Int) - 1) = (xs.length : Int) := by
      rw [List.length_append, List.length_singleton]
      unfold wrap64
      omega
    rw [e]
def ofA (v : Int) : Int × Int := if numB v = true then (0, v) else (7, 0)
theorem l1OfA_eq (v : Int) : spec_l1Of.f v = some (ofA v) := by
  unfold spec_l1Of.f ofA
  rw [l1Num_eq, Option.bind_some]
  split <;> rfl
theorem l1TwoA_eq (a b : Int) : spec_l1Two.f a b = some (numB a && numB b) := by
  unfold spec_l1Two.f
  rw [l1Num_eq, Option.bind_some, l1Num_eq]
  cases numB a <;> rfl
def calcM (a b : Int) (v : Int × Bool) : Int × Int := if (numB a && numB b) = true then (if v.2 = true then ofA v.1 else (7, 0)) else (3, 0)
theorem calc_ev {F : Nat → Int → Int → Option (Int × Int)} {J : Nat → Int → Int → Bool → Option (Int × Int)} {op : Int → Int → Option (Int × Bool)}
    (hF : ∀ k a b, F k a b = (impl_NumFault.f a).bind fun t => if t = 0 then ((impl_NumFault.f b).bind fun u => J k a b (u != 0)) else J k a b true)
    (hJ : ∀ k a b z, J (k + 1) a b z = if z = true then some (3, 0) else (op a b).bind fun p => if p.2 = true then ((impl_NumFault.f p.1).bind fun t => if t = 0 then some (0, p.1) else some (7, 0)) else some (7, 0))
    (a b : Int) (v : Int × Bool) (hv : op a b = some v) : Ev (fun k => F k a b) (calcM a b v) := by
  have j : ∀ z : Bool, z = !(numB a && numB b) → Ev (fun k => J k a b z) (calcM a b v) := fun z hz => by
    refine Ev.step (fun k => hJ k a b z) (Ev.iff (fun c => Ev.leaf ?_) (fun c => ?_))
    · rw [c] at hz
      unfold calcM
      rw [if_neg]
      intro z
      rw [z] at hz
      cases hz
    · have c' : (numB a && numB b) = true := by
        cases h : (numB a && numB b)
        · rw [h] at hz; exact absurd hz c
        · rfl
      refine Ev.bind0 hv (Ev.iff (fun d => Ev.bind0 (NumFault_eq _) (Ev.iff (fun e => Ev.leaf ?_) (fun e => Ev.leaf ?_))) (fun d => Ev.leaf ?_))
      · unfold calcM ofA; rw [if_pos c', if_pos d, if_pos (numM_0.mp e)]
      · unfold calcM ofA; rw [if_pos c', if_pos d, if_neg (fun z => e (numM_0.mpr z))]
      · unfold calcM; rw [if_pos c', if_neg d]
  refine Ev.congr (fun k => hF k a b) (Ev.bind0 (NumFault_eq a) (Ev.iff (fun c => Ev.bind0 (NumFault_eq b) (j _ ?_)) (fun c => j _ ?_)))
  · rw [numM_0.mp c, Bool.true_and]
    unfold numM
    cases numB b <;> rfl
  · have : numB a = false := by
      cases h : numB a
      · rfl
      · exact absurd (numM_0.mpr h) c
    rw [this]; rfl
def quoV (a b : Int) : Int := if Int.tmod a b = 0 then wrap64 (Int.tdiv a b) else if ((decide (a < 0)) != (decide (b < 0))) = true then wrap64 (wrap64 (Int.tdiv a b) - 1) else wrap64 (Int.tdiv a b)
def opV (p a b : Int) : Int × Bool :=
  if p = 0 then (wrap64 (a + b), true) else if p = 1 then (wrap64 (a - b), true) else if p = 2 then (wrap64 (a * b), true) else
  if p = 3 then (if b = 0 then (0, false) else (quoV a b, true)) else (wrap64 (a - wrap64 (b * (if b = 0 then 0 else quoV a b))), !decide (b = 0))
theorem quotA_eq (a b : Int) : impl_quotient.f a b = some (if b = 0 then (0, false) else (quoV a b, true)) := by
  unfold impl_quotient.f quoV
  by_cases c : b = 0
  · rw [if_pos c, if_pos c]
  · rw [if_neg c, if_neg c]
    split
    · rfl
    · split <;> rfl
theorem l1QuoA_eq (a b : Int) (c : b ≠ 0) : spec_l1Quo.f a b = some (quoV a b) := by
  unfold spec_l1Quo.f quoV
  rw [if_neg c]
  split
  · rfl
  · split <;> rfl
theorem remA_eq (a b : Int) : impl_RemNum_1.f a b = some (wrap64 (a - wrap64 (b * (if b = 0 then 0 else quoV a b))), !decide (b = 0)) := by
  unfold impl_RemNum_1.f
  rw [quotA_eq, Option.bind_some]
  by_cases c : b = 0
  · simp [c]
  · simp [c]
theorem implOp_ev (a b : Int) : Ev (fun k => impl_AddNum.f k a b) (calcM a b (opV 0 a b)) ∧ Ev (fun k => impl_SubNum.f k a b) (calcM a b (opV 1 a b)) ∧ Ev (fun k => impl_MulNum.f k a b) (calcM a b (opV 2 a b)) ∧ Ev (fun k => impl_QuoNum.f k a b) (calcM a b (opV 3 a b)) ∧ Ev (fun k => impl_RemNum.f k a b) (calcM a b (opV 4 a b)) := by
  refine ⟨Ev.congr (fun k => impl_AddNum.f.eq_1 k _ _) (Ev.bind (calc_ev (F := impl_calculated__impl_AddNum_1.f) impl_calculated__impl_AddNum_1.f.eq_1 (fun k a b z => impl_calculated__impl_AddNum_1.j0.eq_2 a b z k) a b _ rfl) (Ev.now _)),
    Ev.congr (fun k => impl_SubNum.f.eq_1 k _ _) (Ev.bind (calc_ev (F := impl_calculated__impl_SubNum_1.f) impl_calculated__impl_SubNum_1.f.eq_1 (fun k a b z => impl_calculated__impl_SubNum_1.j0.eq_2 a b z k) a b _ rfl) (Ev.now _)),
    Ev.congr (fun k => impl_MulNum.f.eq_1 k _ _) (Ev.bind (calc_ev (F := impl_calculated__impl_MulNum_1.f) impl_calculated__impl_MulNum_1.f.eq_1 (fun k a b z => impl_calculated__impl_MulNum_1.j0.eq_2 a b z k) a b _ rfl) (Ev.now _)),
    Ev.congr (fun k => impl_QuoNum.f.eq_1 k _ _) (Ev.bind (calc_ev (F := impl_calculated__impl_quotient.f) impl_calculated__impl_quotient.f.eq_1 (fun k a b z => impl_calculated__impl_quotient.j0.eq_2 a b z k) a b _ (quotA_eq a b)) (Ev.now _)),
    Ev.congr (fun k => impl_RemNum.f.eq_1 k _ _) (Ev.bind (calc_ev (F := impl_calculated__impl_RemNum_1.f) impl_calculated__impl_RemNum_1.f.eq_1 (fun k a b z => impl_calculated__impl_RemNum_1.j0.eq_2 a b z k) a b _ (remA_eq a b)) (Ev.now _))⟩
theorem specOp_eq (a b : Int) : spec_AddNum.f a b = some (calcM a b (opV 0 a b)) ∧ spec_SubNum.f a b = some (calcM a b (opV 1 a b)) ∧ spec_MulNum.f a b = some (calcM a b (opV 2 a b)) ∧ spec_QuoNum.f a b = some (calcM a b (opV 3 a b)) ∧ spec_RemNum.f a b = some (calcM a b (opV 4 a b)) := by
  refine ⟨?_, ?_, ?_, ?_, ?_⟩
  · unfold spec_AddNum.f calcM
    rw [l1TwoA_eq, Option.bind_some, l1OfA_eq, Option.bind_some]; split <;> rfl
  · unfold spec_SubNum.f calcM
    rw [l1TwoA_eq, Option.bind_some, l1OfA_eq, Option.bind_some]; split <;> rfl
  · unfold spec_MulNum.f calcM
    rw [l1TwoA_eq, Option.bind_some, l1OfA_eq, Option.bind_some]; split <;> rfl
  · unfold spec_QuoNum.f calcM opV
    rw [l1TwoA_eq, Option.bind_some]
    by_cases c : b = 0
    · subst c
      simp
      split <;> rfl
    · rw [if_neg c, l1QuoA_eq a b c, Option.bind_some, l1OfA_eq, Option.bind_some]
      simp [c]
      split <;> rfl
  · unfold spec_RemNum.f calcM opV
    rw [l1TwoA_eq, Option.bind_some]
    by_cases c : b = 0
    · subst c
      simp
      split <;> rfl
    · rw [if_neg c, l1QuoA_eq a b c, Option.bind_some, l1OfA_eq, Option.bind_some]
      simp [c]
      split <;> rfl
abbrev Out : Type := Int × Int × ByteArray × Int × List S34
def boolM (b : Bool) : Int × Int × ByteArray := if b = true then (2, 1, ⟨#[]⟩) else (2, 0, ⟨#[]⟩)
theorem boolValue_eq (b : Bool) : impl_boolValue.f b = some (boolM b) := by cases b <;> rfl
theorem l6Bool_eq (b : Bool) : spec_l6Bool.f b = some (boolM b) := by cases b <;> rfl
def countM (p : Int) (u v : S29) : Int × Int × ByteArray × Int :=
  if u.f0 = 1 ∧ v.f0 = 1 then (if p = 5 then ((boolM (decide (u.f1 < v.f1))).1, (boolM (decide (u.f1 < v.f1))).2.1, (boolM (decide (u.f1 < v.f1))).2.2, 0)
    else if 0 ≤ p ∧ p ≤ 4 then (if (calcM u.f1 v.f1 (opV p u.f1 v.f1)).1 = 0 then (1, (calcM u.f1 v.f1 (opV p u.f1 v.f1)).2, ⟨#[]⟩, 0) else (0, 0, ⟨#[]⟩, (calcM u.f1 v.f1 (opV p u.f1 v.f1)).1))
    else ((boolM (u.f1 == v.f1)).1, (boolM (u.f1 == v.f1)).2.1, (boolM (u.f1 == v.f1)).2.2, 0)) else (0, 0, ⟨#[]⟩, 6)
def countS (p : Int) (u v : S29) : Int × Int × ByteArray × Int :=
  if u.f0 = 1 ∧ v.f0 = 1 ∧ 0 ≤ p ∧ p ≤ 4 then (1, (calcM u.f1 v.f1 (opV p u.f1 v.f1)).2, ⟨#[]⟩, (calcM u.f1 v.f1 (opV p u.f1 v.f1)).1) else countM p u v
theorem implCounted_ev (p : Int) (u v : S29) : Ev (fun k => impl_counted.f k p u.f0 u.f1 u.f2 v.f0 v.f1 v.f2) (countM p u v) := by
  obtain ⟨o0, o1, o2, o3, o4⟩ := implOp_ev u.f1 v.f1
  have bad : ¬ (u.f0 = 1 ∧ v.f0 = 1) → Ev (fun k => impl_counted.j0 k p true u.f0 u.f1 u.f2 v.f0 v.f1 v.f2) (countM p u v) := fun h => Ev.step (fun k => impl_counted.j0.eq_2 _ _ _ _ _ _ _ _ k) (Ev.ifp rfl (Ev.leaf (by unfold countM; rw [if_neg h])))
  refine Ev.congr (fun k => impl_counted.f.eq_1 k _ _ _ _ _ _ _) (Ev.iff (fun c => ?_) (fun c => bad (fun h => c h.1)))
  by_cases d : v.f0 = 1
  case neg => rw [bne_iff_ne.mpr d]; exact bad (fun h => d h.2)
  rw [bne_eq_false_iff_eq.mpr d]
  have e : countM p u v = (if p = 5 then ((boolM (decide (u.f1 < v.f1))).1, (boolM (decide (u.f1 < v.f1))).2.1, (boolM (decide (u.f1 < v.f1))).2.2, 0) else if 0 ≤ p ∧ p ≤ 4 then (if (calcM u.f1 v.f1 (opV p u.f1 v.f1)).1 = 0 then (1, (calcM u.f1 v.f1 (opV p u.f1 v.f1)).2, ⟨#[]⟩, 0) else (0, 0, ⟨#[]⟩, (calcM u.f1 v.f1 (opV p u.f1 v.f1)).1)) else ((boolM (u.f1 == v.f1)).1, (boolM (u.f1 == v.f1)).2.1, (boolM (u.f1 == v.f1)).2.2, 0)) := by unfold countM; rw [if_pos ⟨c, d⟩]
  have out : ∀ r : Int × Int, Ev (fun k => impl_counted.j1 k r.1 r.2) (if r.1 = 0 then (1, r.2, ⟨#[]⟩, 0) else (0, 0, ⟨#[]⟩, r.1)) := fun r => Ev.step (fun k => impl_counted.j1.eq_2 _ _ k) (Ev.iff (fun c => Ev.leaf (by rw [if_pos c])) (fun c => Ev.leaf (by rw [if_neg c])))
  rw [e]
  refine Ev.step (fun k => impl_counted.j0.eq_2 _ _ _ _ _ _ _ _ k) (Ev.ifn (by simp) (Ev.iff (fun q => ?_) (fun q0 => Ev.iff (fun q => ?_) (fun q1 => Ev.iff (fun q => ?_) (fun q2 => Ev.iff (fun q => ?_) (fun q3 => Ev.iff (fun q => ?_) (fun q4 => Ev.iff (fun q => ?_) (fun q5 => ?_))))))))
  · subst q; rw [if_neg (by decide), if_pos (by decide)]; exact Ev.bind o0 (out _)
  · subst q; rw [if_neg (by decide), if_pos (by decide)]; exact Ev.bind o1 (out _)
  · subst q; rw [if_neg (by decide), if_pos (by decide)]; exact Ev.bind o2 (out _)
  · subst q; rw [if_neg (by decide), if_pos (by decide)]; exact Ev.bind o3 (out _)
  · subst q; rw [if_neg (by decide), if_pos (by decide)]; exact Ev.bind o4 (out _)
  · rw [if_pos q]; exact Ev.bind0 (boolValue_eq _) (Ev.now _)
  · rw [if_neg q5, if_neg (by omega)]; exact Ev.bind0 (boolValue_eq _) (Ev.now _)
theorem specNum_ev (p : Int) (u v : S29) : Ev (fun k => spec_l6Num.f k p u.f0 u.f1 u.f2 v.f0 v.f1 v.f2) (countS p u v) := by
  obtain ⟨o0, o1, o2, o3, o4⟩ := specOp_eq u.f1 v.f1
  have bad : ¬ (u.f0 = 1 ∧ v.f0 = 1) → Ev (fun k => spec_l6Num.j0 k p true u.f0 u.f1 u.f2 v.f0 v.f1 v.f2) (countS p u v) := fun h => Ev.step (fun k => spec_l6Num.j0.eq_2 _ _ _ _ _ _ _ _ k) (Ev.ifp rfl (Ev.leaf (by unfold countS countM; rw [if_neg (fun z => h ⟨z.1, z.2.1⟩), if_neg h])))
  refine Ev.congr (fun k => spec_l6Num.f.eq_1 k _ _ _ _ _ _ _) (Ev.iff (fun c => ?_) (fun c => bad (fun h => c h.1)))
  by_cases d : v.f0 = 1
  case neg => rw [bne_iff_ne.mpr d]; exact bad (fun h => d h.2)
  rw [bne_eq_false_iff_eq.mpr d]
  have e : 0 ≤ p ∧ p ≤ 4 → countS p u v = (1, (calcM u.f1 v.f1 (opV p u.f1 v.f1)).2, ⟨#[]⟩, (calcM u.f1 v.f1 (opV p u.f1 v.f1)).1) := fun h => by unfold countS; rw [if_pos ⟨c, d, h⟩]
  have out : ∀ r : Int × Int, Ev (fun k => spec_l6Num.j1 k r.1 r.2) (1, r.2, ⟨#[]⟩, r.1) := fun r => Ev.step (fun k => spec_l6Num.j1.eq_2 _ _ k) (Ev.now _)
  refine Ev.step (fun k => spec_l6Num.j0.eq_2 _ _ _ _ _ _ _ _ k) (Ev.ifn (by simp) (Ev.iff (fun q => ?_) (fun q0 => Ev.iff (fun q => ?_) (fun q1 => Ev.iff (fun q => ?_) (fun q2 => Ev.iff (fun q => ?_) (fun q3 => Ev.iff (fun q => ?_) (fun q4 => Ev.iff (fun q => ?_) (fun q5 => ?_))))))))
  · subst q; rw [e (by decide)]; exact Ev.bind0 o0 (out _)
  · subst q; rw [e (by decide)]; exact Ev.bind0 o1 (out _)
  · subst q; rw [e (by decide)]; exact Ev.bind0 o2 (out _)
  · subst q; rw [e (by decide)]; exact Ev.bind0 o3 (out _)
  · subst q; rw [e (by decide)]; exact Ev.bind0 o4 (out _)
  · refine Ev.bind0 (l6Bool_eq _) (Ev.leaf ?_)
    unfold countS countM
    rw [if_neg (by omega), if_pos ⟨c, d⟩, if_pos q]
  · refine Ev.bind0 (l6Bool_eq _) (Ev.leaf ?_)
    unfold countS countM
    rw [if_neg (by omega), if_pos ⟨c, d⟩, if_neg q5, if_neg (by omega)]
def putL : List S29 → Int → Int → ByteArray → List S34 → Int × Int × ByteArray × List S34
  | [], K, M, s, xs => (K, M, s, xs)
  | v :: r, K, M, s, xs => putL r 5 xs.length ⟨#[]⟩ (xs ++ [⟨v, ⟨K, M, s⟩⟩])
theorem listGo_eq : ∀ (r : List S29) (K M : Int) (s : ByteArray) (xs : List S34), xs.length + r.length ≤ 4000 → impl_heap_list.go r K M s xs = some (putL r K M s xs)
  | [], K, M, s, xs, _ => rfl
  | v :: r, K, M, s, xs, h => by
    simp only [List.length_cons] at h
    have e := heapCons_eq xs v ⟨K, M, s⟩ (by omega)
    rw [if_neg (by omega)] at e
    rw [impl_heap_list.go, e, Option.bind_some]
    exact listGo_eq r _ _ _ _ (by simp; omega)
theorem heapList_eq (xs : List S34) (vs : List S29) (hl : vs.length ≤ 3) (hx : xs.length ≤ 4000) : impl_heap_list.f xs vs = some (if 4000 < xs.length + vs.length then (0, 0, ⟨#[]⟩, false, xs) else ((putL vs.reverse 3 0 ⟨#[]⟩ xs).1, (putL vs.reverse 3 0 ⟨#[]⟩ xs).2.1, (putL vs.reverse 3 0 ⟨#[]⟩ xs).2.2.1, true, (putL vs.reverse 3 0 ⟨#[]⟩ xs).2.2.2)) := by
  unfold impl_heap_list.f
  rw [if_pos (by omega), wrap_id (by omega) (by omega)]
  by_cases c : 4000 < xs.length + vs.length
  · rw [if_pos (by omega), if_pos c]
  · rw [if_neg (by omega), if_neg c, listGo_eq _ _ _ _ _ (by simp; omega), Option.bind_some]
theorem specList_ev (vs : List S29) : ∀ (n : Nat) (K M : Int) (s : ByteArray) (xs : List S34), n ≤ vs.length → n ≤ 3 → xs.length + n ≤ 4000 →
    Ev (fun k => spec_l6List.l0 k vs ((n : Int) - 1) xs K M s) ((putL (vs.take n).reverse K M s xs).1, (putL (vs.take n).reverse K M s xs).2.1, (putL (vs.take n).reverse K M s xs).2.2.1, 0, (putL (vs.take n).reverse K M s xs).2.2.2)
  | 0, K, M, s, xs, _, _, _ => Ev.step (fun k => spec_l6List.l0.eq_2 _ _ _ _ _ _ k) (Ev.ifn (by omega) (Ev.leaf (by simp [putL])))
  | n + 1, K, M, s, xs, h, h3, hx => by
    have hn : n < vs.length := by omega
    have e1 : ((n + 1 : Nat) : Int) - 1 = (n : Int) := by omega
    have e2 : (vs.take (n + 1)).reverse = vs[n] :: (vs.take n).reverse := by rw [List.take_succ_eq_append_getElem hn, List.reverse_append]; rfl
    rw [e1, e2]
    refine Ev.step (fun k => spec_l6List.l0.eq_2 _ _ _ _ _ _ k) (Ev.ifp (by omega) (Ev.ifp (by omega) (Ev.ifp (by omega) (Ev.ifp (by omega) (Ev.bind0 rfl ?_)))))
    rw [rdV_at hn, wrap_id (x := (n : Int) - 1) (by omega) (by omega), List.length_append, List.length_singleton, wrap_id (by omega) (by omega), show ((xs.length + 1 : Nat) : Int) - 1 = (xs.length : Int) from by omega]
    exact specList_ev vs n 5 xs.length ⟨#[]⟩ _ (by omega) (by omega) (by simp; omega)
def takes (p : Int) : Int × Int := if p ≤ 7 ∨ p = 12 then (2, 2) else if p = 14 then (0, 3) else (1, 1)
theorem argsFor_ev (p : Int) : Ev (fun k => impl_argsFor.f k p) (takes p) := by
  have j : ∀ z : Bool, (z = true ↔ p ≤ 7 ∨ p = 12) → Ev (fun k => impl_argsFor.j0 k p z) (takes p) := fun z hz => by
    refine Ev.step (fun k => impl_argsFor.j0.eq_2 _ _ k) (Ev.iff (fun c => Ev.leaf ?_) (fun c => Ev.iff (fun d => Ev.leaf ?_) (fun d => Ev.leaf ?_)))
    · unfold takes; rw [if_pos (hz.mp c)]
    · unfold takes; rw [if_neg (fun h => c (hz.mpr h)), if_pos d]
    · unfold takes; rw [if_neg (fun h => c (hz.mpr h)), if_neg d]
  exact Ev.congr (fun k => impl_argsFor.f.eq_1 k _) (Ev.iff (fun c => j _ (by simp [c])) (fun c => j _ (by simp; omega)))
theorem l6Takes_ev (p : Int) : Ev (fun k => spec_l6Takes.f k p) (takes p) := by
  have j : ∀ z : Bool, (z = true ↔ p ≤ 7 ∨ p = 12) → Ev (fun k => spec_l6Takes.j0 k p z) (takes p) := fun z hz => by
    refine Ev.step (fun k => spec_l6Takes.j0.eq_2 _ _ k) (Ev.iff (fun c => Ev.leaf ?_) (fun c => Ev.iff (fun d => Ev.leaf ?_) (fun d => Ev.leaf ?_)))
    · unfold takes; rw [if_pos (hz.mp c)]
    · unfold takes; rw [if_neg (fun h => c (hz.mpr h)), if_pos d]
    · unfold takes; rw [if_neg (fun h => c (hz.mpr h)), if_neg d]
  exact Ev.congr (fun k => spec_l6Takes.f.eq_1 k _) (Ev.iff (fun c => j _ (by simp [c])) (fun c => j _ (by simp; omega)))
theorem takes_len {p n : Int} (h0 : (takes p).1 ≤ n) (h1 : n ≤ (takes p).2) : (p ≤ 7 ∨ p = 12 → n = 2) ∧ (p = 14 → 0 ≤ n ∧ n ≤ 3) ∧ (¬ (p ≤ 7 ∨ p = 12) → p ≠ 14 → n = 1) := by
  unfold takes at h0 h1
  refine ⟨fun c => ?_, fun c => ?_, fun c d => ?_⟩
  · rw [if_pos c] at h0 h1; simp at h0 h1; omega
  · rw [if_neg (by omega), if_pos c] at h0 h1; exact ⟨h0, h1⟩
  · rw [if_neg c, if_neg d] at h0 h1; simp at h0 h1; omega
def testB (p : Int) (vs : List S29) : Bool := if p = 10 then (rd_T29 vs 0).f0 == 3 else if p = 11 then (rd_T29 vs 0).f0 == 5 else if p = 12 then ((rd_T29 vs 0).f0 == (rd_T29 vs 1).f0 && ((rd_T29 vs 0).f1 == (rd_T29 vs 1).f1 && ((rd_T29 vs 0).f2.toList == (rd_T29 vs 1).f2.toList))) else !(if (rd_T29 vs 0).f0 = 2 then (rd_T29 vs 0).f1 != 0 else true)
def doR (xs : List S34) (p : Int) (vs : List S29) : Out :=
  if p ≤ 6 then ((countM p (rd_T29 vs 0) (rd_T29 vs 1)).1, (countM p (rd_T29 vs 0) (rd_T29 vs 1)).2.1, (countM p (rd_T29 vs 0) (rd_T29 vs 1)).2.2.1, (countM p (rd_T29 vs 0) (rd_T29 vs 1)).2.2.2, xs)
  else if p = 14 then (if 4000 < xs.length + vs.length then (0, 0, ⟨#[]⟩, 2, xs) else ((putL vs.reverse 3 0 ⟨#[]⟩ xs).1, (putL vs.reverse 3 0 ⟨#[]⟩ xs).2.1, (putL vs.reverse 3 0 ⟨#[]⟩ xs).2.2.1, 0, (putL vs.reverse 3 0 ⟨#[]⟩ xs).2.2.2))
  else if p = 7 then (if 4000 ≤ xs.length then (0, 0, ⟨#[]⟩, 2, xs) else (5, (xs.length : Int), ⟨#[]⟩, 0, xs ++ [⟨rd_T29 vs 0, rd_T29 vs 1⟩]))
  else if p = 8 then (if (rd_T29 vs 0).f0 = 5 then ((rd_T34 xs (rd_T29 vs 0).f1).f0.f0, (rd_T34 xs (rd_T29 vs 0).f1).f0.f1, (rd_T34 xs (rd_T29 vs 0).f1).f0.f2, 0, xs) else (0, 0, ⟨#[]⟩, 6, xs))
  else if p = 9 then (if (rd_T29 vs 0).f0 = 5 then ((rd_T34 xs (rd_T29 vs 0).f1).f1.f0, (rd_T34 xs (rd_T29 vs 0).f1).f1.f1, (rd_T34 xs (rd_T29 vs 0).f1).f1.f2, 0, xs) else (0, 0, ⟨#[]⟩, 6, xs))
  else ((boolM (testB p vs)).1, (boolM (testB p vs)).2.1, (boolM (testB p vs)).2.2, 0, xs)
def doM (xs : List S34) (p : Int) (vs : List S29) : Out := if (vs.length : Int) < (takes p).1 ∨ (takes p).2 < (vs.length : Int) then (0, 0, ⟨#[]⟩, 8, xs) else doR xs p vs
def doS (xs : List S34) (p : Int) (vs : List S29) : Out :=
  if (vs.length : Int) < (takes p).1 ∨ (takes p).2 < (vs.length : Int) then (0, 0, ⟨#[]⟩, 8, xs)
  else if p ≤ 6 then ((countS p (rd_T29 vs 0) (rd_T29 vs 1)).1, (countS p (rd_T29 vs 0) (rd_T29 vs 1)).2.1, (countS p (rd_T29 vs 0) (rd_T29 vs 1)).2.2.1, (countS p (rd_T29 vs 0) (rd_T29 vs 1)).2.2.2, xs)
  else if p = 14 ∧ 4000 < xs.length + vs.length then (3, 0, ⟨#[]⟩, 2, xs) else doR xs p vs
def fin (t : Out) : Int × List S34 × Int × Int × ByteArray := if t.2.2.2.1 = 0 then (0, t.2.2.2.2, t.1, t.2.1, t.2.2.1) else (t.2.2.2.1, [], 0, 0, ⟨#[]⟩)
theorem fin_do (xs : List S34) (p : Int) (vs : List S29) : fin (doS xs p vs) = fin (doM xs p vs) := by
  unfold doS doM
  by_cases a : (vs.length : Int) < (takes p).1 ∨ (takes p).2 < (vs.length : Int)
  · rw [if_pos a, if_pos a]
  rw [if_neg a, if_neg a]
  by_cases b : p ≤ 6
  · rw [if_pos b]
    unfold doR
    rw [if_pos b]
    unfold countS
    by_cases c : (rd_T29 vs 0).f0 = 1 ∧ (rd_T29 vs 1).f0 = 1 ∧ 0 ≤ p ∧ p ≤ 4
    · rw [if_pos c]
      unfold countM
      rw [if_pos ⟨c.1, c.2.1⟩, if_neg (by omega), if_pos c.2.2]
      unfold fin
      by_cases d : (calcM (rd_T29 vs 0).f1 (rd_T29 vs 1).f1 (opV p (rd_T29 vs 0).f1 (rd_T29 vs 1).f1)).1 = 0
      · simp [d]
      · simp [d]
    · rw [if_neg c]
  · rw [if_neg b]
    by_cases c : p = 14 ∧ 4000 < xs.length + vs.length
    · rw [if_pos c]
      unfold doR
      rw [if_neg b, if_pos c.1, if_pos c.2]
      rfl
    · rw [if_neg c]
theorem rdV_good {n : Int} {vs : List S29} (hg : ∀ v ∈ vs, goodV n v) (h : 0 < (vs.length : Int)) (c : (rd_T29 vs 0).f0 = 5) : 0 ≤ (rd_T29 vs 0).f1 ∧ (rd_T29 vs 0).f1 < n := by
  have h' : 0 < vs.length := by omega
  have e := rdV_at h'
  have e' : rd_T29 vs 0 = vs[0] := e
  rw [e'] at c ⊢
  exact goodV_pair (hg _ (List.getElem_mem h')) c
theorem implDo_ev (xs : List S34) (p : Int) (vs : List S29) (hl : vs.length ≤ 3) (hx : xs.length ≤ 4000) (hp : 0 ≤ p ∧ p ≤ 14) (hg : ∀ v ∈ vs, goodV xs.length v) : Ev (fun k => impl_heap_apply.f k xs p vs) (doM xs p vs) := by
  have bad : (vs.length : Int) < (takes p).1 ∨ (takes p).2 < (vs.length : Int) → Ev (fun k => impl_heap_apply.j0 k p vs true xs) (doM xs p vs) := fun h => Ev.step (fun k => impl_heap_apply.j0.eq_2 _ _ _ _ k) (Ev.ifp rfl (Ev.leaf (by unfold doM; rw [if_pos h])))
  refine Ev.congr (fun k => impl_heap_apply.f.eq_1 k _ _ _) (Ev.bind (argsFor_ev p) (Ev.iff (fun c => bad (.inl c)) (fun c => ?_)))
  by_cases d : (takes p).2 < (vs.length : Int)
  · rw [decide_eq_true d]; exact bad (.inr d)
  rw [decide_eq_false d]
  obtain ⟨t2, t14, t1⟩ := takes_len (p := p) (n := vs.length) (by omega) (by omega)
  have e : doM xs p vs = doR xs p vs := by unfold doM; rw [if_neg (by omega)]
  rw [e]
  have rest : 7 < p → p ≠ 14 → ∀ z : Bool, (z = true ↔ (p = 8 ∨ p = 9)) → Ev (fun k => impl_heap_apply.j1 k p vs p z xs (rd_T29 vs 0).f0 (rd_T29 vs 0).f1 (rd_T29 vs 0).f2) (doR xs p vs) := fun h7 h14 z hz => by
    have hn : 0 < (vs.length : Int) := by
      by_cases q : p = 12
      · have := t2 (.inr q); omega
      · have := t1 (by omega) h14; omega
    refine Ev.step (fun k => impl_heap_apply.j1.eq_2 _ _ _ _ _ _ _ _ k) (Ev.iff (fun c => Ev.iff (fun c5 => ?_) (fun c5 => Ev.leaf ?_)) (fun c => ?_))
    · obtain ⟨g0, g1⟩ := rdV_good hg hn c5
      refine Ev.iff (fun q => Ev.ifp g0 (Ev.ifp g1 (Ev.leaf ?_))) (fun q => Ev.ifp g0 (Ev.ifp g1 (Ev.leaf ?_)))
      · unfold doR; rw [if_neg (by omega), if_neg h14, if_neg (by omega), if_pos q, if_pos c5]
      · unfold doR; rw [if_neg (by omega), if_neg h14, if_neg (by omega), if_neg q, if_pos (by have := hz.mp c; omega), if_pos c5]
    · unfold doR; rw [if_neg (by omega), if_neg h14, if_neg (by omega)]
      by_cases q : p = 8
      · rw [if_pos q, if_neg c5]
      · rw [if_neg q, if_pos (by have := hz.mp c; omega), if_neg c5]
    · have n8 : p ≠ 8 := fun q => c (hz.mpr (.inl q))
      have n9 : p ≠ 9 := fun q => c (hz.mpr (.inr q))
      have er : doR xs p vs = ((boolM (testB p vs)).1, (boolM (testB p vs)).2.1, (boolM (testB p vs)).2.2, 0, xs) := by unfold doR; rw [if_neg (by omega), if_neg h14, if_neg (by omega), if_neg n8, if_neg n9]
      rw [er]
      refine Ev.iff (fun q => Ev.bind0 (boolValue_eq _) (Ev.leaf ?_)) (fun q10 => Ev.iff (fun q => Ev.bind0 (boolValue_eq _) (Ev.leaf ?_)) (fun q11 => Ev.iff (fun q => Ev.ifp (by have := t2 (.inr q); omega) (Ev.bind0 (boolValue_eq _) (Ev.leaf ?_))) (fun q12 => ?_)))
      · unfold testB; rw [if_pos q]
      · unfold testB; rw [if_neg q10, if_pos q]
      · unfold testB; rw [if_neg q10, if_neg q11, if_pos q]
      · have et : impl_IsTrue.f (rd_T29 vs 0).f0 (rd_T29 vs 0).f1 (rd_T29 vs 0).f2 = some (if (rd_T29 vs 0).f0 = 2 then (rd_T29 vs 0).f1 != 0 else true) := by unfold impl_IsTrue.f; split <;> rfl
        refine Ev.bind0 et (Ev.bind0 (boolValue_eq _) (Ev.leaf ?_))
        unfold testB; rw [if_neg q10, if_neg q11, if_neg q12]
  refine Ev.step (fun k => impl_heap_apply.j0.eq_2 _ _ _ _ k) (Ev.ifn (by simp) (Ev.iff (fun q => ?_) (fun q6 => Ev.iff (fun q => ?_) (fun q14 => ?_))))
  · have := t2 (.inl (by omega))
    refine Ev.ifp (by omega) (Ev.ifp (by omega) (Ev.bind (implCounted_ev p (rd_T29 vs 0) (rd_T29 vs 1)) (Ev.leaf ?_)))
    unfold doR; rw [if_pos q]
  · refine Ev.bind0 (heapList_eq xs vs hl hx) ?_
    unfold doR; rw [if_neg q6, if_pos q]
    by_cases c4 : 4000 < xs.length + vs.length
    · rw [if_pos c4, if_pos c4]; exact Ev.ifn (by simp) (Ev.now _)
    · rw [if_neg c4, if_neg c4]; exact Ev.ifp rfl (Ev.now _)
  · have hn : 0 < (vs.length : Int) := by
      by_cases q : p ≤ 7 ∨ p = 12
      · have := t2 q; omega
      · have := t1 q q14; omega
    refine Ev.ifp hn (Ev.iff (fun q => ?_) (fun q7 => Ev.iff (fun q => rest (by omega) q14 _ (by simp [q])) (fun q8 => rest (by omega) q14 _ (by simp [q8]))))
    have := t2 (.inl (by omega))
    refine Ev.ifp (by omega) (Ev.bind0 (heapCons_eq xs (rd_T29 vs 0) (rd_T29 vs 1) (by omega)) ?_)
    unfold doR; rw [if_neg q6, if_neg q14, if_pos q]
    by_cases c4 : 4000 ≤ xs.length
    · rw [if_pos c4, if_pos c4]; exact Ev.ifn (by simp) (Ev.now _)
    · rw [if_neg c4, if_neg c4]; exact Ev.ifp rfl (Ev.now _)
theorem specDo_ev (xs : List S34) (p : Int) (vs : List S29) (hl : vs.length ≤ 3) (hx : xs.length ≤ 4000) (hp : 0 ≤ p ∧ p ≤ 14) (hg : ∀ v ∈ vs, goodV xs.length v) : Ev (fun k => spec_l6Do.f k xs p vs) (doS xs p vs) := by
  refine Ev.congr (fun k => spec_l6Do.f.eq_1 k _ _ _) (Ev.bind (l6Takes_ev p) (Ev.bind0 (l1In_eq _ _ _) (Ev.iff (fun c => ?_) (fun c => Ev.leaf ?_))))
  case refine_2 => unfold doS; rw [if_pos (Decidable.byContradiction fun z => c (inB_iff.mpr ⟨by omega, by omega⟩))]
  have c' := inB_iff.mp c
  obtain ⟨t2, t14, t1⟩ := takes_len (p := p) (n := vs.length) c'.1 c'.2
  have e6 : p ≤ 6 → doS xs p vs = ((countS p (rd_T29 vs 0) (rd_T29 vs 1)).1, (countS p (rd_T29 vs 0) (rd_T29 vs 1)).2.1, (countS p (rd_T29 vs 0) (rd_T29 vs 1)).2.2.1, (countS p (rd_T29 vs 0) (rd_T29 vs 1)).2.2.2, xs) := fun h => by unfold doS; rw [if_neg (by omega), if_pos h]
  have e : 6 < p → p ≠ 14 → doS xs p vs = doR xs p vs := fun h h' => by unfold doS; rw [if_neg (by omega), if_neg (by omega), if_neg (fun z => h' z.1)]
  have rest : p ≠ 7 → ∀ z : Bool, (z = true ↔ (p = 8 ∨ p = 9)) → Ev (fun k => spec_l6Do.j0 k p vs p z xs) (doS xs p vs) := fun h7 z hz => by
    refine Ev.step (fun k => spec_l6Do.j0.eq_2 _ _ _ _ _ k) (Ev.iff (fun c => ?_) (fun c => ?_))
    · have h89 := hz.mp c
      have hn : 0 < (vs.length : Int) := by have := t1 (by omega) (by omega); omega
      rw [e (by omega) (by omega)]
      refine Ev.ifp hn (Ev.iff (fun c5 => ?_) (fun c5 => Ev.leaf ?_))
      · obtain ⟨g0, g1⟩ := rdV_good hg hn c5
        refine Ev.ifp g0 (Ev.ifp g1 (Ev.iff (fun q => Ev.leaf ?_) (fun q => Ev.leaf ?_)))
        · unfold doR; rw [if_neg (by omega), if_neg (by omega), if_neg h7, if_pos q, if_pos c5]
        · unfold doR; rw [if_neg (by omega), if_neg (by omega), if_neg h7, if_neg q, if_pos (by omega), if_pos c5]
      · unfold doR; rw [if_neg (by omega), if_neg (by omega), if_neg h7]
        by_cases q : p = 8
        · rw [if_pos q, if_neg c5]
        · rw [if_neg q, if_pos (by omega), if_neg c5]
    · have n8 : p ≠ 8 := fun q => c (hz.mpr (.inl q))
      have n9 : p ≠ 9 := fun q => c (hz.mpr (.inr q))
      have er : 6 < p → p ≠ 14 → doR xs p vs = ((boolM (testB p vs)).1, (boolM (testB p vs)).2.1, (boolM (testB p vs)).2.2, 0, xs) := fun h6 h14 => by unfold doR; rw [if_neg (by omega), if_neg h14, if_neg h7, if_neg n8, if_neg n9]
      have n1 : 6 < p → p ≠ 14 → 0 < (vs.length : Int) := fun h6 h14 => by
        by_cases q : p = 12
        · have := t2 (.inr q); omega
        · have := t1 (by omega) h14; omega
      refine Ev.iff (fun q => ?_) (fun q10 => Ev.iff (fun q => ?_) (fun q11 => Ev.iff (fun q => ?_) (fun q12 => Ev.iff (fun q => ?_) (fun q13 => Ev.iff (fun q => ?_) (fun q14 => ?_)))))
      · rw [e (by omega) (by omega), er (by omega) (by omega)]
        exact Ev.ifp (n1 (by omega) (by omega)) (Ev.bind0 (l6Bool_eq _) (Ev.leaf (by unfold testB; rw [if_pos q])))
      · rw [e (by omega) (by omega), er (by omega) (by omega)]
        exact Ev.ifp (n1 (by omega) (by omega)) (Ev.bind0 (l6Bool_eq _) (Ev.leaf (by unfold testB; rw [if_neg q10, if_pos q])))
      · rw [e (by omega) (by omega), er (by omega) (by omega)]
        have := t2 (.inr q)
        exact Ev.ifp (by omega) (Ev.ifp (by omega) (Ev.bind0 (l6Bool_eq _) (Ev.leaf (by unfold testB; rw [if_neg q10, if_neg q11, if_pos q]))))
      · rw [e (by omega) (by omega), er (by omega) (by omega)]
        have et : spec_l6True.f (rd_T29 vs 0).f0 (rd_T29 vs 0).f1 (rd_T29 vs 0).f2 = some (if (rd_T29 vs 0).f0 = 2 then (rd_T29 vs 0).f1 != 0 else true) := by unfold spec_l6True.f; split <;> rfl
        exact Ev.ifp (n1 (by omega) (by omega)) (Ev.bind0 et (Ev.bind0 (l6Bool_eq _) (Ev.leaf (by unfold testB; rw [if_neg q10, if_neg q11, if_neg q12]))))
      · have fw : wrap64 ((xs.length : Int) + (vs.length : Int)) = (xs.length : Int) + (vs.length : Int) := wrap_id (by omega) (by omega)
        refine Ev.bind (a := ?_) (Ev.congr (fun k => spec_l6List.f.eq_1 k _ _) ?_) (Ev.leaf ?_)
        · exact ((doS xs p vs).1, (doS xs p vs).2.1, (doS xs p vs).2.2.1, (doS xs p vs).2.2.2.1, (doS xs p vs).2.2.2.2)
        · rw [fw]
          refine Ev.iff (fun z4 => Ev.leaf ?_) (fun z4 => ?_)
          · have : doS xs p vs = (3, 0, ⟨#[]⟩, 2, xs) := by unfold doS; rw [if_neg (by omega), if_neg (by omega), if_pos ⟨q, by omega⟩]
            rw [this]
          · have : doS xs p vs = ((putL vs.reverse 3 0 ⟨#[]⟩ xs).1, (putL vs.reverse 3 0 ⟨#[]⟩ xs).2.1, (putL vs.reverse 3 0 ⟨#[]⟩ xs).2.2.1, 0, (putL vs.reverse 3 0 ⟨#[]⟩ xs).2.2.2) := by unfold doS; rw [if_neg (by omega), if_neg (by omega), if_neg (fun z => z4 (by omega))]; unfold doR; rw [if_neg (by omega), if_pos q, if_neg (by omega)]
            rw [this]
            have hs := specList_ev vs vs.length 3 0 ⟨#[]⟩ xs (Nat.le_refl _) hl (by omega)
            rw [List.take_length] at hs
            rw [wrap_id (by omega) (by omega)]
            exact hs
        · rfl
      · have q6 : p ≤ 6 := by omega
        rw [e6 q6]
        have := t2 (.inl (by omega))
        exact Ev.ifp (by omega) (Ev.ifp (by omega) (Ev.bind (specNum_ev p (rd_T29 vs 0) (rd_T29 vs 1)) (Ev.now _)))
  refine Ev.iff (fun q => ?_) (fun q7 => Ev.iff (fun q => rest q7 _ (by simp [q])) (fun q8 => rest q7 _ (by simp [q8])))
  have := t2 (.inl (by omega))
  have er : doR xs p vs = (if 4000 ≤ xs.length then (0, 0, ⟨#[]⟩, 2, xs) else (5, (xs.length : Int), ⟨#[]⟩, 0, xs ++ [⟨rd_T29 vs 0, rd_T29 vs 1⟩])) := by unfold doR; rw [if_neg (by omega), if_neg (by omega), if_pos q]
  rw [e (by omega) (by omega), er]
  refine Ev.iff (fun z4 => Ev.leaf (by rw [if_pos (by omega)])) (fun z4 => ?_)
  rw [if_neg (show ¬ 4000 ≤ xs.length by omega)]
  refine Ev.ifp (by omega) (Ev.ifp (by omega) (Ev.ifp (by omega) (Ev.bind0 rfl (Ev.leaf ?_))))
  rw [List.length_append, List.length_singleton, wrap_id (by omega) (by omega), show ((xs.length + 1 : Nat) : Int) - 1 = (xs.length : Int) from by omega]
def applyM (xs : List S34) (p : Int) (vs : List S29) : Int × List S34 × Int × Int × ByteArray :=
  if heapM xs = 0 then (if 3 < vs.length then (2, [], 0, 0, ⟨#[]⟩) else if inM xs.length vs = 0 then (if inB p 0 15 = true then (if p = 15 then (1, [], 0, 0, ⟨#[]⟩) else fin (doM xs p vs)) else (3, [], 0, 0, ⟨#[]⟩)) else (inM xs.length vs, [], 0, 0, ⟨#[]⟩)) else (heapM xs, [], 0, 0, ⟨#[]⟩)
theorem inAt_ne0 {n : Int} {vs : List S29} (i : Nat) (t : Int) (h : inAt n vs i = some t) : t ≠ 0 := by
  unfold inAt at h
  split at h
  · unfold inStep at h
    repeat' split at h
    all_goals first | (cases h; done) | (obtain rfl := Option.some.inj h; first | omega | assumption)
  · cases h
theorem in_good {n : Int} {vs : List S29} (h : inM n vs = 0) : ∀ v ∈ vs, goodV n v := by
  intro v hv
  obtain ⟨i, hi, rfl⟩ := List.getElem_of_mem hv
  have z := runU_none (fun i t => inAt_ne0 i t) vs.length 0 h i (by omega) (by omega)
  unfold inAt at z
  rw [dif_pos hi] at z
  unfold inStep at z
  repeat' split at z
  all_goals first | (cases z; done) | skip
  rename_i a b
  exact ⟨a, by simpa using b⟩
theorem implApply_ev (xs : List S34) (p : Int) (vs : List S29) (hx : okP xs) (hv : ∀ v ∈ vs, okS v.f2) : Ev (fun k => impl_ApplyPrim.f k xs p vs) (applyM xs p vs) := by
  refine Ev.congr (fun k => impl_ApplyPrim.f.eq_1 k _ _ _) (Ev.bind (implHeap_ev xs hx) (Ev.iff (fun c => ?_) (fun c => Ev.leaf (by unfold applyM; rw [if_neg c]))))
  have hl := heap_len c
  refine Ev.iff (fun c3 => Ev.leaf (by unfold applyM; rw [if_pos c, if_pos (by omega)])) (fun c3 => Ev.bind (inHeap_ev xs vs (by omega) hv) (Ev.iff (fun ci => Ev.bind0 (a := inB p 0 15) (by unfold impl_isPrim.f; rw [in_eq, Option.bind_some]) (Ev.iff (fun cp => Ev.iff (fun c15 => Ev.leaf ?_) (fun c15 => ?_)) (fun cp => Ev.leaf ?_))) (fun ci => Ev.leaf ?_)))
  · unfold applyM; rw [if_pos c, if_neg (by omega), if_pos ci, if_pos cp, if_pos c15]
  · have hp := inB_iff.mp cp
    have e : applyM xs p vs = fin (doM xs p vs) := by unfold applyM; rw [if_pos c, if_neg (by omega), if_pos ci, if_pos cp, if_neg c15]
    rw [e]
    refine Ev.bind0 (implCloneP_eq xs (by omega)) (Ev.bind (implDo_ev xs p vs (by omega) hl ⟨hp.1, by omega⟩ (in_good ci)) (Ev.iff (fun z => Ev.leaf ?_) (fun z => Ev.leaf ?_)))
    · unfold fin; rw [if_pos z]
    · unfold fin; rw [if_neg z]
  · unfold applyM; rw [if_pos c, if_neg (by omega), if_pos ci, if_neg cp]
  · unfold applyM; rw [if_pos c, if_neg (by omega), if_neg ci]
theorem specApply_ev (xs : List S34) (p : Int) (vs : List S29) (hx : okP xs) (hv : ∀ v ∈ vs, okS v.f2) : Ev (fun k => spec_ApplyPrim.f k xs p vs) (applyM xs p vs) := by
  refine Ev.congr (fun k => spec_ApplyPrim.f.eq_1 k _ _ _) (Ev.bind (l5Heap_ev xs hx) (Ev.iff (fun c => ?_) (fun c => Ev.leaf (by unfold applyM; rw [if_neg c]))))
  have hl := heap_len c
  refine Ev.iff (fun c3 => Ev.leaf (by unfold applyM; rw [if_pos c, if_pos (by omega)])) (fun c3 => ?_)
  have e : applyM xs p vs = (if inM xs.length vs = 0 then (if inB p 0 15 = true then (if p = 15 then (1, [], 0, 0, ⟨#[]⟩) else fin (doM xs p vs)) else (3, [], 0, 0, ⟨#[]⟩)) else (inM xs.length vs, [], 0, 0, ⟨#[]⟩)) := by unfold applyM; rw [if_pos c, if_neg (by omega)]
  rw [e]
  have loop : ∀ d i, i + d = vs.length → (∀ j, (hj : j < vs.length) → j < i → goodV xs.length vs[j]) → Ev (fun k => spec_ApplyPrim.l0 k xs p vs (i : Int)) (if runU (inAt xs.length vs) 0 d i = 0 then (if inB p 0 15 = true then (if p = 15 then (1, [], 0, 0, ⟨#[]⟩) else fin (doM xs p vs)) else (3, [], 0, 0, ⟨#[]⟩)) else (runU (inAt xs.length vs) 0 d i, [], 0, 0, ⟨#[]⟩)) := by
    intro d
    induction d with
    | zero =>
      intro i hi hg
      have hg' : ∀ v ∈ vs, goodV xs.length v := fun v hv => by
        obtain ⟨j, hj, rfl⟩ := List.getElem_of_mem hv
        exact hg j hj (by omega)
      refine Ev.step (fun k => spec_ApplyPrim.l0.eq_2 _ _ _ _ k) (Ev.ifn (by omega) (Ev.bind0 (a := inB p 0 15) (by unfold spec_l6Prim.f; rw [l1In_eq, Option.bind_some]) ?_))
      rw [show runU (inAt xs.length vs) 0 0 i = 0 from rfl, if_pos rfl]
      refine Ev.iff (fun cp => ?_) (fun cp => Ev.leaf (by rw [if_neg cp]))
      rw [if_pos cp]
      have hp := inB_iff.mp cp
      refine Ev.iff (fun c15 => Ev.leaf (by rw [if_pos c15])) (fun c15 => ?_)
      rw [if_neg c15, ← fin_do]
      refine Ev.bind0 (l5Copy_eq xs (by omega)) (Ev.bind (specDo_ev xs p vs (by omega) hl ⟨hp.1, by omega⟩ hg') (Ev.iff (fun z => Ev.leaf ?_) (fun z => Ev.leaf ?_)))
      · unfold fin; rw [if_pos z]
      · unfold fin; rw [if_neg z]
    | succ d ih =>
      intro i hi hg
      have h : i < vs.length := by omega
      have hm := hv vs[i] (List.getElem_mem h)
      refine Ev.step (fun k => spec_ApplyPrim.l0.eq_2 _ _ _ _ k) (Ev.ifp (by omega) (Ev.ifp (by omega) ?_))
      rw [rdV_at h, wrap_succ h (by omega)]
      refine Ev.bind (l5Asked_ev xs vs[i] hx hm) (Ev.iff (fun z => ?_) (fun z => Ev.leaf ?_))
      · have g := (asked_good z).2
        have ea : inAt xs.length vs i = none := by unfold inAt inStep; rw [dif_pos h, if_pos g.1, if_neg (by rw [g.2]; simp)]
        have er : runU (inAt xs.length vs) 0 (d + 1) i = runU (inAt xs.length vs) 0 d (i + 1) := by simp only [runU, ea]
        rw [er]
        exact ih (i + 1) (by omega) (fun j hj hji => by
          by_cases q : j = i
          · subst q; exact g
          · exact hg j hj (by omega))
      · have ea : inAt xs.length vs i = some (askedM xs vs[i]) := by
          unfold inAt inStep askedM
          rw [dif_pos h, if_pos c]
          by_cases a : valM vs[i] = 0
          · rw [if_pos a, if_pos a]
            by_cases b : beyB vs[i] xs.length = true
            · rw [if_pos b, if_pos b]
            · exfalso; apply z; unfold askedM; rw [if_pos c, if_pos a, if_neg b]
          · rw [if_neg a, if_neg a]
        have er : runU (inAt xs.length vs) 0 (d + 1) i = askedM xs vs[i] := by simp only [runU, ea]
        rw [er, if_neg z]
  exact loop vs.length 0 (by omega) (fun j _ hj => absurd hj (by omega))
def okB (l : List Int) : Prop := l.length ≤ 1048576 ∧ ∀ y ∈ l, 0 ≤ y ∧ y ≤ 255
theorem rdb (l : List Int) (h : okB l) (i : Int) : 0 ≤ rd l i ∧ rd l i ≤ 255 := by
  unfold rd
  by_cases c : i.toNat < l.length
  · have := h.2 (l.getD i.toNat 0) (by simp [List.getD, c])
    exact this
  · simp [List.getD, c]
theorem tmod_lt' {a b : Int} (ha : 0 ≤ a) (hb : 0 < b) : 0 ≤ Int.tmod a b ∧ Int.tmod a b < b := ⟨Int.tmod_nonneg b ha, Int.tmod_lt_of_pos a hb⟩
theorem next_eq (l : List Int) (hl : okB l) (s n : Int) (h0 : 0 ≤ s) (h1 : s ≤ 1000000000) (hn : n ≤ 1000000000) : ∃ v, spec_l1Next.f l s n = some (v, s + 1) ∧ 0 ≤ v ∧ (1 ≤ n → v < n) ∧ (n < 1 → v = 0) := by
  have hlen := hl.1
  unfold spec_l1Next.f
  rw [wrap_id (x := s + 1) (by omega) (by omega)]
  by_cases c : n < 1
  · exact ⟨0, by rw [if_pos c], by omega, by omega, fun _ => rfl⟩
  · rw [if_neg c, show s + 1 - 1 = s from by omega, wrap_id (x := s) (by omega) (by omega)]
    by_cases c1 : (l.length : Int) = 0
    · rw [if_pos c1, if_neg (by omega), wrap_id (x := s * 7) (by omega) (by omega)]
      have := tmod_lt' (a := s * 7) (b := n) (by omega) (by omega)
      exact ⟨_, rfl, this.1, fun _ => this.2, fun h => absurd h c⟩
    · have hp : (0 : Int) < l.length := by omega
      have m1 := tmod_lt' h0 hp
      have m2 := tmod_lt' (a := s + 1) (b := (l.length : Int)) (by omega) hp
      have d1 : 0 ≤ Int.tdiv s (l.length : Int) ∧ Int.tdiv s (l.length : Int) ≤ s := by
        rw [Int.tdiv_eq_ediv_of_nonneg h0]
        exact ⟨Int.ediv_nonneg h0 (by omega), Int.ediv_le_self _ h0⟩
      have r1 := rdb l hl (Int.tmod s (l.length : Int))
      have r2 := rdb l hl (Int.tmod (s + 1) (l.length : Int))
      rw [if_neg c1, if_pos m1.1, if_pos m1.2]
      by_cases c2 : n > 200
      · rw [if_pos c2, wrap_id (x := s + 1) (by omega) (by omega), if_pos m2.1, if_pos m2.2, if_neg (by omega)]
        generalize hq : Int.tdiv s (l.length : Int) = q at d1
        generalize ha : rd l (Int.tmod s (l.length : Int)) = a at r1
        generalize hb : rd l (Int.tmod (s + 1) (l.length : Int)) = b at r2
        rw [wrap_id (x := a) (by omega) (by omega), wrap_id (x := q) (by omega) (by omega), wrap_id (x := q * 37) (by omega) (by omega), wrap_id (x := a + q * 37) (by omega) (by omega), wrap_id (x := b) (by omega) (by omega), wrap_id (x := b * 13) (by omega) (by omega), wrap_id (x := (a + q * 37) * 251) (by omega) (by omega), wrap_id (x := (a + q * 37) * 251 + b * 13) (by omega) (by omega), wrap_id (x := (a + q * 37) * 251 + b * 13 + s) (by omega) (by omega)]
        have := tmod_lt' (a := (a + q * 37) * 251 + b * 13 + s) (b := n) (by omega) (by omega)
        exact ⟨_, rfl, this.1, fun _ => this.2, fun h => absurd h c⟩
      · rw [if_neg c2, if_neg (by omega)]
        generalize hq : Int.tdiv s (l.length : Int) = q at d1
        generalize ha : rd l (Int.tmod s (l.length : Int)) = a at r1
        rw [wrap_id (x := a) (by omega) (by omega), wrap_id (x := q) (by omega) (by omega), wrap_id (x := q * 37) (by omega) (by omega), wrap_id (x := a + q * 37) (by omega) (by omega)]
        have := tmod_lt' (a := a + q * 37) (b := n) (by omega) (by omega)
        exact ⟨_, rfl, this.1, fun _ => this.2, fun h => absurd h c⟩
theorem pick_eq (l : List Int) (hl : okB l) (s : Int) (xs : List Int) (h0 : 0 ≤ s) (h1 : s ≤ 1000000000) (hx : 0 < xs.length) (hx1 : xs.length ≤ 1000) : ∃ v, spec_l1Pick.f l s xs = some (v, s + 1) ∧ v ∈ xs := by
  obtain ⟨v, hv, v0, v1, _⟩ := next_eq l hl s (xs.length : Int) h0 h1 (by omega)
  have v2 := v1 (by omega)
  unfold spec_l1Pick.f
  rw [hv, Option.bind_some, if_pos v0, if_pos v2]
  refine ⟨_, rfl, ?_⟩
  unfold rd
  have hi : v.toNat < xs.length := by omega
  simp [List.getD, hi]
theorem draw_eq (l : List Int) (hl : okB l) (s : Int) (h0 : 0 ≤ s) (h1 : s ≤ 900000000) : ∃ v, spec_l1Draw.f l s = some (v, s + 3) ∧ -1000000000 ≤ v ∧ v ≤ 1000000000 := by
  obtain ⟨a, ha, a0, a1, _⟩ := next_eq l hl s 20 h0 (by omega) (by omega)
  obtain ⟨b, hb, b0, b1, _⟩ := next_eq l hl (s + 1) 100 (by omega) (by omega) (by omega)
  have a2 := a1 (by omega)
  have b2 := b1 (by omega)
  obtain ⟨v, hv, hm⟩ := pick_eq l hl (s + 1 + 1) [wrap64 (a - 9), b, 0, (-1), 1000000000, (-1000000000), 99999] (by omega) (by omega) (by simp) (by simp)
  rw [wrap_id (x := a - 9) (by omega) (by omega)] at hv hm
  unfold spec_l1Draw.f
  rw [ha, Option.bind_some]
  simp only []
  rw [hb, Option.bind_some]
  simp only []
  rw [wrap_id (x := a - 9) (by omega) (by omega), hv, Option.bind_some]
  refine ⟨v, by rw [show s + 1 + 1 + 1 = s + 3 from by omega], ?_⟩
  simp only [List.mem_cons, List.not_mem_nil, or_false] at hm
  omega
theorem okB_of (l : List Int) (h : l.length ≤ 1048576) (hw : ∀ y ∈ l, (Lit.int .u8 y).wf = true) : okB l := by
  refine ⟨h, fun y hy => ?_⟩
  have := hw y hy
  simp [Lit.wf, IntKind.min, IntKind.max, IntKind.signed, IntKind.bits] at this
  exact this
theorem rdOf_memP {α : Type} {d : α} {xs : List α} {i : Int} (h0 : 0 ≤ i) (h1 : i < (xs.length : Int)) : rdOf d xs i ∈ xs := by
  unfold rdOf
  have hi : i.toNat < xs.length := by omega
  simp [List.getD, hi]
theorem l2NameP_eq (l : List Int) (hl : okB l) (s : Int) (h0 : 0 ≤ s) (h1 : s ≤ 900000000) : ∃ n, spec_l2Name.f l s = some (n, s + 1) ∧ n.size ≤ 12 := by
  obtain ⟨v, hv, v0, v1, _⟩ := next_eq l hl s 8 h0 (by omega) (by omega)
  have v2 := v1 (by omega)
  unfold spec_l2Name.f
  rw [Option.bind_some]
  rw [hv, Option.bind_some, if_pos v0, if_pos (by simp; omega)]
  refine ⟨_, rfl, ?_⟩
  have hm := rdOf_memP (d := ByteArray.empty) (xs := [(⟨#[120]⟩ : ByteArray), (⟨#[121]⟩ : ByteArray), (⟨#[102]⟩ : ByteArray), (⟨#[43]⟩ : ByteArray), (⟨#[99, 97, 114]⟩ : ByteArray), (⟨#[105, 102]⟩ : ByteArray), (⟨#[110, 117, 108, 108, 63]⟩ : ByteArray), (⟨#[97]⟩ : ByteArray)]) v0 (by simp; omega)
  exact (by decide +kernel : ∀ m ∈ [(⟨#[120]⟩ : ByteArray), (⟨#[121]⟩ : ByteArray), (⟨#[102]⟩ : ByteArray), (⟨#[43]⟩ : ByteArray), (⟨#[99, 97, 114]⟩ : ByteArray), (⟨#[105, 102]⟩ : ByteArray), (⟨#[110, 117, 108, 108, 63]⟩ : ByteArray), (⟨#[97]⟩ : ByteArray)], m.size ≤ 12) _ hm
theorem e12 : (⟨#[]⟩ : ByteArray).size ≤ 12 := by decide
theorem l5Draw_ev (l : List Int) (hl : okB l) (s m : Int) (h0 : 0 ≤ s) (h1 : s ≤ 800000000) (hm : m ≤ 1000000000) : ∃ a b n s', Ev (fun k => spec_l5Draw.f k l s m) (a, b, n, s') ∧ n.size ≤ 12 ∧ s ≤ s' ∧ s' ≤ s + 4 := by
  obtain ⟨v, hv, v0, v1, _⟩ := next_eq l hl s 7 h0 (by omega) (by omega)
  have tail : ∀ b : Bool, ∃ a c n s', Ev (fun k => spec_l5Draw.j0 k m v b l (s + 1)) (a, c, n, s') ∧ n.size ≤ 12 ∧ s ≤ s' ∧ s' ≤ s + 4 := by
    intro b
    obtain ⟨d, hd, _⟩ := draw_eq l hl (s + 1) (by omega) (by omega)
    by_cases hb : b = true
    · by_cases c : m > 0
      · obtain ⟨u, hu, _⟩ := next_eq l hl (s + 1) m (by omega) (by omega) (by omega)
        exact ⟨5, u, _, s + 1 + 1, Ev.step (fun k => spec_l5Draw.j0.eq_2 _ _ _ _ _ k) (Ev.ifp hb (Ev.ifp c (Ev.bind0 hu (Ev.now _)))), e12, by omega, by omega⟩
      · exact ⟨1, d, _, s + 1 + 3, Ev.step (fun k => spec_l5Draw.j0.eq_2 _ _ _ _ _ k) (Ev.ifp hb (Ev.ifn c (Ev.bind0 hd (Ev.now _)))), e12, by omega, by omega⟩
    · by_cases c : v = 5
      · obtain ⟨u, hu, _⟩ := pick_eq l hl (s + 1) [6, 7, 8] (by omega) (by omega) (by simp) (by simp)
        obtain ⟨w, hw, _⟩ := next_eq l hl (s + 1 + 1) 9 (by omega) (by omega) (by omega)
        exact ⟨u, w, _, s + 1 + 1 + 1, Ev.step (fun k => spec_l5Draw.j0.eq_2 _ _ _ _ _ k) (Ev.ifn hb (Ev.ifp c (Ev.bind0 hu (Ev.bind0 hw (Ev.now _))))), e12, by omega, by omega⟩
      · exact ⟨1, d, _, s + 1 + 3, Ev.step (fun k => spec_l5Draw.j0.eq_2 _ _ _ _ _ k) (Ev.ifn hb (Ev.ifn c (Ev.bind0 hd (Ev.now _)))), e12, by omega, by omega⟩
  by_cases c0 : v = 0
  · obtain ⟨u, hu, _⟩ := next_eq l hl (s + 1) 2 (by omega) (by omega) (by omega)
    exact ⟨2, u, _, s + 1 + 1, Ev.congr (fun k => spec_l5Draw.f.eq_1 k _ _ _) (Ev.bind0 hv (Ev.ifp c0 (Ev.bind0 hu (Ev.now _)))), e12, by omega, by omega⟩
  by_cases c1 : v = 1
  · exact ⟨3, 0, _, s + 1, Ev.congr (fun k => spec_l5Draw.f.eq_1 k _ _ _) (Ev.bind0 hv (Ev.ifn c0 (Ev.ifp c1 (Ev.now _)))), e12, by omega, by omega⟩
  by_cases c2 : v = 2
  · obtain ⟨n, hn, hz⟩ := l2NameP_eq l hl (s + 1) (by omega) (by omega)
    exact ⟨4, 0, n, s + 1 + 1, Ev.congr (fun k => spec_l5Draw.f.eq_1 k _ _ _) (Ev.bind0 hv (Ev.ifn c0 (Ev.ifn c1 (Ev.ifp c2 (Ev.bind0 hn (Ev.now _)))))), hz, by omega, by omega⟩
  by_cases c3 : v = 3
  · obtain ⟨a, b, n, s', he, r⟩ := tail (v == 3)
    exact ⟨a, b, n, s', Ev.congr (fun k => spec_l5Draw.f.eq_1 k _ _ _) (Ev.bind0 hv (Ev.ifn c0 (Ev.ifn c1 (Ev.ifn c2 (Ev.ifp c3 he))))), r⟩
  · obtain ⟨a, b, n, s', he, r⟩ := tail (v == 4)
    exact ⟨a, b, n, s', Ev.congr (fun k => spec_l5Draw.f.eq_1 k _ _ _) (Ev.bind0 hv (Ev.ifn c0 (Ev.ifn c1 (Ev.ifn c2 (Ev.ifn c3 he))))), r⟩
def smallP (xs : List S34) : Prop := ∀ x ∈ xs, x.f0.f2.size ≤ 12 ∧ x.f1.f2.size ≤ 12
theorem smallP_ok {xs : List S34} (h : smallP xs) : okP xs := fun x hx => by have := h x hx; unfold okS; omega
theorem smallP_add {xs : List S34} (h : smallP xs) (x : S34) (h0 : x.f0.f2.size ≤ 12) (h1 : x.f1.f2.size ≤ 12) : smallP (xs ++ [x]) := by
  intro y hy
  rcases List.mem_append.mp hy with hm | hm
  · exact h y hm
  · rw [List.mem_singleton] at hm; subst hm; exact ⟨h0, h1⟩
theorem rightP_loop (l : List Int) (hl : okB l) : ∀ (c : Nat) (xs : List S34) (s : Int), c ≤ 1000 → smallP xs → xs.length + c ≤ 1000 → 0 ≤ s → s + 8 * (c : Int) ≤ 100000 → ∃ ys s', Ev (fun k => spec_l5Right.l0 k xs (c : Int) l s) (ys, s') ∧ smallP ys ∧ ys.length ≤ xs.length + c ∧ s ≤ s' ∧ s' ≤ s + 8 * (c : Int) := by
  intro c
  induction c with
  | zero =>
    intro xs s _ hx _ h0 h1
    exact ⟨xs, s, Ev.step (fun k => spec_l5Right.l0.eq_2 _ _ _ _ k) (Ev.ifn (by omega) (Ev.now _)), hx, by omega, by omega, by omega⟩
  | succ c ih =>
    intro xs s hc hx hn h0 h1
    obtain ⟨a, b, n, s1, he, hz, e0, e1⟩ := l5Draw_ev l hl s (xs.length : Int) h0 (by omega) (by omega)
    obtain ⟨a', b', n', s2, he', hz', e0', e1'⟩ := l5Draw_ev l hl s1 (xs.length : Int) (by omega) (by omega) (by omega)
    obtain ⟨ys, s', hr, hy, hy1, f0, f1⟩ := ih (xs ++ [⟨⟨a, b, n⟩, ⟨a', b', n'⟩⟩]) s2 (by omega) (smallP_add hx _ hz hz') (by simp; omega) (by omega) (by omega)
    rw [List.length_append, List.length_singleton] at hy1
    refine ⟨ys, s', Ev.step (fun k => spec_l5Right.l0.eq_2 _ _ _ _ k) (Ev.ifp (by omega) (Ev.bind he (Ev.bind he' (Ev.ifp (by omega) ?_)))), hy, by omega, by omega, by omega⟩
    rw [show wrap64 (((c + 1 : Nat) : Int) - 1) = (c : Int) from by rw [wrap_id (by omega) (by omega)]; omega]
    exact hr
theorem bentValueP_ev (l : List Int) (hl : okB l) (s m : Int) (h0 : 0 ≤ s) (h1 : s ≤ 700000000) (hm : m ≤ 1000000000) : ∃ a b n s', Ev (fun k => spec_l5BentValue.f k l s m) (a, b, n, s') ∧ n.size ≤ 12 ∧ s ≤ s' ∧ s' ≤ s + 6 := by
  obtain ⟨a, b, n, s1, he, hz, e0, e1⟩ := l5Draw_ev l hl s m h0 (by omega) hm
  obtain ⟨v, hv, _⟩ := next_eq l hl s1 12 (by omega) (by omega) (by omega)
  by_cases c0 : v = 0
  · obtain ⟨u, hu, _⟩ := pick_eq l hl (s1 + 1) [0, 10, 5, 1] (by omega) (by omega) (by simp) (by simp)
    exact ⟨u, b, n, s1 + 1 + 1, Ev.congr (fun k => spec_l5BentValue.f.eq_1 k _ _ _) (Ev.bind he (Ev.bind0 hv (Ev.ifp c0 (Ev.bind0 hu (Ev.now _))))), hz, by omega, by omega⟩
  by_cases c1 : v = 1
  · obtain ⟨u, hu, _⟩ := pick_eq l hl (s1 + 1) [(-1), 2, 100000, 1000000001] (by omega) (by omega) (by simp) (by simp)
    exact ⟨a, u, n, s1 + 1 + 1, Ev.congr (fun k => spec_l5BentValue.f.eq_1 k _ _ _) (Ev.bind he (Ev.bind0 hv (Ev.ifn c0 (Ev.ifp c1 (Ev.bind0 hu (Ev.now _)))))), hz, by omega, by omega⟩
  by_cases c2 : v = 2
  · obtain ⟨u, hu, u0, u1, _⟩ := next_eq l hl (s1 + 1) 3 (by omega) (by omega) (by omega)
    have u2 := u1 (by omega)
    have hm := (by decide +kernel : ∀ m ∈ [(⟨#[]⟩ : ByteArray), (⟨#[65]⟩ : ByteArray), (⟨#[113]⟩ : ByteArray)], m.size ≤ 12) _ (rdOf_memP (d := ByteArray.empty) (xs := [(⟨#[]⟩ : ByteArray), (⟨#[65]⟩ : ByteArray), (⟨#[113]⟩ : ByteArray)]) u0 (by simp; omega))
    exact ⟨a, b, _, s1 + 1 + 1, Ev.congr (fun k => spec_l5BentValue.f.eq_1 k _ _ _) (Ev.bind he (Ev.bind0 hv (Ev.ifn c0 (Ev.ifn c1 (Ev.ifp c2 (Ev.bind0 rfl (Ev.bind0 hu (Ev.ifp u0 (Ev.ifp (by simp; omega) (Ev.now _)))))))))), hm, by omega, by omega⟩
  · exact ⟨a, b, n, s1 + 1, Ev.congr (fun k => spec_l5BentValue.f.eq_1 k _ _ _) (Ev.bind he (Ev.bind0 hv (Ev.ifn c0 (Ev.ifn c1 (Ev.ifn c2 (Ev.now _)))))), hz, by omega, by omega⟩
theorem bentP_ev (l : List Int) (hl : okB l) : ∃ ys s', Ev (fun k => spec_l5Bent.f k l 0) (ys, s') ∧ smallP ys ∧ ys.length ≤ 5000 ∧ 0 ≤ s' ∧ s' ≤ 200000 := by
  obtain ⟨n, hn, n0, n1, _⟩ := next_eq l hl 0 10 (by omega) (by omega) (by omega)
  have n2 := n1 (by omega)
  obtain ⟨c, rfl⟩ : ∃ c : Nat, (c : Int) = n := ⟨n.toNat, Int.toNat_of_nonneg n0⟩
  obtain ⟨xs, s, hr, hx, hy, f0, f1⟩ := rightP_loop l hl c [] (0 + 1) (by omega) (fun x hx => by cases hx) (by rw [List.length_nil]; omega) (by omega) (by omega)
  simp only [List.length_nil] at hy
  have hR : Ev (fun k => spec_l5Right.f k l 0) (xs, s) := Ev.congr (fun k => spec_l5Right.f.eq_1 k _ _) (Ev.bind0 hn hr)
  obtain ⟨v, hv, _⟩ := next_eq l hl s 14 (by omega) (by omega) (by omega)
  by_cases c0 : v = 0
  · obtain ⟨a, b, m, s1, he, hz, e0, e1⟩ := bentValueP_ev l hl (s + 1) 20 (by omega) (by omega) (by omega)
    obtain ⟨a', b', m', s2, he', hz', e0', e1'⟩ := bentValueP_ev l hl s1 3 (by omega) (by omega) (by omega)
    exact ⟨_, s2, Ev.congr (fun k => spec_l5Bent.f.eq_1 k _ _) (Ev.bind hR (Ev.bind0 hv (Ev.ifp c0 (Ev.bind he (Ev.bind he' (Ev.ifp (show xs.length < 2199023255552 by omega) (Ev.now _))))))), smallP_add hx _ hz hz', by simp; omega, by omega, by omega⟩
  by_cases c1 : v = 1
  · refine ⟨_, s + 1, Ev.congr (fun k => spec_l5Bent.f.eq_1 k _ _) (Ev.bind hR (Ev.bind0 hv (Ev.ifn c0 (Ev.ifp c1 (Ev.ifp (by omega) (Ev.now _)))))), fun x hx => ?_, by rw [List.length_replicate]; omega, by omega, by omega⟩
    obtain rfl := List.eq_of_mem_replicate hx
    exact ⟨e12, e12⟩
  · exact ⟨xs, s + 1, Ev.congr (fun k => spec_l5Bent.f.eq_1 k _ _) (Ev.bind hR (Ev.bind0 hv (Ev.ifn c0 (Ev.ifn c1 (Ev.now _))))), hx, by omega, by omega, by omega⟩
end Go.Proofs.YtolhanigjmhkgacDoor.A
