/- Proved: what the program's and the reference's tests of an instruction come to: the same. Conditions: those in each head. -/
import Derived.Test.YthjfdohcdkpdnaaDoorDataFLib
import Derived.Test.YthjfdohcdkpdnaaDoorPL2Lib
import Derived.Test.YthjfdohcdkpdnaaDoorA19
import Derived.Test.YthjfdohcdkpdnaaDoorA22
import Derived.Test.YthjfdohcdkpdnaaDoorA15
import Derived.Test.YthjfdohcdkpdnaaDoorA18
import Derived.Test.YthjfdohcdkpdnaaDoorA21
namespace Go.Proofs.YthjfdohcdkpdnaaDoor.A
open Go.RowKit Go.Proofs.YthjfdohcdkpdnaaDoorW.PrintWords Go.Proofs.YthjfdohcdkpdnaaDoorW.PrintLast Go.Proofs.YthjfdohcdkpdnaaDoor.PL
set_option linter.unusedSimpArgs false

/-- How many numbers a kind has. -/
def numsN (K : Int) : Nat := if K = 4 ∨ K = 5 ∨ K = 6 ∨ K = 10 ∨ K = 11 then 1 else if K = 2 ∨ K = 14 then 2 else if K = 16 then 3 else if K = 15 then 4 else 0
theorem numsN_le (K : Int) : numsN K ≤ 4 := by unfold numsN; repeat' split
                                               all_goals omega
theorem opNums_ev (K : Int) : Ev (fun k => impl_opNums.f k K) (numsN K : Int) := by
  have j1 : ∀ b : Bool, b = decide (K = 2 ∨ K = 14) → ¬ (K = 4 ∨ K = 5 ∨ K = 6 ∨ K = 10 ∨ K = 11) → Ev (fun k => impl_opNums.j1 k K b) (numsN K : Int) := fun b hb hn => by
    refine Ev.step (fun k => impl_opNums.j1.eq_2 _ _ k) (Ev.iff (fun c => Ev.leaf ?_) (fun c => Ev.iff (fun d => Ev.leaf ?_) (fun d => Ev.iff (fun e => Ev.leaf ?_) (fun e => Ev.leaf ?_))))
    all_goals simp_all [numsN]
  have j0 : ∀ b : Bool, b = decide (K = 4 ∨ K = 5 ∨ K = 6 ∨ K = 10 ∨ K = 11) → Ev (fun k => impl_opNums.j0 k K b) (numsN K : Int) := fun b hb => by
    refine Ev.step (fun k => impl_opNums.j0.eq_2 _ _ k) (Ev.iff (fun c => Ev.leaf ?_) (fun c => ?_))
    · rw [c] at hb; unfold numsN; rw [if_pos (by simpa using hb.symm)]; rfl
    · have hn : ¬ (K = 4 ∨ K = 5 ∨ K = 6 ∨ K = 10 ∨ K = 11) := fun h => c (by rw [hb]; exact decide_eq_true h)
      exact Ev.iff (fun d => j1 _ (by simp [d]) hn) (fun d => j1 _ (by by_cases z : K = 14 <;> simp [d, z]) hn)
  refine Ev.congr (fun k => impl_opNums.f.eq_1 k _) (Ev.iff (fun c => j0 _ (by simp [c])) (fun c => Ev.iff (fun d => j0 _ (by simp [d])) (fun d => Ev.iff (fun e => j0 _ (by simp [e])) (fun e => Ev.iff (fun f => j0 _ (by simp [f])) (fun f => j0 _ ?_)))))
  by_cases z : K = 11 <;> simp [c, d, e, f, z]
theorem l9Nums_ev (K : Int) : Ev (fun k => spec_l9Nums.f k K) (numsN K : Int) := by
  have j1 : ∀ b : Bool, b = decide (K = 2 ∨ K = 14) → ¬ (K = 4 ∨ K = 5 ∨ K = 6 ∨ K = 10 ∨ K = 11) → Ev (fun k => spec_l9Nums.j1 k K b) (numsN K : Int) := fun b hb hn => by
    refine Ev.step (fun k => spec_l9Nums.j1.eq_2 _ _ k) (Ev.iff (fun c => Ev.leaf ?_) (fun c => Ev.iff (fun d => Ev.leaf ?_) (fun d => Ev.iff (fun e => Ev.leaf ?_) (fun e => Ev.leaf ?_))))
    all_goals simp_all [numsN]
  have j0 : ∀ b : Bool, b = decide (K = 4 ∨ K = 5 ∨ K = 6 ∨ K = 10 ∨ K = 11) → Ev (fun k => spec_l9Nums.j0 k K b) (numsN K : Int) := fun b hb => by
    refine Ev.step (fun k => spec_l9Nums.j0.eq_2 _ _ k) (Ev.iff (fun c => Ev.leaf ?_) (fun c => ?_))
    · rw [c] at hb; unfold numsN; rw [if_pos (by simpa using hb.symm)]; rfl
    · have hn : ¬ (K = 4 ∨ K = 5 ∨ K = 6 ∨ K = 10 ∨ K = 11) := fun h => c (by rw [hb]; exact decide_eq_true h)
      exact Ev.iff (fun d => j1 _ (by simp [d]) hn) (fun d => j1 _ (by by_cases z : K = 14 <;> simp [d, z]) hn)
  refine Ev.congr (fun k => spec_l9Nums.f.eq_1 k _) (Ev.iff (fun c => j0 _ (by simp [c])) (fun c => Ev.iff (fun d => j0 _ (by simp [d])) (fun d => Ev.iff (fun e => j0 _ (by simp [e])) (fun e => Ev.iff (fun f => j0 _ (by simp [f])) (fun f => j0 _ ?_)))))
  by_cases z : K = 11 <;> simp [c, d, e, f, z]
theorem rdN_at {xs : List Int} {i : Nat} (h : i < xs.length) : rd xs (i : Int) = xs[i] := by simp [rd, h]
theorem idx_any (p : Int → Bool) (l : List Int) : ∀ d i, i + d = l.length → decide (runU (fun i => if p (rd l (i : Int)) = true then some (i : Int) else none) (-1) d i ≥ 0) = (l.drop i).any p
  | 0, i, h => by rw [List.drop_of_length_le (by omega)]; rfl
  | d + 1, i, h => by
    have hi : i < l.length := by omega
    rw [List.drop_eq_getElem_cons hi]
    simp only [runU, List.any_cons, rdN_at hi]
    by_cases c : p l[i] = true
    · rw [if_pos c, c]; simp
    · rw [if_neg c]
      simp only [Bool.not_eq_true] at c
      rw [c, Bool.false_or]
      exact idx_any p l d (i + 1) (by omega)
theorem any1_ev (l : List Int) (hl : l.length ≤ 1048576) : Ev (fun k => slices_ContainsFunc_int64_int64__impl_OpFault_1.f k l) (l.any (· != 0)) := by
  refine Ev.congr (fun k => slices_ContainsFunc_int64_int64__impl_OpFault_1.f.eq_1 k _) (Ev.bind (Ev.congr (fun k => slices_IndexFunc_int64_int64__impl_OpFault_1.f.eq_1 k _) (loopO l.length (fun k i => slices_IndexFunc_int64_int64__impl_OpFault_1.l0 k l (l.length : Int) i) (fun i => if (rd l (i : Int) != 0) = true then some (i : Int) else none) (-1) (fun i hi r hr => ?_) (Ev.step (fun k => slices_IndexFunc_int64_int64__impl_OpFault_1.l0.eq_2 _ _ _ k) (Ev.ifn (by omega) (Ev.now _))) l.length 0 (by omega))) (Ev.leaf (by have := idx_any (· != 0) l l.length 0 (by omega); rw [List.drop_zero] at this; exact this)))
  refine Ev.step (fun k => slices_IndexFunc_int64_int64__impl_OpFault_1.l0.eq_2 _ _ _ k) (Ev.ifp (by omega) (Ev.ifp (by omega) (Ev.ifp (by omega) (Ev.bind0 rfl ?_))))
  rw [wrap_succ hi (by omega)]
  exact Ev.iff (fun c => Ev.stop hr (if_pos c)) (fun c => Ev.go hr (if_neg c))
theorem any2_ev (l : List Int) (hl : l.length ≤ 1048576) : Ev (fun k => slices_ContainsFunc_int64_int64__impl_OpFault_2.f k l) (l.any (fun n => !inB n 0 999)) := by
  refine Ev.congr (fun k => slices_ContainsFunc_int64_int64__impl_OpFault_2.f.eq_1 k _) (Ev.bind (Ev.congr (fun k => slices_IndexFunc_int64_int64__impl_OpFault_2.f.eq_1 k _) (loopO l.length (fun k i => slices_IndexFunc_int64_int64__impl_OpFault_2.l0 k l (l.length : Int) i) (fun i => if (!inB (rd l (i : Int)) 0 999) = true then some (i : Int) else none) (-1) (fun i hi r hr => ?_) (Ev.step (fun k => slices_IndexFunc_int64_int64__impl_OpFault_2.l0.eq_2 _ _ _ k) (Ev.ifn (by omega) (Ev.now _))) l.length 0 (by omega))) (Ev.leaf (by have := idx_any (fun n => !inB n 0 999) l l.length 0 (by omega); rw [List.drop_zero] at this; exact this)))
  refine Ev.step (fun k => slices_IndexFunc_int64_int64__impl_OpFault_2.l0.eq_2 _ _ _ k) (Ev.ifp (by omega) (Ev.ifp (by omega) (Ev.ifp (by omega) (Ev.bind0 (a := !inB (rd l (i : Int)) 0 999) (by unfold impl_OpFault_2.f; rw [in_eq, Option.bind_some]) ?_))))
  rw [wrap_succ hi (by omega)]
  exact Ev.iff (fun c => Ev.stop hr (if_pos c)) (fun c => Ev.go hr (if_neg c))
def namedB (K : Int) : Bool := K == 3 || K == 8 || K == 9
def constB (K : Int) : Bool := K == 1 || K == 13
theorem opNamed_eq (K : Int) : impl_opNamed.f K = some (namedB K) := by unfold impl_opNamed.f namedB; by_cases h : K = 3 <;> by_cases h2 : K = 8 <;> simp [h, h2]
theorem l9Named_eq (K : Int) : spec_l9Named.f K = some (namedB K) := by unfold spec_l9Named.f namedB; by_cases h : K = 3 <;> by_cases h2 : K = 8 <;> simp [h, h2]
theorem opData_eq (K : Int) : impl_opData.f K = some (constB K) := by unfold impl_opData.f constB; by_cases h : K = 1 <;> simp [h]
theorem l9Const_eq (K : Int) : spec_l9Const.f K = some (constB K) := by unfold spec_l9Const.f constB; by_cases h : K = 1 <;> simp [h]
/-- The fault of an instruction's last parts. -/
def opEnd (K : Int) (s : ByteArray) (xs : List S132) : Int := if namedB K = true then symM s else if constB K = true then dataM xs else 0
def opBad (K : Int) (s : ByteArray) (xs : List S132) : Bool := (!s.toList.isEmpty && !namedB K) || (decide ((xs.length : Int) > 0) && !constB K)
def opFar (K a : Int) : Bool := (K == 10 || K == 11) && decide (a > 3)
/-- The fault of an instruction. -/
def opM (K a b c d : Int) (s : ByteArray) (xs : List S132) : Int :=
  if inB K 1 16 = true then (if ([a, b, c, d].drop (numsN K)).any (· != 0) = true then 1 else if opBad K s xs = true then 1 else if [a, b, c, d].any (fun n => !inB n 0 999) = true then 3 else if opFar K a = true then 3 else opEnd K s xs) else 1
theorem implOp_j1 (K a b c d : Int) (s : ByteArray) (xs : List S132) (hx : okD xs) (hs : s.size ≤ 9223372036854775807) (z : Bool) : Ev (fun k => impl_OpFault.j1 k z K a b c d s xs) (if z = true then 3 else opEnd K s xs) := by
  refine Ev.step (fun k => impl_OpFault.j1.eq_2 _ _ _ _ _ _ _ _ k) (Ev.iff (fun e => Ev.leaf (by rw [if_pos e])) (fun e => ?_))
  rw [if_neg e]
  refine Ev.bind0 (opNamed_eq K) (Ev.iff (fun e1 => Ev.bind0 (SymFault_eq s hs) (Ev.leaf ?_)) (fun e1 => Ev.bind0 (opData_eq K) (Ev.iff (fun e2 => Ev.bind (implData_ev xs hx) (Ev.leaf ?_)) (fun e2 => Ev.leaf ?_))))
  · unfold opEnd; rw [if_pos e1]
  · unfold opEnd; rw [if_neg e1, if_pos e2]
  · unfold opEnd; rw [if_neg e1, if_neg e2]
theorem implOp_j0 (K a b c d : Int) (s : ByteArray) (xs : List S132) (hx : okD xs) (hs : s.size ≤ 9223372036854775807) (z : Bool) : Ev (fun k => impl_OpFault.j0 k [a, b, c, d] z K a b c d s xs) (if z = true then 1 else if [a, b, c, d].any (fun n => !inB n 0 999) = true then 3 else if opFar K a = true then 3 else opEnd K s xs) := by
  refine Ev.step (fun k => impl_OpFault.j0.eq_2 _ _ _ _ _ _ _ _ _ k) (Ev.iff (fun e => Ev.leaf (by rw [if_pos e])) (fun e => ?_))
  rw [if_neg e]
  have j := implOp_j1 K a b c d s xs hx hs
  refine Ev.bind (any2_ev [a, b, c, d] (by simp)) (Ev.iff (fun e1 => ?_) (fun e1 => ?_))
  · rw [if_pos e1]; exact Ev.cast (j true) (if_pos rfl)
  · rw [if_neg e1]
    refine Ev.iff (fun e2 => Ev.cast (j _) ?_) (fun e2 => Ev.iff (fun e3 => Ev.cast (j _) ?_) (fun e3 => Ev.cast (j _) ?_))
    all_goals simp [opFar, *]
theorem implOpFault_ev (K a b c d : Int) (s : ByteArray) (xs : List S132) (hx : okD xs) (hs : s.size ≤ 9223372036854775807) (hl : xs.length ≤ 1048576) : Ev (fun k => impl_OpFault.f k K a b c d s xs) (opM K a b c d s xs) := by
  have j := implOp_j0 K a b c d s xs hx hs
  have hn := numsN_le K
  refine Ev.congr (fun k => impl_OpFault.f.eq_1 k _ _ _ _ _ _ _) (Ev.bind0 rfl (Ev.bind0 (in_eq _ _ _) (Ev.iff (fun e => Ev.bind (opNums_ev K) (Ev.ifp (by omega) (Ev.ifp (by simp; omega) ?_))) (fun e => Ev.cast (j true) ?_))))
  · rw [Int.toNat_natCast]
    refine Ev.bind (any1_ev _ (by simp; omega)) ?_
    have fin : ∀ z : Bool, z = (([a, b, c, d].drop (numsN K)).any (· != 0) || opBad K s xs) → Ev (fun k => impl_OpFault.j0 k [a, b, c, d] z K a b c d s xs) (opM K a b c d s xs) := fun z hz => by
      refine Ev.cast (j z) ?_
      unfold opM
      rw [if_pos e, hz]
      cases ([a, b, c, d].drop (numsN K)).any (· != 0) <;> cases opBad K s xs <;> simp
    refine Ev.iff (fun e1 => fin _ (by rw [e1]; rfl)) (fun e1 => ?_)
    simp only [Bool.not_eq_true] at e1
    refine Ev.iff (fun e2 => Ev.iff (fun e3 => Ev.bind0 (opData_eq K) (fin _ ?_)) (fun e3 => fin _ ?_)) (fun e2 => Ev.bind0 (opNamed_eq K) (Ev.iff (fun e4 => Ev.iff (fun e3 => Ev.bind0 (opData_eq K) (fin _ ?_)) (fun e3 => fin _ ?_)) (fun e4 => fin _ ?_)))
    all_goals rw [e1]
    all_goals by_cases e3' : 0 < xs.length
    all_goals first | (exfalso; omega) | (simp [opBad, *]; done)
  · unfold opM; rw [if_neg e, if_pos rfl]
theorem specOp_j4 (K a b c d : Int) (s : ByteArray) (xs : List S132) (hx : okD xs) (z : Bool) : Ev (fun k => spec_l9Op.j4 k z K a b c d s xs) (if z = true then 5 else if constB K = true then dataM xs else 0) := by
  refine Ev.step (fun k => spec_l9Op.j4.eq_2 _ _ _ _ _ _ _ _ k) (Ev.iff (fun e => Ev.leaf (by rw [if_pos e])) (fun e => ?_))
  rw [if_neg e]
  refine Ev.bind0 (l9Const_eq K) (Ev.iff (fun e2 => Ev.bind (l3Fault_ev xs hx) (Ev.leaf ?_)) (fun e2 => Ev.leaf ?_))
  · rw [if_pos e2]
  · rw [if_neg e2]
theorem specOp_j3 (K a b c d : Int) (s : ByteArray) (xs : List S132) (hx : okD xs) (hs : s.size ≤ 9223372036854775807) (z : Bool) : Ev (fun k => spec_l9Op.j3 k z K a b c d s xs) (if z = true then 3 else opEnd K s xs) := by
  refine Ev.step (fun k => spec_l9Op.j3.eq_2 _ _ _ _ _ _ _ _ k) (Ev.iff (fun e => Ev.leaf (by rw [if_pos e])) (fun e => ?_))
  rw [if_neg e]
  have j := specOp_j4 K a b c d s xs hx
  refine Ev.bind0 (l9Named_eq K) (Ev.iff (fun e1 => Ev.bind (l2Sym_ev s hs) (Ev.cast (j _) ?_)) (fun e1 => Ev.cast (j _) ?_))
  · unfold opEnd symM
    rw [if_pos e1]
    have hc : constB K = false := by unfold namedB at e1; unfold constB; simp at e1 ⊢; omega
    cases symB s <;> simp [hc]
  · unfold opEnd
    rw [if_neg e1]
    simp
theorem specOp_l1 (K a b c d : Int) (s : ByteArray) (xs : List S132) (hx : okD xs) (hs : s.size ≤ 9223372036854775807) : ∀ (d' i : Nat), i + d' = 4 → Ev (fun k => spec_l9Op.l1 k [a, b, c, d] (i : Int) K a b c d s xs) (if ([a, b, c, d].drop i).any (fun n => !inB n 0 999) = true then 3 else if opFar K a = true then 3 else opEnd K s xs)
  | 0, i, h => by
    obtain rfl : i = 4 := by omega
    have j := specOp_j3 K a b c d s xs hx hs
    rw [if_neg (by simp)]
    refine Ev.step (fun k => spec_l9Op.l1.eq_2 _ _ _ _ _ _ _ _ _ k) (Ev.ifn (by omega) (Ev.iff (fun e2 => Ev.cast (j _) ?_) (fun e2 => Ev.iff (fun e3 => Ev.cast (j _) ?_) (fun e3 => Ev.cast (j _) ?_))))
    all_goals simp [opFar, *]
  | d' + 1, i, h => by
    have hi : i < [a, b, c, d].length := by simp; omega
    have hl : ([a, b, c, d].length : Int) = 4 := rfl
    refine Ev.step (fun k => spec_l9Op.l1.eq_2 _ _ _ _ _ _ _ _ _ k) (Ev.ifp (by omega) (Ev.ifp (by omega) (Ev.ifp (by omega) (Ev.bind0 (l1In_eq _ _ _) ?_))))
    rw [wrap_succ hi (by simp), List.drop_eq_getElem_cons hi, List.any_cons, rdN_at hi]
    refine Ev.iff (fun e => ?_) (fun e => Ev.leaf ?_)
    · rw [e]
      simp only [Bool.not_true, Bool.false_or]
      exact specOp_l1 K a b c d s xs hx hs d' (i + 1) (by omega)
    · simp only [Bool.not_eq_true] at e
      rw [e]; simp
theorem specOp_l0 (K a b c d : Int) (s : ByteArray) (xs : List S132) (hx : okD xs) (hs : s.size ≤ 9223372036854775807) : ∀ (d' i : Nat), i + d' = 4 → Ev (fun k => spec_l9Op.l0 k [a, b, c, d] (i : Int) K a b c d s xs) (if ([a, b, c, d].drop i).any (· != 0) = true then 1 else if opBad K s xs = true then 1 else if [a, b, c, d].any (fun n => !inB n 0 999) = true then 3 else if opFar K a = true then 3 else opEnd K s xs)
  | 0, i, h => by
    obtain rfl : i = 4 := by omega
    have l := specOp_l1 K a b c d s xs hx hs 4 0 (by omega)
    rw [List.drop_zero] at l
    have j1 : ∀ z : Bool, z = opBad K s xs → Ev (fun k => spec_l9Op.j1 k [a, b, c, d] z K a b c d s xs) (if opBad K s xs = true then 1 else if [a, b, c, d].any (fun n => !inB n 0 999) = true then 3 else if opFar K a = true then 3 else opEnd K s xs) := fun z hz => by
      subst hz
      refine Ev.step (fun k => spec_l9Op.j1.eq_2 _ _ _ _ _ _ _ _ _ k) (Ev.iff (fun e => Ev.leaf (by rw [if_pos e])) (fun e => ?_))
      rw [if_neg e]
      exact l
    rw [if_neg (by simp)]
    refine Ev.step (fun k => spec_l9Op.l0.eq_2 _ _ _ _ _ _ _ _ _ k) (Ev.ifn (by omega) (Ev.bind0 (l9Named_eq K) (Ev.iff (fun e => Ev.bind0 (l9Const_eq K) (Ev.iff (fun e1 => j1 _ ?_) (fun e1 => j1 _ ?_))) (fun e => Ev.iff (fun e2 => Ev.bind0 (l9Const_eq K) (Ev.iff (fun e1 => j1 _ ?_) (fun e1 => j1 _ ?_))) (fun e2 => j1 _ ?_)))))
    all_goals simp [opBad, *]
  | d' + 1, i, h => by
    have hi : i < [a, b, c, d].length := by simp; omega
    have hl : ([a, b, c, d].length : Int) = 4 := rfl
    refine Ev.step (fun k => spec_l9Op.l0.eq_2 _ _ _ _ _ _ _ _ _ k) (Ev.ifp (by omega) (Ev.ifp (by omega) (Ev.ifp (by omega) ?_)))
    rw [wrap_succ hi (by simp), List.drop_eq_getElem_cons hi, List.any_cons, rdN_at hi]
    refine Ev.iff (fun e => ?_) (fun e => Ev.leaf ?_)
    · rw [e]
      have z : ((0 : Int) != 0) = false := rfl
      rw [z, Bool.false_or]
      exact specOp_l0 K a b c d s xs hx hs d' (i + 1) (by omega)
    · rw [show ([a, b, c, d][i] != 0) = true from bne_iff_ne.mpr e]; simp
theorem specOpFault_ev (K a b c d : Int) (s : ByteArray) (xs : List S132) (hx : okD xs) (hs : s.size ≤ 9223372036854775807) : Ev (fun k => spec_OpFault.f k K a b c d s xs) (opM K a b c d s xs) := by
  have hn := numsN_le K
  refine Ev.congr (fun k => spec_OpFault.f.eq_1 k _ _ _ _ _ _ _) (Ev.bind (a := opM K a b c d s xs) (Ev.congr (fun k => spec_l9Op.f.eq_1 k _ _ _ _ _ _ _) (Ev.bind0 (l1In_eq _ _ _) (Ev.iff (fun e => Ev.bind0 rfl (Ev.bind (l9Nums_ev K) ?_)) (fun e => Ev.leaf ?_)))) (Ev.now _))
  · unfold opM
    rw [if_pos e]
    exact specOp_l0 K a b c d s xs hx hs (4 - numsN K) (numsN K) (by omega)
  · unfold opM; rw [if_neg e]
end Go.Proofs.YthjfdohcdkpdnaaDoor.A
