/- Proved: what the program's and the reference's tests of numbers and values come to. Conditions: those in each head. -/
import Derived.Test.YthlgmdbfhkcghaaDoorSymLib
import Derived.Test.YthlgmdbfhkcghaaDoorNumLib
import Derived.Test.YthlgmdbfhkcghaaDoorL5
import Derived.Test.YthlgmdbfhkcghaaDoorL2
import Derived.Test.YthlgmdbfhkcghaaDoorL3
import Derived.Test.YthlgmdbfhkcghaaDoorL4
namespace Go.Proofs.YthlgmdbfhkcghaaDoor.L
open Go.RowKit Go.Proofs.YthlgmdbfhkcghaaDoorW.PrintWords Go.Proofs.YthlgmdbfhkcghaaDoorW.PrintLast Go.Proofs.YthlgmdbfhkcghaaDoor.PL
set_option linter.unusedSimpArgs false

/-- The fault of what a number, a bool or a name has. -/
def kindM (K a1 a2 a3 N : Int) (s : ByteArray) : Int := if K = a1 then numM N else if K = a3 then (if inB N 0 1 = true then 0 else 3) else if K = a2 then symM s else 0
theorem kindFault_eq (K a1 a2 a3 N : Int) (s : ByteArray) (hs : s.size ≤ 9223372036854775807) : impl_kindFault.f K a1 a2 a3 N s = some (kindM K a1 a2 a3 N s) := by
  unfold impl_kindFault.f kindM
  by_cases h1 : K = a1
  · rw [if_pos h1, if_pos h1, NumFault_eq, Option.bind_some]
  · rw [if_neg h1, if_neg h1]
    by_cases h3 : K = a3
    · rw [if_pos h3, if_pos h3, in_eq, Option.bind_some]
      split <;> rfl
    · rw [if_neg h3, if_neg h3]
      by_cases h2 : K = a2
      · rw [if_pos h2, if_pos h2, SymFault_eq s hs, Option.bind_some]
      · rw [if_neg h2, if_neg h2]
theorem isPlaced_eq (K : Int) : impl_isPlaced.f K = some (inB K 5 8) := by
  unfold impl_isPlaced.f
  rw [in_eq, Option.bind_some]
theorem l5Placed_eq (K : Int) : spec_l5Placed.f K = some (inB K 5 8) := by
  unfold spec_l5Placed.f
  rw [l1In_eq, Option.bind_some]
/-- A value's form is wrong. -/
def formB (K N : Int) (s : ByteArray) : Bool := !inB K 1 9 || (N != 0 && !inB K 5 8 && K != 1 && K != 2) || (!s.toList.isEmpty && K != 4)
/-- A value's number is out of range. -/
def rangeB (K N : Int) : Bool := (K == 1 && !numB N) || (K == 2 && !inB N 0 1) || (inB K 5 8 && !inB N 0 99999)
def valueM (K N : Int) (s : ByteArray) : Int := if formB K N s = true then 1 else if rangeB K N = true then 3 else if K = 4 then symM s else 0
theorem rest_eq (K N : Int) (s : ByteArray) : (if inB K 5 8 = true then (if inB N 0 99999 = true then kindM K 1 4 2 N s else 3) else kindM K 1 4 2 N s) = if rangeB K N = true then 3 else if K = 4 then symM s else 0 := by
  have p5 : ∀ z : Int, z < 5 → inB z 5 8 = false := fun z hz => inB_f.mpr (by omega)
  by_cases h1 : K = 1
  · subst h1
    simp only [rangeB, kindM, numM, p5 1 (by omega)]
    cases numB N <;> simp
  · by_cases h2 : K = 2
    · subst h2
      simp only [rangeB, kindM, p5 2 (by omega)]
      cases inB N 0 1 <;> simp
    · have hk : kindM K 1 4 2 N s = if K = 4 then symM s else 0 := by unfold kindM; rw [if_neg h1, if_neg h2]
      rw [hk]
      have hr : rangeB K N = (inB K 5 8 && !inB N 0 99999) := by simp [rangeB, h1, h2]
      rw [hr]
      cases inB K 5 8 <;> cases inB N 0 99999 <;> simp
theorem implValue_ev (K N : Int) (s : ByteArray) (hs : s.size ≤ 9223372036854775807) : Ev (fun k => impl_ValueFault.f k K N s) (valueM K N s) := by
  have j0 : ∀ b : Bool, Ev (fun k => impl_ValueFault.j0 k b K N s) (if b = true then 1 else if rangeB K N = true then 3 else if K = 4 then symM s else 0) := fun b => by
    refine Ev.step (fun k => impl_ValueFault.j0.eq_2 _ _ _ _ k) (Ev.iff (fun h => Ev.leaf (by rw [if_pos h])) (fun h => ?_))
    rw [if_neg h, ← rest_eq]
    refine Ev.bind0 (isPlaced_eq _) (Ev.iff (fun h1 => ?_) (fun h1 => ?_))
    · rw [if_pos h1]
      refine Ev.bind0 (in_eq _ _ _) (Ev.iff (fun h2 => ?_) (fun h2 => ?_))
      · rw [if_pos h2]; exact Ev.bind0 (kindFault_eq _ _ _ _ _ _ hs) (Ev.now _)
      · rw [if_neg h2]; exact Ev.now _
    · rw [if_neg h1]; exact Ev.bind0 (kindFault_eq _ _ _ _ _ _ hs) (Ev.now _)
  have fin : ∀ b : Bool, b = formB K N s → Ev (fun k => impl_ValueFault.j0 k b K N s) (valueM K N s) := fun b hb => by subst hb; exact j0 _
  refine Ev.congr (fun k => impl_ValueFault.f.eq_1 k _ _ _) (Ev.bind0 (in_eq _ _ _) ?_)
  repeat' first
    | refine Ev.iff (fun _ => ?_) (fun _ => ?_)
    | refine Ev.bind0 (isPlaced_eq _) ?_
    | refine fin _ ?_
  all_goals simp_all [formB]
theorem l5Fault_ev (K N : Int) (s : ByteArray) (hs : s.size ≤ 9223372036854775807) : Ev (fun k => spec_l5Fault.f k K N s) (valueM K N s) := by
  have j2 : ∀ b : Bool, Ev (fun k => spec_l5Fault.j2 k b K N s) (if b = true then 3 else if K = 4 then symM s else 0) := fun b => by
    refine Ev.step (fun k => spec_l5Fault.j2.eq_2 _ _ _ _ k) (Ev.iff (fun h => Ev.leaf (by rw [if_pos h])) (fun h => ?_))
    rw [if_neg h]
    refine Ev.iff (fun h => ?_) (fun h => Ev.leaf (by rw [if_neg h]))
    rw [if_pos h]
    exact Ev.bind (l2Sym_ev s hs) (Ev.iff (fun c => Ev.leaf (by unfold symM; rw [if_pos c])) (fun c => Ev.leaf (by unfold symM; rw [if_neg c])))
  have fin2 : ∀ b : Bool, b = rangeB K N → Ev (fun k => spec_l5Fault.j2 k b K N s) (if rangeB K N = true then 3 else if K = 4 then symM s else 0) := fun b hb => by subst hb; exact j2 _
  have j1 : ∀ b : Bool, Ev (fun k => spec_l5Fault.j1 k b K N s) (if b = true then 1 else if rangeB K N = true then 3 else if K = 4 then symM s else 0) := fun b => by
    refine Ev.step (fun k => spec_l5Fault.j1.eq_2 _ _ _ _ k) (Ev.iff (fun h => Ev.leaf (by rw [if_pos h])) (fun h => ?_))
    rw [if_neg h]
    repeat' first
      | refine Ev.iff (fun _ => ?_) (fun _ => ?_)
      | refine Ev.bind0 (l5Placed_eq _) ?_
      | refine Ev.bind0 (l1Num_eq _) ?_
      | refine Ev.bind0 (l1In_eq _ _ _) ?_
      | refine fin2 _ ?_
    all_goals simp_all [rangeB]
  have fin1 : ∀ b : Bool, b = formB K N s → Ev (fun k => spec_l5Fault.j1 k b K N s) (valueM K N s) := fun b hb => by subst hb; exact j1 _
  have j0 : ∀ b : Bool, b = (K == 1 || K == 2 || inB K 5 8) → Ev (fun k => spec_l5Fault.j0 k b K N s) (valueM K N s) := fun b hb => by
    refine Ev.step (fun k => spec_l5Fault.j0.eq_2 _ _ _ _ k) (Ev.bind0 (l1In_eq _ _ _) ?_)
    repeat' first
      | refine Ev.iff (fun _ => ?_) (fun _ => ?_)
      | refine fin1 _ ?_
    all_goals clear j2 fin2 j1 fin1
    all_goals (cases h9 : inB K 1 9 <;> cases h5 : inB K 5 8 <;> (try simp_all [formB, ne_nil_b]) <;> (rcases hb with rfl | rfl <;> simp_all))
  refine Ev.congr (fun k => spec_l5Fault.f.eq_1 k _ _ _) ?_
  repeat' first
    | refine Ev.iff (fun _ => ?_) (fun _ => ?_)
    | refine Ev.bind0 (l5Placed_eq _) ?_
    | refine j0 _ ?_
  all_goals simp_all
end Go.Proofs.YthlgmdbfhkcghaaDoor.L
