/- Proved: what the program's and the reference's definitions of a global come to: the same. Conditions: those in each head. -/
import Derived.Test.YteoccmbphmiaaaaDoorGlobOkLib
import Derived.Test.YteoccmbphmiaaaaDoorB6
import Derived.Test.YteoccmbphmiaaaaDoorB10
namespace Go.Proofs.YteoccmbphmiaaaaDoor.B
open Go.RowKit Go.Proofs.YteoccmbphmiaaaaDoorW.PrintWords Go.Proofs.YteoccmbphmiaaaaDoorW.PrintLast Go.Proofs.YteoccmbphmiaaaaDoor.PL
set_option linter.unusedSimpArgs false

theorem rdG_set {xs : List S33} {i : Nat} (h : i < xs.length) (v : S33) : rd_T33 (xs.set i v) (i : Int) = v := by simp [rd_T33, h]
/-- A global at a place, with another value and the next version. -/
def upG (xs : List S33) (i : Nat) (v : S26) : List S33 := xs.set i ⟨(rd_T33 xs (i : Int)).f0, v, wrap64 ((rd_T33 xs (i : Int)).f2 + 1)⟩
/-- Globals with a value of one, and a code. -/
def putG (xs : List S33) (nm : ByteArray) (v : S26) : List S33 × Int :=
  if 0 ≤ atM xs nm then (if (rd_T33 xs (atM xs nm)).f2 ≥ 99999 then ([], 3) else (upG xs (atM xs nm).toNat v, 0)) else (if (xs.length : Int) ≥ 60 then ([], 2) else (xs ++ [⟨nm, v, 1⟩], 0))
theorem l7Put_ev (xs : List S33) (nm : ByteArray) (v : S26) (hl : xs.length ≤ 1048576) : Ev (fun k => spec_l7Put.f k xs nm v.f0 v.f1 v.f2) (putG xs nm v) := by
  refine Ev.congr (fun k => spec_l7Put.f.eq_1 k _ _ _ _ _) (Ev.bind0 rfl (Ev.ifp (by simp; omega) (Ev.bind0 rfl ?_)))
  rw [List.nil_append]
  refine Ev.bind (l7At_ev xs nm (by omega)) (Ev.iff (fun c => ?_) (fun c => ?_))
  · have c' : 0 ≤ atM xs nm := c
    have d := atM_lt xs nm
    obtain ⟨j, hj⟩ : ∃ j : Nat, (j : Int) = atM xs nm := ⟨(atM xs nm).toNat, Int.toNat_of_nonneg c'⟩
    have hj' : j < xs.length := by omega
    refine Ev.ifp c' (Ev.ifp (by omega) (Ev.iff (fun e => Ev.leaf ?_) (fun e => Ev.bind0 rfl (Ev.leaf ?_))))
    · unfold putG; rw [if_pos c', if_pos e]
    · unfold putG upG
      rw [if_pos c', if_neg e, ← hj]
      simp only [Int.toNat_natCast, rdG_set hj', List.set_set]
  · have c' : ¬ 0 ≤ atM xs nm := c
    refine Ev.iff (fun e => Ev.leaf ?_) (fun e => Ev.ifp (by omega) (Ev.leaf ?_))
    · unfold putG; rw [if_neg c', if_pos e]
    · unfold putG; rw [if_neg c', if_neg e]
theorem defined_ev (xs : List S33) (nm : ByteArray) (v : S26) (b : Bool) (hg : globM xs = 0) : Ev (fun k => impl_defined.f k xs nm v.f0 v.f1 v.f2 b) (if ¬ 0 ≤ atM xs nm ∧ b = true then ([], 4) else putG xs nm v) := by
  have hl := glob_len hg
  have d := atM_lt xs nm
  refine Ev.congr (fun k => impl_defined.f.eq_1 k _ _ _ _ _ _) (Ev.bind (globalAt_ev xs nm (by omega)) (Ev.bind0 (a := xs) (by unfold impl_Global_45.f; rw [Option.bind_some, if_pos (by simp; omega), List.nil_append]) ?_))
  have j1 : ∀ z : Bool, z = (decide (atM xs nm < 0) && ((xs.length : Int) == 60)) → Ev (fun k => impl_defined.j1 k xs nm (atM xs nm) xs z v.f0 v.f1 v.f2) (putG xs nm v) := fun z hz => by
    refine Ev.step (fun k => impl_defined.j1.eq_2 _ _ _ _ _ _ _ _ k) (Ev.iff (fun c => Ev.leaf ?_) (fun c => Ev.iff (fun c2 => Ev.ifp (by omega) (Ev.leaf ?_)) (fun c2 => ?_)))
    · rw [c] at hz
      have h2 : atM xs nm < 0 ∧ (xs.length : Int) = 60 := by simpa using hz.symm
      unfold putG; rw [if_neg (by omega), if_pos (by omega)]
    · have h2 : ¬ (xs.length : Int) = 60 := fun h => c (by rw [hz, h]; simp [c2])
      unfold putG; rw [if_neg (by omega), if_neg (by omega)]
    · obtain ⟨j, hj⟩ : ∃ j : Nat, (j : Int) = atM xs nm := ⟨(atM xs nm).toNat, Int.toNat_of_nonneg (by omega)⟩
      have hj' : j < xs.length := by omega
      have hv := glob_versions hg j hj'
      have hr : (rd_T33 xs (atM xs nm)).f2 = (xs[j]).f2 := by rw [← hj, rdG_at hj']
      refine Ev.ifp (by omega) (Ev.ifp (by omega) (Ev.iff (fun e => Ev.leaf ?_) (fun e => Ev.ifp (by omega) (Ev.bind0 rfl (Ev.leaf ?_)))))
      · unfold putG; rw [if_pos (by omega), if_pos (by omega)]
      · unfold putG upG
        rw [if_pos (by omega), if_neg (by omega), ← hj]
        simp only [Int.toNat_natCast, rdG_set hj', List.set_set]
  have j0 : ∀ z : Bool, z = (decide (atM xs nm < 0) && b) → Ev (fun k => impl_defined.j0 k xs nm (atM xs nm) xs z v.f0 v.f1 v.f2) (if ¬ 0 ≤ atM xs nm ∧ b = true then ([], 4) else putG xs nm v) := fun z hz => by
    refine Ev.step (fun k => impl_defined.j0.eq_2 _ _ _ _ _ _ _ _ k) (Ev.iff (fun c => Ev.leaf ?_) (fun c => ?_))
    · rw [c] at hz
      have h2 : atM xs nm < 0 ∧ b = true := by simpa using hz.symm
      rw [if_pos ⟨by omega, h2.2⟩]
    · rw [if_neg (fun h => c (by rw [hz, h.2]; simp; omega))]
      exact Ev.iff (fun c2 => j1 _ (by simp [c2])) (fun c2 => j1 _ (by simp [c2]))
  exact Ev.iff (fun c => j0 _ (by simp [c])) (fun c => j0 _ (by simp [c]))
/-- What a turn of a global answers. -/
def turnM (xs : List S33) (nm : ByteArray) (v : S26) (b : Bool) : Int × List S33 :=
  if nameM xs nm = 0 then (if valueM v.f0 v.f1 v.f2 = 0 then (if ¬ 0 ≤ atM xs nm ∧ b = true then (4, []) else ((putG xs nm v).2, (putG xs nm v).1)) else (valueM v.f0 v.f1 v.f2, [])) else (nameM xs nm, [])
theorem turn_ev (xs : List S33) (nm : ByteArray) (v : S26) (b : Bool) (hx : okG xs) (hn : nm.size ≤ 9223372036854775807) (hv : v.f2.size ≤ 9223372036854775807) : Ev (fun k => impl_turnGlobal.f k xs nm v.f0 v.f1 v.f2 b) (turnM xs nm v b) := by
  refine Ev.congr (fun k => impl_turnGlobal.f.eq_1 k _ _ _ _ _ _) (Ev.bind (nameFault_ev xs nm hx hn) (Ev.iff (fun c => Ev.bind (implValue_ev _ _ _ hv) (Ev.iff (fun d => Ev.bind (defined_ev xs nm v b (name_glob c)) (Ev.leaf ?_)) (fun d => Ev.leaf ?_))) (fun c => Ev.leaf ?_)))
  · unfold turnM
    rw [if_pos c, if_pos d]
    split <;> rfl
  · unfold turnM; rw [if_pos c, if_neg d]
  · unfold turnM; rw [if_neg c]
theorem turnM_len (xs : List S33) (nm : ByteArray) (v : S26) (b : Bool) : (turnM xs nm v b).2.length ≤ xs.length + 1 := by
  unfold turnM putG upG
  repeat' split
  all_goals simp
theorem turnM_len2 (xs : List S33) (nm : ByteArray) (v : S26) (b : Bool) : (turnM xs nm v b).2.length ≤ 61 := by
  by_cases c : nameM xs nm = 0
  · have h1 := turnM_len xs nm v b
    have h2 := glob_len (name_glob c)
    omega
  · unfold turnM
    rw [if_neg c]
    simp
end Go.Proofs.YteoccmbphmiaaaaDoor.B
