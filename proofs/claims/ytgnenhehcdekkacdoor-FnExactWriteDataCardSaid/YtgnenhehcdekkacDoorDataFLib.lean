/- Proved: what the program's and the reference's tests of data come to. Conditions: those in each head. -/
import Derived.Test.YtgnenhehcdekkacDoorValueLib
import Derived.Test.YtgnenhehcdekkacDoorA3
import Derived.Test.YtgnenhehcdekkacDoorA7
import Derived.Test.YtgnenhehcdekkacDoorA1
import Derived.Test.YtgnenhehcdekkacDoorA2
import Derived.Test.YtgnenhehcdekkacDoorA5
import Derived.Test.YtgnenhehcdekkacDoorA6
namespace Go.Proofs.YtgnenhehcdekkacDoor.A
open Go.RowKit Go.Proofs.YtgnenhehcdekkacDoorW.PrintWords Go.Proofs.YtgnenhehcdekkacDoorW.PrintLast Go.Proofs.YtgnenhehcdekkacDoor.PL
set_option linter.unusedSimpArgs false

theorem rdDf_at {xs : List S37} {i : Nat} (h : i < xs.length) : rd_T37 xs (i : Int) = xs[i] := by simp [rd_T37, h]
/-- The parent and the kind at a place. -/
def parD (xs : List S37) (at_ : Int) : Int := (rd_T37 xs at_).f1
def kindD (xs : List S37) (at_ : Int) : Int := (rd_T37 xs at_).f0
def upB (xs : List S37) : Nat → Int → Int → Bool
  | 0, _, _ => false
  | d + 1, at_, to_ => if 0 ≤ at_ then (if at_ = to_ then true else upB xs d (parD xs at_) to_) else false
def deepN (xs : List S37) : Nat → Int → Int → Int
  | 0, _, c => c
  | d + 1, at_, c => if 0 ≤ at_ then deepN xs d (parD xs at_) (c + 1) else c
/-- Up to n, each parent lies ahead. -/
def Ahead (xs : List S37) (n : Nat) : Prop := ∀ j : Nat, j < n → parD xs j < j
theorem isUp_ev (xs : List S37) (to_ : Int) (n : Nat) (hn : n ≤ xs.length) (hA : Ahead xs n) : ∀ (d : Nat) (at_ : Int), at_ < d → at_ < n → Ev (fun k => impl_isUp__impl_datumFault_1.l0 k to_ at_ xs) (upB xs d at_ to_)
  | 0, at_, h0, h1 => Ev.step (fun k => impl_isUp__impl_datumFault_1.l0.eq_2 _ _ _ k) (Ev.ifn (by omega) (Ev.now _))
  | d + 1, at_, h0, h1 => by
    refine Ev.step (fun k => impl_isUp__impl_datumFault_1.l0.eq_2 _ _ _ k) (Ev.iff (fun c => Ev.iff (fun e => Ev.leaf (by simp only [upB]; rw [if_pos c, if_pos e])) (fun e => ?_)) (fun c => Ev.leaf (by simp only [upB]; rw [if_neg c])))
    have hp : parD xs at_ < at_ := by
      have := hA at_.toNat (by omega)
      rwa [Int.toNat_of_nonneg c] at this
    refine Ev.bind0 (a := parD xs at_) (by unfold impl_datumFault_1.f; rw [if_pos c, if_pos (by omega)]; rfl) ?_
    simp only [upB]
    rw [if_pos c, if_neg e]
    exact isUp_ev xs to_ n hn hA d _ (by omega) (by omega)
theorem l3Line_ev (xs : List S37) (i : Int) (hi0 : 0 ≤ i) (hi1 : i < xs.length) (n : Nat) (hn : n ≤ xs.length) (hA : Ahead xs n) : ∀ (d : Nat) (at_ : Int), at_ < d → at_ < n → Ev (fun k => spec_l3Line.l0 k xs i at_) (upB xs d at_ (parD xs i) && kindD xs (parD xs i) == 4)
  | 0, at_, h0, h1 => Ev.step (fun k => spec_l3Line.l0.eq_2 _ _ _ k) (Ev.ifn (by omega) (Ev.now _))
  | d + 1, at_, h0, h1 => by
    refine Ev.step (fun k => spec_l3Line.l0.eq_2 _ _ _ k) (Ev.iff (fun c => Ev.ifp hi0 (Ev.ifp hi1 (Ev.iff (fun e => Ev.ifp c (Ev.ifp (by omega) (Ev.leaf ?_))) (fun e => Ev.ifp c (Ev.ifp (by omega) ?_))))) (fun c => Ev.leaf (by simp only [upB]; rw [if_neg c]; rfl)))
    · have e' : at_ = parD xs i := e
      simp only [upB]
      rw [if_pos c, if_pos e', Bool.true_and, ← e']
      rfl
    · have hp : parD xs at_ < at_ := by
        have := hA at_.toNat (by omega)
        rwa [Int.toNat_of_nonneg c] at this
      have hp' : (rd_T37 xs at_).f1 < at_ := hp
      have e' : ¬ at_ = parD xs i := e
      simp only [upB]
      rw [if_pos c, if_neg e']
      exact l3Line_ev xs i hi0 hi1 n hn hA d _ (by omega) (by omega)
theorem deep_ev (xs : List S37) (n : Nat) (hn : n ≤ xs.length) (hA : Ahead xs n) : ∀ (d : Nat) (at_ c : Int), at_ < d → at_ < n → 0 ≤ c → c + at_ < 1000000 → Ev (fun k => impl_deep.l0 k xs at_ c) (deepN xs d at_ c)
  | 0, at_, c, h0, h1, h2, h3 => Ev.step (fun k => impl_deep.l0.eq_2 _ _ _ k) (Ev.ifn (by omega) (Ev.now _))
  | d + 1, at_, c, h0, h1, h2, h3 => by
    refine Ev.step (fun k => impl_deep.l0.eq_2 _ _ _ k) (Ev.iff (fun e => Ev.ifp e (Ev.ifp (by omega) ?_)) (fun e => Ev.leaf (by simp only [deepN]; rw [if_neg e])))
    have hp : parD xs at_ < at_ := by
      have := hA at_.toNat (by omega)
      rwa [Int.toNat_of_nonneg e] at this
    have hp' : (rd_T37 xs at_).f1 < at_ := hp
    rw [wrap_id (by omega) (by omega)]
    simp only [deepN]
    rw [if_pos e]
    exact deep_ev xs n hn hA d _ _ (by omega) (by omega) (by omega) (by omega)
theorem l3Deep_ev (xs : List S37) (n : Nat) (hn : n ≤ xs.length) (hA : Ahead xs n) : ∀ (d : Nat) (at_ c : Int), at_ < d → at_ < n → 0 ≤ c → c + at_ < 100 → Ev (fun k => spec_l3Deep.l0 k xs at_ c) (deepN xs d at_ c)
  | 0, at_, c, h0, h1, h2, h3 => Ev.step (fun k => spec_l3Deep.l0.eq_2 _ _ _ k) (Ev.ifn (by omega) (Ev.now _))
  | d + 1, at_, c, h0, h1, h2, h3 => by
    refine Ev.step (fun k => spec_l3Deep.l0.eq_2 _ _ _ k) (Ev.iff (fun e => Ev.ifp (by omega) (Ev.ifp e (Ev.ifp (by omega) ?_))) (fun e => Ev.leaf (by simp only [deepN]; rw [if_neg e])))
    have hp : parD xs at_ < at_ := by
      have := hA at_.toNat (by omega)
      rwa [Int.toNat_of_nonneg e] at this
    have hp' : (rd_T37 xs at_).f1 < at_ := hp
    rw [wrap_id (by omega) (by omega)]
    simp only [deepN]
    rw [if_pos e]
    exact l3Deep_ev xs n hn hA d _ _ (by omega) (by omega) (by omega) (by omega)
/-- A datum has nothing that its kind has not. -/
def bareB (K N : Int) (s : ByteArray) : Bool := inB K 1 4 && (N == 0 || K == 1 || K == 2) && (s.toList.isEmpty || K == 3)
def datStep (xs : List S37) (x : S37) (i : Nat) : Option Int :=
  if bareB x.f0 x.f2 x.f3 = true then (if kindM x.f0 1 3 2 x.f2 x.f3 = 0 then (if i = 0 then (if x.f1 = -1 then none else some 3) else (if inB x.f1 0 ((i : Int) - 1) = true then (if (upB xs i ((i : Int) - 1) x.f1 && kindD xs x.f1 == 4) = true then (if 12 < deepN xs (i + 1) i 0 then some 2 else none) else some 1) else some 3)) else some (kindM x.f0 1 3 2 x.f2 x.f3)) else some 1
def datAt (xs : List S37) (i : Nat) : Option Int := if h : i < xs.length then datStep xs xs[i] i else none
/-- The fault of data. -/
def dataM (xs : List S37) : Int := if inB xs.length 1 80 = true then runU (datAt xs) 0 xs.length 0 else 2
def okD (xs : List S37) : Prop := ∀ x ∈ xs, x.f3.size ≤ 9223372036854775807
theorem ahead_next {xs : List S37} {i : Nat} (hi : i < xs.length) (hA : Ahead xs i) (h : xs[i].f1 < i) : Ahead xs (i + 1) := by
  intro j hj
  by_cases e : j = i
  · subst e; unfold parD; rw [rdDf_at hi]; exact h
  · exact hA j (by omega)
theorem datAt_ahead {xs : List S37} {i : Nat} (hi : i < xs.length) (hA : Ahead xs i) (h : datAt xs i = none) : Ahead xs (i + 1) := by
  refine ahead_next hi hA ?_
  unfold datAt at h
  rw [dif_pos hi] at h
  unfold datStep at h
  repeat' split at h
  all_goals first | (cases h; done) | skip
  all_goals first | omega | (have z := inB_iff.mp (by assumption : inB _ 0 _ = true); omega)
theorem nb_t {x : Bool} (h : true = !x) : ¬ (x = true) := by cases x <;> simp_all
theorem kind_range (K N : Int) (s : ByteArray) (h : true = ((K == 1 && !numB N) || (K == 2 && !inB N 0 1))) : kindM K 1 3 2 N s = 3 := by
  unfold kindM numM
  by_cases z1 : K = 1
  · subst z1
    rw [if_pos rfl]
    cases hz : numB N
    · rfl
    · rw [hz] at h; simp at h
  · rw [if_neg z1]
    by_cases z2 : K = 2
    · subst z2
      rw [if_pos rfl]
      cases hz : inB N 0 1
      · rfl
      · rw [hz] at h; simp at h
    · simp [z1, z2] at h
theorem kind_plain (K N : Int) (s : ByteArray) (h : false = ((K == 1 && !numB N) || (K == 2 && !inB N 0 1))) : kindM K 1 3 2 N s = if K = 3 then symM s else 0 := by
  unfold kindM numM
  by_cases z1 : K = 1
  · subst z1
    rw [if_pos rfl]
    cases hz : numB N
    · rw [hz] at h; simp at h
    · simp
  · rw [if_neg z1]
    by_cases z2 : K = 2
    · subst z2
      rw [if_pos rfl]
      cases hz : inB N 0 1
      · rw [hz] at h; simp at h
      · simp
    · rw [if_neg z2]
theorem datumFault_step (xs : List S37) (hx : okD xs) (hl : xs.length ≤ 80) (i : Nat) (hi : i < xs.length) (hA : Ahead xs i) : Ev (fun k => impl_datumFault.f k xs (i : Int)) ((datAt xs i).getD 0) ∧ (datAt xs i ≠ some 0) := by
  have hm := hx xs[i] (List.getElem_mem hi)
  have e0 : datAt xs i = datStep xs xs[i] i := by unfold datAt; rw [dif_pos hi]
  have hk0 : ∀ v, kindM xs[i].f0 1 3 2 xs[i].f2 xs[i].f3 = v → v = 0 ∨ v ≠ 0 := fun v _ => by omega
  refine ⟨?_, by rw [e0]; unfold datStep; repeat' split
                 all_goals simp_all⟩
  rw [e0]
  have hj : ∀ (hb : bareB xs[i].f0 xs[i].f2 xs[i].f3 = true), Ev (fun k => impl_datumFault.j0 k (i : Int) xs xs[i].f0 xs[i].f1 xs[i].f2 xs[i].f3) ((datStep xs xs[i] i).getD 0) := fun hb => by
    refine Ev.step (fun k => impl_datumFault.j0.eq_2 _ _ _ _ _ _ k) (Ev.bind0 (kindFault_eq _ _ _ _ _ _ hm) (Ev.iff (fun c0 => ?_) (fun c0 => Ev.leaf (by unfold datStep; rw [if_pos hb, if_neg c0]; rfl))))
    refine Ev.iff (fun c1 => Ev.iff (fun c2 => Ev.leaf (by unfold datStep; rw [if_pos hb, if_pos c0, if_pos (by omega), if_pos c2]; rfl)) (fun c2 => Ev.leaf (by unfold datStep; rw [if_pos hb, if_pos c0, if_pos (by omega), if_neg c2]; rfl))) (fun c1 => ?_)
    rw [wrap_id (by omega) (by omega)]
    refine Ev.bind0 (in_eq _ _ _) (Ev.iff (fun c2 => ?_) (fun c2 => Ev.leaf (by unfold datStep; rw [if_pos hb, if_pos c0, if_neg (by omega), if_neg c2]; rfl)))
    have hp := inB_iff.mp c2
    have hup := isUp_ev xs xs[i].f1 i (by omega) hA i ((i : Int) - 1) (by omega) (by omega)
    have hj1 : ∀ b : Bool, b = !(upB xs i ((i : Int) - 1) xs[i].f1 && kindD xs xs[i].f1 == 4) → Ev (fun k => impl_datumFault.j1 k (i : Int) b xs) ((datStep xs xs[i] i).getD 0) := fun b hb1 => by
      have hA1 : Ahead xs (i + 1) := ahead_next hi hA (by omega)
      refine Ev.step (fun k => impl_datumFault.j1.eq_2 _ _ _ k) (Ev.iff (fun c => Ev.leaf ?_) (fun c => ?_))
      · have c' : ¬ ((upB xs i ((i : Int) - 1) xs[i].f1 && kindD xs xs[i].f1 == 4) = true) := by rw [c] at hb1; exact nb_t hb1
        unfold datStep; rw [if_pos hb, if_pos c0, if_neg (by omega), if_pos c2, if_neg c']; rfl
      · have c' : (upB xs i ((i : Int) - 1) xs[i].f1 && kindD xs xs[i].f1 == 4) = true := by
          simp only [Bool.not_eq_true] at c
          rw [c] at hb1
          cases hz : (upB xs i ((i : Int) - 1) xs[i].f1 && kindD xs xs[i].f1 == 4)
          · rw [hz] at hb1; cases hb1
          · rfl
        have hd := deep_ev xs (i + 1) (by omega) hA1 (i + 1) (i : Int) 0 (by omega) (by omega) (by omega) (by omega)
        refine Ev.bind (Ev.congr (fun k => impl_deep.f.eq_1 k _ _) hd) (Ev.iff (fun c3 => Ev.leaf ?_) (fun c3 => Ev.leaf ?_))
        · unfold datStep; rw [if_pos hb, if_pos c0, if_neg (by omega), if_pos c2, if_pos c', if_pos (by omega)]; rfl
        · unfold datStep; rw [if_pos hb, if_pos c0, if_neg (by omega), if_pos c2, if_pos c', if_neg (by omega)]; rfl
    refine Ev.ifp (by omega) (Ev.ifp (by omega) (Ev.iff (fun c3 => ?_) (fun c3 => ?_)))
    · refine Ev.bind (Ev.congr (fun k => impl_isUp__impl_datumFault_1.f.eq_1 k _ _ _) hup) (hj1 _ ?_)
      have c3' : kindD xs xs[i].f1 = 4 := c3
      simp [c3']
    · refine hj1 _ ?_
      have c3' : ¬ kindD xs xs[i].f1 = 4 := c3
      simp [c3']
  have h1 : bareB xs[i].f0 xs[i].f2 xs[i].f3 = false → some ((datStep xs xs[i] i).getD 0) = some (1 : Int) := fun hb => by
    unfold datStep; rw [if_neg (by rw [hb]; decide)]; rfl
  refine Ev.congr (fun k => impl_datumFault.f.eq_1 k _ _) (Ev.ifp (by omega) (Ev.ifp (by omega) ?_))
  rw [rdDf_at hi]
  refine Ev.bind0 (in_eq _ _ _) ?_
  have fin : ∀ b, b = bareB xs[i].f0 xs[i].f2 xs[i].f3 → b = true → Ev (fun k => impl_datumFault.j0 k (i : Int) xs xs[i].f0 xs[i].f1 xs[i].f2 xs[i].f3) ((datStep xs xs[i] i).getD 0) := fun b hb h => hj (by rw [← hb]; exact h)
  repeat' first
    | refine Ev.iff (fun _ => ?_) (fun _ => ?_)
    | refine hj ?_
    | refine Ev.leaf (Option.some.inj (h1 ?_).symm)
  all_goals clear hj h1 fin
  all_goals simp_all [bareB]
theorem implData_ev (xs : List S37) (hx : okD xs) : Ev (fun k => impl_DataFault.f k xs) (dataM xs) := by
  refine Ev.congr (fun k => impl_DataFault.f.eq_1 k _) (Ev.bind0 (in_eq _ _ _) (Ev.iff (fun h => ?_) (fun h => Ev.leaf (by unfold dataM; rw [if_neg h]))))
  have hh := inB_iff.mp h
  have hL := loopI xs.length (fun k i => impl_DataFault.l0 k xs (xs.length : Int) i) (datAt xs) 0 (Ahead xs) (fun i hi hA r hr => by
    obtain ⟨hd, hd0⟩ := datumFault_step xs hx (by omega) i hi hA
    refine Ev.step (fun k => impl_DataFault.l0.eq_2 _ _ _ k) (Ev.ifp (by omega) (Ev.bind hd ?_))
    cases hB : datAt xs i with
    | none => rw [wrap_succ hi (by omega)]; exact Ev.ifp rfl (Ev.go hr hB)
    | some v => exact Ev.ifn (fun hv => hd0 (by rw [hB]; exact congrArg some hv)) (Ev.stop hr (by rw [hB]; rfl)))
    (fun i hi hA hB => datAt_ahead hi hA hB)
    (fun _ => Ev.step (fun k => impl_DataFault.l0.eq_2 _ _ _ k) (Ev.ifn (by omega) (Ev.now _))) xs.length 0 (by omega) (fun j hj => by omega)
  unfold dataM
  rw [if_pos h]
  exact hL
theorem l3Bare_eq (K P N : Int) (s : ByteArray) : spec_l3Bare.f K P N s = some (bareB K N s) := by
  unfold spec_l3Bare.f bareB
  rw [l1In_eq]
  simp only [Option.bind_some]
  by_cases h1 : K = 1 <;> by_cases h2 : K = 2 <;> by_cases h3 : K = 3 <;> by_cases h4 : N = 0 <;> cases h5 : inB K 1 4 <;> simp_all [eq_nil_b]
theorem l3Fault_ev (xs : List S37) (hx : okD xs) : Ev (fun k => spec_l3Fault.f k xs) (dataM xs) := by
  have hL : inB xs.length 1 80 = true → Ev (fun k => spec_l3Fault.l0 k xs 0) (dataM xs) := fun h => by
    have hh := inB_iff.mp h
    have hL := loopI xs.length (fun k i => spec_l3Fault.l0 k xs i) (datAt xs) 0 (Ahead xs) (fun i hi hA r hr => by
      have hm := hx xs[i] (List.getElem_mem hi)
      have e0 : datAt xs i = datStep xs xs[i] i := by unfold datAt; rw [dif_pos hi]
      refine Ev.step (fun k => spec_l3Fault.l0.eq_2 _ _ k) (Ev.ifp (by omega) (Ev.ifp (by omega) ?_))
      rw [rdDf_at hi]
      refine Ev.bind0 (l3Bare_eq _ _ _ _) (Ev.iff (fun hb => ?_) (fun hb => Ev.stop hr (by rw [e0]; unfold datStep; rw [if_neg hb])))
      have j5 : kindM xs[i].f0 1 3 2 xs[i].f2 xs[i].f3 = 0 → (i = 0 → xs[i].f1 = -1) → (i ≠ 0 → inB xs[i].f1 0 ((i : Int) - 1) = true) → ∀ b : Bool, b = (decide (0 < i) && !(upB xs i ((i : Int) - 1) xs[i].f1 && kindD xs xs[i].f1 == 4)) → Ev (fun k => spec_l3Fault.j5 k xs (i : Int) b) r := fun c0 c1 c2 b hb5 => by
        have hA1 : Ahead xs (i + 1) := ahead_next hi hA (by
          by_cases z : i = 0
          · have := c1 z; omega
          · have := (inB_iff.mp (c2 z)).2; omega)
        refine Ev.step (fun k => spec_l3Fault.j5.eq_2 _ _ _ k) (Ev.iff (fun c => ?_) (fun c => ?_))
        · have hi0 : i ≠ 0 := fun z => by subst z; rw [c] at hb5; simp at hb5
          refine Ev.stop hr ?_
          have c' : ¬ ((upB xs i ((i : Int) - 1) xs[i].f1 && kindD xs xs[i].f1 == 4) = true) := by
            rw [c] at hb5
            intro z
            rw [z] at hb5
            simp at hb5
          rw [e0]; unfold datStep; rw [if_pos hb, if_pos c0, if_neg hi0, if_pos (c2 hi0), if_neg c']
        · have hd := l3Deep_ev xs (i + 1) (by omega) hA1 (i + 1) (i : Int) 0 (by omega) (by omega) (by omega) (by omega)
          refine Ev.bind (Ev.congr (fun k => spec_l3Deep.f.eq_1 k _ _) hd) ?_
          by_cases z : i = 0
          · have hd0 : deepN xs (i + 1) (i : Int) 0 = 1 := by
              subst z
              simp only [deepN]
              rw [if_pos (by omega)]
              rfl
            rw [hd0, wrap_succ hi (by omega)]
            refine Ev.ifn (by omega) (Ev.go hr ?_)
            rw [e0]; unfold datStep; rw [if_pos hb, if_pos c0, if_pos z, if_pos (c1 z)]
          · have c' : (upB xs i ((i : Int) - 1) xs[i].f1 && kindD xs xs[i].f1 == 4) = true := by
              simp only [Bool.not_eq_true] at c
              rw [c] at hb5
              have z' : decide (0 < i) = true := by simp; omega
              rw [z', Bool.true_and] at hb5
              cases hz : (upB xs i ((i : Int) - 1) xs[i].f1 && kindD xs xs[i].f1 == 4)
              · rw [hz] at hb5; cases hb5
              · rfl
            refine Ev.iff (fun c3 => Ev.stop hr ?_) (fun c3 => ?_)
            · rw [e0]; unfold datStep; rw [if_pos hb, if_pos c0, if_neg z, if_pos (c2 z), if_pos c', if_pos (by omega)]
            · rw [wrap_succ hi (by omega)]
              refine Ev.go hr ?_
              rw [e0]; unfold datStep; rw [if_pos hb, if_pos c0, if_neg z, if_pos (c2 z), if_pos c', if_neg (by omega)]
      have j4 : kindM xs[i].f0 1 3 2 xs[i].f2 xs[i].f3 = 0 → ∀ b : Bool, b = (if i = 0 then xs[i].f1 != -1 else !inB xs[i].f1 0 ((i : Int) - 1)) → Ev (fun k => spec_l3Fault.j4 k xs (i : Int) b) r := fun c0 b hb4 => by
        refine Ev.step (fun k => spec_l3Fault.j4.eq_2 _ _ _ k) (Ev.iff (fun c => Ev.stop hr ?_) (fun c => ?_))
        · rw [c] at hb4
          by_cases z : i = 0
          · rw [if_pos z] at hb4
            have : ¬ xs[i].f1 = -1 := by simpa using hb4.symm
            rw [e0]; unfold datStep; rw [if_pos hb, if_pos c0, if_pos z, if_neg this]
          · rw [if_neg z] at hb4
            have : ¬ (inB xs[i].f1 0 ((i : Int) - 1) = true) := by simpa using hb4.symm
            rw [e0]; unfold datStep; rw [if_pos hb, if_pos c0, if_neg z, if_neg this]
        · simp only [Bool.not_eq_true] at c
          rw [c] at hb4
          have c1 : i = 0 → xs[i].f1 = -1 := fun z => by rw [if_pos z] at hb4; simpa using hb4.symm
          have c2 : i ≠ 0 → inB xs[i].f1 0 ((i : Int) - 1) = true := fun z => by rw [if_neg z] at hb4; simpa using hb4.symm
          refine Ev.iff (fun c3 => ?_) (fun c3 => j5 c0 c1 c2 _ (by
            have : i = 0 := by omega
            subst this; simp))
          have hp := inB_iff.mp (c2 (by omega))
          have hl := l3Line_ev xs (i : Int) (by omega) (by omega) i (by omega) hA i ((i : Int) - 1) (by omega) (by omega)
          have ep : parD xs (i : Int) = xs[i].f1 := by unfold parD; rw [rdDf_at hi]
          rw [ep] at hl
          refine Ev.bind (Ev.congr (fun k => by rw [spec_l3Line.f.eq_1, wrap_id (by omega) (by omega)]) hl) (j5 c0 c1 c2 _ ?_)
          have z' : decide (0 < i) = true := by simp; omega
          rw [z', Bool.true_and]
      have j3 : ∀ b : Bool, kindM xs[i].f0 1 3 2 xs[i].f2 xs[i].f3 = (if b = true then 5 else 0) → Ev (fun k => spec_l3Fault.j3 k xs (i : Int) b) r := fun b hb3 => by
        refine Ev.step (fun k => spec_l3Fault.j3.eq_2 _ _ _ k) (Ev.iff (fun c => Ev.stop hr ?_) (fun c => ?_))
        · rw [if_pos c] at hb3
          rw [e0]; unfold datStep; rw [if_pos hb, if_neg (by omega), hb3]
        · rw [if_neg c] at hb3
          rw [rdDf_at hi]
          refine Ev.iff (fun c1 => Ev.ifp (by omega) (Ev.ifp (by omega) (Ev.iff (fun c2 => Ev.ifn (by omega) (j4 hb3 _ ?_)) (fun c2 => j4 hb3 _ ?_)))) (fun c1 => Ev.ifp (by omega) (Ev.ifp (by omega) (Ev.ifp (by omega) ?_)))
          · rw [if_pos (by omega), c2]; rfl
          · rw [if_pos (by omega)]; simpa using c2
          · rw [wrap_id (by omega) (by omega)]
            refine Ev.bind0 (l1In_eq _ _ _) (j4 hb3 _ ?_)
            rw [if_neg (by omega)]
      have hin := (Bool.and_eq_true_iff.mp (Bool.and_eq_true_iff.mp hb).1).1
      have hin' := inB_iff.mp hin
      have j2 : ∀ b : Bool, b = ((xs[i].f0 == 1 && !numB xs[i].f2) || (xs[i].f0 == 2 && !inB xs[i].f2 0 1)) → Ev (fun k => spec_l3Fault.j2 k xs (i : Int) b) r := fun b hb2 => by
        refine Ev.step (fun k => spec_l3Fault.j2.eq_2 _ _ _ k) (Ev.iff (fun c => Ev.stop hr ?_) (fun c => ?_))
        · have hk : kindM xs[i].f0 1 3 2 xs[i].f2 xs[i].f3 = 3 := kind_range _ _ _ (by rw [c] at hb2; exact hb2)
          rw [e0]; unfold datStep; rw [if_pos hb, if_neg (by omega), hk]
        · simp only [Bool.not_eq_true] at c
          rw [c] at hb2
          have hk := kind_plain xs[i].f0 xs[i].f2 xs[i].f3 hb2
          refine Ev.ifp (by omega) (Ev.ifp (by omega) ?_)
          rw [rdDf_at hi]
          refine Ev.iff (fun c3 => Ev.bind (l2Sym_ev _ hm) (j3 _ ?_)) (fun c3 => j3 _ ?_)
          · rw [hk, if_pos c3]
            unfold symM
            cases symB xs[i].f3 <;> rfl
          · rw [hk, if_neg c3]
            rfl
      repeat' first
        | refine Ev.iff (fun _ => ?_) (fun _ => ?_)
        | refine Ev.bind0 (l1Num_eq _) ?_
        | refine Ev.bind0 (l1In_eq _ _ _) ?_
        | refine j2 _ ?_
      all_goals clear j2 j3 j4 j5
      all_goals simp_all)
      (fun i hi hA hB => datAt_ahead hi hA hB)
      (fun _ => Ev.step (fun k => spec_l3Fault.l0.eq_2 _ _ k) (Ev.ifn (by omega) (Ev.now _))) xs.length 0 (by omega) (fun j hj => by omega)
    unfold dataM
    rw [if_pos h]
    exact hL
  have j0 : ∀ b : Bool, b = !inB xs.length 1 80 → Ev (fun k => spec_l3Fault.j0 k xs b) (dataM xs) := fun b hb => by
    refine Ev.step (fun k => spec_l3Fault.j0.eq_2 _ _ k) (Ev.iff (fun c => Ev.leaf ?_) (fun c => hL ?_))
    · unfold dataM
      rw [if_neg (fun z => by rw [c, z] at hb; cases hb)]
    · simp only [Bool.not_eq_true] at c
      rw [c] at hb
      simpa using hb.symm
  refine Ev.congr (fun k => spec_l3Fault.f.eq_1 k _) (Ev.iff (fun c => j0 _ ?_) (fun c => j0 _ ?_))
  · rw [inB_f.mpr (by omega)]; rfl
  · unfold inB
    have : decide ((1 : Int) ≤ xs.length) = true := by simp; omega
    rw [this, Bool.true_and]
    by_cases z : (xs.length : Int) ≤ 80
    · have z' : ¬ (xs.length : Int) > 80 := by omega
      simp [z, z']
    · have z' : (xs.length : Int) > 80 := by omega
      simp [z, z']
end Go.Proofs.YtgnenhehcdekkacDoor.A
