/- Walks of the program's functions: each Go function's answer as a plain Lean function, and that the call comes to it. Written by a program. Conditions: those in each theorem's own head. -/
import Derived.Test.YteiokhfikbndbaaDoorR0
namespace Go.Proofs.YteiokhfikbndbaaDoor.R
open Go.RowKit Go.Proofs.YteiokhfikbndbaaDoorW.PrintWords Go.Proofs.YteiokhfikbndbaaDoorW.PrintLast Go.Proofs.YteiokhfikbndbaaDoorW.PrintMore
attribute [local go_sem] max2_int min2_int max_two min_two max_three min_three max_four min_four   -- for this text's walks alone
set_option linter.unusedVariables false
set_option linter.unusedSimpArgs false

theorem d6_1 {p : Prop} (h : p := by first | (with_reducible assumption) | assumption) : p := h
theorem c6_1 {p : Prop} (h : p := by repeat (first | (with_reducible first | exact HK.out | apply Kept.alloc | apply Kept.drewN | apply Kept.drew | refine Kept.setCell ?_ (.inl (.inr rfl)) _) | exact HK.out)) : p := h
theorem c6_2 {p : Prop} (h : p := by repeat (first | (with_reducible first | exact HB.out | apply below_alloc | apply pw_below_drewN | apply below_drew1 | refine below_set ?_ GE0.out) | exact HB.out)) : p := h
set_option maxHeartbeats 8000000
set_option maxRecDepth 100000
abbrev m6_0 : Array Bool := #[false, false, false, false, false, false, false, false, false, false, false, false, false, false, false, false, false, false, false, false]
abbrev m6_1 : Array Bool := #[true, false, false, false, false, false, false, false, false, false, false, false, false, false, false, false, false, false, false, false]
abbrev m6_2 : Array Bool := #[true, true, false, false, false, false, false, false, false, false, false, false, false, false, false, false, false, false, false, false]
abbrev m6_3 : Array Bool := #[true, true, true, false, false, false, false, false, false, false, false, false, false, false, false, false, false, false, false, false]
abbrev m6_4 : Array Bool := #[true, true, true, true, false, false, false, false, false, false, false, false, false, false, false, false, false, false, false, false]
abbrev m6_5 : Array Bool := #[true, true, true, true, true, false, false, false, false, false, false, false, false, false, false, false, false, false, false, false]
abbrev m6_6 : Array Bool := #[true, true, true, true, true, true, false, false, false, false, false, false, false, false, false, false, false, false, false, false]
abbrev m6_7 : Array Bool := #[true, true, true, true, true, true, true, false, false, false, false, false, false, false, false, false, false, false, false, false]
abbrev m6_8 : Array Bool := #[true, true, true, true, true, true, true, true, false, false, false, false, false, false, false, false, false, false, false, false]
abbrev m6_9 : Array Bool := #[true, true, true, true, true, true, true, true, true, false, false, false, false, false, false, false, false, false, false, false]
abbrev m6_10 : Array Bool := #[true, true, true, true, true, true, true, true, true, true, false, false, false, false, false, false, false, false, false, false]
abbrev m6_11 : Array Bool := #[true, true, true, true, true, true, true, true, true, true, false, true, false, false, false, false, false, false, false, false]
abbrev m6_12 : Array Bool := #[true, true, true, true, true, true, true, true, true, true, false, true, true, false, false, false, false, false, false, false]
abbrev m6_13 : Array Bool := #[true, true, true, true, true, true, true, true, true, true, false, true, true, true, false, false, false, false, false, false]
abbrev m6_17 : Array Bool := #[true, true, true, true, true, true, true, true, true, true, true, true, true, true, false, false, false, false, false, false]
abbrev m6_18 : Array Bool := #[true, true, true, true, true, true, true, true, true, true, true, true, true, true, true, false, false, false, false, false]
abbrev m6_19 : Array Bool := #[true, true, true, true, true, true, true, true, true, true, true, true, true, true, true, true, false, false, false, false]
abbrev m6_20 : Array Bool := #[true, true, true, true, true, true, true, true, true, true, true, true, true, true, true, true, true, false, false, false]
abbrev m6_21 : Array Bool := #[true, true, true, true, true, true, true, true, true, true, true, true, true, true, true, true, true, true, false, false]
abbrev m6_22 : Array Bool := #[true, true, true, true, true, true, true, true, true, true, true, true, true, true, true, true, true, true, true, false]
abbrev m6_23 : Array Bool := #[true, true, true, true, true, true, true, true, true, true, true, true, true, true, true, true, true, true, true, true]
theorem pa6_1 {α : Type} (l : List α) (i : Nat) (a : α) : l.toArray.setIfInBounds i a = (l.set i a).toArray := List.setIfInBounds_toArray l i a
theorem pa6_2 {α : Type} (a : α) (l : List α) (b : α) : (a :: l).set 0 b = b :: l := rfl
theorem pa6_3 {α : Type} (a : α) (l : List α) (n : Nat) (b : α) : (a :: l).set (n + 1) b = a :: l.set n b := rfl

theorem hb6_3 {w : World} {g0 : Nat} {t0 : TypeId} {a0_0 a0_1 a0_2 : Value} (h0 : w.heap[g0]? = some (.cells #[a0_0, a0_1, a0_2] t0 (0, 0))) : w.cell? ⟨g0, 0, none⟩ = some a0_0 ∧ w.cell? ⟨g0, 1, none⟩ = some a0_1 ∧ w.cell? ⟨g0, 2, none⟩ = some a0_2 := ⟨(blk_cell h0 0).trans rfl, (blk_cell h0 1).trans rfl, (blk_cell h0 2).trans rfl⟩

/-! ### spec_l3Whole: function 64 -/
def spec_l3Whole.l0 : Nat → List (S80) → List Int → List Bool → Option ((List (S80)) × List Int × List Bool)
  | 0, _, _, _ => none
  | k + 1, x1000, x1001, x1002 => if (x1001.length : Int) > 0 then (if 0 ≤ (wrap64 ((x1002.length : Int) - 1)) then (if (wrap64 ((x1002.length : Int) - 1)) < (x1002.length : Int) then (if rdOf false x1002 (wrap64 ((x1002.length : Int) - 1)) = true then (if 0 ≤ (wrap64 ((x1001.length : Int) - 1)) then (if (wrap64 ((x1001.length : Int) - 1)) ≤ (x1001.length : Int) then (if (wrap64 ((x1002.length : Int) - 1)) ≤ (x1002.length : Int) then (spec_l3Whole.l0 k x1000 (x1001.take ((wrap64 ((x1001.length : Int) - 1)) : Int).toNat) (x1002.take ((wrap64 ((x1002.length : Int) - 1)) : Int).toNat)) else (none)) else (none)) else (none)) else (some (x1000, x1001, x1002))) else (none)) else (none)) else (some (x1000, x1001, x1002))
def spec_l3Whole.f (k : Nat) (l0_0 : List (S80)) (l0_1 : List Int) (l0_2 : List Bool) : Option ((List (S80)) × List Int × List Bool) := spec_l3Whole.l0 k l0_0 l0_1 l0_2
theorem spec_l3Whole.mono_l : ∀ k, (∀ y0 y1 y2, LeO (spec_l3Whole.l0 k y0 y1 y2) (spec_l3Whole.l0 (k + 1) y0 y1 y2))
  | 0 => fun _ _ _ r h => by simp [spec_l3Whole.l0] at h
  | k + 1 => by
    have ih0 := spec_l3Whole.mono_l k
    · intro y0 y1 y2
      unfold spec_l3Whole.l0
      repeat' first | (with_reducible first | apply ih0 | exact LeO.refl _ | exact LeO.none _ | refine LeO.ite ?_ ?_ | refine LeO.bind ?_ (fun _ => ?_)) | apply ih0 | exact LeO.none _ | refine LeO.ite ?_ ?_ | refine LeO.bind ?_ (fun _ => ?_)
theorem spec_l3Whole.mono : ∀ a0 a1 a2 k, LeO (spec_l3Whole.f k a0 a1 a2) (spec_l3Whole.f (k + 1) a0 a1 a2) := by
  intro a0 a1 a2 k; have ih0 := spec_l3Whole.mono_l k; unfold spec_l3Whole.f
  repeat' first | (with_reducible first | apply ih0 | exact LeO.refl _ | exact LeO.none _ | refine LeO.ite ?_ ?_ | refine LeO.bind ?_ (fun _ => ?_)) | apply ih0 | exact LeO.none _ | refine LeO.ite ?_ ?_ | refine LeO.bind ?_ (fun _ => ?_)
def spec_l3Whole.T0 : Bool × List (List Nat × List Nat) := (true, [([], []), ([0], [0]), ([1], [1]), ([2], [2]), ([3], [3]), ([4], [4]), ([5], [5]), ([6], [6]), ([7, 6], [6, 7]), ([8, 6], [6, 8]), ([9, 6], [6, 9]), ([6], [6]), ([11, 6], [6, 11]), ([12, 6], [6, 12]), ([13, 6], [6, 13]), ([14, 6], [6, 14]), ([15, 6], [6, 15]), ([10, 16, 6], [6, 10, 16]), ([17, 6], [6, 17]), ([6, 18], [6, 18])])
def spec_l3Whole.B0 : List Nat := [0, 1, 3, 7, 15, 31, 63, 127, 255, 511, 1023, 127, 2175, 6271, 14463, 30847, 63615, 131071, 262143, 524287]
theorem spec_l3Whole.tab0 : rtab .any (opsOf Tryd.f64 0) = spec_l3Whole.T0 := by kernel_rfl
theorem spec_l3Whole.bits0 : waitsOk spec_l3Whole.T0.2 spec_l3Whole.B0 = true := by kernel_rfl
def spec_l3Whole.T1 : Bool × List (List Nat × List Nat) := (true, [([], []), ([], []), ([1], [1]), ([2], [2]), ([3], [3]), ([], []), ([5], [5]), ([6], [6]), ([7], [7]), ([8], [8]), ([9], [9]), ([4, 10], [4, 10]), ([0, 0, 1, 2, 3, 4, 5, 6, 7, 8, 9, 10, 11], [0]), ([12, 0, 1, 2, 3, 4, 5, 6, 7, 8, 9, 10, 11], [12]), ([13, 11, 0, 1, 2, 3, 4, 5, 6, 7, 8, 9, 10, 11], [11, 13])])
def spec_l3Whole.B1 : List Nat := [0, 0, 2, 6, 14, 0, 32, 96, 224, 480, 992, 2046, 4095, 8191, 16383]
theorem spec_l3Whole.tab1 : rtab .any (opsOf Tryd.f64 1) = spec_l3Whole.T1 := by kernel_rfl
theorem spec_l3Whole.bits1 : waitsOk spec_l3Whole.T1.2 spec_l3Whole.B1 = true := by kernel_rfl
def spec_l3Whole.T2 : Bool × List (List Nat × List Nat) := (true, [([], []), ([], []), ([1], [1]), ([2], [2]), ([3], [3]), ([], []), ([5], [5]), ([6], [6]), ([7], [7]), ([8], [8]), ([9], [9]), ([4, 10], [4, 10]), ([0, 0, 1, 2, 3, 4, 5, 6, 7, 8, 9, 10, 11], [0]), ([12, 0, 1, 2, 3, 4, 5, 6, 7, 8, 9, 10, 11], [12]), ([13, 11, 0, 1, 2, 3, 4, 5, 6, 7, 8, 9, 10, 11], [11, 13])])
def spec_l3Whole.B2 : List Nat := [0, 0, 2, 6, 14, 0, 32, 96, 224, 480, 992, 2046, 4095, 8191, 16383]
theorem spec_l3Whole.tab2 : rtab .any (opsOf Tryd.f64 2) = spec_l3Whole.T2 := by kernel_rfl
theorem spec_l3Whole.bits2 : waitsOk spec_l3Whole.T2.2 spec_l3Whole.B2 = true := by kernel_rfl
theorem spec_l3Whole.calls (k : Nat) (g : Nat) (P0_0_ : Nat → Prop) (u9000_ : Value) (l0_0 : List (S80)) (P0_1_ : Nat → Prop) (u9001_ : Value) (l0_1 : List Int) (P0_2_ : Nat → Prop) (u9002_ : Value) (l0_2 : List Bool) (r1 : List (S80)) (r2 : List Int) (r3 : List Bool) (w0 w : World) (hB : Below w0.heap.size w0 w) (hb0 : w.heap[g]? = some (.cells #[u9000_, u9001_, u9002_] 74 (0, 0))) (hg0 : w0.heap.size ≤ g) (ho0_0 : Kd.R k80 80 w w0.heap.size P0_0_ u9000_ l0_0) (ho0_1 : Kd.R (Kd.int .i64) 2 w w0.heap.size P0_1_ u9001_ l0_1) (ho0_2 : Kd.R Kd.bool 4 w w0.heap.size P0_2_ u9002_ l0_2) (h : spec_l3Whole.f k l0_0 l0_1 l0_2 = some (r1, r2, r3)) :
    Calls Tryd.prog 64 #[.pointer (some ⟨g, 0, none⟩)] w fun e w' => ∃ v0_ v1_ v2_ : Value, e = .returned (.tuple #[]) ∧ Kd.R k80 80 w' w0.heap.size (fun k_ => ((P0_0_ k_ ∨ P0_1_ k_ ∨ P0_2_ k_) ∨ w.heap.size ≤ k_)) v0_ r1 ∧ Kd.R (Kd.int .i64) 2 w' w0.heap.size (fun k_ => ((P0_0_ k_ ∨ P0_1_ k_ ∨ P0_2_ k_) ∨ w.heap.size ≤ k_)) v1_ r2 ∧ Kd.R Kd.bool 4 w' w0.heap.size (fun k_ => ((P0_0_ k_ ∨ P0_1_ k_ ∨ P0_2_ k_) ∨ w.heap.size ≤ k_)) v2_ r3 ∧ w'.heap[g]? = some (.cells #[v0_, v1_, v2_] 74 (0, 0)) ∧ Below w0.heap.size w0 w' ∧ Kept w w' (fun k_ => (P0_0_ k_ ∨ P0_1_ k_ ∨ P0_2_ k_) ∨ k_ = g) := by
  have BK0 := ak hb0; have GE0 := ak hg0; clear hb0 hg0; have HO0_0 := ak (show Kd.R k80 80 w w0.heap.size (fun k_ => ((P0_0_ k_ ∨ P0_1_ k_ ∨ P0_2_ k_) ∨ w.heap.size ≤ k_)) u9000_ l0_0 from Kd.R_mono ho0_0 (fun k_ hk => (.inl (.inl hk)))); have HO0_1 := ak (show Kd.R (Kd.int .i64) 2 w w0.heap.size (fun k_ => ((P0_0_ k_ ∨ P0_1_ k_ ∨ P0_2_ k_) ∨ w.heap.size ≤ k_)) u9001_ l0_1 from Kd.R_mono ho0_1 (fun k_ hk => (.inl (.inr (.inl hk))))); have HO0_2 := ak (show Kd.R Kd.bool 4 w w0.heap.size (fun k_ => ((P0_0_ k_ ∨ P0_1_ k_ ∨ P0_2_ k_) ∨ w.heap.size ≤ k_)) u9002_ l0_2 from Kd.R_mono ho0_2 (fun k_ hk => (.inl (.inr (.inr hk))))); have HK := ak (Kept.refl w (fun k_ => (P0_0_ k_ ∨ P0_1_ k_ ∨ P0_2_ k_) ∨ k_ = g)); have HW0 := ak hB.size; have HB := ak hB; clear hB; have H := h; clear h; unfold spec_l3Whole.f at H; have H' := ak H; clear H; go_enter Tryd.func64, Tryd.ntmps64; go_wp2
  go_loopg [] k (fun kq w' => ∃ (x1001_1 : List Int) (x1002_1 : List Bool) (u1001 : Value) (u1002 : Value), Aside0 (spec_l3Whole.l0 kq l0_0 x1001_1 x1002_1 = some (r1, r2, r3)) ∧ Aside0 (kq ≤ k) ∧ Aside0 (Kd.R k80 80 w' w0.heap.size (fun k_ => ((P0_0_ k_ ∨ P0_1_ k_ ∨ P0_2_ k_) ∨ w.heap.size ≤ k_)) u9000_ l0_0) ∧ Aside0 (Kd.R (Kd.int .i64) 2 w' w0.heap.size (fun k_ => ((P0_0_ k_ ∨ P0_1_ k_ ∨ P0_2_ k_) ∨ w.heap.size ≤ k_)) u1001 x1001_1) ∧ Aside0 (Kd.R Kd.bool 4 w' w0.heap.size (fun k_ => ((P0_0_ k_ ∨ P0_1_ k_ ∨ P0_2_ k_) ∨ w.heap.size ≤ k_)) u1002 x1002_1) ∧ Aside0 (w'.heap[g]? = some (.cells #[u9000_, u1001, u1002] 74 (0, 0))) ∧ Aside0 (Kept w w' (fun k_ => (P0_0_ k_ ∨ P0_1_ k_ ∨ P0_2_ k_) ∨ k_ = g)) ∧ Aside0 (Below w0.heap.size w0 w'))
  case atStart => exact ⟨(l0_1), (l0_2), (u9001_), (u9002_), H', ⟨Nat.le_refl _⟩, ⟨by (with_reducible repeat (first | apply Kd.R_alloc | apply Kd.R_drewN | apply Kd.R_drew)); exact HO0_0.out⟩, ⟨by (with_reducible repeat (first | apply Kd.R_alloc | apply Kd.R_drewN | apply Kd.R_drew)); exact HO0_1.out⟩, ⟨by (with_reducible repeat (first | apply Kd.R_alloc | apply Kd.R_drewN | apply Kd.R_drew)); exact HO0_2.out⟩, ⟨by (with_reducible repeat (first | refine blk_drewN ?_ _ | refine blk_drew ?_ | refine blk_alloc ?_ _)); exact BK0.out⟩, ⟨c6_1⟩, ⟨c6_2⟩⟩
  case round =>
   clear H'; obtain ⟨x1001_1, x1002_1, u1001, u1002, HA, HK1, HO_1000, HO_1001, HO_1002, BK0, HK, HB⟩ := hrel
   cases gk with
   | zero => exact absurd HA.out (by simp [spec_l3Whole.l0])
   | succ k1 =>
    have H := HA.out; clear HA; simp only [spec_l3Whole.l0] at H; by_cases c2 : (x1001_1.length : Int) > 0
    ·rw [if_pos c2] at H
     have c2b0 : decide (0 < (x1001_1.length : Int)) = true := decide_eq_true c2; have c2b1 : decide (0 < x1001_1.length) = true := decide_eq_true (by omega); clear c2; obtain ⟨ji3, hji3⟩ : ∃ j_ : Int, (wrap64 ((x1002_1.length : Int) - 1)) = j_ := ⟨_, rfl⟩
     replace H : (if 0 ≤ (ji3) then (if (ji3) < (x1002_1.length : Int) then (if rdOf false x1002_1 (ji3) = true then (if 0 ≤ (wrap64 ((x1001_1.length : Int) - 1)) then (if (wrap64 ((x1001_1.length : Int) - 1)) ≤ (x1001_1.length : Int) then (if (ji3) ≤ (x1002_1.length : Int) then (spec_l3Whole.l0 k1 l0_0 (x1001_1.take ((wrap64 ((x1001_1.length : Int) - 1)) : Int).toNat) (x1002_1.take ((ji3) : Int).toNat)) else (none)) else (none)) else (none)) else (some (l0_0, x1001_1, x1002_1))) else (none)) else (none)) = some (r1, r2, r3) := by first | (rw [hji3] at H; exact H) | (simp only [hji3] at H ⊢; exact H)
     have hji3w : (IntKind.i64.wrap ((x1002_1.length : Int) - 1)) = ji3 := (i64_w _).trans hji3; by_cases c4 : 0 ≤ (ji3)
     ·rw [if_pos c4] at H
      have c4b0 : decide (0 ≤ (ji3)) = true := decide_eq_true c4; clear c4; by_cases c5 : (ji3) < (x1002_1.length : Int)
      ·rw [if_pos c5] at H
       have c5b0 : decide ((ji3) < (x1002_1.length : Int)) = true := decide_eq_true c5; clear c5; obtain ⟨bq6, hbq6⟩ : ∃ b_ : Bool, b_ = (rdOf false x1002_1 (ji3)) := ⟨_, rfl⟩
       replace H : (if bq6 = true then (if 0 ≤ (wrap64 ((x1001_1.length : Int) - 1)) then (if (wrap64 ((x1001_1.length : Int) - 1)) ≤ (x1001_1.length : Int) then (if (ji3) ≤ (x1002_1.length : Int) then (spec_l3Whole.l0 k1 l0_0 (x1001_1.take ((wrap64 ((x1001_1.length : Int) - 1)) : Int).toNat) (x1002_1.take ((ji3) : Int).toNat)) else (none)) else (none)) else (none)) else (some (l0_0, x1001_1, x1002_1))) = some (r1, r2, r3) := by rw [← hbq6] at H; exact H
       have Nbq6 := ak hbq6; clear hbq6; by_cases c7 : bq6 = true
       ·subst c7
        rw [if_pos rfl] at H; obtain ⟨ji8, hji8⟩ : ∃ j_ : Int, (wrap64 ((x1001_1.length : Int) - 1)) = j_ := ⟨_, rfl⟩
        replace H : (if 0 ≤ (ji8) then (if (ji8) ≤ (x1001_1.length : Int) then (if (ji3) ≤ (x1002_1.length : Int) then (spec_l3Whole.l0 k1 l0_0 (x1001_1.take ((ji8) : Int).toNat) (x1002_1.take ((ji3) : Int).toNat)) else (none)) else (none)) else (none)) = some (r1, r2, r3) := by first | (rw [hji8] at H; exact H) | (simp only [hji8] at H ⊢; exact H)
        have hji8w : (IntKind.i64.wrap ((x1001_1.length : Int) - 1)) = ji8 := (i64_w _).trans hji8; by_cases c9 : 0 ≤ (ji8)
        ·rw [if_pos c9] at H
         have c9b0 := eq_true c9; have c9b1 : decide (0 ≤ (ji8)) = true := decide_eq_true c9; clear c9; by_cases c10 : (ji8) ≤ (x1001_1.length : Int)
         ·rw [if_pos c10] at H
          have c10b0 := eq_true c10; have c10b1 : decide ((ji8) ≤ (x1001_1.length : Int)) = true := decide_eq_true c10; clear c10; obtain ⟨y182, hy182⟩ : ∃ y_ : List Int, y_ = (x1001_1.take ((ji8) : Int).toNat) := ⟨_, rfl⟩
          replace H : (if (ji3) ≤ (x1002_1.length : Int) then (spec_l3Whole.l0 k1 l0_0 y182 (x1002_1.take ((ji3) : Int).toNat)) else (none)) = some (r1, r2, r3) := by first | (rw [hy182]; with_reducible exact H) | (have H2_ := (Option.bind_some _ _).symm.trans H; rw [hy182]; with_reducible exact H2_) | (have H2_ := (Option.bind_some _ _).symm.trans H; with_reducible exact H2_) | with_reducible exact H | (rw [hy182]; exact H) | exact H
          have Ny182 := ak hy182; clear hy182; by_cases c11 : (ji3) ≤ (x1002_1.length : Int)
          ·rw [if_pos c11] at H
           have c11b0 := eq_true c11; have c11b1 : decide ((ji3) ≤ (x1002_1.length : Int)) = true := decide_eq_true c11; clear c11; obtain ⟨y185, hy185⟩ : ∃ y_ : List Bool, y_ = (x1002_1.take ((ji3) : Int).toNat) := ⟨_, rfl⟩
           replace H : (spec_l3Whole.l0 k1 l0_0 y182 y185) = some (r1, r2, r3) := by first | (rw [hy185]; with_reducible exact H) | (have H2_ := (Option.bind_some _ _).symm.trans H; rw [hy185]; with_reducible exact H2_) | (have H2_ := (Option.bind_some _ _).symm.trans H; with_reducible exact H2_) | with_reducible exact H | (rw [hy185]; exact H) | exact H
           have Ny185 := ak hy185; clear hy185; have H' := ak H; clear H
           try go_wp2
           have n0_ := ak (Kd.R_drew HO_1000.out); have n1_ := ak (Kd.R_drew HO_1001.out); have n2_ := ak (Kd.R_drew HO_1002.out); have n3_ := ak (blk_drew BK0.out); have n4_ := ak (Kept.drew HK.out); have n5_ := ak (below_drew1 HB.out); clear HO_1000; clear HO_1001; clear HO_1002; clear BK0; clear HK; clear HB; have HO_1000 := n0_; have HO_1001 := n1_; have HO_1002 := n2_; have BK0 := n3_; have HK := n4_; have HB := n5_; clear n0_ n1_ n2_ n3_ n4_ n5_; obtain ⟨Ao13, co13, eo13⟩ := Kd.R_slice HO_1001.out
           (first | subst eo13 | (injection eo13 with f1_ f2_ f3_; have f4_ := f1_.symm; have f5_ := f3_.symm; clear f1_ f2_ f3_; subst f4_; subst f5_))
           obtain ⟨Ao14, co14, eo14⟩ := Kd.R_slice HO_1002.out
           (first | subst eo14 | (injection eo14 with f1_ f2_ f3_; have f4_ := f1_.symm; have f5_ := f3_.symm; clear f1_ f2_ f3_; subst f4_; subst f5_))
           have p181 : 0 ≤ ((ji3) : Int) := of_decide_eq_true d6_1; have q181 : (ji3) < (x1002_1.length : Int) := of_decide_eq_true d6_1; obtain ⟨ad181, e181, hx181_0⟩ := Kd.at_bool (Kd.R_reads' HO_1002.out).2.2 (ji3) p181 q181
           (try rw [← Nbq6.out] at hx181_0)
           cases e181
           replace p181 := eq_true p181; replace q181 := eq_true q181; refine start_ (n := 20) (S := fun w' => w'.cell? ⟨g, 0, none⟩ = some (u9000_) ∧ w'.cell? ⟨g, 1, none⟩ = some (.slice Ao13 x1001_1.length co13) ∧ w'.cell? ⟨g, 2, none⟩ = some (.slice (some ad181) x1002_1.length co14) ∧ w'.cell? (ad181.add ((ji3)).toNat) = some (.bool true)) (ds := []) m6_0 (by kernel_rfl) rfl rfl ⟨(blk_cell BK0.out 0).trans rfl, (blk_cell BK0.out 1).trans rfl, (blk_cell BK0.out 2).trans rfl, hx181_0⟩ (fun hHeld => ?_); refine with_tabW spec_l3Whole.tab0 spec_l3Whole.bits0 (fun HT_ HW_ => ?_); generalize wr.drew = w12 at HO_1000 HO_1001 HO_1002 BK0 HK HB hx181_0 hHeld ⊢; refine pure_ (i := 0) (N := some 2) (v := ?_) (a' := ?_) m6_1 rfl rfl (any_of HT_.out (by kernel_rfl)) (fun _ _ _ h => h) (Or.inl ⟨by rfl, ?_⟩) ?_ ?_; rotate_left
           · intro w'
             go_simp; (with_reducible rfl)
           rotate_left
           · simp only [Act.put, pa6_1, pa6_2, pa6_3, i64_w, i32_w]
             rfl
           refine pure_ (i := 1) (N := some 3) (v := ?_) (a' := ?_) m6_2 rfl rfl (any_of HT_.out (by kernel_rfl)) (fun _ _ _ h => h) (Or.inl ⟨by rfl, ?_⟩) ?_ ?_; rotate_left
           · intro w'
             go_simp; (with_reducible rfl)
           rotate_left
           · simp only [Act.put, pa6_1, pa6_2, pa6_3, i64_w, i32_w]
             rfl
           refine pure_ (i := 2) (N := some 4) (v := ?_) (a' := ?_) m6_3 rfl rfl (any_of HT_.out (by kernel_rfl)) (fun _ _ _ h => h) (Or.inl ⟨by rfl, ?_⟩) ?_ ?_; rotate_left
           · intro w'
             go_simp; (with_reducible rfl)
           rotate_left
           · simp only [Act.put, pa6_1, pa6_2, pa6_3, i64_w, i32_w]
             rfl
           refine take_ (i := 3) (N := some 5) (v := ?_) (a' := ?_) m6_4 rfl rfl (take_ofW HT_.out HW_.out (by kernel_rfl)) (fun _ _ _ h => h) (Or.inl ⟨by rfl, ?_⟩) hHeld ?_ ?_; rotate_left
           · rintro w' ⟨s0, s1, s2, s3⟩
             go_simp; (with_reducible rfl)
           rotate_left
           · simp only [Act.put, pa6_1, pa6_2, pa6_3, i64_w, i32_w]
             rfl
           refine pure_ (i := 4) (N := some 6) (v := ?_) (a' := ?_) m6_5 rfl rfl (any_of HT_.out (by kernel_rfl)) (fun _ _ _ h => h) (Or.inl ⟨by rfl, ?_⟩) ?_ ?_; rotate_left
           · intro w'
             go_simp; (with_reducible rfl)
           rotate_left
           · simp only [Act.put, pa6_1, pa6_2, pa6_3, i64_w, i32_w]
             rfl
           refine pure_ (i := 5) (N := some 7) (v := ?_) (a' := ?_) m6_6 rfl rfl (any_of HT_.out (by kernel_rfl)) (fun _ _ _ h => h) (Or.inl ⟨by rfl, ?_⟩) ?_ ?_; rotate_left
           · intro w'
             go_simp; (with_reducible rfl)
           rotate_left
           · simp only [Act.put, pa6_1, pa6_2, pa6_3, i64_w, i32_w]
             rfl
           refine pure_ (i := 6) (N := some 8) (v := ?_) (a' := ?_) m6_7 rfl rfl (any_of HT_.out (by kernel_rfl)) (fun _ _ _ h => h) (Or.inl ⟨by rfl, ?_⟩) ?_ ?_; rotate_left
           · intro w'
             go_simp; (with_reducible rfl)
           rotate_left
           · simp only [Act.put, pa6_1, pa6_2, pa6_3, i64_w, i32_w]
             rfl
           refine pure_ (i := 7) (N := some 9) (v := ?_) (a' := ?_) m6_8 rfl rfl (any_of HT_.out (by kernel_rfl)) (fun _ _ _ h => h) (Or.inl ⟨by rfl, ?_⟩) ?_ ?_; rotate_left
           · intro w'
             go_simp; (with_reducible rfl)
           rotate_left
           · simp only [Act.put, pa6_1, pa6_2, pa6_3, i64_w, i32_w]
             rfl
           refine pure_ (i := 8) (N := some 10) (v := ?_) (a' := ?_) m6_9 rfl rfl (any_of HT_.out (by kernel_rfl)) (fun _ _ _ h => h) (Or.inl ⟨by rfl, ?_⟩) ?_ ?_; rotate_left
           · intro w'
             go_simp; (with_reducible rfl)
           rotate_left
           · simp only [Act.put, pa6_1, pa6_2, pa6_3, i64_w, i32_w]
             rfl
           refine pure_ (i := 9) (N := some 11) (v := ?_) (a' := ?_) m6_10 rfl rfl (any_of HT_.out (by kernel_rfl)) (fun _ _ _ h => h) (Or.inl ⟨by rfl, ?_⟩) ?_ ?_; rotate_left
           · intro w'
             go_simp; (with_reducible rfl)
           rotate_left
           · simp only [Act.put, pa6_1, pa6_2, pa6_3, i64_w, i32_w]
             rfl
           refine pure_ (i := 11) (N := some 13) (v := ?_) (a' := ?_) m6_11 rfl rfl (any_of HT_.out (by kernel_rfl)) (fun _ _ _ h => h) (Or.inl ⟨by rfl, ?_⟩) ?_ ?_; rotate_left
           · intro w'
             go_simp; (with_reducible rfl)
           rotate_left
           · simp only [Act.put, pa6_1, pa6_2, pa6_3, i64_w, i32_w]
             rfl
           refine pure_ (i := 12) (N := some 14) (v := ?_) (a' := ?_) m6_12 rfl rfl (any_of HT_.out (by kernel_rfl)) (fun _ _ _ h => h) (Or.inl ⟨by rfl, ?_⟩) ?_ ?_; rotate_left
           · intro w'
             go_simp; (with_reducible rfl)
           rotate_left
           · simp only [Act.put, pa6_1, pa6_2, pa6_3, i64_w, i32_w]
             rfl
           refine pure_ (i := 13) (N := some 15) (v := ?_) (a' := ?_) m6_13 rfl rfl (any_of HT_.out (by kernel_rfl)) (fun _ _ _ h => h) (Or.inl ⟨by rfl, ?_⟩) ?_ ?_; rotate_left
           · intro w'
             go_simp; (with_reducible rfl)
           rotate_left
           · simp only [Act.put, pa6_1, pa6_2, pa6_3, i64_w, i32_w]
             rfl
           refine take_ (i := 10) (N := some 12) (v := ?_) (a' := ?_) m6_17 rfl rfl (take_ofW HT_.out HW_.out (by kernel_rfl)) (fun _ _ _ h => h) (Or.inl ⟨by rfl, ?_⟩) hHeld ?_ ?_; rotate_left
           · rintro w' ⟨s0, s1, s2, s3⟩
             go_simp; (with_reducible rfl)
           rotate_left
           · simp only [Act.put, pa6_1, pa6_2, pa6_3, i64_w, i32_w]
             rfl
           refine take_ (i := 14) (N := some 16) (v := ?_) (a' := ?_) m6_18 rfl rfl (take_ofW HT_.out HW_.out (by kernel_rfl)) (fun _ _ _ h => h) (Or.inl ⟨by rfl, ?_⟩) hHeld ?_ ?_; rotate_left
           · rintro w' ⟨s0, s1, s2, s3⟩
             go_simp; (with_reducible rfl)
           rotate_left
           · simp only [Act.put, pa6_1, pa6_2, pa6_3, i64_w, i32_w]
             rfl
           refine pure_ (i := 15) (N := some 17) (v := ?_) (a' := ?_) m6_19 rfl rfl (any_of HT_.out (by kernel_rfl)) (fun _ _ _ h => h) (Or.inl ⟨by rfl, ?_⟩) ?_ ?_; rotate_left
           · intro w'
             go_simp; (with_reducible rfl)
           rotate_left
           · simp only [Act.put, pa6_1, pa6_2, pa6_3, i64_w, i32_w]
             rfl
           refine pure_ (i := 16) (N := some 18) (v := ?_) (a' := ?_) m6_20 rfl rfl (any_of HT_.out (by kernel_rfl)) (fun _ _ _ h => h) (Or.inl ⟨by rfl, ?_⟩) ?_ ?_; rotate_left
           · intro w'
             go_simp; (with_reducible rfl)
           rotate_left
           · simp only [Act.put, pa6_1, pa6_2, pa6_3, i64_w, i32_w]
             rfl
           refine pure_ (i := 17) (N := some 19) (v := ?_) (a' := ?_) m6_21 rfl rfl (any_of HT_.out (by kernel_rfl)) (fun _ _ _ h => h) (Or.inl ⟨by rfl, ?_⟩) ?_ ?_; rotate_left
           · intro w'
             go_simp; (with_reducible rfl)
           rotate_left
           · simp only [Act.put, pa6_1, pa6_2, pa6_3, i64_w, i32_w]
             rfl
           refine take_ (i := 18) (N := some 20) (v := ?_) (a' := ?_) m6_22 rfl rfl (take_ofW HT_.out HW_.out (by kernel_rfl)) (fun _ _ _ h => h) (Or.inl ⟨by rfl, ?_⟩) hHeld ?_ ?_; rotate_left
           · rintro w' ⟨s0, s1, s2, s3⟩
             go_simp; (with_reducible rfl)
           rotate_left
           · simp only [Act.put, pa6_1, pa6_2, pa6_3, i64_w, i32_w]
             rfl
           refine pure_ (i := 19) (N := some 21) (v := ?_) (a' := ?_) m6_23 rfl rfl (any_of HT_.out (by kernel_rfl)) (fun _ _ _ h => h) (Or.inl ⟨by rfl, ?_⟩) ?_ ?_; rotate_left
           · intro w'
             go_simp; (with_reducible rfl)
           rotate_left
           · simp only [Act.put, pa6_1, pa6_2, pa6_3, i64_w, i32_w]
             rfl
           refine done_ (done_of HT_.out (by kernel_rfl)) ?_
           try go_wp2
           have n0_ := ak (Kd.R_drew HO_1000.out); have n1_ := ak (Kd.R_drew HO_1001.out); have n2_ := ak (Kd.R_drew HO_1002.out); have n3_ := ak (blk_drew BK0.out); have n4_ := ak (Kept.drew HK.out); have n5_ := ak (below_drew1 HB.out); clear HO_1000; clear HO_1001; clear HO_1002; clear BK0; clear HK; clear HB; have HO_1000 := n0_; have HO_1001 := n1_; have HO_1002 := n2_; have BK0 := n3_; have HK := n4_; have HB := n5_; clear n0_ n1_ n2_ n3_ n4_ n5_; have q16 : ((ji8) : Int) ≤ ((x1001_1.length : Int) : Int) := of_decide_eq_true d6_1; obtain ⟨i016, hi016, _, hsz16, _⟩ := info_parts info2; have hcut16 := cut_to (P := Tryd.prog) 54 2 .i64 Tryd.underlying54 hi016 Ao13 x1001_1.length co13 (ji8) (of_decide_eq_true d6_1) q16 (Kd.R_reads' HO_1001.out).2.1; have hr16 := Kd.R_take (m := ((ji8) : Int).toNat) HO_1001.out (by omega); have hy16 : y182.length = ((ji8) : Int).toNat := (by rw [Ny182.out, List.length_take]; omega); rw [← Ny182.out] at hr16; rw [← hy16] at hr16 hcut16; clear hy16 hi016 hsz16 HO_1001; have HO184 := ak hr16; clear hr16; replace q16 := eq_true q16
           refine start_ (n := 15) (S := fun w' => w'.cell? ⟨g, 0, none⟩ = some (u9000_) ∧ w'.cell? ⟨g, 1, none⟩ = some (.slice Ao13 x1001_1.length co13) ∧ w'.cell? ⟨g, 2, none⟩ = some (.slice (some ad181) x1002_1.length co14)) (ds := [14]) #[false, false, false, false, false, false, false, false, false, false, false, false, false, false, false] (by kernel_rfl) rfl rfl (hb6_3 BK0.out) (fun hHeld => ?_); refine with_tabW spec_l3Whole.tab1 spec_l3Whole.bits1 (fun HT_ HW_ => ?_); generalize w12.drew = w15 at HO_1000 HO_1002 BK0 HK HB HO184 hHeld ⊢; refine pure_ (i := 0) (N := some 22) (v := ?_) (a' := ?_) #[true, false, false, false, false, false, false, false, false, false, false, false, false, false, false] rfl rfl (any_of HT_.out (by kernel_rfl)) (fun _ _ _ h => h) (Or.inl ⟨by rfl, ?_⟩) ?_ ?_; rotate_left
           · intro w'
             go_simp; (with_reducible rfl)
           rotate_left
           · simp only [Act.put, pa6_1, pa6_2, pa6_3, i64_w, i32_w]
             rfl
           refine pure_ (i := 1) (N := some 23) (v := ?_) (a' := ?_) #[true, true, false, false, false, false, false, false, false, false, false, false, false, false, false] rfl rfl (any_of HT_.out (by kernel_rfl)) (fun _ _ _ h => h) (Or.inl ⟨by rfl, ?_⟩) ?_ ?_; rotate_left
           · intro w'
             go_simp; (with_reducible rfl)
           rotate_left
           · simp only [Act.put, pa6_1, pa6_2, pa6_3, i64_w, i32_w]
             rfl
           refine pure_ (i := 2) (N := some 24) (v := ?_) (a' := ?_) #[true, true, true, false, false, false, false, false, false, false, false, false, false, false, false] rfl rfl (any_of HT_.out (by kernel_rfl)) (fun _ _ _ h => h) (Or.inl ⟨by rfl, ?_⟩) ?_ ?_; rotate_left
           · intro w'
             go_simp; (with_reducible rfl)
           rotate_left
           · simp only [Act.put, pa6_1, pa6_2, pa6_3, i64_w, i32_w]
             rfl
           refine pure_ (i := 3) (N := some 25) (v := ?_) (a' := ?_) #[true, true, true, true, false, false, false, false, false, false, false, false, false, false, false] rfl rfl (any_of HT_.out (by kernel_rfl)) (fun _ _ _ h => h) (Or.inl ⟨by rfl, ?_⟩) ?_ ?_; rotate_left
           · intro w'
             go_simp; (with_reducible rfl)
           rotate_left
           · simp only [Act.put, pa6_1, pa6_2, pa6_3, i64_w, i32_w]
             rfl
           refine pure_ (i := 5) (N := some 27) (v := ?_) (a' := ?_) #[true, true, true, true, false, true, false, false, false, false, false, false, false, false, false] rfl rfl (any_of HT_.out (by kernel_rfl)) (fun _ _ _ h => h) (Or.inl ⟨by rfl, ?_⟩) ?_ ?_; rotate_left
           · intro w'
             go_simp; (with_reducible rfl)
           rotate_left
           · simp only [Act.put, pa6_1, pa6_2, pa6_3, i64_w, i32_w]
             rfl
           refine pure_ (i := 6) (N := some 28) (v := ?_) (a' := ?_) #[true, true, true, true, false, true, true, false, false, false, false, false, false, false, false] rfl rfl (any_of HT_.out (by kernel_rfl)) (fun _ _ _ h => h) (Or.inl ⟨by rfl, ?_⟩) ?_ ?_; rotate_left
           · intro w'
             go_simp; (with_reducible rfl)
           rotate_left
           · simp only [Act.put, pa6_1, pa6_2, pa6_3, i64_w, i32_w]
             rfl
           refine pure_ (i := 7) (N := some 29) (v := ?_) (a' := ?_) #[true, true, true, true, false, true, true, true, false, false, false, false, false, false, false] rfl rfl (any_of HT_.out (by kernel_rfl)) (fun _ _ _ h => h) (Or.inl ⟨by rfl, ?_⟩) ?_ ?_; rotate_left
           · intro w'
             go_simp; (with_reducible rfl)
           rotate_left
           · simp only [Act.put, pa6_1, pa6_2, pa6_3, i64_w, i32_w]
             rfl
           refine take_ (i := 4) (N := some 26) (v := ?_) (a' := ?_) #[true, true, true, true, true, true, true, true, false, false, false, false, false, false, false] rfl rfl (take_ofW HT_.out HW_.out (by kernel_rfl)) (fun _ _ _ h => h) (Or.inl ⟨by rfl, ?_⟩) hHeld ?_ ?_; rotate_left
           · rintro w' ⟨s0, s1, s2⟩
             go_simp; (with_reducible rfl)
           rotate_left
           · simp only [Act.put, pa6_1, pa6_2, pa6_3, i64_w, i32_w]
             rfl
           refine take_ (i := 8) (N := some 30) (v := ?_) (a' := ?_) #[true, true, true, true, true, true, true, true, true, false, false, false, false, false, false] rfl rfl (take_ofW HT_.out HW_.out (by kernel_rfl)) (fun _ _ _ h => h) (Or.inl ⟨by rfl, ?_⟩) hHeld ?_ ?_; rotate_left
           · rintro w' ⟨s0, s1, s2⟩
             go_simp; (with_reducible rfl)
           rotate_left
           · simp only [Act.put, pa6_1, pa6_2, pa6_3, i64_w, i32_w]
             rfl
           refine pure_ (i := 9) (N := some 31) (v := ?_) (a' := ?_) #[true, true, true, true, true, true, true, true, true, true, false, false, false, false, false] rfl rfl (any_of HT_.out (by kernel_rfl)) (fun _ _ _ h => h) (Or.inl ⟨by rfl, ?_⟩) ?_ ?_; rotate_left
           · intro w'
             go_simp; (with_reducible rfl)
           rotate_left
           · simp only [Act.put, pa6_1, pa6_2, pa6_3, i64_w, i32_w]
             rfl
           refine pure_ (i := 10) (N := some 32) (v := ?_) (a' := ?_) #[true, true, true, true, true, true, true, true, true, true, true, false, false, false, false] rfl rfl (any_of HT_.out (by kernel_rfl)) (fun _ _ _ h => h) (Or.inl ⟨by rfl, ?_⟩) ?_ ?_; rotate_left
           · intro w'
             go_simp; (with_reducible rfl)
           rotate_left
           · simp only [Act.put, pa6_1, pa6_2, pa6_3, i64_w, i32_w]
             rfl
           refine pure_ (i := 11) (N := some 33) (v := ?_) (a' := ?_) #[true, true, true, true, true, true, true, true, true, true, true, true, false, false, false] rfl rfl (any_of HT_.out (by kernel_rfl)) (fun _ _ _ h => h) (Or.inl ⟨by rfl, ?_⟩) ?_ ?_; rotate_left
           · intro w'
             go_simp; (with_reducible rfl)
           rotate_left
           · simp only [Act.put, pa6_1, pa6_2, pa6_3, i64_w, i32_w]
             rfl
           refine pure_ (i := 12) (N := some 34) (v := ?_) (a' := ?_) #[true, true, true, true, true, true, true, true, true, true, true, true, true, false, false] rfl rfl (any_of HT_.out (by kernel_rfl)) (fun _ _ _ h => h) (Or.inl ⟨by rfl, ?_⟩) ?_ ?_; rotate_left
           · intro w'
             go_simp; (with_reducible rfl)
           rotate_left
           · simp only [Act.put, pa6_1, pa6_2, pa6_3, i64_w, i32_w]
             rfl
           refine pure_ (i := 13) (N := some 35) (v := ?_) (a' := ?_) #[true, true, true, true, true, true, true, true, true, true, true, true, true, true, false] rfl rfl (any_of HT_.out (by kernel_rfl)) (fun _ _ _ h => h) (Or.inl ⟨by rfl, ?_⟩) ?_ ?_; rotate_left
           · intro w'
             go_simp; (with_reducible rfl)
           rotate_left
           · simp only [Act.put, pa6_1, pa6_2, pa6_3, i64_w, i32_w]
             rfl
           refine last_ (i := 14) (N := none) #[true, true, true, true, true, true, true, true, true, true, true, true, true, true, true] rfl rfl (one_of HT_.out (by kernel_rfl)) (by decide) (fun K hK => ?_); have hs17 : w15.cell? ⟨g, 1, none⟩ = some (.slice Ao13 x1001_1.length co13) := (blk_cell BK0.out 1).trans rfl; have hfs17 := blk_frozen BK0.out 1; refine skip_ (w1 := ?_) (by rfl) rfl ?_ ?_; rotate_left
           · go_simp
             rfl
           refine hK.out _ _ ?_; clear hK K; refine done_ (done_of HT_.out (by kernel_rfl)) ?_
           try go_wp2
           have n0_ : Aside0 (Kd.R k80 80 (w15.setCell ⟨g, 1, none⟩ (.slice Ao13 y182.length co13)) w0.heap.size (fun k_ => ((P0_0_ k_ ∨ P0_1_ k_ ∨ P0_2_ k_) ∨ w.heap.size ≤ k_)) u9000_ l0_0) := ⟨by (with_reducible repeat (first | apply Kd.R_alloc | apply Kd.R_drewN | apply Kd.R_drew)); exact Kd.R_mono (Kd.R_far (p := ⟨g, 1, none⟩) (Kd.R_types HO_1000.out BK0.out (by decide)) (fun _ hk => hk.2) (.slice Ao13 y182.length co13)) (fun _ hk => hk.1)⟩; have n1_ : Aside0 (Kd.R (Kd.int .i64) 2 (w15.setCell ⟨g, 1, none⟩ (.slice Ao13 y182.length co13)) w0.heap.size (fun k_ => ((P0_0_ k_ ∨ P0_1_ k_ ∨ P0_2_ k_) ∨ w.heap.size ≤ k_)) (.slice Ao13 y182.length co13) y182) := ⟨by (with_reducible repeat (first | apply Kd.R_alloc | apply Kd.R_drewN | apply Kd.R_drew)); exact Kd.R_mono (Kd.R_far (p := ⟨g, 1, none⟩) (Kd.R_types HO184.out BK0.out (by decide)) (fun _ hk => hk.2) (.slice Ao13 y182.length co13)) (fun _ hk => hk.1)⟩; have n2_ : Aside0 (Kd.R Kd.bool 4 (w15.setCell ⟨g, 1, none⟩ (.slice Ao13 y182.length co13)) w0.heap.size (fun k_ => ((P0_0_ k_ ∨ P0_1_ k_ ∨ P0_2_ k_) ∨ w.heap.size ≤ k_)) (.slice (some ad181) x1002_1.length co14) x1002_1) := ⟨by (with_reducible repeat (first | apply Kd.R_alloc | apply Kd.R_drewN | apply Kd.R_drew)); exact Kd.R_mono (Kd.R_far (p := ⟨g, 1, none⟩) (Kd.R_types HO_1002.out BK0.out (by decide)) (fun _ hk => hk.2) (.slice Ao13 y182.length co13)) (fun _ hk => hk.1)⟩
           have n3_ : Aside0 ((w15.setCell ⟨g, 1, none⟩ (.slice Ao13 y182.length co13)).heap[g]? = some (.cells #[u9000_, .slice Ao13 y182.length co13, .slice (some ad181) x1002_1.length co14] 74 (0, 0))) := ⟨by (with_reducible repeat (first | refine blk_drewN ?_ _ | refine blk_drew ?_ | refine blk_alloc ?_ _)); refine blk_put (cs := #[u9000_, .slice Ao13 x1001_1.length co13, .slice (some ad181) x1002_1.length co14]) ?_ 1 _ rfl; (with_reducible repeat (first | refine blk_drewN ?_ _ | refine blk_drew ?_ | refine blk_alloc ?_ _)); exact BK0.out⟩; have n4_ : Aside0 (Kept w (w15.setCell ⟨g, 1, none⟩ (.slice Ao13 y182.length co13)) (fun k_ => (P0_0_ k_ ∨ P0_1_ k_ ∨ P0_2_ k_) ∨ k_ = g)) := ⟨c6_1⟩; have n5_ : Aside0 (Below w0.heap.size w0 (w15.setCell ⟨g, 1, none⟩ (.slice Ao13 y182.length co13))) := ⟨c6_2⟩
           (try clear HO_1000)
           (try clear HO184)
           (try clear HO_1002)
           (try clear BK0)
           (try clear HK)
           (try clear HB)
           generalize (w15.setCell ⟨g, 1, none⟩ (.slice Ao13 y182.length co13)) = w18 at n0_ n1_ n2_ n3_ n4_ n5_ ⊢; have HO_1000 := n0_; have HO184 := n1_; have HO_1002 := n2_; have BK0 := n3_; have HK := n4_; have HB := n5_; clear n0_ n1_ n2_ n3_ n4_ n5_; have n0_ := ak (Kd.R_drew HO_1000.out); have n1_ := ak (Kd.R_drew HO184.out); have n2_ := ak (Kd.R_drew HO_1002.out); have n3_ := ak (blk_drew BK0.out); have n4_ := ak (Kept.drew HK.out); have n5_ := ak (below_drew1 HB.out); clear HO_1000; clear HO184; clear HO_1002; clear BK0; clear HK; clear HB; have HO_1000 := n0_; have HO184 := n1_; have HO_1002 := n2_; have BK0 := n3_; have HK := n4_; have HB := n5_; clear n0_ n1_ n2_ n3_ n4_ n5_; have q20 : ((ji3) : Int) ≤ ((x1002_1.length : Int) : Int) := of_decide_eq_true d6_1; obtain ⟨i020, hi020, _, hsz20, _⟩ := info_parts info4; have hcut20 := cut_to (P := Tryd.prog) 72 4 .i64 Tryd.underlying72 hi020 (some ad181) x1002_1.length co14 (ji3) (of_decide_eq_true d6_1) q20 (Kd.R_reads' HO_1002.out).2.1; have hr20 := Kd.R_take (m := ((ji3) : Int).toNat) HO_1002.out (by omega); have hy20 : y185.length = ((ji3) : Int).toNat := (by rw [Ny185.out, List.length_take]; omega); rw [← Ny185.out] at hr20; rw [← hy20] at hr20 hcut20; clear hy20 hi020 hsz20 HO_1002; have HO187 := ak hr20; clear hr20; replace q20 := eq_true q20
           refine start_ (n := 15) (S := fun w' => w'.cell? ⟨g, 0, none⟩ = some (u9000_) ∧ w'.cell? ⟨g, 1, none⟩ = some (.slice Ao13 y182.length co13) ∧ w'.cell? ⟨g, 2, none⟩ = some (.slice (some ad181) x1002_1.length co14)) (ds := [14]) #[false, false, false, false, false, false, false, false, false, false, false, false, false, false, false] (by kernel_rfl) rfl rfl (hb6_3 BK0.out) (fun hHeld => ?_); refine with_tabW spec_l3Whole.tab2 spec_l3Whole.bits2 (fun HT_ HW_ => ?_); generalize w18.drew = w19 at HO_1000 HO184 BK0 HK HB HO187 hHeld ⊢; refine pure_ (i := 0) (N := some 36) (v := ?_) (a' := ?_) #[true, false, false, false, false, false, false, false, false, false, false, false, false, false, false] rfl rfl (any_of HT_.out (by kernel_rfl)) (fun _ _ _ h => h) (Or.inl ⟨by rfl, ?_⟩) ?_ ?_; rotate_left
           · intro w'
             go_simp; (with_reducible rfl)
           rotate_left
           · simp only [Act.put, pa6_1, pa6_2, pa6_3, i64_w, i32_w]
             rfl
           refine pure_ (i := 1) (N := some 37) (v := ?_) (a' := ?_) #[true, true, false, false, false, false, false, false, false, false, false, false, false, false, false] rfl rfl (any_of HT_.out (by kernel_rfl)) (fun _ _ _ h => h) (Or.inl ⟨by rfl, ?_⟩) ?_ ?_; rotate_left
           · intro w'
             go_simp; (with_reducible rfl)
           rotate_left
           · simp only [Act.put, pa6_1, pa6_2, pa6_3, i64_w, i32_w]
             rfl
           refine pure_ (i := 2) (N := some 38) (v := ?_) (a' := ?_) #[true, true, true, false, false, false, false, false, false, false, false, false, false, false, false] rfl rfl (any_of HT_.out (by kernel_rfl)) (fun _ _ _ h => h) (Or.inl ⟨by rfl, ?_⟩) ?_ ?_; rotate_left
           · intro w'
             go_simp; (with_reducible rfl)
           rotate_left
           · simp only [Act.put, pa6_1, pa6_2, pa6_3, i64_w, i32_w]
             rfl
           refine pure_ (i := 3) (N := some 39) (v := ?_) (a' := ?_) #[true, true, true, true, false, false, false, false, false, false, false, false, false, false, false] rfl rfl (any_of HT_.out (by kernel_rfl)) (fun _ _ _ h => h) (Or.inl ⟨by rfl, ?_⟩) ?_ ?_; rotate_left
           · intro w'
             go_simp; (with_reducible rfl)
           rotate_left
           · simp only [Act.put, pa6_1, pa6_2, pa6_3, i64_w, i32_w]
             rfl
           refine pure_ (i := 5) (N := some 41) (v := ?_) (a' := ?_) #[true, true, true, true, false, true, false, false, false, false, false, false, false, false, false] rfl rfl (any_of HT_.out (by kernel_rfl)) (fun _ _ _ h => h) (Or.inl ⟨by rfl, ?_⟩) ?_ ?_; rotate_left
           · intro w'
             go_simp; (with_reducible rfl)
           rotate_left
           · simp only [Act.put, pa6_1, pa6_2, pa6_3, i64_w, i32_w]
             rfl
           refine pure_ (i := 6) (N := some 42) (v := ?_) (a' := ?_) #[true, true, true, true, false, true, true, false, false, false, false, false, false, false, false] rfl rfl (any_of HT_.out (by kernel_rfl)) (fun _ _ _ h => h) (Or.inl ⟨by rfl, ?_⟩) ?_ ?_; rotate_left
           · intro w'
             go_simp; (with_reducible rfl)
           rotate_left
           · simp only [Act.put, pa6_1, pa6_2, pa6_3, i64_w, i32_w]
             rfl
           refine pure_ (i := 7) (N := some 43) (v := ?_) (a' := ?_) #[true, true, true, true, false, true, true, true, false, false, false, false, false, false, false] rfl rfl (any_of HT_.out (by kernel_rfl)) (fun _ _ _ h => h) (Or.inl ⟨by rfl, ?_⟩) ?_ ?_; rotate_left
           · intro w'
             go_simp; (with_reducible rfl)
           rotate_left
           · simp only [Act.put, pa6_1, pa6_2, pa6_3, i64_w, i32_w]
             rfl
           refine take_ (i := 4) (N := some 40) (v := ?_) (a' := ?_) #[true, true, true, true, true, true, true, true, false, false, false, false, false, false, false] rfl rfl (take_ofW HT_.out HW_.out (by kernel_rfl)) (fun _ _ _ h => h) (Or.inl ⟨by rfl, ?_⟩) hHeld ?_ ?_; rotate_left
           · rintro w' ⟨s0, s1, s2⟩
             go_simp; (with_reducible rfl)
           rotate_left
           · simp only [Act.put, pa6_1, pa6_2, pa6_3, i64_w, i32_w]
             rfl
           refine take_ (i := 8) (N := some 44) (v := ?_) (a' := ?_) #[true, true, true, true, true, true, true, true, true, false, false, false, false, false, false] rfl rfl (take_ofW HT_.out HW_.out (by kernel_rfl)) (fun _ _ _ h => h) (Or.inl ⟨by rfl, ?_⟩) hHeld ?_ ?_; rotate_left
           · rintro w' ⟨s0, s1, s2⟩
             go_simp; (with_reducible rfl)
           rotate_left
           · simp only [Act.put, pa6_1, pa6_2, pa6_3, i64_w, i32_w]
             rfl
           refine pure_ (i := 9) (N := some 45) (v := ?_) (a' := ?_) #[true, true, true, true, true, true, true, true, true, true, false, false, false, false, false] rfl rfl (any_of HT_.out (by kernel_rfl)) (fun _ _ _ h => h) (Or.inl ⟨by rfl, ?_⟩) ?_ ?_; rotate_left
           · intro w'
             go_simp; (with_reducible rfl)
           rotate_left
           · simp only [Act.put, pa6_1, pa6_2, pa6_3, i64_w, i32_w]
             rfl
           refine pure_ (i := 10) (N := some 46) (v := ?_) (a' := ?_) #[true, true, true, true, true, true, true, true, true, true, true, false, false, false, false] rfl rfl (any_of HT_.out (by kernel_rfl)) (fun _ _ _ h => h) (Or.inl ⟨by rfl, ?_⟩) ?_ ?_; rotate_left
           · intro w'
             go_simp; (with_reducible rfl)
           rotate_left
           · simp only [Act.put, pa6_1, pa6_2, pa6_3, i64_w, i32_w]
             rfl
           refine pure_ (i := 11) (N := some 47) (v := ?_) (a' := ?_) #[true, true, true, true, true, true, true, true, true, true, true, true, false, false, false] rfl rfl (any_of HT_.out (by kernel_rfl)) (fun _ _ _ h => h) (Or.inl ⟨by rfl, ?_⟩) ?_ ?_; rotate_left
           · intro w'
             go_simp; (with_reducible rfl)
           rotate_left
           · simp only [Act.put, pa6_1, pa6_2, pa6_3, i64_w, i32_w]
             rfl
           refine pure_ (i := 12) (N := some 48) (v := ?_) (a' := ?_) #[true, true, true, true, true, true, true, true, true, true, true, true, true, false, false] rfl rfl (any_of HT_.out (by kernel_rfl)) (fun _ _ _ h => h) (Or.inl ⟨by rfl, ?_⟩) ?_ ?_; rotate_left
           · intro w'
             go_simp; (with_reducible rfl)
           rotate_left
           · simp only [Act.put, pa6_1, pa6_2, pa6_3, i64_w, i32_w]
             rfl
           refine pure_ (i := 13) (N := some 49) (v := ?_) (a' := ?_) #[true, true, true, true, true, true, true, true, true, true, true, true, true, true, false] rfl rfl (any_of HT_.out (by kernel_rfl)) (fun _ _ _ h => h) (Or.inl ⟨by rfl, ?_⟩) ?_ ?_; rotate_left
           · intro w'
             go_simp; (with_reducible rfl)
           rotate_left
           · simp only [Act.put, pa6_1, pa6_2, pa6_3, i64_w, i32_w]
             rfl
           refine last_ (i := 14) (N := none) #[true, true, true, true, true, true, true, true, true, true, true, true, true, true, true] rfl rfl (one_of HT_.out (by kernel_rfl)) (by decide) (fun K hK => ?_); have hs21 : w19.cell? ⟨g, 2, none⟩ = some (.slice (some ad181) x1002_1.length co14) := (blk_cell BK0.out 2).trans rfl; have hfs21 := blk_frozen BK0.out 2; refine skip_ (w1 := ?_) (by rfl) rfl ?_ ?_; rotate_left
           · go_simp
             rfl
           refine hK.out _ _ ?_; clear hK K; refine done_ (done_of HT_.out (by kernel_rfl)) ?_
           try go_wp2
           go_roundg k1
           case measure => have := HK1.out; omega
           case rel => exact ⟨(y182), (y185), (.slice Ao13 y182.length co13), (.slice (some ad181) y185.length co14), H', ⟨by have := HK1.out; omega⟩, ⟨by (with_reducible repeat (first | apply Kd.R_alloc | apply Kd.R_drewN | apply Kd.R_drew)); exact Kd.R_mono (Kd.R_far (p := ⟨g, 2, none⟩) (Kd.R_types HO_1000.out BK0.out (by decide)) (fun _ hk => hk.2) (.slice (some ad181) y185.length co14)) (fun _ hk => hk.1)⟩, ⟨by (with_reducible repeat (first | apply Kd.R_alloc | apply Kd.R_drewN | apply Kd.R_drew)); exact Kd.R_mono (Kd.R_far (p := ⟨g, 2, none⟩) (Kd.R_types HO184.out BK0.out (by decide)) (fun _ hk => hk.2) (.slice (some ad181) y185.length co14)) (fun _ hk => hk.1)⟩, ⟨by (with_reducible repeat (first | apply Kd.R_alloc | apply Kd.R_drewN | apply Kd.R_drew)); exact Kd.R_mono (Kd.R_far (p := ⟨g, 2, none⟩) (Kd.R_types HO187.out BK0.out (by decide)) (fun _ hk => hk.2) (.slice (some ad181) y185.length co14)) (fun _ hk => hk.1)⟩, ⟨by (with_reducible repeat (first | refine blk_drewN ?_ _ | refine blk_drew ?_ | refine blk_alloc ?_ _)); refine blk_put (cs := #[u9000_, .slice Ao13 y182.length co13, .slice (some ad181) x1002_1.length co14]) ?_ 2 _ rfl; (with_reducible repeat (first | refine blk_drewN ?_ _ | refine blk_drew ?_ | refine blk_alloc ?_ _)); exact BK0.out⟩, ⟨c6_1⟩, ⟨c6_2⟩⟩
          ·rw [if_neg c11] at H
           exact absurd H (by simp)
         ·rw [if_neg c10] at H
          exact absurd H (by simp)
        ·rw [if_neg c9] at H
         exact absurd H (by simp)
       ·replace c7 := Bool.eq_false_iff.mpr c7
        subst c7
        rw [if_neg (show ¬ (false = true) by decide)] at H; simp only [Option.some.injEq, Prod.mk.injEq] at H; obtain ⟨rfl, rfl, rfl⟩ := H
        try go_wp2
        have n0_ := ak (Kd.R_drew HO_1000.out); have n1_ := ak (Kd.R_drew HO_1001.out); have n2_ := ak (Kd.R_drew HO_1002.out); have n3_ := ak (blk_drew BK0.out); have n4_ := ak (Kept.drew HK.out); have n5_ := ak (below_drew1 HB.out); clear HO_1000; clear HO_1001; clear HO_1002; clear BK0; clear HK; clear HB; have HO_1000 := n0_; have HO_1001 := n1_; have HO_1002 := n2_; have BK0 := n3_; have HK := n4_; have HB := n5_; clear n0_ n1_ n2_ n3_ n4_ n5_; obtain ⟨Ao23, co23, eo23⟩ := Kd.R_slice HO_1001.out
        (first | subst eo23 | (injection eo23 with f1_ f2_ f3_; have f4_ := f1_.symm; have f5_ := f3_.symm; clear f1_ f2_ f3_; subst f4_; subst f5_))
        obtain ⟨Ao24, co24, eo24⟩ := Kd.R_slice HO_1002.out
        (first | subst eo24 | (injection eo24 with f1_ f2_ f3_; have f4_ := f1_.symm; have f5_ := f3_.symm; clear f1_ f2_ f3_; subst f4_; subst f5_))
        have p181 : 0 ≤ ((ji3) : Int) := of_decide_eq_true d6_1; have q181 : (ji3) < (x1002_1.length : Int) := of_decide_eq_true d6_1; obtain ⟨ad181, e181, hx181_0⟩ := Kd.at_bool (Kd.R_reads' HO_1002.out).2.2 (ji3) p181 q181
        (try rw [← Nbq6.out] at hx181_0)
        cases e181
        replace p181 := eq_true p181; replace q181 := eq_true q181; refine start_ (n := 20) (S := fun w' => w'.cell? ⟨g, 0, none⟩ = some (u9000_) ∧ w'.cell? ⟨g, 1, none⟩ = some (.slice Ao23 x1001_1.length co23) ∧ w'.cell? ⟨g, 2, none⟩ = some (.slice (some ad181) x1002_1.length co24) ∧ w'.cell? (ad181.add ((ji3)).toNat) = some (.bool false)) (ds := []) m6_0 (by kernel_rfl) rfl rfl ⟨(blk_cell BK0.out 0).trans rfl, (blk_cell BK0.out 1).trans rfl, (blk_cell BK0.out 2).trans rfl, hx181_0⟩ (fun hHeld => ?_); refine with_tabW spec_l3Whole.tab0 spec_l3Whole.bits0 (fun HT_ HW_ => ?_); generalize wr.drew = w22 at HO_1000 HO_1001 HO_1002 BK0 HK HB hx181_0 hHeld ⊢; refine pure_ (i := 0) (N := some 2) (v := ?_) (a' := ?_) m6_1 rfl rfl (any_of HT_.out (by kernel_rfl)) (fun _ _ _ h => h) (Or.inl ⟨by rfl, ?_⟩) ?_ ?_; rotate_left
        · intro w'
          go_simp; (with_reducible rfl)
        rotate_left
        · simp only [Act.put, pa6_1, pa6_2, pa6_3, i64_w, i32_w]
          rfl
        refine pure_ (i := 1) (N := some 3) (v := ?_) (a' := ?_) m6_2 rfl rfl (any_of HT_.out (by kernel_rfl)) (fun _ _ _ h => h) (Or.inl ⟨by rfl, ?_⟩) ?_ ?_; rotate_left
        · intro w'
          go_simp; (with_reducible rfl)
        rotate_left
        · simp only [Act.put, pa6_1, pa6_2, pa6_3, i64_w, i32_w]
          rfl
        refine pure_ (i := 2) (N := some 4) (v := ?_) (a' := ?_) m6_3 rfl rfl (any_of HT_.out (by kernel_rfl)) (fun _ _ _ h => h) (Or.inl ⟨by rfl, ?_⟩) ?_ ?_; rotate_left
        · intro w'
          go_simp; (with_reducible rfl)
        rotate_left
        · simp only [Act.put, pa6_1, pa6_2, pa6_3, i64_w, i32_w]
          rfl
        refine take_ (i := 3) (N := some 5) (v := ?_) (a' := ?_) m6_4 rfl rfl (take_ofW HT_.out HW_.out (by kernel_rfl)) (fun _ _ _ h => h) (Or.inl ⟨by rfl, ?_⟩) hHeld ?_ ?_; rotate_left
        · rintro w' ⟨s0, s1, s2, s3⟩
          go_simp; (with_reducible rfl)
        rotate_left
        · simp only [Act.put, pa6_1, pa6_2, pa6_3, i64_w, i32_w]
          rfl
        refine pure_ (i := 4) (N := some 6) (v := ?_) (a' := ?_) m6_5 rfl rfl (any_of HT_.out (by kernel_rfl)) (fun _ _ _ h => h) (Or.inl ⟨by rfl, ?_⟩) ?_ ?_; rotate_left
        · intro w'
          go_simp; (with_reducible rfl)
        rotate_left
        · simp only [Act.put, pa6_1, pa6_2, pa6_3, i64_w, i32_w]
          rfl
        refine pure_ (i := 5) (N := some 7) (v := ?_) (a' := ?_) m6_6 rfl rfl (any_of HT_.out (by kernel_rfl)) (fun _ _ _ h => h) (Or.inl ⟨by rfl, ?_⟩) ?_ ?_; rotate_left
        · intro w'
          go_simp; (with_reducible rfl)
        rotate_left
        · simp only [Act.put, pa6_1, pa6_2, pa6_3, i64_w, i32_w]
          rfl
        refine pure_ (i := 6) (N := some 8) (v := ?_) (a' := ?_) m6_7 rfl rfl (any_of HT_.out (by kernel_rfl)) (fun _ _ _ h => h) (Or.inl ⟨by rfl, ?_⟩) ?_ ?_; rotate_left
        · intro w'
          go_simp; (with_reducible rfl)
        rotate_left
        · simp only [Act.put, pa6_1, pa6_2, pa6_3, i64_w, i32_w]
          rfl
        refine pure_ (i := 7) (N := some 9) (v := ?_) (a' := ?_) m6_8 rfl rfl (any_of HT_.out (by kernel_rfl)) (fun _ _ _ h => h) (Or.inl ⟨by rfl, ?_⟩) ?_ ?_; rotate_left
        · intro w'
          go_simp; (with_reducible rfl)
        rotate_left
        · simp only [Act.put, pa6_1, pa6_2, pa6_3, i64_w, i32_w]
          rfl
        refine pure_ (i := 8) (N := some 10) (v := ?_) (a' := ?_) m6_9 rfl rfl (any_of HT_.out (by kernel_rfl)) (fun _ _ _ h => h) (Or.inl ⟨by rfl, ?_⟩) ?_ ?_; rotate_left
        · intro w'
          go_simp; (with_reducible rfl)
        rotate_left
        · simp only [Act.put, pa6_1, pa6_2, pa6_3, i64_w, i32_w]
          rfl
        refine pure_ (i := 9) (N := some 11) (v := ?_) (a' := ?_) m6_10 rfl rfl (any_of HT_.out (by kernel_rfl)) (fun _ _ _ h => h) (Or.inl ⟨by rfl, ?_⟩) ?_ ?_; rotate_left
        · intro w'
          go_simp; (with_reducible rfl)
        rotate_left
        · simp only [Act.put, pa6_1, pa6_2, pa6_3, i64_w, i32_w]
          rfl
        refine pure_ (i := 11) (N := some 13) (v := ?_) (a' := ?_) m6_11 rfl rfl (any_of HT_.out (by kernel_rfl)) (fun _ _ _ h => h) (Or.inl ⟨by rfl, ?_⟩) ?_ ?_; rotate_left
        · intro w'
          go_simp; (with_reducible rfl)
        rotate_left
        · simp only [Act.put, pa6_1, pa6_2, pa6_3, i64_w, i32_w]
          rfl
        refine pure_ (i := 12) (N := some 14) (v := ?_) (a' := ?_) m6_12 rfl rfl (any_of HT_.out (by kernel_rfl)) (fun _ _ _ h => h) (Or.inl ⟨by rfl, ?_⟩) ?_ ?_; rotate_left
        · intro w'
          go_simp; (with_reducible rfl)
        rotate_left
        · simp only [Act.put, pa6_1, pa6_2, pa6_3, i64_w, i32_w]
          rfl
        refine pure_ (i := 13) (N := some 15) (v := ?_) (a' := ?_) m6_13 rfl rfl (any_of HT_.out (by kernel_rfl)) (fun _ _ _ h => h) (Or.inl ⟨by rfl, ?_⟩) ?_ ?_; rotate_left
        · intro w'
          go_simp; (with_reducible rfl)
        rotate_left
        · simp only [Act.put, pa6_1, pa6_2, pa6_3, i64_w, i32_w]
          rfl
        refine take_ (i := 10) (N := some 12) (v := ?_) (a' := ?_) m6_17 rfl rfl (take_ofW HT_.out HW_.out (by kernel_rfl)) (fun _ _ _ h => h) (Or.inl ⟨by rfl, ?_⟩) hHeld ?_ ?_; rotate_left
        · rintro w' ⟨s0, s1, s2, s3⟩
          go_simp; (with_reducible rfl)
        rotate_left
        · simp only [Act.put, pa6_1, pa6_2, pa6_3, i64_w, i32_w]
          rfl
        refine take_ (i := 14) (N := some 16) (v := ?_) (a' := ?_) m6_18 rfl rfl (take_ofW HT_.out HW_.out (by kernel_rfl)) (fun _ _ _ h => h) (Or.inl ⟨by rfl, ?_⟩) hHeld ?_ ?_; rotate_left
        · rintro w' ⟨s0, s1, s2, s3⟩
          go_simp; (with_reducible rfl)
        rotate_left
        · simp only [Act.put, pa6_1, pa6_2, pa6_3, i64_w, i32_w]
          rfl
        refine pure_ (i := 15) (N := some 17) (v := ?_) (a' := ?_) m6_19 rfl rfl (any_of HT_.out (by kernel_rfl)) (fun _ _ _ h => h) (Or.inl ⟨by rfl, ?_⟩) ?_ ?_; rotate_left
        · intro w'
          go_simp; (with_reducible rfl)
        rotate_left
        · simp only [Act.put, pa6_1, pa6_2, pa6_3, i64_w, i32_w]
          rfl
        refine pure_ (i := 16) (N := some 18) (v := ?_) (a' := ?_) m6_20 rfl rfl (any_of HT_.out (by kernel_rfl)) (fun _ _ _ h => h) (Or.inl ⟨by rfl, ?_⟩) ?_ ?_; rotate_left
        · intro w'
          go_simp; (with_reducible rfl)
        rotate_left
        · simp only [Act.put, pa6_1, pa6_2, pa6_3, i64_w, i32_w]
          rfl
        refine pure_ (i := 17) (N := some 19) (v := ?_) (a' := ?_) m6_21 rfl rfl (any_of HT_.out (by kernel_rfl)) (fun _ _ _ h => h) (Or.inl ⟨by rfl, ?_⟩) ?_ ?_; rotate_left
        · intro w'
          go_simp; (with_reducible rfl)
        rotate_left
        · simp only [Act.put, pa6_1, pa6_2, pa6_3, i64_w, i32_w]
          rfl
        refine take_ (i := 18) (N := some 20) (v := ?_) (a' := ?_) m6_22 rfl rfl (take_ofW HT_.out HW_.out (by kernel_rfl)) (fun _ _ _ h => h) (Or.inl ⟨by rfl, ?_⟩) hHeld ?_ ?_; rotate_left
        · rintro w' ⟨s0, s1, s2, s3⟩
          go_simp; (with_reducible rfl)
        rotate_left
        · simp only [Act.put, pa6_1, pa6_2, pa6_3, i64_w, i32_w]
          rfl
        refine pure_ (i := 19) (N := some 21) (v := ?_) (a' := ?_) m6_23 rfl rfl (any_of HT_.out (by kernel_rfl)) (fun _ _ _ h => h) (Or.inl ⟨by rfl, ?_⟩) ?_ ?_; rotate_left
        · intro w'
          go_simp; (with_reducible rfl)
        rotate_left
        · simp only [Act.put, pa6_1, pa6_2, pa6_3, i64_w, i32_w]
          rfl
        refine done_ (done_of HT_.out (by kernel_rfl)) ?_
        try go_wp2
        first | go_end0 | ((try simp only [Exit.inBlock, Exit.then]); refine bodyPost_ret (results_none rfl _ _ _) rfl ?_)
        exact ⟨_, _, _, by first | rfl | (simp [errW_none, errW_some] <;> rfl) | (simp only [← hji3]; first | rfl | (simp [errW_none, errW_some] <;> rfl)) | (simp [*, errW_none, errW_some] <;> rfl), by (with_reducible repeat (first | apply Kd.R_alloc | apply Kd.R_drewN | apply Kd.R_drew)); exact HO_1000.out, by (with_reducible repeat (first | apply Kd.R_alloc | apply Kd.R_drewN | apply Kd.R_drew)); exact HO_1001.out, by (with_reducible repeat (first | apply Kd.R_alloc | apply Kd.R_drewN | apply Kd.R_drew)); exact HO_1002.out, by (with_reducible repeat (first | refine blk_drewN ?_ _ | refine blk_drew ?_ | refine blk_alloc ?_ _)); exact BK0.out, c6_2, c6_1⟩
      ·rw [if_neg c5] at H
       exact absurd H (by simp)
     ·rw [if_neg c4] at H
      exact absurd H (by simp)
    ·rw [if_neg c2] at H
     have c2b0 : decide (0 < (x1001_1.length : Int)) = false := decide_eq_false c2; have c2b1 : decide (0 < x1001_1.length) = false := decide_eq_false (by omega); clear c2; simp only [Option.some.injEq, Prod.mk.injEq] at H; obtain ⟨rfl, rfl, rfl⟩ := H
     try go_wp2
     have n0_ := ak (Kd.R_drew HO_1000.out); have n1_ := ak (Kd.R_drew HO_1001.out); have n2_ := ak (Kd.R_drew HO_1002.out); have n3_ := ak (blk_drew BK0.out); have n4_ := ak (Kept.drew HK.out); have n5_ := ak (below_drew1 HB.out); clear HO_1000; clear HO_1001; clear HO_1002; clear BK0; clear HK; clear HB; have HO_1000 := n0_; have HO_1001 := n1_; have HO_1002 := n2_; have BK0 := n3_; have HK := n4_; have HB := n5_; clear n0_ n1_ n2_ n3_ n4_ n5_; obtain ⟨Ao26, co26, eo26⟩ := Kd.R_slice HO_1001.out
     (first | subst eo26 | (injection eo26 with f1_ f2_ f3_; have f4_ := f1_.symm; have f5_ := f3_.symm; clear f1_ f2_ f3_; subst f4_; subst f5_))
     refine start_ (n := 20) (S := fun w' => w'.cell? ⟨g, 0, none⟩ = some (u9000_) ∧ w'.cell? ⟨g, 1, none⟩ = some (.slice Ao26 x1001_1.length co26) ∧ w'.cell? ⟨g, 2, none⟩ = some (u1002)) (ds := []) m6_0 (by kernel_rfl) rfl rfl (hb6_3 BK0.out) (fun hHeld => ?_); refine with_tabW spec_l3Whole.tab0 spec_l3Whole.bits0 (fun HT_ HW_ => ?_); generalize wr.drew = w25 at HO_1000 HO_1001 HO_1002 BK0 HK HB hHeld ⊢; refine pure_ (i := 0) (N := some 2) (v := ?_) (a' := ?_) m6_1 rfl rfl (any_of HT_.out (by kernel_rfl)) (fun _ _ _ h => h) (Or.inl ⟨by rfl, ?_⟩) ?_ ?_; rotate_left
     · intro w'
       go_simp; (with_reducible rfl)
     rotate_left
     · simp only [Act.put, pa6_1, pa6_2, pa6_3, i64_w, i32_w]
       rfl
     refine pure_ (i := 1) (N := some 3) (v := ?_) (a' := ?_) m6_2 rfl rfl (any_of HT_.out (by kernel_rfl)) (fun _ _ _ h => h) (Or.inl ⟨by rfl, ?_⟩) ?_ ?_; rotate_left
     · intro w'
       go_simp; (with_reducible rfl)
     rotate_left
     · simp only [Act.put, pa6_1, pa6_2, pa6_3, i64_w, i32_w]
       rfl
     refine pure_ (i := 2) (N := some 4) (v := ?_) (a' := ?_) m6_3 rfl rfl (any_of HT_.out (by kernel_rfl)) (fun _ _ _ h => h) (Or.inl ⟨by rfl, ?_⟩) ?_ ?_; rotate_left
     · intro w'
       go_simp; (with_reducible rfl)
     rotate_left
     · simp only [Act.put, pa6_1, pa6_2, pa6_3, i64_w, i32_w]
       rfl
     refine take_ (i := 3) (N := some 5) (v := ?_) (a' := ?_) m6_4 rfl rfl (take_ofW HT_.out HW_.out (by kernel_rfl)) (fun _ _ _ h => h) (Or.inl ⟨by rfl, ?_⟩) hHeld ?_ ?_; rotate_left
     · rintro w' ⟨s0, s1, s2⟩
       go_simp; (with_reducible rfl)
     rotate_left
     · simp only [Act.put, pa6_1, pa6_2, pa6_3, i64_w, i32_w]
       rfl
     refine pure_ (i := 4) (N := some 6) (v := ?_) (a' := ?_) m6_5 rfl rfl (any_of HT_.out (by kernel_rfl)) (fun _ _ _ h => h) (Or.inl ⟨by rfl, ?_⟩) ?_ ?_; rotate_left
     · intro w'
       go_simp; (with_reducible rfl)
     rotate_left
     · simp only [Act.put, pa6_1, pa6_2, pa6_3, i64_w, i32_w]
       rfl
     refine pure_ (i := 5) (N := some 7) (v := ?_) (a' := ?_) m6_6 rfl rfl (any_of HT_.out (by kernel_rfl)) (fun _ _ _ h => h) (Or.inl ⟨by rfl, ?_⟩) ?_ ?_; rotate_left
     · intro w'
       go_simp; (with_reducible rfl)
     rotate_left
     · simp only [Act.put, pa6_1, pa6_2, pa6_3, i64_w, i32_w]
       rfl
     refine pure_ (i := 6) (N := some 8) (v := ?_) (a' := ?_) m6_7 rfl rfl (any_of HT_.out (by kernel_rfl)) (fun _ _ _ h => h) (Or.inl ⟨by rfl, ?_⟩) ?_ ?_; rotate_left
     · intro w'
       go_simp; (with_reducible rfl)
     rotate_left
     · simp only [Act.put, pa6_1, pa6_2, pa6_3, i64_w, i32_w]
       rfl
     refine pure_ (i := 7) (N := some 9) (v := undef) (a' := ?_) m6_8 rfl rfl (any_of HT_.out (by kernel_rfl)) (fun _ _ _ h => h) (Or.inr ⟨by rfl, rfl⟩) ?_ ?_; rotate_left
     · simp only [Act.put, pa6_1, pa6_2, pa6_3, i64_w, i32_w]
       rfl
     refine pure_ (i := 8) (N := some 10) (v := undef) (a' := ?_) m6_9 rfl rfl (any_of HT_.out (by kernel_rfl)) (fun _ _ _ h => h) (Or.inr ⟨by rfl, rfl⟩) ?_ ?_; rotate_left
     · simp only [Act.put, pa6_1, pa6_2, pa6_3, i64_w, i32_w]
       rfl
     refine pure_ (i := 9) (N := some 11) (v := undef) (a' := ?_) m6_10 rfl rfl (any_of HT_.out (by kernel_rfl)) (fun _ _ _ h => h) (Or.inr ⟨by rfl, rfl⟩) ?_ ?_; rotate_left
     · simp only [Act.put, pa6_1, pa6_2, pa6_3, i64_w, i32_w]
       rfl
     refine pure_ (i := 10) (N := some 12) (v := undef) (a' := ?_) #[true, true, true, true, true, true, true, true, true, true, true, false, false, false, false, false, false, false, false, false] rfl rfl (any_of HT_.out (by kernel_rfl)) (fun _ _ _ h => h) (Or.inr ⟨by rfl, rfl⟩) ?_ ?_; rotate_left
     · simp only [Act.put, pa6_1, pa6_2, pa6_3, i64_w, i32_w]
       rfl
     refine pure_ (i := 11) (N := some 13) (v := undef) (a' := ?_) #[true, true, true, true, true, true, true, true, true, true, true, true, false, false, false, false, false, false, false, false] rfl rfl (any_of HT_.out (by kernel_rfl)) (fun _ _ _ h => h) (Or.inr ⟨by rfl, rfl⟩) ?_ ?_; rotate_left
     · simp only [Act.put, pa6_1, pa6_2, pa6_3, i64_w, i32_w]
       rfl
     refine pure_ (i := 12) (N := some 14) (v := undef) (a' := ?_) #[true, true, true, true, true, true, true, true, true, true, true, true, true, false, false, false, false, false, false, false] rfl rfl (any_of HT_.out (by kernel_rfl)) (fun _ _ _ h => h) (Or.inr ⟨by rfl, rfl⟩) ?_ ?_; rotate_left
     · simp only [Act.put, pa6_1, pa6_2, pa6_3, i64_w, i32_w]
       rfl
     refine pure_ (i := 13) (N := some 15) (v := undef) (a' := ?_) m6_17 rfl rfl (any_of HT_.out (by kernel_rfl)) (fun _ _ _ h => h) (Or.inr ⟨by rfl, rfl⟩) ?_ ?_; rotate_left
     · simp only [Act.put, pa6_1, pa6_2, pa6_3, i64_w, i32_w]
       rfl
     refine pure_ (i := 14) (N := some 16) (v := undef) (a' := ?_) m6_18 rfl rfl (any_of HT_.out (by kernel_rfl)) (fun _ _ _ h => h) (Or.inr ⟨by rfl, rfl⟩) ?_ ?_; rotate_left
     · simp only [Act.put, pa6_1, pa6_2, pa6_3, i64_w, i32_w]
       rfl
     refine pure_ (i := 15) (N := some 17) (v := undef) (a' := ?_) m6_19 rfl rfl (any_of HT_.out (by kernel_rfl)) (fun _ _ _ h => h) (Or.inr ⟨by rfl, rfl⟩) ?_ ?_; rotate_left
     · simp only [Act.put, pa6_1, pa6_2, pa6_3, i64_w, i32_w]
       rfl
     refine pure_ (i := 16) (N := some 18) (v := undef) (a' := ?_) m6_20 rfl rfl (any_of HT_.out (by kernel_rfl)) (fun _ _ _ h => h) (Or.inr ⟨by rfl, rfl⟩) ?_ ?_; rotate_left
     · simp only [Act.put, pa6_1, pa6_2, pa6_3, i64_w, i32_w]
       rfl
     refine pure_ (i := 17) (N := some 19) (v := undef) (a' := ?_) m6_21 rfl rfl (any_of HT_.out (by kernel_rfl)) (fun _ _ _ h => h) (Or.inr ⟨by rfl, rfl⟩) ?_ ?_; rotate_left
     · simp only [Act.put, pa6_1, pa6_2, pa6_3, i64_w, i32_w]
       rfl
     refine pure_ (i := 18) (N := some 20) (v := undef) (a' := ?_) m6_22 rfl rfl (any_of HT_.out (by kernel_rfl)) (fun _ _ _ h => h) (Or.inr ⟨by rfl, rfl⟩) ?_ ?_; rotate_left
     · simp only [Act.put, pa6_1, pa6_2, pa6_3, i64_w, i32_w]
       rfl
     refine pure_ (i := 19) (N := some 21) (v := ?_) (a' := ?_) m6_23 rfl rfl (any_of HT_.out (by kernel_rfl)) (fun _ _ _ h => h) (Or.inl ⟨by rfl, ?_⟩) ?_ ?_; rotate_left
     · intro w'
       go_simp; (with_reducible rfl)
     rotate_left
     · simp only [Act.put, pa6_1, pa6_2, pa6_3, i64_w, i32_w]
       rfl
     refine done_ (done_of HT_.out (by kernel_rfl)) ?_
     try go_wp2
     first | go_end0 | ((try simp only [Exit.inBlock, Exit.then]); refine bodyPost_ret (results_none rfl _ _ _) rfl ?_)
     exact ⟨_, _, _, by first | rfl | (simp [errW_none, errW_some] <;> rfl) | (simp [*, errW_none, errW_some] <;> rfl), by (with_reducible repeat (first | apply Kd.R_alloc | apply Kd.R_drewN | apply Kd.R_drew)); exact HO_1000.out, by (with_reducible repeat (first | apply Kd.R_alloc | apply Kd.R_drewN | apply Kd.R_drew)); exact HO_1001.out, by (with_reducible repeat (first | apply Kd.R_alloc | apply Kd.R_drewN | apply Kd.R_drew)); exact HO_1002.out, by (with_reducible repeat (first | refine blk_drewN ?_ _ | refine blk_drew ?_ | refine blk_alloc ?_ _)); exact BK0.out, c6_2, c6_1⟩

end Go.Proofs.YteiokhfikbndbaaDoor.R
