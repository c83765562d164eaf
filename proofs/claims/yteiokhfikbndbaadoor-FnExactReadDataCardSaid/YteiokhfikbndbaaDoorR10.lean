/- Walks of the program's functions: each Go function's answer as a plain Lean function, and that the call comes to it. Written by a program. Conditions: those in each theorem's own head. -/
import Derived.Test.YteiokhfikbndbaaDoorR0
namespace Go.Proofs.YteiokhfikbndbaaDoor.R
open Go.RowKit Go.Proofs.YteiokhfikbndbaaDoorW.PrintWords Go.Proofs.YteiokhfikbndbaaDoorW.PrintLast Go.Proofs.YteiokhfikbndbaaDoorW.PrintMore
attribute [local go_sem] max2_int min2_int max_two min_two max_three min_three max_four min_four   -- for this text's walks alone
set_option linter.unusedVariables false
set_option linter.unusedSimpArgs false
theorem c10_1 {p : Prop} (h : p := by repeat (first | (with_reducible first | exact HK.out | apply Kept.alloc | apply Kept.drewN | apply Kept.drew | refine Kept.setCell ?_ (.inl (.inr rfl)) _) | exact HK.out)) : p := h
theorem c10_2 {p : Prop} (h : p := by repeat (first | (with_reducible first | exact HB.out | apply below_alloc | apply pw_below_drewN | apply below_drew1 | refine below_set ?_ GE0.out) | exact HB.out)) : p := h
set_option maxHeartbeats 8000000
set_option maxRecDepth 100000
abbrev m10_0 : Array Bool := #[false, false, false, false, false, false, false, false, false, false, false, false, false, false, false, false, false, false, false, false, false]
abbrev m10_1 : Array Bool := #[true, false, false, false, false, false, false, false, false, false, false, false, false, false, false, false, false, false, false, false, false]
abbrev m10_2 : Array Bool := #[true, true, false, false, false, false, false, false, false, false, false, false, false, false, false, false, false, false, false, false, false]
abbrev m10_3 : Array Bool := #[true, true, true, false, false, false, false, false, false, false, false, false, false, false, false, false, false, false, false, false, false]
abbrev m10_4 : Array Bool := #[true, true, true, true, false, false, false, false, false, false, false, false, false, false, false, false, false, false, false, false, false]
abbrev m10_5 : Array Bool := #[true, true, true, true, true, false, false, false, false, false, false, false, false, false, false, false, false, false, false, false, false]
abbrev m10_6 : Array Bool := #[true, true, true, true, true, true, false, false, false, false, false, false, false, false, false, false, false, false, false, false, false]
abbrev m10_7 : Array Bool := #[true, true, true, true, true, true, true, false, false, false, false, false, false, false, false, false, false, false, false, false, false]
abbrev m10_8 : Array Bool := #[true, true, true, true, true, true, true, true, false, false, false, false, false, false, false, false, false, false, false, false, false]
abbrev m10_9 : Array Bool := #[true, true, true, true, true, true, true, true, true, false, false, false, false, false, false, false, false, false, false, false, false]
abbrev m10_10 : Array Bool := #[true, true, true, true, true, true, true, true, true, true, false, false, false, false, false, false, false, false, false, false, false]
abbrev m10_11 : Array Bool := #[true, true, true, true, true, true, true, true, true, true, false, true, false, false, false, false, false, false, false, false, false]
abbrev m10_12 : Array Bool := #[true, true, true, true, true, true, true, true, true, true, false, true, true, false, false, false, false, false, false, false, false]
abbrev m10_13 : Array Bool := #[true, true, true, true, true, true, true, true, true, true, false, true, true, true, false, false, false, false, false, false, false]
abbrev m10_17 : Array Bool := #[true, true, true, true, true, true, true, true, true, true, true, true, true, true, false, false, false, false, false, false, false]
abbrev m10_18 : Array Bool := #[true, true, true, true, true, true, true, true, true, true, true, true, true, true, true, false, false, false, false, false, false]
abbrev m10_19 : Array Bool := #[true, true, true, true, true, true, true, true, true, true, true, true, true, true, true, true, false, false, false, false, false]
abbrev m10_20 : Array Bool := #[true, true, true, true, true, true, true, true, true, true, true, true, true, true, true, true, true, false, false, false, false]
abbrev m10_21 : Array Bool := #[true, true, true, true, true, true, true, true, true, true, true, true, true, true, true, true, true, true, false, false, false]
abbrev m10_22 : Array Bool := #[true, true, true, true, true, true, true, true, true, true, true, true, true, true, true, true, true, true, true, false, false]
abbrev m10_23 : Array Bool := #[true, true, true, true, true, true, true, true, true, true, true, true, true, true, true, true, true, true, true, true, false]
abbrev m10_24 : Array Bool := #[true, true, true, true, true, true, true, true, true, true, true, true, true, true, true, true, true, true, true, true, true]
theorem pa10_1 {α : Type} (l : List α) (i : Nat) (a : α) : l.toArray.setIfInBounds i a = (l.set i a).toArray := List.setIfInBounds_toArray l i a
theorem pa10_2 {α : Type} (a : α) (l : List α) (b : α) : (a :: l).set 0 b = b :: l := rfl
theorem pa10_3 {α : Type} (a : α) (l : List α) (n : Nat) (b : α) : (a :: l).set (n + 1) b = a :: l.set n b := rfl

theorem hb10_2 {w : World} {g0 : Nat} {t0 : TypeId} {a0_0 a0_1 : Value} (h0 : w.heap[g0]? = some (.cells #[a0_0, a0_1] t0 (0, 0))) : w.cell? ⟨g0, 0, none⟩ = some a0_0 ∧ w.cell? ⟨g0, 1, none⟩ = some a0_1 := ⟨(blk_cell h0 0).trans rfl, (blk_cell h0 1).trans rfl⟩

/-! ### impl_dataReader_whole: function 49 -/
def impl_dataReader_whole.l0 : Nat → List (S80) → List Int → Option ((List (S80)) × List Int)
  | 0, _, _ => none
  | k + 1, x1000, x1001 => if (x1001.length : Int) > 0 then (if 0 ≤ (wrap64 ((x1001.length : Int) - 1)) then (if (wrap64 ((x1001.length : Int) - 1)) < (x1001.length : Int) then (if (rd x1001 (wrap64 ((x1001.length : Int) - 1))) < 0 then (if (wrap64 ((x1001.length : Int) - 1)) ≤ (x1001.length : Int) then (impl_dataReader_whole.l0 k x1000 (x1001.take ((wrap64 ((x1001.length : Int) - 1)) : Int).toNat)) else (none)) else (some (x1000, x1001))) else (none)) else (none)) else (some (x1000, x1001))
def impl_dataReader_whole.f (k : Nat) (l0_0 : List (S80)) (l0_1 : List Int) : Option ((List (S80)) × List Int) := impl_dataReader_whole.l0 k l0_0 l0_1
theorem impl_dataReader_whole.mono_l : ∀ k, (∀ y0 y1, LeO (impl_dataReader_whole.l0 k y0 y1) (impl_dataReader_whole.l0 (k + 1) y0 y1))
  | 0 => fun _ _ r h => by simp [impl_dataReader_whole.l0] at h
  | k + 1 => by
    have ih0 := impl_dataReader_whole.mono_l k
    · intro y0 y1
      unfold impl_dataReader_whole.l0
      repeat' first | (with_reducible first | apply ih0 | exact LeO.refl _ | exact LeO.none _ | refine LeO.ite ?_ ?_ | refine LeO.bind ?_ (fun _ => ?_)) | apply ih0 | exact LeO.none _ | refine LeO.ite ?_ ?_ | refine LeO.bind ?_ (fun _ => ?_)
theorem impl_dataReader_whole.mono : ∀ a0 a1 k, LeO (impl_dataReader_whole.f k a0 a1) (impl_dataReader_whole.f (k + 1) a0 a1) := by
  intro a0 a1 k; have ih0 := impl_dataReader_whole.mono_l k; unfold impl_dataReader_whole.f
  repeat' first | (with_reducible first | apply ih0 | exact LeO.refl _ | exact LeO.none _ | refine LeO.ite ?_ ?_ | refine LeO.bind ?_ (fun _ => ?_)) | apply ih0 | exact LeO.none _ | refine LeO.ite ?_ ?_ | refine LeO.bind ?_ (fun _ => ?_)
def impl_dataReader_whole.T0 : Bool × List (List Nat × List Nat) := (true, [([], []), ([0], [0]), ([1], [1]), ([2], [2]), ([3], [3]), ([4], [4]), ([5], [5]), ([6], [6]), ([7, 6], [6, 7]), ([8, 6], [6, 8]), ([9, 6], [6, 9]), ([6], [6]), ([11, 6], [6, 11]), ([12, 6], [6, 12]), ([13, 6], [6, 13]), ([14, 6], [6, 14]), ([15, 6], [6, 15]), ([10, 16, 6], [6, 10, 16]), ([17, 6], [6, 17]), ([18, 6], [6, 18]), ([6, 19], [6, 19])])
def impl_dataReader_whole.B0 : List Nat := [0, 1, 3, 7, 15, 31, 63, 127, 255, 511, 1023, 127, 2175, 6271, 14463, 30847, 63615, 131071, 262143, 524287, 1048575]
theorem impl_dataReader_whole.tab0 : rtab .any (opsOf Tryd.f49 0) = impl_dataReader_whole.T0 := by kernel_rfl
theorem impl_dataReader_whole.bits0 : waitsOk impl_dataReader_whole.T0.2 impl_dataReader_whole.B0 = true := by kernel_rfl
def impl_dataReader_whole.T1 : Bool × List (List Nat × List Nat) := (true, [([], []), ([], []), ([1], [1]), ([2], [2]), ([3], [3]), ([], []), ([5], [5]), ([6], [6]), ([7], [7]), ([8], [8]), ([9], [9]), ([4, 10], [4, 10]), ([0, 0, 1, 2, 3, 4, 5, 6, 7, 8, 9, 10, 11], [0]), ([12, 0, 1, 2, 3, 4, 5, 6, 7, 8, 9, 10, 11], [12]), ([13, 11, 0, 1, 2, 3, 4, 5, 6, 7, 8, 9, 10, 11], [11, 13])])
def impl_dataReader_whole.B1 : List Nat := [0, 0, 2, 6, 14, 0, 32, 96, 224, 480, 992, 2046, 4095, 8191, 16383]
theorem impl_dataReader_whole.tab1 : rtab .any (opsOf Tryd.f49 1) = impl_dataReader_whole.T1 := by kernel_rfl
theorem impl_dataReader_whole.bits1 : waitsOk impl_dataReader_whole.T1.2 impl_dataReader_whole.B1 = true := by kernel_rfl
theorem impl_dataReader_whole.calls (k : Nat) (g : Nat) (P0_0_ : Nat → Prop) (u9000_ : Value) (l0_0 : List (S80)) (P0_1_ : Nat → Prop) (u9001_ : Value) (l0_1 : List Int) (r1 : List (S80)) (r2 : List Int) (w0 w : World) (hB : Below w0.heap.size w0 w) (hb0 : w.heap[g]? = some (.cells #[u9000_, u9001_] 56 (0, 0))) (hg0 : w0.heap.size ≤ g) (ho0_0 : Kd.R k80 80 w w0.heap.size P0_0_ u9000_ l0_0) (ho0_1 : Kd.R (Kd.int .i64) 2 w w0.heap.size P0_1_ u9001_ l0_1) (h : impl_dataReader_whole.f k l0_0 l0_1 = some (r1, r2)) :
    Calls Tryd.prog 49 #[.pointer (some ⟨g, 0, none⟩)] w fun e w' => ∃ v0_ v1_ : Value, e = .returned (.tuple #[]) ∧ Kd.R k80 80 w' w0.heap.size (fun k_ => ((P0_0_ k_ ∨ P0_1_ k_) ∨ w.heap.size ≤ k_)) v0_ r1 ∧ Kd.R (Kd.int .i64) 2 w' w0.heap.size (fun k_ => ((P0_0_ k_ ∨ P0_1_ k_) ∨ w.heap.size ≤ k_)) v1_ r2 ∧ w'.heap[g]? = some (.cells #[v0_, v1_] 56 (0, 0)) ∧ Below w0.heap.size w0 w' ∧ Kept w w' (fun k_ => (P0_0_ k_ ∨ P0_1_ k_) ∨ k_ = g) := by
  have BK0 := ak hb0; have GE0 := ak hg0; clear hb0 hg0; have HO0_0 := ak (show Kd.R k80 80 w w0.heap.size (fun k_ => ((P0_0_ k_ ∨ P0_1_ k_) ∨ w.heap.size ≤ k_)) u9000_ l0_0 from Kd.R_mono ho0_0 (fun k_ hk => (.inl (.inl hk)))); have HO0_1 := ak (show Kd.R (Kd.int .i64) 2 w w0.heap.size (fun k_ => ((P0_0_ k_ ∨ P0_1_ k_) ∨ w.heap.size ≤ k_)) u9001_ l0_1 from Kd.R_mono ho0_1 (fun k_ hk => (.inl (.inr hk)))); have HK := ak (Kept.refl w (fun k_ => (P0_0_ k_ ∨ P0_1_ k_) ∨ k_ = g)); have HW0 := ak hB.size; have HB := ak hB; clear hB; have H := h; clear h; unfold impl_dataReader_whole.f at H; have H' := ak H; clear H; go_enter Tryd.func49, Tryd.ntmps49; go_wp2; go_loopg [] k (fun kq w' => ∃ (x1001_1 : List Int) (u1001 : Value), Aside0 (impl_dataReader_whole.l0 kq l0_0 x1001_1 = some (r1, r2)) ∧ Aside0 (kq ≤ k) ∧ Aside0 (Kd.R k80 80 w' w0.heap.size (fun k_ => ((P0_0_ k_ ∨ P0_1_ k_) ∨ w.heap.size ≤ k_)) u9000_ l0_0) ∧ Aside0 (Kd.R (Kd.int .i64) 2 w' w0.heap.size (fun k_ => ((P0_0_ k_ ∨ P0_1_ k_) ∨ w.heap.size ≤ k_)) u1001 x1001_1) ∧ Aside0 (w'.heap[g]? = some (.cells #[u9000_, u1001] 56 (0, 0))) ∧ Aside0 (Kept w w' (fun k_ => (P0_0_ k_ ∨ P0_1_ k_) ∨ k_ = g)) ∧ Aside0 (Below w0.heap.size w0 w'))
  case atStart => exact ⟨(l0_1), (u9001_), H', ⟨Nat.le_refl _⟩, ⟨by (with_reducible repeat (first | apply Kd.R_alloc | apply Kd.R_drewN | apply Kd.R_drew)); exact HO0_0.out⟩, ⟨by (with_reducible repeat (first | apply Kd.R_alloc | apply Kd.R_drewN | apply Kd.R_drew)); exact HO0_1.out⟩, ⟨by (with_reducible repeat (first | refine blk_drewN ?_ _ | refine blk_drew ?_ | refine blk_alloc ?_ _)); exact BK0.out⟩, ⟨c10_1⟩, ⟨c10_2⟩⟩
  case round =>
   clear H'; obtain ⟨x1001_1, u1001, HA, HK1, HO_1000, HO_1001, BK0, HK, HB⟩ := hrel
   cases gk with
   | zero => exact absurd HA.out (by simp [impl_dataReader_whole.l0])
   | succ k1 =>
    have H := HA.out; clear HA; simp only [impl_dataReader_whole.l0] at H; by_cases c2 : (x1001_1.length : Int) > 0
    ·rw [if_pos c2] at H
     have c2b0 : decide (0 < (x1001_1.length : Int)) = true := decide_eq_true c2; have c2b1 : decide (0 < x1001_1.length) = true := decide_eq_true (by omega); clear c2; obtain ⟨ji3, hji3⟩ : ∃ j_ : Int, (wrap64 ((x1001_1.length : Int) - 1)) = j_ := ⟨_, rfl⟩
     replace H : (if 0 ≤ (ji3) then (if (ji3) < (x1001_1.length : Int) then (if (rd x1001_1 (ji3)) < 0 then (if (ji3) ≤ (x1001_1.length : Int) then (impl_dataReader_whole.l0 k1 l0_0 (x1001_1.take ((ji3) : Int).toNat)) else (none)) else (some (l0_0, x1001_1))) else (none)) else (none)) = some (r1, r2) := by first | (rw [hji3] at H; exact H) | (simp only [hji3] at H ⊢; exact H)
     have hji3w : (IntKind.i64.wrap ((x1001_1.length : Int) - 1)) = ji3 := (i64_w _).trans hji3; by_cases c4 : 0 ≤ (ji3)
     ·rw [if_pos c4] at H
      have c4b0 : decide (0 ≤ (ji3)) = true := decide_eq_true c4; clear c4; by_cases c5 : (ji3) < (x1001_1.length : Int)
      ·rw [if_pos c5] at H
       have c5b0 : decide ((ji3) < (x1001_1.length : Int)) = true := decide_eq_true c5; clear c5; by_cases c6 : (rd x1001_1 (ji3)) < 0
       ·rw [if_pos c6] at H
        have c6b0 : decide ((rd x1001_1 (ji3)) < 0) = true := decide_eq_true c6; clear c6; by_cases c7 : (ji3) ≤ (x1001_1.length : Int)
        ·rw [if_pos c7] at H
         have c7b0 := eq_true c7; have c7b1 : decide ((ji3) ≤ (x1001_1.length : Int)) = true := decide_eq_true c7; clear c7; obtain ⟨y311, hy311⟩ : ∃ y_ : List Int, y_ = (x1001_1.take ((ji3) : Int).toNat) := ⟨_, rfl⟩
         replace H : (impl_dataReader_whole.l0 k1 l0_0 y311) = some (r1, r2) := by first | (rw [hy311]; with_reducible exact H) | (have H2_ := (Option.bind_some _ _).symm.trans H; rw [hy311]; with_reducible exact H2_) | (have H2_ := (Option.bind_some _ _).symm.trans H; with_reducible exact H2_) | with_reducible exact H | (rw [hy311]; exact H) | exact H
         have Ny311 := ak hy311; clear hy311; have H' := ak H; clear H
         try go_wp2
         have n0_ := ak (Kd.R_drew HO_1000.out); have n1_ := ak (Kd.R_drew HO_1001.out); have n2_ := ak (blk_drew BK0.out); have n3_ := ak (Kept.drew HK.out); have n4_ := ak (below_drew1 HB.out); clear HO_1000; clear HO_1001; clear BK0; clear HK; clear HB; have HO_1000 := n0_; have HO_1001 := n1_; have BK0 := n2_; have HK := n3_; have HB := n4_; clear n0_ n1_ n2_ n3_ n4_; obtain ⟨Ao9, co9, eo9⟩ := Kd.R_slice HO_1001.out
         (first | subst eo9 | (injection eo9 with f1_ f2_ f3_; have f4_ := f1_.symm; have f5_ := f3_.symm; clear f1_ f2_ f3_; subst f4_; subst f5_))
         have p310 : 0 ≤ ((ji3) : Int) := of_decide_eq_true (by first | (with_reducible assumption) | assumption); have q310 : (ji3) < (x1001_1.length : Int) := of_decide_eq_true (by first | (with_reducible assumption) | assumption); obtain ⟨ad310, e310, hx310_0⟩ := Kd.at_int (Kd.R_reads' HO_1001.out).2.2 (ji3) p310 q310
         cases e310
         replace p310 := eq_true p310; replace q310 := eq_true q310; refine start_ (n := 21) (S := fun w' => w'.cell? ⟨g, 0, none⟩ = some (u9000_) ∧ w'.cell? ⟨g, 1, none⟩ = some (.slice (some ad310) x1001_1.length co9) ∧ w'.cell? (ad310.add ((ji3)).toNat) = some (.int .i64 (rd x1001_1 (ji3)))) (ds := []) m10_0 (by kernel_rfl) rfl rfl ⟨(blk_cell BK0.out 0).trans rfl, (blk_cell BK0.out 1).trans rfl, hx310_0⟩ (fun hHeld => ?_); refine with_tabW impl_dataReader_whole.tab0 impl_dataReader_whole.bits0 (fun HT_ HW_ => ?_); generalize wr.drew = w8 at HO_1000 HO_1001 BK0 HK HB hx310_0 hHeld ⊢; refine pure_ (i := 0) (N := some 2) (v := ?_) (a' := ?_) m10_1 rfl rfl (any_of HT_.out (by kernel_rfl)) (fun _ _ _ h => h) (Or.inl ⟨by rfl, ?_⟩) ?_ ?_; rotate_left
         · intro w'
           go_simp; (with_reducible rfl)
         rotate_left
         · simp only [Act.put, pa10_1, pa10_2, pa10_3, i64_w, i32_w]
           rfl
         refine pure_ (i := 1) (N := some 3) (v := ?_) (a' := ?_) m10_2 rfl rfl (any_of HT_.out (by kernel_rfl)) (fun _ _ _ h => h) (Or.inl ⟨by rfl, ?_⟩) ?_ ?_; rotate_left
         · intro w'
           go_simp; (with_reducible rfl)
         rotate_left
         · simp only [Act.put, pa10_1, pa10_2, pa10_3, i64_w, i32_w]
           rfl
         refine pure_ (i := 2) (N := some 4) (v := ?_) (a' := ?_) m10_3 rfl rfl (any_of HT_.out (by kernel_rfl)) (fun _ _ _ h => h) (Or.inl ⟨by rfl, ?_⟩) ?_ ?_; rotate_left
         · intro w'
           go_simp; (with_reducible rfl)
         rotate_left
         · simp only [Act.put, pa10_1, pa10_2, pa10_3, i64_w, i32_w]
           rfl
         refine take_ (i := 3) (N := some 5) (v := ?_) (a' := ?_) m10_4 rfl rfl (take_ofW HT_.out HW_.out (by kernel_rfl)) (fun _ _ _ h => h) (Or.inl ⟨by rfl, ?_⟩) hHeld ?_ ?_; rotate_left
         · rintro w' ⟨s0, s1, s2⟩
           go_simp; (with_reducible rfl)
         rotate_left
         · simp only [Act.put, pa10_1, pa10_2, pa10_3, i64_w, i32_w]
           rfl
         refine pure_ (i := 4) (N := some 6) (v := ?_) (a' := ?_) m10_5 rfl rfl (any_of HT_.out (by kernel_rfl)) (fun _ _ _ h => h) (Or.inl ⟨by rfl, ?_⟩) ?_ ?_; rotate_left
         · intro w'
           go_simp; (with_reducible rfl)
         rotate_left
         · simp only [Act.put, pa10_1, pa10_2, pa10_3, i64_w, i32_w]
           rfl
         refine pure_ (i := 5) (N := some 7) (v := ?_) (a' := ?_) m10_6 rfl rfl (any_of HT_.out (by kernel_rfl)) (fun _ _ _ h => h) (Or.inl ⟨by rfl, ?_⟩) ?_ ?_; rotate_left
         · intro w'
           go_simp; (with_reducible rfl)
         rotate_left
         · simp only [Act.put, pa10_1, pa10_2, pa10_3, i64_w, i32_w]
           rfl
         refine pure_ (i := 6) (N := some 8) (v := ?_) (a' := ?_) m10_7 rfl rfl (any_of HT_.out (by kernel_rfl)) (fun _ _ _ h => h) (Or.inl ⟨by rfl, ?_⟩) ?_ ?_; rotate_left
         · intro w'
           go_simp; (with_reducible rfl)
         rotate_left
         · simp only [Act.put, pa10_1, pa10_2, pa10_3, i64_w, i32_w]
           rfl
         refine pure_ (i := 7) (N := some 9) (v := ?_) (a' := ?_) m10_8 rfl rfl (any_of HT_.out (by kernel_rfl)) (fun _ _ _ h => h) (Or.inl ⟨by rfl, ?_⟩) ?_ ?_; rotate_left
         · intro w'
           go_simp; (with_reducible rfl)
         rotate_left
         · simp only [Act.put, pa10_1, pa10_2, pa10_3, i64_w, i32_w]
           rfl
         refine pure_ (i := 8) (N := some 10) (v := ?_) (a' := ?_) m10_9 rfl rfl (any_of HT_.out (by kernel_rfl)) (fun _ _ _ h => h) (Or.inl ⟨by rfl, ?_⟩) ?_ ?_; rotate_left
         · intro w'
           go_simp; (with_reducible rfl)
         rotate_left
         · simp only [Act.put, pa10_1, pa10_2, pa10_3, i64_w, i32_w]
           rfl
         refine pure_ (i := 9) (N := some 11) (v := ?_) (a' := ?_) m10_10 rfl rfl (any_of HT_.out (by kernel_rfl)) (fun _ _ _ h => h) (Or.inl ⟨by rfl, ?_⟩) ?_ ?_; rotate_left
         · intro w'
           go_simp; (with_reducible rfl)
         rotate_left
         · simp only [Act.put, pa10_1, pa10_2, pa10_3, i64_w, i32_w]
           rfl
         refine pure_ (i := 11) (N := some 13) (v := ?_) (a' := ?_) m10_11 rfl rfl (any_of HT_.out (by kernel_rfl)) (fun _ _ _ h => h) (Or.inl ⟨by rfl, ?_⟩) ?_ ?_; rotate_left
         · intro w'
           go_simp; (with_reducible rfl)
         rotate_left
         · simp only [Act.put, pa10_1, pa10_2, pa10_3, i64_w, i32_w]
           rfl
         refine pure_ (i := 12) (N := some 14) (v := ?_) (a' := ?_) m10_12 rfl rfl (any_of HT_.out (by kernel_rfl)) (fun _ _ _ h => h) (Or.inl ⟨by rfl, ?_⟩) ?_ ?_; rotate_left
         · intro w'
           go_simp; (with_reducible rfl)
         rotate_left
         · simp only [Act.put, pa10_1, pa10_2, pa10_3, i64_w, i32_w]
           rfl
         refine pure_ (i := 13) (N := some 15) (v := ?_) (a' := ?_) m10_13 rfl rfl (any_of HT_.out (by kernel_rfl)) (fun _ _ _ h => h) (Or.inl ⟨by rfl, ?_⟩) ?_ ?_; rotate_left
         · intro w'
           go_simp; (with_reducible rfl)
         rotate_left
         · simp only [Act.put, pa10_1, pa10_2, pa10_3, i64_w, i32_w]
           rfl
         refine take_ (i := 10) (N := some 12) (v := ?_) (a' := ?_) m10_17 rfl rfl (take_ofW HT_.out HW_.out (by kernel_rfl)) (fun _ _ _ h => h) (Or.inl ⟨by rfl, ?_⟩) hHeld ?_ ?_; rotate_left
         · rintro w' ⟨s0, s1, s2⟩
           go_simp; (with_reducible rfl)
         rotate_left
         · simp only [Act.put, pa10_1, pa10_2, pa10_3, i64_w, i32_w]
           rfl
         refine take_ (i := 14) (N := some 16) (v := ?_) (a' := ?_) m10_18 rfl rfl (take_ofW HT_.out HW_.out (by kernel_rfl)) (fun _ _ _ h => h) (Or.inl ⟨by rfl, ?_⟩) hHeld ?_ ?_; rotate_left
         · rintro w' ⟨s0, s1, s2⟩
           go_simp; (with_reducible rfl)
         rotate_left
         · simp only [Act.put, pa10_1, pa10_2, pa10_3, i64_w, i32_w]
           rfl
         refine pure_ (i := 15) (N := some 17) (v := ?_) (a' := ?_) m10_19 rfl rfl (any_of HT_.out (by kernel_rfl)) (fun _ _ _ h => h) (Or.inl ⟨by rfl, ?_⟩) ?_ ?_; rotate_left
         · intro w'
           go_simp; (with_reducible rfl)
         rotate_left
         · simp only [Act.put, pa10_1, pa10_2, pa10_3, i64_w, i32_w]
           rfl
         refine pure_ (i := 16) (N := some 18) (v := ?_) (a' := ?_) m10_20 rfl rfl (any_of HT_.out (by kernel_rfl)) (fun _ _ _ h => h) (Or.inl ⟨by rfl, ?_⟩) ?_ ?_; rotate_left
         · intro w'
           go_simp; (with_reducible rfl)
         rotate_left
         · simp only [Act.put, pa10_1, pa10_2, pa10_3, i64_w, i32_w]
           rfl
         refine pure_ (i := 17) (N := some 19) (v := ?_) (a' := ?_) m10_21 rfl rfl (any_of HT_.out (by kernel_rfl)) (fun _ _ _ h => h) (Or.inl ⟨by rfl, ?_⟩) ?_ ?_; rotate_left
         · intro w'
           go_simp; (with_reducible rfl)
         rotate_left
         · simp only [Act.put, pa10_1, pa10_2, pa10_3, i64_w, i32_w]
           rfl
         refine take_ (i := 18) (N := some 20) (v := ?_) (a' := ?_) m10_22 rfl rfl (take_ofW HT_.out HW_.out (by kernel_rfl)) (fun _ _ _ h => h) (Or.inl ⟨by rfl, ?_⟩) hHeld ?_ ?_; rotate_left
         · rintro w' ⟨s0, s1, s2⟩
           go_simp; (with_reducible rfl)
         rotate_left
         · simp only [Act.put, pa10_1, pa10_2, pa10_3, i64_w, i32_w]
           rfl
         refine pure_ (i := 19) (N := some 21) (v := ?_) (a' := ?_) m10_23 rfl rfl (any_of HT_.out (by kernel_rfl)) (fun _ _ _ h => h) (Or.inl ⟨by rfl, ?_⟩) ?_ ?_; rotate_left
         · intro w'
           go_simp; (with_reducible rfl)
         rotate_left
         · simp only [Act.put, pa10_1, pa10_2, pa10_3, i64_w, i32_w]
           rfl
         refine pure_ (i := 20) (N := some 22) (v := ?_) (a' := ?_) m10_24 rfl rfl (any_of HT_.out (by kernel_rfl)) (fun _ _ _ h => h) (Or.inl ⟨by rfl, ?_⟩) ?_ ?_; rotate_left
         · intro w'
           go_simp; (with_reducible rfl)
         rotate_left
         · simp only [Act.put, pa10_1, pa10_2, pa10_3, i64_w, i32_w]
           rfl
         refine done_ (done_of HT_.out (by kernel_rfl)) ?_
         try go_wp2
         have n0_ := ak (Kd.R_drew HO_1000.out); have n1_ := ak (Kd.R_drew HO_1001.out); have n2_ := ak (blk_drew BK0.out); have n3_ := ak (Kept.drew HK.out); have n4_ := ak (below_drew1 HB.out); clear HO_1000; clear HO_1001; clear BK0; clear HK; clear HB; have HO_1000 := n0_; have HO_1001 := n1_; have BK0 := n2_; have HK := n3_; have HB := n4_; clear n0_ n1_ n2_ n3_ n4_; have q11 : ((ji3) : Int) ≤ ((x1001_1.length : Int) : Int) := of_decide_eq_true (by first | (with_reducible assumption) | assumption); obtain ⟨i011, hi011, _, hsz11, _⟩ := info_parts info2; have hcut11 := cut_to (P := Tryd.prog) 54 2 .i64 Tryd.underlying54 hi011 (some ad310) x1001_1.length co9 (ji3) (of_decide_eq_true (by first | (with_reducible assumption) | assumption)) q11 (Kd.R_reads' HO_1001.out).2.1; have hr11 := Kd.R_take (m := ((ji3) : Int).toNat) HO_1001.out (by omega); have hy11 : y311.length = ((ji3) : Int).toNat := (by rw [Ny311.out, List.length_take]; omega); rw [← Ny311.out] at hr11; rw [← hy11] at hr11 hcut11; clear hy11 hi011 hsz11 HO_1001; have HO313 := ak hr11; clear hr11; replace q11 := eq_true q11
         refine start_ (n := 15) (S := fun w' => w'.cell? ⟨g, 0, none⟩ = some (u9000_) ∧ w'.cell? ⟨g, 1, none⟩ = some (.slice (some ad310) x1001_1.length co9)) (ds := [14]) #[false, false, false, false, false, false, false, false, false, false, false, false, false, false, false] (by kernel_rfl) rfl rfl (hb10_2 BK0.out) (fun hHeld => ?_); refine with_tabW impl_dataReader_whole.tab1 impl_dataReader_whole.bits1 (fun HT_ HW_ => ?_); generalize w8.drew = w10 at HO_1000 BK0 HK HB HO313 hHeld ⊢; refine pure_ (i := 0) (N := some 23) (v := ?_) (a' := ?_) #[true, false, false, false, false, false, false, false, false, false, false, false, false, false, false] rfl rfl (any_of HT_.out (by kernel_rfl)) (fun _ _ _ h => h) (Or.inl ⟨by rfl, ?_⟩) ?_ ?_; rotate_left
         · intro w'
           go_simp; (with_reducible rfl)
         rotate_left
         · simp only [Act.put, pa10_1, pa10_2, pa10_3, i64_w, i32_w]
           rfl
         refine pure_ (i := 1) (N := some 24) (v := ?_) (a' := ?_) #[true, true, false, false, false, false, false, false, false, false, false, false, false, false, false] rfl rfl (any_of HT_.out (by kernel_rfl)) (fun _ _ _ h => h) (Or.inl ⟨by rfl, ?_⟩) ?_ ?_; rotate_left
         · intro w'
           go_simp; (with_reducible rfl)
         rotate_left
         · simp only [Act.put, pa10_1, pa10_2, pa10_3, i64_w, i32_w]
           rfl
         refine pure_ (i := 2) (N := some 25) (v := ?_) (a' := ?_) #[true, true, true, false, false, false, false, false, false, false, false, false, false, false, false] rfl rfl (any_of HT_.out (by kernel_rfl)) (fun _ _ _ h => h) (Or.inl ⟨by rfl, ?_⟩) ?_ ?_; rotate_left
         · intro w'
           go_simp; (with_reducible rfl)
         rotate_left
         · simp only [Act.put, pa10_1, pa10_2, pa10_3, i64_w, i32_w]
           rfl
         refine pure_ (i := 3) (N := some 26) (v := ?_) (a' := ?_) #[true, true, true, true, false, false, false, false, false, false, false, false, false, false, false] rfl rfl (any_of HT_.out (by kernel_rfl)) (fun _ _ _ h => h) (Or.inl ⟨by rfl, ?_⟩) ?_ ?_; rotate_left
         · intro w'
           go_simp; (with_reducible rfl)
         rotate_left
         · simp only [Act.put, pa10_1, pa10_2, pa10_3, i64_w, i32_w]
           rfl
         refine pure_ (i := 5) (N := some 28) (v := ?_) (a' := ?_) #[true, true, true, true, false, true, false, false, false, false, false, false, false, false, false] rfl rfl (any_of HT_.out (by kernel_rfl)) (fun _ _ _ h => h) (Or.inl ⟨by rfl, ?_⟩) ?_ ?_; rotate_left
         · intro w'
           go_simp; (with_reducible rfl)
         rotate_left
         · simp only [Act.put, pa10_1, pa10_2, pa10_3, i64_w, i32_w]
           rfl
         refine pure_ (i := 6) (N := some 29) (v := ?_) (a' := ?_) #[true, true, true, true, false, true, true, false, false, false, false, false, false, false, false] rfl rfl (any_of HT_.out (by kernel_rfl)) (fun _ _ _ h => h) (Or.inl ⟨by rfl, ?_⟩) ?_ ?_; rotate_left
         · intro w'
           go_simp; (with_reducible rfl)
         rotate_left
         · simp only [Act.put, pa10_1, pa10_2, pa10_3, i64_w, i32_w]
           rfl
         refine pure_ (i := 7) (N := some 30) (v := ?_) (a' := ?_) #[true, true, true, true, false, true, true, true, false, false, false, false, false, false, false] rfl rfl (any_of HT_.out (by kernel_rfl)) (fun _ _ _ h => h) (Or.inl ⟨by rfl, ?_⟩) ?_ ?_; rotate_left
         · intro w'
           go_simp; (with_reducible rfl)
         rotate_left
         · simp only [Act.put, pa10_1, pa10_2, pa10_3, i64_w, i32_w]
           rfl
         refine take_ (i := 4) (N := some 27) (v := ?_) (a' := ?_) #[true, true, true, true, true, true, true, true, false, false, false, false, false, false, false] rfl rfl (take_ofW HT_.out HW_.out (by kernel_rfl)) (fun _ _ _ h => h) (Or.inl ⟨by rfl, ?_⟩) hHeld ?_ ?_; rotate_left
         · rintro w' ⟨s0, s1⟩
           go_simp; (with_reducible rfl)
         rotate_left
         · simp only [Act.put, pa10_1, pa10_2, pa10_3, i64_w, i32_w]
           rfl
         refine take_ (i := 8) (N := some 31) (v := ?_) (a' := ?_) #[true, true, true, true, true, true, true, true, true, false, false, false, false, false, false] rfl rfl (take_ofW HT_.out HW_.out (by kernel_rfl)) (fun _ _ _ h => h) (Or.inl ⟨by rfl, ?_⟩) hHeld ?_ ?_; rotate_left
         · rintro w' ⟨s0, s1⟩
           go_simp; (with_reducible rfl)
         rotate_left
         · simp only [Act.put, pa10_1, pa10_2, pa10_3, i64_w, i32_w]
           rfl
         refine pure_ (i := 9) (N := some 32) (v := ?_) (a' := ?_) #[true, true, true, true, true, true, true, true, true, true, false, false, false, false, false] rfl rfl (any_of HT_.out (by kernel_rfl)) (fun _ _ _ h => h) (Or.inl ⟨by rfl, ?_⟩) ?_ ?_; rotate_left
         · intro w'
           go_simp; (with_reducible rfl)
         rotate_left
         · simp only [Act.put, pa10_1, pa10_2, pa10_3, i64_w, i32_w]
           rfl
         refine pure_ (i := 10) (N := some 33) (v := ?_) (a' := ?_) #[true, true, true, true, true, true, true, true, true, true, true, false, false, false, false] rfl rfl (any_of HT_.out (by kernel_rfl)) (fun _ _ _ h => h) (Or.inl ⟨by rfl, ?_⟩) ?_ ?_; rotate_left
         · intro w'
           go_simp; (with_reducible rfl)
         rotate_left
         · simp only [Act.put, pa10_1, pa10_2, pa10_3, i64_w, i32_w]
           rfl
         refine pure_ (i := 11) (N := some 34) (v := ?_) (a' := ?_) #[true, true, true, true, true, true, true, true, true, true, true, true, false, false, false] rfl rfl (any_of HT_.out (by kernel_rfl)) (fun _ _ _ h => h) (Or.inl ⟨by rfl, ?_⟩) ?_ ?_; rotate_left
         · intro w'
           go_simp; (with_reducible rfl)
         rotate_left
         · simp only [Act.put, pa10_1, pa10_2, pa10_3, i64_w, i32_w]
           rfl
         refine pure_ (i := 12) (N := some 35) (v := ?_) (a' := ?_) #[true, true, true, true, true, true, true, true, true, true, true, true, true, false, false] rfl rfl (any_of HT_.out (by kernel_rfl)) (fun _ _ _ h => h) (Or.inl ⟨by rfl, ?_⟩) ?_ ?_; rotate_left
         · intro w'
           go_simp; (with_reducible rfl)
         rotate_left
         · simp only [Act.put, pa10_1, pa10_2, pa10_3, i64_w, i32_w]
           rfl
         refine pure_ (i := 13) (N := some 36) (v := ?_) (a' := ?_) #[true, true, true, true, true, true, true, true, true, true, true, true, true, true, false] rfl rfl (any_of HT_.out (by kernel_rfl)) (fun _ _ _ h => h) (Or.inl ⟨by rfl, ?_⟩) ?_ ?_; rotate_left
         · intro w'
           go_simp; (with_reducible rfl)
         rotate_left
         · simp only [Act.put, pa10_1, pa10_2, pa10_3, i64_w, i32_w]
           rfl
         refine last_ (i := 14) (N := none) #[true, true, true, true, true, true, true, true, true, true, true, true, true, true, true] rfl rfl (one_of HT_.out (by kernel_rfl)) (by decide) (fun K hK => ?_); have hs12 : w10.cell? ⟨g, 1, none⟩ = some (.slice (some ad310) x1001_1.length co9) := (blk_cell BK0.out 1).trans rfl; have hfs12 := blk_frozen BK0.out 1; refine skip_ (w1 := ?_) (by rfl) rfl ?_ ?_; rotate_left
         · go_simp
           rfl
         refine hK.out _ _ ?_; clear hK K; refine done_ (done_of HT_.out (by kernel_rfl)) ?_
         try go_wp2
         go_roundg k1
         case measure => have := HK1.out; omega
         case rel => exact ⟨(y311), (.slice (some ad310) y311.length co9), H', ⟨by have := HK1.out; omega⟩, ⟨by (with_reducible repeat (first | apply Kd.R_alloc | apply Kd.R_drewN | apply Kd.R_drew)); exact Kd.R_mono (Kd.R_far (p := ⟨g, 1, none⟩) (Kd.R_types HO_1000.out BK0.out (by decide)) (fun _ hk => hk.2) (.slice (some ad310) y311.length co9)) (fun _ hk => hk.1)⟩, ⟨by (with_reducible repeat (first | apply Kd.R_alloc | apply Kd.R_drewN | apply Kd.R_drew)); exact Kd.R_mono (Kd.R_far (p := ⟨g, 1, none⟩) (Kd.R_types HO313.out BK0.out (by decide)) (fun _ hk => hk.2) (.slice (some ad310) y311.length co9)) (fun _ hk => hk.1)⟩, ⟨by (with_reducible repeat (first | refine blk_drewN ?_ _ | refine blk_drew ?_ | refine blk_alloc ?_ _)); refine blk_put (cs := #[u9000_, .slice (some ad310) x1001_1.length co9]) ?_ 1 _ rfl; (with_reducible repeat (first | refine blk_drewN ?_ _ | refine blk_drew ?_ | refine blk_alloc ?_ _)); exact BK0.out⟩, ⟨c10_1⟩, ⟨c10_2⟩⟩
        ·rw [if_neg c7] at H
         exact absurd H (by simp)
       ·rw [if_neg c6] at H
        have c6b0 : decide ((rd x1001_1 (ji3)) < 0) = false := decide_eq_false c6; clear c6; simp only [Option.some.injEq, Prod.mk.injEq] at H; obtain ⟨rfl, rfl⟩ := H
        try go_wp2
        have n0_ := ak (Kd.R_drew HO_1000.out); have n1_ := ak (Kd.R_drew HO_1001.out); have n2_ := ak (blk_drew BK0.out); have n3_ := ak (Kept.drew HK.out); have n4_ := ak (below_drew1 HB.out); clear HO_1000; clear HO_1001; clear BK0; clear HK; clear HB; have HO_1000 := n0_; have HO_1001 := n1_; have BK0 := n2_; have HK := n3_; have HB := n4_; clear n0_ n1_ n2_ n3_ n4_; obtain ⟨Ao14, co14, eo14⟩ := Kd.R_slice HO_1001.out
        (first | subst eo14 | (injection eo14 with f1_ f2_ f3_; have f4_ := f1_.symm; have f5_ := f3_.symm; clear f1_ f2_ f3_; subst f4_; subst f5_))
        have p310 : 0 ≤ ((ji3) : Int) := of_decide_eq_true (by first | (with_reducible assumption) | assumption); have q310 : (ji3) < (x1001_1.length : Int) := of_decide_eq_true (by first | (with_reducible assumption) | assumption); obtain ⟨ad310, e310, hx310_0⟩ := Kd.at_int (Kd.R_reads' HO_1001.out).2.2 (ji3) p310 q310
        cases e310
        replace p310 := eq_true p310; replace q310 := eq_true q310; refine start_ (n := 21) (S := fun w' => w'.cell? ⟨g, 0, none⟩ = some (u9000_) ∧ w'.cell? ⟨g, 1, none⟩ = some (.slice (some ad310) x1001_1.length co14) ∧ w'.cell? (ad310.add ((ji3)).toNat) = some (.int .i64 (rd x1001_1 (ji3)))) (ds := []) m10_0 (by kernel_rfl) rfl rfl ⟨(blk_cell BK0.out 0).trans rfl, (blk_cell BK0.out 1).trans rfl, hx310_0⟩ (fun hHeld => ?_); refine with_tabW impl_dataReader_whole.tab0 impl_dataReader_whole.bits0 (fun HT_ HW_ => ?_); generalize wr.drew = w13 at HO_1000 HO_1001 BK0 HK HB hx310_0 hHeld ⊢; refine pure_ (i := 0) (N := some 2) (v := ?_) (a' := ?_) m10_1 rfl rfl (any_of HT_.out (by kernel_rfl)) (fun _ _ _ h => h) (Or.inl ⟨by rfl, ?_⟩) ?_ ?_; rotate_left
        · intro w'
          go_simp; (with_reducible rfl)
        rotate_left
        · simp only [Act.put, pa10_1, pa10_2, pa10_3, i64_w, i32_w]
          rfl
        refine pure_ (i := 1) (N := some 3) (v := ?_) (a' := ?_) m10_2 rfl rfl (any_of HT_.out (by kernel_rfl)) (fun _ _ _ h => h) (Or.inl ⟨by rfl, ?_⟩) ?_ ?_; rotate_left
        · intro w'
          go_simp; (with_reducible rfl)
        rotate_left
        · simp only [Act.put, pa10_1, pa10_2, pa10_3, i64_w, i32_w]
          rfl
        refine pure_ (i := 2) (N := some 4) (v := ?_) (a' := ?_) m10_3 rfl rfl (any_of HT_.out (by kernel_rfl)) (fun _ _ _ h => h) (Or.inl ⟨by rfl, ?_⟩) ?_ ?_; rotate_left
        · intro w'
          go_simp; (with_reducible rfl)
        rotate_left
        · simp only [Act.put, pa10_1, pa10_2, pa10_3, i64_w, i32_w]
          rfl
        refine take_ (i := 3) (N := some 5) (v := ?_) (a' := ?_) m10_4 rfl rfl (take_ofW HT_.out HW_.out (by kernel_rfl)) (fun _ _ _ h => h) (Or.inl ⟨by rfl, ?_⟩) hHeld ?_ ?_; rotate_left
        · rintro w' ⟨s0, s1, s2⟩
          go_simp; (with_reducible rfl)
        rotate_left
        · simp only [Act.put, pa10_1, pa10_2, pa10_3, i64_w, i32_w]
          rfl
        refine pure_ (i := 4) (N := some 6) (v := ?_) (a' := ?_) m10_5 rfl rfl (any_of HT_.out (by kernel_rfl)) (fun _ _ _ h => h) (Or.inl ⟨by rfl, ?_⟩) ?_ ?_; rotate_left
        · intro w'
          go_simp; (with_reducible rfl)
        rotate_left
        · simp only [Act.put, pa10_1, pa10_2, pa10_3, i64_w, i32_w]
          rfl
        refine pure_ (i := 5) (N := some 7) (v := ?_) (a' := ?_) m10_6 rfl rfl (any_of HT_.out (by kernel_rfl)) (fun _ _ _ h => h) (Or.inl ⟨by rfl, ?_⟩) ?_ ?_; rotate_left
        · intro w'
          go_simp; (with_reducible rfl)
        rotate_left
        · simp only [Act.put, pa10_1, pa10_2, pa10_3, i64_w, i32_w]
          rfl
        refine pure_ (i := 6) (N := some 8) (v := ?_) (a' := ?_) m10_7 rfl rfl (any_of HT_.out (by kernel_rfl)) (fun _ _ _ h => h) (Or.inl ⟨by rfl, ?_⟩) ?_ ?_; rotate_left
        · intro w'
          go_simp; (with_reducible rfl)
        rotate_left
        · simp only [Act.put, pa10_1, pa10_2, pa10_3, i64_w, i32_w]
          rfl
        refine pure_ (i := 7) (N := some 9) (v := ?_) (a' := ?_) m10_8 rfl rfl (any_of HT_.out (by kernel_rfl)) (fun _ _ _ h => h) (Or.inl ⟨by rfl, ?_⟩) ?_ ?_; rotate_left
        · intro w'
          go_simp; (with_reducible rfl)
        rotate_left
        · simp only [Act.put, pa10_1, pa10_2, pa10_3, i64_w, i32_w]
          rfl
        refine pure_ (i := 8) (N := some 10) (v := ?_) (a' := ?_) m10_9 rfl rfl (any_of HT_.out (by kernel_rfl)) (fun _ _ _ h => h) (Or.inl ⟨by rfl, ?_⟩) ?_ ?_; rotate_left
        · intro w'
          go_simp; (with_reducible rfl)
        rotate_left
        · simp only [Act.put, pa10_1, pa10_2, pa10_3, i64_w, i32_w]
          rfl
        refine pure_ (i := 9) (N := some 11) (v := ?_) (a' := ?_) m10_10 rfl rfl (any_of HT_.out (by kernel_rfl)) (fun _ _ _ h => h) (Or.inl ⟨by rfl, ?_⟩) ?_ ?_; rotate_left
        · intro w'
          go_simp; (with_reducible rfl)
        rotate_left
        · simp only [Act.put, pa10_1, pa10_2, pa10_3, i64_w, i32_w]
          rfl
        refine pure_ (i := 11) (N := some 13) (v := ?_) (a' := ?_) m10_11 rfl rfl (any_of HT_.out (by kernel_rfl)) (fun _ _ _ h => h) (Or.inl ⟨by rfl, ?_⟩) ?_ ?_; rotate_left
        · intro w'
          go_simp; (with_reducible rfl)
        rotate_left
        · simp only [Act.put, pa10_1, pa10_2, pa10_3, i64_w, i32_w]
          rfl
        refine pure_ (i := 12) (N := some 14) (v := ?_) (a' := ?_) m10_12 rfl rfl (any_of HT_.out (by kernel_rfl)) (fun _ _ _ h => h) (Or.inl ⟨by rfl, ?_⟩) ?_ ?_; rotate_left
        · intro w'
          go_simp; (with_reducible rfl)
        rotate_left
        · simp only [Act.put, pa10_1, pa10_2, pa10_3, i64_w, i32_w]
          rfl
        refine pure_ (i := 13) (N := some 15) (v := ?_) (a' := ?_) m10_13 rfl rfl (any_of HT_.out (by kernel_rfl)) (fun _ _ _ h => h) (Or.inl ⟨by rfl, ?_⟩) ?_ ?_; rotate_left
        · intro w'
          go_simp; (with_reducible rfl)
        rotate_left
        · simp only [Act.put, pa10_1, pa10_2, pa10_3, i64_w, i32_w]
          rfl
        refine take_ (i := 10) (N := some 12) (v := ?_) (a' := ?_) m10_17 rfl rfl (take_ofW HT_.out HW_.out (by kernel_rfl)) (fun _ _ _ h => h) (Or.inl ⟨by rfl, ?_⟩) hHeld ?_ ?_; rotate_left
        · rintro w' ⟨s0, s1, s2⟩
          go_simp; (with_reducible rfl)
        rotate_left
        · simp only [Act.put, pa10_1, pa10_2, pa10_3, i64_w, i32_w]
          rfl
        refine take_ (i := 14) (N := some 16) (v := ?_) (a' := ?_) m10_18 rfl rfl (take_ofW HT_.out HW_.out (by kernel_rfl)) (fun _ _ _ h => h) (Or.inl ⟨by rfl, ?_⟩) hHeld ?_ ?_; rotate_left
        · rintro w' ⟨s0, s1, s2⟩
          go_simp; (with_reducible rfl)
        rotate_left
        · simp only [Act.put, pa10_1, pa10_2, pa10_3, i64_w, i32_w]
          rfl
        refine pure_ (i := 15) (N := some 17) (v := ?_) (a' := ?_) m10_19 rfl rfl (any_of HT_.out (by kernel_rfl)) (fun _ _ _ h => h) (Or.inl ⟨by rfl, ?_⟩) ?_ ?_; rotate_left
        · intro w'
          go_simp; (with_reducible rfl)
        rotate_left
        · simp only [Act.put, pa10_1, pa10_2, pa10_3, i64_w, i32_w]
          rfl
        refine pure_ (i := 16) (N := some 18) (v := ?_) (a' := ?_) m10_20 rfl rfl (any_of HT_.out (by kernel_rfl)) (fun _ _ _ h => h) (Or.inl ⟨by rfl, ?_⟩) ?_ ?_; rotate_left
        · intro w'
          go_simp; (with_reducible rfl)
        rotate_left
        · simp only [Act.put, pa10_1, pa10_2, pa10_3, i64_w, i32_w]
          rfl
        refine pure_ (i := 17) (N := some 19) (v := ?_) (a' := ?_) m10_21 rfl rfl (any_of HT_.out (by kernel_rfl)) (fun _ _ _ h => h) (Or.inl ⟨by rfl, ?_⟩) ?_ ?_; rotate_left
        · intro w'
          go_simp; (with_reducible rfl)
        rotate_left
        · simp only [Act.put, pa10_1, pa10_2, pa10_3, i64_w, i32_w]
          rfl
        refine take_ (i := 18) (N := some 20) (v := ?_) (a' := ?_) m10_22 rfl rfl (take_ofW HT_.out HW_.out (by kernel_rfl)) (fun _ _ _ h => h) (Or.inl ⟨by rfl, ?_⟩) hHeld ?_ ?_; rotate_left
        · rintro w' ⟨s0, s1, s2⟩
          go_simp; (with_reducible rfl)
        rotate_left
        · simp only [Act.put, pa10_1, pa10_2, pa10_3, i64_w, i32_w]
          rfl
        refine pure_ (i := 19) (N := some 21) (v := ?_) (a' := ?_) m10_23 rfl rfl (any_of HT_.out (by kernel_rfl)) (fun _ _ _ h => h) (Or.inl ⟨by rfl, ?_⟩) ?_ ?_; rotate_left
        · intro w'
          go_simp; (with_reducible rfl)
        rotate_left
        · simp only [Act.put, pa10_1, pa10_2, pa10_3, i64_w, i32_w]
          rfl
        refine pure_ (i := 20) (N := some 22) (v := ?_) (a' := ?_) m10_24 rfl rfl (any_of HT_.out (by kernel_rfl)) (fun _ _ _ h => h) (Or.inl ⟨by rfl, ?_⟩) ?_ ?_; rotate_left
        · intro w'
          go_simp; (with_reducible rfl)
        rotate_left
        · simp only [Act.put, pa10_1, pa10_2, pa10_3, i64_w, i32_w]
          rfl
        refine done_ (done_of HT_.out (by kernel_rfl)) ?_
        try go_wp2
        first | go_end0 | ((try simp only [Exit.inBlock, Exit.then]); refine bodyPost_ret (results_none rfl _ _ _) rfl ?_)
        exact ⟨_, _, by first | rfl | (simp [errW_none, errW_some] <;> rfl) | (simp only [← hji3]; first | rfl | (simp [errW_none, errW_some] <;> rfl)) | (simp [*, errW_none, errW_some] <;> rfl), by (with_reducible repeat (first | apply Kd.R_alloc | apply Kd.R_drewN | apply Kd.R_drew)); exact HO_1000.out, by (with_reducible repeat (first | apply Kd.R_alloc | apply Kd.R_drewN | apply Kd.R_drew)); exact HO_1001.out, by (with_reducible repeat (first | refine blk_drewN ?_ _ | refine blk_drew ?_ | refine blk_alloc ?_ _)); exact BK0.out, c10_2, c10_1⟩
      ·rw [if_neg c5] at H
       exact absurd H (by simp)
     ·rw [if_neg c4] at H
      exact absurd H (by simp)
    ·rw [if_neg c2] at H
     have c2b0 : decide (0 < (x1001_1.length : Int)) = false := decide_eq_false c2; have c2b1 : decide (0 < x1001_1.length) = false := decide_eq_false (by omega); clear c2; simp only [Option.some.injEq, Prod.mk.injEq] at H; obtain ⟨rfl, rfl⟩ := H
     try go_wp2
     have n0_ := ak (Kd.R_drew HO_1000.out); have n1_ := ak (Kd.R_drew HO_1001.out); have n2_ := ak (blk_drew BK0.out); have n3_ := ak (Kept.drew HK.out); have n4_ := ak (below_drew1 HB.out); clear HO_1000; clear HO_1001; clear BK0; clear HK; clear HB; have HO_1000 := n0_; have HO_1001 := n1_; have BK0 := n2_; have HK := n3_; have HB := n4_; clear n0_ n1_ n2_ n3_ n4_; obtain ⟨Ao16, co16, eo16⟩ := Kd.R_slice HO_1001.out
     (first | subst eo16 | (injection eo16 with f1_ f2_ f3_; have f4_ := f1_.symm; have f5_ := f3_.symm; clear f1_ f2_ f3_; subst f4_; subst f5_))
     refine start_ (n := 21) (S := fun w' => w'.cell? ⟨g, 0, none⟩ = some (u9000_) ∧ w'.cell? ⟨g, 1, none⟩ = some (.slice Ao16 x1001_1.length co16)) (ds := []) m10_0 (by kernel_rfl) rfl rfl (hb10_2 BK0.out) (fun hHeld => ?_); refine with_tabW impl_dataReader_whole.tab0 impl_dataReader_whole.bits0 (fun HT_ HW_ => ?_); generalize wr.drew = w15 at HO_1000 HO_1001 BK0 HK HB hHeld ⊢; refine pure_ (i := 0) (N := some 2) (v := ?_) (a' := ?_) m10_1 rfl rfl (any_of HT_.out (by kernel_rfl)) (fun _ _ _ h => h) (Or.inl ⟨by rfl, ?_⟩) ?_ ?_; rotate_left
     · intro w'
       go_simp; (with_reducible rfl)
     rotate_left
     · simp only [Act.put, pa10_1, pa10_2, pa10_3, i64_w, i32_w]
       rfl
     refine pure_ (i := 1) (N := some 3) (v := ?_) (a' := ?_) m10_2 rfl rfl (any_of HT_.out (by kernel_rfl)) (fun _ _ _ h => h) (Or.inl ⟨by rfl, ?_⟩) ?_ ?_; rotate_left
     · intro w'
       go_simp; (with_reducible rfl)
     rotate_left
     · simp only [Act.put, pa10_1, pa10_2, pa10_3, i64_w, i32_w]
       rfl
     refine pure_ (i := 2) (N := some 4) (v := ?_) (a' := ?_) m10_3 rfl rfl (any_of HT_.out (by kernel_rfl)) (fun _ _ _ h => h) (Or.inl ⟨by rfl, ?_⟩) ?_ ?_; rotate_left
     · intro w'
       go_simp; (with_reducible rfl)
     rotate_left
     · simp only [Act.put, pa10_1, pa10_2, pa10_3, i64_w, i32_w]
       rfl
     refine take_ (i := 3) (N := some 5) (v := ?_) (a' := ?_) m10_4 rfl rfl (take_ofW HT_.out HW_.out (by kernel_rfl)) (fun _ _ _ h => h) (Or.inl ⟨by rfl, ?_⟩) hHeld ?_ ?_; rotate_left
     · rintro w' ⟨s0, s1⟩
       go_simp; (with_reducible rfl)
     rotate_left
     · simp only [Act.put, pa10_1, pa10_2, pa10_3, i64_w, i32_w]
       rfl
     refine pure_ (i := 4) (N := some 6) (v := ?_) (a' := ?_) m10_5 rfl rfl (any_of HT_.out (by kernel_rfl)) (fun _ _ _ h => h) (Or.inl ⟨by rfl, ?_⟩) ?_ ?_; rotate_left
     · intro w'
       go_simp; (with_reducible rfl)
     rotate_left
     · simp only [Act.put, pa10_1, pa10_2, pa10_3, i64_w, i32_w]
       rfl
     refine pure_ (i := 5) (N := some 7) (v := ?_) (a' := ?_) m10_6 rfl rfl (any_of HT_.out (by kernel_rfl)) (fun _ _ _ h => h) (Or.inl ⟨by rfl, ?_⟩) ?_ ?_; rotate_left
     · intro w'
       go_simp; (with_reducible rfl)
     rotate_left
     · simp only [Act.put, pa10_1, pa10_2, pa10_3, i64_w, i32_w]
       rfl
     refine pure_ (i := 6) (N := some 8) (v := ?_) (a' := ?_) m10_7 rfl rfl (any_of HT_.out (by kernel_rfl)) (fun _ _ _ h => h) (Or.inl ⟨by rfl, ?_⟩) ?_ ?_; rotate_left
     · intro w'
       go_simp; (with_reducible rfl)
     rotate_left
     · simp only [Act.put, pa10_1, pa10_2, pa10_3, i64_w, i32_w]
       rfl
     refine pure_ (i := 7) (N := some 9) (v := undef) (a' := ?_) m10_8 rfl rfl (any_of HT_.out (by kernel_rfl)) (fun _ _ _ h => h) (Or.inr ⟨by rfl, rfl⟩) ?_ ?_; rotate_left
     · simp only [Act.put, pa10_1, pa10_2, pa10_3, i64_w, i32_w]
       rfl
     refine pure_ (i := 8) (N := some 10) (v := undef) (a' := ?_) m10_9 rfl rfl (any_of HT_.out (by kernel_rfl)) (fun _ _ _ h => h) (Or.inr ⟨by rfl, rfl⟩) ?_ ?_; rotate_left
     · simp only [Act.put, pa10_1, pa10_2, pa10_3, i64_w, i32_w]
       rfl
     refine pure_ (i := 9) (N := some 11) (v := undef) (a' := ?_) m10_10 rfl rfl (any_of HT_.out (by kernel_rfl)) (fun _ _ _ h => h) (Or.inr ⟨by rfl, rfl⟩) ?_ ?_; rotate_left
     · simp only [Act.put, pa10_1, pa10_2, pa10_3, i64_w, i32_w]
       rfl
     refine pure_ (i := 10) (N := some 12) (v := undef) (a' := ?_) #[true, true, true, true, true, true, true, true, true, true, true, false, false, false, false, false, false, false, false, false, false] rfl rfl (any_of HT_.out (by kernel_rfl)) (fun _ _ _ h => h) (Or.inr ⟨by rfl, rfl⟩) ?_ ?_; rotate_left
     · simp only [Act.put, pa10_1, pa10_2, pa10_3, i64_w, i32_w]
       rfl
     refine pure_ (i := 11) (N := some 13) (v := undef) (a' := ?_) #[true, true, true, true, true, true, true, true, true, true, true, true, false, false, false, false, false, false, false, false, false] rfl rfl (any_of HT_.out (by kernel_rfl)) (fun _ _ _ h => h) (Or.inr ⟨by rfl, rfl⟩) ?_ ?_; rotate_left
     · simp only [Act.put, pa10_1, pa10_2, pa10_3, i64_w, i32_w]
       rfl
     refine pure_ (i := 12) (N := some 14) (v := undef) (a' := ?_) #[true, true, true, true, true, true, true, true, true, true, true, true, true, false, false, false, false, false, false, false, false] rfl rfl (any_of HT_.out (by kernel_rfl)) (fun _ _ _ h => h) (Or.inr ⟨by rfl, rfl⟩) ?_ ?_; rotate_left
     · simp only [Act.put, pa10_1, pa10_2, pa10_3, i64_w, i32_w]
       rfl
     refine pure_ (i := 13) (N := some 15) (v := undef) (a' := ?_) m10_17 rfl rfl (any_of HT_.out (by kernel_rfl)) (fun _ _ _ h => h) (Or.inr ⟨by rfl, rfl⟩) ?_ ?_; rotate_left
     · simp only [Act.put, pa10_1, pa10_2, pa10_3, i64_w, i32_w]
       rfl
     refine pure_ (i := 14) (N := some 16) (v := undef) (a' := ?_) m10_18 rfl rfl (any_of HT_.out (by kernel_rfl)) (fun _ _ _ h => h) (Or.inr ⟨by rfl, rfl⟩) ?_ ?_; rotate_left
     · simp only [Act.put, pa10_1, pa10_2, pa10_3, i64_w, i32_w]
       rfl
     refine pure_ (i := 15) (N := some 17) (v := undef) (a' := ?_) m10_19 rfl rfl (any_of HT_.out (by kernel_rfl)) (fun _ _ _ h => h) (Or.inr ⟨by rfl, rfl⟩) ?_ ?_; rotate_left
     · simp only [Act.put, pa10_1, pa10_2, pa10_3, i64_w, i32_w]
       rfl
     refine pure_ (i := 16) (N := some 18) (v := undef) (a' := ?_) m10_20 rfl rfl (any_of HT_.out (by kernel_rfl)) (fun _ _ _ h => h) (Or.inr ⟨by rfl, rfl⟩) ?_ ?_; rotate_left
     · simp only [Act.put, pa10_1, pa10_2, pa10_3, i64_w, i32_w]
       rfl
     refine pure_ (i := 17) (N := some 19) (v := undef) (a' := ?_) m10_21 rfl rfl (any_of HT_.out (by kernel_rfl)) (fun _ _ _ h => h) (Or.inr ⟨by rfl, rfl⟩) ?_ ?_; rotate_left
     · simp only [Act.put, pa10_1, pa10_2, pa10_3, i64_w, i32_w]
       rfl
     refine pure_ (i := 18) (N := some 20) (v := undef) (a' := ?_) m10_22 rfl rfl (any_of HT_.out (by kernel_rfl)) (fun _ _ _ h => h) (Or.inr ⟨by rfl, rfl⟩) ?_ ?_; rotate_left
     · simp only [Act.put, pa10_1, pa10_2, pa10_3, i64_w, i32_w]
       rfl
     refine pure_ (i := 19) (N := some 21) (v := undef) (a' := ?_) m10_23 rfl rfl (any_of HT_.out (by kernel_rfl)) (fun _ _ _ h => h) (Or.inr ⟨by rfl, rfl⟩) ?_ ?_; rotate_left
     · simp only [Act.put, pa10_1, pa10_2, pa10_3, i64_w, i32_w]
       rfl
     refine pure_ (i := 20) (N := some 22) (v := ?_) (a' := ?_) m10_24 rfl rfl (any_of HT_.out (by kernel_rfl)) (fun _ _ _ h => h) (Or.inl ⟨by rfl, ?_⟩) ?_ ?_; rotate_left
     · intro w'
       go_simp; (with_reducible rfl)
     rotate_left
     · simp only [Act.put, pa10_1, pa10_2, pa10_3, i64_w, i32_w]
       rfl
     refine done_ (done_of HT_.out (by kernel_rfl)) ?_
     try go_wp2
     first | go_end0 | ((try simp only [Exit.inBlock, Exit.then]); refine bodyPost_ret (results_none rfl _ _ _) rfl ?_)
     exact ⟨_, _, by first | rfl | (simp [errW_none, errW_some] <;> rfl) | (simp [*, errW_none, errW_some] <;> rfl), by (with_reducible repeat (first | apply Kd.R_alloc | apply Kd.R_drewN | apply Kd.R_drew)); exact HO_1000.out, by (with_reducible repeat (first | apply Kd.R_alloc | apply Kd.R_drewN | apply Kd.R_drew)); exact HO_1001.out, by (with_reducible repeat (first | refine blk_drewN ?_ _ | refine blk_drew ?_ | refine blk_alloc ?_ _)); exact BK0.out, c10_2, c10_1⟩

end Go.Proofs.YteiokhfikbndbaaDoor.R
