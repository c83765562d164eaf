/- Walks of the program's functions: each Go function's answer as a plain Lean function, and that the call comes to it. Written by a program. Conditions: those in each theorem's own head. -/
import Derived.Test.YtgnenhehcdekkadGreatDoorA0
import Derived.Test.YtgnenhehcdekkadGreatDoorA1
import Derived.Test.YtgnenhehcdekkadGreatDoorA2
import Derived.Test.YtgnenhehcdekkadGreatDoorA4
import Derived.Test.YtgnenhehcdekkadGreatDoorA5
namespace Go.Proofs.YtgnenhehcdekkadGreatDoor.A
open Go.RowKit Go.Proofs.YtgnenhehcdekkadGreatDoorW.PrintWords Go.Proofs.YtgnenhehcdekkadGreatDoorW.PrintLast Go.Proofs.YtgnenhehcdekkadGreatDoorW.PrintMore
attribute [local go_sem] max2_int min2_int max_two min_two max_three min_three max_four min_four   -- for this text's walks alone
set_option linter.unusedVariables false
set_option linter.unusedSimpArgs false

theorem d6_1 {p : Prop} (h : p := by first | rfl | (simp; done) | (simp [*]; done) | (simp [ne_nil_b, eq_nil_b]; done)) : p := h
theorem d6_2 {p : Prop} (h : p := by (try simp only [List.map_toArray, List.map_cons, List.map_nil]); first | done | rfl | (simp only [List.length_drop, List.length_take]; rfl)) : p := h
theorem d6_3 {p : Prop} (h : p := by first | (with_reducible assumption) | assumption) : p := h
theorem c6_1 {p : Prop} (h : p := by repeat (first | (with_reducible first | exact HB.out | apply below_alloc | apply pw_below_drewN | apply below_drew1) | exact HB.out)) : p := h
theorem c6_2 {p : Prop} (h : p := by first | rfl | (simp [errW_none, errW_some] <;> rfl) | (simp [*, errW_none, errW_some] <;> rfl)) : p := h
theorem c6_3 {p : Prop} (h : p := by repeat (first | exact (Kd.C_below HR0.out HB.out) | (with_reducible refine Kd.C_alloc ?_ _) | (with_reducible refine Kd.C_drewN ?_ _) | (with_reducible refine Kd.C_drew ?_))) : p := h
set_option maxHeartbeats 8000000
set_option maxRecDepth 100000

/-! ### spec_l4One: function 19 -/
mutual
def spec_l4One.j0 : Nat → List (S40) → Int → Bool → Option (Int)
  | 0, _, _, _ => none
  | k + 1, x0, x1, x35 => if x35 = true then (some 3) else (if x1 > 0 then ((spec_l4Line.f k x0 x1).bind fun t159 => (spec_l4One.j1 k x0 x1 (!t159))) else (spec_l4One.j1 k x0 x1 false))
def spec_l4One.j1 : Nat → List (S40) → Int → Bool → Option (Int)
  | 0, _, _, _ => none
  | k + 1, x0, x1, x43 => if x43 = true then (some 1) else (if 0 ≤ x1 then (if x1 < (x0.length : Int) then ((spec_l4Named.f ((rd_T40 x0 x1).f0)).bind fun t161 => (if t161 = true then ((spec_l4Name.f k ((rd_T40 x0 x1).f4)).bind fun t162 => (spec_l4One.j2 k x0 x1 (!t162))) else (spec_l4One.j2 k x0 x1 false))) else (none)) else (none))
def spec_l4One.j2 : Nat → List (S40) → Int → Bool → Option (Int)
  | 0, _, _, _ => none
  | k + 1, x0, x1, x56 => if x56 = true then (some 5) else (if 0 ≤ x1 then (if x1 < (x0.length : Int) then (if ((rd_T40 x0 x1).f0) = 1 then ((spec_l3Fault.f k ((rd_T40 x0 x1).f5)).bind fun t164 => (if t164 = 0 then (spec_l4One.j3 k x0 x1) else (some t164))) else (spec_l4One.j3 k x0 x1)) else (none)) else (none))
def spec_l4One.j3 : Nat → List (S40) → Int → Option (Int)
  | 0, _, _ => none
  | k + 1, x0, x1 => if 0 ≤ x1 then (if x1 < (x0.length : Int) then (if ((rd_T40 x0 x1).f0) = 8 then (spec_l4One.j4 k x0 x1 (decide (x1 > 0))) else (spec_l4One.j4 k x0 x1 false)) else (none)) else (none)
def spec_l4One.j4 : Nat → List (S40) → Int → Bool → Option (Int)
  | 0, _, _, _ => none
  | k + 1, x0, x1, x78 => if x78 = true then (some 1) else ((spec_l4Place.f k x0 x1).bind fun t166 => (if t166 = true then (some 0) else (some 3)))
end
def spec_l4One.f (k : Nat) (l0 : List (S40)) (a1 : Int) : Option (Int) := if 0 ≤ a1 then (if a1 < (l0.length : Int) then ((spec_l4Bare.f ((rd_T40 l0 a1).f0) ((rd_T40 l0 a1).f1) ((rd_T40 l0 a1).f2) ((rd_T40 l0 a1).f3) ((rd_T40 l0 a1).f4) ((rd_T40 l0 a1).f5)).bind fun t156 => (if t156 = true then (if a1 = 0 then (if ((rd_T40 l0 a1).f1) = (-1) then (if a1 > 0 then ((spec_l1In.f ((rd_T40 l0 a1).f1) 0 (wrap64 (a1 - 1))).bind fun t157 => (spec_l4One.j0 k l0 a1 (!t157))) else (spec_l4One.j0 k l0 a1 false)) else (spec_l4One.j0 k l0 a1 true)) else (if a1 > 0 then ((spec_l1In.f ((rd_T40 l0 a1).f1) 0 (wrap64 (a1 - 1))).bind fun t158 => (spec_l4One.j0 k l0 a1 (!t158))) else (spec_l4One.j0 k l0 a1 false))) else (some 1))) else (none)) else (none)
theorem spec_l4One.mono_l : ∀ k, (∀ y0 y1 y2, LeO (spec_l4One.j0 k y0 y1 y2) (spec_l4One.j0 (k + 1) y0 y1 y2)) ∧ (∀ y0 y1 y2, LeO (spec_l4One.j1 k y0 y1 y2) (spec_l4One.j1 (k + 1) y0 y1 y2)) ∧ (∀ y0 y1 y2, LeO (spec_l4One.j2 k y0 y1 y2) (spec_l4One.j2 (k + 1) y0 y1 y2)) ∧ (∀ y0 y1, LeO (spec_l4One.j3 k y0 y1) (spec_l4One.j3 (k + 1) y0 y1)) ∧ (∀ y0 y1 y2, LeO (spec_l4One.j4 k y0 y1 y2) (spec_l4One.j4 (k + 1) y0 y1 y2))
  | 0 => ⟨fun _ _ _ r h => by simp [spec_l4One.j0] at h, fun _ _ _ r h => by simp [spec_l4One.j1] at h, fun _ _ _ r h => by simp [spec_l4One.j2] at h, fun _ _ r h => by simp [spec_l4One.j3] at h, fun _ _ _ r h => by simp [spec_l4One.j4] at h⟩
  | k + 1 => by
    obtain ⟨ih0, ih1, ih2, ih3, ih4⟩ := spec_l4One.mono_l k; refine ⟨?_, ?_, ?_, ?_, ?_⟩
    · intro y0 y1 y2
      unfold spec_l4One.j0
      repeat' first | (with_reducible first | apply ih0 | apply ih1 | apply ih2 | apply ih3 | apply ih4 | apply spec_l3Fault.mono | apply spec_l4Line.mono | apply spec_l4Name.mono | apply spec_l4Place.mono | exact LeO.refl _ | exact LeO.none _ | refine LeO.ite ?_ ?_ | refine LeO.bind ?_ (fun _ => ?_)) | apply ih0 | apply ih1 | apply ih2 | apply ih3 | apply ih4 | apply spec_l3Fault.mono | apply spec_l4Line.mono | apply spec_l4Name.mono | apply spec_l4Place.mono | exact LeO.none _ | refine LeO.ite ?_ ?_ | refine LeO.bind ?_ (fun _ => ?_)
    · intro y0 y1 y2
      unfold spec_l4One.j1
      repeat' first | (with_reducible first | apply ih0 | apply ih1 | apply ih2 | apply ih3 | apply ih4 | apply spec_l3Fault.mono | apply spec_l4Line.mono | apply spec_l4Name.mono | apply spec_l4Place.mono | exact LeO.refl _ | exact LeO.none _ | refine LeO.ite ?_ ?_ | refine LeO.bind ?_ (fun _ => ?_)) | apply ih0 | apply ih1 | apply ih2 | apply ih3 | apply ih4 | apply spec_l3Fault.mono | apply spec_l4Line.mono | apply spec_l4Name.mono | apply spec_l4Place.mono | exact LeO.none _ | refine LeO.ite ?_ ?_ | refine LeO.bind ?_ (fun _ => ?_)
    · intro y0 y1 y2
      unfold spec_l4One.j2
      repeat' first | (with_reducible first | apply ih0 | apply ih1 | apply ih2 | apply ih3 | apply ih4 | apply spec_l3Fault.mono | apply spec_l4Line.mono | apply spec_l4Name.mono | apply spec_l4Place.mono | exact LeO.refl _ | exact LeO.none _ | refine LeO.ite ?_ ?_ | refine LeO.bind ?_ (fun _ => ?_)) | apply ih0 | apply ih1 | apply ih2 | apply ih3 | apply ih4 | apply spec_l3Fault.mono | apply spec_l4Line.mono | apply spec_l4Name.mono | apply spec_l4Place.mono | exact LeO.none _ | refine LeO.ite ?_ ?_ | refine LeO.bind ?_ (fun _ => ?_)
    · intro y0 y1
      unfold spec_l4One.j3
      repeat' first | (with_reducible first | apply ih0 | apply ih1 | apply ih2 | apply ih3 | apply ih4 | apply spec_l3Fault.mono | apply spec_l4Line.mono | apply spec_l4Name.mono | apply spec_l4Place.mono | exact LeO.refl _ | exact LeO.none _ | refine LeO.ite ?_ ?_ | refine LeO.bind ?_ (fun _ => ?_)) | apply ih0 | apply ih1 | apply ih2 | apply ih3 | apply ih4 | apply spec_l3Fault.mono | apply spec_l4Line.mono | apply spec_l4Name.mono | apply spec_l4Place.mono | exact LeO.none _ | refine LeO.ite ?_ ?_ | refine LeO.bind ?_ (fun _ => ?_)
    · intro y0 y1 y2
      unfold spec_l4One.j4
      repeat' first | (with_reducible first | apply ih0 | apply ih1 | apply ih2 | apply ih3 | apply ih4 | apply spec_l3Fault.mono | apply spec_l4Line.mono | apply spec_l4Name.mono | apply spec_l4Place.mono | exact LeO.refl _ | exact LeO.none _ | refine LeO.ite ?_ ?_ | refine LeO.bind ?_ (fun _ => ?_)) | apply ih0 | apply ih1 | apply ih2 | apply ih3 | apply ih4 | apply spec_l3Fault.mono | apply spec_l4Line.mono | apply spec_l4Name.mono | apply spec_l4Place.mono | exact LeO.none _ | refine LeO.ite ?_ ?_ | refine LeO.bind ?_ (fun _ => ?_)
theorem spec_l4One.mono : ∀ a0 a1 k, LeO (spec_l4One.f k a0 a1) (spec_l4One.f (k + 1) a0 a1) := by
  intro a0 a1 k; obtain ⟨ih0, ih1, ih2, ih3, ih4⟩ := spec_l4One.mono_l k; unfold spec_l4One.f
  repeat' first | (with_reducible first | apply ih0 | apply ih1 | apply ih2 | apply ih3 | apply ih4 | apply spec_l3Fault.mono | apply spec_l4Line.mono | apply spec_l4Name.mono | apply spec_l4Place.mono | exact LeO.refl _ | exact LeO.none _ | refine LeO.ite ?_ ?_ | refine LeO.bind ?_ (fun _ => ?_)) | apply ih0 | apply ih1 | apply ih2 | apply ih3 | apply ih4 | apply spec_l3Fault.mono | apply spec_l4Line.mono | apply spec_l4Name.mono | apply spec_l4Place.mono | exact LeO.none _ | refine LeO.ite ?_ ?_ | refine LeO.bind ?_ (fun _ => ?_)
theorem spec_l4One.calls (k : Nat) (A0 : Option Addr) (c0 : Nat) (l0 : List (S40)) (a1 : Int) (r : Int) (w : World) (hr0 : Kd.C k40 w A0 l0.length l0) (hc0 : l0.length ≤ c0) (h : spec_l4One.f k l0 a1 = some r) :
    Calls Tryz.prog 19 #[.slice A0 l0.length c0, .int .i64 a1] w fun e w' => e = .returned (.int .i64 r) ∧ Below w.heap.size w w' := by
  have HR0 := ak hr0; have HC0 := ak hc0; clear hr0 hc0; have HB := ak (Below.refl w.heap.size w); have H := h; clear h; unfold spec_l4One.f at H; by_cases c3 : 0 ≤ a1
  ·rw [if_pos c3] at H
   have c3b0 : decide (0 ≤ a1) = true := decide_eq_true c3; clear c3; by_cases c4 : a1 < (l0.length : Int)
   ·rw [if_pos c4] at H
    have c4b0 : decide (a1 < (l0.length : Int)) = true := decide_eq_true c4; clear c4; replace H := Option.bind_eq_some_iff.mp H; obtain ⟨t156, A50, H⟩ := H; (try dsimp -simprocs only at H); have A5 := ak A50; clear A50; by_cases c6 : t156 = true
    ·subst c6
     rw [if_pos rfl] at H; have HC7 := ak H; clear H; have p155 : 0 ≤ (a1 : Int) := of_decide_eq_true d6_3; have q155 : a1 < (l0.length : Int) := of_decide_eq_true d6_3; obtain ⟨ad155, A155_5, c155_5, e155, hx155_0, hx155_1, hx155_2, hx155_3, hx155_4, hx155_5, hl155_5, hi155_5⟩ := at_T40 HR0.out a1 p155 q155
     cases e155
     have HR155_5 := ak hi155_5; have HC155_5 := ak hl155_5; clear hi155_5 hl155_5; replace p155 := eq_true p155; replace q155 := eq_true q155; go_enter Tryz.func19, Tryz.ntmps19; go_upto_region 4 with (first | (go_at_call 33; (with_reducible refine (spec_l4Bare.calls _ ((rd_T40 l0 a1).f0) ((rd_T40 l0 a1).f1) ((rd_T40 l0 a1).f2) ((rd_T40 l0 a1).f3) ((rd_T40 l0 a1).f4) A155_5 c155_5 ((rd_T40 l0 a1).f5) true _ ?side1 ?side2 ?side3 ?side4 ?side5 ?side6 ?side7 ?side8 A5.out).mono ?_); (case side1 => first | exact hx155_0 | (refine Eq.trans ?_ hx155_0; simp only [go_sem])); (case side2 => first | exact hx155_1 | (refine Eq.trans ?_ hx155_1; simp only [go_sem])); (case side3 => first | exact hx155_2 | (refine Eq.trans ?_ hx155_2; simp only [go_sem])); (case side4 => first | exact hx155_3 | (refine Eq.trans ?_ hx155_3; simp only [go_sem])); (case side5 => first | exact hx155_4 | (refine Eq.trans ?_ hx155_4; simp only [go_sem])); (case side6 => first | exact hx155_5 | (refine Eq.trans ?_ hx155_5; simp only [go_sem])); (case side7 => repeat (first | exact HR155_5.out | (with_reducible refine Kd.C_alloc ?_ _) | (with_reducible refine Kd.C_drewN ?_ _) | (with_reducible refine Kd.C_drew ?_))); (case side8 => exact HC155_5.out); rintro e w' ⟨rfl, ⟨nd, rfl⟩⟩))
     (try simp only [Act.put, List.setIfInBounds_toArray, List.set_cons_zero, List.set_cons_succ])
     go_cut [35] (fun v35 wc => ∃ (kq : Nat) (x35_6 : Bool), v35 = .bool x35_6 ∧ Aside0 (spec_l4One.j0 kq l0 a1 x35_6 = some r) ∧ Aside0 (kq ≤ k) ∧ Aside0 (Below w.heap.size w wc))
     case first =>
      have H := HC7.out; clear HC7; by_cases c8 : a1 = 0
      ·rw [if_pos c8] at H
       have c8b0 : (a1 == 0) = true := beq_iff_eq.mpr c8; have c8b1 : (a1 != 0) = false := bne_eq_false_iff_eq.mpr c8; clear c8
       (first | rw [c8b0] | (simp only [i64_w, i32_w]; rw [c8b0]) | skip)
       by_cases c9 : ((rd_T40 l0 a1).f1) = (-1)
       ·rw [if_pos c9] at H
        have c9b0 : (((rd_T40 l0 a1).f1) == (-1)) = true := beq_iff_eq.mpr c9; have c9b1 : (((rd_T40 l0 a1).f1) != (-1)) = false := bne_eq_false_iff_eq.mpr c9; clear c9; by_cases c10 : a1 > 0
        ·rw [if_pos c10] at H
         have c10b0 : decide (0 < a1) = true := decide_eq_true c10; clear c10; replace H := Option.bind_eq_some_iff.mp H; obtain ⟨t157, A110, H⟩ := H; (try dsimp -simprocs only at H); have A11 := ak A110; clear A110; have H' := ak H; clear H; go_wp2_with (first | (go_at_call 34; (with_reducible refine (spec_l1In.calls ((rd_T40 l0 a1).f1) 0 (wrap64 (a1 - 1)) t157 _ A11.out).mono ?_); rintro e w' ⟨rfl, ⟨nd, rfl⟩⟩)); go_meet
         case rel => exact ⟨_, (!t157), d6_1, H', ⟨by first | omega | exact Nat.le_refl _⟩, ⟨c6_1⟩⟩
        ·rw [if_neg c10] at H
         have c10b0 : decide (0 < a1) = false := decide_eq_false c10; clear c10; have H' := ak H; clear H; go_wp2; go_meet
         case rel => exact ⟨_, (false), d6_1, H', ⟨by first | omega | exact Nat.le_refl _⟩, ⟨c6_1⟩⟩
       ·rw [if_neg c9] at H
        have c9b0 : (((rd_T40 l0 a1).f1) == (-1)) = false := beq_eq_false_iff_ne.mpr c9; have c9b1 : (((rd_T40 l0 a1).f1) != (-1)) = true := bne_iff_ne.mpr c9; have H' := ak H; clear H; go_wp2; go_meet
        case rel => exact ⟨_, (true), d6_1, H', ⟨by first | omega | exact Nat.le_refl _⟩, ⟨c6_1⟩⟩
      ·rw [if_neg c8] at H
       have c8b0 : (a1 == 0) = false := beq_eq_false_iff_ne.mpr c8; have c8b1 : (a1 != 0) = true := bne_iff_ne.mpr c8
       (first | rw [c8b0] | (simp only [i64_w, i32_w]; rw [c8b0]) | skip)
       by_cases c12 : a1 > 0
       ·rw [if_pos c12] at H
        have c12b0 : decide (0 < a1) = true := decide_eq_true c12; clear c12; replace H := Option.bind_eq_some_iff.mp H; obtain ⟨t158, A130, H⟩ := H; (try dsimp -simprocs only at H); have A13 := ak A130; clear A130; have H' := ak H; clear H; go_wp2_with (first | (go_at_call 34; (with_reducible refine (spec_l1In.calls ((rd_T40 l0 a1).f1) 0 (wrap64 (a1 - 1)) t158 _ A13.out).mono ?_); rintro e w' ⟨rfl, ⟨nd, rfl⟩⟩)); go_meet
        case rel => exact ⟨_, (!t158), d6_1, H', ⟨by first | omega | exact Nat.le_refl _⟩, ⟨c6_1⟩⟩
       ·rw [if_neg c12] at H
        have c12b0 : decide (0 < a1) = false := decide_eq_false c12; clear c12; have H' := ak H; clear H; go_wp2; go_meet
        case rel => exact ⟨_, (false), d6_1, H', ⟨by first | omega | exact Nat.le_refl _⟩, ⟨c6_1⟩⟩
     case rest =>
      clear HC7
      (try clear c1); (try clear p1); (try clear q1); (try clear hx1); (try clear c3); (try clear c3b0); (try clear c4); (try clear c4b0); (try clear c6); (try clear p6); (try clear hx155_0); (try clear hx155_1); (try clear hx155_2); (try clear hx155_3); (try clear hx155_4); (try clear hx155_5); (try clear p155); (try clear q155)
      obtain ⟨kq, x35_6, rfl, HA, HJ6, HB⟩ := hcut
      cases kq with
      | zero => exact absurd HA.out (by simp [spec_l4One.j0])
      | succ kj6 =>
       have H := HA.out; clear HA; simp only [spec_l4One.j0] at H; by_cases c14 : x35_6 = true
       ·subst c14
        rw [if_pos rfl] at H; obtain rfl := Option.some.inj H; go_wp2; go_ret; exact ⟨c6_2, c6_1⟩
       ·replace c14 := Bool.eq_false_iff.mpr c14
        subst c14
        rw [if_neg (show ¬ (false = true) by decide)] at H; have HC15 := ak H; clear H; go_upto_region 6 with (fail); go_cut [43] (fun v43 wc => ∃ (kq : Nat) (x43_14 : Bool), v43 = .bool x43_14 ∧ Aside0 (spec_l4One.j1 kq l0 a1 x43_14 = some r) ∧ Aside0 (kq ≤ kj6) ∧ Aside0 (Below w.heap.size w wc))
        case first =>
         have H := HC15.out; clear HC15; by_cases c16 : a1 > 0
         ·rw [if_pos c16] at H
          have c16b0 : decide (0 < a1) = true := decide_eq_true c16; clear c16
          (first | rw [c16b0] | (simp only [i64_w, i32_w]; rw [c16b0]) | skip)
          replace H := Option.bind_eq_some_iff.mp H; obtain ⟨t159, A170, H⟩ := H; (try dsimp -simprocs only at H); have A17 := ak A170; clear A170; have H' := ak H; clear H; go_wp2_with (first | (go_at_call 35; (with_reducible refine (spec_l4Line.calls kj6 _ _ l0 a1 t159 _ ?side1 ?side2 A17.out).mono ?_); (case side1 => exact c6_3); (case side2 => exact HC0.out); rintro e w' ⟨rfl, ⟨nd, rfl⟩⟩)); go_meet
          case rel => exact ⟨_, (!t159), d6_1, H', ⟨by have := HJ6.out; first | omega | exact Nat.le_refl _⟩, ⟨c6_1⟩⟩
         ·rw [if_neg c16] at H
          have c16b0 : decide (0 < a1) = false := decide_eq_false c16; clear c16
          (first | rw [c16b0] | (simp only [i64_w, i32_w]; rw [c16b0]) | skip)
          have H' := ak H; clear H; go_wp2; go_meet
          case rel => exact ⟨_, (false), d6_1, H', ⟨by have := HJ6.out; first | omega | exact Nat.le_refl _⟩, ⟨c6_1⟩⟩
        case rest =>
         clear HC15
         (try clear c1); (try clear p1); (try clear q1); (try clear hx1); (try clear p2); (try clear c3); (try clear c3b0); (try clear c4); (try clear c4b0); (try clear c6); (try clear p6); (try clear c8); (try clear c8b0); (try clear c8b1); (try clear c9); (try clear c9b0); (try clear c9b1); (try clear c10); (try clear c10b0); (try clear c12); (try clear c12b0); (try clear c14); (try clear c15); (try clear p15); (try clear q15); (try clear hx15); (try clear hx155_0); (try clear hx155_1); (try clear hx155_2); (try clear hx155_3); (try clear hx155_4); (try clear hx155_5); (try clear p1); (try clear p155); (try clear p6); (try clear q1); (try clear q155)
         obtain ⟨kq, x43_14, rfl, HA, HJ14, HB⟩ := hcut
         cases kq with
         | zero => exact absurd HA.out (by simp [spec_l4One.j1])
         | succ kj14 =>
          have H := HA.out; clear HA; simp only [spec_l4One.j1] at H; by_cases c18 : x43_14 = true
          ·subst c18
           rw [if_pos rfl] at H; obtain rfl := Option.some.inj H; go_wp2; go_ret; exact ⟨c6_2, c6_1⟩
          ·replace c18 := Bool.eq_false_iff.mpr c18
           subst c18
           rw [if_neg (show ¬ (false = true) by decide)] at H; have HC19 := ak H; clear H; go_upto_region 8 with (fail); go_cut [56] (fun v56 wc => ∃ (kq : Nat) (x56_18 : Bool), v56 = .bool x56_18 ∧ Aside0 (spec_l4One.j2 kq l0 a1 x56_18 = some r) ∧ Aside0 (kq ≤ kj14) ∧ Aside0 (Below w.heap.size w wc))
           case first =>
            have H := HC19.out; clear HC19; by_cases c20 : 0 ≤ a1
            ·rw [if_pos c20] at H
             have c20b0 : decide (0 ≤ a1) = true := decide_eq_true c20; clear c20
             (first | rw [c20b0] | (simp only [i64_w, i32_w]; rw [c20b0]) | skip)
             by_cases c21 : a1 < (l0.length : Int)
             ·rw [if_pos c21] at H
              have c21b0 : decide (a1 < (l0.length : Int)) = true := decide_eq_true c21; clear c21; replace H := Option.bind_eq_some_iff.mp H; obtain ⟨t161, A220, H⟩ := H; (try dsimp -simprocs only at H); have A22 := ak A220; clear A220; by_cases c23 : t161 = true
              ·subst c23
               rw [if_pos rfl] at H; replace H := Option.bind_eq_some_iff.mp H; obtain ⟨t162, A240, H⟩ := H; (try dsimp -simprocs only at H); have A24 := ak A240; clear A240; have H' := ak H; clear H; have p160 : 0 ≤ (a1 : Int) := of_decide_eq_true d6_3; have q160 : a1 < (l0.length : Int) := of_decide_eq_true d6_3; obtain ⟨ad160, A160_5, c160_5, e160, hx160_0, hx160_1, hx160_2, hx160_3, hx160_4, hx160_5, hl160_5, hi160_5⟩ := at_T40 HR0.out a1 p160 q160; obtain rfl : ad155 = ad160 := (by injection e160); replace hx160_0 := (HB.out.cell (World.block_lt_of_cell? w _ hx160_0)).trans hx160_0; replace hx160_1 := (HB.out.cell (World.block_lt_of_cell? w _ hx160_1)).trans hx160_1; replace hx160_2 := (HB.out.cell (World.block_lt_of_cell? w _ hx160_2)).trans hx160_2; replace hx160_3 := (HB.out.cell (World.block_lt_of_cell? w _ hx160_3)).trans hx160_3; replace hx160_4 := (HB.out.cell (World.block_lt_of_cell? w _ hx160_4)).trans hx160_4; replace hx160_5 := (HB.out.cell (World.block_lt_of_cell? w _ hx160_5)).trans hx160_5; have HR160_5 := ak hi160_5; have HC160_5 := ak hl160_5; clear hi160_5 hl160_5; replace p160 := eq_true p160; replace q160 := eq_true q160
               go_wp2_with (first | ((with_reducible refine gate_callee (f := 36) rfl ?_); refine goesL_ (some 48) rfl rfl Tryz.func36 (by kernel_rfl) rfl #[.int .i64 ((rd_T40 l0 a1).f0)] rfl d6_2 ?_; (with_reducible refine (spec_l4Named.calls ((rd_T40 l0 a1).f0) true _ A22.out).mono ?_); rintro e w' ⟨rfl, ⟨nd, rfl⟩⟩; refine ⟨_, rfl, ?_⟩) | (go_at_call 37; (with_reducible refine (spec_l4Name.calls kj14 ((rd_T40 l0 a1).f4) t162 _ A24.out).mono ?_); rintro e w25 ⟨rfl, hb⟩; have n0_ := ak (below_step (by repeat (first | (with_reducible first | exact HB.out | apply below_alloc | apply pw_below_drewN | apply below_drew1) | exact HB.out)) hb); clear HB; have HB := n0_; clear n0_; (try clear hb))); go_meet
               case rel => exact ⟨_, (!t162), d6_1, H', ⟨by have := HJ6.out; have := HJ14.out; first | omega | exact Nat.le_refl _⟩, ⟨c6_1⟩⟩
              ·replace c23 := Bool.eq_false_iff.mpr c23
               subst c23
               rw [if_neg (show ¬ (false = true) by decide)] at H; have H' := ak H; clear H; have p160 : 0 ≤ (a1 : Int) := of_decide_eq_true d6_3; have q160 : a1 < (l0.length : Int) := of_decide_eq_true d6_3; obtain ⟨ad160, A160_5, c160_5, e160, hx160_0, hx160_1, hx160_2, hx160_3, hx160_4, hx160_5, hl160_5, hi160_5⟩ := at_T40 HR0.out a1 p160 q160; obtain rfl : ad155 = ad160 := (by injection e160); replace hx160_0 := (HB.out.cell (World.block_lt_of_cell? w _ hx160_0)).trans hx160_0; replace hx160_1 := (HB.out.cell (World.block_lt_of_cell? w _ hx160_1)).trans hx160_1; replace hx160_2 := (HB.out.cell (World.block_lt_of_cell? w _ hx160_2)).trans hx160_2; replace hx160_3 := (HB.out.cell (World.block_lt_of_cell? w _ hx160_3)).trans hx160_3; replace hx160_4 := (HB.out.cell (World.block_lt_of_cell? w _ hx160_4)).trans hx160_4; replace hx160_5 := (HB.out.cell (World.block_lt_of_cell? w _ hx160_5)).trans hx160_5; have HR160_5 := ak hi160_5; have HC160_5 := ak hl160_5; clear hi160_5 hl160_5; replace p160 := eq_true p160; replace q160 := eq_true q160; go_wp2_with (first | ((with_reducible refine gate_callee (f := 36) rfl ?_); refine goesL_ (some 48) rfl rfl Tryz.func36 (by kernel_rfl) rfl #[.int .i64 ((rd_T40 l0 a1).f0)] rfl d6_2 ?_; (with_reducible refine (spec_l4Named.calls ((rd_T40 l0 a1).f0) false _ A22.out).mono ?_); rintro e w' ⟨rfl, ⟨nd, rfl⟩⟩; refine ⟨_, rfl, ?_⟩)); go_meet
               case rel => exact ⟨_, (false), d6_1, H', ⟨by have := HJ6.out; have := HJ14.out; first | omega | exact Nat.le_refl _⟩, ⟨c6_1⟩⟩
             ·rw [if_neg c21] at H
              exact absurd H (by simp)
            ·rw [if_neg c20] at H
             exact absurd H (by simp)
           case rest =>
            clear HC19
            (try clear c1); (try clear p1); (try clear q1); (try clear hx1); (try clear p2); (try clear c3); (try clear c3b0); (try clear c4); (try clear c4b0); (try clear c6); (try clear p6); (try clear c8); (try clear c8b0); (try clear c8b1); (try clear c9); (try clear c9b0); (try clear c9b1); (try clear c10); (try clear c10b0); (try clear c12); (try clear c12b0); (try clear c14); (try clear c15); (try clear p15); (try clear q15); (try clear hx15); (try clear c16); (try clear c16b0); (try clear c18); (try clear c19); (try clear hx155_0); (try clear hx155_1); (try clear hx155_2); (try clear hx155_3); (try clear hx155_4); (try clear hx155_5); (try clear p1); (try clear p15); (try clear p155); (try clear p2); (try clear p6); (try clear q1); (try clear q15); (try clear q155)
            obtain ⟨kq, x56_18, rfl, HA, HJ18, HB⟩ := hcut
            cases kq with
            | zero => exact absurd HA.out (by simp [spec_l4One.j2])
            | succ kj18 =>
             have H := HA.out; clear HA; simp only [spec_l4One.j2] at H; by_cases c26 : x56_18 = true
             ·subst c26
              rw [if_pos rfl] at H; obtain rfl := Option.some.inj H; go_wp2; go_ret; exact ⟨c6_2, c6_1⟩
             ·replace c26 := Bool.eq_false_iff.mpr c26
              subst c26
              rw [if_neg (show ¬ (false = true) by decide)] at H; by_cases c27 : 0 ≤ a1
              ·rw [if_pos c27] at H
               have c27b0 : decide (0 ≤ a1) = true := decide_eq_true c27; clear c27; by_cases c28 : a1 < (l0.length : Int)
               ·rw [if_pos c28] at H
                have c28b0 : decide (a1 < (l0.length : Int)) = true := decide_eq_true c28; clear c28; have HC29 := ak H; clear H; have p163 : 0 ≤ (a1 : Int) := of_decide_eq_true d6_3; have q163 : a1 < (l0.length : Int) := of_decide_eq_true d6_3; obtain ⟨ad163, A163_5, c163_5, e163, hx163_0, hx163_1, hx163_2, hx163_3, hx163_4, hx163_5, hl163_5, hi163_5⟩ := at_T40 HR0.out a1 p163 q163; obtain rfl : ad155 = ad163 := (by injection e163); replace hx163_0 := (HB.out.cell (World.block_lt_of_cell? w _ hx163_0)).trans hx163_0; replace hx163_1 := (HB.out.cell (World.block_lt_of_cell? w _ hx163_1)).trans hx163_1; replace hx163_2 := (HB.out.cell (World.block_lt_of_cell? w _ hx163_2)).trans hx163_2; replace hx163_3 := (HB.out.cell (World.block_lt_of_cell? w _ hx163_3)).trans hx163_3; replace hx163_4 := (HB.out.cell (World.block_lt_of_cell? w _ hx163_4)).trans hx163_4; replace hx163_5 := (HB.out.cell (World.block_lt_of_cell? w _ hx163_5)).trans hx163_5; have HR163_5 := ak hi163_5; have HC163_5 := ak hl163_5; clear hi163_5 hl163_5; replace p163 := eq_true p163; replace q163 := eq_true q163; go_upto_if 61 with (fail); go_cut [] (fun wc => ∃ (kq : Nat), Aside0 (spec_l4One.j3 kq l0 a1 = some r) ∧ Aside0 (kq ≤ kj18) ∧ Aside0 (Below w.heap.size w wc))
                case first =>
                 have H := HC29.out; clear HC29; by_cases c30 : ((rd_T40 l0 a1).f0) = 1
                 ·rw [if_pos c30] at H
                  have c30b0 : (((rd_T40 l0 a1).f0) == 1) = true := beq_iff_eq.mpr c30; have c30b1 : (((rd_T40 l0 a1).f0) != 1) = false := bne_eq_false_iff_eq.mpr c30; clear c30
                  (first | rw [c30b0] | (simp only [i64_w, i32_w]; rw [c30b0]) | skip)
                  replace H := Option.bind_eq_some_iff.mp H; obtain ⟨t164, A310, H⟩ := H; (try dsimp -simprocs only at H); have A31 := ak A310; clear A310; by_cases c32 : t164 = 0
                  ·rw [if_pos c32] at H
                   have c32b0 : (t164 == 0) = true := beq_iff_eq.mpr c32; have c32b1 : (t164 != 0) = false := bne_eq_false_iff_eq.mpr c32; clear c32; have H' := ak H; clear H; go_wp2_with (first | ((with_reducible refine gate_callee (f := 38) rfl ?_); refine goesL_ (some 66) rfl rfl Tryz.func38 (by kernel_rfl) rfl #[.slice A163_5 ((rd_T40 l0 a1).f5).length c163_5] rfl d6_2 ?_; (with_reducible refine (spec_l3Fault.calls kj18 _ _ ((rd_T40 l0 a1).f5) t164 _ ?side1 ?side2 A31.out).mono ?_); (case side1 => repeat (first | exact (Kd.C_below HR163_5.out HB.out) | (with_reducible refine Kd.C_alloc ?_ _) | (with_reducible refine Kd.C_drewN ?_ _) | (with_reducible refine Kd.C_drew ?_))); (case side2 => exact HC163_5.out); rintro e w' ⟨rfl, ⟨nd, rfl⟩⟩; refine ⟨_, rfl, ?_⟩)); go_meet
                   case rel => exact ⟨_, H', ⟨by have := HJ6.out; have := HJ14.out; have := HJ18.out; first | omega | exact Nat.le_refl _⟩, ⟨c6_1⟩⟩
                  ·rw [if_neg c32] at H
                   have c32b0 : (t164 == 0) = false := beq_eq_false_iff_ne.mpr c32; have c32b1 : (t164 != 0) = true := bne_iff_ne.mpr c32; obtain rfl := Option.some.inj H; go_wp2_with (first | ((with_reducible refine gate_callee (f := 38) rfl ?_); refine goesL_ (some 66) rfl rfl Tryz.func38 (by kernel_rfl) rfl #[.slice A163_5 ((rd_T40 l0 a1).f5).length c163_5] rfl d6_2 ?_; (with_reducible refine (spec_l3Fault.calls kj18 _ _ ((rd_T40 l0 a1).f5) t164 _ ?side1 ?side2 A31.out).mono ?_); (case side1 => repeat (first | exact (Kd.C_below HR163_5.out HB.out) | (with_reducible refine Kd.C_alloc ?_ _) | (with_reducible refine Kd.C_drewN ?_ _) | (with_reducible refine Kd.C_drew ?_))); (case side2 => exact HC163_5.out); rintro e w' ⟨rfl, ⟨nd, rfl⟩⟩; refine ⟨_, rfl, ?_⟩)); go_ret; exact ⟨c6_2, c6_1⟩
                 ·rw [if_neg c30] at H
                  have c30b0 : (((rd_T40 l0 a1).f0) == 1) = false := beq_eq_false_iff_ne.mpr c30; have c30b1 : (((rd_T40 l0 a1).f0) != 1) = true := bne_iff_ne.mpr c30
                  (first | rw [c30b0] | (simp only [i64_w, i32_w]; rw [c30b0]) | skip)
                  have H' := ak H; clear H; go_wp2; go_meet
                  case rel => exact ⟨_, H', ⟨by have := HJ6.out; have := HJ14.out; have := HJ18.out; first | omega | exact Nat.le_refl _⟩, ⟨c6_1⟩⟩
                case rest =>
                 clear HC29
                 (try clear c1); (try clear p1); (try clear q1); (try clear hx1); (try clear c2); (try clear p2); (try clear c3); (try clear c3b0); (try clear c4); (try clear c4b0); (try clear c6); (try clear p6); (try clear c8); (try clear c8b0); (try clear c8b1); (try clear c9); (try clear c9b0); (try clear c9b1); (try clear c10); (try clear c10b0); (try clear c12); (try clear c12b0); (try clear c14); (try clear c15); (try clear p15); (try clear q15); (try clear hx15); (try clear c16); (try clear c16b0); (try clear p16); (try clear q16); (try clear hx16); (try clear c18); (try clear c19); (try clear c20); (try clear c20b0); (try clear c21); (try clear c21b0); (try clear c23); (try clear c26); (try clear c27); (try clear c27b0); (try clear c28); (try clear c28b0); (try clear hx155_0); (try clear hx155_1); (try clear hx155_2); (try clear hx155_3); (try clear hx155_4); (try clear hx155_5); (try clear hx160_0); (try clear hx160_1); (try clear hx160_2); (try clear hx160_3); (try clear hx160_4); (try clear hx160_5); (try clear hx163_0); (try clear hx163_1); (try clear hx163_2); (try clear hx163_3); (try clear hx163_4); (try clear hx163_5); (try clear p1); (try clear p15); (try clear p155); (try clear p160); (try clear p163); (try clear p2); (try clear p6); (try clear q1); (try clear q15); (try clear q155); (try clear q160); (try clear q163)
                 obtain ⟨kq, HA, HJ28, HB⟩ := hcut
                 cases kq with
                 | zero => exact absurd HA.out (by simp [spec_l4One.j3])
                 | succ kj28 =>
                  have H := HA.out; clear HA; simp only [spec_l4One.j3] at H; have HC33 := ak H; clear H; go_upto_region 14 with (fail); go_cut [78] (fun v78 wc => ∃ (kq : Nat) (x78_32 : Bool), v78 = .bool x78_32 ∧ Aside0 (spec_l4One.j4 kq l0 a1 x78_32 = some r) ∧ Aside0 (kq ≤ kj28) ∧ Aside0 (Below w.heap.size w wc))
                  case first =>
                   have H := HC33.out; clear HC33; by_cases c34 : 0 ≤ a1
                   ·rw [if_pos c34] at H
                    have c34b0 : decide (0 ≤ a1) = true := decide_eq_true c34; clear c34
                    (first | rw [c34b0] | (simp only [i64_w, i32_w]; rw [c34b0]) | skip)
                    by_cases c35 : a1 < (l0.length : Int)
                    ·rw [if_pos c35] at H
                     have c35b0 : decide (a1 < (l0.length : Int)) = true := decide_eq_true c35; clear c35; by_cases c36 : ((rd_T40 l0 a1).f0) = 8
                     ·rw [if_pos c36] at H
                      have c36b0 : (((rd_T40 l0 a1).f0) == 8) = true := beq_iff_eq.mpr c36; have c36b1 : (((rd_T40 l0 a1).f0) != 8) = false := bne_eq_false_iff_eq.mpr c36; clear c36; have H' := ak H; clear H; have p165 : 0 ≤ (a1 : Int) := of_decide_eq_true d6_3; have q165 : a1 < (l0.length : Int) := of_decide_eq_true d6_3; obtain ⟨ad165, A165_5, c165_5, e165, hx165_0, hx165_1, hx165_2, hx165_3, hx165_4, hx165_5, hl165_5, hi165_5⟩ := at_T40 HR0.out a1 p165 q165; obtain rfl : ad155 = ad165 := (by injection e165); replace hx165_0 := (HB.out.cell (World.block_lt_of_cell? w _ hx165_0)).trans hx165_0; replace hx165_1 := (HB.out.cell (World.block_lt_of_cell? w _ hx165_1)).trans hx165_1; replace hx165_2 := (HB.out.cell (World.block_lt_of_cell? w _ hx165_2)).trans hx165_2; replace hx165_3 := (HB.out.cell (World.block_lt_of_cell? w _ hx165_3)).trans hx165_3; replace hx165_4 := (HB.out.cell (World.block_lt_of_cell? w _ hx165_4)).trans hx165_4; replace hx165_5 := (HB.out.cell (World.block_lt_of_cell? w _ hx165_5)).trans hx165_5; have HR165_5 := ak hi165_5; have HC165_5 := ak hl165_5; clear hi165_5 hl165_5; replace p165 := eq_true p165; replace q165 := eq_true q165; go_wp2; go_meet
                      case rel => exact ⟨_, (decide (a1 > 0)), d6_1, H', ⟨by have := HJ6.out; have := HJ14.out; have := HJ18.out; have := HJ28.out; first | omega | exact Nat.le_refl _⟩, ⟨c6_1⟩⟩
                     ·rw [if_neg c36] at H
                      have c36b0 : (((rd_T40 l0 a1).f0) == 8) = false := beq_eq_false_iff_ne.mpr c36; have c36b1 : (((rd_T40 l0 a1).f0) != 8) = true := bne_iff_ne.mpr c36; have H' := ak H; clear H; have p165 : 0 ≤ (a1 : Int) := of_decide_eq_true d6_3; have q165 : a1 < (l0.length : Int) := of_decide_eq_true d6_3; obtain ⟨ad165, A165_5, c165_5, e165, hx165_0, hx165_1, hx165_2, hx165_3, hx165_4, hx165_5, hl165_5, hi165_5⟩ := at_T40 HR0.out a1 p165 q165; obtain rfl : ad155 = ad165 := (by injection e165); replace hx165_0 := (HB.out.cell (World.block_lt_of_cell? w _ hx165_0)).trans hx165_0; replace hx165_1 := (HB.out.cell (World.block_lt_of_cell? w _ hx165_1)).trans hx165_1; replace hx165_2 := (HB.out.cell (World.block_lt_of_cell? w _ hx165_2)).trans hx165_2; replace hx165_3 := (HB.out.cell (World.block_lt_of_cell? w _ hx165_3)).trans hx165_3; replace hx165_4 := (HB.out.cell (World.block_lt_of_cell? w _ hx165_4)).trans hx165_4; replace hx165_5 := (HB.out.cell (World.block_lt_of_cell? w _ hx165_5)).trans hx165_5; have HR165_5 := ak hi165_5; have HC165_5 := ak hl165_5; clear hi165_5 hl165_5; replace p165 := eq_true p165; replace q165 := eq_true q165; go_wp2; go_meet
                      case rel => exact ⟨_, (false), d6_1, H', ⟨by have := HJ6.out; have := HJ14.out; have := HJ18.out; have := HJ28.out; first | omega | exact Nat.le_refl _⟩, ⟨c6_1⟩⟩
                    ·rw [if_neg c35] at H
                     exact absurd H (by simp)
                   ·rw [if_neg c34] at H
                    exact absurd H (by simp)
                  case rest =>
                   clear HC33
                   (try clear c1); (try clear p1); (try clear q1); (try clear hx1); (try clear c2); (try clear p2); (try clear c3); (try clear c3b0); (try clear c4); (try clear c4b0); (try clear c6); (try clear p6); (try clear c8); (try clear c8b0); (try clear c8b1); (try clear c9); (try clear c9b0); (try clear c9b1); (try clear c10); (try clear c10b0); (try clear c12); (try clear c12b0); (try clear c14); (try clear c15); (try clear p15); (try clear q15); (try clear hx15); (try clear c16); (try clear c16b0); (try clear p16); (try clear q16); (try clear hx16); (try clear c18); (try clear c19); (try clear c20); (try clear c20b0); (try clear c21); (try clear c21b0); (try clear c23); (try clear c26); (try clear c27); (try clear c27b0); (try clear c28); (try clear c28b0); (try clear c30); (try clear c30b0); (try clear c30b1); (try clear c32); (try clear c32b0); (try clear c32b1); (try clear c36); (try clear hx155_0); (try clear hx155_1); (try clear hx155_2); (try clear hx155_3); (try clear hx155_4); (try clear hx155_5); (try clear hx160_0); (try clear hx160_1); (try clear hx160_2); (try clear hx160_3); (try clear hx160_4); (try clear hx160_5); (try clear hx163_0); (try clear hx163_1); (try clear hx163_2); (try clear hx163_3); (try clear hx163_4); (try clear hx163_5); (try clear p1); (try clear p15); (try clear p155); (try clear p16); (try clear p160); (try clear p163); (try clear p2); (try clear p6); (try clear q1); (try clear q15); (try clear q155); (try clear q16); (try clear q160); (try clear q163)
                   obtain ⟨kq, x78_32, rfl, HA, HJ32, HB⟩ := hcut
                   cases kq with
                   | zero => exact absurd HA.out (by simp [spec_l4One.j4])
                   | succ kj32 =>
                    have H := HA.out; clear HA; simp only [spec_l4One.j4] at H; by_cases c37 : x78_32 = true
                    ·subst c37
                     rw [if_pos rfl] at H; obtain rfl := Option.some.inj H; go_wp2; go_ret; exact ⟨c6_2, c6_1⟩
                    ·replace c37 := Bool.eq_false_iff.mpr c37
                     subst c37
                     rw [if_neg (show ¬ (false = true) by decide)] at H; replace H := Option.bind_eq_some_iff.mp H; obtain ⟨t166, A380, H⟩ := H; (try dsimp -simprocs only at H); have A38 := ak A380; clear A380; by_cases c39 : t166 = true
                     ·subst c39
                      rw [if_pos rfl] at H; obtain rfl := Option.some.inj H; go_wp2_with (first | ((with_reducible refine gate_callee (f := 39) rfl ?_); refine goesL_ (some 81) rfl rfl Tryz.func39 (by kernel_rfl) rfl #[.slice (some ad155) l0.length c0, .int .i64 a1] rfl d6_2 ?_; (with_reducible refine (spec_l4Place.calls kj32 _ _ l0 a1 true _ ?side1 ?side2 A38.out).mono ?_); (case side1 => exact c6_3); (case side2 => exact HC0.out); rintro e w' ⟨rfl, ⟨nd, rfl⟩⟩; refine ⟨_, rfl, ?_⟩)); go_ret; exact ⟨c6_2, c6_1⟩
                     ·replace c39 := Bool.eq_false_iff.mpr c39
                      subst c39
                      rw [if_neg (show ¬ (false = true) by decide)] at H; obtain rfl := Option.some.inj H; go_wp2_with (first | ((with_reducible refine gate_callee (f := 39) rfl ?_); refine goesL_ (some 81) rfl rfl Tryz.func39 (by kernel_rfl) rfl #[.slice (some ad155) l0.length c0, .int .i64 a1] rfl d6_2 ?_; (with_reducible refine (spec_l4Place.calls kj32 _ _ l0 a1 false _ ?side1 ?side2 A38.out).mono ?_); (case side1 => exact c6_3); (case side2 => exact HC0.out); rintro e w' ⟨rfl, ⟨nd, rfl⟩⟩; refine ⟨_, rfl, ?_⟩)); go_ret; exact ⟨c6_2, c6_1⟩
               ·rw [if_neg c28] at H
                exact absurd H (by simp)
              ·rw [if_neg c27] at H
               exact absurd H (by simp)
    ·replace c6 := Bool.eq_false_iff.mpr c6
     subst c6
     rw [if_neg (show ¬ (false = true) by decide)] at H; obtain rfl := Option.some.inj H; have p155 : 0 ≤ (a1 : Int) := of_decide_eq_true d6_3; have q155 : a1 < (l0.length : Int) := of_decide_eq_true d6_3; obtain ⟨ad155, A155_5, c155_5, e155, hx155_0, hx155_1, hx155_2, hx155_3, hx155_4, hx155_5, hl155_5, hi155_5⟩ := at_T40 HR0.out a1 p155 q155
     cases e155
     have HR155_5 := ak hi155_5; have HC155_5 := ak hl155_5; clear hi155_5 hl155_5; replace p155 := eq_true p155; replace q155 := eq_true q155; go_enter Tryz.func19, Tryz.ntmps19; go_wp2_with (first | (go_at_call 33; (with_reducible refine (spec_l4Bare.calls _ ((rd_T40 l0 a1).f0) ((rd_T40 l0 a1).f1) ((rd_T40 l0 a1).f2) ((rd_T40 l0 a1).f3) ((rd_T40 l0 a1).f4) A155_5 c155_5 ((rd_T40 l0 a1).f5) false _ ?side1 ?side2 ?side3 ?side4 ?side5 ?side6 ?side7 ?side8 A5.out).mono ?_); (case side1 => first | exact hx155_0 | (refine Eq.trans ?_ hx155_0; simp only [go_sem])); (case side2 => first | exact hx155_1 | (refine Eq.trans ?_ hx155_1; simp only [go_sem])); (case side3 => first | exact hx155_2 | (refine Eq.trans ?_ hx155_2; simp only [go_sem])); (case side4 => first | exact hx155_3 | (refine Eq.trans ?_ hx155_3; simp only [go_sem])); (case side5 => first | exact hx155_4 | (refine Eq.trans ?_ hx155_4; simp only [go_sem])); (case side6 => first | exact hx155_5 | (refine Eq.trans ?_ hx155_5; simp only [go_sem])); (case side7 => repeat (first | exact HR155_5.out | (with_reducible refine Kd.C_alloc ?_ _) | (with_reducible refine Kd.C_drewN ?_ _) | (with_reducible refine Kd.C_drew ?_))); (case side8 => exact HC155_5.out); rintro e w' ⟨rfl, ⟨nd, rfl⟩⟩)); go_ret
     exact ⟨c6_2, c6_1⟩
   ·rw [if_neg c4] at H
    exact absurd H (by simp)
  ·rw [if_neg c3] at H
   exact absurd H (by simp)

end Go.Proofs.YtgnenhehcdekkadGreatDoor.A
