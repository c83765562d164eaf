/- Walks of the program's functions: each Go function's answer as a plain Lean function, and that the call comes to it. Written by a program. Conditions: those in each theorem's own head. -/
import Derived.Test.YtgnenhehcdekkadGreatDoorA0
import Derived.Test.YtgnenhehcdekkadGreatDoorA1
namespace Go.Proofs.YtgnenhehcdekkadGreatDoor.A
open Go.RowKit Go.Proofs.YtgnenhehcdekkadGreatDoorW.PrintWords Go.Proofs.YtgnenhehcdekkadGreatDoorW.PrintLast Go.Proofs.YtgnenhehcdekkadGreatDoorW.PrintMore
attribute [local go_sem] max2_int min2_int max_two min_two max_three min_three max_four min_four   -- for this text's walks alone
set_option linter.unusedVariables false
set_option linter.unusedSimpArgs false

theorem d5_1 {p : Prop} (h : p := by first | (with_reducible assumption) | assumption) : p := h
theorem d5_2 {p : Prop} (h : p := by first | rfl | (simp; done) | (simp [*]; done) | (simp [ne_nil_b, eq_nil_b]; done)) : p := h
theorem c5_1 {p : Prop} (h : p := by repeat (first | exact HR0.out | (with_reducible refine Kd.C_alloc ?_ _) | (with_reducible refine Kd.C_drewN ?_ _) | (with_reducible refine Kd.C_drew ?_))) : p := h
theorem c5_2 {p : Prop} (h : p := by repeat (first | exact Drawn0.refl _ | apply Drawn0.step)) : p := h
theorem c5_3 {p : Prop} (h : p := by first | rfl | (simp; done) | (simp [*]; done) | (simp [ne_nil_b, eq_nil_b]; done)) : p := h
set_option maxHeartbeats 8000000
set_option maxRecDepth 100000

/-! ### spec_l4Around: function 62 -/
def spec_l4Around.l0 : Nat → List (S40) → Int → Int → Option (Int)
  | 0, _, _, _ => none
  | k + 1, x0, x2, x7 => if x7 ≥ 0 then (if 0 ≤ x7 then (if x7 < (x0.length : Int) then (if ((rd_T40 x0 x7).f0) = 5 then (if x2 = 0 then (some x7) else (spec_l4Around.l0 k x0 (wrap64 (x2 - 1)) ((rd_T40 x0 x7).f1))) else (spec_l4Around.l0 k x0 x2 ((rd_T40 x0 x7).f1))) else (none)) else (none)) else (some (-1))
def spec_l4Around.f (k : Nat) (l0 : List (S40)) (a1 : Int) (a2 : Int) : Option (Int) := if 0 ≤ a1 then (if a1 < (l0.length : Int) then (spec_l4Around.l0 k l0 a2 ((rd_T40 l0 a1).f1)) else (none)) else (none)
theorem spec_l4Around.mono_l : ∀ k, (∀ y0 y1 y2, LeO (spec_l4Around.l0 k y0 y1 y2) (spec_l4Around.l0 (k + 1) y0 y1 y2))
  | 0 => fun _ _ _ r h => by simp [spec_l4Around.l0] at h
  | k + 1 => by
    have ih0 := spec_l4Around.mono_l k
    · intro y0 y1 y2
      unfold spec_l4Around.l0
      repeat' first | (with_reducible first | apply ih0 | exact LeO.refl _ | exact LeO.none _ | refine LeO.ite ?_ ?_ | refine LeO.bind ?_ (fun _ => ?_)) | apply ih0 | exact LeO.none _ | refine LeO.ite ?_ ?_ | refine LeO.bind ?_ (fun _ => ?_)
theorem spec_l4Around.mono : ∀ a0 a1 a2 k, LeO (spec_l4Around.f k a0 a1 a2) (spec_l4Around.f (k + 1) a0 a1 a2) := by
  intro a0 a1 a2 k; have ih0 := spec_l4Around.mono_l k; unfold spec_l4Around.f
  repeat' first | (with_reducible first | apply ih0 | exact LeO.refl _ | exact LeO.none _ | refine LeO.ite ?_ ?_ | refine LeO.bind ?_ (fun _ => ?_)) | apply ih0 | exact LeO.none _ | refine LeO.ite ?_ ?_ | refine LeO.bind ?_ (fun _ => ?_)
theorem spec_l4Around.calls (k : Nat) (A0 : Option Addr) (c0 : Nat) (l0 : List (S40)) (a1 : Int) (a2 : Int) (r : Int) (w : World) (hr0 : Kd.C k40 w A0 l0.length l0) (hc0 : l0.length ≤ c0) (h : spec_l4Around.f k l0 a1 a2 = some r) :
    Calls Tryz.prog 62 #[.slice A0 l0.length c0, .int .i64 a1, .int .i64 a2] w fun e w' => e = .returned (.int .i64 r) ∧ Drawn0 w w' := by
  have HR0 := ak hr0; have HC0 := ak hc0; clear hr0 hc0; have H := h; clear h; unfold spec_l4Around.f at H; by_cases c4 : 0 ≤ a1
  ·rw [if_pos c4] at H
   have c4b0 : decide (0 ≤ a1) = true := decide_eq_true c4; clear c4; by_cases c5 : a1 < (l0.length : Int)
   ·rw [if_pos c5] at H
    have c5b0 : decide (a1 < (l0.length : Int)) = true := decide_eq_true c5; clear c5; have H' := ak H; clear H; have p145 : 0 ≤ (a1 : Int) := of_decide_eq_true d5_1; have q145 : a1 < (l0.length : Int) := of_decide_eq_true d5_1; obtain ⟨ad145, A145_5, c145_5, e145, hx145_0, hx145_1, hx145_2, hx145_3, hx145_4, hx145_5, hl145_5, hi145_5⟩ := at_T40 HR0.out a1 p145 q145
    cases e145
    have HR145_5 := ak hi145_5; have HC145_5 := ak hl145_5; clear hi145_5 hl145_5; replace p145 := eq_true p145; replace q145 := eq_true q145; go_enter Tryz.func62, Tryz.ntmps62; go_wp2; go_loopg [2, 7] k (fun kq v2 v7 w' => ∃ (x2_1 : Int) (x7_1 : Int), v2 = .int .i64 x2_1 ∧ v7 = .int .i64 x7_1 ∧ Aside0 (spec_l4Around.l0 kq l0 x2_1 x7_1 = some r) ∧ Aside0 (kq ≤ k) ∧ Drawn0 w w')
    case atStart => exact ⟨(a2), ((rd_T40 l0 a1).f1), d5_2, d5_2, H', ⟨Nat.le_refl _⟩, c5_2⟩
    case round =>
     clear H'
     (try clear c1); (try clear p1); (try clear q1); (try clear hx1); (try clear p2); (try clear c4); (try clear c4b0); (try clear c5); (try clear c5b0); (try clear hx145_0); (try clear hx145_1); (try clear hx145_2); (try clear hx145_3); (try clear hx145_4); (try clear hx145_5); (try clear p145); (try clear q145)
     obtain ⟨x2_1, x7_1, rfl, rfl, HA, HK1, ⟨m1, rfl⟩⟩ := hrel
     cases gk with
     | zero => exact absurd HA.out (by simp [spec_l4Around.l0])
     | succ k1 =>
      have H := HA.out; clear HA; simp only [spec_l4Around.l0] at H; by_cases c6 : x7_1 ≥ 0
      ·rw [if_pos c6] at H
       have c6b0 : decide (0 ≤ x7_1) = true := decide_eq_true c6; clear c6; by_cases c7 : 0 ≤ x7_1
       ·rw [if_pos c7] at H
        have c7b0 : decide (0 ≤ x7_1) = true := decide_eq_true c7; clear c7; by_cases c8 : x7_1 < (l0.length : Int)
        ·rw [if_pos c8] at H
         have c8b0 : decide (x7_1 < (l0.length : Int)) = true := decide_eq_true c8; clear c8; by_cases c9 : ((rd_T40 l0 x7_1).f0) = 5
         ·rw [if_pos c9] at H
          have c9b0 : (((rd_T40 l0 x7_1).f0) == 5) = true := beq_iff_eq.mpr c9; have c9b1 : (((rd_T40 l0 x7_1).f0) != 5) = false := bne_eq_false_iff_eq.mpr c9; clear c9; by_cases c10 : x2_1 = 0
          ·rw [if_pos c10] at H
           have c10b0 : (x2_1 == 0) = true := beq_iff_eq.mpr c10; have c10b1 : (x2_1 != 0) = false := bne_eq_false_iff_eq.mpr c10; clear c10; obtain rfl := Option.some.inj H; have p146 : 0 ≤ (x7_1 : Int) := of_decide_eq_true d5_1; have q146 : x7_1 < (l0.length : Int) := of_decide_eq_true d5_1; obtain ⟨ad146, A146_5, c146_5, e146, hx146_0, hx146_1, hx146_2, hx146_3, hx146_4, hx146_5, hl146_5, hi146_5⟩ := at_T40 HR0.out x7_1 p146 q146; obtain rfl : ad145 = ad146 := (by injection e146); have HR146_5 := ak hi146_5; have HC146_5 := ak hl146_5; clear hi146_5 hl146_5; replace p146 := eq_true p146; replace q146 := eq_true q146; go_wp2; go_ret; exact ⟨c5_3, c5_2⟩
          ·rw [if_neg c10] at H
           have c10b0 : (x2_1 == 0) = false := beq_eq_false_iff_ne.mpr c10; have c10b1 : (x2_1 != 0) = true := bne_iff_ne.mpr c10; have H' := ak H; clear H; have p146 : 0 ≤ (x7_1 : Int) := of_decide_eq_true d5_1; have q146 : x7_1 < (l0.length : Int) := of_decide_eq_true d5_1; obtain ⟨ad146, A146_5, c146_5, e146, hx146_0, hx146_1, hx146_2, hx146_3, hx146_4, hx146_5, hl146_5, hi146_5⟩ := at_T40 HR0.out x7_1 p146 q146; obtain rfl : ad145 = ad146 := (by injection e146); have HR146_5 := ak hi146_5; have HC146_5 := ak hl146_5; clear hi146_5 hl146_5; replace p146 := eq_true p146; replace q146 := eq_true q146; go_wp2; go_roundg k1
           case measure => have := HK1.out; omega
           case rel => exact ⟨(wrap64 (x2_1 - 1)), ((rd_T40 l0 x7_1).f1), d5_2, d5_2, H', ⟨by have := HK1.out; omega⟩, c5_2⟩
         ·rw [if_neg c9] at H
          have c9b0 : (((rd_T40 l0 x7_1).f0) == 5) = false := beq_eq_false_iff_ne.mpr c9; have c9b1 : (((rd_T40 l0 x7_1).f0) != 5) = true := bne_iff_ne.mpr c9; have H' := ak H; clear H; have p146 : 0 ≤ (x7_1 : Int) := of_decide_eq_true d5_1; have q146 : x7_1 < (l0.length : Int) := of_decide_eq_true d5_1; obtain ⟨ad146, A146_5, c146_5, e146, hx146_0, hx146_1, hx146_2, hx146_3, hx146_4, hx146_5, hl146_5, hi146_5⟩ := at_T40 HR0.out x7_1 p146 q146; obtain rfl : ad145 = ad146 := (by injection e146); have HR146_5 := ak hi146_5; have HC146_5 := ak hl146_5; clear hi146_5 hl146_5; replace p146 := eq_true p146; replace q146 := eq_true q146; go_wp2; go_roundg k1
          case measure => have := HK1.out; omega
          case rel => exact ⟨(x2_1), ((rd_T40 l0 x7_1).f1), d5_2, d5_2, H', ⟨by have := HK1.out; omega⟩, c5_2⟩
        ·rw [if_neg c8] at H
         exact absurd H (by simp)
       ·rw [if_neg c7] at H
        exact absurd H (by simp)
      ·rw [if_neg c6] at H
       have c6b0 : decide (0 ≤ x7_1) = false := decide_eq_false c6; clear c6; obtain rfl := Option.some.inj H; go_wp2; go_ret; exact ⟨c5_3, c5_2⟩
   ·rw [if_neg c5] at H
    exact absurd H (by simp)
  ·rw [if_neg c4] at H
   exact absurd H (by simp)

/-! ### spec_l4Place: function 39 -/
def spec_l4Place.f (k : Nat) (l0 : List (S40)) (a1 : Int) : Option (Bool) := if 0 ≤ a1 then (if a1 < (l0.length : Int) then (if ((rd_T40 l0 a1).f0) = 5 then ((spec_l1In.f ((rd_T40 l0 a1).f2) 0 3).bind fun t150 => (some t150)) else (if ((rd_T40 l0 a1).f0) = 2 then ((spec_l1In.f ((rd_T40 l0 a1).f2) 0 160).bind fun t151 => (if t151 = true then ((spec_l4Around.f k l0 a1 ((rd_T40 l0 a1).f2)).bind fun t152 => (if t152 ≥ 0 then (if 0 ≤ t152 then (if t152 < (l0.length : Int) then ((spec_l1In.f ((rd_T40 l0 a1).f3) 0 (wrap64 (((rd_T40 l0 t152).f2) - 1))).bind fun t154 => (some t154)) else (none)) else (none)) else (some false))) else (some false))) else (some true))) else (none)) else (none)
theorem spec_l4Place.mono : ∀ a0 a1 k, LeO (spec_l4Place.f k a0 a1) (spec_l4Place.f (k + 1) a0 a1) := by
  intro a0 a1 k; unfold spec_l4Place.f
  repeat' first | (with_reducible first | apply spec_l4Around.mono | exact LeO.refl _ | exact LeO.none _ | refine LeO.ite ?_ ?_ | refine LeO.bind ?_ (fun _ => ?_)) | apply spec_l4Around.mono | exact LeO.none _ | refine LeO.ite ?_ ?_ | refine LeO.bind ?_ (fun _ => ?_)
theorem spec_l4Place.calls (k : Nat) (A0 : Option Addr) (c0 : Nat) (l0 : List (S40)) (a1 : Int) (r : Bool) (w : World) (hr0 : Kd.C k40 w A0 l0.length l0) (hc0 : l0.length ≤ c0) (h : spec_l4Place.f k l0 a1 = some r) :
    Calls Tryz.prog 39 #[.slice A0 l0.length c0, .int .i64 a1] w fun e w' => e = .returned (.bool r) ∧ Drawn0 w w' := by
  have HR0 := ak hr0; have HC0 := ak hc0; clear hr0 hc0; have H := h; clear h; unfold spec_l4Place.f at H; by_cases c3 : 0 ≤ a1
  ·rw [if_pos c3] at H
   have c3b0 : decide (0 ≤ a1) = true := decide_eq_true c3; clear c3; by_cases c4 : a1 < (l0.length : Int)
   ·rw [if_pos c4] at H
    have c4b0 : decide (a1 < (l0.length : Int)) = true := decide_eq_true c4; clear c4; by_cases c5 : ((rd_T40 l0 a1).f0) = 5
    ·rw [if_pos c5] at H
     have c5b0 : (((rd_T40 l0 a1).f0) == 5) = true := beq_iff_eq.mpr c5; have c5b1 : (((rd_T40 l0 a1).f0) != 5) = false := bne_eq_false_iff_eq.mpr c5; clear c5; replace H := Option.bind_eq_some_iff.mp H; obtain ⟨t150, A60, H⟩ := H; (try dsimp -simprocs only at H); have A6 := ak A60; clear A60; obtain rfl := Option.some.inj H; have p149 : 0 ≤ (a1 : Int) := of_decide_eq_true d5_1; have q149 : a1 < (l0.length : Int) := of_decide_eq_true d5_1; obtain ⟨ad149, A149_5, c149_5, e149, hx149_0, hx149_1, hx149_2, hx149_3, hx149_4, hx149_5, hl149_5, hi149_5⟩ := at_T40 HR0.out a1 p149 q149
     cases e149
     have HR149_5 := ak hi149_5; have HC149_5 := ak hl149_5; clear hi149_5 hl149_5; replace p149 := eq_true p149; replace q149 := eq_true q149; go_enter Tryz.func39, Tryz.ntmps39; go_wp2_with (first | (go_at_call 34; (with_reducible refine (spec_l1In.calls ((rd_T40 l0 a1).f2) 0 3 t150 _ A6.out).mono ?_); rintro e w' ⟨rfl, ⟨nd, rfl⟩⟩; (try first | exact ⟨rfl, _, World.drewN_drewN _ _ _⟩ | exact ⟨rfl, _, Eq.trans (World.drewN_drewN _ _ _) (congrArg (World.drewN _) (Nat.add_assoc _ _ _))⟩)))
     repeat (go_quiet (first | (go_at_call 34; (with_reducible refine (spec_l1In.calls ((rd_T40 l0 a1).f2) 0 3 t150 _ A6.out).mono ?_); rintro e w' ⟨rfl, ⟨nd, rfl⟩⟩; (try first | exact ⟨rfl, _, World.drewN_drewN _ _ _⟩ | exact ⟨rfl, _, Eq.trans (World.drewN_drewN _ _ _) (congrArg (World.drewN _) (Nat.add_assoc _ _ _))⟩))); try go_wp2_with (first | (go_at_call 34; (with_reducible refine (spec_l1In.calls ((rd_T40 l0 a1).f2) 0 3 t150 _ A6.out).mono ?_); rintro e w' ⟨rfl, ⟨nd, rfl⟩⟩; (try first | exact ⟨rfl, _, World.drewN_drewN _ _ _⟩ | exact ⟨rfl, _, Eq.trans (World.drewN_drewN _ _ _) (congrArg (World.drewN _) (Nat.add_assoc _ _ _))⟩))))
     go_ret; exact ⟨c5_3, c5_2⟩
    ·rw [if_neg c5] at H
     have c5b0 : (((rd_T40 l0 a1).f0) == 5) = false := beq_eq_false_iff_ne.mpr c5; have c5b1 : (((rd_T40 l0 a1).f0) != 5) = true := bne_iff_ne.mpr c5; by_cases c7 : ((rd_T40 l0 a1).f0) = 2
     ·rw [if_pos c7] at H
      have c7b0 : (((rd_T40 l0 a1).f0) == 2) = true := beq_iff_eq.mpr c7; have c7b1 : (((rd_T40 l0 a1).f0) != 2) = false := bne_eq_false_iff_eq.mpr c7; clear c7; replace H := Option.bind_eq_some_iff.mp H; obtain ⟨t151, A80, H⟩ := H; (try dsimp -simprocs only at H); have A8 := ak A80; clear A80; by_cases c9 : t151 = true
      ·subst c9
       rw [if_pos rfl] at H; replace H := Option.bind_eq_some_iff.mp H; obtain ⟨t152, A100, H⟩ := H; (try dsimp -simprocs only at H); have A10 := ak A100; clear A100; by_cases c11 : t152 ≥ 0
       ·rw [if_pos c11] at H
        have c11b0 : decide (0 ≤ t152) = true := decide_eq_true c11; clear c11; by_cases c12 : 0 ≤ t152
        ·rw [if_pos c12] at H
         have c12b0 : decide (0 ≤ t152) = true := decide_eq_true c12; clear c12; by_cases c13 : t152 < (l0.length : Int)
         ·rw [if_pos c13] at H
          have c13b0 : decide (t152 < (l0.length : Int)) = true := decide_eq_true c13; clear c13; replace H := Option.bind_eq_some_iff.mp H; obtain ⟨t154, A140, H⟩ := H; (try dsimp -simprocs only at H); have A14 := ak A140; clear A140; obtain rfl := Option.some.inj H; have p149 : 0 ≤ (a1 : Int) := of_decide_eq_true d5_1; have q149 : a1 < (l0.length : Int) := of_decide_eq_true d5_1; obtain ⟨ad149, A149_5, c149_5, e149, hx149_0, hx149_1, hx149_2, hx149_3, hx149_4, hx149_5, hl149_5, hi149_5⟩ := at_T40 HR0.out a1 p149 q149
          cases e149
          have HR149_5 := ak hi149_5; have HC149_5 := ak hl149_5; clear hi149_5 hl149_5; replace p149 := eq_true p149; replace q149 := eq_true q149; go_enter Tryz.func39, Tryz.ntmps39
          go_wp2_with (first | (go_at_call 34; (with_reducible refine (spec_l1In.calls ((rd_T40 l0 a1).f2) 0 160 true _ A8.out).mono ?_); rintro e w' ⟨rfl, ⟨nd, rfl⟩⟩; (try first | exact ⟨rfl, _, World.drewN_drewN _ _ _⟩ | exact ⟨rfl, _, Eq.trans (World.drewN_drewN _ _ _) (congrArg (World.drewN _) (Nat.add_assoc _ _ _))⟩)) | (go_at_call 62; (with_reducible refine (spec_l4Around.calls k _ _ l0 a1 ((rd_T40 l0 a1).f2) t152 _ ?side1 ?side2 A10.out).mono ?_); (case side1 => exact c5_1); (case side2 => exact HC0.out); rintro e w' ⟨rfl, ⟨nd, rfl⟩⟩; (try first | exact ⟨rfl, _, World.drewN_drewN _ _ _⟩ | exact ⟨rfl, _, Eq.trans (World.drewN_drewN _ _ _) (congrArg (World.drewN _) (Nat.add_assoc _ _ _))⟩); have p153 : 0 ≤ (t152 : Int) := of_decide_eq_true d5_1; have q153 : t152 < (l0.length : Int) := of_decide_eq_true d5_1; obtain ⟨ad153, A153_5, c153_5, e153, hx153_0, hx153_1, hx153_2, hx153_3, hx153_4, hx153_5, hl153_5, hi153_5⟩ := at_T40 HR0.out t152 p153 q153; obtain rfl : ad149 = ad153 := (by injection e153); have HR153_5 := ak hi153_5; have HC153_5 := ak hl153_5; clear hi153_5 hl153_5; replace p153 := eq_true p153; replace q153 := eq_true q153) | (go_at_call 34; (with_reducible refine (spec_l1In.calls ((rd_T40 l0 a1).f3) 0 (wrap64 (((rd_T40 l0 t152).f2) - 1)) t154 _ A14.out).mono ?_); rintro e w' ⟨rfl, ⟨nd, rfl⟩⟩; (try first | exact ⟨rfl, _, World.drewN_drewN _ _ _⟩ | exact ⟨rfl, _, Eq.trans (World.drewN_drewN _ _ _) (congrArg (World.drewN _) (Nat.add_assoc _ _ _))⟩)))
          repeat (go_quiet (first | (go_at_call 34; (with_reducible refine (spec_l1In.calls ((rd_T40 l0 a1).f2) 0 160 true _ A8.out).mono ?_); rintro e w' ⟨rfl, ⟨nd, rfl⟩⟩; (try first | exact ⟨rfl, _, World.drewN_drewN _ _ _⟩ | exact ⟨rfl, _, Eq.trans (World.drewN_drewN _ _ _) (congrArg (World.drewN _) (Nat.add_assoc _ _ _))⟩)) | (go_at_call 62; (with_reducible refine (spec_l4Around.calls k _ _ l0 a1 ((rd_T40 l0 a1).f2) t152 _ ?side1 ?side2 A10.out).mono ?_); (case side1 => exact c5_1); (case side2 => exact HC0.out); rintro e w' ⟨rfl, ⟨nd, rfl⟩⟩; (try first | exact ⟨rfl, _, World.drewN_drewN _ _ _⟩ | exact ⟨rfl, _, Eq.trans (World.drewN_drewN _ _ _) (congrArg (World.drewN _) (Nat.add_assoc _ _ _))⟩); have p153 : 0 ≤ (t152 : Int) := of_decide_eq_true d5_1; have q153 : t152 < (l0.length : Int) := of_decide_eq_true d5_1; obtain ⟨ad153, A153_5, c153_5, e153, hx153_0, hx153_1, hx153_2, hx153_3, hx153_4, hx153_5, hl153_5, hi153_5⟩ := at_T40 HR0.out t152 p153 q153; obtain rfl : ad149 = ad153 := (by injection e153); have HR153_5 := ak hi153_5; have HC153_5 := ak hl153_5; clear hi153_5 hl153_5; replace p153 := eq_true p153; replace q153 := eq_true q153) | (go_at_call 34; (with_reducible refine (spec_l1In.calls ((rd_T40 l0 a1).f3) 0 (wrap64 (((rd_T40 l0 t152).f2) - 1)) t154 _ A14.out).mono ?_); rintro e w' ⟨rfl, ⟨nd, rfl⟩⟩; (try first | exact ⟨rfl, _, World.drewN_drewN _ _ _⟩ | exact ⟨rfl, _, Eq.trans (World.drewN_drewN _ _ _) (congrArg (World.drewN _) (Nat.add_assoc _ _ _))⟩))); try go_wp2_with (first | (go_at_call 34; (with_reducible refine (spec_l1In.calls ((rd_T40 l0 a1).f2) 0 160 true _ A8.out).mono ?_); rintro e w' ⟨rfl, ⟨nd, rfl⟩⟩; (try first | exact ⟨rfl, _, World.drewN_drewN _ _ _⟩ | exact ⟨rfl, _, Eq.trans (World.drewN_drewN _ _ _) (congrArg (World.drewN _) (Nat.add_assoc _ _ _))⟩)) | (go_at_call 62; (with_reducible refine (spec_l4Around.calls k _ _ l0 a1 ((rd_T40 l0 a1).f2) t152 _ ?side1 ?side2 A10.out).mono ?_); (case side1 => exact c5_1); (case side2 => exact HC0.out); rintro e w' ⟨rfl, ⟨nd, rfl⟩⟩; (try first | exact ⟨rfl, _, World.drewN_drewN _ _ _⟩ | exact ⟨rfl, _, Eq.trans (World.drewN_drewN _ _ _) (congrArg (World.drewN _) (Nat.add_assoc _ _ _))⟩); have p153 : 0 ≤ (t152 : Int) := of_decide_eq_true d5_1; have q153 : t152 < (l0.length : Int) := of_decide_eq_true d5_1; obtain ⟨ad153, A153_5, c153_5, e153, hx153_0, hx153_1, hx153_2, hx153_3, hx153_4, hx153_5, hl153_5, hi153_5⟩ := at_T40 HR0.out t152 p153 q153; obtain rfl : ad149 = ad153 := (by injection e153); have HR153_5 := ak hi153_5; have HC153_5 := ak hl153_5; clear hi153_5 hl153_5; replace p153 := eq_true p153; replace q153 := eq_true q153) | (go_at_call 34; (with_reducible refine (spec_l1In.calls ((rd_T40 l0 a1).f3) 0 (wrap64 (((rd_T40 l0 t152).f2) - 1)) t154 _ A14.out).mono ?_); rintro e w' ⟨rfl, ⟨nd, rfl⟩⟩; (try first | exact ⟨rfl, _, World.drewN_drewN _ _ _⟩ | exact ⟨rfl, _, Eq.trans (World.drewN_drewN _ _ _) (congrArg (World.drewN _) (Nat.add_assoc _ _ _))⟩))))
          go_ret; exact ⟨c5_3, c5_2⟩
         ·rw [if_neg c13] at H
          exact absurd H (by simp)
        ·rw [if_neg c12] at H
         exact absurd H (by simp)
       ·rw [if_neg c11] at H
        have c11b0 : decide (0 ≤ t152) = false := decide_eq_false c11; clear c11; obtain rfl := Option.some.inj H; have p149 : 0 ≤ (a1 : Int) := of_decide_eq_true d5_1; have q149 : a1 < (l0.length : Int) := of_decide_eq_true d5_1; obtain ⟨ad149, A149_5, c149_5, e149, hx149_0, hx149_1, hx149_2, hx149_3, hx149_4, hx149_5, hl149_5, hi149_5⟩ := at_T40 HR0.out a1 p149 q149
        cases e149
        have HR149_5 := ak hi149_5; have HC149_5 := ak hl149_5; clear hi149_5 hl149_5; replace p149 := eq_true p149; replace q149 := eq_true q149; go_enter Tryz.func39, Tryz.ntmps39; go_wp2_with (first | (go_at_call 34; (with_reducible refine (spec_l1In.calls ((rd_T40 l0 a1).f2) 0 160 true _ A8.out).mono ?_); rintro e w' ⟨rfl, ⟨nd, rfl⟩⟩; (try first | exact ⟨rfl, _, World.drewN_drewN _ _ _⟩ | exact ⟨rfl, _, Eq.trans (World.drewN_drewN _ _ _) (congrArg (World.drewN _) (Nat.add_assoc _ _ _))⟩)) | (go_at_call 62; (with_reducible refine (spec_l4Around.calls k _ _ l0 a1 ((rd_T40 l0 a1).f2) t152 _ ?side1 ?side2 A10.out).mono ?_); (case side1 => exact c5_1); (case side2 => exact HC0.out); rintro e w' ⟨rfl, ⟨nd, rfl⟩⟩; (try first | exact ⟨rfl, _, World.drewN_drewN _ _ _⟩ | exact ⟨rfl, _, Eq.trans (World.drewN_drewN _ _ _) (congrArg (World.drewN _) (Nat.add_assoc _ _ _))⟩)))
        repeat (go_quiet (first | (go_at_call 34; (with_reducible refine (spec_l1In.calls ((rd_T40 l0 a1).f2) 0 160 true _ A8.out).mono ?_); rintro e w' ⟨rfl, ⟨nd, rfl⟩⟩; (try first | exact ⟨rfl, _, World.drewN_drewN _ _ _⟩ | exact ⟨rfl, _, Eq.trans (World.drewN_drewN _ _ _) (congrArg (World.drewN _) (Nat.add_assoc _ _ _))⟩)) | (go_at_call 62; (with_reducible refine (spec_l4Around.calls k _ _ l0 a1 ((rd_T40 l0 a1).f2) t152 _ ?side1 ?side2 A10.out).mono ?_); (case side1 => exact c5_1); (case side2 => exact HC0.out); rintro e w' ⟨rfl, ⟨nd, rfl⟩⟩; (try first | exact ⟨rfl, _, World.drewN_drewN _ _ _⟩ | exact ⟨rfl, _, Eq.trans (World.drewN_drewN _ _ _) (congrArg (World.drewN _) (Nat.add_assoc _ _ _))⟩))); try go_wp2_with (first | (go_at_call 34; (with_reducible refine (spec_l1In.calls ((rd_T40 l0 a1).f2) 0 160 true _ A8.out).mono ?_); rintro e w' ⟨rfl, ⟨nd, rfl⟩⟩; (try first | exact ⟨rfl, _, World.drewN_drewN _ _ _⟩ | exact ⟨rfl, _, Eq.trans (World.drewN_drewN _ _ _) (congrArg (World.drewN _) (Nat.add_assoc _ _ _))⟩)) | (go_at_call 62; (with_reducible refine (spec_l4Around.calls k _ _ l0 a1 ((rd_T40 l0 a1).f2) t152 _ ?side1 ?side2 A10.out).mono ?_); (case side1 => exact c5_1); (case side2 => exact HC0.out); rintro e w' ⟨rfl, ⟨nd, rfl⟩⟩; (try first | exact ⟨rfl, _, World.drewN_drewN _ _ _⟩ | exact ⟨rfl, _, Eq.trans (World.drewN_drewN _ _ _) (congrArg (World.drewN _) (Nat.add_assoc _ _ _))⟩))))
        go_ret; exact ⟨c5_3, c5_2⟩
      ·replace c9 := Bool.eq_false_iff.mpr c9
       subst c9
       rw [if_neg (show ¬ (false = true) by decide)] at H; obtain rfl := Option.some.inj H; have p149 : 0 ≤ (a1 : Int) := of_decide_eq_true d5_1; have q149 : a1 < (l0.length : Int) := of_decide_eq_true d5_1; obtain ⟨ad149, A149_5, c149_5, e149, hx149_0, hx149_1, hx149_2, hx149_3, hx149_4, hx149_5, hl149_5, hi149_5⟩ := at_T40 HR0.out a1 p149 q149
       cases e149
       have HR149_5 := ak hi149_5; have HC149_5 := ak hl149_5; clear hi149_5 hl149_5; replace p149 := eq_true p149; replace q149 := eq_true q149; go_enter Tryz.func39, Tryz.ntmps39; go_wp2_with (first | (go_at_call 34; (with_reducible refine (spec_l1In.calls ((rd_T40 l0 a1).f2) 0 160 false _ A8.out).mono ?_); rintro e w' ⟨rfl, ⟨nd, rfl⟩⟩; (try first | exact ⟨rfl, _, World.drewN_drewN _ _ _⟩ | exact ⟨rfl, _, Eq.trans (World.drewN_drewN _ _ _) (congrArg (World.drewN _) (Nat.add_assoc _ _ _))⟩)))
       repeat (go_quiet (first | (go_at_call 34; (with_reducible refine (spec_l1In.calls ((rd_T40 l0 a1).f2) 0 160 false _ A8.out).mono ?_); rintro e w' ⟨rfl, ⟨nd, rfl⟩⟩; (try first | exact ⟨rfl, _, World.drewN_drewN _ _ _⟩ | exact ⟨rfl, _, Eq.trans (World.drewN_drewN _ _ _) (congrArg (World.drewN _) (Nat.add_assoc _ _ _))⟩))); try go_wp2_with (first | (go_at_call 34; (with_reducible refine (spec_l1In.calls ((rd_T40 l0 a1).f2) 0 160 false _ A8.out).mono ?_); rintro e w' ⟨rfl, ⟨nd, rfl⟩⟩; (try first | exact ⟨rfl, _, World.drewN_drewN _ _ _⟩ | exact ⟨rfl, _, Eq.trans (World.drewN_drewN _ _ _) (congrArg (World.drewN _) (Nat.add_assoc _ _ _))⟩))))
       go_ret; exact ⟨c5_3, c5_2⟩
     ·rw [if_neg c7] at H
      have c7b0 : (((rd_T40 l0 a1).f0) == 2) = false := beq_eq_false_iff_ne.mpr c7; have c7b1 : (((rd_T40 l0 a1).f0) != 2) = true := bne_iff_ne.mpr c7; obtain rfl := Option.some.inj H; have p149 : 0 ≤ (a1 : Int) := of_decide_eq_true d5_1; have q149 : a1 < (l0.length : Int) := of_decide_eq_true d5_1; obtain ⟨ad149, A149_5, c149_5, e149, hx149_0, hx149_1, hx149_2, hx149_3, hx149_4, hx149_5, hl149_5, hi149_5⟩ := at_T40 HR0.out a1 p149 q149
      cases e149
      have HR149_5 := ak hi149_5; have HC149_5 := ak hl149_5; clear hi149_5 hl149_5; replace p149 := eq_true p149; replace q149 := eq_true q149; go_enter Tryz.func39, Tryz.ntmps39; go_wp2
      repeat (go_quiet (fail); try go_wp2)
      go_ret; exact ⟨c5_3, c5_2⟩
   ·rw [if_neg c4] at H
    exact absurd H (by simp)
  ·rw [if_neg c3] at H
   exact absurd H (by simp)

end Go.Proofs.YtgnenhehcdekkadGreatDoor.A
