/- Walks of the program's functions: each Go function's answer as a plain Lean function, and that the call comes to it. Written by a program. Conditions: those in each theorem's own head. -/
import Derived.Test.YteiokhfikbndbaaGreatDoorA0
namespace Go.Proofs.YteiokhfikbndbaaGreatDoor.A
open Go.RowKit Go.Proofs.YteiokhfikbndbaaGreatDoorW.PrintWords Go.Proofs.YteiokhfikbndbaaGreatDoorW.PrintLast Go.Proofs.YteiokhfikbndbaaGreatDoorW.PrintMore
attribute [local go_sem] max2_int min2_int max_two min_two max_three min_three max_four min_four   -- for this text's walks alone
set_option linter.unusedVariables false
set_option linter.unusedSimpArgs false

theorem d4_1 {p : Prop} (h : p := by first | (with_reducible assumption) | assumption) : p := h
theorem d4_2 {p : Prop} (h : p := by first | rfl | (simp; done) | (simp [*]; done) | (simp [ne_nil_b, eq_nil_b]; done)) : p := h
theorem c4_1 {p : Prop} (h : p := by repeat (first | exact Drawn0.refl _ | apply Drawn0.step)) : p := h
theorem c4_2 {p : Prop} (h : p := by first | rfl | (simp; done) | (simp [*]; done) | (simp [ne_nil_b, eq_nil_b]; done)) : p := h
set_option maxHeartbeats 8000000
set_option maxRecDepth 100000

/-! ### spec_l2Skip: function 58 -/
mutual
def spec_l2Skip.l0 : Nat → ByteArray → Int → Option (Int)
  | 0, _, _ => none
  | k + 1, x0, x1 => if x1 < (x0.size : Int) then (if 0 ≤ x1 then (if (bt x0 x1) = 59 then (spec_l2Skip.l1 k x0 x1) else (if (bt x0 x1) = 32 then (spec_l2Skip.l0 k x0 (wrap64 (x1 + 1))) else (if (bt x0 x1) = 10 then (spec_l2Skip.l0 k x0 (wrap64 (x1 + 1))) else (some x1)))) else (none)) else (some x1)
def spec_l2Skip.l1 : Nat → ByteArray → Int → Option (Int)
  | 0, _, _ => none
  | k + 1, x0, x1 => if x1 < (x0.size : Int) then (if 0 ≤ x1 then (if (bt x0 x1) = 10 then (spec_l2Skip.l0 k x0 x1) else (spec_l2Skip.l1 k x0 (wrap64 (x1 + 1)))) else (none)) else (spec_l2Skip.l0 k x0 x1)
end
def spec_l2Skip.f (k : Nat) (a0 : ByteArray) (a1 : Int) : Option (Int) := spec_l2Skip.l0 k a0 a1
theorem spec_l2Skip.mono_l : ∀ k, (∀ y0 y1, LeO (spec_l2Skip.l0 k y0 y1) (spec_l2Skip.l0 (k + 1) y0 y1)) ∧ (∀ y0 y1, LeO (spec_l2Skip.l1 k y0 y1) (spec_l2Skip.l1 (k + 1) y0 y1))
  | 0 => ⟨fun _ _ r h => by simp [spec_l2Skip.l0] at h, fun _ _ r h => by simp [spec_l2Skip.l1] at h⟩
  | k + 1 => by
    obtain ⟨ih0, ih1⟩ := spec_l2Skip.mono_l k; refine ⟨?_, ?_⟩
    all_goals
      intros
      first | unfold spec_l2Skip.l0 | unfold spec_l2Skip.l1
      repeat' first | (with_reducible first | apply ih0 | apply ih1 | exact LeO.refl _ | exact LeO.none _ | refine LeO.ite ?_ ?_ | refine LeO.bind ?_ (fun _ => ?_)) | apply ih0 | apply ih1 | exact LeO.none _ | refine LeO.ite ?_ ?_ | refine LeO.bind ?_ (fun _ => ?_)
theorem spec_l2Skip.mono : ∀ a0 a1 k, LeO (spec_l2Skip.f k a0 a1) (spec_l2Skip.f (k + 1) a0 a1) := by
  intro a0 a1 k; obtain ⟨ih0, ih1⟩ := spec_l2Skip.mono_l k; unfold spec_l2Skip.f
  repeat' first | (with_reducible first | apply ih0 | apply ih1 | exact LeO.refl _ | exact LeO.none _ | refine LeO.ite ?_ ?_ | refine LeO.bind ?_ (fun _ => ?_)) | apply ih0 | apply ih1 | exact LeO.none _ | refine LeO.ite ?_ ?_ | refine LeO.bind ?_ (fun _ => ?_)
theorem spec_l2Skip.calls (k : Nat) (a0 : ByteArray) (a1 : Int) (r : Int) (w : World) (h : spec_l2Skip.f k a0 a1 = some r) :
    Calls Tryz.prog 58 #[.string a0, .int .i64 a1] w fun e w' => e = .returned (.int .i64 r) ∧ Drawn0 w w' := by
  have H := h; clear h; unfold spec_l2Skip.f at H; have H' := ak H; clear H; go_enter Tryz.func58, Tryz.ntmps58; go_wp2; go_loopg [1] k (fun kq v1 w' => ∃ (x1_1 : Int), v1 = .int .i64 x1_1 ∧ Aside0 (spec_l2Skip.l0 kq a0 x1_1 = some r) ∧ Aside0 (kq ≤ k) ∧ Drawn0 w w')
  case atStart => exact ⟨(a1), d4_2, H', ⟨Nat.le_refl _⟩, c4_1⟩
  case round =>
   clear H'
   try clear p2
   obtain ⟨x1_1, rfl, HA, HK1, ⟨m1, rfl⟩⟩ := hrel
   cases gk with
   | zero => exact absurd HA.out (by simp [spec_l2Skip.l0])
   | succ k1 =>
    have H := HA.out; clear HA; simp only [spec_l2Skip.l0] at H; by_cases c3 : x1_1 < (a0.size : Int)
    ·rw [if_pos c3] at H
     have c3b0 : decide (x1_1 < (a0.size : Int)) = true := decide_eq_true c3; clear c3; by_cases c4 : 0 ≤ x1_1
     ·rw [if_pos c4] at H
      have c4b0 : decide (0 ≤ x1_1) = true := decide_eq_true c4; clear c4; by_cases c6 : (bt a0 x1_1) = 59
      ·rw [if_pos c6] at H
       have c6b0 : ((bt a0 x1_1) == 59) = true := beq_iff_eq.mpr c6; have c6b1 : ((bt a0 x1_1) != 59) = false := bne_eq_false_iff_eq.mpr c6; clear c6; have H' := ak H; clear H; have p5 : 0 ≤ (x1_1 : Int) := of_decide_eq_true d4_1; have q5 : x1_1 < (a0.size : Int) := of_decide_eq_true d4_1; have hx5 := bt_at a0 x1_1; replace p5 := eq_true p5; replace q5 := eq_true q5; go_wp2; go_loopg [1] k1 (fun kq v1 w' => ∃ (x1_2 : Int), v1 = .int .i64 x1_2 ∧ Aside0 (spec_l2Skip.l1 kq a0 x1_2 = some r) ∧ Aside0 (kq ≤ k1) ∧ Drawn0 w w')
       case atStart => exact ⟨(x1_1), d4_2, H', ⟨Nat.le_refl _⟩, c4_1⟩
       case round =>
        clear H'
        (try clear p2); (try clear c3); (try clear c3b0); (try clear c4); (try clear c4b0); (try clear c5); (try clear p5); (try clear q5); (try clear hx5); (try clear c6); (try clear c6b0); (try clear c6b1); (try clear p2); (try clear p5); (try clear q5)
        obtain ⟨x1_2, rfl, HA, HK2, ⟨m2, rfl⟩⟩ := hrel
        cases gk with
        | zero => exact absurd HA.out (by simp [spec_l2Skip.l1])
        | succ k2 =>
         have H := HA.out; clear HA; simp only [spec_l2Skip.l1] at H; by_cases c7 : x1_2 < (a0.size : Int)
         ·rw [if_pos c7] at H
          have c7b0 : decide (x1_2 < (a0.size : Int)) = true := decide_eq_true c7; clear c7; by_cases c8 : 0 ≤ x1_2
          ·rw [if_pos c8] at H
           have c8b0 : decide (0 ≤ x1_2) = true := decide_eq_true c8; clear c8; by_cases c10 : (bt a0 x1_2) = 10
           ·rw [if_pos c10] at H
            have c10b0 : ((bt a0 x1_2) == 10) = true := beq_iff_eq.mpr c10; have c10b1 : ((bt a0 x1_2) != 10) = false := bne_eq_false_iff_eq.mpr c10; clear c10; have H' := ak H; clear H; have p9 : 0 ≤ (x1_2 : Int) := of_decide_eq_true d4_1; have q9 : x1_2 < (a0.size : Int) := of_decide_eq_true d4_1; have hx9 := bt_at a0 x1_2; replace p9 := eq_true p9; replace q9 := eq_true q9; go_wp2; go_roundg k2
            case measure => have := HK1.out; have := HK2.out; omega
            case rel => exact ⟨(x1_2), d4_2, H', ⟨by have := HK1.out; have := HK2.out; omega⟩, c4_1⟩
           ·rw [if_neg c10] at H
            have c10b0 : ((bt a0 x1_2) == 10) = false := beq_eq_false_iff_ne.mpr c10; have c10b1 : ((bt a0 x1_2) != 10) = true := bne_iff_ne.mpr c10; have H' := ak H; clear H; have p9 : 0 ≤ (x1_2 : Int) := of_decide_eq_true d4_1; have q9 : x1_2 < (a0.size : Int) := of_decide_eq_true d4_1; have hx9 := bt_at a0 x1_2; replace p9 := eq_true p9; replace q9 := eq_true q9; go_wp2; go_roundg k2
            case measure => have := HK1.out; have := HK2.out; omega
            case rel => exact ⟨(wrap64 (x1_2 + 1)), d4_2, H', ⟨by have := HK1.out; have := HK2.out; omega⟩, c4_1⟩
          ·rw [if_neg c8] at H
           exact absurd H (by simp)
         ·rw [if_neg c7] at H
          have c7b0 : decide (x1_2 < (a0.size : Int)) = false := decide_eq_false c7; clear c7; have H' := ak H; clear H; go_wp2; go_roundg k2
          case measure => have := HK1.out; have := HK2.out; omega
          case rel => exact ⟨(x1_2), d4_2, H', ⟨by have := HK1.out; have := HK2.out; omega⟩, c4_1⟩
      ·rw [if_neg c6] at H
       have c6b0 : ((bt a0 x1_1) == 59) = false := beq_eq_false_iff_ne.mpr c6; have c6b1 : ((bt a0 x1_1) != 59) = true := bne_iff_ne.mpr c6; by_cases c12 : (bt a0 x1_1) = 32
       ·rw [if_pos c12] at H
        have c12b0 : ((bt a0 x1_1) == 32) = true := beq_iff_eq.mpr c12; have c12b1 : ((bt a0 x1_1) != 32) = false := bne_eq_false_iff_eq.mpr c12; clear c12; have H' := ak H; clear H; have p5 : 0 ≤ (x1_1 : Int) := of_decide_eq_true d4_1; have q5 : x1_1 < (a0.size : Int) := of_decide_eq_true d4_1; have hx5 := bt_at a0 x1_1; replace p5 := eq_true p5; replace q5 := eq_true q5; have p11 : 0 ≤ (x1_1 : Int) := of_decide_eq_true d4_1; have q11 : x1_1 < (a0.size : Int) := of_decide_eq_true d4_1; have hx11 := bt_at a0 x1_1; replace p11 := eq_true p11; replace q11 := eq_true q11; go_wp2; go_roundg k1
        case measure => have := HK1.out; omega
        case rel => exact ⟨(wrap64 (x1_1 + 1)), d4_2, H', ⟨by have := HK1.out; omega⟩, c4_1⟩
       ·rw [if_neg c12] at H
        have c12b0 : ((bt a0 x1_1) == 32) = false := beq_eq_false_iff_ne.mpr c12; have c12b1 : ((bt a0 x1_1) != 32) = true := bne_iff_ne.mpr c12; by_cases c14 : (bt a0 x1_1) = 10
        ·rw [if_pos c14] at H
         have c14b0 : ((bt a0 x1_1) == 10) = true := beq_iff_eq.mpr c14; have c14b1 : ((bt a0 x1_1) != 10) = false := bne_eq_false_iff_eq.mpr c14; clear c14; have H' := ak H; clear H; have p5 : 0 ≤ (x1_1 : Int) := of_decide_eq_true d4_1; have q5 : x1_1 < (a0.size : Int) := of_decide_eq_true d4_1; have hx5 := bt_at a0 x1_1; replace p5 := eq_true p5; replace q5 := eq_true q5; have p11 : 0 ≤ (x1_1 : Int) := of_decide_eq_true d4_1; have q11 : x1_1 < (a0.size : Int) := of_decide_eq_true d4_1; have hx11 := bt_at a0 x1_1; replace p11 := eq_true p11; replace q11 := eq_true q11; have p13 : 0 ≤ (x1_1 : Int) := of_decide_eq_true d4_1; have q13 : x1_1 < (a0.size : Int) := of_decide_eq_true d4_1; have hx13 := bt_at a0 x1_1; replace p13 := eq_true p13; replace q13 := eq_true q13; go_wp2; go_roundg k1
         case measure => have := HK1.out; omega
         case rel => exact ⟨(wrap64 (x1_1 + 1)), d4_2, H', ⟨by have := HK1.out; omega⟩, c4_1⟩
        ·rw [if_neg c14] at H
         have c14b0 : ((bt a0 x1_1) == 10) = false := beq_eq_false_iff_ne.mpr c14; have c14b1 : ((bt a0 x1_1) != 10) = true := bne_iff_ne.mpr c14; obtain rfl := Option.some.inj H; have p5 : 0 ≤ (x1_1 : Int) := of_decide_eq_true d4_1; have q5 : x1_1 < (a0.size : Int) := of_decide_eq_true d4_1; have hx5 := bt_at a0 x1_1; replace p5 := eq_true p5; replace q5 := eq_true q5; have p11 : 0 ≤ (x1_1 : Int) := of_decide_eq_true d4_1; have q11 : x1_1 < (a0.size : Int) := of_decide_eq_true d4_1; have hx11 := bt_at a0 x1_1; replace p11 := eq_true p11; replace q11 := eq_true q11; have p13 : 0 ≤ (x1_1 : Int) := of_decide_eq_true d4_1; have q13 : x1_1 < (a0.size : Int) := of_decide_eq_true d4_1; have hx13 := bt_at a0 x1_1; replace p13 := eq_true p13; replace q13 := eq_true q13; go_wp2; go_ret; exact ⟨c4_2, c4_1⟩
     ·rw [if_neg c4] at H
      exact absurd H (by simp)
    ·rw [if_neg c3] at H
     have c3b0 : decide (x1_1 < (a0.size : Int)) = false := decide_eq_false c3; clear c3; obtain rfl := Option.some.inj H; go_wp2; go_ret; exact ⟨c4_2, c4_1⟩

/-! ### spec_l2Mark: function 59 -/
def spec_l2Mark.f (a0 : Int) : Option (Int) := if a0 = 40 then (some 1) else (if a0 = 41 then (some 2) else (if a0 = 39 then (some 3) else (some 0)))
theorem spec_l2Mark.calls (a0 : Int) (r : Int) (w : World) (h : spec_l2Mark.f a0 = some r) :
    Calls Tryz.prog 59 #[.int .u8 a0] w fun e w' => e = .returned (.int .i64 r) ∧ Drawn0 w w' := by
  have H := h; clear h; unfold spec_l2Mark.f at H; by_cases c2 : a0 = 40
  ·rw [if_pos c2] at H
   have c2b0 : (a0 == 40) = true := beq_iff_eq.mpr c2; have c2b1 : (a0 != 40) = false := bne_eq_false_iff_eq.mpr c2; clear c2; obtain rfl := Option.some.inj H; go_enter Tryz.func59, Tryz.ntmps59; go_wp2; go_ret; exact ⟨c4_2, c4_1⟩
  ·rw [if_neg c2] at H
   have c2b0 : (a0 == 40) = false := beq_eq_false_iff_ne.mpr c2; have c2b1 : (a0 != 40) = true := bne_iff_ne.mpr c2; by_cases c3 : a0 = 41
   ·rw [if_pos c3] at H
    have c3b0 : (a0 == 41) = true := beq_iff_eq.mpr c3; have c3b1 : (a0 != 41) = false := bne_eq_false_iff_eq.mpr c3; clear c3; obtain rfl := Option.some.inj H; go_enter Tryz.func59, Tryz.ntmps59; go_wp2; go_ret; exact ⟨c4_2, c4_1⟩
   ·rw [if_neg c3] at H
    have c3b0 : (a0 == 41) = false := beq_eq_false_iff_ne.mpr c3; have c3b1 : (a0 != 41) = true := bne_iff_ne.mpr c3; by_cases c4 : a0 = 39
    ·rw [if_pos c4] at H
     have c4b0 : (a0 == 39) = true := beq_iff_eq.mpr c4; have c4b1 : (a0 != 39) = false := bne_eq_false_iff_eq.mpr c4; clear c4; obtain rfl := Option.some.inj H; go_enter Tryz.func59, Tryz.ntmps59; go_wp2; go_ret; exact ⟨c4_2, c4_1⟩
    ·rw [if_neg c4] at H
     have c4b0 : (a0 == 39) = false := beq_eq_false_iff_ne.mpr c4; have c4b1 : (a0 != 39) = true := bne_iff_ne.mpr c4; obtain rfl := Option.some.inj H; go_enter Tryz.func59, Tryz.ntmps59; go_wp2; go_ret; exact ⟨c4_2, c4_1⟩

/-! ### spec_l2End: function 60 -/
def spec_l2End.l0 : Nat → ByteArray → Int → Option (Int)
  | 0, _, _ => none
  | k + 1, x0, x1 => if x1 < (x0.size : Int) then (if 0 ≤ x1 then (if (bt x0 x1) = 32 then (some x1) else (if (bt x0 x1) = 10 then (some x1) else (if (bt x0 x1) = 59 then (some x1) else ((spec_l2Mark.f (bt x0 x1)).bind fun t169 => (if t169 = 0 then (spec_l2End.l0 k x0 (wrap64 (x1 + 1))) else (some x1)))))) else (none)) else (some x1)
def spec_l2End.f (k : Nat) (a0 : ByteArray) (a1 : Int) : Option (Int) := spec_l2End.l0 k a0 a1
theorem spec_l2End.mono_l : ∀ k, (∀ y0 y1, LeO (spec_l2End.l0 k y0 y1) (spec_l2End.l0 (k + 1) y0 y1))
  | 0 => fun _ _ r h => by simp [spec_l2End.l0] at h
  | k + 1 => by
    have ih0 := spec_l2End.mono_l k
    · intro y0 y1
      unfold spec_l2End.l0
      repeat' first | (with_reducible first | apply ih0 | exact LeO.refl _ | exact LeO.none _ | refine LeO.ite ?_ ?_ | refine LeO.bind ?_ (fun _ => ?_)) | apply ih0 | exact LeO.none _ | refine LeO.ite ?_ ?_ | refine LeO.bind ?_ (fun _ => ?_)
theorem spec_l2End.mono : ∀ a0 a1 k, LeO (spec_l2End.f k a0 a1) (spec_l2End.f (k + 1) a0 a1) := by
  intro a0 a1 k; have ih0 := spec_l2End.mono_l k; unfold spec_l2End.f
  repeat' first | (with_reducible first | apply ih0 | exact LeO.refl _ | exact LeO.none _ | refine LeO.ite ?_ ?_ | refine LeO.bind ?_ (fun _ => ?_)) | apply ih0 | exact LeO.none _ | refine LeO.ite ?_ ?_ | refine LeO.bind ?_ (fun _ => ?_)
theorem spec_l2End.calls (k : Nat) (a0 : ByteArray) (a1 : Int) (r : Int) (w : World) (h : spec_l2End.f k a0 a1 = some r) :
    Calls Tryz.prog 60 #[.string a0, .int .i64 a1] w fun e w' => e = .returned (.int .i64 r) ∧ Drawn0 w w' := by
  have H := h; clear h; unfold spec_l2End.f at H; have H' := ak H; clear H; go_enter Tryz.func60, Tryz.ntmps60; go_wp2; go_loopg [1] k (fun kq v1 w' => ∃ (x1_1 : Int), v1 = .int .i64 x1_1 ∧ Aside0 (spec_l2End.l0 kq a0 x1_1 = some r) ∧ Aside0 (kq ≤ k) ∧ Drawn0 w w')
  case atStart => exact ⟨(a1), d4_2, H', ⟨Nat.le_refl _⟩, c4_1⟩
  case round =>
   clear H'
   try clear p2
   obtain ⟨x1_1, rfl, HA, HK1, ⟨m1, rfl⟩⟩ := hrel
   cases gk with
   | zero => exact absurd HA.out (by simp [spec_l2End.l0])
   | succ k1 =>
    have H := HA.out; clear HA; simp only [spec_l2End.l0] at H; by_cases c3 : x1_1 < (a0.size : Int)
    ·rw [if_pos c3] at H
     have c3b0 : decide (x1_1 < (a0.size : Int)) = true := decide_eq_true c3; clear c3; by_cases c4 : 0 ≤ x1_1
     ·rw [if_pos c4] at H
      have c4b0 : decide (0 ≤ x1_1) = true := decide_eq_true c4; clear c4; by_cases c6 : (bt a0 x1_1) = 32
      ·rw [if_pos c6] at H
       have c6b0 : ((bt a0 x1_1) == 32) = true := beq_iff_eq.mpr c6; have c6b1 : ((bt a0 x1_1) != 32) = false := bne_eq_false_iff_eq.mpr c6; clear c6; obtain rfl := Option.some.inj H; have p5 : 0 ≤ (x1_1 : Int) := of_decide_eq_true d4_1; have q5 : x1_1 < (a0.size : Int) := of_decide_eq_true d4_1; have hx5 := bt_at a0 x1_1; replace p5 := eq_true p5; replace q5 := eq_true q5; go_wp2; go_ret; exact ⟨c4_2, c4_1⟩
      ·rw [if_neg c6] at H
       have c6b0 : ((bt a0 x1_1) == 32) = false := beq_eq_false_iff_ne.mpr c6; have c6b1 : ((bt a0 x1_1) != 32) = true := bne_iff_ne.mpr c6; by_cases c8 : (bt a0 x1_1) = 10
       ·rw [if_pos c8] at H
        have c8b0 : ((bt a0 x1_1) == 10) = true := beq_iff_eq.mpr c8; have c8b1 : ((bt a0 x1_1) != 10) = false := bne_eq_false_iff_eq.mpr c8; clear c8; obtain rfl := Option.some.inj H; have p5 : 0 ≤ (x1_1 : Int) := of_decide_eq_true d4_1; have q5 : x1_1 < (a0.size : Int) := of_decide_eq_true d4_1; have hx5 := bt_at a0 x1_1; replace p5 := eq_true p5; replace q5 := eq_true q5; have p7 : 0 ≤ (x1_1 : Int) := of_decide_eq_true d4_1; have q7 : x1_1 < (a0.size : Int) := of_decide_eq_true d4_1; have hx7 := bt_at a0 x1_1; replace p7 := eq_true p7; replace q7 := eq_true q7; go_wp2; go_ret; exact ⟨c4_2, c4_1⟩
       ·rw [if_neg c8] at H
        have c8b0 : ((bt a0 x1_1) == 10) = false := beq_eq_false_iff_ne.mpr c8; have c8b1 : ((bt a0 x1_1) != 10) = true := bne_iff_ne.mpr c8; by_cases c10 : (bt a0 x1_1) = 59
        ·rw [if_pos c10] at H
         have c10b0 : ((bt a0 x1_1) == 59) = true := beq_iff_eq.mpr c10; have c10b1 : ((bt a0 x1_1) != 59) = false := bne_eq_false_iff_eq.mpr c10; clear c10; obtain rfl := Option.some.inj H; have p5 : 0 ≤ (x1_1 : Int) := of_decide_eq_true d4_1; have q5 : x1_1 < (a0.size : Int) := of_decide_eq_true d4_1; have hx5 := bt_at a0 x1_1; replace p5 := eq_true p5; replace q5 := eq_true q5; have p7 : 0 ≤ (x1_1 : Int) := of_decide_eq_true d4_1; have q7 : x1_1 < (a0.size : Int) := of_decide_eq_true d4_1; have hx7 := bt_at a0 x1_1; replace p7 := eq_true p7; replace q7 := eq_true q7; have p9 : 0 ≤ (x1_1 : Int) := of_decide_eq_true d4_1; have q9 : x1_1 < (a0.size : Int) := of_decide_eq_true d4_1; have hx9 := bt_at a0 x1_1; replace p9 := eq_true p9; replace q9 := eq_true q9; go_wp2; go_ret; exact ⟨c4_2, c4_1⟩
        ·rw [if_neg c10] at H
         have c10b0 : ((bt a0 x1_1) == 59) = false := beq_eq_false_iff_ne.mpr c10; have c10b1 : ((bt a0 x1_1) != 59) = true := bne_iff_ne.mpr c10; replace H := Option.bind_eq_some_iff.mp H; obtain ⟨t169, A120, H⟩ := H; (try dsimp -simprocs only at H); have A12 := ak A120; clear A120; by_cases c13 : t169 = 0
         ·rw [if_pos c13] at H
          have c13b0 : (t169 == 0) = true := beq_iff_eq.mpr c13; have c13b1 : (t169 != 0) = false := bne_eq_false_iff_eq.mpr c13; clear c13; have H' := ak H; clear H; have p5 : 0 ≤ (x1_1 : Int) := of_decide_eq_true d4_1; have q5 : x1_1 < (a0.size : Int) := of_decide_eq_true d4_1; have hx5 := bt_at a0 x1_1; replace p5 := eq_true p5; replace q5 := eq_true q5; have p7 : 0 ≤ (x1_1 : Int) := of_decide_eq_true d4_1; have q7 : x1_1 < (a0.size : Int) := of_decide_eq_true d4_1; have hx7 := bt_at a0 x1_1; replace p7 := eq_true p7; replace q7 := eq_true q7; have p9 : 0 ≤ (x1_1 : Int) := of_decide_eq_true d4_1; have q9 : x1_1 < (a0.size : Int) := of_decide_eq_true d4_1; have hx9 := bt_at a0 x1_1; replace p9 := eq_true p9; replace q9 := eq_true q9; have p11 : 0 ≤ (x1_1 : Int) := of_decide_eq_true d4_1; have q11 : x1_1 < (a0.size : Int) := of_decide_eq_true d4_1; have hx11 := bt_at a0 x1_1; replace p11 := eq_true p11; replace q11 := eq_true q11; go_wp2_with (first | (go_at_call 59; (with_reducible refine (spec_l2Mark.calls (bt a0 x1_1) t169 _ A12.out).mono ?_); rintro e w' ⟨rfl, ⟨nd, rfl⟩⟩)); go_roundg k1
          case measure => have := HK1.out; omega
          case rel => exact ⟨(wrap64 (x1_1 + 1)), d4_2, H', ⟨by have := HK1.out; omega⟩, c4_1⟩
         ·rw [if_neg c13] at H
          have c13b0 : (t169 == 0) = false := beq_eq_false_iff_ne.mpr c13; have c13b1 : (t169 != 0) = true := bne_iff_ne.mpr c13; obtain rfl := Option.some.inj H; have p5 : 0 ≤ (x1_1 : Int) := of_decide_eq_true d4_1; have q5 : x1_1 < (a0.size : Int) := of_decide_eq_true d4_1; have hx5 := bt_at a0 x1_1; replace p5 := eq_true p5; replace q5 := eq_true q5; have p7 : 0 ≤ (x1_1 : Int) := of_decide_eq_true d4_1; have q7 : x1_1 < (a0.size : Int) := of_decide_eq_true d4_1; have hx7 := bt_at a0 x1_1; replace p7 := eq_true p7; replace q7 := eq_true q7; have p9 : 0 ≤ (x1_1 : Int) := of_decide_eq_true d4_1; have q9 : x1_1 < (a0.size : Int) := of_decide_eq_true d4_1; have hx9 := bt_at a0 x1_1; replace p9 := eq_true p9; replace q9 := eq_true q9; have p11 : 0 ≤ (x1_1 : Int) := of_decide_eq_true d4_1; have q11 : x1_1 < (a0.size : Int) := of_decide_eq_true d4_1; have hx11 := bt_at a0 x1_1; replace p11 := eq_true p11; replace q11 := eq_true q11; go_wp2_with (first | (go_at_call 59; (with_reducible refine (spec_l2Mark.calls (bt a0 x1_1) t169 _ A12.out).mono ?_); rintro e w' ⟨rfl, ⟨nd, rfl⟩⟩)); go_ret; exact ⟨c4_2, c4_1⟩
     ·rw [if_neg c4] at H
      exact absurd H (by simp)
    ·rw [if_neg c3] at H
     have c3b0 : decide (x1_1 < (a0.size : Int)) = false := decide_eq_false c3; clear c3; obtain rfl := Option.some.inj H; go_wp2; go_ret; exact ⟨c4_2, c4_1⟩

/-! ### spec_l1In: function 67 -/
def spec_l1In.f (a0 : Int) (a1 : Int) (a2 : Int) : Option (Bool) := if a0 ≥ a1 then (some (decide (a0 ≤ a2))) else (some false)
theorem spec_l1In.calls (a0 : Int) (a1 : Int) (a2 : Int) (r : Bool) (w : World) (h : spec_l1In.f a0 a1 a2 = some r) :
    Calls Tryz.prog 67 #[.int .i64 a0, .int .i64 a1, .int .i64 a2] w fun e w' => e = .returned (.bool r) ∧ Drawn0 w w' := by
  have H := h; clear h; unfold spec_l1In.f at H; by_cases c4 : a0 ≥ a1
  ·rw [if_pos c4] at H
   have c4b0 : decide (a1 ≤ a0) = true := decide_eq_true c4; clear c4; obtain rfl := Option.some.inj H; go_enter Tryz.func67, Tryz.ntmps67; go_wp2; go_ret; exact ⟨c4_2, c4_1⟩
  ·rw [if_neg c4] at H
   have c4b0 : decide (a1 ≤ a0) = false := decide_eq_false c4; clear c4; obtain rfl := Option.some.inj H; go_enter Tryz.func67, Tryz.ntmps67; go_wp2; go_ret; exact ⟨c4_2, c4_1⟩

/-! ### spec_l2Byte: function 110 -/
mutual
def spec_l2Byte.j0 : Nat → Int → Bool → Option (Bool)
  | 0, _, _ => none
  | k + 1, x0, x10 => if x10 = true then (some true) else (spec_l2Byte.l0 k x0 (⟨#[43, 45, 42, 47, 60, 61, 63, 33]⟩ : ByteArray) 0)
def spec_l2Byte.l0 : Nat → Int → ByteArray → Int → Option (Bool)
  | 0, _, _, _ => none
  | k + 1, x0, x3, x4 => if x4 < (x3.size : Int) then (if 0 ≤ x4 then (if (bt x3 x4) = x0 then (some true) else (spec_l2Byte.l0 k x0 x3 (wrap64 (x4 + 1)))) else (none)) else (some false)
end
def spec_l2Byte.f (k : Nat) (a0 : Int) : Option (Bool) := if a0 ≥ 97 then (spec_l2Byte.j0 k a0 (decide (a0 ≤ 122))) else (spec_l2Byte.j0 k a0 false)
theorem spec_l2Byte.mono_l : ∀ k, (∀ y0 y1, LeO (spec_l2Byte.j0 k y0 y1) (spec_l2Byte.j0 (k + 1) y0 y1)) ∧ (∀ y0 y1 y2, LeO (spec_l2Byte.l0 k y0 y1 y2) (spec_l2Byte.l0 (k + 1) y0 y1 y2))
  | 0 => ⟨fun _ _ r h => by simp [spec_l2Byte.j0] at h, fun _ _ _ r h => by simp [spec_l2Byte.l0] at h⟩
  | k + 1 => by
    obtain ⟨ih0, ih1⟩ := spec_l2Byte.mono_l k; refine ⟨?_, ?_⟩
    all_goals
      intros
      first | unfold spec_l2Byte.j0 | unfold spec_l2Byte.l0
      repeat' first | (with_reducible first | apply ih0 | apply ih1 | exact LeO.refl _ | exact LeO.none _ | refine LeO.ite ?_ ?_ | refine LeO.bind ?_ (fun _ => ?_)) | apply ih0 | apply ih1 | exact LeO.none _ | refine LeO.ite ?_ ?_ | refine LeO.bind ?_ (fun _ => ?_)
theorem spec_l2Byte.mono : ∀ a0 k, LeO (spec_l2Byte.f k a0) (spec_l2Byte.f (k + 1) a0) := by
  intro a0 k; obtain ⟨ih0, ih1⟩ := spec_l2Byte.mono_l k; unfold spec_l2Byte.f
  repeat' first | (with_reducible first | apply ih0 | apply ih1 | exact LeO.refl _ | exact LeO.none _ | refine LeO.ite ?_ ?_ | refine LeO.bind ?_ (fun _ => ?_)) | apply ih0 | apply ih1 | exact LeO.none _ | refine LeO.ite ?_ ?_ | refine LeO.bind ?_ (fun _ => ?_)
theorem spec_l2Byte.calls (k : Nat) (a0 : Int) (r : Bool) (w : World) (h : spec_l2Byte.f k a0 = some r) :
    Calls Tryz.prog 110 #[.int .u8 a0] w fun e w' => e = .returned (.bool r) ∧ Drawn0 w w' := by
  have H := h; clear h; unfold spec_l2Byte.f at H; have HC2 := ak H; clear H; go_enter Tryz.func110, Tryz.ntmps110; go_upto_region 1 with (fail); go_cut [10] (fun v10 wc => ∃ (kq : Nat) (x10_1 : Bool), v10 = .bool x10_1 ∧ Aside0 (spec_l2Byte.j0 kq a0 x10_1 = some r) ∧ Aside0 (kq ≤ k) ∧ Drawn0 w wc)
  case first =>
   have H := HC2.out; clear HC2; by_cases c3 : a0 ≥ 97
   ·rw [if_pos c3] at H
    have c3b0 : decide (97 ≤ a0) = true := decide_eq_true c3; clear c3
    (first | rw [c3b0] | (simp only [i64_w, i32_w]; rw [c3b0]) | skip)
    have H' := ak H; clear H; go_wp2; go_meet
    case rel => exact ⟨_, (decide (a0 ≤ 122)), d4_2, H', ⟨by first | omega | exact Nat.le_refl _⟩, c4_1⟩
   ·rw [if_neg c3] at H
    have c3b0 : decide (97 ≤ a0) = false := decide_eq_false c3; clear c3
    (first | rw [c3b0] | (simp only [i64_w, i32_w]; rw [c3b0]) | skip)
    have H' := ak H; clear H; go_wp2; go_meet
    case rel => exact ⟨_, (false), d4_2, H', ⟨by first | omega | exact Nat.le_refl _⟩, c4_1⟩
  case rest =>
   clear HC2
   try clear c1
   obtain ⟨kq, x10_1, rfl, HA, HJ1, ⟨mc1, rfl⟩⟩ := hcut
   cases kq with
   | zero => exact absurd HA.out (by simp [spec_l2Byte.j0])
   | succ kj1 =>
    have H := HA.out; clear HA; simp only [spec_l2Byte.j0] at H; by_cases c4 : x10_1 = true
    ·subst c4
     rw [if_pos rfl] at H; obtain rfl := Option.some.inj H; go_wp2; go_ret; exact ⟨c4_2, c4_1⟩
    ·replace c4 := Bool.eq_false_iff.mpr c4
     subst c4
     rw [if_neg (show ¬ (false = true) by decide)] at H; have H' := ak H; clear H; go_wp2; go_loopg [4] kj1 (fun kq v4 w' => ∃ (x4_2 : Int), v4 = .int .i64 x4_2 ∧ Aside0 (spec_l2Byte.l0 kq a0 (⟨#[43, 45, 42, 47, 60, 61, 63, 33]⟩ : ByteArray) x4_2 = some r) ∧ Aside0 (kq ≤ kj1) ∧ Drawn0 w w')
     case atStart => exact ⟨(0), d4_2, H', ⟨Nat.le_refl _⟩, c4_1⟩
     case round =>
      clear H'
      (try clear c1); (try clear p2); (try clear c3); (try clear c3b0); (try clear c4)
      obtain ⟨x4_2, rfl, HA, HK2, ⟨m2, rfl⟩⟩ := hrel
      cases gk with
      | zero => exact absurd HA.out (by simp [spec_l2Byte.l0])
      | succ k2 =>
       have H := HA.out; clear HA; simp only [spec_l2Byte.l0] at H; by_cases c5 : x4_2 < ((⟨#[43, 45, 42, 47, 60, 61, 63, 33]⟩ : ByteArray).size : Int)
       ·rw [if_pos c5] at H
        have c5b0 : decide (x4_2 < ((⟨#[43, 45, 42, 47, 60, 61, 63, 33]⟩ : ByteArray).size : Int)) = true := decide_eq_true c5; have c5b1 : decide (x4_2 < (8 : Int)) = true := decide_eq_true c5; clear c5; by_cases c6 : 0 ≤ x4_2
        ·rw [if_pos c6] at H
         have c6b0 : decide (0 ≤ x4_2) = true := decide_eq_true c6; clear c6; by_cases c8 : (bt (⟨#[43, 45, 42, 47, 60, 61, 63, 33]⟩ : ByteArray) x4_2) = a0
         ·rw [if_pos c8] at H
          have c8b0 : ((bt (⟨#[43, 45, 42, 47, 60, 61, 63, 33]⟩ : ByteArray) x4_2) == a0) = true := beq_iff_eq.mpr c8; have c8b1 : ((bt (⟨#[43, 45, 42, 47, 60, 61, 63, 33]⟩ : ByteArray) x4_2) != a0) = false := bne_eq_false_iff_eq.mpr c8; clear c8; obtain rfl := Option.some.inj H; have p7 : 0 ≤ (x4_2 : Int) := of_decide_eq_true d4_1; have q7 : x4_2 < (8 : Int) := of_decide_eq_true d4_1; have hx7 := bt_at (⟨#[43, 45, 42, 47, 60, 61, 63, 33]⟩ : ByteArray) x4_2; replace p7 := eq_true p7; replace q7 := eq_true q7; go_wp2; go_ret; exact ⟨c4_2, c4_1⟩
         ·rw [if_neg c8] at H
          have c8b0 : ((bt (⟨#[43, 45, 42, 47, 60, 61, 63, 33]⟩ : ByteArray) x4_2) == a0) = false := beq_eq_false_iff_ne.mpr c8; have c8b1 : ((bt (⟨#[43, 45, 42, 47, 60, 61, 63, 33]⟩ : ByteArray) x4_2) != a0) = true := bne_iff_ne.mpr c8; have H' := ak H; clear H; have p7 : 0 ≤ (x4_2 : Int) := of_decide_eq_true d4_1; have q7 : x4_2 < (8 : Int) := of_decide_eq_true d4_1; have hx7 := bt_at (⟨#[43, 45, 42, 47, 60, 61, 63, 33]⟩ : ByteArray) x4_2; replace p7 := eq_true p7; replace q7 := eq_true q7; go_wp2; go_roundg k2
          case measure => have := HJ1.out; have := HK2.out; omega
          case rel => exact ⟨(wrap64 (x4_2 + 1)), d4_2, H', ⟨by have := HJ1.out; have := HK2.out; omega⟩, c4_1⟩
        ·rw [if_neg c6] at H
         exact absurd H (by simp)
       ·rw [if_neg c5] at H
        have c5b0 : decide (x4_2 < ((⟨#[43, 45, 42, 47, 60, 61, 63, 33]⟩ : ByteArray).size : Int)) = false := decide_eq_false c5; have c5b1 : decide (x4_2 < (8 : Int)) = false := decide_eq_false c5; clear c5; obtain rfl := Option.some.inj H; go_wp2; go_ret; exact ⟨c4_2, c4_1⟩

/-! ### spec_l2Sym: function 91 -/
def spec_l2Sym.l0 : Nat → ByteArray → Int → Option (Bool)
  | 0, _, _ => none
  | k + 1, x0, x3 => if x3 < (x0.size : Int) then (if 0 ≤ x3 then ((spec_l2Byte.f k (bt x0 x3)).bind fun t170 => (if t170 = true then (spec_l2Sym.l0 k x0 (wrap64 (x3 + 1))) else (some false))) else (none)) else ((spec_l1In.f (x0.size : Int) 1 12).bind fun t171 => (some t171))
def spec_l2Sym.f (k : Nat) (a0 : ByteArray) : Option (Bool) := spec_l2Sym.l0 k a0 0
theorem spec_l2Sym.mono_l : ∀ k, (∀ y0 y1, LeO (spec_l2Sym.l0 k y0 y1) (spec_l2Sym.l0 (k + 1) y0 y1))
  | 0 => fun _ _ r h => by simp [spec_l2Sym.l0] at h
  | k + 1 => by
    have ih0 := spec_l2Sym.mono_l k
    · intro y0 y1
      unfold spec_l2Sym.l0
      repeat' first | (with_reducible first | apply ih0 | apply spec_l2Byte.mono | exact LeO.refl _ | exact LeO.none _ | refine LeO.ite ?_ ?_ | refine LeO.bind ?_ (fun _ => ?_)) | apply ih0 | apply spec_l2Byte.mono | exact LeO.none _ | refine LeO.ite ?_ ?_ | refine LeO.bind ?_ (fun _ => ?_)
theorem spec_l2Sym.mono : ∀ a0 k, LeO (spec_l2Sym.f k a0) (spec_l2Sym.f (k + 1) a0) := by
  intro a0 k; have ih0 := spec_l2Sym.mono_l k; unfold spec_l2Sym.f
  repeat' first | (with_reducible first | apply ih0 | apply spec_l2Byte.mono | exact LeO.refl _ | exact LeO.none _ | refine LeO.ite ?_ ?_ | refine LeO.bind ?_ (fun _ => ?_)) | apply ih0 | apply spec_l2Byte.mono | exact LeO.none _ | refine LeO.ite ?_ ?_ | refine LeO.bind ?_ (fun _ => ?_)
theorem spec_l2Sym.calls (k : Nat) (a0 : ByteArray) (r : Bool) (w : World) (h : spec_l2Sym.f k a0 = some r) :
    Calls Tryz.prog 91 #[.string a0] w fun e w' => e = .returned (.bool r) ∧ Drawn0 w w' := by
  have H := h; clear h; unfold spec_l2Sym.f at H; have H' := ak H; clear H; go_enter Tryz.func91, Tryz.ntmps91; go_wp2; go_loopg [3] k (fun kq v3 w' => ∃ (x3_1 : Int), v3 = .int .i64 x3_1 ∧ Aside0 (spec_l2Sym.l0 kq a0 x3_1 = some r) ∧ Aside0 (kq ≤ k) ∧ Drawn0 w w')
  case atStart => exact ⟨(0), d4_2, H', ⟨Nat.le_refl _⟩, c4_1⟩
  case round =>
   clear H'; obtain ⟨x3_1, rfl, HA, HK1, ⟨m1, rfl⟩⟩ := hrel
   cases gk with
   | zero => exact absurd HA.out (by simp [spec_l2Sym.l0])
   | succ k1 =>
    have H := HA.out; clear HA; simp only [spec_l2Sym.l0] at H; by_cases c2 : x3_1 < (a0.size : Int)
    ·rw [if_pos c2] at H
     have c2b0 : decide (x3_1 < (a0.size : Int)) = true := decide_eq_true c2; clear c2; by_cases c3 : 0 ≤ x3_1
     ·rw [if_pos c3] at H
      have c3b0 : decide (0 ≤ x3_1) = true := decide_eq_true c3; clear c3; replace H := Option.bind_eq_some_iff.mp H; obtain ⟨t170, A50, H⟩ := H; (try dsimp -simprocs only at H); have A5 := ak A50; clear A50; by_cases c6 : t170 = true
      ·subst c6
       rw [if_pos rfl] at H; have H' := ak H; clear H; have p4 : 0 ≤ (x3_1 : Int) := of_decide_eq_true d4_1; have q4 : x3_1 < (a0.size : Int) := of_decide_eq_true d4_1; have hx4 := bt_at a0 x3_1; replace p4 := eq_true p4; replace q4 := eq_true q4; go_wp2_with (first | ((with_reducible refine gate_callee (f := 110) rfl ?_); refine goesL_ (some 13) rfl rfl Tryz.func110 (by kernel_rfl) rfl #[.int .u8 (bt a0 x3_1)] rfl (by (try simp only [List.map_toArray, List.map_cons, List.map_nil]); first | done | rfl | (simp only [List.length_drop, List.length_take]; rfl)) ?_; (with_reducible refine (spec_l2Byte.calls k1 (bt a0 x3_1) true _ A5.out).mono ?_); rintro e w' ⟨rfl, ⟨nd, rfl⟩⟩; refine ⟨_, rfl, ?_⟩)); go_roundg k1
       case measure => have := HK1.out; omega
       case rel => exact ⟨(wrap64 (x3_1 + 1)), d4_2, H', ⟨by have := HK1.out; omega⟩, c4_1⟩
      ·replace c6 := Bool.eq_false_iff.mpr c6
       subst c6
       rw [if_neg (show ¬ (false = true) by decide)] at H; obtain rfl := Option.some.inj H; have p4 : 0 ≤ (x3_1 : Int) := of_decide_eq_true d4_1; have q4 : x3_1 < (a0.size : Int) := of_decide_eq_true d4_1; have hx4 := bt_at a0 x3_1; replace p4 := eq_true p4; replace q4 := eq_true q4; go_wp2_with (first | ((with_reducible refine gate_callee (f := 110) rfl ?_); refine goesL_ (some 13) rfl rfl Tryz.func110 (by kernel_rfl) rfl #[.int .u8 (bt a0 x3_1)] rfl (by (try simp only [List.map_toArray, List.map_cons, List.map_nil]); first | done | rfl | (simp only [List.length_drop, List.length_take]; rfl)) ?_; (with_reducible refine (spec_l2Byte.calls k1 (bt a0 x3_1) false _ A5.out).mono ?_); rintro e w' ⟨rfl, ⟨nd, rfl⟩⟩; refine ⟨_, rfl, ?_⟩)); go_ret; exact ⟨c4_2, c4_1⟩
     ·rw [if_neg c3] at H
      exact absurd H (by simp)
    ·rw [if_neg c2] at H
     have c2b0 : decide (x3_1 < (a0.size : Int)) = false := decide_eq_false c2; clear c2; replace H := Option.bind_eq_some_iff.mp H; obtain ⟨t171, A70, H⟩ := H; (try dsimp -simprocs only at H); have A7 := ak A70; clear A70; obtain rfl := Option.some.inj H; go_wp2_with (first | ((with_reducible refine gate_callee (f := 67) rfl ?_); refine goesL_ (some 17) rfl rfl Tryz.func67 (by kernel_rfl) rfl #[.int .i64 (a0.size : Int), .int .i64 1, .int .i64 12] rfl (by (try simp only [List.map_toArray, List.map_cons, List.map_nil]); first | done | rfl | (simp only [List.length_drop, List.length_take]; rfl)) ?_; (with_reducible refine (spec_l1In.calls (a0.size : Int) 1 12 t171 _ A7.out).mono ?_); rintro e w' ⟨rfl, ⟨nd, rfl⟩⟩; refine ⟨_, rfl, ?_⟩)); go_ret; exact ⟨c4_2, c4_1⟩

end Go.Proofs.YteiokhfikbndbaaGreatDoor.A
