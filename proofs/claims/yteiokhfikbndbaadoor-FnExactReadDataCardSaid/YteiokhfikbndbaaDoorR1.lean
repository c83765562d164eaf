/- Walks of the program's functions: each Go function's answer as a plain Lean function, and that the call comes to it. Written by a program. Conditions: those in each theorem's own head. -/
import Derived.Test.YteiokhfikbndbaaDoorR0
namespace Go.Proofs.YteiokhfikbndbaaDoor.R
open Go.RowKit Go.Proofs.YteiokhfikbndbaaDoorW.PrintWords Go.Proofs.YteiokhfikbndbaaDoorW.PrintLast Go.Proofs.YteiokhfikbndbaaDoorW.PrintMore
attribute [local go_sem] max2_int min2_int max_two min_two max_three min_three max_four min_four   -- for this text's walks alone
set_option linter.unusedVariables false
set_option linter.unusedSimpArgs false

theorem d1_1 {p : Prop} (h : p := by first | (with_reducible assumption) | assumption) : p := h
theorem d1_2 {p : Prop} (h : p := by first | rfl | (simp; done) | (simp [*]; done) | (simp [ne_nil_b, eq_nil_b]; done)) : p := h
theorem c1_1 {p : Prop} (h : p := by repeat (first | exact Drawn0.refl _ | apply Drawn0.step)) : p := h
theorem c1_2 {p : Prop} (h : p := by first | rfl | (simp; done) | (simp [*]; done) | (simp [ne_nil_b, eq_nil_b]; done)) : p := h
set_option maxHeartbeats 8000000
set_option maxRecDepth 100000

/-! ### spec_l2Skip: function 32 -/
mutual
def spec_l2Skip.l0 : Nat → ByteArray → Int → Option (Int)
  | 0, _, _ => none
  | k + 1, x0, x1 => if x1 < (x0.size : Int) then (if 0 ≤ x1 then (if (bt x0 x1) = 59 then (spec_l2Skip.l1 k x0 x1) else (if (bt x0 x1) = 32 then (spec_l2Skip.l0 k x0 (wrap64 (x1 + 1))) else (if (bt x0 x1) = 10 then (spec_l2Skip.l0 k x0 (wrap64 (x1 + 1))) else (some x1)))) else (none)) else (some x1)
def spec_l2Skip.l1 : Nat → ByteArray → Int → Option (Int)
  | 0, _, _ => none
  | k + 1, x0, x1 => if x1 < (x0.size : Int) then (if 0 ≤ x1 then (if (bt x0 x1) = 10 then (spec_l2Skip.l0 k x0 x1) else (spec_l2Skip.l1 k x0 (wrap64 (x1 + 1)))) else (none)) else (spec_l2Skip.l0 k x0 x1)
end
def spec_l2Skip.f (k : Nat) (a0 : ByteArray) (a1 : Int) : Option (Int) := spec_l2Skip.l0 k a0 a1
theorem spec_l2Skip.mono_l : ∀ k, (∀ y0 y1, LeO (spec_l2Skip.l0 k y0 y1) (spec_l2Skip.l0 (k + 1) y0 y1)) ∧ (∀ y0 y1, LeO (spec_l2Skip.l1 k y0 y1) (spec_l2Skip.l1 (k + 1) y0 y1))
  | 0 => ⟨fun _ _ r h => by simp [spec_l2Skip.l0] at h, fun _ _ r h => by simp [spec_l2Skip.l1] at h⟩
  | k + 1 => by
    obtain ⟨ih0, ih1⟩ := spec_l2Skip.mono_l k; refine ⟨?_, ?_⟩
    all_goals
      intros
      first | unfold spec_l2Skip.l0 | unfold spec_l2Skip.l1
      repeat' first | (with_reducible first | apply ih0 | apply ih1 | exact LeO.refl _ | exact LeO.none _ | refine LeO.ite ?_ ?_ | refine LeO.bind ?_ (fun _ => ?_)) | apply ih0 | apply ih1 | exact LeO.none _ | refine LeO.ite ?_ ?_ | refine LeO.bind ?_ (fun _ => ?_)
theorem spec_l2Skip.mono : ∀ a0 a1 k, LeO (spec_l2Skip.f k a0 a1) (spec_l2Skip.f (k + 1) a0 a1) := by
  intro a0 a1 k; obtain ⟨ih0, ih1⟩ := spec_l2Skip.mono_l k; unfold spec_l2Skip.f
  repeat' first | (with_reducible first | apply ih0 | apply ih1 | exact LeO.refl _ | exact LeO.none _ | refine LeO.ite ?_ ?_ | refine LeO.bind ?_ (fun _ => ?_)) | apply ih0 | apply ih1 | exact LeO.none _ | refine LeO.ite ?_ ?_ | refine LeO.bind ?_ (fun _ => ?_)
theorem spec_l2Skip.calls (k : Nat) (a0 : ByteArray) (a1 : Int) (r : Int) (w : World) (h : spec_l2Skip.f k a0 a1 = some r) :
    Calls Tryd.prog 32 #[.string a0, .int .i64 a1] w fun e w' => e = .returned (.int .i64 r) ∧ Drawn0 w w' := by
  have H := h; clear h; unfold spec_l2Skip.f at H; have H' := ak H; clear H; go_enter Tryd.func32, Tryd.ntmps32; go_wp2; go_loopg [1] k (fun kq v1 w' => ∃ (x1_1 : Int), v1 = .int .i64 x1_1 ∧ Aside0 (spec_l2Skip.l0 kq a0 x1_1 = some r) ∧ Aside0 (kq ≤ k) ∧ Drawn0 w w')
  case atStart => exact ⟨(a1), d1_2, H', ⟨Nat.le_refl _⟩, c1_1⟩
  case round =>
   clear H'
   try clear p2
   obtain ⟨x1_1, rfl, HA, HK1, ⟨m1, rfl⟩⟩ := hrel
   cases gk with
   | zero => exact absurd HA.out (by simp [spec_l2Skip.l0])
   | succ k1 =>
    have H := HA.out; clear HA; simp only [spec_l2Skip.l0] at H; by_cases c3 : x1_1 < (a0.size : Int)
    ·rw [if_pos c3] at H
     have c3b0 : decide (x1_1 < (a0.size : Int)) = true := decide_eq_true c3; clear c3; by_cases c4 : 0 ≤ x1_1
     ·rw [if_pos c4] at H
      have c4b0 : decide (0 ≤ x1_1) = true := decide_eq_true c4; clear c4; by_cases c6 : (bt a0 x1_1) = 59
      ·rw [if_pos c6] at H
       have c6b0 : ((bt a0 x1_1) == 59) = true := beq_iff_eq.mpr c6; have c6b1 : ((bt a0 x1_1) != 59) = false := bne_eq_false_iff_eq.mpr c6; clear c6; have H' := ak H; clear H; have p5 : 0 ≤ (x1_1 : Int) := of_decide_eq_true d1_1; have q5 : x1_1 < (a0.size : Int) := of_decide_eq_true d1_1; have hx5 := bt_at a0 x1_1; replace p5 := eq_true p5; replace q5 := eq_true q5; go_wp2; go_loopg [1] k1 (fun kq v1 w' => ∃ (x1_2 : Int), v1 = .int .i64 x1_2 ∧ Aside0 (spec_l2Skip.l1 kq a0 x1_2 = some r) ∧ Aside0 (kq ≤ k1) ∧ Drawn0 w w')
       case atStart => exact ⟨(x1_1), d1_2, H', ⟨Nat.le_refl _⟩, c1_1⟩
       case round =>
        clear H'
        (try clear p2); (try clear c3); (try clear c3b0); (try clear c4); (try clear c4b0); (try clear p5); (try clear q5); (try clear hx5); (try clear c6); (try clear c6b0); (try clear c6b1); (try clear p2); (try clear p5); (try clear q5)
        obtain ⟨x1_2, rfl, HA, HK2, ⟨m2, rfl⟩⟩ := hrel
        cases gk with
        | zero => exact absurd HA.out (by simp [spec_l2Skip.l1])
        | succ k2 =>
         have H := HA.out; clear HA; simp only [spec_l2Skip.l1] at H; by_cases c7 : x1_2 < (a0.size : Int)
         ·rw [if_pos c7] at H
          have c7b0 : decide (x1_2 < (a0.size : Int)) = true := decide_eq_true c7; clear c7; by_cases c8 : 0 ≤ x1_2
          ·rw [if_pos c8] at H
           have c8b0 : decide (0 ≤ x1_2) = true := decide_eq_true c8; clear c8; by_cases c10 : (bt a0 x1_2) = 10
           ·rw [if_pos c10] at H
            have c10b0 : ((bt a0 x1_2) == 10) = true := beq_iff_eq.mpr c10; have c10b1 : ((bt a0 x1_2) != 10) = false := bne_eq_false_iff_eq.mpr c10; clear c10; have H' := ak H; clear H; have p9 : 0 ≤ (x1_2 : Int) := of_decide_eq_true d1_1; have q9 : x1_2 < (a0.size : Int) := of_decide_eq_true d1_1; have hx9 := bt_at a0 x1_2; replace p9 := eq_true p9; replace q9 := eq_true q9; go_wp2; go_roundg k2
            case measure => have := HK1.out; have := HK2.out; omega
            case rel => exact ⟨(x1_2), d1_2, H', ⟨by have := HK1.out; have := HK2.out; omega⟩, c1_1⟩
           ·rw [if_neg c10] at H
            have c10b0 : ((bt a0 x1_2) == 10) = false := beq_eq_false_iff_ne.mpr c10; have c10b1 : ((bt a0 x1_2) != 10) = true := bne_iff_ne.mpr c10; have H' := ak H; clear H; have p9 : 0 ≤ (x1_2 : Int) := of_decide_eq_true d1_1; have q9 : x1_2 < (a0.size : Int) := of_decide_eq_true d1_1; have hx9 := bt_at a0 x1_2; replace p9 := eq_true p9; replace q9 := eq_true q9; go_wp2; go_roundg k2
            case measure => have := HK1.out; have := HK2.out; omega
            case rel => exact ⟨(wrap64 (x1_2 + 1)), d1_2, H', ⟨by have := HK1.out; have := HK2.out; omega⟩, c1_1⟩
          ·rw [if_neg c8] at H
           exact absurd H (by simp)
         ·rw [if_neg c7] at H
          have c7b0 : decide (x1_2 < (a0.size : Int)) = false := decide_eq_false c7; clear c7; have H' := ak H; clear H; go_wp2; go_roundg k2
          case measure => have := HK1.out; have := HK2.out; omega
          case rel => exact ⟨(x1_2), d1_2, H', ⟨by have := HK1.out; have := HK2.out; omega⟩, c1_1⟩
      ·rw [if_neg c6] at H
       have c6b0 : ((bt a0 x1_1) == 59) = false := beq_eq_false_iff_ne.mpr c6; have c6b1 : ((bt a0 x1_1) != 59) = true := bne_iff_ne.mpr c6; by_cases c12 : (bt a0 x1_1) = 32
       ·rw [if_pos c12] at H
        have c12b0 : ((bt a0 x1_1) == 32) = true := beq_iff_eq.mpr c12; have c12b1 : ((bt a0 x1_1) != 32) = false := bne_eq_false_iff_eq.mpr c12; clear c12; have H' := ak H; clear H; have p5 : 0 ≤ (x1_1 : Int) := of_decide_eq_true d1_1; have q5 : x1_1 < (a0.size : Int) := of_decide_eq_true d1_1; have hx5 := bt_at a0 x1_1; replace p5 := eq_true p5; replace q5 := eq_true q5; have p11 : 0 ≤ (x1_1 : Int) := of_decide_eq_true d1_1; have q11 : x1_1 < (a0.size : Int) := of_decide_eq_true d1_1; have hx11 := bt_at a0 x1_1; replace p11 := eq_true p11; replace q11 := eq_true q11; go_wp2; go_roundg k1
        case measure => have := HK1.out; omega
        case rel => exact ⟨(wrap64 (x1_1 + 1)), d1_2, H', ⟨by have := HK1.out; omega⟩, c1_1⟩
       ·rw [if_neg c12] at H
        have c12b0 : ((bt a0 x1_1) == 32) = false := beq_eq_false_iff_ne.mpr c12; have c12b1 : ((bt a0 x1_1) != 32) = true := bne_iff_ne.mpr c12; by_cases c14 : (bt a0 x1_1) = 10
        ·rw [if_pos c14] at H
         have c14b0 : ((bt a0 x1_1) == 10) = true := beq_iff_eq.mpr c14; have c14b1 : ((bt a0 x1_1) != 10) = false := bne_eq_false_iff_eq.mpr c14; clear c14; have H' := ak H; clear H; have p5 : 0 ≤ (x1_1 : Int) := of_decide_eq_true d1_1; have q5 : x1_1 < (a0.size : Int) := of_decide_eq_true d1_1; have hx5 := bt_at a0 x1_1; replace p5 := eq_true p5; replace q5 := eq_true q5; have p11 : 0 ≤ (x1_1 : Int) := of_decide_eq_true d1_1; have q11 : x1_1 < (a0.size : Int) := of_decide_eq_true d1_1; have hx11 := bt_at a0 x1_1; replace p11 := eq_true p11; replace q11 := eq_true q11; have p13 : 0 ≤ (x1_1 : Int) := of_decide_eq_true d1_1; have q13 : x1_1 < (a0.size : Int) := of_decide_eq_true d1_1; have hx13 := bt_at a0 x1_1; replace p13 := eq_true p13; replace q13 := eq_true q13; go_wp2; go_roundg k1
         case measure => have := HK1.out; omega
         case rel => exact ⟨(wrap64 (x1_1 + 1)), d1_2, H', ⟨by have := HK1.out; omega⟩, c1_1⟩
        ·rw [if_neg c14] at H
         have c14b0 : ((bt a0 x1_1) == 10) = false := beq_eq_false_iff_ne.mpr c14; have c14b1 : ((bt a0 x1_1) != 10) = true := bne_iff_ne.mpr c14; obtain rfl := Option.some.inj H; have p5 : 0 ≤ (x1_1 : Int) := of_decide_eq_true d1_1; have q5 : x1_1 < (a0.size : Int) := of_decide_eq_true d1_1; have hx5 := bt_at a0 x1_1; replace p5 := eq_true p5; replace q5 := eq_true q5; have p11 : 0 ≤ (x1_1 : Int) := of_decide_eq_true d1_1; have q11 : x1_1 < (a0.size : Int) := of_decide_eq_true d1_1; have hx11 := bt_at a0 x1_1; replace p11 := eq_true p11; replace q11 := eq_true q11; have p13 : 0 ≤ (x1_1 : Int) := of_decide_eq_true d1_1; have q13 : x1_1 < (a0.size : Int) := of_decide_eq_true d1_1; have hx13 := bt_at a0 x1_1; replace p13 := eq_true p13; replace q13 := eq_true q13; go_wp2; go_ret; exact ⟨c1_2, c1_1⟩
     ·rw [if_neg c4] at H
      exact absurd H (by simp)
    ·rw [if_neg c3] at H
     have c3b0 : decide (x1_1 < (a0.size : Int)) = false := decide_eq_false c3; clear c3; obtain rfl := Option.some.inj H; go_wp2; go_ret; exact ⟨c1_2, c1_1⟩

/-! ### spec_l2Mark: function 33 -/
def spec_l2Mark.f (a0 : Int) : Option (Int) := if a0 = 40 then (some 1) else (if a0 = 41 then (some 2) else (if a0 = 39 then (some 3) else (some 0)))
theorem spec_l2Mark.calls (a0 : Int) (r : Int) (w : World) (h : spec_l2Mark.f a0 = some r) :
    Calls Tryd.prog 33 #[.int .u8 a0] w fun e w' => e = .returned (.int .i64 r) ∧ Drawn0 w w' := by
  have H := h; clear h; unfold spec_l2Mark.f at H; by_cases c2 : a0 = 40
  ·rw [if_pos c2] at H
   have c2b0 : (a0 == 40) = true := beq_iff_eq.mpr c2; have c2b1 : (a0 != 40) = false := bne_eq_false_iff_eq.mpr c2; clear c2; obtain rfl := Option.some.inj H; go_enter Tryd.func33, Tryd.ntmps33; go_wp2; go_ret; exact ⟨c1_2, c1_1⟩
  ·rw [if_neg c2] at H
   have c2b0 : (a0 == 40) = false := beq_eq_false_iff_ne.mpr c2; have c2b1 : (a0 != 40) = true := bne_iff_ne.mpr c2; by_cases c3 : a0 = 41
   ·rw [if_pos c3] at H
    have c3b0 : (a0 == 41) = true := beq_iff_eq.mpr c3; have c3b1 : (a0 != 41) = false := bne_eq_false_iff_eq.mpr c3; clear c3; obtain rfl := Option.some.inj H; go_enter Tryd.func33, Tryd.ntmps33; go_wp2; go_ret; exact ⟨c1_2, c1_1⟩
   ·rw [if_neg c3] at H
    have c3b0 : (a0 == 41) = false := beq_eq_false_iff_ne.mpr c3; have c3b1 : (a0 != 41) = true := bne_iff_ne.mpr c3; by_cases c4 : a0 = 39
    ·rw [if_pos c4] at H
     have c4b0 : (a0 == 39) = true := beq_iff_eq.mpr c4; have c4b1 : (a0 != 39) = false := bne_eq_false_iff_eq.mpr c4; clear c4; obtain rfl := Option.some.inj H; go_enter Tryd.func33, Tryd.ntmps33; go_wp2; go_ret; exact ⟨c1_2, c1_1⟩
    ·rw [if_neg c4] at H
     have c4b0 : (a0 == 39) = false := beq_eq_false_iff_ne.mpr c4; have c4b1 : (a0 != 39) = true := bne_iff_ne.mpr c4; obtain rfl := Option.some.inj H; go_enter Tryd.func33, Tryd.ntmps33; go_wp2; go_ret; exact ⟨c1_2, c1_1⟩

/-! ### spec_l2End: function 34 -/
def spec_l2End.l0 : Nat → ByteArray → Int → Option (Int)
  | 0, _, _ => none
  | k + 1, x0, x1 => if x1 < (x0.size : Int) then (if 0 ≤ x1 then (if (bt x0 x1) = 32 then (some x1) else (if (bt x0 x1) = 10 then (some x1) else (if (bt x0 x1) = 59 then (some x1) else ((spec_l2Mark.f (bt x0 x1)).bind fun t101 => (if t101 = 0 then (spec_l2End.l0 k x0 (wrap64 (x1 + 1))) else (some x1)))))) else (none)) else (some x1)
def spec_l2End.f (k : Nat) (a0 : ByteArray) (a1 : Int) : Option (Int) := spec_l2End.l0 k a0 a1
theorem spec_l2End.mono_l : ∀ k, (∀ y0 y1, LeO (spec_l2End.l0 k y0 y1) (spec_l2End.l0 (k + 1) y0 y1))
  | 0 => fun _ _ r h => by simp [spec_l2End.l0] at h
  | k + 1 => by
    have ih0 := spec_l2End.mono_l k
    · intro y0 y1
      unfold spec_l2End.l0
      repeat' first | (with_reducible first | apply ih0 | exact LeO.refl _ | exact LeO.none _ | refine LeO.ite ?_ ?_ | refine LeO.bind ?_ (fun _ => ?_)) | apply ih0 | exact LeO.none _ | refine LeO.ite ?_ ?_ | refine LeO.bind ?_ (fun _ => ?_)
theorem spec_l2End.mono : ∀ a0 a1 k, LeO (spec_l2End.f k a0 a1) (spec_l2End.f (k + 1) a0 a1) := by
  intro a0 a1 k; have ih0 := spec_l2End.mono_l k; unfold spec_l2End.f
  repeat' first | (with_reducible first | apply ih0 | exact LeO.refl _ | exact LeO.none _ | refine LeO.ite ?_ ?_ | refine LeO.bind ?_ (fun _ => ?_)) | apply ih0 | exact LeO.none _ | refine LeO.ite ?_ ?_ | refine LeO.bind ?_ (fun _ => ?_)
theorem spec_l2End.calls (k : Nat) (a0 : ByteArray) (a1 : Int) (r : Int) (w : World) (h : spec_l2End.f k a0 a1 = some r) :
    Calls Tryd.prog 34 #[.string a0, .int .i64 a1] w fun e w' => e = .returned (.int .i64 r) ∧ Drawn0 w w' := by
  have H := h; clear h; unfold spec_l2End.f at H; have H' := ak H; clear H; go_enter Tryd.func34, Tryd.ntmps34; go_wp2; go_loopg [1] k (fun kq v1 w' => ∃ (x1_1 : Int), v1 = .int .i64 x1_1 ∧ Aside0 (spec_l2End.l0 kq a0 x1_1 = some r) ∧ Aside0 (kq ≤ k) ∧ Drawn0 w w')
  case atStart => exact ⟨(a1), d1_2, H', ⟨Nat.le_refl _⟩, c1_1⟩
  case round =>
   clear H'
   try clear p2
   obtain ⟨x1_1, rfl, HA, HK1, ⟨m1, rfl⟩⟩ := hrel
   cases gk with
   | zero => exact absurd HA.out (by simp [spec_l2End.l0])
   | succ k1 =>
    have H := HA.out; clear HA; simp only [spec_l2End.l0] at H; by_cases c3 : x1_1 < (a0.size : Int)
    ·rw [if_pos c3] at H
     have c3b0 : decide (x1_1 < (a0.size : Int)) = true := decide_eq_true c3; clear c3; by_cases c4 : 0 ≤ x1_1
     ·rw [if_pos c4] at H
      have c4b0 : decide (0 ≤ x1_1) = true := decide_eq_true c4; clear c4; by_cases c6 : (bt a0 x1_1) = 32
      ·rw [if_pos c6] at H
       have c6b0 : ((bt a0 x1_1) == 32) = true := beq_iff_eq.mpr c6; have c6b1 : ((bt a0 x1_1) != 32) = false := bne_eq_false_iff_eq.mpr c6; clear c6; obtain rfl := Option.some.inj H; have p5 : 0 ≤ (x1_1 : Int) := of_decide_eq_true d1_1; have q5 : x1_1 < (a0.size : Int) := of_decide_eq_true d1_1; have hx5 := bt_at a0 x1_1; replace p5 := eq_true p5; replace q5 := eq_true q5; go_wp2; go_ret; exact ⟨c1_2, c1_1⟩
      ·rw [if_neg c6] at H
       have c6b0 : ((bt a0 x1_1) == 32) = false := beq_eq_false_iff_ne.mpr c6; have c6b1 : ((bt a0 x1_1) != 32) = true := bne_iff_ne.mpr c6; by_cases c8 : (bt a0 x1_1) = 10
       ·rw [if_pos c8] at H
        have c8b0 : ((bt a0 x1_1) == 10) = true := beq_iff_eq.mpr c8; have c8b1 : ((bt a0 x1_1) != 10) = false := bne_eq_false_iff_eq.mpr c8; clear c8; obtain rfl := Option.some.inj H; have p5 : 0 ≤ (x1_1 : Int) := of_decide_eq_true d1_1; have q5 : x1_1 < (a0.size : Int) := of_decide_eq_true d1_1; have hx5 := bt_at a0 x1_1; replace p5 := eq_true p5; replace q5 := eq_true q5; have p7 : 0 ≤ (x1_1 : Int) := of_decide_eq_true d1_1; have q7 : x1_1 < (a0.size : Int) := of_decide_eq_true d1_1; have hx7 := bt_at a0 x1_1; replace p7 := eq_true p7; replace q7 := eq_true q7; go_wp2; go_ret; exact ⟨c1_2, c1_1⟩
       ·rw [if_neg c8] at H
        have c8b0 : ((bt a0 x1_1) == 10) = false := beq_eq_false_iff_ne.mpr c8; have c8b1 : ((bt a0 x1_1) != 10) = true := bne_iff_ne.mpr c8; by_cases c10 : (bt a0 x1_1) = 59
        ·rw [if_pos c10] at H
         have c10b0 : ((bt a0 x1_1) == 59) = true := beq_iff_eq.mpr c10; have c10b1 : ((bt a0 x1_1) != 59) = false := bne_eq_false_iff_eq.mpr c10; clear c10; obtain rfl := Option.some.inj H; have p5 : 0 ≤ (x1_1 : Int) := of_decide_eq_true d1_1; have q5 : x1_1 < (a0.size : Int) := of_decide_eq_true d1_1; have hx5 := bt_at a0 x1_1; replace p5 := eq_true p5; replace q5 := eq_true q5; have p7 : 0 ≤ (x1_1 : Int) := of_decide_eq_true d1_1; have q7 : x1_1 < (a0.size : Int) := of_decide_eq_true d1_1; have hx7 := bt_at a0 x1_1; replace p7 := eq_true p7; replace q7 := eq_true q7; have p9 : 0 ≤ (x1_1 : Int) := of_decide_eq_true d1_1; have q9 : x1_1 < (a0.size : Int) := of_decide_eq_true d1_1; have hx9 := bt_at a0 x1_1; replace p9 := eq_true p9; replace q9 := eq_true q9; go_wp2; go_ret; exact ⟨c1_2, c1_1⟩
        ·rw [if_neg c10] at H
         have c10b0 : ((bt a0 x1_1) == 59) = false := beq_eq_false_iff_ne.mpr c10; have c10b1 : ((bt a0 x1_1) != 59) = true := bne_iff_ne.mpr c10; replace H := Option.bind_eq_some_iff.mp H; obtain ⟨t101, A120, H⟩ := H; (try dsimp -simprocs only at H); have A12 := ak A120; clear A120; by_cases c13 : t101 = 0
         ·rw [if_pos c13] at H
          have c13b0 : (t101 == 0) = true := beq_iff_eq.mpr c13; have c13b1 : (t101 != 0) = false := bne_eq_false_iff_eq.mpr c13; clear c13; have H' := ak H; clear H; have p5 : 0 ≤ (x1_1 : Int) := of_decide_eq_true d1_1; have q5 : x1_1 < (a0.size : Int) := of_decide_eq_true d1_1; have hx5 := bt_at a0 x1_1; replace p5 := eq_true p5; replace q5 := eq_true q5; have p7 : 0 ≤ (x1_1 : Int) := of_decide_eq_true d1_1; have q7 : x1_1 < (a0.size : Int) := of_decide_eq_true d1_1; have hx7 := bt_at a0 x1_1; replace p7 := eq_true p7; replace q7 := eq_true q7; have p9 : 0 ≤ (x1_1 : Int) := of_decide_eq_true d1_1; have q9 : x1_1 < (a0.size : Int) := of_decide_eq_true d1_1; have hx9 := bt_at a0 x1_1; replace p9 := eq_true p9; replace q9 := eq_true q9; have p11 : 0 ≤ (x1_1 : Int) := of_decide_eq_true d1_1; have q11 : x1_1 < (a0.size : Int) := of_decide_eq_true d1_1; have hx11 := bt_at a0 x1_1; replace p11 := eq_true p11; replace q11 := eq_true q11; go_wp2_with (first | (go_at_call 33; (with_reducible refine (spec_l2Mark.calls (bt a0 x1_1) t101 _ A12.out).mono ?_); rintro e w' ⟨rfl, ⟨nd, rfl⟩⟩)); go_roundg k1
          case measure => have := HK1.out; omega
          case rel => exact ⟨(wrap64 (x1_1 + 1)), d1_2, H', ⟨by have := HK1.out; omega⟩, c1_1⟩
         ·rw [if_neg c13] at H
          have c13b0 : (t101 == 0) = false := beq_eq_false_iff_ne.mpr c13; have c13b1 : (t101 != 0) = true := bne_iff_ne.mpr c13; obtain rfl := Option.some.inj H; have p5 : 0 ≤ (x1_1 : Int) := of_decide_eq_true d1_1; have q5 : x1_1 < (a0.size : Int) := of_decide_eq_true d1_1; have hx5 := bt_at a0 x1_1; replace p5 := eq_true p5; replace q5 := eq_true q5; have p7 : 0 ≤ (x1_1 : Int) := of_decide_eq_true d1_1; have q7 : x1_1 < (a0.size : Int) := of_decide_eq_true d1_1; have hx7 := bt_at a0 x1_1; replace p7 := eq_true p7; replace q7 := eq_true q7; have p9 : 0 ≤ (x1_1 : Int) := of_decide_eq_true d1_1; have q9 : x1_1 < (a0.size : Int) := of_decide_eq_true d1_1; have hx9 := bt_at a0 x1_1; replace p9 := eq_true p9; replace q9 := eq_true q9; have p11 : 0 ≤ (x1_1 : Int) := of_decide_eq_true d1_1; have q11 : x1_1 < (a0.size : Int) := of_decide_eq_true d1_1; have hx11 := bt_at a0 x1_1; replace p11 := eq_true p11; replace q11 := eq_true q11; go_wp2_with (first | (go_at_call 33; (with_reducible refine (spec_l2Mark.calls (bt a0 x1_1) t101 _ A12.out).mono ?_); rintro e w' ⟨rfl, ⟨nd, rfl⟩⟩)); go_ret; exact ⟨c1_2, c1_1⟩
     ·rw [if_neg c4] at H
      exact absurd H (by simp)
    ·rw [if_neg c3] at H
     have c3b0 : decide (x1_1 < (a0.size : Int)) = false := decide_eq_false c3; clear c3; obtain rfl := Option.some.inj H; go_wp2; go_ret; exact ⟨c1_2, c1_1⟩

/-! ### spec_l1In: function 69 -/
def spec_l1In.f (a0 : Int) (a1 : Int) (a2 : Int) : Option (Bool) := if a0 ≥ a1 then (some (decide (a0 ≤ a2))) else (some false)
theorem spec_l1In.calls (a0 : Int) (a1 : Int) (a2 : Int) (r : Bool) (w : World) (h : spec_l1In.f a0 a1 a2 = some r) :
    Calls Tryd.prog 69 #[.int .i64 a0, .int .i64 a1, .int .i64 a2] w fun e w' => e = .returned (.bool r) ∧ Drawn0 w w' := by
  have H := h; clear h; unfold spec_l1In.f at H; by_cases c4 : a0 ≥ a1
  ·rw [if_pos c4] at H
   have c4b0 : decide (a1 ≤ a0) = true := decide_eq_true c4; clear c4; obtain rfl := Option.some.inj H; go_enter Tryd.func69, Tryd.ntmps69; go_wp2; go_ret; exact ⟨c1_2, c1_1⟩
  ·rw [if_neg c4] at H
   have c4b0 : decide (a1 ≤ a0) = false := decide_eq_false c4; clear c4; obtain rfl := Option.some.inj H; go_enter Tryd.func69, Tryd.ntmps69; go_wp2; go_ret; exact ⟨c1_2, c1_1⟩

/-! ### spec_l1Num: function 66 -/
def spec_l1Num.f (a0 : Int) : Option (Bool) := (spec_l1In.f a0 (-1000000000) 1000000000).bind fun t102 => (some t102)
theorem spec_l1Num.calls (a0 : Int) (r : Bool) (w : World) (h : spec_l1Num.f a0 = some r) :
    Calls Tryd.prog 66 #[.int .i64 a0] w fun e w' => e = .returned (.bool r) ∧ Drawn0 w w' := by
  have H := h; clear h; unfold spec_l1Num.f at H; replace H := Option.bind_eq_some_iff.mp H; obtain ⟨t102, A20, H⟩ := H; (try dsimp -simprocs only at H); have A2 := ak A20; clear A20; obtain rfl := Option.some.inj H; go_enter Tryd.func66, Tryd.ntmps66; go_wp2_with (first | ((with_reducible refine gate_callee (f := 69) rfl ?_); refine goesL_ (some 4) rfl rfl Tryd.func69 (by kernel_rfl) rfl #[.int .i64 a0, .int .i64 (-1000000000), .int .i64 1000000000] rfl (by (try simp only [List.map_toArray, List.map_cons, List.map_nil]); first | done | rfl | (simp only [List.length_drop, List.length_take]; rfl)) ?_; (with_reducible refine (spec_l1In.calls a0 (-1000000000) 1000000000 t102 _ A2.out).mono ?_); rintro e w' ⟨rfl, ⟨nd, rfl⟩⟩; refine ⟨_, rfl, ?_⟩)); go_ret; exact ⟨c1_2, c1_1⟩

end Go.Proofs.YteiokhfikbndbaaDoor.R
