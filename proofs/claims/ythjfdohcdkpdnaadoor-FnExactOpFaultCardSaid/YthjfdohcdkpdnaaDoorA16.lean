/- Walks of the program's functions: each Go function's answer as a plain Lean function, and that the call comes to it. Written by a program. Conditions: those in each theorem's own head. -/
import Derived.Test.YthjfdohcdkpdnaaDoorA0
import Derived.Test.YthjfdohcdkpdnaaDoorA1
namespace Go.Proofs.YthjfdohcdkpdnaaDoor.A
open Go.RowKit Go.Proofs.YthjfdohcdkpdnaaDoorW.PrintWords Go.Proofs.YthjfdohcdkpdnaaDoorW.PrintLast Go.Proofs.YthjfdohcdkpdnaaDoorW.PrintMore
attribute [local go_sem] max2_int min2_int max_two min_two max_three min_three max_four min_four   -- for this text's walks alone
set_option linter.unusedVariables false
set_option linter.unusedSimpArgs false

theorem d16_1 {p : Prop} (h : p := by (try simp only [List.map_toArray, List.map_cons, List.map_nil]); first | done | rfl | (simp only [List.length_drop, List.length_take]; rfl)) : p := h
theorem d16_2 {p : Prop} (h : p := by first | (with_reducible assumption) | assumption) : p := h
theorem d16_3 {p : Prop} (h : p := by first | rfl | (simp; done) | (simp [*]; done) | (simp [ne_nil_b, eq_nil_b]; done)) : p := h

/-! ### spec_l3Bare: function 119 -/
def spec_l3Bare.f (a0_0 : Int) (a0_1 : Int) (a0_2 : Int) (a0_3 : ByteArray) : Option (Bool) := if a0_0 = 1 then ((spec_l1In.f a0_0 1 4).bind fun t552 => (if t552 = true then (if a0_0 = 3 then (some true) else (some (a0_3.toList == ([] : List UInt8)))) else (some false))) else ((spec_l1In.f a0_0 1 4).bind fun t553 => (if t553 = true then (if a0_0 = 2 then (if a0_0 = 3 then (some true) else (some (a0_3.toList == ([] : List UInt8)))) else (if a0_2 = 0 then (if a0_0 = 3 then (some true) else (some (a0_3.toList == ([] : List UInt8)))) else (some false))) else (some false)))
set_option maxHeartbeats 8000000 in
set_option maxRecDepth 100000 in
theorem spec_l3Bare.calls (P0_ : Addr) (a0_0 : Int) (a0_1 : Int) (a0_2 : Int) (a0_3 : ByteArray) (r : Bool) (w : World) (hq0_0 : w.cell? P0_ = some (.int .i64 a0_0)) (hq0_1 : w.cell? ⟨P0_.block, P0_.off + 1, none⟩ = some (.int .i64 a0_1)) (hq0_2 : w.cell? ⟨P0_.block, P0_.off + 2, none⟩ = some (.int .i64 a0_2)) (hq0_3 : w.cell? ⟨P0_.block, P0_.off + 3, none⟩ = some (.string a0_3)) (h : spec_l3Bare.f a0_0 a0_1 a0_2 a0_3 = some r) :
    Calls Tryd.prog 119 #[.pointer (some P0_)] w fun e w' => e = .returned (.bool r) ∧ Drawn0 w w' := by
  have HQ0_0 := ak hq0_0
  clear hq0_0
  have HQ0_1 := ak hq0_1
  clear hq0_1
  have HQ0_2 := ak hq0_2
  clear hq0_2
  have HQ0_3 := ak hq0_3
  clear hq0_3
  have H : (if a0_0 = 1 then ((spec_l1In.f a0_0 1 4).bind fun t552 => (if t552 = true then (if a0_0 = 3 then (some true) else (some (a0_3.toList == ([] : List UInt8)))) else (some false))) else ((spec_l1In.f a0_0 1 4).bind fun t553 => (if t553 = true then (if a0_0 = 2 then (if a0_0 = 3 then (some true) else (some (a0_3.toList == ([] : List UInt8)))) else (if a0_2 = 0 then (if a0_0 = 3 then (some true) else (some (a0_3.toList == ([] : List UInt8)))) else (some false))) else (some false)))) = some r := h
  clear h
  by_cases c2 : a0_0 = 1
  ·rw [if_pos c2] at H
   have c2b0 : (a0_0 == 1) = true := beq_iff_eq.mpr c2
   have c2b1 : (a0_0 != 1) = false := bne_eq_false_iff_eq.mpr c2
   clear c2
   replace H := Option.bind_eq_some_iff.mp H
   obtain ⟨t552, A30, H⟩ := H
   replace H : (if t552 = true then (if a0_0 = 3 then (some true) else (some (a0_3.toList == ([] : List UInt8)))) else (some false)) = some r := H
   have A3 := ak A30
   clear A30
   by_cases c4 : t552 = true
   ·subst c4
    have H1 : (if a0_0 = 3 then (some true) else (some (a0_3.toList == ([] : List UInt8)))) = some r := by rw [if_pos rfl] at H; exact H
    clear H
    have H := H1
    clear H1
    by_cases c5 : a0_0 = 3
    ·rw [if_pos c5] at H
     have c5b0 : (a0_0 == 3) = true := beq_iff_eq.mpr c5
     have c5b1 : (a0_0 != 3) = false := bne_eq_false_iff_eq.mpr c5
     clear c5
     obtain rfl := Option.some.inj H
     have hx551_0 := HQ0_0.out
     have hx551_1 := HQ0_1.out
     have hx551_2 := HQ0_2.out
     have hx551_3 := HQ0_3.out
     go_enter Tryd.func119, Tryd.ntmps119
     go_wp2_with (first | ((with_reducible refine gate_callee (f := 78) rfl ?_); refine goesL_ (some 20) rfl rfl Tryd.func78 (by kernel_rfl) rfl #[.int .i64 a0_0, .int .i64 1, .int .i64 4] rfl d16_1 ?_; (with_reducible refine (spec_l1In.calls a0_0 1 4 true _ A3.out).mono ?_); rintro e w' ⟨rfl, ⟨nd, rfl⟩⟩; refine ⟨_, rfl, ?_⟩))
     go_ret
     exact ⟨by first | rfl | (simp; done) | (simp [*]; done) | (simp [ne_nil_b, eq_nil_b]; done), by repeat (first | exact Drawn0.refl _ | apply Drawn0.step)⟩
    ·rw [if_neg c5] at H
     have c5b0 : (a0_0 == 3) = false := beq_eq_false_iff_ne.mpr c5
     have c5b1 : (a0_0 != 3) = true := bne_iff_ne.mpr c5
     obtain rfl := Option.some.inj H
     have hx551_0 := HQ0_0.out
     have hx551_1 := HQ0_1.out
     have hx551_2 := HQ0_2.out
     have hx551_3 := HQ0_3.out
     go_enter Tryd.func119, Tryd.ntmps119
     go_wp2_with (first | ((with_reducible refine gate_callee (f := 78) rfl ?_); refine goesL_ (some 20) rfl rfl Tryd.func78 (by kernel_rfl) rfl #[.int .i64 a0_0, .int .i64 1, .int .i64 4] rfl d16_1 ?_; (with_reducible refine (spec_l1In.calls a0_0 1 4 true _ A3.out).mono ?_); rintro e w' ⟨rfl, ⟨nd, rfl⟩⟩; refine ⟨_, rfl, ?_⟩))
     go_ret
     exact ⟨by first | rfl | (simp; done) | (simp [*]; done) | (simp [ne_nil_b, eq_nil_b]; done), by repeat (first | exact Drawn0.refl _ | apply Drawn0.step)⟩
   ·replace c4 := Bool.eq_false_iff.mpr c4
    subst c4
    have H1 : (some false) = some r := by rw [if_neg (show ¬ (false = true) by decide)] at H; exact H
    clear H
    have H := H1
    clear H1
    obtain rfl := Option.some.inj H
    have hx551_0 := HQ0_0.out
    have hx551_1 := HQ0_1.out
    have hx551_2 := HQ0_2.out
    have hx551_3 := HQ0_3.out
    go_enter Tryd.func119, Tryd.ntmps119
    go_wp2_with (first | ((with_reducible refine gate_callee (f := 78) rfl ?_); refine goesL_ (some 20) rfl rfl Tryd.func78 (by kernel_rfl) rfl #[.int .i64 a0_0, .int .i64 1, .int .i64 4] rfl d16_1 ?_; (with_reducible refine (spec_l1In.calls a0_0 1 4 false _ A3.out).mono ?_); rintro e w' ⟨rfl, ⟨nd, rfl⟩⟩; refine ⟨_, rfl, ?_⟩))
    go_ret
    exact ⟨by first | rfl | (simp; done) | (simp [*]; done) | (simp [ne_nil_b, eq_nil_b]; done), by repeat (first | exact Drawn0.refl _ | apply Drawn0.step)⟩
  ·rw [if_neg c2] at H
   have c2b0 : (a0_0 == 1) = false := beq_eq_false_iff_ne.mpr c2
   have c2b1 : (a0_0 != 1) = true := bne_iff_ne.mpr c2
   replace H := Option.bind_eq_some_iff.mp H
   obtain ⟨t553, A60, H⟩ := H
   replace H : (if t553 = true then (if a0_0 = 2 then (if a0_0 = 3 then (some true) else (some (a0_3.toList == ([] : List UInt8)))) else (if a0_2 = 0 then (if a0_0 = 3 then (some true) else (some (a0_3.toList == ([] : List UInt8)))) else (some false))) else (some false)) = some r := H
   have A6 := ak A60
   clear A60
   by_cases c7 : t553 = true
   ·subst c7
    have H1 : (if a0_0 = 2 then (if a0_0 = 3 then (some true) else (some (a0_3.toList == ([] : List UInt8)))) else (if a0_2 = 0 then (if a0_0 = 3 then (some true) else (some (a0_3.toList == ([] : List UInt8)))) else (some false))) = some r := by rw [if_pos rfl] at H; exact H
    clear H
    have H := H1
    clear H1
    by_cases c8 : a0_0 = 2
    ·rw [if_pos c8] at H
     have c8b0 : (a0_0 == 2) = true := beq_iff_eq.mpr c8
     have c8b1 : (a0_0 != 2) = false := bne_eq_false_iff_eq.mpr c8
     clear c8
     by_cases c9 : a0_0 = 3
     ·rw [if_pos c9] at H
      have c9b0 : (a0_0 == 3) = true := beq_iff_eq.mpr c9
      have c9b1 : (a0_0 != 3) = false := bne_eq_false_iff_eq.mpr c9
      clear c9
      obtain rfl := Option.some.inj H
      have hx551_0 := HQ0_0.out
      have hx551_1 := HQ0_1.out
      have hx551_2 := HQ0_2.out
      have hx551_3 := HQ0_3.out
      go_enter Tryd.func119, Tryd.ntmps119
      go_wp2_with (first | ((with_reducible refine gate_callee (f := 78) rfl ?_); refine goesL_ (some 20) rfl rfl Tryd.func78 (by kernel_rfl) rfl #[.int .i64 a0_0, .int .i64 1, .int .i64 4] rfl d16_1 ?_; (with_reducible refine (spec_l1In.calls a0_0 1 4 true _ A6.out).mono ?_); rintro e w' ⟨rfl, ⟨nd, rfl⟩⟩; refine ⟨_, rfl, ?_⟩))
      go_ret
      exact ⟨by first | rfl | (simp; done) | (simp [*]; done) | (simp [ne_nil_b, eq_nil_b]; done), by repeat (first | exact Drawn0.refl _ | apply Drawn0.step)⟩
     ·rw [if_neg c9] at H
      have c9b0 : (a0_0 == 3) = false := beq_eq_false_iff_ne.mpr c9
      have c9b1 : (a0_0 != 3) = true := bne_iff_ne.mpr c9
      obtain rfl := Option.some.inj H
      have hx551_0 := HQ0_0.out
      have hx551_1 := HQ0_1.out
      have hx551_2 := HQ0_2.out
      have hx551_3 := HQ0_3.out
      go_enter Tryd.func119, Tryd.ntmps119
      go_wp2_with (first | ((with_reducible refine gate_callee (f := 78) rfl ?_); refine goesL_ (some 20) rfl rfl Tryd.func78 (by kernel_rfl) rfl #[.int .i64 a0_0, .int .i64 1, .int .i64 4] rfl d16_1 ?_; (with_reducible refine (spec_l1In.calls a0_0 1 4 true _ A6.out).mono ?_); rintro e w' ⟨rfl, ⟨nd, rfl⟩⟩; refine ⟨_, rfl, ?_⟩))
      go_ret
      exact ⟨by first | rfl | (simp; done) | (simp [*]; done) | (simp [ne_nil_b, eq_nil_b]; done), by repeat (first | exact Drawn0.refl _ | apply Drawn0.step)⟩
    ·rw [if_neg c8] at H
     have c8b0 : (a0_0 == 2) = false := beq_eq_false_iff_ne.mpr c8
     have c8b1 : (a0_0 != 2) = true := bne_iff_ne.mpr c8
     by_cases c10 : a0_2 = 0
     ·rw [if_pos c10] at H
      have c10b0 : (a0_2 == 0) = true := beq_iff_eq.mpr c10
      have c10b1 : (a0_2 != 0) = false := bne_eq_false_iff_eq.mpr c10
      clear c10
      by_cases c11 : a0_0 = 3
      ·rw [if_pos c11] at H
       have c11b0 : (a0_0 == 3) = true := beq_iff_eq.mpr c11
       have c11b1 : (a0_0 != 3) = false := bne_eq_false_iff_eq.mpr c11
       clear c11
       obtain rfl := Option.some.inj H
       have hx551_0 := HQ0_0.out
       have hx551_1 := HQ0_1.out
       have hx551_2 := HQ0_2.out
       have hx551_3 := HQ0_3.out
       go_enter Tryd.func119, Tryd.ntmps119
       go_wp2_with (first | ((with_reducible refine gate_callee (f := 78) rfl ?_); refine goesL_ (some 20) rfl rfl Tryd.func78 (by kernel_rfl) rfl #[.int .i64 a0_0, .int .i64 1, .int .i64 4] rfl d16_1 ?_; (with_reducible refine (spec_l1In.calls a0_0 1 4 true _ A6.out).mono ?_); rintro e w' ⟨rfl, ⟨nd, rfl⟩⟩; refine ⟨_, rfl, ?_⟩))
       go_ret
       exact ⟨by first | rfl | (simp; done) | (simp [*]; done) | (simp [ne_nil_b, eq_nil_b]; done), by repeat (first | exact Drawn0.refl _ | apply Drawn0.step)⟩
      ·rw [if_neg c11] at H
       have c11b0 : (a0_0 == 3) = false := beq_eq_false_iff_ne.mpr c11
       have c11b1 : (a0_0 != 3) = true := bne_iff_ne.mpr c11
       obtain rfl := Option.some.inj H
       have hx551_0 := HQ0_0.out
       have hx551_1 := HQ0_1.out
       have hx551_2 := HQ0_2.out
       have hx551_3 := HQ0_3.out
       go_enter Tryd.func119, Tryd.ntmps119
       go_wp2_with (first | ((with_reducible refine gate_callee (f := 78) rfl ?_); refine goesL_ (some 20) rfl rfl Tryd.func78 (by kernel_rfl) rfl #[.int .i64 a0_0, .int .i64 1, .int .i64 4] rfl d16_1 ?_; (with_reducible refine (spec_l1In.calls a0_0 1 4 true _ A6.out).mono ?_); rintro e w' ⟨rfl, ⟨nd, rfl⟩⟩; refine ⟨_, rfl, ?_⟩))
       go_ret
       exact ⟨by first | rfl | (simp; done) | (simp [*]; done) | (simp [ne_nil_b, eq_nil_b]; done), by repeat (first | exact Drawn0.refl _ | apply Drawn0.step)⟩
     ·rw [if_neg c10] at H
      have c10b0 : (a0_2 == 0) = false := beq_eq_false_iff_ne.mpr c10
      have c10b1 : (a0_2 != 0) = true := bne_iff_ne.mpr c10
      obtain rfl := Option.some.inj H
      have hx551_0 := HQ0_0.out
      have hx551_1 := HQ0_1.out
      have hx551_2 := HQ0_2.out
      have hx551_3 := HQ0_3.out
      go_enter Tryd.func119, Tryd.ntmps119
      go_wp2_with (first | ((with_reducible refine gate_callee (f := 78) rfl ?_); refine goesL_ (some 20) rfl rfl Tryd.func78 (by kernel_rfl) rfl #[.int .i64 a0_0, .int .i64 1, .int .i64 4] rfl d16_1 ?_; (with_reducible refine (spec_l1In.calls a0_0 1 4 true _ A6.out).mono ?_); rintro e w' ⟨rfl, ⟨nd, rfl⟩⟩; refine ⟨_, rfl, ?_⟩))
      go_ret
      exact ⟨by first | rfl | (simp; done) | (simp [*]; done) | (simp [ne_nil_b, eq_nil_b]; done), by repeat (first | exact Drawn0.refl _ | apply Drawn0.step)⟩
   ·replace c7 := Bool.eq_false_iff.mpr c7
    subst c7
    have H1 : (some false) = some r := by rw [if_neg (show ¬ (false = true) by decide)] at H; exact H
    clear H
    have H := H1
    clear H1
    obtain rfl := Option.some.inj H
    have hx551_0 := HQ0_0.out
    have hx551_1 := HQ0_1.out
    have hx551_2 := HQ0_2.out
    have hx551_3 := HQ0_3.out
    go_enter Tryd.func119, Tryd.ntmps119
    go_wp2_with (first | ((with_reducible refine gate_callee (f := 78) rfl ?_); refine goesL_ (some 20) rfl rfl Tryd.func78 (by kernel_rfl) rfl #[.int .i64 a0_0, .int .i64 1, .int .i64 4] rfl d16_1 ?_; (with_reducible refine (spec_l1In.calls a0_0 1 4 false _ A6.out).mono ?_); rintro e w' ⟨rfl, ⟨nd, rfl⟩⟩; refine ⟨_, rfl, ?_⟩))
    go_ret
    exact ⟨by first | rfl | (simp; done) | (simp [*]; done) | (simp [ne_nil_b, eq_nil_b]; done), by repeat (first | exact Drawn0.refl _ | apply Drawn0.step)⟩

/-! ### spec_l3Line: function 120 -/
def spec_l3Line.l0 : Nat → List (S132) → Int → Int → Option (Bool)
  | 0, _, _, _ => none
  | k + 1, x0, x1, x5 => if x5 ≥ 0 then (if 0 ≤ x1 then (if x1 < (x0.length : Int) then (if x5 = ((rd_T132 x0 x1).f1) then (if 0 ≤ x5 then (if x5 < (x0.length : Int) then (some (((rd_T132 x0 x5).f0) == 4)) else (none)) else (none)) else (if 0 ≤ x5 then (if x5 < (x0.length : Int) then (spec_l3Line.l0 k x0 x1 ((rd_T132 x0 x5).f1)) else (none)) else (none))) else (none)) else (none)) else (some false)
def spec_l3Line.f (k : Nat) (l0 : List (S132)) (a1 : Int) : Option (Bool) := spec_l3Line.l0 k l0 a1 (wrap64 (a1 - 1))
theorem spec_l3Line.mono_l : ∀ k, (∀ y0 y1 y2, LeO (spec_l3Line.l0 k y0 y1 y2) (spec_l3Line.l0 (k + 1) y0 y1 y2))
  | 0 => fun _ _ _ r h => by simp [spec_l3Line.l0] at h
  | k + 1 => by
    have ih0 := spec_l3Line.mono_l k
    · intro y0 y1 y2
      unfold spec_l3Line.l0
      repeat' first
      | (with_reducible exact ih0 _ _ _)
      | (with_reducible exact LeO.refl _)
      | (with_reducible exact LeO.none _)
      | (with_reducible refine LeO.ite ?_ ?_)
      | (with_reducible refine LeO.bind ?_ (fun _ => ?_))
      | exact ih0 _ _ _
      | exact LeO.none _
      | refine LeO.ite ?_ ?_
      | refine LeO.bind ?_ (fun _ => ?_)
theorem spec_l3Line.mono : ∀ a0 a1 k, LeO (spec_l3Line.f k a0 a1) (spec_l3Line.f (k + 1) a0 a1) := by
  intro a0 a1 k
  have ih0 := spec_l3Line.mono_l k
  unfold spec_l3Line.f
  repeat' first
      | (with_reducible exact ih0 _ _ _)
      | (with_reducible exact LeO.refl _)
      | (with_reducible exact LeO.none _)
      | (with_reducible refine LeO.ite ?_ ?_)
      | (with_reducible refine LeO.bind ?_ (fun _ => ?_))
      | exact ih0 _ _ _
      | exact LeO.none _
      | refine LeO.ite ?_ ?_
      | refine LeO.bind ?_ (fun _ => ?_)
set_option maxHeartbeats 8000000 in
set_option maxRecDepth 100000 in
theorem spec_l3Line.calls (k : Nat) (A0 : Option Addr) (c0 : Nat) (l0 : List (S132)) (a1 : Int) (r : Bool) (w : World) (hr0 : Kd.C k132 w A0 l0.length l0) (hc0 : l0.length ≤ c0) (h : spec_l3Line.f k l0 a1 = some r) :
    Calls Tryd.prog 120 #[.slice A0 l0.length c0, .int .i64 a1] w fun e w' => e = .returned (.bool r) ∧ Drawn0 w w' := by
  have HR0 := ak hr0
  have HC0 := ak hc0
  clear hr0 hc0
  have H : (spec_l3Line.l0 k l0 a1 (wrap64 (a1 - 1))) = some r := h
  clear h
  have H' := ak H
  clear H
  go_enter Tryd.func120, Tryd.ntmps120
  go_wp2
  go_loopg [5] k (fun kq v5 w' => ∃ (x5_1 : Int), v5 = .int .i64 x5_1 ∧ Aside0 (spec_l3Line.l0 kq l0 a1 x5_1 = some r) ∧ Aside0 (kq ≤ k) ∧ Drawn0 w w')
  case atStart => exact ⟨(wrap64 (a1 - 1)), d16_3, H', ⟨Nat.le_refl _⟩, by repeat (first | exact Drawn0.refl _ | apply Drawn0.step)⟩
  case round =>
   clear H'
   try clear c1
   try clear p2
   obtain ⟨x5_1, rfl, HA, HK1, ⟨m1, rfl⟩⟩ := hrel
   cases gk with
   | zero => exact absurd HA.out (by simp [spec_l3Line.l0])
   | succ k1 =>
    have H := HA.out
    clear HA
    simp only [spec_l3Line.l0] at H
    by_cases c3 : x5_1 ≥ 0
    ·rw [if_pos c3] at H
     have c3b0 : decide (0 ≤ x5_1) = true := decide_eq_true c3
     clear c3
     by_cases c4 : 0 ≤ a1
     ·rw [if_pos c4] at H
      have c4b0 : decide (0 ≤ a1) = true := decide_eq_true c4
      clear c4
      by_cases c5 : a1 < (l0.length : Int)
      ·rw [if_pos c5] at H
       have c5b0 : decide (a1 < (l0.length : Int)) = true := decide_eq_true c5
       clear c5
       by_cases c6 : x5_1 = ((rd_T132 l0 a1).f1)
       ·rw [if_pos c6] at H
        have c6b0 : (x5_1 == ((rd_T132 l0 a1).f1)) = true := beq_iff_eq.mpr c6
        have c6b1 : (x5_1 != ((rd_T132 l0 a1).f1)) = false := bne_eq_false_iff_eq.mpr c6
        clear c6
        by_cases c7 : 0 ≤ x5_1
        ·rw [if_pos c7] at H
         have c7b0 : decide (0 ≤ x5_1) = true := decide_eq_true c7
         clear c7
         by_cases c8 : x5_1 < (l0.length : Int)
         ·rw [if_pos c8] at H
          have c8b0 : decide (x5_1 < (l0.length : Int)) = true := decide_eq_true c8
          clear c8
          obtain rfl := Option.some.inj H
          have p554 : 0 ≤ (a1 : Int) := of_decide_eq_true d16_2
          have q554 : a1 < (l0.length : Int) := of_decide_eq_true d16_2
          obtain ⟨ad554, e554, hx554_0, hx554_1, hx554_2, hx554_3⟩ := at_T132 HR0.out a1 p554 q554
          cases e554
          replace p554 := eq_true p554
          replace q554 := eq_true q554
          have p555 : 0 ≤ (x5_1 : Int) := of_decide_eq_true d16_2
          have q555 : x5_1 < (l0.length : Int) := of_decide_eq_true d16_2
          obtain ⟨ad555, e555, hx555_0, hx555_1, hx555_2, hx555_3⟩ := at_T132 HR0.out x5_1 p555 q555
          obtain rfl : ad554 = ad555 := (by injection e555)
          replace p555 := eq_true p555
          replace q555 := eq_true q555
          go_wp2
          go_ret
          exact ⟨by first | rfl | (simp; done) | (simp [*]; done) | (simp [ne_nil_b, eq_nil_b]; done), by repeat (first | exact Drawn0.refl _ | apply Drawn0.step)⟩
         ·rw [if_neg c8] at H
          exact absurd H (by simp)
        ·rw [if_neg c7] at H
         exact absurd H (by simp)
       ·rw [if_neg c6] at H
        have c6b0 : (x5_1 == ((rd_T132 l0 a1).f1)) = false := beq_eq_false_iff_ne.mpr c6
        have c6b1 : (x5_1 != ((rd_T132 l0 a1).f1)) = true := bne_iff_ne.mpr c6
        by_cases c9 : 0 ≤ x5_1
        ·rw [if_pos c9] at H
         have c9b0 : decide (0 ≤ x5_1) = true := decide_eq_true c9
         clear c9
         by_cases c10 : x5_1 < (l0.length : Int)
         ·rw [if_pos c10] at H
          have c10b0 : decide (x5_1 < (l0.length : Int)) = true := decide_eq_true c10
          clear c10
          have H' := ak H
          clear H
          have p554 : 0 ≤ (a1 : Int) := of_decide_eq_true d16_2
          have q554 : a1 < (l0.length : Int) := of_decide_eq_true d16_2
          obtain ⟨ad554, e554, hx554_0, hx554_1, hx554_2, hx554_3⟩ := at_T132 HR0.out a1 p554 q554
          cases e554
          replace p554 := eq_true p554
          replace q554 := eq_true q554
          have p556 : 0 ≤ (x5_1 : Int) := of_decide_eq_true d16_2
          have q556 : x5_1 < (l0.length : Int) := of_decide_eq_true d16_2
          obtain ⟨ad556, e556, hx556_0, hx556_1, hx556_2, hx556_3⟩ := at_T132 HR0.out x5_1 p556 q556
          obtain rfl : ad554 = ad556 := (by injection e556)
          replace p556 := eq_true p556
          replace q556 := eq_true q556
          go_wp2
          go_roundg k1
          case measure => have := HK1.out; omega
          case rel => exact ⟨((rd_T132 l0 x5_1).f1), d16_3, H', ⟨by have := HK1.out; omega⟩, by repeat (first | exact Drawn0.refl _ | apply Drawn0.step)⟩
         ·rw [if_neg c10] at H
          exact absurd H (by simp)
        ·rw [if_neg c9] at H
         exact absurd H (by simp)
      ·rw [if_neg c5] at H
       exact absurd H (by simp)
     ·rw [if_neg c4] at H
      exact absurd H (by simp)
    ·rw [if_neg c3] at H
     have c3b0 : decide (0 ≤ x5_1) = false := decide_eq_false c3
     clear c3
     obtain rfl := Option.some.inj H
     go_wp2
     go_ret
     exact ⟨by first | rfl | (simp; done) | (simp [*]; done) | (simp [ne_nil_b, eq_nil_b]; done), by repeat (first | exact Drawn0.refl _ | apply Drawn0.step)⟩

/-! ### spec_l3Deep: function 121 -/
def spec_l3Deep.l0 : Nat → List (S132) → Int → Int → Option (Int)
  | 0, _, _, _ => none
  | k + 1, x0, x1, x5 => if x1 ≥ 0 then (if x5 < 100 then (if 0 ≤ x1 then (if x1 < (x0.length : Int) then (spec_l3Deep.l0 k x0 ((rd_T132 x0 x1).f1) (wrap64 (x5 + 1))) else (none)) else (none)) else (some x5)) else (some x5)
def spec_l3Deep.f (k : Nat) (l0 : List (S132)) (a1 : Int) : Option (Int) := spec_l3Deep.l0 k l0 a1 0
theorem spec_l3Deep.mono_l : ∀ k, (∀ y0 y1 y2, LeO (spec_l3Deep.l0 k y0 y1 y2) (spec_l3Deep.l0 (k + 1) y0 y1 y2))
  | 0 => fun _ _ _ r h => by simp [spec_l3Deep.l0] at h
  | k + 1 => by
    have ih0 := spec_l3Deep.mono_l k
    · intro y0 y1 y2
      unfold spec_l3Deep.l0
      repeat' first
      | (with_reducible exact ih0 _ _ _)
      | (with_reducible exact LeO.refl _)
      | (with_reducible exact LeO.none _)
      | (with_reducible refine LeO.ite ?_ ?_)
      | (with_reducible refine LeO.bind ?_ (fun _ => ?_))
      | exact ih0 _ _ _
      | exact LeO.none _
      | refine LeO.ite ?_ ?_
      | refine LeO.bind ?_ (fun _ => ?_)
theorem spec_l3Deep.mono : ∀ a0 a1 k, LeO (spec_l3Deep.f k a0 a1) (spec_l3Deep.f (k + 1) a0 a1) := by
  intro a0 a1 k
  have ih0 := spec_l3Deep.mono_l k
  unfold spec_l3Deep.f
  repeat' first
      | (with_reducible exact ih0 _ _ _)
      | (with_reducible exact LeO.refl _)
      | (with_reducible exact LeO.none _)
      | (with_reducible refine LeO.ite ?_ ?_)
      | (with_reducible refine LeO.bind ?_ (fun _ => ?_))
      | exact ih0 _ _ _
      | exact LeO.none _
      | refine LeO.ite ?_ ?_
      | refine LeO.bind ?_ (fun _ => ?_)
set_option maxHeartbeats 8000000 in
set_option maxRecDepth 100000 in
theorem spec_l3Deep.calls (k : Nat) (A0 : Option Addr) (c0 : Nat) (l0 : List (S132)) (a1 : Int) (r : Int) (w : World) (hr0 : Kd.C k132 w A0 l0.length l0) (hc0 : l0.length ≤ c0) (h : spec_l3Deep.f k l0 a1 = some r) :
    Calls Tryd.prog 121 #[.slice A0 l0.length c0, .int .i64 a1] w fun e w' => e = .returned (.int .i64 r) ∧ Drawn0 w w' := by
  have HR0 := ak hr0
  have HC0 := ak hc0
  clear hr0 hc0
  have H : (spec_l3Deep.l0 k l0 a1 0) = some r := h
  clear h
  have H' := ak H
  clear H
  go_enter Tryd.func121, Tryd.ntmps121
  go_wp2
  go_loopg [1, 5] k (fun kq v1 v5 w' => ∃ (x1_1 : Int) (x5_1 : Int), v1 = .int .i64 x1_1 ∧ v5 = .int .i64 x5_1 ∧ Aside0 (spec_l3Deep.l0 kq l0 x1_1 x5_1 = some r) ∧ Aside0 (kq ≤ k) ∧ Drawn0 w w')
  case atStart => exact ⟨(a1), (0), d16_3, d16_3, H', ⟨Nat.le_refl _⟩, by repeat (first | exact Drawn0.refl _ | apply Drawn0.step)⟩
  case round =>
   clear H'
   try clear c1
   try clear p2
   obtain ⟨x1_1, x5_1, rfl, rfl, HA, HK1, ⟨m1, rfl⟩⟩ := hrel
   cases gk with
   | zero => exact absurd HA.out (by simp [spec_l3Deep.l0])
   | succ k1 =>
    have H := HA.out
    clear HA
    simp only [spec_l3Deep.l0] at H
    by_cases c3 : x1_1 ≥ 0
    ·rw [if_pos c3] at H
     have c3b0 : decide (0 ≤ x1_1) = true := decide_eq_true c3
     clear c3
     by_cases c4 : x5_1 < 100
     ·rw [if_pos c4] at H
      have c4b0 : decide (x5_1 < 100) = true := decide_eq_true c4
      clear c4
      by_cases c5 : 0 ≤ x1_1
      ·rw [if_pos c5] at H
       have c5b0 : decide (0 ≤ x1_1) = true := decide_eq_true c5
       clear c5
       by_cases c6 : x1_1 < (l0.length : Int)
       ·rw [if_pos c6] at H
        have c6b0 : decide (x1_1 < (l0.length : Int)) = true := decide_eq_true c6
        clear c6
        have H' := ak H
        clear H
        have p557 : 0 ≤ (x1_1 : Int) := of_decide_eq_true d16_2
        have q557 : x1_1 < (l0.length : Int) := of_decide_eq_true d16_2
        obtain ⟨ad557, e557, hx557_0, hx557_1, hx557_2, hx557_3⟩ := at_T132 HR0.out x1_1 p557 q557
        cases e557
        replace p557 := eq_true p557
        replace q557 := eq_true q557
        go_wp2
        go_roundg k1
        case measure => have := HK1.out; omega
        case rel => exact ⟨((rd_T132 l0 x1_1).f1), (wrap64 (x5_1 + 1)), d16_3, d16_3, H', ⟨by have := HK1.out; omega⟩, by repeat (first | exact Drawn0.refl _ | apply Drawn0.step)⟩
       ·rw [if_neg c6] at H
        exact absurd H (by simp)
      ·rw [if_neg c5] at H
       exact absurd H (by simp)
     ·rw [if_neg c4] at H
      have c4b0 : decide (x5_1 < 100) = false := decide_eq_false c4
      clear c4
      obtain rfl := Option.some.inj H
      go_wp2
      go_ret
      exact ⟨by first | rfl | (simp; done) | (simp [*]; done) | (simp [ne_nil_b, eq_nil_b]; done), by repeat (first | exact Drawn0.refl _ | apply Drawn0.step)⟩
    ·rw [if_neg c3] at H
     have c3b0 : decide (0 ≤ x1_1) = false := decide_eq_false c3
     clear c3
     obtain rfl := Option.some.inj H
     go_wp2
     go_ret
     exact ⟨by first | rfl | (simp; done) | (simp [*]; done) | (simp [ne_nil_b, eq_nil_b]; done), by repeat (first | exact Drawn0.refl _ | apply Drawn0.step)⟩

end Go.Proofs.YthjfdohcdkpdnaaDoor.A
