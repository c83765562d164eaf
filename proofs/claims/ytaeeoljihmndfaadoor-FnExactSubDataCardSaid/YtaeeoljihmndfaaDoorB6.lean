/- Walks of the program's functions: each Go function's answer as a plain Lean function, and that the call comes to it. Written by a program. Conditions: those in each theorem's own head. -/
import Derived.Test.YtaeeoljihmndfaaDoorB0
import Derived.Test.YtaeeoljihmndfaaDoorB5
namespace Go.Proofs.YtaeeoljihmndfaaDoor.B
open Go.RowKit Go.Proofs.YtaeeoljihmndfaaDoorW.PrintWords Go.Proofs.YtaeeoljihmndfaaDoorW.PrintLast Go.Proofs.YtaeeoljihmndfaaDoorW.PrintMore
attribute [local go_sem] max2_int min2_int max_two min_two max_three min_three max_four min_four   -- for this text's walks alone
set_option linter.unusedVariables false
set_option linter.unusedSimpArgs false

/-! ### impl_isUp__impl_datumFault_1: function 122 -/
def impl_isUp__impl_datumFault_1.l0 : Nat → Int → Int → List (S99) → Option (Bool)
  | 0, _, _, _ => none
  | k + 1, x2, x7, x1000 => if x7 ≥ 0 then (if x7 = x2 then (some true) else ((impl_datumFault_1.f x7 x1000).bind fun t186 => (impl_isUp__impl_datumFault_1.l0 k x2 t186 x1000))) else (some false)
def impl_isUp__impl_datumFault_1.f (k : Nat) (l0_0 : List (S99)) (a1 : Int) (a2 : Int) : Option (Bool) := impl_isUp__impl_datumFault_1.l0 k a2 a1 l0_0
theorem impl_isUp__impl_datumFault_1.mono_l : ∀ k, (∀ y0 y1 y2, LeO (impl_isUp__impl_datumFault_1.l0 k y0 y1 y2) (impl_isUp__impl_datumFault_1.l0 (k + 1) y0 y1 y2))
  | 0 => fun _ _ _ r h => by simp [impl_isUp__impl_datumFault_1.l0] at h
  | k + 1 => by
    have ih0 := impl_isUp__impl_datumFault_1.mono_l k
    · intro y0 y1 y2
      unfold impl_isUp__impl_datumFault_1.l0
      repeat' first
      | (with_reducible exact ih0 _ _ _)
      | (with_reducible exact LeO.refl _)
      | (with_reducible exact LeO.none _)
      | (with_reducible refine LeO.ite ?_ ?_)
      | (with_reducible refine LeO.bind ?_ (fun _ => ?_))
      | exact ih0 _ _ _
      | exact LeO.none _
      | refine LeO.ite ?_ ?_
      | refine LeO.bind ?_ (fun _ => ?_)
theorem impl_isUp__impl_datumFault_1.mono : ∀ a0 a1 a2 k, LeO (impl_isUp__impl_datumFault_1.f k a0 a1 a2) (impl_isUp__impl_datumFault_1.f (k + 1) a0 a1 a2) := by
  intro a0 a1 a2 k
  have ih0 := impl_isUp__impl_datumFault_1.mono_l k
  unfold impl_isUp__impl_datumFault_1.f
  repeat' first
      | (with_reducible exact ih0 _ _ _)
      | (with_reducible exact LeO.refl _)
      | (with_reducible exact LeO.none _)
      | (with_reducible refine LeO.ite ?_ ?_)
      | (with_reducible refine LeO.bind ?_ (fun _ => ?_))
      | exact ih0 _ _ _
      | exact LeO.none _
      | refine LeO.ite ?_ ?_
      | refine LeO.bind ?_ (fun _ => ?_)
set_option maxHeartbeats 8000000 in
set_option maxRecDepth 100000 in
theorem impl_isUp__impl_datumFault_1.calls (k : Nat) (P0_0 : Addr) (A0_0 : Option Addr) (c0_0 : Nat) (l0_0 : List (S99)) (a1 : Int) (a2 : Int) (r : Bool) (w : World) (hq0_0 : w.cell? P0_0 = some (.slice A0_0 l0_0.length c0_0)) (hr0_0 : Kd.C k99 w A0_0 l0_0.length l0_0) (hc0_0 : l0_0.length ≤ c0_0) (h : impl_isUp__impl_datumFault_1.f k l0_0 a1 a2 = some r) :
    Calls Tryd.prog 122 #[.func (.func 123) #[] #[.pointer (some P0_0)], .int .i64 a1, .int .i64 a2] w fun e w' => e = .returned (.bool r) ∧ Drawn0 w w' := by
  have HQ0_0 := ak hq0_0
  clear hq0_0
  have HR0_0 := ak hr0_0
  have HC0_0 := ak hc0_0
  clear hr0_0 hc0_0
  have H : (impl_isUp__impl_datumFault_1.l0 k a2 a1 l0_0) = some r := h
  clear h
  have H' := ak H
  clear H
  go_enter Tryd.func122, Tryd.ntmps122
  go_wp2
  go_loopg [7] k (fun kq v7 w' => ∃ (x7_1 : Int), v7 = .int .i64 x7_1 ∧ Aside0 (impl_isUp__impl_datumFault_1.l0 kq a2 x7_1 l0_0 = some r) ∧ Aside0 (kq ≤ k) ∧ Drawn0 w w')
  case atStart => exact ⟨(a1), (by first | rfl | (simp; done) | (simp [*]; done) | (simp [ne_nil_b, eq_nil_b]; done)), H', ⟨Nat.le_refl _⟩, by repeat (first | exact Drawn0.refl _ | apply Drawn0.step)⟩
  case round =>
   clear H'
   try clear c1
   try clear p2
   obtain ⟨x7_1, rfl, HA, HK1, ⟨m1, rfl⟩⟩ := hrel
   cases gk with
   | zero => exact absurd HA.out (by simp [impl_isUp__impl_datumFault_1.l0])
   | succ k1 =>
    have H := HA.out
    clear HA
    simp only [impl_isUp__impl_datumFault_1.l0] at H
    by_cases c4 : x7_1 ≥ 0
    ·rw [if_pos c4] at H
     have c4b0 : decide (0 ≤ x7_1) = true := decide_eq_true c4
     clear c4
     by_cases c5 : x7_1 = a2
     ·rw [if_pos c5] at H
      have c5b0 : (x7_1 == a2) = true := beq_iff_eq.mpr c5
      have c5b1 : (x7_1 != a2) = false := bne_eq_false_iff_eq.mpr c5
      clear c5
      obtain rfl := Option.some.inj H
      go_wp2
      go_ret
      exact ⟨by first | rfl | (simp; done) | (simp [*]; done) | (simp [ne_nil_b, eq_nil_b]; done), by repeat (first | exact Drawn0.refl _ | apply Drawn0.step)⟩
     ·rw [if_neg c5] at H
      have c5b0 : (x7_1 == a2) = false := beq_eq_false_iff_ne.mpr c5
      have c5b1 : (x7_1 != a2) = true := bne_iff_ne.mpr c5
      replace H := Option.bind_eq_some_iff.mp H
      obtain ⟨t186, A60, H⟩ := H
      replace H : (impl_isUp__impl_datumFault_1.l0 k1 a2 t186 l0_0) = some r := H
      have A6 := ak A60
      clear A60
      have H' := ak H
      clear H
      have hx185_0 := HQ0_0.out
      go_wp2_with (first | (go_at_call 123; (with_reducible refine (impl_datumFault_1.calls x7_1 _ A0_0 c0_0 l0_0 t186 _ ?side1 ?side2 ?side3 A6.out).mono ?_); (case side1 => first | exact hx185_0 | (refine Eq.trans ?_ hx185_0; simp only [go_sem])); (case side2 => repeat (first | exact HR0_0.out | (with_reducible refine Kd.C_alloc ?_ _) | (with_reducible refine Kd.C_drewN ?_ _) | (with_reducible refine Kd.C_drew ?_))); (case side3 => exact HC0_0.out); rintro e w' ⟨rfl, ⟨nd, rfl⟩⟩))
      go_roundg k1
      case measure => have := HK1.out; omega
      case rel => exact ⟨(t186), (by first | rfl | (simp; done) | (simp [*]; done) | (simp [ne_nil_b, eq_nil_b]; done)), H', ⟨by have := HK1.out; omega⟩, by repeat (first | exact Drawn0.refl _ | apply Drawn0.step)⟩
    ·rw [if_neg c4] at H
     have c4b0 : decide (0 ≤ x7_1) = false := decide_eq_false c4
     clear c4
     obtain rfl := Option.some.inj H
     go_wp2
     go_ret
     exact ⟨by first | rfl | (simp; done) | (simp [*]; done) | (simp [ne_nil_b, eq_nil_b]; done), by repeat (first | exact Drawn0.refl _ | apply Drawn0.step)⟩

end Go.Proofs.YtaeeoljihmndfaaDoor.B
