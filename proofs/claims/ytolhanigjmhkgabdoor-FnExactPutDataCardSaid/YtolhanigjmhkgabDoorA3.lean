/- Walks of the program's functions: each Go function's answer as a plain Lean function, and that the call comes to it. Written by a program. Conditions: those in each theorem's own head. -/
import Derived.Test.YtolhanigjmhkgabDoorA0
import Derived.Test.YtolhanigjmhkgabDoorA1
import Derived.Test.YtolhanigjmhkgabDoorA2
namespace Go.Proofs.YtolhanigjmhkgabDoor.A
open Go.RowKit Go.Proofs.YtolhanigjmhkgabDoorW.PrintWords Go.Proofs.YtolhanigjmhkgabDoorW.PrintLast Go.Proofs.YtolhanigjmhkgabDoorW.PrintMore
attribute [local go_sem] max2_int min2_int max_two min_two max_three min_three max_four min_four   -- for this text's walks alone
set_option linter.unusedVariables false
set_option linter.unusedSimpArgs false

theorem d3_1 {p : Prop} (h : p := by (try simp only [List.map_toArray, List.map_cons, List.map_nil]); first | done | rfl | (simp only [List.length_drop, List.length_take]; rfl)) : p := h
theorem d3_2 {p : Prop} (h : p := by first | (with_reducible assumption) | assumption) : p := h
theorem d3_3 {p : Prop} (h : p := by first | rfl | (simp; done) | (simp [*]; done) | (simp [ne_nil_b, eq_nil_b]; done)) : p := h
theorem c3_1 {p : Prop} (h : p := by first | rfl | (simp; done) | (simp [*]; done) | (simp [ne_nil_b, eq_nil_b]; done)) : p := h
theorem c3_2 {p : Prop} (h : p := by repeat (first | exact Drawn0.refl _ | apply Drawn0.step)) : p := h
set_option maxHeartbeats 8000000
set_option maxRecDepth 100000
theorem zm3_0 {p : Prop} (h : p := by repeat' first | (with_reducible first | apply ih0 | exact LeO.refl _ | exact LeO.none _ | refine LeO.ite ?_ ?_ | refine LeO.bind ?_ (fun _ => ?_)) | apply ih0 | exact LeO.none _ | refine LeO.ite ?_ ?_ | refine LeO.bind ?_ (fun _ => ?_)) : p := h
theorem zm3_1 {p : Prop} (h : p := by repeat' first | (with_reducible first | apply ih0 | apply spec_l5Fault.mono | exact LeO.refl _ | exact LeO.none _ | refine LeO.ite ?_ ?_ | refine LeO.bind ?_ (fun _ => ?_)) | apply ih0 | apply spec_l5Fault.mono | exact LeO.none _ | refine LeO.ite ?_ ?_ | refine LeO.bind ?_ (fun _ => ?_)) : p := h

/-! ### spec_l5Heap: function 19 -/
def spec_l5Heap.l0 : Nat → List (S55) → Int → Option (Int)
  | 0, _, _ => none
  | k + 1, x0, x3 => if x3 < (x0.length : Int) then (if 0 ≤ x3 then ((spec_l5Fault.f k ((rd_T55 x0 x3).f0.f0) ((rd_T55 x0 x3).f0.f1) ((rd_T55 x0 x3).f0.f2)).bind fun t134 => (if t134 = 0 then ((spec_l5Fault.f k ((rd_T55 x0 x3).f1.f0) ((rd_T55 x0 x3).f1.f1) ((rd_T55 x0 x3).f1.f2)).bind fun t136 => (if t136 = 0 then ((spec_l5In.f ((rd_T55 x0 x3).f0.f0) ((rd_T55 x0 x3).f0.f1) ((rd_T55 x0 x3).f0.f2) x3).bind fun t138 => (if t138 = true then ((spec_l5In.f ((rd_T55 x0 x3).f1.f0) ((rd_T55 x0 x3).f1.f1) ((rd_T55 x0 x3).f1.f2) x3).bind fun t140 => (if t140 = true then (spec_l5Heap.l0 k x0 (wrap64 (x3 + 1))) else (some 1))) else (some 1))) else (some t136))) else (some t134))) else (none)) else (some 0)
def spec_l5Heap.f (k : Nat) (l0 : List (S55)) : Option (Int) := if (l0.length : Int) > 4000 then (some 2) else (spec_l5Heap.l0 k l0 0)
theorem spec_l5Heap.mono_l : ∀ k, (∀ y0 y1, LeO (spec_l5Heap.l0 k y0 y1) (spec_l5Heap.l0 (k + 1) y0 y1))
  | 0 => fun _ _ r h => by simp [spec_l5Heap.l0] at h
  | k + 1 => by
    have ih0 := spec_l5Heap.mono_l k
    · intro y0 y1
      unfold spec_l5Heap.l0
      exact zm3_1
theorem spec_l5Heap.mono : ∀ a0 k, LeO (spec_l5Heap.f k a0) (spec_l5Heap.f (k + 1) a0) := by
  intro a0 k; have ih0 := spec_l5Heap.mono_l k; unfold spec_l5Heap.f
  exact zm3_1
theorem spec_l5Heap.calls (k : Nat) (A0 : Option Addr) (c0 : Nat) (l0 : List (S55)) (r : Int) (w : World) (hr0 : Kd.C k55 w A0 l0.length l0) (hc0 : l0.length ≤ c0) (h : spec_l5Heap.f k l0 = some r) :
    Calls Tryd.prog 19 #[.slice A0 l0.length c0] w fun e w' => e = .returned (.int .i64 r) ∧ Drawn0 w w' := by
  have HR0 := ak hr0; have HC0 := ak hc0; clear hr0 hc0; have H := h; clear h; unfold spec_l5Heap.f at H; by_cases c2 : (l0.length : Int) > 4000
  ·rw [if_pos c2] at H
   have c2b0 : decide (4000 < (l0.length : Int)) = true := decide_eq_true c2; have c2b1 : decide (4000 < l0.length) = true := decide_eq_true (by omega); clear c2; obtain rfl := Option.some.inj H; go_enter Tryd.func19, Tryd.ntmps19; go_wp2; go_ret; exact ⟨c3_1, c3_2⟩
  ·rw [if_neg c2] at H
   have c2b0 : decide (4000 < (l0.length : Int)) = false := decide_eq_false c2; have c2b1 : decide (4000 < l0.length) = false := decide_eq_false (by omega); clear c2; have H' := ak H; clear H; go_enter Tryd.func19, Tryd.ntmps19; go_wp2; go_loopg [3] k (fun kq v3 w' => ∃ (x3_1 : Int), v3 = .int .i64 x3_1 ∧ Aside0 (spec_l5Heap.l0 kq l0 x3_1 = some r) ∧ Aside0 (kq ≤ k) ∧ Drawn0 w w')
   case atStart => exact ⟨(0), d3_3, H', ⟨Nat.le_refl _⟩, c3_2⟩
   case round =>
    clear H'
    (try clear c1); (try clear c2 c2b0 c2b1); (try clear p2)
    obtain ⟨x3_1, rfl, HA, HK1, ⟨m1, rfl⟩⟩ := hrel
    cases gk with
    | zero => exact absurd HA.out (by simp [spec_l5Heap.l0])
    | succ k1 =>
     have H := HA.out; clear HA; simp only [spec_l5Heap.l0] at H; by_cases c3 : x3_1 < (l0.length : Int)
     ·rw [if_pos c3] at H
      have c3b0 : decide (x3_1 < (l0.length : Int)) = true := decide_eq_true c3; clear c3; by_cases c4 : 0 ≤ x3_1
      ·rw [if_pos c4] at H
       have c4b0 : decide (0 ≤ x3_1) = true := decide_eq_true c4; clear c4; obtain ⟨t134, A5, H⟩ := zbi_ H; (try dsimp -simprocs only at H); by_cases c6 : t134 = 0
       ·rw [if_pos c6] at H
        obtain ⟨c6b0, c6b1⟩ := zbt_ c6; clear c6; obtain ⟨t136, A7, H⟩ := zbi_ H; (try dsimp -simprocs only at H); by_cases c8 : t136 = 0
        ·rw [if_pos c8] at H
         obtain ⟨c8b0, c8b1⟩ := zbt_ c8; clear c8; obtain ⟨t138, A9, H⟩ := zbi_ H; (try dsimp -simprocs only at H); by_cases c10 : t138 = true
         ·subst c10
          rw [if_pos rfl] at H; obtain ⟨t140, A11, H⟩ := zbi_ H; (try dsimp -simprocs only at H); by_cases c12 : t140 = true
          ·subst c12
           rw [if_pos rfl] at H; have H' := ak H; clear H; have p133 : 0 ≤ (x3_1 : Int) := of_decide_eq_true d3_2; have q133 : x3_1 < (l0.length : Int) := of_decide_eq_true d3_2; obtain ⟨ad133, e133, hx133_0, hx133_1, hx133_2, hx133_3, hx133_4, hx133_5⟩ := at_T55 HR0.out x3_1 p133 q133
           cases e133
           replace p133 := eq_true p133; replace q133 := eq_true q133
           go_wp2_with (first | (go_at_call 35; (with_reducible refine (spec_l5Fault.calls k1 _ ((rd_T55 l0 x3_1).f0.f0) ((rd_T55 l0 x3_1).f0.f1) ((rd_T55 l0 x3_1).f0.f2) t134 _ ?side1 ?side2 ?side3 A5.out).mono ?_); (case side1 => first | exact hx133_0 | (refine Eq.trans ?_ hx133_0; simp only [go_sem])); (case side2 => first | exact hx133_1 | (refine Eq.trans ?_ hx133_1; simp only [go_sem])); (case side3 => first | exact hx133_2 | (refine Eq.trans ?_ hx133_2; simp only [go_sem])); rintro e w' ⟨rfl, ⟨nd, rfl⟩⟩) | (go_at_call 35; (with_reducible refine (spec_l5Fault.calls k1 _ ((rd_T55 l0 x3_1).f1.f0) ((rd_T55 l0 x3_1).f1.f1) ((rd_T55 l0 x3_1).f1.f2) t136 _ ?side1 ?side2 ?side3 A7.out).mono ?_); (case side1 => first | exact hx133_3 | (refine Eq.trans ?_ hx133_3; simp only [go_sem])); (case side2 => first | exact hx133_4 | (refine Eq.trans ?_ hx133_4; simp only [go_sem])); (case side3 => first | exact hx133_5 | (refine Eq.trans ?_ hx133_5; simp only [go_sem])); rintro e w' ⟨rfl, ⟨nd, rfl⟩⟩) | (go_at_call 36; (with_reducible refine (spec_l5In.calls _ ((rd_T55 l0 x3_1).f0.f0) ((rd_T55 l0 x3_1).f0.f1) ((rd_T55 l0 x3_1).f0.f2) x3_1 true _ ?side1 ?side2 ?side3 A9.out).mono ?_); (case side1 => first | exact hx133_0 | (refine Eq.trans ?_ hx133_0; simp only [go_sem])); (case side2 => first | exact hx133_1 | (refine Eq.trans ?_ hx133_1; simp only [go_sem])); (case side3 => first | exact hx133_2 | (refine Eq.trans ?_ hx133_2; simp only [go_sem])); rintro e w' ⟨rfl, ⟨nd, rfl⟩⟩) | (go_at_call 36; (with_reducible refine (spec_l5In.calls _ ((rd_T55 l0 x3_1).f1.f0) ((rd_T55 l0 x3_1).f1.f1) ((rd_T55 l0 x3_1).f1.f2) x3_1 true _ ?side1 ?side2 ?side3 A11.out).mono ?_); (case side1 => first | exact hx133_3 | (refine Eq.trans ?_ hx133_3; simp only [go_sem])); (case side2 => first | exact hx133_4 | (refine Eq.trans ?_ hx133_4; simp only [go_sem])); (case side3 => first | exact hx133_5 | (refine Eq.trans ?_ hx133_5; simp only [go_sem])); rintro e w' ⟨rfl, ⟨nd, rfl⟩⟩))
           go_roundg k1
           case measure => have := HK1.out; omega
           case rel => exact ⟨(wrap64 (x3_1 + 1)), d3_3, H', ⟨by have := HK1.out; omega⟩, c3_2⟩
          ·replace c12 := Bool.eq_false_iff.mpr c12
           subst c12; rw [if_neg (show ¬ (false = true) by decide)] at H; obtain rfl := Option.some.inj H; have p133 : 0 ≤ (x3_1 : Int) := of_decide_eq_true d3_2; have q133 : x3_1 < (l0.length : Int) := of_decide_eq_true d3_2; obtain ⟨ad133, e133, hx133_0, hx133_1, hx133_2, hx133_3, hx133_4, hx133_5⟩ := at_T55 HR0.out x3_1 p133 q133
           cases e133
           replace p133 := eq_true p133; replace q133 := eq_true q133
           go_wp2_with (first | (go_at_call 35; (with_reducible refine (spec_l5Fault.calls k1 _ ((rd_T55 l0 x3_1).f0.f0) ((rd_T55 l0 x3_1).f0.f1) ((rd_T55 l0 x3_1).f0.f2) t134 _ ?side1 ?side2 ?side3 A5.out).mono ?_); (case side1 => first | exact hx133_0 | (refine Eq.trans ?_ hx133_0; simp only [go_sem])); (case side2 => first | exact hx133_1 | (refine Eq.trans ?_ hx133_1; simp only [go_sem])); (case side3 => first | exact hx133_2 | (refine Eq.trans ?_ hx133_2; simp only [go_sem])); rintro e w' ⟨rfl, ⟨nd, rfl⟩⟩) | (go_at_call 35; (with_reducible refine (spec_l5Fault.calls k1 _ ((rd_T55 l0 x3_1).f1.f0) ((rd_T55 l0 x3_1).f1.f1) ((rd_T55 l0 x3_1).f1.f2) t136 _ ?side1 ?side2 ?side3 A7.out).mono ?_); (case side1 => first | exact hx133_3 | (refine Eq.trans ?_ hx133_3; simp only [go_sem])); (case side2 => first | exact hx133_4 | (refine Eq.trans ?_ hx133_4; simp only [go_sem])); (case side3 => first | exact hx133_5 | (refine Eq.trans ?_ hx133_5; simp only [go_sem])); rintro e w' ⟨rfl, ⟨nd, rfl⟩⟩) | (go_at_call 36; (with_reducible refine (spec_l5In.calls _ ((rd_T55 l0 x3_1).f0.f0) ((rd_T55 l0 x3_1).f0.f1) ((rd_T55 l0 x3_1).f0.f2) x3_1 true _ ?side1 ?side2 ?side3 A9.out).mono ?_); (case side1 => first | exact hx133_0 | (refine Eq.trans ?_ hx133_0; simp only [go_sem])); (case side2 => first | exact hx133_1 | (refine Eq.trans ?_ hx133_1; simp only [go_sem])); (case side3 => first | exact hx133_2 | (refine Eq.trans ?_ hx133_2; simp only [go_sem])); rintro e w' ⟨rfl, ⟨nd, rfl⟩⟩) | (go_at_call 36; (with_reducible refine (spec_l5In.calls _ ((rd_T55 l0 x3_1).f1.f0) ((rd_T55 l0 x3_1).f1.f1) ((rd_T55 l0 x3_1).f1.f2) x3_1 false _ ?side1 ?side2 ?side3 A11.out).mono ?_); (case side1 => first | exact hx133_3 | (refine Eq.trans ?_ hx133_3; simp only [go_sem])); (case side2 => first | exact hx133_4 | (refine Eq.trans ?_ hx133_4; simp only [go_sem])); (case side3 => first | exact hx133_5 | (refine Eq.trans ?_ hx133_5; simp only [go_sem])); rintro e w' ⟨rfl, ⟨nd, rfl⟩⟩))
           go_ret; exact ⟨c3_1, c3_2⟩
         ·replace c10 := Bool.eq_false_iff.mpr c10
          subst c10; rw [if_neg (show ¬ (false = true) by decide)] at H; obtain rfl := Option.some.inj H; have p133 : 0 ≤ (x3_1 : Int) := of_decide_eq_true d3_2; have q133 : x3_1 < (l0.length : Int) := of_decide_eq_true d3_2; obtain ⟨ad133, e133, hx133_0, hx133_1, hx133_2, hx133_3, hx133_4, hx133_5⟩ := at_T55 HR0.out x3_1 p133 q133
          cases e133
          replace p133 := eq_true p133; replace q133 := eq_true q133
          go_wp2_with (first | (go_at_call 35; (with_reducible refine (spec_l5Fault.calls k1 _ ((rd_T55 l0 x3_1).f0.f0) ((rd_T55 l0 x3_1).f0.f1) ((rd_T55 l0 x3_1).f0.f2) t134 _ ?side1 ?side2 ?side3 A5.out).mono ?_); (case side1 => first | exact hx133_0 | (refine Eq.trans ?_ hx133_0; simp only [go_sem])); (case side2 => first | exact hx133_1 | (refine Eq.trans ?_ hx133_1; simp only [go_sem])); (case side3 => first | exact hx133_2 | (refine Eq.trans ?_ hx133_2; simp only [go_sem])); rintro e w' ⟨rfl, ⟨nd, rfl⟩⟩) | (go_at_call 35; (with_reducible refine (spec_l5Fault.calls k1 _ ((rd_T55 l0 x3_1).f1.f0) ((rd_T55 l0 x3_1).f1.f1) ((rd_T55 l0 x3_1).f1.f2) t136 _ ?side1 ?side2 ?side3 A7.out).mono ?_); (case side1 => first | exact hx133_3 | (refine Eq.trans ?_ hx133_3; simp only [go_sem])); (case side2 => first | exact hx133_4 | (refine Eq.trans ?_ hx133_4; simp only [go_sem])); (case side3 => first | exact hx133_5 | (refine Eq.trans ?_ hx133_5; simp only [go_sem])); rintro e w' ⟨rfl, ⟨nd, rfl⟩⟩) | (go_at_call 36; (with_reducible refine (spec_l5In.calls _ ((rd_T55 l0 x3_1).f0.f0) ((rd_T55 l0 x3_1).f0.f1) ((rd_T55 l0 x3_1).f0.f2) x3_1 false _ ?side1 ?side2 ?side3 A9.out).mono ?_); (case side1 => first | exact hx133_0 | (refine Eq.trans ?_ hx133_0; simp only [go_sem])); (case side2 => first | exact hx133_1 | (refine Eq.trans ?_ hx133_1; simp only [go_sem])); (case side3 => first | exact hx133_2 | (refine Eq.trans ?_ hx133_2; simp only [go_sem])); rintro e w' ⟨rfl, ⟨nd, rfl⟩⟩))
          go_ret; exact ⟨c3_1, c3_2⟩
        ·rw [if_neg c8] at H
         obtain ⟨c8b0, c8b1⟩ := zbf_ c8; obtain rfl := Option.some.inj H; have p133 : 0 ≤ (x3_1 : Int) := of_decide_eq_true d3_2; have q133 : x3_1 < (l0.length : Int) := of_decide_eq_true d3_2; obtain ⟨ad133, e133, hx133_0, hx133_1, hx133_2, hx133_3, hx133_4, hx133_5⟩ := at_T55 HR0.out x3_1 p133 q133
         cases e133
         replace p133 := eq_true p133; replace q133 := eq_true q133; go_wp2_with (first | (go_at_call 35; (with_reducible refine (spec_l5Fault.calls k1 _ ((rd_T55 l0 x3_1).f0.f0) ((rd_T55 l0 x3_1).f0.f1) ((rd_T55 l0 x3_1).f0.f2) t134 _ ?side1 ?side2 ?side3 A5.out).mono ?_); (case side1 => first | exact hx133_0 | (refine Eq.trans ?_ hx133_0; simp only [go_sem])); (case side2 => first | exact hx133_1 | (refine Eq.trans ?_ hx133_1; simp only [go_sem])); (case side3 => first | exact hx133_2 | (refine Eq.trans ?_ hx133_2; simp only [go_sem])); rintro e w' ⟨rfl, ⟨nd, rfl⟩⟩) | (go_at_call 35; (with_reducible refine (spec_l5Fault.calls k1 _ ((rd_T55 l0 x3_1).f1.f0) ((rd_T55 l0 x3_1).f1.f1) ((rd_T55 l0 x3_1).f1.f2) t136 _ ?side1 ?side2 ?side3 A7.out).mono ?_); (case side1 => first | exact hx133_3 | (refine Eq.trans ?_ hx133_3; simp only [go_sem])); (case side2 => first | exact hx133_4 | (refine Eq.trans ?_ hx133_4; simp only [go_sem])); (case side3 => first | exact hx133_5 | (refine Eq.trans ?_ hx133_5; simp only [go_sem])); rintro e w' ⟨rfl, ⟨nd, rfl⟩⟩)); go_ret; exact ⟨c3_1, c3_2⟩
       ·rw [if_neg c6] at H
        obtain ⟨c6b0, c6b1⟩ := zbf_ c6; obtain rfl := Option.some.inj H; have p133 : 0 ≤ (x3_1 : Int) := of_decide_eq_true d3_2; have q133 : x3_1 < (l0.length : Int) := of_decide_eq_true d3_2; obtain ⟨ad133, e133, hx133_0, hx133_1, hx133_2, hx133_3, hx133_4, hx133_5⟩ := at_T55 HR0.out x3_1 p133 q133
        cases e133
        replace p133 := eq_true p133; replace q133 := eq_true q133; go_wp2_with (first | (go_at_call 35; (with_reducible refine (spec_l5Fault.calls k1 _ ((rd_T55 l0 x3_1).f0.f0) ((rd_T55 l0 x3_1).f0.f1) ((rd_T55 l0 x3_1).f0.f2) t134 _ ?side1 ?side2 ?side3 A5.out).mono ?_); (case side1 => first | exact hx133_0 | (refine Eq.trans ?_ hx133_0; simp only [go_sem])); (case side2 => first | exact hx133_1 | (refine Eq.trans ?_ hx133_1; simp only [go_sem])); (case side3 => first | exact hx133_2 | (refine Eq.trans ?_ hx133_2; simp only [go_sem])); rintro e w' ⟨rfl, ⟨nd, rfl⟩⟩)); go_ret; exact ⟨c3_1, c3_2⟩
      ·rw [if_neg c4] at H
       exact absurd H (by simp)
     ·rw [if_neg c3] at H
      have c3b0 : decide (x3_1 < (l0.length : Int)) = false := decide_eq_false c3; clear c3; obtain rfl := Option.some.inj H; go_wp2; go_ret; exact ⟨c3_1, c3_2⟩

/-! ### spec_l3Bare: function 37 -/
def spec_l3Bare.f (a0_0 : Int) (a0_1 : Int) (a0_2 : Int) (a0_3 : ByteArray) : Option (Bool) := if a0_0 = 1 then ((spec_l1In.f a0_0 1 4).bind fun t142 => (if t142 = true then (if a0_0 = 3 then (some true) else (some (a0_3.toList == ([] : List UInt8)))) else (some false))) else ((spec_l1In.f a0_0 1 4).bind fun t143 => (if t143 = true then (if a0_0 = 2 then (if a0_0 = 3 then (some true) else (some (a0_3.toList == ([] : List UInt8)))) else (if a0_2 = 0 then (if a0_0 = 3 then (some true) else (some (a0_3.toList == ([] : List UInt8)))) else (some false))) else (some false)))
theorem spec_l3Bare.calls (P0_ : Addr) (a0_0 : Int) (a0_1 : Int) (a0_2 : Int) (a0_3 : ByteArray) (r : Bool) (w : World) (hq0_0 : w.cell? P0_ = some (.int .i64 a0_0)) (hq0_1 : w.cell? ⟨P0_.block, P0_.off + 1, none⟩ = some (.int .i64 a0_1)) (hq0_2 : w.cell? ⟨P0_.block, P0_.off + 2, none⟩ = some (.int .i64 a0_2)) (hq0_3 : w.cell? ⟨P0_.block, P0_.off + 3, none⟩ = some (.string a0_3)) (h : spec_l3Bare.f a0_0 a0_1 a0_2 a0_3 = some r) :
    Calls Tryd.prog 37 #[.pointer (some P0_)] w fun e w' => e = .returned (.bool r) ∧ Drawn0 w w' := by
  have HQ0_0 := ak hq0_0; clear hq0_0; have HQ0_1 := ak hq0_1; clear hq0_1; have HQ0_2 := ak hq0_2; clear hq0_2; have HQ0_3 := ak hq0_3; clear hq0_3; have H := h; clear h; unfold spec_l3Bare.f at H; by_cases c2 : a0_0 = 1
  ·rw [if_pos c2] at H
   obtain ⟨c2b0, c2b1⟩ := zbt_ c2; clear c2; obtain ⟨t142, A3, H⟩ := zbi_ H; (try dsimp -simprocs only at H); by_cases c4 : t142 = true
   ·subst c4
    rw [if_pos rfl] at H; by_cases c5 : a0_0 = 3
    ·rw [if_pos c5] at H
     obtain ⟨c5b0, c5b1⟩ := zbt_ c5; clear c5; obtain rfl := Option.some.inj H; have hx141_0 := HQ0_0.out; have hx141_1 := HQ0_1.out; have hx141_2 := HQ0_2.out; have hx141_3 := HQ0_3.out; go_enter Tryd.func37, Tryd.ntmps37; go_wp2_with (first | ((with_reducible refine gate_callee (f := 39) rfl ?_); refine zgo_ 20 Tryd.func39 #[.int .i64 a0_0, .int .i64 1, .int .i64 4] ?_ (e := d3_1); (with_reducible refine (spec_l1In.calls a0_0 1 4 true _ A3.out).mono ?_); rintro e w' ⟨rfl, ⟨nd, rfl⟩⟩; refine ⟨_, rfl, ?_⟩)); go_ret; exact ⟨c3_1, c3_2⟩
    ·rw [if_neg c5] at H
     obtain ⟨c5b0, c5b1⟩ := zbf_ c5; obtain rfl := Option.some.inj H; have hx141_0 := HQ0_0.out; have hx141_1 := HQ0_1.out; have hx141_2 := HQ0_2.out; have hx141_3 := HQ0_3.out; go_enter Tryd.func37, Tryd.ntmps37; go_wp2_with (first | ((with_reducible refine gate_callee (f := 39) rfl ?_); refine zgo_ 20 Tryd.func39 #[.int .i64 a0_0, .int .i64 1, .int .i64 4] ?_ (e := d3_1); (with_reducible refine (spec_l1In.calls a0_0 1 4 true _ A3.out).mono ?_); rintro e w' ⟨rfl, ⟨nd, rfl⟩⟩; refine ⟨_, rfl, ?_⟩)); go_ret; exact ⟨c3_1, c3_2⟩
   ·replace c4 := Bool.eq_false_iff.mpr c4
    subst c4; rw [if_neg (show ¬ (false = true) by decide)] at H; obtain rfl := Option.some.inj H; have hx141_0 := HQ0_0.out; have hx141_1 := HQ0_1.out; have hx141_2 := HQ0_2.out; have hx141_3 := HQ0_3.out; go_enter Tryd.func37, Tryd.ntmps37; go_wp2_with (first | ((with_reducible refine gate_callee (f := 39) rfl ?_); refine zgo_ 20 Tryd.func39 #[.int .i64 a0_0, .int .i64 1, .int .i64 4] ?_ (e := d3_1); (with_reducible refine (spec_l1In.calls a0_0 1 4 false _ A3.out).mono ?_); rintro e w' ⟨rfl, ⟨nd, rfl⟩⟩; refine ⟨_, rfl, ?_⟩)); go_ret; exact ⟨c3_1, c3_2⟩
  ·rw [if_neg c2] at H
   obtain ⟨c2b0, c2b1⟩ := zbf_ c2; obtain ⟨t143, A6, H⟩ := zbi_ H; (try dsimp -simprocs only at H); by_cases c7 : t143 = true
   ·subst c7
    rw [if_pos rfl] at H; by_cases c8 : a0_0 = 2
    ·rw [if_pos c8] at H
     obtain ⟨c8b0, c8b1⟩ := zbt_ c8; clear c8; by_cases c9 : a0_0 = 3
     ·rw [if_pos c9] at H
      obtain ⟨c9b0, c9b1⟩ := zbt_ c9; clear c9; obtain rfl := Option.some.inj H; have hx141_0 := HQ0_0.out; have hx141_1 := HQ0_1.out; have hx141_2 := HQ0_2.out; have hx141_3 := HQ0_3.out; go_enter Tryd.func37, Tryd.ntmps37; go_wp2_with (first | ((with_reducible refine gate_callee (f := 39) rfl ?_); refine zgo_ 20 Tryd.func39 #[.int .i64 a0_0, .int .i64 1, .int .i64 4] ?_ (e := d3_1); (with_reducible refine (spec_l1In.calls a0_0 1 4 true _ A6.out).mono ?_); rintro e w' ⟨rfl, ⟨nd, rfl⟩⟩; refine ⟨_, rfl, ?_⟩)); go_ret; exact ⟨c3_1, c3_2⟩
     ·rw [if_neg c9] at H
      obtain ⟨c9b0, c9b1⟩ := zbf_ c9; obtain rfl := Option.some.inj H; have hx141_0 := HQ0_0.out; have hx141_1 := HQ0_1.out; have hx141_2 := HQ0_2.out; have hx141_3 := HQ0_3.out; go_enter Tryd.func37, Tryd.ntmps37; go_wp2_with (first | ((with_reducible refine gate_callee (f := 39) rfl ?_); refine zgo_ 20 Tryd.func39 #[.int .i64 a0_0, .int .i64 1, .int .i64 4] ?_ (e := d3_1); (with_reducible refine (spec_l1In.calls a0_0 1 4 true _ A6.out).mono ?_); rintro e w' ⟨rfl, ⟨nd, rfl⟩⟩; refine ⟨_, rfl, ?_⟩)); go_ret; exact ⟨c3_1, c3_2⟩
    ·rw [if_neg c8] at H
     obtain ⟨c8b0, c8b1⟩ := zbf_ c8; by_cases c10 : a0_2 = 0
     ·rw [if_pos c10] at H
      obtain ⟨c10b0, c10b1⟩ := zbt_ c10; clear c10; by_cases c11 : a0_0 = 3
      ·rw [if_pos c11] at H
       obtain ⟨c11b0, c11b1⟩ := zbt_ c11; clear c11; obtain rfl := Option.some.inj H; have hx141_0 := HQ0_0.out; have hx141_1 := HQ0_1.out; have hx141_2 := HQ0_2.out; have hx141_3 := HQ0_3.out; go_enter Tryd.func37, Tryd.ntmps37; go_wp2_with (first | ((with_reducible refine gate_callee (f := 39) rfl ?_); refine zgo_ 20 Tryd.func39 #[.int .i64 a0_0, .int .i64 1, .int .i64 4] ?_ (e := d3_1); (with_reducible refine (spec_l1In.calls a0_0 1 4 true _ A6.out).mono ?_); rintro e w' ⟨rfl, ⟨nd, rfl⟩⟩; refine ⟨_, rfl, ?_⟩)); go_ret; exact ⟨c3_1, c3_2⟩
      ·rw [if_neg c11] at H
       obtain ⟨c11b0, c11b1⟩ := zbf_ c11; obtain rfl := Option.some.inj H; have hx141_0 := HQ0_0.out; have hx141_1 := HQ0_1.out; have hx141_2 := HQ0_2.out; have hx141_3 := HQ0_3.out; go_enter Tryd.func37, Tryd.ntmps37; go_wp2_with (first | ((with_reducible refine gate_callee (f := 39) rfl ?_); refine zgo_ 20 Tryd.func39 #[.int .i64 a0_0, .int .i64 1, .int .i64 4] ?_ (e := d3_1); (with_reducible refine (spec_l1In.calls a0_0 1 4 true _ A6.out).mono ?_); rintro e w' ⟨rfl, ⟨nd, rfl⟩⟩; refine ⟨_, rfl, ?_⟩)); go_ret; exact ⟨c3_1, c3_2⟩
     ·rw [if_neg c10] at H
      obtain ⟨c10b0, c10b1⟩ := zbf_ c10; obtain rfl := Option.some.inj H; have hx141_0 := HQ0_0.out; have hx141_1 := HQ0_1.out; have hx141_2 := HQ0_2.out; have hx141_3 := HQ0_3.out; go_enter Tryd.func37, Tryd.ntmps37; go_wp2_with (first | ((with_reducible refine gate_callee (f := 39) rfl ?_); refine zgo_ 20 Tryd.func39 #[.int .i64 a0_0, .int .i64 1, .int .i64 4] ?_ (e := d3_1); (with_reducible refine (spec_l1In.calls a0_0 1 4 true _ A6.out).mono ?_); rintro e w' ⟨rfl, ⟨nd, rfl⟩⟩; refine ⟨_, rfl, ?_⟩)); go_ret; exact ⟨c3_1, c3_2⟩
   ·replace c7 := Bool.eq_false_iff.mpr c7
    subst c7; rw [if_neg (show ¬ (false = true) by decide)] at H; obtain rfl := Option.some.inj H; have hx141_0 := HQ0_0.out; have hx141_1 := HQ0_1.out; have hx141_2 := HQ0_2.out; have hx141_3 := HQ0_3.out; go_enter Tryd.func37, Tryd.ntmps37; go_wp2_with (first | ((with_reducible refine gate_callee (f := 39) rfl ?_); refine zgo_ 20 Tryd.func39 #[.int .i64 a0_0, .int .i64 1, .int .i64 4] ?_ (e := d3_1); (with_reducible refine (spec_l1In.calls a0_0 1 4 false _ A6.out).mono ?_); rintro e w' ⟨rfl, ⟨nd, rfl⟩⟩; refine ⟨_, rfl, ?_⟩)); go_ret; exact ⟨c3_1, c3_2⟩

/-! ### spec_l3Line: function 41 -/
def spec_l3Line.l0 : Nat → List (S57) → Int → Int → Option (Bool)
  | 0, _, _, _ => none
  | k + 1, x0, x1, x5 => if x5 ≥ 0 then (if 0 ≤ x1 then (if x1 < (x0.length : Int) then (if x5 = ((rd_T57 x0 x1).f1) then (if 0 ≤ x5 then (if x5 < (x0.length : Int) then (some (((rd_T57 x0 x5).f0) == 4)) else (none)) else (none)) else (if 0 ≤ x5 then (if x5 < (x0.length : Int) then (spec_l3Line.l0 k x0 x1 ((rd_T57 x0 x5).f1)) else (none)) else (none))) else (none)) else (none)) else (some false)
def spec_l3Line.f (k : Nat) (l0 : List (S57)) (a1 : Int) : Option (Bool) := spec_l3Line.l0 k l0 a1 (wrap64 (a1 - 1))
theorem spec_l3Line.mono_l : ∀ k, (∀ y0 y1 y2, LeO (spec_l3Line.l0 k y0 y1 y2) (spec_l3Line.l0 (k + 1) y0 y1 y2))
  | 0 => fun _ _ _ r h => by simp [spec_l3Line.l0] at h
  | k + 1 => by
    have ih0 := spec_l3Line.mono_l k
    · intro y0 y1 y2
      unfold spec_l3Line.l0
      exact zm3_0
theorem spec_l3Line.mono : ∀ a0 a1 k, LeO (spec_l3Line.f k a0 a1) (spec_l3Line.f (k + 1) a0 a1) := by
  intro a0 a1 k; have ih0 := spec_l3Line.mono_l k; unfold spec_l3Line.f
  exact zm3_0
theorem spec_l3Line.calls (k : Nat) (A0 : Option Addr) (c0 : Nat) (l0 : List (S57)) (a1 : Int) (r : Bool) (w : World) (hr0 : Kd.C k57 w A0 l0.length l0) (hc0 : l0.length ≤ c0) (h : spec_l3Line.f k l0 a1 = some r) :
    Calls Tryd.prog 41 #[.slice A0 l0.length c0, .int .i64 a1] w fun e w' => e = .returned (.bool r) ∧ Drawn0 w w' := by
  have HR0 := ak hr0; have HC0 := ak hc0; clear hr0 hc0; have H := h; clear h; unfold spec_l3Line.f at H; have H' := ak H; clear H; go_enter Tryd.func41, Tryd.ntmps41; go_wp2; go_loopg [5] k (fun kq v5 w' => ∃ (x5_1 : Int), v5 = .int .i64 x5_1 ∧ Aside0 (spec_l3Line.l0 kq l0 a1 x5_1 = some r) ∧ Aside0 (kq ≤ k) ∧ Drawn0 w w')
  case atStart => exact ⟨(wrap64 (a1 - 1)), d3_3, H', ⟨Nat.le_refl _⟩, c3_2⟩
  case round =>
   clear H'
   try clear p2
   obtain ⟨x5_1, rfl, HA, HK1, ⟨m1, rfl⟩⟩ := hrel
   cases gk with
   | zero => exact absurd HA.out (by simp [spec_l3Line.l0])
   | succ k1 =>
    have H := HA.out; clear HA; simp only [spec_l3Line.l0] at H; by_cases c3 : x5_1 ≥ 0
    ·rw [if_pos c3] at H
     have c3b0 : decide (0 ≤ x5_1) = true := decide_eq_true c3; clear c3; by_cases c4 : 0 ≤ a1
     ·rw [if_pos c4] at H
      have c4b0 : decide (0 ≤ a1) = true := decide_eq_true c4; clear c4; by_cases c5 : a1 < (l0.length : Int)
      ·rw [if_pos c5] at H
       have c5b0 : decide (a1 < (l0.length : Int)) = true := decide_eq_true c5; clear c5; by_cases c6 : x5_1 = ((rd_T57 l0 a1).f1)
       ·rw [if_pos c6] at H
        obtain ⟨c6b0, c6b1⟩ := zbt_ c6; clear c6; by_cases c7 : 0 ≤ x5_1
        ·rw [if_pos c7] at H
         have c7b0 : decide (0 ≤ x5_1) = true := decide_eq_true c7; clear c7; by_cases c8 : x5_1 < (l0.length : Int)
         ·rw [if_pos c8] at H
          have c8b0 : decide (x5_1 < (l0.length : Int)) = true := decide_eq_true c8; clear c8; obtain rfl := Option.some.inj H; have p144 : 0 ≤ (a1 : Int) := of_decide_eq_true d3_2; have q144 : a1 < (l0.length : Int) := of_decide_eq_true d3_2; obtain ⟨ad144, e144, hx144_0, hx144_1, hx144_2, hx144_3⟩ := at_T57 HR0.out a1 p144 q144
          cases e144
          replace p144 := eq_true p144; replace q144 := eq_true q144; have p145 : 0 ≤ (x5_1 : Int) := of_decide_eq_true d3_2; have q145 : x5_1 < (l0.length : Int) := of_decide_eq_true d3_2; obtain ⟨ad145, e145, hx145_0, hx145_1, hx145_2, hx145_3⟩ := at_T57 HR0.out x5_1 p145 q145; obtain rfl : ad144 = ad145 := (by injection e145); replace p145 := eq_true p145; replace q145 := eq_true q145; go_wp2; go_ret; exact ⟨c3_1, c3_2⟩
         ·rw [if_neg c8] at H
          exact absurd H (by simp)
        ·rw [if_neg c7] at H
         exact absurd H (by simp)
       ·rw [if_neg c6] at H
        obtain ⟨c6b0, c6b1⟩ := zbf_ c6; by_cases c9 : 0 ≤ x5_1
        ·rw [if_pos c9] at H
         have c9b0 : decide (0 ≤ x5_1) = true := decide_eq_true c9; clear c9; by_cases c10 : x5_1 < (l0.length : Int)
         ·rw [if_pos c10] at H
          have c10b0 : decide (x5_1 < (l0.length : Int)) = true := decide_eq_true c10; clear c10; have H' := ak H; clear H; have p144 : 0 ≤ (a1 : Int) := of_decide_eq_true d3_2; have q144 : a1 < (l0.length : Int) := of_decide_eq_true d3_2; obtain ⟨ad144, e144, hx144_0, hx144_1, hx144_2, hx144_3⟩ := at_T57 HR0.out a1 p144 q144
          cases e144
          replace p144 := eq_true p144; replace q144 := eq_true q144; have p146 : 0 ≤ (x5_1 : Int) := of_decide_eq_true d3_2; have q146 : x5_1 < (l0.length : Int) := of_decide_eq_true d3_2; obtain ⟨ad146, e146, hx146_0, hx146_1, hx146_2, hx146_3⟩ := at_T57 HR0.out x5_1 p146 q146; obtain rfl : ad144 = ad146 := (by injection e146); replace p146 := eq_true p146; replace q146 := eq_true q146; go_wp2; go_roundg k1
          case measure => have := HK1.out; omega
          case rel => exact ⟨((rd_T57 l0 x5_1).f1), d3_3, H', ⟨by have := HK1.out; omega⟩, c3_2⟩
         ·rw [if_neg c10] at H
          exact absurd H (by simp)
        ·rw [if_neg c9] at H
         exact absurd H (by simp)
      ·rw [if_neg c5] at H
       exact absurd H (by simp)
     ·rw [if_neg c4] at H
      exact absurd H (by simp)
    ·rw [if_neg c3] at H
     have c3b0 : decide (0 ≤ x5_1) = false := decide_eq_false c3; clear c3; obtain rfl := Option.some.inj H; go_wp2; go_ret; exact ⟨c3_1, c3_2⟩

/-! ### spec_l3Deep: function 42 -/
def spec_l3Deep.l0 : Nat → List (S57) → Int → Int → Option (Int)
  | 0, _, _, _ => none
  | k + 1, x0, x1, x5 => if x1 ≥ 0 then (if x5 < 100 then (if 0 ≤ x1 then (if x1 < (x0.length : Int) then (spec_l3Deep.l0 k x0 ((rd_T57 x0 x1).f1) (wrap64 (x5 + 1))) else (none)) else (none)) else (some x5)) else (some x5)
def spec_l3Deep.f (k : Nat) (l0 : List (S57)) (a1 : Int) : Option (Int) := spec_l3Deep.l0 k l0 a1 0
theorem spec_l3Deep.mono_l : ∀ k, (∀ y0 y1 y2, LeO (spec_l3Deep.l0 k y0 y1 y2) (spec_l3Deep.l0 (k + 1) y0 y1 y2))
  | 0 => fun _ _ _ r h => by simp [spec_l3Deep.l0] at h
  | k + 1 => by
    have ih0 := spec_l3Deep.mono_l k
    · intro y0 y1 y2
      unfold spec_l3Deep.l0
      exact zm3_0
theorem spec_l3Deep.mono : ∀ a0 a1 k, LeO (spec_l3Deep.f k a0 a1) (spec_l3Deep.f (k + 1) a0 a1) := by
  intro a0 a1 k; have ih0 := spec_l3Deep.mono_l k; unfold spec_l3Deep.f
  exact zm3_0
theorem spec_l3Deep.calls (k : Nat) (A0 : Option Addr) (c0 : Nat) (l0 : List (S57)) (a1 : Int) (r : Int) (w : World) (hr0 : Kd.C k57 w A0 l0.length l0) (hc0 : l0.length ≤ c0) (h : spec_l3Deep.f k l0 a1 = some r) :
    Calls Tryd.prog 42 #[.slice A0 l0.length c0, .int .i64 a1] w fun e w' => e = .returned (.int .i64 r) ∧ Drawn0 w w' := by
  have HR0 := ak hr0; have HC0 := ak hc0; clear hr0 hc0; have H := h; clear h; unfold spec_l3Deep.f at H; have H' := ak H; clear H; go_enter Tryd.func42, Tryd.ntmps42; go_wp2; go_loopg [1, 5] k (fun kq v1 v5 w' => ∃ (x1_1 : Int) (x5_1 : Int), v1 = .int .i64 x1_1 ∧ v5 = .int .i64 x5_1 ∧ Aside0 (spec_l3Deep.l0 kq l0 x1_1 x5_1 = some r) ∧ Aside0 (kq ≤ k) ∧ Drawn0 w w')
  case atStart => exact ⟨(a1), (0), d3_3, d3_3, H', ⟨Nat.le_refl _⟩, c3_2⟩
  case round =>
   clear H'
   try clear p2
   obtain ⟨x1_1, x5_1, rfl, rfl, HA, HK1, ⟨m1, rfl⟩⟩ := hrel
   cases gk with
   | zero => exact absurd HA.out (by simp [spec_l3Deep.l0])
   | succ k1 =>
    have H := HA.out; clear HA; simp only [spec_l3Deep.l0] at H; by_cases c3 : x1_1 ≥ 0
    ·rw [if_pos c3] at H
     have c3b0 : decide (0 ≤ x1_1) = true := decide_eq_true c3; clear c3; by_cases c4 : x5_1 < 100
     ·rw [if_pos c4] at H
      have c4b0 : decide (x5_1 < 100) = true := decide_eq_true c4; clear c4; by_cases c5 : 0 ≤ x1_1
      ·rw [if_pos c5] at H
       have c5b0 : decide (0 ≤ x1_1) = true := decide_eq_true c5; clear c5; by_cases c6 : x1_1 < (l0.length : Int)
       ·rw [if_pos c6] at H
        have c6b0 : decide (x1_1 < (l0.length : Int)) = true := decide_eq_true c6; clear c6; have H' := ak H; clear H; have p147 : 0 ≤ (x1_1 : Int) := of_decide_eq_true d3_2; have q147 : x1_1 < (l0.length : Int) := of_decide_eq_true d3_2; obtain ⟨ad147, e147, hx147_0, hx147_1, hx147_2, hx147_3⟩ := at_T57 HR0.out x1_1 p147 q147
        cases e147
        replace p147 := eq_true p147; replace q147 := eq_true q147; go_wp2; go_roundg k1
        case measure => have := HK1.out; omega
        case rel => exact ⟨((rd_T57 l0 x1_1).f1), (wrap64 (x5_1 + 1)), d3_3, d3_3, H', ⟨by have := HK1.out; omega⟩, c3_2⟩
       ·rw [if_neg c6] at H
        exact absurd H (by simp)
      ·rw [if_neg c5] at H
       exact absurd H (by simp)
     ·rw [if_neg c4] at H
      have c4b0 : decide (x5_1 < 100) = false := decide_eq_false c4; clear c4; obtain rfl := Option.some.inj H; go_wp2; go_ret; exact ⟨c3_1, c3_2⟩
    ·rw [if_neg c3] at H
     have c3b0 : decide (0 ≤ x1_1) = false := decide_eq_false c3; clear c3; obtain rfl := Option.some.inj H; go_wp2; go_ret; exact ⟨c3_1, c3_2⟩

end Go.Proofs.YtolhanigjmhkgabDoor.A
