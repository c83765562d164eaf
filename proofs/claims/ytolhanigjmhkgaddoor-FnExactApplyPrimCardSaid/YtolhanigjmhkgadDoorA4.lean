/- Walks of the program's functions: each Go function's answer as a plain Lean function, and that the call comes to it. Written by a program. Conditions: those in each theorem's own head. -/
import Derived.Test.YtolhanigjmhkgadDoorA0
import Derived.Test.YtolhanigjmhkgadDoorA2
import Derived.Test.YtolhanigjmhkgadDoorA3
namespace Go.Proofs.YtolhanigjmhkgadDoor.A
open Go.RowKit Go.Proofs.YtolhanigjmhkgadDoorW.PrintWords Go.Proofs.YtolhanigjmhkgadDoorW.PrintLast Go.Proofs.YtolhanigjmhkgadDoorW.PrintMore
attribute [local go_sem] max2_int min2_int max_two min_two max_three min_three max_four min_four   -- for this text's walks alone
set_option linter.unusedVariables false
set_option linter.unusedSimpArgs false

theorem d4_1 {p : Prop} (h : p := by repeat (first | (with_reducible first | exact HB.out | apply below_alloc | apply pw_below_drewN | apply below_drew1) | exact HB.out)) : p := h
theorem d4_2 {p : Prop} (h : p := by (try simp only [List.map_toArray, List.map_cons, List.map_nil]); first | done | rfl | (simp only [List.length_drop, List.length_take]; rfl)) : p := h
theorem d4_3 {p : Prop} (h : p := by first | (with_reducible assumption) | assumption) : p := h
theorem c4_1 {p : Prop} (h : p := by first | rfl | (simp; done) | (simp [*]; done) | (simp [ne_nil_b, eq_nil_b]; done)) : p := h
theorem c4_2 {p : Prop} (h : p := by repeat (first | exact Drawn0.refl _ | apply Drawn0.step)) : p := h
theorem c4_3 {p : Prop} (h : p := by repeat (first | exact HR0.out | (with_reducible refine Kd.C_alloc ?_ _) | (with_reducible refine Kd.C_drewN ?_ _) | (with_reducible refine Kd.C_drew ?_))) : p := h
set_option maxHeartbeats 8000000
set_option maxRecDepth 100000
theorem z4c {w : World} {g : Nat} {t : TypeId} {cs : Array Value} (h : w.heap[g]? = some (.cells cs t (0, 0))) (i : Nat) {v : Value} (e : cs[i]? = some v) : w.cell? ⟨g, i, none⟩ = some v := (blk_cell h i).trans e
theorem zm4_0 {p : Prop} (h : p := by repeat' first | (with_reducible first | apply ih0 | apply spec_l5Fault.mono | exact LeO.refl _ | exact LeO.none _ | refine LeO.ite ?_ ?_ | refine LeO.bind ?_ (fun _ => ?_)) | apply ih0 | apply spec_l5Fault.mono | exact LeO.none _ | refine LeO.ite ?_ ?_ | refine LeO.bind ?_ (fun _ => ?_)) : p := h
theorem zm4_1 {p : Prop} (h : p := by repeat' first | (with_reducible first | apply ih0 | exact LeO.refl _ | exact LeO.none _ | refine LeO.ite ?_ ?_ | refine LeO.bind ?_ (fun _ => ?_)) | apply ih0 | exact LeO.none _ | refine LeO.ite ?_ ?_ | refine LeO.bind ?_ (fun _ => ?_)) : p := h

/-! ### spec_l5Heap: function 19 -/
def spec_l5Heap.l0 : Nat → List (S56) → Int → Option (Int)
  | 0, _, _ => none
  | k + 1, x0, x3 => if x3 < (x0.length : Int) then (if 0 ≤ x3 then ((spec_l5Fault.f k ((rd_T56 x0 x3).f0.f0) ((rd_T56 x0 x3).f0.f1) ((rd_T56 x0 x3).f0.f2)).bind fun t133 => (if t133 = 0 then ((spec_l5Fault.f k ((rd_T56 x0 x3).f1.f0) ((rd_T56 x0 x3).f1.f1) ((rd_T56 x0 x3).f1.f2)).bind fun t135 => (if t135 = 0 then ((spec_l5In.f ((rd_T56 x0 x3).f0.f0) ((rd_T56 x0 x3).f0.f1) ((rd_T56 x0 x3).f0.f2) x3).bind fun t137 => (if t137 = true then ((spec_l5In.f ((rd_T56 x0 x3).f1.f0) ((rd_T56 x0 x3).f1.f1) ((rd_T56 x0 x3).f1.f2) x3).bind fun t139 => (if t139 = true then (spec_l5Heap.l0 k x0 (wrap64 (x3 + 1))) else (some 1))) else (some 1))) else (some t135))) else (some t133))) else (none)) else (some 0)
def spec_l5Heap.f (k : Nat) (l0 : List (S56)) : Option (Int) := if (l0.length : Int) > 4000 then (some 2) else (spec_l5Heap.l0 k l0 0)
theorem spec_l5Heap.mono_l : ∀ k, (∀ y0 y1, LeO (spec_l5Heap.l0 k y0 y1) (spec_l5Heap.l0 (k + 1) y0 y1))
  | 0 => fun _ _ r h => by simp [spec_l5Heap.l0] at h
  | k + 1 => by
    have ih0 := spec_l5Heap.mono_l k
    · intro y0 y1
      unfold spec_l5Heap.l0
      exact zm4_0
theorem spec_l5Heap.mono : ∀ a0 k, LeO (spec_l5Heap.f k a0) (spec_l5Heap.f (k + 1) a0) := by
  intro a0 k; have ih0 := spec_l5Heap.mono_l k; unfold spec_l5Heap.f
  exact zm4_0
theorem spec_l5Heap.calls (k : Nat) (A0 : Option Addr) (c0 : Nat) (l0 : List (S56)) (r : Int) (w : World) (hr0 : Kd.C k56 w A0 l0.length l0) (hc0 : l0.length ≤ c0) (h : spec_l5Heap.f k l0 = some r) :
    Calls Tryd.prog 19 #[.slice A0 l0.length c0] w fun e w' => e = .returned (.int .i64 r) ∧ Drawn0 w w' := by
  have HR0 := ak hr0; have HC0 := ak hc0; clear hr0 hc0; have H := h; clear h; unfold spec_l5Heap.f at H; by_cases c2 : (l0.length : Int) > 4000
  ·rw [if_pos c2] at H
   have c2b0 : decide (4000 < (l0.length : Int)) = true := decide_eq_true c2; have c2b1 : decide (4000 < l0.length) = true := decide_eq_true (by omega); clear c2; obtain rfl := Option.some.inj H; go_enter Tryd.func19, Tryd.ntmps19; go_wp2; go_ret; exact ⟨c4_1, c4_2⟩
  ·rw [if_neg c2] at H
   have c2b0 : decide (4000 < (l0.length : Int)) = false := decide_eq_false c2; have c2b1 : decide (4000 < l0.length) = false := decide_eq_false (by omega); clear c2; have H' := ak H; clear H; go_enter Tryd.func19, Tryd.ntmps19; go_wp2; go_loopg [3] k (fun kq v3 w' => ∃ (x3_1 : Int), v3 = .int .i64 x3_1 ∧ Aside0 (spec_l5Heap.l0 kq l0 x3_1 = some r) ∧ Aside0 (kq ≤ k) ∧ Drawn0 w w')
   case atStart => exact ⟨(0), (by first | rfl | (simp; done) | (simp [*]; done) | (simp [ne_nil_b, eq_nil_b]; done)), H', ⟨Nat.le_refl _⟩, c4_2⟩
   case round =>
    clear H'
    (try clear c1); (try clear c2); (try clear c2b0); (try clear c2b1); (try clear p2)
    obtain ⟨x3_1, rfl, HA, HK1, ⟨m1, rfl⟩⟩ := hrel
    cases gk with
    | zero => exact absurd HA.out (by simp [spec_l5Heap.l0])
    | succ k1 =>
     have H := HA.out; clear HA; simp only [spec_l5Heap.l0] at H; by_cases c3 : x3_1 < (l0.length : Int)
     ·rw [if_pos c3] at H
      have c3b0 : decide (x3_1 < (l0.length : Int)) = true := decide_eq_true c3; clear c3; by_cases c4 : 0 ≤ x3_1
      ·rw [if_pos c4] at H
       have c4b0 : decide (0 ≤ x3_1) = true := decide_eq_true c4; clear c4; obtain ⟨t133, A5, H⟩ := zbi_ H; (try dsimp -simprocs only at H); by_cases c6 : t133 = 0
       ·rw [if_pos c6] at H
        obtain ⟨c6b0, c6b1⟩ := zbt_ c6; clear c6; obtain ⟨t135, A7, H⟩ := zbi_ H; (try dsimp -simprocs only at H); by_cases c8 : t135 = 0
        ·rw [if_pos c8] at H
         obtain ⟨c8b0, c8b1⟩ := zbt_ c8; clear c8; obtain ⟨t137, A9, H⟩ := zbi_ H; (try dsimp -simprocs only at H); by_cases c10 : t137 = true
         ·subst c10
          rw [if_pos rfl] at H; obtain ⟨t139, A11, H⟩ := zbi_ H; (try dsimp -simprocs only at H); by_cases c12 : t139 = true
          ·subst c12
           rw [if_pos rfl] at H; have H' := ak H; clear H; have p132 : 0 ≤ (x3_1 : Int) := of_decide_eq_true d4_3; have q132 : x3_1 < (l0.length : Int) := of_decide_eq_true d4_3; obtain ⟨ad132, e132, hx132_0, hx132_1, hx132_2, hx132_3, hx132_4, hx132_5⟩ := at_T56 HR0.out x3_1 p132 q132
           cases e132
           replace p132 := eq_true p132; replace q132 := eq_true q132
           go_wp2_with (first | (go_at_call 35; (with_reducible refine (spec_l5Fault.calls k1 _ ((rd_T56 l0 x3_1).f0.f0) ((rd_T56 l0 x3_1).f0.f1) ((rd_T56 l0 x3_1).f0.f2) t133 _ ?side1 ?side2 ?side3 A5.out).mono ?_); (case side1 => first | exact hx132_0 | (refine Eq.trans ?_ hx132_0; simp only [go_sem])); (case side2 => first | exact hx132_1 | (refine Eq.trans ?_ hx132_1; simp only [go_sem])); (case side3 => first | exact hx132_2 | (refine Eq.trans ?_ hx132_2; simp only [go_sem])); rintro e w' ⟨rfl, ⟨nd, rfl⟩⟩) | (go_at_call 35; (with_reducible refine (spec_l5Fault.calls k1 _ ((rd_T56 l0 x3_1).f1.f0) ((rd_T56 l0 x3_1).f1.f1) ((rd_T56 l0 x3_1).f1.f2) t135 _ ?side1 ?side2 ?side3 A7.out).mono ?_); (case side1 => first | exact hx132_3 | (refine Eq.trans ?_ hx132_3; simp only [go_sem])); (case side2 => first | exact hx132_4 | (refine Eq.trans ?_ hx132_4; simp only [go_sem])); (case side3 => first | exact hx132_5 | (refine Eq.trans ?_ hx132_5; simp only [go_sem])); rintro e w' ⟨rfl, ⟨nd, rfl⟩⟩) | (go_at_call 36; (with_reducible refine (spec_l5In.calls _ ((rd_T56 l0 x3_1).f0.f0) ((rd_T56 l0 x3_1).f0.f1) ((rd_T56 l0 x3_1).f0.f2) x3_1 true _ ?side1 ?side2 ?side3 A9.out).mono ?_); (case side1 => first | exact hx132_0 | (refine Eq.trans ?_ hx132_0; simp only [go_sem])); (case side2 => first | exact hx132_1 | (refine Eq.trans ?_ hx132_1; simp only [go_sem])); (case side3 => first | exact hx132_2 | (refine Eq.trans ?_ hx132_2; simp only [go_sem])); rintro e w' ⟨rfl, ⟨nd, rfl⟩⟩) | (go_at_call 36; (with_reducible refine (spec_l5In.calls _ ((rd_T56 l0 x3_1).f1.f0) ((rd_T56 l0 x3_1).f1.f1) ((rd_T56 l0 x3_1).f1.f2) x3_1 true _ ?side1 ?side2 ?side3 A11.out).mono ?_); (case side1 => first | exact hx132_3 | (refine Eq.trans ?_ hx132_3; simp only [go_sem])); (case side2 => first | exact hx132_4 | (refine Eq.trans ?_ hx132_4; simp only [go_sem])); (case side3 => first | exact hx132_5 | (refine Eq.trans ?_ hx132_5; simp only [go_sem])); rintro e w' ⟨rfl, ⟨nd, rfl⟩⟩))
           go_roundg k1
           case measure => have := HK1.out; omega
           case rel => exact ⟨(wrap64 (x3_1 + 1)), (by first | rfl | (simp; done) | (simp [*]; done) | (simp [ne_nil_b, eq_nil_b]; done)), H', ⟨by have := HK1.out; omega⟩, c4_2⟩
          ·replace c12 := Bool.eq_false_iff.mpr c12
           subst c12; rw [if_neg (show ¬ (false = true) by decide)] at H; obtain rfl := Option.some.inj H; have p132 : 0 ≤ (x3_1 : Int) := of_decide_eq_true d4_3; have q132 : x3_1 < (l0.length : Int) := of_decide_eq_true d4_3; obtain ⟨ad132, e132, hx132_0, hx132_1, hx132_2, hx132_3, hx132_4, hx132_5⟩ := at_T56 HR0.out x3_1 p132 q132
           cases e132
           replace p132 := eq_true p132; replace q132 := eq_true q132
           go_wp2_with (first | (go_at_call 35; (with_reducible refine (spec_l5Fault.calls k1 _ ((rd_T56 l0 x3_1).f0.f0) ((rd_T56 l0 x3_1).f0.f1) ((rd_T56 l0 x3_1).f0.f2) t133 _ ?side1 ?side2 ?side3 A5.out).mono ?_); (case side1 => first | exact hx132_0 | (refine Eq.trans ?_ hx132_0; simp only [go_sem])); (case side2 => first | exact hx132_1 | (refine Eq.trans ?_ hx132_1; simp only [go_sem])); (case side3 => first | exact hx132_2 | (refine Eq.trans ?_ hx132_2; simp only [go_sem])); rintro e w' ⟨rfl, ⟨nd, rfl⟩⟩) | (go_at_call 35; (with_reducible refine (spec_l5Fault.calls k1 _ ((rd_T56 l0 x3_1).f1.f0) ((rd_T56 l0 x3_1).f1.f1) ((rd_T56 l0 x3_1).f1.f2) t135 _ ?side1 ?side2 ?side3 A7.out).mono ?_); (case side1 => first | exact hx132_3 | (refine Eq.trans ?_ hx132_3; simp only [go_sem])); (case side2 => first | exact hx132_4 | (refine Eq.trans ?_ hx132_4; simp only [go_sem])); (case side3 => first | exact hx132_5 | (refine Eq.trans ?_ hx132_5; simp only [go_sem])); rintro e w' ⟨rfl, ⟨nd, rfl⟩⟩) | (go_at_call 36; (with_reducible refine (spec_l5In.calls _ ((rd_T56 l0 x3_1).f0.f0) ((rd_T56 l0 x3_1).f0.f1) ((rd_T56 l0 x3_1).f0.f2) x3_1 true _ ?side1 ?side2 ?side3 A9.out).mono ?_); (case side1 => first | exact hx132_0 | (refine Eq.trans ?_ hx132_0; simp only [go_sem])); (case side2 => first | exact hx132_1 | (refine Eq.trans ?_ hx132_1; simp only [go_sem])); (case side3 => first | exact hx132_2 | (refine Eq.trans ?_ hx132_2; simp only [go_sem])); rintro e w' ⟨rfl, ⟨nd, rfl⟩⟩) | (go_at_call 36; (with_reducible refine (spec_l5In.calls _ ((rd_T56 l0 x3_1).f1.f0) ((rd_T56 l0 x3_1).f1.f1) ((rd_T56 l0 x3_1).f1.f2) x3_1 false _ ?side1 ?side2 ?side3 A11.out).mono ?_); (case side1 => first | exact hx132_3 | (refine Eq.trans ?_ hx132_3; simp only [go_sem])); (case side2 => first | exact hx132_4 | (refine Eq.trans ?_ hx132_4; simp only [go_sem])); (case side3 => first | exact hx132_5 | (refine Eq.trans ?_ hx132_5; simp only [go_sem])); rintro e w' ⟨rfl, ⟨nd, rfl⟩⟩))
           go_ret; exact ⟨c4_1, c4_2⟩
         ·replace c10 := Bool.eq_false_iff.mpr c10
          subst c10; rw [if_neg (show ¬ (false = true) by decide)] at H; obtain rfl := Option.some.inj H; have p132 : 0 ≤ (x3_1 : Int) := of_decide_eq_true d4_3; have q132 : x3_1 < (l0.length : Int) := of_decide_eq_true d4_3; obtain ⟨ad132, e132, hx132_0, hx132_1, hx132_2, hx132_3, hx132_4, hx132_5⟩ := at_T56 HR0.out x3_1 p132 q132
          cases e132
          replace p132 := eq_true p132; replace q132 := eq_true q132
          go_wp2_with (first | (go_at_call 35; (with_reducible refine (spec_l5Fault.calls k1 _ ((rd_T56 l0 x3_1).f0.f0) ((rd_T56 l0 x3_1).f0.f1) ((rd_T56 l0 x3_1).f0.f2) t133 _ ?side1 ?side2 ?side3 A5.out).mono ?_); (case side1 => first | exact hx132_0 | (refine Eq.trans ?_ hx132_0; simp only [go_sem])); (case side2 => first | exact hx132_1 | (refine Eq.trans ?_ hx132_1; simp only [go_sem])); (case side3 => first | exact hx132_2 | (refine Eq.trans ?_ hx132_2; simp only [go_sem])); rintro e w' ⟨rfl, ⟨nd, rfl⟩⟩) | (go_at_call 35; (with_reducible refine (spec_l5Fault.calls k1 _ ((rd_T56 l0 x3_1).f1.f0) ((rd_T56 l0 x3_1).f1.f1) ((rd_T56 l0 x3_1).f1.f2) t135 _ ?side1 ?side2 ?side3 A7.out).mono ?_); (case side1 => first | exact hx132_3 | (refine Eq.trans ?_ hx132_3; simp only [go_sem])); (case side2 => first | exact hx132_4 | (refine Eq.trans ?_ hx132_4; simp only [go_sem])); (case side3 => first | exact hx132_5 | (refine Eq.trans ?_ hx132_5; simp only [go_sem])); rintro e w' ⟨rfl, ⟨nd, rfl⟩⟩) | (go_at_call 36; (with_reducible refine (spec_l5In.calls _ ((rd_T56 l0 x3_1).f0.f0) ((rd_T56 l0 x3_1).f0.f1) ((rd_T56 l0 x3_1).f0.f2) x3_1 false _ ?side1 ?side2 ?side3 A9.out).mono ?_); (case side1 => first | exact hx132_0 | (refine Eq.trans ?_ hx132_0; simp only [go_sem])); (case side2 => first | exact hx132_1 | (refine Eq.trans ?_ hx132_1; simp only [go_sem])); (case side3 => first | exact hx132_2 | (refine Eq.trans ?_ hx132_2; simp only [go_sem])); rintro e w' ⟨rfl, ⟨nd, rfl⟩⟩))
          go_ret; exact ⟨c4_1, c4_2⟩
        ·rw [if_neg c8] at H
         obtain ⟨c8b0, c8b1⟩ := zbf_ c8; obtain rfl := Option.some.inj H; have p132 : 0 ≤ (x3_1 : Int) := of_decide_eq_true d4_3; have q132 : x3_1 < (l0.length : Int) := of_decide_eq_true d4_3; obtain ⟨ad132, e132, hx132_0, hx132_1, hx132_2, hx132_3, hx132_4, hx132_5⟩ := at_T56 HR0.out x3_1 p132 q132
         cases e132
         replace p132 := eq_true p132; replace q132 := eq_true q132; go_wp2_with (first | (go_at_call 35; (with_reducible refine (spec_l5Fault.calls k1 _ ((rd_T56 l0 x3_1).f0.f0) ((rd_T56 l0 x3_1).f0.f1) ((rd_T56 l0 x3_1).f0.f2) t133 _ ?side1 ?side2 ?side3 A5.out).mono ?_); (case side1 => first | exact hx132_0 | (refine Eq.trans ?_ hx132_0; simp only [go_sem])); (case side2 => first | exact hx132_1 | (refine Eq.trans ?_ hx132_1; simp only [go_sem])); (case side3 => first | exact hx132_2 | (refine Eq.trans ?_ hx132_2; simp only [go_sem])); rintro e w' ⟨rfl, ⟨nd, rfl⟩⟩) | (go_at_call 35; (with_reducible refine (spec_l5Fault.calls k1 _ ((rd_T56 l0 x3_1).f1.f0) ((rd_T56 l0 x3_1).f1.f1) ((rd_T56 l0 x3_1).f1.f2) t135 _ ?side1 ?side2 ?side3 A7.out).mono ?_); (case side1 => first | exact hx132_3 | (refine Eq.trans ?_ hx132_3; simp only [go_sem])); (case side2 => first | exact hx132_4 | (refine Eq.trans ?_ hx132_4; simp only [go_sem])); (case side3 => first | exact hx132_5 | (refine Eq.trans ?_ hx132_5; simp only [go_sem])); rintro e w' ⟨rfl, ⟨nd, rfl⟩⟩)); go_ret; exact ⟨c4_1, c4_2⟩
       ·rw [if_neg c6] at H
        obtain ⟨c6b0, c6b1⟩ := zbf_ c6; obtain rfl := Option.some.inj H; have p132 : 0 ≤ (x3_1 : Int) := of_decide_eq_true d4_3; have q132 : x3_1 < (l0.length : Int) := of_decide_eq_true d4_3; obtain ⟨ad132, e132, hx132_0, hx132_1, hx132_2, hx132_3, hx132_4, hx132_5⟩ := at_T56 HR0.out x3_1 p132 q132
        cases e132
        replace p132 := eq_true p132; replace q132 := eq_true q132; go_wp2_with (first | (go_at_call 35; (with_reducible refine (spec_l5Fault.calls k1 _ ((rd_T56 l0 x3_1).f0.f0) ((rd_T56 l0 x3_1).f0.f1) ((rd_T56 l0 x3_1).f0.f2) t133 _ ?side1 ?side2 ?side3 A5.out).mono ?_); (case side1 => first | exact hx132_0 | (refine Eq.trans ?_ hx132_0; simp only [go_sem])); (case side2 => first | exact hx132_1 | (refine Eq.trans ?_ hx132_1; simp only [go_sem])); (case side3 => first | exact hx132_2 | (refine Eq.trans ?_ hx132_2; simp only [go_sem])); rintro e w' ⟨rfl, ⟨nd, rfl⟩⟩)); go_ret; exact ⟨c4_1, c4_2⟩
      ·rw [if_neg c4] at H
       exact absurd H (by simp)
     ·rw [if_neg c3] at H
      have c3b0 : decide (x3_1 < (l0.length : Int)) = false := decide_eq_false c3; clear c3; obtain rfl := Option.some.inj H; go_wp2; go_ret; exact ⟨c4_1, c4_2⟩

/-! ### spec_l5Asked: function 20 -/
def spec_l5Asked.f (k : Nat) (l0 : List (S56)) (a1_0 : Int) (a1_1 : Int) (a1_2 : ByteArray) : Option (Int) := (spec_l5Heap.f k l0).bind fun t140 => (if t140 = 0 then ((spec_l5Fault.f k a1_0 a1_1 a1_2).bind fun t142 => (if t142 = 0 then ((spec_l5In.f a1_0 a1_1 a1_2 (l0.length : Int)).bind fun t143 => (if t143 = true then (some 0) else (some 4))) else (some t142))) else (some t140))
theorem spec_l5Asked.mono : ∀ a0 a1 a2 a3 k, LeO (spec_l5Asked.f k a0 a1 a2 a3) (spec_l5Asked.f (k + 1) a0 a1 a2 a3) := by
  intro a0 a1 a2 a3 k; unfold spec_l5Asked.f
  repeat' first | (with_reducible first | apply spec_l5Fault.mono | apply spec_l5Heap.mono | exact LeO.refl _ | exact LeO.none _ | refine LeO.ite ?_ ?_ | refine LeO.bind ?_ (fun _ => ?_)) | apply spec_l5Fault.mono | apply spec_l5Heap.mono | exact LeO.none _ | refine LeO.ite ?_ ?_ | refine LeO.bind ?_ (fun _ => ?_)
theorem spec_l5Asked.calls (k : Nat) (A0 : Option Addr) (c0 : Nat) (l0 : List (S56)) (P1_ : Addr) (a1_0 : Int) (a1_1 : Int) (a1_2 : ByteArray) (r : Int) (w : World) (hr0 : Kd.C k56 w A0 l0.length l0) (hc0 : l0.length ≤ c0) (hq1_0 : w.cell? P1_ = some (.int .i64 a1_0)) (hq1_1 : w.cell? ⟨P1_.block, P1_.off + 1, none⟩ = some (.int .i64 a1_1)) (hq1_2 : w.cell? ⟨P1_.block, P1_.off + 2, none⟩ = some (.string a1_2)) (h : spec_l5Asked.f k l0 a1_0 a1_1 a1_2 = some r) :
    Calls Tryd.prog 20 #[.slice A0 l0.length c0, .pointer (some P1_)] w fun e w' => e = .returned (.int .i64 r) ∧ Drawn0 w w' := by
  have HR0 := ak hr0; have HC0 := ak hc0; clear hr0 hc0; have HQ1_0 := ak hq1_0; clear hq1_0; have HQ1_1 := ak hq1_1; clear hq1_1; have HQ1_2 := ak hq1_2; clear hq1_2; have H := h; clear h; unfold spec_l5Asked.f at H; obtain ⟨t140, A3, H⟩ := zbi_ H; (try dsimp -simprocs only at H); by_cases c4 : t140 = 0
  ·rw [if_pos c4] at H
   obtain ⟨c4b0, c4b1⟩ := zbt_ c4; clear c4; obtain ⟨t142, A5, H⟩ := zbi_ H; (try dsimp -simprocs only at H); by_cases c6 : t142 = 0
   ·rw [if_pos c6] at H
    obtain ⟨c6b0, c6b1⟩ := zbt_ c6; clear c6; obtain ⟨t143, A7, H⟩ := zbi_ H; (try dsimp -simprocs only at H); by_cases c8 : t143 = true
    ·subst c8
     rw [if_pos rfl] at H; obtain rfl := Option.some.inj H; go_enter Tryd.func20, Tryd.ntmps20; go_wp2_with (first | ((with_reducible refine gate_callee (f := 19) rfl ?_); refine zgo_ 8 Tryd.func19 #[.slice A0 l0.length c0] ?_ (e := d4_2); (with_reducible refine (spec_l5Heap.calls k _ _ l0 t140 _ ?side1 ?side2 A3.out).mono ?_); (case side1 => exact c4_3); (case side2 => exact HC0.out); rintro e w' ⟨rfl, ⟨nd, rfl⟩⟩; refine ⟨_, rfl, ?_⟩; have hx141_0 := HQ1_0.out; have hx141_1 := HQ1_1.out; have hx141_2 := HQ1_2.out) | (go_at_call 35; (with_reducible refine (spec_l5Fault.calls k _ a1_0 a1_1 a1_2 t142 _ ?side1 ?side2 ?side3 A5.out).mono ?_); (case side1 => first | exact hx141_0 | (refine Eq.trans ?_ hx141_0; simp only [go_sem])); (case side2 => first | exact hx141_1 | (refine Eq.trans ?_ hx141_1; simp only [go_sem])); (case side3 => first | exact hx141_2 | (refine Eq.trans ?_ hx141_2; simp only [go_sem])); rintro e w' ⟨rfl, ⟨nd, rfl⟩⟩) | (go_at_call 36; (with_reducible refine (spec_l5In.calls _ a1_0 a1_1 a1_2 (l0.length : Int) true _ ?side1 ?side2 ?side3 A7.out).mono ?_); (case side1 => first | exact hx141_0 | (refine Eq.trans ?_ hx141_0; simp only [go_sem])); (case side2 => first | exact hx141_1 | (refine Eq.trans ?_ hx141_1; simp only [go_sem])); (case side3 => first | exact hx141_2 | (refine Eq.trans ?_ hx141_2; simp only [go_sem])); rintro e w' ⟨rfl, ⟨nd, rfl⟩⟩)); go_ret; exact ⟨c4_1, c4_2⟩
    ·replace c8 := Bool.eq_false_iff.mpr c8
     subst c8; rw [if_neg (show ¬ (false = true) by decide)] at H; obtain rfl := Option.some.inj H; go_enter Tryd.func20, Tryd.ntmps20; go_wp2_with (first | ((with_reducible refine gate_callee (f := 19) rfl ?_); refine zgo_ 8 Tryd.func19 #[.slice A0 l0.length c0] ?_ (e := d4_2); (with_reducible refine (spec_l5Heap.calls k _ _ l0 t140 _ ?side1 ?side2 A3.out).mono ?_); (case side1 => exact c4_3); (case side2 => exact HC0.out); rintro e w' ⟨rfl, ⟨nd, rfl⟩⟩; refine ⟨_, rfl, ?_⟩; have hx141_0 := HQ1_0.out; have hx141_1 := HQ1_1.out; have hx141_2 := HQ1_2.out) | (go_at_call 35; (with_reducible refine (spec_l5Fault.calls k _ a1_0 a1_1 a1_2 t142 _ ?side1 ?side2 ?side3 A5.out).mono ?_); (case side1 => first | exact hx141_0 | (refine Eq.trans ?_ hx141_0; simp only [go_sem])); (case side2 => first | exact hx141_1 | (refine Eq.trans ?_ hx141_1; simp only [go_sem])); (case side3 => first | exact hx141_2 | (refine Eq.trans ?_ hx141_2; simp only [go_sem])); rintro e w' ⟨rfl, ⟨nd, rfl⟩⟩) | (go_at_call 36; (with_reducible refine (spec_l5In.calls _ a1_0 a1_1 a1_2 (l0.length : Int) false _ ?side1 ?side2 ?side3 A7.out).mono ?_); (case side1 => first | exact hx141_0 | (refine Eq.trans ?_ hx141_0; simp only [go_sem])); (case side2 => first | exact hx141_1 | (refine Eq.trans ?_ hx141_1; simp only [go_sem])); (case side3 => first | exact hx141_2 | (refine Eq.trans ?_ hx141_2; simp only [go_sem])); rintro e w' ⟨rfl, ⟨nd, rfl⟩⟩)); go_ret; exact ⟨c4_1, c4_2⟩
   ·rw [if_neg c6] at H
    obtain ⟨c6b0, c6b1⟩ := zbf_ c6; obtain rfl := Option.some.inj H; go_enter Tryd.func20, Tryd.ntmps20; go_wp2_with (first | ((with_reducible refine gate_callee (f := 19) rfl ?_); refine zgo_ 8 Tryd.func19 #[.slice A0 l0.length c0] ?_ (e := d4_2); (with_reducible refine (spec_l5Heap.calls k _ _ l0 t140 _ ?side1 ?side2 A3.out).mono ?_); (case side1 => exact c4_3); (case side2 => exact HC0.out); rintro e w' ⟨rfl, ⟨nd, rfl⟩⟩; refine ⟨_, rfl, ?_⟩; have hx141_0 := HQ1_0.out; have hx141_1 := HQ1_1.out; have hx141_2 := HQ1_2.out) | (go_at_call 35; (with_reducible refine (spec_l5Fault.calls k _ a1_0 a1_1 a1_2 t142 _ ?side1 ?side2 ?side3 A5.out).mono ?_); (case side1 => first | exact hx141_0 | (refine Eq.trans ?_ hx141_0; simp only [go_sem])); (case side2 => first | exact hx141_1 | (refine Eq.trans ?_ hx141_1; simp only [go_sem])); (case side3 => first | exact hx141_2 | (refine Eq.trans ?_ hx141_2; simp only [go_sem])); rintro e w' ⟨rfl, ⟨nd, rfl⟩⟩)); go_ret; exact ⟨c4_1, c4_2⟩
  ·rw [if_neg c4] at H
   obtain ⟨c4b0, c4b1⟩ := zbf_ c4; obtain rfl := Option.some.inj H; go_enter Tryd.func20, Tryd.ntmps20; go_wp2_with (first | ((with_reducible refine gate_callee (f := 19) rfl ?_); refine zgo_ 8 Tryd.func19 #[.slice A0 l0.length c0] ?_ (e := d4_2); (with_reducible refine (spec_l5Heap.calls k _ _ l0 t140 _ ?side1 ?side2 A3.out).mono ?_); (case side1 => exact c4_3); (case side2 => exact HC0.out); rintro e w' ⟨rfl, ⟨nd, rfl⟩⟩; refine ⟨_, rfl, ?_⟩)); go_ret; exact ⟨c4_1, c4_2⟩

/-! ### spec_l6Prim: function 21 -/
def spec_l6Prim.f (a0 : Int) : Option (Bool) := (spec_l1In.f a0 0 15).bind fun t144 => (some t144)
theorem spec_l6Prim.calls (a0 : Int) (r : Bool) (w : World) (h : spec_l6Prim.f a0 = some r) :
    Calls Tryd.prog 21 #[.int .i64 a0] w fun e w' => e = .returned (.bool r) ∧ Drawn0 w w' := by
  have H := h; clear h; unfold spec_l6Prim.f at H; obtain ⟨t144, A2, H⟩ := zbi_ H; (try dsimp -simprocs only at H); obtain rfl := Option.some.inj H; go_enter Tryd.func21, Tryd.ntmps21; go_wp2_with (first | ((with_reducible refine gate_callee (f := 37) rfl ?_); refine zgo_ 4 Tryd.func37 #[.int .i64 a0, .int .i64 0, .int .i64 15] ?_ (e := d4_2); (with_reducible refine (spec_l1In.calls a0 0 15 t144 _ A2.out).mono ?_); rintro e w' ⟨rfl, ⟨nd, rfl⟩⟩; refine ⟨_, rfl, ?_⟩)); go_ret; exact ⟨c4_1, c4_2⟩

/-! ### spec_l5Copy: function 22 -/
def spec_l5Copy.f (l0 : List (S56)) : Option ((List (S56))) := (some (([] : List (S56)) : List (S56))).bind fun y145 => (if y145.length + l0.length < 2199023255552 then (some (y145 ++ l0)) else (none))
theorem spec_l5Copy.calls (A0 : Option Addr) (c0 : Nat) (l0 : List (S56)) (r : List (S56)) (w : World) (hr0 : Kd.C k56 w A0 l0.length l0) (hc0 : l0.length ≤ c0) (h : spec_l5Copy.f l0 = some r) :
    Calls Tryd.prog 22 #[.slice A0 l0.length c0] w fun e w' => ∃ v0_ : Value, e = .returned (v0_) ∧ Kd.R k56 56 w' w.heap.size (fun _ => True) v0_ r ∧ Below w.heap.size w w' := by
  have HR0 := ak hr0; have HC0 := ak hc0; clear hr0 hc0; have HB := ak (Below.refl w.heap.size w); have H := h; clear h; unfold spec_l5Copy.f at H; obtain ⟨y145, hy145⟩ : ∃ y_ : List (S56), y_ = (([] : List (S56))) := ⟨_, rfl⟩
  replace H : (if y145.length + l0.length < 2199023255552 then (some (y145 ++ l0)) else (none)) = some r := by first | (rw [hy145]; with_reducible exact H) | (have H2_ := (Option.bind_some _ _).symm.trans H; rw [hy145]; with_reducible exact H2_) | (have H2_ := (Option.bind_some _ _).symm.trans H; with_reducible exact H2_) | with_reducible exact H | (rw [hy145]; exact H) | exact H
  have Ny145 := ak hy145; clear hy145; by_cases c2 : y145.length + l0.length < 2199023255552
  ·rw [if_pos c2] at H
   have LMc2 := ak c2; clear c2; obtain ⟨y148, hy148⟩ : ∃ y_ : List (S56), y_ = (y145 ++ l0) := ⟨_, rfl⟩
   replace H : (some y148) = some r := by first | (rw [hy148]; with_reducible exact H) | (have H2_ := (Option.bind_some _ _).symm.trans H; rw [hy148]; with_reducible exact H2_) | (have H2_ := (Option.bind_some _ _).symm.trans H; with_reducible exact H2_) | with_reducible exact H | (rw [hy148]; exact H) | exact H
   have Ny148 := ak hy148; clear hy148; obtain rfl := Option.some.inj H; go_enter Tryd.func22, Tryd.ntmps22
   go_wp2_with (first | ((with_reducible refine gate_dst (N := 3) rfl ?_); refine Kd.R_lit k56 _ 56 ?hg (N := 3) ?hd (xs := ([] : List (S56))) (inner := []) (ok := fun _ => True) (okp := fun _ => True) ?hr ?hp (fun _ hk => hk) trivial (Below.refl _ _) (Nat.le_refl _) (by simp) ?_; (case hd => rfl); (case hg => rfl); (case hr => first | (go_simp; done) | (go_simp; rfl)); (case hp => exact (Reps.none _ _)); intro v146 w3 ho4 hb hg_ hnew_; clear hg_ hnew_; (first | rw [← Ny145.out] at ho4 | (simp only [Int.reduceToNat] at ho4; rw [← Ny145.out] at ho4)); have HO147 := ak (Kd.R_lower ho4 (below_size d4_1)); replace HB := ak (below_step d4_1 hb); clear hb ho4) | ((with_reducible refine gate_builtin (b := .append) (xs := #[.tmp 3, .tmp 4]) rfl ?_); at_builtin; refine Kd.R_append_rows k56 (w0 := w) w.heap.size rfl (.tmp 3) (.tmp 4) 26 56 (.agg #[(.int .i64 0), (.int .i64 0), (.string ⟨#[]⟩), (.int .i64 0), (.int .i64 0), (.string ⟨#[]⟩)]) 64 rfl Tryd.underlying26 info56 rfl (by decide) (by omega) v146 y145 l0 _ _ _ (fun _ => True) (fun _ => False) rfl rfl ?aO ?aR (fun _ _ h => h) (fun _ h => h.elim) ?aF ?aB ?aS ?aL ?_; (case aR => repeat (first | exact (Kd.C_below HR0.out HB.out) | (with_reducible refine Kd.C_alloc ?_ _) | (with_reducible refine Kd.C_drewN ?_ _) | (with_reducible refine Kd.C_drew ?_))); (case aB => exact d4_1); (case aF => exact (fun _ _ => trivial)); (case aO => exact (by (with_reducible repeat (first | apply Kd.R_alloc | apply Kd.R_drewN | apply Kd.R_drew)); exact HO147.out)); (case aS => exact (below_size d4_1)); (case aL => have := LMc2.out; omega); intro v149 w5 ho hb hg hat; rw [← Ny148.out] at ho; have HO150 := ak (ho); replace HB := ak (hb); clear HO147 ho hb hg hat))
   go_ret; (try refine exists_and_left.mp ?_); exact ⟨_, by first | rfl | (simp [errW_none, errW_some] <;> rfl) | (simp [*, errW_none, errW_some] <;> rfl), by (with_reducible repeat (first | apply Kd.R_alloc | apply Kd.R_drewN | apply Kd.R_drew)); exact HO150.out, by repeat (first | (with_reducible first | exact HB.out | apply below_alloc | apply pw_below_drewN | apply below_drew1) | exact HB.out)⟩
  ·rw [if_neg c2] at H
   exact absurd H (by simp)

/-! ### spec_l6Takes: function 38 -/
def spec_l6Takes.j0 : Nat → Int → Bool → Option (Int × Int)
  | 0, _, _ => none
  | k + 1, x0, x4 => if x4 = true then (some (2, 2)) else (if x0 = 14 then (some (0, 3)) else (some (1, 1)))
def spec_l6Takes.f (k : Nat) (a0 : Int) : Option (Int × Int) := if a0 ≤ 7 then (spec_l6Takes.j0 k a0 true) else (spec_l6Takes.j0 k a0 (a0 == 12))
theorem spec_l6Takes.mono_l : ∀ k, (∀ y0 y1, LeO (spec_l6Takes.j0 k y0 y1) (spec_l6Takes.j0 (k + 1) y0 y1))
  | 0 => fun _ _ r h => by simp [spec_l6Takes.j0] at h
  | k + 1 => by
    have ih0 := spec_l6Takes.mono_l k
    · intro y0 y1
      unfold spec_l6Takes.j0
      exact zm4_1
theorem spec_l6Takes.mono : ∀ a0 k, LeO (spec_l6Takes.f k a0) (spec_l6Takes.f (k + 1) a0) := by
  intro a0 k; have ih0 := spec_l6Takes.mono_l k; unfold spec_l6Takes.f
  exact zm4_1
theorem spec_l6Takes.calls (k : Nat) (a0 : Int) (r1 : Int) (r2 : Int) (w : World) (h : spec_l6Takes.f k a0 = some (r1, r2)) :
    Calls Tryd.prog 38 #[.int .i64 a0] w fun e w' => e = .returned (.tuple #[.int .i64 r1, .int .i64 r2]) ∧ Drawn0 w w' := by
  have H := h; clear h; unfold spec_l6Takes.f at H; have HC2 := ak H; clear H; go_enter Tryd.func38, Tryd.ntmps38; go_upto_region 1 with (fail); go_cut [4] (fun v4 wc => ∃ (kq : Nat) (x4_1 : Bool), v4 = .bool x4_1 ∧ Aside0 (spec_l6Takes.j0 kq a0 x4_1 = some (r1, r2)) ∧ Aside0 (kq ≤ k) ∧ Drawn0 w wc)
  case first =>
   have H := HC2.out; clear HC2; by_cases c3 : a0 ≤ 7
   ·rw [if_pos c3] at H
    have c3b0 : decide (a0 ≤ 7) = true := decide_eq_true c3; clear c3
    (first | rw [c3b0] | (simp only [i64_w, i32_w]; rw [c3b0]) | skip)
    have H' := ak H; clear H; go_wp2; go_meet
    case rel => exact ⟨_, (true), (by first | rfl | (simp; done) | (simp [*]; done) | (simp [ne_nil_b, eq_nil_b]; done)), H', ⟨by first | exact Nat.le_refl _ | omega⟩, c4_2⟩
   ·rw [if_neg c3] at H
    have c3b0 : decide (a0 ≤ 7) = false := decide_eq_false c3; clear c3
    (first | rw [c3b0] | (simp only [i64_w, i32_w]; rw [c3b0]) | skip)
    have H' := ak H; clear H; go_wp2; go_meet
    case rel => exact ⟨_, ((a0 == 12)), (by first | rfl | (simp; done) | (simp [*]; done) | (simp [ne_nil_b, eq_nil_b]; done)), H', ⟨by first | exact Nat.le_refl _ | omega⟩, c4_2⟩
  case rest =>
   clear HC2
   try clear c3
   obtain ⟨kq, x4_1, rfl, HA, HJ1, ⟨mc1, rfl⟩⟩ := hcut
   cases kq with
   | zero => exact absurd HA.out (by simp [spec_l6Takes.j0])
   | succ kj1 =>
    have H := HA.out; clear HA; simp only [spec_l6Takes.j0] at H; by_cases c4 : x4_1 = true
    ·subst c4
     rw [if_pos rfl] at H; simp only [Option.some.injEq, Prod.mk.injEq] at H; obtain ⟨rfl, rfl⟩ := H; go_wp2; go_ret2; exact ⟨c4_1, c4_2⟩
    ·replace c4 := Bool.eq_false_iff.mpr c4
     subst c4; rw [if_neg (show ¬ (false = true) by decide)] at H; by_cases c5 : a0 = 14
     ·rw [if_pos c5] at H
      obtain ⟨c5b0, c5b1⟩ := zbt_ c5; clear c5; simp only [Option.some.injEq, Prod.mk.injEq] at H; obtain ⟨rfl, rfl⟩ := H; go_wp2; go_ret2; exact ⟨c4_1, c4_2⟩
     ·rw [if_neg c5] at H
      obtain ⟨c5b0, c5b1⟩ := zbf_ c5; simp only [Option.some.injEq, Prod.mk.injEq] at H; obtain ⟨rfl, rfl⟩ := H; go_wp2; go_ret2; exact ⟨c4_1, c4_2⟩

/-! ### spec_l6Bool: function 39 -/
def spec_l6Bool.f (a0 : Bool) : Option (Int × Int × ByteArray) := if a0 = true then (some (2, 1, (⟨#[]⟩ : ByteArray))) else (some (2, 0, (⟨#[]⟩ : ByteArray)))
theorem spec_l6Bool.calls (a0 : Bool) (r1 : Int) (r2 : Int) (r3 : ByteArray) (w : World) (h : spec_l6Bool.f a0 = some (r1, r2, r3)) :
    Calls Tryd.prog 39 #[.bool a0] w fun e w' => e = .returned (.agg #[.int .i64 r1, .int .i64 r2, .string r3]) ∧ Below w.heap.size w w' := by
  have hu28 := Tryd.underlying28; have HB := ak (Below.refl w.heap.size w); have H := h; clear h; unfold spec_l6Bool.f at H; by_cases c2 : a0 = true
  ·subst c2
   rw [if_pos rfl] at H; simp only [Option.some.injEq, Prod.mk.injEq] at H; obtain ⟨rfl, rfl, rfl⟩ := H; go_enter Tryd.func39, Tryd.ntmps39; go_wp2_with (first | ((with_reducible refine gate_dst (N := 2) rfl ?_); refine box_event ?hg (N := 2) ?hd (cs := #[.int .i64 0, .int .i64 0, .string (⟨#[]⟩ : ByteArray)]) (t := 28) ?hr ?_; (case hd => rfl); (case hg => rfl); (case hr => first | (go_simp; done) | (go_simp; rfl)); intro gb151 hg w3 hbox hb; have BK151 := ak (hbox); have GW151 := ak ((by rw [hg]; exact (below_size d4_1) : w.heap.size ≤ gb151)); have GE151 := ak ((by rw [hg]; exact (below_size d4_1) : w.heap.size ≤ gb151)); replace HB := ak (below_step d4_1 hb); clear hb hbox hg; obtain ⟨hcz4_0, hcz4_1, hcz4_2, hfz4_0, hfz4_1, hfz4_2⟩ := zx3_ BK151.out))
   refine bodyPost_ret (results_cell_row rfl _ _ gb151 28 #[.int .i64 2, .int .i64 1, .string (⟨#[]⟩ : ByteArray)] (0, 0) _ rfl (by (with_reducible repeat (first | refine blk_drewN ?_ _ | refine blk_drew ?_ | refine blk_alloc ?_ _)); refine blk_put (cs := #[.int .i64 2, .int .i64 1, .string (⟨#[]⟩ : ByteArray)]) ?_ 2 _ rfl; (with_reducible repeat (first | refine blk_drewN ?_ _ | refine blk_drew ?_ | refine blk_alloc ?_ _)); refine blk_put (cs := #[.int .i64 2, .int .i64 0, .string (⟨#[]⟩ : ByteArray)]) ?_ 1 _ rfl; (with_reducible repeat (first | refine blk_drewN ?_ _ | refine blk_drew ?_ | refine blk_alloc ?_ _)); refine blk_put (cs := #[.int .i64 0, .int .i64 0, .string (⟨#[]⟩ : ByteArray)]) ?_ 0 _ rfl; (with_reducible repeat (first | refine blk_drewN ?_ _ | refine blk_drew ?_ | refine blk_alloc ?_ _)); exact BK151.out) Tryd.underlying28 rfl (by kernel_rfl)) rfl ?_; exact ⟨by first | rfl | (simp [errW_none, errW_some] <;> rfl) | (simp [*, errW_none, errW_some] <;> rfl), by repeat (first | (with_reducible first | exact HB.out | apply below_alloc | apply pw_below_drewN | apply below_drew1 | refine below_set ?_ GE151.out) | exact HB.out)⟩
  ·replace c2 := Bool.eq_false_iff.mpr c2
   subst c2; rw [if_neg (show ¬ (false = true) by decide)] at H; simp only [Option.some.injEq, Prod.mk.injEq] at H; obtain ⟨rfl, rfl, rfl⟩ := H; go_enter Tryd.func39, Tryd.ntmps39; go_wp2_with (first | ((with_reducible refine gate_dst (N := 2) rfl ?_); refine box_event ?hg (N := 2) ?hd (cs := #[.int .i64 0, .int .i64 0, .string (⟨#[]⟩ : ByteArray)]) (t := 28) ?hr ?_; (case hd => rfl); (case hg => rfl); (case hr => first | (go_simp; done) | (go_simp; rfl)); intro gb151 hg w5 hbox hb; have BK151 := ak (hbox); have GW151 := ak ((by rw [hg]; exact (below_size d4_1) : w.heap.size ≤ gb151)); have GE151 := ak ((by rw [hg]; exact (below_size d4_1) : w.heap.size ≤ gb151)); replace HB := ak (below_step d4_1 hb); clear hb hbox hg; obtain ⟨hcz6_0, hcz6_1, hcz6_2, hfz6_0, hfz6_1, hfz6_2⟩ := zx3_ BK151.out))
   refine bodyPost_ret (results_cell_row rfl _ _ gb151 28 #[.int .i64 2, .int .i64 0, .string (⟨#[]⟩ : ByteArray)] (0, 0) _ rfl (by (with_reducible repeat (first | refine blk_drewN ?_ _ | refine blk_drew ?_ | refine blk_alloc ?_ _)); refine blk_put (cs := #[.int .i64 2, .int .i64 0, .string (⟨#[]⟩ : ByteArray)]) ?_ 2 _ rfl; (with_reducible repeat (first | refine blk_drewN ?_ _ | refine blk_drew ?_ | refine blk_alloc ?_ _)); refine blk_put (cs := #[.int .i64 2, .int .i64 0, .string (⟨#[]⟩ : ByteArray)]) ?_ 1 _ rfl; (with_reducible repeat (first | refine blk_drewN ?_ _ | refine blk_drew ?_ | refine blk_alloc ?_ _)); refine blk_put (cs := #[.int .i64 0, .int .i64 0, .string (⟨#[]⟩ : ByteArray)]) ?_ 0 _ rfl; (with_reducible repeat (first | refine blk_drewN ?_ _ | refine blk_drew ?_ | refine blk_alloc ?_ _)); exact BK151.out) Tryd.underlying28 rfl (by kernel_rfl)) rfl ?_; exact ⟨by first | rfl | (simp [errW_none, errW_some] <;> rfl) | (simp [*, errW_none, errW_some] <;> rfl), by repeat (first | (with_reducible first | exact HB.out | apply below_alloc | apply pw_below_drewN | apply below_drew1 | refine below_set ?_ GE151.out) | exact HB.out)⟩

/-! ### spec_l6True: function 40 -/
def spec_l6True.f (a0_0 : Int) (a0_1 : Int) (a0_2 : ByteArray) : Option (Bool) := if a0_0 = 2 then (some (a0_1 != 0)) else (some true)
theorem spec_l6True.calls (P0_ : Addr) (a0_0 : Int) (a0_1 : Int) (a0_2 : ByteArray) (r : Bool) (w : World) (hq0_0 : w.cell? P0_ = some (.int .i64 a0_0)) (hq0_1 : w.cell? ⟨P0_.block, P0_.off + 1, none⟩ = some (.int .i64 a0_1)) (hq0_2 : w.cell? ⟨P0_.block, P0_.off + 2, none⟩ = some (.string a0_2)) (h : spec_l6True.f a0_0 a0_1 a0_2 = some r) :
    Calls Tryd.prog 40 #[.pointer (some P0_)] w fun e w' => e = .returned (.bool r) ∧ Drawn0 w w' := by
  have HQ0_0 := ak hq0_0; clear hq0_0; have HQ0_1 := ak hq0_1; clear hq0_1; have HQ0_2 := ak hq0_2; clear hq0_2; have H := h; clear h; unfold spec_l6True.f at H; by_cases c2 : a0_0 = 2
  ·rw [if_pos c2] at H
   obtain ⟨c2b0, c2b1⟩ := zbt_ c2; clear c2; obtain rfl := Option.some.inj H; have hx152_0 := HQ0_0.out; have hx152_1 := HQ0_1.out; have hx152_2 := HQ0_2.out; go_enter Tryd.func40, Tryd.ntmps40; go_wp2; go_ret; exact ⟨c4_1, c4_2⟩
  ·rw [if_neg c2] at H
   obtain ⟨c2b0, c2b1⟩ := zbf_ c2; obtain rfl := Option.some.inj H; have hx152_0 := HQ0_0.out; have hx152_1 := HQ0_1.out; have hx152_2 := HQ0_2.out; go_enter Tryd.func40, Tryd.ntmps40; go_wp2; go_ret; exact ⟨c4_1, c4_2⟩

end Go.Proofs.YtolhanigjmhkgadDoor.A
