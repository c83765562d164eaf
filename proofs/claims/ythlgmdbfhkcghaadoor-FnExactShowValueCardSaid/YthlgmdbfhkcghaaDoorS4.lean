/- Walks of the program's functions: each Go function's answer as a plain Lean function, and that the call comes to it. Written by a program. Conditions: those in each theorem's own head. -/
import Derived.Test.YthlgmdbfhkcghaaDoorS0
import Derived.Test.YthlgmdbfhkcghaaDoorS3
namespace Go.Proofs.YthlgmdbfhkcghaaDoor.S
open Go.RowKit Go.Proofs.YthlgmdbfhkcghaaDoorW.PrintWords Go.Proofs.YthlgmdbfhkcghaaDoorW.PrintLast Go.Proofs.YthlgmdbfhkcghaaDoorW.PrintMore
attribute [local go_sem] max2_int min2_int max_two min_two max_three min_three max_four min_four   -- for this text's walks alone
set_option linter.unusedVariables false
set_option linter.unusedSimpArgs false

theorem d4_1 {p : Prop} (h : p := by repeat (first | (with_reducible first | exact HB.out | apply below_alloc | apply pw_below_drewN | apply below_drew1) | exact HB.out)) : p := h
theorem d4_2 {p : Prop} (h : p := by (try simp only [List.map_toArray, List.map_cons, List.map_nil]); first | done | rfl | (simp only [List.length_drop, List.length_take]; rfl)) : p := h
theorem d4_3 {p : Prop} (h : p := by first | (with_reducible assumption) | assumption) : p := h
theorem d4_4 {p : Prop} (h : p := by (with_reducible repeat (first | apply Kd.R_alloc | apply Kd.R_drewN | apply Kd.R_drew)); exact HO181.out) : p := h
theorem c4_1 {p : Prop} (h : p := by first | rfl | (simp; done) | (simp [*]; done) | (simp [ne_nil_b, eq_nil_b]; done)) : p := h
theorem c4_2 {p : Prop} (h : p := by repeat (first | exact Drawn0.refl _ | apply Drawn0.step)) : p := h
theorem c4_3 {p : Prop} (h : p := by repeat (first | exact HR0.out | (with_reducible refine Kd.C_alloc ?_ _) | (with_reducible refine Kd.C_drewN ?_ _) | (with_reducible refine Kd.C_drew ?_))) : p := h
set_option maxHeartbeats 8000000
set_option maxRecDepth 100000
theorem pa4_1 {α : Type} (l : List α) (i : Nat) (a : α) : l.toArray.setIfInBounds i a = (l.set i a).toArray := List.setIfInBounds_toArray l i a
theorem pa4_2 {α : Type} (a : α) (l : List α) (b : α) : (a :: l).set 0 b = b :: l := rfl
theorem pa4_3 {α : Type} (a : α) (l : List α) (n : Nat) (b : α) : (a :: l).set (n + 1) b = a :: l.set n b := rfl

/-! ### spec_l5Heap: function 64 -/
def spec_l5Heap.l0 : Nat → List (S70) → Int → Option (Int)
  | 0, _, _ => none
  | k + 1, x0, x3 => if x3 < (x0.length : Int) then (if 0 ≤ x3 then ((spec_l5Fault.f k ((rd_T70 x0 x3).f0.f0) ((rd_T70 x0 x3).f0.f1) ((rd_T70 x0 x3).f0.f2)).bind fun t163 => (if t163 = 0 then ((spec_l5Fault.f k ((rd_T70 x0 x3).f1.f0) ((rd_T70 x0 x3).f1.f1) ((rd_T70 x0 x3).f1.f2)).bind fun t165 => (if t165 = 0 then ((spec_l5In.f ((rd_T70 x0 x3).f0.f0) ((rd_T70 x0 x3).f0.f1) ((rd_T70 x0 x3).f0.f2) x3).bind fun t167 => (if t167 = true then ((spec_l5In.f ((rd_T70 x0 x3).f1.f0) ((rd_T70 x0 x3).f1.f1) ((rd_T70 x0 x3).f1.f2) x3).bind fun t169 => (if t169 = true then (spec_l5Heap.l0 k x0 (wrap64 (x3 + 1))) else (some 1))) else (some 1))) else (some t165))) else (some t163))) else (none)) else (some 0)
def spec_l5Heap.f (k : Nat) (l0 : List (S70)) : Option (Int) := if (l0.length : Int) > 4000 then (some 2) else (spec_l5Heap.l0 k l0 0)
theorem spec_l5Heap.mono_l : ∀ k, (∀ y0 y1, LeO (spec_l5Heap.l0 k y0 y1) (spec_l5Heap.l0 (k + 1) y0 y1))
  | 0 => fun _ _ r h => by simp [spec_l5Heap.l0] at h
  | k + 1 => by
    have ih0 := spec_l5Heap.mono_l k
    · intro y0 y1
      unfold spec_l5Heap.l0
      repeat' first | (with_reducible first | apply ih0 | apply spec_l5Fault.mono | exact LeO.refl _ | exact LeO.none _ | refine LeO.ite ?_ ?_ | refine LeO.bind ?_ (fun _ => ?_)) | apply ih0 | apply spec_l5Fault.mono | exact LeO.none _ | refine LeO.ite ?_ ?_ | refine LeO.bind ?_ (fun _ => ?_)
theorem spec_l5Heap.mono : ∀ a0 k, LeO (spec_l5Heap.f k a0) (spec_l5Heap.f (k + 1) a0) := by
  intro a0 k; have ih0 := spec_l5Heap.mono_l k; unfold spec_l5Heap.f
  repeat' first | (with_reducible first | apply ih0 | apply spec_l5Fault.mono | exact LeO.refl _ | exact LeO.none _ | refine LeO.ite ?_ ?_ | refine LeO.bind ?_ (fun _ => ?_)) | apply ih0 | apply spec_l5Fault.mono | exact LeO.none _ | refine LeO.ite ?_ ?_ | refine LeO.bind ?_ (fun _ => ?_)
theorem spec_l5Heap.calls (k : Nat) (A0 : Option Addr) (c0 : Nat) (l0 : List (S70)) (r : Int) (w : World) (hr0 : Kd.C k70 w A0 l0.length l0) (hc0 : l0.length ≤ c0) (h : spec_l5Heap.f k l0 = some r) :
    Calls Tryd.prog 64 #[.slice A0 l0.length c0] w fun e w' => e = .returned (.int .i64 r) ∧ Drawn0 w w' := by
  have HR0 := ak hr0; have HC0 := ak hc0; clear hr0 hc0; have H := h; clear h; unfold spec_l5Heap.f at H; by_cases c2 : (l0.length : Int) > 4000
  ·rw [if_pos c2] at H
   have c2b0 : decide (4000 < (l0.length : Int)) = true := decide_eq_true c2; have c2b1 : decide (4000 < l0.length) = true := decide_eq_true (by omega); clear c2; obtain rfl := Option.some.inj H; go_enter Tryd.func64, Tryd.ntmps64; go_wp2; go_ret; exact ⟨c4_1, c4_2⟩
  ·rw [if_neg c2] at H
   have c2b0 : decide (4000 < (l0.length : Int)) = false := decide_eq_false c2; have c2b1 : decide (4000 < l0.length) = false := decide_eq_false (by omega); clear c2; have H' := ak H; clear H; go_enter Tryd.func64, Tryd.ntmps64; go_wp2; go_loopg [3] k (fun kq v3 w' => ∃ (x3_1 : Int), v3 = .int .i64 x3_1 ∧ Aside0 (spec_l5Heap.l0 kq l0 x3_1 = some r) ∧ Aside0 (kq ≤ k) ∧ Drawn0 w w')
   case atStart => exact ⟨(0), (by first | rfl | (simp; done) | (simp [*]; done) | (simp [ne_nil_b, eq_nil_b]; done)), H', ⟨Nat.le_refl _⟩, c4_2⟩
   case round =>
    clear H'
    (try clear c2); (try clear c2b0); (try clear c2b1); (try clear p2)
    obtain ⟨x3_1, rfl, HA, HK1, ⟨m1, rfl⟩⟩ := hrel
    cases gk with
    | zero => exact absurd HA.out (by simp [spec_l5Heap.l0])
    | succ k1 =>
     have H := HA.out; clear HA; simp only [spec_l5Heap.l0] at H; by_cases c3 : x3_1 < (l0.length : Int)
     ·rw [if_pos c3] at H
      have c3b0 : decide (x3_1 < (l0.length : Int)) = true := decide_eq_true c3; clear c3; by_cases c4 : 0 ≤ x3_1
      ·rw [if_pos c4] at H
       have c4b0 : decide (0 ≤ x3_1) = true := decide_eq_true c4; clear c4; replace H := Option.bind_eq_some_iff.mp H; obtain ⟨t163, A50, H⟩ := H; (try dsimp -simprocs only at H); have A5 := ak A50; clear A50; by_cases c6 : t163 = 0
       ·rw [if_pos c6] at H
        have c6b0 : (t163 == 0) = true := beq_iff_eq.mpr c6; have c6b1 : (t163 != 0) = false := bne_eq_false_iff_eq.mpr c6; clear c6; replace H := Option.bind_eq_some_iff.mp H; obtain ⟨t165, A70, H⟩ := H; (try dsimp -simprocs only at H); have A7 := ak A70; clear A70; by_cases c8 : t165 = 0
        ·rw [if_pos c8] at H
         have c8b0 : (t165 == 0) = true := beq_iff_eq.mpr c8; have c8b1 : (t165 != 0) = false := bne_eq_false_iff_eq.mpr c8; clear c8; replace H := Option.bind_eq_some_iff.mp H; obtain ⟨t167, A90, H⟩ := H; (try dsimp -simprocs only at H); have A9 := ak A90; clear A90; by_cases c10 : t167 = true
         ·subst c10
          rw [if_pos rfl] at H; replace H := Option.bind_eq_some_iff.mp H; obtain ⟨t169, A110, H⟩ := H; (try dsimp -simprocs only at H); have A11 := ak A110; clear A110; by_cases c12 : t169 = true
          ·subst c12
           rw [if_pos rfl] at H; have H' := ak H; clear H; have p162 : 0 ≤ (x3_1 : Int) := of_decide_eq_true d4_3; have q162 : x3_1 < (l0.length : Int) := of_decide_eq_true d4_3; obtain ⟨ad162, e162, hx162_0, hx162_1, hx162_2, hx162_3, hx162_4, hx162_5⟩ := at_T70 HR0.out x3_1 p162 q162
           cases e162
           replace p162 := eq_true p162; replace q162 := eq_true q162
           go_wp2_with (first | (go_at_call 92; (with_reducible refine (spec_l5Fault.calls k1 _ ((rd_T70 l0 x3_1).f0.f0) ((rd_T70 l0 x3_1).f0.f1) ((rd_T70 l0 x3_1).f0.f2) t163 _ ?side1 ?side2 ?side3 A5.out).mono ?_); (case side1 => first | exact hx162_0 | (refine Eq.trans ?_ hx162_0; simp only [go_sem])); (case side2 => first | exact hx162_1 | (refine Eq.trans ?_ hx162_1; simp only [go_sem])); (case side3 => first | exact hx162_2 | (refine Eq.trans ?_ hx162_2; simp only [go_sem])); rintro e w' ⟨rfl, ⟨nd, rfl⟩⟩) | (go_at_call 92; (with_reducible refine (spec_l5Fault.calls k1 _ ((rd_T70 l0 x3_1).f1.f0) ((rd_T70 l0 x3_1).f1.f1) ((rd_T70 l0 x3_1).f1.f2) t165 _ ?side1 ?side2 ?side3 A7.out).mono ?_); (case side1 => first | exact hx162_3 | (refine Eq.trans ?_ hx162_3; simp only [go_sem])); (case side2 => first | exact hx162_4 | (refine Eq.trans ?_ hx162_4; simp only [go_sem])); (case side3 => first | exact hx162_5 | (refine Eq.trans ?_ hx162_5; simp only [go_sem])); rintro e w' ⟨rfl, ⟨nd, rfl⟩⟩) | (go_at_call 93; (with_reducible refine (spec_l5In.calls _ ((rd_T70 l0 x3_1).f0.f0) ((rd_T70 l0 x3_1).f0.f1) ((rd_T70 l0 x3_1).f0.f2) x3_1 true _ ?side1 ?side2 ?side3 A9.out).mono ?_); (case side1 => first | exact hx162_0 | (refine Eq.trans ?_ hx162_0; simp only [go_sem])); (case side2 => first | exact hx162_1 | (refine Eq.trans ?_ hx162_1; simp only [go_sem])); (case side3 => first | exact hx162_2 | (refine Eq.trans ?_ hx162_2; simp only [go_sem])); rintro e w' ⟨rfl, ⟨nd, rfl⟩⟩) | (go_at_call 93; (with_reducible refine (spec_l5In.calls _ ((rd_T70 l0 x3_1).f1.f0) ((rd_T70 l0 x3_1).f1.f1) ((rd_T70 l0 x3_1).f1.f2) x3_1 true _ ?side1 ?side2 ?side3 A11.out).mono ?_); (case side1 => first | exact hx162_3 | (refine Eq.trans ?_ hx162_3; simp only [go_sem])); (case side2 => first | exact hx162_4 | (refine Eq.trans ?_ hx162_4; simp only [go_sem])); (case side3 => first | exact hx162_5 | (refine Eq.trans ?_ hx162_5; simp only [go_sem])); rintro e w' ⟨rfl, ⟨nd, rfl⟩⟩))
           go_roundg k1
           case measure => have := HK1.out; omega
           case rel => exact ⟨(wrap64 (x3_1 + 1)), (by first | rfl | (simp; done) | (simp [*]; done) | (simp [ne_nil_b, eq_nil_b]; done)), H', ⟨by have := HK1.out; omega⟩, c4_2⟩
          ·replace c12 := Bool.eq_false_iff.mpr c12
           subst c12
           rw [if_neg (show ¬ (false = true) by decide)] at H; obtain rfl := Option.some.inj H; have p162 : 0 ≤ (x3_1 : Int) := of_decide_eq_true d4_3; have q162 : x3_1 < (l0.length : Int) := of_decide_eq_true d4_3; obtain ⟨ad162, e162, hx162_0, hx162_1, hx162_2, hx162_3, hx162_4, hx162_5⟩ := at_T70 HR0.out x3_1 p162 q162
           cases e162
           replace p162 := eq_true p162; replace q162 := eq_true q162
           go_wp2_with (first | (go_at_call 92; (with_reducible refine (spec_l5Fault.calls k1 _ ((rd_T70 l0 x3_1).f0.f0) ((rd_T70 l0 x3_1).f0.f1) ((rd_T70 l0 x3_1).f0.f2) t163 _ ?side1 ?side2 ?side3 A5.out).mono ?_); (case side1 => first | exact hx162_0 | (refine Eq.trans ?_ hx162_0; simp only [go_sem])); (case side2 => first | exact hx162_1 | (refine Eq.trans ?_ hx162_1; simp only [go_sem])); (case side3 => first | exact hx162_2 | (refine Eq.trans ?_ hx162_2; simp only [go_sem])); rintro e w' ⟨rfl, ⟨nd, rfl⟩⟩) | (go_at_call 92; (with_reducible refine (spec_l5Fault.calls k1 _ ((rd_T70 l0 x3_1).f1.f0) ((rd_T70 l0 x3_1).f1.f1) ((rd_T70 l0 x3_1).f1.f2) t165 _ ?side1 ?side2 ?side3 A7.out).mono ?_); (case side1 => first | exact hx162_3 | (refine Eq.trans ?_ hx162_3; simp only [go_sem])); (case side2 => first | exact hx162_4 | (refine Eq.trans ?_ hx162_4; simp only [go_sem])); (case side3 => first | exact hx162_5 | (refine Eq.trans ?_ hx162_5; simp only [go_sem])); rintro e w' ⟨rfl, ⟨nd, rfl⟩⟩) | (go_at_call 93; (with_reducible refine (spec_l5In.calls _ ((rd_T70 l0 x3_1).f0.f0) ((rd_T70 l0 x3_1).f0.f1) ((rd_T70 l0 x3_1).f0.f2) x3_1 true _ ?side1 ?side2 ?side3 A9.out).mono ?_); (case side1 => first | exact hx162_0 | (refine Eq.trans ?_ hx162_0; simp only [go_sem])); (case side2 => first | exact hx162_1 | (refine Eq.trans ?_ hx162_1; simp only [go_sem])); (case side3 => first | exact hx162_2 | (refine Eq.trans ?_ hx162_2; simp only [go_sem])); rintro e w' ⟨rfl, ⟨nd, rfl⟩⟩) | (go_at_call 93; (with_reducible refine (spec_l5In.calls _ ((rd_T70 l0 x3_1).f1.f0) ((rd_T70 l0 x3_1).f1.f1) ((rd_T70 l0 x3_1).f1.f2) x3_1 false _ ?side1 ?side2 ?side3 A11.out).mono ?_); (case side1 => first | exact hx162_3 | (refine Eq.trans ?_ hx162_3; simp only [go_sem])); (case side2 => first | exact hx162_4 | (refine Eq.trans ?_ hx162_4; simp only [go_sem])); (case side3 => first | exact hx162_5 | (refine Eq.trans ?_ hx162_5; simp only [go_sem])); rintro e w' ⟨rfl, ⟨nd, rfl⟩⟩))
           go_ret; exact ⟨c4_1, c4_2⟩
         ·replace c10 := Bool.eq_false_iff.mpr c10
          subst c10
          rw [if_neg (show ¬ (false = true) by decide)] at H; obtain rfl := Option.some.inj H; have p162 : 0 ≤ (x3_1 : Int) := of_decide_eq_true d4_3; have q162 : x3_1 < (l0.length : Int) := of_decide_eq_true d4_3; obtain ⟨ad162, e162, hx162_0, hx162_1, hx162_2, hx162_3, hx162_4, hx162_5⟩ := at_T70 HR0.out x3_1 p162 q162
          cases e162
          replace p162 := eq_true p162; replace q162 := eq_true q162
          go_wp2_with (first | (go_at_call 92; (with_reducible refine (spec_l5Fault.calls k1 _ ((rd_T70 l0 x3_1).f0.f0) ((rd_T70 l0 x3_1).f0.f1) ((rd_T70 l0 x3_1).f0.f2) t163 _ ?side1 ?side2 ?side3 A5.out).mono ?_); (case side1 => first | exact hx162_0 | (refine Eq.trans ?_ hx162_0; simp only [go_sem])); (case side2 => first | exact hx162_1 | (refine Eq.trans ?_ hx162_1; simp only [go_sem])); (case side3 => first | exact hx162_2 | (refine Eq.trans ?_ hx162_2; simp only [go_sem])); rintro e w' ⟨rfl, ⟨nd, rfl⟩⟩) | (go_at_call 92; (with_reducible refine (spec_l5Fault.calls k1 _ ((rd_T70 l0 x3_1).f1.f0) ((rd_T70 l0 x3_1).f1.f1) ((rd_T70 l0 x3_1).f1.f2) t165 _ ?side1 ?side2 ?side3 A7.out).mono ?_); (case side1 => first | exact hx162_3 | (refine Eq.trans ?_ hx162_3; simp only [go_sem])); (case side2 => first | exact hx162_4 | (refine Eq.trans ?_ hx162_4; simp only [go_sem])); (case side3 => first | exact hx162_5 | (refine Eq.trans ?_ hx162_5; simp only [go_sem])); rintro e w' ⟨rfl, ⟨nd, rfl⟩⟩) | (go_at_call 93; (with_reducible refine (spec_l5In.calls _ ((rd_T70 l0 x3_1).f0.f0) ((rd_T70 l0 x3_1).f0.f1) ((rd_T70 l0 x3_1).f0.f2) x3_1 false _ ?side1 ?side2 ?side3 A9.out).mono ?_); (case side1 => first | exact hx162_0 | (refine Eq.trans ?_ hx162_0; simp only [go_sem])); (case side2 => first | exact hx162_1 | (refine Eq.trans ?_ hx162_1; simp only [go_sem])); (case side3 => first | exact hx162_2 | (refine Eq.trans ?_ hx162_2; simp only [go_sem])); rintro e w' ⟨rfl, ⟨nd, rfl⟩⟩))
          go_ret; exact ⟨c4_1, c4_2⟩
        ·rw [if_neg c8] at H
         have c8b0 : (t165 == 0) = false := beq_eq_false_iff_ne.mpr c8; have c8b1 : (t165 != 0) = true := bne_iff_ne.mpr c8; obtain rfl := Option.some.inj H; have p162 : 0 ≤ (x3_1 : Int) := of_decide_eq_true d4_3; have q162 : x3_1 < (l0.length : Int) := of_decide_eq_true d4_3; obtain ⟨ad162, e162, hx162_0, hx162_1, hx162_2, hx162_3, hx162_4, hx162_5⟩ := at_T70 HR0.out x3_1 p162 q162
         cases e162
         replace p162 := eq_true p162; replace q162 := eq_true q162; go_wp2_with (first | (go_at_call 92; (with_reducible refine (spec_l5Fault.calls k1 _ ((rd_T70 l0 x3_1).f0.f0) ((rd_T70 l0 x3_1).f0.f1) ((rd_T70 l0 x3_1).f0.f2) t163 _ ?side1 ?side2 ?side3 A5.out).mono ?_); (case side1 => first | exact hx162_0 | (refine Eq.trans ?_ hx162_0; simp only [go_sem])); (case side2 => first | exact hx162_1 | (refine Eq.trans ?_ hx162_1; simp only [go_sem])); (case side3 => first | exact hx162_2 | (refine Eq.trans ?_ hx162_2; simp only [go_sem])); rintro e w' ⟨rfl, ⟨nd, rfl⟩⟩) | (go_at_call 92; (with_reducible refine (spec_l5Fault.calls k1 _ ((rd_T70 l0 x3_1).f1.f0) ((rd_T70 l0 x3_1).f1.f1) ((rd_T70 l0 x3_1).f1.f2) t165 _ ?side1 ?side2 ?side3 A7.out).mono ?_); (case side1 => first | exact hx162_3 | (refine Eq.trans ?_ hx162_3; simp only [go_sem])); (case side2 => first | exact hx162_4 | (refine Eq.trans ?_ hx162_4; simp only [go_sem])); (case side3 => first | exact hx162_5 | (refine Eq.trans ?_ hx162_5; simp only [go_sem])); rintro e w' ⟨rfl, ⟨nd, rfl⟩⟩)); go_ret; exact ⟨c4_1, c4_2⟩
       ·rw [if_neg c6] at H
        have c6b0 : (t163 == 0) = false := beq_eq_false_iff_ne.mpr c6; have c6b1 : (t163 != 0) = true := bne_iff_ne.mpr c6; obtain rfl := Option.some.inj H; have p162 : 0 ≤ (x3_1 : Int) := of_decide_eq_true d4_3; have q162 : x3_1 < (l0.length : Int) := of_decide_eq_true d4_3; obtain ⟨ad162, e162, hx162_0, hx162_1, hx162_2, hx162_3, hx162_4, hx162_5⟩ := at_T70 HR0.out x3_1 p162 q162
        cases e162
        replace p162 := eq_true p162; replace q162 := eq_true q162; go_wp2_with (first | (go_at_call 92; (with_reducible refine (spec_l5Fault.calls k1 _ ((rd_T70 l0 x3_1).f0.f0) ((rd_T70 l0 x3_1).f0.f1) ((rd_T70 l0 x3_1).f0.f2) t163 _ ?side1 ?side2 ?side3 A5.out).mono ?_); (case side1 => first | exact hx162_0 | (refine Eq.trans ?_ hx162_0; simp only [go_sem])); (case side2 => first | exact hx162_1 | (refine Eq.trans ?_ hx162_1; simp only [go_sem])); (case side3 => first | exact hx162_2 | (refine Eq.trans ?_ hx162_2; simp only [go_sem])); rintro e w' ⟨rfl, ⟨nd, rfl⟩⟩)); go_ret; exact ⟨c4_1, c4_2⟩
      ·rw [if_neg c4] at H
       exact absurd H (by simp)
     ·rw [if_neg c3] at H
      have c3b0 : decide (x3_1 < (l0.length : Int)) = false := decide_eq_false c3; clear c3; obtain rfl := Option.some.inj H; go_wp2; go_ret; exact ⟨c4_1, c4_2⟩

/-! ### spec_l5Asked: function 50 -/
def spec_l5Asked.f (k : Nat) (l0 : List (S70)) (a1_0 : Int) (a1_1 : Int) (a1_2 : ByteArray) : Option (Int) := (spec_l5Heap.f k l0).bind fun t170 => (if t170 = 0 then ((spec_l5Fault.f k a1_0 a1_1 a1_2).bind fun t172 => (if t172 = 0 then ((spec_l5In.f a1_0 a1_1 a1_2 (l0.length : Int)).bind fun t173 => (if t173 = true then (some 0) else (some 4))) else (some t172))) else (some t170))
theorem spec_l5Asked.mono : ∀ a0 a1 a2 a3 k, LeO (spec_l5Asked.f k a0 a1 a2 a3) (spec_l5Asked.f (k + 1) a0 a1 a2 a3) := by
  intro a0 a1 a2 a3 k; unfold spec_l5Asked.f
  repeat' first | (with_reducible first | apply spec_l5Fault.mono | apply spec_l5Heap.mono | exact LeO.refl _ | exact LeO.none _ | refine LeO.ite ?_ ?_ | refine LeO.bind ?_ (fun _ => ?_)) | apply spec_l5Fault.mono | apply spec_l5Heap.mono | exact LeO.none _ | refine LeO.ite ?_ ?_ | refine LeO.bind ?_ (fun _ => ?_)
theorem spec_l5Asked.calls (k : Nat) (A0 : Option Addr) (c0 : Nat) (l0 : List (S70)) (P1_ : Addr) (a1_0 : Int) (a1_1 : Int) (a1_2 : ByteArray) (r : Int) (w : World) (hr0 : Kd.C k70 w A0 l0.length l0) (hc0 : l0.length ≤ c0) (hq1_0 : w.cell? P1_ = some (.int .i64 a1_0)) (hq1_1 : w.cell? ⟨P1_.block, P1_.off + 1, none⟩ = some (.int .i64 a1_1)) (hq1_2 : w.cell? ⟨P1_.block, P1_.off + 2, none⟩ = some (.string a1_2)) (h : spec_l5Asked.f k l0 a1_0 a1_1 a1_2 = some r) :
    Calls Tryd.prog 50 #[.slice A0 l0.length c0, .pointer (some P1_)] w fun e w' => e = .returned (.int .i64 r) ∧ Drawn0 w w' := by
  have HR0 := ak hr0; have HC0 := ak hc0; clear hr0 hc0; have HQ1_0 := ak hq1_0; clear hq1_0; have HQ1_1 := ak hq1_1; clear hq1_1; have HQ1_2 := ak hq1_2; clear hq1_2; have H := h; clear h; unfold spec_l5Asked.f at H; replace H := Option.bind_eq_some_iff.mp H; obtain ⟨t170, A30, H⟩ := H; (try dsimp -simprocs only at H); have A3 := ak A30; clear A30; by_cases c4 : t170 = 0
  ·rw [if_pos c4] at H
   have c4b0 : (t170 == 0) = true := beq_iff_eq.mpr c4; have c4b1 : (t170 != 0) = false := bne_eq_false_iff_eq.mpr c4; clear c4; replace H := Option.bind_eq_some_iff.mp H; obtain ⟨t172, A50, H⟩ := H; (try dsimp -simprocs only at H); have A5 := ak A50; clear A50; by_cases c6 : t172 = 0
   ·rw [if_pos c6] at H
    have c6b0 : (t172 == 0) = true := beq_iff_eq.mpr c6; have c6b1 : (t172 != 0) = false := bne_eq_false_iff_eq.mpr c6; clear c6; replace H := Option.bind_eq_some_iff.mp H; obtain ⟨t173, A70, H⟩ := H; (try dsimp -simprocs only at H); have A7 := ak A70; clear A70; by_cases c8 : t173 = true
    ·subst c8
     rw [if_pos rfl] at H; obtain rfl := Option.some.inj H; go_enter Tryd.func50, Tryd.ntmps50
     go_wp2_with (first | ((with_reducible refine gate_callee (f := 64) rfl ?_); refine goesL_ (some 8) rfl rfl Tryd.func64 (by kernel_rfl) rfl #[.slice A0 l0.length c0] rfl d4_2 ?_; (with_reducible refine (spec_l5Heap.calls k _ _ l0 t170 _ ?side1 ?side2 A3.out).mono ?_); (case side1 => exact c4_3); (case side2 => exact HC0.out); rintro e w' ⟨rfl, ⟨nd, rfl⟩⟩; refine ⟨_, rfl, ?_⟩; have hx171_0 := HQ1_0.out; have hx171_1 := HQ1_1.out; have hx171_2 := HQ1_2.out) | (go_at_call 92; (with_reducible refine (spec_l5Fault.calls k _ a1_0 a1_1 a1_2 t172 _ ?side1 ?side2 ?side3 A5.out).mono ?_); (case side1 => first | exact hx171_0 | (refine Eq.trans ?_ hx171_0; simp only [go_sem])); (case side2 => first | exact hx171_1 | (refine Eq.trans ?_ hx171_1; simp only [go_sem])); (case side3 => first | exact hx171_2 | (refine Eq.trans ?_ hx171_2; simp only [go_sem])); rintro e w' ⟨rfl, ⟨nd, rfl⟩⟩) | (go_at_call 93; (with_reducible refine (spec_l5In.calls _ a1_0 a1_1 a1_2 (l0.length : Int) true _ ?side1 ?side2 ?side3 A7.out).mono ?_); (case side1 => first | exact hx171_0 | (refine Eq.trans ?_ hx171_0; simp only [go_sem])); (case side2 => first | exact hx171_1 | (refine Eq.trans ?_ hx171_1; simp only [go_sem])); (case side3 => first | exact hx171_2 | (refine Eq.trans ?_ hx171_2; simp only [go_sem])); rintro e w' ⟨rfl, ⟨nd, rfl⟩⟩)); go_ret
     exact ⟨c4_1, c4_2⟩
    ·replace c8 := Bool.eq_false_iff.mpr c8
     subst c8
     rw [if_neg (show ¬ (false = true) by decide)] at H; obtain rfl := Option.some.inj H; go_enter Tryd.func50, Tryd.ntmps50
     go_wp2_with (first | ((with_reducible refine gate_callee (f := 64) rfl ?_); refine goesL_ (some 8) rfl rfl Tryd.func64 (by kernel_rfl) rfl #[.slice A0 l0.length c0] rfl d4_2 ?_; (with_reducible refine (spec_l5Heap.calls k _ _ l0 t170 _ ?side1 ?side2 A3.out).mono ?_); (case side1 => exact c4_3); (case side2 => exact HC0.out); rintro e w' ⟨rfl, ⟨nd, rfl⟩⟩; refine ⟨_, rfl, ?_⟩; have hx171_0 := HQ1_0.out; have hx171_1 := HQ1_1.out; have hx171_2 := HQ1_2.out) | (go_at_call 92; (with_reducible refine (spec_l5Fault.calls k _ a1_0 a1_1 a1_2 t172 _ ?side1 ?side2 ?side3 A5.out).mono ?_); (case side1 => first | exact hx171_0 | (refine Eq.trans ?_ hx171_0; simp only [go_sem])); (case side2 => first | exact hx171_1 | (refine Eq.trans ?_ hx171_1; simp only [go_sem])); (case side3 => first | exact hx171_2 | (refine Eq.trans ?_ hx171_2; simp only [go_sem])); rintro e w' ⟨rfl, ⟨nd, rfl⟩⟩) | (go_at_call 93; (with_reducible refine (spec_l5In.calls _ a1_0 a1_1 a1_2 (l0.length : Int) false _ ?side1 ?side2 ?side3 A7.out).mono ?_); (case side1 => first | exact hx171_0 | (refine Eq.trans ?_ hx171_0; simp only [go_sem])); (case side2 => first | exact hx171_1 | (refine Eq.trans ?_ hx171_1; simp only [go_sem])); (case side3 => first | exact hx171_2 | (refine Eq.trans ?_ hx171_2; simp only [go_sem])); rintro e w' ⟨rfl, ⟨nd, rfl⟩⟩)); go_ret
     exact ⟨c4_1, c4_2⟩
   ·rw [if_neg c6] at H
    have c6b0 : (t172 == 0) = false := beq_eq_false_iff_ne.mpr c6; have c6b1 : (t172 != 0) = true := bne_iff_ne.mpr c6; obtain rfl := Option.some.inj H; go_enter Tryd.func50, Tryd.ntmps50; go_wp2_with (first | ((with_reducible refine gate_callee (f := 64) rfl ?_); refine goesL_ (some 8) rfl rfl Tryd.func64 (by kernel_rfl) rfl #[.slice A0 l0.length c0] rfl d4_2 ?_; (with_reducible refine (spec_l5Heap.calls k _ _ l0 t170 _ ?side1 ?side2 A3.out).mono ?_); (case side1 => exact c4_3); (case side2 => exact HC0.out); rintro e w' ⟨rfl, ⟨nd, rfl⟩⟩; refine ⟨_, rfl, ?_⟩; have hx171_0 := HQ1_0.out; have hx171_1 := HQ1_1.out; have hx171_2 := HQ1_2.out) | (go_at_call 92; (with_reducible refine (spec_l5Fault.calls k _ a1_0 a1_1 a1_2 t172 _ ?side1 ?side2 ?side3 A5.out).mono ?_); (case side1 => first | exact hx171_0 | (refine Eq.trans ?_ hx171_0; simp only [go_sem])); (case side2 => first | exact hx171_1 | (refine Eq.trans ?_ hx171_1; simp only [go_sem])); (case side3 => first | exact hx171_2 | (refine Eq.trans ?_ hx171_2; simp only [go_sem])); rintro e w' ⟨rfl, ⟨nd, rfl⟩⟩)); go_ret; exact ⟨c4_1, c4_2⟩
  ·rw [if_neg c4] at H
   have c4b0 : (t170 == 0) = false := beq_eq_false_iff_ne.mpr c4; have c4b1 : (t170 != 0) = true := bne_iff_ne.mpr c4; obtain rfl := Option.some.inj H; go_enter Tryd.func50, Tryd.ntmps50; go_wp2_with (first | ((with_reducible refine gate_callee (f := 64) rfl ?_); refine goesL_ (some 8) rfl rfl Tryd.func64 (by kernel_rfl) rfl #[.slice A0 l0.length c0] rfl d4_2 ?_; (with_reducible refine (spec_l5Heap.calls k _ _ l0 t170 _ ?side1 ?side2 A3.out).mono ?_); (case side1 => exact c4_3); (case side2 => exact HC0.out); rintro e w' ⟨rfl, ⟨nd, rfl⟩⟩; refine ⟨_, rfl, ?_⟩)); go_ret; exact ⟨c4_1, c4_2⟩

/-! ### spec_l1Digits: function 135 -/
def spec_l1Digits.f : Nat → Int → Option (ByteArray)
  | 0, _ => none
  | k + 1, a0 => if a0 < 0 then ((spec_l1Digits.f k (wrap64 (-a0))).bind fun t174 => (if 1 + t174.size ≤ 9223372036854775807 then (some ((⟨#[45]⟩ : ByteArray) ++ t174)) else (none))) else (if a0 < 10 then (some (strOfNums (([(wrap64 (48 + a0)) % 256] : List Int)))) else ((spec_l1Digits.f k (wrap64 (Int.tdiv a0 10))).bind fun t178 => ((some (([(wrap64 (48 + (Int.tmod a0 10))) % 256] : List Int) : List Int)).bind fun y179 => (if t178.size + (strOfNums y179).size ≤ 9223372036854775807 then (some (t178 ++ (strOfNums y179))) else (none)))))
theorem spec_l1Digits.mono_l : ∀ k, (∀ y0, LeO (spec_l1Digits.f k y0) (spec_l1Digits.f (k + 1) y0))
  | 0 => fun _ r h => by simp [spec_l1Digits.f] at h
  | k + 1 => by
    have ih0 := spec_l1Digits.mono_l k
    · intro y0
      unfold spec_l1Digits.f
      repeat' first | (with_reducible first | apply ih0 | exact LeO.refl _ | exact LeO.none _ | refine LeO.ite ?_ ?_ | refine LeO.bind ?_ (fun _ => ?_)) | apply ih0 | exact LeO.none _ | refine LeO.ite ?_ ?_ | refine LeO.bind ?_ (fun _ => ?_)
theorem spec_l1Digits.mono : ∀ a0 k, LeO (spec_l1Digits.f k a0) (spec_l1Digits.f (k + 1) a0) := by
  intro a0 k; have ih0 := spec_l1Digits.mono_l k; exact ih0 a0
def spec_l1Digits.T5 : Bool × List (List Nat × List Nat) := (true, [([], []), ([0], [0]), ([1], [1]), ([], []), ([3], [3]), ([4], [4]), ([5], [5]), ([6], [6]), ([7], [7]), ([2, 8], [2, 8]), ([9, 2, 0, 1, 2, 3, 4, 5, 6, 7, 8, 9], [9])])
def spec_l1Digits.B5 : List Nat := [0, 1, 3, 0, 8, 24, 56, 120, 248, 511, 1023]
theorem spec_l1Digits.tab5 : rtab .any (opsOf Tryd.f135 5) = spec_l1Digits.T5 := by kernel_rfl
theorem spec_l1Digits.bits5 : waitsOk spec_l1Digits.T5.2 spec_l1Digits.B5 = true := by kernel_rfl
theorem spec_l1Digits.calls (k : Nat) : ∀ (a0 : Int) (r : ByteArray) (w : World) (h : spec_l1Digits.f k a0 = some r),
    Calls Tryd.prog 135 #[.int .i64 a0] w fun e w' => e = .returned (.string r) ∧ Below w.heap.size w w' := by
  induction k using Nat.strongRecOn with
  | _ k ih =>
  intro a0 r w h
  cases k with
  | zero => exact absurd h (by simp [spec_l1Digits.f])
  | succ k =>
  simp only [spec_l1Digits.f] at h; have HB := ak (Below.refl w.heap.size w); have H : (if a0 < 0 then ((spec_l1Digits.f k (wrap64 (-a0))).bind fun t174 => (if 1 + t174.size ≤ 9223372036854775807 then (some ((⟨#[45]⟩ : ByteArray) ++ t174)) else (none))) else (if a0 < 10 then (some (strOfNums (([(wrap64 (48 + a0)) % 256] : List Int)))) else ((spec_l1Digits.f k (wrap64 (Int.tdiv a0 10))).bind fun t178 => ((some (([(wrap64 (48 + (Int.tmod a0 10))) % 256] : List Int) : List Int)).bind fun y179 => (if t178.size + (strOfNums y179).size ≤ 9223372036854775807 then (some (t178 ++ (strOfNums y179))) else (none)))))) = some r := h; clear h; by_cases c2 : a0 < 0
  ·rw [if_pos c2] at H
   have c2b0 : decide (a0 < 0) = true := decide_eq_true c2; clear c2; replace H := Option.bind_eq_some_iff.mp H; obtain ⟨t174, A30, H⟩ := H; (try dsimp -simprocs only at H); have A3 := ak A30; clear A30; by_cases c4 : 1 + t174.size ≤ 9223372036854775807
   ·rw [if_pos c4] at H
    have c4b0 := eq_true c4; have c4b1 : decide (1 + t174.size ≤ 9223372036854775807) = true := decide_eq_true c4
    try have c4b2 : (9223372036854775807 < 1 + t174.size) = False := eq_false (Nat.not_lt.2 c4)
    obtain rfl := Option.some.inj H; go_enter Tryd.func135, Tryd.ntmps135; go_wp2_with (first | ((with_reducible refine gate_callee (f := 135) rfl ?_); refine goesL_ (some 7) rfl rfl Tryd.func135 (by kernel_rfl) rfl #[.int .i64 (wrap64 (-a0))] rfl d4_2 ?_; (with_reducible refine (ih k (by omega) (wrap64 (-a0)) t174 _ A3.out).mono ?_); rintro e w5 ⟨rfl, hb⟩; refine ⟨_, rfl, ?_⟩; have n0_ := ak (below_step d4_1 hb); clear HB; have HB := n0_; clear n0_; (try clear hb))); go_ret; exact ⟨by first | rfl | (simp [errW_none, errW_some] <;> rfl) | (simp [*, errW_none, errW_some] <;> rfl), by repeat (first | (with_reducible first | exact HB.out | apply below_alloc | apply pw_below_drewN | apply below_drew1) | exact HB.out)⟩
   ·rw [if_neg c4] at H
    exact absurd H (by simp)
  ·rw [if_neg c2] at H
   have c2b0 : decide (a0 < 0) = false := decide_eq_false c2; clear c2; by_cases c6 : a0 < 10
   ·rw [if_pos c6] at H
    have c6b0 : decide (a0 < 10) = true := decide_eq_true c6; clear c6; obtain ⟨y175, hy175⟩ : ∃ y_ : List Int, y_ = (([(wrap64 (48 + a0)) % 256] : List Int)) := ⟨_, rfl⟩
    replace H : (some (strOfNums y175)) = some r := by first | (rw [hy175]; with_reducible exact H) | (have H2_ := (Option.bind_some _ _).symm.trans H; rw [hy175]; with_reducible exact H2_) | (have H2_ := (Option.bind_some _ _).symm.trans H; with_reducible exact H2_) | with_reducible exact H | (rw [hy175]; exact H) | exact H
    have Ny175 := ak hy175; clear hy175; obtain rfl := Option.some.inj H; go_enter Tryd.func135, Tryd.ntmps135; go_wp2_with (first | ((with_reducible refine gate_dst (N := 14) rfl ?_); refine Kd.R_lit (Kd.int .u8) _ 5 ?hg (N := 14) ?hd (xs := ([(wrap64 (48 + a0)) % 256] : List Int)) (inner := [.int .u8 ((wrap64 (48 + a0)) % 256)]) (ok := fun _ => True) (okp := fun _ => True) ?hr ?hp (fun _ hk => hk) trivial (Below.refl _ _) (Nat.le_refl _) (by simp) ?_; (case hd => rfl); (case hg => rfl); (case hr => first | (go_simp; done) | (go_simp; rfl)); (case hp => exact (Reps.one (show Kd.M (Kd.int .u8) _ _ _ ((wrap64 (48 + a0)) % 256) [.int .u8 ((wrap64 (48 + a0)) % 256)] from rfl) (Reps.none _ _))); intro v176 w7 ho8 hb hg_ hnew_; clear hg_ hnew_; (first | rw [← Ny175.out] at ho8 | (simp only [Int.reduceToNat] at ho8; rw [← Ny175.out] at ho8)); have n0_ := ak (Kd.R_lower ho8 (below_size d4_1)); have n1_ := ak (below_step d4_1 hb); clear HB; have HO177 := n0_; have HB := n1_; clear n0_ n1_ hb ho8; have hcv9 := own_string (P := Tryd.prog) Tryd.underlying39 Tryd.underlying5 Tryd.underlying9 (Kd.own_of_R HO177.out))); go_ret; exact ⟨by first | rfl | (simp [errW_none, errW_some] <;> rfl) | (simp [*, errW_none, errW_some] <;> rfl), by repeat (first | (with_reducible first | exact HB.out | apply below_alloc | apply pw_below_drewN | apply below_drew1) | exact HB.out)⟩
   ·rw [if_neg c6] at H
    have c6b0 : decide (a0 < 10) = false := decide_eq_false c6; clear c6; replace H := Option.bind_eq_some_iff.mp H; obtain ⟨t178, A100, H⟩ := H; (try dsimp -simprocs only at H); have A10 := ak A100; clear A100; obtain ⟨y179, hy179⟩ : ∃ y_ : List Int, y_ = (([(wrap64 (48 + (Int.tmod a0 10))) % 256] : List Int)) := ⟨_, rfl⟩
    replace H : (if t178.size + (strOfNums y179).size ≤ 9223372036854775807 then (some (t178 ++ (strOfNums y179))) else (none)) = some r := by first | (rw [hy179]; with_reducible exact H) | (have H2_ := (Option.bind_some _ _).symm.trans H; rw [hy179]; with_reducible exact H2_) | (have H2_ := (Option.bind_some _ _).symm.trans H; with_reducible exact H2_) | with_reducible exact H | (rw [hy179]; exact H) | exact H
    have Ny179 := ak hy179; clear hy179; by_cases c11 : t178.size + (strOfNums y179).size ≤ 9223372036854775807
    ·rw [if_pos c11] at H
     have c11b0 := eq_true c11; have c11b1 : decide (t178.size + (strOfNums y179).size ≤ 9223372036854775807) = true := decide_eq_true c11
     try have c11b2 : (9223372036854775807 < t178.size + (strOfNums y179).size) = False := eq_false (Nat.not_lt.2 c11)
     obtain rfl := Option.some.inj H; go_enter Tryd.func135, Tryd.ntmps135
     try go_wp2
     have n0_ := ak (below_drew1 HB.out); clear HB; have HB := n0_; clear n0_; refine start_ (n := 11) (S := fun w' => True) (ds := []) #[false, false, false, false, false, false, false, false, false, false, false] (by kernel_rfl) rfl rfl trivial (fun hHeld => ?_); refine with_tabW spec_l1Digits.tab5 spec_l1Digits.bits5 (fun HT_ HW_ => ?_); generalize w.drew = w12 at HB hHeld ⊢; refine pure_ (i := 0) (N := some 16) (v := ?_) (a' := ?_) #[true, false, false, false, false, false, false, false, false, false, false] rfl rfl (any_of HT_.out (by kernel_rfl)) (fun _ _ _ h => h) (Or.inl ⟨by rfl, ?_⟩) ?_ ?_; rotate_left
     · intro w'
       go_simp; (with_reducible rfl)
     rotate_left
     · simp only [Act.put, pa4_1, pa4_2, pa4_3, i64_w, i32_w]
       rfl
     refine pure_ (i := 1) (N := some 17) (v := ?_) (a' := ?_) #[true, true, false, false, false, false, false, false, false, false, false] rfl rfl (any_of HT_.out (by kernel_rfl)) (fun _ _ _ h => h) (Or.inl ⟨by rfl, ?_⟩) ?_ ?_; rotate_left
     · intro w'
       go_simp; (with_reducible rfl)
     rotate_left
     · simp only [Act.put, pa4_1, pa4_2, pa4_3, i64_w, i32_w]
       rfl
     refine pure_ (i := 3) (N := some 19) (v := ?_) (a' := ?_) #[true, true, false, true, false, false, false, false, false, false, false] rfl rfl (any_of HT_.out (by kernel_rfl)) (fun _ _ _ h => h) (Or.inl ⟨by rfl, ?_⟩) ?_ ?_; rotate_left
     · intro w'
       go_simp; (with_reducible rfl)
     rotate_left
     · simp only [Act.put, pa4_1, pa4_2, pa4_3, i64_w, i32_w]
       rfl
     refine pure_ (i := 4) (N := some 20) (v := ?_) (a' := ?_) #[true, true, false, true, true, false, false, false, false, false, false] rfl rfl (any_of HT_.out (by kernel_rfl)) (fun _ _ _ h => h) (Or.inl ⟨by rfl, ?_⟩) ?_ ?_; rotate_left
     · intro w'
       go_simp; (with_reducible rfl)
     rotate_left
     · simp only [Act.put, pa4_1, pa4_2, pa4_3, i64_w, i32_w]
       rfl
     refine pure_ (i := 5) (N := some 21) (v := ?_) (a' := ?_) #[true, true, false, true, true, true, false, false, false, false, false] rfl rfl (any_of HT_.out (by kernel_rfl)) (fun _ _ _ h => h) (Or.inl ⟨by rfl, ?_⟩) ?_ ?_; rotate_left
     · intro w'
       go_simp; (with_reducible rfl)
     rotate_left
     · simp only [Act.put, pa4_1, pa4_2, pa4_3, i64_w, i32_w]
       rfl
     refine pure_ (i := 6) (N := some 22) (v := ?_) (a' := ?_) #[true, true, false, true, true, true, true, false, false, false, false] rfl rfl (any_of HT_.out (by kernel_rfl)) (fun _ _ _ h => h) (Or.inl ⟨by rfl, ?_⟩) ?_ ?_; rotate_left
     · intro w'
       go_simp; (with_reducible rfl)
     rotate_left
     · simp only [Act.put, pa4_1, pa4_2, pa4_3, i64_w, i32_w]
       rfl
     refine join_ (σ := Value) 2 #[true, true, true, true, true, true, true, true, true, false, false] (fun s_ => [(18, .string t178), (23, s_), (24, .string (strOfNums y179))]) (fun s_ w' => (Kd.R (Kd.int .u8) 5 w' w.heap.size (fun _ => True) s_ y179) ∧ (Below w.heap.size w w')) ?_ ?_; rotate_left
     · intro hCont
       refine two_ (i := 2) (j := 7) (Ni := some 18) (Nj := some 23) #[true, true, true, true, true, true, true, false, false, false, false] #[true, true, false, true, true, true, true, true, false, false, false] rfl rfl rfl rfl (two_of HT_.out (by kernel_rfl)) (by decide) (by decide) (fun K hK => ?_) (fun K hK => ?_)
       · skip
         refine goes_ Tryd.func135 (by kernel_rfl) rfl #[.int .i64 (wrap64 (Int.tdiv a0 10))] (by rfl) rfl rfl d4_2 ?_; (with_reducible refine (ih k (by omega) (wrap64 (Int.tdiv a0 10)) t178 _ A10.out).mono ?_); rintro e w13 ⟨rfl, hb⟩; refine ⟨_, rfl, ?_⟩; have n0_ := ak (below_step d4_1 hb); clear HB; have HB := n0_; clear n0_
         (try clear hb)
         (try clear hb2)
         (try clear hk)
         (try clear hi)
         refine hK.out _ _ trivial (fun hHeld => ?_); clear hK K; refine norm_ (a' := ?_) ?_ ?_; rotate_left
         · show Act.put _ (some 18) _ = _
           simp only [Act.put, pa4_1, pa4_2, pa4_3, i64_w, i32_w]; rfl
         refine one_ (i := 7) (N := some 23) #[true, true, true, true, true, true, true, true, false, false, false] rfl rfl (one_of HT_.out (by kernel_rfl)) (by decide) (fun K hK => ?_); refine Kd.R_lit_step (Kd.int .u8) _ 5 ?hg (N := 23) ?hd (xs := ([(wrap64 (48 + (Int.tmod a0 10))) % 256] : List Int)) (inner := [.int .u8 ((wrap64 (48 + (Int.tmod a0 10))) % 256)]) (ok := fun _ => True) (okp := fun _ => True) ?hr ?hp (fun _ hk => hk) trivial (Below.refl _ _) (Nat.le_refl _) (by simp) ?_; (case hd => rfl); (case hg => rfl); (case hr => first | (go_simp; done) | (go_simp; rfl)); (case hp => exact (Reps.one (show Kd.M (Kd.int .u8) _ _ _ ((wrap64 (48 + (Int.tmod a0 10))) % 256) [.int .u8 ((wrap64 (48 + (Int.tmod a0 10))) % 256)] from rfl) (Reps.none _ _))); intro v180 w14 ho15 hb hg_ hnew_; clear hg_ hnew_
         (first | rw [← Ny179.out] at ho15 | (simp only [Int.reduceToNat] at ho15; rw [← Ny179.out] at ho15))
         have n0_ := ak (Kd.R_lower ho15 (below_size d4_1)); have n1_ := ak (below_step d4_1 hb); clear HB; have HO181 := n0_; have HB := n1_; clear n0_ n1_; clear hb ho15; refine hK.out _ _ trivial (fun hHeld => ?_); clear hK K; refine norm_ (a' := ?_) ?_ ?_; rotate_left
         · show Act.put _ (some 23) _ = _
           simp only [Act.put, pa4_1, pa4_2, pa4_3, i64_w, i32_w]; rfl
         refine one_ (i := 8) (N := some 24) #[true, true, true, true, true, true, true, true, true, false, false] rfl rfl (one_of HT_.out (by kernel_rfl)) (by decide) (fun K hK => ?_); have hcv16 := own_string (P := Tryd.prog) Tryd.underlying39 Tryd.underlying5 Tryd.underlying9 (Kd.own_of_R HO181.out); refine value_ (w1 := ?_) (v := ?_) (by rfl) rfl ?_ ?_; rotate_left 2
         · go_simp
           constructor
           · rfl
           · rfl
         clear hcv16; refine hK.out _ _ trivial (fun hHeld => ?_); clear hK K; refine norm_ (a' := ?_) ?_ ?_; rotate_left
         · show Act.put _ (some 24) _ = _
           simp only [Act.put, pa4_1, pa4_2, pa4_3, i64_w, i32_w]; rfl
         exact norm_ (by simp only [putAll, Act.put, List.setIfInBounds_toArray, List.set_cons_zero, List.set_cons_succ]) (hCont (v180) _ ⟨d4_4, d4_1⟩)
       · skip
         refine Kd.R_lit_step (Kd.int .u8) _ 5 ?hg (N := 23) ?hd (xs := ([(wrap64 (48 + (Int.tmod a0 10))) % 256] : List Int)) (inner := [.int .u8 ((wrap64 (48 + (Int.tmod a0 10))) % 256)]) (ok := fun _ => True) (okp := fun _ => True) ?hr ?hp (fun _ hk => hk) trivial (Below.refl _ _) (Nat.le_refl _) (by simp) ?_; (case hd => rfl); (case hg => rfl); (case hr => first | (go_simp; done) | (go_simp; rfl)); (case hp => exact (Reps.one (show Kd.M (Kd.int .u8) _ _ _ ((wrap64 (48 + (Int.tmod a0 10))) % 256) [.int .u8 ((wrap64 (48 + (Int.tmod a0 10))) % 256)] from rfl) (Reps.none _ _))); intro v180 w13 ho14 hb hg_ hnew_; clear hg_ hnew_
         (first | rw [← Ny179.out] at ho14 | (simp only [Int.reduceToNat] at ho14; rw [← Ny179.out] at ho14))
         have n0_ := ak (Kd.R_lower ho14 (below_size d4_1)); have n1_ := ak (below_step d4_1 hb); clear HB; have HO181 := n0_; have HB := n1_; clear n0_ n1_; clear hb ho14; refine hK.out _ _ trivial (fun hHeld => ?_); clear hK K; refine norm_ (a' := ?_) ?_ ?_; rotate_left
         · show Act.put _ (some 23) _ = _
           simp only [Act.put, pa4_1, pa4_2, pa4_3, i64_w, i32_w]; rfl
         refine two_ (i := 2) (j := 8) (Ni := some 18) (Nj := some 24) #[true, true, true, true, true, true, true, true, false, false, false] #[true, true, false, true, true, true, true, true, true, false, false] rfl rfl rfl rfl (two_of HT_.out (by kernel_rfl)) (by decide) (by decide) (fun K hK => ?_) (fun K hK => ?_)
         · skip
           refine goes_ Tryd.func135 (by kernel_rfl) rfl #[.int .i64 (wrap64 (Int.tdiv a0 10))] (by rfl) rfl rfl d4_2 ?_; (with_reducible refine (ih k (by omega) (wrap64 (Int.tdiv a0 10)) t178 _ A10.out).mono ?_); rintro e w15 ⟨rfl, hb⟩; refine ⟨_, rfl, ?_⟩; have n0_ := ak (Kd.R_below d4_4 hb); have n1_ := ak (below_step d4_1 hb); clear HO181; clear HB; have HO181 := n0_; have HB := n1_; clear n0_ n1_
           (try clear hb)
           (try clear hb2)
           (try clear hk)
           (try clear hi)
           refine hK.out _ _ trivial (fun hHeld => ?_); clear hK K; refine norm_ (a' := ?_) ?_ ?_; rotate_left
           · show Act.put _ (some 18) _ = _
             simp only [Act.put, pa4_1, pa4_2, pa4_3, i64_w, i32_w]; rfl
           refine one_ (i := 8) (N := some 24) #[true, true, true, true, true, true, true, true, true, false, false] rfl rfl (one_of HT_.out (by kernel_rfl)) (by decide) (fun K hK => ?_); have hcv16 := own_string (P := Tryd.prog) Tryd.underlying39 Tryd.underlying5 Tryd.underlying9 (Kd.own_of_R HO181.out); refine value_ (w1 := ?_) (v := ?_) (by rfl) rfl ?_ ?_; rotate_left 2
           · go_simp
             constructor
             · rfl
             · rfl
           clear hcv16; refine hK.out _ _ trivial (fun hHeld => ?_); clear hK K; refine norm_ (a' := ?_) ?_ ?_; rotate_left
           · show Act.put _ (some 24) _ = _
             simp only [Act.put, pa4_1, pa4_2, pa4_3, i64_w, i32_w]; rfl
           exact norm_ (by simp only [putAll, Act.put, List.setIfInBounds_toArray, List.set_cons_zero, List.set_cons_succ]) (hCont (v180) _ ⟨d4_4, d4_1⟩)
         · skip
           have hcv15 := own_string (P := Tryd.prog) Tryd.underlying39 Tryd.underlying5 Tryd.underlying9 (Kd.own_of_R HO181.out); refine value_ (w1 := ?_) (v := ?_) (by rfl) rfl ?_ ?_; rotate_left 2
           · go_simp
             constructor
             · rfl
             · rfl
           clear hcv15; refine hK.out _ _ trivial (fun hHeld => ?_); clear hK K; refine norm_ (a' := ?_) ?_ ?_; rotate_left
           · show Act.put _ (some 24) _ = _
             simp only [Act.put, pa4_1, pa4_2, pa4_3, i64_w, i32_w]; rfl
           refine one_ (i := 2) (N := some 18) #[true, true, true, true, true, true, true, true, true, false, false] rfl rfl (one_of HT_.out (by kernel_rfl)) (by decide) (fun K hK => ?_); refine goes_ Tryd.func135 (by kernel_rfl) rfl #[.int .i64 (wrap64 (Int.tdiv a0 10))] (by rfl) rfl rfl d4_2 ?_; (with_reducible refine (ih k (by omega) (wrap64 (Int.tdiv a0 10)) t178 _ A10.out).mono ?_); rintro e w16 ⟨rfl, hb⟩; refine ⟨_, rfl, ?_⟩; have n0_ := ak (Kd.R_below d4_4 hb); have n1_ := ak (below_step d4_1 hb); clear HO181; clear HB; have HO181 := n0_; have HB := n1_; clear n0_ n1_
           (try clear hb)
           (try clear hb2)
           (try clear hk)
           (try clear hi)
           refine hK.out _ _ trivial (fun hHeld => ?_); clear hK K; refine norm_ (a' := ?_) ?_ ?_; rotate_left
           · show Act.put _ (some 18) _ = _
             simp only [Act.put, pa4_1, pa4_2, pa4_3, i64_w, i32_w]; rfl
           exact norm_ (by simp only [putAll, Act.put, List.setIfInBounds_toArray, List.set_cons_zero, List.set_cons_succ]) (hCont (v180) _ ⟨d4_4, d4_1⟩)
     rintro v180 w17 ⟨h0_, h1_⟩; have n0_ : Aside0 (Kd.R (Kd.int .u8) 5 w17 w.heap.size (fun _ => True) v180 y179) := ⟨h0_⟩; have n1_ : Aside0 (Below w.heap.size w w17) := ⟨h1_⟩; clear HB; clear h0_ h1_; have HO181 := n0_; have HB := n1_; clear n0_ n1_; have hHeld := trivial; refine norm_ (a' := ?_) ?_ ?_; rotate_left
     · simp only [putAll, Act.put, List.setIfInBounds_toArray, List.set_cons_zero, List.set_cons_succ]
       rfl
     refine pure_ (i := 9) (N := some 25) (v := ?_) (a' := ?_) #[true, true, true, true, true, true, true, true, true, true, false] rfl rfl (any_of HT_.out (by kernel_rfl)) (fun _ _ _ h => h) (Or.inl ⟨by rfl, ?_⟩) ?_ ?_; rotate_left
     · intro w'
       go_simp; (with_reducible rfl)
     rotate_left
     · simp only [Act.put, pa4_1, pa4_2, pa4_3, i64_w, i32_w]
       rfl
     refine pure_ (i := 10) (N := some 2) (v := ?_) (a' := ?_) #[true, true, true, true, true, true, true, true, true, true, true] rfl rfl (any_of HT_.out (by kernel_rfl)) (fun _ _ _ h => h) (Or.inl ⟨by rfl, ?_⟩) ?_ ?_; rotate_left
     · intro w'
       go_simp; (with_reducible rfl)
     rotate_left
     · simp only [Act.put, pa4_1, pa4_2, pa4_3, i64_w, i32_w]
       rfl
     refine done_ (done_of HT_.out (by kernel_rfl)) ?_
     try go_wp2
     go_ret; exact ⟨by first | rfl | (simp [errW_none, errW_some] <;> rfl) | (simp [*, errW_none, errW_some] <;> rfl), by repeat (first | (with_reducible first | exact HB.out | apply below_alloc | apply pw_below_drewN | apply below_drew1) | exact HB.out)⟩
    ·rw [if_neg c11] at H
     exact absurd H (by simp)

end Go.Proofs.YthlgmdbfhkcghaaDoor.S
