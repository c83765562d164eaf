/- Walks of the program's functions: each Go function's answer as a plain Lean function, and that the call comes to it. Written by a program. Conditions: those in each theorem's own head. -/
import Derived.Test.YtolhanigjmhkgabDoorA0
import Derived.Test.YtolhanigjmhkgabDoorA1
import Derived.Test.YtolhanigjmhkgabDoorA3
namespace Go.Proofs.YtolhanigjmhkgabDoor.A
open Go.RowKit Go.Proofs.YtolhanigjmhkgabDoorW.PrintWords Go.Proofs.YtolhanigjmhkgabDoorW.PrintLast Go.Proofs.YtolhanigjmhkgabDoorW.PrintMore
attribute [local go_sem] max2_int min2_int max_two min_two max_three min_three max_four min_four   -- for this text's walks alone
set_option linter.unusedVariables false
set_option linter.unusedSimpArgs false

theorem d4_1 {p : Prop} (h : p := by first | rfl | (simp; done) | (simp [*]; done) | (simp [ne_nil_b, eq_nil_b]; done)) : p := h
theorem d4_2 {p : Prop} (h : p := by first | (with_reducible assumption) | assumption) : p := h
theorem c4_1 {p : Prop} (h : p := by repeat (first | exact Drawn0.refl _ | apply Drawn0.step)) : p := h
theorem c4_2 {p : Prop} (h : p := by first | rfl | (simp; done) | (simp [*]; done) | (simp [ne_nil_b, eq_nil_b]; done)) : p := h
set_option maxHeartbeats 8000000
set_option maxRecDepth 100000
theorem zm4_0 {p : Prop} (h : p := by repeat' first | (with_reducible first | apply ih0 | apply ih1 | apply ih2 | apply ih3 | apply ih4 | apply ih5 | apply spec_l2Sym.mono | apply spec_l3Deep.mono | apply spec_l3Line.mono | exact LeO.refl _ | exact LeO.none _ | refine LeO.ite ?_ ?_ | refine LeO.bind ?_ (fun _ => ?_)) | apply ih0 | apply ih1 | apply ih2 | apply ih3 | apply ih4 | apply ih5 | apply spec_l2Sym.mono | apply spec_l3Deep.mono | apply spec_l3Line.mono | exact LeO.none _ | refine LeO.ite ?_ ?_ | refine LeO.bind ?_ (fun _ => ?_)) : p := h

/-! ### spec_l3Fault: function 20 -/
mutual
def spec_l3Fault.j0 : Nat → List (S57) → Bool → Option (Int)
  | 0, _, _ => none
  | k + 1, x0, x12 => if x12 = true then (some 2) else (spec_l3Fault.l0 k x0 0)
def spec_l3Fault.l0 : Nat → List (S57) → Int → Option (Int)
  | 0, _, _ => none
  | k + 1, x0, x3 => if x3 < (x0.length : Int) then (if 0 ≤ x3 then ((spec_l3Bare.f ((rd_T57 x0 x3).f0) ((rd_T57 x0 x3).f1) ((rd_T57 x0 x3).f2) ((rd_T57 x0 x3).f3)).bind fun t149 => (if t149 = true then (if ((rd_T57 x0 x3).f0) = 1 then ((spec_l1Num.f ((rd_T57 x0 x3).f2)).bind fun t150 => (if t150 = true then (if ((rd_T57 x0 x3).f0) = 2 then ((spec_l1In.f ((rd_T57 x0 x3).f2) 0 1).bind fun t151 => (spec_l3Fault.j2 k x0 x3 (!t151))) else (spec_l3Fault.j2 k x0 x3 false)) else (spec_l3Fault.j2 k x0 x3 true))) else (if ((rd_T57 x0 x3).f0) = 2 then ((spec_l1In.f ((rd_T57 x0 x3).f2) 0 1).bind fun t152 => (spec_l3Fault.j2 k x0 x3 (!t152))) else (spec_l3Fault.j2 k x0 x3 false))) else (some 1))) else (none)) else (some 0)
def spec_l3Fault.j2 : Nat → List (S57) → Int → Bool → Option (Int)
  | 0, _, _, _ => none
  | k + 1, x0, x3, x52 => if x52 = true then (some 3) else (if 0 ≤ x3 then (if x3 < (x0.length : Int) then (if ((rd_T57 x0 x3).f0) = 3 then ((spec_l2Sym.f k ((rd_T57 x0 x3).f3)).bind fun t154 => (spec_l3Fault.j3 k x0 x3 (!t154))) else (spec_l3Fault.j3 k x0 x3 false)) else (none)) else (none))
def spec_l3Fault.j3 : Nat → List (S57) → Int → Bool → Option (Int)
  | 0, _, _, _ => none
  | k + 1, x0, x3, x65 => if x65 = true then (some 5) else (if x3 = 0 then (if 0 ≤ x3 then (if x3 < (x0.length : Int) then (if ((rd_T57 x0 x3).f1) = (-1) then (if x3 > 0 then ((spec_l1In.f ((rd_T57 x0 x3).f1) 0 (wrap64 (x3 - 1))).bind fun t156 => (spec_l3Fault.j4 k x0 x3 (!t156))) else (spec_l3Fault.j4 k x0 x3 false)) else (spec_l3Fault.j4 k x0 x3 true)) else (none)) else (none)) else (if x3 > 0 then (if 0 ≤ x3 then (if x3 < (x0.length : Int) then ((spec_l1In.f ((rd_T57 x0 x3).f1) 0 (wrap64 (x3 - 1))).bind fun t158 => (spec_l3Fault.j4 k x0 x3 (!t158))) else (none)) else (none)) else (spec_l3Fault.j4 k x0 x3 false)))
def spec_l3Fault.j4 : Nat → List (S57) → Int → Bool → Option (Int)
  | 0, _, _, _ => none
  | k + 1, x0, x3, x88 => if x88 = true then (some 3) else (if x3 > 0 then ((spec_l3Line.f k x0 x3).bind fun t159 => (spec_l3Fault.j5 k x0 x3 (!t159))) else (spec_l3Fault.j5 k x0 x3 false))
def spec_l3Fault.j5 : Nat → List (S57) → Int → Bool → Option (Int)
  | 0, _, _, _ => none
  | k + 1, x0, x3, x96 => if x96 = true then (some 1) else ((spec_l3Deep.f k x0 x3).bind fun t160 => (if t160 > 12 then (some 2) else (spec_l3Fault.l0 k x0 (wrap64 (x3 + 1)))))
end
def spec_l3Fault.f (k : Nat) (l0 : List (S57)) : Option (Int) := if (l0.length : Int) < 1 then (spec_l3Fault.j0 k l0 true) else (spec_l3Fault.j0 k l0 (decide ((l0.length : Int) > 80)))
theorem spec_l3Fault.mono_l : ∀ k, (∀ y0 y1, LeO (spec_l3Fault.j0 k y0 y1) (spec_l3Fault.j0 (k + 1) y0 y1)) ∧ (∀ y0 y1, LeO (spec_l3Fault.l0 k y0 y1) (spec_l3Fault.l0 (k + 1) y0 y1)) ∧ (∀ y0 y1 y2, LeO (spec_l3Fault.j2 k y0 y1 y2) (spec_l3Fault.j2 (k + 1) y0 y1 y2)) ∧ (∀ y0 y1 y2, LeO (spec_l3Fault.j3 k y0 y1 y2) (spec_l3Fault.j3 (k + 1) y0 y1 y2)) ∧ (∀ y0 y1 y2, LeO (spec_l3Fault.j4 k y0 y1 y2) (spec_l3Fault.j4 (k + 1) y0 y1 y2)) ∧ (∀ y0 y1 y2, LeO (spec_l3Fault.j5 k y0 y1 y2) (spec_l3Fault.j5 (k + 1) y0 y1 y2))
  | 0 => ⟨fun _ _ r h => by simp [spec_l3Fault.j0] at h, fun _ _ r h => by simp [spec_l3Fault.l0] at h, fun _ _ _ r h => by simp [spec_l3Fault.j2] at h, fun _ _ _ r h => by simp [spec_l3Fault.j3] at h, fun _ _ _ r h => by simp [spec_l3Fault.j4] at h, fun _ _ _ r h => by simp [spec_l3Fault.j5] at h⟩
  | k + 1 => by
    obtain ⟨ih0, ih1, ih2, ih3, ih4, ih5⟩ := spec_l3Fault.mono_l k; refine ⟨?_, ?_, ?_, ?_, ?_, ?_⟩
    all_goals
      intros
      first | unfold spec_l3Fault.j0 | unfold spec_l3Fault.l0 | unfold spec_l3Fault.j2 | unfold spec_l3Fault.j3 | unfold spec_l3Fault.j4 | unfold spec_l3Fault.j5
      exact zm4_0
theorem spec_l3Fault.mono : ∀ a0 k, LeO (spec_l3Fault.f k a0) (spec_l3Fault.f (k + 1) a0) := by
  intro a0 k; obtain ⟨ih0, ih1, ih2, ih3, ih4, ih5⟩ := spec_l3Fault.mono_l k; unfold spec_l3Fault.f
  exact zm4_0
theorem spec_l3Fault.calls (k : Nat) (A0 : Option Addr) (c0 : Nat) (l0 : List (S57)) (r : Int) (w : World) (hr0 : Kd.C k57 w A0 l0.length l0) (hc0 : l0.length ≤ c0) (h : spec_l3Fault.f k l0 = some r) :
    Calls Tryd.prog 20 #[.slice A0 l0.length c0] w fun e w' => e = .returned (.int .i64 r) ∧ Drawn0 w w' := by
  have HR0 := ak hr0; have HC0 := ak hc0; clear hr0 hc0; have H := h; clear h; unfold spec_l3Fault.f at H; have HC2 := ak H; clear H; go_enter Tryd.func20, Tryd.ntmps20; go_upto_region 1 with (fail); go_cut [12] (fun v12 wc => ∃ (kq : Nat) (x12_1 : Bool), v12 = .bool x12_1 ∧ Aside0 (spec_l3Fault.j0 kq l0 x12_1 = some r) ∧ Aside0 (kq ≤ k) ∧ Drawn0 w wc)
  case first =>
   have H := HC2.out; clear HC2; by_cases c3 : (l0.length : Int) < 1
   ·rw [if_pos c3] at H
    have c3b0 : decide ((l0.length : Int) < 1) = true := decide_eq_true c3; have c3b1 : decide (l0.length < 1) = true := decide_eq_true (by omega); clear c3
    (first | rw [c3b0] | (simp only [i64_w, i32_w]; rw [c3b0]) | skip)
    have H' := ak H; clear H; go_wp2; go_meet
    case rel => exact ⟨_, (true), d4_1, H', ⟨by first | exact Nat.le_refl _ | omega⟩, c4_1⟩
   ·rw [if_neg c3] at H
    have c3b0 : decide ((l0.length : Int) < 1) = false := decide_eq_false c3; have c3b1 : decide (l0.length < 1) = false := decide_eq_false (by omega); clear c3
    (first | rw [c3b0] | (simp only [i64_w, i32_w]; rw [c3b0]) | skip)
    have H' := ak H; clear H; go_wp2; go_meet
    case rel => exact ⟨_, (decide ((l0.length : Int) > 80)), d4_1, H', ⟨by first | exact Nat.le_refl _ | omega⟩, c4_1⟩
  case rest =>
   clear HC2
   try clear c2
   obtain ⟨kq, x12_1, rfl, HA, HJ1, ⟨mc1, rfl⟩⟩ := hcut
   cases kq with
   | zero => exact absurd HA.out (by simp [spec_l3Fault.j0])
   | succ kj1 =>
    have H := HA.out; clear HA; simp only [spec_l3Fault.j0] at H; by_cases c4 : x12_1 = true
    ·subst c4
     rw [if_pos rfl] at H; obtain rfl := Option.some.inj H; go_wp2; go_ret; exact ⟨c4_2, c4_1⟩
    ·replace c4 := Bool.eq_false_iff.mpr c4
     subst c4; rw [if_neg (show ¬ (false = true) by decide)] at H; have H' := ak H; clear H; go_wp2; go_loopg [3] kj1 (fun kq v3 w' => ∃ (x3_2 : Int), v3 = .int .i64 x3_2 ∧ Aside0 (spec_l3Fault.l0 kq l0 x3_2 = some r) ∧ Aside0 (kq ≤ kj1) ∧ Drawn0 w w')
     case atStart => exact ⟨(0), d4_1, H', ⟨Nat.le_refl _⟩, c4_1⟩
     case round =>
      clear H'
      (try clear c1); (try clear c2); (try clear p2); (try clear c3 c3b0 c3b1); (try clear c4)
      obtain ⟨x3_2, rfl, HA, HK2, ⟨m2, rfl⟩⟩ := hrel
      cases gk with
      | zero => exact absurd HA.out (by simp [spec_l3Fault.l0])
      | succ k2 =>
       have H := HA.out; clear HA; simp only [spec_l3Fault.l0] at H; by_cases c5 : x3_2 < (l0.length : Int)
       ·rw [if_pos c5] at H
        have c5b0 : decide (x3_2 < (l0.length : Int)) = true := decide_eq_true c5; clear c5; by_cases c6 : 0 ≤ x3_2
        ·rw [if_pos c6] at H
         have c6b0 : decide (0 ≤ x3_2) = true := decide_eq_true c6; clear c6; obtain ⟨t149, A7, H⟩ := zbi_ H; (try dsimp -simprocs only at H); by_cases c8 : t149 = true
         ·subst c8
          rw [if_pos rfl] at H; have HC9 := ak H; clear H; have p148 : 0 ≤ (x3_2 : Int) := of_decide_eq_true d4_2; have q148 : x3_2 < (l0.length : Int) := of_decide_eq_true d4_2; obtain ⟨ad148, e148, hx148_0, hx148_1, hx148_2, hx148_3⟩ := at_T57 HR0.out x3_2 p148 q148
          cases e148
          replace p148 := eq_true p148; replace q148 := eq_true q148; go_upto_region 9 with (first | (go_at_call 37; (with_reducible refine (spec_l3Bare.calls _ ((rd_T57 l0 x3_2).f0) ((rd_T57 l0 x3_2).f1) ((rd_T57 l0 x3_2).f2) ((rd_T57 l0 x3_2).f3) true _ ?side1 ?side2 ?side3 ?side4 A7.out).mono ?_); (case side1 => first | exact hx148_0 | (refine Eq.trans ?_ hx148_0; simp only [go_sem])); (case side2 => first | exact hx148_1 | (refine Eq.trans ?_ hx148_1; simp only [go_sem])); (case side3 => first | exact hx148_2 | (refine Eq.trans ?_ hx148_2; simp only [go_sem])); (case side4 => first | exact hx148_3 | (refine Eq.trans ?_ hx148_3; simp only [go_sem])); rintro e w' ⟨rfl, ⟨nd, rfl⟩⟩))
          (try simp only [Act.put, List.setIfInBounds_toArray, List.set_cons_zero, List.set_cons_succ])
          go_cut [52] (fun v52 wc => ∃ (kq : Nat) (x52_8 : Bool), v52 = .bool x52_8 ∧ Aside0 (spec_l3Fault.j2 kq l0 x3_2 x52_8 = some r) ∧ Aside0 (kq ≤ k2) ∧ Drawn0 w wc)
          case first =>
           have H := HC9.out; clear HC9; by_cases c10 : ((rd_T57 l0 x3_2).f0) = 1
           ·rw [if_pos c10] at H
            obtain ⟨c10b0, c10b1⟩ := zbt_ c10; clear c10
            (first | rw [c10b0] | (simp only [i64_w, i32_w]; rw [c10b0]) | skip)
            obtain ⟨t150, A11, H⟩ := zbi_ H; (try dsimp -simprocs only at H); by_cases c12 : t150 = true
            ·subst c12
             rw [if_pos rfl] at H; by_cases c13 : ((rd_T57 l0 x3_2).f0) = 2
             ·rw [if_pos c13] at H
              obtain ⟨c13b0, c13b1⟩ := zbt_ c13; clear c13; obtain ⟨t151, A14, H⟩ := zbi_ H; (try dsimp -simprocs only at H); have H' := ak H; clear H; go_wp2_with (first | (go_at_call 38; (with_reducible refine (spec_l1Num.calls ((rd_T57 l0 x3_2).f2) true _ A11.out).mono ?_); rintro e w' ⟨rfl, ⟨nd, rfl⟩⟩) | (go_at_call 39; (with_reducible refine (spec_l1In.calls ((rd_T57 l0 x3_2).f2) 0 1 t151 _ A14.out).mono ?_); rintro e w' ⟨rfl, ⟨nd, rfl⟩⟩)); go_meet
              case rel => exact ⟨_, (!t151), d4_1, H', ⟨by have := HJ1.out; have := HK2.out; first | exact Nat.le_refl _ | omega⟩, c4_1⟩
             ·rw [if_neg c13] at H
              obtain ⟨c13b0, c13b1⟩ := zbf_ c13; have H' := ak H; clear H; go_wp2_with (first | (go_at_call 38; (with_reducible refine (spec_l1Num.calls ((rd_T57 l0 x3_2).f2) true _ A11.out).mono ?_); rintro e w' ⟨rfl, ⟨nd, rfl⟩⟩)); go_meet
              case rel => exact ⟨_, (false), d4_1, H', ⟨by have := HJ1.out; have := HK2.out; first | exact Nat.le_refl _ | omega⟩, c4_1⟩
            ·replace c12 := Bool.eq_false_iff.mpr c12
             subst c12; rw [if_neg (show ¬ (false = true) by decide)] at H; have H' := ak H; clear H; go_wp2_with (first | (go_at_call 38; (with_reducible refine (spec_l1Num.calls ((rd_T57 l0 x3_2).f2) false _ A11.out).mono ?_); rintro e w' ⟨rfl, ⟨nd, rfl⟩⟩)); go_meet
             case rel => exact ⟨_, (true), d4_1, H', ⟨by have := HJ1.out; have := HK2.out; first | exact Nat.le_refl _ | omega⟩, c4_1⟩
           ·rw [if_neg c10] at H
            obtain ⟨c10b0, c10b1⟩ := zbf_ c10
            (first | rw [c10b0] | (simp only [i64_w, i32_w]; rw [c10b0]) | skip)
            by_cases c15 : ((rd_T57 l0 x3_2).f0) = 2
            ·rw [if_pos c15] at H
             obtain ⟨c15b0, c15b1⟩ := zbt_ c15; clear c15; obtain ⟨t152, A16, H⟩ := zbi_ H; (try dsimp -simprocs only at H); have H' := ak H; clear H; go_wp2_with (first | (go_at_call 39; (with_reducible refine (spec_l1In.calls ((rd_T57 l0 x3_2).f2) 0 1 t152 _ A16.out).mono ?_); rintro e w' ⟨rfl, ⟨nd, rfl⟩⟩)); go_meet
             case rel => exact ⟨_, (!t152), d4_1, H', ⟨by have := HJ1.out; have := HK2.out; first | exact Nat.le_refl _ | omega⟩, c4_1⟩
            ·rw [if_neg c15] at H
             obtain ⟨c15b0, c15b1⟩ := zbf_ c15; have H' := ak H; clear H; go_wp2; go_meet
             case rel => exact ⟨_, (false), d4_1, H', ⟨by have := HJ1.out; have := HK2.out; first | exact Nat.le_refl _ | omega⟩, c4_1⟩
          case rest =>
           clear HC9
           (try clear c1); (try clear p1); (try clear q1); (try clear hx1); (try clear c2); (try clear p2 p2); (try clear c3 c3b0 c3b1); (try clear c4); (try clear c5 c5b0); (try clear c6 c6b0); (try clear c8); (try clear p14); (try clear q14); (try clear hx14); (try clear hx148_0); (try clear hx148_1); (try clear hx148_2); (try clear hx148_3); (try clear p148); (try clear q148)
           obtain ⟨kq, x52_8, rfl, HA, HJ8, ⟨mc8, rfl⟩⟩ := hcut
           cases kq with
           | zero => exact absurd HA.out (by simp [spec_l3Fault.j2])
           | succ kj8 =>
            have H := HA.out; clear HA; simp only [spec_l3Fault.j2] at H; by_cases c17 : x52_8 = true
            ·subst c17
             rw [if_pos rfl] at H; obtain rfl := Option.some.inj H; go_wp2; go_ret; exact ⟨c4_2, c4_1⟩
            ·replace c17 := Bool.eq_false_iff.mpr c17
             subst c17; rw [if_neg (show ¬ (false = true) by decide)] at H; have HC18 := ak H; clear H; go_upto_region 11 with (fail); go_cut [65] (fun v65 wc => ∃ (kq : Nat) (x65_17 : Bool), v65 = .bool x65_17 ∧ Aside0 (spec_l3Fault.j3 kq l0 x3_2 x65_17 = some r) ∧ Aside0 (kq ≤ kj8) ∧ Drawn0 w wc)
             case first =>
              have H := HC18.out; clear HC18; by_cases c19 : 0 ≤ x3_2
              ·rw [if_pos c19] at H
               have c19b0 : decide (0 ≤ x3_2) = true := decide_eq_true c19; clear c19
               (first | rw [c19b0] | (simp only [i64_w, i32_w]; rw [c19b0]) | skip)
               by_cases c20 : x3_2 < (l0.length : Int)
               ·rw [if_pos c20] at H
                have c20b0 : decide (x3_2 < (l0.length : Int)) = true := decide_eq_true c20; clear c20; by_cases c21 : ((rd_T57 l0 x3_2).f0) = 3
                ·rw [if_pos c21] at H
                 obtain ⟨c21b0, c21b1⟩ := zbt_ c21; clear c21; obtain ⟨t154, A22, H⟩ := zbi_ H; (try dsimp -simprocs only at H); have H' := ak H; clear H; have p153 : 0 ≤ (x3_2 : Int) := of_decide_eq_true d4_2; have q153 : x3_2 < (l0.length : Int) := of_decide_eq_true d4_2; obtain ⟨ad153, e153, hx153_0, hx153_1, hx153_2, hx153_3⟩ := at_T57 HR0.out x3_2 p153 q153; obtain rfl : ad148 = ad153 := (by injection e153); replace p153 := eq_true p153; replace q153 := eq_true q153; go_wp2_with (first | (go_at_call 40; (with_reducible refine (spec_l2Sym.calls kj8 ((rd_T57 l0 x3_2).f3) t154 _ A22.out).mono ?_); rintro e w' ⟨rfl, ⟨nd, rfl⟩⟩)); go_meet
                 case rel => exact ⟨_, (!t154), d4_1, H', ⟨by have := HJ1.out; have := HK2.out; have := HJ8.out; first | exact Nat.le_refl _ | omega⟩, c4_1⟩
                ·rw [if_neg c21] at H
                 obtain ⟨c21b0, c21b1⟩ := zbf_ c21; have H' := ak H; clear H; have p153 : 0 ≤ (x3_2 : Int) := of_decide_eq_true d4_2; have q153 : x3_2 < (l0.length : Int) := of_decide_eq_true d4_2; obtain ⟨ad153, e153, hx153_0, hx153_1, hx153_2, hx153_3⟩ := at_T57 HR0.out x3_2 p153 q153; obtain rfl : ad148 = ad153 := (by injection e153); replace p153 := eq_true p153; replace q153 := eq_true q153; go_wp2; go_meet
                 case rel => exact ⟨_, (false), d4_1, H', ⟨by have := HJ1.out; have := HK2.out; have := HJ8.out; first | exact Nat.le_refl _ | omega⟩, c4_1⟩
               ·rw [if_neg c20] at H
                exact absurd H (by simp)
              ·rw [if_neg c19] at H
               exact absurd H (by simp)
             case rest =>
              clear HC18
              (try clear c1); (try clear p1 p1); (try clear q1 q1); (try clear hx1); (try clear c2); (try clear p2 p2); (try clear c3 c3b0 c3b1); (try clear c4); (try clear c5 c5b0); (try clear c6 c6b0); (try clear c8); (try clear c10 c10b0 c10b1); (try clear c12); (try clear c13 c13b0 c13b1); (try clear p14 p14); (try clear q14 q14); (try clear hx14); (try clear c15 c15b0 c15b1); (try clear c17); (try clear c20); (try clear hx148_0); (try clear hx148_1); (try clear hx148_2); (try clear hx148_3); (try clear p148); (try clear q148)
              obtain ⟨kq, x65_17, rfl, HA, HJ17, ⟨mc17, rfl⟩⟩ := hcut
              cases kq with
              | zero => exact absurd HA.out (by simp [spec_l3Fault.j3])
              | succ kj17 =>
               have H := HA.out; clear HA; simp only [spec_l3Fault.j3] at H; by_cases c23 : x65_17 = true
               ·subst c23
                rw [if_pos rfl] at H; obtain rfl := Option.some.inj H; go_wp2; go_ret; exact ⟨c4_2, c4_1⟩
               ·replace c23 := Bool.eq_false_iff.mpr c23
                subst c23; rw [if_neg (show ¬ (false = true) by decide)] at H; have HC24 := ak H; clear H; go_upto_region 13 with (fail); go_cut [88] (fun v88 wc => ∃ (kq : Nat) (x88_23 : Bool), v88 = .bool x88_23 ∧ Aside0 (spec_l3Fault.j4 kq l0 x3_2 x88_23 = some r) ∧ Aside0 (kq ≤ kj17) ∧ Drawn0 w wc)
                case first =>
                 have H := HC24.out; clear HC24; by_cases c25 : x3_2 = 0
                 ·rw [if_pos c25] at H
                  obtain ⟨c25b0, c25b1⟩ := zbt_ c25; clear c25
                  (first | rw [c25b0] | (simp only [i64_w, i32_w]; rw [c25b0]) | skip)
                  by_cases c26 : 0 ≤ x3_2
                  ·rw [if_pos c26] at H
                   have c26b0 : decide (0 ≤ x3_2) = true := decide_eq_true c26; clear c26; by_cases c27 : x3_2 < (l0.length : Int)
                   ·rw [if_pos c27] at H
                    have c27b0 : decide (x3_2 < (l0.length : Int)) = true := decide_eq_true c27; clear c27; by_cases c28 : ((rd_T57 l0 x3_2).f1) = (-1)
                    ·rw [if_pos c28] at H
                     obtain ⟨c28b0, c28b1⟩ := zbt_ c28; clear c28; by_cases c29 : x3_2 > 0
                     ·rw [if_pos c29] at H
                      have c29b0 : decide (0 < x3_2) = true := decide_eq_true c29; clear c29; obtain ⟨t156, A30, H⟩ := zbi_ H; (try dsimp -simprocs only at H); have H' := ak H; clear H; have p155 : 0 ≤ (x3_2 : Int) := of_decide_eq_true d4_2; have q155 : x3_2 < (l0.length : Int) := of_decide_eq_true d4_2; obtain ⟨ad155, e155, hx155_0, hx155_1, hx155_2, hx155_3⟩ := at_T57 HR0.out x3_2 p155 q155; obtain rfl : ad148 = ad155 := (by injection e155); replace p155 := eq_true p155; replace q155 := eq_true q155; go_wp2_with (first | (go_at_call 39; (with_reducible refine (spec_l1In.calls ((rd_T57 l0 x3_2).f1) 0 (wrap64 (x3_2 - 1)) t156 _ A30.out).mono ?_); rintro e w' ⟨rfl, ⟨nd, rfl⟩⟩)); go_meet
                      case rel => exact ⟨_, (!t156), d4_1, H', ⟨by have := HJ1.out; have := HK2.out; have := HJ8.out; have := HJ17.out; first | exact Nat.le_refl _ | omega⟩, c4_1⟩
                     ·rw [if_neg c29] at H
                      have c29b0 : decide (0 < x3_2) = false := decide_eq_false c29; clear c29; have H' := ak H; clear H; have p155 : 0 ≤ (x3_2 : Int) := of_decide_eq_true d4_2; have q155 : x3_2 < (l0.length : Int) := of_decide_eq_true d4_2; obtain ⟨ad155, e155, hx155_0, hx155_1, hx155_2, hx155_3⟩ := at_T57 HR0.out x3_2 p155 q155; obtain rfl : ad148 = ad155 := (by injection e155); replace p155 := eq_true p155; replace q155 := eq_true q155; go_wp2; go_meet
                      case rel => exact ⟨_, (false), d4_1, H', ⟨by have := HJ1.out; have := HK2.out; have := HJ8.out; have := HJ17.out; first | exact Nat.le_refl _ | omega⟩, c4_1⟩
                    ·rw [if_neg c28] at H
                     obtain ⟨c28b0, c28b1⟩ := zbf_ c28; have H' := ak H; clear H; have p155 : 0 ≤ (x3_2 : Int) := of_decide_eq_true d4_2; have q155 : x3_2 < (l0.length : Int) := of_decide_eq_true d4_2; obtain ⟨ad155, e155, hx155_0, hx155_1, hx155_2, hx155_3⟩ := at_T57 HR0.out x3_2 p155 q155; obtain rfl : ad148 = ad155 := (by injection e155); replace p155 := eq_true p155; replace q155 := eq_true q155; go_wp2; go_meet
                     case rel => exact ⟨_, (true), d4_1, H', ⟨by have := HJ1.out; have := HK2.out; have := HJ8.out; have := HJ17.out; first | exact Nat.le_refl _ | omega⟩, c4_1⟩
                   ·rw [if_neg c27] at H
                    exact absurd H (by simp)
                  ·rw [if_neg c26] at H
                   exact absurd H (by simp)
                 ·rw [if_neg c25] at H
                  obtain ⟨c25b0, c25b1⟩ := zbf_ c25
                  (first | rw [c25b0] | (simp only [i64_w, i32_w]; rw [c25b0]) | skip)
                  by_cases c31 : x3_2 > 0
                  ·rw [if_pos c31] at H
                   have c31b0 : decide (0 < x3_2) = true := decide_eq_true c31; clear c31; by_cases c32 : 0 ≤ x3_2
                   ·rw [if_pos c32] at H
                    have c32b0 : decide (0 ≤ x3_2) = true := decide_eq_true c32; clear c32; by_cases c33 : x3_2 < (l0.length : Int)
                    ·rw [if_pos c33] at H
                     have c33b0 : decide (x3_2 < (l0.length : Int)) = true := decide_eq_true c33; clear c33; obtain ⟨t158, A34, H⟩ := zbi_ H; (try dsimp -simprocs only at H); have H' := ak H; clear H; have p157 : 0 ≤ (x3_2 : Int) := of_decide_eq_true d4_2; have q157 : x3_2 < (l0.length : Int) := of_decide_eq_true d4_2; obtain ⟨ad157, e157, hx157_0, hx157_1, hx157_2, hx157_3⟩ := at_T57 HR0.out x3_2 p157 q157; obtain rfl : ad148 = ad157 := (by injection e157); replace p157 := eq_true p157; replace q157 := eq_true q157; go_wp2_with (first | (go_at_call 39; (with_reducible refine (spec_l1In.calls ((rd_T57 l0 x3_2).f1) 0 (wrap64 (x3_2 - 1)) t158 _ A34.out).mono ?_); rintro e w' ⟨rfl, ⟨nd, rfl⟩⟩)); go_meet
                     case rel => exact ⟨_, (!t158), d4_1, H', ⟨by have := HJ1.out; have := HK2.out; have := HJ8.out; have := HJ17.out; first | exact Nat.le_refl _ | omega⟩, c4_1⟩
                    ·rw [if_neg c33] at H
                     exact absurd H (by simp)
                   ·rw [if_neg c32] at H
                    exact absurd H (by simp)
                  ·rw [if_neg c31] at H
                   have c31b0 : decide (0 < x3_2) = false := decide_eq_false c31; clear c31; have H' := ak H; clear H; go_wp2; go_meet
                   case rel => exact ⟨_, (false), d4_1, H', ⟨by have := HJ1.out; have := HK2.out; have := HJ8.out; have := HJ17.out; first | exact Nat.le_refl _ | omega⟩, c4_1⟩
                case rest =>
                 clear HC24
                 (try clear c1); (try clear p1 p1); (try clear q1 q1); (try clear hx1); (try clear c2); (try clear p2 p2); (try clear c3 c3b0 c3b1); (try clear c4); (try clear c5 c5b0); (try clear c6 c6b0); (try clear p6); (try clear c8); (try clear c10 c10b0 c10b1); (try clear c12); (try clear c13 c13b0 c13b1); (try clear p14 p14); (try clear q14 q14); (try clear hx14); (try clear c15 c15b0 c15b1); (try clear p15); (try clear q15); (try clear hx15); (try clear c17); (try clear c19 c19b0); (try clear c20 c20b0); (try clear c21 c21b0 c21b1); (try clear c23); (try clear hx148_0); (try clear hx148_1); (try clear hx148_2); (try clear hx148_3); (try clear hx153_0); (try clear hx153_1); (try clear hx153_2); (try clear hx153_3); (try clear p148); (try clear p153); (try clear q148); (try clear q153)
                 obtain ⟨kq, x88_23, rfl, HA, HJ23, ⟨mc23, rfl⟩⟩ := hcut
                 cases kq with
                 | zero => exact absurd HA.out (by simp [spec_l3Fault.j4])
                 | succ kj23 =>
                  have H := HA.out; clear HA; simp only [spec_l3Fault.j4] at H; by_cases c35 : x88_23 = true
                  ·subst c35
                   rw [if_pos rfl] at H; obtain rfl := Option.some.inj H; go_wp2; go_ret; exact ⟨c4_2, c4_1⟩
                  ·replace c35 := Bool.eq_false_iff.mpr c35
                   subst c35; rw [if_neg (show ¬ (false = true) by decide)] at H; have HC36 := ak H; clear H; go_upto_region 15 with (fail); go_cut [96] (fun v96 wc => ∃ (kq : Nat) (x96_35 : Bool), v96 = .bool x96_35 ∧ Aside0 (spec_l3Fault.j5 kq l0 x3_2 x96_35 = some r) ∧ Aside0 (kq ≤ kj23) ∧ Drawn0 w wc)
                   case first =>
                    have H := HC36.out; clear HC36; by_cases c37 : x3_2 > 0
                    ·rw [if_pos c37] at H
                     have c37b0 : decide (0 < x3_2) = true := decide_eq_true c37; clear c37
                     (first | rw [c37b0] | (simp only [i64_w, i32_w]; rw [c37b0]) | skip)
                     obtain ⟨t159, A38, H⟩ := zbi_ H; (try dsimp -simprocs only at H); have H' := ak H; clear H; go_wp2_with (first | (go_at_call 41; (with_reducible refine (spec_l3Line.calls kj23 _ _ l0 x3_2 t159 _ ?side1 ?side2 A38.out).mono ?_); (case side1 => repeat (first | exact HR0.out | (with_reducible refine Kd.C_alloc ?_ _) | (with_reducible refine Kd.C_drewN ?_ _) | (with_reducible refine Kd.C_drew ?_))); (case side2 => exact HC0.out); rintro e w' ⟨rfl, ⟨nd, rfl⟩⟩)); go_meet
                     case rel => exact ⟨_, (!t159), d4_1, H', ⟨by have := HJ1.out; have := HK2.out; have := HJ8.out; have := HJ17.out; have := HJ23.out; first | exact Nat.le_refl _ | omega⟩, c4_1⟩
                    ·rw [if_neg c37] at H
                     have c37b0 : decide (0 < x3_2) = false := decide_eq_false c37; clear c37
                     (first | rw [c37b0] | (simp only [i64_w, i32_w]; rw [c37b0]) | skip)
                     have H' := ak H; clear H; go_wp2; go_meet
                     case rel => exact ⟨_, (false), d4_1, H', ⟨by have := HJ1.out; have := HK2.out; have := HJ8.out; have := HJ17.out; have := HJ23.out; first | exact Nat.le_refl _ | omega⟩, c4_1⟩
                   case rest =>
                    clear HC36
                    (try clear c1); (try clear p1 p1); (try clear q1 q1); (try clear hx1); (try clear c2); (try clear p2 p2); (try clear c3 c3b0 c3b1); (try clear c4); (try clear c5 c5b0); (try clear c6 c6b0); (try clear p6 p6); (try clear c8); (try clear c10 c10b0 c10b1); (try clear c12); (try clear c13 c13b0 c13b1); (try clear p14 p14); (try clear q14 q14); (try clear hx14); (try clear c15 c15b0 c15b1); (try clear p15 p15); (try clear q15 q15); (try clear hx15); (try clear c17); (try clear c19 c19b0); (try clear c20 c20b0); (try clear c21 c21b0 c21b1); (try clear c23); (try clear c25 c25b0 c25b1); (try clear c26 c26b0); (try clear c27 c27b0); (try clear c28 c28b0 c28b1); (try clear c29 c29b0); (try clear c31 c31b0); (try clear c32 c32b0); (try clear c33 c33b0); (try clear c35); (try clear hx148_0); (try clear hx148_1); (try clear hx148_2); (try clear hx148_3); (try clear hx153_0); (try clear hx153_1); (try clear hx153_2); (try clear hx153_3); (try clear hx155_0); (try clear hx155_1); (try clear hx155_2); (try clear hx155_3); (try clear hx157_0); (try clear hx157_1); (try clear hx157_2); (try clear hx157_3); (try clear p148); (try clear p153); (try clear p155); (try clear p157); (try clear q148); (try clear q153); (try clear q155); (try clear q157)
                    obtain ⟨kq, x96_35, rfl, HA, HJ35, ⟨mc35, rfl⟩⟩ := hcut
                    cases kq with
                    | zero => exact absurd HA.out (by simp [spec_l3Fault.j5])
                    | succ kj35 =>
                     have H := HA.out; clear HA; simp only [spec_l3Fault.j5] at H; by_cases c39 : x96_35 = true
                     ·subst c39
                      rw [if_pos rfl] at H; obtain rfl := Option.some.inj H; go_wp2; go_ret; exact ⟨c4_2, c4_1⟩
                     ·replace c39 := Bool.eq_false_iff.mpr c39
                      subst c39; rw [if_neg (show ¬ (false = true) by decide)] at H; obtain ⟨t160, A40, H⟩ := zbi_ H; (try dsimp -simprocs only at H); by_cases c41 : t160 > 12
                      ·rw [if_pos c41] at H
                       have c41b0 : decide (12 < t160) = true := decide_eq_true c41; clear c41; obtain rfl := Option.some.inj H; go_wp2_with (first | ((with_reducible refine gate_callee (f := 42) rfl ?_); refine goesL_ (some 99) rfl rfl Tryd.func42 (by kernel_rfl) rfl #[.slice (some ad148) l0.length c0, .int .i64 x3_2] rfl (by (try simp only [List.map_toArray, List.map_cons, List.map_nil]); first | done | rfl | (simp only [List.length_drop, List.length_take]; rfl)) ?_; (with_reducible refine (spec_l3Deep.calls kj35 _ _ l0 x3_2 t160 _ ?side1 ?side2 A40.out).mono ?_); (case side1 => repeat (first | exact HR0.out | (with_reducible refine Kd.C_alloc ?_ _) | (with_reducible refine Kd.C_drewN ?_ _) | (with_reducible refine Kd.C_drew ?_))); (case side2 => exact HC0.out); rintro e w' ⟨rfl, ⟨nd, rfl⟩⟩; refine ⟨_, rfl, ?_⟩)); go_ret; exact ⟨c4_2, c4_1⟩
                      ·rw [if_neg c41] at H
                       have c41b0 : decide (12 < t160) = false := decide_eq_false c41; clear c41; have H' := ak H; clear H; go_wp2_with (first | ((with_reducible refine gate_callee (f := 42) rfl ?_); refine goesL_ (some 99) rfl rfl Tryd.func42 (by kernel_rfl) rfl #[.slice (some ad148) l0.length c0, .int .i64 x3_2] rfl (by (try simp only [List.map_toArray, List.map_cons, List.map_nil]); first | done | rfl | (simp only [List.length_drop, List.length_take]; rfl)) ?_; (with_reducible refine (spec_l3Deep.calls kj35 _ _ l0 x3_2 t160 _ ?side1 ?side2 A40.out).mono ?_); (case side1 => repeat (first | exact HR0.out | (with_reducible refine Kd.C_alloc ?_ _) | (with_reducible refine Kd.C_drewN ?_ _) | (with_reducible refine Kd.C_drew ?_))); (case side2 => exact HC0.out); rintro e w' ⟨rfl, ⟨nd, rfl⟩⟩; refine ⟨_, rfl, ?_⟩)); go_roundg kj35
                       case measure => have := HJ1.out; have := HK2.out; have := HJ8.out; have := HJ17.out; have := HJ23.out; have := HJ35.out; omega
                       case rel => exact ⟨(wrap64 (x3_2 + 1)), d4_1, H', ⟨by have := HJ1.out; have := HK2.out; have := HJ8.out; have := HJ17.out; have := HJ23.out; have := HJ35.out; omega⟩, c4_1⟩
         ·replace c8 := Bool.eq_false_iff.mpr c8
          subst c8; rw [if_neg (show ¬ (false = true) by decide)] at H; obtain rfl := Option.some.inj H; have p148 : 0 ≤ (x3_2 : Int) := of_decide_eq_true d4_2; have q148 : x3_2 < (l0.length : Int) := of_decide_eq_true d4_2; obtain ⟨ad148, e148, hx148_0, hx148_1, hx148_2, hx148_3⟩ := at_T57 HR0.out x3_2 p148 q148
          cases e148
          replace p148 := eq_true p148; replace q148 := eq_true q148; go_wp2_with (first | (go_at_call 37; (with_reducible refine (spec_l3Bare.calls _ ((rd_T57 l0 x3_2).f0) ((rd_T57 l0 x3_2).f1) ((rd_T57 l0 x3_2).f2) ((rd_T57 l0 x3_2).f3) false _ ?side1 ?side2 ?side3 ?side4 A7.out).mono ?_); (case side1 => first | exact hx148_0 | (refine Eq.trans ?_ hx148_0; simp only [go_sem])); (case side2 => first | exact hx148_1 | (refine Eq.trans ?_ hx148_1; simp only [go_sem])); (case side3 => first | exact hx148_2 | (refine Eq.trans ?_ hx148_2; simp only [go_sem])); (case side4 => first | exact hx148_3 | (refine Eq.trans ?_ hx148_3; simp only [go_sem])); rintro e w' ⟨rfl, ⟨nd, rfl⟩⟩)); go_ret; exact ⟨c4_2, c4_1⟩
        ·rw [if_neg c6] at H
         exact absurd H (by simp)
       ·rw [if_neg c5] at H
        have c5b0 : decide (x3_2 < (l0.length : Int)) = false := decide_eq_false c5; clear c5; obtain rfl := Option.some.inj H; go_wp2; go_ret; exact ⟨c4_2, c4_1⟩

end Go.Proofs.YtolhanigjmhkgabDoor.A
