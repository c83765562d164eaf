/- Walks of the program's functions: each Go function's answer as a plain Lean function, and that the call comes to it. Written by a program. Conditions: those in each theorem's own head. -/
import Derived.Test.YtjlmknembpjnjaaDoorA0
import Derived.Test.YtjlmknembpjnjaaDoorA5
import Derived.Test.YtjlmknembpjnjaaDoorA6
namespace Go.Proofs.YtjlmknembpjnjaaDoor.A
open Go.RowKit Go.Proofs.YtjlmknembpjnjaaDoorW.PrintWords Go.Proofs.YtjlmknembpjnjaaDoorW.PrintLast Go.Proofs.YtjlmknembpjnjaaDoorW.PrintMore
attribute [local go_sem] max2_int min2_int max_two min_two max_three min_three max_four min_four   -- for this text's walks alone
set_option linter.unusedVariables false
set_option linter.unusedSimpArgs false

theorem d7_1 {p : Prop} (h : p := by first | rfl | (simp; done) | (simp [*]; done) | (simp [ne_nil_b, eq_nil_b]; done)) : p := h
theorem d7_2 {p : Prop} (h : p := by first | (with_reducible assumption) | assumption) : p := h
theorem c7_1 {p : Prop} (h : p := by repeat (first | exact Drawn0.refl _ | apply Drawn0.step)) : p := h
theorem c7_2 {p : Prop} (h : p := by first | rfl | (simp; done) | (simp [*]; done) | (simp [ne_nil_b, eq_nil_b]; done)) : p := h
set_option maxHeartbeats 8000000
set_option maxRecDepth 100000

/-! ### spec_l3Fault: function 23 -/
mutual
def spec_l3Fault.j0 : Nat → List (S45) → Bool → Option (Int)
  | 0, _, _ => none
  | k + 1, x0, x12 => if x12 = true then (some 2) else (spec_l3Fault.l0 k x0 0)
def spec_l3Fault.l0 : Nat → List (S45) → Int → Option (Int)
  | 0, _, _ => none
  | k + 1, x0, x3 => if x3 < (x0.length : Int) then (if 0 ≤ x3 then ((spec_l3Bare.f ((rd_T45 x0 x3).f0) ((rd_T45 x0 x3).f1) ((rd_T45 x0 x3).f2) ((rd_T45 x0 x3).f3)).bind fun t253 => (if t253 = true then (if ((rd_T45 x0 x3).f0) = 1 then ((spec_l1Num.f ((rd_T45 x0 x3).f2)).bind fun t254 => (if t254 = true then (if ((rd_T45 x0 x3).f0) = 2 then ((spec_l1In.f ((rd_T45 x0 x3).f2) 0 1).bind fun t255 => (spec_l3Fault.j2 k x0 x3 (!t255))) else (spec_l3Fault.j2 k x0 x3 false)) else (spec_l3Fault.j2 k x0 x3 true))) else (if ((rd_T45 x0 x3).f0) = 2 then ((spec_l1In.f ((rd_T45 x0 x3).f2) 0 1).bind fun t256 => (spec_l3Fault.j2 k x0 x3 (!t256))) else (spec_l3Fault.j2 k x0 x3 false))) else (some 1))) else (none)) else (some 0)
def spec_l3Fault.j2 : Nat → List (S45) → Int → Bool → Option (Int)
  | 0, _, _, _ => none
  | k + 1, x0, x3, x52 => if x52 = true then (some 3) else (if 0 ≤ x3 then (if x3 < (x0.length : Int) then (if ((rd_T45 x0 x3).f0) = 3 then ((spec_l2Sym.f k ((rd_T45 x0 x3).f3)).bind fun t258 => (spec_l3Fault.j3 k x0 x3 (!t258))) else (spec_l3Fault.j3 k x0 x3 false)) else (none)) else (none))
def spec_l3Fault.j3 : Nat → List (S45) → Int → Bool → Option (Int)
  | 0, _, _, _ => none
  | k + 1, x0, x3, x65 => if x65 = true then (some 5) else (if x3 = 0 then (if 0 ≤ x3 then (if x3 < (x0.length : Int) then (if ((rd_T45 x0 x3).f1) = (-1) then (if x3 > 0 then ((spec_l1In.f ((rd_T45 x0 x3).f1) 0 (wrap64 (x3 - 1))).bind fun t260 => (spec_l3Fault.j4 k x0 x3 (!t260))) else (spec_l3Fault.j4 k x0 x3 false)) else (spec_l3Fault.j4 k x0 x3 true)) else (none)) else (none)) else (if x3 > 0 then (if 0 ≤ x3 then (if x3 < (x0.length : Int) then ((spec_l1In.f ((rd_T45 x0 x3).f1) 0 (wrap64 (x3 - 1))).bind fun t262 => (spec_l3Fault.j4 k x0 x3 (!t262))) else (none)) else (none)) else (spec_l3Fault.j4 k x0 x3 false)))
def spec_l3Fault.j4 : Nat → List (S45) → Int → Bool → Option (Int)
  | 0, _, _, _ => none
  | k + 1, x0, x3, x88 => if x88 = true then (some 3) else (if x3 > 0 then ((spec_l3Line.f k x0 x3).bind fun t263 => (spec_l3Fault.j5 k x0 x3 (!t263))) else (spec_l3Fault.j5 k x0 x3 false))
def spec_l3Fault.j5 : Nat → List (S45) → Int → Bool → Option (Int)
  | 0, _, _, _ => none
  | k + 1, x0, x3, x96 => if x96 = true then (some 1) else ((spec_l3Deep.f k x0 x3).bind fun t264 => (if t264 > 12 then (some 2) else (spec_l3Fault.l0 k x0 (wrap64 (x3 + 1)))))
end
def spec_l3Fault.f (k : Nat) (l0 : List (S45)) : Option (Int) := if (l0.length : Int) < 1 then (spec_l3Fault.j0 k l0 true) else (spec_l3Fault.j0 k l0 (decide ((l0.length : Int) > 80)))
theorem spec_l3Fault.mono_l : ∀ k, (∀ y0 y1, LeO (spec_l3Fault.j0 k y0 y1) (spec_l3Fault.j0 (k + 1) y0 y1)) ∧ (∀ y0 y1, LeO (spec_l3Fault.l0 k y0 y1) (spec_l3Fault.l0 (k + 1) y0 y1)) ∧ (∀ y0 y1 y2, LeO (spec_l3Fault.j2 k y0 y1 y2) (spec_l3Fault.j2 (k + 1) y0 y1 y2)) ∧ (∀ y0 y1 y2, LeO (spec_l3Fault.j3 k y0 y1 y2) (spec_l3Fault.j3 (k + 1) y0 y1 y2)) ∧ (∀ y0 y1 y2, LeO (spec_l3Fault.j4 k y0 y1 y2) (spec_l3Fault.j4 (k + 1) y0 y1 y2)) ∧ (∀ y0 y1 y2, LeO (spec_l3Fault.j5 k y0 y1 y2) (spec_l3Fault.j5 (k + 1) y0 y1 y2))
  | 0 => ⟨fun _ _ r h => by simp [spec_l3Fault.j0] at h, fun _ _ r h => by simp [spec_l3Fault.l0] at h, fun _ _ _ r h => by simp [spec_l3Fault.j2] at h, fun _ _ _ r h => by simp [spec_l3Fault.j3] at h, fun _ _ _ r h => by simp [spec_l3Fault.j4] at h, fun _ _ _ r h => by simp [spec_l3Fault.j5] at h⟩
  | k + 1 => by
    obtain ⟨ih0, ih1, ih2, ih3, ih4, ih5⟩ := spec_l3Fault.mono_l k; refine ⟨?_, ?_, ?_, ?_, ?_, ?_⟩
    · intro y0 y1
      unfold spec_l3Fault.j0
      repeat' first | (with_reducible first | apply ih0 | apply ih1 | apply ih2 | apply ih3 | apply ih4 | apply ih5 | apply spec_l2Sym.mono | apply spec_l3Deep.mono | apply spec_l3Line.mono | exact LeO.refl _ | exact LeO.none _ | refine LeO.ite ?_ ?_ | refine LeO.bind ?_ (fun _ => ?_)) | apply ih0 | apply ih1 | apply ih2 | apply ih3 | apply ih4 | apply ih5 | apply spec_l2Sym.mono | apply spec_l3Deep.mono | apply spec_l3Line.mono | exact LeO.none _ | refine LeO.ite ?_ ?_ | refine LeO.bind ?_ (fun _ => ?_)
    · intro y0 y1
      unfold spec_l3Fault.l0
      repeat' first | (with_reducible first | apply ih0 | apply ih1 | apply ih2 | apply ih3 | apply ih4 | apply ih5 | apply spec_l2Sym.mono | apply spec_l3Deep.mono | apply spec_l3Line.mono | exact LeO.refl _ | exact LeO.none _ | refine LeO.ite ?_ ?_ | refine LeO.bind ?_ (fun _ => ?_)) | apply ih0 | apply ih1 | apply ih2 | apply ih3 | apply ih4 | apply ih5 | apply spec_l2Sym.mono | apply spec_l3Deep.mono | apply spec_l3Line.mono | exact LeO.none _ | refine LeO.ite ?_ ?_ | refine LeO.bind ?_ (fun _ => ?_)
    · intro y0 y1 y2
      unfold spec_l3Fault.j2
      repeat' first | (with_reducible first | apply ih0 | apply ih1 | apply ih2 | apply ih3 | apply ih4 | apply ih5 | apply spec_l2Sym.mono | apply spec_l3Deep.mono | apply spec_l3Line.mono | exact LeO.refl _ | exact LeO.none _ | refine LeO.ite ?_ ?_ | refine LeO.bind ?_ (fun _ => ?_)) | apply ih0 | apply ih1 | apply ih2 | apply ih3 | apply ih4 | apply ih5 | apply spec_l2Sym.mono | apply spec_l3Deep.mono | apply spec_l3Line.mono | exact LeO.none _ | refine LeO.ite ?_ ?_ | refine LeO.bind ?_ (fun _ => ?_)
    · intro y0 y1 y2
      unfold spec_l3Fault.j3
      repeat' first | (with_reducible first | apply ih0 | apply ih1 | apply ih2 | apply ih3 | apply ih4 | apply ih5 | apply spec_l2Sym.mono | apply spec_l3Deep.mono | apply spec_l3Line.mono | exact LeO.refl _ | exact LeO.none _ | refine LeO.ite ?_ ?_ | refine LeO.bind ?_ (fun _ => ?_)) | apply ih0 | apply ih1 | apply ih2 | apply ih3 | apply ih4 | apply ih5 | apply spec_l2Sym.mono | apply spec_l3Deep.mono | apply spec_l3Line.mono | exact LeO.none _ | refine LeO.ite ?_ ?_ | refine LeO.bind ?_ (fun _ => ?_)
    · intro y0 y1 y2
      unfold spec_l3Fault.j4
      repeat' first | (with_reducible first | apply ih0 | apply ih1 | apply ih2 | apply ih3 | apply ih4 | apply ih5 | apply spec_l2Sym.mono | apply spec_l3Deep.mono | apply spec_l3Line.mono | exact LeO.refl _ | exact LeO.none _ | refine LeO.ite ?_ ?_ | refine LeO.bind ?_ (fun _ => ?_)) | apply ih0 | apply ih1 | apply ih2 | apply ih3 | apply ih4 | apply ih5 | apply spec_l2Sym.mono | apply spec_l3Deep.mono | apply spec_l3Line.mono | exact LeO.none _ | refine LeO.ite ?_ ?_ | refine LeO.bind ?_ (fun _ => ?_)
    · intro y0 y1 y2
      unfold spec_l3Fault.j5
      repeat' first | (with_reducible first | apply ih0 | apply ih1 | apply ih2 | apply ih3 | apply ih4 | apply ih5 | apply spec_l2Sym.mono | apply spec_l3Deep.mono | apply spec_l3Line.mono | exact LeO.refl _ | exact LeO.none _ | refine LeO.ite ?_ ?_ | refine LeO.bind ?_ (fun _ => ?_)) | apply ih0 | apply ih1 | apply ih2 | apply ih3 | apply ih4 | apply ih5 | apply spec_l2Sym.mono | apply spec_l3Deep.mono | apply spec_l3Line.mono | exact LeO.none _ | refine LeO.ite ?_ ?_ | refine LeO.bind ?_ (fun _ => ?_)
theorem spec_l3Fault.mono : ∀ a0 k, LeO (spec_l3Fault.f k a0) (spec_l3Fault.f (k + 1) a0) := by
  intro a0 k; obtain ⟨ih0, ih1, ih2, ih3, ih4, ih5⟩ := spec_l3Fault.mono_l k; unfold spec_l3Fault.f
  repeat' first | (with_reducible first | apply ih0 | apply ih1 | apply ih2 | apply ih3 | apply ih4 | apply ih5 | apply spec_l2Sym.mono | apply spec_l3Deep.mono | apply spec_l3Line.mono | exact LeO.refl _ | exact LeO.none _ | refine LeO.ite ?_ ?_ | refine LeO.bind ?_ (fun _ => ?_)) | apply ih0 | apply ih1 | apply ih2 | apply ih3 | apply ih4 | apply ih5 | apply spec_l2Sym.mono | apply spec_l3Deep.mono | apply spec_l3Line.mono | exact LeO.none _ | refine LeO.ite ?_ ?_ | refine LeO.bind ?_ (fun _ => ?_)
theorem spec_l3Fault.calls (k : Nat) (A0 : Option Addr) (c0 : Nat) (l0 : List (S45)) (r : Int) (w : World) (hr0 : Kd.C k45 w A0 l0.length l0) (hc0 : l0.length ≤ c0) (h : spec_l3Fault.f k l0 = some r) :
    Calls Tryd.prog 23 #[.slice A0 l0.length c0] w fun e w' => e = .returned (.int .i64 r) ∧ Drawn0 w w' := by
  have HR0 := ak hr0; have HC0 := ak hc0; clear hr0 hc0; have H := h; clear h; unfold spec_l3Fault.f at H; have HC2 := ak H; clear H; go_enter Tryd.func23, Tryd.ntmps23; go_upto_region 1 with (fail); go_cut [12] (fun v12 wc => ∃ (kq : Nat) (x12_1 : Bool), v12 = .bool x12_1 ∧ Aside0 (spec_l3Fault.j0 kq l0 x12_1 = some r) ∧ Aside0 (kq ≤ k) ∧ Drawn0 w wc)
  case first =>
   have H := HC2.out; clear HC2; by_cases c3 : (l0.length : Int) < 1
   ·rw [if_pos c3] at H
    have c3b0 : decide ((l0.length : Int) < 1) = true := decide_eq_true c3; have c3b1 : decide (l0.length < 1) = true := decide_eq_true (by omega); clear c3
    (first | rw [c3b0] | (simp only [i64_w, i32_w]; rw [c3b0]) | skip)
    have H' := ak H; clear H; go_wp2; go_meet
    case rel => exact ⟨_, (true), d7_1, H', ⟨by first | omega | exact Nat.le_refl _⟩, c7_1⟩
   ·rw [if_neg c3] at H
    have c3b0 : decide ((l0.length : Int) < 1) = false := decide_eq_false c3; have c3b1 : decide (l0.length < 1) = false := decide_eq_false (by omega); clear c3
    (first | rw [c3b0] | (simp only [i64_w, i32_w]; rw [c3b0]) | skip)
    have H' := ak H; clear H; go_wp2; go_meet
    case rel => exact ⟨_, (decide ((l0.length : Int) > 80)), d7_1, H', ⟨by first | omega | exact Nat.le_refl _⟩, c7_1⟩
  case rest =>
   clear HC2
   try clear c2
   obtain ⟨kq, x12_1, rfl, HA, HJ1, ⟨mc1, rfl⟩⟩ := hcut
   cases kq with
   | zero => exact absurd HA.out (by simp [spec_l3Fault.j0])
   | succ kj1 =>
    have H := HA.out; clear HA; simp only [spec_l3Fault.j0] at H; by_cases c4 : x12_1 = true
    ·subst c4
     rw [if_pos rfl] at H; obtain rfl := Option.some.inj H; go_wp2; go_ret; exact ⟨c7_2, c7_1⟩
    ·replace c4 := Bool.eq_false_iff.mpr c4
     subst c4
     rw [if_neg (show ¬ (false = true) by decide)] at H; have H' := ak H; clear H; go_wp2; go_loopg [3] kj1 (fun kq v3 w' => ∃ (x3_2 : Int), v3 = .int .i64 x3_2 ∧ Aside0 (spec_l3Fault.l0 kq l0 x3_2 = some r) ∧ Aside0 (kq ≤ kj1) ∧ Drawn0 w w')
     case atStart => exact ⟨(0), d7_1, H', ⟨Nat.le_refl _⟩, c7_1⟩
     case round =>
      clear H'
      (try clear c1); (try clear c2); (try clear p2); (try clear c3); (try clear c3b0); (try clear c3b1); (try clear c4)
      obtain ⟨x3_2, rfl, HA, HK2, ⟨m2, rfl⟩⟩ := hrel
      cases gk with
      | zero => exact absurd HA.out (by simp [spec_l3Fault.l0])
      | succ k2 =>
       have H := HA.out; clear HA; simp only [spec_l3Fault.l0] at H; by_cases c5 : x3_2 < (l0.length : Int)
       ·rw [if_pos c5] at H
        have c5b0 : decide (x3_2 < (l0.length : Int)) = true := decide_eq_true c5; clear c5; by_cases c6 : 0 ≤ x3_2
        ·rw [if_pos c6] at H
         have c6b0 : decide (0 ≤ x3_2) = true := decide_eq_true c6; clear c6; replace H := Option.bind_eq_some_iff.mp H; obtain ⟨t253, A70, H⟩ := H; (try dsimp -simprocs only at H); have A7 := ak A70; clear A70; by_cases c8 : t253 = true
         ·subst c8
          rw [if_pos rfl] at H; have HC9 := ak H; clear H; have p252 : 0 ≤ (x3_2 : Int) := of_decide_eq_true d7_2; have q252 : x3_2 < (l0.length : Int) := of_decide_eq_true d7_2; obtain ⟨ad252, e252, hx252_0, hx252_1, hx252_2, hx252_3⟩ := at_T45 HR0.out x3_2 p252 q252
          cases e252
          replace p252 := eq_true p252; replace q252 := eq_true q252; go_upto_region 9 with (first | (go_at_call 37; (with_reducible refine (spec_l3Bare.calls _ ((rd_T45 l0 x3_2).f0) ((rd_T45 l0 x3_2).f1) ((rd_T45 l0 x3_2).f2) ((rd_T45 l0 x3_2).f3) true _ ?side1 ?side2 ?side3 ?side4 A7.out).mono ?_); (case side1 => first | exact hx252_0 | (refine Eq.trans ?_ hx252_0; simp only [go_sem])); (case side2 => first | exact hx252_1 | (refine Eq.trans ?_ hx252_1; simp only [go_sem])); (case side3 => first | exact hx252_2 | (refine Eq.trans ?_ hx252_2; simp only [go_sem])); (case side4 => first | exact hx252_3 | (refine Eq.trans ?_ hx252_3; simp only [go_sem])); rintro e w' ⟨rfl, ⟨nd, rfl⟩⟩))
          (try simp only [Act.put, List.setIfInBounds_toArray, List.set_cons_zero, List.set_cons_succ])
          go_cut [52] (fun v52 wc => ∃ (kq : Nat) (x52_8 : Bool), v52 = .bool x52_8 ∧ Aside0 (spec_l3Fault.j2 kq l0 x3_2 x52_8 = some r) ∧ Aside0 (kq ≤ k2) ∧ Drawn0 w wc)
          case first =>
           have H := HC9.out; clear HC9; by_cases c10 : ((rd_T45 l0 x3_2).f0) = 1
           ·rw [if_pos c10] at H
            have c10b0 : (((rd_T45 l0 x3_2).f0) == 1) = true := beq_iff_eq.mpr c10; have c10b1 : (((rd_T45 l0 x3_2).f0) != 1) = false := bne_eq_false_iff_eq.mpr c10; clear c10
            (first | rw [c10b0] | (simp only [i64_w, i32_w]; rw [c10b0]) | skip)
            replace H := Option.bind_eq_some_iff.mp H; obtain ⟨t254, A110, H⟩ := H; (try dsimp -simprocs only at H); have A11 := ak A110; clear A110; by_cases c12 : t254 = true
            ·subst c12
             rw [if_pos rfl] at H; by_cases c13 : ((rd_T45 l0 x3_2).f0) = 2
             ·rw [if_pos c13] at H
              have c13b0 : (((rd_T45 l0 x3_2).f0) == 2) = true := beq_iff_eq.mpr c13; have c13b1 : (((rd_T45 l0 x3_2).f0) != 2) = false := bne_eq_false_iff_eq.mpr c13; clear c13; replace H := Option.bind_eq_some_iff.mp H; obtain ⟨t255, A140, H⟩ := H; (try dsimp -simprocs only at H); have A14 := ak A140; clear A140; have H' := ak H; clear H; go_wp2_with (first | (go_at_call 38; (with_reducible refine (spec_l1Num.calls ((rd_T45 l0 x3_2).f2) true _ A11.out).mono ?_); rintro e w' ⟨rfl, ⟨nd, rfl⟩⟩) | (go_at_call 28; (with_reducible refine (spec_l1In.calls ((rd_T45 l0 x3_2).f2) 0 1 t255 _ A14.out).mono ?_); rintro e w' ⟨rfl, ⟨nd, rfl⟩⟩)); go_meet
              case rel => exact ⟨_, (!t255), d7_1, H', ⟨by have := HJ1.out; have := HK2.out; first | omega | exact Nat.le_refl _⟩, c7_1⟩
             ·rw [if_neg c13] at H
              have c13b0 : (((rd_T45 l0 x3_2).f0) == 2) = false := beq_eq_false_iff_ne.mpr c13; have c13b1 : (((rd_T45 l0 x3_2).f0) != 2) = true := bne_iff_ne.mpr c13; have H' := ak H; clear H; go_wp2_with (first | (go_at_call 38; (with_reducible refine (spec_l1Num.calls ((rd_T45 l0 x3_2).f2) true _ A11.out).mono ?_); rintro e w' ⟨rfl, ⟨nd, rfl⟩⟩)); go_meet
              case rel => exact ⟨_, (false), d7_1, H', ⟨by have := HJ1.out; have := HK2.out; first | omega | exact Nat.le_refl _⟩, c7_1⟩
            ·replace c12 := Bool.eq_false_iff.mpr c12
             subst c12
             rw [if_neg (show ¬ (false = true) by decide)] at H; have H' := ak H; clear H; go_wp2_with (first | (go_at_call 38; (with_reducible refine (spec_l1Num.calls ((rd_T45 l0 x3_2).f2) false _ A11.out).mono ?_); rintro e w' ⟨rfl, ⟨nd, rfl⟩⟩)); go_meet
             case rel => exact ⟨_, (true), d7_1, H', ⟨by have := HJ1.out; have := HK2.out; first | omega | exact Nat.le_refl _⟩, c7_1⟩
           ·rw [if_neg c10] at H
            have c10b0 : (((rd_T45 l0 x3_2).f0) == 1) = false := beq_eq_false_iff_ne.mpr c10; have c10b1 : (((rd_T45 l0 x3_2).f0) != 1) = true := bne_iff_ne.mpr c10
            (first | rw [c10b0] | (simp only [i64_w, i32_w]; rw [c10b0]) | skip)
            by_cases c15 : ((rd_T45 l0 x3_2).f0) = 2
            ·rw [if_pos c15] at H
             have c15b0 : (((rd_T45 l0 x3_2).f0) == 2) = true := beq_iff_eq.mpr c15; have c15b1 : (((rd_T45 l0 x3_2).f0) != 2) = false := bne_eq_false_iff_eq.mpr c15; clear c15; replace H := Option.bind_eq_some_iff.mp H; obtain ⟨t256, A160, H⟩ := H; (try dsimp -simprocs only at H); have A16 := ak A160; clear A160; have H' := ak H; clear H; go_wp2_with (first | (go_at_call 28; (with_reducible refine (spec_l1In.calls ((rd_T45 l0 x3_2).f2) 0 1 t256 _ A16.out).mono ?_); rintro e w' ⟨rfl, ⟨nd, rfl⟩⟩)); go_meet
             case rel => exact ⟨_, (!t256), d7_1, H', ⟨by have := HJ1.out; have := HK2.out; first | omega | exact Nat.le_refl _⟩, c7_1⟩
            ·rw [if_neg c15] at H
             have c15b0 : (((rd_T45 l0 x3_2).f0) == 2) = false := beq_eq_false_iff_ne.mpr c15; have c15b1 : (((rd_T45 l0 x3_2).f0) != 2) = true := bne_iff_ne.mpr c15; have H' := ak H; clear H; go_wp2; go_meet
             case rel => exact ⟨_, (false), d7_1, H', ⟨by have := HJ1.out; have := HK2.out; first | omega | exact Nat.le_refl _⟩, c7_1⟩
          case rest =>
           clear HC9
           (try clear c1); (try clear c2); (try clear p2); (try clear q2); (try clear hx2); (try clear c3); (try clear c3b0); (try clear c3b1); (try clear c4); (try clear c5); (try clear c5b0); (try clear c6); (try clear c6b0); (try clear c8); (try clear hx252_0); (try clear hx252_1); (try clear hx252_2); (try clear hx252_3); (try clear p2); (try clear p252); (try clear q252)
           obtain ⟨kq, x52_8, rfl, HA, HJ8, ⟨mc8, rfl⟩⟩ := hcut
           cases kq with
           | zero => exact absurd HA.out (by simp [spec_l3Fault.j2])
           | succ kj8 =>
            have H := HA.out; clear HA; simp only [spec_l3Fault.j2] at H; by_cases c17 : x52_8 = true
            ·subst c17
             rw [if_pos rfl] at H; obtain rfl := Option.some.inj H; go_wp2; go_ret; exact ⟨c7_2, c7_1⟩
            ·replace c17 := Bool.eq_false_iff.mpr c17
             subst c17
             rw [if_neg (show ¬ (false = true) by decide)] at H; have HC18 := ak H; clear H; go_upto_region 11 with (fail); go_cut [65] (fun v65 wc => ∃ (kq : Nat) (x65_17 : Bool), v65 = .bool x65_17 ∧ Aside0 (spec_l3Fault.j3 kq l0 x3_2 x65_17 = some r) ∧ Aside0 (kq ≤ kj8) ∧ Drawn0 w wc)
             case first =>
              have H := HC18.out; clear HC18; by_cases c19 : 0 ≤ x3_2
              ·rw [if_pos c19] at H
               have c19b0 : decide (0 ≤ x3_2) = true := decide_eq_true c19; clear c19
               (first | rw [c19b0] | (simp only [i64_w, i32_w]; rw [c19b0]) | skip)
               by_cases c20 : x3_2 < (l0.length : Int)
               ·rw [if_pos c20] at H
                have c20b0 : decide (x3_2 < (l0.length : Int)) = true := decide_eq_true c20; clear c20; by_cases c21 : ((rd_T45 l0 x3_2).f0) = 3
                ·rw [if_pos c21] at H
                 have c21b0 : (((rd_T45 l0 x3_2).f0) == 3) = true := beq_iff_eq.mpr c21; have c21b1 : (((rd_T45 l0 x3_2).f0) != 3) = false := bne_eq_false_iff_eq.mpr c21; clear c21; replace H := Option.bind_eq_some_iff.mp H; obtain ⟨t258, A220, H⟩ := H; (try dsimp -simprocs only at H); have A22 := ak A220; clear A220; have H' := ak H; clear H; have p257 : 0 ≤ (x3_2 : Int) := of_decide_eq_true d7_2; have q257 : x3_2 < (l0.length : Int) := of_decide_eq_true d7_2; obtain ⟨ad257, e257, hx257_0, hx257_1, hx257_2, hx257_3⟩ := at_T45 HR0.out x3_2 p257 q257; obtain rfl : ad252 = ad257 := (by injection e257); replace p257 := eq_true p257; replace q257 := eq_true q257; go_wp2_with (first | (go_at_call 39; (with_reducible refine (spec_l2Sym.calls kj8 ((rd_T45 l0 x3_2).f3) t258 _ A22.out).mono ?_); rintro e w' ⟨rfl, ⟨nd, rfl⟩⟩)); go_meet
                 case rel => exact ⟨_, (!t258), d7_1, H', ⟨by have := HJ1.out; have := HK2.out; have := HJ8.out; first | omega | exact Nat.le_refl _⟩, c7_1⟩
                ·rw [if_neg c21] at H
                 have c21b0 : (((rd_T45 l0 x3_2).f0) == 3) = false := beq_eq_false_iff_ne.mpr c21; have c21b1 : (((rd_T45 l0 x3_2).f0) != 3) = true := bne_iff_ne.mpr c21; have H' := ak H; clear H; have p257 : 0 ≤ (x3_2 : Int) := of_decide_eq_true d7_2; have q257 : x3_2 < (l0.length : Int) := of_decide_eq_true d7_2; obtain ⟨ad257, e257, hx257_0, hx257_1, hx257_2, hx257_3⟩ := at_T45 HR0.out x3_2 p257 q257; obtain rfl : ad252 = ad257 := (by injection e257); replace p257 := eq_true p257; replace q257 := eq_true q257; go_wp2; go_meet
                 case rel => exact ⟨_, (false), d7_1, H', ⟨by have := HJ1.out; have := HK2.out; have := HJ8.out; first | omega | exact Nat.le_refl _⟩, c7_1⟩
               ·rw [if_neg c20] at H
                exact absurd H (by simp)
              ·rw [if_neg c19] at H
               exact absurd H (by simp)
             case rest =>
              clear HC18
              (try clear c1); (try clear c2); (try clear p2); (try clear q2); (try clear hx2); (try clear c3); (try clear c3b0); (try clear c3b1); (try clear c4); (try clear c5); (try clear c5b0); (try clear c6); (try clear c6b0); (try clear c8); (try clear c10); (try clear c10b0); (try clear c10b1); (try clear c12); (try clear c13); (try clear c13b0); (try clear c13b1); (try clear c15); (try clear c15b0); (try clear c15b1); (try clear c17); (try clear hx252_0); (try clear hx252_1); (try clear hx252_2); (try clear hx252_3); (try clear p2); (try clear p252); (try clear q2); (try clear q252)
              obtain ⟨kq, x65_17, rfl, HA, HJ17, ⟨mc17, rfl⟩⟩ := hcut
              cases kq with
              | zero => exact absurd HA.out (by simp [spec_l3Fault.j3])
              | succ kj17 =>
               have H := HA.out; clear HA; simp only [spec_l3Fault.j3] at H; by_cases c23 : x65_17 = true
               ·subst c23
                rw [if_pos rfl] at H; obtain rfl := Option.some.inj H; go_wp2; go_ret; exact ⟨c7_2, c7_1⟩
               ·replace c23 := Bool.eq_false_iff.mpr c23
                subst c23
                rw [if_neg (show ¬ (false = true) by decide)] at H; have HC24 := ak H; clear H; go_upto_region 13 with (fail); go_cut [88] (fun v88 wc => ∃ (kq : Nat) (x88_23 : Bool), v88 = .bool x88_23 ∧ Aside0 (spec_l3Fault.j4 kq l0 x3_2 x88_23 = some r) ∧ Aside0 (kq ≤ kj17) ∧ Drawn0 w wc)
                case first =>
                 have H := HC24.out; clear HC24; by_cases c25 : x3_2 = 0
                 ·rw [if_pos c25] at H
                  have c25b0 : (x3_2 == 0) = true := beq_iff_eq.mpr c25; have c25b1 : (x3_2 != 0) = false := bne_eq_false_iff_eq.mpr c25; clear c25
                  (first | rw [c25b0] | (simp only [i64_w, i32_w]; rw [c25b0]) | skip)
                  by_cases c26 : 0 ≤ x3_2
                  ·rw [if_pos c26] at H
                   have c26b0 : decide (0 ≤ x3_2) = true := decide_eq_true c26; clear c26; by_cases c27 : x3_2 < (l0.length : Int)
                   ·rw [if_pos c27] at H
                    have c27b0 : decide (x3_2 < (l0.length : Int)) = true := decide_eq_true c27; clear c27; by_cases c28 : ((rd_T45 l0 x3_2).f1) = (-1)
                    ·rw [if_pos c28] at H
                     have c28b0 : (((rd_T45 l0 x3_2).f1) == (-1)) = true := beq_iff_eq.mpr c28; have c28b1 : (((rd_T45 l0 x3_2).f1) != (-1)) = false := bne_eq_false_iff_eq.mpr c28; clear c28; by_cases c29 : x3_2 > 0
                     ·rw [if_pos c29] at H
                      have c29b0 : decide (0 < x3_2) = true := decide_eq_true c29; clear c29; replace H := Option.bind_eq_some_iff.mp H; obtain ⟨t260, A300, H⟩ := H; (try dsimp -simprocs only at H); have A30 := ak A300; clear A300; have H' := ak H; clear H; have p259 : 0 ≤ (x3_2 : Int) := of_decide_eq_true d7_2; have q259 : x3_2 < (l0.length : Int) := of_decide_eq_true d7_2; obtain ⟨ad259, e259, hx259_0, hx259_1, hx259_2, hx259_3⟩ := at_T45 HR0.out x3_2 p259 q259; obtain rfl : ad252 = ad259 := (by injection e259); replace p259 := eq_true p259; replace q259 := eq_true q259; go_wp2_with (first | (go_at_call 28; (with_reducible refine (spec_l1In.calls ((rd_T45 l0 x3_2).f1) 0 (wrap64 (x3_2 - 1)) t260 _ A30.out).mono ?_); rintro e w' ⟨rfl, ⟨nd, rfl⟩⟩)); go_meet
                      case rel => exact ⟨_, (!t260), d7_1, H', ⟨by have := HJ1.out; have := HK2.out; have := HJ8.out; have := HJ17.out; first | omega | exact Nat.le_refl _⟩, c7_1⟩
                     ·rw [if_neg c29] at H
                      have c29b0 : decide (0 < x3_2) = false := decide_eq_false c29; clear c29; have H' := ak H; clear H; have p259 : 0 ≤ (x3_2 : Int) := of_decide_eq_true d7_2; have q259 : x3_2 < (l0.length : Int) := of_decide_eq_true d7_2; obtain ⟨ad259, e259, hx259_0, hx259_1, hx259_2, hx259_3⟩ := at_T45 HR0.out x3_2 p259 q259; obtain rfl : ad252 = ad259 := (by injection e259); replace p259 := eq_true p259; replace q259 := eq_true q259; go_wp2; go_meet
                      case rel => exact ⟨_, (false), d7_1, H', ⟨by have := HJ1.out; have := HK2.out; have := HJ8.out; have := HJ17.out; first | omega | exact Nat.le_refl _⟩, c7_1⟩
                    ·rw [if_neg c28] at H
                     have c28b0 : (((rd_T45 l0 x3_2).f1) == (-1)) = false := beq_eq_false_iff_ne.mpr c28; have c28b1 : (((rd_T45 l0 x3_2).f1) != (-1)) = true := bne_iff_ne.mpr c28; have H' := ak H; clear H; have p259 : 0 ≤ (x3_2 : Int) := of_decide_eq_true d7_2; have q259 : x3_2 < (l0.length : Int) := of_decide_eq_true d7_2; obtain ⟨ad259, e259, hx259_0, hx259_1, hx259_2, hx259_3⟩ := at_T45 HR0.out x3_2 p259 q259; obtain rfl : ad252 = ad259 := (by injection e259); replace p259 := eq_true p259; replace q259 := eq_true q259; go_wp2; go_meet
                     case rel => exact ⟨_, (true), d7_1, H', ⟨by have := HJ1.out; have := HK2.out; have := HJ8.out; have := HJ17.out; first | omega | exact Nat.le_refl _⟩, c7_1⟩
                   ·rw [if_neg c27] at H
                    exact absurd H (by simp)
                  ·rw [if_neg c26] at H
                   exact absurd H (by simp)
                 ·rw [if_neg c25] at H
                  have c25b0 : (x3_2 == 0) = false := beq_eq_false_iff_ne.mpr c25; have c25b1 : (x3_2 != 0) = true := bne_iff_ne.mpr c25
                  (first | rw [c25b0] | (simp only [i64_w, i32_w]; rw [c25b0]) | skip)
                  by_cases c31 : x3_2 > 0
                  ·rw [if_pos c31] at H
                   have c31b0 : decide (0 < x3_2) = true := decide_eq_true c31; clear c31; by_cases c32 : 0 ≤ x3_2
                   ·rw [if_pos c32] at H
                    have c32b0 : decide (0 ≤ x3_2) = true := decide_eq_true c32; clear c32; by_cases c33 : x3_2 < (l0.length : Int)
                    ·rw [if_pos c33] at H
                     have c33b0 : decide (x3_2 < (l0.length : Int)) = true := decide_eq_true c33; clear c33; replace H := Option.bind_eq_some_iff.mp H; obtain ⟨t262, A340, H⟩ := H; (try dsimp -simprocs only at H); have A34 := ak A340; clear A340; have H' := ak H; clear H; have p261 : 0 ≤ (x3_2 : Int) := of_decide_eq_true d7_2; have q261 : x3_2 < (l0.length : Int) := of_decide_eq_true d7_2; obtain ⟨ad261, e261, hx261_0, hx261_1, hx261_2, hx261_3⟩ := at_T45 HR0.out x3_2 p261 q261; obtain rfl : ad252 = ad261 := (by injection e261); replace p261 := eq_true p261; replace q261 := eq_true q261; go_wp2_with (first | (go_at_call 28; (with_reducible refine (spec_l1In.calls ((rd_T45 l0 x3_2).f1) 0 (wrap64 (x3_2 - 1)) t262 _ A34.out).mono ?_); rintro e w' ⟨rfl, ⟨nd, rfl⟩⟩)); go_meet
                     case rel => exact ⟨_, (!t262), d7_1, H', ⟨by have := HJ1.out; have := HK2.out; have := HJ8.out; have := HJ17.out; first | omega | exact Nat.le_refl _⟩, c7_1⟩
                    ·rw [if_neg c33] at H
                     exact absurd H (by simp)
                   ·rw [if_neg c32] at H
                    exact absurd H (by simp)
                  ·rw [if_neg c31] at H
                   have c31b0 : decide (0 < x3_2) = false := decide_eq_false c31; clear c31; have H' := ak H; clear H; go_wp2; go_meet
                   case rel => exact ⟨_, (false), d7_1, H', ⟨by have := HJ1.out; have := HK2.out; have := HJ8.out; have := HJ17.out; first | omega | exact Nat.le_refl _⟩, c7_1⟩
                case rest =>
                 clear HC24
                 (try clear c1); (try clear c2); (try clear p2); (try clear q2); (try clear hx2); (try clear c3); (try clear c3b0); (try clear c3b1); (try clear c4); (try clear c5); (try clear c5b0); (try clear c6); (try clear c6b0); (try clear p6); (try clear c8); (try clear c10); (try clear c10b0); (try clear c10b1); (try clear c12); (try clear c13); (try clear c13b0); (try clear c13b1); (try clear c15); (try clear c15b0); (try clear c15b1); (try clear c17); (try clear c19); (try clear c19b0); (try clear c20); (try clear c20b0); (try clear c21); (try clear c21b0); (try clear c21b1); (try clear c23); (try clear p25); (try clear q25); (try clear hx25); (try clear hx252_0); (try clear hx252_1); (try clear hx252_2); (try clear hx252_3); (try clear hx257_0); (try clear hx257_1); (try clear hx257_2); (try clear hx257_3); (try clear p2); (try clear p252); (try clear p257); (try clear q2); (try clear q252); (try clear q257)
                 obtain ⟨kq, x88_23, rfl, HA, HJ23, ⟨mc23, rfl⟩⟩ := hcut
                 cases kq with
                 | zero => exact absurd HA.out (by simp [spec_l3Fault.j4])
                 | succ kj23 =>
                  have H := HA.out; clear HA; simp only [spec_l3Fault.j4] at H; by_cases c35 : x88_23 = true
                  ·subst c35
                   rw [if_pos rfl] at H; obtain rfl := Option.some.inj H; go_wp2; go_ret; exact ⟨c7_2, c7_1⟩
                  ·replace c35 := Bool.eq_false_iff.mpr c35
                   subst c35
                   rw [if_neg (show ¬ (false = true) by decide)] at H; have HC36 := ak H; clear H; go_upto_region 15 with (fail); go_cut [96] (fun v96 wc => ∃ (kq : Nat) (x96_35 : Bool), v96 = .bool x96_35 ∧ Aside0 (spec_l3Fault.j5 kq l0 x3_2 x96_35 = some r) ∧ Aside0 (kq ≤ kj23) ∧ Drawn0 w wc)
                   case first =>
                    have H := HC36.out; clear HC36; by_cases c37 : x3_2 > 0
                    ·rw [if_pos c37] at H
                     have c37b0 : decide (0 < x3_2) = true := decide_eq_true c37; clear c37
                     (first | rw [c37b0] | (simp only [i64_w, i32_w]; rw [c37b0]) | skip)
                     replace H := Option.bind_eq_some_iff.mp H; obtain ⟨t263, A380, H⟩ := H; (try dsimp -simprocs only at H); have A38 := ak A380; clear A380; have H' := ak H; clear H; go_wp2_with (first | (go_at_call 40; (with_reducible refine (spec_l3Line.calls kj23 _ _ l0 x3_2 t263 _ ?side1 ?side2 A38.out).mono ?_); (case side1 => repeat (first | exact HR0.out | (with_reducible refine Kd.C_alloc ?_ _) | (with_reducible refine Kd.C_drewN ?_ _) | (with_reducible refine Kd.C_drew ?_))); (case side2 => exact HC0.out); rintro e w' ⟨rfl, ⟨nd, rfl⟩⟩)); go_meet
                     case rel => exact ⟨_, (!t263), d7_1, H', ⟨by have := HJ1.out; have := HK2.out; have := HJ8.out; have := HJ17.out; have := HJ23.out; first | omega | exact Nat.le_refl _⟩, c7_1⟩
                    ·rw [if_neg c37] at H
                     have c37b0 : decide (0 < x3_2) = false := decide_eq_false c37; clear c37
                     (first | rw [c37b0] | (simp only [i64_w, i32_w]; rw [c37b0]) | skip)
                     have H' := ak H; clear H; go_wp2; go_meet
                     case rel => exact ⟨_, (false), d7_1, H', ⟨by have := HJ1.out; have := HK2.out; have := HJ8.out; have := HJ17.out; have := HJ23.out; first | omega | exact Nat.le_refl _⟩, c7_1⟩
                   case rest =>
                    clear HC36
                    (try clear c1); (try clear c2); (try clear p2); (try clear q2); (try clear hx2); (try clear c3); (try clear c3b0); (try clear c3b1); (try clear c4); (try clear c5); (try clear c5b0); (try clear c6); (try clear c6b0); (try clear p6); (try clear c8); (try clear c10); (try clear c10b0); (try clear c10b1); (try clear c12); (try clear c13); (try clear c13b0); (try clear c13b1); (try clear c15); (try clear c15b0); (try clear c15b1); (try clear c17); (try clear c19); (try clear c19b0); (try clear c20); (try clear c20b0); (try clear c21); (try clear c21b0); (try clear c21b1); (try clear c23); (try clear c25); (try clear c25b0); (try clear c25b1); (try clear p25); (try clear q25); (try clear hx25); (try clear c26); (try clear c26b0); (try clear p26); (try clear q26); (try clear hx26); (try clear c27); (try clear c27b0); (try clear c28); (try clear c28b0); (try clear c28b1); (try clear c29); (try clear c29b0); (try clear c31); (try clear c31b0); (try clear c32); (try clear c32b0); (try clear c33); (try clear c33b0); (try clear c35); (try clear hx252_0); (try clear hx252_1); (try clear hx252_2); (try clear hx252_3); (try clear hx257_0); (try clear hx257_1); (try clear hx257_2); (try clear hx257_3); (try clear hx259_0); (try clear hx259_1); (try clear hx259_2); (try clear hx259_3); (try clear hx261_0); (try clear hx261_1); (try clear hx261_2); (try clear hx261_3); (try clear p2); (try clear p25); (try clear p252); (try clear p257); (try clear p259); (try clear p261); (try clear p6); (try clear q2); (try clear q25); (try clear q252); (try clear q257); (try clear q259); (try clear q261)
                    obtain ⟨kq, x96_35, rfl, HA, HJ35, ⟨mc35, rfl⟩⟩ := hcut
                    cases kq with
                    | zero => exact absurd HA.out (by simp [spec_l3Fault.j5])
                    | succ kj35 =>
                     have H := HA.out; clear HA; simp only [spec_l3Fault.j5] at H; by_cases c39 : x96_35 = true
                     ·subst c39
                      rw [if_pos rfl] at H; obtain rfl := Option.some.inj H; go_wp2; go_ret; exact ⟨c7_2, c7_1⟩
                     ·replace c39 := Bool.eq_false_iff.mpr c39
                      subst c39
                      rw [if_neg (show ¬ (false = true) by decide)] at H; replace H := Option.bind_eq_some_iff.mp H; obtain ⟨t264, A400, H⟩ := H; (try dsimp -simprocs only at H); have A40 := ak A400; clear A400; by_cases c41 : t264 > 12
                      ·rw [if_pos c41] at H
                       have c41b0 : decide (12 < t264) = true := decide_eq_true c41; clear c41; obtain rfl := Option.some.inj H; go_wp2_with (first | ((with_reducible refine gate_callee (f := 29) rfl ?_); refine goesL_ (some 99) rfl rfl Tryd.func29 (by kernel_rfl) rfl #[.slice (some ad252) l0.length c0, .int .i64 x3_2] rfl (by (try simp only [List.map_toArray, List.map_cons, List.map_nil]); first | done | rfl | (simp only [List.length_drop, List.length_take]; rfl)) ?_; (with_reducible refine (spec_l3Deep.calls kj35 _ _ l0 x3_2 t264 _ ?side1 ?side2 A40.out).mono ?_); (case side1 => repeat (first | exact HR0.out | (with_reducible refine Kd.C_alloc ?_ _) | (with_reducible refine Kd.C_drewN ?_ _) | (with_reducible refine Kd.C_drew ?_))); (case side2 => exact HC0.out); rintro e w' ⟨rfl, ⟨nd, rfl⟩⟩; refine ⟨_, rfl, ?_⟩)); go_ret; exact ⟨c7_2, c7_1⟩
                      ·rw [if_neg c41] at H
                       have c41b0 : decide (12 < t264) = false := decide_eq_false c41; clear c41; have H' := ak H; clear H; go_wp2_with (first | ((with_reducible refine gate_callee (f := 29) rfl ?_); refine goesL_ (some 99) rfl rfl Tryd.func29 (by kernel_rfl) rfl #[.slice (some ad252) l0.length c0, .int .i64 x3_2] rfl (by (try simp only [List.map_toArray, List.map_cons, List.map_nil]); first | done | rfl | (simp only [List.length_drop, List.length_take]; rfl)) ?_; (with_reducible refine (spec_l3Deep.calls kj35 _ _ l0 x3_2 t264 _ ?side1 ?side2 A40.out).mono ?_); (case side1 => repeat (first | exact HR0.out | (with_reducible refine Kd.C_alloc ?_ _) | (with_reducible refine Kd.C_drewN ?_ _) | (with_reducible refine Kd.C_drew ?_))); (case side2 => exact HC0.out); rintro e w' ⟨rfl, ⟨nd, rfl⟩⟩; refine ⟨_, rfl, ?_⟩)); go_roundg kj35
                       case measure => have := HJ1.out; have := HK2.out; have := HJ8.out; have := HJ17.out; have := HJ23.out; have := HJ35.out; omega
                       case rel => exact ⟨(wrap64 (x3_2 + 1)), d7_1, H', ⟨by have := HJ1.out; have := HK2.out; have := HJ8.out; have := HJ17.out; have := HJ23.out; have := HJ35.out; omega⟩, c7_1⟩
         ·replace c8 := Bool.eq_false_iff.mpr c8
          subst c8
          rw [if_neg (show ¬ (false = true) by decide)] at H; obtain rfl := Option.some.inj H; have p252 : 0 ≤ (x3_2 : Int) := of_decide_eq_true d7_2; have q252 : x3_2 < (l0.length : Int) := of_decide_eq_true d7_2; obtain ⟨ad252, e252, hx252_0, hx252_1, hx252_2, hx252_3⟩ := at_T45 HR0.out x3_2 p252 q252
          cases e252
          replace p252 := eq_true p252; replace q252 := eq_true q252; go_wp2_with (first | (go_at_call 37; (with_reducible refine (spec_l3Bare.calls _ ((rd_T45 l0 x3_2).f0) ((rd_T45 l0 x3_2).f1) ((rd_T45 l0 x3_2).f2) ((rd_T45 l0 x3_2).f3) false _ ?side1 ?side2 ?side3 ?side4 A7.out).mono ?_); (case side1 => first | exact hx252_0 | (refine Eq.trans ?_ hx252_0; simp only [go_sem])); (case side2 => first | exact hx252_1 | (refine Eq.trans ?_ hx252_1; simp only [go_sem])); (case side3 => first | exact hx252_2 | (refine Eq.trans ?_ hx252_2; simp only [go_sem])); (case side4 => first | exact hx252_3 | (refine Eq.trans ?_ hx252_3; simp only [go_sem])); rintro e w' ⟨rfl, ⟨nd, rfl⟩⟩)); go_ret; exact ⟨c7_2, c7_1⟩
        ·rw [if_neg c6] at H
         exact absurd H (by simp)
       ·rw [if_neg c5] at H
        have c5b0 : decide (x3_2 < (l0.length : Int)) = false := decide_eq_false c5; clear c5; obtain rfl := Option.some.inj H; go_wp2; go_ret; exact ⟨c7_2, c7_1⟩

end Go.Proofs.YtjlmknembpjnjaaDoor.A
