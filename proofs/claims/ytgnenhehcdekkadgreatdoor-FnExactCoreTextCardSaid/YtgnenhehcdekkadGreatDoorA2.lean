/- Walks of the program's functions: each Go function's answer as a plain Lean function, and that the call comes to it. Written by a program. Conditions: those in each theorem's own head. -/
import Derived.Test.YtgnenhehcdekkadGreatDoorA0
import Derived.Test.YtgnenhehcdekkadGreatDoorA1
namespace Go.Proofs.YtgnenhehcdekkadGreatDoor.A
open Go.RowKit Go.Proofs.YtgnenhehcdekkadGreatDoorW.PrintWords Go.Proofs.YtgnenhehcdekkadGreatDoorW.PrintLast Go.Proofs.YtgnenhehcdekkadGreatDoorW.PrintMore
attribute [local go_sem] max2_int min2_int max_two min_two max_three min_three max_four min_four   -- for this text's walks alone
set_option linter.unusedVariables false
set_option linter.unusedSimpArgs false

theorem d2_1 {p : Prop} (h : p := by (try simp only [List.map_toArray, List.map_cons, List.map_nil]); first | done | rfl | (simp only [List.length_drop, List.length_take]; rfl)) : p := h
theorem d2_2 {p : Prop} (h : p := by first | rfl | (simp; done) | (simp [*]; done) | (simp [ne_nil_b, eq_nil_b]; done)) : p := h
theorem d2_3 {p : Prop} (h : p := by first | (with_reducible assumption) | assumption) : p := h
theorem c2_1 {p : Prop} (h : p := by repeat (first | exact Drawn0.refl _ | apply Drawn0.step)) : p := h
theorem c2_2 {p : Prop} (h : p := by first | rfl | (simp; done) | (simp [*]; done) | (simp [ne_nil_b, eq_nil_b]; done)) : p := h
theorem c2_3 {p : Prop} (h : p := by repeat (first | (with_reducible first | exact HB.out | apply below_alloc | apply pw_below_drewN | apply below_drew1) | exact HB.out)) : p := h
set_option maxHeartbeats 8000000
set_option maxRecDepth 100000

/-! ### spec_l4Line: function 35 -/
mutual
def spec_l4Line.l0 : Nat → List (S40) → Int → Int → Int → Option (Bool)
  | 0, _, _, _, _ => none
  | k + 1, x0, x1, x5, x6 => if x6 ≥ 0 then (spec_l4Line.j1 k x0 x1 x5 x6 (decide (x5 < 200))) else (spec_l4Line.j1 k x0 x1 x5 x6 false)
def spec_l4Line.j1 : Nat → List (S40) → Int → Int → Int → Bool → Option (Bool)
  | 0, _, _, _, _, _ => none
  | k + 1, x0, x1, x5, x6, x14 => if x14 = true then (if 0 ≤ x1 then (if x1 < (x0.length : Int) then (if x6 = ((rd_T40 x0 x1).f1) then (some true) else (if 0 ≤ x6 then (if x6 < (x0.length : Int) then (spec_l4Line.l0 k x0 x1 (wrap64 (x5 + 1)) ((rd_T40 x0 x6).f1)) else (none)) else (none))) else (none)) else (none)) else (some false)
end
def spec_l4Line.f (k : Nat) (l0 : List (S40)) (a1 : Int) : Option (Bool) := spec_l4Line.l0 k l0 a1 0 (wrap64 (a1 - 1))
theorem spec_l4Line.mono_l : ∀ k, (∀ y0 y1 y2 y3, LeO (spec_l4Line.l0 k y0 y1 y2 y3) (spec_l4Line.l0 (k + 1) y0 y1 y2 y3)) ∧ (∀ y0 y1 y2 y3 y4, LeO (spec_l4Line.j1 k y0 y1 y2 y3 y4) (spec_l4Line.j1 (k + 1) y0 y1 y2 y3 y4))
  | 0 => ⟨fun _ _ _ _ r h => by simp [spec_l4Line.l0] at h, fun _ _ _ _ _ r h => by simp [spec_l4Line.j1] at h⟩
  | k + 1 => by
    obtain ⟨ih0, ih1⟩ := spec_l4Line.mono_l k; refine ⟨?_, ?_⟩
    · intro y0 y1 y2 y3
      unfold spec_l4Line.l0
      repeat' first | (with_reducible first | apply ih0 | apply ih1 | exact LeO.refl _ | exact LeO.none _ | refine LeO.ite ?_ ?_ | refine LeO.bind ?_ (fun _ => ?_)) | apply ih0 | apply ih1 | exact LeO.none _ | refine LeO.ite ?_ ?_ | refine LeO.bind ?_ (fun _ => ?_)
    · intro y0 y1 y2 y3 y4
      unfold spec_l4Line.j1
      repeat' first | (with_reducible first | apply ih0 | apply ih1 | exact LeO.refl _ | exact LeO.none _ | refine LeO.ite ?_ ?_ | refine LeO.bind ?_ (fun _ => ?_)) | apply ih0 | apply ih1 | exact LeO.none _ | refine LeO.ite ?_ ?_ | refine LeO.bind ?_ (fun _ => ?_)
theorem spec_l4Line.mono : ∀ a0 a1 k, LeO (spec_l4Line.f k a0 a1) (spec_l4Line.f (k + 1) a0 a1) := by
  intro a0 a1 k; obtain ⟨ih0, ih1⟩ := spec_l4Line.mono_l k; unfold spec_l4Line.f
  repeat' first | (with_reducible first | apply ih0 | apply ih1 | exact LeO.refl _ | exact LeO.none _ | refine LeO.ite ?_ ?_ | refine LeO.bind ?_ (fun _ => ?_)) | apply ih0 | apply ih1 | exact LeO.none _ | refine LeO.ite ?_ ?_ | refine LeO.bind ?_ (fun _ => ?_)
theorem spec_l4Line.calls (k : Nat) (A0 : Option Addr) (c0 : Nat) (l0 : List (S40)) (a1 : Int) (r : Bool) (w : World) (hr0 : Kd.C k40 w A0 l0.length l0) (hc0 : l0.length ≤ c0) (h : spec_l4Line.f k l0 a1 = some r) :
    Calls Tryz.prog 35 #[.slice A0 l0.length c0, .int .i64 a1] w fun e w' => e = .returned (.bool r) ∧ Drawn0 w w' := by
  have HR0 := ak hr0; have HC0 := ak hc0; clear hr0 hc0; have H := h; clear h; unfold spec_l4Line.f at H; have H' := ak H; clear H; go_enter Tryz.func35, Tryz.ntmps35; go_wp2; go_loopg [5, 6] k (fun kq v5 v6 w' => ∃ (x5_1 : Int) (x6_1 : Int), v5 = .int .i64 x5_1 ∧ v6 = .int .i64 x6_1 ∧ Aside0 (spec_l4Line.l0 kq l0 a1 x5_1 x6_1 = some r) ∧ Aside0 (kq ≤ k) ∧ Drawn0 w w')
  case atStart => exact ⟨(0), (wrap64 (a1 - 1)), d2_2, d2_2, H', ⟨Nat.le_refl _⟩, c2_1⟩
  case round =>
   clear H'
   try clear p2
   obtain ⟨x5_1, x6_1, rfl, rfl, HA, HK1, ⟨m1, rfl⟩⟩ := hrel
   cases gk with
   | zero => exact absurd HA.out (by simp [spec_l4Line.l0])
   | succ k1 =>
    have H := HA.out; clear HA; simp only [spec_l4Line.l0] at H; have HC3 := ak H; clear H; go_upto_region 3 with (fail); go_cut [14] (fun v14 wc => ∃ (kq : Nat) (x14_2 : Bool), v14 = .bool x14_2 ∧ Aside0 (spec_l4Line.j1 kq l0 a1 x5_1 x6_1 x14_2 = some r) ∧ Aside0 (kq ≤ k1) ∧ Drawn0 w wc)
    case first =>
     have H := HC3.out; clear HC3; by_cases c4 : x6_1 ≥ 0
     ·rw [if_pos c4] at H
      have c4b0 : decide (0 ≤ x6_1) = true := decide_eq_true c4; clear c4
      (first | rw [c4b0] | (simp only [i64_w, i32_w]; rw [c4b0]) | skip)
      have H' := ak H; clear H; go_wp2; go_meet
      case rel => exact ⟨_, (decide (x5_1 < 200)), d2_2, H', ⟨by have := HK1.out; first | omega | exact Nat.le_refl _⟩, c2_1⟩
     ·rw [if_neg c4] at H
      have c4b0 : decide (0 ≤ x6_1) = false := decide_eq_false c4; clear c4
      (first | rw [c4b0] | (simp only [i64_w, i32_w]; rw [c4b0]) | skip)
      have H' := ak H; clear H; go_wp2; go_meet
      case rel => exact ⟨_, (false), d2_2, H', ⟨by have := HK1.out; first | omega | exact Nat.le_refl _⟩, c2_1⟩
    case rest =>
     clear HC3
     (try clear p2); (try clear c3); (try clear p2)
     obtain ⟨kq, x14_2, rfl, HA, HJ2, ⟨mc2, rfl⟩⟩ := hcut
     cases kq with
     | zero => exact absurd HA.out (by simp [spec_l4Line.j1])
     | succ kj2 =>
      have H := HA.out; clear HA; simp only [spec_l4Line.j1] at H; by_cases c5 : x14_2 = true
      ·subst c5
       rw [if_pos rfl] at H; by_cases c6 : 0 ≤ a1
       ·rw [if_pos c6] at H
        have c6b0 : decide (0 ≤ a1) = true := decide_eq_true c6; clear c6; by_cases c7 : a1 < (l0.length : Int)
        ·rw [if_pos c7] at H
         have c7b0 : decide (a1 < (l0.length : Int)) = true := decide_eq_true c7; clear c7; by_cases c8 : x6_1 = ((rd_T40 l0 a1).f1)
         ·rw [if_pos c8] at H
          have c8b0 : (x6_1 == ((rd_T40 l0 a1).f1)) = true := beq_iff_eq.mpr c8; have c8b1 : (x6_1 != ((rd_T40 l0 a1).f1)) = false := bne_eq_false_iff_eq.mpr c8; clear c8; obtain rfl := Option.some.inj H; have p114 : 0 ≤ (a1 : Int) := of_decide_eq_true d2_3; have q114 : a1 < (l0.length : Int) := of_decide_eq_true d2_3; obtain ⟨ad114, A114_5, c114_5, e114, hx114_0, hx114_1, hx114_2, hx114_3, hx114_4, hx114_5, hl114_5, hi114_5⟩ := at_T40 HR0.out a1 p114 q114
          cases e114
          have HR114_5 := ak hi114_5; have HC114_5 := ak hl114_5; clear hi114_5 hl114_5; replace p114 := eq_true p114; replace q114 := eq_true q114; go_wp2; go_ret; exact ⟨c2_2, c2_1⟩
         ·rw [if_neg c8] at H
          have c8b0 : (x6_1 == ((rd_T40 l0 a1).f1)) = false := beq_eq_false_iff_ne.mpr c8; have c8b1 : (x6_1 != ((rd_T40 l0 a1).f1)) = true := bne_iff_ne.mpr c8; by_cases c9 : 0 ≤ x6_1
          ·rw [if_pos c9] at H
           have c9b0 : decide (0 ≤ x6_1) = true := decide_eq_true c9; clear c9; by_cases c10 : x6_1 < (l0.length : Int)
           ·rw [if_pos c10] at H
            have c10b0 : decide (x6_1 < (l0.length : Int)) = true := decide_eq_true c10; clear c10; have H' := ak H; clear H; have p114 : 0 ≤ (a1 : Int) := of_decide_eq_true d2_3; have q114 : a1 < (l0.length : Int) := of_decide_eq_true d2_3; obtain ⟨ad114, A114_5, c114_5, e114, hx114_0, hx114_1, hx114_2, hx114_3, hx114_4, hx114_5, hl114_5, hi114_5⟩ := at_T40 HR0.out a1 p114 q114
            cases e114
            have HR114_5 := ak hi114_5; have HC114_5 := ak hl114_5; clear hi114_5 hl114_5; replace p114 := eq_true p114; replace q114 := eq_true q114; have p115 : 0 ≤ (x6_1 : Int) := of_decide_eq_true d2_3; have q115 : x6_1 < (l0.length : Int) := of_decide_eq_true d2_3; obtain ⟨ad115, A115_5, c115_5, e115, hx115_0, hx115_1, hx115_2, hx115_3, hx115_4, hx115_5, hl115_5, hi115_5⟩ := at_T40 HR0.out x6_1 p115 q115; obtain rfl : ad114 = ad115 := (by injection e115); have HR115_5 := ak hi115_5; have HC115_5 := ak hl115_5; clear hi115_5 hl115_5; replace p115 := eq_true p115; replace q115 := eq_true q115; go_wp2; go_roundg kj2
            case measure => have := HK1.out; have := HJ2.out; omega
            case rel => exact ⟨(wrap64 (x5_1 + 1)), ((rd_T40 l0 x6_1).f1), d2_2, d2_2, H', ⟨by have := HK1.out; have := HJ2.out; omega⟩, c2_1⟩
           ·rw [if_neg c10] at H
            exact absurd H (by simp)
          ·rw [if_neg c9] at H
           exact absurd H (by simp)
        ·rw [if_neg c7] at H
         exact absurd H (by simp)
       ·rw [if_neg c6] at H
        exact absurd H (by simp)
      ·replace c5 := Bool.eq_false_iff.mpr c5
       subst c5
       rw [if_neg (show ¬ (false = true) by decide)] at H; obtain rfl := Option.some.inj H; go_wp2; go_ret; exact ⟨c2_2, c2_1⟩

/-! ### spec_l2Byte: function 69 -/
mutual
def spec_l2Byte.j0 : Nat → Int → Bool → Option (Bool)
  | 0, _, _ => none
  | k + 1, x0, x10 => if x10 = true then (some true) else (spec_l2Byte.l0 k x0 (⟨#[43, 45, 42, 47, 60, 61, 63, 33]⟩ : ByteArray) 0)
def spec_l2Byte.l0 : Nat → Int → ByteArray → Int → Option (Bool)
  | 0, _, _, _ => none
  | k + 1, x0, x3, x4 => if x4 < (x3.size : Int) then (if 0 ≤ x4 then (if (bt x3 x4) = x0 then (some true) else (spec_l2Byte.l0 k x0 x3 (wrap64 (x4 + 1)))) else (none)) else (some false)
end
def spec_l2Byte.f (k : Nat) (a0 : Int) : Option (Bool) := if a0 ≥ 97 then (spec_l2Byte.j0 k a0 (decide (a0 ≤ 122))) else (spec_l2Byte.j0 k a0 false)
theorem spec_l2Byte.mono_l : ∀ k, (∀ y0 y1, LeO (spec_l2Byte.j0 k y0 y1) (spec_l2Byte.j0 (k + 1) y0 y1)) ∧ (∀ y0 y1 y2, LeO (spec_l2Byte.l0 k y0 y1 y2) (spec_l2Byte.l0 (k + 1) y0 y1 y2))
  | 0 => ⟨fun _ _ r h => by simp [spec_l2Byte.j0] at h, fun _ _ _ r h => by simp [spec_l2Byte.l0] at h⟩
  | k + 1 => by
    obtain ⟨ih0, ih1⟩ := spec_l2Byte.mono_l k; refine ⟨?_, ?_⟩
    · intro y0 y1
      unfold spec_l2Byte.j0
      repeat' first | (with_reducible first | apply ih0 | apply ih1 | exact LeO.refl _ | exact LeO.none _ | refine LeO.ite ?_ ?_ | refine LeO.bind ?_ (fun _ => ?_)) | apply ih0 | apply ih1 | exact LeO.none _ | refine LeO.ite ?_ ?_ | refine LeO.bind ?_ (fun _ => ?_)
    · intro y0 y1 y2
      unfold spec_l2Byte.l0
      repeat' first | (with_reducible first | apply ih0 | apply ih1 | exact LeO.refl _ | exact LeO.none _ | refine LeO.ite ?_ ?_ | refine LeO.bind ?_ (fun _ => ?_)) | apply ih0 | apply ih1 | exact LeO.none _ | refine LeO.ite ?_ ?_ | refine LeO.bind ?_ (fun _ => ?_)
theorem spec_l2Byte.mono : ∀ a0 k, LeO (spec_l2Byte.f k a0) (spec_l2Byte.f (k + 1) a0) := by
  intro a0 k; obtain ⟨ih0, ih1⟩ := spec_l2Byte.mono_l k; unfold spec_l2Byte.f
  repeat' first | (with_reducible first | apply ih0 | apply ih1 | exact LeO.refl _ | exact LeO.none _ | refine LeO.ite ?_ ?_ | refine LeO.bind ?_ (fun _ => ?_)) | apply ih0 | apply ih1 | exact LeO.none _ | refine LeO.ite ?_ ?_ | refine LeO.bind ?_ (fun _ => ?_)
theorem spec_l2Byte.calls (k : Nat) (a0 : Int) (r : Bool) (w : World) (h : spec_l2Byte.f k a0 = some r) :
    Calls Tryz.prog 69 #[.int .u8 a0] w fun e w' => e = .returned (.bool r) ∧ Drawn0 w w' := by
  have H := h; clear h; unfold spec_l2Byte.f at H; have HC2 := ak H; clear H; go_enter Tryz.func69, Tryz.ntmps69; go_upto_region 1 with (fail); go_cut [10] (fun v10 wc => ∃ (kq : Nat) (x10_1 : Bool), v10 = .bool x10_1 ∧ Aside0 (spec_l2Byte.j0 kq a0 x10_1 = some r) ∧ Aside0 (kq ≤ k) ∧ Drawn0 w wc)
  case first =>
   have H := HC2.out; clear HC2; by_cases c3 : a0 ≥ 97
   ·rw [if_pos c3] at H
    have c3b0 : decide (97 ≤ a0) = true := decide_eq_true c3; clear c3
    (first | rw [c3b0] | (simp only [i64_w, i32_w]; rw [c3b0]) | skip)
    have H' := ak H; clear H; go_wp2; go_meet
    case rel => exact ⟨_, (decide (a0 ≤ 122)), d2_2, H', ⟨by first | omega | exact Nat.le_refl _⟩, c2_1⟩
   ·rw [if_neg c3] at H
    have c3b0 : decide (97 ≤ a0) = false := decide_eq_false c3; clear c3
    (first | rw [c3b0] | (simp only [i64_w, i32_w]; rw [c3b0]) | skip)
    have H' := ak H; clear H; go_wp2; go_meet
    case rel => exact ⟨_, (false), d2_2, H', ⟨by first | omega | exact Nat.le_refl _⟩, c2_1⟩
  case rest =>
   clear HC2; obtain ⟨kq, x10_1, rfl, HA, HJ1, ⟨mc1, rfl⟩⟩ := hcut
   cases kq with
   | zero => exact absurd HA.out (by simp [spec_l2Byte.j0])
   | succ kj1 =>
    have H := HA.out; clear HA; simp only [spec_l2Byte.j0] at H; by_cases c4 : x10_1 = true
    ·subst c4
     rw [if_pos rfl] at H; obtain rfl := Option.some.inj H; go_wp2; go_ret; exact ⟨c2_2, c2_1⟩
    ·replace c4 := Bool.eq_false_iff.mpr c4
     subst c4
     rw [if_neg (show ¬ (false = true) by decide)] at H; have H' := ak H; clear H; go_wp2; go_loopg [4] kj1 (fun kq v4 w' => ∃ (x4_2 : Int), v4 = .int .i64 x4_2 ∧ Aside0 (spec_l2Byte.l0 kq a0 (⟨#[43, 45, 42, 47, 60, 61, 63, 33]⟩ : ByteArray) x4_2 = some r) ∧ Aside0 (kq ≤ kj1) ∧ Drawn0 w w')
     case atStart => exact ⟨(0), d2_2, H', ⟨Nat.le_refl _⟩, c2_1⟩
     case round =>
      clear H'
      (try clear c1); (try clear p2); (try clear c3); (try clear c3b0); (try clear c4)
      obtain ⟨x4_2, rfl, HA, HK2, ⟨m2, rfl⟩⟩ := hrel
      cases gk with
      | zero => exact absurd HA.out (by simp [spec_l2Byte.l0])
      | succ k2 =>
       have H := HA.out; clear HA; simp only [spec_l2Byte.l0] at H; by_cases c5 : x4_2 < ((⟨#[43, 45, 42, 47, 60, 61, 63, 33]⟩ : ByteArray).size : Int)
       ·rw [if_pos c5] at H
        have c5b0 : decide (x4_2 < ((⟨#[43, 45, 42, 47, 60, 61, 63, 33]⟩ : ByteArray).size : Int)) = true := decide_eq_true c5; have c5b1 : decide (x4_2 < (8 : Int)) = true := decide_eq_true c5; clear c5; by_cases c6 : 0 ≤ x4_2
        ·rw [if_pos c6] at H
         have c6b0 : decide (0 ≤ x4_2) = true := decide_eq_true c6; clear c6; by_cases c8 : (bt (⟨#[43, 45, 42, 47, 60, 61, 63, 33]⟩ : ByteArray) x4_2) = a0
         ·rw [if_pos c8] at H
          have c8b0 : ((bt (⟨#[43, 45, 42, 47, 60, 61, 63, 33]⟩ : ByteArray) x4_2) == a0) = true := beq_iff_eq.mpr c8; have c8b1 : ((bt (⟨#[43, 45, 42, 47, 60, 61, 63, 33]⟩ : ByteArray) x4_2) != a0) = false := bne_eq_false_iff_eq.mpr c8; clear c8; obtain rfl := Option.some.inj H; have p7 : 0 ≤ (x4_2 : Int) := of_decide_eq_true d2_3; have q7 : x4_2 < (8 : Int) := of_decide_eq_true d2_3; have hx7 := bt_at (⟨#[43, 45, 42, 47, 60, 61, 63, 33]⟩ : ByteArray) x4_2; replace p7 := eq_true p7; replace q7 := eq_true q7; go_wp2; go_ret; exact ⟨c2_2, c2_1⟩
         ·rw [if_neg c8] at H
          have c8b0 : ((bt (⟨#[43, 45, 42, 47, 60, 61, 63, 33]⟩ : ByteArray) x4_2) == a0) = false := beq_eq_false_iff_ne.mpr c8; have c8b1 : ((bt (⟨#[43, 45, 42, 47, 60, 61, 63, 33]⟩ : ByteArray) x4_2) != a0) = true := bne_iff_ne.mpr c8; have H' := ak H; clear H; have p7 : 0 ≤ (x4_2 : Int) := of_decide_eq_true d2_3; have q7 : x4_2 < (8 : Int) := of_decide_eq_true d2_3; have hx7 := bt_at (⟨#[43, 45, 42, 47, 60, 61, 63, 33]⟩ : ByteArray) x4_2; replace p7 := eq_true p7; replace q7 := eq_true q7; go_wp2; go_roundg k2
          case measure => have := HJ1.out; have := HK2.out; omega
          case rel => exact ⟨(wrap64 (x4_2 + 1)), d2_2, H', ⟨by have := HJ1.out; have := HK2.out; omega⟩, c2_1⟩
        ·rw [if_neg c6] at H
         exact absurd H (by simp)
       ·rw [if_neg c5] at H
        have c5b0 : decide (x4_2 < ((⟨#[43, 45, 42, 47, 60, 61, 63, 33]⟩ : ByteArray).size : Int)) = false := decide_eq_false c5; have c5b1 : decide (x4_2 < (8 : Int)) = false := decide_eq_false c5; clear c5; obtain rfl := Option.some.inj H; go_wp2; go_ret; exact ⟨c2_2, c2_1⟩

/-! ### spec_l2Sym: function 56 -/
def spec_l2Sym.l0 : Nat → ByteArray → Int → Option (Bool)
  | 0, _, _ => none
  | k + 1, x0, x3 => if x3 < (x0.size : Int) then (if 0 ≤ x3 then ((spec_l2Byte.f k (bt x0 x3)).bind fun t116 => (if t116 = true then (spec_l2Sym.l0 k x0 (wrap64 (x3 + 1))) else (some false))) else (none)) else ((spec_l1In.f (x0.size : Int) 1 12).bind fun t117 => (some t117))
def spec_l2Sym.f (k : Nat) (a0 : ByteArray) : Option (Bool) := spec_l2Sym.l0 k a0 0
theorem spec_l2Sym.mono_l : ∀ k, (∀ y0 y1, LeO (spec_l2Sym.l0 k y0 y1) (spec_l2Sym.l0 (k + 1) y0 y1))
  | 0 => fun _ _ r h => by simp [spec_l2Sym.l0] at h
  | k + 1 => by
    have ih0 := spec_l2Sym.mono_l k
    · intro y0 y1
      unfold spec_l2Sym.l0
      repeat' first | (with_reducible first | apply ih0 | apply spec_l2Byte.mono | exact LeO.refl _ | exact LeO.none _ | refine LeO.ite ?_ ?_ | refine LeO.bind ?_ (fun _ => ?_)) | apply ih0 | apply spec_l2Byte.mono | exact LeO.none _ | refine LeO.ite ?_ ?_ | refine LeO.bind ?_ (fun _ => ?_)
theorem spec_l2Sym.mono : ∀ a0 k, LeO (spec_l2Sym.f k a0) (spec_l2Sym.f (k + 1) a0) := by
  intro a0 k; have ih0 := spec_l2Sym.mono_l k; unfold spec_l2Sym.f
  repeat' first | (with_reducible first | apply ih0 | apply spec_l2Byte.mono | exact LeO.refl _ | exact LeO.none _ | refine LeO.ite ?_ ?_ | refine LeO.bind ?_ (fun _ => ?_)) | apply ih0 | apply spec_l2Byte.mono | exact LeO.none _ | refine LeO.ite ?_ ?_ | refine LeO.bind ?_ (fun _ => ?_)
theorem spec_l2Sym.calls (k : Nat) (a0 : ByteArray) (r : Bool) (w : World) (h : spec_l2Sym.f k a0 = some r) :
    Calls Tryz.prog 56 #[.string a0] w fun e w' => e = .returned (.bool r) ∧ Drawn0 w w' := by
  have H := h; clear h; unfold spec_l2Sym.f at H; have H' := ak H; clear H; go_enter Tryz.func56, Tryz.ntmps56; go_wp2; go_loopg [3] k (fun kq v3 w' => ∃ (x3_1 : Int), v3 = .int .i64 x3_1 ∧ Aside0 (spec_l2Sym.l0 kq a0 x3_1 = some r) ∧ Aside0 (kq ≤ k) ∧ Drawn0 w w')
  case atStart => exact ⟨(0), d2_2, H', ⟨Nat.le_refl _⟩, c2_1⟩
  case round =>
   clear H'; obtain ⟨x3_1, rfl, HA, HK1, ⟨m1, rfl⟩⟩ := hrel
   cases gk with
   | zero => exact absurd HA.out (by simp [spec_l2Sym.l0])
   | succ k1 =>
    have H := HA.out; clear HA; simp only [spec_l2Sym.l0] at H; by_cases c2 : x3_1 < (a0.size : Int)
    ·rw [if_pos c2] at H
     have c2b0 : decide (x3_1 < (a0.size : Int)) = true := decide_eq_true c2; clear c2; by_cases c3 : 0 ≤ x3_1
     ·rw [if_pos c3] at H
      have c3b0 : decide (0 ≤ x3_1) = true := decide_eq_true c3; clear c3; replace H := Option.bind_eq_some_iff.mp H; obtain ⟨t116, A50, H⟩ := H; (try dsimp -simprocs only at H); have A5 := ak A50; clear A50; by_cases c6 : t116 = true
      ·subst c6
       rw [if_pos rfl] at H; have H' := ak H; clear H; have p4 : 0 ≤ (x3_1 : Int) := of_decide_eq_true d2_3; have q4 : x3_1 < (a0.size : Int) := of_decide_eq_true d2_3; have hx4 := bt_at a0 x3_1; replace p4 := eq_true p4; replace q4 := eq_true q4; go_wp2_with (first | ((with_reducible refine gate_callee (f := 69) rfl ?_); refine goesL_ (some 13) rfl rfl Tryz.func69 (by kernel_rfl) rfl #[.int .u8 (bt a0 x3_1)] rfl d2_1 ?_; (with_reducible refine (spec_l2Byte.calls k1 (bt a0 x3_1) true _ A5.out).mono ?_); rintro e w' ⟨rfl, ⟨nd, rfl⟩⟩; refine ⟨_, rfl, ?_⟩)); go_roundg k1
       case measure => have := HK1.out; omega
       case rel => exact ⟨(wrap64 (x3_1 + 1)), d2_2, H', ⟨by have := HK1.out; omega⟩, c2_1⟩
      ·replace c6 := Bool.eq_false_iff.mpr c6
       subst c6
       rw [if_neg (show ¬ (false = true) by decide)] at H; obtain rfl := Option.some.inj H; have p4 : 0 ≤ (x3_1 : Int) := of_decide_eq_true d2_3; have q4 : x3_1 < (a0.size : Int) := of_decide_eq_true d2_3; have hx4 := bt_at a0 x3_1; replace p4 := eq_true p4; replace q4 := eq_true q4; go_wp2_with (first | ((with_reducible refine gate_callee (f := 69) rfl ?_); refine goesL_ (some 13) rfl rfl Tryz.func69 (by kernel_rfl) rfl #[.int .u8 (bt a0 x3_1)] rfl d2_1 ?_; (with_reducible refine (spec_l2Byte.calls k1 (bt a0 x3_1) false _ A5.out).mono ?_); rintro e w' ⟨rfl, ⟨nd, rfl⟩⟩; refine ⟨_, rfl, ?_⟩)); go_ret; exact ⟨c2_2, c2_1⟩
     ·rw [if_neg c3] at H
      exact absurd H (by simp)
    ·rw [if_neg c2] at H
     have c2b0 : decide (x3_1 < (a0.size : Int)) = false := decide_eq_false c2; clear c2; replace H := Option.bind_eq_some_iff.mp H; obtain ⟨t117, A70, H⟩ := H; (try dsimp -simprocs only at H); have A7 := ak A70; clear A70; obtain rfl := Option.some.inj H; go_wp2_with (first | ((with_reducible refine gate_callee (f := 34) rfl ?_); refine goesL_ (some 17) rfl rfl Tryz.func34 (by kernel_rfl) rfl #[.int .i64 (a0.size : Int), .int .i64 1, .int .i64 12] rfl d2_1 ?_; (with_reducible refine (spec_l1In.calls (a0.size : Int) 1 12 t117 _ A7.out).mono ?_); rintro e w' ⟨rfl, ⟨nd, rfl⟩⟩; refine ⟨_, rfl, ?_⟩)); go_ret; exact ⟨c2_2, c2_1⟩

/-! ### spec_IsKeyword: function 57 -/
def spec_IsKeyword.l0 : Nat → ByteArray → List ByteArray → Int → Option (Bool)
  | 0, _, _, _ => none
  | k + 1, x0, x3, x4 => if x4 < (x3.length : Int) then (if 0 ≤ x4 then (if (rdOf ByteArray.empty x3 x4).toList = x0.toList then (some true) else (spec_IsKeyword.l0 k x0 x3 (wrap64 (x4 + 1)))) else (none)) else (some false)
def spec_IsKeyword.f (k : Nat) (a0 : ByteArray) : Option (Bool) := spec_IsKeyword.l0 k a0 (([(⟨#[113, 117, 111, 116, 101]⟩ : ByteArray), (⟨#[105, 102]⟩ : ByteArray), (⟨#[108, 97, 109, 98, 100, 97]⟩ : ByteArray), (⟨#[108, 101, 116]⟩ : ByteArray), (⟨#[98, 101, 103, 105, 110]⟩ : ByteArray), (⟨#[100, 101, 102, 105, 110, 101]⟩ : ByteArray), (⟨#[115, 101, 116, 33]⟩ : ByteArray)] : List ByteArray)) 0
theorem spec_IsKeyword.mono_l : ∀ k, (∀ y0 y1 y2, LeO (spec_IsKeyword.l0 k y0 y1 y2) (spec_IsKeyword.l0 (k + 1) y0 y1 y2))
  | 0 => fun _ _ _ r h => by simp [spec_IsKeyword.l0] at h
  | k + 1 => by
    have ih0 := spec_IsKeyword.mono_l k
    · intro y0 y1 y2
      unfold spec_IsKeyword.l0
      repeat' first | (with_reducible first | apply ih0 | exact LeO.refl _ | exact LeO.none _ | refine LeO.ite ?_ ?_ | refine LeO.bind ?_ (fun _ => ?_)) | apply ih0 | exact LeO.none _ | refine LeO.ite ?_ ?_ | refine LeO.bind ?_ (fun _ => ?_)
theorem spec_IsKeyword.mono : ∀ a0 k, LeO (spec_IsKeyword.f k a0) (spec_IsKeyword.f (k + 1) a0) := by
  intro a0 k; have ih0 := spec_IsKeyword.mono_l k; unfold spec_IsKeyword.f
  repeat' first | (with_reducible first | apply ih0 | exact LeO.refl _ | exact LeO.none _ | refine LeO.ite ?_ ?_ | refine LeO.bind ?_ (fun _ => ?_)) | apply ih0 | exact LeO.none _ | refine LeO.ite ?_ ?_ | refine LeO.bind ?_ (fun _ => ?_)
theorem spec_IsKeyword.calls (k : Nat) (a0 : ByteArray) (r : Bool) (w : World) (h : spec_IsKeyword.f k a0 = some r) :
    Calls Tryz.prog 57 #[.string a0] w fun e w' => e = .returned (.bool r) ∧ Below w.heap.size w w' := by
  have HB := ak (Below.refl w.heap.size w); have H := h; clear h; unfold spec_IsKeyword.f at H; obtain ⟨y118, hy118⟩ : ∃ y_ : List ByteArray, y_ = (([(⟨#[113, 117, 111, 116, 101]⟩ : ByteArray), (⟨#[105, 102]⟩ : ByteArray), (⟨#[108, 97, 109, 98, 100, 97]⟩ : ByteArray), (⟨#[108, 101, 116]⟩ : ByteArray), (⟨#[98, 101, 103, 105, 110]⟩ : ByteArray), (⟨#[100, 101, 102, 105, 110, 101]⟩ : ByteArray), (⟨#[115, 101, 116, 33]⟩ : ByteArray)] : List ByteArray)) := ⟨_, rfl⟩
  replace H : (spec_IsKeyword.l0 k a0 y118 0) = some r := by first | (rw [hy118]; with_reducible exact H) | (have H2_ := (Option.bind_some _ _).symm.trans H; rw [hy118]; with_reducible exact H2_) | (have H2_ := (Option.bind_some _ _).symm.trans H; with_reducible exact H2_) | with_reducible exact H | (rw [hy118]; exact H) | exact H
  have Ny118 := ak hy118; clear hy118; have H' := ak H; clear H; go_enter Tryz.func57, Tryz.ntmps57
  go_wp2_with (first | ((with_reducible refine gate_dst (N := 5) rfl ?_); refine Kd.R_lit Kd.string _ 9 ?hg (N := 5) ?hd (xs := ([(⟨#[113, 117, 111, 116, 101]⟩ : ByteArray), (⟨#[105, 102]⟩ : ByteArray), (⟨#[108, 97, 109, 98, 100, 97]⟩ : ByteArray), (⟨#[108, 101, 116]⟩ : ByteArray), (⟨#[98, 101, 103, 105, 110]⟩ : ByteArray), (⟨#[100, 101, 102, 105, 110, 101]⟩ : ByteArray), (⟨#[115, 101, 116, 33]⟩ : ByteArray)] : List ByteArray)) (inner := [.string (⟨#[113, 117, 111, 116, 101]⟩ : ByteArray), .string (⟨#[105, 102]⟩ : ByteArray), .string (⟨#[108, 97, 109, 98, 100, 97]⟩ : ByteArray), .string (⟨#[108, 101, 116]⟩ : ByteArray), .string (⟨#[98, 101, 103, 105, 110]⟩ : ByteArray), .string (⟨#[100, 101, 102, 105, 110, 101]⟩ : ByteArray), .string (⟨#[115, 101, 116, 33]⟩ : ByteArray)]) (ok := fun _ => True) (okp := fun _ => True) ?hr ?hp (fun _ hk => hk) trivial (Below.refl _ _) (Nat.le_refl _) (by simp) ?_; (case hd => rfl); (case hg => rfl); (case hr => first | (go_simp; done) | (go_simp; rfl)); (case hp => exact (Reps.one (show Kd.M Kd.string _ _ _ (⟨#[113, 117, 111, 116, 101]⟩ : ByteArray) [.string (⟨#[113, 117, 111, 116, 101]⟩ : ByteArray)] from rfl) (Reps.one (show Kd.M Kd.string _ _ _ (⟨#[105, 102]⟩ : ByteArray) [.string (⟨#[105, 102]⟩ : ByteArray)] from rfl) (Reps.one (show Kd.M Kd.string _ _ _ (⟨#[108, 97, 109, 98, 100, 97]⟩ : ByteArray) [.string (⟨#[108, 97, 109, 98, 100, 97]⟩ : ByteArray)] from rfl) (Reps.one (show Kd.M Kd.string _ _ _ (⟨#[108, 101, 116]⟩ : ByteArray) [.string (⟨#[108, 101, 116]⟩ : ByteArray)] from rfl) (Reps.one (show Kd.M Kd.string _ _ _ (⟨#[98, 101, 103, 105, 110]⟩ : ByteArray) [.string (⟨#[98, 101, 103, 105, 110]⟩ : ByteArray)] from rfl) (Reps.one (show Kd.M Kd.string _ _ _ (⟨#[100, 101, 102, 105, 110, 101]⟩ : ByteArray) [.string (⟨#[100, 101, 102, 105, 110, 101]⟩ : ByteArray)] from rfl) (Reps.one (show Kd.M Kd.string _ _ _ (⟨#[115, 101, 116, 33]⟩ : ByteArray) [.string (⟨#[115, 101, 116, 33]⟩ : ByteArray)] from rfl) (Reps.none _ _))))))))); intro v119 w2 ho3 hb hg_ hnew_; clear hg_ hnew_; (first | rw [← Ny118.out] at ho3 | (simp only [Int.reduceToNat] at ho3; rw [← Ny118.out] at ho3)); have n0_ := ak (Kd.R_lower ho3 (below_size (by repeat (first | (with_reducible first | exact HB.out | apply below_alloc | apply pw_below_drewN | apply below_drew1) | exact HB.out)))); have n1_ := ak (below_step (by repeat (first | (with_reducible first | exact HB.out | apply below_alloc | apply pw_below_drewN | apply below_drew1) | exact HB.out)) hb); clear HB; have HO120 := n0_; have HB := n1_; clear n0_ n1_ hb ho3))
  go_loopg [4] k (fun kq v4 w' => ∃ (x4_1 : Int), v4 = .int .i64 x4_1 ∧ Aside0 (spec_IsKeyword.l0 kq a0 y118 x4_1 = some r) ∧ Aside0 (kq ≤ k) ∧ Aside0 (Kd.R Kd.string 9 w' w.heap.size (fun _ => True) v119 y118) ∧ Aside0 (Below w.heap.size w w'))
  case atStart => exact ⟨(0), d2_2, H', ⟨Nat.le_refl _⟩, ⟨by (with_reducible repeat (first | apply Kd.R_alloc | apply Kd.R_drewN | apply Kd.R_drew)); exact HO120.out⟩, ⟨c2_3⟩⟩
  case round =>
   clear H'
   try clear p2
   obtain ⟨x4_1, rfl, HA, HK1, HO_3, HB⟩ := hrel
   cases gk with
   | zero => exact absurd HA.out (by simp [spec_IsKeyword.l0])
   | succ k1 =>
    have H := HA.out; clear HA; simp only [spec_IsKeyword.l0] at H; by_cases c4 : x4_1 < (y118.length : Int)
    ·rw [if_pos c4] at H
     have c4b0 : decide (x4_1 < (y118.length : Int)) = true := decide_eq_true c4; clear c4; by_cases c5 : 0 ≤ x4_1
     ·rw [if_pos c5] at H
      have c5b0 : decide (0 ≤ x4_1) = true := decide_eq_true c5; clear c5; by_cases c6 : (rdOf ByteArray.empty y118 x4_1).toList = a0.toList
      ·rw [if_pos c6] at H
       have c6b0 : ((rdOf ByteArray.empty y118 x4_1).toList == a0.toList) = true := beq_iff_eq.mpr c6; have c6b1 : ((rdOf ByteArray.empty y118 x4_1).toList != a0.toList) = false := bne_eq_false_iff_eq.mpr c6; clear c6; obtain rfl := Option.some.inj H; obtain ⟨Ao7, co7, eo7⟩ := Kd.R_slice HO_3.out; subst eo7; have p121 : 0 ≤ (x4_1 : Int) := of_decide_eq_true d2_3; have q121 : x4_1 < (y118.length : Int) := of_decide_eq_true d2_3; obtain ⟨ad121, e121, hx121_0⟩ := Kd.at_string (Kd.R_reads' HO_3.out).2.2 x4_1 p121 q121
       cases e121
       replace p121 := eq_true p121; replace q121 := eq_true q121; go_wp2; go_ret; exact ⟨by first | rfl | (simp [errW_none, errW_some] <;> rfl) | (simp [*, errW_none, errW_some] <;> rfl), c2_3⟩
      ·rw [if_neg c6] at H
       have c6b0 : ((rdOf ByteArray.empty y118 x4_1).toList == a0.toList) = false := beq_eq_false_iff_ne.mpr c6; have c6b1 : ((rdOf ByteArray.empty y118 x4_1).toList != a0.toList) = true := bne_iff_ne.mpr c6; have H' := ak H; clear H; obtain ⟨Ao8, co8, eo8⟩ := Kd.R_slice HO_3.out; subst eo8; have p121 : 0 ≤ (x4_1 : Int) := of_decide_eq_true d2_3; have q121 : x4_1 < (y118.length : Int) := of_decide_eq_true d2_3; obtain ⟨ad121, e121, hx121_0⟩ := Kd.at_string (Kd.R_reads' HO_3.out).2.2 x4_1 p121 q121
       cases e121
       replace p121 := eq_true p121; replace q121 := eq_true q121; go_wp2; go_roundg k1
       case measure => have := HK1.out; omega
       case rel => exact ⟨(wrap64 (x4_1 + 1)), d2_2, H', ⟨by have := HK1.out; omega⟩, ⟨by (with_reducible repeat (first | apply Kd.R_alloc | apply Kd.R_drewN | apply Kd.R_drew)); exact HO_3.out⟩, ⟨c2_3⟩⟩
     ·rw [if_neg c5] at H
      exact absurd H (by simp)
    ·rw [if_neg c4] at H
     have c4b0 : decide (x4_1 < (y118.length : Int)) = false := decide_eq_false c4; clear c4; obtain rfl := Option.some.inj H; obtain ⟨Ao9, co9, eo9⟩ := Kd.R_slice HO_3.out; subst eo9; go_wp2; go_ret; exact ⟨by first | rfl | (simp [errW_none, errW_some] <;> rfl) | (simp [*, errW_none, errW_some] <;> rfl), c2_3⟩

/-! ### spec_l4Name: function 37 -/
def spec_l4Name.f (k : Nat) (a0 : ByteArray) : Option (Bool) := (spec_l2Sym.f k a0).bind fun t122 => (if t122 = true then ((spec_IsKeyword.f k a0).bind fun t123 => (some (!t123))) else (some false))
theorem spec_l4Name.mono : ∀ a0 k, LeO (spec_l4Name.f k a0) (spec_l4Name.f (k + 1) a0) := by
  intro a0 k; unfold spec_l4Name.f
  repeat' first | (with_reducible first | apply spec_IsKeyword.mono | apply spec_l2Sym.mono | exact LeO.refl _ | exact LeO.none _ | refine LeO.ite ?_ ?_ | refine LeO.bind ?_ (fun _ => ?_)) | apply spec_IsKeyword.mono | apply spec_l2Sym.mono | exact LeO.none _ | refine LeO.ite ?_ ?_ | refine LeO.bind ?_ (fun _ => ?_)
theorem spec_l4Name.calls (k : Nat) (a0 : ByteArray) (r : Bool) (w : World) (h : spec_l4Name.f k a0 = some r) :
    Calls Tryz.prog 37 #[.string a0] w fun e w' => e = .returned (.bool r) ∧ Below w.heap.size w w' := by
  have HB := ak (Below.refl w.heap.size w); have H := h; clear h; unfold spec_l4Name.f at H; replace H := Option.bind_eq_some_iff.mp H; obtain ⟨t122, A20, H⟩ := H; (try dsimp -simprocs only at H); have A2 := ak A20; clear A20; by_cases c3 : t122 = true
  ·subst c3
   rw [if_pos rfl] at H; replace H := Option.bind_eq_some_iff.mp H; obtain ⟨t123, A40, H⟩ := H; (try dsimp -simprocs only at H); have A4 := ak A40; clear A40; obtain rfl := Option.some.inj H; go_enter Tryz.func37, Tryz.ntmps37; go_wp2_with (first | ((with_reducible refine gate_callee (f := 56) rfl ?_); refine goesL_ (some 4) rfl rfl Tryz.func56 (by kernel_rfl) rfl #[.string a0] rfl d2_1 ?_; (with_reducible refine (spec_l2Sym.calls k a0 true _ A2.out).mono ?_); rintro e w' ⟨rfl, ⟨nd, rfl⟩⟩; refine ⟨_, rfl, ?_⟩) | (go_at_call 57; (with_reducible refine (spec_IsKeyword.calls k a0 t123 _ A4.out).mono ?_); rintro e w5 ⟨rfl, hb⟩; have n0_ := ak (below_step (by repeat (first | (with_reducible first | exact HB.out | apply below_alloc | apply pw_below_drewN | apply below_drew1) | exact HB.out)) hb); clear HB; have HB := n0_; clear n0_; (try clear hb))); go_ret; exact ⟨by first | rfl | (simp [errW_none, errW_some] <;> rfl) | (simp [*, errW_none, errW_some] <;> rfl), c2_3⟩
  ·replace c3 := Bool.eq_false_iff.mpr c3
   subst c3
   rw [if_neg (show ¬ (false = true) by decide)] at H; obtain rfl := Option.some.inj H; go_enter Tryz.func37, Tryz.ntmps37; go_wp2_with (first | ((with_reducible refine gate_callee (f := 56) rfl ?_); refine goesL_ (some 4) rfl rfl Tryz.func56 (by kernel_rfl) rfl #[.string a0] rfl d2_1 ?_; (with_reducible refine (spec_l2Sym.calls k a0 false _ A2.out).mono ?_); rintro e w' ⟨rfl, ⟨nd, rfl⟩⟩; refine ⟨_, rfl, ?_⟩)); go_ret; exact ⟨by first | rfl | (simp [errW_none, errW_some] <;> rfl) | (simp [*, errW_none, errW_some] <;> rfl), c2_3⟩

/-! ### spec_l3Bare: function 58 -/
def spec_l3Bare.f (a0_0 : Int) (a0_1 : Int) (a0_2 : Int) (a0_3 : ByteArray) : Option (Bool) := if a0_0 = 1 then ((spec_l1In.f a0_0 1 4).bind fun t125 => (if t125 = true then (if a0_0 = 3 then (some true) else (some (a0_3.toList == ([] : List UInt8)))) else (some false))) else ((spec_l1In.f a0_0 1 4).bind fun t126 => (if t126 = true then (if a0_0 = 2 then (if a0_0 = 3 then (some true) else (some (a0_3.toList == ([] : List UInt8)))) else (if a0_2 = 0 then (if a0_0 = 3 then (some true) else (some (a0_3.toList == ([] : List UInt8)))) else (some false))) else (some false)))
theorem spec_l3Bare.calls (P0_ : Addr) (a0_0 : Int) (a0_1 : Int) (a0_2 : Int) (a0_3 : ByteArray) (r : Bool) (w : World) (hq0_0 : w.cell? P0_ = some (.int .i64 a0_0)) (hq0_1 : w.cell? ⟨P0_.block, P0_.off + 1, none⟩ = some (.int .i64 a0_1)) (hq0_2 : w.cell? ⟨P0_.block, P0_.off + 2, none⟩ = some (.int .i64 a0_2)) (hq0_3 : w.cell? ⟨P0_.block, P0_.off + 3, none⟩ = some (.string a0_3)) (h : spec_l3Bare.f a0_0 a0_1 a0_2 a0_3 = some r) :
    Calls Tryz.prog 58 #[.pointer (some P0_)] w fun e w' => e = .returned (.bool r) ∧ Drawn0 w w' := by
  have HQ0_0 := ak hq0_0; clear hq0_0; have HQ0_1 := ak hq0_1; clear hq0_1; have HQ0_2 := ak hq0_2; clear hq0_2; have HQ0_3 := ak hq0_3; clear hq0_3; have H := h; clear h; unfold spec_l3Bare.f at H; by_cases c2 : a0_0 = 1
  ·rw [if_pos c2] at H
   have c2b0 : (a0_0 == 1) = true := beq_iff_eq.mpr c2; have c2b1 : (a0_0 != 1) = false := bne_eq_false_iff_eq.mpr c2; clear c2; replace H := Option.bind_eq_some_iff.mp H; obtain ⟨t125, A30, H⟩ := H; (try dsimp -simprocs only at H); have A3 := ak A30; clear A30; by_cases c4 : t125 = true
   ·subst c4
    rw [if_pos rfl] at H; by_cases c5 : a0_0 = 3
    ·rw [if_pos c5] at H
     have c5b0 : (a0_0 == 3) = true := beq_iff_eq.mpr c5; have c5b1 : (a0_0 != 3) = false := bne_eq_false_iff_eq.mpr c5; clear c5; obtain rfl := Option.some.inj H; have hx124_0 := HQ0_0.out; have hx124_1 := HQ0_1.out; have hx124_2 := HQ0_2.out; have hx124_3 := HQ0_3.out; go_enter Tryz.func58, Tryz.ntmps58; go_wp2_with (first | ((with_reducible refine gate_callee (f := 34) rfl ?_); refine goesL_ (some 20) rfl rfl Tryz.func34 (by kernel_rfl) rfl #[.int .i64 a0_0, .int .i64 1, .int .i64 4] rfl d2_1 ?_; (with_reducible refine (spec_l1In.calls a0_0 1 4 true _ A3.out).mono ?_); rintro e w' ⟨rfl, ⟨nd, rfl⟩⟩; refine ⟨_, rfl, ?_⟩)); go_ret; exact ⟨c2_2, c2_1⟩
    ·rw [if_neg c5] at H
     have c5b0 : (a0_0 == 3) = false := beq_eq_false_iff_ne.mpr c5; have c5b1 : (a0_0 != 3) = true := bne_iff_ne.mpr c5; obtain rfl := Option.some.inj H; have hx124_0 := HQ0_0.out; have hx124_1 := HQ0_1.out; have hx124_2 := HQ0_2.out; have hx124_3 := HQ0_3.out; go_enter Tryz.func58, Tryz.ntmps58; go_wp2_with (first | ((with_reducible refine gate_callee (f := 34) rfl ?_); refine goesL_ (some 20) rfl rfl Tryz.func34 (by kernel_rfl) rfl #[.int .i64 a0_0, .int .i64 1, .int .i64 4] rfl d2_1 ?_; (with_reducible refine (spec_l1In.calls a0_0 1 4 true _ A3.out).mono ?_); rintro e w' ⟨rfl, ⟨nd, rfl⟩⟩; refine ⟨_, rfl, ?_⟩)); go_ret; exact ⟨c2_2, c2_1⟩
   ·replace c4 := Bool.eq_false_iff.mpr c4
    subst c4
    rw [if_neg (show ¬ (false = true) by decide)] at H; obtain rfl := Option.some.inj H; have hx124_0 := HQ0_0.out; have hx124_1 := HQ0_1.out; have hx124_2 := HQ0_2.out; have hx124_3 := HQ0_3.out; go_enter Tryz.func58, Tryz.ntmps58; go_wp2_with (first | ((with_reducible refine gate_callee (f := 34) rfl ?_); refine goesL_ (some 20) rfl rfl Tryz.func34 (by kernel_rfl) rfl #[.int .i64 a0_0, .int .i64 1, .int .i64 4] rfl d2_1 ?_; (with_reducible refine (spec_l1In.calls a0_0 1 4 false _ A3.out).mono ?_); rintro e w' ⟨rfl, ⟨nd, rfl⟩⟩; refine ⟨_, rfl, ?_⟩)); go_ret; exact ⟨c2_2, c2_1⟩
  ·rw [if_neg c2] at H
   have c2b0 : (a0_0 == 1) = false := beq_eq_false_iff_ne.mpr c2; have c2b1 : (a0_0 != 1) = true := bne_iff_ne.mpr c2; replace H := Option.bind_eq_some_iff.mp H; obtain ⟨t126, A60, H⟩ := H; (try dsimp -simprocs only at H); have A6 := ak A60; clear A60; by_cases c7 : t126 = true
   ·subst c7
    rw [if_pos rfl] at H; by_cases c8 : a0_0 = 2
    ·rw [if_pos c8] at H
     have c8b0 : (a0_0 == 2) = true := beq_iff_eq.mpr c8; have c8b1 : (a0_0 != 2) = false := bne_eq_false_iff_eq.mpr c8; clear c8; by_cases c9 : a0_0 = 3
     ·rw [if_pos c9] at H
      have c9b0 : (a0_0 == 3) = true := beq_iff_eq.mpr c9; have c9b1 : (a0_0 != 3) = false := bne_eq_false_iff_eq.mpr c9; clear c9; obtain rfl := Option.some.inj H; have hx124_0 := HQ0_0.out; have hx124_1 := HQ0_1.out; have hx124_2 := HQ0_2.out; have hx124_3 := HQ0_3.out; go_enter Tryz.func58, Tryz.ntmps58; go_wp2_with (first | ((with_reducible refine gate_callee (f := 34) rfl ?_); refine goesL_ (some 20) rfl rfl Tryz.func34 (by kernel_rfl) rfl #[.int .i64 a0_0, .int .i64 1, .int .i64 4] rfl d2_1 ?_; (with_reducible refine (spec_l1In.calls a0_0 1 4 true _ A6.out).mono ?_); rintro e w' ⟨rfl, ⟨nd, rfl⟩⟩; refine ⟨_, rfl, ?_⟩)); go_ret; exact ⟨c2_2, c2_1⟩
     ·rw [if_neg c9] at H
      have c9b0 : (a0_0 == 3) = false := beq_eq_false_iff_ne.mpr c9; have c9b1 : (a0_0 != 3) = true := bne_iff_ne.mpr c9; obtain rfl := Option.some.inj H; have hx124_0 := HQ0_0.out; have hx124_1 := HQ0_1.out; have hx124_2 := HQ0_2.out; have hx124_3 := HQ0_3.out; go_enter Tryz.func58, Tryz.ntmps58; go_wp2_with (first | ((with_reducible refine gate_callee (f := 34) rfl ?_); refine goesL_ (some 20) rfl rfl Tryz.func34 (by kernel_rfl) rfl #[.int .i64 a0_0, .int .i64 1, .int .i64 4] rfl d2_1 ?_; (with_reducible refine (spec_l1In.calls a0_0 1 4 true _ A6.out).mono ?_); rintro e w' ⟨rfl, ⟨nd, rfl⟩⟩; refine ⟨_, rfl, ?_⟩)); go_ret; exact ⟨c2_2, c2_1⟩
    ·rw [if_neg c8] at H
     have c8b0 : (a0_0 == 2) = false := beq_eq_false_iff_ne.mpr c8; have c8b1 : (a0_0 != 2) = true := bne_iff_ne.mpr c8; by_cases c10 : a0_2 = 0
     ·rw [if_pos c10] at H
      have c10b0 : (a0_2 == 0) = true := beq_iff_eq.mpr c10; have c10b1 : (a0_2 != 0) = false := bne_eq_false_iff_eq.mpr c10; clear c10; by_cases c11 : a0_0 = 3
      ·rw [if_pos c11] at H
       have c11b0 : (a0_0 == 3) = true := beq_iff_eq.mpr c11; have c11b1 : (a0_0 != 3) = false := bne_eq_false_iff_eq.mpr c11; clear c11; obtain rfl := Option.some.inj H; have hx124_0 := HQ0_0.out; have hx124_1 := HQ0_1.out; have hx124_2 := HQ0_2.out; have hx124_3 := HQ0_3.out; go_enter Tryz.func58, Tryz.ntmps58; go_wp2_with (first | ((with_reducible refine gate_callee (f := 34) rfl ?_); refine goesL_ (some 20) rfl rfl Tryz.func34 (by kernel_rfl) rfl #[.int .i64 a0_0, .int .i64 1, .int .i64 4] rfl d2_1 ?_; (with_reducible refine (spec_l1In.calls a0_0 1 4 true _ A6.out).mono ?_); rintro e w' ⟨rfl, ⟨nd, rfl⟩⟩; refine ⟨_, rfl, ?_⟩)); go_ret; exact ⟨c2_2, c2_1⟩
      ·rw [if_neg c11] at H
       have c11b0 : (a0_0 == 3) = false := beq_eq_false_iff_ne.mpr c11; have c11b1 : (a0_0 != 3) = true := bne_iff_ne.mpr c11; obtain rfl := Option.some.inj H; have hx124_0 := HQ0_0.out; have hx124_1 := HQ0_1.out; have hx124_2 := HQ0_2.out; have hx124_3 := HQ0_3.out; go_enter Tryz.func58, Tryz.ntmps58; go_wp2_with (first | ((with_reducible refine gate_callee (f := 34) rfl ?_); refine goesL_ (some 20) rfl rfl Tryz.func34 (by kernel_rfl) rfl #[.int .i64 a0_0, .int .i64 1, .int .i64 4] rfl d2_1 ?_; (with_reducible refine (spec_l1In.calls a0_0 1 4 true _ A6.out).mono ?_); rintro e w' ⟨rfl, ⟨nd, rfl⟩⟩; refine ⟨_, rfl, ?_⟩)); go_ret; exact ⟨c2_2, c2_1⟩
     ·rw [if_neg c10] at H
      have c10b0 : (a0_2 == 0) = false := beq_eq_false_iff_ne.mpr c10; have c10b1 : (a0_2 != 0) = true := bne_iff_ne.mpr c10; obtain rfl := Option.some.inj H; have hx124_0 := HQ0_0.out; have hx124_1 := HQ0_1.out; have hx124_2 := HQ0_2.out; have hx124_3 := HQ0_3.out; go_enter Tryz.func58, Tryz.ntmps58; go_wp2_with (first | ((with_reducible refine gate_callee (f := 34) rfl ?_); refine goesL_ (some 20) rfl rfl Tryz.func34 (by kernel_rfl) rfl #[.int .i64 a0_0, .int .i64 1, .int .i64 4] rfl d2_1 ?_; (with_reducible refine (spec_l1In.calls a0_0 1 4 true _ A6.out).mono ?_); rintro e w' ⟨rfl, ⟨nd, rfl⟩⟩; refine ⟨_, rfl, ?_⟩)); go_ret; exact ⟨c2_2, c2_1⟩
   ·replace c7 := Bool.eq_false_iff.mpr c7
    subst c7
    rw [if_neg (show ¬ (false = true) by decide)] at H; obtain rfl := Option.some.inj H; have hx124_0 := HQ0_0.out; have hx124_1 := HQ0_1.out; have hx124_2 := HQ0_2.out; have hx124_3 := HQ0_3.out; go_enter Tryz.func58, Tryz.ntmps58; go_wp2_with (first | ((with_reducible refine gate_callee (f := 34) rfl ?_); refine goesL_ (some 20) rfl rfl Tryz.func34 (by kernel_rfl) rfl #[.int .i64 a0_0, .int .i64 1, .int .i64 4] rfl d2_1 ?_; (with_reducible refine (spec_l1In.calls a0_0 1 4 false _ A6.out).mono ?_); rintro e w' ⟨rfl, ⟨nd, rfl⟩⟩; refine ⟨_, rfl, ?_⟩)); go_ret; exact ⟨c2_2, c2_1⟩

/-! ### spec_l1Num: function 59 -/
def spec_l1Num.f (a0 : Int) : Option (Bool) := (spec_l1In.f a0 (-1000000000) 1000000000).bind fun t127 => (some t127)
theorem spec_l1Num.calls (a0 : Int) (r : Bool) (w : World) (h : spec_l1Num.f a0 = some r) :
    Calls Tryz.prog 59 #[.int .i64 a0] w fun e w' => e = .returned (.bool r) ∧ Drawn0 w w' := by
  have H := h; clear h; unfold spec_l1Num.f at H; replace H := Option.bind_eq_some_iff.mp H; obtain ⟨t127, A20, H⟩ := H; (try dsimp -simprocs only at H); have A2 := ak A20; clear A20; obtain rfl := Option.some.inj H; go_enter Tryz.func59, Tryz.ntmps59; go_wp2_with (first | ((with_reducible refine gate_callee (f := 34) rfl ?_); refine goesL_ (some 4) rfl rfl Tryz.func34 (by kernel_rfl) rfl #[.int .i64 a0, .int .i64 (-1000000000), .int .i64 1000000000] rfl d2_1 ?_; (with_reducible refine (spec_l1In.calls a0 (-1000000000) 1000000000 t127 _ A2.out).mono ?_); rintro e w' ⟨rfl, ⟨nd, rfl⟩⟩; refine ⟨_, rfl, ?_⟩)); go_ret; exact ⟨c2_2, c2_1⟩

end Go.Proofs.YtgnenhehcdekkadGreatDoor.A
