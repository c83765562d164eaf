/- Walks of the program's functions: each Go function's answer as a plain Lean function, and that the call comes to it. Written by a program. Conditions: those in each theorem's own head. -/
import Derived.Test.YtgnenhehcdekkadGreatDoorA0
import Derived.Test.YtgnenhehcdekkadGreatDoorA10
import Derived.Test.YtgnenhehcdekkadGreatDoorA15
namespace Go.Proofs.YtgnenhehcdekkadGreatDoor.A
open Go.RowKit Go.Proofs.YtgnenhehcdekkadGreatDoorW.PrintWords Go.Proofs.YtgnenhehcdekkadGreatDoorW.PrintLast Go.Proofs.YtgnenhehcdekkadGreatDoorW.PrintMore
attribute [local go_sem] max2_int min2_int max_two min_two max_three min_three max_four min_four   -- for this text's walks alone
set_option linter.unusedVariables false
set_option linter.unusedSimpArgs false

theorem d16_1 {p : Prop} (h : p := by repeat (first | (with_reducible first | exact HB.out | apply below_alloc | apply pw_below_drewN | apply below_drew1) | exact HB.out)) : p := h
theorem d16_2 {p : Prop} (h : p := by (try simp only [List.map_toArray, List.map_cons, List.map_nil]); first | done | rfl | (simp only [List.length_drop, List.length_take]; rfl)) : p := h
theorem d16_3 {p : Prop} (h : p := by first | rfl | (simp; done) | (simp [*]; done) | (simp [ne_nil_b, eq_nil_b]; done)) : p := h
theorem d16_4 {p : Prop} (h : p := by first | (with_reducible assumption) | assumption) : p := h
theorem c16_1 {p : Prop} (h : p := by repeat (first | (with_reducible first | exact HB.out | apply below_alloc | apply pw_below_drewN | apply below_drew1) | exact HB.out)) : p := h
theorem c16_2 {p : Prop} (h : p := by repeat (first | exact Drawn0.refl _ | apply Drawn0.step)) : p := h
theorem c16_3 {p : Prop} (h : p := by first | rfl | (simp; done) | (simp [*]; done) | (simp [ne_nil_b, eq_nil_b]; done)) : p := h
theorem c16_4 {p : Prop} (h : p := by first | rfl | (simp [errW_none, errW_some] <;> rfl) | (simp [*, errW_none, errW_some] <;> rfl)) : p := h
theorem c16_5 {p : Prop} (h : p := by repeat (first | exact (Kd.C_below HR0.out HB.out) | (with_reducible refine Kd.C_alloc ?_ _) | (with_reducible refine Kd.C_drewN ?_ _) | (with_reducible refine Kd.C_drew ?_))) : p := h
set_option maxHeartbeats 8000000
set_option maxRecDepth 100000
theorem z16c {w : World} {g : Nat} {t : TypeId} {cs : Array Value} (h : w.heap[g]? = some (.cells cs t (0, 0))) (i : Nat) {v : Value} (e : cs[i]? = some v) : w.cell? ⟨g, i, none⟩ = some v := (blk_cell h i).trans e

/-! ### impl_hasKids: function 27 -/
def impl_hasKids.j0 : Nat → Int → Int → Bool → Option (Bool)
  | 0, _, _, _ => none
  | k + 1, x1, x5, x10 => if x10 = true then (some (x1 == 1)) else (if x5 = 6 then (some (decide (x1 ≥ 1))) else (if x5 = 9 then ((impl_in.f x1 1 4).bind fun t347 => (some t347)) else (some (x1 == 0))))
def impl_hasKids.f (k : Nat) (a0 : Int) (a1 : Int) : Option (Bool) := if a0 = 4 then (some (a1 == 3)) else (if a0 = 5 then (impl_hasKids.j0 k a1 a0 (a0 == 5)) else (if a0 = 7 then (impl_hasKids.j0 k a1 a0 (a0 == 7)) else (impl_hasKids.j0 k a1 a0 (a0 == 8))))
theorem impl_hasKids.mono_l : ∀ k, (∀ y0 y1 y2, LeO (impl_hasKids.j0 k y0 y1 y2) (impl_hasKids.j0 (k + 1) y0 y1 y2))
  | 0 => fun _ _ _ r h => by simp [impl_hasKids.j0] at h
  | k + 1 => by
    have ih0 := impl_hasKids.mono_l k
    · intro y0 y1 y2
      unfold impl_hasKids.j0
      repeat' first | (with_reducible first | apply ih0 | exact LeO.refl _ | exact LeO.none _ | refine LeO.ite ?_ ?_ | refine LeO.bind ?_ (fun _ => ?_)) | apply ih0 | exact LeO.none _ | refine LeO.ite ?_ ?_ | refine LeO.bind ?_ (fun _ => ?_)
theorem impl_hasKids.mono : ∀ a0 a1 k, LeO (impl_hasKids.f k a0 a1) (impl_hasKids.f (k + 1) a0 a1) := by
  intro a0 a1 k; have ih0 := impl_hasKids.mono_l k; unfold impl_hasKids.f
  repeat' first | (with_reducible first | apply ih0 | exact LeO.refl _ | exact LeO.none _ | refine LeO.ite ?_ ?_ | refine LeO.bind ?_ (fun _ => ?_)) | apply ih0 | exact LeO.none _ | refine LeO.ite ?_ ?_ | refine LeO.bind ?_ (fun _ => ?_)
theorem impl_hasKids.calls (k : Nat) (a0 : Int) (a1 : Int) (r : Bool) (w : World) (h : impl_hasKids.f k a0 a1 = some r) :
    Calls Tryz.prog 27 #[.int .i64 a0, .int .i64 a1] w fun e w' => e = .returned (.bool r) ∧ Drawn0 w w' := by
  have H := h; clear h; unfold impl_hasKids.f at H; by_cases c3 : a0 = 4
  ·rw [if_pos c3] at H
   have c3b0 : (a0 == 4) = true := beq_iff_eq.mpr c3; have c3b1 : (a0 != 4) = false := bne_eq_false_iff_eq.mpr c3; clear c3; obtain rfl := Option.some.inj H; go_enter Tryz.func27, Tryz.ntmps27; go_wp2; go_ret; exact ⟨c16_3, c16_2⟩
  ·rw [if_neg c3] at H
   have c3b0 : (a0 == 4) = false := beq_eq_false_iff_ne.mpr c3; have c3b1 : (a0 != 4) = true := bne_iff_ne.mpr c3; have HC4 := ak H; clear H; go_enter Tryz.func27, Tryz.ntmps27; go_upto_if 10 with (fail); go_cut [10] (fun v10 wc => ∃ (kq : Nat) (x10_3 : Bool), v10 = .bool x10_3 ∧ Aside0 (impl_hasKids.j0 kq a1 a0 x10_3 = some r) ∧ Aside0 (kq ≤ k) ∧ Drawn0 w wc)
   case first =>
    have H := HC4.out; clear HC4; by_cases c5 : a0 = 5
    ·rw [if_pos c5] at H
     have c5b0 : (a0 == 5) = true := beq_iff_eq.mpr c5; have c5b1 : (a0 != 5) = false := bne_eq_false_iff_eq.mpr c5; clear c5
     (first | rw [c5b0] | (simp only [i64_w, i32_w]; rw [c5b0]) | skip)
     have H' := ak H; clear H; go_wp2; go_meet
     case rel => exact ⟨_, ((a0 == 5)), d16_3, H', ⟨by first | omega | exact Nat.le_refl _⟩, c16_2⟩
    ·rw [if_neg c5] at H
     have c5b0 : (a0 == 5) = false := beq_eq_false_iff_ne.mpr c5; have c5b1 : (a0 != 5) = true := bne_iff_ne.mpr c5
     (first | rw [c5b0] | (simp only [i64_w, i32_w]; rw [c5b0]) | skip)
     by_cases c6 : a0 = 7
     ·rw [if_pos c6] at H
      have c6b0 : (a0 == 7) = true := beq_iff_eq.mpr c6; have c6b1 : (a0 != 7) = false := bne_eq_false_iff_eq.mpr c6; clear c6; have H' := ak H; clear H; go_wp2; go_meet
      case rel => exact ⟨_, ((a0 == 7)), d16_3, H', ⟨by first | omega | exact Nat.le_refl _⟩, c16_2⟩
     ·rw [if_neg c6] at H
      have c6b0 : (a0 == 7) = false := beq_eq_false_iff_ne.mpr c6; have c6b1 : (a0 != 7) = true := bne_iff_ne.mpr c6; have H' := ak H; clear H; go_wp2; go_meet
      case rel => exact ⟨_, ((a0 == 8)), d16_3, H', ⟨by first | omega | exact Nat.le_refl _⟩, c16_2⟩
   case rest =>
    clear HC4
    (try clear c2); (try clear p2); (try clear c3); (try clear c3b0); (try clear c3b1)
    obtain ⟨kq, x10_3, rfl, HA, HJ3, ⟨mc3, rfl⟩⟩ := hcut
    cases kq with
    | zero => exact absurd HA.out (by simp [impl_hasKids.j0])
    | succ kj3 =>
     have H := HA.out; clear HA; simp only [impl_hasKids.j0] at H; by_cases c7 : x10_3 = true
     ·subst c7
      rw [if_pos rfl] at H; obtain rfl := Option.some.inj H; go_wp2; go_ret; exact ⟨c16_3, c16_2⟩
     ·replace c7 := Bool.eq_false_iff.mpr c7
      subst c7
      rw [if_neg (show ¬ (false = true) by decide)] at H; by_cases c8 : a0 = 6
      ·rw [if_pos c8] at H
       have c8b0 : (a0 == 6) = true := beq_iff_eq.mpr c8; have c8b1 : (a0 != 6) = false := bne_eq_false_iff_eq.mpr c8; clear c8; obtain rfl := Option.some.inj H; go_wp2; go_ret; exact ⟨c16_3, c16_2⟩
      ·rw [if_neg c8] at H
       have c8b0 : (a0 == 6) = false := beq_eq_false_iff_ne.mpr c8; have c8b1 : (a0 != 6) = true := bne_iff_ne.mpr c8; by_cases c9 : a0 = 9
       ·rw [if_pos c9] at H
        have c9b0 : (a0 == 9) = true := beq_iff_eq.mpr c9; have c9b1 : (a0 != 9) = false := bne_eq_false_iff_eq.mpr c9; clear c9; replace H := Option.bind_eq_some_iff.mp H; obtain ⟨t347, A100, H⟩ := H; (try dsimp -simprocs only at H); have A10 := ak A100; clear A100; obtain rfl := Option.some.inj H; go_wp2_with (first | ((with_reducible refine gate_callee (f := 25) rfl ?_); refine goesL_ (some 23) rfl rfl Tryz.func25 (by kernel_rfl) rfl #[.int .i64 a1, .int .i64 1, .int .i64 4] rfl d16_2 ?_; (with_reducible refine (impl_in.calls a1 1 4 t347 _ A10.out).mono ?_); rintro e w' ⟨rfl, ⟨nd, rfl⟩⟩; refine ⟨_, rfl, ?_⟩)); go_ret; exact ⟨c16_3, c16_2⟩
       ·rw [if_neg c9] at H
        have c9b0 : (a0 == 9) = false := beq_eq_false_iff_ne.mpr c9; have c9b1 : (a0 != 9) = true := bne_iff_ne.mpr c9; obtain rfl := Option.some.inj H; go_wp2; go_ret; exact ⟨c16_3, c16_2⟩

/-! ### impl_CoreFault: function 14 -/
mutual
def impl_CoreFault.l0 : Nat → List (S40) → Int → Int → Option (Int)
  | 0, _, _, _ => none
  | k + 1, x0, x12, x13 => if x13 < x12 then ((impl_oneCoreFault.f k x0 x13).bind fun t349 => (if t349 = 0 then (impl_CoreFault.l0 k x0 x12 (wrap64 (x13 + 1))) else (some t349))) else ((impl_kids.f k x0).bind fun t350 => (impl_CoreFault.l1 k x0 t350 (t350.length : Int) 0))
def impl_CoreFault.l1 : Nat → List (S40) → List (List Int) → Int → Int → Option (Int)
  | 0, _, _, _, _ => none
  | k + 1, x0, x24, x25, x26 => if x26 < x25 then (if 0 ≤ x26 then (if x26 < (x24.length : Int) then (if x26 < (x0.length : Int) then ((impl_hasKids.f k ((rd_T40 x0 x26).f0) ((rd_L9 x24 x26).length : Int)).bind fun t355 => (if t355 = true then (impl_CoreFault.l1 k x0 x24 x25 (wrap64 (x26 + 1))) else (some 1))) else (none)) else (none)) else (none)) else (some 0)
end
def impl_CoreFault.f (k : Nat) (l0 : List (S40)) : Option (Int) := (impl_in.f (l0.length : Int) 1 160).bind fun t348 => (if t348 = true then (impl_CoreFault.l0 k l0 (l0.length : Int) 0) else (some 2))
theorem impl_CoreFault.mono_l : ∀ k, (∀ y0 y1 y2, LeO (impl_CoreFault.l0 k y0 y1 y2) (impl_CoreFault.l0 (k + 1) y0 y1 y2)) ∧ (∀ y0 y1 y2 y3, LeO (impl_CoreFault.l1 k y0 y1 y2 y3) (impl_CoreFault.l1 (k + 1) y0 y1 y2 y3))
  | 0 => ⟨fun _ _ _ r h => by simp [impl_CoreFault.l0] at h, fun _ _ _ _ r h => by simp [impl_CoreFault.l1] at h⟩
  | k + 1 => by
    obtain ⟨ih0, ih1⟩ := impl_CoreFault.mono_l k; refine ⟨?_, ?_⟩
    · intro y0 y1 y2
      unfold impl_CoreFault.l0
      repeat' first | (with_reducible first | apply ih0 | apply ih1 | apply impl_hasKids.mono | apply impl_kids.mono | apply impl_oneCoreFault.mono | exact LeO.refl _ | exact LeO.none _ | refine LeO.ite ?_ ?_ | refine LeO.bind ?_ (fun _ => ?_)) | apply ih0 | apply ih1 | apply impl_hasKids.mono | apply impl_kids.mono | apply impl_oneCoreFault.mono | exact LeO.none _ | refine LeO.ite ?_ ?_ | refine LeO.bind ?_ (fun _ => ?_)
    · intro y0 y1 y2 y3
      unfold impl_CoreFault.l1
      repeat' first | (with_reducible first | apply ih0 | apply ih1 | apply impl_hasKids.mono | apply impl_kids.mono | apply impl_oneCoreFault.mono | exact LeO.refl _ | exact LeO.none _ | refine LeO.ite ?_ ?_ | refine LeO.bind ?_ (fun _ => ?_)) | apply ih0 | apply ih1 | apply impl_hasKids.mono | apply impl_kids.mono | apply impl_oneCoreFault.mono | exact LeO.none _ | refine LeO.ite ?_ ?_ | refine LeO.bind ?_ (fun _ => ?_)
theorem impl_CoreFault.mono : ∀ a0 k, LeO (impl_CoreFault.f k a0) (impl_CoreFault.f (k + 1) a0) := by
  intro a0 k; obtain ⟨ih0, ih1⟩ := impl_CoreFault.mono_l k; unfold impl_CoreFault.f
  repeat' first | (with_reducible first | apply ih0 | apply ih1 | apply impl_hasKids.mono | apply impl_kids.mono | apply impl_oneCoreFault.mono | exact LeO.refl _ | exact LeO.none _ | refine LeO.ite ?_ ?_ | refine LeO.bind ?_ (fun _ => ?_)) | apply ih0 | apply ih1 | apply impl_hasKids.mono | apply impl_kids.mono | apply impl_oneCoreFault.mono | exact LeO.none _ | refine LeO.ite ?_ ?_ | refine LeO.bind ?_ (fun _ => ?_)
theorem impl_CoreFault.calls (k : Nat) (A0 : Option Addr) (c0 : Nat) (l0 : List (S40)) (r : Int) (w : World) (hr0 : Kd.C k40 w A0 l0.length l0) (hc0 : l0.length ≤ c0) (h : impl_CoreFault.f k l0 = some r) :
    Calls Tryz.prog 14 #[.slice A0 l0.length c0] w fun e w' => e = .returned (.int .i64 r) ∧ Below w.heap.size w w' := by
  have HR0 := ak hr0; have HC0 := ak hc0; clear hr0 hc0; have HB := ak (Below.refl w.heap.size w); have H := h; clear h; unfold impl_CoreFault.f at H; replace H := Option.bind_eq_some_iff.mp H; obtain ⟨t348, A20, H⟩ := H; (try dsimp -simprocs only at H); have A2 := ak A20; clear A20; by_cases c3 : t348 = true
  ·subst c3
   rw [if_pos rfl] at H; have H' := ak H; clear H; go_enter Tryz.func14, Tryz.ntmps14; go_wp2_with (first | ((with_reducible refine gate_callee (f := 25) rfl ?_); refine goesL_ (some 9) rfl rfl Tryz.func25 (by kernel_rfl) rfl #[.int .i64 (l0.length : Int), .int .i64 1, .int .i64 160] rfl d16_2 ?_; (with_reducible refine (impl_in.calls (l0.length : Int) 1 160 true _ A2.out).mono ?_); rintro e w' ⟨rfl, ⟨nd, rfl⟩⟩; refine ⟨_, rfl, ?_⟩)); go_loopg [13] k (fun kq v13 w' => ∃ (x13_1 : Int), v13 = .int .i64 x13_1 ∧ Aside0 (impl_CoreFault.l0 kq l0 (l0.length : Int) x13_1 = some r) ∧ Aside0 (kq ≤ k) ∧ Aside0 (Below w.heap.size w w'))
   case atStart => exact ⟨(0), d16_3, H', ⟨Nat.le_refl _⟩, ⟨c16_1⟩⟩
   case round =>
    clear H'
    (try clear c1); (try clear c2); (try clear p2); (try clear c3)
    obtain ⟨x13_1, rfl, HA, HK1, HB⟩ := hrel
    cases gk with
    | zero => exact absurd HA.out (by simp [impl_CoreFault.l0])
    | succ k1 =>
     have H := HA.out; clear HA; simp only [impl_CoreFault.l0] at H; by_cases c4 : x13_1 < (l0.length : Int)
     ·rw [if_pos c4] at H
      have c4b0 : decide (x13_1 < (l0.length : Int)) = true := decide_eq_true c4; clear c4; replace H := Option.bind_eq_some_iff.mp H; obtain ⟨t349, A50, H⟩ := H; (try dsimp -simprocs only at H); have A5 := ak A50; clear A50; by_cases c6 : t349 = 0
      ·rw [if_pos c6] at H
       have c6b0 : (t349 == 0) = true := beq_iff_eq.mpr c6; have c6b1 : (t349 != 0) = false := bne_eq_false_iff_eq.mpr c6; clear c6; have H' := ak H; clear H; go_wp2_with (first | ((with_reducible refine gate_callee (f := 26) rfl ?_); refine goesL_ (some 18) rfl rfl Tryz.func26 (by kernel_rfl) rfl #[.slice A0 l0.length c0, .int .i64 x13_1] rfl d16_2 ?_; (with_reducible refine (impl_oneCoreFault.calls k1 _ _ l0 x13_1 t349 _ ?side1 ?side2 A5.out).mono ?_); (case side1 => exact c16_5); (case side2 => exact HC0.out); rintro e w7 ⟨rfl, hb⟩; refine ⟨_, rfl, ?_⟩; have n0_ := ak (below_step d16_1 hb); clear HB; have HB := n0_; clear n0_; (try clear hb))); go_roundg k1
       case measure => have := HK1.out; omega
       case rel => exact ⟨(wrap64 (x13_1 + 1)), d16_3, H', ⟨by have := HK1.out; omega⟩, ⟨c16_1⟩⟩
      ·rw [if_neg c6] at H
       have c6b0 : (t349 == 0) = false := beq_eq_false_iff_ne.mpr c6; have c6b1 : (t349 != 0) = true := bne_iff_ne.mpr c6; obtain rfl := Option.some.inj H; go_wp2_with (first | ((with_reducible refine gate_callee (f := 26) rfl ?_); refine goesL_ (some 18) rfl rfl Tryz.func26 (by kernel_rfl) rfl #[.slice A0 l0.length c0, .int .i64 x13_1] rfl d16_2 ?_; (with_reducible refine (impl_oneCoreFault.calls k1 _ _ l0 x13_1 t349 _ ?side1 ?side2 A5.out).mono ?_); (case side1 => exact c16_5); (case side2 => exact HC0.out); rintro e w8 ⟨rfl, hb⟩; refine ⟨_, rfl, ?_⟩; have n0_ := ak (below_step d16_1 hb); clear HB; have HB := n0_; clear n0_; (try clear hb))); go_ret; exact ⟨c16_4, c16_1⟩
     ·rw [if_neg c4] at H
      have c4b0 : decide (x13_1 < (l0.length : Int)) = false := decide_eq_false c4; clear c4; replace H := Option.bind_eq_some_iff.mp H; obtain ⟨t350, A90, H⟩ := H; (try dsimp -simprocs only at H); have A9 := ak A90; clear A90; have H' := ak H; clear H; go_wp2_with (first | ((with_reducible refine gate_callee (f := 16) rfl ?_); refine goesL_ (some 24) rfl rfl Tryz.func16 (by kernel_rfl) rfl #[.slice A0 l0.length c0] rfl d16_2 ?_; (with_reducible refine (impl_kids.calls k1 _ _ l0 t350 _ ?side1 ?side2 A9.out).mono ?_); (case side1 => exact c16_5); (case side2 => exact HC0.out); rintro e w10 ⟨v351, rfl, ho0, hb⟩; refine ⟨_, rfl, ?_⟩; have n0_ := ak (Kd.S_lower ho0 (below_size d16_1)); have n1_ := ak (below_step d16_1 hb); clear HB; have HO352 := n0_; have HB := n1_; clear n0_ n1_; (try clear hb); (try clear ho0); obtain ⟨Ao11, co11, eo11⟩ := Kd.S_slice HO352.out; subst eo11)); go_loopg [26] k1 (fun kq v26 w' => ∃ (x26_2 : Int), v26 = .int .i64 x26_2 ∧ Aside0 (impl_CoreFault.l1 kq l0 t350 (t350.length : Int) x26_2 = some r) ∧ Aside0 (kq ≤ k1) ∧ Aside0 (Kd.S (Kd.slice 2 (Kd.int .i64)) 49 w' w.heap.size (fun _ => True) (.slice Ao11 t350.length co11) t350) ∧ Aside0 (Below w.heap.size w w'))
      case atStart => exact ⟨(0), d16_3, H', ⟨Nat.le_refl _⟩, ⟨by (with_reducible repeat (first | apply Kd.S_alloc | apply Kd.S_drewN | apply Kd.S_drew)); exact HO352.out⟩, ⟨c16_1⟩⟩
      case round =>
       clear H'
       (try clear c1); (try clear c2); (try clear p2); (try clear c3); (try clear c4); (try clear c4b0); (try clear c6); (try clear c6b0); (try clear c6b1); (try clear p6); (try clear p2)
       obtain ⟨x26_2, rfl, HA, HK2, HO_24, HB⟩ := hrel
       cases gk with
       | zero => exact absurd HA.out (by simp [impl_CoreFault.l1])
       | succ k2 =>
        have H := HA.out; clear HA; simp only [impl_CoreFault.l1] at H; by_cases c12 : x26_2 < (t350.length : Int)
        ·rw [if_pos c12] at H
         have c12b0 : decide (x26_2 < (t350.length : Int)) = true := decide_eq_true c12; clear c12; by_cases c13 : 0 ≤ x26_2
         ·rw [if_pos c13] at H
          have c13b0 : decide (0 ≤ x26_2) = true := decide_eq_true c13; clear c13; by_cases c14 : x26_2 < (t350.length : Int)
          ·rw [if_pos c14] at H
           have c14b0 : decide (x26_2 < (t350.length : Int)) = true := decide_eq_true c14; clear c14; by_cases c15 : x26_2 < (l0.length : Int)
           ·rw [if_pos c15] at H
            have c15b0 : decide (x26_2 < (l0.length : Int)) = true := decide_eq_true c15; clear c15; replace H := Option.bind_eq_some_iff.mp H; obtain ⟨t355, A160, H⟩ := H; (try dsimp -simprocs only at H); have A16 := ak A160; clear A160; by_cases c17 : t355 = true
            ·subst c17
             rw [if_pos rfl] at H; have H' := ak H; clear H; have p353 : 0 ≤ (x26_2 : Int) := of_decide_eq_true d16_4; have q353 : x26_2 < (t350.length : Int) := of_decide_eq_true d16_4; obtain ⟨ad353, A353_0, c353_0, e353, hx353_0, hl353_0, hi353_0⟩ := at_L9 (Kd.S_reads' HO_24.out).2.2 x26_2 p353 q353
             cases e353
             obtain ⟨ce353, hce353, hMe353, hcc353⟩ := Kd.S_get HO_24.out [] x26_2 p353 (by first | exact q353 | exact of_decide_eq_true d16_4 | (have e_ := (Kd.S_reads' HO_24.out).1; omega)); obtain ⟨ve353_0, rfl, ge353_0⟩ := hMe353; have hv353_0 := hcc353 0 _ rfl; rw [Nat.add_zero, show ((Kd.slice 2 (Kd.int .i64))).sz = 1 from rfl, Nat.mul_one] at hv353_0; replace hv353_0 := Option.some.inj (hv353_0.symm.trans hx353_0); rw [hv353_0] at ge353_0; have HL353_0 := ak (show Kd.R (Kd.int .i64) 2 _ _ _ _ (rd_L9 t350 x26_2) from ge353_0); clear hv353_0 ge353_0; clear hcc353 hce353; have HR353_0 := ak hi353_0; have HC353_0 := ak hl353_0; clear hi353_0 hl353_0; replace p353 := eq_true p353; replace q353 := eq_true q353; have p354 : 0 ≤ (x26_2 : Int) := of_decide_eq_true d16_4; have q354 : x26_2 < (l0.length : Int) := of_decide_eq_true d16_4; obtain ⟨ad354, A354_5, c354_5, e354, hx354_0, hx354_1, hx354_2, hx354_3, hx354_4, hx354_5, hl354_5, hi354_5⟩ := at_T40 HR0.out x26_2 p354 q354
             cases e354
             replace hx354_0 := (HB.out.cell (World.block_lt_of_cell? w _ hx354_0)).trans hx354_0; replace hx354_1 := (HB.out.cell (World.block_lt_of_cell? w _ hx354_1)).trans hx354_1; replace hx354_2 := (HB.out.cell (World.block_lt_of_cell? w _ hx354_2)).trans hx354_2; replace hx354_3 := (HB.out.cell (World.block_lt_of_cell? w _ hx354_3)).trans hx354_3; replace hx354_4 := (HB.out.cell (World.block_lt_of_cell? w _ hx354_4)).trans hx354_4; replace hx354_5 := (HB.out.cell (World.block_lt_of_cell? w _ hx354_5)).trans hx354_5; have HR354_5 := ak hi354_5; have HC354_5 := ak hl354_5; clear hi354_5 hl354_5; replace p354 := eq_true p354; replace q354 := eq_true q354; go_wp2_with (first | ((with_reducible refine gate_callee (f := 27) rfl ?_); refine goesL_ (some 38) rfl rfl Tryz.func27 (by kernel_rfl) rfl #[.int .i64 ((rd_T40 l0 x26_2).f0), .int .i64 ((rd_L9 t350 x26_2).length : Int)] rfl d16_2 ?_; (with_reducible refine (impl_hasKids.calls k2 ((rd_T40 l0 x26_2).f0) ((rd_L9 t350 x26_2).length : Int) true _ A16.out).mono ?_); rintro e w' ⟨rfl, ⟨nd, rfl⟩⟩; refine ⟨_, rfl, ?_⟩)); go_roundg k2
             case measure => have := HK1.out; have := HK2.out; omega
             case rel => exact ⟨(wrap64 (x26_2 + 1)), d16_3, H', ⟨by have := HK1.out; have := HK2.out; omega⟩, ⟨by (with_reducible repeat (first | apply Kd.S_alloc | apply Kd.S_drewN | apply Kd.S_drew)); exact HO_24.out⟩, ⟨c16_1⟩⟩
            ·replace c17 := Bool.eq_false_iff.mpr c17
             subst c17
             rw [if_neg (show ¬ (false = true) by decide)] at H; obtain rfl := Option.some.inj H; have p353 : 0 ≤ (x26_2 : Int) := of_decide_eq_true d16_4; have q353 : x26_2 < (t350.length : Int) := of_decide_eq_true d16_4; obtain ⟨ad353, A353_0, c353_0, e353, hx353_0, hl353_0, hi353_0⟩ := at_L9 (Kd.S_reads' HO_24.out).2.2 x26_2 p353 q353
             cases e353
             obtain ⟨ce353, hce353, hMe353, hcc353⟩ := Kd.S_get HO_24.out [] x26_2 p353 (by first | exact q353 | exact of_decide_eq_true d16_4 | (have e_ := (Kd.S_reads' HO_24.out).1; omega)); obtain ⟨ve353_0, rfl, ge353_0⟩ := hMe353; have hv353_0 := hcc353 0 _ rfl; rw [Nat.add_zero, show ((Kd.slice 2 (Kd.int .i64))).sz = 1 from rfl, Nat.mul_one] at hv353_0; replace hv353_0 := Option.some.inj (hv353_0.symm.trans hx353_0); rw [hv353_0] at ge353_0; have HL353_0 := ak (show Kd.R (Kd.int .i64) 2 _ _ _ _ (rd_L9 t350 x26_2) from ge353_0); clear hv353_0 ge353_0; clear hcc353 hce353; have HR353_0 := ak hi353_0; have HC353_0 := ak hl353_0; clear hi353_0 hl353_0; replace p353 := eq_true p353; replace q353 := eq_true q353; have p354 : 0 ≤ (x26_2 : Int) := of_decide_eq_true d16_4; have q354 : x26_2 < (l0.length : Int) := of_decide_eq_true d16_4; obtain ⟨ad354, A354_5, c354_5, e354, hx354_0, hx354_1, hx354_2, hx354_3, hx354_4, hx354_5, hl354_5, hi354_5⟩ := at_T40 HR0.out x26_2 p354 q354
             cases e354
             replace hx354_0 := (HB.out.cell (World.block_lt_of_cell? w _ hx354_0)).trans hx354_0; replace hx354_1 := (HB.out.cell (World.block_lt_of_cell? w _ hx354_1)).trans hx354_1; replace hx354_2 := (HB.out.cell (World.block_lt_of_cell? w _ hx354_2)).trans hx354_2; replace hx354_3 := (HB.out.cell (World.block_lt_of_cell? w _ hx354_3)).trans hx354_3; replace hx354_4 := (HB.out.cell (World.block_lt_of_cell? w _ hx354_4)).trans hx354_4; replace hx354_5 := (HB.out.cell (World.block_lt_of_cell? w _ hx354_5)).trans hx354_5; have HR354_5 := ak hi354_5; have HC354_5 := ak hl354_5; clear hi354_5 hl354_5; replace p354 := eq_true p354; replace q354 := eq_true q354; go_wp2_with (first | ((with_reducible refine gate_callee (f := 27) rfl ?_); refine goesL_ (some 38) rfl rfl Tryz.func27 (by kernel_rfl) rfl #[.int .i64 ((rd_T40 l0 x26_2).f0), .int .i64 ((rd_L9 t350 x26_2).length : Int)] rfl d16_2 ?_; (with_reducible refine (impl_hasKids.calls k2 ((rd_T40 l0 x26_2).f0) ((rd_L9 t350 x26_2).length : Int) false _ A16.out).mono ?_); rintro e w' ⟨rfl, ⟨nd, rfl⟩⟩; refine ⟨_, rfl, ?_⟩)); go_ret; exact ⟨c16_4, c16_1⟩
           ·rw [if_neg c15] at H
            exact absurd H (by simp)
          ·rw [if_neg c14] at H
           exact absurd H (by simp)
         ·rw [if_neg c13] at H
          exact absurd H (by simp)
        ·rw [if_neg c12] at H
         have c12b0 : decide (x26_2 < (t350.length : Int)) = false := decide_eq_false c12; clear c12; obtain rfl := Option.some.inj H; go_wp2; go_ret; exact ⟨c16_4, c16_1⟩
  ·replace c3 := Bool.eq_false_iff.mpr c3
   subst c3
   rw [if_neg (show ¬ (false = true) by decide)] at H; obtain rfl := Option.some.inj H; go_enter Tryz.func14, Tryz.ntmps14; go_wp2_with (first | ((with_reducible refine gate_callee (f := 25) rfl ?_); refine goesL_ (some 9) rfl rfl Tryz.func25 (by kernel_rfl) rfl #[.int .i64 (l0.length : Int), .int .i64 1, .int .i64 160] rfl d16_2 ?_; (with_reducible refine (impl_in.calls (l0.length : Int) 1 160 false _ A2.out).mono ?_); rintro e w' ⟨rfl, ⟨nd, rfl⟩⟩; refine ⟨_, rfl, ?_⟩)); go_ret; exact ⟨c16_4, c16_1⟩

/-! ### strconv_FormatInt: function 51 (by hand) -/
def strconv_FormatInt.f (a0 : Int) (a1 : Int) : Option (ByteArray) := if -9223372036854775808 ≤ a0 ∧ a0 ≤ 9223372036854775807 ∧ a1 = 10 then some ⟨(Lib.itoa a0).toArray⟩ else none
theorem strconv_FormatInt.calls (a0 : Int) (a1 : Int) (r : ByteArray) (w : World) (hLz : Lz w) (h : strconv_FormatInt.f a0 a1 = some r) :
    Calls Tryz.prog 51 #[.int .i64 a0, .int .i64 a1] w fun e w' => e = .returned (.string r) ∧ Below w.heap.size w w' := by
  unfold strconv_FormatInt.f at h; by_cases c : -9223372036854775808 ≤ a0 ∧ a0 ≤ 9223372036854775807 ∧ a1 = 10
  · rw [if_pos c] at h
    obtain rfl := Option.some.inj h; obtain ⟨c0, c1, rfl⟩ := c; have hcon := Go.Proofs.Any.strconv_FormatInt_10 Tryz.lays173 a0 c0 c1 w hLz.tab; refine Calls.mono hcon (fun e w' hw => ?_); obtain ⟨he, k, os, rfl⟩ := hw; exact ⟨he, Go.Proofs.YtgnenhehcdekkadGreatDoor.below_grow w k os⟩
  · rw [if_neg c] at h
    exact absurd h (by simp)


/-! ### impl_dec: function 29 -/
def impl_dec.f (a0 : Int) : Option (ByteArray) := (strconv_FormatInt.f a0 10).bind fun t356 => (some t356)
theorem impl_dec.calls (a0 : Int) (r : ByteArray) (w : World) (hLz : Lz w) (h : impl_dec.f a0 = some r) :
    Calls Tryz.prog 29 #[.int .i64 a0] w fun e w' => e = .returned (.string r) ∧ Below w.heap.size w w' := by
  have HB := ak (Below.refl w.heap.size w); have HLZ := ak hLz; clear hLz; have H := h; clear h; unfold impl_dec.f at H; replace H := Option.bind_eq_some_iff.mp H; obtain ⟨t356, A20, H⟩ := H; (try dsimp -simprocs only at H); have A2 := ak A20; clear A20; obtain rfl := Option.some.inj H; go_enter Tryz.func29, Tryz.ntmps29; go_wp2_with (first | ((with_reducible refine gate_callee (f := 51) rfl ?_); refine goesL_ (some 4) rfl rfl Tryz.func51 (by kernel_rfl) rfl #[.int .i64 a0, .int .i64 10] rfl d16_2 ?_; (with_reducible refine (strconv_FormatInt.calls a0 10 t356 _ ?side1 A2.out).mono ?_); (case side1 => exact Lz.below HLZ.out d16_1); rintro e w3 ⟨rfl, hb⟩; refine ⟨_, rfl, ?_⟩; have n0_ := ak (below_step d16_1 hb); clear HB; have HB := n0_; clear n0_; (try clear hb))); go_ret; exact ⟨c16_4, c16_1⟩

/-! ### strings_Join: function 30 (by hand) -/
set_option maxRecDepth 1000000 in
theorem joinX : Go.Proofs.Builder.Extra Tryz.prog Tryz.lays156_ren where
  sizeBuilder := by kernel_rfl
  liesBuilder := by kernel_rfl
  t5 := Tryz.underlying5; a5 := Tryz.isAgg5; z5 := Tryz.sizeOf5; v5 := Tryz.zeroValue5
  infoByte := by kernel_rfl
  cellsByte := by kernel_rfl
  sizeByte := by kernel_rfl
  neB5 := by decide
theorem joinSpot {w : World} {b o : Nat} {sp : Option Nat} {v : Value} (h : w.cell? ⟨b, o, sp⟩ = some v) : sp = none := by
  cases sp with
  | none => rfl
  | some x =>
    unfold World.cell? at h; split at h <;> simp at h
def strings_Join.f (l0 : List ByteArray) (a1 : ByteArray) : Option (ByteArray) := if l0.length ≤ 140737488355328 ∧ (Lib.join (l0.map (·.data.toList)) a1.data.toList).length ≤ 140737488355328 then some ⟨(Lib.join (l0.map (·.data.toList)) a1.data.toList).toArray⟩ else none
theorem strings_Join.calls (A0 : Option Addr) (c0 : Nat) (l0 : List ByteArray) (a1 : ByteArray) (r : ByteArray) (w : World) (hr0 : Kd.C Kd.string w A0 l0.length l0) (hc0 : l0.length ≤ c0) (h : strings_Join.f l0 a1 = some r) :
    Calls Tryz.prog 30 #[.slice A0 l0.length c0, .string a1] w fun e w' => e = .returned (.string r) ∧ Below w.heap.size w w' := by
  unfold strings_Join.f at h; by_cases c : l0.length ≤ 140737488355328 ∧ (Lib.join (l0.map (·.data.toList)) a1.data.toList).length ≤ 140737488355328
  · rw [if_pos c] at h
    obtain rfl := Option.some.inj h; by_cases hz : 0 < l0.length
    · obtain ⟨ad, rfl, hcl⟩ := hr0.2.2 hz
      have hat : ∀ (j : Nat) x, l0[j]? = some x → w.cell? (ad.add (j * 1 + 0)) = some (.string x) := by
        intro j x hx; obtain ⟨cs, _, hk, hcs⟩ := hcl j x hx; have hk' : cs = [.string x] := hk; subst hk'; exact hcs 0 _ rfl
      obtain ⟨b, o, sp⟩ := ad; have h00 := hat 0 l0[0] (List.getElem?_eq_getElem hz); rw [show 0 * 1 + 0 = 0 from rfl, Addr.add_zero'] at h00; have hsp := joinSpot h00; subst hsp
      have hcell : ∀ (j : Nat) x, l0[j]? = some x → w.cell? ⟨b, o + j, none⟩ = some (.string x) := by
        intro j x hx; have h1 := hat j x hx; rw [Addr.add_lit, Nat.mul_one, Nat.add_zero] at h1; exact h1
      have hcon := Go.Proofs.Any.strings_Join Tryz.lays156 joinX b o c0 l0 a1 w hcell (World.block_lt_of_cell? w _ h00) c.1 hc0 c.2; exact hcon
    · have hn : l0 = [] := List.length_eq_zero_iff.mp (by omega)
      subst hn; have hcon := Go.Proofs.Any.strings_Join_none Tryz.lays156 joinX A0 c0 a1 w; refine Calls.mono hcon (fun e w' hw => ?_); obtain ⟨he, rfl⟩ := hw; exact ⟨he, Below.refl _ _⟩
  · rw [if_neg c] at h
    exact absurd h (by simp)


/-! ### impl_boolText: function 49 -/
def impl_boolText.f (a0 : Int) : Option (ByteArray) := if a0 = 1 then (some (⟨#[35, 116]⟩ : ByteArray)) else (some (⟨#[35, 102]⟩ : ByteArray))
theorem impl_boolText.calls (a0 : Int) (r : ByteArray) (w : World) (h : impl_boolText.f a0 = some r) :
    Calls Tryz.prog 49 #[.int .i64 a0] w fun e w' => e = .returned (.string r) ∧ Drawn0 w w' := by
  have H := h; clear h; unfold impl_boolText.f at H; by_cases c2 : a0 = 1
  ·rw [if_pos c2] at H
   have c2b0 : (a0 == 1) = true := beq_iff_eq.mpr c2; have c2b1 : (a0 != 1) = false := bne_eq_false_iff_eq.mpr c2; clear c2; obtain rfl := Option.some.inj H; go_enter Tryz.func49, Tryz.ntmps49; go_wp2; go_ret; exact ⟨c16_3, c16_2⟩
  ·rw [if_neg c2] at H
   have c2b0 : (a0 == 1) = false := beq_eq_false_iff_ne.mpr c2; have c2b1 : (a0 != 1) = true := bne_iff_ne.mpr c2; obtain rfl := Option.some.inj H; go_enter Tryz.func49, Tryz.ntmps49; go_wp2; go_ret; exact ⟨c16_3, c16_2⟩

/-! ### impl_parts: function 50 -/
def impl_parts.l0 : Nat → Int → List Int → List (S69) → Int → Int → Option (List Int)
  | 0, _, _, _, _, _ => none
  | k + 1, x1, x5, x9, x10, x11 => if x11 < x10 then (if 0 ≤ x11 then (if x11 < (x9.length : Int) then (if ((rd_T69 x9 x11).f1) = x1 then (if x5.length < 17592186044416 then (impl_parts.l0 k x1 (x5 ++ [x11]) x9 x10 (wrap64 (x11 + 1))) else (none)) else (impl_parts.l0 k x1 x5 x9 x10 (wrap64 (x11 + 1)))) else (none)) else (none)) else (some x5)
def impl_parts.f (k : Nat) (l0 : List (S69)) (a1 : Int) : Option (List Int) := impl_parts.l0 k a1 (([] : List Int)) l0 (l0.length : Int) 0
theorem impl_parts.mono_l : ∀ k, (∀ y0 y1 y2 y3 y4, LeO (impl_parts.l0 k y0 y1 y2 y3 y4) (impl_parts.l0 (k + 1) y0 y1 y2 y3 y4))
  | 0 => fun _ _ _ _ _ r h => by simp [impl_parts.l0] at h
  | k + 1 => by
    have ih0 := impl_parts.mono_l k
    · intro y0 y1 y2 y3 y4
      unfold impl_parts.l0
      repeat' first | (with_reducible first | apply ih0 | exact LeO.refl _ | exact LeO.none _ | refine LeO.ite ?_ ?_ | refine LeO.bind ?_ (fun _ => ?_)) | apply ih0 | exact LeO.none _ | refine LeO.ite ?_ ?_ | refine LeO.bind ?_ (fun _ => ?_)
theorem impl_parts.mono : ∀ a0 a1 k, LeO (impl_parts.f k a0 a1) (impl_parts.f (k + 1) a0 a1) := by
  intro a0 a1 k; have ih0 := impl_parts.mono_l k; unfold impl_parts.f
  repeat' first | (with_reducible first | apply ih0 | exact LeO.refl _ | exact LeO.none _ | refine LeO.ite ?_ ?_ | refine LeO.bind ?_ (fun _ => ?_)) | apply ih0 | exact LeO.none _ | refine LeO.ite ?_ ?_ | refine LeO.bind ?_ (fun _ => ?_)
theorem impl_parts.calls (k : Nat) (A0 : Option Addr) (c0 : Nat) (l0 : List (S69)) (a1 : Int) (r : List Int) (w : World) (hr0 : Kd.C k69 w A0 l0.length l0) (hc0 : l0.length ≤ c0) (h : impl_parts.f k l0 a1 = some r) :
    Calls Tryz.prog 50 #[.slice A0 l0.length c0, .int .i64 a1] w fun e w' => ∃ v0_ : Value, e = .returned (v0_) ∧ Kd.R (Kd.int .i64) 2 w' w.heap.size (fun _ => True) v0_ r ∧ Below w.heap.size w w' := by
  have hu69 := Tryz.underlying69; have HR0 := ak hr0; have HC0 := ak hc0; clear hr0 hc0; have HB := ak (Below.refl w.heap.size w); have H := h; clear h; unfold impl_parts.f at H; obtain ⟨y357, hy357⟩ : ∃ y_ : List Int, y_ = (([] : List Int)) := ⟨_, rfl⟩
  replace H : (impl_parts.l0 k a1 y357 l0 (l0.length : Int) 0) = some r := by first | (rw [hy357]; with_reducible exact H) | (have H2_ := (Option.bind_some _ _).symm.trans H; rw [hy357]; with_reducible exact H2_) | (have H2_ := (Option.bind_some _ _).symm.trans H; with_reducible exact H2_) | with_reducible exact H | (rw [hy357]; exact H) | exact H
  have Ny357 := ak hy357; clear hy357; have H' := ak H; clear H; go_enter Tryz.func50, Tryz.ntmps50; go_wp2_with (first | ((with_reducible refine gate_dst (N := 8) rfl ?_); refine Kd.R_lit (Kd.int .i64) _ 2 ?hg (N := 8) ?hd (xs := ([] : List Int)) (inner := []) (ok := fun _ => True) (okp := fun _ => True) ?hr ?hp (fun _ hk => hk) trivial (Below.refl _ _) (Nat.le_refl _) (by simp) ?_; (case hd => rfl); (case hg => rfl); (case hr => first | (go_simp; done) | (go_simp; rfl)); (case hp => exact (Reps.none _ _)); intro v358 w3 ho4 hb hg_ hnew_; clear hg_ hnew_; (first | rw [← Ny357.out] at ho4 | (simp only [Int.reduceToNat] at ho4; rw [← Ny357.out] at ho4)); have n0_ := ak (Kd.R_lower ho4 (below_size d16_1)); have n1_ := ak (below_step d16_1 hb); clear HB; have HO359 := n0_; have HB := n1_; clear n0_ n1_ hb ho4)); go_loopg [5, 11] k (fun kq v5 v11 w' => ∃ (x5_1 : List Int) (x11_1 : Int), v11 = .int .i64 x11_1 ∧ Aside0 (impl_parts.l0 kq a1 x5_1 l0 (l0.length : Int) x11_1 = some r) ∧ Aside0 (kq ≤ k) ∧ Aside0 (Kd.R (Kd.int .i64) 2 w' w.heap.size (fun _ => True) v5 x5_1) ∧ Aside0 (Below w.heap.size w w'))
  case atStart => exact ⟨(y357), (0), d16_3, H', ⟨Nat.le_refl _⟩, ⟨by (with_reducible repeat (first | apply Kd.R_alloc | apply Kd.R_drewN | apply Kd.R_drew)); exact HO359.out⟩, ⟨c16_1⟩⟩
  case round =>
   clear H'
   try clear p2
   obtain ⟨x5_1, x11_1, rfl, HA, HK1, HO_5, HB⟩ := hrel
   cases gk with
   | zero => exact absurd HA.out (by simp [impl_parts.l0])
   | succ k1 =>
    have H := HA.out; clear HA; simp only [impl_parts.l0] at H; by_cases c5 : x11_1 < (l0.length : Int)
    ·rw [if_pos c5] at H
     have c5b0 : decide (x11_1 < (l0.length : Int)) = true := decide_eq_true c5; clear c5; by_cases c6 : 0 ≤ x11_1
     ·rw [if_pos c6] at H
      have c6b0 : decide (0 ≤ x11_1) = true := decide_eq_true c6; clear c6; by_cases c7 : x11_1 < (l0.length : Int)
      ·rw [if_pos c7] at H
       have c7b0 : decide (x11_1 < (l0.length : Int)) = true := decide_eq_true c7; clear c7; by_cases c8 : ((rd_T69 l0 x11_1).f1) = a1
       ·rw [if_pos c8] at H
        have c8b0 : (((rd_T69 l0 x11_1).f1) == a1) = true := beq_iff_eq.mpr c8; have c8b1 : (((rd_T69 l0 x11_1).f1) != a1) = false := bne_eq_false_iff_eq.mpr c8; clear c8; by_cases c9 : x5_1.length < 17592186044416
        ·rw [if_pos c9] at H
         have LMc9 := ak c9; clear c9; obtain ⟨y362, hy362⟩ : ∃ y_ : List Int, y_ = (x5_1 ++ [x11_1]) := ⟨_, rfl⟩
         replace H : (impl_parts.l0 k1 a1 y362 l0 (l0.length : Int) (wrap64 (x11_1 + 1))) = some r := by first | (rw [hy362]; with_reducible exact H) | (have H2_ := (Option.bind_some _ _).symm.trans H; rw [hy362]; with_reducible exact H2_) | (have H2_ := (Option.bind_some _ _).symm.trans H; with_reducible exact H2_) | with_reducible exact H | (rw [hy362]; exact H) | exact H
         have Ny362 := ak hy362; clear hy362; have H' := ak H; clear H; have p360 : 0 ≤ (x11_1 : Int) := of_decide_eq_true d16_4; have q360 : x11_1 < (l0.length : Int) := of_decide_eq_true d16_4; obtain ⟨ad360, e360, hx360_0, hx360_1, hx360_2, hx360_3⟩ := at_T69 HR0.out x11_1 p360 q360
         cases e360
         replace hx360_0 := (HB.out.cell (World.block_lt_of_cell? w _ hx360_0)).trans hx360_0; replace hx360_1 := (HB.out.cell (World.block_lt_of_cell? w _ hx360_1)).trans hx360_1; replace hx360_2 := (HB.out.cell (World.block_lt_of_cell? w _ hx360_2)).trans hx360_2; replace hx360_3 := (HB.out.cell (World.block_lt_of_cell? w _ hx360_3)).trans hx360_3; replace p360 := eq_true p360; replace q360 := eq_true q360
         go_wp2_with (first | ((with_reducible refine gate_dst (N := 7) rfl ?_); refine box_event ?hg (N := 7) ?hd (cs := #[.int .i64 0, .int .i64 0, .int .i64 0, .string (⟨#[]⟩ : ByteArray)]) (t := 69) ?hr ?_; (case hd => rfl); (case hg => rfl); (case hr => first | (go_simp; done) | (go_simp; rfl)); intro gb361 hg w10 hbox hb; have n0_ := ak (Kd.R_below (by (with_reducible repeat (first | apply Kd.R_alloc | apply Kd.R_drewN | apply Kd.R_drew)); exact HO_5.out) hb); have n1_ := ak (below_step d16_1 hb); have n2_ := ak (hbox); have n3_ := ak ((by rw [hg]; exact (below_size d16_1) : w.heap.size ≤ gb361)); have n4_ := ak ((by rw [hg]; exact (below_size d16_1) : w.heap.size ≤ gb361)); clear HO_5 HB; have HO_5 := n0_; have HB := n1_; have BK361 := n2_; have GW361 := n3_; have GE361 := n4_; clear n0_ n1_ n2_ n3_ n4_ hb hbox hg; have hcz11_0 := z16c BK361.out 0 (v := (.int .i64 0)) rfl; have hcz11_1 := z16c BK361.out 1 (v := (.int .i64 0)) rfl; have hcz11_2 := z16c BK361.out 2 (v := (.int .i64 0)) rfl; have hcz11_3 := z16c BK361.out 3 (v := (.string (⟨#[]⟩ : ByteArray))) rfl; have hfz11_0 := blk_frozen BK361.out 0; have hfz11_1 := blk_frozen BK361.out 1; have hfz11_2 := blk_frozen BK361.out 2; have hfz11_3 := blk_frozen BK361.out 3) | ((with_reducible refine gate_builtin (b := .append) (xs := #[.tmp 20, .tmp 22]) rfl ?_); at_builtin; refine Kd.R_append (Kd.int .i64) (w0 := w) w.heap.size rfl (.tmp 20) (.tmp 22) 49 2 (.int .i64 0) 8 rfl Tryz.underlying49 info2 rfl (by decide) (by omega) u5 x5_1 x11_1 [.int .i64 x11_1] (fun _ => True) (fun _ => False) rfl (by first | (go_simp; done) | (go_simp; rfl)) ?aP (fun _ hk => hk.elim) ?aF ?aO ?aB ?aS ?aL ?_; (case aP => exact rfl); (case aB => exact (by repeat (first | (with_reducible first | exact HB.out | apply below_alloc | apply pw_below_drewN | apply below_drew1 | refine below_set ?_ GE361.out) | exact HB.out))); (case aF => exact (fun _ _ => trivial)); (case aO => exact (by (with_reducible repeat (first | apply Kd.R_alloc | apply Kd.R_drewN | apply Kd.R_drew)); exact Kd.R_mono (Kd.R_far (p := ⟨gb361, 3, none⟩) (Kd.R_far (p := ⟨gb361, 2, none⟩) (Kd.R_far (p := ⟨gb361, 1, none⟩) (Kd.R_far (p := ⟨gb361, 0, none⟩) (Kd.R_types HO_5.out BK361.out (by decide)) (fun _ hk => hk.2) (.int .i64 ((rd_T69 l0 x11_1).f0))) (fun _ hk => hk.2) (.int .i64 ((rd_T69 l0 x11_1).f1))) (fun _ hk => hk.2) (.int .i64 ((rd_T69 l0 x11_1).f2))) (fun _ hk => hk.2) (.string ((rd_T69 l0 x11_1).f3))) (fun _ hk => trivial))); (case aS => exact (below_size (by repeat (first | (with_reducible first | exact HB.out | apply below_alloc | apply pw_below_drewN | apply below_drew1 | refine below_set ?_ GE361.out) | exact HB.out)))); (case aL => have := LMc9.out; omega); intro v363 w12 ho hb hg hat; rw [← Ny362.out] at ho; have n0_ := ak (blk_grown (g := gb361) (o := .cells #[.int .i64 ((rd_T69 l0 x11_1).f0), .int .i64 ((rd_T69 l0 x11_1).f1), .int .i64 ((rd_T69 l0 x11_1).f2), .string ((rd_T69 l0 x11_1).f3)] 69 (0, 0)) (by (with_reducible repeat (first | refine blk_drewN ?_ _ | refine blk_drew ?_ | refine blk_alloc ?_ _)); refine blk_put (cs := #[.int .i64 ((rd_T69 l0 x11_1).f0), .int .i64 ((rd_T69 l0 x11_1).f1), .int .i64 ((rd_T69 l0 x11_1).f2), .string (⟨#[]⟩ : ByteArray)]) ?_ 3 _ rfl; (with_reducible repeat (first | refine blk_drewN ?_ _ | refine blk_drew ?_ | refine blk_alloc ?_ _)); refine blk_put (cs := #[.int .i64 ((rd_T69 l0 x11_1).f0), .int .i64 ((rd_T69 l0 x11_1).f1), .int .i64 0, .string (⟨#[]⟩ : ByteArray)]) ?_ 2 _ rfl; (with_reducible repeat (first | refine blk_drewN ?_ _ | refine blk_drew ?_ | refine blk_alloc ?_ _)); refine blk_put (cs := #[.int .i64 ((rd_T69 l0 x11_1).f0), .int .i64 0, .int .i64 0, .string (⟨#[]⟩ : ByteArray)]) ?_ 1 _ rfl; (with_reducible repeat (first | refine blk_drewN ?_ _ | refine blk_drew ?_ | refine blk_alloc ?_ _)); refine blk_put (cs := #[.int .i64 0, .int .i64 0, .int .i64 0, .string (⟨#[]⟩ : ByteArray)]) ?_ 0 _ rfl; (with_reducible repeat (first | refine blk_drewN ?_ _ | refine blk_drew ?_ | refine blk_alloc ?_ _)); exact BK361.out) hg (Kd.R_ne HO_5.out BK361.out (by decide))); have n1_ := ak (hb); have n2_ := ak (ho); clear BK361 HB HO_5; have BK361 := n0_; have HB := n1_; have HO364 := n2_; clear n0_ n1_ n2_ ho hb hg hat))
         go_roundg k1
         case measure => have := HK1.out; omega
         case rel => exact ⟨(y362), (wrap64 (x11_1 + 1)), d16_3, H', ⟨by have := HK1.out; omega⟩, ⟨by (with_reducible repeat (first | apply Kd.R_alloc | apply Kd.R_drewN | apply Kd.R_drew)); exact HO364.out⟩, ⟨by repeat (first | (with_reducible first | exact HB.out | apply below_alloc | apply pw_below_drewN | apply below_drew1 | refine below_set ?_ GE361.out) | exact HB.out)⟩⟩
        ·rw [if_neg c9] at H
         exact absurd H (by simp)
       ·rw [if_neg c8] at H
        have c8b0 : (((rd_T69 l0 x11_1).f1) == a1) = false := beq_eq_false_iff_ne.mpr c8; have c8b1 : (((rd_T69 l0 x11_1).f1) != a1) = true := bne_iff_ne.mpr c8; have H' := ak H; clear H; have p360 : 0 ≤ (x11_1 : Int) := of_decide_eq_true d16_4; have q360 : x11_1 < (l0.length : Int) := of_decide_eq_true d16_4; obtain ⟨ad360, e360, hx360_0, hx360_1, hx360_2, hx360_3⟩ := at_T69 HR0.out x11_1 p360 q360
        cases e360
        replace hx360_0 := (HB.out.cell (World.block_lt_of_cell? w _ hx360_0)).trans hx360_0; replace hx360_1 := (HB.out.cell (World.block_lt_of_cell? w _ hx360_1)).trans hx360_1; replace hx360_2 := (HB.out.cell (World.block_lt_of_cell? w _ hx360_2)).trans hx360_2; replace hx360_3 := (HB.out.cell (World.block_lt_of_cell? w _ hx360_3)).trans hx360_3; replace p360 := eq_true p360; replace q360 := eq_true q360
        go_wp2_with (first | ((with_reducible refine gate_dst (N := 7) rfl ?_); refine box_event ?hg (N := 7) ?hd (cs := #[.int .i64 0, .int .i64 0, .int .i64 0, .string (⟨#[]⟩ : ByteArray)]) (t := 69) ?hr ?_; (case hd => rfl); (case hg => rfl); (case hr => first | (go_simp; done) | (go_simp; rfl)); intro gb361 hg w13 hbox hb; have n0_ := ak (Kd.R_below (by (with_reducible repeat (first | apply Kd.R_alloc | apply Kd.R_drewN | apply Kd.R_drew)); exact HO_5.out) hb); have n1_ := ak (below_step d16_1 hb); have n2_ := ak (hbox); have n3_ := ak ((by rw [hg]; exact (below_size d16_1) : w.heap.size ≤ gb361)); have n4_ := ak ((by rw [hg]; exact (below_size d16_1) : w.heap.size ≤ gb361)); clear HO_5 HB; have HO_5 := n0_; have HB := n1_; have BK361 := n2_; have GW361 := n3_; have GE361 := n4_; clear n0_ n1_ n2_ n3_ n4_ hb hbox hg; have hcz14_0 := z16c BK361.out 0 (v := (.int .i64 0)) rfl; have hcz14_1 := z16c BK361.out 1 (v := (.int .i64 0)) rfl; have hcz14_2 := z16c BK361.out 2 (v := (.int .i64 0)) rfl; have hcz14_3 := z16c BK361.out 3 (v := (.string (⟨#[]⟩ : ByteArray))) rfl; have hfz14_0 := blk_frozen BK361.out 0; have hfz14_1 := blk_frozen BK361.out 1; have hfz14_2 := blk_frozen BK361.out 2; have hfz14_3 := blk_frozen BK361.out 3)); go_roundg k1
        case measure => have := HK1.out; omega
        case rel => exact ⟨(x5_1), (wrap64 (x11_1 + 1)), d16_3, H', ⟨by have := HK1.out; omega⟩, ⟨by (with_reducible repeat (first | apply Kd.R_alloc | apply Kd.R_drewN | apply Kd.R_drew)); exact Kd.R_mono (Kd.R_far (p := ⟨gb361, 3, none⟩) (Kd.R_far (p := ⟨gb361, 2, none⟩) (Kd.R_far (p := ⟨gb361, 1, none⟩) (Kd.R_far (p := ⟨gb361, 0, none⟩) (Kd.R_types HO_5.out BK361.out (by decide)) (fun _ hk => hk.2) (.int .i64 ((rd_T69 l0 x11_1).f0))) (fun _ hk => hk.2) (.int .i64 ((rd_T69 l0 x11_1).f1))) (fun _ hk => hk.2) (.int .i64 ((rd_T69 l0 x11_1).f2))) (fun _ hk => hk.2) (.string ((rd_T69 l0 x11_1).f3))) (fun _ hk => trivial)⟩, ⟨by repeat (first | (with_reducible first | exact HB.out | apply below_alloc | apply pw_below_drewN | apply below_drew1 | refine below_set ?_ GE361.out) | exact HB.out)⟩⟩
      ·rw [if_neg c7] at H
       exact absurd H (by simp)
     ·rw [if_neg c6] at H
      exact absurd H (by simp)
    ·rw [if_neg c5] at H
     have c5b0 : decide (x11_1 < (l0.length : Int)) = false := decide_eq_false c5; clear c5; obtain rfl := Option.some.inj H; go_wp2; go_ret; exact ⟨_, c16_4, by (with_reducible repeat (first | apply Kd.R_alloc | apply Kd.R_drewN | apply Kd.R_drew)); exact HO_5.out, c16_1⟩

end Go.Proofs.YtgnenhehcdekkadGreatDoor.A
