/- Walks of the program's functions: each Go function's answer as a plain Lean function, and that the call comes to it. Written by a program. Conditions: those in each theorem's own head. -/
import Derived.Test.YteoccmbphmiaaaaDoorB0
import Derived.Test.YteoccmbphmiaaaaDoorB3
import Derived.Test.YteoccmbphmiaaaaDoorB4
namespace Go.Proofs.YteoccmbphmiaaaaDoor.B
open Go.RowKit Go.Proofs.YteoccmbphmiaaaaDoorW.PrintWords Go.Proofs.YteoccmbphmiaaaaDoorW.PrintLast Go.Proofs.YteoccmbphmiaaaaDoorW.PrintMore
attribute [local go_sem] max2_int min2_int max_two min_two max_three min_three max_four min_four   -- for this text's walks alone
set_option linter.unusedVariables false
set_option linter.unusedSimpArgs false

theorem d5_1 {p : Prop} (h : p := by first | rfl | (simp; done) | (simp [*]; done) | (simp [ne_nil_b, eq_nil_b]; done)) : p := h
theorem d5_2 {p : Prop} (h : p := by (try simp only [List.map_toArray, List.map_cons, List.map_nil]); first | done | rfl | (simp only [List.length_drop, List.length_take]; rfl)) : p := h
theorem c5_1 {p : Prop} (h : p := by repeat (first | exact Drawn0.refl _ | apply Drawn0.step)) : p := h
theorem c5_2 {p : Prop} (h : p := by first | rfl | (simp; done) | (simp [*]; done) | (simp [ne_nil_b, eq_nil_b]; done)) : p := h

/-! ### spec_l5Fault: function 18 -/
mutual
def spec_l5Fault.j0 : Nat → Bool → Int → Int → ByteArray → Option (Int)
  | 0, _, _, _, _ => none
  | k + 1, x3, x1000, x1001, x1002 => (spec_l1In.f x1000 1 9).bind fun t173 => (if t173 = true then (if x3 = true then (if x1000 = 4 then (spec_l5Fault.j1 k false x1000 x1001 x1002) else (spec_l5Fault.j1 k (x1002.toList != ([] : List UInt8)) x1000 x1001 x1002)) else (if x1001 = 0 then (if x1000 = 4 then (spec_l5Fault.j1 k false x1000 x1001 x1002) else (spec_l5Fault.j1 k (x1002.toList != ([] : List UInt8)) x1000 x1001 x1002)) else (spec_l5Fault.j1 k true x1000 x1001 x1002))) else (spec_l5Fault.j1 k true x1000 x1001 x1002))
def spec_l5Fault.j1 : Nat → Bool → Int → Int → ByteArray → Option (Int)
  | 0, _, _, _, _ => none
  | k + 1, x53, x1000, x1001, x1002 => if x53 = true then (some 1) else (if x1000 = 1 then ((spec_l1Num.f x1001).bind fun t175 => (if t175 = true then (if x1000 = 2 then ((spec_l1In.f x1001 0 1).bind fun t176 => (if t176 = true then ((spec_l5Placed.f x1000).bind fun t177 => (if t177 = true then ((spec_l1In.f x1001 0 99999).bind fun t178 => (spec_l5Fault.j2 k (!t178) x1000 x1001 x1002)) else (spec_l5Fault.j2 k false x1000 x1001 x1002))) else (spec_l5Fault.j2 k true x1000 x1001 x1002))) else ((spec_l5Placed.f x1000).bind fun t179 => (if t179 = true then ((spec_l1In.f x1001 0 99999).bind fun t180 => (spec_l5Fault.j2 k (!t180) x1000 x1001 x1002)) else (spec_l5Fault.j2 k false x1000 x1001 x1002)))) else (spec_l5Fault.j2 k true x1000 x1001 x1002))) else (if x1000 = 2 then ((spec_l1In.f x1001 0 1).bind fun t181 => (if t181 = true then ((spec_l5Placed.f x1000).bind fun t182 => (if t182 = true then ((spec_l1In.f x1001 0 99999).bind fun t183 => (spec_l5Fault.j2 k (!t183) x1000 x1001 x1002)) else (spec_l5Fault.j2 k false x1000 x1001 x1002))) else (spec_l5Fault.j2 k true x1000 x1001 x1002))) else ((spec_l5Placed.f x1000).bind fun t184 => (if t184 = true then ((spec_l1In.f x1001 0 99999).bind fun t185 => (spec_l5Fault.j2 k (!t185) x1000 x1001 x1002)) else (spec_l5Fault.j2 k false x1000 x1001 x1002)))))
def spec_l5Fault.j2 : Nat → Bool → Int → Int → ByteArray → Option (Int)
  | 0, _, _, _, _ => none
  | k + 1, x96, x1000, x1001, x1002 => if x96 = true then (some 3) else (if x1000 = 4 then ((spec_l2Sym.f k x1002).bind fun t187 => (if t187 = true then (some 0) else (some 5))) else (some 0))
end
def spec_l5Fault.f (k : Nat) (a0_0 : Int) (a0_1 : Int) (a0_2 : ByteArray) : Option (Int) := if a0_0 = 1 then (spec_l5Fault.j0 k true a0_0 a0_1 a0_2) else (if a0_0 = 2 then (spec_l5Fault.j0 k true a0_0 a0_1 a0_2) else ((spec_l5Placed.f a0_0).bind fun t171 => (spec_l5Fault.j0 k t171 a0_0 a0_1 a0_2)))
theorem spec_l5Fault.mono_l : ∀ k, (∀ y0 y1 y2 y3, LeO (spec_l5Fault.j0 k y0 y1 y2 y3) (spec_l5Fault.j0 (k + 1) y0 y1 y2 y3)) ∧ (∀ y0 y1 y2 y3, LeO (spec_l5Fault.j1 k y0 y1 y2 y3) (spec_l5Fault.j1 (k + 1) y0 y1 y2 y3)) ∧ (∀ y0 y1 y2 y3, LeO (spec_l5Fault.j2 k y0 y1 y2 y3) (spec_l5Fault.j2 (k + 1) y0 y1 y2 y3))
  | 0 => ⟨fun _ _ _ _ r h => by simp [spec_l5Fault.j0] at h, fun _ _ _ _ r h => by simp [spec_l5Fault.j1] at h, fun _ _ _ _ r h => by simp [spec_l5Fault.j2] at h⟩
  | k + 1 => by
    obtain ⟨ih0, ih1, ih2⟩ := spec_l5Fault.mono_l k; refine ⟨?_, ?_, ?_⟩
    · intro y0 y1 y2 y3
      unfold spec_l5Fault.j0
      repeat' first
      | (with_reducible exact ih0 _ _ _ _)
      | (with_reducible exact ih1 _ _ _ _)
      | (with_reducible exact ih2 _ _ _ _)
      | (with_reducible exact spec_l2Sym.mono _ _)
      | (with_reducible exact LeO.refl _)
      | (with_reducible exact LeO.none _)
      | (with_reducible refine LeO.ite ?_ ?_)
      | (with_reducible refine LeO.bind ?_ (fun _ => ?_))
      | exact ih0 _ _ _ _
      | exact ih1 _ _ _ _
      | exact ih2 _ _ _ _
      | exact spec_l2Sym.mono _ _
      | exact LeO.none _
      | refine LeO.ite ?_ ?_
      | refine LeO.bind ?_ (fun _ => ?_)
    · intro y0 y1 y2 y3
      unfold spec_l5Fault.j1
      repeat' first
      | (with_reducible exact ih0 _ _ _ _)
      | (with_reducible exact ih1 _ _ _ _)
      | (with_reducible exact ih2 _ _ _ _)
      | (with_reducible exact spec_l2Sym.mono _ _)
      | (with_reducible exact LeO.refl _)
      | (with_reducible exact LeO.none _)
      | (with_reducible refine LeO.ite ?_ ?_)
      | (with_reducible refine LeO.bind ?_ (fun _ => ?_))
      | exact ih0 _ _ _ _
      | exact ih1 _ _ _ _
      | exact ih2 _ _ _ _
      | exact spec_l2Sym.mono _ _
      | exact LeO.none _
      | refine LeO.ite ?_ ?_
      | refine LeO.bind ?_ (fun _ => ?_)
    · intro y0 y1 y2 y3
      unfold spec_l5Fault.j2
      repeat' first
      | (with_reducible exact ih0 _ _ _ _)
      | (with_reducible exact ih1 _ _ _ _)
      | (with_reducible exact ih2 _ _ _ _)
      | (with_reducible exact spec_l2Sym.mono _ _)
      | (with_reducible exact LeO.refl _)
      | (with_reducible exact LeO.none _)
      | (with_reducible refine LeO.ite ?_ ?_)
      | (with_reducible refine LeO.bind ?_ (fun _ => ?_))
      | exact ih0 _ _ _ _
      | exact ih1 _ _ _ _
      | exact ih2 _ _ _ _
      | exact spec_l2Sym.mono _ _
      | exact LeO.none _
      | refine LeO.ite ?_ ?_
      | refine LeO.bind ?_ (fun _ => ?_)
theorem spec_l5Fault.mono : ∀ a0 a1 a2 k, LeO (spec_l5Fault.f k a0 a1 a2) (spec_l5Fault.f (k + 1) a0 a1 a2) := by
  intro a0 a1 a2 k; obtain ⟨ih0, ih1, ih2⟩ := spec_l5Fault.mono_l k; unfold spec_l5Fault.f
  repeat' first
      | (with_reducible exact ih0 _ _ _ _)
      | (with_reducible exact ih1 _ _ _ _)
      | (with_reducible exact ih2 _ _ _ _)
      | (with_reducible exact spec_l2Sym.mono _ _)
      | (with_reducible exact LeO.refl _)
      | (with_reducible exact LeO.none _)
      | (with_reducible refine LeO.ite ?_ ?_)
      | (with_reducible refine LeO.bind ?_ (fun _ => ?_))
      | exact ih0 _ _ _ _
      | exact ih1 _ _ _ _
      | exact ih2 _ _ _ _
      | exact spec_l2Sym.mono _ _
      | exact LeO.none _
      | refine LeO.ite ?_ ?_
      | refine LeO.bind ?_ (fun _ => ?_)
set_option maxHeartbeats 8000000 in
set_option maxRecDepth 100000 in
theorem spec_l5Fault.calls (k : Nat) (P0_ : Addr) (a0_0 : Int) (a0_1 : Int) (a0_2 : ByteArray) (r : Int) (w : World) (hq0_0 : w.cell? P0_ = some (.int .i64 a0_0)) (hq0_1 : w.cell? ⟨P0_.block, P0_.off + 1, none⟩ = some (.int .i64 a0_1)) (hq0_2 : w.cell? ⟨P0_.block, P0_.off + 2, none⟩ = some (.string a0_2)) (h : spec_l5Fault.f k a0_0 a0_1 a0_2 = some r) :
    Calls Tryd.prog 18 #[.pointer (some P0_)] w fun e w' => e = .returned (.int .i64 r) ∧ Drawn0 w w' := by
  have HQ0_0 := ak hq0_0; clear hq0_0; have HQ0_1 := ak hq0_1; clear hq0_1; have HQ0_2 := ak hq0_2; clear hq0_2; have H : (if a0_0 = 1 then (spec_l5Fault.j0 k true a0_0 a0_1 a0_2) else (if a0_0 = 2 then (spec_l5Fault.j0 k true a0_0 a0_1 a0_2) else ((spec_l5Placed.f a0_0).bind fun t171 => (spec_l5Fault.j0 k t171 a0_0 a0_1 a0_2)))) = some r := h; clear h; have HC2 := ak H; clear H; go_enter Tryd.func18, Tryd.ntmps18; go_upto_region 1 with (fail); go_cut [3] (fun v3 wc => ∃ (kq : Nat) (x3_1 : Bool), v3 = .bool x3_1 ∧ Aside0 (spec_l5Fault.j0 kq x3_1 a0_0 a0_1 a0_2 = some r) ∧ Aside0 (kq ≤ k) ∧ Drawn0 w wc)
  case first =>
   have H := HC2.out; clear HC2; by_cases c3 : a0_0 = 1
   ·rw [if_pos c3] at H
    have c3b0 : (a0_0 == 1) = true := beq_iff_eq.mpr c3; have c3b1 : (a0_0 != 1) = false := bne_eq_false_iff_eq.mpr c3; clear c3
    (first | rw [c3b0] | (simp only [i64_w, i32_w]; rw [c3b0]) | skip)
    have H' := ak H; clear H; have hx170_0 := HQ0_0.out; have hx170_1 := HQ0_1.out; have hx170_2 := HQ0_2.out; go_wp2; go_meet
    case rel => exact ⟨_, (true), d5_1, H', ⟨by first | omega | exact Nat.le_refl _⟩, c5_1⟩
   ·rw [if_neg c3] at H
    have c3b0 : (a0_0 == 1) = false := beq_eq_false_iff_ne.mpr c3; have c3b1 : (a0_0 != 1) = true := bne_iff_ne.mpr c3
    (first | rw [c3b0] | (simp only [i64_w, i32_w]; rw [c3b0]) | skip)
    by_cases c4 : a0_0 = 2
    ·rw [if_pos c4] at H
     have c4b0 : (a0_0 == 2) = true := beq_iff_eq.mpr c4; have c4b1 : (a0_0 != 2) = false := bne_eq_false_iff_eq.mpr c4; clear c4; have H' := ak H; clear H; have hx170_0 := HQ0_0.out; have hx170_1 := HQ0_1.out; have hx170_2 := HQ0_2.out; go_wp2; go_meet
     case rel => exact ⟨_, (true), d5_1, H', ⟨by first | omega | exact Nat.le_refl _⟩, c5_1⟩
    ·rw [if_neg c4] at H
     have c4b0 : (a0_0 == 2) = false := beq_eq_false_iff_ne.mpr c4; have c4b1 : (a0_0 != 2) = true := bne_iff_ne.mpr c4; replace H := Option.bind_eq_some_iff.mp H; obtain ⟨t171, A50, H⟩ := H; replace H : (spec_l5Fault.j0 k t171 a0_0 a0_1 a0_2) = some r := H; have A5 := ak A50; clear A50; have H' := ak H; clear H; have hx170_0 := HQ0_0.out; have hx170_1 := HQ0_1.out; have hx170_2 := HQ0_2.out; go_wp2_with (first | (go_at_call 33; (with_reducible refine (spec_l5Placed.calls a0_0 t171 _ A5.out).mono ?_); rintro e w' ⟨rfl, ⟨nd, rfl⟩⟩)); go_meet
     case rel => exact ⟨_, (t171), d5_1, H', ⟨by first | omega | exact Nat.le_refl _⟩, c5_1⟩
  case rest =>
   clear HC2
   try clear c1
   obtain ⟨kq, x3_1, rfl, HA, HJ1, ⟨mc1, rfl⟩⟩ := hcut
   cases kq with
   | zero => exact absurd HA.out (by simp [spec_l5Fault.j0])
   | succ kj1 =>
    have H := HA.out; clear HA; simp only [spec_l5Fault.j0] at H; have HC6 := ak H; clear H; go_upto_region 2 with (fail); go_cut [53] (fun v53 wc => ∃ (kq : Nat) (x53_5 : Bool), v53 = .bool x53_5 ∧ Aside0 (spec_l5Fault.j1 kq x53_5 a0_0 a0_1 a0_2 = some r) ∧ Aside0 (kq ≤ kj1) ∧ Drawn0 w wc)
    case first =>
     have H := HC6.out; clear HC6; replace H := Option.bind_eq_some_iff.mp H; obtain ⟨t173, A70, H⟩ := H; replace H : (if t173 = true then (if x3_1 = true then (if a0_0 = 4 then (spec_l5Fault.j1 kj1 false a0_0 a0_1 a0_2) else (spec_l5Fault.j1 kj1 (a0_2.toList != ([] : List UInt8)) a0_0 a0_1 a0_2)) else (if a0_1 = 0 then (if a0_0 = 4 then (spec_l5Fault.j1 kj1 false a0_0 a0_1 a0_2) else (spec_l5Fault.j1 kj1 (a0_2.toList != ([] : List UInt8)) a0_0 a0_1 a0_2)) else (spec_l5Fault.j1 kj1 true a0_0 a0_1 a0_2))) else (spec_l5Fault.j1 kj1 true a0_0 a0_1 a0_2)) = some r := H; have A7 := ak A70; clear A70; by_cases c8 : t173 = true
     ·subst c8
      have H1 : (if x3_1 = true then (if a0_0 = 4 then (spec_l5Fault.j1 kj1 false a0_0 a0_1 a0_2) else (spec_l5Fault.j1 kj1 (a0_2.toList != ([] : List UInt8)) a0_0 a0_1 a0_2)) else (if a0_1 = 0 then (if a0_0 = 4 then (spec_l5Fault.j1 kj1 false a0_0 a0_1 a0_2) else (spec_l5Fault.j1 kj1 (a0_2.toList != ([] : List UInt8)) a0_0 a0_1 a0_2)) else (spec_l5Fault.j1 kj1 true a0_0 a0_1 a0_2))) = some r := by rw [if_pos rfl] at H; exact H
      clear H; have H := H1; clear H1; by_cases c9 : x3_1 = true
      ·subst c9
       have H1 : (if a0_0 = 4 then (spec_l5Fault.j1 kj1 false a0_0 a0_1 a0_2) else (spec_l5Fault.j1 kj1 (a0_2.toList != ([] : List UInt8)) a0_0 a0_1 a0_2)) = some r := by rw [if_pos rfl] at H; exact H
       clear H; have H := H1; clear H1; by_cases c10 : a0_0 = 4
       ·rw [if_pos c10] at H
        have c10b0 : (a0_0 == 4) = true := beq_iff_eq.mpr c10; have c10b1 : (a0_0 != 4) = false := bne_eq_false_iff_eq.mpr c10; clear c10
        (first | rw [c10b0] | (simp only [i64_w, i32_w]; rw [c10b0]) | skip)
        have H' := ak H; clear H; have hx172_0 := HQ0_0.out; have hx172_1 := HQ0_1.out; have hx172_2 := HQ0_2.out; go_wp2_with (first | ((with_reducible refine gate_callee (f := 34) rfl ?_); refine goesL_ (some 27) rfl rfl Tryd.func34 (by kernel_rfl) rfl #[.int .i64 a0_0, .int .i64 1, .int .i64 9] rfl d5_2 ?_; (with_reducible refine (spec_l1In.calls a0_0 1 9 true _ A7.out).mono ?_); rintro e w' ⟨rfl, ⟨nd, rfl⟩⟩; refine ⟨_, rfl, ?_⟩)); go_meet
        case rel => exact ⟨_, (false), d5_1, H', ⟨by have := HJ1.out; first | omega | exact Nat.le_refl _⟩, c5_1⟩
       ·rw [if_neg c10] at H
        have c10b0 : (a0_0 == 4) = false := beq_eq_false_iff_ne.mpr c10; have c10b1 : (a0_0 != 4) = true := bne_iff_ne.mpr c10
        (first | rw [c10b0] | (simp only [i64_w, i32_w]; rw [c10b0]) | skip)
        have H' := ak H; clear H; have hx172_0 := HQ0_0.out; have hx172_1 := HQ0_1.out; have hx172_2 := HQ0_2.out; go_wp2_with (first | ((with_reducible refine gate_callee (f := 34) rfl ?_); refine goesL_ (some 27) rfl rfl Tryd.func34 (by kernel_rfl) rfl #[.int .i64 a0_0, .int .i64 1, .int .i64 9] rfl d5_2 ?_; (with_reducible refine (spec_l1In.calls a0_0 1 9 true _ A7.out).mono ?_); rintro e w' ⟨rfl, ⟨nd, rfl⟩⟩; refine ⟨_, rfl, ?_⟩)); go_meet
        case rel => exact ⟨_, ((a0_2.toList != ([] : List UInt8))), d5_1, H', ⟨by have := HJ1.out; first | omega | exact Nat.le_refl _⟩, c5_1⟩
      ·replace c9 := Bool.eq_false_iff.mpr c9
       subst c9
       have H1 : (if a0_1 = 0 then (if a0_0 = 4 then (spec_l5Fault.j1 kj1 false a0_0 a0_1 a0_2) else (spec_l5Fault.j1 kj1 (a0_2.toList != ([] : List UInt8)) a0_0 a0_1 a0_2)) else (spec_l5Fault.j1 kj1 true a0_0 a0_1 a0_2)) = some r := by rw [if_neg (show ¬ (false = true) by decide)] at H; exact H
       clear H; have H := H1; clear H1; by_cases c11 : a0_1 = 0
       ·rw [if_pos c11] at H
        have c11b0 : (a0_1 == 0) = true := beq_iff_eq.mpr c11; have c11b1 : (a0_1 != 0) = false := bne_eq_false_iff_eq.mpr c11; clear c11; by_cases c12 : a0_0 = 4
        ·rw [if_pos c12] at H
         have c12b0 : (a0_0 == 4) = true := beq_iff_eq.mpr c12; have c12b1 : (a0_0 != 4) = false := bne_eq_false_iff_eq.mpr c12; clear c12; have H' := ak H; clear H; have hx172_0 := HQ0_0.out; have hx172_1 := HQ0_1.out; have hx172_2 := HQ0_2.out; go_wp2_with (first | ((with_reducible refine gate_callee (f := 34) rfl ?_); refine goesL_ (some 27) rfl rfl Tryd.func34 (by kernel_rfl) rfl #[.int .i64 a0_0, .int .i64 1, .int .i64 9] rfl d5_2 ?_; (with_reducible refine (spec_l1In.calls a0_0 1 9 true _ A7.out).mono ?_); rintro e w' ⟨rfl, ⟨nd, rfl⟩⟩; refine ⟨_, rfl, ?_⟩)); go_meet
         case rel => exact ⟨_, (false), d5_1, H', ⟨by have := HJ1.out; first | omega | exact Nat.le_refl _⟩, c5_1⟩
        ·rw [if_neg c12] at H
         have c12b0 : (a0_0 == 4) = false := beq_eq_false_iff_ne.mpr c12; have c12b1 : (a0_0 != 4) = true := bne_iff_ne.mpr c12; have H' := ak H; clear H; have hx172_0 := HQ0_0.out; have hx172_1 := HQ0_1.out; have hx172_2 := HQ0_2.out; go_wp2_with (first | ((with_reducible refine gate_callee (f := 34) rfl ?_); refine goesL_ (some 27) rfl rfl Tryd.func34 (by kernel_rfl) rfl #[.int .i64 a0_0, .int .i64 1, .int .i64 9] rfl d5_2 ?_; (with_reducible refine (spec_l1In.calls a0_0 1 9 true _ A7.out).mono ?_); rintro e w' ⟨rfl, ⟨nd, rfl⟩⟩; refine ⟨_, rfl, ?_⟩)); go_meet
         case rel => exact ⟨_, ((a0_2.toList != ([] : List UInt8))), d5_1, H', ⟨by have := HJ1.out; first | omega | exact Nat.le_refl _⟩, c5_1⟩
       ·rw [if_neg c11] at H
        have c11b0 : (a0_1 == 0) = false := beq_eq_false_iff_ne.mpr c11; have c11b1 : (a0_1 != 0) = true := bne_iff_ne.mpr c11; have H' := ak H; clear H; have hx172_0 := HQ0_0.out; have hx172_1 := HQ0_1.out; have hx172_2 := HQ0_2.out; go_wp2_with (first | ((with_reducible refine gate_callee (f := 34) rfl ?_); refine goesL_ (some 27) rfl rfl Tryd.func34 (by kernel_rfl) rfl #[.int .i64 a0_0, .int .i64 1, .int .i64 9] rfl d5_2 ?_; (with_reducible refine (spec_l1In.calls a0_0 1 9 true _ A7.out).mono ?_); rintro e w' ⟨rfl, ⟨nd, rfl⟩⟩; refine ⟨_, rfl, ?_⟩)); go_meet
        case rel => exact ⟨_, (true), d5_1, H', ⟨by have := HJ1.out; first | omega | exact Nat.le_refl _⟩, c5_1⟩
     ·replace c8 := Bool.eq_false_iff.mpr c8
      subst c8
      have H1 : (spec_l5Fault.j1 kj1 true a0_0 a0_1 a0_2) = some r := by rw [if_neg (show ¬ (false = true) by decide)] at H; exact H
      clear H; have H := H1; clear H1; have H' := ak H; clear H; have hx172_0 := HQ0_0.out; have hx172_1 := HQ0_1.out; have hx172_2 := HQ0_2.out; go_wp2_with (first | ((with_reducible refine gate_callee (f := 34) rfl ?_); refine goesL_ (some 27) rfl rfl Tryd.func34 (by kernel_rfl) rfl #[.int .i64 a0_0, .int .i64 1, .int .i64 9] rfl d5_2 ?_; (with_reducible refine (spec_l1In.calls a0_0 1 9 false _ A7.out).mono ?_); rintro e w' ⟨rfl, ⟨nd, rfl⟩⟩; refine ⟨_, rfl, ?_⟩)); go_meet
      case rel => exact ⟨_, (true), d5_1, H', ⟨by have := HJ1.out; first | omega | exact Nat.le_refl _⟩, c5_1⟩
    case rest =>
     clear HC6
     try clear c1
     try clear hx1
     try clear p2
     try clear c3
     try clear c3b0
     try clear c3b1
     try clear c4
     try clear c4b0
     try clear c4b1
     try clear hx170_0
     try clear hx170_1
     try clear hx170_2
     obtain ⟨kq, x53_5, rfl, HA, HJ5, ⟨mc5, rfl⟩⟩ := hcut
     cases kq with
     | zero => exact absurd HA.out (by simp [spec_l5Fault.j1])
     | succ kj5 =>
      have H := HA.out; clear HA; simp only [spec_l5Fault.j1] at H; by_cases c13 : x53_5 = true
      ·subst c13
       have H1 : (some 1) = some r := by rw [if_pos rfl] at H; exact H
       clear H; have H := H1; clear H1; obtain rfl := Option.some.inj H; go_wp2; go_ret; exact ⟨c5_2, c5_1⟩
      ·replace c13 := Bool.eq_false_iff.mpr c13
       subst c13
       have H1 : (if a0_0 = 1 then ((spec_l1Num.f a0_1).bind fun t175 => (if t175 = true then (if a0_0 = 2 then ((spec_l1In.f a0_1 0 1).bind fun t176 => (if t176 = true then ((spec_l5Placed.f a0_0).bind fun t177 => (if t177 = true then ((spec_l1In.f a0_1 0 99999).bind fun t178 => (spec_l5Fault.j2 kj5 (!t178) a0_0 a0_1 a0_2)) else (spec_l5Fault.j2 kj5 false a0_0 a0_1 a0_2))) else (spec_l5Fault.j2 kj5 true a0_0 a0_1 a0_2))) else ((spec_l5Placed.f a0_0).bind fun t179 => (if t179 = true then ((spec_l1In.f a0_1 0 99999).bind fun t180 => (spec_l5Fault.j2 kj5 (!t180) a0_0 a0_1 a0_2)) else (spec_l5Fault.j2 kj5 false a0_0 a0_1 a0_2)))) else (spec_l5Fault.j2 kj5 true a0_0 a0_1 a0_2))) else (if a0_0 = 2 then ((spec_l1In.f a0_1 0 1).bind fun t181 => (if t181 = true then ((spec_l5Placed.f a0_0).bind fun t182 => (if t182 = true then ((spec_l1In.f a0_1 0 99999).bind fun t183 => (spec_l5Fault.j2 kj5 (!t183) a0_0 a0_1 a0_2)) else (spec_l5Fault.j2 kj5 false a0_0 a0_1 a0_2))) else (spec_l5Fault.j2 kj5 true a0_0 a0_1 a0_2))) else ((spec_l5Placed.f a0_0).bind fun t184 => (if t184 = true then ((spec_l1In.f a0_1 0 99999).bind fun t185 => (spec_l5Fault.j2 kj5 (!t185) a0_0 a0_1 a0_2)) else (spec_l5Fault.j2 kj5 false a0_0 a0_1 a0_2))))) = some r := by rw [if_neg (show ¬ (false = true) by decide)] at H; exact H
       clear H; have H := H1; clear H1; have HC14 := ak H; clear H; go_upto_region 4 with (fail); go_cut [96] (fun v96 wc => ∃ (kq : Nat) (x96_13 : Bool), v96 = .bool x96_13 ∧ Aside0 (spec_l5Fault.j2 kq x96_13 a0_0 a0_1 a0_2 = some r) ∧ Aside0 (kq ≤ kj5) ∧ Drawn0 w wc)
       case first =>
        have H := HC14.out; clear HC14; by_cases c15 : a0_0 = 1
        ·rw [if_pos c15] at H
         have c15b0 : (a0_0 == 1) = true := beq_iff_eq.mpr c15; have c15b1 : (a0_0 != 1) = false := bne_eq_false_iff_eq.mpr c15; clear c15
         (first | rw [c15b0] | (simp only [i64_w, i32_w]; rw [c15b0]) | skip)
         replace H := Option.bind_eq_some_iff.mp H; obtain ⟨t175, A160, H⟩ := H; replace H : (if t175 = true then (if a0_0 = 2 then ((spec_l1In.f a0_1 0 1).bind fun t176 => (if t176 = true then ((spec_l5Placed.f a0_0).bind fun t177 => (if t177 = true then ((spec_l1In.f a0_1 0 99999).bind fun t178 => (spec_l5Fault.j2 kj5 (!t178) a0_0 a0_1 a0_2)) else (spec_l5Fault.j2 kj5 false a0_0 a0_1 a0_2))) else (spec_l5Fault.j2 kj5 true a0_0 a0_1 a0_2))) else ((spec_l5Placed.f a0_0).bind fun t179 => (if t179 = true then ((spec_l1In.f a0_1 0 99999).bind fun t180 => (spec_l5Fault.j2 kj5 (!t180) a0_0 a0_1 a0_2)) else (spec_l5Fault.j2 kj5 false a0_0 a0_1 a0_2)))) else (spec_l5Fault.j2 kj5 true a0_0 a0_1 a0_2)) = some r := H; have A16 := ak A160; clear A160; by_cases c17 : t175 = true
         ·subst c17
          have H1 : (if a0_0 = 2 then ((spec_l1In.f a0_1 0 1).bind fun t176 => (if t176 = true then ((spec_l5Placed.f a0_0).bind fun t177 => (if t177 = true then ((spec_l1In.f a0_1 0 99999).bind fun t178 => (spec_l5Fault.j2 kj5 (!t178) a0_0 a0_1 a0_2)) else (spec_l5Fault.j2 kj5 false a0_0 a0_1 a0_2))) else (spec_l5Fault.j2 kj5 true a0_0 a0_1 a0_2))) else ((spec_l5Placed.f a0_0).bind fun t179 => (if t179 = true then ((spec_l1In.f a0_1 0 99999).bind fun t180 => (spec_l5Fault.j2 kj5 (!t180) a0_0 a0_1 a0_2)) else (spec_l5Fault.j2 kj5 false a0_0 a0_1 a0_2)))) = some r := by rw [if_pos rfl] at H; exact H
          clear H; have H := H1; clear H1; by_cases c18 : a0_0 = 2
          ·rw [if_pos c18] at H
           have c18b0 : (a0_0 == 2) = true := beq_iff_eq.mpr c18; have c18b1 : (a0_0 != 2) = false := bne_eq_false_iff_eq.mpr c18; clear c18; replace H := Option.bind_eq_some_iff.mp H; obtain ⟨t176, A190, H⟩ := H; replace H : (if t176 = true then ((spec_l5Placed.f a0_0).bind fun t177 => (if t177 = true then ((spec_l1In.f a0_1 0 99999).bind fun t178 => (spec_l5Fault.j2 kj5 (!t178) a0_0 a0_1 a0_2)) else (spec_l5Fault.j2 kj5 false a0_0 a0_1 a0_2))) else (spec_l5Fault.j2 kj5 true a0_0 a0_1 a0_2)) = some r := H; have A19 := ak A190; clear A190; by_cases c20 : t176 = true
           ·subst c20
            have H1 : ((spec_l5Placed.f a0_0).bind fun t177 => (if t177 = true then ((spec_l1In.f a0_1 0 99999).bind fun t178 => (spec_l5Fault.j2 kj5 (!t178) a0_0 a0_1 a0_2)) else (spec_l5Fault.j2 kj5 false a0_0 a0_1 a0_2))) = some r := by rw [if_pos rfl] at H; exact H
            clear H; have H := H1; clear H1; replace H := Option.bind_eq_some_iff.mp H; obtain ⟨t177, A210, H⟩ := H; replace H : (if t177 = true then ((spec_l1In.f a0_1 0 99999).bind fun t178 => (spec_l5Fault.j2 kj5 (!t178) a0_0 a0_1 a0_2)) else (spec_l5Fault.j2 kj5 false a0_0 a0_1 a0_2)) = some r := H; have A21 := ak A210; clear A210; by_cases c22 : t177 = true
            ·subst c22
             have H1 : ((spec_l1In.f a0_1 0 99999).bind fun t178 => (spec_l5Fault.j2 kj5 (!t178) a0_0 a0_1 a0_2)) = some r := by rw [if_pos rfl] at H; exact H
             clear H; have H := H1; clear H1; replace H := Option.bind_eq_some_iff.mp H; obtain ⟨t178, A230, H⟩ := H; replace H : (spec_l5Fault.j2 kj5 (!t178) a0_0 a0_1 a0_2) = some r := H; have A23 := ak A230; clear A230; have H' := ak H; clear H; have hx174_0 := HQ0_0.out; have hx174_1 := HQ0_1.out; have hx174_2 := HQ0_2.out; go_wp2_with (first | (go_at_call 35; (with_reducible refine (spec_l1Num.calls a0_1 true _ A16.out).mono ?_); rintro e w' ⟨rfl, ⟨nd, rfl⟩⟩) | (go_at_call 34; (with_reducible refine (spec_l1In.calls a0_1 0 1 true _ A19.out).mono ?_); rintro e w' ⟨rfl, ⟨nd, rfl⟩⟩) | (go_at_call 33; (with_reducible refine (spec_l5Placed.calls a0_0 true _ A21.out).mono ?_); rintro e w' ⟨rfl, ⟨nd, rfl⟩⟩) | (go_at_call 34; (with_reducible refine (spec_l1In.calls a0_1 0 99999 t178 _ A23.out).mono ?_); rintro e w' ⟨rfl, ⟨nd, rfl⟩⟩)); go_meet
             case rel => exact ⟨_, (!t178), d5_1, H', ⟨by have := HJ1.out; have := HJ5.out; first | omega | exact Nat.le_refl _⟩, c5_1⟩
            ·replace c22 := Bool.eq_false_iff.mpr c22
             subst c22
             have H1 : (spec_l5Fault.j2 kj5 false a0_0 a0_1 a0_2) = some r := by rw [if_neg (show ¬ (false = true) by decide)] at H; exact H
             clear H; have H := H1; clear H1; have H' := ak H; clear H; have hx174_0 := HQ0_0.out; have hx174_1 := HQ0_1.out; have hx174_2 := HQ0_2.out; go_wp2_with (first | (go_at_call 35; (with_reducible refine (spec_l1Num.calls a0_1 true _ A16.out).mono ?_); rintro e w' ⟨rfl, ⟨nd, rfl⟩⟩) | (go_at_call 34; (with_reducible refine (spec_l1In.calls a0_1 0 1 true _ A19.out).mono ?_); rintro e w' ⟨rfl, ⟨nd, rfl⟩⟩) | (go_at_call 33; (with_reducible refine (spec_l5Placed.calls a0_0 false _ A21.out).mono ?_); rintro e w' ⟨rfl, ⟨nd, rfl⟩⟩)); go_meet
             case rel => exact ⟨_, (false), d5_1, H', ⟨by have := HJ1.out; have := HJ5.out; first | omega | exact Nat.le_refl _⟩, c5_1⟩
           ·replace c20 := Bool.eq_false_iff.mpr c20
            subst c20
            have H1 : (spec_l5Fault.j2 kj5 true a0_0 a0_1 a0_2) = some r := by rw [if_neg (show ¬ (false = true) by decide)] at H; exact H
            clear H; have H := H1; clear H1; have H' := ak H; clear H; have hx174_0 := HQ0_0.out; have hx174_1 := HQ0_1.out; have hx174_2 := HQ0_2.out; go_wp2_with (first | (go_at_call 35; (with_reducible refine (spec_l1Num.calls a0_1 true _ A16.out).mono ?_); rintro e w' ⟨rfl, ⟨nd, rfl⟩⟩) | (go_at_call 34; (with_reducible refine (spec_l1In.calls a0_1 0 1 false _ A19.out).mono ?_); rintro e w' ⟨rfl, ⟨nd, rfl⟩⟩)); go_meet
            case rel => exact ⟨_, (true), d5_1, H', ⟨by have := HJ1.out; have := HJ5.out; first | omega | exact Nat.le_refl _⟩, c5_1⟩
          ·rw [if_neg c18] at H
           have c18b0 : (a0_0 == 2) = false := beq_eq_false_iff_ne.mpr c18; have c18b1 : (a0_0 != 2) = true := bne_iff_ne.mpr c18; replace H := Option.bind_eq_some_iff.mp H; obtain ⟨t179, A240, H⟩ := H; replace H : (if t179 = true then ((spec_l1In.f a0_1 0 99999).bind fun t180 => (spec_l5Fault.j2 kj5 (!t180) a0_0 a0_1 a0_2)) else (spec_l5Fault.j2 kj5 false a0_0 a0_1 a0_2)) = some r := H; have A24 := ak A240; clear A240; by_cases c25 : t179 = true
           ·subst c25
            have H1 : ((spec_l1In.f a0_1 0 99999).bind fun t180 => (spec_l5Fault.j2 kj5 (!t180) a0_0 a0_1 a0_2)) = some r := by rw [if_pos rfl] at H; exact H
            clear H; have H := H1; clear H1; replace H := Option.bind_eq_some_iff.mp H; obtain ⟨t180, A260, H⟩ := H; replace H : (spec_l5Fault.j2 kj5 (!t180) a0_0 a0_1 a0_2) = some r := H; have A26 := ak A260; clear A260; have H' := ak H; clear H; have hx174_0 := HQ0_0.out; have hx174_1 := HQ0_1.out; have hx174_2 := HQ0_2.out; go_wp2_with (first | (go_at_call 35; (with_reducible refine (spec_l1Num.calls a0_1 true _ A16.out).mono ?_); rintro e w' ⟨rfl, ⟨nd, rfl⟩⟩) | (go_at_call 33; (with_reducible refine (spec_l5Placed.calls a0_0 true _ A24.out).mono ?_); rintro e w' ⟨rfl, ⟨nd, rfl⟩⟩) | (go_at_call 34; (with_reducible refine (spec_l1In.calls a0_1 0 99999 t180 _ A26.out).mono ?_); rintro e w' ⟨rfl, ⟨nd, rfl⟩⟩)); go_meet
            case rel => exact ⟨_, (!t180), d5_1, H', ⟨by have := HJ1.out; have := HJ5.out; first | omega | exact Nat.le_refl _⟩, c5_1⟩
           ·replace c25 := Bool.eq_false_iff.mpr c25
            subst c25
            have H1 : (spec_l5Fault.j2 kj5 false a0_0 a0_1 a0_2) = some r := by rw [if_neg (show ¬ (false = true) by decide)] at H; exact H
            clear H; have H := H1; clear H1; have H' := ak H; clear H; have hx174_0 := HQ0_0.out; have hx174_1 := HQ0_1.out; have hx174_2 := HQ0_2.out; go_wp2_with (first | (go_at_call 35; (with_reducible refine (spec_l1Num.calls a0_1 true _ A16.out).mono ?_); rintro e w' ⟨rfl, ⟨nd, rfl⟩⟩) | (go_at_call 33; (with_reducible refine (spec_l5Placed.calls a0_0 false _ A24.out).mono ?_); rintro e w' ⟨rfl, ⟨nd, rfl⟩⟩)); go_meet
            case rel => exact ⟨_, (false), d5_1, H', ⟨by have := HJ1.out; have := HJ5.out; first | omega | exact Nat.le_refl _⟩, c5_1⟩
         ·replace c17 := Bool.eq_false_iff.mpr c17
          subst c17
          have H1 : (spec_l5Fault.j2 kj5 true a0_0 a0_1 a0_2) = some r := by rw [if_neg (show ¬ (false = true) by decide)] at H; exact H
          clear H; have H := H1; clear H1; have H' := ak H; clear H; have hx174_0 := HQ0_0.out; have hx174_1 := HQ0_1.out; have hx174_2 := HQ0_2.out; go_wp2_with (first | (go_at_call 35; (with_reducible refine (spec_l1Num.calls a0_1 false _ A16.out).mono ?_); rintro e w' ⟨rfl, ⟨nd, rfl⟩⟩)); go_meet
          case rel => exact ⟨_, (true), d5_1, H', ⟨by have := HJ1.out; have := HJ5.out; first | omega | exact Nat.le_refl _⟩, c5_1⟩
        ·rw [if_neg c15] at H
         have c15b0 : (a0_0 == 1) = false := beq_eq_false_iff_ne.mpr c15; have c15b1 : (a0_0 != 1) = true := bne_iff_ne.mpr c15
         (first | rw [c15b0] | (simp only [i64_w, i32_w]; rw [c15b0]) | skip)
         by_cases c27 : a0_0 = 2
         ·rw [if_pos c27] at H
          have c27b0 : (a0_0 == 2) = true := beq_iff_eq.mpr c27; have c27b1 : (a0_0 != 2) = false := bne_eq_false_iff_eq.mpr c27; clear c27; replace H := Option.bind_eq_some_iff.mp H; obtain ⟨t181, A280, H⟩ := H; replace H : (if t181 = true then ((spec_l5Placed.f a0_0).bind fun t182 => (if t182 = true then ((spec_l1In.f a0_1 0 99999).bind fun t183 => (spec_l5Fault.j2 kj5 (!t183) a0_0 a0_1 a0_2)) else (spec_l5Fault.j2 kj5 false a0_0 a0_1 a0_2))) else (spec_l5Fault.j2 kj5 true a0_0 a0_1 a0_2)) = some r := H; have A28 := ak A280; clear A280; by_cases c29 : t181 = true
          ·subst c29
           have H1 : ((spec_l5Placed.f a0_0).bind fun t182 => (if t182 = true then ((spec_l1In.f a0_1 0 99999).bind fun t183 => (spec_l5Fault.j2 kj5 (!t183) a0_0 a0_1 a0_2)) else (spec_l5Fault.j2 kj5 false a0_0 a0_1 a0_2))) = some r := by rw [if_pos rfl] at H; exact H
           clear H; have H := H1; clear H1; replace H := Option.bind_eq_some_iff.mp H; obtain ⟨t182, A300, H⟩ := H; replace H : (if t182 = true then ((spec_l1In.f a0_1 0 99999).bind fun t183 => (spec_l5Fault.j2 kj5 (!t183) a0_0 a0_1 a0_2)) else (spec_l5Fault.j2 kj5 false a0_0 a0_1 a0_2)) = some r := H; have A30 := ak A300; clear A300; by_cases c31 : t182 = true
           ·subst c31
            have H1 : ((spec_l1In.f a0_1 0 99999).bind fun t183 => (spec_l5Fault.j2 kj5 (!t183) a0_0 a0_1 a0_2)) = some r := by rw [if_pos rfl] at H; exact H
            clear H; have H := H1; clear H1; replace H := Option.bind_eq_some_iff.mp H; obtain ⟨t183, A320, H⟩ := H; replace H : (spec_l5Fault.j2 kj5 (!t183) a0_0 a0_1 a0_2) = some r := H; have A32 := ak A320; clear A320; have H' := ak H; clear H; have hx174_0 := HQ0_0.out; have hx174_1 := HQ0_1.out; have hx174_2 := HQ0_2.out; go_wp2_with (first | (go_at_call 34; (with_reducible refine (spec_l1In.calls a0_1 0 1 true _ A28.out).mono ?_); rintro e w' ⟨rfl, ⟨nd, rfl⟩⟩) | (go_at_call 33; (with_reducible refine (spec_l5Placed.calls a0_0 true _ A30.out).mono ?_); rintro e w' ⟨rfl, ⟨nd, rfl⟩⟩) | (go_at_call 34; (with_reducible refine (spec_l1In.calls a0_1 0 99999 t183 _ A32.out).mono ?_); rintro e w' ⟨rfl, ⟨nd, rfl⟩⟩)); go_meet
            case rel => exact ⟨_, (!t183), d5_1, H', ⟨by have := HJ1.out; have := HJ5.out; first | omega | exact Nat.le_refl _⟩, c5_1⟩
           ·replace c31 := Bool.eq_false_iff.mpr c31
            subst c31
            have H1 : (spec_l5Fault.j2 kj5 false a0_0 a0_1 a0_2) = some r := by rw [if_neg (show ¬ (false = true) by decide)] at H; exact H
            clear H; have H := H1; clear H1; have H' := ak H; clear H; have hx174_0 := HQ0_0.out; have hx174_1 := HQ0_1.out; have hx174_2 := HQ0_2.out; go_wp2_with (first | (go_at_call 34; (with_reducible refine (spec_l1In.calls a0_1 0 1 true _ A28.out).mono ?_); rintro e w' ⟨rfl, ⟨nd, rfl⟩⟩) | (go_at_call 33; (with_reducible refine (spec_l5Placed.calls a0_0 false _ A30.out).mono ?_); rintro e w' ⟨rfl, ⟨nd, rfl⟩⟩)); go_meet
            case rel => exact ⟨_, (false), d5_1, H', ⟨by have := HJ1.out; have := HJ5.out; first | omega | exact Nat.le_refl _⟩, c5_1⟩
          ·replace c29 := Bool.eq_false_iff.mpr c29
           subst c29
           have H1 : (spec_l5Fault.j2 kj5 true a0_0 a0_1 a0_2) = some r := by rw [if_neg (show ¬ (false = true) by decide)] at H; exact H
           clear H; have H := H1; clear H1; have H' := ak H; clear H; have hx174_0 := HQ0_0.out; have hx174_1 := HQ0_1.out; have hx174_2 := HQ0_2.out; go_wp2_with (first | (go_at_call 34; (with_reducible refine (spec_l1In.calls a0_1 0 1 false _ A28.out).mono ?_); rintro e w' ⟨rfl, ⟨nd, rfl⟩⟩)); go_meet
           case rel => exact ⟨_, (true), d5_1, H', ⟨by have := HJ1.out; have := HJ5.out; first | omega | exact Nat.le_refl _⟩, c5_1⟩
         ·rw [if_neg c27] at H
          have c27b0 : (a0_0 == 2) = false := beq_eq_false_iff_ne.mpr c27; have c27b1 : (a0_0 != 2) = true := bne_iff_ne.mpr c27; replace H := Option.bind_eq_some_iff.mp H; obtain ⟨t184, A330, H⟩ := H; replace H : (if t184 = true then ((spec_l1In.f a0_1 0 99999).bind fun t185 => (spec_l5Fault.j2 kj5 (!t185) a0_0 a0_1 a0_2)) else (spec_l5Fault.j2 kj5 false a0_0 a0_1 a0_2)) = some r := H; have A33 := ak A330; clear A330; by_cases c34 : t184 = true
          ·subst c34
           have H1 : ((spec_l1In.f a0_1 0 99999).bind fun t185 => (spec_l5Fault.j2 kj5 (!t185) a0_0 a0_1 a0_2)) = some r := by rw [if_pos rfl] at H; exact H
           clear H; have H := H1; clear H1; replace H := Option.bind_eq_some_iff.mp H; obtain ⟨t185, A350, H⟩ := H; replace H : (spec_l5Fault.j2 kj5 (!t185) a0_0 a0_1 a0_2) = some r := H; have A35 := ak A350; clear A350; have H' := ak H; clear H; have hx174_0 := HQ0_0.out; have hx174_1 := HQ0_1.out; have hx174_2 := HQ0_2.out; go_wp2_with (first | (go_at_call 33; (with_reducible refine (spec_l5Placed.calls a0_0 true _ A33.out).mono ?_); rintro e w' ⟨rfl, ⟨nd, rfl⟩⟩) | (go_at_call 34; (with_reducible refine (spec_l1In.calls a0_1 0 99999 t185 _ A35.out).mono ?_); rintro e w' ⟨rfl, ⟨nd, rfl⟩⟩)); go_meet
           case rel => exact ⟨_, (!t185), d5_1, H', ⟨by have := HJ1.out; have := HJ5.out; first | omega | exact Nat.le_refl _⟩, c5_1⟩
          ·replace c34 := Bool.eq_false_iff.mpr c34
           subst c34
           have H1 : (spec_l5Fault.j2 kj5 false a0_0 a0_1 a0_2) = some r := by rw [if_neg (show ¬ (false = true) by decide)] at H; exact H
           clear H; have H := H1; clear H1; have H' := ak H; clear H; have hx174_0 := HQ0_0.out; have hx174_1 := HQ0_1.out; have hx174_2 := HQ0_2.out; go_wp2_with (first | (go_at_call 33; (with_reducible refine (spec_l5Placed.calls a0_0 false _ A33.out).mono ?_); rintro e w' ⟨rfl, ⟨nd, rfl⟩⟩)); go_meet
           case rel => exact ⟨_, (false), d5_1, H', ⟨by have := HJ1.out; have := HJ5.out; first | omega | exact Nat.le_refl _⟩, c5_1⟩
       case rest =>
        clear HC14
        try clear c1
        try clear hx1
        try clear p2
        try clear c3
        try clear c3b0
        try clear c3b1
        try clear c4
        try clear c4b0
        try clear c4b1
        try clear c5
        try clear c8
        try clear c9
        try clear c10
        try clear c10b0
        try clear c10b1
        try clear c11
        try clear c11b0
        try clear c11b1
        try clear c12
        try clear c12b0
        try clear c12b1
        try clear c13
        try clear hx17
        try clear c18
        try clear c34
        try clear hx170_0
        try clear hx170_1
        try clear hx170_2
        try clear hx172_0
        try clear hx172_1
        try clear hx172_2
        try clear p2
        obtain ⟨kq, x96_13, rfl, HA, HJ13, ⟨mc13, rfl⟩⟩ := hcut
        cases kq with
        | zero => exact absurd HA.out (by simp [spec_l5Fault.j2])
        | succ kj13 =>
         have H := HA.out; clear HA; simp only [spec_l5Fault.j2] at H; by_cases c36 : x96_13 = true
         ·subst c36
          have H1 : (some 3) = some r := by rw [if_pos rfl] at H; exact H
          clear H; have H := H1; clear H1; obtain rfl := Option.some.inj H; go_wp2; go_ret; exact ⟨c5_2, c5_1⟩
         ·replace c36 := Bool.eq_false_iff.mpr c36
          subst c36
          have H1 : (if a0_0 = 4 then ((spec_l2Sym.f kj13 a0_2).bind fun t187 => (if t187 = true then (some 0) else (some 5))) else (some 0)) = some r := by rw [if_neg (show ¬ (false = true) by decide)] at H; exact H
          clear H; have H := H1; clear H1; by_cases c37 : a0_0 = 4
          ·rw [if_pos c37] at H
           have c37b0 : (a0_0 == 4) = true := beq_iff_eq.mpr c37; have c37b1 : (a0_0 != 4) = false := bne_eq_false_iff_eq.mpr c37; clear c37; replace H := Option.bind_eq_some_iff.mp H; obtain ⟨t187, A380, H⟩ := H; replace H : (if t187 = true then (some 0) else (some 5)) = some r := H; have A38 := ak A380; clear A380; by_cases c39 : t187 = true
           ·subst c39
            have H1 : (some 0) = some r := by rw [if_pos rfl] at H; exact H
            clear H; have H := H1; clear H1; obtain rfl := Option.some.inj H; have hx186_0 := HQ0_0.out; have hx186_1 := HQ0_1.out; have hx186_2 := HQ0_2.out; go_wp2_with (first | (go_at_call 36; (with_reducible refine (spec_l2Sym.calls kj13 a0_2 true _ A38.out).mono ?_); rintro e w' ⟨rfl, ⟨nd, rfl⟩⟩)); go_ret; exact ⟨c5_2, c5_1⟩
           ·replace c39 := Bool.eq_false_iff.mpr c39
            subst c39
            have H1 : (some 5) = some r := by rw [if_neg (show ¬ (false = true) by decide)] at H; exact H
            clear H; have H := H1; clear H1; obtain rfl := Option.some.inj H; have hx186_0 := HQ0_0.out; have hx186_1 := HQ0_1.out; have hx186_2 := HQ0_2.out; go_wp2_with (first | (go_at_call 36; (with_reducible refine (spec_l2Sym.calls kj13 a0_2 false _ A38.out).mono ?_); rintro e w' ⟨rfl, ⟨nd, rfl⟩⟩)); go_ret; exact ⟨c5_2, c5_1⟩
          ·rw [if_neg c37] at H
           have c37b0 : (a0_0 == 4) = false := beq_eq_false_iff_ne.mpr c37; have c37b1 : (a0_0 != 4) = true := bne_iff_ne.mpr c37; obtain rfl := Option.some.inj H; have hx186_0 := HQ0_0.out; have hx186_1 := HQ0_1.out; have hx186_2 := HQ0_2.out; go_wp2; go_ret; exact ⟨c5_2, c5_1⟩

/-! ### spec_l7At: function 20 -/
def spec_l7At.l0 : Nat → List (S33) → ByteArray → Int → Option (Int)
  | 0, _, _, _ => none
  | k + 1, x0, x1, x5 => if x5 < (x0.length : Int) then (if 0 ≤ x5 then (if ((rd_T33 x0 x5).f0).toList = x1.toList then (some x5) else (spec_l7At.l0 k x0 x1 (wrap64 (x5 + 1)))) else (none)) else (some (-1))
def spec_l7At.f (k : Nat) (l0 : List (S33)) (a1 : ByteArray) : Option (Int) := spec_l7At.l0 k l0 a1 0
theorem spec_l7At.mono_l : ∀ k, (∀ y0 y1 y2, LeO (spec_l7At.l0 k y0 y1 y2) (spec_l7At.l0 (k + 1) y0 y1 y2))
  | 0 => fun _ _ _ r h => by simp [spec_l7At.l0] at h
  | k + 1 => by
    have ih0 := spec_l7At.mono_l k
    · intro y0 y1 y2
      unfold spec_l7At.l0
      repeat' first
      | (with_reducible exact ih0 _ _ _)
      | (with_reducible exact LeO.refl _)
      | (with_reducible exact LeO.none _)
      | (with_reducible refine LeO.ite ?_ ?_)
      | (with_reducible refine LeO.bind ?_ (fun _ => ?_))
      | exact ih0 _ _ _
      | exact LeO.none _
      | refine LeO.ite ?_ ?_
      | refine LeO.bind ?_ (fun _ => ?_)
theorem spec_l7At.mono : ∀ a0 a1 k, LeO (spec_l7At.f k a0 a1) (spec_l7At.f (k + 1) a0 a1) := by
  intro a0 a1 k; have ih0 := spec_l7At.mono_l k; unfold spec_l7At.f
  repeat' first
      | (with_reducible exact ih0 _ _ _)
      | (with_reducible exact LeO.refl _)
      | (with_reducible exact LeO.none _)
      | (with_reducible refine LeO.ite ?_ ?_)
      | (with_reducible refine LeO.bind ?_ (fun _ => ?_))
      | exact ih0 _ _ _
      | exact LeO.none _
      | refine LeO.ite ?_ ?_
      | refine LeO.bind ?_ (fun _ => ?_)
set_option maxHeartbeats 8000000 in
set_option maxRecDepth 100000 in
theorem spec_l7At.calls (k : Nat) (A0 : Option Addr) (c0 : Nat) (l0 : List (S33)) (a1 : ByteArray) (r : Int) (w : World) (hr0 : Kd.C k33 w A0 l0.length l0) (hc0 : l0.length ≤ c0) (h : spec_l7At.f k l0 a1 = some r) :
    Calls Tryd.prog 20 #[.slice A0 l0.length c0, .string a1] w fun e w' => e = .returned (.int .i64 r) ∧ Drawn0 w w' := by
  have HR0 := ak hr0; have HC0 := ak hc0; clear hr0 hc0; have H : (spec_l7At.l0 k l0 a1 0) = some r := h; clear h; have H' := ak H; clear H; go_enter Tryd.func20, Tryd.ntmps20; go_wp2; go_loopg [5] k (fun kq v5 w' => ∃ (x5_1 : Int), v5 = .int .i64 x5_1 ∧ Aside0 (spec_l7At.l0 kq l0 a1 x5_1 = some r) ∧ Aside0 (kq ≤ k) ∧ Drawn0 w w')
  case atStart => exact ⟨(0), d5_1, H', ⟨Nat.le_refl _⟩, c5_1⟩
  case round =>
   clear H'
   try clear c2
   try clear p2
   obtain ⟨x5_1, rfl, HA, HK1, ⟨m1, rfl⟩⟩ := hrel
   cases gk with
   | zero => exact absurd HA.out (by simp [spec_l7At.l0])
   | succ k1 =>
    have H := HA.out; clear HA; simp only [spec_l7At.l0] at H; by_cases c3 : x5_1 < (l0.length : Int)
    ·rw [if_pos c3] at H
     have c3b0 : decide (x5_1 < (l0.length : Int)) = true := decide_eq_true c3; clear c3; by_cases c4 : 0 ≤ x5_1
     ·rw [if_pos c4] at H
      have c4b0 : decide (0 ≤ x5_1) = true := decide_eq_true c4; clear c4; by_cases c5 : ((rd_T33 l0 x5_1).f0).toList = a1.toList
      ·rw [if_pos c5] at H
       have c5b0 : (((rd_T33 l0 x5_1).f0).toList == a1.toList) = true := beq_iff_eq.mpr c5; have c5b1 : (((rd_T33 l0 x5_1).f0).toList != a1.toList) = false := bne_eq_false_iff_eq.mpr c5; clear c5; obtain rfl := Option.some.inj H; have p188 : 0 ≤ (x5_1 : Int) := of_decide_eq_true (by first | (with_reducible assumption) | assumption); have q188 : x5_1 < (l0.length : Int) := of_decide_eq_true (by first | (with_reducible assumption) | assumption); obtain ⟨ad188, e188, hx188_0, hx188_1, hx188_2, hx188_3, hx188_4⟩ := at_T33 HR0.out x5_1 p188 q188
       cases e188
       replace p188 := eq_true p188; replace q188 := eq_true q188; go_wp2; go_ret; exact ⟨c5_2, c5_1⟩
      ·rw [if_neg c5] at H
       have c5b0 : (((rd_T33 l0 x5_1).f0).toList == a1.toList) = false := beq_eq_false_iff_ne.mpr c5; have c5b1 : (((rd_T33 l0 x5_1).f0).toList != a1.toList) = true := bne_iff_ne.mpr c5; have H' := ak H; clear H; have p188 : 0 ≤ (x5_1 : Int) := of_decide_eq_true (by first | (with_reducible assumption) | assumption); have q188 : x5_1 < (l0.length : Int) := of_decide_eq_true (by first | (with_reducible assumption) | assumption); obtain ⟨ad188, e188, hx188_0, hx188_1, hx188_2, hx188_3, hx188_4⟩ := at_T33 HR0.out x5_1 p188 q188
       cases e188
       replace p188 := eq_true p188; replace q188 := eq_true q188; go_wp2; go_roundg k1
       case measure => have := HK1.out; omega
       case rel => exact ⟨(wrap64 (x5_1 + 1)), d5_1, H', ⟨by have := HK1.out; omega⟩, c5_1⟩
     ·rw [if_neg c4] at H
      exact absurd H (by simp)
    ·rw [if_neg c3] at H
     have c3b0 : decide (x5_1 < (l0.length : Int)) = false := decide_eq_false c3; clear c3; obtain rfl := Option.some.inj H; go_wp2; go_ret; exact ⟨c5_2, c5_1⟩

/-! ### spec_l7Version: function 46 -/
def spec_l7Version.f (a0 : Int) : Option (Bool) := (spec_l1In.f a0 1 99999).bind fun t189 => (some t189)
set_option maxHeartbeats 8000000 in
set_option maxRecDepth 100000 in
theorem spec_l7Version.calls (a0 : Int) (r : Bool) (w : World) (h : spec_l7Version.f a0 = some r) :
    Calls Tryd.prog 46 #[.int .i64 a0] w fun e w' => e = .returned (.bool r) ∧ Drawn0 w w' := by
  have H : ((spec_l1In.f a0 1 99999).bind fun t189 => (some t189)) = some r := h; clear h; replace H := Option.bind_eq_some_iff.mp H; obtain ⟨t189, A20, H⟩ := H; replace H : (some t189) = some r := H; have A2 := ak A20; clear A20; obtain rfl := Option.some.inj H; go_enter Tryd.func46, Tryd.ntmps46; go_wp2_with (first | ((with_reducible refine gate_callee (f := 34) rfl ?_); refine goesL_ (some 4) rfl rfl Tryd.func34 (by kernel_rfl) rfl #[.int .i64 a0, .int .i64 1, .int .i64 99999] rfl d5_2 ?_; (with_reducible refine (spec_l1In.calls a0 1 99999 t189 _ A2.out).mono ?_); rintro e w' ⟨rfl, ⟨nd, rfl⟩⟩; refine ⟨_, rfl, ?_⟩)); go_ret; exact ⟨c5_2, c5_1⟩

end Go.Proofs.YteoccmbphmiaaaaDoor.B
