/- Walks of the program's functions: each Go function's answer as a plain Lean function, and that the call comes to it. Written by a program. Conditions: those in each theorem's own head. -/
import Derived.Test.YtolhanigjmhkgabDoorA0
import Derived.Test.YtolhanigjmhkgabDoorA1
namespace Go.Proofs.YtolhanigjmhkgabDoor.A
open Go.RowKit Go.Proofs.YtolhanigjmhkgabDoorW.PrintWords Go.Proofs.YtolhanigjmhkgabDoorW.PrintLast Go.Proofs.YtolhanigjmhkgabDoorW.PrintMore
attribute [local go_sem] max2_int min2_int max_two min_two max_three min_three max_four min_four   -- for this text's walks alone
set_option linter.unusedVariables false
set_option linter.unusedSimpArgs false

theorem d2_1 {p : Prop} (h : p := by first | rfl | (simp; done) | (simp [*]; done) | (simp [ne_nil_b, eq_nil_b]; done)) : p := h
theorem d2_2 {p : Prop} (h : p := by (try simp only [List.map_toArray, List.map_cons, List.map_nil]); first | done | rfl | (simp only [List.length_drop, List.length_take]; rfl)) : p := h
theorem c2_1 {p : Prop} (h : p := by repeat (first | exact Drawn0.refl _ | apply Drawn0.step)) : p := h
theorem c2_2 {p : Prop} (h : p := by first | rfl | (simp; done) | (simp [*]; done) | (simp [ne_nil_b, eq_nil_b]; done)) : p := h
set_option maxHeartbeats 8000000
set_option maxRecDepth 100000
theorem zm2_0 {p : Prop} (h : p := by repeat' first | (with_reducible first | apply ih0 | apply ih1 | apply ih2 | apply spec_l2Sym.mono | exact LeO.refl _ | exact LeO.none _ | refine LeO.ite ?_ ?_ | refine LeO.bind ?_ (fun _ => ?_)) | apply ih0 | apply ih1 | apply ih2 | apply spec_l2Sym.mono | exact LeO.none _ | refine LeO.ite ?_ ?_ | refine LeO.bind ?_ (fun _ => ?_)) : p := h

/-! ### spec_l5Fault: function 35 -/
mutual
def spec_l5Fault.j0 : Nat → Bool → Int → Int → ByteArray → Option (Int)
  | 0, _, _, _, _ => none
  | k + 1, x3, x1000, x1001, x1002 => (spec_l1In.f x1000 1 9).bind fun t117 => (if t117 = true then (if x3 = true then (if x1000 = 4 then (spec_l5Fault.j1 k false x1000 x1001 x1002) else (spec_l5Fault.j1 k (x1002.toList != ([] : List UInt8)) x1000 x1001 x1002)) else (if x1001 = 0 then (if x1000 = 4 then (spec_l5Fault.j1 k false x1000 x1001 x1002) else (spec_l5Fault.j1 k (x1002.toList != ([] : List UInt8)) x1000 x1001 x1002)) else (spec_l5Fault.j1 k true x1000 x1001 x1002))) else (spec_l5Fault.j1 k true x1000 x1001 x1002))
def spec_l5Fault.j1 : Nat → Bool → Int → Int → ByteArray → Option (Int)
  | 0, _, _, _, _ => none
  | k + 1, x53, x1000, x1001, x1002 => if x53 = true then (some 1) else (if x1000 = 1 then ((spec_l1Num.f x1001).bind fun t119 => (if t119 = true then (if x1000 = 2 then ((spec_l1In.f x1001 0 1).bind fun t120 => (if t120 = true then ((spec_l5Placed.f x1000).bind fun t121 => (if t121 = true then ((spec_l1In.f x1001 0 99999).bind fun t122 => (spec_l5Fault.j2 k (!t122) x1000 x1001 x1002)) else (spec_l5Fault.j2 k false x1000 x1001 x1002))) else (spec_l5Fault.j2 k true x1000 x1001 x1002))) else ((spec_l5Placed.f x1000).bind fun t123 => (if t123 = true then ((spec_l1In.f x1001 0 99999).bind fun t124 => (spec_l5Fault.j2 k (!t124) x1000 x1001 x1002)) else (spec_l5Fault.j2 k false x1000 x1001 x1002)))) else (spec_l5Fault.j2 k true x1000 x1001 x1002))) else (if x1000 = 2 then ((spec_l1In.f x1001 0 1).bind fun t125 => (if t125 = true then ((spec_l5Placed.f x1000).bind fun t126 => (if t126 = true then ((spec_l1In.f x1001 0 99999).bind fun t127 => (spec_l5Fault.j2 k (!t127) x1000 x1001 x1002)) else (spec_l5Fault.j2 k false x1000 x1001 x1002))) else (spec_l5Fault.j2 k true x1000 x1001 x1002))) else ((spec_l5Placed.f x1000).bind fun t128 => (if t128 = true then ((spec_l1In.f x1001 0 99999).bind fun t129 => (spec_l5Fault.j2 k (!t129) x1000 x1001 x1002)) else (spec_l5Fault.j2 k false x1000 x1001 x1002)))))
def spec_l5Fault.j2 : Nat → Bool → Int → Int → ByteArray → Option (Int)
  | 0, _, _, _, _ => none
  | k + 1, x96, x1000, x1001, x1002 => if x96 = true then (some 3) else (if x1000 = 4 then ((spec_l2Sym.f k x1002).bind fun t131 => (if t131 = true then (some 0) else (some 5))) else (some 0))
end
def spec_l5Fault.f (k : Nat) (a0_0 : Int) (a0_1 : Int) (a0_2 : ByteArray) : Option (Int) := if a0_0 = 1 then (spec_l5Fault.j0 k true a0_0 a0_1 a0_2) else (if a0_0 = 2 then (spec_l5Fault.j0 k true a0_0 a0_1 a0_2) else ((spec_l5Placed.f a0_0).bind fun t115 => (spec_l5Fault.j0 k t115 a0_0 a0_1 a0_2)))
theorem spec_l5Fault.mono_l : ∀ k, (∀ y0 y1 y2 y3, LeO (spec_l5Fault.j0 k y0 y1 y2 y3) (spec_l5Fault.j0 (k + 1) y0 y1 y2 y3)) ∧ (∀ y0 y1 y2 y3, LeO (spec_l5Fault.j1 k y0 y1 y2 y3) (spec_l5Fault.j1 (k + 1) y0 y1 y2 y3)) ∧ (∀ y0 y1 y2 y3, LeO (spec_l5Fault.j2 k y0 y1 y2 y3) (spec_l5Fault.j2 (k + 1) y0 y1 y2 y3))
  | 0 => ⟨fun _ _ _ _ r h => by simp [spec_l5Fault.j0] at h, fun _ _ _ _ r h => by simp [spec_l5Fault.j1] at h, fun _ _ _ _ r h => by simp [spec_l5Fault.j2] at h⟩
  | k + 1 => by
    obtain ⟨ih0, ih1, ih2⟩ := spec_l5Fault.mono_l k; refine ⟨?_, ?_, ?_⟩
    all_goals
      intros
      first | unfold spec_l5Fault.j0 | unfold spec_l5Fault.j1 | unfold spec_l5Fault.j2
      exact zm2_0
theorem spec_l5Fault.mono : ∀ a0 a1 a2 k, LeO (spec_l5Fault.f k a0 a1 a2) (spec_l5Fault.f (k + 1) a0 a1 a2) := by
  intro a0 a1 a2 k; obtain ⟨ih0, ih1, ih2⟩ := spec_l5Fault.mono_l k; unfold spec_l5Fault.f
  exact zm2_0
theorem spec_l5Fault.calls (k : Nat) (P0_ : Addr) (a0_0 : Int) (a0_1 : Int) (a0_2 : ByteArray) (r : Int) (w : World) (hq0_0 : w.cell? P0_ = some (.int .i64 a0_0)) (hq0_1 : w.cell? ⟨P0_.block, P0_.off + 1, none⟩ = some (.int .i64 a0_1)) (hq0_2 : w.cell? ⟨P0_.block, P0_.off + 2, none⟩ = some (.string a0_2)) (h : spec_l5Fault.f k a0_0 a0_1 a0_2 = some r) :
    Calls Tryd.prog 35 #[.pointer (some P0_)] w fun e w' => e = .returned (.int .i64 r) ∧ Drawn0 w w' := by
  have HQ0_0 := ak hq0_0; clear hq0_0; have HQ0_1 := ak hq0_1; clear hq0_1; have HQ0_2 := ak hq0_2; clear hq0_2; have H := h; clear h; unfold spec_l5Fault.f at H; have HC2 := ak H; clear H; go_enter Tryd.func35, Tryd.ntmps35; go_upto_region 1 with (fail); go_cut [3] (fun v3 wc => ∃ (kq : Nat) (x3_1 : Bool), v3 = .bool x3_1 ∧ Aside0 (spec_l5Fault.j0 kq x3_1 a0_0 a0_1 a0_2 = some r) ∧ Aside0 (kq ≤ k) ∧ Drawn0 w wc)
  case first =>
   have H := HC2.out; clear HC2; by_cases c3 : a0_0 = 1
   ·rw [if_pos c3] at H
    obtain ⟨c3b0, c3b1⟩ := zbt_ c3; clear c3
    (first | rw [c3b0] | (simp only [i64_w, i32_w]; rw [c3b0]) | skip)
    have H' := ak H; clear H; have hx114_0 := HQ0_0.out; have hx114_1 := HQ0_1.out; have hx114_2 := HQ0_2.out; go_wp2; go_meet
    case rel => exact ⟨_, (true), d2_1, H', ⟨by first | exact Nat.le_refl _ | omega⟩, c2_1⟩
   ·rw [if_neg c3] at H
    obtain ⟨c3b0, c3b1⟩ := zbf_ c3
    (first | rw [c3b0] | (simp only [i64_w, i32_w]; rw [c3b0]) | skip)
    by_cases c4 : a0_0 = 2
    ·rw [if_pos c4] at H
     obtain ⟨c4b0, c4b1⟩ := zbt_ c4; clear c4; have H' := ak H; clear H; have hx114_0 := HQ0_0.out; have hx114_1 := HQ0_1.out; have hx114_2 := HQ0_2.out; go_wp2; go_meet
     case rel => exact ⟨_, (true), d2_1, H', ⟨by first | exact Nat.le_refl _ | omega⟩, c2_1⟩
    ·rw [if_neg c4] at H
     obtain ⟨c4b0, c4b1⟩ := zbf_ c4; obtain ⟨t115, A5, H⟩ := zbi_ H; (try dsimp -simprocs only at H); have H' := ak H; clear H; have hx114_0 := HQ0_0.out; have hx114_1 := HQ0_1.out; have hx114_2 := HQ0_2.out; go_wp2_with (first | (go_at_call 50; (with_reducible refine (spec_l5Placed.calls a0_0 t115 _ A5.out).mono ?_); rintro e w' ⟨rfl, ⟨nd, rfl⟩⟩)); go_meet
     case rel => exact ⟨_, (t115), d2_1, H', ⟨by first | exact Nat.le_refl _ | omega⟩, c2_1⟩
  case rest =>
   clear HC2
   try clear c3
   obtain ⟨kq, x3_1, rfl, HA, HJ1, ⟨mc1, rfl⟩⟩ := hcut
   cases kq with
   | zero => exact absurd HA.out (by simp [spec_l5Fault.j0])
   | succ kj1 =>
    have H := HA.out; clear HA; simp only [spec_l5Fault.j0] at H; have HC6 := ak H; clear H; go_upto_region 2 with (fail); go_cut [53] (fun v53 wc => ∃ (kq : Nat) (x53_5 : Bool), v53 = .bool x53_5 ∧ Aside0 (spec_l5Fault.j1 kq x53_5 a0_0 a0_1 a0_2 = some r) ∧ Aside0 (kq ≤ kj1) ∧ Drawn0 w wc)
    case first =>
     have H := HC6.out; clear HC6; obtain ⟨t117, A7, H⟩ := zbi_ H; (try dsimp -simprocs only at H); by_cases c8 : t117 = true
     ·subst c8
      rw [if_pos rfl] at H; by_cases c9 : x3_1 = true
      ·subst c9
       rw [if_pos rfl] at H; by_cases c10 : a0_0 = 4
       ·rw [if_pos c10] at H
        obtain ⟨c10b0, c10b1⟩ := zbt_ c10; clear c10
        (first | rw [c10b0] | (simp only [i64_w, i32_w]; rw [c10b0]) | skip)
        have H' := ak H; clear H; have hx116_0 := HQ0_0.out; have hx116_1 := HQ0_1.out; have hx116_2 := HQ0_2.out; go_wp2_with (first | ((with_reducible refine gate_callee (f := 39) rfl ?_); refine zgo_ 27 Tryd.func39 #[.int .i64 a0_0, .int .i64 1, .int .i64 9] ?_ (e := d2_2); (with_reducible refine (spec_l1In.calls a0_0 1 9 true _ A7.out).mono ?_); rintro e w' ⟨rfl, ⟨nd, rfl⟩⟩; refine ⟨_, rfl, ?_⟩)); go_meet
        case rel => exact ⟨_, (false), d2_1, H', ⟨by have := HJ1.out; first | exact Nat.le_refl _ | omega⟩, c2_1⟩
       ·rw [if_neg c10] at H
        obtain ⟨c10b0, c10b1⟩ := zbf_ c10
        (first | rw [c10b0] | (simp only [i64_w, i32_w]; rw [c10b0]) | skip)
        have H' := ak H; clear H; have hx116_0 := HQ0_0.out; have hx116_1 := HQ0_1.out; have hx116_2 := HQ0_2.out; go_wp2_with (first | ((with_reducible refine gate_callee (f := 39) rfl ?_); refine zgo_ 27 Tryd.func39 #[.int .i64 a0_0, .int .i64 1, .int .i64 9] ?_ (e := d2_2); (with_reducible refine (spec_l1In.calls a0_0 1 9 true _ A7.out).mono ?_); rintro e w' ⟨rfl, ⟨nd, rfl⟩⟩; refine ⟨_, rfl, ?_⟩)); go_meet
        case rel => exact ⟨_, ((a0_2.toList != ([] : List UInt8))), d2_1, H', ⟨by have := HJ1.out; first | exact Nat.le_refl _ | omega⟩, c2_1⟩
      ·replace c9 := Bool.eq_false_iff.mpr c9
       subst c9; rw [if_neg (show ¬ (false = true) by decide)] at H; by_cases c11 : a0_1 = 0
       ·rw [if_pos c11] at H
        obtain ⟨c11b0, c11b1⟩ := zbt_ c11; clear c11; by_cases c12 : a0_0 = 4
        ·rw [if_pos c12] at H
         obtain ⟨c12b0, c12b1⟩ := zbt_ c12; clear c12; have H' := ak H; clear H; have hx116_0 := HQ0_0.out; have hx116_1 := HQ0_1.out; have hx116_2 := HQ0_2.out; go_wp2_with (first | ((with_reducible refine gate_callee (f := 39) rfl ?_); refine zgo_ 27 Tryd.func39 #[.int .i64 a0_0, .int .i64 1, .int .i64 9] ?_ (e := d2_2); (with_reducible refine (spec_l1In.calls a0_0 1 9 true _ A7.out).mono ?_); rintro e w' ⟨rfl, ⟨nd, rfl⟩⟩; refine ⟨_, rfl, ?_⟩)); go_meet
         case rel => exact ⟨_, (false), d2_1, H', ⟨by have := HJ1.out; first | exact Nat.le_refl _ | omega⟩, c2_1⟩
        ·rw [if_neg c12] at H
         obtain ⟨c12b0, c12b1⟩ := zbf_ c12; have H' := ak H; clear H; have hx116_0 := HQ0_0.out; have hx116_1 := HQ0_1.out; have hx116_2 := HQ0_2.out; go_wp2_with (first | ((with_reducible refine gate_callee (f := 39) rfl ?_); refine zgo_ 27 Tryd.func39 #[.int .i64 a0_0, .int .i64 1, .int .i64 9] ?_ (e := d2_2); (with_reducible refine (spec_l1In.calls a0_0 1 9 true _ A7.out).mono ?_); rintro e w' ⟨rfl, ⟨nd, rfl⟩⟩; refine ⟨_, rfl, ?_⟩)); go_meet
         case rel => exact ⟨_, ((a0_2.toList != ([] : List UInt8))), d2_1, H', ⟨by have := HJ1.out; first | exact Nat.le_refl _ | omega⟩, c2_1⟩
       ·rw [if_neg c11] at H
        obtain ⟨c11b0, c11b1⟩ := zbf_ c11; have H' := ak H; clear H; have hx116_0 := HQ0_0.out; have hx116_1 := HQ0_1.out; have hx116_2 := HQ0_2.out; go_wp2_with (first | ((with_reducible refine gate_callee (f := 39) rfl ?_); refine zgo_ 27 Tryd.func39 #[.int .i64 a0_0, .int .i64 1, .int .i64 9] ?_ (e := d2_2); (with_reducible refine (spec_l1In.calls a0_0 1 9 true _ A7.out).mono ?_); rintro e w' ⟨rfl, ⟨nd, rfl⟩⟩; refine ⟨_, rfl, ?_⟩)); go_meet
        case rel => exact ⟨_, (true), d2_1, H', ⟨by have := HJ1.out; first | exact Nat.le_refl _ | omega⟩, c2_1⟩
     ·replace c8 := Bool.eq_false_iff.mpr c8
      subst c8; rw [if_neg (show ¬ (false = true) by decide)] at H; have H' := ak H; clear H; have hx116_0 := HQ0_0.out; have hx116_1 := HQ0_1.out; have hx116_2 := HQ0_2.out; go_wp2_with (first | ((with_reducible refine gate_callee (f := 39) rfl ?_); refine zgo_ 27 Tryd.func39 #[.int .i64 a0_0, .int .i64 1, .int .i64 9] ?_ (e := d2_2); (with_reducible refine (spec_l1In.calls a0_0 1 9 false _ A7.out).mono ?_); rintro e w' ⟨rfl, ⟨nd, rfl⟩⟩; refine ⟨_, rfl, ?_⟩)); go_meet
      case rel => exact ⟨_, (true), d2_1, H', ⟨by have := HJ1.out; first | exact Nat.le_refl _ | omega⟩, c2_1⟩
    case rest =>
     clear HC6
     (try clear c1); (try clear hx1); (try clear p2); (try clear c3 c3b0 c3b1); (try clear c4 c4b0 c4b1); (try clear hx11); (try clear hx114_0); (try clear hx114_1); (try clear hx114_2)
     obtain ⟨kq, x53_5, rfl, HA, HJ5, ⟨mc5, rfl⟩⟩ := hcut
     cases kq with
     | zero => exact absurd HA.out (by simp [spec_l5Fault.j1])
     | succ kj5 =>
      have H := HA.out; clear HA; simp only [spec_l5Fault.j1] at H; by_cases c13 : x53_5 = true
      ·subst c13
       rw [if_pos rfl] at H; obtain rfl := Option.some.inj H; go_wp2; go_ret; exact ⟨c2_2, c2_1⟩
      ·replace c13 := Bool.eq_false_iff.mpr c13
       subst c13; rw [if_neg (show ¬ (false = true) by decide)] at H; have HC14 := ak H; clear H; go_upto_region 4 with (fail); go_cut [96] (fun v96 wc => ∃ (kq : Nat) (x96_13 : Bool), v96 = .bool x96_13 ∧ Aside0 (spec_l5Fault.j2 kq x96_13 a0_0 a0_1 a0_2 = some r) ∧ Aside0 (kq ≤ kj5) ∧ Drawn0 w wc)
       case first =>
        have H := HC14.out; clear HC14; by_cases c15 : a0_0 = 1
        ·rw [if_pos c15] at H
         obtain ⟨c15b0, c15b1⟩ := zbt_ c15; clear c15
         (first | rw [c15b0] | (simp only [i64_w, i32_w]; rw [c15b0]) | skip)
         obtain ⟨t119, A16, H⟩ := zbi_ H; (try dsimp -simprocs only at H); by_cases c17 : t119 = true
         ·subst c17
          rw [if_pos rfl] at H; by_cases c18 : a0_0 = 2
          ·rw [if_pos c18] at H
           obtain ⟨c18b0, c18b1⟩ := zbt_ c18; clear c18; obtain ⟨t120, A19, H⟩ := zbi_ H; (try dsimp -simprocs only at H); by_cases c20 : t120 = true
           ·subst c20
            rw [if_pos rfl] at H; obtain ⟨t121, A21, H⟩ := zbi_ H; (try dsimp -simprocs only at H); by_cases c22 : t121 = true
            ·subst c22
             rw [if_pos rfl] at H; obtain ⟨t122, A23, H⟩ := zbi_ H; (try dsimp -simprocs only at H); have H' := ak H; clear H; have hx118_0 := HQ0_0.out; have hx118_1 := HQ0_1.out; have hx118_2 := HQ0_2.out; go_wp2_with (first | (go_at_call 38; (with_reducible refine (spec_l1Num.calls a0_1 true _ A16.out).mono ?_); rintro e w' ⟨rfl, ⟨nd, rfl⟩⟩) | (go_at_call 39; (with_reducible refine (spec_l1In.calls a0_1 0 1 true _ A19.out).mono ?_); rintro e w' ⟨rfl, ⟨nd, rfl⟩⟩) | (go_at_call 50; (with_reducible refine (spec_l5Placed.calls a0_0 true _ A21.out).mono ?_); rintro e w' ⟨rfl, ⟨nd, rfl⟩⟩) | (go_at_call 39; (with_reducible refine (spec_l1In.calls a0_1 0 99999 t122 _ A23.out).mono ?_); rintro e w' ⟨rfl, ⟨nd, rfl⟩⟩)); go_meet
             case rel => exact ⟨_, (!t122), d2_1, H', ⟨by have := HJ1.out; have := HJ5.out; first | exact Nat.le_refl _ | omega⟩, c2_1⟩
            ·replace c22 := Bool.eq_false_iff.mpr c22
             subst c22; rw [if_neg (show ¬ (false = true) by decide)] at H; have H' := ak H; clear H; have hx118_0 := HQ0_0.out; have hx118_1 := HQ0_1.out; have hx118_2 := HQ0_2.out; go_wp2_with (first | (go_at_call 38; (with_reducible refine (spec_l1Num.calls a0_1 true _ A16.out).mono ?_); rintro e w' ⟨rfl, ⟨nd, rfl⟩⟩) | (go_at_call 39; (with_reducible refine (spec_l1In.calls a0_1 0 1 true _ A19.out).mono ?_); rintro e w' ⟨rfl, ⟨nd, rfl⟩⟩) | (go_at_call 50; (with_reducible refine (spec_l5Placed.calls a0_0 false _ A21.out).mono ?_); rintro e w' ⟨rfl, ⟨nd, rfl⟩⟩)); go_meet
             case rel => exact ⟨_, (false), d2_1, H', ⟨by have := HJ1.out; have := HJ5.out; first | exact Nat.le_refl _ | omega⟩, c2_1⟩
           ·replace c20 := Bool.eq_false_iff.mpr c20
            subst c20; rw [if_neg (show ¬ (false = true) by decide)] at H; have H' := ak H; clear H; have hx118_0 := HQ0_0.out; have hx118_1 := HQ0_1.out; have hx118_2 := HQ0_2.out; go_wp2_with (first | (go_at_call 38; (with_reducible refine (spec_l1Num.calls a0_1 true _ A16.out).mono ?_); rintro e w' ⟨rfl, ⟨nd, rfl⟩⟩) | (go_at_call 39; (with_reducible refine (spec_l1In.calls a0_1 0 1 false _ A19.out).mono ?_); rintro e w' ⟨rfl, ⟨nd, rfl⟩⟩)); go_meet
            case rel => exact ⟨_, (true), d2_1, H', ⟨by have := HJ1.out; have := HJ5.out; first | exact Nat.le_refl _ | omega⟩, c2_1⟩
          ·rw [if_neg c18] at H
           obtain ⟨c18b0, c18b1⟩ := zbf_ c18; obtain ⟨t123, A24, H⟩ := zbi_ H; (try dsimp -simprocs only at H); by_cases c25 : t123 = true
           ·subst c25
            rw [if_pos rfl] at H; obtain ⟨t124, A26, H⟩ := zbi_ H; (try dsimp -simprocs only at H); have H' := ak H; clear H; have hx118_0 := HQ0_0.out; have hx118_1 := HQ0_1.out; have hx118_2 := HQ0_2.out; go_wp2_with (first | (go_at_call 38; (with_reducible refine (spec_l1Num.calls a0_1 true _ A16.out).mono ?_); rintro e w' ⟨rfl, ⟨nd, rfl⟩⟩) | (go_at_call 50; (with_reducible refine (spec_l5Placed.calls a0_0 true _ A24.out).mono ?_); rintro e w' ⟨rfl, ⟨nd, rfl⟩⟩) | (go_at_call 39; (with_reducible refine (spec_l1In.calls a0_1 0 99999 t124 _ A26.out).mono ?_); rintro e w' ⟨rfl, ⟨nd, rfl⟩⟩)); go_meet
            case rel => exact ⟨_, (!t124), d2_1, H', ⟨by have := HJ1.out; have := HJ5.out; first | exact Nat.le_refl _ | omega⟩, c2_1⟩
           ·replace c25 := Bool.eq_false_iff.mpr c25
            subst c25; rw [if_neg (show ¬ (false = true) by decide)] at H; have H' := ak H; clear H; have hx118_0 := HQ0_0.out; have hx118_1 := HQ0_1.out; have hx118_2 := HQ0_2.out; go_wp2_with (first | (go_at_call 38; (with_reducible refine (spec_l1Num.calls a0_1 true _ A16.out).mono ?_); rintro e w' ⟨rfl, ⟨nd, rfl⟩⟩) | (go_at_call 50; (with_reducible refine (spec_l5Placed.calls a0_0 false _ A24.out).mono ?_); rintro e w' ⟨rfl, ⟨nd, rfl⟩⟩)); go_meet
            case rel => exact ⟨_, (false), d2_1, H', ⟨by have := HJ1.out; have := HJ5.out; first | exact Nat.le_refl _ | omega⟩, c2_1⟩
         ·replace c17 := Bool.eq_false_iff.mpr c17
          subst c17; rw [if_neg (show ¬ (false = true) by decide)] at H; have H' := ak H; clear H; have hx118_0 := HQ0_0.out; have hx118_1 := HQ0_1.out; have hx118_2 := HQ0_2.out; go_wp2_with (first | (go_at_call 38; (with_reducible refine (spec_l1Num.calls a0_1 false _ A16.out).mono ?_); rintro e w' ⟨rfl, ⟨nd, rfl⟩⟩)); go_meet
          case rel => exact ⟨_, (true), d2_1, H', ⟨by have := HJ1.out; have := HJ5.out; first | exact Nat.le_refl _ | omega⟩, c2_1⟩
        ·rw [if_neg c15] at H
         obtain ⟨c15b0, c15b1⟩ := zbf_ c15
         (first | rw [c15b0] | (simp only [i64_w, i32_w]; rw [c15b0]) | skip)
         by_cases c27 : a0_0 = 2
         ·rw [if_pos c27] at H
          obtain ⟨c27b0, c27b1⟩ := zbt_ c27; clear c27; obtain ⟨t125, A28, H⟩ := zbi_ H; (try dsimp -simprocs only at H); by_cases c29 : t125 = true
          ·subst c29
           rw [if_pos rfl] at H; obtain ⟨t126, A30, H⟩ := zbi_ H; (try dsimp -simprocs only at H); by_cases c31 : t126 = true
           ·subst c31
            rw [if_pos rfl] at H; obtain ⟨t127, A32, H⟩ := zbi_ H; (try dsimp -simprocs only at H); have H' := ak H; clear H; have hx118_0 := HQ0_0.out; have hx118_1 := HQ0_1.out; have hx118_2 := HQ0_2.out; go_wp2_with (first | (go_at_call 39; (with_reducible refine (spec_l1In.calls a0_1 0 1 true _ A28.out).mono ?_); rintro e w' ⟨rfl, ⟨nd, rfl⟩⟩) | (go_at_call 50; (with_reducible refine (spec_l5Placed.calls a0_0 true _ A30.out).mono ?_); rintro e w' ⟨rfl, ⟨nd, rfl⟩⟩) | (go_at_call 39; (with_reducible refine (spec_l1In.calls a0_1 0 99999 t127 _ A32.out).mono ?_); rintro e w' ⟨rfl, ⟨nd, rfl⟩⟩)); go_meet
            case rel => exact ⟨_, (!t127), d2_1, H', ⟨by have := HJ1.out; have := HJ5.out; first | exact Nat.le_refl _ | omega⟩, c2_1⟩
           ·replace c31 := Bool.eq_false_iff.mpr c31
            subst c31; rw [if_neg (show ¬ (false = true) by decide)] at H; have H' := ak H; clear H; have hx118_0 := HQ0_0.out; have hx118_1 := HQ0_1.out; have hx118_2 := HQ0_2.out; go_wp2_with (first | (go_at_call 39; (with_reducible refine (spec_l1In.calls a0_1 0 1 true _ A28.out).mono ?_); rintro e w' ⟨rfl, ⟨nd, rfl⟩⟩) | (go_at_call 50; (with_reducible refine (spec_l5Placed.calls a0_0 false _ A30.out).mono ?_); rintro e w' ⟨rfl, ⟨nd, rfl⟩⟩)); go_meet
            case rel => exact ⟨_, (false), d2_1, H', ⟨by have := HJ1.out; have := HJ5.out; first | exact Nat.le_refl _ | omega⟩, c2_1⟩
          ·replace c29 := Bool.eq_false_iff.mpr c29
           subst c29; rw [if_neg (show ¬ (false = true) by decide)] at H; have H' := ak H; clear H; have hx118_0 := HQ0_0.out; have hx118_1 := HQ0_1.out; have hx118_2 := HQ0_2.out; go_wp2_with (first | (go_at_call 39; (with_reducible refine (spec_l1In.calls a0_1 0 1 false _ A28.out).mono ?_); rintro e w' ⟨rfl, ⟨nd, rfl⟩⟩)); go_meet
           case rel => exact ⟨_, (true), d2_1, H', ⟨by have := HJ1.out; have := HJ5.out; first | exact Nat.le_refl _ | omega⟩, c2_1⟩
         ·rw [if_neg c27] at H
          obtain ⟨c27b0, c27b1⟩ := zbf_ c27; obtain ⟨t128, A33, H⟩ := zbi_ H; (try dsimp -simprocs only at H); by_cases c34 : t128 = true
          ·subst c34
           rw [if_pos rfl] at H; obtain ⟨t129, A35, H⟩ := zbi_ H; (try dsimp -simprocs only at H); have H' := ak H; clear H; have hx118_0 := HQ0_0.out; have hx118_1 := HQ0_1.out; have hx118_2 := HQ0_2.out; go_wp2_with (first | (go_at_call 50; (with_reducible refine (spec_l5Placed.calls a0_0 true _ A33.out).mono ?_); rintro e w' ⟨rfl, ⟨nd, rfl⟩⟩) | (go_at_call 39; (with_reducible refine (spec_l1In.calls a0_1 0 99999 t129 _ A35.out).mono ?_); rintro e w' ⟨rfl, ⟨nd, rfl⟩⟩)); go_meet
           case rel => exact ⟨_, (!t129), d2_1, H', ⟨by have := HJ1.out; have := HJ5.out; first | exact Nat.le_refl _ | omega⟩, c2_1⟩
          ·replace c34 := Bool.eq_false_iff.mpr c34
           subst c34; rw [if_neg (show ¬ (false = true) by decide)] at H; have H' := ak H; clear H; have hx118_0 := HQ0_0.out; have hx118_1 := HQ0_1.out; have hx118_2 := HQ0_2.out; go_wp2_with (first | (go_at_call 50; (with_reducible refine (spec_l5Placed.calls a0_0 false _ A33.out).mono ?_); rintro e w' ⟨rfl, ⟨nd, rfl⟩⟩)); go_meet
           case rel => exact ⟨_, (false), d2_1, H', ⟨by have := HJ1.out; have := HJ5.out; first | exact Nat.le_refl _ | omega⟩, c2_1⟩
       case rest =>
        clear HC14
        (try clear c1); (try clear hx1); (try clear p2 p2); (try clear c3 c3b0 c3b1); (try clear c4 c4b0 c4b1); (try clear c5); (try clear c8); (try clear c9); (try clear c10 c10b0 c10b1); (try clear c11 c11b0 c11b1); (try clear hx11); (try clear c12 c12b0 c12b1); (try clear c13); (try clear c35); (try clear hx114_0); (try clear hx114_1); (try clear hx114_2); (try clear hx116_0); (try clear hx116_1); (try clear hx116_2)
        obtain ⟨kq, x96_13, rfl, HA, HJ13, ⟨mc13, rfl⟩⟩ := hcut
        cases kq with
        | zero => exact absurd HA.out (by simp [spec_l5Fault.j2])
        | succ kj13 =>
         have H := HA.out; clear HA; simp only [spec_l5Fault.j2] at H; by_cases c36 : x96_13 = true
         ·subst c36
          rw [if_pos rfl] at H; obtain rfl := Option.some.inj H; go_wp2; go_ret; exact ⟨c2_2, c2_1⟩
         ·replace c36 := Bool.eq_false_iff.mpr c36
          subst c36; rw [if_neg (show ¬ (false = true) by decide)] at H; by_cases c37 : a0_0 = 4
          ·rw [if_pos c37] at H
           obtain ⟨c37b0, c37b1⟩ := zbt_ c37; clear c37; obtain ⟨t131, A38, H⟩ := zbi_ H; (try dsimp -simprocs only at H); by_cases c39 : t131 = true
           ·subst c39
            rw [if_pos rfl] at H; obtain rfl := Option.some.inj H; have hx130_0 := HQ0_0.out; have hx130_1 := HQ0_1.out; have hx130_2 := HQ0_2.out; go_wp2_with (first | (go_at_call 40; (with_reducible refine (spec_l2Sym.calls kj13 a0_2 true _ A38.out).mono ?_); rintro e w' ⟨rfl, ⟨nd, rfl⟩⟩)); go_ret; exact ⟨c2_2, c2_1⟩
           ·replace c39 := Bool.eq_false_iff.mpr c39
            subst c39; rw [if_neg (show ¬ (false = true) by decide)] at H; obtain rfl := Option.some.inj H; have hx130_0 := HQ0_0.out; have hx130_1 := HQ0_1.out; have hx130_2 := HQ0_2.out; go_wp2_with (first | (go_at_call 40; (with_reducible refine (spec_l2Sym.calls kj13 a0_2 false _ A38.out).mono ?_); rintro e w' ⟨rfl, ⟨nd, rfl⟩⟩)); go_ret; exact ⟨c2_2, c2_1⟩
          ·rw [if_neg c37] at H
           obtain ⟨c37b0, c37b1⟩ := zbf_ c37; obtain rfl := Option.some.inj H; have hx130_0 := HQ0_0.out; have hx130_1 := HQ0_1.out; have hx130_2 := HQ0_2.out; go_wp2; go_ret; exact ⟨c2_2, c2_1⟩

/-! ### spec_l5In: function 36 -/
def spec_l5In.f (a0_0 : Int) (a0_1 : Int) (a0_2 : ByteArray) (a1 : Int) : Option (Bool) := if a0_0 = 5 then (some (decide (a0_1 < a1))) else (some true)
theorem spec_l5In.calls (P0_ : Addr) (a0_0 : Int) (a0_1 : Int) (a0_2 : ByteArray) (a1 : Int) (r : Bool) (w : World) (hq0_0 : w.cell? P0_ = some (.int .i64 a0_0)) (hq0_1 : w.cell? ⟨P0_.block, P0_.off + 1, none⟩ = some (.int .i64 a0_1)) (hq0_2 : w.cell? ⟨P0_.block, P0_.off + 2, none⟩ = some (.string a0_2)) (h : spec_l5In.f a0_0 a0_1 a0_2 a1 = some r) :
    Calls Tryd.prog 36 #[.pointer (some P0_), .int .i64 a1] w fun e w' => e = .returned (.bool r) ∧ Drawn0 w w' := by
  have HQ0_0 := ak hq0_0; clear hq0_0; have HQ0_1 := ak hq0_1; clear hq0_1; have HQ0_2 := ak hq0_2; clear hq0_2; have H := h; clear h; unfold spec_l5In.f at H; by_cases c3 : a0_0 = 5
  ·rw [if_pos c3] at H
   obtain ⟨c3b0, c3b1⟩ := zbt_ c3; clear c3; obtain rfl := Option.some.inj H; have hx132_0 := HQ0_0.out; have hx132_1 := HQ0_1.out; have hx132_2 := HQ0_2.out; go_enter Tryd.func36, Tryd.ntmps36; go_wp2; go_ret; exact ⟨c2_2, c2_1⟩
  ·rw [if_neg c3] at H
   obtain ⟨c3b0, c3b1⟩ := zbf_ c3; obtain rfl := Option.some.inj H; have hx132_0 := HQ0_0.out; have hx132_1 := HQ0_1.out; have hx132_2 := HQ0_2.out; go_enter Tryd.func36, Tryd.ntmps36; go_wp2; go_ret; exact ⟨c2_2, c2_1⟩

end Go.Proofs.YtolhanigjmhkgabDoor.A
