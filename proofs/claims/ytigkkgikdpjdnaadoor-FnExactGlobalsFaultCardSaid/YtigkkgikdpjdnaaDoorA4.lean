/- Walks of the program's functions: each Go function's answer as a plain Lean function, and that the call comes to it. Written by a program. Conditions: those in each theorem's own head. -/
import Derived.Test.YtigkkgikdpjdnaaDoorA0
import Derived.Test.YtigkkgikdpjdnaaDoorA1
import Derived.Test.YtigkkgikdpjdnaaDoorA2
import Derived.Test.YtigkkgikdpjdnaaDoorA3
namespace Go.Proofs.YtigkkgikdpjdnaaDoor.A
open Go.RowKit Go.Proofs.YtigkkgikdpjdnaaDoorW.PrintWords Go.Proofs.YtigkkgikdpjdnaaDoorW.PrintLast Go.Proofs.YtigkkgikdpjdnaaDoorW.PrintMore
attribute [local go_sem] max2_int min2_int max_two min_two max_three min_three max_four min_four   -- for this text's walks alone
set_option linter.unusedVariables false
set_option linter.unusedSimpArgs false

/-! ### spec_l5Fault: function 36 -/
mutual
def spec_l5Fault.j0 : Nat → Bool → Int → Int → ByteArray → Option (Int)
  | 0, _, _, _, _ => none
  | k + 1, x3, x1000, x1001, x1002 => (spec_l1In.f x1000 1 9).bind fun t116 => (if t116 = true then (if x3 = true then (if x1000 = 4 then (spec_l5Fault.j1 k false x1000 x1001 x1002) else (spec_l5Fault.j1 k (x1002.toList != ([] : List UInt8)) x1000 x1001 x1002)) else (if x1001 = 0 then (if x1000 = 4 then (spec_l5Fault.j1 k false x1000 x1001 x1002) else (spec_l5Fault.j1 k (x1002.toList != ([] : List UInt8)) x1000 x1001 x1002)) else (spec_l5Fault.j1 k true x1000 x1001 x1002))) else (spec_l5Fault.j1 k true x1000 x1001 x1002))
def spec_l5Fault.j1 : Nat → Bool → Int → Int → ByteArray → Option (Int)
  | 0, _, _, _, _ => none
  | k + 1, x53, x1000, x1001, x1002 => if x53 = true then (some 1) else (if x1000 = 1 then ((spec_l1Num.f x1001).bind fun t124 => (if t124 = true then (if x1000 = 2 then ((spec_l1In.f x1001 0 1).bind fun t127 => (if t127 = true then ((spec_l5Placed.f x1000).bind fun t129 => (if t129 = true then ((spec_l1In.f x1001 0 99999).bind fun t131 => (spec_l5Fault.j2 k (!t131) x1000 x1001 x1002)) else (spec_l5Fault.j2 k false x1000 x1001 x1002))) else (spec_l5Fault.j2 k true x1000 x1001 x1002))) else ((spec_l5Placed.f x1000).bind fun t133 => (if t133 = true then ((spec_l1In.f x1001 0 99999).bind fun t135 => (spec_l5Fault.j2 k (!t135) x1000 x1001 x1002)) else (spec_l5Fault.j2 k false x1000 x1001 x1002)))) else (spec_l5Fault.j2 k true x1000 x1001 x1002))) else (if x1000 = 2 then ((spec_l1In.f x1001 0 1).bind fun t138 => (if t138 = true then ((spec_l5Placed.f x1000).bind fun t140 => (if t140 = true then ((spec_l1In.f x1001 0 99999).bind fun t142 => (spec_l5Fault.j2 k (!t142) x1000 x1001 x1002)) else (spec_l5Fault.j2 k false x1000 x1001 x1002))) else (spec_l5Fault.j2 k true x1000 x1001 x1002))) else ((spec_l5Placed.f x1000).bind fun t144 => (if t144 = true then ((spec_l1In.f x1001 0 99999).bind fun t146 => (spec_l5Fault.j2 k (!t146) x1000 x1001 x1002)) else (spec_l5Fault.j2 k false x1000 x1001 x1002)))))
def spec_l5Fault.j2 : Nat → Bool → Int → Int → ByteArray → Option (Int)
  | 0, _, _, _, _ => none
  | k + 1, x96, x1000, x1001, x1002 => if x96 = true then (some 3) else (if x1000 = 4 then ((spec_l2Sym.f k x1002).bind fun t149 => (if t149 = true then (some 0) else (some 5))) else (some 0))
end
def spec_l5Fault.f (k : Nat) (a0_0 : Int) (a0_1 : Int) (a0_2 : ByteArray) : Option (Int) := if a0_0 = 1 then (spec_l5Fault.j0 k true a0_0 a0_1 a0_2) else (if a0_0 = 2 then (spec_l5Fault.j0 k true a0_0 a0_1 a0_2) else ((spec_l5Placed.f a0_0).bind fun t114 => (spec_l5Fault.j0 k t114 a0_0 a0_1 a0_2)))
theorem spec_l5Fault.mono_l : ∀ k, (∀ y0 y1 y2 y3, LeO (spec_l5Fault.j0 k y0 y1 y2 y3) (spec_l5Fault.j0 (k + 1) y0 y1 y2 y3)) ∧ (∀ y0 y1 y2 y3, LeO (spec_l5Fault.j1 k y0 y1 y2 y3) (spec_l5Fault.j1 (k + 1) y0 y1 y2 y3)) ∧ (∀ y0 y1 y2 y3, LeO (spec_l5Fault.j2 k y0 y1 y2 y3) (spec_l5Fault.j2 (k + 1) y0 y1 y2 y3))
  | 0 => ⟨fun _ _ _ _ r h => by simp [spec_l5Fault.j0] at h, fun _ _ _ _ r h => by simp [spec_l5Fault.j1] at h, fun _ _ _ _ r h => by simp [spec_l5Fault.j2] at h⟩
  | k + 1 => by
    obtain ⟨ih0, ih1, ih2⟩ := spec_l5Fault.mono_l k
    refine ⟨?_, ?_, ?_⟩
    · intro y0 y1 y2 y3
      unfold spec_l5Fault.j0
      repeat' first
      | (with_reducible exact ih0 _ _ _ _)
      | (with_reducible exact ih1 _ _ _ _)
      | (with_reducible exact ih2 _ _ _ _)
      | (with_reducible exact spec_l2Sym.mono _ _)
      | (with_reducible exact LeO.refl _)
      | (with_reducible exact LeO.none _)
      | (with_reducible refine LeO.ite ?_ ?_)
      | (with_reducible refine LeO.bind ?_ (fun _ => ?_))
      | exact ih0 _ _ _ _
      | exact ih1 _ _ _ _
      | exact ih2 _ _ _ _
      | exact spec_l2Sym.mono _ _
      | exact LeO.none _
      | refine LeO.ite ?_ ?_
      | refine LeO.bind ?_ (fun _ => ?_)
    · intro y0 y1 y2 y3
      unfold spec_l5Fault.j1
      repeat' first
      | (with_reducible exact ih0 _ _ _ _)
      | (with_reducible exact ih1 _ _ _ _)
      | (with_reducible exact ih2 _ _ _ _)
      | (with_reducible exact spec_l2Sym.mono _ _)
      | (with_reducible exact LeO.refl _)
      | (with_reducible exact LeO.none _)
      | (with_reducible refine LeO.ite ?_ ?_)
      | (with_reducible refine LeO.bind ?_ (fun _ => ?_))
      | exact ih0 _ _ _ _
      | exact ih1 _ _ _ _
      | exact ih2 _ _ _ _
      | exact spec_l2Sym.mono _ _
      | exact LeO.none _
      | refine LeO.ite ?_ ?_
      | refine LeO.bind ?_ (fun _ => ?_)
    · intro y0 y1 y2 y3
      unfold spec_l5Fault.j2
      repeat' first
      | (with_reducible exact ih0 _ _ _ _)
      | (with_reducible exact ih1 _ _ _ _)
      | (with_reducible exact ih2 _ _ _ _)
      | (with_reducible exact spec_l2Sym.mono _ _)
      | (with_reducible exact LeO.refl _)
      | (with_reducible exact LeO.none _)
      | (with_reducible refine LeO.ite ?_ ?_)
      | (with_reducible refine LeO.bind ?_ (fun _ => ?_))
      | exact ih0 _ _ _ _
      | exact ih1 _ _ _ _
      | exact ih2 _ _ _ _
      | exact spec_l2Sym.mono _ _
      | exact LeO.none _
      | refine LeO.ite ?_ ?_
      | refine LeO.bind ?_ (fun _ => ?_)
theorem spec_l5Fault.mono : ∀ a0 a1 a2 k, LeO (spec_l5Fault.f k a0 a1 a2) (spec_l5Fault.f (k + 1) a0 a1 a2) := by
  intro a0 a1 a2 k
  obtain ⟨ih0, ih1, ih2⟩ := spec_l5Fault.mono_l k
  unfold spec_l5Fault.f
  repeat' first
      | (with_reducible exact ih0 _ _ _ _)
      | (with_reducible exact ih1 _ _ _ _)
      | (with_reducible exact ih2 _ _ _ _)
      | (with_reducible exact spec_l2Sym.mono _ _)
      | (with_reducible exact LeO.refl _)
      | (with_reducible exact LeO.none _)
      | (with_reducible refine LeO.ite ?_ ?_)
      | (with_reducible refine LeO.bind ?_ (fun _ => ?_))
      | exact ih0 _ _ _ _
      | exact ih1 _ _ _ _
      | exact ih2 _ _ _ _
      | exact spec_l2Sym.mono _ _
      | exact LeO.none _
      | refine LeO.ite ?_ ?_
      | refine LeO.bind ?_ (fun _ => ?_)
set_option maxHeartbeats 8000000 in
set_option maxRecDepth 100000 in
theorem spec_l5Fault.calls (k : Nat) (P0_ : Addr) (a0_0 : Int) (a0_1 : Int) (a0_2 : ByteArray) (r : Int) (w : World) (hq0_0 : w.cell? P0_ = some (.int .i64 a0_0)) (hq0_1 : w.cell? ⟨P0_.block, P0_.off + 1, none⟩ = some (.int .i64 a0_1)) (hq0_2 : w.cell? ⟨P0_.block, P0_.off + 2, none⟩ = some (.string a0_2)) (h : spec_l5Fault.f k a0_0 a0_1 a0_2 = some r) :
    Calls Tryd.prog 36 #[.pointer (some P0_)] w fun e w' => e = .returned (.int .i64 r) ∧ Drawn0 w w' := by
  have HQ0_0 := Aside0.mk hq0_0
  clear hq0_0
  have HQ0_1 := Aside0.mk hq0_1
  clear hq0_1
  have HQ0_2 := Aside0.mk hq0_2
  clear hq0_2
  have H : (if a0_0 = 1 then (spec_l5Fault.j0 k true a0_0 a0_1 a0_2) else (if a0_0 = 2 then (spec_l5Fault.j0 k true a0_0 a0_1 a0_2) else ((spec_l5Placed.f a0_0).bind fun t114 => (spec_l5Fault.j0 k t114 a0_0 a0_1 a0_2)))) = some r := h
  clear h
  have HC2 := Aside0.mk H
  clear H
  go_enter Tryd.func36, Tryd.ntmps36
  go_upto_region 1 with (fail)
  go_cut [3] (fun v3 wc => ∃ (kq : Nat) (x3_1 : Bool), v3 = .bool x3_1 ∧ Aside0 (spec_l5Fault.j0 kq x3_1 a0_0 a0_1 a0_2 = some r) ∧ Aside0 (kq ≤ k) ∧ Drawn0 w wc)
  case first =>
    have H := HC2.out
    clear HC2
    by_cases c3 : a0_0 = 1
    · rw [if_pos c3] at H
      have c3b0 : (a0_0 == 1) = true := beq_iff_eq.mpr c3
      have c3b1 : (a0_0 != 1) = false := bne_eq_false_iff_eq.mpr c3
      clear c3
      (first | rw [c3b0] | (simp only [i64_w, i32_w]; rw [c3b0]) | skip)
      have H' := Aside0.mk H
      clear H
      have hx111_0 := HQ0_0.out
      have hx111_1 := HQ0_1.out
      have hx111_2 := HQ0_2.out
      go_wp2
      go_meet
      case rel => exact ⟨_, (true), (by first | rfl | (simp; done) | (simp [*]; done) | (simp [ne_nil_b, eq_nil_b]; done) | (simp [*, ne_nil_b, eq_nil_b]; done)), H', ⟨by first | omega | exact Nat.le_refl _⟩, by repeat (first | exact Drawn0.refl _ | apply Drawn0.step)⟩
    · rw [if_neg c3] at H
      have c3b0 : (a0_0 == 1) = false := beq_eq_false_iff_ne.mpr c3
      have c3b1 : (a0_0 != 1) = true := bne_iff_ne.mpr c3
      (first | rw [c3b0] | (simp only [i64_w, i32_w]; rw [c3b0]) | skip)
      by_cases c4 : a0_0 = 2
      · rw [if_pos c4] at H
        have c4b0 : (a0_0 == 2) = true := beq_iff_eq.mpr c4
        have c4b1 : (a0_0 != 2) = false := bne_eq_false_iff_eq.mpr c4
        clear c4
        have H' := Aside0.mk H
        clear H
        have hx111_0 := HQ0_0.out
        have hx111_1 := HQ0_1.out
        have hx111_2 := HQ0_2.out
        have hx112_0 := HQ0_0.out
        have hx112_1 := HQ0_1.out
        have hx112_2 := HQ0_2.out
        go_wp2
        go_meet
        case rel => exact ⟨_, (true), (by first | rfl | (simp; done) | (simp [*]; done) | (simp [ne_nil_b, eq_nil_b]; done) | (simp [*, ne_nil_b, eq_nil_b]; done)), H', ⟨by first | omega | exact Nat.le_refl _⟩, by repeat (first | exact Drawn0.refl _ | apply Drawn0.step)⟩
      · rw [if_neg c4] at H
        have c4b0 : (a0_0 == 2) = false := beq_eq_false_iff_ne.mpr c4
        have c4b1 : (a0_0 != 2) = true := bne_iff_ne.mpr c4
        replace H := Option.bind_eq_some_iff.mp H
        obtain ⟨t114, A50, H⟩ := H
        replace H : (spec_l5Fault.j0 k t114 a0_0 a0_1 a0_2) = some r := H
        have A5 := Aside0.mk A50
        clear A50
        have H' := Aside0.mk H
        clear H
        have hx111_0 := HQ0_0.out
        have hx111_1 := HQ0_1.out
        have hx111_2 := HQ0_2.out
        have hx112_0 := HQ0_0.out
        have hx112_1 := HQ0_1.out
        have hx112_2 := HQ0_2.out
        have hx113_0 := HQ0_0.out
        have hx113_1 := HQ0_1.out
        have hx113_2 := HQ0_2.out
        go_wp2_with (first | (go_at_call 66; (with_reducible refine (spec_l5Placed.calls a0_0 t114 _ A5.out).mono ?_); rintro e w' ⟨rfl, ⟨nd, rfl⟩⟩))
        go_meet
        case rel => exact ⟨_, (t114), (by first | rfl | (simp; done) | (simp [*]; done) | (simp [ne_nil_b, eq_nil_b]; done) | (simp [*, ne_nil_b, eq_nil_b]; done)), H', ⟨by first | omega | exact Nat.le_refl _⟩, by repeat (first | exact Drawn0.refl _ | apply Drawn0.step)⟩
  case rest =>
    clear HC2
    try clear hx1
    try clear p2
    try clear c3
    try clear c3b0
    try clear c3b1
    try clear c4
    try clear c4b0
    try clear c4b1
    try clear hx111_0
    try clear hx111_1
    try clear hx111_2
    try clear hx112_0
    try clear hx112_1
    try clear hx112_2
    try clear hx113_0
    try clear hx113_1
    try clear hx113_2
    obtain ⟨kq, x3_1, rfl, HA, HJ1, ⟨mc1, rfl⟩⟩ := hcut
    cases kq with
    | zero => exact absurd HA.out (by simp [spec_l5Fault.j0])
    | succ kj1 =>
      have H := HA.out
      clear HA
      simp only [spec_l5Fault.j0] at H
      have HC6 := Aside0.mk H
      clear H
      go_upto_region 2 with (fail)
      go_cut [53] (fun v53 wc => ∃ (kq : Nat) (x53_5 : Bool), v53 = .bool x53_5 ∧ Aside0 (spec_l5Fault.j1 kq x53_5 a0_0 a0_1 a0_2 = some r) ∧ Aside0 (kq ≤ kj1) ∧ Drawn0 w wc)
      case first =>
        have H := HC6.out
        clear HC6
        replace H := Option.bind_eq_some_iff.mp H
        obtain ⟨t116, A70, H⟩ := H
        replace H : (if t116 = true then (if x3_1 = true then (if a0_0 = 4 then (spec_l5Fault.j1 kj1 false a0_0 a0_1 a0_2) else (spec_l5Fault.j1 kj1 (a0_2.toList != ([] : List UInt8)) a0_0 a0_1 a0_2)) else (if a0_1 = 0 then (if a0_0 = 4 then (spec_l5Fault.j1 kj1 false a0_0 a0_1 a0_2) else (spec_l5Fault.j1 kj1 (a0_2.toList != ([] : List UInt8)) a0_0 a0_1 a0_2)) else (spec_l5Fault.j1 kj1 true a0_0 a0_1 a0_2))) else (spec_l5Fault.j1 kj1 true a0_0 a0_1 a0_2)) = some r := H
        have A7 := Aside0.mk A70
        clear A70
        by_cases c8 : t116 = true
        · subst c8
          have H1 : (if x3_1 = true then (if a0_0 = 4 then (spec_l5Fault.j1 kj1 false a0_0 a0_1 a0_2) else (spec_l5Fault.j1 kj1 (a0_2.toList != ([] : List UInt8)) a0_0 a0_1 a0_2)) else (if a0_1 = 0 then (if a0_0 = 4 then (spec_l5Fault.j1 kj1 false a0_0 a0_1 a0_2) else (spec_l5Fault.j1 kj1 (a0_2.toList != ([] : List UInt8)) a0_0 a0_1 a0_2)) else (spec_l5Fault.j1 kj1 true a0_0 a0_1 a0_2))) = some r := by rw [if_pos rfl] at H; exact H
          clear H
          have H := H1
          clear H1
          by_cases c9 : x3_1 = true
          · subst c9
            have H1 : (if a0_0 = 4 then (spec_l5Fault.j1 kj1 false a0_0 a0_1 a0_2) else (spec_l5Fault.j1 kj1 (a0_2.toList != ([] : List UInt8)) a0_0 a0_1 a0_2)) = some r := by rw [if_pos rfl] at H; exact H
            clear H
            have H := H1
            clear H1
            by_cases c10 : a0_0 = 4
            · rw [if_pos c10] at H
              have c10b0 : (a0_0 == 4) = true := beq_iff_eq.mpr c10
              have c10b1 : (a0_0 != 4) = false := bne_eq_false_iff_eq.mpr c10
              clear c10
              (first | rw [c10b0] | (simp only [i64_w, i32_w]; rw [c10b0]) | skip)
              have H' := Aside0.mk H
              clear H
              have hx115_0 := HQ0_0.out
              have hx115_1 := HQ0_1.out
              have hx115_2 := HQ0_2.out
              go_wp2_with (first | ((with_reducible refine gate_callee (f := 58) rfl ?_); refine goesL_ (some 27) rfl rfl Tryd.func58 (by kernel_rfl) rfl #[.int .i64 a0_0, .int .i64 1, .int .i64 9] rfl (by (try simp only [List.map_toArray, List.map_cons, List.map_nil]); first | done | rfl | (simp only [List.length_drop, List.length_take]; rfl)) ?_; (with_reducible refine (spec_l1In.calls a0_0 1 9 true _ A7.out).mono ?_); rintro e w' ⟨rfl, ⟨nd, rfl⟩⟩; refine ⟨_, rfl, ?_⟩; have hx117_0 := HQ0_0.out; have hx117_1 := HQ0_1.out; have hx117_2 := HQ0_2.out))
              go_meet
              case rel => exact ⟨_, (false), (by first | rfl | (simp; done) | (simp [*]; done) | (simp [ne_nil_b, eq_nil_b]; done) | (simp [*, ne_nil_b, eq_nil_b]; done)), H', ⟨by have := HJ1.out; first | omega | exact Nat.le_refl _⟩, by repeat (first | exact Drawn0.refl _ | apply Drawn0.step)⟩
            · rw [if_neg c10] at H
              have c10b0 : (a0_0 == 4) = false := beq_eq_false_iff_ne.mpr c10
              have c10b1 : (a0_0 != 4) = true := bne_iff_ne.mpr c10
              (first | rw [c10b0] | (simp only [i64_w, i32_w]; rw [c10b0]) | skip)
              have H' := Aside0.mk H
              clear H
              have hx115_0 := HQ0_0.out
              have hx115_1 := HQ0_1.out
              have hx115_2 := HQ0_2.out
              go_wp2_with (first | ((with_reducible refine gate_callee (f := 58) rfl ?_); refine goesL_ (some 27) rfl rfl Tryd.func58 (by kernel_rfl) rfl #[.int .i64 a0_0, .int .i64 1, .int .i64 9] rfl (by (try simp only [List.map_toArray, List.map_cons, List.map_nil]); first | done | rfl | (simp only [List.length_drop, List.length_take]; rfl)) ?_; (with_reducible refine (spec_l1In.calls a0_0 1 9 true _ A7.out).mono ?_); rintro e w' ⟨rfl, ⟨nd, rfl⟩⟩; refine ⟨_, rfl, ?_⟩; have hx117_0 := HQ0_0.out; have hx117_1 := HQ0_1.out; have hx117_2 := HQ0_2.out; have hx118_0 := HQ0_0.out; have hx118_1 := HQ0_1.out; have hx118_2 := HQ0_2.out))
              go_meet
              case rel => exact ⟨_, ((a0_2.toList != ([] : List UInt8))), (by first | rfl | (simp; done) | (simp [*]; done) | (simp [ne_nil_b, eq_nil_b]; done) | (simp [*, ne_nil_b, eq_nil_b]; done)), H', ⟨by have := HJ1.out; first | omega | exact Nat.le_refl _⟩, by repeat (first | exact Drawn0.refl _ | apply Drawn0.step)⟩
          · replace c9 := Bool.eq_false_iff.mpr c9
            subst c9
            have H1 : (if a0_1 = 0 then (if a0_0 = 4 then (spec_l5Fault.j1 kj1 false a0_0 a0_1 a0_2) else (spec_l5Fault.j1 kj1 (a0_2.toList != ([] : List UInt8)) a0_0 a0_1 a0_2)) else (spec_l5Fault.j1 kj1 true a0_0 a0_1 a0_2)) = some r := by rw [if_neg (show ¬ (false = true) by decide)] at H; exact H
            clear H
            have H := H1
            clear H1
            by_cases c11 : a0_1 = 0
            · rw [if_pos c11] at H
              have c11b0 : (a0_1 == 0) = true := beq_iff_eq.mpr c11
              have c11b1 : (a0_1 != 0) = false := bne_eq_false_iff_eq.mpr c11
              clear c11
              by_cases c12 : a0_0 = 4
              · rw [if_pos c12] at H
                have c12b0 : (a0_0 == 4) = true := beq_iff_eq.mpr c12
                have c12b1 : (a0_0 != 4) = false := bne_eq_false_iff_eq.mpr c12
                clear c12
                have H' := Aside0.mk H
                clear H
                have hx115_0 := HQ0_0.out
                have hx115_1 := HQ0_1.out
                have hx115_2 := HQ0_2.out
                go_wp2_with (first | ((with_reducible refine gate_callee (f := 58) rfl ?_); refine goesL_ (some 27) rfl rfl Tryd.func58 (by kernel_rfl) rfl #[.int .i64 a0_0, .int .i64 1, .int .i64 9] rfl (by (try simp only [List.map_toArray, List.map_cons, List.map_nil]); first | done | rfl | (simp only [List.length_drop, List.length_take]; rfl)) ?_; (with_reducible refine (spec_l1In.calls a0_0 1 9 true _ A7.out).mono ?_); rintro e w' ⟨rfl, ⟨nd, rfl⟩⟩; refine ⟨_, rfl, ?_⟩; have hx119_0 := HQ0_0.out; have hx119_1 := HQ0_1.out; have hx119_2 := HQ0_2.out; have hx120_0 := HQ0_0.out; have hx120_1 := HQ0_1.out; have hx120_2 := HQ0_2.out))
                go_meet
                case rel => exact ⟨_, (false), (by first | rfl | (simp; done) | (simp [*]; done) | (simp [ne_nil_b, eq_nil_b]; done) | (simp [*, ne_nil_b, eq_nil_b]; done)), H', ⟨by have := HJ1.out; first | omega | exact Nat.le_refl _⟩, by repeat (first | exact Drawn0.refl _ | apply Drawn0.step)⟩
              · rw [if_neg c12] at H
                have c12b0 : (a0_0 == 4) = false := beq_eq_false_iff_ne.mpr c12
                have c12b1 : (a0_0 != 4) = true := bne_iff_ne.mpr c12
                have H' := Aside0.mk H
                clear H
                have hx115_0 := HQ0_0.out
                have hx115_1 := HQ0_1.out
                have hx115_2 := HQ0_2.out
                go_wp2_with (first | ((with_reducible refine gate_callee (f := 58) rfl ?_); refine goesL_ (some 27) rfl rfl Tryd.func58 (by kernel_rfl) rfl #[.int .i64 a0_0, .int .i64 1, .int .i64 9] rfl (by (try simp only [List.map_toArray, List.map_cons, List.map_nil]); first | done | rfl | (simp only [List.length_drop, List.length_take]; rfl)) ?_; (with_reducible refine (spec_l1In.calls a0_0 1 9 true _ A7.out).mono ?_); rintro e w' ⟨rfl, ⟨nd, rfl⟩⟩; refine ⟨_, rfl, ?_⟩; have hx119_0 := HQ0_0.out; have hx119_1 := HQ0_1.out; have hx119_2 := HQ0_2.out; have hx120_0 := HQ0_0.out; have hx120_1 := HQ0_1.out; have hx120_2 := HQ0_2.out; have hx121_0 := HQ0_0.out; have hx121_1 := HQ0_1.out; have hx121_2 := HQ0_2.out))
                go_meet
                case rel => exact ⟨_, ((a0_2.toList != ([] : List UInt8))), (by first | rfl | (simp; done) | (simp [*]; done) | (simp [ne_nil_b, eq_nil_b]; done) | (simp [*, ne_nil_b, eq_nil_b]; done)), H', ⟨by have := HJ1.out; first | omega | exact Nat.le_refl _⟩, by repeat (first | exact Drawn0.refl _ | apply Drawn0.step)⟩
            · rw [if_neg c11] at H
              have c11b0 : (a0_1 == 0) = false := beq_eq_false_iff_ne.mpr c11
              have c11b1 : (a0_1 != 0) = true := bne_iff_ne.mpr c11
              have H' := Aside0.mk H
              clear H
              have hx115_0 := HQ0_0.out
              have hx115_1 := HQ0_1.out
              have hx115_2 := HQ0_2.out
              go_wp2_with (first | ((with_reducible refine gate_callee (f := 58) rfl ?_); refine goesL_ (some 27) rfl rfl Tryd.func58 (by kernel_rfl) rfl #[.int .i64 a0_0, .int .i64 1, .int .i64 9] rfl (by (try simp only [List.map_toArray, List.map_cons, List.map_nil]); first | done | rfl | (simp only [List.length_drop, List.length_take]; rfl)) ?_; (with_reducible refine (spec_l1In.calls a0_0 1 9 true _ A7.out).mono ?_); rintro e w' ⟨rfl, ⟨nd, rfl⟩⟩; refine ⟨_, rfl, ?_⟩; have hx119_0 := HQ0_0.out; have hx119_1 := HQ0_1.out; have hx119_2 := HQ0_2.out))
              go_meet
              case rel => exact ⟨_, (true), (by first | rfl | (simp; done) | (simp [*]; done) | (simp [ne_nil_b, eq_nil_b]; done) | (simp [*, ne_nil_b, eq_nil_b]; done)), H', ⟨by have := HJ1.out; first | omega | exact Nat.le_refl _⟩, by repeat (first | exact Drawn0.refl _ | apply Drawn0.step)⟩
        · replace c8 := Bool.eq_false_iff.mpr c8
          subst c8
          have H1 : (spec_l5Fault.j1 kj1 true a0_0 a0_1 a0_2) = some r := by rw [if_neg (show ¬ (false = true) by decide)] at H; exact H
          clear H
          have H := H1
          clear H1
          have H' := Aside0.mk H
          clear H
          have hx115_0 := HQ0_0.out
          have hx115_1 := HQ0_1.out
          have hx115_2 := HQ0_2.out
          go_wp2_with (first | ((with_reducible refine gate_callee (f := 58) rfl ?_); refine goesL_ (some 27) rfl rfl Tryd.func58 (by kernel_rfl) rfl #[.int .i64 a0_0, .int .i64 1, .int .i64 9] rfl (by (try simp only [List.map_toArray, List.map_cons, List.map_nil]); first | done | rfl | (simp only [List.length_drop, List.length_take]; rfl)) ?_; (with_reducible refine (spec_l1In.calls a0_0 1 9 false _ A7.out).mono ?_); rintro e w' ⟨rfl, ⟨nd, rfl⟩⟩; refine ⟨_, rfl, ?_⟩))
          go_meet
          case rel => exact ⟨_, (true), (by first | rfl | (simp; done) | (simp [*]; done) | (simp [ne_nil_b, eq_nil_b]; done) | (simp [*, ne_nil_b, eq_nil_b]; done)), H', ⟨by have := HJ1.out; first | omega | exact Nat.le_refl _⟩, by repeat (first | exact Drawn0.refl _ | apply Drawn0.step)⟩
      case rest =>
        clear HC6
        try clear c1
        try clear hx1
        try clear p2
        try clear c3
        try clear c3b0
        try clear c3b1
        try clear c4
        try clear c4b0
        try clear c4b1
        try clear c5
        try clear c8
        try clear c9
        try clear c10
        try clear c10b0
        try clear c10b1
        try clear c11
        try clear c11b0
        try clear c11b1
        try clear hx11
        try clear c12
        try clear c12b0
        try clear c12b1
        try clear hx12
        try clear hx111_0
        try clear hx111_1
        try clear hx111_2
        try clear hx112_0
        try clear hx112_1
        try clear hx112_2
        try clear hx113_0
        try clear hx113_1
        try clear hx113_2
        try clear hx115_0
        try clear hx115_1
        try clear hx115_2
        try clear hx117_0
        try clear hx117_1
        try clear hx117_2
        try clear hx118_0
        try clear hx118_1
        try clear hx118_2
        try clear hx119_0
        try clear hx119_1
        try clear hx119_2
        try clear hx120_0
        try clear hx120_1
        try clear hx120_2
        try clear hx121_0
        try clear hx121_1
        try clear hx121_2
        try clear p2
        obtain ⟨kq, x53_5, rfl, HA, HJ5, ⟨mc5, rfl⟩⟩ := hcut
        cases kq with
        | zero => exact absurd HA.out (by simp [spec_l5Fault.j1])
        | succ kj5 =>
          have H := HA.out
          clear HA
          simp only [spec_l5Fault.j1] at H
          by_cases c13 : x53_5 = true
          · subst c13
            have H1 : (some 1) = some r := by rw [if_pos rfl] at H; exact H
            clear H
            have H := H1
            clear H1
            obtain rfl := Option.some.inj H
            go_wp2
            go_ret
            exact ⟨by first | rfl | (simp; done) | (simp [*]; done) | (simp [ne_nil_b, eq_nil_b]; done) | (simp [*, ne_nil_b, eq_nil_b]; done), by repeat (first | exact Drawn0.refl _ | apply Drawn0.step)⟩
          · replace c13 := Bool.eq_false_iff.mpr c13
            subst c13
            have H1 : (if a0_0 = 1 then ((spec_l1Num.f a0_1).bind fun t124 => (if t124 = true then (if a0_0 = 2 then ((spec_l1In.f a0_1 0 1).bind fun t127 => (if t127 = true then ((spec_l5Placed.f a0_0).bind fun t129 => (if t129 = true then ((spec_l1In.f a0_1 0 99999).bind fun t131 => (spec_l5Fault.j2 kj5 (!t131) a0_0 a0_1 a0_2)) else (spec_l5Fault.j2 kj5 false a0_0 a0_1 a0_2))) else (spec_l5Fault.j2 kj5 true a0_0 a0_1 a0_2))) else ((spec_l5Placed.f a0_0).bind fun t133 => (if t133 = true then ((spec_l1In.f a0_1 0 99999).bind fun t135 => (spec_l5Fault.j2 kj5 (!t135) a0_0 a0_1 a0_2)) else (spec_l5Fault.j2 kj5 false a0_0 a0_1 a0_2)))) else (spec_l5Fault.j2 kj5 true a0_0 a0_1 a0_2))) else (if a0_0 = 2 then ((spec_l1In.f a0_1 0 1).bind fun t138 => (if t138 = true then ((spec_l5Placed.f a0_0).bind fun t140 => (if t140 = true then ((spec_l1In.f a0_1 0 99999).bind fun t142 => (spec_l5Fault.j2 kj5 (!t142) a0_0 a0_1 a0_2)) else (spec_l5Fault.j2 kj5 false a0_0 a0_1 a0_2))) else (spec_l5Fault.j2 kj5 true a0_0 a0_1 a0_2))) else ((spec_l5Placed.f a0_0).bind fun t144 => (if t144 = true then ((spec_l1In.f a0_1 0 99999).bind fun t146 => (spec_l5Fault.j2 kj5 (!t146) a0_0 a0_1 a0_2)) else (spec_l5Fault.j2 kj5 false a0_0 a0_1 a0_2))))) = some r := by rw [if_neg (show ¬ (false = true) by decide)] at H; exact H
            clear H
            have H := H1
            clear H1
            have HC14 := Aside0.mk H
            clear H
            go_upto_region 4 with (fail)
            go_cut [96] (fun v96 wc => ∃ (kq : Nat) (x96_13 : Bool), v96 = .bool x96_13 ∧ Aside0 (spec_l5Fault.j2 kq x96_13 a0_0 a0_1 a0_2 = some r) ∧ Aside0 (kq ≤ kj5) ∧ Drawn0 w wc)
            case first =>
              have H := HC14.out
              clear HC14
              by_cases c15 : a0_0 = 1
              · rw [if_pos c15] at H
                have c15b0 : (a0_0 == 1) = true := beq_iff_eq.mpr c15
                have c15b1 : (a0_0 != 1) = false := bne_eq_false_iff_eq.mpr c15
                clear c15
                (first | rw [c15b0] | (simp only [i64_w, i32_w]; rw [c15b0]) | skip)
                replace H := Option.bind_eq_some_iff.mp H
                obtain ⟨t124, A160, H⟩ := H
                replace H : (if t124 = true then (if a0_0 = 2 then ((spec_l1In.f a0_1 0 1).bind fun t127 => (if t127 = true then ((spec_l5Placed.f a0_0).bind fun t129 => (if t129 = true then ((spec_l1In.f a0_1 0 99999).bind fun t131 => (spec_l5Fault.j2 kj5 (!t131) a0_0 a0_1 a0_2)) else (spec_l5Fault.j2 kj5 false a0_0 a0_1 a0_2))) else (spec_l5Fault.j2 kj5 true a0_0 a0_1 a0_2))) else ((spec_l5Placed.f a0_0).bind fun t133 => (if t133 = true then ((spec_l1In.f a0_1 0 99999).bind fun t135 => (spec_l5Fault.j2 kj5 (!t135) a0_0 a0_1 a0_2)) else (spec_l5Fault.j2 kj5 false a0_0 a0_1 a0_2)))) else (spec_l5Fault.j2 kj5 true a0_0 a0_1 a0_2)) = some r := H
                have A16 := Aside0.mk A160
                clear A160
                by_cases c17 : t124 = true
                · subst c17
                  have H1 : (if a0_0 = 2 then ((spec_l1In.f a0_1 0 1).bind fun t127 => (if t127 = true then ((spec_l5Placed.f a0_0).bind fun t129 => (if t129 = true then ((spec_l1In.f a0_1 0 99999).bind fun t131 => (spec_l5Fault.j2 kj5 (!t131) a0_0 a0_1 a0_2)) else (spec_l5Fault.j2 kj5 false a0_0 a0_1 a0_2))) else (spec_l5Fault.j2 kj5 true a0_0 a0_1 a0_2))) else ((spec_l5Placed.f a0_0).bind fun t133 => (if t133 = true then ((spec_l1In.f a0_1 0 99999).bind fun t135 => (spec_l5Fault.j2 kj5 (!t135) a0_0 a0_1 a0_2)) else (spec_l5Fault.j2 kj5 false a0_0 a0_1 a0_2)))) = some r := by rw [if_pos rfl] at H; exact H
                  clear H
                  have H := H1
                  clear H1
                  by_cases c18 : a0_0 = 2
                  · rw [if_pos c18] at H
                    have c18b0 : (a0_0 == 2) = true := beq_iff_eq.mpr c18
                    have c18b1 : (a0_0 != 2) = false := bne_eq_false_iff_eq.mpr c18
                    clear c18
                    replace H := Option.bind_eq_some_iff.mp H
                    obtain ⟨t127, A190, H⟩ := H
                    replace H : (if t127 = true then ((spec_l5Placed.f a0_0).bind fun t129 => (if t129 = true then ((spec_l1In.f a0_1 0 99999).bind fun t131 => (spec_l5Fault.j2 kj5 (!t131) a0_0 a0_1 a0_2)) else (spec_l5Fault.j2 kj5 false a0_0 a0_1 a0_2))) else (spec_l5Fault.j2 kj5 true a0_0 a0_1 a0_2)) = some r := H
                    have A19 := Aside0.mk A190
                    clear A190
                    by_cases c20 : t127 = true
                    · subst c20
                      have H1 : ((spec_l5Placed.f a0_0).bind fun t129 => (if t129 = true then ((spec_l1In.f a0_1 0 99999).bind fun t131 => (spec_l5Fault.j2 kj5 (!t131) a0_0 a0_1 a0_2)) else (spec_l5Fault.j2 kj5 false a0_0 a0_1 a0_2))) = some r := by rw [if_pos rfl] at H; exact H
                      clear H
                      have H := H1
                      clear H1
                      replace H := Option.bind_eq_some_iff.mp H
                      obtain ⟨t129, A210, H⟩ := H
                      replace H : (if t129 = true then ((spec_l1In.f a0_1 0 99999).bind fun t131 => (spec_l5Fault.j2 kj5 (!t131) a0_0 a0_1 a0_2)) else (spec_l5Fault.j2 kj5 false a0_0 a0_1 a0_2)) = some r := H
                      have A21 := Aside0.mk A210
                      clear A210
                      by_cases c22 : t129 = true
                      · subst c22
                        have H1 : ((spec_l1In.f a0_1 0 99999).bind fun t131 => (spec_l5Fault.j2 kj5 (!t131) a0_0 a0_1 a0_2)) = some r := by rw [if_pos rfl] at H; exact H
                        clear H
                        have H := H1
                        clear H1
                        replace H := Option.bind_eq_some_iff.mp H
                        obtain ⟨t131, A230, H⟩ := H
                        replace H : (spec_l5Fault.j2 kj5 (!t131) a0_0 a0_1 a0_2) = some r := H
                        have A23 := Aside0.mk A230
                        clear A230
                        have H' := Aside0.mk H
                        clear H
                        have hx122_0 := HQ0_0.out
                        have hx122_1 := HQ0_1.out
                        have hx122_2 := HQ0_2.out
                        have hx123_0 := HQ0_0.out
                        have hx123_1 := HQ0_1.out
                        have hx123_2 := HQ0_2.out
                        go_wp2_with (first | (go_at_call 67; (with_reducible refine (spec_l1Num.calls a0_1 true _ A16.out).mono ?_); rintro e w' ⟨rfl, ⟨nd, rfl⟩⟩; have hx125_0 := HQ0_0.out; have hx125_1 := HQ0_1.out; have hx125_2 := HQ0_2.out; have hx126_0 := HQ0_0.out; have hx126_1 := HQ0_1.out; have hx126_2 := HQ0_2.out) | (go_at_call 58; (with_reducible refine (spec_l1In.calls a0_1 0 1 true _ A19.out).mono ?_); rintro e w' ⟨rfl, ⟨nd, rfl⟩⟩; have hx128_0 := HQ0_0.out; have hx128_1 := HQ0_1.out; have hx128_2 := HQ0_2.out) | (go_at_call 66; (with_reducible refine (spec_l5Placed.calls a0_0 true _ A21.out).mono ?_); rintro e w' ⟨rfl, ⟨nd, rfl⟩⟩; have hx130_0 := HQ0_0.out; have hx130_1 := HQ0_1.out; have hx130_2 := HQ0_2.out) | (go_at_call 58; (with_reducible refine (spec_l1In.calls a0_1 0 99999 t131 _ A23.out).mono ?_); rintro e w' ⟨rfl, ⟨nd, rfl⟩⟩))
                        go_meet
                        case rel => exact ⟨_, (!t131), (by first | rfl | (simp; done) | (simp [*]; done) | (simp [ne_nil_b, eq_nil_b]; done) | (simp [*, ne_nil_b, eq_nil_b]; done)), H', ⟨by have := HJ1.out; have := HJ5.out; first | omega | exact Nat.le_refl _⟩, by repeat (first | exact Drawn0.refl _ | apply Drawn0.step)⟩
                      · replace c22 := Bool.eq_false_iff.mpr c22
                        subst c22
                        have H1 : (spec_l5Fault.j2 kj5 false a0_0 a0_1 a0_2) = some r := by rw [if_neg (show ¬ (false = true) by decide)] at H; exact H
                        clear H
                        have H := H1
                        clear H1
                        have H' := Aside0.mk H
                        clear H
                        have hx122_0 := HQ0_0.out
                        have hx122_1 := HQ0_1.out
                        have hx122_2 := HQ0_2.out
                        have hx123_0 := HQ0_0.out
                        have hx123_1 := HQ0_1.out
                        have hx123_2 := HQ0_2.out
                        go_wp2_with (first | (go_at_call 67; (with_reducible refine (spec_l1Num.calls a0_1 true _ A16.out).mono ?_); rintro e w' ⟨rfl, ⟨nd, rfl⟩⟩; have hx125_0 := HQ0_0.out; have hx125_1 := HQ0_1.out; have hx125_2 := HQ0_2.out; have hx126_0 := HQ0_0.out; have hx126_1 := HQ0_1.out; have hx126_2 := HQ0_2.out) | (go_at_call 58; (with_reducible refine (spec_l1In.calls a0_1 0 1 true _ A19.out).mono ?_); rintro e w' ⟨rfl, ⟨nd, rfl⟩⟩; have hx128_0 := HQ0_0.out; have hx128_1 := HQ0_1.out; have hx128_2 := HQ0_2.out) | (go_at_call 66; (with_reducible refine (spec_l5Placed.calls a0_0 false _ A21.out).mono ?_); rintro e w' ⟨rfl, ⟨nd, rfl⟩⟩))
                        go_meet
                        case rel => exact ⟨_, (false), (by first | rfl | (simp; done) | (simp [*]; done) | (simp [ne_nil_b, eq_nil_b]; done) | (simp [*, ne_nil_b, eq_nil_b]; done)), H', ⟨by have := HJ1.out; have := HJ5.out; first | omega | exact Nat.le_refl _⟩, by repeat (first | exact Drawn0.refl _ | apply Drawn0.step)⟩
                    · replace c20 := Bool.eq_false_iff.mpr c20
                      subst c20
                      have H1 : (spec_l5Fault.j2 kj5 true a0_0 a0_1 a0_2) = some r := by rw [if_neg (show ¬ (false = true) by decide)] at H; exact H
                      clear H
                      have H := H1
                      clear H1
                      have H' := Aside0.mk H
                      clear H
                      have hx122_0 := HQ0_0.out
                      have hx122_1 := HQ0_1.out
                      have hx122_2 := HQ0_2.out
                      have hx123_0 := HQ0_0.out
                      have hx123_1 := HQ0_1.out
                      have hx123_2 := HQ0_2.out
                      go_wp2_with (first | (go_at_call 67; (with_reducible refine (spec_l1Num.calls a0_1 true _ A16.out).mono ?_); rintro e w' ⟨rfl, ⟨nd, rfl⟩⟩; have hx125_0 := HQ0_0.out; have hx125_1 := HQ0_1.out; have hx125_2 := HQ0_2.out; have hx126_0 := HQ0_0.out; have hx126_1 := HQ0_1.out; have hx126_2 := HQ0_2.out) | (go_at_call 58; (with_reducible refine (spec_l1In.calls a0_1 0 1 false _ A19.out).mono ?_); rintro e w' ⟨rfl, ⟨nd, rfl⟩⟩))
                      go_meet
                      case rel => exact ⟨_, (true), (by first | rfl | (simp; done) | (simp [*]; done) | (simp [ne_nil_b, eq_nil_b]; done) | (simp [*, ne_nil_b, eq_nil_b]; done)), H', ⟨by have := HJ1.out; have := HJ5.out; first | omega | exact Nat.le_refl _⟩, by repeat (first | exact Drawn0.refl _ | apply Drawn0.step)⟩
                  · rw [if_neg c18] at H
                    have c18b0 : (a0_0 == 2) = false := beq_eq_false_iff_ne.mpr c18
                    have c18b1 : (a0_0 != 2) = true := bne_iff_ne.mpr c18
                    replace H := Option.bind_eq_some_iff.mp H
                    obtain ⟨t133, A240, H⟩ := H
                    replace H : (if t133 = true then ((spec_l1In.f a0_1 0 99999).bind fun t135 => (spec_l5Fault.j2 kj5 (!t135) a0_0 a0_1 a0_2)) else (spec_l5Fault.j2 kj5 false a0_0 a0_1 a0_2)) = some r := H
                    have A24 := Aside0.mk A240
                    clear A240
                    by_cases c25 : t133 = true
                    · subst c25
                      have H1 : ((spec_l1In.f a0_1 0 99999).bind fun t135 => (spec_l5Fault.j2 kj5 (!t135) a0_0 a0_1 a0_2)) = some r := by rw [if_pos rfl] at H; exact H
                      clear H
                      have H := H1
                      clear H1
                      replace H := Option.bind_eq_some_iff.mp H
                      obtain ⟨t135, A260, H⟩ := H
                      replace H : (spec_l5Fault.j2 kj5 (!t135) a0_0 a0_1 a0_2) = some r := H
                      have A26 := Aside0.mk A260
                      clear A260
                      have H' := Aside0.mk H
                      clear H
                      have hx122_0 := HQ0_0.out
                      have hx122_1 := HQ0_1.out
                      have hx122_2 := HQ0_2.out
                      have hx123_0 := HQ0_0.out
                      have hx123_1 := HQ0_1.out
                      have hx123_2 := HQ0_2.out
                      go_wp2_with (first | (go_at_call 67; (with_reducible refine (spec_l1Num.calls a0_1 true _ A16.out).mono ?_); rintro e w' ⟨rfl, ⟨nd, rfl⟩⟩; have hx125_0 := HQ0_0.out; have hx125_1 := HQ0_1.out; have hx125_2 := HQ0_2.out; have hx132_0 := HQ0_0.out; have hx132_1 := HQ0_1.out; have hx132_2 := HQ0_2.out) | (go_at_call 66; (with_reducible refine (spec_l5Placed.calls a0_0 true _ A24.out).mono ?_); rintro e w' ⟨rfl, ⟨nd, rfl⟩⟩; have hx134_0 := HQ0_0.out; have hx134_1 := HQ0_1.out; have hx134_2 := HQ0_2.out) | (go_at_call 58; (with_reducible refine (spec_l1In.calls a0_1 0 99999 t135 _ A26.out).mono ?_); rintro e w' ⟨rfl, ⟨nd, rfl⟩⟩))
                      go_meet
                      case rel => exact ⟨_, (!t135), (by first | rfl | (simp; done) | (simp [*]; done) | (simp [ne_nil_b, eq_nil_b]; done) | (simp [*, ne_nil_b, eq_nil_b]; done)), H', ⟨by have := HJ1.out; have := HJ5.out; first | omega | exact Nat.le_refl _⟩, by repeat (first | exact Drawn0.refl _ | apply Drawn0.step)⟩
                    · replace c25 := Bool.eq_false_iff.mpr c25
                      subst c25
                      have H1 : (spec_l5Fault.j2 kj5 false a0_0 a0_1 a0_2) = some r := by rw [if_neg (show ¬ (false = true) by decide)] at H; exact H
                      clear H
                      have H := H1
                      clear H1
                      have H' := Aside0.mk H
                      clear H
                      have hx122_0 := HQ0_0.out
                      have hx122_1 := HQ0_1.out
                      have hx122_2 := HQ0_2.out
                      have hx123_0 := HQ0_0.out
                      have hx123_1 := HQ0_1.out
                      have hx123_2 := HQ0_2.out
                      go_wp2_with (first | (go_at_call 67; (with_reducible refine (spec_l1Num.calls a0_1 true _ A16.out).mono ?_); rintro e w' ⟨rfl, ⟨nd, rfl⟩⟩; have hx125_0 := HQ0_0.out; have hx125_1 := HQ0_1.out; have hx125_2 := HQ0_2.out; have hx132_0 := HQ0_0.out; have hx132_1 := HQ0_1.out; have hx132_2 := HQ0_2.out) | (go_at_call 66; (with_reducible refine (spec_l5Placed.calls a0_0 false _ A24.out).mono ?_); rintro e w' ⟨rfl, ⟨nd, rfl⟩⟩))
                      go_meet
                      case rel => exact ⟨_, (false), (by first | rfl | (simp; done) | (simp [*]; done) | (simp [ne_nil_b, eq_nil_b]; done) | (simp [*, ne_nil_b, eq_nil_b]; done)), H', ⟨by have := HJ1.out; have := HJ5.out; first | omega | exact Nat.le_refl _⟩, by repeat (first | exact Drawn0.refl _ | apply Drawn0.step)⟩
                · replace c17 := Bool.eq_false_iff.mpr c17
                  subst c17
                  have H1 : (spec_l5Fault.j2 kj5 true a0_0 a0_1 a0_2) = some r := by rw [if_neg (show ¬ (false = true) by decide)] at H; exact H
                  clear H
                  have H := H1
                  clear H1
                  have H' := Aside0.mk H
                  clear H
                  have hx122_0 := HQ0_0.out
                  have hx122_1 := HQ0_1.out
                  have hx122_2 := HQ0_2.out
                  have hx123_0 := HQ0_0.out
                  have hx123_1 := HQ0_1.out
                  have hx123_2 := HQ0_2.out
                  go_wp2_with (first | (go_at_call 67; (with_reducible refine (spec_l1Num.calls a0_1 false _ A16.out).mono ?_); rintro e w' ⟨rfl, ⟨nd, rfl⟩⟩))
                  go_meet
                  case rel => exact ⟨_, (true), (by first | rfl | (simp; done) | (simp [*]; done) | (simp [ne_nil_b, eq_nil_b]; done) | (simp [*, ne_nil_b, eq_nil_b]; done)), H', ⟨by have := HJ1.out; have := HJ5.out; first | omega | exact Nat.le_refl _⟩, by repeat (first | exact Drawn0.refl _ | apply Drawn0.step)⟩
              · rw [if_neg c15] at H
                have c15b0 : (a0_0 == 1) = false := beq_eq_false_iff_ne.mpr c15
                have c15b1 : (a0_0 != 1) = true := bne_iff_ne.mpr c15
                (first | rw [c15b0] | (simp only [i64_w, i32_w]; rw [c15b0]) | skip)
                by_cases c27 : a0_0 = 2
                · rw [if_pos c27] at H
                  have c27b0 : (a0_0 == 2) = true := beq_iff_eq.mpr c27
                  have c27b1 : (a0_0 != 2) = false := bne_eq_false_iff_eq.mpr c27
                  clear c27
                  replace H := Option.bind_eq_some_iff.mp H
                  obtain ⟨t138, A280, H⟩ := H
                  replace H : (if t138 = true then ((spec_l5Placed.f a0_0).bind fun t140 => (if t140 = true then ((spec_l1In.f a0_1 0 99999).bind fun t142 => (spec_l5Fault.j2 kj5 (!t142) a0_0 a0_1 a0_2)) else (spec_l5Fault.j2 kj5 false a0_0 a0_1 a0_2))) else (spec_l5Fault.j2 kj5 true a0_0 a0_1 a0_2)) = some r := H
                  have A28 := Aside0.mk A280
                  clear A280
                  by_cases c29 : t138 = true
                  · subst c29
                    have H1 : ((spec_l5Placed.f a0_0).bind fun t140 => (if t140 = true then ((spec_l1In.f a0_1 0 99999).bind fun t142 => (spec_l5Fault.j2 kj5 (!t142) a0_0 a0_1 a0_2)) else (spec_l5Fault.j2 kj5 false a0_0 a0_1 a0_2))) = some r := by rw [if_pos rfl] at H; exact H
                    clear H
                    have H := H1
                    clear H1
                    replace H := Option.bind_eq_some_iff.mp H
                    obtain ⟨t140, A300, H⟩ := H
                    replace H : (if t140 = true then ((spec_l1In.f a0_1 0 99999).bind fun t142 => (spec_l5Fault.j2 kj5 (!t142) a0_0 a0_1 a0_2)) else (spec_l5Fault.j2 kj5 false a0_0 a0_1 a0_2)) = some r := H
                    have A30 := Aside0.mk A300
                    clear A300
                    by_cases c31 : t140 = true
                    · subst c31
                      have H1 : ((spec_l1In.f a0_1 0 99999).bind fun t142 => (spec_l5Fault.j2 kj5 (!t142) a0_0 a0_1 a0_2)) = some r := by rw [if_pos rfl] at H; exact H
                      clear H
                      have H := H1
                      clear H1
                      replace H := Option.bind_eq_some_iff.mp H
                      obtain ⟨t142, A320, H⟩ := H
                      replace H : (spec_l5Fault.j2 kj5 (!t142) a0_0 a0_1 a0_2) = some r := H
                      have A32 := Aside0.mk A320
                      clear A320
                      have H' := Aside0.mk H
                      clear H
                      have hx122_0 := HQ0_0.out
                      have hx122_1 := HQ0_1.out
                      have hx122_2 := HQ0_2.out
                      have hx136_0 := HQ0_0.out
                      have hx136_1 := HQ0_1.out
                      have hx136_2 := HQ0_2.out
                      have hx137_0 := HQ0_0.out
                      have hx137_1 := HQ0_1.out
                      have hx137_2 := HQ0_2.out
                      go_wp2_with (first | (go_at_call 58; (with_reducible refine (spec_l1In.calls a0_1 0 1 true _ A28.out).mono ?_); rintro e w' ⟨rfl, ⟨nd, rfl⟩⟩; have hx139_0 := HQ0_0.out; have hx139_1 := HQ0_1.out; have hx139_2 := HQ0_2.out) | (go_at_call 66; (with_reducible refine (spec_l5Placed.calls a0_0 true _ A30.out).mono ?_); rintro e w' ⟨rfl, ⟨nd, rfl⟩⟩; have hx141_0 := HQ0_0.out; have hx141_1 := HQ0_1.out; have hx141_2 := HQ0_2.out) | (go_at_call 58; (with_reducible refine (spec_l1In.calls a0_1 0 99999 t142 _ A32.out).mono ?_); rintro e w' ⟨rfl, ⟨nd, rfl⟩⟩))
                      go_meet
                      case rel => exact ⟨_, (!t142), (by first | rfl | (simp; done) | (simp [*]; done) | (simp [ne_nil_b, eq_nil_b]; done) | (simp [*, ne_nil_b, eq_nil_b]; done)), H', ⟨by have := HJ1.out; have := HJ5.out; first | omega | exact Nat.le_refl _⟩, by repeat (first | exact Drawn0.refl _ | apply Drawn0.step)⟩
                    · replace c31 := Bool.eq_false_iff.mpr c31
                      subst c31
                      have H1 : (spec_l5Fault.j2 kj5 false a0_0 a0_1 a0_2) = some r := by rw [if_neg (show ¬ (false = true) by decide)] at H; exact H
                      clear H
                      have H := H1
                      clear H1
                      have H' := Aside0.mk H
                      clear H
                      have hx122_0 := HQ0_0.out
                      have hx122_1 := HQ0_1.out
                      have hx122_2 := HQ0_2.out
                      have hx136_0 := HQ0_0.out
                      have hx136_1 := HQ0_1.out
                      have hx136_2 := HQ0_2.out
                      have hx137_0 := HQ0_0.out
                      have hx137_1 := HQ0_1.out
                      have hx137_2 := HQ0_2.out
                      go_wp2_with (first | (go_at_call 58; (with_reducible refine (spec_l1In.calls a0_1 0 1 true _ A28.out).mono ?_); rintro e w' ⟨rfl, ⟨nd, rfl⟩⟩; have hx139_0 := HQ0_0.out; have hx139_1 := HQ0_1.out; have hx139_2 := HQ0_2.out) | (go_at_call 66; (with_reducible refine (spec_l5Placed.calls a0_0 false _ A30.out).mono ?_); rintro e w' ⟨rfl, ⟨nd, rfl⟩⟩))
                      go_meet
                      case rel => exact ⟨_, (false), (by first | rfl | (simp; done) | (simp [*]; done) | (simp [ne_nil_b, eq_nil_b]; done) | (simp [*, ne_nil_b, eq_nil_b]; done)), H', ⟨by have := HJ1.out; have := HJ5.out; first | omega | exact Nat.le_refl _⟩, by repeat (first | exact Drawn0.refl _ | apply Drawn0.step)⟩
                  · replace c29 := Bool.eq_false_iff.mpr c29
                    subst c29
                    have H1 : (spec_l5Fault.j2 kj5 true a0_0 a0_1 a0_2) = some r := by rw [if_neg (show ¬ (false = true) by decide)] at H; exact H
                    clear H
                    have H := H1
                    clear H1
                    have H' := Aside0.mk H
                    clear H
                    have hx122_0 := HQ0_0.out
                    have hx122_1 := HQ0_1.out
                    have hx122_2 := HQ0_2.out
                    have hx136_0 := HQ0_0.out
                    have hx136_1 := HQ0_1.out
                    have hx136_2 := HQ0_2.out
                    have hx137_0 := HQ0_0.out
                    have hx137_1 := HQ0_1.out
                    have hx137_2 := HQ0_2.out
                    go_wp2_with (first | (go_at_call 58; (with_reducible refine (spec_l1In.calls a0_1 0 1 false _ A28.out).mono ?_); rintro e w' ⟨rfl, ⟨nd, rfl⟩⟩))
                    go_meet
                    case rel => exact ⟨_, (true), (by first | rfl | (simp; done) | (simp [*]; done) | (simp [ne_nil_b, eq_nil_b]; done) | (simp [*, ne_nil_b, eq_nil_b]; done)), H', ⟨by have := HJ1.out; have := HJ5.out; first | omega | exact Nat.le_refl _⟩, by repeat (first | exact Drawn0.refl _ | apply Drawn0.step)⟩
                · rw [if_neg c27] at H
                  have c27b0 : (a0_0 == 2) = false := beq_eq_false_iff_ne.mpr c27
                  have c27b1 : (a0_0 != 2) = true := bne_iff_ne.mpr c27
                  replace H := Option.bind_eq_some_iff.mp H
                  obtain ⟨t144, A330, H⟩ := H
                  replace H : (if t144 = true then ((spec_l1In.f a0_1 0 99999).bind fun t146 => (spec_l5Fault.j2 kj5 (!t146) a0_0 a0_1 a0_2)) else (spec_l5Fault.j2 kj5 false a0_0 a0_1 a0_2)) = some r := H
                  have A33 := Aside0.mk A330
                  clear A330
                  by_cases c34 : t144 = true
                  · subst c34
                    have H1 : ((spec_l1In.f a0_1 0 99999).bind fun t146 => (spec_l5Fault.j2 kj5 (!t146) a0_0 a0_1 a0_2)) = some r := by rw [if_pos rfl] at H; exact H
                    clear H
                    have H := H1
                    clear H1
                    replace H := Option.bind_eq_some_iff.mp H
                    obtain ⟨t146, A350, H⟩ := H
                    replace H : (spec_l5Fault.j2 kj5 (!t146) a0_0 a0_1 a0_2) = some r := H
                    have A35 := Aside0.mk A350
                    clear A350
                    have H' := Aside0.mk H
                    clear H
                    have hx122_0 := HQ0_0.out
                    have hx122_1 := HQ0_1.out
                    have hx122_2 := HQ0_2.out
                    have hx136_0 := HQ0_0.out
                    have hx136_1 := HQ0_1.out
                    have hx136_2 := HQ0_2.out
                    have hx143_0 := HQ0_0.out
                    have hx143_1 := HQ0_1.out
                    have hx143_2 := HQ0_2.out
                    go_wp2_with (first | (go_at_call 66; (with_reducible refine (spec_l5Placed.calls a0_0 true _ A33.out).mono ?_); rintro e w' ⟨rfl, ⟨nd, rfl⟩⟩; have hx145_0 := HQ0_0.out; have hx145_1 := HQ0_1.out; have hx145_2 := HQ0_2.out) | (go_at_call 58; (with_reducible refine (spec_l1In.calls a0_1 0 99999 t146 _ A35.out).mono ?_); rintro e w' ⟨rfl, ⟨nd, rfl⟩⟩))
                    go_meet
                    case rel => exact ⟨_, (!t146), (by first | rfl | (simp; done) | (simp [*]; done) | (simp [ne_nil_b, eq_nil_b]; done) | (simp [*, ne_nil_b, eq_nil_b]; done)), H', ⟨by have := HJ1.out; have := HJ5.out; first | omega | exact Nat.le_refl _⟩, by repeat (first | exact Drawn0.refl _ | apply Drawn0.step)⟩
                  · replace c34 := Bool.eq_false_iff.mpr c34
                    subst c34
                    have H1 : (spec_l5Fault.j2 kj5 false a0_0 a0_1 a0_2) = some r := by rw [if_neg (show ¬ (false = true) by decide)] at H; exact H
                    clear H
                    have H := H1
                    clear H1
                    have H' := Aside0.mk H
                    clear H
                    have hx122_0 := HQ0_0.out
                    have hx122_1 := HQ0_1.out
                    have hx122_2 := HQ0_2.out
                    have hx136_0 := HQ0_0.out
                    have hx136_1 := HQ0_1.out
                    have hx136_2 := HQ0_2.out
                    have hx143_0 := HQ0_0.out
                    have hx143_1 := HQ0_1.out
                    have hx143_2 := HQ0_2.out
                    go_wp2_with (first | (go_at_call 66; (with_reducible refine (spec_l5Placed.calls a0_0 false _ A33.out).mono ?_); rintro e w' ⟨rfl, ⟨nd, rfl⟩⟩))
                    go_meet
                    case rel => exact ⟨_, (false), (by first | rfl | (simp; done) | (simp [*]; done) | (simp [ne_nil_b, eq_nil_b]; done) | (simp [*, ne_nil_b, eq_nil_b]; done)), H', ⟨by have := HJ1.out; have := HJ5.out; first | omega | exact Nat.le_refl _⟩, by repeat (first | exact Drawn0.refl _ | apply Drawn0.step)⟩
            case rest =>
              clear HC14
              try clear c1
              try clear hx1
              try clear c2
              try clear p2
              try clear c3
              try clear c3b0
              try clear c3b1
              try clear c4
              try clear c4b0
              try clear c4b1
              try clear c5
              try clear c8
              try clear c9
              try clear c10
              try clear c10b0
              try clear c10b1
              try clear c11
              try clear c11b0
              try clear c11b1
              try clear hx11
              try clear c12
              try clear c12b0
              try clear c12b1
              try clear hx12
              try clear c13
              try clear hx13
              try clear hx14
              try clear c15
              try clear c15b0
              try clear c15b1
              try clear c17
              try clear c18
              try clear c18b0
              try clear c18b1
              try clear c20
              try clear c22
              try clear c25
              try clear c27
              try clear c27b0
              try clear c27b1
              try clear c29
              try clear c31
              try clear c34
              try clear hx111_0
              try clear hx111_1
              try clear hx111_2
              try clear hx112_0
              try clear hx112_1
              try clear hx112_2
              try clear hx113_0
              try clear hx113_1
              try clear hx113_2
              try clear hx115_0
              try clear hx115_1
              try clear hx115_2
              try clear hx117_0
              try clear hx117_1
              try clear hx117_2
              try clear hx118_0
              try clear hx118_1
              try clear hx118_2
              try clear hx119_0
              try clear hx119_1
              try clear hx119_2
              try clear hx120_0
              try clear hx120_1
              try clear hx120_2
              try clear hx121_0
              try clear hx121_1
              try clear hx121_2
              try clear hx122_0
              try clear hx122_1
              try clear hx122_2
              try clear hx123_0
              try clear hx123_1
              try clear hx123_2
              try clear hx125_0
              try clear hx125_1
              try clear hx125_2
              try clear hx126_0
              try clear hx126_1
              try clear hx126_2
              try clear hx128_0
              try clear hx128_1
              try clear hx128_2
              try clear hx130_0
              try clear hx130_1
              try clear hx130_2
              try clear hx132_0
              try clear hx132_1
              try clear hx132_2
              try clear hx134_0
              try clear hx134_1
              try clear hx134_2
              try clear hx136_0
              try clear hx136_1
              try clear hx136_2
              try clear hx137_0
              try clear hx137_1
              try clear hx137_2
              try clear hx139_0
              try clear hx139_1
              try clear hx139_2
              try clear hx141_0
              try clear hx141_1
              try clear hx141_2
              try clear hx143_0
              try clear hx143_1
              try clear hx143_2
              try clear hx145_0
              try clear hx145_1
              try clear hx145_2
              try clear p2
              obtain ⟨kq, x96_13, rfl, HA, HJ13, ⟨mc13, rfl⟩⟩ := hcut
              cases kq with
              | zero => exact absurd HA.out (by simp [spec_l5Fault.j2])
              | succ kj13 =>
                have H := HA.out
                clear HA
                simp only [spec_l5Fault.j2] at H
                by_cases c36 : x96_13 = true
                · subst c36
                  have H1 : (some 3) = some r := by rw [if_pos rfl] at H; exact H
                  clear H
                  have H := H1
                  clear H1
                  obtain rfl := Option.some.inj H
                  go_wp2
                  go_ret
                  exact ⟨by first | rfl | (simp; done) | (simp [*]; done) | (simp [ne_nil_b, eq_nil_b]; done) | (simp [*, ne_nil_b, eq_nil_b]; done), by repeat (first | exact Drawn0.refl _ | apply Drawn0.step)⟩
                · replace c36 := Bool.eq_false_iff.mpr c36
                  subst c36
                  have H1 : (if a0_0 = 4 then ((spec_l2Sym.f kj13 a0_2).bind fun t149 => (if t149 = true then (some 0) else (some 5))) else (some 0)) = some r := by rw [if_neg (show ¬ (false = true) by decide)] at H; exact H
                  clear H
                  have H := H1
                  clear H1
                  by_cases c37 : a0_0 = 4
                  · rw [if_pos c37] at H
                    have c37b0 : (a0_0 == 4) = true := beq_iff_eq.mpr c37
                    have c37b1 : (a0_0 != 4) = false := bne_eq_false_iff_eq.mpr c37
                    clear c37
                    replace H := Option.bind_eq_some_iff.mp H
                    obtain ⟨t149, A380, H⟩ := H
                    replace H : (if t149 = true then (some 0) else (some 5)) = some r := H
                    have A38 := Aside0.mk A380
                    clear A380
                    by_cases c39 : t149 = true
                    · subst c39
                      have H1 : (some 0) = some r := by rw [if_pos rfl] at H; exact H
                      clear H
                      have H := H1
                      clear H1
                      obtain rfl := Option.some.inj H
                      have hx147_0 := HQ0_0.out
                      have hx147_1 := HQ0_1.out
                      have hx147_2 := HQ0_2.out
                      have hx148_0 := HQ0_0.out
                      have hx148_1 := HQ0_1.out
                      have hx148_2 := HQ0_2.out
                      go_wp2_with (first | (go_at_call 33; (with_reducible refine (spec_l2Sym.calls kj13 a0_2 true _ A38.out).mono ?_); rintro e w' ⟨rfl, ⟨nd, rfl⟩⟩))
                      go_ret
                      exact ⟨by first | rfl | (simp; done) | (simp [*]; done) | (simp [ne_nil_b, eq_nil_b]; done) | (simp [*, ne_nil_b, eq_nil_b]; done), by repeat (first | exact Drawn0.refl _ | apply Drawn0.step)⟩
                    · replace c39 := Bool.eq_false_iff.mpr c39
                      subst c39
                      have H1 : (some 5) = some r := by rw [if_neg (show ¬ (false = true) by decide)] at H; exact H
                      clear H
                      have H := H1
                      clear H1
                      obtain rfl := Option.some.inj H
                      have hx147_0 := HQ0_0.out
                      have hx147_1 := HQ0_1.out
                      have hx147_2 := HQ0_2.out
                      have hx148_0 := HQ0_0.out
                      have hx148_1 := HQ0_1.out
                      have hx148_2 := HQ0_2.out
                      go_wp2_with (first | (go_at_call 33; (with_reducible refine (spec_l2Sym.calls kj13 a0_2 false _ A38.out).mono ?_); rintro e w' ⟨rfl, ⟨nd, rfl⟩⟩))
                      go_ret
                      exact ⟨by first | rfl | (simp; done) | (simp [*]; done) | (simp [ne_nil_b, eq_nil_b]; done) | (simp [*, ne_nil_b, eq_nil_b]; done), by repeat (first | exact Drawn0.refl _ | apply Drawn0.step)⟩
                  · rw [if_neg c37] at H
                    have c37b0 : (a0_0 == 4) = false := beq_eq_false_iff_ne.mpr c37
                    have c37b1 : (a0_0 != 4) = true := bne_iff_ne.mpr c37
                    obtain rfl := Option.some.inj H
                    have hx147_0 := HQ0_0.out
                    have hx147_1 := HQ0_1.out
                    have hx147_2 := HQ0_2.out
                    go_wp2
                    go_ret
                    exact ⟨by first | rfl | (simp; done) | (simp [*]; done) | (simp [ne_nil_b, eq_nil_b]; done) | (simp [*, ne_nil_b, eq_nil_b]; done), by repeat (first | exact Drawn0.refl _ | apply Drawn0.step)⟩

/-! ### laws_toValue: function 13 -/
def laws_toValue.f (a0_0 : Int) (a0_1 : Int) (a0_2 : ByteArray) : Option (Int × Int × ByteArray) := some (a0_0, a0_1, a0_2)
set_option maxHeartbeats 8000000 in
set_option maxRecDepth 100000 in
theorem laws_toValue.calls (a0_0 : Int) (a0_1 : Int) (a0_2 : ByteArray) (r1 : Int) (r2 : Int) (r3 : ByteArray) (w : World) (h : laws_toValue.f a0_0 a0_1 a0_2 = some (r1, r2, r3)) :
    Calls Tryd.prog 13 #[.agg #[.int .i64 a0_0, .int .i64 a0_1, .string a0_2]] w fun e w' => e = .returned (.agg #[.int .i64 r1, .int .i64 r2, .string r3]) ∧ Below w.heap.size w w' := by
  have hu25 := Tryd.underlying25
  have hu28 := Tryd.underlying28
  have HB := Aside0.mk (Below.refl w.heap.size w)
  have H : (some (a0_0, a0_1, a0_2)) = some (r1, r2, r3) := h
  clear h
  simp only [Option.some.injEq, Prod.mk.injEq] at H
  obtain ⟨rfl, rfl, rfl⟩ := H
  go_enter Tryd.func13, Tryd.ntmps13
  go_wp2_with (first | ((with_reducible refine gate_dst (N := 1) rfl ?_); refine box_event ?hg (N := 1) ?hd (cs := #[.int .i64 a0_0, .int .i64 a0_1, .string a0_2]) (t := 25) ?hr ?_; (case hd => rfl); (case hg => rfl); (case hr => first | (go_simp; done) | (go_simp; rfl)); intro gb152 hg w2 hbox hb; have n0_ := Aside0.mk (below_step (by repeat (first | (with_reducible first | exact HB.out | apply below_alloc | apply pw_below_drewN | apply below_drew1) | exact HB.out)) hb); have n1_ := Aside0.mk (hbox); have n2_ := Aside0.mk ((by rw [hg]; exact (below_size (by repeat (first | (with_reducible first | exact HB.out | apply below_alloc | apply pw_below_drewN | apply below_drew1) | exact HB.out))) : w.heap.size ≤ gb152)); have n3_ := Aside0.mk ((by rw [hg]; exact (below_size (by repeat (first | (with_reducible first | exact HB.out | apply below_alloc | apply pw_below_drewN | apply below_drew1) | exact HB.out))) : w.heap.size ≤ gb152)); clear HB; have HB := n0_; have BK152 := n1_; have GW152 := n2_; have GE152 := n3_; clear n0_ n1_ n2_ n3_; clear hb hbox hg) | ((with_reducible refine gate_dst (N := 2) rfl ?_); refine box_event ?hg (N := 2) ?hd (cs := #[.int .i64 0, .int .i64 0, .string (⟨#[]⟩ : ByteArray)]) (t := 28) ?hr ?_; (case hd => rfl); (case hg => rfl); (case hr => first | (go_simp; done) | (go_simp; rfl)); intro gb153 hg w3 hbox hb; have n0_ := Aside0.mk (blk_below (g := gb152) (o := .cells #[.int .i64 a0_0, .int .i64 a0_1, .string a0_2] 25 (0, 0)) (by (with_reducible repeat (first | refine blk_drewN ?_ _ | refine blk_drew ?_ | refine blk_alloc ?_ _)); exact BK152.out) hb); have n1_ := Aside0.mk (below_step (by repeat (first | (with_reducible first | exact HB.out | apply below_alloc | apply pw_below_drewN | apply below_drew1 | refine below_set ?_ GE152.out) | exact HB.out)) hb); have n2_ := Aside0.mk (hbox); have n3_ := Aside0.mk ((by rw [hg]; exact (below_size (by repeat (first | (with_reducible first | exact HB.out | apply below_alloc | apply pw_below_drewN | apply below_drew1 | refine below_set ?_ GE152.out) | exact HB.out))) : w.heap.size ≤ gb153)); have n4_ := Aside0.mk ((by rw [hg]; exact (below_size (by repeat (first | (with_reducible first | exact HB.out | apply below_alloc | apply pw_below_drewN | apply below_drew1 | refine below_set ?_ GE152.out) | exact HB.out))) : w.heap.size ≤ gb153)); have n5_ := Aside0.mk ((by rw [hg]; exact Nat.ne_of_lt (blk_lt (g := gb152) (o := .cells #[.int .i64 a0_0, .int .i64 a0_1, .string a0_2] 25 (0, 0)) (by (with_reducible repeat (first | refine blk_drewN ?_ _ | refine blk_drew ?_ | refine blk_alloc ?_ _)); exact BK152.out)) : gb152 ≠ gb153)); have n6_ := Aside0.mk ((by rw [hg]; exact Nat.ne_of_gt (blk_lt (g := gb152) (o := .cells #[.int .i64 a0_0, .int .i64 a0_1, .string a0_2] 25 (0, 0)) (by (with_reducible repeat (first | refine blk_drewN ?_ _ | refine blk_drew ?_ | refine blk_alloc ?_ _)); exact BK152.out)) : gb153 ≠ gb152)); clear BK152; clear HB; have BK152 := n0_; have HB := n1_; have BK153 := n2_; have GW153 := n3_; have GE153 := n4_; have NB152_153 := n5_; have NB153_152 := n6_; clear n0_ n1_ n2_ n3_ n4_ n5_ n6_; clear hb hbox hg) | ((with_reducible refine gate_dst (N := 3) rfl ?_); refine box_event ?hg (N := 3) ?hd (cs := #[.int .i64 0, .int .i64 0, .string (⟨#[]⟩ : ByteArray)]) (t := 28) ?hr ?_; (case hd => rfl); (case hg => rfl); (case hr => first | (go_simp; done) | (go_simp; rfl)); intro gb154 hg w4 hbox hb; have n0_ := Aside0.mk (blk_below (g := gb152) (o := .cells #[.int .i64 a0_0, .int .i64 a0_1, .string a0_2] 25 (0, 0)) (by (with_reducible repeat (first | refine blk_drewN ?_ _ | refine blk_drew ?_ | refine blk_alloc ?_ _)); exact BK152.out) hb); have n1_ := Aside0.mk (blk_below (g := gb153) (o := .cells #[.int .i64 0, .int .i64 0, .string (⟨#[]⟩ : ByteArray)] 28 (0, 0)) (by (with_reducible repeat (first | refine blk_drewN ?_ _ | refine blk_drew ?_ | refine blk_alloc ?_ _)); exact BK153.out) hb); have n2_ := Aside0.mk (below_step (by repeat (first | (with_reducible first | exact HB.out | apply below_alloc | apply pw_below_drewN | apply below_drew1 | refine below_set ?_ GE152.out | refine below_set ?_ GE153.out) | exact HB.out)) hb); have n3_ := Aside0.mk (hbox); have n4_ := Aside0.mk ((by rw [hg]; exact (below_size (by repeat (first | (with_reducible first | exact HB.out | apply below_alloc | apply pw_below_drewN | apply below_drew1 | refine below_set ?_ GE152.out | refine below_set ?_ GE153.out) | exact HB.out))) : w.heap.size ≤ gb154)); have n5_ := Aside0.mk ((by rw [hg]; exact (below_size (by repeat (first | (with_reducible first | exact HB.out | apply below_alloc | apply pw_below_drewN | apply below_drew1 | refine below_set ?_ GE152.out | refine below_set ?_ GE153.out) | exact HB.out))) : w.heap.size ≤ gb154)); have n6_ := Aside0.mk ((by rw [hg]; exact Nat.ne_of_lt (blk_lt (g := gb152) (o := .cells #[.int .i64 a0_0, .int .i64 a0_1, .string a0_2] 25 (0, 0)) (by (with_reducible repeat (first | refine blk_drewN ?_ _ | refine blk_drew ?_ | refine blk_alloc ?_ _)); exact BK152.out)) : gb152 ≠ gb154)); have n7_ := Aside0.mk ((by rw [hg]; exact Nat.ne_of_gt (blk_lt (g := gb152) (o := .cells #[.int .i64 a0_0, .int .i64 a0_1, .string a0_2] 25 (0, 0)) (by (with_reducible repeat (first | refine blk_drewN ?_ _ | refine blk_drew ?_ | refine blk_alloc ?_ _)); exact BK152.out)) : gb154 ≠ gb152)); have n8_ := Aside0.mk ((by rw [hg]; exact Nat.ne_of_lt (blk_lt (g := gb153) (o := .cells #[.int .i64 0, .int .i64 0, .string (⟨#[]⟩ : ByteArray)] 28 (0, 0)) (by (with_reducible repeat (first | refine blk_drewN ?_ _ | refine blk_drew ?_ | refine blk_alloc ?_ _)); exact BK153.out)) : gb153 ≠ gb154)); have n9_ := Aside0.mk ((by rw [hg]; exact Nat.ne_of_gt (blk_lt (g := gb153) (o := .cells #[.int .i64 0, .int .i64 0, .string (⟨#[]⟩ : ByteArray)] 28 (0, 0)) (by (with_reducible repeat (first | refine blk_drewN ?_ _ | refine blk_drew ?_ | refine blk_alloc ?_ _)); exact BK153.out)) : gb154 ≠ gb153)); clear BK152; clear BK153; clear HB; have BK152 := n0_; have BK153 := n1_; have HB := n2_; have BK154 := n3_; have GW154 := n4_; have GE154 := n5_; have NB152_154 := n6_; have NB154_152 := n7_; have NB153_154 := n8_; have NB154_153 := n9_; clear n0_ n1_ n2_ n3_ n4_ n5_ n6_ n7_ n8_ n9_; clear hb hbox hg; have hnb5 := NB152_153.out; have hnc5 := NB153_152.out; have hnb6 := NB152_154.out; have hnc6 := NB154_152.out; have hcz7_0 : w4.cell? ⟨gb152, 0, none⟩ = some (.int .i64 a0_0) := (blk_cell BK152.out 0).trans rfl; have hcz7_1 : w4.cell? ⟨gb152, 1, none⟩ = some (.int .i64 a0_1) := (blk_cell BK152.out 1).trans rfl; have hcz7_2 : w4.cell? ⟨gb152, 2, none⟩ = some (.string a0_2) := (blk_cell BK152.out 2).trans rfl; have hfz7_0 := blk_frozen BK152.out 0; have hfz7_1 := blk_frozen BK152.out 1; have hfz7_2 := blk_frozen BK152.out 2; have hnb8 := NB154_153.out; have hnc8 := NB153_154.out; have hcz9_0 : w4.cell? ⟨gb154, 0, none⟩ = some (.int .i64 0) := (blk_cell BK154.out 0).trans rfl; have hcz9_1 : w4.cell? ⟨gb154, 1, none⟩ = some (.int .i64 0) := (blk_cell BK154.out 1).trans rfl; have hcz9_2 : w4.cell? ⟨gb154, 2, none⟩ = some (.string (⟨#[]⟩ : ByteArray)) := (blk_cell BK154.out 2).trans rfl; have hfz9_0 := blk_frozen BK154.out 0; have hfz9_1 := blk_frozen BK154.out 1; have hfz9_2 := blk_frozen BK154.out 2; have hcz10_0 : w4.cell? ⟨gb153, 0, none⟩ = some (.int .i64 0) := (blk_cell BK153.out 0).trans rfl; have hcz10_1 : w4.cell? ⟨gb153, 1, none⟩ = some (.int .i64 0) := (blk_cell BK153.out 1).trans rfl; have hcz10_2 : w4.cell? ⟨gb153, 2, none⟩ = some (.string (⟨#[]⟩ : ByteArray)) := (blk_cell BK153.out 2).trans rfl; have hfz10_0 := blk_frozen BK153.out 0; have hfz10_1 := blk_frozen BK153.out 1; have hfz10_2 := blk_frozen BK153.out 2))
  refine bodyPost_ret (results_cell_row rfl _ _ gb153 28 #[.int .i64 a0_0, .int .i64 a0_1, .string a0_2] (0, 0) _ rfl (by (with_reducible repeat (first | refine blk_drewN ?_ _ | refine blk_drew ?_ | refine blk_alloc ?_ _)); refine blk_put (cs := #[.int .i64 a0_0, .int .i64 a0_1, .string (⟨#[]⟩ : ByteArray)]) ?_ 2 _ rfl; (with_reducible repeat (first | refine blk_drewN ?_ _ | refine blk_drew ?_ | refine blk_alloc ?_ _)); refine blk_put (cs := #[.int .i64 a0_0, .int .i64 0, .string (⟨#[]⟩ : ByteArray)]) ?_ 1 _ rfl; (with_reducible repeat (first | refine blk_drewN ?_ _ | refine blk_drew ?_ | refine blk_alloc ?_ _)); refine blk_put (cs := #[.int .i64 0, .int .i64 0, .string (⟨#[]⟩ : ByteArray)]) ?_ 0 _ rfl; (with_reducible repeat (first | refine blk_drewN ?_ _ | refine blk_drew ?_ | refine blk_alloc ?_ _)); refine blk_far ?_ NB153_154.out _; (with_reducible repeat (first | refine blk_drewN ?_ _ | refine blk_drew ?_ | refine blk_alloc ?_ _)); refine blk_far ?_ NB153_154.out _; (with_reducible repeat (first | refine blk_drewN ?_ _ | refine blk_drew ?_ | refine blk_alloc ?_ _)); refine blk_far ?_ NB153_154.out _; (with_reducible repeat (first | refine blk_drewN ?_ _ | refine blk_drew ?_ | refine blk_alloc ?_ _)); exact BK153.out) Tryd.underlying28 rfl (by kernel_rfl)) rfl ?_
  exact ⟨by first | rfl | (simp [errW_none, errW_some] <;> rfl) | (simp [*, errW_none, errW_some] <;> rfl), by repeat (first | (with_reducible first | exact HB.out | apply below_alloc | apply pw_below_drewN | apply below_drew1 | refine below_set ?_ GE152.out | refine below_set ?_ GE153.out | refine below_set ?_ GE154.out) | exact HB.out)⟩

end Go.Proofs.YtigkkgikdpjdnaaDoor.A
