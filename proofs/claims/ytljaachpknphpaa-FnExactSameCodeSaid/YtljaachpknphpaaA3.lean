/- Walks of the program's functions: each Go function's answer as a plain Lean function, and that the call comes to it. Written by a program. Conditions: those in each theorem's own head. -/
import Derived.Test.YtljaachpknphpaaA0
import Derived.Test.YtljaachpknphpaaA2
namespace Go.Proofs.Ytljaachpknphpaa.A
open Go.RowKit Go.Proofs.YtljaachpknphpaaW.PrintWords Go.Proofs.YtljaachpknphpaaW.PrintLast Go.Proofs.YtljaachpknphpaaW.PrintMore
attribute [local go_sem] max2_int min2_int max_two min_two max_three min_three max_four min_four   -- for this text's walks alone
set_option linter.unusedVariables false
set_option linter.unusedSimpArgs false

theorem d3_1 {p : Prop} (h : p := by first | (with_reducible assumption) | assumption) : p := h
theorem d3_2 {p : Prop} (h : p := by repeat (first | (with_reducible first | exact HB.out | apply below_alloc | apply pw_below_drewN | apply below_drew1) | exact HB.out)) : p := h
theorem d3_3 {p : Prop} (h : p := by (with_reducible repeat (first | refine blk_drewN ?_ _ | refine blk_drew ?_ | refine blk_alloc ?_ _)); exact BK127.out) : p := h
theorem d3_4 {p : Prop} (h : p := by first | rfl | (simp; done) | (simp [*]; done) | (simp [ne_nil_b, eq_nil_b]; done)) : p := h
theorem d3_5 {p : Prop} (h : p := by repeat (first | (with_reducible first | exact HB.out | apply below_alloc | apply pw_below_drewN | apply below_drew1 | refine below_set ?_ GE127.out | refine below_set ?_ GE128.out) | exact HB.out)) : p := h
theorem d3_6 {p : Prop} (h : p := by repeat (first | (with_reducible first | exact HB.out | apply below_alloc | apply pw_below_drewN | apply below_drew1 | refine below_set ?_ GE127.out) | exact HB.out)) : p := h

/-! ### spec_l9SameOp: function 44 -/
def spec_l9SameOp.f (k : Nat) (a0_0 : Int) (a0_1 : Int) (a0_2 : Int) (a0_3 : Int) (a0_4 : Int) (a0_5 : ByteArray) (l0_6 : List (S96)) (a1_0 : Int) (a1_1 : Int) (a1_2 : Int) (a1_3 : Int) (a1_4 : Int) (a1_5 : ByteArray) (l1_6 : List (S96)) : Option (Bool) := if a0_0 = a1_0 then (if a0_1 = a1_1 then (if a0_2 = a1_2 then (if a0_3 = a1_3 then (if a0_4 = a1_4 then (if a0_5.toList = a1_5.toList then ((spec_SameData.f k l0_6 l1_6).bind fun t116 => (some t116)) else (some false)) else (some false)) else (some false)) else (some false)) else (some false)) else (some false)
theorem spec_l9SameOp.mono : ∀ a0 a1 a2 a3 a4 a5 a6 a7 a8 a9 a10 a11 a12 a13 k, LeO (spec_l9SameOp.f k a0 a1 a2 a3 a4 a5 a6 a7 a8 a9 a10 a11 a12 a13) (spec_l9SameOp.f (k + 1) a0 a1 a2 a3 a4 a5 a6 a7 a8 a9 a10 a11 a12 a13) := by
  intro a0 a1 a2 a3 a4 a5 a6 a7 a8 a9 a10 a11 a12 a13 k
  unfold spec_l9SameOp.f
  repeat' first
      | (with_reducible exact spec_SameData.mono _ _ _)
      | (with_reducible exact LeO.refl _)
      | (with_reducible exact LeO.none _)
      | (with_reducible refine LeO.ite ?_ ?_)
      | (with_reducible refine LeO.bind ?_ (fun _ => ?_))
      | exact spec_SameData.mono _ _ _
      | exact LeO.none _
      | refine LeO.ite ?_ ?_
      | refine LeO.bind ?_ (fun _ => ?_)
set_option maxHeartbeats 8000000 in
set_option maxRecDepth 100000 in
theorem spec_l9SameOp.calls (k : Nat) (P0_ : Addr) (a0_0 : Int) (a0_1 : Int) (a0_2 : Int) (a0_3 : Int) (a0_4 : Int) (a0_5 : ByteArray) (A0_6 : Option Addr) (c0_6 : Nat) (l0_6 : List (S96)) (P1_ : Addr) (a1_0 : Int) (a1_1 : Int) (a1_2 : Int) (a1_3 : Int) (a1_4 : Int) (a1_5 : ByteArray) (A1_6 : Option Addr) (c1_6 : Nat) (l1_6 : List (S96)) (r : Bool) (w : World) (hq0_0 : w.cell? P0_ = some (.int .i64 a0_0)) (hq0_1 : w.cell? ⟨P0_.block, P0_.off + 1, none⟩ = some (.int .i64 a0_1)) (hq0_2 : w.cell? ⟨P0_.block, P0_.off + 2, none⟩ = some (.int .i64 a0_2)) (hq0_3 : w.cell? ⟨P0_.block, P0_.off + 3, none⟩ = some (.int .i64 a0_3)) (hq0_4 : w.cell? ⟨P0_.block, P0_.off + 4, none⟩ = some (.int .i64 a0_4)) (hq0_5 : w.cell? ⟨P0_.block, P0_.off + 5, none⟩ = some (.string a0_5)) (hq0_6 : w.cell? ⟨P0_.block, P0_.off + 6, none⟩ = some (.slice A0_6 l0_6.length c0_6)) (hr0_6 : Kd.C k96 w A0_6 l0_6.length l0_6) (hc0_6 : l0_6.length ≤ c0_6) (hq1_0 : w.cell? P1_ = some (.int .i64 a1_0)) (hq1_1 : w.cell? ⟨P1_.block, P1_.off + 1, none⟩ = some (.int .i64 a1_1)) (hq1_2 : w.cell? ⟨P1_.block, P1_.off + 2, none⟩ = some (.int .i64 a1_2)) (hq1_3 : w.cell? ⟨P1_.block, P1_.off + 3, none⟩ = some (.int .i64 a1_3)) (hq1_4 : w.cell? ⟨P1_.block, P1_.off + 4, none⟩ = some (.int .i64 a1_4)) (hq1_5 : w.cell? ⟨P1_.block, P1_.off + 5, none⟩ = some (.string a1_5)) (hq1_6 : w.cell? ⟨P1_.block, P1_.off + 6, none⟩ = some (.slice A1_6 l1_6.length c1_6)) (hr1_6 : Kd.C k96 w A1_6 l1_6.length l1_6) (hc1_6 : l1_6.length ≤ c1_6) (h : spec_l9SameOp.f k a0_0 a0_1 a0_2 a0_3 a0_4 a0_5 l0_6 a1_0 a1_1 a1_2 a1_3 a1_4 a1_5 l1_6 = some r) :
    Calls Try.prog 44 #[.pointer (some P0_), .pointer (some P1_)] w fun e w' => e = .returned (.bool r) ∧ Drawn0 w w' := by
  have HQ0_0 := ak hq0_0
  clear hq0_0
  have HQ0_1 := ak hq0_1
  clear hq0_1
  have HQ0_2 := ak hq0_2
  clear hq0_2
  have HQ0_3 := ak hq0_3
  clear hq0_3
  have HQ0_4 := ak hq0_4
  clear hq0_4
  have HQ0_5 := ak hq0_5
  clear hq0_5
  have HQ0_6 := ak hq0_6
  clear hq0_6
  have HR0_6 := ak hr0_6
  have HC0_6 := ak hc0_6
  clear hr0_6 hc0_6
  have HQ1_0 := ak hq1_0
  clear hq1_0
  have HQ1_1 := ak hq1_1
  clear hq1_1
  have HQ1_2 := ak hq1_2
  clear hq1_2
  have HQ1_3 := ak hq1_3
  clear hq1_3
  have HQ1_4 := ak hq1_4
  clear hq1_4
  have HQ1_5 := ak hq1_5
  clear hq1_5
  have HQ1_6 := ak hq1_6
  clear hq1_6
  have HR1_6 := ak hr1_6
  have HC1_6 := ak hc1_6
  clear hr1_6 hc1_6
  have H : (if a0_0 = a1_0 then (if a0_1 = a1_1 then (if a0_2 = a1_2 then (if a0_3 = a1_3 then (if a0_4 = a1_4 then (if a0_5.toList = a1_5.toList then ((spec_SameData.f k l0_6 l1_6).bind fun t116 => (some t116)) else (some false)) else (some false)) else (some false)) else (some false)) else (some false)) else (some false)) = some r := h
  clear h
  by_cases c3 : a0_0 = a1_0
  ·rw [if_pos c3] at H
   have c3b0 : (a0_0 == a1_0) = true := beq_iff_eq.mpr c3
   have c3b1 : (a0_0 != a1_0) = false := bne_eq_false_iff_eq.mpr c3
   clear c3
   by_cases c4 : a0_1 = a1_1
   ·rw [if_pos c4] at H
    have c4b0 : (a0_1 == a1_1) = true := beq_iff_eq.mpr c4
    have c4b1 : (a0_1 != a1_1) = false := bne_eq_false_iff_eq.mpr c4
    clear c4
    by_cases c5 : a0_2 = a1_2
    ·rw [if_pos c5] at H
     have c5b0 : (a0_2 == a1_2) = true := beq_iff_eq.mpr c5
     have c5b1 : (a0_2 != a1_2) = false := bne_eq_false_iff_eq.mpr c5
     clear c5
     by_cases c6 : a0_3 = a1_3
     ·rw [if_pos c6] at H
      have c6b0 : (a0_3 == a1_3) = true := beq_iff_eq.mpr c6
      have c6b1 : (a0_3 != a1_3) = false := bne_eq_false_iff_eq.mpr c6
      clear c6
      by_cases c7 : a0_4 = a1_4
      ·rw [if_pos c7] at H
       have c7b0 : (a0_4 == a1_4) = true := beq_iff_eq.mpr c7
       have c7b1 : (a0_4 != a1_4) = false := bne_eq_false_iff_eq.mpr c7
       clear c7
       by_cases c8 : a0_5.toList = a1_5.toList
       ·rw [if_pos c8] at H
        have c8b0 : (a0_5.toList == a1_5.toList) = true := beq_iff_eq.mpr c8
        have c8b1 : (a0_5.toList != a1_5.toList) = false := bne_eq_false_iff_eq.mpr c8
        clear c8
        replace H := Option.bind_eq_some_iff.mp H
        obtain ⟨t116, A90, H⟩ := H
        replace H : (some t116) = some r := H
        have A9 := ak A90
        clear A90
        obtain rfl := Option.some.inj H
        have hx114_0 := HQ0_0.out
        have hx114_1 := HQ0_1.out
        have hx114_2 := HQ0_2.out
        have hx114_3 := HQ0_3.out
        have hx114_4 := HQ0_4.out
        have hx114_5 := HQ0_5.out
        have hx114_6 := HQ0_6.out
        have hx115_0 := HQ1_0.out
        have hx115_1 := HQ1_1.out
        have hx115_2 := HQ1_2.out
        have hx115_3 := HQ1_3.out
        have hx115_4 := HQ1_4.out
        have hx115_5 := HQ1_5.out
        have hx115_6 := HQ1_6.out
        go_enter Try.func44, Try.ntmps44
        go_wp2_with (first | (go_at_call 37; (with_reducible refine (spec_SameData.calls k _ _ l0_6 _ _ l1_6 t116 _ ?side1 ?side2 ?side3 ?side4 A9.out).mono ?_); (case side1 => repeat (first | exact HR0_6.out | (with_reducible refine Kd.C_alloc ?_ _) | (with_reducible refine Kd.C_drewN ?_ _) | (with_reducible refine Kd.C_drew ?_))); (case side2 => exact HC0_6.out); (case side3 => repeat (first | exact HR1_6.out | (with_reducible refine Kd.C_alloc ?_ _) | (with_reducible refine Kd.C_drewN ?_ _) | (with_reducible refine Kd.C_drew ?_))); (case side4 => exact HC1_6.out); rintro e w' ⟨rfl, ⟨nd, rfl⟩⟩; (try first | exact ⟨rfl, _, World.drewN_drewN _ _ _⟩ | exact ⟨rfl, _, Eq.trans (World.drewN_drewN _ _ _) (congrArg (World.drewN _) (Nat.add_assoc _ _ _))⟩)))
        repeat (go_quiet (first | (go_at_call 37; (with_reducible refine (spec_SameData.calls k _ _ l0_6 _ _ l1_6 t116 _ ?side1 ?side2 ?side3 ?side4 A9.out).mono ?_); (case side1 => repeat (first | exact HR0_6.out | (with_reducible refine Kd.C_alloc ?_ _) | (with_reducible refine Kd.C_drewN ?_ _) | (with_reducible refine Kd.C_drew ?_))); (case side2 => exact HC0_6.out); (case side3 => repeat (first | exact HR1_6.out | (with_reducible refine Kd.C_alloc ?_ _) | (with_reducible refine Kd.C_drewN ?_ _) | (with_reducible refine Kd.C_drew ?_))); (case side4 => exact HC1_6.out); rintro e w' ⟨rfl, ⟨nd, rfl⟩⟩; (try first | exact ⟨rfl, _, World.drewN_drewN _ _ _⟩ | exact ⟨rfl, _, Eq.trans (World.drewN_drewN _ _ _) (congrArg (World.drewN _) (Nat.add_assoc _ _ _))⟩))); try go_wp2_with (first | (go_at_call 37; (with_reducible refine (spec_SameData.calls k _ _ l0_6 _ _ l1_6 t116 _ ?side1 ?side2 ?side3 ?side4 A9.out).mono ?_); (case side1 => repeat (first | exact HR0_6.out | (with_reducible refine Kd.C_alloc ?_ _) | (with_reducible refine Kd.C_drewN ?_ _) | (with_reducible refine Kd.C_drew ?_))); (case side2 => exact HC0_6.out); (case side3 => repeat (first | exact HR1_6.out | (with_reducible refine Kd.C_alloc ?_ _) | (with_reducible refine Kd.C_drewN ?_ _) | (with_reducible refine Kd.C_drew ?_))); (case side4 => exact HC1_6.out); rintro e w' ⟨rfl, ⟨nd, rfl⟩⟩; (try first | exact ⟨rfl, _, World.drewN_drewN _ _ _⟩ | exact ⟨rfl, _, Eq.trans (World.drewN_drewN _ _ _) (congrArg (World.drewN _) (Nat.add_assoc _ _ _))⟩))))
        go_ret
        exact ⟨by first | rfl | (simp; done) | (simp [*]; done) | (simp [ne_nil_b, eq_nil_b]; done), by repeat (first | exact Drawn0.refl _ | apply Drawn0.step)⟩
       ·rw [if_neg c8] at H
        have c8b0 : (a0_5.toList == a1_5.toList) = false := beq_eq_false_iff_ne.mpr c8
        have c8b1 : (a0_5.toList != a1_5.toList) = true := bne_iff_ne.mpr c8
        obtain rfl := Option.some.inj H
        have hx114_0 := HQ0_0.out
        have hx114_1 := HQ0_1.out
        have hx114_2 := HQ0_2.out
        have hx114_3 := HQ0_3.out
        have hx114_4 := HQ0_4.out
        have hx114_5 := HQ0_5.out
        have hx114_6 := HQ0_6.out
        have hx115_0 := HQ1_0.out
        have hx115_1 := HQ1_1.out
        have hx115_2 := HQ1_2.out
        have hx115_3 := HQ1_3.out
        have hx115_4 := HQ1_4.out
        have hx115_5 := HQ1_5.out
        have hx115_6 := HQ1_6.out
        go_enter Try.func44, Try.ntmps44
        go_wp2
        repeat (go_quiet (fail); try go_wp2)
        go_ret
        exact ⟨by first | rfl | (simp; done) | (simp [*]; done) | (simp [ne_nil_b, eq_nil_b]; done), by repeat (first | exact Drawn0.refl _ | apply Drawn0.step)⟩
      ·rw [if_neg c7] at H
       have c7b0 : (a0_4 == a1_4) = false := beq_eq_false_iff_ne.mpr c7
       have c7b1 : (a0_4 != a1_4) = true := bne_iff_ne.mpr c7
       obtain rfl := Option.some.inj H
       have hx114_0 := HQ0_0.out
       have hx114_1 := HQ0_1.out
       have hx114_2 := HQ0_2.out
       have hx114_3 := HQ0_3.out
       have hx114_4 := HQ0_4.out
       have hx114_5 := HQ0_5.out
       have hx114_6 := HQ0_6.out
       have hx115_0 := HQ1_0.out
       have hx115_1 := HQ1_1.out
       have hx115_2 := HQ1_2.out
       have hx115_3 := HQ1_3.out
       have hx115_4 := HQ1_4.out
       have hx115_5 := HQ1_5.out
       have hx115_6 := HQ1_6.out
       go_enter Try.func44, Try.ntmps44
       go_wp2
       repeat (go_quiet (fail); try go_wp2)
       go_ret
       exact ⟨by first | rfl | (simp; done) | (simp [*]; done) | (simp [ne_nil_b, eq_nil_b]; done), by repeat (first | exact Drawn0.refl _ | apply Drawn0.step)⟩
     ·rw [if_neg c6] at H
      have c6b0 : (a0_3 == a1_3) = false := beq_eq_false_iff_ne.mpr c6
      have c6b1 : (a0_3 != a1_3) = true := bne_iff_ne.mpr c6
      obtain rfl := Option.some.inj H
      have hx114_0 := HQ0_0.out
      have hx114_1 := HQ0_1.out
      have hx114_2 := HQ0_2.out
      have hx114_3 := HQ0_3.out
      have hx114_4 := HQ0_4.out
      have hx114_5 := HQ0_5.out
      have hx114_6 := HQ0_6.out
      have hx115_0 := HQ1_0.out
      have hx115_1 := HQ1_1.out
      have hx115_2 := HQ1_2.out
      have hx115_3 := HQ1_3.out
      have hx115_4 := HQ1_4.out
      have hx115_5 := HQ1_5.out
      have hx115_6 := HQ1_6.out
      go_enter Try.func44, Try.ntmps44
      go_wp2
      repeat (go_quiet (fail); try go_wp2)
      go_ret
      exact ⟨by first | rfl | (simp; done) | (simp [*]; done) | (simp [ne_nil_b, eq_nil_b]; done), by repeat (first | exact Drawn0.refl _ | apply Drawn0.step)⟩
    ·rw [if_neg c5] at H
     have c5b0 : (a0_2 == a1_2) = false := beq_eq_false_iff_ne.mpr c5
     have c5b1 : (a0_2 != a1_2) = true := bne_iff_ne.mpr c5
     obtain rfl := Option.some.inj H
     have hx114_0 := HQ0_0.out
     have hx114_1 := HQ0_1.out
     have hx114_2 := HQ0_2.out
     have hx114_3 := HQ0_3.out
     have hx114_4 := HQ0_4.out
     have hx114_5 := HQ0_5.out
     have hx114_6 := HQ0_6.out
     have hx115_0 := HQ1_0.out
     have hx115_1 := HQ1_1.out
     have hx115_2 := HQ1_2.out
     have hx115_3 := HQ1_3.out
     have hx115_4 := HQ1_4.out
     have hx115_5 := HQ1_5.out
     have hx115_6 := HQ1_6.out
     go_enter Try.func44, Try.ntmps44
     go_wp2
     repeat (go_quiet (fail); try go_wp2)
     go_ret
     exact ⟨by first | rfl | (simp; done) | (simp [*]; done) | (simp [ne_nil_b, eq_nil_b]; done), by repeat (first | exact Drawn0.refl _ | apply Drawn0.step)⟩
   ·rw [if_neg c4] at H
    have c4b0 : (a0_1 == a1_1) = false := beq_eq_false_iff_ne.mpr c4
    have c4b1 : (a0_1 != a1_1) = true := bne_iff_ne.mpr c4
    obtain rfl := Option.some.inj H
    have hx114_0 := HQ0_0.out
    have hx114_1 := HQ0_1.out
    have hx114_2 := HQ0_2.out
    have hx114_3 := HQ0_3.out
    have hx114_4 := HQ0_4.out
    have hx114_5 := HQ0_5.out
    have hx114_6 := HQ0_6.out
    have hx115_0 := HQ1_0.out
    have hx115_1 := HQ1_1.out
    have hx115_2 := HQ1_2.out
    have hx115_3 := HQ1_3.out
    have hx115_4 := HQ1_4.out
    have hx115_5 := HQ1_5.out
    have hx115_6 := HQ1_6.out
    go_enter Try.func44, Try.ntmps44
    go_wp2
    repeat (go_quiet (fail); try go_wp2)
    go_ret
    exact ⟨by first | rfl | (simp; done) | (simp [*]; done) | (simp [ne_nil_b, eq_nil_b]; done), by repeat (first | exact Drawn0.refl _ | apply Drawn0.step)⟩
  ·rw [if_neg c3] at H
   have c3b0 : (a0_0 == a1_0) = false := beq_eq_false_iff_ne.mpr c3
   have c3b1 : (a0_0 != a1_0) = true := bne_iff_ne.mpr c3
   obtain rfl := Option.some.inj H
   have hx114_0 := HQ0_0.out
   have hx114_1 := HQ0_1.out
   have hx114_2 := HQ0_2.out
   have hx114_3 := HQ0_3.out
   have hx114_4 := HQ0_4.out
   have hx114_5 := HQ0_5.out
   have hx114_6 := HQ0_6.out
   have hx115_0 := HQ1_0.out
   have hx115_1 := HQ1_1.out
   have hx115_2 := HQ1_2.out
   have hx115_3 := HQ1_3.out
   have hx115_4 := HQ1_4.out
   have hx115_5 := HQ1_5.out
   have hx115_6 := HQ1_6.out
   go_enter Try.func44, Try.ntmps44
   go_wp2
   repeat (go_quiet (fail); try go_wp2)
   go_ret
   exact ⟨by first | rfl | (simp; done) | (simp [*]; done) | (simp [ne_nil_b, eq_nil_b]; done), by repeat (first | exact Drawn0.refl _ | apply Drawn0.step)⟩

/-! ### spec_SameCode: function 18 -/
mutual
def spec_SameCode.l0 : Nat → List (S69) → List (S69) → Int → Option (Bool)
  | 0, _, _, _ => none
  | k + 1, x0, x1, x5 => if x5 < (x0.length : Int) then (if 0 ≤ x5 then (if x5 < (x1.length : Int) then (if ((rd_T69 x0 x5).f0) = ((rd_T69 x1 x5).f0) then (spec_SameCode.j1 k x0 x1 x5 ((((rd_T69 x0 x5).f1).length : Int) != (((rd_T69 x1 x5).f1).length : Int))) else (spec_SameCode.j1 k x0 x1 x5 true)) else (none)) else (none)) else (some true)
def spec_SameCode.j1 : Nat → List (S69) → List (S69) → Int → Bool → Option (Bool)
  | 0, _, _, _, _ => none
  | k + 1, x0, x1, x5, x43 => if x43 = true then (some false) else (spec_SameCode.l1 k x0 x1 x5 0)
def spec_SameCode.l1 : Nat → List (S69) → List (S69) → Int → Int → Option (Bool)
  | 0, _, _, _, _ => none
  | k + 1, x0, x1, x5, x6 => if 0 ≤ x5 then (if x5 < (x0.length : Int) then (if x6 < (((rd_T69 x0 x5).f1).length : Int) then (if 0 ≤ x6 then (if x5 < (x1.length : Int) then (if x6 < (((rd_T69 x1 x5).f1).length : Int) then ((spec_l9SameOp.f k ((rd_T73 ((rd_T69 x0 x5).f1) x6).f0) ((rd_T73 ((rd_T69 x0 x5).f1) x6).f1) ((rd_T73 ((rd_T69 x0 x5).f1) x6).f2) ((rd_T73 ((rd_T69 x0 x5).f1) x6).f3) ((rd_T73 ((rd_T69 x0 x5).f1) x6).f4) ((rd_T73 ((rd_T69 x0 x5).f1) x6).f5) ((rd_T73 ((rd_T69 x0 x5).f1) x6).f6) ((rd_T73 ((rd_T69 x1 x5).f1) x6).f0) ((rd_T73 ((rd_T69 x1 x5).f1) x6).f1) ((rd_T73 ((rd_T69 x1 x5).f1) x6).f2) ((rd_T73 ((rd_T69 x1 x5).f1) x6).f3) ((rd_T73 ((rd_T69 x1 x5).f1) x6).f4) ((rd_T73 ((rd_T69 x1 x5).f1) x6).f5) ((rd_T73 ((rd_T69 x1 x5).f1) x6).f6)).bind fun t126 => (if t126 = true then (spec_SameCode.l1 k x0 x1 x5 (wrap64 (x6 + 1))) else (some false))) else (none)) else (none)) else (none)) else (spec_SameCode.l0 k x0 x1 (wrap64 (x5 + 1)))) else (none)) else (none)
end
def spec_SameCode.f (k : Nat) (l0 : List (S69)) (l1 : List (S69)) : Option (Bool) := if (l0.length : Int) = (l1.length : Int) then (spec_SameCode.l0 k l0 l1 0) else (some false)
theorem spec_SameCode.mono_l : ∀ k, (∀ y0 y1 y2, LeO (spec_SameCode.l0 k y0 y1 y2) (spec_SameCode.l0 (k + 1) y0 y1 y2)) ∧ (∀ y0 y1 y2 y3, LeO (spec_SameCode.j1 k y0 y1 y2 y3) (spec_SameCode.j1 (k + 1) y0 y1 y2 y3)) ∧ (∀ y0 y1 y2 y3, LeO (spec_SameCode.l1 k y0 y1 y2 y3) (spec_SameCode.l1 (k + 1) y0 y1 y2 y3))
  | 0 => ⟨fun _ _ _ r h => by simp [spec_SameCode.l0] at h, fun _ _ _ _ r h => by simp [spec_SameCode.j1] at h, fun _ _ _ _ r h => by simp [spec_SameCode.l1] at h⟩
  | k + 1 => by
    obtain ⟨ih0, ih1, ih2⟩ := spec_SameCode.mono_l k
    refine ⟨?_, ?_, ?_⟩
    · intro y0 y1 y2
      unfold spec_SameCode.l0
      repeat' first
      | (with_reducible exact ih0 _ _ _)
      | (with_reducible exact ih1 _ _ _ _)
      | (with_reducible exact ih2 _ _ _ _)
      | (with_reducible exact spec_l9SameOp.mono _ _ _ _ _ _ _ _ _ _ _ _ _ _ _)
      | (with_reducible exact LeO.refl _)
      | (with_reducible exact LeO.none _)
      | (with_reducible refine LeO.ite ?_ ?_)
      | (with_reducible refine LeO.bind ?_ (fun _ => ?_))
      | exact ih0 _ _ _
      | exact ih1 _ _ _ _
      | exact ih2 _ _ _ _
      | exact spec_l9SameOp.mono _ _ _ _ _ _ _ _ _ _ _ _ _ _ _
      | exact LeO.none _
      | refine LeO.ite ?_ ?_
      | refine LeO.bind ?_ (fun _ => ?_)
    · intro y0 y1 y2 y3
      unfold spec_SameCode.j1
      repeat' first
      | (with_reducible exact ih0 _ _ _)
      | (with_reducible exact ih1 _ _ _ _)
      | (with_reducible exact ih2 _ _ _ _)
      | (with_reducible exact spec_l9SameOp.mono _ _ _ _ _ _ _ _ _ _ _ _ _ _ _)
      | (with_reducible exact LeO.refl _)
      | (with_reducible exact LeO.none _)
      | (with_reducible refine LeO.ite ?_ ?_)
      | (with_reducible refine LeO.bind ?_ (fun _ => ?_))
      | exact ih0 _ _ _
      | exact ih1 _ _ _ _
      | exact ih2 _ _ _ _
      | exact spec_l9SameOp.mono _ _ _ _ _ _ _ _ _ _ _ _ _ _ _
      | exact LeO.none _
      | refine LeO.ite ?_ ?_
      | refine LeO.bind ?_ (fun _ => ?_)
    · intro y0 y1 y2 y3
      unfold spec_SameCode.l1
      repeat' first
      | (with_reducible exact ih0 _ _ _)
      | (with_reducible exact ih1 _ _ _ _)
      | (with_reducible exact ih2 _ _ _ _)
      | (with_reducible exact spec_l9SameOp.mono _ _ _ _ _ _ _ _ _ _ _ _ _ _ _)
      | (with_reducible exact LeO.refl _)
      | (with_reducible exact LeO.none _)
      | (with_reducible refine LeO.ite ?_ ?_)
      | (with_reducible refine LeO.bind ?_ (fun _ => ?_))
      | exact ih0 _ _ _
      | exact ih1 _ _ _ _
      | exact ih2 _ _ _ _
      | exact spec_l9SameOp.mono _ _ _ _ _ _ _ _ _ _ _ _ _ _ _
      | exact LeO.none _
      | refine LeO.ite ?_ ?_
      | refine LeO.bind ?_ (fun _ => ?_)
theorem spec_SameCode.mono : ∀ a0 a1 k, LeO (spec_SameCode.f k a0 a1) (spec_SameCode.f (k + 1) a0 a1) := by
  intro a0 a1 k
  obtain ⟨ih0, ih1, ih2⟩ := spec_SameCode.mono_l k
  unfold spec_SameCode.f
  repeat' first
      | (with_reducible exact ih0 _ _ _)
      | (with_reducible exact ih1 _ _ _ _)
      | (with_reducible exact ih2 _ _ _ _)
      | (with_reducible exact spec_l9SameOp.mono _ _ _ _ _ _ _ _ _ _ _ _ _ _ _)
      | (with_reducible exact LeO.refl _)
      | (with_reducible exact LeO.none _)
      | (with_reducible refine LeO.ite ?_ ?_)
      | (with_reducible refine LeO.bind ?_ (fun _ => ?_))
      | exact ih0 _ _ _
      | exact ih1 _ _ _ _
      | exact ih2 _ _ _ _
      | exact spec_l9SameOp.mono _ _ _ _ _ _ _ _ _ _ _ _ _ _ _
      | exact LeO.none _
      | refine LeO.ite ?_ ?_
      | refine LeO.bind ?_ (fun _ => ?_)
set_option maxHeartbeats 8000000 in
set_option maxRecDepth 100000 in
theorem spec_SameCode.calls (k : Nat) (A0 : Option Addr) (c0 : Nat) (l0 : List (S69)) (A1 : Option Addr) (c1 : Nat) (l1 : List (S69)) (r : Bool) (w : World) (hr0 : Kd.C k69 w A0 l0.length l0) (hc0 : l0.length ≤ c0) (hr1 : Kd.C k69 w A1 l1.length l1) (hc1 : l1.length ≤ c1) (h : spec_SameCode.f k l0 l1 = some r) :
    Calls Try.prog 18 #[.slice A0 l0.length c0, .slice A1 l1.length c1] w fun e w' => e = .returned (.bool r) ∧ Drawn0 w w' := by
  have HR0 := ak hr0
  have HC0 := ak hc0
  clear hr0 hc0
  have HR1 := ak hr1
  have HC1 := ak hc1
  clear hr1 hc1
  have H : (if (l0.length : Int) = (l1.length : Int) then (spec_SameCode.l0 k l0 l1 0) else (some false)) = some r := h
  clear h
  by_cases c3 : (l0.length : Int) = (l1.length : Int)
  ·rw [if_pos c3] at H
   have c3b0 : ((l0.length : Int) == (l1.length : Int)) = true := beq_iff_eq.mpr c3
   have c3b1 : ((l0.length : Int) != (l1.length : Int)) = false := bne_eq_false_iff_eq.mpr c3
   have c3b2 : (l0.length == l1.length) = true := by first | simpa using c3 | (simp at c3 ⊢; omega)
   clear c3
   have H' := ak H
   clear H
   go_enter Try.func18, Try.ntmps18
   go_wp2
   repeat (go_quiet (fail); try go_wp2)
   go_loopg [5] k (fun kq v5 w' => ∃ (x5_1 : Int), v5 = .int .i64 x5_1 ∧ Aside0 (spec_SameCode.l0 kq l0 l1 x5_1 = some r) ∧ Aside0 (kq ≤ k) ∧ Drawn0 w w')
   case atStart => exact ⟨(0), d3_4, H', ⟨Nat.le_refl _⟩, by repeat (first | exact Drawn0.refl _ | apply Drawn0.step)⟩
   case round =>
    clear H'
    try clear c1
    try clear p2
    try clear c3
    try clear c3b0
    try clear c3b1
    try clear c3b2
    obtain ⟨x5_1, rfl, HA, HK1, ⟨m1, rfl⟩⟩ := hrel
    cases gk with
    | zero => exact absurd HA.out (by simp [spec_SameCode.l0])
    | succ k1 =>
     have H := HA.out
     clear HA
     simp only [spec_SameCode.l0] at H
     by_cases c4 : x5_1 < (l0.length : Int)
     ·rw [if_pos c4] at H
      have c4b0 : decide (x5_1 < (l0.length : Int)) = true := decide_eq_true c4
      clear c4
      have HC5 := ak H
      clear H
      go_upto_region 6 with (fail)
      repeat (go_quiet (fail); go_upto_region 6 with (fail))
      go_cut [43] (fun v43 wc => ∃ (kq : Nat) (x43_4 : Bool), v43 = .bool x43_4 ∧ Aside0 (spec_SameCode.j1 kq l0 l1 x5_1 x43_4 = some r) ∧ Aside0 (kq ≤ k1) ∧ Drawn0 w wc)
      case first =>
       have H := HC5.out
       clear HC5
       by_cases c6 : 0 ≤ x5_1
       ·rw [if_pos c6] at H
        have c6b0 : decide (0 ≤ x5_1) = true := decide_eq_true c6
        clear c6
        (first | rw [c6b0] | (simp only [i64_w, i32_w]; rw [c6b0]) | skip)
        by_cases c7 : x5_1 < (l1.length : Int)
        ·rw [if_pos c7] at H
         have c7b0 : decide (x5_1 < (l1.length : Int)) = true := decide_eq_true c7
         clear c7
         by_cases c8 : ((rd_T69 l0 x5_1).f0) = ((rd_T69 l1 x5_1).f0)
         ·rw [if_pos c8] at H
          have c8b0 : (((rd_T69 l0 x5_1).f0) == ((rd_T69 l1 x5_1).f0)) = true := beq_iff_eq.mpr c8
          have c8b1 : (((rd_T69 l0 x5_1).f0) != ((rd_T69 l1 x5_1).f0)) = false := bne_eq_false_iff_eq.mpr c8
          clear c8
          have H' := ak H
          clear H
          have p117 : 0 ≤ (x5_1 : Int) := of_decide_eq_true d3_1
          have q117 : x5_1 < (l0.length : Int) := of_decide_eq_true d3_1
          obtain ⟨ad117, A117_1, c117_1, e117, hx117_0, hx117_1, hl117_1, hi117_1⟩ := at_T69 HR0.out x5_1 p117 q117
          cases e117
          have HR117_1 := ak hi117_1
          have HC117_1 := ak hl117_1
          clear hi117_1 hl117_1
          replace p117 := eq_true p117
          replace q117 := eq_true q117
          have p118 : 0 ≤ (x5_1 : Int) := of_decide_eq_true d3_1
          have q118 : x5_1 < (l1.length : Int) := of_decide_eq_true d3_1
          obtain ⟨ad118, A118_1, c118_1, e118, hx118_0, hx118_1, hl118_1, hi118_1⟩ := at_T69 HR1.out x5_1 p118 q118
          cases e118
          have HR118_1 := ak hi118_1
          have HC118_1 := ak hl118_1
          clear hi118_1 hl118_1
          replace p118 := eq_true p118
          replace q118 := eq_true q118
          go_wp2
          repeat (go_quiet (fail); try go_wp2)
          go_meet
          case rel => exact ⟨_, (((((rd_T69 l0 x5_1).f1).length : Int) != (((rd_T69 l1 x5_1).f1).length : Int))), d3_4, H', ⟨by have := HK1.out; first | omega | exact Nat.le_refl _⟩, by repeat (first | exact Drawn0.refl _ | apply Drawn0.step)⟩
         ·rw [if_neg c8] at H
          have c8b0 : (((rd_T69 l0 x5_1).f0) == ((rd_T69 l1 x5_1).f0)) = false := beq_eq_false_iff_ne.mpr c8
          have c8b1 : (((rd_T69 l0 x5_1).f0) != ((rd_T69 l1 x5_1).f0)) = true := bne_iff_ne.mpr c8
          have H' := ak H
          clear H
          have p117 : 0 ≤ (x5_1 : Int) := of_decide_eq_true d3_1
          have q117 : x5_1 < (l0.length : Int) := of_decide_eq_true d3_1
          obtain ⟨ad117, A117_1, c117_1, e117, hx117_0, hx117_1, hl117_1, hi117_1⟩ := at_T69 HR0.out x5_1 p117 q117
          cases e117
          have HR117_1 := ak hi117_1
          have HC117_1 := ak hl117_1
          clear hi117_1 hl117_1
          replace p117 := eq_true p117
          replace q117 := eq_true q117
          have p118 : 0 ≤ (x5_1 : Int) := of_decide_eq_true d3_1
          have q118 : x5_1 < (l1.length : Int) := of_decide_eq_true d3_1
          obtain ⟨ad118, A118_1, c118_1, e118, hx118_0, hx118_1, hl118_1, hi118_1⟩ := at_T69 HR1.out x5_1 p118 q118
          cases e118
          have HR118_1 := ak hi118_1
          have HC118_1 := ak hl118_1
          clear hi118_1 hl118_1
          replace p118 := eq_true p118
          replace q118 := eq_true q118
          go_wp2
          repeat (go_quiet (fail); try go_wp2)
          go_meet
          case rel => exact ⟨_, (true), d3_4, H', ⟨by have := HK1.out; first | omega | exact Nat.le_refl _⟩, by repeat (first | exact Drawn0.refl _ | apply Drawn0.step)⟩
        ·rw [if_neg c7] at H
         exact absurd H (by simp)
       ·rw [if_neg c6] at H
        exact absurd H (by simp)
      case rest =>
       clear HC5
       try clear c1
       try clear p2
       try clear c3
       try clear c3b0
       try clear c3b1
       try clear c3b2
       try clear c4
       try clear c4b0
       try clear p2
       obtain ⟨kq, x43_4, rfl, HA, HJ4, ⟨mc4, rfl⟩⟩ := hcut
       cases kq with
       | zero => exact absurd HA.out (by simp [spec_SameCode.j1])
       | succ kj4 =>
        have H := HA.out
        clear HA
        simp only [spec_SameCode.j1] at H
        by_cases c9 : x43_4 = true
        ·subst c9
         have H1 : (some false) = some r := by rw [if_pos rfl] at H; exact H
         clear H
         have H := H1
         clear H1
         obtain rfl := Option.some.inj H
         go_wp2
         repeat (go_quiet (fail); try go_wp2)
         go_ret
         exact ⟨by first | rfl | (simp; done) | (simp [*]; done) | (simp [ne_nil_b, eq_nil_b]; done), by repeat (first | exact Drawn0.refl _ | apply Drawn0.step)⟩
        ·replace c9 := Bool.eq_false_iff.mpr c9
         subst c9
         have H1 : (spec_SameCode.l1 kj4 l0 l1 x5_1 0) = some r := by rw [if_neg (show ¬ (false = true) by decide)] at H; exact H
         clear H
         have H := H1
         clear H1
         have H' := ak H
         clear H
         go_wp2
         repeat (go_quiet (fail); try go_wp2)
         go_loopg [6] kj4 (fun kq v6 w' => ∃ (x6_3 : Int), v6 = .int .i64 x6_3 ∧ Aside0 (spec_SameCode.l1 kq l0 l1 x5_1 x6_3 = some r) ∧ Aside0 (kq ≤ kj4) ∧ Drawn0 w w')
         case atStart => exact ⟨(0), d3_4, H', ⟨Nat.le_refl _⟩, by repeat (first | exact Drawn0.refl _ | apply Drawn0.step)⟩
         case round =>
          clear H'
          try clear c1
          try clear p1
          try clear q1
          try clear hx1
          try clear p2
          try clear c3
          try clear c3b0
          try clear c3b1
          try clear c3b2
          try clear c4
          try clear c4b0
          try clear c6
          try clear c6b0
          try clear c7
          try clear c7b0
          try clear c8
          try clear c8b0
          try clear c8b1
          try clear c9
          try clear hx117_0
          try clear hx117_1
          try clear hx118_0
          try clear hx118_1
          try clear p117
          try clear p118
          try clear p2
          try clear q117
          try clear q118
          obtain ⟨x6_3, rfl, HA, HK3, ⟨m3, rfl⟩⟩ := hrel
          cases gk with
          | zero => exact absurd HA.out (by simp [spec_SameCode.l1])
          | succ k3 =>
           have H := HA.out
           clear HA
           simp only [spec_SameCode.l1] at H
           by_cases c10 : 0 ≤ x5_1
           ·rw [if_pos c10] at H
            have c10b0 : decide (0 ≤ x5_1) = true := decide_eq_true c10
            clear c10
            by_cases c11 : x5_1 < (l0.length : Int)
            ·rw [if_pos c11] at H
             have c11b0 : decide (x5_1 < (l0.length : Int)) = true := decide_eq_true c11
             clear c11
             by_cases c12 : x6_3 < (((rd_T69 l0 x5_1).f1).length : Int)
             ·rw [if_pos c12] at H
              have c12b0 : decide (x6_3 < (((rd_T69 l0 x5_1).f1).length : Int)) = true := decide_eq_true c12
              clear c12
              by_cases c13 : 0 ≤ x6_3
              ·rw [if_pos c13] at H
               have c13b0 : decide (0 ≤ x6_3) = true := decide_eq_true c13
               clear c13
               by_cases c14 : x5_1 < (l1.length : Int)
               ·rw [if_pos c14] at H
                have c14b0 : decide (x5_1 < (l1.length : Int)) = true := decide_eq_true c14
                clear c14
                by_cases c15 : x6_3 < (((rd_T69 l1 x5_1).f1).length : Int)
                ·rw [if_pos c15] at H
                 have c15b0 : decide (x6_3 < (((rd_T69 l1 x5_1).f1).length : Int)) = true := decide_eq_true c15
                 clear c15
                 replace H := Option.bind_eq_some_iff.mp H
                 obtain ⟨t126, A160, H⟩ := H
                 replace H : (if t126 = true then (spec_SameCode.l1 k3 l0 l1 x5_1 (wrap64 (x6_3 + 1))) else (some false)) = some r := H
                 have A16 := ak A160
                 clear A160
                 by_cases c17 : t126 = true
                 ·subst c17
                  have H1 : (spec_SameCode.l1 k3 l0 l1 x5_1 (wrap64 (x6_3 + 1))) = some r := by rw [if_pos rfl] at H; exact H
                  clear H
                  have H := H1
                  clear H1
                  have H' := ak H
                  clear H
                  have p121 : 0 ≤ (x5_1 : Int) := of_decide_eq_true d3_1
                  have q121 : x5_1 < (l0.length : Int) := of_decide_eq_true d3_1
                  obtain ⟨ad121, A121_1, c121_1, e121, hx121_0, hx121_1, hl121_1, hi121_1⟩ := at_T69 HR0.out x5_1 p121 q121
                  cases e121
                  have HR121_1 := ak hi121_1
                  have HC121_1 := ak hl121_1
                  clear hi121_1 hl121_1
                  replace p121 := eq_true p121
                  replace q121 := eq_true q121
                  have p123 : 0 ≤ (x6_3 : Int) := of_decide_eq_true d3_1
                  have q123 : x6_3 < (((rd_T69 l0 x5_1).f1).length : Int) := of_decide_eq_true d3_1
                  obtain ⟨ad123, A123_6, c123_6, e123, hx123_0, hx123_1, hx123_2, hx123_3, hx123_4, hx123_5, hx123_6, hl123_6, hi123_6⟩ := at_T73 HR121_1.out x6_3 p123 q123
                  cases e123
                  have HR123_6 := ak hi123_6
                  have HC123_6 := ak hl123_6
                  clear hi123_6 hl123_6
                  replace p123 := eq_true p123
                  replace q123 := eq_true q123
                  have p124 : 0 ≤ (x5_1 : Int) := of_decide_eq_true d3_1
                  have q124 : x5_1 < (l1.length : Int) := of_decide_eq_true d3_1
                  obtain ⟨ad124, A124_1, c124_1, e124, hx124_0, hx124_1, hl124_1, hi124_1⟩ := at_T69 HR1.out x5_1 p124 q124
                  cases e124
                  have HR124_1 := ak hi124_1
                  have HC124_1 := ak hl124_1
                  clear hi124_1 hl124_1
                  replace p124 := eq_true p124
                  replace q124 := eq_true q124
                  have p125 : 0 ≤ (x6_3 : Int) := of_decide_eq_true d3_1
                  have q125 : x6_3 < (((rd_T69 l1 x5_1).f1).length : Int) := of_decide_eq_true d3_1
                  obtain ⟨ad125, A125_6, c125_6, e125, hx125_0, hx125_1, hx125_2, hx125_3, hx125_4, hx125_5, hx125_6, hl125_6, hi125_6⟩ := at_T73 HR124_1.out x6_3 p125 q125
                  cases e125
                  have HR125_6 := ak hi125_6
                  have HC125_6 := ak hl125_6
                  clear hi125_6 hl125_6
                  replace p125 := eq_true p125
                  replace q125 := eq_true q125
                  go_wp2_with (first | (go_at_call 44; (with_reducible refine (spec_l9SameOp.calls k3 _ ((rd_T73 ((rd_T69 l0 x5_1).f1) x6_3).f0) ((rd_T73 ((rd_T69 l0 x5_1).f1) x6_3).f1) ((rd_T73 ((rd_T69 l0 x5_1).f1) x6_3).f2) ((rd_T73 ((rd_T69 l0 x5_1).f1) x6_3).f3) ((rd_T73 ((rd_T69 l0 x5_1).f1) x6_3).f4) ((rd_T73 ((rd_T69 l0 x5_1).f1) x6_3).f5) A123_6 c123_6 ((rd_T73 ((rd_T69 l0 x5_1).f1) x6_3).f6) _ ((rd_T73 ((rd_T69 l1 x5_1).f1) x6_3).f0) ((rd_T73 ((rd_T69 l1 x5_1).f1) x6_3).f1) ((rd_T73 ((rd_T69 l1 x5_1).f1) x6_3).f2) ((rd_T73 ((rd_T69 l1 x5_1).f1) x6_3).f3) ((rd_T73 ((rd_T69 l1 x5_1).f1) x6_3).f4) ((rd_T73 ((rd_T69 l1 x5_1).f1) x6_3).f5) A125_6 c125_6 ((rd_T73 ((rd_T69 l1 x5_1).f1) x6_3).f6) true _ ?side1 ?side2 ?side3 ?side4 ?side5 ?side6 ?side7 ?side8 ?side9 ?side10 ?side11 ?side12 ?side13 ?side14 ?side15 ?side16 ?side17 ?side18 A16.out).mono ?_); (case side1 => first | exact hx123_0 | (refine Eq.trans ?_ hx123_0; simp only [go_sem])); (case side2 => first | exact hx123_1 | (refine Eq.trans ?_ hx123_1; simp only [go_sem])); (case side3 => first | exact hx123_2 | (refine Eq.trans ?_ hx123_2; simp only [go_sem])); (case side4 => first | exact hx123_3 | (refine Eq.trans ?_ hx123_3; simp only [go_sem])); (case side5 => first | exact hx123_4 | (refine Eq.trans ?_ hx123_4; simp only [go_sem])); (case side6 => first | exact hx123_5 | (refine Eq.trans ?_ hx123_5; simp only [go_sem])); (case side7 => first | exact hx123_6 | (refine Eq.trans ?_ hx123_6; simp only [go_sem])); (case side8 => repeat (first | exact HR123_6.out | (with_reducible refine Kd.C_alloc ?_ _) | (with_reducible refine Kd.C_drewN ?_ _) | (with_reducible refine Kd.C_drew ?_))); (case side9 => exact HC123_6.out); (case side10 => first | exact hx125_0 | (refine Eq.trans ?_ hx125_0; simp only [go_sem])); (case side11 => first | exact hx125_1 | (refine Eq.trans ?_ hx125_1; simp only [go_sem])); (case side12 => first | exact hx125_2 | (refine Eq.trans ?_ hx125_2; simp only [go_sem])); (case side13 => first | exact hx125_3 | (refine Eq.trans ?_ hx125_3; simp only [go_sem])); (case side14 => first | exact hx125_4 | (refine Eq.trans ?_ hx125_4; simp only [go_sem])); (case side15 => first | exact hx125_5 | (refine Eq.trans ?_ hx125_5; simp only [go_sem])); (case side16 => first | exact hx125_6 | (refine Eq.trans ?_ hx125_6; simp only [go_sem])); (case side17 => repeat (first | exact HR125_6.out | (with_reducible refine Kd.C_alloc ?_ _) | (with_reducible refine Kd.C_drewN ?_ _) | (with_reducible refine Kd.C_drew ?_))); (case side18 => exact HC125_6.out); rintro e w' ⟨rfl, ⟨nd, rfl⟩⟩; (try first | exact ⟨rfl, _, World.drewN_drewN _ _ _⟩ | exact ⟨rfl, _, Eq.trans (World.drewN_drewN _ _ _) (congrArg (World.drewN _) (Nat.add_assoc _ _ _))⟩)))
                  repeat (go_quiet (first | (go_at_call 44; (with_reducible refine (spec_l9SameOp.calls k3 _ ((rd_T73 ((rd_T69 l0 x5_1).f1) x6_3).f0) ((rd_T73 ((rd_T69 l0 x5_1).f1) x6_3).f1) ((rd_T73 ((rd_T69 l0 x5_1).f1) x6_3).f2) ((rd_T73 ((rd_T69 l0 x5_1).f1) x6_3).f3) ((rd_T73 ((rd_T69 l0 x5_1).f1) x6_3).f4) ((rd_T73 ((rd_T69 l0 x5_1).f1) x6_3).f5) A123_6 c123_6 ((rd_T73 ((rd_T69 l0 x5_1).f1) x6_3).f6) _ ((rd_T73 ((rd_T69 l1 x5_1).f1) x6_3).f0) ((rd_T73 ((rd_T69 l1 x5_1).f1) x6_3).f1) ((rd_T73 ((rd_T69 l1 x5_1).f1) x6_3).f2) ((rd_T73 ((rd_T69 l1 x5_1).f1) x6_3).f3) ((rd_T73 ((rd_T69 l1 x5_1).f1) x6_3).f4) ((rd_T73 ((rd_T69 l1 x5_1).f1) x6_3).f5) A125_6 c125_6 ((rd_T73 ((rd_T69 l1 x5_1).f1) x6_3).f6) true _ ?side1 ?side2 ?side3 ?side4 ?side5 ?side6 ?side7 ?side8 ?side9 ?side10 ?side11 ?side12 ?side13 ?side14 ?side15 ?side16 ?side17 ?side18 A16.out).mono ?_); (case side1 => first | exact hx123_0 | (refine Eq.trans ?_ hx123_0; simp only [go_sem])); (case side2 => first | exact hx123_1 | (refine Eq.trans ?_ hx123_1; simp only [go_sem])); (case side3 => first | exact hx123_2 | (refine Eq.trans ?_ hx123_2; simp only [go_sem])); (case side4 => first | exact hx123_3 | (refine Eq.trans ?_ hx123_3; simp only [go_sem])); (case side5 => first | exact hx123_4 | (refine Eq.trans ?_ hx123_4; simp only [go_sem])); (case side6 => first | exact hx123_5 | (refine Eq.trans ?_ hx123_5; simp only [go_sem])); (case side7 => first | exact hx123_6 | (refine Eq.trans ?_ hx123_6; simp only [go_sem])); (case side8 => repeat (first | exact HR123_6.out | (with_reducible refine Kd.C_alloc ?_ _) | (with_reducible refine Kd.C_drewN ?_ _) | (with_reducible refine Kd.C_drew ?_))); (case side9 => exact HC123_6.out); (case side10 => first | exact hx125_0 | (refine Eq.trans ?_ hx125_0; simp only [go_sem])); (case side11 => first | exact hx125_1 | (refine Eq.trans ?_ hx125_1; simp only [go_sem])); (case side12 => first | exact hx125_2 | (refine Eq.trans ?_ hx125_2; simp only [go_sem])); (case side13 => first | exact hx125_3 | (refine Eq.trans ?_ hx125_3; simp only [go_sem])); (case side14 => first | exact hx125_4 | (refine Eq.trans ?_ hx125_4; simp only [go_sem])); (case side15 => first | exact hx125_5 | (refine Eq.trans ?_ hx125_5; simp only [go_sem])); (case side16 => first | exact hx125_6 | (refine Eq.trans ?_ hx125_6; simp only [go_sem])); (case side17 => repeat (first | exact HR125_6.out | (with_reducible refine Kd.C_alloc ?_ _) | (with_reducible refine Kd.C_drewN ?_ _) | (with_reducible refine Kd.C_drew ?_))); (case side18 => exact HC125_6.out); rintro e w' ⟨rfl, ⟨nd, rfl⟩⟩; (try first | exact ⟨rfl, _, World.drewN_drewN _ _ _⟩ | exact ⟨rfl, _, Eq.trans (World.drewN_drewN _ _ _) (congrArg (World.drewN _) (Nat.add_assoc _ _ _))⟩))); try go_wp2_with (first | (go_at_call 44; (with_reducible refine (spec_l9SameOp.calls k3 _ ((rd_T73 ((rd_T69 l0 x5_1).f1) x6_3).f0) ((rd_T73 ((rd_T69 l0 x5_1).f1) x6_3).f1) ((rd_T73 ((rd_T69 l0 x5_1).f1) x6_3).f2) ((rd_T73 ((rd_T69 l0 x5_1).f1) x6_3).f3) ((rd_T73 ((rd_T69 l0 x5_1).f1) x6_3).f4) ((rd_T73 ((rd_T69 l0 x5_1).f1) x6_3).f5) A123_6 c123_6 ((rd_T73 ((rd_T69 l0 x5_1).f1) x6_3).f6) _ ((rd_T73 ((rd_T69 l1 x5_1).f1) x6_3).f0) ((rd_T73 ((rd_T69 l1 x5_1).f1) x6_3).f1) ((rd_T73 ((rd_T69 l1 x5_1).f1) x6_3).f2) ((rd_T73 ((rd_T69 l1 x5_1).f1) x6_3).f3) ((rd_T73 ((rd_T69 l1 x5_1).f1) x6_3).f4) ((rd_T73 ((rd_T69 l1 x5_1).f1) x6_3).f5) A125_6 c125_6 ((rd_T73 ((rd_T69 l1 x5_1).f1) x6_3).f6) true _ ?side1 ?side2 ?side3 ?side4 ?side5 ?side6 ?side7 ?side8 ?side9 ?side10 ?side11 ?side12 ?side13 ?side14 ?side15 ?side16 ?side17 ?side18 A16.out).mono ?_); (case side1 => first | exact hx123_0 | (refine Eq.trans ?_ hx123_0; simp only [go_sem])); (case side2 => first | exact hx123_1 | (refine Eq.trans ?_ hx123_1; simp only [go_sem])); (case side3 => first | exact hx123_2 | (refine Eq.trans ?_ hx123_2; simp only [go_sem])); (case side4 => first | exact hx123_3 | (refine Eq.trans ?_ hx123_3; simp only [go_sem])); (case side5 => first | exact hx123_4 | (refine Eq.trans ?_ hx123_4; simp only [go_sem])); (case side6 => first | exact hx123_5 | (refine Eq.trans ?_ hx123_5; simp only [go_sem])); (case side7 => first | exact hx123_6 | (refine Eq.trans ?_ hx123_6; simp only [go_sem])); (case side8 => repeat (first | exact HR123_6.out | (with_reducible refine Kd.C_alloc ?_ _) | (with_reducible refine Kd.C_drewN ?_ _) | (with_reducible refine Kd.C_drew ?_))); (case side9 => exact HC123_6.out); (case side10 => first | exact hx125_0 | (refine Eq.trans ?_ hx125_0; simp only [go_sem])); (case side11 => first | exact hx125_1 | (refine Eq.trans ?_ hx125_1; simp only [go_sem])); (case side12 => first | exact hx125_2 | (refine Eq.trans ?_ hx125_2; simp only [go_sem])); (case side13 => first | exact hx125_3 | (refine Eq.trans ?_ hx125_3; simp only [go_sem])); (case side14 => first | exact hx125_4 | (refine Eq.trans ?_ hx125_4; simp only [go_sem])); (case side15 => first | exact hx125_5 | (refine Eq.trans ?_ hx125_5; simp only [go_sem])); (case side16 => first | exact hx125_6 | (refine Eq.trans ?_ hx125_6; simp only [go_sem])); (case side17 => repeat (first | exact HR125_6.out | (with_reducible refine Kd.C_alloc ?_ _) | (with_reducible refine Kd.C_drewN ?_ _) | (with_reducible refine Kd.C_drew ?_))); (case side18 => exact HC125_6.out); rintro e w' ⟨rfl, ⟨nd, rfl⟩⟩; (try first | exact ⟨rfl, _, World.drewN_drewN _ _ _⟩ | exact ⟨rfl, _, Eq.trans (World.drewN_drewN _ _ _) (congrArg (World.drewN _) (Nat.add_assoc _ _ _))⟩))))
                  go_roundg k3
                  case measure => have := HK1.out; have := HJ4.out; have := HK3.out; omega
                  case rel => exact ⟨(wrap64 (x6_3 + 1)), d3_4, H', ⟨by have := HK1.out; have := HJ4.out; have := HK3.out; omega⟩, by repeat (first | exact Drawn0.refl _ | apply Drawn0.step)⟩
                 ·replace c17 := Bool.eq_false_iff.mpr c17
                  subst c17
                  have H1 : (some false) = some r := by rw [if_neg (show ¬ (false = true) by decide)] at H; exact H
                  clear H
                  have H := H1
                  clear H1
                  obtain rfl := Option.some.inj H
                  have p121 : 0 ≤ (x5_1 : Int) := of_decide_eq_true d3_1
                  have q121 : x5_1 < (l0.length : Int) := of_decide_eq_true d3_1
                  obtain ⟨ad121, A121_1, c121_1, e121, hx121_0, hx121_1, hl121_1, hi121_1⟩ := at_T69 HR0.out x5_1 p121 q121
                  cases e121
                  have HR121_1 := ak hi121_1
                  have HC121_1 := ak hl121_1
                  clear hi121_1 hl121_1
                  replace p121 := eq_true p121
                  replace q121 := eq_true q121
                  have p123 : 0 ≤ (x6_3 : Int) := of_decide_eq_true d3_1
                  have q123 : x6_3 < (((rd_T69 l0 x5_1).f1).length : Int) := of_decide_eq_true d3_1
                  obtain ⟨ad123, A123_6, c123_6, e123, hx123_0, hx123_1, hx123_2, hx123_3, hx123_4, hx123_5, hx123_6, hl123_6, hi123_6⟩ := at_T73 HR121_1.out x6_3 p123 q123
                  cases e123
                  have HR123_6 := ak hi123_6
                  have HC123_6 := ak hl123_6
                  clear hi123_6 hl123_6
                  replace p123 := eq_true p123
                  replace q123 := eq_true q123
                  have p124 : 0 ≤ (x5_1 : Int) := of_decide_eq_true d3_1
                  have q124 : x5_1 < (l1.length : Int) := of_decide_eq_true d3_1
                  obtain ⟨ad124, A124_1, c124_1, e124, hx124_0, hx124_1, hl124_1, hi124_1⟩ := at_T69 HR1.out x5_1 p124 q124
                  cases e124
                  have HR124_1 := ak hi124_1
                  have HC124_1 := ak hl124_1
                  clear hi124_1 hl124_1
                  replace p124 := eq_true p124
                  replace q124 := eq_true q124
                  have p125 : 0 ≤ (x6_3 : Int) := of_decide_eq_true d3_1
                  have q125 : x6_3 < (((rd_T69 l1 x5_1).f1).length : Int) := of_decide_eq_true d3_1
                  obtain ⟨ad125, A125_6, c125_6, e125, hx125_0, hx125_1, hx125_2, hx125_3, hx125_4, hx125_5, hx125_6, hl125_6, hi125_6⟩ := at_T73 HR124_1.out x6_3 p125 q125
                  cases e125
                  have HR125_6 := ak hi125_6
                  have HC125_6 := ak hl125_6
                  clear hi125_6 hl125_6
                  replace p125 := eq_true p125
                  replace q125 := eq_true q125
                  go_wp2_with (first | (go_at_call 44; (with_reducible refine (spec_l9SameOp.calls k3 _ ((rd_T73 ((rd_T69 l0 x5_1).f1) x6_3).f0) ((rd_T73 ((rd_T69 l0 x5_1).f1) x6_3).f1) ((rd_T73 ((rd_T69 l0 x5_1).f1) x6_3).f2) ((rd_T73 ((rd_T69 l0 x5_1).f1) x6_3).f3) ((rd_T73 ((rd_T69 l0 x5_1).f1) x6_3).f4) ((rd_T73 ((rd_T69 l0 x5_1).f1) x6_3).f5) A123_6 c123_6 ((rd_T73 ((rd_T69 l0 x5_1).f1) x6_3).f6) _ ((rd_T73 ((rd_T69 l1 x5_1).f1) x6_3).f0) ((rd_T73 ((rd_T69 l1 x5_1).f1) x6_3).f1) ((rd_T73 ((rd_T69 l1 x5_1).f1) x6_3).f2) ((rd_T73 ((rd_T69 l1 x5_1).f1) x6_3).f3) ((rd_T73 ((rd_T69 l1 x5_1).f1) x6_3).f4) ((rd_T73 ((rd_T69 l1 x5_1).f1) x6_3).f5) A125_6 c125_6 ((rd_T73 ((rd_T69 l1 x5_1).f1) x6_3).f6) false _ ?side1 ?side2 ?side3 ?side4 ?side5 ?side6 ?side7 ?side8 ?side9 ?side10 ?side11 ?side12 ?side13 ?side14 ?side15 ?side16 ?side17 ?side18 A16.out).mono ?_); (case side1 => first | exact hx123_0 | (refine Eq.trans ?_ hx123_0; simp only [go_sem])); (case side2 => first | exact hx123_1 | (refine Eq.trans ?_ hx123_1; simp only [go_sem])); (case side3 => first | exact hx123_2 | (refine Eq.trans ?_ hx123_2; simp only [go_sem])); (case side4 => first | exact hx123_3 | (refine Eq.trans ?_ hx123_3; simp only [go_sem])); (case side5 => first | exact hx123_4 | (refine Eq.trans ?_ hx123_4; simp only [go_sem])); (case side6 => first | exact hx123_5 | (refine Eq.trans ?_ hx123_5; simp only [go_sem])); (case side7 => first | exact hx123_6 | (refine Eq.trans ?_ hx123_6; simp only [go_sem])); (case side8 => repeat (first | exact HR123_6.out | (with_reducible refine Kd.C_alloc ?_ _) | (with_reducible refine Kd.C_drewN ?_ _) | (with_reducible refine Kd.C_drew ?_))); (case side9 => exact HC123_6.out); (case side10 => first | exact hx125_0 | (refine Eq.trans ?_ hx125_0; simp only [go_sem])); (case side11 => first | exact hx125_1 | (refine Eq.trans ?_ hx125_1; simp only [go_sem])); (case side12 => first | exact hx125_2 | (refine Eq.trans ?_ hx125_2; simp only [go_sem])); (case side13 => first | exact hx125_3 | (refine Eq.trans ?_ hx125_3; simp only [go_sem])); (case side14 => first | exact hx125_4 | (refine Eq.trans ?_ hx125_4; simp only [go_sem])); (case side15 => first | exact hx125_5 | (refine Eq.trans ?_ hx125_5; simp only [go_sem])); (case side16 => first | exact hx125_6 | (refine Eq.trans ?_ hx125_6; simp only [go_sem])); (case side17 => repeat (first | exact HR125_6.out | (with_reducible refine Kd.C_alloc ?_ _) | (with_reducible refine Kd.C_drewN ?_ _) | (with_reducible refine Kd.C_drew ?_))); (case side18 => exact HC125_6.out); rintro e w' ⟨rfl, ⟨nd, rfl⟩⟩; (try first | exact ⟨rfl, _, World.drewN_drewN _ _ _⟩ | exact ⟨rfl, _, Eq.trans (World.drewN_drewN _ _ _) (congrArg (World.drewN _) (Nat.add_assoc _ _ _))⟩)))
                  repeat (go_quiet (first | (go_at_call 44; (with_reducible refine (spec_l9SameOp.calls k3 _ ((rd_T73 ((rd_T69 l0 x5_1).f1) x6_3).f0) ((rd_T73 ((rd_T69 l0 x5_1).f1) x6_3).f1) ((rd_T73 ((rd_T69 l0 x5_1).f1) x6_3).f2) ((rd_T73 ((rd_T69 l0 x5_1).f1) x6_3).f3) ((rd_T73 ((rd_T69 l0 x5_1).f1) x6_3).f4) ((rd_T73 ((rd_T69 l0 x5_1).f1) x6_3).f5) A123_6 c123_6 ((rd_T73 ((rd_T69 l0 x5_1).f1) x6_3).f6) _ ((rd_T73 ((rd_T69 l1 x5_1).f1) x6_3).f0) ((rd_T73 ((rd_T69 l1 x5_1).f1) x6_3).f1) ((rd_T73 ((rd_T69 l1 x5_1).f1) x6_3).f2) ((rd_T73 ((rd_T69 l1 x5_1).f1) x6_3).f3) ((rd_T73 ((rd_T69 l1 x5_1).f1) x6_3).f4) ((rd_T73 ((rd_T69 l1 x5_1).f1) x6_3).f5) A125_6 c125_6 ((rd_T73 ((rd_T69 l1 x5_1).f1) x6_3).f6) false _ ?side1 ?side2 ?side3 ?side4 ?side5 ?side6 ?side7 ?side8 ?side9 ?side10 ?side11 ?side12 ?side13 ?side14 ?side15 ?side16 ?side17 ?side18 A16.out).mono ?_); (case side1 => first | exact hx123_0 | (refine Eq.trans ?_ hx123_0; simp only [go_sem])); (case side2 => first | exact hx123_1 | (refine Eq.trans ?_ hx123_1; simp only [go_sem])); (case side3 => first | exact hx123_2 | (refine Eq.trans ?_ hx123_2; simp only [go_sem])); (case side4 => first | exact hx123_3 | (refine Eq.trans ?_ hx123_3; simp only [go_sem])); (case side5 => first | exact hx123_4 | (refine Eq.trans ?_ hx123_4; simp only [go_sem])); (case side6 => first | exact hx123_5 | (refine Eq.trans ?_ hx123_5; simp only [go_sem])); (case side7 => first | exact hx123_6 | (refine Eq.trans ?_ hx123_6; simp only [go_sem])); (case side8 => repeat (first | exact HR123_6.out | (with_reducible refine Kd.C_alloc ?_ _) | (with_reducible refine Kd.C_drewN ?_ _) | (with_reducible refine Kd.C_drew ?_))); (case side9 => exact HC123_6.out); (case side10 => first | exact hx125_0 | (refine Eq.trans ?_ hx125_0; simp only [go_sem])); (case side11 => first | exact hx125_1 | (refine Eq.trans ?_ hx125_1; simp only [go_sem])); (case side12 => first | exact hx125_2 | (refine Eq.trans ?_ hx125_2; simp only [go_sem])); (case side13 => first | exact hx125_3 | (refine Eq.trans ?_ hx125_3; simp only [go_sem])); (case side14 => first | exact hx125_4 | (refine Eq.trans ?_ hx125_4; simp only [go_sem])); (case side15 => first | exact hx125_5 | (refine Eq.trans ?_ hx125_5; simp only [go_sem])); (case side16 => first | exact hx125_6 | (refine Eq.trans ?_ hx125_6; simp only [go_sem])); (case side17 => repeat (first | exact HR125_6.out | (with_reducible refine Kd.C_alloc ?_ _) | (with_reducible refine Kd.C_drewN ?_ _) | (with_reducible refine Kd.C_drew ?_))); (case side18 => exact HC125_6.out); rintro e w' ⟨rfl, ⟨nd, rfl⟩⟩; (try first | exact ⟨rfl, _, World.drewN_drewN _ _ _⟩ | exact ⟨rfl, _, Eq.trans (World.drewN_drewN _ _ _) (congrArg (World.drewN _) (Nat.add_assoc _ _ _))⟩))); try go_wp2_with (first | (go_at_call 44; (with_reducible refine (spec_l9SameOp.calls k3 _ ((rd_T73 ((rd_T69 l0 x5_1).f1) x6_3).f0) ((rd_T73 ((rd_T69 l0 x5_1).f1) x6_3).f1) ((rd_T73 ((rd_T69 l0 x5_1).f1) x6_3).f2) ((rd_T73 ((rd_T69 l0 x5_1).f1) x6_3).f3) ((rd_T73 ((rd_T69 l0 x5_1).f1) x6_3).f4) ((rd_T73 ((rd_T69 l0 x5_1).f1) x6_3).f5) A123_6 c123_6 ((rd_T73 ((rd_T69 l0 x5_1).f1) x6_3).f6) _ ((rd_T73 ((rd_T69 l1 x5_1).f1) x6_3).f0) ((rd_T73 ((rd_T69 l1 x5_1).f1) x6_3).f1) ((rd_T73 ((rd_T69 l1 x5_1).f1) x6_3).f2) ((rd_T73 ((rd_T69 l1 x5_1).f1) x6_3).f3) ((rd_T73 ((rd_T69 l1 x5_1).f1) x6_3).f4) ((rd_T73 ((rd_T69 l1 x5_1).f1) x6_3).f5) A125_6 c125_6 ((rd_T73 ((rd_T69 l1 x5_1).f1) x6_3).f6) false _ ?side1 ?side2 ?side3 ?side4 ?side5 ?side6 ?side7 ?side8 ?side9 ?side10 ?side11 ?side12 ?side13 ?side14 ?side15 ?side16 ?side17 ?side18 A16.out).mono ?_); (case side1 => first | exact hx123_0 | (refine Eq.trans ?_ hx123_0; simp only [go_sem])); (case side2 => first | exact hx123_1 | (refine Eq.trans ?_ hx123_1; simp only [go_sem])); (case side3 => first | exact hx123_2 | (refine Eq.trans ?_ hx123_2; simp only [go_sem])); (case side4 => first | exact hx123_3 | (refine Eq.trans ?_ hx123_3; simp only [go_sem])); (case side5 => first | exact hx123_4 | (refine Eq.trans ?_ hx123_4; simp only [go_sem])); (case side6 => first | exact hx123_5 | (refine Eq.trans ?_ hx123_5; simp only [go_sem])); (case side7 => first | exact hx123_6 | (refine Eq.trans ?_ hx123_6; simp only [go_sem])); (case side8 => repeat (first | exact HR123_6.out | (with_reducible refine Kd.C_alloc ?_ _) | (with_reducible refine Kd.C_drewN ?_ _) | (with_reducible refine Kd.C_drew ?_))); (case side9 => exact HC123_6.out); (case side10 => first | exact hx125_0 | (refine Eq.trans ?_ hx125_0; simp only [go_sem])); (case side11 => first | exact hx125_1 | (refine Eq.trans ?_ hx125_1; simp only [go_sem])); (case side12 => first | exact hx125_2 | (refine Eq.trans ?_ hx125_2; simp only [go_sem])); (case side13 => first | exact hx125_3 | (refine Eq.trans ?_ hx125_3; simp only [go_sem])); (case side14 => first | exact hx125_4 | (refine Eq.trans ?_ hx125_4; simp only [go_sem])); (case side15 => first | exact hx125_5 | (refine Eq.trans ?_ hx125_5; simp only [go_sem])); (case side16 => first | exact hx125_6 | (refine Eq.trans ?_ hx125_6; simp only [go_sem])); (case side17 => repeat (first | exact HR125_6.out | (with_reducible refine Kd.C_alloc ?_ _) | (with_reducible refine Kd.C_drewN ?_ _) | (with_reducible refine Kd.C_drew ?_))); (case side18 => exact HC125_6.out); rintro e w' ⟨rfl, ⟨nd, rfl⟩⟩; (try first | exact ⟨rfl, _, World.drewN_drewN _ _ _⟩ | exact ⟨rfl, _, Eq.trans (World.drewN_drewN _ _ _) (congrArg (World.drewN _) (Nat.add_assoc _ _ _))⟩))))
                  go_ret
                  exact ⟨by first | rfl | (simp; done) | (simp [*]; done) | (simp [ne_nil_b, eq_nil_b]; done), by repeat (first | exact Drawn0.refl _ | apply Drawn0.step)⟩
                ·rw [if_neg c15] at H
                 exact absurd H (by simp)
               ·rw [if_neg c14] at H
                exact absurd H (by simp)
              ·rw [if_neg c13] at H
               exact absurd H (by simp)
             ·rw [if_neg c12] at H
              have c12b0 : decide (x6_3 < (((rd_T69 l0 x5_1).f1).length : Int)) = false := decide_eq_false c12
              clear c12
              have H' := ak H
              clear H
              have p121 : 0 ≤ (x5_1 : Int) := of_decide_eq_true d3_1
              have q121 : x5_1 < (l0.length : Int) := of_decide_eq_true d3_1
              obtain ⟨ad121, A121_1, c121_1, e121, hx121_0, hx121_1, hl121_1, hi121_1⟩ := at_T69 HR0.out x5_1 p121 q121
              cases e121
              have HR121_1 := ak hi121_1
              have HC121_1 := ak hl121_1
              clear hi121_1 hl121_1
              replace p121 := eq_true p121
              replace q121 := eq_true q121
              go_wp2
              repeat (go_quiet (fail); try go_wp2)
              go_roundg k3
              case measure => have := HK1.out; have := HJ4.out; have := HK3.out; omega
              case rel => exact ⟨(wrap64 (x5_1 + 1)), d3_4, H', ⟨by have := HK1.out; have := HJ4.out; have := HK3.out; omega⟩, by repeat (first | exact Drawn0.refl _ | apply Drawn0.step)⟩
            ·rw [if_neg c11] at H
             exact absurd H (by simp)
           ·rw [if_neg c10] at H
            exact absurd H (by simp)
     ·rw [if_neg c4] at H
      have c4b0 : decide (x5_1 < (l0.length : Int)) = false := decide_eq_false c4
      clear c4
      obtain rfl := Option.some.inj H
      go_wp2
      repeat (go_quiet (fail); try go_wp2)
      go_ret
      exact ⟨by first | rfl | (simp; done) | (simp [*]; done) | (simp [ne_nil_b, eq_nil_b]; done), by repeat (first | exact Drawn0.refl _ | apply Drawn0.step)⟩
  ·rw [if_neg c3] at H
   have c3b0 : ((l0.length : Int) == (l1.length : Int)) = false := beq_eq_false_iff_ne.mpr c3
   have c3b1 : ((l0.length : Int) != (l1.length : Int)) = true := bne_iff_ne.mpr c3
   have c3b2 : (l0.length == l1.length) = false := by first | simpa using c3 | (simp at c3 ⊢; omega)
   obtain rfl := Option.some.inj H
   go_enter Try.func18, Try.ntmps18
   go_wp2
   repeat (go_quiet (fail); try go_wp2)
   go_ret
   exact ⟨by first | rfl | (simp; done) | (simp [*]; done) | (simp [ne_nil_b, eq_nil_b]; done), by repeat (first | exact Drawn0.refl _ | apply Drawn0.step)⟩

/-! ### laws_toDatum: function 77 -/
def laws_toDatum.f (a0_0 : Int) (a0_1 : Int) (a0_2 : Int) (a0_3 : ByteArray) : Option (Int × Int × Int × ByteArray) := some (a0_0, a0_1, a0_2, a0_3)
set_option maxHeartbeats 8000000 in
set_option maxRecDepth 100000 in
theorem laws_toDatum.calls (a0_0 : Int) (a0_1 : Int) (a0_2 : Int) (a0_3 : ByteArray) (r1 : Int) (r2 : Int) (r3 : Int) (r4 : ByteArray) (w : World) (h : laws_toDatum.f a0_0 a0_1 a0_2 a0_3 = some (r1, r2, r3, r4)) :
    Calls Try.prog 77 #[.agg #[.int .i64 a0_0, .int .i64 a0_1, .int .i64 a0_2, .string a0_3]] w fun e w' => e = .returned (.agg #[.int .i64 r1, .int .i64 r2, .int .i64 r3, .string r4]) ∧ Below w.heap.size w w' := by
  have hu107 := Try.underlying107
  have hu96 := Try.underlying96
  have HB := ak (Below.refl w.heap.size w)
  have H : (some (a0_0, a0_1, a0_2, a0_3)) = some (r1, r2, r3, r4) := h
  clear h
  simp only [Option.some.injEq, Prod.mk.injEq] at H
  obtain ⟨rfl, rfl, rfl, rfl⟩ := H
  go_enter Try.func77, Try.ntmps77
  go_wp2_with (first | ((with_reducible refine gate_dst (N := 1) rfl ?_); refine box_event ?hg (N := 1) ?hd (cs := #[.int .i64 a0_0, .int .i64 a0_1, .int .i64 a0_2, .string a0_3]) (t := 107) ?hr ?_; (case hd => rfl); (case hg => rfl); (case hr => first | (go_simp; done) | (go_simp; rfl)); intro gb127 hg w2 hbox hb; have n0_ := ak (below_step d3_2 hb); have n1_ := ak (hbox); have n2_ := ak ((by rw [hg]; exact (below_size d3_2) : w.heap.size ≤ gb127)); have n3_ := ak ((by rw [hg]; exact (below_size d3_2) : w.heap.size ≤ gb127)); clear HB; have HB := n0_; have BK127 := n1_; have GW127 := n2_; have GE127 := n3_; clear n0_ n1_ n2_ n3_ hb hbox hg) | ((with_reducible refine gate_dst (N := 2) rfl ?_); refine box_event ?hg (N := 2) ?hd (cs := #[.int .i64 0, .int .i64 0, .int .i64 0, .string (⟨#[]⟩ : ByteArray)]) (t := 96) ?hr ?_; (case hd => rfl); (case hg => rfl); (case hr => first | (go_simp; done) | (go_simp; rfl)); intro gb128 hg w3 hbox hb; have n0_ := ak (blk_below (g := gb127) (o := .cells #[.int .i64 a0_0, .int .i64 a0_1, .int .i64 a0_2, .string a0_3] 107 (0, 0)) d3_3 hb); have n1_ := ak (below_step d3_6 hb); have n2_ := ak (hbox); have n3_ := ak ((by rw [hg]; exact (below_size d3_6) : w.heap.size ≤ gb128)); have n4_ := ak ((by rw [hg]; exact (below_size d3_6) : w.heap.size ≤ gb128)); have n5_ := ak ((by rw [hg]; exact Nat.ne_of_lt (blk_lt (g := gb127) (o := .cells #[.int .i64 a0_0, .int .i64 a0_1, .int .i64 a0_2, .string a0_3] 107 (0, 0)) d3_3) : gb127 ≠ gb128)); have n6_ := ak ((by rw [hg]; exact Nat.ne_of_gt (blk_lt (g := gb127) (o := .cells #[.int .i64 a0_0, .int .i64 a0_1, .int .i64 a0_2, .string a0_3] 107 (0, 0)) d3_3) : gb128 ≠ gb127)); clear BK127 HB; have BK127 := n0_; have HB := n1_; have BK128 := n2_; have GW128 := n3_; have GE128 := n4_; have NB127_128 := n5_; have NB128_127 := n6_; clear n0_ n1_ n2_ n3_ n4_ n5_ n6_ hb hbox hg) | ((with_reducible refine gate_dst (N := 3) rfl ?_); refine box_event ?hg (N := 3) ?hd (cs := #[.int .i64 0, .int .i64 0, .int .i64 0, .string (⟨#[]⟩ : ByteArray)]) (t := 96) ?hr ?_; (case hd => rfl); (case hg => rfl); (case hr => first | (go_simp; done) | (go_simp; rfl)); intro gb129 hg w4 hbox hb; have n0_ := ak (blk_below (g := gb127) (o := .cells #[.int .i64 a0_0, .int .i64 a0_1, .int .i64 a0_2, .string a0_3] 107 (0, 0)) d3_3 hb); have n1_ := ak (blk_below (g := gb128) (o := .cells #[.int .i64 0, .int .i64 0, .int .i64 0, .string (⟨#[]⟩ : ByteArray)] 96 (0, 0)) (by (with_reducible repeat (first | refine blk_drewN ?_ _ | refine blk_drew ?_ | refine blk_alloc ?_ _)); exact BK128.out) hb); have n2_ := ak (below_step d3_5 hb); have n3_ := ak (hbox); have n4_ := ak ((by rw [hg]; exact (below_size d3_5) : w.heap.size ≤ gb129)); have n5_ := ak ((by rw [hg]; exact (below_size d3_5) : w.heap.size ≤ gb129)); have n6_ := ak ((by rw [hg]; exact Nat.ne_of_lt (blk_lt (g := gb127) (o := .cells #[.int .i64 a0_0, .int .i64 a0_1, .int .i64 a0_2, .string a0_3] 107 (0, 0)) d3_3) : gb127 ≠ gb129)); have n7_ := ak ((by rw [hg]; exact Nat.ne_of_gt (blk_lt (g := gb127) (o := .cells #[.int .i64 a0_0, .int .i64 a0_1, .int .i64 a0_2, .string a0_3] 107 (0, 0)) d3_3) : gb129 ≠ gb127)); have n8_ := ak ((by rw [hg]; exact Nat.ne_of_lt (blk_lt (g := gb128) (o := .cells #[.int .i64 0, .int .i64 0, .int .i64 0, .string (⟨#[]⟩ : ByteArray)] 96 (0, 0)) (by (with_reducible repeat (first | refine blk_drewN ?_ _ | refine blk_drew ?_ | refine blk_alloc ?_ _)); exact BK128.out)) : gb128 ≠ gb129)); have n9_ := ak ((by rw [hg]; exact Nat.ne_of_gt (blk_lt (g := gb128) (o := .cells #[.int .i64 0, .int .i64 0, .int .i64 0, .string (⟨#[]⟩ : ByteArray)] 96 (0, 0)) (by (with_reducible repeat (first | refine blk_drewN ?_ _ | refine blk_drew ?_ | refine blk_alloc ?_ _)); exact BK128.out)) : gb129 ≠ gb128)); clear BK127 BK128 HB; have BK127 := n0_; have BK128 := n1_; have HB := n2_; have BK129 := n3_; have GW129 := n4_; have GE129 := n5_; have NB127_129 := n6_; have NB129_127 := n7_; have NB128_129 := n8_; have NB129_128 := n9_; clear n0_ n1_ n2_ n3_ n4_ n5_ n6_ n7_ n8_ n9_ hb hbox hg; have hnb5 := NB127_128.out; have hnc5 := NB128_127.out; have hnb6 := NB127_129.out; have hnc6 := NB129_127.out; have hcz7_0 : w4.cell? ⟨gb127, 0, none⟩ = some (.int .i64 a0_0) := (blk_cell BK127.out 0).trans rfl; have hcz7_1 : w4.cell? ⟨gb127, 1, none⟩ = some (.int .i64 a0_1) := (blk_cell BK127.out 1).trans rfl; have hcz7_2 : w4.cell? ⟨gb127, 2, none⟩ = some (.int .i64 a0_2) := (blk_cell BK127.out 2).trans rfl; have hcz7_3 : w4.cell? ⟨gb127, 3, none⟩ = some (.string a0_3) := (blk_cell BK127.out 3).trans rfl; have hfz7_0 := blk_frozen BK127.out 0; have hfz7_1 := blk_frozen BK127.out 1; have hfz7_2 := blk_frozen BK127.out 2; have hfz7_3 := blk_frozen BK127.out 3; have hnb8 := NB129_128.out; have hnc8 := NB128_129.out; have hcz9_0 : w4.cell? ⟨gb129, 0, none⟩ = some (.int .i64 0) := (blk_cell BK129.out 0).trans rfl; have hcz9_1 : w4.cell? ⟨gb129, 1, none⟩ = some (.int .i64 0) := (blk_cell BK129.out 1).trans rfl; have hcz9_2 : w4.cell? ⟨gb129, 2, none⟩ = some (.int .i64 0) := (blk_cell BK129.out 2).trans rfl; have hcz9_3 : w4.cell? ⟨gb129, 3, none⟩ = some (.string (⟨#[]⟩ : ByteArray)) := (blk_cell BK129.out 3).trans rfl; have hfz9_0 := blk_frozen BK129.out 0; have hfz9_1 := blk_frozen BK129.out 1; have hfz9_2 := blk_frozen BK129.out 2; have hfz9_3 := blk_frozen BK129.out 3; have hcz10_0 : w4.cell? ⟨gb128, 0, none⟩ = some (.int .i64 0) := (blk_cell BK128.out 0).trans rfl; have hcz10_1 : w4.cell? ⟨gb128, 1, none⟩ = some (.int .i64 0) := (blk_cell BK128.out 1).trans rfl; have hcz10_2 : w4.cell? ⟨gb128, 2, none⟩ = some (.int .i64 0) := (blk_cell BK128.out 2).trans rfl; have hcz10_3 : w4.cell? ⟨gb128, 3, none⟩ = some (.string (⟨#[]⟩ : ByteArray)) := (blk_cell BK128.out 3).trans rfl; have hfz10_0 := blk_frozen BK128.out 0; have hfz10_1 := blk_frozen BK128.out 1; have hfz10_2 := blk_frozen BK128.out 2; have hfz10_3 := blk_frozen BK128.out 3))
  refine bodyPost_ret (results_cell_row rfl _ _ gb128 96 #[.int .i64 a0_0, .int .i64 a0_1, .int .i64 a0_2, .string a0_3] (0, 0) _ rfl (by (with_reducible repeat (first | refine blk_drewN ?_ _ | refine blk_drew ?_ | refine blk_alloc ?_ _)); refine blk_put (cs := #[.int .i64 a0_0, .int .i64 a0_1, .int .i64 a0_2, .string (⟨#[]⟩ : ByteArray)]) ?_ 3 _ rfl; (with_reducible repeat (first | refine blk_drewN ?_ _ | refine blk_drew ?_ | refine blk_alloc ?_ _)); refine blk_put (cs := #[.int .i64 a0_0, .int .i64 a0_1, .int .i64 0, .string (⟨#[]⟩ : ByteArray)]) ?_ 2 _ rfl; (with_reducible repeat (first | refine blk_drewN ?_ _ | refine blk_drew ?_ | refine blk_alloc ?_ _)); refine blk_put (cs := #[.int .i64 a0_0, .int .i64 0, .int .i64 0, .string (⟨#[]⟩ : ByteArray)]) ?_ 1 _ rfl; (with_reducible repeat (first | refine blk_drewN ?_ _ | refine blk_drew ?_ | refine blk_alloc ?_ _)); refine blk_put (cs := #[.int .i64 0, .int .i64 0, .int .i64 0, .string (⟨#[]⟩ : ByteArray)]) ?_ 0 _ rfl; (with_reducible repeat (first | refine blk_drewN ?_ _ | refine blk_drew ?_ | refine blk_alloc ?_ _)); refine blk_far ?_ NB128_129.out _; (with_reducible repeat (first | refine blk_drewN ?_ _ | refine blk_drew ?_ | refine blk_alloc ?_ _)); refine blk_far ?_ NB128_129.out _; (with_reducible repeat (first | refine blk_drewN ?_ _ | refine blk_drew ?_ | refine blk_alloc ?_ _)); refine blk_far ?_ NB128_129.out _; (with_reducible repeat (first | refine blk_drewN ?_ _ | refine blk_drew ?_ | refine blk_alloc ?_ _)); refine blk_far ?_ NB128_129.out _; (with_reducible repeat (first | refine blk_drewN ?_ _ | refine blk_drew ?_ | refine blk_alloc ?_ _)); exact BK128.out) Try.underlying96 rfl (by kernel_rfl)) rfl ?_
  exact ⟨by first | rfl | (simp [errW_none, errW_some] <;> rfl) | (simp [*, errW_none, errW_some] <;> rfl), by repeat (first | (with_reducible first | exact HB.out | apply below_alloc | apply pw_below_drewN | apply below_drew1 | refine below_set ?_ GE127.out | refine below_set ?_ GE128.out | refine below_set ?_ GE129.out) | exact HB.out)⟩

/-! ### laws_toDatumS: function 65 -/
def laws_toDatumS.l0 : Nat → List (S107) → List (S96) → Int → Option ((List (S96)))
  | 0, _, _, _ => none
  | k + 1, x0, x3, x4 => if x4 < (x0.length : Int) then (if 0 ≤ x4 then ((laws_toDatum.f ((rd_T107 x0 x4).f0) ((rd_T107 x0 x4).f1) ((rd_T107 x0 x4).f2) ((rd_T107 x0 x4).f3)).bind fun bt134 => (if x4 < (x3.length : Int) then (laws_toDatumS.l0 k x0 (x3.set (x4 : Int).toNat (⟨bt134.1, bt134.2.1, bt134.2.2.1, bt134.2.2.2⟩ : S96)) (wrap64 (x4 + 1))) else (none))) else (none)) else (some x3)
def laws_toDatumS.f (k : Nat) (l0 : List (S107)) : Option ((List (S96))) := if 0 ≤ (l0.length : Int) then (if ((l0.length : Int) : Int).toNat ≤ 7036874417766 then (laws_toDatumS.l0 k l0 (List.replicate ((l0.length : Int) : Int).toNat z96) 0) else (none)) else (none)
theorem laws_toDatumS.mono_l : ∀ k, (∀ y0 y1 y2, LeO (laws_toDatumS.l0 k y0 y1 y2) (laws_toDatumS.l0 (k + 1) y0 y1 y2))
  | 0 => fun _ _ _ r h => by simp [laws_toDatumS.l0] at h
  | k + 1 => by
    have ih0 := laws_toDatumS.mono_l k
    · intro y0 y1 y2
      unfold laws_toDatumS.l0
      repeat' first
      | (with_reducible exact ih0 _ _ _)
      | (with_reducible exact LeO.refl _)
      | (with_reducible exact LeO.none _)
      | (with_reducible refine LeO.ite ?_ ?_)
      | (with_reducible refine LeO.bind ?_ (fun _ => ?_))
      | exact ih0 _ _ _
      | exact LeO.none _
      | refine LeO.ite ?_ ?_
      | refine LeO.bind ?_ (fun _ => ?_)
theorem laws_toDatumS.mono : ∀ a0 k, LeO (laws_toDatumS.f k a0) (laws_toDatumS.f (k + 1) a0) := by
  intro a0 k
  have ih0 := laws_toDatumS.mono_l k
  unfold laws_toDatumS.f
  repeat' first
      | (with_reducible exact ih0 _ _ _)
      | (with_reducible exact LeO.refl _)
      | (with_reducible exact LeO.none _)
      | (with_reducible refine LeO.ite ?_ ?_)
      | (with_reducible refine LeO.bind ?_ (fun _ => ?_))
      | exact ih0 _ _ _
      | exact LeO.none _
      | refine LeO.ite ?_ ?_
      | refine LeO.bind ?_ (fun _ => ?_)
set_option maxHeartbeats 8000000 in
set_option maxRecDepth 100000 in
theorem laws_toDatumS.calls (k : Nat) (A0 : Option Addr) (c0 : Nat) (l0 : List (S107)) (r : List (S96)) (w : World) (hr0 : Kd.C k107 w A0 l0.length l0) (hc0 : l0.length ≤ c0) (h : laws_toDatumS.f k l0 = some r) :
    Calls Try.prog 65 #[.slice A0 l0.length c0] w fun e w' => ∃ v0_ : Value, e = .returned (v0_) ∧ Kd.R k96 96 w' w.heap.size (fun _ => True) v0_ r ∧ Below w.heap.size w w' := by
  have hu107 := Try.underlying107
  have hu96 := Try.underlying96
  have HR0 := ak hr0
  have HC0 := ak hc0
  clear hr0 hc0
  have HB := ak (Below.refl w.heap.size w)
  have H : (if 0 ≤ (l0.length : Int) then (if ((l0.length : Int) : Int).toNat ≤ 7036874417766 then (laws_toDatumS.l0 k l0 (List.replicate ((l0.length : Int) : Int).toNat z96) 0) else (none)) else (none)) = some r := h
  clear h
  by_cases c2 : 0 ≤ (l0.length : Int)
  ·rw [if_pos c2] at H
   have c2b0 := eq_true c2
   have c2b1 : decide (0 ≤ (l0.length : Int)) = true := decide_eq_true c2
   clear c2
   by_cases c3 : ((l0.length : Int) : Int).toNat ≤ 7036874417766
   ·rw [if_pos c3] at H
    have c3b0 := eq_true c3
    have c3b1 : decide (((l0.length : Int) : Int).toNat ≤ 7036874417766) = true := decide_eq_true c3
    clear c3
    obtain ⟨y130, hy130⟩ : ∃ y_ : List (S96), y_ = (List.replicate ((l0.length : Int) : Int).toNat z96) := ⟨_, rfl⟩
    replace H : (laws_toDatumS.l0 k l0 y130 0) = some r := by first | (rw [hy130]; with_reducible exact H) | (have H2_ := (Option.bind_some _ _).symm.trans H; rw [hy130]; with_reducible exact H2_) | (have H2_ := (Option.bind_some _ _).symm.trans H; with_reducible exact H2_) | with_reducible exact H | (rw [hy130]; exact H) | exact H
    have Ny130 := ak hy130
    clear hy130
    have H' := ak H
    clear H
    go_enter Try.func65, Try.ntmps65
    go_wp2_with (first | ((with_reducible refine gate_dst (N := 7) rfl ?_); refine Kd.R_make k96 _ 96 rfl (N := 7) rfl 56 _ _ rfl (l0.length : Int) rfl rfl Try.underlying56 (.agg #[(.int .i64 0), (.int .i64 0), (.int .i64 0), (.string ⟨#[]⟩)]) 40 info96 rfl (by decide) (by omega) z96 (ok := fun _ => True) (okp := fun _ => True) (k96_mkM _ _ _ z96 ) (fun _ hk => hk) trivial (of_decide_eq_true d3_1) (Nat.le_trans (Nat.mul_le_mul_right _ (of_decide_eq_true d3_1 : (l0.length : Int).toNat ≤ 7036874417766)) (by omega)) (Below.refl _ _) (Nat.le_refl _) ?_; intro v131 w4 ho5 hb hg_ hnew_; clear hg_ hnew_; (first | rw [← Ny130.out] at ho5 | (simp only [Int.reduceToNat] at ho5; rw [← Ny130.out] at ho5)); have n0_ := ak (Kd.R_lower ho5 (below_size d3_2)); have n1_ := ak (below_step d3_2 hb); clear HB; have HO132 := n0_; have HB := n1_; clear n0_ n1_ hb ho5))
    go_loopg [4] k (fun kq v4 w' => ∃ (x3_1 : List (S96)) (x4_1 : Int), v4 = .int .i64 x4_1 ∧ Aside0 (laws_toDatumS.l0 kq l0 x3_1 x4_1 = some r) ∧ Aside0 (kq ≤ k) ∧ Aside0 (Kd.R k96 96 w' w.heap.size (fun _ => True) v131 x3_1) ∧ Aside0 (Below w.heap.size w w'))
    case atStart => exact ⟨(y130), (0), d3_4, H', ⟨Nat.le_refl _⟩, ⟨by (with_reducible repeat (first | apply Kd.R_alloc | apply Kd.R_drewN | apply Kd.R_drew)); exact HO132.out⟩, ⟨by repeat (first | (with_reducible first | exact HB.out | apply below_alloc | apply pw_below_drewN | apply below_drew1) | exact HB.out)⟩⟩
    case round =>
     clear H'
     try clear c2
     try clear c2b0
     try clear c2b1
     try clear p2
     try clear c3
     try clear c3b0
     try clear c3b1
     obtain ⟨x3_1, x4_1, rfl, HA, HK1, HO_3, HB⟩ := hrel
     cases gk with
     | zero => exact absurd HA.out (by simp [laws_toDatumS.l0])
     | succ k1 =>
      have H := HA.out
      clear HA
      simp only [laws_toDatumS.l0] at H
      by_cases c6 : x4_1 < (l0.length : Int)
      ·rw [if_pos c6] at H
       have c6b0 : decide (x4_1 < (l0.length : Int)) = true := decide_eq_true c6
       clear c6
       by_cases c7 : 0 ≤ x4_1
       ·rw [if_pos c7] at H
        have c7b0 : decide (0 ≤ x4_1) = true := decide_eq_true c7
        clear c7
        replace H := Option.bind_eq_some_iff.mp H
        obtain ⟨⟨t134, t135, t136, t137⟩, A80, H⟩ := H
        replace H : (if x4_1 < (x3_1.length : Int) then (laws_toDatumS.l0 k1 l0 (x3_1.set (x4_1 : Int).toNat (⟨t134, t135, t136, t137⟩ : S96)) (wrap64 (x4_1 + 1))) else (none)) = some r := H
        have A8 := ak A80
        clear A80
        by_cases c9 : x4_1 < (x3_1.length : Int)
        ·rw [if_pos c9] at H
         have c9b0 : decide (x4_1 < (x3_1.length : Int)) = true := decide_eq_true c9
         clear c9
         obtain ⟨y138, hy138⟩ : ∃ y_ : List (S96), y_ = (x3_1.set (x4_1 : Int).toNat (⟨t134, t135, t136, t137⟩ : S96)) := ⟨_, rfl⟩
         replace H : (laws_toDatumS.l0 k1 l0 y138 (wrap64 (x4_1 + 1))) = some r := by first | (rw [hy138]; with_reducible exact H) | (have H2_ := (Option.bind_some _ _).symm.trans H; rw [hy138]; with_reducible exact H2_) | (have H2_ := (Option.bind_some _ _).symm.trans H; with_reducible exact H2_) | with_reducible exact H | (rw [hy138]; exact H) | exact H
         have Ny138 := ak hy138
         clear hy138
         have H' := ak H
         clear H
         have p133 : 0 ≤ (x4_1 : Int) := of_decide_eq_true d3_1
         have q133 : x4_1 < (l0.length : Int) := of_decide_eq_true d3_1
         obtain ⟨ad133, e133, hx133_0, hx133_1, hx133_2, hx133_3⟩ := at_T107 HR0.out x4_1 p133 q133
         cases e133
         replace hx133_0 := (HB.out.cell (World.block_lt_of_cell? w _ hx133_0)).trans hx133_0
         replace hx133_1 := (HB.out.cell (World.block_lt_of_cell? w _ hx133_1)).trans hx133_1
         replace hx133_2 := (HB.out.cell (World.block_lt_of_cell? w _ hx133_2)).trans hx133_2
         replace hx133_3 := (HB.out.cell (World.block_lt_of_cell? w _ hx133_3)).trans hx133_3
         replace p133 := eq_true p133
         replace q133 := eq_true q133
         go_wp2_with (first | ((with_reducible refine gate_callee (f := 77) rfl ?_); refine goesL_ (some 20) rfl rfl Try.func77 (by kernel_rfl) rfl #[.agg #[.int .i64 ((rd_T107 l0 x4_1).f0), .int .i64 ((rd_T107 l0 x4_1).f1), .int .i64 ((rd_T107 l0 x4_1).f2), .string ((rd_T107 l0 x4_1).f3)]] rfl (by (try simp only [List.map_toArray, List.map_cons, List.map_nil]); first | done | rfl | (simp only [List.length_drop, List.length_take]; rfl)) ?_; (with_reducible refine (laws_toDatum.calls ((rd_T107 l0 x4_1).f0) ((rd_T107 l0 x4_1).f1) ((rd_T107 l0 x4_1).f2) ((rd_T107 l0 x4_1).f3) t134 t135 t136 t137 _ A8.out).mono ?_); rintro e w11 ⟨rfl, hb⟩; refine ⟨_, rfl, ?_⟩; have n0_ := ak (Kd.R_below (by (with_reducible repeat (first | apply Kd.R_alloc | apply Kd.R_drewN | apply Kd.R_drew)); exact HO_3.out) hb); have n1_ := ak (below_step d3_2 hb); clear HO_3 HB; have HO_3 := n0_; have HB := n1_; clear n0_ n1_; (try clear hb); (try clear hk); have p10 : 0 ≤ (x4_1 : Int) := of_decide_eq_true d3_1; have q10 : (x4_1 : Int) < ((x3_1.length : Int) : Int) := of_decide_eq_true d3_1; obtain ⟨go10, co10, eo10, gb10, gl10, cl10, HG10⟩ := Kd.R_form HO_3.out (by omega); (first | cases eo10 | (injection eo10 with ea_ en_ ec_; (first | subst ea_ | (injection ea_ with ea_; subst ea_)); subst ec_; clear en_)); have GB10 := ak gb10; have GG10 := ak HG10; clear gb10 gl10 HG10; obtain ⟨ce10, hcl10, hM10, hcc10, hfr10⟩ := Kd.R_elem HO_3.out z96 (x4_1 : Int) p10 q10; obtain rfl := k96_openM hM10; have hx10_0 : w11.cell? ⟨go10, (x4_1 : Int).toNat * 4, none⟩ = some (.int .i64 ((rd_T96 x3_1 x4_1).f0)) := hcc10 0 _ rfl; have hx10_1 : w11.cell? ⟨go10, (x4_1 : Int).toNat * 4 + 1, none⟩ = some (.int .i64 ((rd_T96 x3_1 x4_1).f1)) := hcc10 1 _ rfl; have hx10_2 : w11.cell? ⟨go10, (x4_1 : Int).toNat * 4 + 2, none⟩ = some (.int .i64 ((rd_T96 x3_1 x4_1).f2)) := hcc10 2 _ rfl; have hx10_3 : w11.cell? ⟨go10, (x4_1 : Int).toNat * 4 + 3, none⟩ = some (.string ((rd_T96 x3_1 x4_1).f3)) := hcc10 3 _ rfl; have hf10_0 : w11.frozen? ⟨go10, (x4_1 : Int).toNat * 4, none⟩ = false := hfr10 0; have hf10_1 : w11.frozen? ⟨go10, (x4_1 : Int).toNat * 4 + 1, none⟩ = false := hfr10 1; have hf10_2 : w11.frozen? ⟨go10, (x4_1 : Int).toNat * 4 + 2, none⟩ = false := hfr10 2; have hf10_3 : w11.frozen? ⟨go10, (x4_1 : Int).toNat * 4 + 3, none⟩ = false := hfr10 3; clear hcl10 hcc10 hfr10 hM10; replace p10 := eq_true p10; replace q10 := eq_true q10; have HX12 := ak (show Kd.R k96 96 w11 w.heap.size (fun _ => True) (.slice (some ⟨go10, 0, none⟩) x3_1.length co10) x3_1 from (by (with_reducible repeat (first | apply Kd.R_alloc | apply Kd.R_drewN | apply Kd.R_drew)); exact HO_3.out)); obtain ⟨ce12, hcl12, hM12, hcc12, hfr12⟩ := Kd.R_elem HX12.out z96 (x4_1 : Int) (of_decide_eq_true d3_1) (by have h_ : (x4_1 : Int) < ((x3_1.length : Int) : Int) := of_decide_eq_true d3_1; first | exact h_ | (have e_ := (Kd.R_reads' HO_3.out).1; omega) | simpa using h_); obtain rfl := k96_openM hM12; have HP12 := Kd.R_seg HX12.out (x4_1 : Int) (of_decide_eq_true d3_1) (by have h_ : (x4_1 : Int) < ((x3_1.length : Int) : Int) := of_decide_eq_true d3_1; first | exact h_ | (have e_ := (Kd.R_reads' HO_3.out).1; omega) | simpa using h_) (seg := [.int .i64 t134, .int .i64 t135, .int .i64 t136, .string t137]) (j := 0) hcl12 hcc12 (show 4 ≤ 4 from by decide) (x' := (⟨t134, t135, t136, t137⟩ : S96)) (k96_mkM _ _ _ (⟨t134, t135, t136, t137⟩ : S96) ) (fun _ hk => hk); have hx12_0 := hcc12 0 _ rfl; (try simp only [show (k96).sz = 4 from rfl, Nat.mul_one, Nat.add_zero] at hx12_0); have hf12_0 := hfr12 0; (try simp only [show (k96).sz = 4 from rfl, Nat.mul_one, Nat.add_zero] at hf12_0); have hx12_1 := hcc12 1 _ rfl; (try simp only [show (k96).sz = 4 from rfl, Nat.mul_one, Nat.add_zero] at hx12_1); have hf12_1 := hfr12 1; (try simp only [show (k96).sz = 4 from rfl, Nat.mul_one, Nat.add_zero] at hf12_1); have hx12_2 := hcc12 2 _ rfl; (try simp only [show (k96).sz = 4 from rfl, Nat.mul_one, Nat.add_zero] at hx12_2); have hf12_2 := hfr12 2; (try simp only [show (k96).sz = 4 from rfl, Nat.mul_one, Nat.add_zero] at hf12_2); have hx12_3 := hcc12 3 _ rfl; (try simp only [show (k96).sz = 4 from rfl, Nat.mul_one, Nat.add_zero] at hx12_3); have hf12_3 := hfr12 3; (try simp only [show (k96).sz = 4 from rfl, Nat.mul_one, Nat.add_zero] at hf12_3); clear hcl12 hcc12 hfr12 hM12) | ((with_reducible refine gate_store (t := 96) (p := 21) rfl ?_); refine store_event (t := 96) (p := 21) (v := ?vo_w13) (w1 := ((((w11.setCell ⟨go10, (x4_1 : Int).toNat * 4, none⟩ (.int .i64 t134)).setCell ⟨go10, (x4_1 : Int).toNat * 4 + 1, none⟩ (.int .i64 t135)).setCell ⟨go10, (x4_1 : Int).toNat * 4 + 2, none⟩ (.int .i64 t136)).setCell ⟨go10, (x4_1 : Int).toNat * 4 + 3, none⟩ (.string t137))) ?hg ?ho ?hn ?hr ?_; (case ho => rfl); (case hg => rfl); (case hn => rfl); (case hr => first | (go_simp; done) | (go_simp; rfl)); intro w13 hw; have hg : w11.grownBy w13 (some go10) := (by rw [hw]; exact HP12.2); have hp_ : Kd.R k96 96 w13 w.heap.size (fun _ => True) (.slice (some ⟨go10, 0, none⟩) x3_1.length co10) y138 := (by rw [hw, Ny138.out]; exact HP12.1); clear HP12; have n0_ := ak (hp_); have n1_ := ak ((by rw [hw]; exact below_set (below_set (below_set (below_set (HB.out) GB10.out) GB10.out) GB10.out) GB10.out : Below w.heap.size w w13)); clear HO_3 HB; have HO_3 := n0_; have HB := n1_; clear n0_ n1_ hg hw hp_))
         go_roundg k1
         case measure => have := HK1.out; omega
         case rel => exact ⟨(y138), (wrap64 (x4_1 + 1)), d3_4, H', ⟨by have := HK1.out; omega⟩, ⟨by (with_reducible repeat (first | apply Kd.R_alloc | apply Kd.R_drewN | apply Kd.R_drew)); exact HO_3.out⟩, ⟨by repeat (first | (with_reducible first | exact HB.out | apply below_alloc | apply pw_below_drewN | apply below_drew1) | exact HB.out)⟩⟩
        ·rw [if_neg c9] at H
         exact absurd H (by simp)
       ·rw [if_neg c7] at H
        exact absurd H (by simp)
      ·rw [if_neg c6] at H
       have c6b0 : decide (x4_1 < (l0.length : Int)) = false := decide_eq_false c6
       clear c6
       obtain rfl := Option.some.inj H
       go_wp2
       go_ret
       exact ⟨_, by first | rfl | (simp [errW_none, errW_some] <;> rfl) | (simp [*, errW_none, errW_some] <;> rfl), by (with_reducible repeat (first | apply Kd.R_alloc | apply Kd.R_drewN | apply Kd.R_drew)); exact HO_3.out, by repeat (first | (with_reducible first | exact HB.out | apply below_alloc | apply pw_below_drewN | apply below_drew1) | exact HB.out)⟩
   ·rw [if_neg c3] at H
    exact absurd H (by simp)
  ·rw [if_neg c2] at H
   exact absurd H (by simp)

end Go.Proofs.Ytljaachpknphpaa.A
