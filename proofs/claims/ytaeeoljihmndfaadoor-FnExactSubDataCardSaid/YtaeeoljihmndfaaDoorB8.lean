/- Walks of the program's functions: each Go function's answer as a plain Lean function, and that the call comes to it. Written by a program. Conditions: those in each theorem's own head. -/
import Derived.Test.YtaeeoljihmndfaaDoorB0
import Derived.Test.YtaeeoljihmndfaaDoorB1
import Derived.Test.YtaeeoljihmndfaaDoorB2
import Derived.Test.YtaeeoljihmndfaaDoorB5
import Derived.Test.YtaeeoljihmndfaaDoorB7
namespace Go.Proofs.YtaeeoljihmndfaaDoor.B
open Go.RowKit Go.Proofs.YtaeeoljihmndfaaDoorW.PrintWords Go.Proofs.YtaeeoljihmndfaaDoorW.PrintLast Go.Proofs.YtaeeoljihmndfaaDoorW.PrintMore
attribute [local go_sem] max2_int min2_int max_two min_two max_three min_three max_four min_four   -- for this text's walks alone
set_option linter.unusedVariables false
set_option linter.unusedSimpArgs false

theorem d8_1 {p : Prop} (h : p := by repeat (first | (with_reducible first | exact HB.out | apply below_alloc | apply pw_below_drewN | apply below_drew1) | exact HB.out)) : p := h
theorem d8_2 {p : Prop} (h : p := by (try simp only [List.map_toArray, List.map_cons, List.map_nil]); first | done | rfl | (simp only [List.length_drop, List.length_take]; rfl)) : p := h
theorem d8_3 {p : Prop} (h : p := by repeat (first | (with_reducible first | exact HB.out | apply below_alloc | apply pw_below_drewN | apply below_drew1 | refine below_set ?_ GE219.out) | exact HB.out)) : p := h
theorem d8_4 {p : Prop} (h : p := by (with_reducible repeat (first | refine blk_drewN ?_ _ | refine blk_drew ?_ | refine blk_alloc ?_ _)); exact BK219.out) : p := h
theorem d8_5 {p : Prop} (h : p := by repeat (first | (with_reducible first | exact HB.out | apply below_alloc | apply pw_below_drewN | apply below_drew1 | refine below_set ?_ GE214.out) | exact HB.out)) : p := h
theorem d8_6 {p : Prop} (h : p := by first | (with_reducible assumption) | assumption) : p := h
theorem d8_7 {p : Prop} (h : p := by rw [hg]; exact (below_size d8_1)) : p := h

/-! ### impl_DataFault: function 98 -/
def impl_DataFault.l0 : Nat → List (S99) → Int → Int → Option (Int)
  | 0, _, _, _ => none
  | k + 1, x0, x10, x11 => if x11 < x10 then ((impl_datumFault.f k x0 x11).bind fun t197 => (if t197 = 0 then (impl_DataFault.l0 k x0 x10 (wrap64 (x11 + 1))) else (some t197))) else (some 0)
def impl_DataFault.f (k : Nat) (l0 : List (S99)) : Option (Int) := (impl_in.f (l0.length : Int) 1 80).bind fun t196 => (if t196 = true then (impl_DataFault.l0 k l0 (l0.length : Int) 0) else (some 2))
theorem impl_DataFault.mono_l : ∀ k, (∀ y0 y1 y2, LeO (impl_DataFault.l0 k y0 y1 y2) (impl_DataFault.l0 (k + 1) y0 y1 y2))
  | 0 => fun _ _ _ r h => by simp [impl_DataFault.l0] at h
  | k + 1 => by
    have ih0 := impl_DataFault.mono_l k
    · intro y0 y1 y2
      unfold impl_DataFault.l0
      repeat' first
      | (with_reducible exact ih0 _ _ _)
      | (with_reducible exact impl_datumFault.mono _ _ _)
      | (with_reducible exact LeO.refl _)
      | (with_reducible exact LeO.none _)
      | (with_reducible refine LeO.ite ?_ ?_)
      | (with_reducible refine LeO.bind ?_ (fun _ => ?_))
      | exact ih0 _ _ _
      | exact impl_datumFault.mono _ _ _
      | exact LeO.none _
      | refine LeO.ite ?_ ?_
      | refine LeO.bind ?_ (fun _ => ?_)
theorem impl_DataFault.mono : ∀ a0 k, LeO (impl_DataFault.f k a0) (impl_DataFault.f (k + 1) a0) := by
  intro a0 k
  have ih0 := impl_DataFault.mono_l k
  unfold impl_DataFault.f
  repeat' first
      | (with_reducible exact ih0 _ _ _)
      | (with_reducible exact impl_datumFault.mono _ _ _)
      | (with_reducible exact LeO.refl _)
      | (with_reducible exact LeO.none _)
      | (with_reducible refine LeO.ite ?_ ?_)
      | (with_reducible refine LeO.bind ?_ (fun _ => ?_))
      | exact ih0 _ _ _
      | exact impl_datumFault.mono _ _ _
      | exact LeO.none _
      | refine LeO.ite ?_ ?_
      | refine LeO.bind ?_ (fun _ => ?_)
set_option maxHeartbeats 8000000 in
set_option maxRecDepth 100000 in
theorem impl_DataFault.calls (k : Nat) (A0 : Option Addr) (c0 : Nat) (l0 : List (S99)) (r : Int) (w : World) (hr0 : Kd.C k99 w A0 l0.length l0) (hc0 : l0.length ≤ c0) (h : impl_DataFault.f k l0 = some r) :
    Calls Tryd.prog 98 #[.slice A0 l0.length c0] w fun e w' => e = .returned (.int .i64 r) ∧ Below w.heap.size w w' := by
  have HR0 := ak hr0
  have HC0 := ak hc0
  clear hr0 hc0
  have HB := ak (Below.refl w.heap.size w)
  have H : ((impl_in.f (l0.length : Int) 1 80).bind fun t196 => (if t196 = true then (impl_DataFault.l0 k l0 (l0.length : Int) 0) else (some 2))) = some r := h
  clear h
  replace H := Option.bind_eq_some_iff.mp H
  obtain ⟨t196, A20, H⟩ := H
  replace H : (if t196 = true then (impl_DataFault.l0 k l0 (l0.length : Int) 0) else (some 2)) = some r := H
  have A2 := ak A20
  clear A20
  by_cases c3 : t196 = true
  ·subst c3
   have H1 : (impl_DataFault.l0 k l0 (l0.length : Int) 0) = some r := by rw [if_pos rfl] at H; exact H
   clear H
   have H := H1
   clear H1
   have H' := ak H
   clear H
   go_enter Tryd.func98, Tryd.ntmps98
   go_wp2_with (first | ((with_reducible refine gate_callee (f := 54) rfl ?_); refine goesL_ (some 7) rfl rfl Tryd.func54 (by kernel_rfl) rfl #[.int .i64 (l0.length : Int), .int .i64 1, .int .i64 80] rfl d8_2 ?_; (with_reducible refine (impl_in.calls (l0.length : Int) 1 80 true _ A2.out).mono ?_); rintro e w' ⟨rfl, ⟨nd, rfl⟩⟩; refine ⟨_, rfl, ?_⟩))
   go_loopg [11] k (fun kq v11 w' => ∃ (x11_1 : Int), v11 = .int .i64 x11_1 ∧ Aside0 (impl_DataFault.l0 kq l0 (l0.length : Int) x11_1 = some r) ∧ Aside0 (kq ≤ k) ∧ Aside0 (Below w.heap.size w w'))
   case atStart => exact ⟨(0), (by first | rfl | (simp; done) | (simp [*]; done) | (simp [ne_nil_b, eq_nil_b]; done)), H', ⟨Nat.le_refl _⟩, ⟨by repeat (first | (with_reducible first | exact HB.out | apply below_alloc | apply pw_below_drewN | apply below_drew1) | exact HB.out)⟩⟩
   case round =>
    clear H'
    try clear p2
    try clear c3
    obtain ⟨x11_1, rfl, HA, HK1, HB⟩ := hrel
    cases gk with
    | zero => exact absurd HA.out (by simp [impl_DataFault.l0])
    | succ k1 =>
     have H := HA.out
     clear HA
     simp only [impl_DataFault.l0] at H
     by_cases c4 : x11_1 < (l0.length : Int)
     ·rw [if_pos c4] at H
      have c4b0 : decide (x11_1 < (l0.length : Int)) = true := decide_eq_true c4
      clear c4
      replace H := Option.bind_eq_some_iff.mp H
      obtain ⟨t197, A50, H⟩ := H
      replace H : (if t197 = 0 then (impl_DataFault.l0 k1 l0 (l0.length : Int) (wrap64 (x11_1 + 1))) else (some t197)) = some r := H
      have A5 := ak A50
      clear A50
      by_cases c6 : t197 = 0
      ·rw [if_pos c6] at H
       have c6b0 : (t197 == 0) = true := beq_iff_eq.mpr c6
       have c6b1 : (t197 != 0) = false := bne_eq_false_iff_eq.mpr c6
       clear c6
       have H' := ak H
       clear H
       go_wp2_with (first | ((with_reducible refine gate_callee (f := 112) rfl ?_); refine goesL_ (some 16) rfl rfl Tryd.func112 (by kernel_rfl) rfl #[.slice A0 l0.length c0, .int .i64 x11_1] rfl d8_2 ?_; (with_reducible refine (impl_datumFault.calls k1 _ _ l0 x11_1 t197 _ ?side1 ?side2 A5.out).mono ?_); (case side1 => repeat (first | exact (Kd.C_below HR0.out HB.out) | (with_reducible refine Kd.C_alloc ?_ _) | (with_reducible refine Kd.C_drewN ?_ _) | (with_reducible refine Kd.C_drew ?_))); (case side2 => exact HC0.out); rintro e w7 ⟨rfl, hb⟩; refine ⟨_, rfl, ?_⟩; have n0_ := ak (below_step d8_1 hb); clear HB; have HB := n0_; clear n0_; (try clear hb)))
       go_roundg k1
       case measure => have := HK1.out; omega
       case rel => exact ⟨(wrap64 (x11_1 + 1)), (by first | rfl | (simp; done) | (simp [*]; done) | (simp [ne_nil_b, eq_nil_b]; done)), H', ⟨by have := HK1.out; omega⟩, ⟨by repeat (first | (with_reducible first | exact HB.out | apply below_alloc | apply pw_below_drewN | apply below_drew1) | exact HB.out)⟩⟩
      ·rw [if_neg c6] at H
       have c6b0 : (t197 == 0) = false := beq_eq_false_iff_ne.mpr c6
       have c6b1 : (t197 != 0) = true := bne_iff_ne.mpr c6
       obtain rfl := Option.some.inj H
       go_wp2_with (first | ((with_reducible refine gate_callee (f := 112) rfl ?_); refine goesL_ (some 16) rfl rfl Tryd.func112 (by kernel_rfl) rfl #[.slice A0 l0.length c0, .int .i64 x11_1] rfl d8_2 ?_; (with_reducible refine (impl_datumFault.calls k1 _ _ l0 x11_1 t197 _ ?side1 ?side2 A5.out).mono ?_); (case side1 => repeat (first | exact (Kd.C_below HR0.out HB.out) | (with_reducible refine Kd.C_alloc ?_ _) | (with_reducible refine Kd.C_drewN ?_ _) | (with_reducible refine Kd.C_drew ?_))); (case side2 => exact HC0.out); rintro e w8 ⟨rfl, hb⟩; refine ⟨_, rfl, ?_⟩; have n0_ := ak (below_step d8_1 hb); clear HB; have HB := n0_; clear n0_; (try clear hb)))
       go_ret
       exact ⟨by first | rfl | (simp [errW_none, errW_some] <;> rfl) | (simp [*, errW_none, errW_some] <;> rfl), by repeat (first | (with_reducible first | exact HB.out | apply below_alloc | apply pw_below_drewN | apply below_drew1) | exact HB.out)⟩
     ·rw [if_neg c4] at H
      have c4b0 : decide (x11_1 < (l0.length : Int)) = false := decide_eq_false c4
      clear c4
      obtain rfl := Option.some.inj H
      go_wp2
      go_ret
      exact ⟨by first | rfl | (simp [errW_none, errW_some] <;> rfl) | (simp [*, errW_none, errW_some] <;> rfl), by repeat (first | (with_reducible first | exact HB.out | apply below_alloc | apply pw_below_drewN | apply below_drew1) | exact HB.out)⟩
  ·replace c3 := Bool.eq_false_iff.mpr c3
   subst c3
   have H1 : (some 2) = some r := by rw [if_neg (show ¬ (false = true) by decide)] at H; exact H
   clear H
   have H := H1
   clear H1
   obtain rfl := Option.some.inj H
   go_enter Tryd.func98, Tryd.ntmps98
   go_wp2_with (first | ((with_reducible refine gate_callee (f := 54) rfl ?_); refine goesL_ (some 7) rfl rfl Tryd.func54 (by kernel_rfl) rfl #[.int .i64 (l0.length : Int), .int .i64 1, .int .i64 80] rfl d8_2 ?_; (with_reducible refine (impl_in.calls (l0.length : Int) 1 80 false _ A2.out).mono ?_); rintro e w' ⟨rfl, ⟨nd, rfl⟩⟩; refine ⟨_, rfl, ?_⟩))
   go_ret
   exact ⟨by first | rfl | (simp [errW_none, errW_some] <;> rfl) | (simp [*, errW_none, errW_some] <;> rfl), by repeat (first | (with_reducible first | exact HB.out | apply below_alloc | apply pw_below_drewN | apply below_drew1) | exact HB.out)⟩

/-! ### impl_placeFault: function 62 -/
def impl_placeFault.f (k : Nat) (l0 : List (S99)) (a1 : Int) : Option (Int) := (impl_DataFault.f k l0).bind fun t198 => (if t198 = 0 then ((impl_in.f a1 0 (wrap64 ((l0.length : Int) - 1))).bind fun t199 => (if t199 = true then (some 0) else (some 3))) else (some t198))
theorem impl_placeFault.mono : ∀ a0 a1 k, LeO (impl_placeFault.f k a0 a1) (impl_placeFault.f (k + 1) a0 a1) := by
  intro a0 a1 k
  unfold impl_placeFault.f
  repeat' first
      | (with_reducible exact impl_DataFault.mono _ _)
      | (with_reducible exact LeO.refl _)
      | (with_reducible exact LeO.none _)
      | (with_reducible refine LeO.ite ?_ ?_)
      | (with_reducible refine LeO.bind ?_ (fun _ => ?_))
      | exact impl_DataFault.mono _ _
      | exact LeO.none _
      | refine LeO.ite ?_ ?_
      | refine LeO.bind ?_ (fun _ => ?_)
set_option maxHeartbeats 8000000 in
set_option maxRecDepth 100000 in
theorem impl_placeFault.calls (k : Nat) (A0 : Option Addr) (c0 : Nat) (l0 : List (S99)) (a1 : Int) (r : Int) (w : World) (hr0 : Kd.C k99 w A0 l0.length l0) (hc0 : l0.length ≤ c0) (h : impl_placeFault.f k l0 a1 = some r) :
    Calls Tryd.prog 62 #[.slice A0 l0.length c0, .int .i64 a1] w fun e w' => e = .returned (.int .i64 r) ∧ Below w.heap.size w w' := by
  have HR0 := ak hr0
  have HC0 := ak hc0
  clear hr0 hc0
  have HB := ak (Below.refl w.heap.size w)
  have H : ((impl_DataFault.f k l0).bind fun t198 => (if t198 = 0 then ((impl_in.f a1 0 (wrap64 ((l0.length : Int) - 1))).bind fun t199 => (if t199 = true then (some 0) else (some 3))) else (some t198))) = some r := h
  clear h
  replace H := Option.bind_eq_some_iff.mp H
  obtain ⟨t198, A30, H⟩ := H
  replace H : (if t198 = 0 then ((impl_in.f a1 0 (wrap64 ((l0.length : Int) - 1))).bind fun t199 => (if t199 = true then (some 0) else (some 3))) else (some t198)) = some r := H
  have A3 := ak A30
  clear A30
  by_cases c4 : t198 = 0
  ·rw [if_pos c4] at H
   have c4b0 : (t198 == 0) = true := beq_iff_eq.mpr c4
   have c4b1 : (t198 != 0) = false := bne_eq_false_iff_eq.mpr c4
   clear c4
   replace H := Option.bind_eq_some_iff.mp H
   obtain ⟨t199, A50, H⟩ := H
   replace H : (if t199 = true then (some 0) else (some 3)) = some r := H
   have A5 := ak A50
   clear A50
   by_cases c6 : t199 = true
   ·subst c6
    have H1 : (some 0) = some r := by rw [if_pos rfl] at H; exact H
    clear H
    have H := H1
    clear H1
    obtain rfl := Option.some.inj H
    go_enter Tryd.func62, Tryd.ntmps62
    go_wp2_with (first | ((with_reducible refine gate_callee (f := 98) rfl ?_); refine goesL_ (some 7) rfl rfl Tryd.func98 (by kernel_rfl) rfl #[.slice A0 l0.length c0] rfl d8_2 ?_; (with_reducible refine (impl_DataFault.calls k _ _ l0 t198 _ ?side1 ?side2 A3.out).mono ?_); (case side1 => repeat (first | exact HR0.out | (with_reducible refine Kd.C_alloc ?_ _) | (with_reducible refine Kd.C_drewN ?_ _) | (with_reducible refine Kd.C_drew ?_))); (case side2 => exact HC0.out); rintro e w7 ⟨rfl, hb⟩; refine ⟨_, rfl, ?_⟩; have n0_ := ak (below_step d8_1 hb); clear HB; have HB := n0_; clear n0_; (try clear hb)) | ((with_reducible refine gate_callee (f := 54) rfl ?_); refine goesL_ (some 15) rfl rfl Tryd.func54 (by kernel_rfl) rfl #[.int .i64 a1, .int .i64 0, .int .i64 (wrap64 ((l0.length : Int) - 1))] rfl d8_2 ?_; (with_reducible refine (impl_in.calls a1 0 (wrap64 ((l0.length : Int) - 1)) true _ A5.out).mono ?_); rintro e w' ⟨rfl, ⟨nd, rfl⟩⟩; refine ⟨_, rfl, ?_⟩))
    go_ret
    exact ⟨by first | rfl | (simp [errW_none, errW_some] <;> rfl) | (simp [*, errW_none, errW_some] <;> rfl), by repeat (first | (with_reducible first | exact HB.out | apply below_alloc | apply pw_below_drewN | apply below_drew1) | exact HB.out)⟩
   ·replace c6 := Bool.eq_false_iff.mpr c6
    subst c6
    have H1 : (some 3) = some r := by rw [if_neg (show ¬ (false = true) by decide)] at H; exact H
    clear H
    have H := H1
    clear H1
    obtain rfl := Option.some.inj H
    go_enter Tryd.func62, Tryd.ntmps62
    go_wp2_with (first | ((with_reducible refine gate_callee (f := 98) rfl ?_); refine goesL_ (some 7) rfl rfl Tryd.func98 (by kernel_rfl) rfl #[.slice A0 l0.length c0] rfl d8_2 ?_; (with_reducible refine (impl_DataFault.calls k _ _ l0 t198 _ ?side1 ?side2 A3.out).mono ?_); (case side1 => repeat (first | exact HR0.out | (with_reducible refine Kd.C_alloc ?_ _) | (with_reducible refine Kd.C_drewN ?_ _) | (with_reducible refine Kd.C_drew ?_))); (case side2 => exact HC0.out); rintro e w8 ⟨rfl, hb⟩; refine ⟨_, rfl, ?_⟩; have n0_ := ak (below_step d8_1 hb); clear HB; have HB := n0_; clear n0_; (try clear hb)) | ((with_reducible refine gate_callee (f := 54) rfl ?_); refine goesL_ (some 15) rfl rfl Tryd.func54 (by kernel_rfl) rfl #[.int .i64 a1, .int .i64 0, .int .i64 (wrap64 ((l0.length : Int) - 1))] rfl d8_2 ?_; (with_reducible refine (impl_in.calls a1 0 (wrap64 ((l0.length : Int) - 1)) false _ A5.out).mono ?_); rintro e w' ⟨rfl, ⟨nd, rfl⟩⟩; refine ⟨_, rfl, ?_⟩))
    go_ret
    exact ⟨by first | rfl | (simp [errW_none, errW_some] <;> rfl) | (simp [*, errW_none, errW_some] <;> rfl), by repeat (first | (with_reducible first | exact HB.out | apply below_alloc | apply pw_below_drewN | apply below_drew1) | exact HB.out)⟩
  ·rw [if_neg c4] at H
   have c4b0 : (t198 == 0) = false := beq_eq_false_iff_ne.mpr c4
   have c4b1 : (t198 != 0) = true := bne_iff_ne.mpr c4
   obtain rfl := Option.some.inj H
   go_enter Tryd.func62, Tryd.ntmps62
   go_wp2_with (first | ((with_reducible refine gate_callee (f := 98) rfl ?_); refine goesL_ (some 7) rfl rfl Tryd.func98 (by kernel_rfl) rfl #[.slice A0 l0.length c0] rfl d8_2 ?_; (with_reducible refine (impl_DataFault.calls k _ _ l0 t198 _ ?side1 ?side2 A3.out).mono ?_); (case side1 => repeat (first | exact HR0.out | (with_reducible refine Kd.C_alloc ?_ _) | (with_reducible refine Kd.C_drewN ?_ _) | (with_reducible refine Kd.C_drew ?_))); (case side2 => exact HC0.out); rintro e w9 ⟨rfl, hb⟩; refine ⟨_, rfl, ?_⟩; have n0_ := ak (below_step d8_1 hb); clear HB; have HB := n0_; clear n0_; (try clear hb)))
   go_ret
   exact ⟨by first | rfl | (simp [errW_none, errW_some] <;> rfl) | (simp [*, errW_none, errW_some] <;> rfl), by repeat (first | (with_reducible first | exact HB.out | apply below_alloc | apply pw_below_drewN | apply below_drew1) | exact HB.out)⟩

/-! ### impl_sub: function 70 -/
def impl_sub.l0 : Nat → Int → List (S99) → List (S99) → Int → Int → Option ((List (S99)))
  | 0, _, _, _, _, _ => none
  | k + 1, x1, x5, x19, x20, x21 => if x21 < x20 then (if 0 ≤ x21 then (if x21 < (x19.length : Int) then (if ((rd_T99 x19 x21).f1) < x1 then (some x5) else (if x5.length < 3518437208883 then (impl_sub.l0 k x1 (x5 ++ [(⟨(rd_T99 x19 x21).f0, wrap64 (((rd_T99 x19 x21).f1) - x1), (rd_T99 x19 x21).f2, (rd_T99 x19 x21).f3⟩ : S99)]) x19 x20 (wrap64 (x21 + 1))) else (none))) else (none)) else (none)) else (some x5)
def impl_sub.f (k : Nat) (l0 : List (S99)) (a1 : Int) : Option ((List (S99))) := if 0 ≤ a1 then (if a1 < (l0.length : Int) then ((some (([(⟨(rd_T99 l0 a1).f0, (rd_T99 l0 a1).f1, (rd_T99 l0 a1).f2, (rd_T99 l0 a1).f3⟩ : S99)] : List (S99)) : List (S99))).bind fun y201 => (if 0 < (y201.length : Int) then (if 0 ≤ (wrap64 (a1 + 1)) then (if (wrap64 (a1 + 1)) ≤ (l0.length : Int) then ((some (l0.drop ((wrap64 (a1 + 1)) : Int).toNat : List (S99))).bind fun y205 => (impl_sub.l0 k a1 (y201.set (0 : Int).toNat (⟨(rd_T99 y201 0).f0, (-1), (rd_T99 y201 0).f2, (rd_T99 y201 0).f3⟩ : S99)) y205 (y205.length : Int) 0)) else (none)) else (none)) else (none))) else (none)) else (none)
theorem impl_sub.mono_l : ∀ k, (∀ y0 y1 y2 y3 y4, LeO (impl_sub.l0 k y0 y1 y2 y3 y4) (impl_sub.l0 (k + 1) y0 y1 y2 y3 y4))
  | 0 => fun _ _ _ _ _ r h => by simp [impl_sub.l0] at h
  | k + 1 => by
    have ih0 := impl_sub.mono_l k
    · intro y0 y1 y2 y3 y4
      unfold impl_sub.l0
      repeat' first
      | (with_reducible exact ih0 _ _ _ _ _)
      | (with_reducible exact LeO.refl _)
      | (with_reducible exact LeO.none _)
      | (with_reducible refine LeO.ite ?_ ?_)
      | (with_reducible refine LeO.bind ?_ (fun _ => ?_))
      | exact ih0 _ _ _ _ _
      | exact LeO.none _
      | refine LeO.ite ?_ ?_
      | refine LeO.bind ?_ (fun _ => ?_)
theorem impl_sub.mono : ∀ a0 a1 k, LeO (impl_sub.f k a0 a1) (impl_sub.f (k + 1) a0 a1) := by
  intro a0 a1 k
  have ih0 := impl_sub.mono_l k
  unfold impl_sub.f
  repeat' first
      | (with_reducible exact ih0 _ _ _ _ _)
      | (with_reducible exact LeO.refl _)
      | (with_reducible exact LeO.none _)
      | (with_reducible refine LeO.ite ?_ ?_)
      | (with_reducible refine LeO.bind ?_ (fun _ => ?_))
      | exact ih0 _ _ _ _ _
      | exact LeO.none _
      | refine LeO.ite ?_ ?_
      | refine LeO.bind ?_ (fun _ => ?_)
set_option maxHeartbeats 8000000 in
set_option maxRecDepth 100000 in
theorem impl_sub.calls (k : Nat) (A0 : Option Addr) (c0 : Nat) (l0 : List (S99)) (a1 : Int) (r : List (S99)) (w : World) (hr0 : Kd.C k99 w A0 l0.length l0) (hc0 : l0.length ≤ c0) (h : impl_sub.f k l0 a1 = some r) :
    Calls Tryd.prog 70 #[.slice A0 l0.length c0, .int .i64 a1] w fun e w' => ∃ v0_ : Value, e = .returned (v0_) ∧ Kd.R k99 99 w' w.heap.size (fun _ => True) v0_ r ∧ Below w.heap.size w w' := by
  have hu99 := Tryd.underlying99
  have HR0 := ak hr0
  have HC0 := ak hc0
  clear hr0 hc0
  have HB := ak (Below.refl w.heap.size w)
  have H : (if 0 ≤ a1 then (if a1 < (l0.length : Int) then ((some (([(⟨(rd_T99 l0 a1).f0, (rd_T99 l0 a1).f1, (rd_T99 l0 a1).f2, (rd_T99 l0 a1).f3⟩ : S99)] : List (S99)) : List (S99))).bind fun y201 => (if 0 < (y201.length : Int) then (if 0 ≤ (wrap64 (a1 + 1)) then (if (wrap64 (a1 + 1)) ≤ (l0.length : Int) then ((some (l0.drop ((wrap64 (a1 + 1)) : Int).toNat : List (S99))).bind fun y205 => (impl_sub.l0 k a1 (y201.set (0 : Int).toNat (⟨(rd_T99 y201 0).f0, (-1), (rd_T99 y201 0).f2, (rd_T99 y201 0).f3⟩ : S99)) y205 (y205.length : Int) 0)) else (none)) else (none)) else (none))) else (none)) else (none)) = some r := h
  clear h
  by_cases c3 : 0 ≤ a1
  ·rw [if_pos c3] at H
   have c3b0 : decide (0 ≤ a1) = true := decide_eq_true c3
   clear c3
   by_cases c4 : a1 < (l0.length : Int)
   ·rw [if_pos c4] at H
    have c4b0 : decide (a1 < (l0.length : Int)) = true := decide_eq_true c4
    clear c4
    obtain ⟨y201, hy201⟩ : ∃ y_ : List (S99), y_ = (([(⟨(rd_T99 l0 a1).f0, (rd_T99 l0 a1).f1, (rd_T99 l0 a1).f2, (rd_T99 l0 a1).f3⟩ : S99)] : List (S99))) := ⟨_, rfl⟩
    replace H : (if 0 < (y201.length : Int) then (if 0 ≤ (wrap64 (a1 + 1)) then (if (wrap64 (a1 + 1)) ≤ (l0.length : Int) then ((some (l0.drop ((wrap64 (a1 + 1)) : Int).toNat : List (S99))).bind fun y205 => (impl_sub.l0 k a1 (y201.set (0 : Int).toNat (⟨(rd_T99 y201 0).f0, (-1), (rd_T99 y201 0).f2, (rd_T99 y201 0).f3⟩ : S99)) y205 (y205.length : Int) 0)) else (none)) else (none)) else (none)) = some r := by first | (rw [hy201]; with_reducible exact H) | (have H2_ := (Option.bind_some _ _).symm.trans H; rw [hy201]; with_reducible exact H2_) | (have H2_ := (Option.bind_some _ _).symm.trans H; with_reducible exact H2_) | with_reducible exact H | (rw [hy201]; exact H) | exact H
    have Ny201 := ak hy201
    clear hy201
    by_cases c5 : 0 < (y201.length : Int)
    ·rw [if_pos c5] at H
     have c5b0 : decide (0 < (y201.length : Int)) = true := decide_eq_true c5
     have c5b1 : decide (0 < y201.length) = true := decide_eq_true (by omega)
     clear c5
     obtain ⟨y204, hy204⟩ : ∃ y_ : List (S99), y_ = (y201.set (0 : Int).toNat (⟨(rd_T99 y201 0).f0, (-1), (rd_T99 y201 0).f2, (rd_T99 y201 0).f3⟩ : S99)) := ⟨_, rfl⟩
     replace H : (if 0 ≤ (wrap64 (a1 + 1)) then (if (wrap64 (a1 + 1)) ≤ (l0.length : Int) then ((some (l0.drop ((wrap64 (a1 + 1)) : Int).toNat : List (S99))).bind fun y205 => (impl_sub.l0 k a1 y204 y205 (y205.length : Int) 0)) else (none)) else (none)) = some r := by first | (rw [hy204]; with_reducible exact H) | (have H2_ := (Option.bind_some _ _).symm.trans H; rw [hy204]; with_reducible exact H2_) | (have H2_ := (Option.bind_some _ _).symm.trans H; with_reducible exact H2_) | with_reducible exact H | (rw [hy204]; exact H) | exact H
     have Ny204 := ak hy204
     clear hy204
     obtain ⟨ji7, hji7⟩ : ∃ j_ : Int, (wrap64 (a1 + 1)) = j_ := ⟨_, rfl⟩
     replace H : (if 0 ≤ (ji7) then (if (ji7) ≤ (l0.length : Int) then ((some (l0.drop ((ji7) : Int).toNat : List (S99))).bind fun y205 => (impl_sub.l0 k a1 y204 y205 (y205.length : Int) 0)) else (none)) else (none)) = some r := by first | (rw [hji7] at H; exact H) | (simp only [hji7] at H ⊢; exact H)
     have hji7w : (IntKind.i64.wrap (a1 + 1)) = ji7 := (i64_w _).trans hji7
     by_cases c8 : 0 ≤ (ji7)
     ·rw [if_pos c8] at H
      have c8b0 := eq_true c8
      have c8b1 : decide (0 ≤ (ji7)) = true := decide_eq_true c8
      clear c8
      by_cases c9 : (ji7) ≤ (l0.length : Int)
      ·rw [if_pos c9] at H
       have c9b0 := eq_true c9
       have c9b1 : decide ((ji7) ≤ (l0.length : Int)) = true := decide_eq_true c9
       clear c9
       obtain ⟨y205, hy205⟩ : ∃ y_ : List (S99), y_ = (l0.drop ((ji7) : Int).toNat) := ⟨_, rfl⟩
       replace H : (impl_sub.l0 k a1 y204 y205 (y205.length : Int) 0) = some r := by first | (rw [hy205]; with_reducible exact H) | (have H2_ := (Option.bind_some _ _).symm.trans H; rw [hy205]; with_reducible exact H2_) | (have H2_ := (Option.bind_some _ _).symm.trans H; with_reducible exact H2_) | with_reducible exact H | (rw [hy205]; exact H) | exact H
       have Ny205 := ak hy205
       clear hy205
       have H' := ak H
       clear H
       have p200 : 0 ≤ (a1 : Int) := of_decide_eq_true d8_6
       have q200 : a1 < (l0.length : Int) := of_decide_eq_true d8_6
       obtain ⟨ad200, e200, hx200_0, hx200_1, hx200_2, hx200_3⟩ := at_T99 HR0.out a1 p200 q200
       cases e200
       replace p200 := eq_true p200
       replace q200 := eq_true q200
       go_enter Tryd.func70, Tryd.ntmps70
       go_wp2_with (first | ((with_reducible refine gate_dst (N := 12) rfl ?_); refine Kd.R_lit k99 _ 99 ?hg (N := 12) ?hd (xs := ([(⟨(rd_T99 l0 a1).f0, (rd_T99 l0 a1).f1, (rd_T99 l0 a1).f2, (rd_T99 l0 a1).f3⟩ : S99)] : List (S99))) (inner := [.int .i64 ((rd_T99 l0 a1).f0), .int .i64 ((rd_T99 l0 a1).f1), .int .i64 ((rd_T99 l0 a1).f2), .string ((rd_T99 l0 a1).f3)]) (ok := fun _ => True) (okp := fun _ => True) ?hr ?hp (fun _ hk => hk) trivial (Below.refl _ _) (Nat.le_refl _) (by simp) ?_; (case hd => rfl); (case hg => rfl); (case hr => first | (go_simp; done) | (go_simp; rfl)); (case hp => exact (Reps.c4 (show Kd.M k99 _ _ _ (⟨(rd_T99 l0 a1).f0, (rd_T99 l0 a1).f1, (rd_T99 l0 a1).f2, (rd_T99 l0 a1).f3⟩ : S99) [.int .i64 ((rd_T99 l0 a1).f0), .int .i64 ((rd_T99 l0 a1).f1), .int .i64 ((rd_T99 l0 a1).f2), .string ((rd_T99 l0 a1).f3)] from (k99_mkM _ _ _ (⟨(rd_T99 l0 a1).f0, (rd_T99 l0 a1).f1, (rd_T99 l0 a1).f2, (rd_T99 l0 a1).f3⟩ : S99) )) (Reps.none _ _))); intro v202 w10 ho11 hb hg_ hnew_; clear hg_ hnew_; (first | rw [← Ny201.out] at ho11 | (simp only [Int.reduceToNat] at ho11; rw [← Ny201.out] at ho11)); have n0_ := ak (Kd.R_lower ho11 (below_size d8_1)); have n1_ := ak (below_step d8_1 hb); clear HB; have HO203 := n0_; have HB := n1_; clear n0_ n1_ hb ho11; have p6 : 0 ≤ (0 : Int) := (by omega); have q6 : (0 : Int) < ((y201.length : Int) : Int) := of_decide_eq_true d8_6; have qi6 : (0 < y201.length) = True := eq_true (by omega); obtain ⟨go6, co6, eo6, gb6, gl6, cl6, HG6⟩ := Kd.R_form HO203.out (by omega); (first | cases eo6 | (injection eo6 with ea_ en_ ec_; (first | subst ea_ | (injection ea_ with ea_; subst ea_)); subst ec_; clear en_)); have GB6 := ak gb6; have GG6 := ak HG6; clear gb6 gl6 HG6; obtain ⟨ce6, hcl6, hM6, hcc6, hfr6⟩ := Kd.R_elem HO203.out z99 (0 : Int) p6 q6; obtain rfl := k99_openM hM6; have hx6_0 : w10.cell? ⟨go6, (0 : Int).toNat * 4, none⟩ = some (.int .i64 ((rd_T99 y201 0).f0)) := hcc6 0 _ rfl; have hx6_1 : w10.cell? ⟨go6, (0 : Int).toNat * 4 + 1, none⟩ = some (.int .i64 ((rd_T99 y201 0).f1)) := hcc6 1 _ rfl; have hx6_2 : w10.cell? ⟨go6, (0 : Int).toNat * 4 + 2, none⟩ = some (.int .i64 ((rd_T99 y201 0).f2)) := hcc6 2 _ rfl; have hx6_3 : w10.cell? ⟨go6, (0 : Int).toNat * 4 + 3, none⟩ = some (.string ((rd_T99 y201 0).f3)) := hcc6 3 _ rfl; have hf6_0 : w10.frozen? ⟨go6, (0 : Int).toNat * 4, none⟩ = false := hfr6 0; have hf6_1 : w10.frozen? ⟨go6, (0 : Int).toNat * 4 + 1, none⟩ = false := hfr6 1; have hf6_2 : w10.frozen? ⟨go6, (0 : Int).toNat * 4 + 2, none⟩ = false := hfr6 2; have hf6_3 : w10.frozen? ⟨go6, (0 : Int).toNat * 4 + 3, none⟩ = false := hfr6 3; clear hcl6 hcc6 hfr6 hM6; (try rw [show ((0 : Int)).toNat = 0 from rfl] at hx6_0); (try simp only [Nat.reduceMul, Nat.zero_mul, Nat.zero_add, Nat.reduceAdd] at hx6_0); (try rw [show ((0 : Int)).toNat = 0 from rfl] at hf6_0); (try simp only [Nat.reduceMul, Nat.zero_mul, Nat.zero_add, Nat.reduceAdd] at hf6_0); (try rw [show ((0 : Int)).toNat = 0 from rfl] at hx6_1); (try simp only [Nat.reduceMul, Nat.zero_mul, Nat.zero_add, Nat.reduceAdd] at hx6_1); (try rw [show ((0 : Int)).toNat = 0 from rfl] at hf6_1); (try simp only [Nat.reduceMul, Nat.zero_mul, Nat.zero_add, Nat.reduceAdd] at hf6_1); (try rw [show ((0 : Int)).toNat = 0 from rfl] at hx6_2); (try simp only [Nat.reduceMul, Nat.zero_mul, Nat.zero_add, Nat.reduceAdd] at hx6_2); (try rw [show ((0 : Int)).toNat = 0 from rfl] at hf6_2); (try simp only [Nat.reduceMul, Nat.zero_mul, Nat.zero_add, Nat.reduceAdd] at hf6_2); (try rw [show ((0 : Int)).toNat = 0 from rfl] at hx6_3); (try simp only [Nat.reduceMul, Nat.zero_mul, Nat.zero_add, Nat.reduceAdd] at hx6_3); (try rw [show ((0 : Int)).toNat = 0 from rfl] at hf6_3); (try simp only [Nat.reduceMul, Nat.zero_mul, Nat.zero_add, Nat.reduceAdd] at hf6_3); replace p6 := eq_true p6; replace q6 := eq_true q6; have HX12 := ak (show Kd.R k99 99 w10 w.heap.size (fun _ => True) (.slice (some ⟨go6, 0, none⟩) y201.length co6) y201 from (by (with_reducible repeat (first | apply Kd.R_alloc | apply Kd.R_drewN | apply Kd.R_drew)); exact HO203.out)); obtain ⟨ce12, hcl12, hM12, hcc12, hfr12⟩ := Kd.R_elem HX12.out z99 (0 : Int) (by omega) (by have h_ : (0 : Int) < ((y201.length : Int) : Int) := of_decide_eq_true d8_6; first | exact h_ | (have e_ := (Kd.R_reads' HO203.out).1; omega) | simpa using h_); obtain rfl := k99_openM hM12; have HP12 := Kd.R_seg HX12.out (0 : Int) (by omega) (by have h_ : (0 : Int) < ((y201.length : Int) : Int) := of_decide_eq_true d8_6; first | exact h_ | (have e_ := (Kd.R_reads' HO203.out).1; omega) | simpa using h_) (seg := [.int .i64 (-1)]) (j := 1) hcl12 hcc12 (show 2 ≤ 4 from by decide) (x' := (⟨(rd_T99 y201 0).f0, (-1), (rd_T99 y201 0).f2, (rd_T99 y201 0).f3⟩ : S99)) (k99_mkM _ _ _ (⟨(rd_T99 y201 0).f0, (-1), (rd_T99 y201 0).f2, (rd_T99 y201 0).f3⟩ : S99) ) (fun _ hk => hk); have hx12_1 := hcc12 1 _ rfl; (try simp only [show (k99).sz = 4 from rfl, Nat.mul_one, Nat.add_zero] at hx12_1); (try rw [show ((0 : Int)).toNat = 0 from rfl] at hx12_1); (try simp only [Nat.reduceMul, Nat.zero_mul, Nat.zero_add, Nat.reduceAdd] at hx12_1); have hf12_1 := hfr12 1; (try simp only [show (k99).sz = 4 from rfl, Nat.mul_one, Nat.add_zero] at hf12_1); (try rw [show ((0 : Int)).toNat = 0 from rfl] at hf12_1); (try simp only [Nat.reduceMul, Nat.zero_mul, Nat.zero_add, Nat.reduceAdd] at hf12_1); clear hcl12 hcc12 hfr12 hM12) | ((with_reducible refine gate_store (t := 2) (p := 15) rfl ?_); refine store_event (t := 2) (p := 15) (v := ?vo_w13) (w1 := (w10.setCell ⟨go6, 1, none⟩ (.int .i64 (-1)))) ?hg ?ho ?hn ?hr ?_; (case ho => rfl); (case hg => rfl); (case hn => rfl); (case hr => first | (go_simp; done) | (go_simp; rfl)); intro w13 hw; have hg : w10.grownBy w13 (some go6) := (by rw [hw]; exact HP12.2); have hp_ : Kd.R k99 99 w13 w.heap.size (fun _ => True) (.slice (some ⟨go6, 0, none⟩) y201.length co6) y204 := (by rw [hw, Ny204.out]; exact HP12.1); clear HP12; have n0_ := ak (hp_); have n1_ := ak ((by rw [hw]; exact below_set (HB.out) GB6.out : Below w.heap.size w w13)); clear HO203 HB; have HO203 := n0_; have HB := n1_; clear n0_ n1_ hg hw hp_; have q14 : ((ji7) : Int) ≤ ((l0.length : Int) : Int) := of_decide_eq_true d8_6; obtain ⟨i014, hi014, _, hsz14, _⟩ := info_parts info99; have hroom14 : l0.length ≤ c0 := HC0.out; have hC14 : Kd.C k99 _ (some ad200) l0.length l0 := HR0.out; have q014 : (0 : Int) ≤ ((ji7) : Int) := of_decide_eq_true d8_6; have hcut14 := cut_from (P := Tryd.prog) 44 99 .i64 Tryd.underlying44 hi014 4 hsz14 (some ad200) l0.length c0 (ji7) q014 q14; have hr14 := Kd.C_drop (m := ((ji7) : Int).toNat) (c := c0) hC14 (by omega) hroom14; obtain ⟨A14, hA14⟩ : ∃ A1, A1 = (if c0 = ((ji7) : Int).toNat then (some ad200) else ((some ad200) : Option Addr).map (·.add (((ji7) : Int).toNat * 4))) := ⟨_, rfl⟩; obtain ⟨c14, hc14⟩ : ∃ c1, c1 = c0 - ((ji7) : Int).toNat := ⟨_, rfl⟩; have hy14 : y205.length = l0.length - ((ji7) : Int).toNat := (by rw [Ny205.out, List.length_drop] <;> omega); rw [show (l0).drop ((ji7) : Int).toNat = y205 from Ny205.out.symm] at hr14; replace hr14 : Kd.C k99 _ A14 y205.length y205 := (by rw [hA14]; exact hr14); rw [← hy14, ← hA14, ← hc14] at hcut14; have HR208 := ak hr14; have HC208 := ak (show y205.length ≤ c14 from by rw [hy14, hc14]; exact Nat.sub_le_sub_right hroom14 _); clear hr14 hC14 hroom14 hi014 hsz14 hc14; have KY14 := ak hy14; have KA14 := ak hA14; clear hy14 hA14; replace q14 := eq_true q14))
       go_loopg [5, 21] k (fun kq v5 v21 w' => ∃ (x5_1 : List (S99)) (x21_1 : Int), v21 = .int .i64 x21_1 ∧ Aside0 (impl_sub.l0 kq a1 x5_1 y205 (y205.length : Int) x21_1 = some r) ∧ Aside0 (kq ≤ k) ∧ Aside0 (Kd.R k99 99 w' w.heap.size (fun _ => True) v5 x5_1) ∧ Aside0 (Below w.heap.size w w'))
       case atStart => exact ⟨(y204), (0), (by first | rfl | (simp; done) | (simp [*]; done) | (simp [ne_nil_b, eq_nil_b]; done)), H', ⟨Nat.le_refl _⟩, ⟨by (with_reducible repeat (first | apply Kd.R_alloc | apply Kd.R_drewN | apply Kd.R_drew)); exact HO203.out⟩, ⟨by repeat (first | (with_reducible first | exact HB.out | apply below_alloc | apply pw_below_drewN | apply below_drew1) | exact HB.out)⟩⟩
       case round =>
        clear H'
        try clear c1
        try clear q1
        try clear hx1
        try clear p2
        try clear q2
        try clear hx2
        try clear c3
        try clear c3b0
        try clear c4
        try clear c4b0
        try clear c5
        try clear c5b0
        try clear c5b1
        try clear c6
        try clear p6
        try clear q6
        try clear hx6
        try clear qi6
        try clear hf6
        try clear c7
        try clear c8
        try clear c8b0
        try clear c8b1
        try clear c9
        try clear c9b0
        try clear c9b1
        try clear c12
        try clear hx12
        try clear hf12
        try clear c14
        try clear q14
        try clear hx12_1
        try clear hx200_0
        try clear hx200_1
        try clear hx200_2
        try clear hx200_3
        try clear hx6_0
        try clear hx6_1
        try clear hx6_2
        try clear hx6_3
        try clear p200
        try clear p6
        try clear q014
        try clear q14
        try clear q200
        try clear q6
        obtain ⟨x5_1, x21_1, rfl, HA, HK1, HO_5, HB⟩ := hrel
        cases gk with
        | zero => exact absurd HA.out (by simp [impl_sub.l0])
        | succ k1 =>
         have H := HA.out
         clear HA
         simp only [impl_sub.l0] at H
         by_cases c15 : x21_1 < (y205.length : Int)
         ·rw [if_pos c15] at H
          have c15b0 : decide (x21_1 < (y205.length : Int)) = true := decide_eq_true c15
          clear c15
          by_cases c16 : 0 ≤ x21_1
          ·rw [if_pos c16] at H
           have c16b0 : decide (0 ≤ x21_1) = true := decide_eq_true c16
           clear c16
           by_cases c17 : x21_1 < (y205.length : Int)
           ·rw [if_pos c17] at H
            have c17b0 : decide (x21_1 < (y205.length : Int)) = true := decide_eq_true c17
            clear c17
            by_cases c18 : ((rd_T99 y205 x21_1).f1) < a1
            ·rw [if_pos c18] at H
             have c18b0 : decide (((rd_T99 y205 x21_1).f1) < a1) = true := decide_eq_true c18
             clear c18
             obtain rfl := Option.some.inj H
             have p209 : 0 ≤ (x21_1 : Int) := of_decide_eq_true d8_6
             have q209 : x21_1 < (y205.length : Int) := of_decide_eq_true d8_6
             obtain ⟨ad209, e209, hx209_0, hx209_1, hx209_2, hx209_3⟩ := at_T99 HR208.out x21_1 p209 q209
             cases e209
             replace hx209_0 := (HB.out.cell (World.block_lt_of_cell? w _ hx209_0)).trans hx209_0
             replace hx209_1 := (HB.out.cell (World.block_lt_of_cell? w _ hx209_1)).trans hx209_1
             replace hx209_2 := (HB.out.cell (World.block_lt_of_cell? w _ hx209_2)).trans hx209_2
             replace hx209_3 := (HB.out.cell (World.block_lt_of_cell? w _ hx209_3)).trans hx209_3
             replace p209 := eq_true p209
             replace q209 := eq_true q209
             go_wp2_with (first | ((with_reducible refine gate_dst (N := 7) rfl ?_); refine box_event ?hg (N := 7) ?hd (cs := #[.int .i64 0, .int .i64 0, .int .i64 0, .string (⟨#[]⟩ : ByteArray)]) (t := 99) ?hr ?_; (case hd => rfl); (case hg => rfl); (case hr => first | (go_simp; done) | (go_simp; rfl)); intro gb210 hg w19 hbox hb; have n0_ := ak (Kd.R_below (Kd.R_elderB (by (with_reducible repeat (first | apply Kd.R_alloc | apply Kd.R_drewN | apply Kd.R_drew)); exact HO_5.out) gb210 (Nat.le_of_eq hg.symm)) hb); have n1_ := ak (below_step d8_1 hb); have n2_ := ak (hbox); have n3_ := ak ((d8_7 : w.heap.size ≤ gb210)); have n4_ := ak ((d8_7 : w.heap.size ≤ gb210)); clear HO_5 HB; have HO_5 := n0_; have HB := n1_; have BK210 := n2_; have GW210 := n3_; have GE210 := n4_; clear n0_ n1_ n2_ n3_ n4_ hb hbox hg; have hcz20_0 : w19.cell? ⟨gb210, 0, none⟩ = some (.int .i64 0) := (blk_cell BK210.out 0).trans rfl; have hcz20_1 : w19.cell? ⟨gb210, 1, none⟩ = some (.int .i64 0) := (blk_cell BK210.out 1).trans rfl; have hcz20_2 : w19.cell? ⟨gb210, 2, none⟩ = some (.int .i64 0) := (blk_cell BK210.out 2).trans rfl; have hcz20_3 : w19.cell? ⟨gb210, 3, none⟩ = some (.string (⟨#[]⟩ : ByteArray)) := (blk_cell BK210.out 3).trans rfl; have hfz20_0 := blk_frozen BK210.out 0; have hfz20_1 := blk_frozen BK210.out 1; have hfz20_2 := blk_frozen BK210.out 2; have hfz20_3 := blk_frozen BK210.out 3))
             go_ret
             exact ⟨_, by first | rfl | (simp [errW_none, errW_some] <;> rfl) | (simp only [← hji7]; first | rfl | (simp [errW_none, errW_some] <;> rfl)) | (simp [*, errW_none, errW_some] <;> rfl), by (with_reducible repeat (first | apply Kd.R_alloc | apply Kd.R_drewN | apply Kd.R_drew)); exact Kd.R_mono (Kd.R_far (p := ⟨gb210, 3, none⟩) (Kd.R_far (p := ⟨gb210, 2, none⟩) (Kd.R_far (p := ⟨gb210, 1, none⟩) (Kd.R_far (p := ⟨gb210, 0, none⟩) (Kd.R_mono HO_5.out (fun k_ hk => (⟨hk, hk.2⟩ : _ ∧ k_ ≠ gb210))) (fun _ hk => hk.2) (.int .i64 ((rd_T99 y205 x21_1).f0))) (fun _ hk => hk.2) (.int .i64 ((rd_T99 y205 x21_1).f1))) (fun _ hk => hk.2) (.int .i64 ((rd_T99 y205 x21_1).f2))) (fun _ hk => hk.2) (.string ((rd_T99 y205 x21_1).f3))) (fun _ hk => trivial), by repeat (first | (with_reducible first | exact HB.out | apply below_alloc | apply pw_below_drewN | apply below_drew1 | refine below_set ?_ GE210.out) | exact HB.out)⟩
            ·rw [if_neg c18] at H
             have c18b0 : decide (((rd_T99 y205 x21_1).f1) < a1) = false := decide_eq_false c18
             clear c18
             by_cases c21 : x5_1.length < 3518437208883
             ·rw [if_pos c21] at H
              have LMc21 := ak c21
              clear c21
              obtain ⟨y211, hy211⟩ : ∃ y_ : List (S99), y_ = (x5_1 ++ [(⟨(rd_T99 y205 x21_1).f0, wrap64 (((rd_T99 y205 x21_1).f1) - a1), (rd_T99 y205 x21_1).f2, (rd_T99 y205 x21_1).f3⟩ : S99)]) := ⟨_, rfl⟩
              replace H : (impl_sub.l0 k1 a1 y211 y205 (y205.length : Int) (wrap64 (x21_1 + 1))) = some r := by first | (rw [hy211]; with_reducible exact H) | (have H2_ := (Option.bind_some _ _).symm.trans H; rw [hy211]; with_reducible exact H2_) | (have H2_ := (Option.bind_some _ _).symm.trans H; with_reducible exact H2_) | with_reducible exact H | (rw [hy211]; exact H) | exact H
              have Ny211 := ak hy211
              clear hy211
              have H' := ak H
              clear H
              have p209 : 0 ≤ (x21_1 : Int) := of_decide_eq_true d8_6
              have q209 : x21_1 < (y205.length : Int) := of_decide_eq_true d8_6
              obtain ⟨ad209, e209, hx209_0, hx209_1, hx209_2, hx209_3⟩ := at_T99 HR208.out x21_1 p209 q209
              cases e209
              replace hx209_0 := (HB.out.cell (World.block_lt_of_cell? w _ hx209_0)).trans hx209_0
              replace hx209_1 := (HB.out.cell (World.block_lt_of_cell? w _ hx209_1)).trans hx209_1
              replace hx209_2 := (HB.out.cell (World.block_lt_of_cell? w _ hx209_2)).trans hx209_2
              replace hx209_3 := (HB.out.cell (World.block_lt_of_cell? w _ hx209_3)).trans hx209_3
              replace p209 := eq_true p209
              replace q209 := eq_true q209
              go_wp2_with (first | ((with_reducible refine gate_dst (N := 7) rfl ?_); refine box_event ?hg (N := 7) ?hd (cs := #[.int .i64 0, .int .i64 0, .int .i64 0, .string (⟨#[]⟩ : ByteArray)]) (t := 99) ?hr ?_; (case hd => rfl); (case hg => rfl); (case hr => first | (go_simp; done) | (go_simp; rfl)); intro gb210 hg w22 hbox hb; have n0_ := ak (Kd.R_below (Kd.R_elderB (by (with_reducible repeat (first | apply Kd.R_alloc | apply Kd.R_drewN | apply Kd.R_drew)); exact HO_5.out) gb210 (Nat.le_of_eq hg.symm)) hb); have n1_ := ak (below_step d8_1 hb); have n2_ := ak (hbox); have n3_ := ak ((d8_7 : w.heap.size ≤ gb210)); have n4_ := ak ((d8_7 : w.heap.size ≤ gb210)); clear HO_5 HB; have HO_5 := n0_; have HB := n1_; have BK210 := n2_; have GW210 := n3_; have GE210 := n4_; clear n0_ n1_ n2_ n3_ n4_ hb hbox hg; have hcz23_0 : w22.cell? ⟨gb210, 0, none⟩ = some (.int .i64 0) := (blk_cell BK210.out 0).trans rfl; have hcz23_1 : w22.cell? ⟨gb210, 1, none⟩ = some (.int .i64 0) := (blk_cell BK210.out 1).trans rfl; have hcz23_2 : w22.cell? ⟨gb210, 2, none⟩ = some (.int .i64 0) := (blk_cell BK210.out 2).trans rfl; have hcz23_3 : w22.cell? ⟨gb210, 3, none⟩ = some (.string (⟨#[]⟩ : ByteArray)) := (blk_cell BK210.out 3).trans rfl; have hfz23_0 := blk_frozen BK210.out 0; have hfz23_1 := blk_frozen BK210.out 1; have hfz23_2 := blk_frozen BK210.out 2; have hfz23_3 := blk_frozen BK210.out 3; have BKc3 : ((((w22.setCell ⟨gb210, 0, none⟩ (.int .i64 ((rd_T99 y205 x21_1).f0))).setCell ⟨gb210, 1, none⟩ (.int .i64 ((rd_T99 y205 x21_1).f1))).setCell ⟨gb210, 2, none⟩ (.int .i64 ((rd_T99 y205 x21_1).f2))).setCell ⟨gb210, 3, none⟩ (.string ((rd_T99 y205 x21_1).f3))).heap[gb210]? = some (.cells #[(.int .i64 ((rd_T99 y205 x21_1).f0)), (.int .i64 ((rd_T99 y205 x21_1).f1)), (.int .i64 ((rd_T99 y205 x21_1).f2)), (.string ((rd_T99 y205 x21_1).f3))] 99 (0, 0)) := (blk_put (t := 99) (cs := #[(.int .i64 ((rd_T99 y205 x21_1).f0)), (.int .i64 ((rd_T99 y205 x21_1).f1)), (.int .i64 ((rd_T99 y205 x21_1).f2)), (.string (⟨#[]⟩ : ByteArray))]) (cs' := #[(.int .i64 ((rd_T99 y205 x21_1).f0)), (.int .i64 ((rd_T99 y205 x21_1).f1)), (.int .i64 ((rd_T99 y205 x21_1).f2)), (.string ((rd_T99 y205 x21_1).f3))]) (blk_put (t := 99) (cs := #[(.int .i64 ((rd_T99 y205 x21_1).f0)), (.int .i64 ((rd_T99 y205 x21_1).f1)), (.int .i64 0), (.string (⟨#[]⟩ : ByteArray))]) (cs' := #[(.int .i64 ((rd_T99 y205 x21_1).f0)), (.int .i64 ((rd_T99 y205 x21_1).f1)), (.int .i64 ((rd_T99 y205 x21_1).f2)), (.string (⟨#[]⟩ : ByteArray))]) (blk_put (t := 99) (cs := #[(.int .i64 ((rd_T99 y205 x21_1).f0)), (.int .i64 0), (.int .i64 0), (.string (⟨#[]⟩ : ByteArray))]) (cs' := #[(.int .i64 ((rd_T99 y205 x21_1).f0)), (.int .i64 ((rd_T99 y205 x21_1).f1)), (.int .i64 0), (.string (⟨#[]⟩ : ByteArray))]) (blk_put (t := 99) (cs := #[(.int .i64 0), (.int .i64 0), (.int .i64 0), (.string (⟨#[]⟩ : ByteArray))]) (cs' := #[(.int .i64 ((rd_T99 y205 x21_1).f0)), (.int .i64 0), (.int .i64 0), (.string (⟨#[]⟩ : ByteArray))]) BK210.out 0 _ rfl) 1 _ rfl) 2 _ rfl) 3 _ rfl); have hcl3_0 : ((((w22.setCell ⟨gb210, 0, none⟩ (.int .i64 ((rd_T99 y205 x21_1).f0))).setCell ⟨gb210, 1, none⟩ (.int .i64 ((rd_T99 y205 x21_1).f1))).setCell ⟨gb210, 2, none⟩ (.int .i64 ((rd_T99 y205 x21_1).f2))).setCell ⟨gb210, 3, none⟩ (.string ((rd_T99 y205 x21_1).f3))).cell? ⟨gb210, 0, none⟩ = some (.int .i64 ((rd_T99 y205 x21_1).f0)) := (blk_cell BKc3 0).trans rfl; have hcl3_1 : ((((w22.setCell ⟨gb210, 0, none⟩ (.int .i64 ((rd_T99 y205 x21_1).f0))).setCell ⟨gb210, 1, none⟩ (.int .i64 ((rd_T99 y205 x21_1).f1))).setCell ⟨gb210, 2, none⟩ (.int .i64 ((rd_T99 y205 x21_1).f2))).setCell ⟨gb210, 3, none⟩ (.string ((rd_T99 y205 x21_1).f3))).cell? ⟨gb210, 1, none⟩ = some (.int .i64 ((rd_T99 y205 x21_1).f1)) := (blk_cell BKc3 1).trans rfl; have hcl3_2 : ((((w22.setCell ⟨gb210, 0, none⟩ (.int .i64 ((rd_T99 y205 x21_1).f0))).setCell ⟨gb210, 1, none⟩ (.int .i64 ((rd_T99 y205 x21_1).f1))).setCell ⟨gb210, 2, none⟩ (.int .i64 ((rd_T99 y205 x21_1).f2))).setCell ⟨gb210, 3, none⟩ (.string ((rd_T99 y205 x21_1).f3))).cell? ⟨gb210, 2, none⟩ = some (.int .i64 ((rd_T99 y205 x21_1).f2)) := (blk_cell BKc3 2).trans rfl; have hcl3_3 : ((((w22.setCell ⟨gb210, 0, none⟩ (.int .i64 ((rd_T99 y205 x21_1).f0))).setCell ⟨gb210, 1, none⟩ (.int .i64 ((rd_T99 y205 x21_1).f1))).setCell ⟨gb210, 2, none⟩ (.int .i64 ((rd_T99 y205 x21_1).f2))).setCell ⟨gb210, 3, none⟩ (.string ((rd_T99 y205 x21_1).f3))).cell? ⟨gb210, 3, none⟩ = some (.string ((rd_T99 y205 x21_1).f3)) := (blk_cell BKc3 3).trans rfl; have BKc4 : (((((w22.setCell ⟨gb210, 0, none⟩ (.int .i64 ((rd_T99 y205 x21_1).f0))).setCell ⟨gb210, 1, none⟩ (.int .i64 ((rd_T99 y205 x21_1).f1))).setCell ⟨gb210, 2, none⟩ (.int .i64 ((rd_T99 y205 x21_1).f2))).setCell ⟨gb210, 3, none⟩ (.string ((rd_T99 y205 x21_1).f3))).setCell ⟨gb210, 1, none⟩ (.int .i64 (wrap64 (((rd_T99 y205 x21_1).f1) - a1)))).heap[gb210]? = some (.cells #[(.int .i64 ((rd_T99 y205 x21_1).f0)), (.int .i64 (wrap64 (((rd_T99 y205 x21_1).f1) - a1))), (.int .i64 ((rd_T99 y205 x21_1).f2)), (.string ((rd_T99 y205 x21_1).f3))] 99 (0, 0)) := (blk_put (t := 99) (cs := #[(.int .i64 ((rd_T99 y205 x21_1).f0)), (.int .i64 ((rd_T99 y205 x21_1).f1)), (.int .i64 ((rd_T99 y205 x21_1).f2)), (.string ((rd_T99 y205 x21_1).f3))]) (cs' := #[(.int .i64 ((rd_T99 y205 x21_1).f0)), (.int .i64 (wrap64 (((rd_T99 y205 x21_1).f1) - a1))), (.int .i64 ((rd_T99 y205 x21_1).f2)), (.string ((rd_T99 y205 x21_1).f3))]) (blk_put (t := 99) (cs := #[(.int .i64 ((rd_T99 y205 x21_1).f0)), (.int .i64 ((rd_T99 y205 x21_1).f1)), (.int .i64 ((rd_T99 y205 x21_1).f2)), (.string (⟨#[]⟩ : ByteArray))]) (cs' := #[(.int .i64 ((rd_T99 y205 x21_1).f0)), (.int .i64 ((rd_T99 y205 x21_1).f1)), (.int .i64 ((rd_T99 y205 x21_1).f2)), (.string ((rd_T99 y205 x21_1).f3))]) (blk_put (t := 99) (cs := #[(.int .i64 ((rd_T99 y205 x21_1).f0)), (.int .i64 ((rd_T99 y205 x21_1).f1)), (.int .i64 0), (.string (⟨#[]⟩ : ByteArray))]) (cs' := #[(.int .i64 ((rd_T99 y205 x21_1).f0)), (.int .i64 ((rd_T99 y205 x21_1).f1)), (.int .i64 ((rd_T99 y205 x21_1).f2)), (.string (⟨#[]⟩ : ByteArray))]) (blk_put (t := 99) (cs := #[(.int .i64 ((rd_T99 y205 x21_1).f0)), (.int .i64 0), (.int .i64 0), (.string (⟨#[]⟩ : ByteArray))]) (cs' := #[(.int .i64 ((rd_T99 y205 x21_1).f0)), (.int .i64 ((rd_T99 y205 x21_1).f1)), (.int .i64 0), (.string (⟨#[]⟩ : ByteArray))]) (blk_put (t := 99) (cs := #[(.int .i64 0), (.int .i64 0), (.int .i64 0), (.string (⟨#[]⟩ : ByteArray))]) (cs' := #[(.int .i64 ((rd_T99 y205 x21_1).f0)), (.int .i64 0), (.int .i64 0), (.string (⟨#[]⟩ : ByteArray))]) BK210.out 0 _ rfl) 1 _ rfl) 2 _ rfl) 3 _ rfl) 1 _ rfl); have hcl4_0 : (((((w22.setCell ⟨gb210, 0, none⟩ (.int .i64 ((rd_T99 y205 x21_1).f0))).setCell ⟨gb210, 1, none⟩ (.int .i64 ((rd_T99 y205 x21_1).f1))).setCell ⟨gb210, 2, none⟩ (.int .i64 ((rd_T99 y205 x21_1).f2))).setCell ⟨gb210, 3, none⟩ (.string ((rd_T99 y205 x21_1).f3))).setCell ⟨gb210, 1, none⟩ (.int .i64 (wrap64 (((rd_T99 y205 x21_1).f1) - a1)))).cell? ⟨gb210, 0, none⟩ = some (.int .i64 ((rd_T99 y205 x21_1).f0)) := (blk_cell BKc4 0).trans rfl; have hcl4_1 : (((((w22.setCell ⟨gb210, 0, none⟩ (.int .i64 ((rd_T99 y205 x21_1).f0))).setCell ⟨gb210, 1, none⟩ (.int .i64 ((rd_T99 y205 x21_1).f1))).setCell ⟨gb210, 2, none⟩ (.int .i64 ((rd_T99 y205 x21_1).f2))).setCell ⟨gb210, 3, none⟩ (.string ((rd_T99 y205 x21_1).f3))).setCell ⟨gb210, 1, none⟩ (.int .i64 (wrap64 (((rd_T99 y205 x21_1).f1) - a1)))).cell? ⟨gb210, 1, none⟩ = some (.int .i64 (wrap64 (((rd_T99 y205 x21_1).f1) - a1))) := (blk_cell BKc4 1).trans rfl; have hcl4_2 : (((((w22.setCell ⟨gb210, 0, none⟩ (.int .i64 ((rd_T99 y205 x21_1).f0))).setCell ⟨gb210, 1, none⟩ (.int .i64 ((rd_T99 y205 x21_1).f1))).setCell ⟨gb210, 2, none⟩ (.int .i64 ((rd_T99 y205 x21_1).f2))).setCell ⟨gb210, 3, none⟩ (.string ((rd_T99 y205 x21_1).f3))).setCell ⟨gb210, 1, none⟩ (.int .i64 (wrap64 (((rd_T99 y205 x21_1).f1) - a1)))).cell? ⟨gb210, 2, none⟩ = some (.int .i64 ((rd_T99 y205 x21_1).f2)) := (blk_cell BKc4 2).trans rfl; have hcl4_3 : (((((w22.setCell ⟨gb210, 0, none⟩ (.int .i64 ((rd_T99 y205 x21_1).f0))).setCell ⟨gb210, 1, none⟩ (.int .i64 ((rd_T99 y205 x21_1).f1))).setCell ⟨gb210, 2, none⟩ (.int .i64 ((rd_T99 y205 x21_1).f2))).setCell ⟨gb210, 3, none⟩ (.string ((rd_T99 y205 x21_1).f3))).setCell ⟨gb210, 1, none⟩ (.int .i64 (wrap64 (((rd_T99 y205 x21_1).f1) - a1)))).cell? ⟨gb210, 3, none⟩ = some (.string ((rd_T99 y205 x21_1).f3)) := (blk_cell BKc4 3).trans rfl) | ((with_reducible refine gate_builtin (b := .append) (xs := #[.tmp 34, .tmp 36]) rfl ?_); at_builtin; refine Kd.R_append k99 (w0 := w) w.heap.size rfl (.tmp 34) (.tmp 36) 44 99 (.agg #[(.int .i64 0), (.int .i64 0), (.int .i64 0), (.string ⟨#[]⟩)]) 40 rfl Tryd.underlying44 info99 rfl (by decide) (by omega) u5 x5_1 (⟨(rd_T99 y205 x21_1).f0, wrap64 (((rd_T99 y205 x21_1).f1) - a1), (rd_T99 y205 x21_1).f2, (rd_T99 y205 x21_1).f3⟩ : S99) [.int .i64 ((rd_T99 y205 x21_1).f0), .int .i64 (wrap64 (((rd_T99 y205 x21_1).f1) - a1)), .int .i64 ((rd_T99 y205 x21_1).f2), .string ((rd_T99 y205 x21_1).f3)] (fun k_ => k_ ≠ gb210) (fun _ => False) rfl (by first | (go_simp; done) | (go_simp; rfl)) ?aP (fun _ hk => hk.elim) ?aF ?aO ?aB ?aS ?aL ?_; (case aP => exact k99_mkM _ _ _ (⟨(rd_T99 y205 x21_1).f0, wrap64 (((rd_T99 y205 x21_1).f1) - a1), (rd_T99 y205 x21_1).f2, (rd_T99 y205 x21_1).f3⟩ : S99)); (case aB => exact (by repeat (first | (with_reducible first | exact HB.out | apply below_alloc | apply pw_below_drewN | apply below_drew1 | refine below_set ?_ GE210.out) | exact HB.out))); (case aF => exact (fun k_ hk => Kd.freshB (g := gb210) (o := .cells #[.int .i64 ((rd_T99 y205 x21_1).f0), .int .i64 (wrap64 (((rd_T99 y205 x21_1).f1) - a1)), .int .i64 ((rd_T99 y205 x21_1).f2), .string ((rd_T99 y205 x21_1).f3)] 99 (0, 0)) (by (with_reducible repeat (first | refine blk_drewN ?_ _ | refine blk_drew ?_ | refine blk_alloc ?_ _)); refine blk_put (cs := #[.int .i64 ((rd_T99 y205 x21_1).f0), .int .i64 ((rd_T99 y205 x21_1).f1), .int .i64 ((rd_T99 y205 x21_1).f2), .string ((rd_T99 y205 x21_1).f3)]) ?_ 1 _ rfl; (with_reducible repeat (first | refine blk_drewN ?_ _ | refine blk_drew ?_ | refine blk_alloc ?_ _)); refine blk_put (cs := #[.int .i64 ((rd_T99 y205 x21_1).f0), .int .i64 ((rd_T99 y205 x21_1).f1), .int .i64 ((rd_T99 y205 x21_1).f2), .string (⟨#[]⟩ : ByteArray)]) ?_ 3 _ rfl; (with_reducible repeat (first | refine blk_drewN ?_ _ | refine blk_drew ?_ | refine blk_alloc ?_ _)); refine blk_put (cs := #[.int .i64 ((rd_T99 y205 x21_1).f0), .int .i64 ((rd_T99 y205 x21_1).f1), .int .i64 0, .string (⟨#[]⟩ : ByteArray)]) ?_ 2 _ rfl; (with_reducible repeat (first | refine blk_drewN ?_ _ | refine blk_drew ?_ | refine blk_alloc ?_ _)); refine blk_put (cs := #[.int .i64 ((rd_T99 y205 x21_1).f0), .int .i64 0, .int .i64 0, .string (⟨#[]⟩ : ByteArray)]) ?_ 1 _ rfl; (with_reducible repeat (first | refine blk_drewN ?_ _ | refine blk_drew ?_ | refine blk_alloc ?_ _)); refine blk_put (cs := #[.int .i64 0, .int .i64 0, .int .i64 0, .string (⟨#[]⟩ : ByteArray)]) ?_ 0 _ rfl; (with_reducible repeat (first | refine blk_drewN ?_ _ | refine blk_drew ?_ | refine blk_alloc ?_ _)); exact BK210.out) k_ hk)); (case aO => exact (by (with_reducible repeat (first | apply Kd.R_alloc | apply Kd.R_drewN | apply Kd.R_drew)); exact Kd.R_mono (Kd.R_far (p := ⟨gb210, 1, none⟩) (Kd.R_far (p := ⟨gb210, 3, none⟩) (Kd.R_far (p := ⟨gb210, 2, none⟩) (Kd.R_far (p := ⟨gb210, 1, none⟩) (Kd.R_far (p := ⟨gb210, 0, none⟩) (Kd.R_mono HO_5.out (fun k_ hk => (⟨hk, hk.2⟩ : _ ∧ k_ ≠ gb210))) (fun _ hk => hk.2) (.int .i64 ((rd_T99 y205 x21_1).f0))) (fun _ hk => hk.2) (.int .i64 ((rd_T99 y205 x21_1).f1))) (fun _ hk => hk.2) (.int .i64 ((rd_T99 y205 x21_1).f2))) (fun _ hk => hk.2) (.string ((rd_T99 y205 x21_1).f3))) (fun _ hk => hk.2) (.int .i64 (wrap64 (((rd_T99 y205 x21_1).f1) - a1)))) (fun _ hk => hk.1.2))); (case aS => exact (below_size (by repeat (first | (with_reducible first | exact HB.out | apply below_alloc | apply pw_below_drewN | apply below_drew1 | refine below_set ?_ GE210.out) | exact HB.out)))); (case aL => have := LMc21.out; omega); intro v212 w24 ho hb hg hat; rw [← Ny211.out] at ho; have n0_ := ak (blk_grown (g := gb210) (o := .cells #[.int .i64 ((rd_T99 y205 x21_1).f0), .int .i64 (wrap64 (((rd_T99 y205 x21_1).f1) - a1)), .int .i64 ((rd_T99 y205 x21_1).f2), .string ((rd_T99 y205 x21_1).f3)] 99 (0, 0)) (by (with_reducible repeat (first | refine blk_drewN ?_ _ | refine blk_drew ?_ | refine blk_alloc ?_ _)); refine blk_put (cs := #[.int .i64 ((rd_T99 y205 x21_1).f0), .int .i64 ((rd_T99 y205 x21_1).f1), .int .i64 ((rd_T99 y205 x21_1).f2), .string ((rd_T99 y205 x21_1).f3)]) ?_ 1 _ rfl; (with_reducible repeat (first | refine blk_drewN ?_ _ | refine blk_drew ?_ | refine blk_alloc ?_ _)); refine blk_put (cs := #[.int .i64 ((rd_T99 y205 x21_1).f0), .int .i64 ((rd_T99 y205 x21_1).f1), .int .i64 ((rd_T99 y205 x21_1).f2), .string (⟨#[]⟩ : ByteArray)]) ?_ 3 _ rfl; (with_reducible repeat (first | refine blk_drewN ?_ _ | refine blk_drew ?_ | refine blk_alloc ?_ _)); refine blk_put (cs := #[.int .i64 ((rd_T99 y205 x21_1).f0), .int .i64 ((rd_T99 y205 x21_1).f1), .int .i64 0, .string (⟨#[]⟩ : ByteArray)]) ?_ 2 _ rfl; (with_reducible repeat (first | refine blk_drewN ?_ _ | refine blk_drew ?_ | refine blk_alloc ?_ _)); refine blk_put (cs := #[.int .i64 ((rd_T99 y205 x21_1).f0), .int .i64 0, .int .i64 0, .string (⟨#[]⟩ : ByteArray)]) ?_ 1 _ rfl; (with_reducible repeat (first | refine blk_drewN ?_ _ | refine blk_drew ?_ | refine blk_alloc ?_ _)); refine blk_put (cs := #[.int .i64 0, .int .i64 0, .int .i64 0, .string (⟨#[]⟩ : ByteArray)]) ?_ 0 _ rfl; (with_reducible repeat (first | refine blk_drewN ?_ _ | refine blk_drew ?_ | refine blk_alloc ?_ _)); exact BK210.out) hg (Kd.R_away HO_5.out (fun _ hk => hk.2))); have n1_ := ak (hb); have n2_ := ak (ho); clear BK210 HB HO_5; have BK210 := n0_; have HB := n1_; have HO213 := n2_; clear n0_ n1_ n2_ ho hb hg hat))
              go_roundg k1
              case measure => have := HK1.out; omega
              case rel => exact ⟨(y211), (wrap64 (x21_1 + 1)), (by first | rfl | (simp; done) | (simp [*]; done) | (simp [ne_nil_b, eq_nil_b]; done)), H', ⟨by have := HK1.out; omega⟩, ⟨by (with_reducible repeat (first | apply Kd.R_alloc | apply Kd.R_drewN | apply Kd.R_drew)); exact Kd.R_mono HO213.out (fun _ hk => trivial)⟩, ⟨by repeat (first | (with_reducible first | exact HB.out | apply below_alloc | apply pw_below_drewN | apply below_drew1 | refine below_set ?_ GE210.out) | exact HB.out)⟩⟩
             ·rw [if_neg c21] at H
              exact absurd H (by simp)
           ·rw [if_neg c17] at H
            exact absurd H (by simp)
          ·rw [if_neg c16] at H
           exact absurd H (by simp)
         ·rw [if_neg c15] at H
          have c15b0 : decide (x21_1 < (y205.length : Int)) = false := decide_eq_false c15
          clear c15
          obtain rfl := Option.some.inj H
          go_wp2
          go_ret
          exact ⟨_, by first | rfl | (simp [errW_none, errW_some] <;> rfl) | (simp only [← hji7]; first | rfl | (simp [errW_none, errW_some] <;> rfl)) | (simp [*, errW_none, errW_some] <;> rfl), by (with_reducible repeat (first | apply Kd.R_alloc | apply Kd.R_drewN | apply Kd.R_drew)); exact HO_5.out, by repeat (first | (with_reducible first | exact HB.out | apply below_alloc | apply pw_below_drewN | apply below_drew1) | exact HB.out)⟩
      ·rw [if_neg c9] at H
       exact absurd H (by simp)
     ·rw [if_neg c8] at H
      exact absurd H (by simp)
    ·rw [if_neg c5] at H
     exact absurd H (by simp)
   ·rw [if_neg c4] at H
    exact absurd H (by simp)
  ·rw [if_neg c3] at H
   exact absurd H (by simp)

/-! ### impl_SubData: function 26 -/
def impl_SubData.f (k : Nat) (l0 : List (S99)) (a1 : Int) : Option (Int × Int × (List (S99))) := (impl_placeFault.f k l0 a1).bind fun t215 => (if t215 = 0 then ((impl_sub.f k l0 a1).bind fun t216 => (some (0, 0, t216))) else (some (t215, 0, ([] : List (S99)))))
theorem impl_SubData.mono : ∀ a0 a1 k, LeO (impl_SubData.f k a0 a1) (impl_SubData.f (k + 1) a0 a1) := by
  intro a0 a1 k
  unfold impl_SubData.f
  repeat' first
      | (with_reducible exact impl_placeFault.mono _ _ _)
      | (with_reducible exact impl_sub.mono _ _ _)
      | (with_reducible exact LeO.refl _)
      | (with_reducible exact LeO.none _)
      | (with_reducible refine LeO.ite ?_ ?_)
      | (with_reducible refine LeO.bind ?_ (fun _ => ?_))
      | exact impl_placeFault.mono _ _ _
      | exact impl_sub.mono _ _ _
      | exact LeO.none _
      | refine LeO.ite ?_ ?_
      | refine LeO.bind ?_ (fun _ => ?_)
set_option maxHeartbeats 8000000 in
set_option maxRecDepth 100000 in
theorem impl_SubData.calls (k : Nat) (A0 : Option Addr) (c0 : Nat) (l0 : List (S99)) (a1 : Int) (r1 : Int) (r2 : Int) (r3 : List (S99)) (w : World) (hr0 : Kd.C k99 w A0 l0.length l0) (hc0 : l0.length ≤ c0) (h : impl_SubData.f k l0 a1 = some (r1, r2, r3)) :
    Calls Tryd.prog 26 #[.slice A0 l0.length c0, .int .i64 a1] w fun e w' => ∃ v2_ : Value, e = .returned (.agg #[.int .i64 r1, .int .i64 r2, v2_]) ∧ Kd.R k99 99 w' w.heap.size (fun _ => True) v2_ r3 ∧ Below w.heap.size w w' := by
  have hu52 := Tryd.underlying52
  have HR0 := ak hr0
  have HC0 := ak hc0
  clear hr0 hc0
  have HB := ak (Below.refl w.heap.size w)
  have H : ((impl_placeFault.f k l0 a1).bind fun t215 => (if t215 = 0 then ((impl_sub.f k l0 a1).bind fun t216 => (some (0, 0, t216))) else (some (t215, 0, ([] : List (S99)))))) = some (r1, r2, r3) := h
  clear h
  replace H := Option.bind_eq_some_iff.mp H
  obtain ⟨t215, A30, H⟩ := H
  replace H : (if t215 = 0 then ((impl_sub.f k l0 a1).bind fun t216 => (some (0, 0, t216))) else (some (t215, 0, ([] : List (S99))))) = some (r1, r2, r3) := H
  have A3 := ak A30
  clear A30
  by_cases c4 : t215 = 0
  ·rw [if_pos c4] at H
   have c4b0 : (t215 == 0) = true := beq_iff_eq.mpr c4
   have c4b1 : (t215 != 0) = false := bne_eq_false_iff_eq.mpr c4
   clear c4
   replace H := Option.bind_eq_some_iff.mp H
   obtain ⟨t216, A50, H⟩ := H
   replace H : (some (0, 0, t216)) = some (r1, r2, r3) := H
   have A5 := ak A50
   clear A50
   simp only [Option.some.injEq, Prod.mk.injEq] at H
   obtain ⟨rfl, rfl, rfl⟩ := H
   go_enter Tryd.func26, Tryd.ntmps26
   go_wp2_with (first | ((with_reducible refine gate_dst (N := 4) rfl ?_); refine box_event ?hg (N := 4) ?hd (cs := #[.int .i64 0, .int .i64 0, .slice none 0 0]) (t := 52) ?hr ?_; (case hd => rfl); (case hg => rfl); (case hr => first | (go_simp; done) | (go_simp; rfl)); intro gb214 hg w6 hbox hb; have n0_ := ak (below_step d8_1 hb); have n1_ := ak (hbox); have n2_ := ak ((d8_7 : w.heap.size ≤ gb214)); have n3_ := ak ((d8_7 : w.heap.size ≤ gb214)); clear HB; have HB := n0_; have BK214 := n1_; have GW214 := n2_; have GE214 := n3_; clear n0_ n1_ n2_ n3_ hb hbox hg) | ((with_reducible refine gate_callee (f := 62) rfl ?_); refine goesL_ (some 8) rfl rfl Tryd.func62 (by kernel_rfl) rfl #[.slice A0 l0.length c0, .int .i64 a1] rfl d8_2 ?_; (with_reducible refine (impl_placeFault.calls k _ _ l0 a1 t215 _ ?side1 ?side2 A3.out).mono ?_); (case side1 => repeat (first | exact (Kd.C_below HR0.out HB.out) | (with_reducible refine Kd.C_alloc ?_ _) | (with_reducible refine Kd.C_drewN ?_ _) | (with_reducible refine Kd.C_drew ?_))); (case side2 => exact HC0.out); rintro e w7 ⟨rfl, hb⟩; refine ⟨_, rfl, ?_⟩; have n0_ := ak (blk_below (g := gb214) (o := .cells #[.int .i64 0, .int .i64 0, .slice none 0 0] 52 (0, 0)) (by (with_reducible repeat (first | refine blk_drewN ?_ _ | refine blk_drew ?_ | refine blk_alloc ?_ _)); exact BK214.out) hb); have n1_ := ak (below_step d8_5 hb); clear BK214 HB; have BK214 := n0_; have HB := n1_; clear n0_ n1_; (try clear hb)) | ((with_reducible refine gate_callee (f := 70) rfl ?_); refine goesL_ (some 15) rfl rfl Tryd.func70 (by kernel_rfl) rfl #[.slice A0 l0.length c0, .int .i64 a1] rfl d8_2 ?_; (with_reducible refine (impl_sub.calls k _ _ l0 a1 t216 _ ?side1 ?side2 A5.out).mono ?_); (case side1 => repeat (first | exact (Kd.C_below HR0.out HB.out) | (with_reducible refine Kd.C_alloc ?_ _) | (with_reducible refine Kd.C_drewN ?_ _) | (with_reducible refine Kd.C_drew ?_))); (case side2 => exact HC0.out); rintro e w8 ⟨v217, rfl, ho0, hb⟩; refine ⟨_, rfl, ?_⟩; have n0_ := ak (Kd.R_lower ho0 (below_size d8_5)); have n1_ := ak (blk_below (g := gb214) (o := .cells #[.int .i64 0, .int .i64 0, .slice none 0 0] 52 (0, 0)) (by (with_reducible repeat (first | refine blk_drewN ?_ _ | refine blk_drew ?_ | refine blk_alloc ?_ _)); exact BK214.out) hb); have n2_ := ak (below_step d8_5 hb); clear BK214 HB; have HO218 := n0_; have BK214 := n1_; have HB := n2_; clear n0_ n1_ n2_; (try clear hb); (try clear ho0); obtain ⟨Ao9, co9, eo9⟩ := Kd.R_slice HO218.out; subst eo9; have hcz10_0 : w8.cell? ⟨gb214, 0, none⟩ = some (.int .i64 0) := (blk_cell BK214.out 0).trans rfl; have hcz10_1 : w8.cell? ⟨gb214, 1, none⟩ = some (.int .i64 0) := (blk_cell BK214.out 1).trans rfl; have hcz10_2 : w8.cell? ⟨gb214, 2, none⟩ = some (.slice none 0 0) := (blk_cell BK214.out 2).trans rfl; have hfz10_0 := blk_frozen BK214.out 0; have hfz10_1 := blk_frozen BK214.out 1; have hfz10_2 := blk_frozen BK214.out 2))
   refine bodyPost_ret (results_cell_row rfl _ _ gb214 52 #[.int .i64 0, .int .i64 0, .slice Ao9 t216.length co9] (0, 0) _ rfl (by (with_reducible repeat (first | refine blk_drewN ?_ _ | refine blk_drew ?_ | refine blk_alloc ?_ _)); refine blk_put (cs := #[.int .i64 0, .int .i64 0, .slice none 0 0]) ?_ 2 _ rfl; (with_reducible repeat (first | refine blk_drewN ?_ _ | refine blk_drew ?_ | refine blk_alloc ?_ _)); refine blk_put (cs := #[.int .i64 0, .int .i64 0, .slice none 0 0]) ?_ 1 _ rfl; (with_reducible repeat (first | refine blk_drewN ?_ _ | refine blk_drew ?_ | refine blk_alloc ?_ _)); refine blk_put (cs := #[.int .i64 0, .int .i64 0, .slice none 0 0]) ?_ 0 _ rfl; (with_reducible repeat (first | refine blk_drewN ?_ _ | refine blk_drew ?_ | refine blk_alloc ?_ _)); exact BK214.out) Tryd.underlying52 rfl (by kernel_rfl)) rfl ?_
   exact ⟨_, by first | rfl | (simp [errW_none, errW_some] <;> rfl) | (simp [*, errW_none, errW_some] <;> rfl), by (with_reducible repeat (first | apply Kd.R_alloc | apply Kd.R_drewN | apply Kd.R_drew)); exact Kd.R_mono (Kd.R_far (p := ⟨gb214, 2, none⟩) (Kd.R_far (p := ⟨gb214, 1, none⟩) (Kd.R_far (p := ⟨gb214, 0, none⟩) (Kd.R_types HO218.out BK214.out (by decide)) (fun _ hk => hk.2) (.int .i64 0)) (fun _ hk => hk.2) (.int .i64 0)) (fun _ hk => hk.2) (.slice Ao9 t216.length co9)) (fun _ hk => trivial), by repeat (first | (with_reducible first | exact HB.out | apply below_alloc | apply pw_below_drewN | apply below_drew1 | refine below_set ?_ GE214.out) | exact HB.out)⟩
  ·rw [if_neg c4] at H
   have c4b0 : (t215 == 0) = false := beq_eq_false_iff_ne.mpr c4
   have c4b1 : (t215 != 0) = true := bne_iff_ne.mpr c4
   simp only [Option.some.injEq, Prod.mk.injEq] at H
   obtain ⟨rfl, rfl, rfl⟩ := H
   go_enter Tryd.func26, Tryd.ntmps26
   go_wp2_with (first | ((with_reducible refine gate_dst (N := 4) rfl ?_); refine box_event ?hg (N := 4) ?hd (cs := #[.int .i64 0, .int .i64 0, .slice none 0 0]) (t := 52) ?hr ?_; (case hd => rfl); (case hg => rfl); (case hr => first | (go_simp; done) | (go_simp; rfl)); intro gb214 hg w11 hbox hb; have n0_ := ak (below_step d8_1 hb); have n1_ := ak (hbox); have n2_ := ak ((d8_7 : w.heap.size ≤ gb214)); have n3_ := ak ((d8_7 : w.heap.size ≤ gb214)); clear HB; have HB := n0_; have BK214 := n1_; have GW214 := n2_; have GE214 := n3_; clear n0_ n1_ n2_ n3_ hb hbox hg) | ((with_reducible refine gate_callee (f := 62) rfl ?_); refine goesL_ (some 8) rfl rfl Tryd.func62 (by kernel_rfl) rfl #[.slice A0 l0.length c0, .int .i64 a1] rfl d8_2 ?_; (with_reducible refine (impl_placeFault.calls k _ _ l0 a1 t215 _ ?side1 ?side2 A3.out).mono ?_); (case side1 => repeat (first | exact (Kd.C_below HR0.out HB.out) | (with_reducible refine Kd.C_alloc ?_ _) | (with_reducible refine Kd.C_drewN ?_ _) | (with_reducible refine Kd.C_drew ?_))); (case side2 => exact HC0.out); rintro e w12 ⟨rfl, hb⟩; refine ⟨_, rfl, ?_⟩; have n0_ := ak (blk_below (g := gb214) (o := .cells #[.int .i64 0, .int .i64 0, .slice none 0 0] 52 (0, 0)) (by (with_reducible repeat (first | refine blk_drewN ?_ _ | refine blk_drew ?_ | refine blk_alloc ?_ _)); exact BK214.out) hb); have n1_ := ak (below_step d8_5 hb); clear BK214 HB; have BK214 := n0_; have HB := n1_; clear n0_ n1_; (try clear hb); have hcz13_0 : w12.cell? ⟨gb214, 0, none⟩ = some (.int .i64 0) := (blk_cell BK214.out 0).trans rfl; have hcz13_1 : w12.cell? ⟨gb214, 1, none⟩ = some (.int .i64 0) := (blk_cell BK214.out 1).trans rfl; have hcz13_2 : w12.cell? ⟨gb214, 2, none⟩ = some (.slice none 0 0) := (blk_cell BK214.out 2).trans rfl; have hfz13_0 := blk_frozen BK214.out 0; have hfz13_1 := blk_frozen BK214.out 1; have hfz13_2 := blk_frozen BK214.out 2))
   refine bodyPost_ret (results_cell_row rfl _ _ gb214 52 #[.int .i64 t215, .int .i64 0, .slice none 0 0] (0, 0) _ rfl (by (with_reducible repeat (first | refine blk_drewN ?_ _ | refine blk_drew ?_ | refine blk_alloc ?_ _)); refine blk_put (cs := #[.int .i64 t215, .int .i64 0, .slice none 0 0]) ?_ 2 _ rfl; (with_reducible repeat (first | refine blk_drewN ?_ _ | refine blk_drew ?_ | refine blk_alloc ?_ _)); refine blk_put (cs := #[.int .i64 t215, .int .i64 0, .slice none 0 0]) ?_ 1 _ rfl; (with_reducible repeat (first | refine blk_drewN ?_ _ | refine blk_drew ?_ | refine blk_alloc ?_ _)); refine blk_put (cs := #[.int .i64 0, .int .i64 0, .slice none 0 0]) ?_ 0 _ rfl; (with_reducible repeat (first | refine blk_drewN ?_ _ | refine blk_drew ?_ | refine blk_alloc ?_ _)); exact BK214.out) Tryd.underlying52 rfl (by kernel_rfl)) rfl ?_
   exact ⟨_, by first | rfl | (simp [errW_none, errW_some] <;> rfl) | (simp [*, errW_none, errW_some] <;> rfl), by first | exact Kd.R_nil _ _ _ _ _ | exact Kd.N_nil _ _ _ _ _ | exact Kd.V_nil _ _ _ _ _ | exact Kd.Q_nil _ _ _ _ _ | exact Kd.S_nil _ _ _ _ _, by repeat (first | (with_reducible first | exact HB.out | apply below_alloc | apply pw_below_drewN | apply below_drew1 | refine below_set ?_ GE214.out) | exact HB.out)⟩

/-! ### laws_eqDataResult: function 27 -/
def laws_eqDataResult.f (k : Nat) (a0_0 : Int) (a0_1 : Int) (l0_2 : List (S99)) (a1_0 : Int) (a1_1 : Int) (l1_2 : List (S99)) : Option (Bool) := if a0_0 = a1_0 then (if a0_1 = a1_1 then ((laws_eqDatumS.f k l0_2 l1_2).bind fun t221 => (if t221 = true then (some true) else (some false))) else (some false)) else (some false)
theorem laws_eqDataResult.mono : ∀ a0 a1 a2 a3 a4 a5 k, LeO (laws_eqDataResult.f k a0 a1 a2 a3 a4 a5) (laws_eqDataResult.f (k + 1) a0 a1 a2 a3 a4 a5) := by
  intro a0 a1 a2 a3 a4 a5 k
  unfold laws_eqDataResult.f
  repeat' first
      | (with_reducible exact laws_eqDatumS.mono _ _ _)
      | (with_reducible exact LeO.refl _)
      | (with_reducible exact LeO.none _)
      | (with_reducible refine LeO.ite ?_ ?_)
      | (with_reducible refine LeO.bind ?_ (fun _ => ?_))
      | exact laws_eqDatumS.mono _ _ _
      | exact LeO.none _
      | refine LeO.ite ?_ ?_
      | refine LeO.bind ?_ (fun _ => ?_)
set_option maxHeartbeats 8000000 in
set_option maxRecDepth 100000 in
theorem laws_eqDataResult.calls (k : Nat) (a0_0 : Int) (a0_1 : Int) (A0_2 : Option Addr) (c0_2 : Nat) (l0_2 : List (S99)) (a1_0 : Int) (a1_1 : Int) (A1_2 : Option Addr) (c1_2 : Nat) (l1_2 : List (S99)) (r : Bool) (w : World) (hr0_2 : Kd.C k99 w A0_2 l0_2.length l0_2) (hc0_2 : l0_2.length ≤ c0_2) (hr1_2 : Kd.C k99 w A1_2 l1_2.length l1_2) (hc1_2 : l1_2.length ≤ c1_2) (h : laws_eqDataResult.f k a0_0 a0_1 l0_2 a1_0 a1_1 l1_2 = some r) :
    Calls Tryd.prog 27 #[.agg #[.int .i64 a0_0, .int .i64 a0_1, .slice A0_2 l0_2.length c0_2], .agg #[.int .i64 a1_0, .int .i64 a1_1, .slice A1_2 l1_2.length c1_2]] w fun e w' => e = .returned (.bool r) ∧ Below w.heap.size w w' := by
  have hu52 := Tryd.underlying52
  have HR0_2 := ak hr0_2
  have HC0_2 := ak hc0_2
  clear hr0_2 hc0_2
  have HR1_2 := ak hr1_2
  have HC1_2 := ak hc1_2
  clear hr1_2 hc1_2
  have HB := ak (Below.refl w.heap.size w)
  have H : (if a0_0 = a1_0 then (if a0_1 = a1_1 then ((laws_eqDatumS.f k l0_2 l1_2).bind fun t221 => (if t221 = true then (some true) else (some false))) else (some false)) else (some false)) = some r := h
  clear h
  by_cases c3 : a0_0 = a1_0
  ·rw [if_pos c3] at H
   have c3b0 : (a0_0 == a1_0) = true := beq_iff_eq.mpr c3
   have c3b1 : (a0_0 != a1_0) = false := bne_eq_false_iff_eq.mpr c3
   clear c3
   by_cases c4 : a0_1 = a1_1
   ·rw [if_pos c4] at H
    have c4b0 : (a0_1 == a1_1) = true := beq_iff_eq.mpr c4
    have c4b1 : (a0_1 != a1_1) = false := bne_eq_false_iff_eq.mpr c4
    clear c4
    replace H := Option.bind_eq_some_iff.mp H
    obtain ⟨t221, A50, H⟩ := H
    replace H : (if t221 = true then (some true) else (some false)) = some r := H
    have A5 := ak A50
    clear A50
    by_cases c6 : t221 = true
    ·subst c6
     have H1 : (some true) = some r := by rw [if_pos rfl] at H; exact H
     clear H
     have H := H1
     clear H1
     obtain rfl := Option.some.inj H
     go_enter Tryd.func27, Tryd.ntmps27
     go_wp2_with (first | ((with_reducible refine gate_dst (N := 2) rfl ?_); refine box_event ?hg (N := 2) ?hd (cs := #[.int .i64 a0_0, .int .i64 a0_1, .slice A0_2 l0_2.length c0_2]) (t := 52) ?hr ?_; (case hd => rfl); (case hg => rfl); (case hr => first | (go_simp; done) | (go_simp; rfl)); intro gb219 hg w7 hbox hb; have n0_ := ak (below_step d8_1 hb); have n1_ := ak (hbox); have n2_ := ak ((d8_7 : w.heap.size ≤ gb219)); have n3_ := ak ((d8_7 : w.heap.size ≤ gb219)); clear HB; have HB := n0_; have BK219 := n1_; have GW219 := n2_; have GE219 := n3_; clear n0_ n1_ n2_ n3_ hb hbox hg) | ((with_reducible refine gate_dst (N := 3) rfl ?_); refine box_event ?hg (N := 3) ?hd (cs := #[.int .i64 a1_0, .int .i64 a1_1, .slice A1_2 l1_2.length c1_2]) (t := 52) ?hr ?_; (case hd => rfl); (case hg => rfl); (case hr => first | (go_simp; done) | (go_simp; rfl)); intro gb220 hg w8 hbox hb; have n0_ := ak (blk_below (g := gb219) (o := .cells #[.int .i64 a0_0, .int .i64 a0_1, .slice A0_2 l0_2.length c0_2] 52 (0, 0)) d8_4 hb); have n1_ := ak (below_step d8_3 hb); have n2_ := ak (hbox); have n3_ := ak ((by rw [hg]; exact (below_size d8_3) : w.heap.size ≤ gb220)); have n4_ := ak ((by rw [hg]; exact (below_size d8_3) : w.heap.size ≤ gb220)); have n5_ := ak ((by rw [hg]; exact Nat.ne_of_lt (blk_lt (g := gb219) (o := .cells #[.int .i64 a0_0, .int .i64 a0_1, .slice A0_2 l0_2.length c0_2] 52 (0, 0)) d8_4) : gb219 ≠ gb220)); have n6_ := ak ((by rw [hg]; exact Nat.ne_of_gt (blk_lt (g := gb219) (o := .cells #[.int .i64 a0_0, .int .i64 a0_1, .slice A0_2 l0_2.length c0_2] 52 (0, 0)) d8_4) : gb220 ≠ gb219)); clear BK219 HB; have BK219 := n0_; have HB := n1_; have BK220 := n2_; have GW220 := n3_; have GE220 := n4_; have NB219_220 := n5_; have NB220_219 := n6_; clear n0_ n1_ n2_ n3_ n4_ n5_ n6_ hb hbox hg; have hnb9 := NB219_220.out; have hnc9 := NB220_219.out; have hcz10_0 : w8.cell? ⟨gb219, 0, none⟩ = some (.int .i64 a0_0) := (blk_cell BK219.out 0).trans rfl; have hcz10_1 : w8.cell? ⟨gb219, 1, none⟩ = some (.int .i64 a0_1) := (blk_cell BK219.out 1).trans rfl; have hcz10_2 : w8.cell? ⟨gb219, 2, none⟩ = some (.slice A0_2 l0_2.length c0_2) := (blk_cell BK219.out 2).trans rfl; have hfz10_0 := blk_frozen BK219.out 0; have hfz10_1 := blk_frozen BK219.out 1; have hfz10_2 := blk_frozen BK219.out 2; have hcz11_0 : w8.cell? ⟨gb220, 0, none⟩ = some (.int .i64 a1_0) := (blk_cell BK220.out 0).trans rfl; have hcz11_1 : w8.cell? ⟨gb220, 1, none⟩ = some (.int .i64 a1_1) := (blk_cell BK220.out 1).trans rfl; have hcz11_2 : w8.cell? ⟨gb220, 2, none⟩ = some (.slice A1_2 l1_2.length c1_2) := (blk_cell BK220.out 2).trans rfl; have hfz11_0 := blk_frozen BK220.out 0; have hfz11_1 := blk_frozen BK220.out 1; have hfz11_2 := blk_frozen BK220.out 2) | ((with_reducible refine gate_callee (f := 21) rfl ?_); refine goesL_ (some 19) rfl rfl Tryd.func21 (by kernel_rfl) rfl #[.slice A0_2 l0_2.length c0_2, .slice A1_2 l1_2.length c1_2] rfl d8_2 ?_; (with_reducible refine (laws_eqDatumS.calls k _ _ l0_2 _ _ l1_2 true _ ?side1 ?side2 ?side3 ?side4 A5.out).mono ?_); (case side1 => repeat (first | exact (Kd.C_below HR0_2.out HB.out) | (with_reducible refine Kd.C_alloc ?_ _) | (with_reducible refine Kd.C_drewN ?_ _) | (with_reducible refine Kd.C_drew ?_))); (case side2 => exact HC0_2.out); (case side3 => repeat (first | exact (Kd.C_below HR1_2.out HB.out) | (with_reducible refine Kd.C_alloc ?_ _) | (with_reducible refine Kd.C_drewN ?_ _) | (with_reducible refine Kd.C_drew ?_))); (case side4 => exact HC1_2.out); rintro e w12 ⟨rfl, hb⟩; refine ⟨_, rfl, ?_⟩; have n0_ := ak (blk_below (g := gb219) (o := .cells #[.int .i64 a0_0, .int .i64 a0_1, .slice A0_2 l0_2.length c0_2] 52 (0, 0)) d8_4 hb); have n1_ := ak (blk_below (g := gb220) (o := .cells #[.int .i64 a1_0, .int .i64 a1_1, .slice A1_2 l1_2.length c1_2] 52 (0, 0)) (by (with_reducible repeat (first | refine blk_drewN ?_ _ | refine blk_drew ?_ | refine blk_alloc ?_ _)); exact BK220.out) hb); have n2_ := ak (below_step (by repeat (first | (with_reducible first | exact HB.out | apply below_alloc | apply pw_below_drewN | apply below_drew1 | refine below_set ?_ GE219.out | refine below_set ?_ GE220.out) | exact HB.out)) hb); clear BK219 BK220 HB; have BK219 := n0_; have BK220 := n1_; have HB := n2_; clear n0_ n1_ n2_; (try clear hb)))
     go_ret
     exact ⟨by first | rfl | (simp [errW_none, errW_some] <;> rfl) | (simp [*, errW_none, errW_some] <;> rfl), by repeat (first | (with_reducible first | exact HB.out | apply below_alloc | apply pw_below_drewN | apply below_drew1 | refine below_set ?_ GE219.out | refine below_set ?_ GE220.out) | exact HB.out)⟩
    ·replace c6 := Bool.eq_false_iff.mpr c6
     subst c6
     have H1 : (some false) = some r := by rw [if_neg (show ¬ (false = true) by decide)] at H; exact H
     clear H
     have H := H1
     clear H1
     obtain rfl := Option.some.inj H
     go_enter Tryd.func27, Tryd.ntmps27
     go_wp2_with (first | ((with_reducible refine gate_dst (N := 2) rfl ?_); refine box_event ?hg (N := 2) ?hd (cs := #[.int .i64 a0_0, .int .i64 a0_1, .slice A0_2 l0_2.length c0_2]) (t := 52) ?hr ?_; (case hd => rfl); (case hg => rfl); (case hr => first | (go_simp; done) | (go_simp; rfl)); intro gb219 hg w13 hbox hb; have n0_ := ak (below_step d8_1 hb); have n1_ := ak (hbox); have n2_ := ak ((d8_7 : w.heap.size ≤ gb219)); have n3_ := ak ((d8_7 : w.heap.size ≤ gb219)); clear HB; have HB := n0_; have BK219 := n1_; have GW219 := n2_; have GE219 := n3_; clear n0_ n1_ n2_ n3_ hb hbox hg) | ((with_reducible refine gate_dst (N := 3) rfl ?_); refine box_event ?hg (N := 3) ?hd (cs := #[.int .i64 a1_0, .int .i64 a1_1, .slice A1_2 l1_2.length c1_2]) (t := 52) ?hr ?_; (case hd => rfl); (case hg => rfl); (case hr => first | (go_simp; done) | (go_simp; rfl)); intro gb220 hg w14 hbox hb; have n0_ := ak (blk_below (g := gb219) (o := .cells #[.int .i64 a0_0, .int .i64 a0_1, .slice A0_2 l0_2.length c0_2] 52 (0, 0)) d8_4 hb); have n1_ := ak (below_step d8_3 hb); have n2_ := ak (hbox); have n3_ := ak ((by rw [hg]; exact (below_size d8_3) : w.heap.size ≤ gb220)); have n4_ := ak ((by rw [hg]; exact (below_size d8_3) : w.heap.size ≤ gb220)); have n5_ := ak ((by rw [hg]; exact Nat.ne_of_lt (blk_lt (g := gb219) (o := .cells #[.int .i64 a0_0, .int .i64 a0_1, .slice A0_2 l0_2.length c0_2] 52 (0, 0)) d8_4) : gb219 ≠ gb220)); have n6_ := ak ((by rw [hg]; exact Nat.ne_of_gt (blk_lt (g := gb219) (o := .cells #[.int .i64 a0_0, .int .i64 a0_1, .slice A0_2 l0_2.length c0_2] 52 (0, 0)) d8_4) : gb220 ≠ gb219)); clear BK219 HB; have BK219 := n0_; have HB := n1_; have BK220 := n2_; have GW220 := n3_; have GE220 := n4_; have NB219_220 := n5_; have NB220_219 := n6_; clear n0_ n1_ n2_ n3_ n4_ n5_ n6_ hb hbox hg; have hnb15 := NB219_220.out; have hnc15 := NB220_219.out; have hcz16_0 : w14.cell? ⟨gb219, 0, none⟩ = some (.int .i64 a0_0) := (blk_cell BK219.out 0).trans rfl; have hcz16_1 : w14.cell? ⟨gb219, 1, none⟩ = some (.int .i64 a0_1) := (blk_cell BK219.out 1).trans rfl; have hcz16_2 : w14.cell? ⟨gb219, 2, none⟩ = some (.slice A0_2 l0_2.length c0_2) := (blk_cell BK219.out 2).trans rfl; have hfz16_0 := blk_frozen BK219.out 0; have hfz16_1 := blk_frozen BK219.out 1; have hfz16_2 := blk_frozen BK219.out 2; have hcz17_0 : w14.cell? ⟨gb220, 0, none⟩ = some (.int .i64 a1_0) := (blk_cell BK220.out 0).trans rfl; have hcz17_1 : w14.cell? ⟨gb220, 1, none⟩ = some (.int .i64 a1_1) := (blk_cell BK220.out 1).trans rfl; have hcz17_2 : w14.cell? ⟨gb220, 2, none⟩ = some (.slice A1_2 l1_2.length c1_2) := (blk_cell BK220.out 2).trans rfl; have hfz17_0 := blk_frozen BK220.out 0; have hfz17_1 := blk_frozen BK220.out 1; have hfz17_2 := blk_frozen BK220.out 2) | ((with_reducible refine gate_callee (f := 21) rfl ?_); refine goesL_ (some 19) rfl rfl Tryd.func21 (by kernel_rfl) rfl #[.slice A0_2 l0_2.length c0_2, .slice A1_2 l1_2.length c1_2] rfl d8_2 ?_; (with_reducible refine (laws_eqDatumS.calls k _ _ l0_2 _ _ l1_2 false _ ?side1 ?side2 ?side3 ?side4 A5.out).mono ?_); (case side1 => repeat (first | exact (Kd.C_below HR0_2.out HB.out) | (with_reducible refine Kd.C_alloc ?_ _) | (with_reducible refine Kd.C_drewN ?_ _) | (with_reducible refine Kd.C_drew ?_))); (case side2 => exact HC0_2.out); (case side3 => repeat (first | exact (Kd.C_below HR1_2.out HB.out) | (with_reducible refine Kd.C_alloc ?_ _) | (with_reducible refine Kd.C_drewN ?_ _) | (with_reducible refine Kd.C_drew ?_))); (case side4 => exact HC1_2.out); rintro e w18 ⟨rfl, hb⟩; refine ⟨_, rfl, ?_⟩; have n0_ := ak (blk_below (g := gb219) (o := .cells #[.int .i64 a0_0, .int .i64 a0_1, .slice A0_2 l0_2.length c0_2] 52 (0, 0)) d8_4 hb); have n1_ := ak (blk_below (g := gb220) (o := .cells #[.int .i64 a1_0, .int .i64 a1_1, .slice A1_2 l1_2.length c1_2] 52 (0, 0)) (by (with_reducible repeat (first | refine blk_drewN ?_ _ | refine blk_drew ?_ | refine blk_alloc ?_ _)); exact BK220.out) hb); have n2_ := ak (below_step (by repeat (first | (with_reducible first | exact HB.out | apply below_alloc | apply pw_below_drewN | apply below_drew1 | refine below_set ?_ GE219.out | refine below_set ?_ GE220.out) | exact HB.out)) hb); clear BK219 BK220 HB; have BK219 := n0_; have BK220 := n1_; have HB := n2_; clear n0_ n1_ n2_; (try clear hb)))
     go_ret
     exact ⟨by first | rfl | (simp [errW_none, errW_some] <;> rfl) | (simp [*, errW_none, errW_some] <;> rfl), by repeat (first | (with_reducible first | exact HB.out | apply below_alloc | apply pw_below_drewN | apply below_drew1 | refine below_set ?_ GE219.out | refine below_set ?_ GE220.out) | exact HB.out)⟩
   ·rw [if_neg c4] at H
    have c4b0 : (a0_1 == a1_1) = false := beq_eq_false_iff_ne.mpr c4
    have c4b1 : (a0_1 != a1_1) = true := bne_iff_ne.mpr c4
    obtain rfl := Option.some.inj H
    go_enter Tryd.func27, Tryd.ntmps27
    go_wp2_with (first | ((with_reducible refine gate_dst (N := 2) rfl ?_); refine box_event ?hg (N := 2) ?hd (cs := #[.int .i64 a0_0, .int .i64 a0_1, .slice A0_2 l0_2.length c0_2]) (t := 52) ?hr ?_; (case hd => rfl); (case hg => rfl); (case hr => first | (go_simp; done) | (go_simp; rfl)); intro gb219 hg w19 hbox hb; have n0_ := ak (below_step d8_1 hb); have n1_ := ak (hbox); have n2_ := ak ((d8_7 : w.heap.size ≤ gb219)); have n3_ := ak ((d8_7 : w.heap.size ≤ gb219)); clear HB; have HB := n0_; have BK219 := n1_; have GW219 := n2_; have GE219 := n3_; clear n0_ n1_ n2_ n3_ hb hbox hg) | ((with_reducible refine gate_dst (N := 3) rfl ?_); refine box_event ?hg (N := 3) ?hd (cs := #[.int .i64 a1_0, .int .i64 a1_1, .slice A1_2 l1_2.length c1_2]) (t := 52) ?hr ?_; (case hd => rfl); (case hg => rfl); (case hr => first | (go_simp; done) | (go_simp; rfl)); intro gb220 hg w20 hbox hb; have n0_ := ak (blk_below (g := gb219) (o := .cells #[.int .i64 a0_0, .int .i64 a0_1, .slice A0_2 l0_2.length c0_2] 52 (0, 0)) d8_4 hb); have n1_ := ak (below_step d8_3 hb); have n2_ := ak (hbox); have n3_ := ak ((by rw [hg]; exact (below_size d8_3) : w.heap.size ≤ gb220)); have n4_ := ak ((by rw [hg]; exact (below_size d8_3) : w.heap.size ≤ gb220)); have n5_ := ak ((by rw [hg]; exact Nat.ne_of_lt (blk_lt (g := gb219) (o := .cells #[.int .i64 a0_0, .int .i64 a0_1, .slice A0_2 l0_2.length c0_2] 52 (0, 0)) d8_4) : gb219 ≠ gb220)); have n6_ := ak ((by rw [hg]; exact Nat.ne_of_gt (blk_lt (g := gb219) (o := .cells #[.int .i64 a0_0, .int .i64 a0_1, .slice A0_2 l0_2.length c0_2] 52 (0, 0)) d8_4) : gb220 ≠ gb219)); clear BK219 HB; have BK219 := n0_; have HB := n1_; have BK220 := n2_; have GW220 := n3_; have GE220 := n4_; have NB219_220 := n5_; have NB220_219 := n6_; clear n0_ n1_ n2_ n3_ n4_ n5_ n6_ hb hbox hg; have hnb21 := NB219_220.out; have hnc21 := NB220_219.out; have hcz22_0 : w20.cell? ⟨gb219, 0, none⟩ = some (.int .i64 a0_0) := (blk_cell BK219.out 0).trans rfl; have hcz22_1 : w20.cell? ⟨gb219, 1, none⟩ = some (.int .i64 a0_1) := (blk_cell BK219.out 1).trans rfl; have hcz22_2 : w20.cell? ⟨gb219, 2, none⟩ = some (.slice A0_2 l0_2.length c0_2) := (blk_cell BK219.out 2).trans rfl; have hfz22_0 := blk_frozen BK219.out 0; have hfz22_1 := blk_frozen BK219.out 1; have hfz22_2 := blk_frozen BK219.out 2; have hcz23_0 : w20.cell? ⟨gb220, 0, none⟩ = some (.int .i64 a1_0) := (blk_cell BK220.out 0).trans rfl; have hcz23_1 : w20.cell? ⟨gb220, 1, none⟩ = some (.int .i64 a1_1) := (blk_cell BK220.out 1).trans rfl; have hcz23_2 : w20.cell? ⟨gb220, 2, none⟩ = some (.slice A1_2 l1_2.length c1_2) := (blk_cell BK220.out 2).trans rfl; have hfz23_0 := blk_frozen BK220.out 0; have hfz23_1 := blk_frozen BK220.out 1; have hfz23_2 := blk_frozen BK220.out 2))
    go_ret
    exact ⟨by first | rfl | (simp [errW_none, errW_some] <;> rfl) | (simp [*, errW_none, errW_some] <;> rfl), by repeat (first | (with_reducible first | exact HB.out | apply below_alloc | apply pw_below_drewN | apply below_drew1 | refine below_set ?_ GE219.out | refine below_set ?_ GE220.out) | exact HB.out)⟩
  ·rw [if_neg c3] at H
   have c3b0 : (a0_0 == a1_0) = false := beq_eq_false_iff_ne.mpr c3
   have c3b1 : (a0_0 != a1_0) = true := bne_iff_ne.mpr c3
   obtain rfl := Option.some.inj H
   go_enter Tryd.func27, Tryd.ntmps27
   go_wp2_with (first | ((with_reducible refine gate_dst (N := 2) rfl ?_); refine box_event ?hg (N := 2) ?hd (cs := #[.int .i64 a0_0, .int .i64 a0_1, .slice A0_2 l0_2.length c0_2]) (t := 52) ?hr ?_; (case hd => rfl); (case hg => rfl); (case hr => first | (go_simp; done) | (go_simp; rfl)); intro gb219 hg w24 hbox hb; have n0_ := ak (below_step d8_1 hb); have n1_ := ak (hbox); have n2_ := ak ((d8_7 : w.heap.size ≤ gb219)); have n3_ := ak ((d8_7 : w.heap.size ≤ gb219)); clear HB; have HB := n0_; have BK219 := n1_; have GW219 := n2_; have GE219 := n3_; clear n0_ n1_ n2_ n3_ hb hbox hg) | ((with_reducible refine gate_dst (N := 3) rfl ?_); refine box_event ?hg (N := 3) ?hd (cs := #[.int .i64 a1_0, .int .i64 a1_1, .slice A1_2 l1_2.length c1_2]) (t := 52) ?hr ?_; (case hd => rfl); (case hg => rfl); (case hr => first | (go_simp; done) | (go_simp; rfl)); intro gb220 hg w25 hbox hb; have n0_ := ak (blk_below (g := gb219) (o := .cells #[.int .i64 a0_0, .int .i64 a0_1, .slice A0_2 l0_2.length c0_2] 52 (0, 0)) d8_4 hb); have n1_ := ak (below_step d8_3 hb); have n2_ := ak (hbox); have n3_ := ak ((by rw [hg]; exact (below_size d8_3) : w.heap.size ≤ gb220)); have n4_ := ak ((by rw [hg]; exact (below_size d8_3) : w.heap.size ≤ gb220)); have n5_ := ak ((by rw [hg]; exact Nat.ne_of_lt (blk_lt (g := gb219) (o := .cells #[.int .i64 a0_0, .int .i64 a0_1, .slice A0_2 l0_2.length c0_2] 52 (0, 0)) d8_4) : gb219 ≠ gb220)); have n6_ := ak ((by rw [hg]; exact Nat.ne_of_gt (blk_lt (g := gb219) (o := .cells #[.int .i64 a0_0, .int .i64 a0_1, .slice A0_2 l0_2.length c0_2] 52 (0, 0)) d8_4) : gb220 ≠ gb219)); clear BK219 HB; have BK219 := n0_; have HB := n1_; have BK220 := n2_; have GW220 := n3_; have GE220 := n4_; have NB219_220 := n5_; have NB220_219 := n6_; clear n0_ n1_ n2_ n3_ n4_ n5_ n6_ hb hbox hg; have hnb26 := NB219_220.out; have hnc26 := NB220_219.out; have hcz27_0 : w25.cell? ⟨gb219, 0, none⟩ = some (.int .i64 a0_0) := (blk_cell BK219.out 0).trans rfl; have hcz27_1 : w25.cell? ⟨gb219, 1, none⟩ = some (.int .i64 a0_1) := (blk_cell BK219.out 1).trans rfl; have hcz27_2 : w25.cell? ⟨gb219, 2, none⟩ = some (.slice A0_2 l0_2.length c0_2) := (blk_cell BK219.out 2).trans rfl; have hfz27_0 := blk_frozen BK219.out 0; have hfz27_1 := blk_frozen BK219.out 1; have hfz27_2 := blk_frozen BK219.out 2; have hcz28_0 : w25.cell? ⟨gb220, 0, none⟩ = some (.int .i64 a1_0) := (blk_cell BK220.out 0).trans rfl; have hcz28_1 : w25.cell? ⟨gb220, 1, none⟩ = some (.int .i64 a1_1) := (blk_cell BK220.out 1).trans rfl; have hcz28_2 : w25.cell? ⟨gb220, 2, none⟩ = some (.slice A1_2 l1_2.length c1_2) := (blk_cell BK220.out 2).trans rfl; have hfz28_0 := blk_frozen BK220.out 0; have hfz28_1 := blk_frozen BK220.out 1; have hfz28_2 := blk_frozen BK220.out 2))
   go_ret
   exact ⟨by first | rfl | (simp [errW_none, errW_some] <;> rfl) | (simp [*, errW_none, errW_some] <;> rfl), by repeat (first | (with_reducible first | exact HB.out | apply below_alloc | apply pw_below_drewN | apply below_drew1 | refine below_set ?_ GE219.out | refine below_set ?_ GE220.out) | exact HB.out)⟩

/-! ### laws_markDataResult: function 28 -/
def laws_markDataResult.f (k : Nat) (a0_0 : Int) (a0_1 : Int) (l0_2 : List (S99)) (a1 : Int) : Option (Int × (List (S99))) := (laws_markDatumS.f k l0_2 a1).bind fun bt223 => (some (bt223.1, bt223.2))
theorem laws_markDataResult.mono : ∀ a0 a1 a2 a3 k, LeO (laws_markDataResult.f k a0 a1 a2 a3) (laws_markDataResult.f (k + 1) a0 a1 a2 a3) := by
  intro a0 a1 a2 a3 k
  unfold laws_markDataResult.f
  repeat' first
      | (with_reducible exact laws_markDatumS.mono _ _ _)
      | (with_reducible exact LeO.refl _)
      | (with_reducible exact LeO.none _)
      | (with_reducible refine LeO.ite ?_ ?_)
      | (with_reducible refine LeO.bind ?_ (fun _ => ?_))
      | exact laws_markDatumS.mono _ _ _
      | exact LeO.none _
      | refine LeO.ite ?_ ?_
      | refine LeO.bind ?_ (fun _ => ?_)
set_option maxHeartbeats 8000000 in
set_option maxRecDepth 100000 in
theorem laws_markDataResult.calls (k : Nat) (a0_0 : Int) (a0_1 : Int) (P0_2_ : Nat → Prop) (u9000_ : Value) (l0_2 : List (S99)) (a1 : Int) (r1 : Int) (r2 : List (S99)) (w0 w : World) (hB : Below w0.heap.size w0 w) (ho0_2 : Kd.R k99 99 w w0.heap.size P0_2_ u9000_ l0_2) (h : laws_markDataResult.f k a0_0 a0_1 l0_2 a1 = some (r1, r2)) :
    Calls Tryd.prog 28 #[.agg #[.int .i64 a0_0, .int .i64 a0_1, u9000_], .int .i64 a1] w fun e w' => e = .returned (.int .i64 r1) ∧ Kd.R k99 99 w' w0.heap.size (fun k_ => (P0_2_ k_ ∨ w.heap.size ≤ k_)) u9000_ r2 ∧ Below w0.heap.size w0 w' ∧ Kept w w' (fun k_ => P0_2_ k_) := by
  have hu52 := Tryd.underlying52
  have HO0_2 := ak (show Kd.R k99 99 w w0.heap.size (fun k_ => (P0_2_ k_ ∨ w.heap.size ≤ k_)) u9000_ l0_2 from Kd.R_mono ho0_2 (fun k_ hk => (.inl hk)))
  have HK := ak (Kept.refl w (fun k_ => P0_2_ k_))
  have HW0 := ak hB.size
  have HB := ak hB
  clear hB
  have H : ((laws_markDatumS.f k l0_2 a1).bind fun bt223 => (some (bt223.1, bt223.2))) = some (r1, r2) := h
  clear h
  replace H := Option.bind_eq_some_iff.mp H
  obtain ⟨⟨t223, t224⟩, A30, H⟩ := H
  replace H : (some (t223, t224)) = some (r1, r2) := H
  have A3 := ak A30
  clear A30
  simp only [Option.some.injEq, Prod.mk.injEq] at H
  obtain ⟨rfl, rfl⟩ := H
  obtain ⟨Ao4, co4, eo4⟩ := Kd.R_slice HO0_2.out
  subst eo4
  go_enter Tryd.func28, Tryd.ntmps28
  go_wp2_with (first | ((with_reducible refine gate_dst (N := 2) rfl ?_); refine box_event ?hg (N := 2) ?hd (cs := #[.int .i64 a0_0, .int .i64 a0_1, .slice Ao4 l0_2.length co4]) (t := 52) ?hr ?_; (case hd => rfl); (case hg => rfl); (case hr => first | (go_simp; done) | (go_simp; rfl)); intro gb222 hg w5 hbox hb; have n0_ := ak (Kd.R_below (by (with_reducible repeat (first | apply Kd.R_alloc | apply Kd.R_drewN | apply Kd.R_drew)); exact HO0_2.out) hb); have n1_ := ak (Kept.below (S := (fun k_ => P0_2_ k_)) (by repeat (first | (with_reducible first | exact HK.out | apply Kept.alloc | apply Kept.drewN | apply Kept.drew) | exact HK.out)) hb); have n2_ := ak (below_step d8_1 hb); have n3_ := ak (hbox); have n4_ := ak ((by rw [hg]; exact (by first | exact HK.out.1 | exact (show Kept w _ (fun k_ => P0_2_ k_) from by repeat (first | (with_reducible first | exact HK.out | apply Kept.alloc | apply Kept.drewN | apply Kept.drew) | exact HK.out)).1) : w.heap.size ≤ gb222)); have n5_ := ak ((d8_7 : w0.heap.size ≤ gb222)); clear HO0_2 HK HB; have HO0_2 := n0_; have HK := n1_; have HB := n2_; have BK222 := n3_; have GW222 := n4_; have GE222 := n5_; clear n0_ n1_ n2_ n3_ n4_ n5_ hb hbox hg; have hcz6_0 : w5.cell? ⟨gb222, 0, none⟩ = some (.int .i64 a0_0) := (blk_cell BK222.out 0).trans rfl; have hcz6_1 : w5.cell? ⟨gb222, 1, none⟩ = some (.int .i64 a0_1) := (blk_cell BK222.out 1).trans rfl; have hcz6_2 : w5.cell? ⟨gb222, 2, none⟩ = some (.slice Ao4 l0_2.length co4) := (blk_cell BK222.out 2).trans rfl; have hfz6_0 := blk_frozen BK222.out 0; have hfz6_1 := blk_frozen BK222.out 1; have hfz6_2 := blk_frozen BK222.out 2) | ((with_reducible refine gate_callee (f := 22) rfl ?_); refine goesL_ (some 8) rfl rfl Tryd.func22 (by kernel_rfl) rfl #[.slice Ao4 l0_2.length co4, .int .i64 a1] rfl d8_2 ?_; (with_reducible refine (laws_markDatumS.calls k (fun k_ => some k_ = (.slice Ao4 l0_2.length co4 : Value).ownBlock) (.slice Ao4 l0_2.length co4) l0_2 a1 t223 t224 w0 _ ?side1 ?side2 A3.out).mono ?_); (case side1 => repeat (first | (with_reducible first | exact HB.out | apply below_alloc | apply pw_below_drewN | apply below_drew1 | refine below_set ?_ GE222.out) | exact HB.out)); (case side2 => exact Kd.R_tight rfl HO0_2.out); rintro e w7 ⟨rfl, hy0, hb, hkp⟩; refine ⟨_, rfl, ?_⟩; have n0_ := ak (Kd.R_reok rfl hy0 (fun k_ e_ => HO0_2.out.1 k_ e_)); have n1_ := ak (blk_kept (by (with_reducible repeat (first | refine blk_drewN ?_ _ | refine blk_drew ?_ | refine blk_alloc ?_ _)); exact BK222.out) hkp (fun hs_ => (fun e_ => (Kd.R_ne HO0_2.out BK222.out (by decide)) e_) hs_)); have n2_ := ak (Kept.then_ (S := (fun k_ => P0_2_ k_)) (by repeat (first | (with_reducible first | exact HK.out | apply Kept.alloc | apply Kept.drewN | apply Kept.drew | refine Kept.setCell ?_ (.inr GW222.out) _) | exact HK.out)) hkp (fun k_ hs_ => (fun e_ => (HO0_2.out.1 k_ e_.symm)) hs_)); have n3_ := ak (hb); clear HO0_2 BK222 HK HB; have HO0_2 := n0_; have BK222 := n1_; have HK := n2_; have HB := n3_; clear n0_ n1_ n2_ n3_; (try clear hb); (try clear hkp); (try clear hy0)))
  go_ret
  exact ⟨by first | rfl | (simp [errW_none, errW_some] <;> rfl) | (simp [*, errW_none, errW_some] <;> rfl), by (with_reducible repeat (first | apply Kd.R_alloc | apply Kd.R_drewN | apply Kd.R_drew)); exact HO0_2.out, by repeat (first | (with_reducible first | exact HB.out | apply below_alloc | apply pw_below_drewN | apply below_drew1 | refine below_set ?_ GE222.out) | exact HB.out), by repeat (first | (with_reducible first | exact HK.out | apply Kept.alloc | apply Kept.drewN | apply Kept.drew | refine Kept.setCell ?_ (.inr GW222.out) _) | exact HK.out)⟩

end Go.Proofs.YtaeeoljihmndfaaDoor.B
