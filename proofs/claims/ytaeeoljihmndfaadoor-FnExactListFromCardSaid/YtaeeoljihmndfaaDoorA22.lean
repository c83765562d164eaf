/- Walks of the program's functions: each Go function's answer as a plain Lean function, and that the call comes to it. Written by a program. Conditions: those in each theorem's own head. -/
import Derived.Test.YtaeeoljihmndfaaDoorA0
import Derived.Test.YtaeeoljihmndfaaDoorA3
namespace Go.Proofs.YtaeeoljihmndfaaDoor.A
open Go.RowKit Go.Proofs.YtaeeoljihmndfaaDoorW.PrintWords Go.Proofs.YtaeeoljihmndfaaDoorW.PrintLast Go.Proofs.YtaeeoljihmndfaaDoorW.PrintMore
attribute [local go_sem] max2_int min2_int max_two min_two max_three min_three max_four min_four   -- for this text's walks alone
set_option linter.unusedVariables false
set_option linter.unusedSimpArgs false

theorem d22_1 {p : Prop} (h : p := by (with_reducible repeat (first | refine blk_drewN ?_ _ | refine blk_drew ?_ | refine blk_alloc ?_ _)); exact BK515.out) : p := h
theorem d22_2 {p : Prop} (h : p := by (with_reducible repeat (first | refine blk_drewN ?_ _ | refine blk_drew ?_ | refine blk_alloc ?_ _)); refine blk_far ?_ NB515_520.out _; (with_reducible repeat (first | refine blk_drewN ?_ _ | refine blk_drew ?_ | refine blk_alloc ?_ _)); refine blk_far ?_ NB515_520.out _; (with_reducible repeat (first | refine blk_drewN ?_ _ | refine blk_drew ?_ | refine blk_alloc ?_ _)); refine blk_far ?_ NB515_520.out _; (with_reducible repeat (first | refine blk_drewN ?_ _ | refine blk_drew ?_ | refine blk_alloc ?_ _)); refine blk_far ?_ NB515_520.out _; (with_reducible repeat (first | refine blk_drewN ?_ _ | refine blk_drew ?_ | refine blk_alloc ?_ _)); refine blk_far ?_ NB515_520.out _; (with_reducible repeat (first | refine blk_drewN ?_ _ | refine blk_drew ?_ | refine blk_alloc ?_ _)); refine blk_far ?_ NB515_520.out _; (with_reducible repeat (first | refine blk_drewN ?_ _ | refine blk_drew ?_ | refine blk_alloc ?_ _)); exact BK515.out) : p := h
theorem d22_3 {p : Prop} (h : p := by repeat (first | (with_reducible first | exact HB.out | apply below_alloc | apply pw_below_drewN | apply below_drew1) | exact HB.out)) : p := h
theorem d22_4 {p : Prop} (h : p := by (try simp only [List.map_toArray, List.map_cons, List.map_nil]); first | done | rfl | (simp only [List.length_drop, List.length_take]; rfl)) : p := h
theorem d22_5 {p : Prop} (h : p := by (with_reducible repeat (first | refine blk_drewN ?_ _ | refine blk_drew ?_ | refine blk_alloc ?_ _)); exact BK516.out) : p := h
theorem d22_6 {p : Prop} (h : p := by repeat (first | (with_reducible first | exact HB.out | apply below_alloc | apply pw_below_drewN | apply below_drew1 | refine below_set ?_ GE515.out | refine below_set ?_ GE516.out | refine below_set ?_ GE518.out) | exact HB.out)) : p := h
theorem d22_7 {p : Prop} (h : p := by (with_reducible repeat (first | refine blk_drewN ?_ _ | refine blk_drew ?_ | refine blk_alloc ?_ _)); refine blk_far ?_ NB516_520.out _; (with_reducible repeat (first | refine blk_drewN ?_ _ | refine blk_drew ?_ | refine blk_alloc ?_ _)); refine blk_far ?_ NB516_520.out _; (with_reducible repeat (first | refine blk_drewN ?_ _ | refine blk_drew ?_ | refine blk_alloc ?_ _)); refine blk_far ?_ NB516_520.out _; (with_reducible repeat (first | refine blk_drewN ?_ _ | refine blk_drew ?_ | refine blk_alloc ?_ _)); refine blk_far ?_ NB516_520.out _; (with_reducible repeat (first | refine blk_drewN ?_ _ | refine blk_drew ?_ | refine blk_alloc ?_ _)); refine blk_far ?_ NB516_520.out _; (with_reducible repeat (first | refine blk_drewN ?_ _ | refine blk_drew ?_ | refine blk_alloc ?_ _)); refine blk_far ?_ NB516_520.out _; (with_reducible repeat (first | refine blk_drewN ?_ _ | refine blk_drew ?_ | refine blk_alloc ?_ _)); exact BK516.out) : p := h
theorem d22_8 {p : Prop} (h : p := by (with_reducible repeat (first | refine blk_drewN ?_ _ | refine blk_drew ?_ | refine blk_alloc ?_ _)); refine blk_far ?_ NB518_520.out _; (with_reducible repeat (first | refine blk_drewN ?_ _ | refine blk_drew ?_ | refine blk_alloc ?_ _)); refine blk_far ?_ NB518_520.out _; (with_reducible repeat (first | refine blk_drewN ?_ _ | refine blk_drew ?_ | refine blk_alloc ?_ _)); refine blk_far ?_ NB518_520.out _; (with_reducible repeat (first | refine blk_drewN ?_ _ | refine blk_drew ?_ | refine blk_alloc ?_ _)); refine blk_far ?_ NB518_520.out _; (with_reducible repeat (first | refine blk_drewN ?_ _ | refine blk_drew ?_ | refine blk_alloc ?_ _)); refine blk_far ?_ NB518_520.out _; (with_reducible repeat (first | refine blk_drewN ?_ _ | refine blk_drew ?_ | refine blk_alloc ?_ _)); refine blk_far ?_ NB518_520.out _; (with_reducible repeat (first | refine blk_drewN ?_ _ | refine blk_drew ?_ | refine blk_alloc ?_ _)); exact BK518.out) : p := h
theorem d22_9 {p : Prop} (h : p := by repeat (first | (with_reducible first | exact HB.out | apply below_alloc | apply pw_below_drewN | apply below_drew1 | refine below_set ?_ GE515.out) | exact HB.out)) : p := h
theorem d22_10 {p : Prop} (h : p := by first | (with_reducible assumption) | assumption) : p := h
theorem d22_11 {p : Prop} (h : p := by repeat (first | (with_reducible first | exact HB.out | apply below_alloc | apply pw_below_drewN | apply below_drew1 | refine below_set ?_ GE515.out | refine below_set ?_ GE516.out) | exact HB.out)) : p := h
theorem d22_12 {p : Prop} (h : p := by repeat (first | (with_reducible first | exact HB.out | apply below_alloc | apply pw_below_drewN | apply below_drew1 | refine below_set ?_ GE515.out | refine below_set ?_ GE516.out | refine below_set ?_ GE518.out | refine below_set ?_ GE520.out) | exact HB.out)) : p := h
theorem d22_13 {p : Prop} (h : p := by (with_reducible repeat (first | refine blk_drewN ?_ _ | refine blk_drew ?_ | refine blk_alloc ?_ _)); exact BK524.out) : p := h
theorem d22_14 {p : Prop} (h : p := by repeat (first | (with_reducible first | exact HB.out | apply below_alloc | apply pw_below_drewN | apply below_drew1 | refine below_set ?_ GE497.out) | exact HB.out)) : p := h
theorem d22_15 {p : Prop} (h : p := by (with_reducible repeat (first | refine blk_drewN ?_ _ | refine blk_drew ?_ | refine blk_alloc ?_ _)); exact BK518.out) : p := h
theorem d22_16 {p : Prop} (h : p := by (with_reducible repeat (first | refine blk_drewN ?_ _ | refine blk_drew ?_ | refine blk_alloc ?_ _)); exact BK497.out) : p := h
theorem d22_17 {p : Prop} (h : p := by first | rfl | (simp; done) | (simp [*]; done) | (simp [ne_nil_b, eq_nil_b]; done)) : p := h
theorem d22_18 {p : Prop} (h : p := by repeat (first | (with_reducible first | exact HB.out | apply below_alloc | apply pw_below_drewN | apply below_drew1 | refine below_set ?_ GE524.out | refine below_set ?_ GE525.out) | exact HB.out)) : p := h
theorem d22_19 {p : Prop} (h : p := by (with_reducible repeat (first | refine blk_drewN ?_ _ | refine blk_drew ?_ | refine blk_alloc ?_ _)); exact BK525.out) : p := h
theorem d22_20 {p : Prop} (h : p := by repeat (first | (with_reducible first | exact HB.out | apply below_alloc | apply pw_below_drewN | apply below_drew1 | refine below_set ?_ GE524.out) | exact HB.out)) : p := h
theorem d22_21 {p : Prop} (h : p := by rw [hg]; exact (below_size d22_3)) : p := h

/-! ### laws_szPair: function 72 -/
def laws_szPair.f (a0_0 : Int) (a0_1 : Int) (a0_2 : ByteArray) (a0_3 : Int) (a0_4 : Int) (a0_5 : ByteArray) (a1 : Int) : Option (Int) := (laws_szValue.f a0_0 a0_1 a0_2 a1).bind fun t498 => (if t498 < 0 then (some (-1)) else ((laws_szValue.f a0_3 a0_4 a0_5 t498).bind fun t499 => (if t499 < 0 then (some (-1)) else (some t499))))
set_option maxHeartbeats 8000000 in
set_option maxRecDepth 100000 in
theorem laws_szPair.calls (a0_0 : Int) (a0_1 : Int) (a0_2 : ByteArray) (a0_3 : Int) (a0_4 : Int) (a0_5 : ByteArray) (a1 : Int) (r : Int) (w : World) (h : laws_szPair.f a0_0 a0_1 a0_2 a0_3 a0_4 a0_5 a1 = some r) :
    Calls Tryd.prog 72 #[.agg #[.int .i64 a0_0, .int .i64 a0_1, .string a0_2, .int .i64 a0_3, .int .i64 a0_4, .string a0_5], .int .i64 a1] w fun e w' => e = .returned (.int .i64 r) ∧ Below w.heap.size w w' := by
  have hu108 := Tryd.underlying108
  have hu24 := Tryd.underlying24
  have HB := ak (Below.refl w.heap.size w)
  have H : ((laws_szValue.f a0_0 a0_1 a0_2 a1).bind fun t498 => (if t498 < 0 then (some (-1)) else ((laws_szValue.f a0_3 a0_4 a0_5 t498).bind fun t499 => (if t499 < 0 then (some (-1)) else (some t499))))) = some r := h
  clear h
  replace H := Option.bind_eq_some_iff.mp H
  obtain ⟨t498, A30, H⟩ := H
  replace H : (if t498 < 0 then (some (-1)) else ((laws_szValue.f a0_3 a0_4 a0_5 t498).bind fun t499 => (if t499 < 0 then (some (-1)) else (some t499)))) = some r := H
  have A3 := ak A30
  clear A30
  by_cases c4 : t498 < 0
  ·rw [if_pos c4] at H
   have c4b0 : decide (t498 < 0) = true := decide_eq_true c4
   clear c4
   obtain rfl := Option.some.inj H
   go_enter Tryd.func72, Tryd.ntmps72
   go_wp2_with (first | ((with_reducible refine gate_dst (N := 2) rfl ?_); refine box_event ?hg (N := 2) ?hd (cs := #[.int .i64 a0_0, .int .i64 a0_1, .string a0_2, .int .i64 a0_3, .int .i64 a0_4, .string a0_5]) (t := 108) ?hr ?_; (case hd => rfl); (case hg => rfl); (case hr => first | (go_simp; done) | (go_simp; rfl)); intro gb497 hg w5 hbox hb; have n0_ := ak (below_step d22_3 hb); have n1_ := ak (hbox); have n2_ := ak ((d22_21 : w.heap.size ≤ gb497)); have n3_ := ak ((d22_21 : w.heap.size ≤ gb497)); clear HB; have HB := n0_; have BK497 := n1_; have GW497 := n2_; have GE497 := n3_; clear n0_ n1_ n2_ n3_ hb hbox hg; have hcz6_0 : w5.cell? ⟨gb497, 0, none⟩ = some (.int .i64 a0_0) := (blk_cell BK497.out 0).trans rfl; have hcz6_1 : w5.cell? ⟨gb497, 1, none⟩ = some (.int .i64 a0_1) := (blk_cell BK497.out 1).trans rfl; have hcz6_2 : w5.cell? ⟨gb497, 2, none⟩ = some (.string a0_2) := (blk_cell BK497.out 2).trans rfl; have hcz6_3 : w5.cell? ⟨gb497, 3, none⟩ = some (.int .i64 a0_3) := (blk_cell BK497.out 3).trans rfl; have hcz6_4 : w5.cell? ⟨gb497, 4, none⟩ = some (.int .i64 a0_4) := (blk_cell BK497.out 4).trans rfl; have hcz6_5 : w5.cell? ⟨gb497, 5, none⟩ = some (.string a0_5) := (blk_cell BK497.out 5).trans rfl; have hfz6_0 := blk_frozen BK497.out 0; have hfz6_1 := blk_frozen BK497.out 1; have hfz6_2 := blk_frozen BK497.out 2; have hfz6_3 := blk_frozen BK497.out 3; have hfz6_4 := blk_frozen BK497.out 4; have hfz6_5 := blk_frozen BK497.out 5) | ((with_reducible refine gate_callee (f := 31) rfl ?_); refine goesL_ (some 8) rfl rfl Tryd.func31 (by kernel_rfl) rfl #[.agg #[.int .i64 a0_0, .int .i64 a0_1, .string a0_2], .int .i64 a1] rfl d22_4 ?_; (with_reducible refine (laws_szValue.calls a0_0 a0_1 a0_2 a1 t498 _ A3.out).mono ?_); rintro e w7 ⟨rfl, hb⟩; refine ⟨_, rfl, ?_⟩; have n0_ := ak (blk_below (g := gb497) (o := .cells #[.int .i64 a0_0, .int .i64 a0_1, .string a0_2, .int .i64 a0_3, .int .i64 a0_4, .string a0_5] 108 (0, 0)) d22_16 hb); have n1_ := ak (below_step d22_14 hb); clear BK497 HB; have BK497 := n0_; have HB := n1_; clear n0_ n1_; (try clear hb)))
   go_ret
   exact ⟨by first | rfl | (simp [errW_none, errW_some] <;> rfl) | (simp [*, errW_none, errW_some] <;> rfl), by repeat (first | (with_reducible first | exact HB.out | apply below_alloc | apply pw_below_drewN | apply below_drew1 | refine below_set ?_ GE497.out) | exact HB.out)⟩
  ·rw [if_neg c4] at H
   have c4b0 : decide (t498 < 0) = false := decide_eq_false c4
   clear c4
   replace H := Option.bind_eq_some_iff.mp H
   obtain ⟨t499, A80, H⟩ := H
   replace H : (if t499 < 0 then (some (-1)) else (some t499)) = some r := H
   have A8 := ak A80
   clear A80
   by_cases c9 : t499 < 0
   ·rw [if_pos c9] at H
    have c9b0 : decide (t499 < 0) = true := decide_eq_true c9
    clear c9
    obtain rfl := Option.some.inj H
    go_enter Tryd.func72, Tryd.ntmps72
    go_wp2_with (first | ((with_reducible refine gate_dst (N := 2) rfl ?_); refine box_event ?hg (N := 2) ?hd (cs := #[.int .i64 a0_0, .int .i64 a0_1, .string a0_2, .int .i64 a0_3, .int .i64 a0_4, .string a0_5]) (t := 108) ?hr ?_; (case hd => rfl); (case hg => rfl); (case hr => first | (go_simp; done) | (go_simp; rfl)); intro gb497 hg w10 hbox hb; have n0_ := ak (below_step d22_3 hb); have n1_ := ak (hbox); have n2_ := ak ((d22_21 : w.heap.size ≤ gb497)); have n3_ := ak ((d22_21 : w.heap.size ≤ gb497)); clear HB; have HB := n0_; have BK497 := n1_; have GW497 := n2_; have GE497 := n3_; clear n0_ n1_ n2_ n3_ hb hbox hg; have hcz11_0 : w10.cell? ⟨gb497, 0, none⟩ = some (.int .i64 a0_0) := (blk_cell BK497.out 0).trans rfl; have hcz11_1 : w10.cell? ⟨gb497, 1, none⟩ = some (.int .i64 a0_1) := (blk_cell BK497.out 1).trans rfl; have hcz11_2 : w10.cell? ⟨gb497, 2, none⟩ = some (.string a0_2) := (blk_cell BK497.out 2).trans rfl; have hcz11_3 : w10.cell? ⟨gb497, 3, none⟩ = some (.int .i64 a0_3) := (blk_cell BK497.out 3).trans rfl; have hcz11_4 : w10.cell? ⟨gb497, 4, none⟩ = some (.int .i64 a0_4) := (blk_cell BK497.out 4).trans rfl; have hcz11_5 : w10.cell? ⟨gb497, 5, none⟩ = some (.string a0_5) := (blk_cell BK497.out 5).trans rfl; have hfz11_0 := blk_frozen BK497.out 0; have hfz11_1 := blk_frozen BK497.out 1; have hfz11_2 := blk_frozen BK497.out 2; have hfz11_3 := blk_frozen BK497.out 3; have hfz11_4 := blk_frozen BK497.out 4; have hfz11_5 := blk_frozen BK497.out 5) | ((with_reducible refine gate_callee (f := 31) rfl ?_); refine goesL_ (some 8) rfl rfl Tryd.func31 (by kernel_rfl) rfl #[.agg #[.int .i64 a0_0, .int .i64 a0_1, .string a0_2], .int .i64 a1] rfl d22_4 ?_; (with_reducible refine (laws_szValue.calls a0_0 a0_1 a0_2 a1 t498 _ A3.out).mono ?_); rintro e w12 ⟨rfl, hb⟩; refine ⟨_, rfl, ?_⟩; have n0_ := ak (blk_below (g := gb497) (o := .cells #[.int .i64 a0_0, .int .i64 a0_1, .string a0_2, .int .i64 a0_3, .int .i64 a0_4, .string a0_5] 108 (0, 0)) d22_16 hb); have n1_ := ak (below_step d22_14 hb); clear BK497 HB; have BK497 := n0_; have HB := n1_; clear n0_ n1_; (try clear hb); have hcz13_0 : w12.cell? ⟨gb497, 0, none⟩ = some (.int .i64 a0_0) := (blk_cell BK497.out 0).trans rfl; have hcz13_1 : w12.cell? ⟨gb497, 1, none⟩ = some (.int .i64 a0_1) := (blk_cell BK497.out 1).trans rfl; have hcz13_2 : w12.cell? ⟨gb497, 2, none⟩ = some (.string a0_2) := (blk_cell BK497.out 2).trans rfl; have hcz13_3 : w12.cell? ⟨gb497, 3, none⟩ = some (.int .i64 a0_3) := (blk_cell BK497.out 3).trans rfl; have hcz13_4 : w12.cell? ⟨gb497, 4, none⟩ = some (.int .i64 a0_4) := (blk_cell BK497.out 4).trans rfl; have hcz13_5 : w12.cell? ⟨gb497, 5, none⟩ = some (.string a0_5) := (blk_cell BK497.out 5).trans rfl; have hfz13_0 := blk_frozen BK497.out 0; have hfz13_1 := blk_frozen BK497.out 1; have hfz13_2 := blk_frozen BK497.out 2; have hfz13_3 := blk_frozen BK497.out 3; have hfz13_4 := blk_frozen BK497.out 4; have hfz13_5 := blk_frozen BK497.out 5) | ((with_reducible refine gate_callee (f := 31) rfl ?_); refine goesL_ (some 14) rfl rfl Tryd.func31 (by kernel_rfl) rfl #[.agg #[.int .i64 a0_3, .int .i64 a0_4, .string a0_5], .int .i64 t498] rfl d22_4 ?_; (with_reducible refine (laws_szValue.calls a0_3 a0_4 a0_5 t498 t499 _ A8.out).mono ?_); rintro e w14 ⟨rfl, hb⟩; refine ⟨_, rfl, ?_⟩; have n0_ := ak (blk_below (g := gb497) (o := .cells #[.int .i64 a0_0, .int .i64 a0_1, .string a0_2, .int .i64 a0_3, .int .i64 a0_4, .string a0_5] 108 (0, 0)) d22_16 hb); have n1_ := ak (below_step d22_14 hb); clear BK497 HB; have BK497 := n0_; have HB := n1_; clear n0_ n1_; (try clear hb)))
    go_ret
    exact ⟨by first | rfl | (simp [errW_none, errW_some] <;> rfl) | (simp [*, errW_none, errW_some] <;> rfl), by repeat (first | (with_reducible first | exact HB.out | apply below_alloc | apply pw_below_drewN | apply below_drew1 | refine below_set ?_ GE497.out) | exact HB.out)⟩
   ·rw [if_neg c9] at H
    have c9b0 : decide (t499 < 0) = false := decide_eq_false c9
    clear c9
    obtain rfl := Option.some.inj H
    go_enter Tryd.func72, Tryd.ntmps72
    go_wp2_with (first | ((with_reducible refine gate_dst (N := 2) rfl ?_); refine box_event ?hg (N := 2) ?hd (cs := #[.int .i64 a0_0, .int .i64 a0_1, .string a0_2, .int .i64 a0_3, .int .i64 a0_4, .string a0_5]) (t := 108) ?hr ?_; (case hd => rfl); (case hg => rfl); (case hr => first | (go_simp; done) | (go_simp; rfl)); intro gb497 hg w15 hbox hb; have n0_ := ak (below_step d22_3 hb); have n1_ := ak (hbox); have n2_ := ak ((d22_21 : w.heap.size ≤ gb497)); have n3_ := ak ((d22_21 : w.heap.size ≤ gb497)); clear HB; have HB := n0_; have BK497 := n1_; have GW497 := n2_; have GE497 := n3_; clear n0_ n1_ n2_ n3_ hb hbox hg; have hcz16_0 : w15.cell? ⟨gb497, 0, none⟩ = some (.int .i64 a0_0) := (blk_cell BK497.out 0).trans rfl; have hcz16_1 : w15.cell? ⟨gb497, 1, none⟩ = some (.int .i64 a0_1) := (blk_cell BK497.out 1).trans rfl; have hcz16_2 : w15.cell? ⟨gb497, 2, none⟩ = some (.string a0_2) := (blk_cell BK497.out 2).trans rfl; have hcz16_3 : w15.cell? ⟨gb497, 3, none⟩ = some (.int .i64 a0_3) := (blk_cell BK497.out 3).trans rfl; have hcz16_4 : w15.cell? ⟨gb497, 4, none⟩ = some (.int .i64 a0_4) := (blk_cell BK497.out 4).trans rfl; have hcz16_5 : w15.cell? ⟨gb497, 5, none⟩ = some (.string a0_5) := (blk_cell BK497.out 5).trans rfl; have hfz16_0 := blk_frozen BK497.out 0; have hfz16_1 := blk_frozen BK497.out 1; have hfz16_2 := blk_frozen BK497.out 2; have hfz16_3 := blk_frozen BK497.out 3; have hfz16_4 := blk_frozen BK497.out 4; have hfz16_5 := blk_frozen BK497.out 5) | ((with_reducible refine gate_callee (f := 31) rfl ?_); refine goesL_ (some 8) rfl rfl Tryd.func31 (by kernel_rfl) rfl #[.agg #[.int .i64 a0_0, .int .i64 a0_1, .string a0_2], .int .i64 a1] rfl d22_4 ?_; (with_reducible refine (laws_szValue.calls a0_0 a0_1 a0_2 a1 t498 _ A3.out).mono ?_); rintro e w17 ⟨rfl, hb⟩; refine ⟨_, rfl, ?_⟩; have n0_ := ak (blk_below (g := gb497) (o := .cells #[.int .i64 a0_0, .int .i64 a0_1, .string a0_2, .int .i64 a0_3, .int .i64 a0_4, .string a0_5] 108 (0, 0)) d22_16 hb); have n1_ := ak (below_step d22_14 hb); clear BK497 HB; have BK497 := n0_; have HB := n1_; clear n0_ n1_; (try clear hb); have hcz18_0 : w17.cell? ⟨gb497, 0, none⟩ = some (.int .i64 a0_0) := (blk_cell BK497.out 0).trans rfl; have hcz18_1 : w17.cell? ⟨gb497, 1, none⟩ = some (.int .i64 a0_1) := (blk_cell BK497.out 1).trans rfl; have hcz18_2 : w17.cell? ⟨gb497, 2, none⟩ = some (.string a0_2) := (blk_cell BK497.out 2).trans rfl; have hcz18_3 : w17.cell? ⟨gb497, 3, none⟩ = some (.int .i64 a0_3) := (blk_cell BK497.out 3).trans rfl; have hcz18_4 : w17.cell? ⟨gb497, 4, none⟩ = some (.int .i64 a0_4) := (blk_cell BK497.out 4).trans rfl; have hcz18_5 : w17.cell? ⟨gb497, 5, none⟩ = some (.string a0_5) := (blk_cell BK497.out 5).trans rfl; have hfz18_0 := blk_frozen BK497.out 0; have hfz18_1 := blk_frozen BK497.out 1; have hfz18_2 := blk_frozen BK497.out 2; have hfz18_3 := blk_frozen BK497.out 3; have hfz18_4 := blk_frozen BK497.out 4; have hfz18_5 := blk_frozen BK497.out 5) | ((with_reducible refine gate_callee (f := 31) rfl ?_); refine goesL_ (some 14) rfl rfl Tryd.func31 (by kernel_rfl) rfl #[.agg #[.int .i64 a0_3, .int .i64 a0_4, .string a0_5], .int .i64 t498] rfl d22_4 ?_; (with_reducible refine (laws_szValue.calls a0_3 a0_4 a0_5 t498 t499 _ A8.out).mono ?_); rintro e w19 ⟨rfl, hb⟩; refine ⟨_, rfl, ?_⟩; have n0_ := ak (blk_below (g := gb497) (o := .cells #[.int .i64 a0_0, .int .i64 a0_1, .string a0_2, .int .i64 a0_3, .int .i64 a0_4, .string a0_5] 108 (0, 0)) d22_16 hb); have n1_ := ak (below_step d22_14 hb); clear BK497 HB; have BK497 := n0_; have HB := n1_; clear n0_ n1_; (try clear hb)))
    go_ret
    exact ⟨by first | rfl | (simp [errW_none, errW_some] <;> rfl) | (simp [*, errW_none, errW_some] <;> rfl), by repeat (first | (with_reducible first | exact HB.out | apply below_alloc | apply pw_below_drewN | apply below_drew1 | refine below_set ?_ GE497.out) | exact HB.out)⟩

/-! ### laws_szPairS: function 30 -/
def laws_szPairS.l0 : Nat → List (S108) → Int → Int → Option (Int)
  | 0, _, _, _ => none
  | k + 1, x0, x1, x5 => if x5 < (x0.length : Int) then (if 0 ≤ x5 then ((laws_szPair.f ((rd_T108 x0 x5).f0.f0) ((rd_T108 x0 x5).f0.f1) ((rd_T108 x0 x5).f0.f2) ((rd_T108 x0 x5).f1.f0) ((rd_T108 x0 x5).f1.f1) ((rd_T108 x0 x5).f1.f2) x1).bind fun t501 => (if t501 < 0 then (some (-1)) else (laws_szPairS.l0 k x0 t501 (wrap64 (x5 + 1))))) else (none)) else (some x1)
def laws_szPairS.f (k : Nat) (l0 : List (S108)) (a1 : Int) : Option (Int) := if (wrap64 (a1 - (l0.length : Int))) < 0 then (some (-1)) else (laws_szPairS.l0 k l0 (wrap64 (a1 - (l0.length : Int))) 0)
theorem laws_szPairS.mono_l : ∀ k, (∀ y0 y1 y2, LeO (laws_szPairS.l0 k y0 y1 y2) (laws_szPairS.l0 (k + 1) y0 y1 y2))
  | 0 => fun _ _ _ r h => by simp [laws_szPairS.l0] at h
  | k + 1 => by
    have ih0 := laws_szPairS.mono_l k
    · intro y0 y1 y2
      unfold laws_szPairS.l0
      repeat' first
      | (with_reducible exact ih0 _ _ _)
      | (with_reducible exact LeO.refl _)
      | (with_reducible exact LeO.none _)
      | (with_reducible refine LeO.ite ?_ ?_)
      | (with_reducible refine LeO.bind ?_ (fun _ => ?_))
      | exact ih0 _ _ _
      | exact LeO.none _
      | refine LeO.ite ?_ ?_
      | refine LeO.bind ?_ (fun _ => ?_)
theorem laws_szPairS.mono : ∀ a0 a1 k, LeO (laws_szPairS.f k a0 a1) (laws_szPairS.f (k + 1) a0 a1) := by
  intro a0 a1 k
  have ih0 := laws_szPairS.mono_l k
  unfold laws_szPairS.f
  repeat' first
      | (with_reducible exact ih0 _ _ _)
      | (with_reducible exact LeO.refl _)
      | (with_reducible exact LeO.none _)
      | (with_reducible refine LeO.ite ?_ ?_)
      | (with_reducible refine LeO.bind ?_ (fun _ => ?_))
      | exact ih0 _ _ _
      | exact LeO.none _
      | refine LeO.ite ?_ ?_
      | refine LeO.bind ?_ (fun _ => ?_)
set_option maxHeartbeats 8000000 in
set_option maxRecDepth 100000 in
theorem laws_szPairS.calls (k : Nat) (A0 : Option Addr) (c0 : Nat) (l0 : List (S108)) (a1 : Int) (r : Int) (w : World) (hr0 : Kd.C k108 w A0 l0.length l0) (hc0 : l0.length ≤ c0) (h : laws_szPairS.f k l0 a1 = some r) :
    Calls Tryd.prog 30 #[.slice A0 l0.length c0, .int .i64 a1] w fun e w' => e = .returned (.int .i64 r) ∧ Below w.heap.size w w' := by
  have hu108 := Tryd.underlying108
  have HR0 := ak hr0
  have HC0 := ak hc0
  clear hr0 hc0
  have HB := ak (Below.refl w.heap.size w)
  have H : (if (wrap64 (a1 - (l0.length : Int))) < 0 then (some (-1)) else (laws_szPairS.l0 k l0 (wrap64 (a1 - (l0.length : Int))) 0)) = some r := h
  clear h
  by_cases c3 : (wrap64 (a1 - (l0.length : Int))) < 0
  ·rw [if_pos c3] at H
   have c3b0 : decide ((wrap64 (a1 - (l0.length : Int))) < 0) = true := decide_eq_true c3
   clear c3
   obtain rfl := Option.some.inj H
   go_enter Tryd.func30, Tryd.ntmps30
   go_wp2
   go_ret
   exact ⟨by first | rfl | (simp [errW_none, errW_some] <;> rfl) | (simp [*, errW_none, errW_some] <;> rfl), by repeat (first | (with_reducible first | exact HB.out | apply below_alloc | apply pw_below_drewN | apply below_drew1) | exact HB.out)⟩
  ·rw [if_neg c3] at H
   have c3b0 : decide ((wrap64 (a1 - (l0.length : Int))) < 0) = false := decide_eq_false c3
   clear c3
   have H' := ak H
   clear H
   go_enter Tryd.func30, Tryd.ntmps30
   go_wp2
   go_loopg [1, 5] k (fun kq v1 v5 w' => ∃ (x1_1 : Int) (x5_1 : Int), v1 = .int .i64 x1_1 ∧ v5 = .int .i64 x5_1 ∧ Aside0 (laws_szPairS.l0 kq l0 x1_1 x5_1 = some r) ∧ Aside0 (kq ≤ k) ∧ Aside0 (Below w.heap.size w w'))
   case atStart => exact ⟨(wrap64 (a1 - (l0.length : Int))), (0), d22_17, d22_17, H', ⟨Nat.le_refl _⟩, ⟨by repeat (first | (with_reducible first | exact HB.out | apply below_alloc | apply pw_below_drewN | apply below_drew1) | exact HB.out)⟩⟩
   case round =>
    clear H'
    try clear p2
    try clear c3
    try clear c3b0
    obtain ⟨x1_1, x5_1, rfl, rfl, HA, HK1, HB⟩ := hrel
    cases gk with
    | zero => exact absurd HA.out (by simp [laws_szPairS.l0])
    | succ k1 =>
     have H := HA.out
     clear HA
     simp only [laws_szPairS.l0] at H
     by_cases c4 : x5_1 < (l0.length : Int)
     ·rw [if_pos c4] at H
      have c4b0 : decide (x5_1 < (l0.length : Int)) = true := decide_eq_true c4
      clear c4
      by_cases c5 : 0 ≤ x5_1
      ·rw [if_pos c5] at H
       have c5b0 : decide (0 ≤ x5_1) = true := decide_eq_true c5
       clear c5
       replace H := Option.bind_eq_some_iff.mp H
       obtain ⟨t501, A60, H⟩ := H
       replace H : (if t501 < 0 then (some (-1)) else (laws_szPairS.l0 k1 l0 t501 (wrap64 (x5_1 + 1)))) = some r := H
       have A6 := ak A60
       clear A60
       by_cases c7 : t501 < 0
       ·rw [if_pos c7] at H
        have c7b0 : decide (t501 < 0) = true := decide_eq_true c7
        clear c7
        obtain rfl := Option.some.inj H
        have p500 : 0 ≤ (x5_1 : Int) := of_decide_eq_true d22_10
        have q500 : x5_1 < (l0.length : Int) := of_decide_eq_true d22_10
        obtain ⟨ad500, e500, hx500_0, hx500_1, hx500_2, hx500_3, hx500_4, hx500_5⟩ := at_T108 HR0.out x5_1 p500 q500
        cases e500
        replace hx500_0 := (HB.out.cell (World.block_lt_of_cell? w _ hx500_0)).trans hx500_0
        replace hx500_1 := (HB.out.cell (World.block_lt_of_cell? w _ hx500_1)).trans hx500_1
        replace hx500_2 := (HB.out.cell (World.block_lt_of_cell? w _ hx500_2)).trans hx500_2
        replace hx500_3 := (HB.out.cell (World.block_lt_of_cell? w _ hx500_3)).trans hx500_3
        replace hx500_4 := (HB.out.cell (World.block_lt_of_cell? w _ hx500_4)).trans hx500_4
        replace hx500_5 := (HB.out.cell (World.block_lt_of_cell? w _ hx500_5)).trans hx500_5
        replace p500 := eq_true p500
        replace q500 := eq_true q500
        go_wp2_with (first | ((with_reducible refine gate_callee (f := 72) rfl ?_); refine goesL_ (some 23) rfl rfl Tryd.func72 (by kernel_rfl) rfl #[.agg #[.int .i64 ((rd_T108 l0 x5_1).f0.f0), .int .i64 ((rd_T108 l0 x5_1).f0.f1), .string ((rd_T108 l0 x5_1).f0.f2), .int .i64 ((rd_T108 l0 x5_1).f1.f0), .int .i64 ((rd_T108 l0 x5_1).f1.f1), .string ((rd_T108 l0 x5_1).f1.f2)], .int .i64 x1_1] rfl d22_4 ?_; (with_reducible refine (laws_szPair.calls ((rd_T108 l0 x5_1).f0.f0) ((rd_T108 l0 x5_1).f0.f1) ((rd_T108 l0 x5_1).f0.f2) ((rd_T108 l0 x5_1).f1.f0) ((rd_T108 l0 x5_1).f1.f1) ((rd_T108 l0 x5_1).f1.f2) x1_1 t501 _ A6.out).mono ?_); rintro e w8 ⟨rfl, hb⟩; refine ⟨_, rfl, ?_⟩; have n0_ := ak (below_step d22_3 hb); clear HB; have HB := n0_; clear n0_; (try clear hb)))
        go_ret
        exact ⟨by first | rfl | (simp [errW_none, errW_some] <;> rfl) | (simp [*, errW_none, errW_some] <;> rfl), by repeat (first | (with_reducible first | exact HB.out | apply below_alloc | apply pw_below_drewN | apply below_drew1) | exact HB.out)⟩
       ·rw [if_neg c7] at H
        have c7b0 : decide (t501 < 0) = false := decide_eq_false c7
        clear c7
        have H' := ak H
        clear H
        have p500 : 0 ≤ (x5_1 : Int) := of_decide_eq_true d22_10
        have q500 : x5_1 < (l0.length : Int) := of_decide_eq_true d22_10
        obtain ⟨ad500, e500, hx500_0, hx500_1, hx500_2, hx500_3, hx500_4, hx500_5⟩ := at_T108 HR0.out x5_1 p500 q500
        cases e500
        replace hx500_0 := (HB.out.cell (World.block_lt_of_cell? w _ hx500_0)).trans hx500_0
        replace hx500_1 := (HB.out.cell (World.block_lt_of_cell? w _ hx500_1)).trans hx500_1
        replace hx500_2 := (HB.out.cell (World.block_lt_of_cell? w _ hx500_2)).trans hx500_2
        replace hx500_3 := (HB.out.cell (World.block_lt_of_cell? w _ hx500_3)).trans hx500_3
        replace hx500_4 := (HB.out.cell (World.block_lt_of_cell? w _ hx500_4)).trans hx500_4
        replace hx500_5 := (HB.out.cell (World.block_lt_of_cell? w _ hx500_5)).trans hx500_5
        replace p500 := eq_true p500
        replace q500 := eq_true q500
        go_wp2_with (first | ((with_reducible refine gate_callee (f := 72) rfl ?_); refine goesL_ (some 23) rfl rfl Tryd.func72 (by kernel_rfl) rfl #[.agg #[.int .i64 ((rd_T108 l0 x5_1).f0.f0), .int .i64 ((rd_T108 l0 x5_1).f0.f1), .string ((rd_T108 l0 x5_1).f0.f2), .int .i64 ((rd_T108 l0 x5_1).f1.f0), .int .i64 ((rd_T108 l0 x5_1).f1.f1), .string ((rd_T108 l0 x5_1).f1.f2)], .int .i64 x1_1] rfl d22_4 ?_; (with_reducible refine (laws_szPair.calls ((rd_T108 l0 x5_1).f0.f0) ((rd_T108 l0 x5_1).f0.f1) ((rd_T108 l0 x5_1).f0.f2) ((rd_T108 l0 x5_1).f1.f0) ((rd_T108 l0 x5_1).f1.f1) ((rd_T108 l0 x5_1).f1.f2) x1_1 t501 _ A6.out).mono ?_); rintro e w9 ⟨rfl, hb⟩; refine ⟨_, rfl, ?_⟩; have n0_ := ak (below_step d22_3 hb); clear HB; have HB := n0_; clear n0_; (try clear hb)))
        go_roundg k1
        case measure => have := HK1.out; omega
        case rel => exact ⟨(t501), (wrap64 (x5_1 + 1)), d22_17, d22_17, H', ⟨by have := HK1.out; omega⟩, ⟨by repeat (first | (with_reducible first | exact HB.out | apply below_alloc | apply pw_below_drewN | apply below_drew1) | exact HB.out)⟩⟩
      ·rw [if_neg c5] at H
       exact absurd H (by simp)
     ·rw [if_neg c4] at H
      have c4b0 : decide (x5_1 < (l0.length : Int)) = false := decide_eq_false c4
      clear c4
      obtain rfl := Option.some.inj H
      go_wp2
      go_ret
      exact ⟨by first | rfl | (simp [errW_none, errW_some] <;> rfl) | (simp [*, errW_none, errW_some] <;> rfl), by repeat (first | (with_reducible first | exact HB.out | apply below_alloc | apply pw_below_drewN | apply below_drew1) | exact HB.out)⟩

/-! ### spec_l5In: function 101 -/
def spec_l5In.f (a0_0 : Int) (a0_1 : Int) (a0_2 : ByteArray) (a1 : Int) : Option (Bool) := if a0_0 = 5 then (some (decide (a0_1 < a1))) else (some true)
set_option maxHeartbeats 8000000 in
set_option maxRecDepth 100000 in
theorem spec_l5In.calls (P0_ : Addr) (a0_0 : Int) (a0_1 : Int) (a0_2 : ByteArray) (a1 : Int) (r : Bool) (w : World) (hq0_0 : w.cell? P0_ = some (.int .i64 a0_0)) (hq0_1 : w.cell? ⟨P0_.block, P0_.off + 1, none⟩ = some (.int .i64 a0_1)) (hq0_2 : w.cell? ⟨P0_.block, P0_.off + 2, none⟩ = some (.string a0_2)) (h : spec_l5In.f a0_0 a0_1 a0_2 a1 = some r) :
    Calls Tryd.prog 101 #[.pointer (some P0_), .int .i64 a1] w fun e w' => e = .returned (.bool r) ∧ Drawn0 w w' := by
  have HQ0_0 := ak hq0_0
  clear hq0_0
  have HQ0_1 := ak hq0_1
  clear hq0_1
  have HQ0_2 := ak hq0_2
  clear hq0_2
  have H : (if a0_0 = 5 then (some (decide (a0_1 < a1))) else (some true)) = some r := h
  clear h
  by_cases c3 : a0_0 = 5
  ·rw [if_pos c3] at H
   have c3b0 : (a0_0 == 5) = true := beq_iff_eq.mpr c3
   have c3b1 : (a0_0 != 5) = false := bne_eq_false_iff_eq.mpr c3
   clear c3
   obtain rfl := Option.some.inj H
   have hx502_0 := HQ0_0.out
   have hx502_1 := HQ0_1.out
   have hx502_2 := HQ0_2.out
   go_enter Tryd.func101, Tryd.ntmps101
   go_wp2
   go_ret
   exact ⟨by first | rfl | (simp; done) | (simp [*]; done) | (simp [ne_nil_b, eq_nil_b]; done), by repeat (first | exact Drawn0.refl _ | apply Drawn0.step)⟩
  ·rw [if_neg c3] at H
   have c3b0 : (a0_0 == 5) = false := beq_eq_false_iff_ne.mpr c3
   have c3b1 : (a0_0 != 5) = true := bne_iff_ne.mpr c3
   obtain rfl := Option.some.inj H
   have hx502_0 := HQ0_0.out
   have hx502_1 := HQ0_1.out
   have hx502_2 := HQ0_2.out
   go_enter Tryd.func101, Tryd.ntmps101
   go_wp2
   go_ret
   exact ⟨by first | rfl | (simp; done) | (simp [*]; done) | (simp [ne_nil_b, eq_nil_b]; done), by repeat (first | exact Drawn0.refl _ | apply Drawn0.step)⟩

/-! ### spec_l5Heap: function 100 -/
def spec_l5Heap.l0 : Nat → List (S112) → Int → Option (Int)
  | 0, _, _ => none
  | k + 1, x0, x3 => if x3 < (x0.length : Int) then (if 0 ≤ x3 then ((spec_l5Fault.f k ((rd_T112 x0 x3).f0.f0) ((rd_T112 x0 x3).f0.f1) ((rd_T112 x0 x3).f0.f2)).bind fun t504 => (if t504 = 0 then ((spec_l5Fault.f k ((rd_T112 x0 x3).f1.f0) ((rd_T112 x0 x3).f1.f1) ((rd_T112 x0 x3).f1.f2)).bind fun t506 => (if t506 = 0 then ((spec_l5In.f ((rd_T112 x0 x3).f0.f0) ((rd_T112 x0 x3).f0.f1) ((rd_T112 x0 x3).f0.f2) x3).bind fun t508 => (if t508 = true then ((spec_l5In.f ((rd_T112 x0 x3).f1.f0) ((rd_T112 x0 x3).f1.f1) ((rd_T112 x0 x3).f1.f2) x3).bind fun t510 => (if t510 = true then (spec_l5Heap.l0 k x0 (wrap64 (x3 + 1))) else (some 1))) else (some 1))) else (some t506))) else (some t504))) else (none)) else (some 0)
def spec_l5Heap.f (k : Nat) (l0 : List (S112)) : Option (Int) := if (l0.length : Int) > 4000 then (some 2) else (spec_l5Heap.l0 k l0 0)
theorem spec_l5Heap.mono_l : ∀ k, (∀ y0 y1, LeO (spec_l5Heap.l0 k y0 y1) (spec_l5Heap.l0 (k + 1) y0 y1))
  | 0 => fun _ _ r h => by simp [spec_l5Heap.l0] at h
  | k + 1 => by
    have ih0 := spec_l5Heap.mono_l k
    · intro y0 y1
      unfold spec_l5Heap.l0
      repeat' first
      | (with_reducible exact ih0 _ _)
      | (with_reducible exact spec_l5Fault.mono _ _ _ _)
      | (with_reducible exact LeO.refl _)
      | (with_reducible exact LeO.none _)
      | (with_reducible refine LeO.ite ?_ ?_)
      | (with_reducible refine LeO.bind ?_ (fun _ => ?_))
      | exact ih0 _ _
      | exact spec_l5Fault.mono _ _ _ _
      | exact LeO.none _
      | refine LeO.ite ?_ ?_
      | refine LeO.bind ?_ (fun _ => ?_)
theorem spec_l5Heap.mono : ∀ a0 k, LeO (spec_l5Heap.f k a0) (spec_l5Heap.f (k + 1) a0) := by
  intro a0 k
  have ih0 := spec_l5Heap.mono_l k
  unfold spec_l5Heap.f
  repeat' first
      | (with_reducible exact ih0 _ _)
      | (with_reducible exact spec_l5Fault.mono _ _ _ _)
      | (with_reducible exact LeO.refl _)
      | (with_reducible exact LeO.none _)
      | (with_reducible refine LeO.ite ?_ ?_)
      | (with_reducible refine LeO.bind ?_ (fun _ => ?_))
      | exact ih0 _ _
      | exact spec_l5Fault.mono _ _ _ _
      | exact LeO.none _
      | refine LeO.ite ?_ ?_
      | refine LeO.bind ?_ (fun _ => ?_)
set_option maxHeartbeats 8000000 in
set_option maxRecDepth 100000 in
theorem spec_l5Heap.calls (k : Nat) (A0 : Option Addr) (c0 : Nat) (l0 : List (S112)) (r : Int) (w : World) (hr0 : Kd.C k112 w A0 l0.length l0) (hc0 : l0.length ≤ c0) (h : spec_l5Heap.f k l0 = some r) :
    Calls Tryd.prog 100 #[.slice A0 l0.length c0] w fun e w' => e = .returned (.int .i64 r) ∧ Drawn0 w w' := by
  have HR0 := ak hr0
  have HC0 := ak hc0
  clear hr0 hc0
  have H : (if (l0.length : Int) > 4000 then (some 2) else (spec_l5Heap.l0 k l0 0)) = some r := h
  clear h
  by_cases c2 : (l0.length : Int) > 4000
  ·rw [if_pos c2] at H
   have c2b0 : decide (4000 < (l0.length : Int)) = true := decide_eq_true c2
   have c2b1 : decide (4000 < l0.length) = true := decide_eq_true (by omega)
   clear c2
   obtain rfl := Option.some.inj H
   go_enter Tryd.func100, Tryd.ntmps100
   go_wp2
   go_ret
   exact ⟨by first | rfl | (simp; done) | (simp [*]; done) | (simp [ne_nil_b, eq_nil_b]; done), by repeat (first | exact Drawn0.refl _ | apply Drawn0.step)⟩
  ·rw [if_neg c2] at H
   have c2b0 : decide (4000 < (l0.length : Int)) = false := decide_eq_false c2
   have c2b1 : decide (4000 < l0.length) = false := decide_eq_false (by omega)
   clear c2
   have H' := ak H
   clear H
   go_enter Tryd.func100, Tryd.ntmps100
   go_wp2
   go_loopg [3] k (fun kq v3 w' => ∃ (x3_1 : Int), v3 = .int .i64 x3_1 ∧ Aside0 (spec_l5Heap.l0 kq l0 x3_1 = some r) ∧ Aside0 (kq ≤ k) ∧ Drawn0 w w')
   case atStart => exact ⟨(0), d22_17, H', ⟨Nat.le_refl _⟩, by repeat (first | exact Drawn0.refl _ | apply Drawn0.step)⟩
   case round =>
    clear H'
    try clear c1
    try clear c2
    try clear c2b0
    try clear c2b1
    try clear p2
    obtain ⟨x3_1, rfl, HA, HK1, ⟨m1, rfl⟩⟩ := hrel
    cases gk with
    | zero => exact absurd HA.out (by simp [spec_l5Heap.l0])
    | succ k1 =>
     have H := HA.out
     clear HA
     simp only [spec_l5Heap.l0] at H
     by_cases c3 : x3_1 < (l0.length : Int)
     ·rw [if_pos c3] at H
      have c3b0 : decide (x3_1 < (l0.length : Int)) = true := decide_eq_true c3
      clear c3
      by_cases c4 : 0 ≤ x3_1
      ·rw [if_pos c4] at H
       have c4b0 : decide (0 ≤ x3_1) = true := decide_eq_true c4
       clear c4
       replace H := Option.bind_eq_some_iff.mp H
       obtain ⟨t504, A50, H⟩ := H
       replace H : (if t504 = 0 then ((spec_l5Fault.f k1 ((rd_T112 l0 x3_1).f1.f0) ((rd_T112 l0 x3_1).f1.f1) ((rd_T112 l0 x3_1).f1.f2)).bind fun t506 => (if t506 = 0 then ((spec_l5In.f ((rd_T112 l0 x3_1).f0.f0) ((rd_T112 l0 x3_1).f0.f1) ((rd_T112 l0 x3_1).f0.f2) x3_1).bind fun t508 => (if t508 = true then ((spec_l5In.f ((rd_T112 l0 x3_1).f1.f0) ((rd_T112 l0 x3_1).f1.f1) ((rd_T112 l0 x3_1).f1.f2) x3_1).bind fun t510 => (if t510 = true then (spec_l5Heap.l0 k1 l0 (wrap64 (x3_1 + 1))) else (some 1))) else (some 1))) else (some t506))) else (some t504)) = some r := H
       have A5 := ak A50
       clear A50
       by_cases c6 : t504 = 0
       ·rw [if_pos c6] at H
        have c6b0 : (t504 == 0) = true := beq_iff_eq.mpr c6
        have c6b1 : (t504 != 0) = false := bne_eq_false_iff_eq.mpr c6
        clear c6
        replace H := Option.bind_eq_some_iff.mp H
        obtain ⟨t506, A70, H⟩ := H
        replace H : (if t506 = 0 then ((spec_l5In.f ((rd_T112 l0 x3_1).f0.f0) ((rd_T112 l0 x3_1).f0.f1) ((rd_T112 l0 x3_1).f0.f2) x3_1).bind fun t508 => (if t508 = true then ((spec_l5In.f ((rd_T112 l0 x3_1).f1.f0) ((rd_T112 l0 x3_1).f1.f1) ((rd_T112 l0 x3_1).f1.f2) x3_1).bind fun t510 => (if t510 = true then (spec_l5Heap.l0 k1 l0 (wrap64 (x3_1 + 1))) else (some 1))) else (some 1))) else (some t506)) = some r := H
        have A7 := ak A70
        clear A70
        by_cases c8 : t506 = 0
        ·rw [if_pos c8] at H
         have c8b0 : (t506 == 0) = true := beq_iff_eq.mpr c8
         have c8b1 : (t506 != 0) = false := bne_eq_false_iff_eq.mpr c8
         clear c8
         replace H := Option.bind_eq_some_iff.mp H
         obtain ⟨t508, A90, H⟩ := H
         replace H : (if t508 = true then ((spec_l5In.f ((rd_T112 l0 x3_1).f1.f0) ((rd_T112 l0 x3_1).f1.f1) ((rd_T112 l0 x3_1).f1.f2) x3_1).bind fun t510 => (if t510 = true then (spec_l5Heap.l0 k1 l0 (wrap64 (x3_1 + 1))) else (some 1))) else (some 1)) = some r := H
         have A9 := ak A90
         clear A90
         by_cases c10 : t508 = true
         ·subst c10
          have H1 : ((spec_l5In.f ((rd_T112 l0 x3_1).f1.f0) ((rd_T112 l0 x3_1).f1.f1) ((rd_T112 l0 x3_1).f1.f2) x3_1).bind fun t510 => (if t510 = true then (spec_l5Heap.l0 k1 l0 (wrap64 (x3_1 + 1))) else (some 1))) = some r := by rw [if_pos rfl] at H; exact H
          clear H
          have H := H1
          clear H1
          replace H := Option.bind_eq_some_iff.mp H
          obtain ⟨t510, A110, H⟩ := H
          replace H : (if t510 = true then (spec_l5Heap.l0 k1 l0 (wrap64 (x3_1 + 1))) else (some 1)) = some r := H
          have A11 := ak A110
          clear A110
          by_cases c12 : t510 = true
          ·subst c12
           have H1 : (spec_l5Heap.l0 k1 l0 (wrap64 (x3_1 + 1))) = some r := by rw [if_pos rfl] at H; exact H
           clear H
           have H := H1
           clear H1
           have H' := ak H
           clear H
           have p503 : 0 ≤ (x3_1 : Int) := of_decide_eq_true d22_10
           have q503 : x3_1 < (l0.length : Int) := of_decide_eq_true d22_10
           obtain ⟨ad503, e503, hx503_0, hx503_1, hx503_2, hx503_3, hx503_4, hx503_5⟩ := at_T112 HR0.out x3_1 p503 q503
           cases e503
           replace p503 := eq_true p503
           replace q503 := eq_true q503
           go_wp2_with (first | (go_at_call 90; (with_reducible refine (spec_l5Fault.calls k1 _ ((rd_T112 l0 x3_1).f0.f0) ((rd_T112 l0 x3_1).f0.f1) ((rd_T112 l0 x3_1).f0.f2) t504 _ ?side1 ?side2 ?side3 A5.out).mono ?_); (case side1 => first | exact hx503_0 | (refine Eq.trans ?_ hx503_0; simp only [go_sem])); (case side2 => first | exact hx503_1 | (refine Eq.trans ?_ hx503_1; simp only [go_sem])); (case side3 => first | exact hx503_2 | (refine Eq.trans ?_ hx503_2; simp only [go_sem])); rintro e w' ⟨rfl, ⟨nd, rfl⟩⟩) | (go_at_call 90; (with_reducible refine (spec_l5Fault.calls k1 _ ((rd_T112 l0 x3_1).f1.f0) ((rd_T112 l0 x3_1).f1.f1) ((rd_T112 l0 x3_1).f1.f2) t506 _ ?side1 ?side2 ?side3 A7.out).mono ?_); (case side1 => first | exact hx503_3 | (refine Eq.trans ?_ hx503_3; simp only [go_sem])); (case side2 => first | exact hx503_4 | (refine Eq.trans ?_ hx503_4; simp only [go_sem])); (case side3 => first | exact hx503_5 | (refine Eq.trans ?_ hx503_5; simp only [go_sem])); rintro e w' ⟨rfl, ⟨nd, rfl⟩⟩) | (go_at_call 101; (with_reducible refine (spec_l5In.calls _ ((rd_T112 l0 x3_1).f0.f0) ((rd_T112 l0 x3_1).f0.f1) ((rd_T112 l0 x3_1).f0.f2) x3_1 true _ ?side1 ?side2 ?side3 A9.out).mono ?_); (case side1 => first | exact hx503_0 | (refine Eq.trans ?_ hx503_0; simp only [go_sem])); (case side2 => first | exact hx503_1 | (refine Eq.trans ?_ hx503_1; simp only [go_sem])); (case side3 => first | exact hx503_2 | (refine Eq.trans ?_ hx503_2; simp only [go_sem])); rintro e w' ⟨rfl, ⟨nd, rfl⟩⟩) | (go_at_call 101; (with_reducible refine (spec_l5In.calls _ ((rd_T112 l0 x3_1).f1.f0) ((rd_T112 l0 x3_1).f1.f1) ((rd_T112 l0 x3_1).f1.f2) x3_1 true _ ?side1 ?side2 ?side3 A11.out).mono ?_); (case side1 => first | exact hx503_3 | (refine Eq.trans ?_ hx503_3; simp only [go_sem])); (case side2 => first | exact hx503_4 | (refine Eq.trans ?_ hx503_4; simp only [go_sem])); (case side3 => first | exact hx503_5 | (refine Eq.trans ?_ hx503_5; simp only [go_sem])); rintro e w' ⟨rfl, ⟨nd, rfl⟩⟩))
           go_roundg k1
           case measure => have := HK1.out; omega
           case rel => exact ⟨(wrap64 (x3_1 + 1)), d22_17, H', ⟨by have := HK1.out; omega⟩, by repeat (first | exact Drawn0.refl _ | apply Drawn0.step)⟩
          ·replace c12 := Bool.eq_false_iff.mpr c12
           subst c12
           have H1 : (some 1) = some r := by rw [if_neg (show ¬ (false = true) by decide)] at H; exact H
           clear H
           have H := H1
           clear H1
           obtain rfl := Option.some.inj H
           have p503 : 0 ≤ (x3_1 : Int) := of_decide_eq_true d22_10
           have q503 : x3_1 < (l0.length : Int) := of_decide_eq_true d22_10
           obtain ⟨ad503, e503, hx503_0, hx503_1, hx503_2, hx503_3, hx503_4, hx503_5⟩ := at_T112 HR0.out x3_1 p503 q503
           cases e503
           replace p503 := eq_true p503
           replace q503 := eq_true q503
           go_wp2_with (first | (go_at_call 90; (with_reducible refine (spec_l5Fault.calls k1 _ ((rd_T112 l0 x3_1).f0.f0) ((rd_T112 l0 x3_1).f0.f1) ((rd_T112 l0 x3_1).f0.f2) t504 _ ?side1 ?side2 ?side3 A5.out).mono ?_); (case side1 => first | exact hx503_0 | (refine Eq.trans ?_ hx503_0; simp only [go_sem])); (case side2 => first | exact hx503_1 | (refine Eq.trans ?_ hx503_1; simp only [go_sem])); (case side3 => first | exact hx503_2 | (refine Eq.trans ?_ hx503_2; simp only [go_sem])); rintro e w' ⟨rfl, ⟨nd, rfl⟩⟩) | (go_at_call 90; (with_reducible refine (spec_l5Fault.calls k1 _ ((rd_T112 l0 x3_1).f1.f0) ((rd_T112 l0 x3_1).f1.f1) ((rd_T112 l0 x3_1).f1.f2) t506 _ ?side1 ?side2 ?side3 A7.out).mono ?_); (case side1 => first | exact hx503_3 | (refine Eq.trans ?_ hx503_3; simp only [go_sem])); (case side2 => first | exact hx503_4 | (refine Eq.trans ?_ hx503_4; simp only [go_sem])); (case side3 => first | exact hx503_5 | (refine Eq.trans ?_ hx503_5; simp only [go_sem])); rintro e w' ⟨rfl, ⟨nd, rfl⟩⟩) | (go_at_call 101; (with_reducible refine (spec_l5In.calls _ ((rd_T112 l0 x3_1).f0.f0) ((rd_T112 l0 x3_1).f0.f1) ((rd_T112 l0 x3_1).f0.f2) x3_1 true _ ?side1 ?side2 ?side3 A9.out).mono ?_); (case side1 => first | exact hx503_0 | (refine Eq.trans ?_ hx503_0; simp only [go_sem])); (case side2 => first | exact hx503_1 | (refine Eq.trans ?_ hx503_1; simp only [go_sem])); (case side3 => first | exact hx503_2 | (refine Eq.trans ?_ hx503_2; simp only [go_sem])); rintro e w' ⟨rfl, ⟨nd, rfl⟩⟩) | (go_at_call 101; (with_reducible refine (spec_l5In.calls _ ((rd_T112 l0 x3_1).f1.f0) ((rd_T112 l0 x3_1).f1.f1) ((rd_T112 l0 x3_1).f1.f2) x3_1 false _ ?side1 ?side2 ?side3 A11.out).mono ?_); (case side1 => first | exact hx503_3 | (refine Eq.trans ?_ hx503_3; simp only [go_sem])); (case side2 => first | exact hx503_4 | (refine Eq.trans ?_ hx503_4; simp only [go_sem])); (case side3 => first | exact hx503_5 | (refine Eq.trans ?_ hx503_5; simp only [go_sem])); rintro e w' ⟨rfl, ⟨nd, rfl⟩⟩))
           go_ret
           exact ⟨by first | rfl | (simp; done) | (simp [*]; done) | (simp [ne_nil_b, eq_nil_b]; done), by repeat (first | exact Drawn0.refl _ | apply Drawn0.step)⟩
         ·replace c10 := Bool.eq_false_iff.mpr c10
          subst c10
          have H1 : (some 1) = some r := by rw [if_neg (show ¬ (false = true) by decide)] at H; exact H
          clear H
          have H := H1
          clear H1
          obtain rfl := Option.some.inj H
          have p503 : 0 ≤ (x3_1 : Int) := of_decide_eq_true d22_10
          have q503 : x3_1 < (l0.length : Int) := of_decide_eq_true d22_10
          obtain ⟨ad503, e503, hx503_0, hx503_1, hx503_2, hx503_3, hx503_4, hx503_5⟩ := at_T112 HR0.out x3_1 p503 q503
          cases e503
          replace p503 := eq_true p503
          replace q503 := eq_true q503
          go_wp2_with (first | (go_at_call 90; (with_reducible refine (spec_l5Fault.calls k1 _ ((rd_T112 l0 x3_1).f0.f0) ((rd_T112 l0 x3_1).f0.f1) ((rd_T112 l0 x3_1).f0.f2) t504 _ ?side1 ?side2 ?side3 A5.out).mono ?_); (case side1 => first | exact hx503_0 | (refine Eq.trans ?_ hx503_0; simp only [go_sem])); (case side2 => first | exact hx503_1 | (refine Eq.trans ?_ hx503_1; simp only [go_sem])); (case side3 => first | exact hx503_2 | (refine Eq.trans ?_ hx503_2; simp only [go_sem])); rintro e w' ⟨rfl, ⟨nd, rfl⟩⟩) | (go_at_call 90; (with_reducible refine (spec_l5Fault.calls k1 _ ((rd_T112 l0 x3_1).f1.f0) ((rd_T112 l0 x3_1).f1.f1) ((rd_T112 l0 x3_1).f1.f2) t506 _ ?side1 ?side2 ?side3 A7.out).mono ?_); (case side1 => first | exact hx503_3 | (refine Eq.trans ?_ hx503_3; simp only [go_sem])); (case side2 => first | exact hx503_4 | (refine Eq.trans ?_ hx503_4; simp only [go_sem])); (case side3 => first | exact hx503_5 | (refine Eq.trans ?_ hx503_5; simp only [go_sem])); rintro e w' ⟨rfl, ⟨nd, rfl⟩⟩) | (go_at_call 101; (with_reducible refine (spec_l5In.calls _ ((rd_T112 l0 x3_1).f0.f0) ((rd_T112 l0 x3_1).f0.f1) ((rd_T112 l0 x3_1).f0.f2) x3_1 false _ ?side1 ?side2 ?side3 A9.out).mono ?_); (case side1 => first | exact hx503_0 | (refine Eq.trans ?_ hx503_0; simp only [go_sem])); (case side2 => first | exact hx503_1 | (refine Eq.trans ?_ hx503_1; simp only [go_sem])); (case side3 => first | exact hx503_2 | (refine Eq.trans ?_ hx503_2; simp only [go_sem])); rintro e w' ⟨rfl, ⟨nd, rfl⟩⟩))
          go_ret
          exact ⟨by first | rfl | (simp; done) | (simp [*]; done) | (simp [ne_nil_b, eq_nil_b]; done), by repeat (first | exact Drawn0.refl _ | apply Drawn0.step)⟩
        ·rw [if_neg c8] at H
         have c8b0 : (t506 == 0) = false := beq_eq_false_iff_ne.mpr c8
         have c8b1 : (t506 != 0) = true := bne_iff_ne.mpr c8
         obtain rfl := Option.some.inj H
         have p503 : 0 ≤ (x3_1 : Int) := of_decide_eq_true d22_10
         have q503 : x3_1 < (l0.length : Int) := of_decide_eq_true d22_10
         obtain ⟨ad503, e503, hx503_0, hx503_1, hx503_2, hx503_3, hx503_4, hx503_5⟩ := at_T112 HR0.out x3_1 p503 q503
         cases e503
         replace p503 := eq_true p503
         replace q503 := eq_true q503
         go_wp2_with (first | (go_at_call 90; (with_reducible refine (spec_l5Fault.calls k1 _ ((rd_T112 l0 x3_1).f0.f0) ((rd_T112 l0 x3_1).f0.f1) ((rd_T112 l0 x3_1).f0.f2) t504 _ ?side1 ?side2 ?side3 A5.out).mono ?_); (case side1 => first | exact hx503_0 | (refine Eq.trans ?_ hx503_0; simp only [go_sem])); (case side2 => first | exact hx503_1 | (refine Eq.trans ?_ hx503_1; simp only [go_sem])); (case side3 => first | exact hx503_2 | (refine Eq.trans ?_ hx503_2; simp only [go_sem])); rintro e w' ⟨rfl, ⟨nd, rfl⟩⟩) | (go_at_call 90; (with_reducible refine (spec_l5Fault.calls k1 _ ((rd_T112 l0 x3_1).f1.f0) ((rd_T112 l0 x3_1).f1.f1) ((rd_T112 l0 x3_1).f1.f2) t506 _ ?side1 ?side2 ?side3 A7.out).mono ?_); (case side1 => first | exact hx503_3 | (refine Eq.trans ?_ hx503_3; simp only [go_sem])); (case side2 => first | exact hx503_4 | (refine Eq.trans ?_ hx503_4; simp only [go_sem])); (case side3 => first | exact hx503_5 | (refine Eq.trans ?_ hx503_5; simp only [go_sem])); rintro e w' ⟨rfl, ⟨nd, rfl⟩⟩))
         go_ret
         exact ⟨by first | rfl | (simp; done) | (simp [*]; done) | (simp [ne_nil_b, eq_nil_b]; done), by repeat (first | exact Drawn0.refl _ | apply Drawn0.step)⟩
       ·rw [if_neg c6] at H
        have c6b0 : (t504 == 0) = false := beq_eq_false_iff_ne.mpr c6
        have c6b1 : (t504 != 0) = true := bne_iff_ne.mpr c6
        obtain rfl := Option.some.inj H
        have p503 : 0 ≤ (x3_1 : Int) := of_decide_eq_true d22_10
        have q503 : x3_1 < (l0.length : Int) := of_decide_eq_true d22_10
        obtain ⟨ad503, e503, hx503_0, hx503_1, hx503_2, hx503_3, hx503_4, hx503_5⟩ := at_T112 HR0.out x3_1 p503 q503
        cases e503
        replace p503 := eq_true p503
        replace q503 := eq_true q503
        go_wp2_with (first | (go_at_call 90; (with_reducible refine (spec_l5Fault.calls k1 _ ((rd_T112 l0 x3_1).f0.f0) ((rd_T112 l0 x3_1).f0.f1) ((rd_T112 l0 x3_1).f0.f2) t504 _ ?side1 ?side2 ?side3 A5.out).mono ?_); (case side1 => first | exact hx503_0 | (refine Eq.trans ?_ hx503_0; simp only [go_sem])); (case side2 => first | exact hx503_1 | (refine Eq.trans ?_ hx503_1; simp only [go_sem])); (case side3 => first | exact hx503_2 | (refine Eq.trans ?_ hx503_2; simp only [go_sem])); rintro e w' ⟨rfl, ⟨nd, rfl⟩⟩))
        go_ret
        exact ⟨by first | rfl | (simp; done) | (simp [*]; done) | (simp [ne_nil_b, eq_nil_b]; done), by repeat (first | exact Drawn0.refl _ | apply Drawn0.step)⟩
      ·rw [if_neg c4] at H
       exact absurd H (by simp)
     ·rw [if_neg c3] at H
      have c3b0 : decide (x3_1 < (l0.length : Int)) = false := decide_eq_false c3
      clear c3
      obtain rfl := Option.some.inj H
      go_wp2
      go_ret
      exact ⟨by first | rfl | (simp; done) | (simp [*]; done) | (simp [ne_nil_b, eq_nil_b]; done), by repeat (first | exact Drawn0.refl _ | apply Drawn0.step)⟩

/-! ### spec_l5Asked: function 73 -/
def spec_l5Asked.f (k : Nat) (l0 : List (S112)) (a1_0 : Int) (a1_1 : Int) (a1_2 : ByteArray) : Option (Int) := (spec_l5Heap.f k l0).bind fun t511 => (if t511 = 0 then ((spec_l5Fault.f k a1_0 a1_1 a1_2).bind fun t513 => (if t513 = 0 then ((spec_l5In.f a1_0 a1_1 a1_2 (l0.length : Int)).bind fun t514 => (if t514 = true then (some 0) else (some 4))) else (some t513))) else (some t511))
theorem spec_l5Asked.mono : ∀ a0 a1 a2 a3 k, LeO (spec_l5Asked.f k a0 a1 a2 a3) (spec_l5Asked.f (k + 1) a0 a1 a2 a3) := by
  intro a0 a1 a2 a3 k
  unfold spec_l5Asked.f
  repeat' first
      | (with_reducible exact spec_l5Fault.mono _ _ _ _)
      | (with_reducible exact spec_l5Heap.mono _ _)
      | (with_reducible exact LeO.refl _)
      | (with_reducible exact LeO.none _)
      | (with_reducible refine LeO.ite ?_ ?_)
      | (with_reducible refine LeO.bind ?_ (fun _ => ?_))
      | exact spec_l5Fault.mono _ _ _ _
      | exact spec_l5Heap.mono _ _
      | exact LeO.none _
      | refine LeO.ite ?_ ?_
      | refine LeO.bind ?_ (fun _ => ?_)
set_option maxHeartbeats 8000000 in
set_option maxRecDepth 100000 in
theorem spec_l5Asked.calls (k : Nat) (A0 : Option Addr) (c0 : Nat) (l0 : List (S112)) (P1_ : Addr) (a1_0 : Int) (a1_1 : Int) (a1_2 : ByteArray) (r : Int) (w : World) (hr0 : Kd.C k112 w A0 l0.length l0) (hc0 : l0.length ≤ c0) (hq1_0 : w.cell? P1_ = some (.int .i64 a1_0)) (hq1_1 : w.cell? ⟨P1_.block, P1_.off + 1, none⟩ = some (.int .i64 a1_1)) (hq1_2 : w.cell? ⟨P1_.block, P1_.off + 2, none⟩ = some (.string a1_2)) (h : spec_l5Asked.f k l0 a1_0 a1_1 a1_2 = some r) :
    Calls Tryd.prog 73 #[.slice A0 l0.length c0, .pointer (some P1_)] w fun e w' => e = .returned (.int .i64 r) ∧ Drawn0 w w' := by
  have HR0 := ak hr0
  have HC0 := ak hc0
  clear hr0 hc0
  have HQ1_0 := ak hq1_0
  clear hq1_0
  have HQ1_1 := ak hq1_1
  clear hq1_1
  have HQ1_2 := ak hq1_2
  clear hq1_2
  have H : ((spec_l5Heap.f k l0).bind fun t511 => (if t511 = 0 then ((spec_l5Fault.f k a1_0 a1_1 a1_2).bind fun t513 => (if t513 = 0 then ((spec_l5In.f a1_0 a1_1 a1_2 (l0.length : Int)).bind fun t514 => (if t514 = true then (some 0) else (some 4))) else (some t513))) else (some t511))) = some r := h
  clear h
  replace H := Option.bind_eq_some_iff.mp H
  obtain ⟨t511, A30, H⟩ := H
  replace H : (if t511 = 0 then ((spec_l5Fault.f k a1_0 a1_1 a1_2).bind fun t513 => (if t513 = 0 then ((spec_l5In.f a1_0 a1_1 a1_2 (l0.length : Int)).bind fun t514 => (if t514 = true then (some 0) else (some 4))) else (some t513))) else (some t511)) = some r := H
  have A3 := ak A30
  clear A30
  by_cases c4 : t511 = 0
  ·rw [if_pos c4] at H
   have c4b0 : (t511 == 0) = true := beq_iff_eq.mpr c4
   have c4b1 : (t511 != 0) = false := bne_eq_false_iff_eq.mpr c4
   clear c4
   replace H := Option.bind_eq_some_iff.mp H
   obtain ⟨t513, A50, H⟩ := H
   replace H : (if t513 = 0 then ((spec_l5In.f a1_0 a1_1 a1_2 (l0.length : Int)).bind fun t514 => (if t514 = true then (some 0) else (some 4))) else (some t513)) = some r := H
   have A5 := ak A50
   clear A50
   by_cases c6 : t513 = 0
   ·rw [if_pos c6] at H
    have c6b0 : (t513 == 0) = true := beq_iff_eq.mpr c6
    have c6b1 : (t513 != 0) = false := bne_eq_false_iff_eq.mpr c6
    clear c6
    replace H := Option.bind_eq_some_iff.mp H
    obtain ⟨t514, A70, H⟩ := H
    replace H : (if t514 = true then (some 0) else (some 4)) = some r := H
    have A7 := ak A70
    clear A70
    by_cases c8 : t514 = true
    ·subst c8
     have H1 : (some 0) = some r := by rw [if_pos rfl] at H; exact H
     clear H
     have H := H1
     clear H1
     obtain rfl := Option.some.inj H
     go_enter Tryd.func73, Tryd.ntmps73
     go_wp2_with (first | ((with_reducible refine gate_callee (f := 100) rfl ?_); refine goesL_ (some 8) rfl rfl Tryd.func100 (by kernel_rfl) rfl #[.slice A0 l0.length c0] rfl d22_4 ?_; (with_reducible refine (spec_l5Heap.calls k _ _ l0 t511 _ ?side1 ?side2 A3.out).mono ?_); (case side1 => repeat (first | exact HR0.out | (with_reducible refine Kd.C_alloc ?_ _) | (with_reducible refine Kd.C_drewN ?_ _) | (with_reducible refine Kd.C_drew ?_))); (case side2 => exact HC0.out); rintro e w' ⟨rfl, ⟨nd, rfl⟩⟩; refine ⟨_, rfl, ?_⟩; have hx512_0 := HQ1_0.out; have hx512_1 := HQ1_1.out; have hx512_2 := HQ1_2.out) | (go_at_call 90; (with_reducible refine (spec_l5Fault.calls k _ a1_0 a1_1 a1_2 t513 _ ?side1 ?side2 ?side3 A5.out).mono ?_); (case side1 => first | exact hx512_0 | (refine Eq.trans ?_ hx512_0; simp only [go_sem])); (case side2 => first | exact hx512_1 | (refine Eq.trans ?_ hx512_1; simp only [go_sem])); (case side3 => first | exact hx512_2 | (refine Eq.trans ?_ hx512_2; simp only [go_sem])); rintro e w' ⟨rfl, ⟨nd, rfl⟩⟩) | (go_at_call 101; (with_reducible refine (spec_l5In.calls _ a1_0 a1_1 a1_2 (l0.length : Int) true _ ?side1 ?side2 ?side3 A7.out).mono ?_); (case side1 => first | exact hx512_0 | (refine Eq.trans ?_ hx512_0; simp only [go_sem])); (case side2 => first | exact hx512_1 | (refine Eq.trans ?_ hx512_1; simp only [go_sem])); (case side3 => first | exact hx512_2 | (refine Eq.trans ?_ hx512_2; simp only [go_sem])); rintro e w' ⟨rfl, ⟨nd, rfl⟩⟩))
     go_ret
     exact ⟨by first | rfl | (simp; done) | (simp [*]; done) | (simp [ne_nil_b, eq_nil_b]; done), by repeat (first | exact Drawn0.refl _ | apply Drawn0.step)⟩
    ·replace c8 := Bool.eq_false_iff.mpr c8
     subst c8
     have H1 : (some 4) = some r := by rw [if_neg (show ¬ (false = true) by decide)] at H; exact H
     clear H
     have H := H1
     clear H1
     obtain rfl := Option.some.inj H
     go_enter Tryd.func73, Tryd.ntmps73
     go_wp2_with (first | ((with_reducible refine gate_callee (f := 100) rfl ?_); refine goesL_ (some 8) rfl rfl Tryd.func100 (by kernel_rfl) rfl #[.slice A0 l0.length c0] rfl d22_4 ?_; (with_reducible refine (spec_l5Heap.calls k _ _ l0 t511 _ ?side1 ?side2 A3.out).mono ?_); (case side1 => repeat (first | exact HR0.out | (with_reducible refine Kd.C_alloc ?_ _) | (with_reducible refine Kd.C_drewN ?_ _) | (with_reducible refine Kd.C_drew ?_))); (case side2 => exact HC0.out); rintro e w' ⟨rfl, ⟨nd, rfl⟩⟩; refine ⟨_, rfl, ?_⟩; have hx512_0 := HQ1_0.out; have hx512_1 := HQ1_1.out; have hx512_2 := HQ1_2.out) | (go_at_call 90; (with_reducible refine (spec_l5Fault.calls k _ a1_0 a1_1 a1_2 t513 _ ?side1 ?side2 ?side3 A5.out).mono ?_); (case side1 => first | exact hx512_0 | (refine Eq.trans ?_ hx512_0; simp only [go_sem])); (case side2 => first | exact hx512_1 | (refine Eq.trans ?_ hx512_1; simp only [go_sem])); (case side3 => first | exact hx512_2 | (refine Eq.trans ?_ hx512_2; simp only [go_sem])); rintro e w' ⟨rfl, ⟨nd, rfl⟩⟩) | (go_at_call 101; (with_reducible refine (spec_l5In.calls _ a1_0 a1_1 a1_2 (l0.length : Int) false _ ?side1 ?side2 ?side3 A7.out).mono ?_); (case side1 => first | exact hx512_0 | (refine Eq.trans ?_ hx512_0; simp only [go_sem])); (case side2 => first | exact hx512_1 | (refine Eq.trans ?_ hx512_1; simp only [go_sem])); (case side3 => first | exact hx512_2 | (refine Eq.trans ?_ hx512_2; simp only [go_sem])); rintro e w' ⟨rfl, ⟨nd, rfl⟩⟩))
     go_ret
     exact ⟨by first | rfl | (simp; done) | (simp [*]; done) | (simp [ne_nil_b, eq_nil_b]; done), by repeat (first | exact Drawn0.refl _ | apply Drawn0.step)⟩
   ·rw [if_neg c6] at H
    have c6b0 : (t513 == 0) = false := beq_eq_false_iff_ne.mpr c6
    have c6b1 : (t513 != 0) = true := bne_iff_ne.mpr c6
    obtain rfl := Option.some.inj H
    go_enter Tryd.func73, Tryd.ntmps73
    go_wp2_with (first | ((with_reducible refine gate_callee (f := 100) rfl ?_); refine goesL_ (some 8) rfl rfl Tryd.func100 (by kernel_rfl) rfl #[.slice A0 l0.length c0] rfl d22_4 ?_; (with_reducible refine (spec_l5Heap.calls k _ _ l0 t511 _ ?side1 ?side2 A3.out).mono ?_); (case side1 => repeat (first | exact HR0.out | (with_reducible refine Kd.C_alloc ?_ _) | (with_reducible refine Kd.C_drewN ?_ _) | (with_reducible refine Kd.C_drew ?_))); (case side2 => exact HC0.out); rintro e w' ⟨rfl, ⟨nd, rfl⟩⟩; refine ⟨_, rfl, ?_⟩; have hx512_0 := HQ1_0.out; have hx512_1 := HQ1_1.out; have hx512_2 := HQ1_2.out) | (go_at_call 90; (with_reducible refine (spec_l5Fault.calls k _ a1_0 a1_1 a1_2 t513 _ ?side1 ?side2 ?side3 A5.out).mono ?_); (case side1 => first | exact hx512_0 | (refine Eq.trans ?_ hx512_0; simp only [go_sem])); (case side2 => first | exact hx512_1 | (refine Eq.trans ?_ hx512_1; simp only [go_sem])); (case side3 => first | exact hx512_2 | (refine Eq.trans ?_ hx512_2; simp only [go_sem])); rintro e w' ⟨rfl, ⟨nd, rfl⟩⟩))
    go_ret
    exact ⟨by first | rfl | (simp; done) | (simp [*]; done) | (simp [ne_nil_b, eq_nil_b]; done), by repeat (first | exact Drawn0.refl _ | apply Drawn0.step)⟩
  ·rw [if_neg c4] at H
   have c4b0 : (t511 == 0) = false := beq_eq_false_iff_ne.mpr c4
   have c4b1 : (t511 != 0) = true := bne_iff_ne.mpr c4
   obtain rfl := Option.some.inj H
   go_enter Tryd.func73, Tryd.ntmps73
   go_wp2_with (first | ((with_reducible refine gate_callee (f := 100) rfl ?_); refine goesL_ (some 8) rfl rfl Tryd.func100 (by kernel_rfl) rfl #[.slice A0 l0.length c0] rfl d22_4 ?_; (with_reducible refine (spec_l5Heap.calls k _ _ l0 t511 _ ?side1 ?side2 A3.out).mono ?_); (case side1 => repeat (first | exact HR0.out | (with_reducible refine Kd.C_alloc ?_ _) | (with_reducible refine Kd.C_drewN ?_ _) | (with_reducible refine Kd.C_drew ?_))); (case side2 => exact HC0.out); rintro e w' ⟨rfl, ⟨nd, rfl⟩⟩; refine ⟨_, rfl, ?_⟩))
   go_ret
   exact ⟨by first | rfl | (simp; done) | (simp [*]; done) | (simp [ne_nil_b, eq_nil_b]; done), by repeat (first | exact Drawn0.refl _ | apply Drawn0.step)⟩

/-! ### spec_ListFrom: function 32 -/
def spec_ListFrom.l0 : Nat → List (S112) → Int → List (S32) → Int → Int → ByteArray → Option (Int × (List (S32)) × Int × Int × ByteArray)
  | 0, _, _, _, _, _, _ => none
  | k + 1, x0, x519000, x519001, x519002, x519003, x519004 => if x519002 = 5 then (if 0 ≤ x519003 then (if x519003 < (x0.length : Int) then (if x519001.length < 4398046511104 then ((some (x519001 ++ [(⟨(rd_T112 x0 x519003).f0.f0, (rd_T112 x0 x519003).f0.f1, (rd_T112 x0 x519003).f0.f2⟩ : S32)] : List (S32))).bind fun y521 => (if (y521.length : Int) > 200 then (some (2, ([] : List (S32)), 0, 0, (⟨#[]⟩ : ByteArray))) else (spec_ListFrom.l0 k x0 x519000 y521 ((rd_T112 x0 x519003).f1.f0) ((rd_T112 x0 x519003).f1.f1) ((rd_T112 x0 x519003).f1.f2)))) else (none)) else (none)) else (none)) else (some (x519000, x519001, x519002, x519003, x519004))
def spec_ListFrom.f (k : Nat) (l0 : List (S112)) (a1_0 : Int) (a1_1 : Int) (a1_2 : ByteArray) : Option (Int × (List (S32)) × Int × Int × ByteArray) := (spec_l5Asked.f k l0 a1_0 a1_1 a1_2).bind fun t517 => (if t517 = 0 then (spec_ListFrom.l0 k l0 0 ([] : List (S32)) a1_0 a1_1 a1_2) else (some (t517, ([] : List (S32)), 0, 0, (⟨#[]⟩ : ByteArray))))
theorem spec_ListFrom.mono_l : ∀ k, (∀ y0 y1 y2 y3 y4 y5, LeO (spec_ListFrom.l0 k y0 y1 y2 y3 y4 y5) (spec_ListFrom.l0 (k + 1) y0 y1 y2 y3 y4 y5))
  | 0 => fun _ _ _ _ _ _ r h => by simp [spec_ListFrom.l0] at h
  | k + 1 => by
    have ih0 := spec_ListFrom.mono_l k
    · intro y0 y1 y2 y3 y4 y5
      unfold spec_ListFrom.l0
      repeat' first
      | (with_reducible exact ih0 _ _ _ _ _ _)
      | (with_reducible exact spec_l5Asked.mono _ _ _ _ _)
      | (with_reducible exact LeO.refl _)
      | (with_reducible exact LeO.none _)
      | (with_reducible refine LeO.ite ?_ ?_)
      | (with_reducible refine LeO.bind ?_ (fun _ => ?_))
      | exact ih0 _ _ _ _ _ _
      | exact spec_l5Asked.mono _ _ _ _ _
      | exact LeO.none _
      | refine LeO.ite ?_ ?_
      | refine LeO.bind ?_ (fun _ => ?_)
theorem spec_ListFrom.mono : ∀ a0 a1 a2 a3 k, LeO (spec_ListFrom.f k a0 a1 a2 a3) (spec_ListFrom.f (k + 1) a0 a1 a2 a3) := by
  intro a0 a1 a2 a3 k
  have ih0 := spec_ListFrom.mono_l k
  unfold spec_ListFrom.f
  repeat' first
      | (with_reducible exact ih0 _ _ _ _ _ _)
      | (with_reducible exact spec_l5Asked.mono _ _ _ _ _)
      | (with_reducible exact LeO.refl _)
      | (with_reducible exact LeO.none _)
      | (with_reducible refine LeO.ite ?_ ?_)
      | (with_reducible refine LeO.bind ?_ (fun _ => ?_))
      | exact ih0 _ _ _ _ _ _
      | exact spec_l5Asked.mono _ _ _ _ _
      | exact LeO.none _
      | refine LeO.ite ?_ ?_
      | refine LeO.bind ?_ (fun _ => ?_)
set_option maxHeartbeats 8000000 in
set_option maxRecDepth 100000 in
theorem spec_ListFrom.calls (k : Nat) (A0 : Option Addr) (c0 : Nat) (l0 : List (S112)) (a1_0 : Int) (a1_1 : Int) (a1_2 : ByteArray) (r1 : Int) (r2 : List (S32)) (r3 : Int) (r4 : Int) (r5 : ByteArray) (w : World) (hr0 : Kd.C k112 w A0 l0.length l0) (hc0 : l0.length ≤ c0) (h : spec_ListFrom.f k l0 a1_0 a1_1 a1_2 = some (r1, r2, r3, r4, r5)) :
    Calls Tryd.prog 32 #[.slice A0 l0.length c0, .agg #[.int .i64 a1_0, .int .i64 a1_1, .string a1_2]] w fun e w' => ∃ v1_ : Value, e = .returned (.agg #[.int .i64 r1, v1_, .int .i64 r3, .int .i64 r4, .string r5]) ∧ Kd.R k32 32 w' w.heap.size (fun _ => True) v1_ r2 ∧ Below w.heap.size w w' := by
  have hu32 := Tryd.underlying32
  have hu61 := Tryd.underlying61
  have hu112 := Tryd.underlying112
  have HR0 := ak hr0
  have HC0 := ak hc0
  clear hr0 hc0
  have HB := ak (Below.refl w.heap.size w)
  have H : ((spec_l5Asked.f k l0 a1_0 a1_1 a1_2).bind fun t517 => (if t517 = 0 then (spec_ListFrom.l0 k l0 0 ([] : List (S32)) a1_0 a1_1 a1_2) else (some (t517, ([] : List (S32)), 0, 0, (⟨#[]⟩ : ByteArray))))) = some (r1, r2, r3, r4, r5) := h
  clear h
  replace H := Option.bind_eq_some_iff.mp H
  obtain ⟨t517, A30, H⟩ := H
  replace H : (if t517 = 0 then (spec_ListFrom.l0 k l0 0 ([] : List (S32)) a1_0 a1_1 a1_2) else (some (t517, ([] : List (S32)), 0, 0, (⟨#[]⟩ : ByteArray)))) = some (r1, r2, r3, r4, r5) := H
  have A3 := ak A30
  clear A30
  by_cases c4 : t517 = 0
  ·rw [if_pos c4] at H
   have c4b0 : (t517 == 0) = true := beq_iff_eq.mpr c4
   have c4b1 : (t517 != 0) = false := bne_eq_false_iff_eq.mpr c4
   clear c4
   have H' := ak H
   clear H
   go_enter Tryd.func32, Tryd.ntmps32
   go_wp2_with (first | ((with_reducible refine gate_dst (N := 3) rfl ?_); refine box_event ?hg (N := 3) ?hd (cs := #[.int .i64 a1_0, .int .i64 a1_1, .string a1_2]) (t := 32) ?hr ?_; (case hd => rfl); (case hg => rfl); (case hr => first | (go_simp; done) | (go_simp; rfl)); intro gb515 hg w5 hbox hb; have n0_ := ak (below_step d22_3 hb); have n1_ := ak (hbox); have n2_ := ak ((d22_21 : w.heap.size ≤ gb515)); have n3_ := ak ((d22_21 : w.heap.size ≤ gb515)); clear HB; have HB := n0_; have BK515 := n1_; have GW515 := n2_; have GE515 := n3_; clear n0_ n1_ n2_ n3_ hb hbox hg) | ((with_reducible refine gate_dst (N := 4) rfl ?_); refine box_event ?hg (N := 4) ?hd (cs := #[.int .i64 0, .slice none 0 0, .int .i64 0, .int .i64 0, .string (⟨#[]⟩ : ByteArray)]) (t := 61) ?hr ?_; (case hd => rfl); (case hg => rfl); (case hr => first | (go_simp; done) | (go_simp; rfl)); intro gb516 hg w6 hbox hb; have n0_ := ak (blk_below (g := gb515) (o := .cells #[.int .i64 a1_0, .int .i64 a1_1, .string a1_2] 32 (0, 0)) d22_1 hb); have n1_ := ak (below_step d22_9 hb); have n2_ := ak (hbox); have n3_ := ak ((by rw [hg]; exact (below_size d22_9) : w.heap.size ≤ gb516)); have n4_ := ak ((by rw [hg]; exact (below_size d22_9) : w.heap.size ≤ gb516)); have n5_ := ak ((by rw [hg]; exact Nat.ne_of_lt (blk_lt (g := gb515) (o := .cells #[.int .i64 a1_0, .int .i64 a1_1, .string a1_2] 32 (0, 0)) d22_1) : gb515 ≠ gb516)); have n6_ := ak ((by rw [hg]; exact Nat.ne_of_gt (blk_lt (g := gb515) (o := .cells #[.int .i64 a1_0, .int .i64 a1_1, .string a1_2] 32 (0, 0)) d22_1) : gb516 ≠ gb515)); clear BK515 HB; have BK515 := n0_; have HB := n1_; have BK516 := n2_; have GW516 := n3_; have GE516 := n4_; have NB515_516 := n5_; have NB516_515 := n6_; clear n0_ n1_ n2_ n3_ n4_ n5_ n6_ hb hbox hg; have hnb7 := NB515_516.out; have hnc7 := NB516_515.out; have hcz8_0 : w6.cell? ⟨gb515, 0, none⟩ = some (.int .i64 a1_0) := (blk_cell BK515.out 0).trans rfl; have hcz8_1 : w6.cell? ⟨gb515, 1, none⟩ = some (.int .i64 a1_1) := (blk_cell BK515.out 1).trans rfl; have hcz8_2 : w6.cell? ⟨gb515, 2, none⟩ = some (.string a1_2) := (blk_cell BK515.out 2).trans rfl; have hfz8_0 := blk_frozen BK515.out 0; have hfz8_1 := blk_frozen BK515.out 1; have hfz8_2 := blk_frozen BK515.out 2) | (go_at_call 73; (with_reducible refine (spec_l5Asked.calls k _ _ l0 _ a1_0 a1_1 a1_2 t517 _ ?side1 ?side2 ?side3 ?side4 ?side5 A3.out).mono ?_); (case side1 => repeat (first | exact (Kd.C_below HR0.out HB.out) | (with_reducible refine Kd.C_alloc ?_ _) | (with_reducible refine Kd.C_drewN ?_ _) | (with_reducible refine Kd.C_drew ?_))); (case side2 => exact HC0.out); (case side3 => first | exact hcz8_0 | (refine Eq.trans ?_ hcz8_0; simp only [go_sem]) | exact ((blk_cell d22_1 0).trans rfl) | (refine Eq.trans ?_ ((blk_cell d22_1 0).trans rfl); simp only [go_sem])); (case side4 => first | exact hcz8_1 | (refine Eq.trans ?_ hcz8_1; simp only [go_sem]) | exact ((blk_cell d22_1 1).trans rfl) | (refine Eq.trans ?_ ((blk_cell d22_1 1).trans rfl); simp only [go_sem])); (case side5 => first | exact hcz8_2 | (refine Eq.trans ?_ hcz8_2; simp only [go_sem]) | exact ((blk_cell d22_1 2).trans rfl) | (refine Eq.trans ?_ ((blk_cell d22_1 2).trans rfl); simp only [go_sem])); rintro e w' ⟨rfl, ⟨nd, rfl⟩⟩; (try (rw [drewN_self w6]; generalize hq_ : World.drewN w6 _ = w6; have n0_ : Aside0 (w6.heap[gb515]? = some (.cells #[.int .i64 a1_0, .int .i64 a1_1, .string a1_2] 32 (0, 0))) := ⟨by rw [← hq_]; exact d22_1⟩; have n1_ : Aside0 (w6.heap[gb516]? = some (.cells #[.int .i64 0, .slice none 0 0, .int .i64 0, .int .i64 0, .string (⟨#[]⟩ : ByteArray)] 61 (0, 0))) := ⟨by rw [← hq_]; exact d22_5⟩; have n2_ : Aside0 (Below w.heap.size w w6) := ⟨by rw [← hq_]; exact d22_11⟩; clear BK515 BK516 HB hq_; have BK515 := n0_; have BK516 := n1_; have HB := n2_; clear n0_ n1_ n2_)); have hcz9_0 : w6.cell? ⟨gb515, 0, none⟩ = some (.int .i64 a1_0) := (blk_cell BK515.out 0).trans rfl; have hcz9_1 : w6.cell? ⟨gb515, 1, none⟩ = some (.int .i64 a1_1) := (blk_cell BK515.out 1).trans rfl; have hcz9_2 : w6.cell? ⟨gb515, 2, none⟩ = some (.string a1_2) := (blk_cell BK515.out 2).trans rfl; have hfz9_0 := blk_frozen BK515.out 0; have hfz9_1 := blk_frozen BK515.out 1; have hfz9_2 := blk_frozen BK515.out 2) | ((with_reducible refine gate_dst (N := 6) rfl ?_); refine box_event ?hg (N := 6) ?hd (cs := #[.int .i64 0, .slice none 0 0, .int .i64 0, .int .i64 0, .string (⟨#[]⟩ : ByteArray)]) (t := 61) ?hr ?_; (case hd => rfl); (case hg => rfl); (case hr => first | (go_simp; done) | (go_simp; rfl)); intro gb518 hg w10 hbox hb; have n0_ := ak (blk_below (g := gb515) (o := .cells #[.int .i64 a1_0, .int .i64 a1_1, .string a1_2] 32 (0, 0)) d22_1 hb); have n1_ := ak (blk_below (g := gb516) (o := .cells #[.int .i64 0, .slice none 0 0, .int .i64 0, .int .i64 0, .string (⟨#[]⟩ : ByteArray)] 61 (0, 0)) d22_5 hb); have n2_ := ak (below_step d22_11 hb); have n3_ := ak (hbox); have n4_ := ak ((by rw [hg]; exact (below_size d22_11) : w.heap.size ≤ gb518)); have n5_ := ak ((by rw [hg]; exact (below_size d22_11) : w.heap.size ≤ gb518)); have n6_ := ak ((by rw [hg]; exact Nat.ne_of_lt (blk_lt (g := gb515) (o := .cells #[.int .i64 a1_0, .int .i64 a1_1, .string a1_2] 32 (0, 0)) d22_1) : gb515 ≠ gb518)); have n7_ := ak ((by rw [hg]; exact Nat.ne_of_gt (blk_lt (g := gb515) (o := .cells #[.int .i64 a1_0, .int .i64 a1_1, .string a1_2] 32 (0, 0)) d22_1) : gb518 ≠ gb515)); have n8_ := ak ((by rw [hg]; exact Nat.ne_of_lt (blk_lt (g := gb516) (o := .cells #[.int .i64 0, .slice none 0 0, .int .i64 0, .int .i64 0, .string (⟨#[]⟩ : ByteArray)] 61 (0, 0)) d22_5) : gb516 ≠ gb518)); have n9_ := ak ((by rw [hg]; exact Nat.ne_of_gt (blk_lt (g := gb516) (o := .cells #[.int .i64 0, .slice none 0 0, .int .i64 0, .int .i64 0, .string (⟨#[]⟩ : ByteArray)] 61 (0, 0)) d22_5) : gb518 ≠ gb516)); clear BK515 BK516 HB; have BK515 := n0_; have BK516 := n1_; have HB := n2_; have BK518 := n3_; have GW518 := n4_; have GE518 := n5_; have NB515_518 := n6_; have NB518_515 := n7_; have NB516_518 := n8_; have NB518_516 := n9_; clear n0_ n1_ n2_ n3_ n4_ n5_ n6_ n7_ n8_ n9_ hb hbox hg; have hnb11 := NB518_515.out; have hnc11 := NB515_518.out; have hnb12 := NB518_516.out; have hnc12 := NB516_518.out; have hcz13_0 : w10.cell? ⟨gb518, 0, none⟩ = some (.int .i64 0) := (blk_cell BK518.out 0).trans rfl; have hcz13_1 : w10.cell? ⟨gb518, 1, none⟩ = some (.slice none 0 0) := (blk_cell BK518.out 1).trans rfl; have hcz13_2 : w10.cell? ⟨gb518, 2, none⟩ = some (.int .i64 0) := (blk_cell BK518.out 2).trans rfl; have hcz13_3 : w10.cell? ⟨gb518, 3, none⟩ = some (.int .i64 0) := (blk_cell BK518.out 3).trans rfl; have hcz13_4 : w10.cell? ⟨gb518, 4, none⟩ = some (.string (⟨#[]⟩ : ByteArray)) := (blk_cell BK518.out 4).trans rfl; have hfz13_0 := blk_frozen BK518.out 0; have hfz13_1 := blk_frozen BK518.out 1; have hfz13_2 := blk_frozen BK518.out 2; have hfz13_3 := blk_frozen BK518.out 3; have hfz13_4 := blk_frozen BK518.out 4))
   go_loopg [] k (fun kq w' => ∃ (x517000_1 : Int) (x517002_1 : Int) (x517003_1 : Int) (x517004_1 : ByteArray) (x519001_1 : List (S32)) (x519002_1 : Int) (x519003_1 : Int) (x519004_1 : ByteArray) (u519001 : Value), Aside0 (spec_ListFrom.l0 kq l0 0 x519001_1 x519002_1 x519003_1 x519004_1 = some (r1, r2, r3, r4, r5)) ∧ Aside0 (kq ≤ k) ∧ Aside0 (Kd.R k32 32 w' w.heap.size (fun k_ => k_ ≠ gb515) u519001 x519001_1) ∧ Aside0 (w'.heap[gb515]? = some (.cells #[.int .i64 a1_0, .int .i64 a1_1, .string a1_2] 32 (0, 0))) ∧ Aside0 (w'.heap[gb516]? = some (.cells #[.int .i64 x517000_1, (.slice none 0 0), .int .i64 x517002_1, .int .i64 x517003_1, .string x517004_1] 61 (0, 0))) ∧ Aside0 (w'.heap[gb518]? = some (.cells #[.int .i64 0, u519001, .int .i64 x519002_1, .int .i64 x519003_1, .string x519004_1] 61 (0, 0))) ∧ Aside0 (Below w.heap.size w w'))
   case atStart => exact ⟨(0), (0), (0), ((⟨#[]⟩ : ByteArray)), (([] : List (S32))), (a1_0), (a1_1), (a1_2), (.slice none 0 0), H', ⟨Nat.le_refl _⟩, ⟨by first | exact Kd.R_nil _ _ _ _ _ | exact Kd.N_nil _ _ _ _ _ | exact Kd.V_nil _ _ _ _ _ | exact Kd.Q_nil _ _ _ _ _ | exact Kd.S_nil _ _ _ _ _⟩, ⟨by (with_reducible repeat (first | refine blk_drewN ?_ _ | refine blk_drew ?_ | refine blk_alloc ?_ _)); refine blk_far ?_ NB515_518.out _; (with_reducible repeat (first | refine blk_drewN ?_ _ | refine blk_drew ?_ | refine blk_alloc ?_ _)); refine blk_far ?_ NB515_518.out _; (with_reducible repeat (first | refine blk_drewN ?_ _ | refine blk_drew ?_ | refine blk_alloc ?_ _)); refine blk_far ?_ NB515_518.out _; (with_reducible repeat (first | refine blk_drewN ?_ _ | refine blk_drew ?_ | refine blk_alloc ?_ _)); refine blk_far ?_ NB515_518.out _; (with_reducible repeat (first | refine blk_drewN ?_ _ | refine blk_drew ?_ | refine blk_alloc ?_ _)); refine blk_far ?_ NB515_518.out _; (with_reducible repeat (first | refine blk_drewN ?_ _ | refine blk_drew ?_ | refine blk_alloc ?_ _)); exact BK515.out⟩, ⟨by (with_reducible repeat (first | refine blk_drewN ?_ _ | refine blk_drew ?_ | refine blk_alloc ?_ _)); refine blk_far ?_ NB516_518.out _; (with_reducible repeat (first | refine blk_drewN ?_ _ | refine blk_drew ?_ | refine blk_alloc ?_ _)); refine blk_far ?_ NB516_518.out _; (with_reducible repeat (first | refine blk_drewN ?_ _ | refine blk_drew ?_ | refine blk_alloc ?_ _)); refine blk_far ?_ NB516_518.out _; (with_reducible repeat (first | refine blk_drewN ?_ _ | refine blk_drew ?_ | refine blk_alloc ?_ _)); refine blk_far ?_ NB516_518.out _; (with_reducible repeat (first | refine blk_drewN ?_ _ | refine blk_drew ?_ | refine blk_alloc ?_ _)); refine blk_far ?_ NB516_518.out _; (with_reducible repeat (first | refine blk_drewN ?_ _ | refine blk_drew ?_ | refine blk_alloc ?_ _)); exact BK516.out⟩, ⟨by (with_reducible repeat (first | refine blk_drewN ?_ _ | refine blk_drew ?_ | refine blk_alloc ?_ _)); refine blk_put (cs := #[.int .i64 0, .slice none 0 0, .int .i64 a1_0, .int .i64 a1_1, .string (⟨#[]⟩ : ByteArray)]) ?_ 4 _ rfl; (with_reducible repeat (first | refine blk_drewN ?_ _ | refine blk_drew ?_ | refine blk_alloc ?_ _)); refine blk_put (cs := #[.int .i64 0, .slice none 0 0, .int .i64 a1_0, .int .i64 0, .string (⟨#[]⟩ : ByteArray)]) ?_ 3 _ rfl; (with_reducible repeat (first | refine blk_drewN ?_ _ | refine blk_drew ?_ | refine blk_alloc ?_ _)); refine blk_put (cs := #[.int .i64 0, .slice none 0 0, .int .i64 0, .int .i64 0, .string (⟨#[]⟩ : ByteArray)]) ?_ 2 _ rfl; (with_reducible repeat (first | refine blk_drewN ?_ _ | refine blk_drew ?_ | refine blk_alloc ?_ _)); refine blk_put (cs := #[.int .i64 0, .slice none 0 0, .int .i64 0, .int .i64 0, .string (⟨#[]⟩ : ByteArray)]) ?_ 1 _ rfl; (with_reducible repeat (first | refine blk_drewN ?_ _ | refine blk_drew ?_ | refine blk_alloc ?_ _)); refine blk_put (cs := #[.int .i64 0, .slice none 0 0, .int .i64 0, .int .i64 0, .string (⟨#[]⟩ : ByteArray)]) ?_ 0 _ rfl; (with_reducible repeat (first | refine blk_drewN ?_ _ | refine blk_drew ?_ | refine blk_alloc ?_ _)); exact BK518.out⟩, ⟨by repeat (first | (with_reducible first | exact HB.out | apply below_alloc | apply pw_below_drewN | apply below_drew1 | refine below_set ?_ GE515.out | refine below_set ?_ GE516.out | refine below_set ?_ GE518.out) | exact HB.out)⟩⟩
   case round =>
    clear H'
    try clear c1
    try clear p2
    try clear c3
    try clear c4
    try clear c4b0
    try clear c4b1
    try clear c7
    try clear c11
    try clear c12
    try clear hcz13_0
    try clear hcz13_1
    try clear hcz13_2
    try clear hcz13_3
    try clear hcz13_4
    try clear hcz8_0
    try clear hcz8_1
    try clear hcz8_2
    try clear hcz9_0
    try clear hcz9_1
    try clear hcz9_2
    try clear hfz13_0
    try clear hfz13_1
    try clear hfz13_2
    try clear hfz13_3
    try clear hfz13_4
    try clear hfz8_0
    try clear hfz8_1
    try clear hfz8_2
    try clear hfz9_0
    try clear hfz9_1
    try clear hfz9_2
    obtain ⟨x517000_1, x517002_1, x517003_1, x517004_1, x519001_1, x519002_1, x519003_1, x519004_1, u519001, HA, HK1, HO_519001, BK515, BK516, BK518, HB⟩ := hrel
    cases gk with
    | zero => exact absurd HA.out (by simp [spec_ListFrom.l0])
    | succ k1 =>
     have H := HA.out
     clear HA
     simp only [spec_ListFrom.l0] at H
     by_cases c14 : x519002_1 = 5
     ·rw [if_pos c14] at H
      have c14b0 : (x519002_1 == 5) = true := beq_iff_eq.mpr c14
      have c14b1 : (x519002_1 != 5) = false := bne_eq_false_iff_eq.mpr c14
      clear c14
      by_cases c15 : 0 ≤ x519003_1
      ·rw [if_pos c15] at H
       have c15b0 : decide (0 ≤ x519003_1) = true := decide_eq_true c15
       clear c15
       by_cases c16 : x519003_1 < (l0.length : Int)
       ·rw [if_pos c16] at H
        have c16b0 : decide (x519003_1 < (l0.length : Int)) = true := decide_eq_true c16
        clear c16
        by_cases c17 : x519001_1.length < 4398046511104
        ·rw [if_pos c17] at H
         have LMc17 := ak c17
         clear c17
         obtain ⟨y521, hy521⟩ : ∃ y_ : List (S32), y_ = (x519001_1 ++ [(⟨(rd_T112 l0 x519003_1).f0.f0, (rd_T112 l0 x519003_1).f0.f1, (rd_T112 l0 x519003_1).f0.f2⟩ : S32)]) := ⟨_, rfl⟩
         replace H : (if (y521.length : Int) > 200 then (some (2, ([] : List (S32)), 0, 0, (⟨#[]⟩ : ByteArray))) else (spec_ListFrom.l0 k1 l0 0 y521 ((rd_T112 l0 x519003_1).f1.f0) ((rd_T112 l0 x519003_1).f1.f1) ((rd_T112 l0 x519003_1).f1.f2))) = some (r1, r2, r3, r4, r5) := by first | (rw [hy521]; with_reducible exact H) | (have H2_ := (Option.bind_some _ _).symm.trans H; rw [hy521]; with_reducible exact H2_) | (have H2_ := (Option.bind_some _ _).symm.trans H; with_reducible exact H2_) | with_reducible exact H | (rw [hy521]; exact H) | exact H
         have Ny521 := ak hy521
         clear hy521
         by_cases c18 : (y521.length : Int) > 200
         ·rw [if_pos c18] at H
          have c18b0 : decide (200 < (y521.length : Int)) = true := decide_eq_true c18
          have c18b1 : decide (200 < y521.length) = true := decide_eq_true (by omega)
          clear c18
          simp only [Option.some.injEq, Prod.mk.injEq] at H
          obtain ⟨rfl, rfl, rfl, rfl, rfl⟩ := H
          have hnb19 := NB518_515.out
          have hnc19 := NB515_518.out
          have hnb20 := NB518_516.out
          have hnc20 := NB516_518.out
          have hcz21_0 : wr.cell? ⟨gb518, 0, none⟩ = some (.int .i64 0) := (blk_cell BK518.out 0).trans rfl
          have hcz21_1 : wr.cell? ⟨gb518, 1, none⟩ = some (u519001) := (blk_cell BK518.out 1).trans rfl
          have hcz21_2 : wr.cell? ⟨gb518, 2, none⟩ = some (.int .i64 x519002_1) := (blk_cell BK518.out 2).trans rfl
          have hcz21_3 : wr.cell? ⟨gb518, 3, none⟩ = some (.int .i64 x519003_1) := (blk_cell BK518.out 3).trans rfl
          have hcz21_4 : wr.cell? ⟨gb518, 4, none⟩ = some (.string x519004_1) := (blk_cell BK518.out 4).trans rfl
          have hfz21_0 := blk_frozen BK518.out 0
          have hfz21_1 := blk_frozen BK518.out 1
          have hfz21_2 := blk_frozen BK518.out 2
          have hfz21_3 := blk_frozen BK518.out 3
          have hfz21_4 := blk_frozen BK518.out 4
          have p519 : 0 ≤ (x519003_1 : Int) := of_decide_eq_true d22_10
          have q519 : x519003_1 < (l0.length : Int) := of_decide_eq_true d22_10
          obtain ⟨ad519, e519, hx519_0, hx519_1, hx519_2, hx519_3, hx519_4, hx519_5⟩ := at_T112 HR0.out x519003_1 p519 q519
          cases e519
          replace hx519_0 := (HB.out.cell (World.block_lt_of_cell? w _ hx519_0)).trans hx519_0
          replace hx519_1 := (HB.out.cell (World.block_lt_of_cell? w _ hx519_1)).trans hx519_1
          replace hx519_2 := (HB.out.cell (World.block_lt_of_cell? w _ hx519_2)).trans hx519_2
          replace hx519_3 := (HB.out.cell (World.block_lt_of_cell? w _ hx519_3)).trans hx519_3
          replace hx519_4 := (HB.out.cell (World.block_lt_of_cell? w _ hx519_4)).trans hx519_4
          replace hx519_5 := (HB.out.cell (World.block_lt_of_cell? w _ hx519_5)).trans hx519_5
          replace p519 := eq_true p519
          replace q519 := eq_true q519
          go_wp2_with (first | ((with_reducible refine gate_dst (N := 7) rfl ?_); refine box_event ?hg (N := 7) ?hd (cs := #[.int .i64 0, .int .i64 0, .string (⟨#[]⟩ : ByteArray), .int .i64 0, .int .i64 0, .string (⟨#[]⟩ : ByteArray)]) (t := 112) ?hr ?_; (case hd => rfl); (case hg => rfl); (case hr => first | (go_simp; done) | (go_simp; rfl)); intro gb520 hg w22 hbox hb; have n0_ := ak (Kd.R_below (by (with_reducible repeat (first | apply Kd.R_alloc | apply Kd.R_drewN | apply Kd.R_drew)); exact HO_519001.out) hb); have n1_ := ak (blk_below (g := gb515) (o := .cells #[.int .i64 a1_0, .int .i64 a1_1, .string a1_2] 32 (0, 0)) d22_1 hb); have n2_ := ak (blk_below (g := gb516) (o := .cells #[.int .i64 x517000_1, .slice none 0 0, .int .i64 x517002_1, .int .i64 x517003_1, .string x517004_1] 61 (0, 0)) d22_5 hb); have n3_ := ak (blk_below (g := gb518) (o := .cells #[.int .i64 0, u519001, .int .i64 x519002_1, .int .i64 x519003_1, .string x519004_1] 61 (0, 0)) d22_15 hb); have n4_ := ak (below_step d22_6 hb); have n5_ := ak (hbox); have n6_ := ak ((by rw [hg]; exact (below_size d22_6) : w.heap.size ≤ gb520)); have n7_ := ak ((by rw [hg]; exact (below_size d22_6) : w.heap.size ≤ gb520)); have n8_ := ak ((by rw [hg]; exact Nat.ne_of_lt (blk_lt (g := gb515) (o := .cells #[.int .i64 a1_0, .int .i64 a1_1, .string a1_2] 32 (0, 0)) d22_1) : gb515 ≠ gb520)); have n9_ := ak ((by rw [hg]; exact Nat.ne_of_gt (blk_lt (g := gb515) (o := .cells #[.int .i64 a1_0, .int .i64 a1_1, .string a1_2] 32 (0, 0)) d22_1) : gb520 ≠ gb515)); have n10_ := ak ((by rw [hg]; exact Nat.ne_of_lt (blk_lt (g := gb516) (o := .cells #[.int .i64 x517000_1, .slice none 0 0, .int .i64 x517002_1, .int .i64 x517003_1, .string x517004_1] 61 (0, 0)) d22_5) : gb516 ≠ gb520)); have n11_ := ak ((by rw [hg]; exact Nat.ne_of_gt (blk_lt (g := gb516) (o := .cells #[.int .i64 x517000_1, .slice none 0 0, .int .i64 x517002_1, .int .i64 x517003_1, .string x517004_1] 61 (0, 0)) d22_5) : gb520 ≠ gb516)); have n12_ := ak ((by rw [hg]; exact Nat.ne_of_lt (blk_lt (g := gb518) (o := .cells #[.int .i64 0, u519001, .int .i64 x519002_1, .int .i64 x519003_1, .string x519004_1] 61 (0, 0)) d22_15) : gb518 ≠ gb520)); have n13_ := ak ((by rw [hg]; exact Nat.ne_of_gt (blk_lt (g := gb518) (o := .cells #[.int .i64 0, u519001, .int .i64 x519002_1, .int .i64 x519003_1, .string x519004_1] 61 (0, 0)) d22_15) : gb520 ≠ gb518)); clear HO_519001 BK515 BK516 BK518 HB; have HO_519001 := n0_; have BK515 := n1_; have BK516 := n2_; have BK518 := n3_; have HB := n4_; have BK520 := n5_; have GW520 := n6_; have GE520 := n7_; have NB515_520 := n8_; have NB520_515 := n9_; have NB516_520 := n10_; have NB520_516 := n11_; have NB518_520 := n12_; have NB520_518 := n13_; clear n0_ n1_ n2_ n3_ n4_ n5_ n6_ n7_ n8_ n9_ n10_ n11_ n12_ n13_ hb hbox hg; have hnb23 := NB520_515.out; have hnc23 := NB515_520.out; have hnb24 := NB520_516.out; have hnc24 := NB516_520.out; have hnb25 := NB520_518.out; have hnc25 := NB518_520.out; have hcz26_0 : w22.cell? ⟨gb520, 0, none⟩ = some (.int .i64 0) := (blk_cell BK520.out 0).trans rfl; have hcz26_1 : w22.cell? ⟨gb520, 1, none⟩ = some (.int .i64 0) := (blk_cell BK520.out 1).trans rfl; have hcz26_2 : w22.cell? ⟨gb520, 2, none⟩ = some (.string (⟨#[]⟩ : ByteArray)) := (blk_cell BK520.out 2).trans rfl; have hcz26_3 : w22.cell? ⟨gb520, 3, none⟩ = some (.int .i64 0) := (blk_cell BK520.out 3).trans rfl; have hcz26_4 : w22.cell? ⟨gb520, 4, none⟩ = some (.int .i64 0) := (blk_cell BK520.out 4).trans rfl; have hcz26_5 : w22.cell? ⟨gb520, 5, none⟩ = some (.string (⟨#[]⟩ : ByteArray)) := (blk_cell BK520.out 5).trans rfl; have hfz26_0 := blk_frozen BK520.out 0; have hfz26_1 := blk_frozen BK520.out 1; have hfz26_2 := blk_frozen BK520.out 2; have hfz26_3 := blk_frozen BK520.out 3; have hfz26_4 := blk_frozen BK520.out 4; have hfz26_5 := blk_frozen BK520.out 5; have hcz27_0 : w22.cell? ⟨gb518, 0, none⟩ = some (.int .i64 0) := (blk_cell BK518.out 0).trans rfl; have hcz27_1 : w22.cell? ⟨gb518, 1, none⟩ = some (u519001) := (blk_cell BK518.out 1).trans rfl; have hcz27_2 : w22.cell? ⟨gb518, 2, none⟩ = some (.int .i64 x519002_1) := (blk_cell BK518.out 2).trans rfl; have hcz27_3 : w22.cell? ⟨gb518, 3, none⟩ = some (.int .i64 x519003_1) := (blk_cell BK518.out 3).trans rfl; have hcz27_4 : w22.cell? ⟨gb518, 4, none⟩ = some (.string x519004_1) := (blk_cell BK518.out 4).trans rfl; have hfz27_0 := blk_frozen BK518.out 0; have hfz27_1 := blk_frozen BK518.out 1; have hfz27_2 := blk_frozen BK518.out 2; have hfz27_3 := blk_frozen BK518.out 3; have hfz27_4 := blk_frozen BK518.out 4) | ((with_reducible refine gate_builtin (b := .append) (xs := #[.tmp 27, .tmp 30]) rfl ?_); at_builtin; refine Kd.R_append k32 (w0 := w) w.heap.size rfl (.tmp 27) (.tmp 30) 59 32 (.agg #[(.int .i64 0), (.int .i64 0), (.string ⟨#[]⟩)]) 32 rfl Tryd.underlying59 info32 rfl (by decide) (by omega) u519001 x519001_1 (⟨(rd_T112 l0 x519003_1).f0.f0, (rd_T112 l0 x519003_1).f0.f1, (rd_T112 l0 x519003_1).f0.f2⟩ : S32) [.int .i64 ((rd_T112 l0 x519003_1).f0.f0), .int .i64 ((rd_T112 l0 x519003_1).f0.f1), .string ((rd_T112 l0 x519003_1).f0.f2)] (fun k_ => k_ ≠ gb515) (fun _ => False) rfl (by first | (go_simp; done) | (go_simp; rfl)) ?aP (fun _ hk => hk.elim) ?aF ?aO ?aB ?aS ?aL ?_; (case aP => exact k32_mkM _ _ _ (⟨(rd_T112 l0 x519003_1).f0.f0, (rd_T112 l0 x519003_1).f0.f1, (rd_T112 l0 x519003_1).f0.f2⟩ : S32)); (case aB => exact d22_12); (case aF => exact (fun k_ hk => Kd.freshB (g := gb515) (o := .cells #[.int .i64 a1_0, .int .i64 a1_1, .string a1_2] 32 (0, 0)) d22_2 k_ hk)); (case aO => exact (by (with_reducible repeat (first | apply Kd.R_alloc | apply Kd.R_drewN | apply Kd.R_drew)); exact Kd.R_mono (Kd.R_far (p := ⟨gb520, 5, none⟩) (Kd.R_far (p := ⟨gb520, 4, none⟩) (Kd.R_far (p := ⟨gb520, 3, none⟩) (Kd.R_far (p := ⟨gb520, 2, none⟩) (Kd.R_far (p := ⟨gb520, 1, none⟩) (Kd.R_far (p := ⟨gb520, 0, none⟩) (Kd.R_types HO_519001.out BK520.out (by decide)) (fun _ hk => hk.2) (.int .i64 ((rd_T112 l0 x519003_1).f0.f0))) (fun _ hk => hk.2) (.int .i64 ((rd_T112 l0 x519003_1).f0.f1))) (fun _ hk => hk.2) (.string ((rd_T112 l0 x519003_1).f0.f2))) (fun _ hk => hk.2) (.int .i64 ((rd_T112 l0 x519003_1).f1.f0))) (fun _ hk => hk.2) (.int .i64 ((rd_T112 l0 x519003_1).f1.f1))) (fun _ hk => hk.2) (.string ((rd_T112 l0 x519003_1).f1.f2))) (fun _ hk => hk.1))); (case aS => exact (below_size d22_12)); (case aL => have := LMc17.out; omega); intro v522 w28 ho hb hg hat; rw [← Ny521.out] at ho; have n0_ := ak (blk_grown (g := gb515) (o := .cells #[.int .i64 a1_0, .int .i64 a1_1, .string a1_2] 32 (0, 0)) d22_2 hg (Kd.R_away HO_519001.out (fun _ hk => hk))); have n1_ := ak (blk_grown (g := gb516) (o := .cells #[.int .i64 x517000_1, .slice none 0 0, .int .i64 x517002_1, .int .i64 x517003_1, .string x517004_1] 61 (0, 0)) d22_7 hg (Kd.R_ne HO_519001.out BK516.out (by decide))); have n2_ := ak (blk_grown (g := gb518) (o := .cells #[.int .i64 0, u519001, .int .i64 x519002_1, .int .i64 x519003_1, .string x519004_1] 61 (0, 0)) d22_8 hg (Kd.R_ne HO_519001.out BK518.out (by decide))); have n3_ := ak (blk_grown (g := gb520) (o := .cells #[.int .i64 ((rd_T112 l0 x519003_1).f0.f0), .int .i64 ((rd_T112 l0 x519003_1).f0.f1), .string ((rd_T112 l0 x519003_1).f0.f2), .int .i64 ((rd_T112 l0 x519003_1).f1.f0), .int .i64 ((rd_T112 l0 x519003_1).f1.f1), .string ((rd_T112 l0 x519003_1).f1.f2)] 112 (0, 0)) (by (with_reducible repeat (first | refine blk_drewN ?_ _ | refine blk_drew ?_ | refine blk_alloc ?_ _)); refine blk_put (cs := #[.int .i64 ((rd_T112 l0 x519003_1).f0.f0), .int .i64 ((rd_T112 l0 x519003_1).f0.f1), .string ((rd_T112 l0 x519003_1).f0.f2), .int .i64 ((rd_T112 l0 x519003_1).f1.f0), .int .i64 ((rd_T112 l0 x519003_1).f1.f1), .string (⟨#[]⟩ : ByteArray)]) ?_ 5 _ rfl; (with_reducible repeat (first | refine blk_drewN ?_ _ | refine blk_drew ?_ | refine blk_alloc ?_ _)); refine blk_put (cs := #[.int .i64 ((rd_T112 l0 x519003_1).f0.f0), .int .i64 ((rd_T112 l0 x519003_1).f0.f1), .string ((rd_T112 l0 x519003_1).f0.f2), .int .i64 ((rd_T112 l0 x519003_1).f1.f0), .int .i64 0, .string (⟨#[]⟩ : ByteArray)]) ?_ 4 _ rfl; (with_reducible repeat (first | refine blk_drewN ?_ _ | refine blk_drew ?_ | refine blk_alloc ?_ _)); refine blk_put (cs := #[.int .i64 ((rd_T112 l0 x519003_1).f0.f0), .int .i64 ((rd_T112 l0 x519003_1).f0.f1), .string ((rd_T112 l0 x519003_1).f0.f2), .int .i64 0, .int .i64 0, .string (⟨#[]⟩ : ByteArray)]) ?_ 3 _ rfl; (with_reducible repeat (first | refine blk_drewN ?_ _ | refine blk_drew ?_ | refine blk_alloc ?_ _)); refine blk_put (cs := #[.int .i64 ((rd_T112 l0 x519003_1).f0.f0), .int .i64 ((rd_T112 l0 x519003_1).f0.f1), .string (⟨#[]⟩ : ByteArray), .int .i64 0, .int .i64 0, .string (⟨#[]⟩ : ByteArray)]) ?_ 2 _ rfl; (with_reducible repeat (first | refine blk_drewN ?_ _ | refine blk_drew ?_ | refine blk_alloc ?_ _)); refine blk_put (cs := #[.int .i64 ((rd_T112 l0 x519003_1).f0.f0), .int .i64 0, .string (⟨#[]⟩ : ByteArray), .int .i64 0, .int .i64 0, .string (⟨#[]⟩ : ByteArray)]) ?_ 1 _ rfl; (with_reducible repeat (first | refine blk_drewN ?_ _ | refine blk_drew ?_ | refine blk_alloc ?_ _)); refine blk_put (cs := #[.int .i64 0, .int .i64 0, .string (⟨#[]⟩ : ByteArray), .int .i64 0, .int .i64 0, .string (⟨#[]⟩ : ByteArray)]) ?_ 0 _ rfl; (with_reducible repeat (first | refine blk_drewN ?_ _ | refine blk_drew ?_ | refine blk_alloc ?_ _)); exact BK520.out) hg (Kd.R_ne HO_519001.out BK520.out (by decide))); have n4_ := ak (hb); have n5_ := ak (ho); clear BK515 BK516 BK518 BK520 HB HO_519001; have BK515 := n0_; have BK516 := n1_; have BK518 := n2_; have BK520 := n3_; have HB := n4_; have HO523 := n5_; clear n0_ n1_ n2_ n3_ n4_ n5_ ho hb hg hat; obtain ⟨Ao29, co29, eo29⟩ := Kd.R_slice HO523.out; subst eo29; have hcz30_0 : w28.cell? ⟨gb518, 0, none⟩ = some (.int .i64 0) := (blk_cell BK518.out 0).trans rfl; have hcz30_1 : w28.cell? ⟨gb518, 1, none⟩ = some (u519001) := (blk_cell BK518.out 1).trans rfl; have hcz30_2 : w28.cell? ⟨gb518, 2, none⟩ = some (.int .i64 x519002_1) := (blk_cell BK518.out 2).trans rfl; have hcz30_3 : w28.cell? ⟨gb518, 3, none⟩ = some (.int .i64 x519003_1) := (blk_cell BK518.out 3).trans rfl; have hcz30_4 : w28.cell? ⟨gb518, 4, none⟩ = some (.string x519004_1) := (blk_cell BK518.out 4).trans rfl; have hfz30_0 := blk_frozen BK518.out 0; have hfz30_1 := blk_frozen BK518.out 1; have hfz30_2 := blk_frozen BK518.out 2; have hfz30_3 := blk_frozen BK518.out 3; have hfz30_4 := blk_frozen BK518.out 4; have hcz31_0 : w28.cell? ⟨gb520, 0, none⟩ = some (.int .i64 ((rd_T112 l0 x519003_1).f0.f0)) := (blk_cell BK520.out 0).trans rfl; have hcz31_1 : w28.cell? ⟨gb520, 1, none⟩ = some (.int .i64 ((rd_T112 l0 x519003_1).f0.f1)) := (blk_cell BK520.out 1).trans rfl; have hcz31_2 : w28.cell? ⟨gb520, 2, none⟩ = some (.string ((rd_T112 l0 x519003_1).f0.f2)) := (blk_cell BK520.out 2).trans rfl; have hcz31_3 : w28.cell? ⟨gb520, 3, none⟩ = some (.int .i64 ((rd_T112 l0 x519003_1).f1.f0)) := (blk_cell BK520.out 3).trans rfl; have hcz31_4 : w28.cell? ⟨gb520, 4, none⟩ = some (.int .i64 ((rd_T112 l0 x519003_1).f1.f1)) := (blk_cell BK520.out 4).trans rfl; have hcz31_5 : w28.cell? ⟨gb520, 5, none⟩ = some (.string ((rd_T112 l0 x519003_1).f1.f2)) := (blk_cell BK520.out 5).trans rfl; have hfz31_0 := blk_frozen BK520.out 0; have hfz31_1 := blk_frozen BK520.out 1; have hfz31_2 := blk_frozen BK520.out 2; have hfz31_3 := blk_frozen BK520.out 3; have hfz31_4 := blk_frozen BK520.out 4; have hfz31_5 := blk_frozen BK520.out 5; have hnb32 := NB516_515.out; have hnc32 := NB515_516.out; have hcz33_0 : w28.cell? ⟨gb516, 0, none⟩ = some (.int .i64 x517000_1) := (blk_cell BK516.out 0).trans rfl; have hcz33_1 : w28.cell? ⟨gb516, 1, none⟩ = some (.slice none 0 0) := (blk_cell BK516.out 1).trans rfl; have hcz33_2 : w28.cell? ⟨gb516, 2, none⟩ = some (.int .i64 x517002_1) := (blk_cell BK516.out 2).trans rfl; have hcz33_3 : w28.cell? ⟨gb516, 3, none⟩ = some (.int .i64 x517003_1) := (blk_cell BK516.out 3).trans rfl; have hcz33_4 : w28.cell? ⟨gb516, 4, none⟩ = some (.string x517004_1) := (blk_cell BK516.out 4).trans rfl; have hfz33_0 := blk_frozen BK516.out 0; have hfz33_1 := blk_frozen BK516.out 1; have hfz33_2 := blk_frozen BK516.out 2; have hfz33_3 := blk_frozen BK516.out 3; have hfz33_4 := blk_frozen BK516.out 4))
          refine bodyPost_ret (results_cell_row rfl _ _ gb516 61 #[.int .i64 2, .slice none 0 0, .int .i64 0, .int .i64 0, .string (⟨#[]⟩ : ByteArray)] (0, 0) _ rfl (by (with_reducible repeat (first | refine blk_drewN ?_ _ | refine blk_drew ?_ | refine blk_alloc ?_ _)); refine blk_put (cs := #[.int .i64 2, .slice none 0 0, .int .i64 0, .int .i64 0, .string x517004_1]) ?_ 4 _ rfl; (with_reducible repeat (first | refine blk_drewN ?_ _ | refine blk_drew ?_ | refine blk_alloc ?_ _)); refine blk_put (cs := #[.int .i64 2, .slice none 0 0, .int .i64 0, .int .i64 x517003_1, .string x517004_1]) ?_ 3 _ rfl; (with_reducible repeat (first | refine blk_drewN ?_ _ | refine blk_drew ?_ | refine blk_alloc ?_ _)); refine blk_put (cs := #[.int .i64 2, .slice none 0 0, .int .i64 x517002_1, .int .i64 x517003_1, .string x517004_1]) ?_ 2 _ rfl; (with_reducible repeat (first | refine blk_drewN ?_ _ | refine blk_drew ?_ | refine blk_alloc ?_ _)); refine blk_put (cs := #[.int .i64 2, .slice none 0 0, .int .i64 x517002_1, .int .i64 x517003_1, .string x517004_1]) ?_ 1 _ rfl; (with_reducible repeat (first | refine blk_drewN ?_ _ | refine blk_drew ?_ | refine blk_alloc ?_ _)); refine blk_put (cs := #[.int .i64 x517000_1, .slice none 0 0, .int .i64 x517002_1, .int .i64 x517003_1, .string x517004_1]) ?_ 0 _ rfl; (with_reducible repeat (first | refine blk_drewN ?_ _ | refine blk_drew ?_ | refine blk_alloc ?_ _)); refine blk_far ?_ NB516_518.out _; (with_reducible repeat (first | refine blk_drewN ?_ _ | refine blk_drew ?_ | refine blk_alloc ?_ _)); refine blk_far ?_ NB516_518.out _; (with_reducible repeat (first | refine blk_drewN ?_ _ | refine blk_drew ?_ | refine blk_alloc ?_ _)); refine blk_far ?_ NB516_518.out _; (with_reducible repeat (first | refine blk_drewN ?_ _ | refine blk_drew ?_ | refine blk_alloc ?_ _)); refine blk_far ?_ NB516_518.out _; (with_reducible repeat (first | refine blk_drewN ?_ _ | refine blk_drew ?_ | refine blk_alloc ?_ _)); exact BK516.out) Tryd.underlying61 rfl (by kernel_rfl)) rfl ?_
          exact ⟨_, by first | rfl | (simp [errW_none, errW_some] <;> rfl) | (simp [*, errW_none, errW_some] <;> rfl), by first | exact Kd.R_nil _ _ _ _ _ | exact Kd.N_nil _ _ _ _ _ | exact Kd.V_nil _ _ _ _ _ | exact Kd.Q_nil _ _ _ _ _ | exact Kd.S_nil _ _ _ _ _, by repeat (first | (with_reducible first | exact HB.out | apply below_alloc | apply pw_below_drewN | apply below_drew1 | refine below_set ?_ GE515.out | refine below_set ?_ GE516.out | refine below_set ?_ GE518.out | refine below_set ?_ GE520.out) | exact HB.out)⟩
         ·rw [if_neg c18] at H
          have c18b0 : decide (200 < (y521.length : Int)) = false := decide_eq_false c18
          have c18b1 : decide (200 < y521.length) = false := decide_eq_false (by omega)
          clear c18
          have H' := ak H
          clear H
          have hnb34 := NB518_515.out
          have hnc34 := NB515_518.out
          have hnb35 := NB518_516.out
          have hnc35 := NB516_518.out
          have hcz36_0 : wr.cell? ⟨gb518, 0, none⟩ = some (.int .i64 0) := (blk_cell BK518.out 0).trans rfl
          have hcz36_1 : wr.cell? ⟨gb518, 1, none⟩ = some (u519001) := (blk_cell BK518.out 1).trans rfl
          have hcz36_2 : wr.cell? ⟨gb518, 2, none⟩ = some (.int .i64 x519002_1) := (blk_cell BK518.out 2).trans rfl
          have hcz36_3 : wr.cell? ⟨gb518, 3, none⟩ = some (.int .i64 x519003_1) := (blk_cell BK518.out 3).trans rfl
          have hcz36_4 : wr.cell? ⟨gb518, 4, none⟩ = some (.string x519004_1) := (blk_cell BK518.out 4).trans rfl
          have hfz36_0 := blk_frozen BK518.out 0
          have hfz36_1 := blk_frozen BK518.out 1
          have hfz36_2 := blk_frozen BK518.out 2
          have hfz36_3 := blk_frozen BK518.out 3
          have hfz36_4 := blk_frozen BK518.out 4
          have p519 : 0 ≤ (x519003_1 : Int) := of_decide_eq_true d22_10
          have q519 : x519003_1 < (l0.length : Int) := of_decide_eq_true d22_10
          obtain ⟨ad519, e519, hx519_0, hx519_1, hx519_2, hx519_3, hx519_4, hx519_5⟩ := at_T112 HR0.out x519003_1 p519 q519
          cases e519
          replace hx519_0 := (HB.out.cell (World.block_lt_of_cell? w _ hx519_0)).trans hx519_0
          replace hx519_1 := (HB.out.cell (World.block_lt_of_cell? w _ hx519_1)).trans hx519_1
          replace hx519_2 := (HB.out.cell (World.block_lt_of_cell? w _ hx519_2)).trans hx519_2
          replace hx519_3 := (HB.out.cell (World.block_lt_of_cell? w _ hx519_3)).trans hx519_3
          replace hx519_4 := (HB.out.cell (World.block_lt_of_cell? w _ hx519_4)).trans hx519_4
          replace hx519_5 := (HB.out.cell (World.block_lt_of_cell? w _ hx519_5)).trans hx519_5
          replace p519 := eq_true p519
          replace q519 := eq_true q519
          go_wp2_with (first | ((with_reducible refine gate_dst (N := 7) rfl ?_); refine box_event ?hg (N := 7) ?hd (cs := #[.int .i64 0, .int .i64 0, .string (⟨#[]⟩ : ByteArray), .int .i64 0, .int .i64 0, .string (⟨#[]⟩ : ByteArray)]) (t := 112) ?hr ?_; (case hd => rfl); (case hg => rfl); (case hr => first | (go_simp; done) | (go_simp; rfl)); intro gb520 hg w37 hbox hb; have n0_ := ak (Kd.R_below (by (with_reducible repeat (first | apply Kd.R_alloc | apply Kd.R_drewN | apply Kd.R_drew)); exact HO_519001.out) hb); have n1_ := ak (blk_below (g := gb515) (o := .cells #[.int .i64 a1_0, .int .i64 a1_1, .string a1_2] 32 (0, 0)) d22_1 hb); have n2_ := ak (blk_below (g := gb516) (o := .cells #[.int .i64 x517000_1, .slice none 0 0, .int .i64 x517002_1, .int .i64 x517003_1, .string x517004_1] 61 (0, 0)) d22_5 hb); have n3_ := ak (blk_below (g := gb518) (o := .cells #[.int .i64 0, u519001, .int .i64 x519002_1, .int .i64 x519003_1, .string x519004_1] 61 (0, 0)) d22_15 hb); have n4_ := ak (below_step d22_6 hb); have n5_ := ak (hbox); have n6_ := ak ((by rw [hg]; exact (below_size d22_6) : w.heap.size ≤ gb520)); have n7_ := ak ((by rw [hg]; exact (below_size d22_6) : w.heap.size ≤ gb520)); have n8_ := ak ((by rw [hg]; exact Nat.ne_of_lt (blk_lt (g := gb515) (o := .cells #[.int .i64 a1_0, .int .i64 a1_1, .string a1_2] 32 (0, 0)) d22_1) : gb515 ≠ gb520)); have n9_ := ak ((by rw [hg]; exact Nat.ne_of_gt (blk_lt (g := gb515) (o := .cells #[.int .i64 a1_0, .int .i64 a1_1, .string a1_2] 32 (0, 0)) d22_1) : gb520 ≠ gb515)); have n10_ := ak ((by rw [hg]; exact Nat.ne_of_lt (blk_lt (g := gb516) (o := .cells #[.int .i64 x517000_1, .slice none 0 0, .int .i64 x517002_1, .int .i64 x517003_1, .string x517004_1] 61 (0, 0)) d22_5) : gb516 ≠ gb520)); have n11_ := ak ((by rw [hg]; exact Nat.ne_of_gt (blk_lt (g := gb516) (o := .cells #[.int .i64 x517000_1, .slice none 0 0, .int .i64 x517002_1, .int .i64 x517003_1, .string x517004_1] 61 (0, 0)) d22_5) : gb520 ≠ gb516)); have n12_ := ak ((by rw [hg]; exact Nat.ne_of_lt (blk_lt (g := gb518) (o := .cells #[.int .i64 0, u519001, .int .i64 x519002_1, .int .i64 x519003_1, .string x519004_1] 61 (0, 0)) d22_15) : gb518 ≠ gb520)); have n13_ := ak ((by rw [hg]; exact Nat.ne_of_gt (blk_lt (g := gb518) (o := .cells #[.int .i64 0, u519001, .int .i64 x519002_1, .int .i64 x519003_1, .string x519004_1] 61 (0, 0)) d22_15) : gb520 ≠ gb518)); clear HO_519001 BK515 BK516 BK518 HB; have HO_519001 := n0_; have BK515 := n1_; have BK516 := n2_; have BK518 := n3_; have HB := n4_; have BK520 := n5_; have GW520 := n6_; have GE520 := n7_; have NB515_520 := n8_; have NB520_515 := n9_; have NB516_520 := n10_; have NB520_516 := n11_; have NB518_520 := n12_; have NB520_518 := n13_; clear n0_ n1_ n2_ n3_ n4_ n5_ n6_ n7_ n8_ n9_ n10_ n11_ n12_ n13_ hb hbox hg; have hnb38 := NB520_515.out; have hnc38 := NB515_520.out; have hnb39 := NB520_516.out; have hnc39 := NB516_520.out; have hnb40 := NB520_518.out; have hnc40 := NB518_520.out; have hcz41_0 : w37.cell? ⟨gb520, 0, none⟩ = some (.int .i64 0) := (blk_cell BK520.out 0).trans rfl; have hcz41_1 : w37.cell? ⟨gb520, 1, none⟩ = some (.int .i64 0) := (blk_cell BK520.out 1).trans rfl; have hcz41_2 : w37.cell? ⟨gb520, 2, none⟩ = some (.string (⟨#[]⟩ : ByteArray)) := (blk_cell BK520.out 2).trans rfl; have hcz41_3 : w37.cell? ⟨gb520, 3, none⟩ = some (.int .i64 0) := (blk_cell BK520.out 3).trans rfl; have hcz41_4 : w37.cell? ⟨gb520, 4, none⟩ = some (.int .i64 0) := (blk_cell BK520.out 4).trans rfl; have hcz41_5 : w37.cell? ⟨gb520, 5, none⟩ = some (.string (⟨#[]⟩ : ByteArray)) := (blk_cell BK520.out 5).trans rfl; have hfz41_0 := blk_frozen BK520.out 0; have hfz41_1 := blk_frozen BK520.out 1; have hfz41_2 := blk_frozen BK520.out 2; have hfz41_3 := blk_frozen BK520.out 3; have hfz41_4 := blk_frozen BK520.out 4; have hfz41_5 := blk_frozen BK520.out 5; have hcz42_0 : w37.cell? ⟨gb518, 0, none⟩ = some (.int .i64 0) := (blk_cell BK518.out 0).trans rfl; have hcz42_1 : w37.cell? ⟨gb518, 1, none⟩ = some (u519001) := (blk_cell BK518.out 1).trans rfl; have hcz42_2 : w37.cell? ⟨gb518, 2, none⟩ = some (.int .i64 x519002_1) := (blk_cell BK518.out 2).trans rfl; have hcz42_3 : w37.cell? ⟨gb518, 3, none⟩ = some (.int .i64 x519003_1) := (blk_cell BK518.out 3).trans rfl; have hcz42_4 : w37.cell? ⟨gb518, 4, none⟩ = some (.string x519004_1) := (blk_cell BK518.out 4).trans rfl; have hfz42_0 := blk_frozen BK518.out 0; have hfz42_1 := blk_frozen BK518.out 1; have hfz42_2 := blk_frozen BK518.out 2; have hfz42_3 := blk_frozen BK518.out 3; have hfz42_4 := blk_frozen BK518.out 4) | ((with_reducible refine gate_builtin (b := .append) (xs := #[.tmp 27, .tmp 30]) rfl ?_); at_builtin; refine Kd.R_append k32 (w0 := w) w.heap.size rfl (.tmp 27) (.tmp 30) 59 32 (.agg #[(.int .i64 0), (.int .i64 0), (.string ⟨#[]⟩)]) 32 rfl Tryd.underlying59 info32 rfl (by decide) (by omega) u519001 x519001_1 (⟨(rd_T112 l0 x519003_1).f0.f0, (rd_T112 l0 x519003_1).f0.f1, (rd_T112 l0 x519003_1).f0.f2⟩ : S32) [.int .i64 ((rd_T112 l0 x519003_1).f0.f0), .int .i64 ((rd_T112 l0 x519003_1).f0.f1), .string ((rd_T112 l0 x519003_1).f0.f2)] (fun k_ => k_ ≠ gb515) (fun _ => False) rfl (by first | (go_simp; done) | (go_simp; rfl)) ?aP (fun _ hk => hk.elim) ?aF ?aO ?aB ?aS ?aL ?_; (case aP => exact k32_mkM _ _ _ (⟨(rd_T112 l0 x519003_1).f0.f0, (rd_T112 l0 x519003_1).f0.f1, (rd_T112 l0 x519003_1).f0.f2⟩ : S32)); (case aB => exact d22_12); (case aF => exact (fun k_ hk => Kd.freshB (g := gb515) (o := .cells #[.int .i64 a1_0, .int .i64 a1_1, .string a1_2] 32 (0, 0)) d22_2 k_ hk)); (case aO => exact (by (with_reducible repeat (first | apply Kd.R_alloc | apply Kd.R_drewN | apply Kd.R_drew)); exact Kd.R_mono (Kd.R_far (p := ⟨gb520, 5, none⟩) (Kd.R_far (p := ⟨gb520, 4, none⟩) (Kd.R_far (p := ⟨gb520, 3, none⟩) (Kd.R_far (p := ⟨gb520, 2, none⟩) (Kd.R_far (p := ⟨gb520, 1, none⟩) (Kd.R_far (p := ⟨gb520, 0, none⟩) (Kd.R_types HO_519001.out BK520.out (by decide)) (fun _ hk => hk.2) (.int .i64 ((rd_T112 l0 x519003_1).f0.f0))) (fun _ hk => hk.2) (.int .i64 ((rd_T112 l0 x519003_1).f0.f1))) (fun _ hk => hk.2) (.string ((rd_T112 l0 x519003_1).f0.f2))) (fun _ hk => hk.2) (.int .i64 ((rd_T112 l0 x519003_1).f1.f0))) (fun _ hk => hk.2) (.int .i64 ((rd_T112 l0 x519003_1).f1.f1))) (fun _ hk => hk.2) (.string ((rd_T112 l0 x519003_1).f1.f2))) (fun _ hk => hk.1))); (case aS => exact (below_size d22_12)); (case aL => have := LMc17.out; omega); intro v522 w43 ho hb hg hat; rw [← Ny521.out] at ho; have n0_ := ak (blk_grown (g := gb515) (o := .cells #[.int .i64 a1_0, .int .i64 a1_1, .string a1_2] 32 (0, 0)) d22_2 hg (Kd.R_away HO_519001.out (fun _ hk => hk))); have n1_ := ak (blk_grown (g := gb516) (o := .cells #[.int .i64 x517000_1, .slice none 0 0, .int .i64 x517002_1, .int .i64 x517003_1, .string x517004_1] 61 (0, 0)) d22_7 hg (Kd.R_ne HO_519001.out BK516.out (by decide))); have n2_ := ak (blk_grown (g := gb518) (o := .cells #[.int .i64 0, u519001, .int .i64 x519002_1, .int .i64 x519003_1, .string x519004_1] 61 (0, 0)) d22_8 hg (Kd.R_ne HO_519001.out BK518.out (by decide))); have n3_ := ak (blk_grown (g := gb520) (o := .cells #[.int .i64 ((rd_T112 l0 x519003_1).f0.f0), .int .i64 ((rd_T112 l0 x519003_1).f0.f1), .string ((rd_T112 l0 x519003_1).f0.f2), .int .i64 ((rd_T112 l0 x519003_1).f1.f0), .int .i64 ((rd_T112 l0 x519003_1).f1.f1), .string ((rd_T112 l0 x519003_1).f1.f2)] 112 (0, 0)) (by (with_reducible repeat (first | refine blk_drewN ?_ _ | refine blk_drew ?_ | refine blk_alloc ?_ _)); refine blk_put (cs := #[.int .i64 ((rd_T112 l0 x519003_1).f0.f0), .int .i64 ((rd_T112 l0 x519003_1).f0.f1), .string ((rd_T112 l0 x519003_1).f0.f2), .int .i64 ((rd_T112 l0 x519003_1).f1.f0), .int .i64 ((rd_T112 l0 x519003_1).f1.f1), .string (⟨#[]⟩ : ByteArray)]) ?_ 5 _ rfl; (with_reducible repeat (first | refine blk_drewN ?_ _ | refine blk_drew ?_ | refine blk_alloc ?_ _)); refine blk_put (cs := #[.int .i64 ((rd_T112 l0 x519003_1).f0.f0), .int .i64 ((rd_T112 l0 x519003_1).f0.f1), .string ((rd_T112 l0 x519003_1).f0.f2), .int .i64 ((rd_T112 l0 x519003_1).f1.f0), .int .i64 0, .string (⟨#[]⟩ : ByteArray)]) ?_ 4 _ rfl; (with_reducible repeat (first | refine blk_drewN ?_ _ | refine blk_drew ?_ | refine blk_alloc ?_ _)); refine blk_put (cs := #[.int .i64 ((rd_T112 l0 x519003_1).f0.f0), .int .i64 ((rd_T112 l0 x519003_1).f0.f1), .string ((rd_T112 l0 x519003_1).f0.f2), .int .i64 0, .int .i64 0, .string (⟨#[]⟩ : ByteArray)]) ?_ 3 _ rfl; (with_reducible repeat (first | refine blk_drewN ?_ _ | refine blk_drew ?_ | refine blk_alloc ?_ _)); refine blk_put (cs := #[.int .i64 ((rd_T112 l0 x519003_1).f0.f0), .int .i64 ((rd_T112 l0 x519003_1).f0.f1), .string (⟨#[]⟩ : ByteArray), .int .i64 0, .int .i64 0, .string (⟨#[]⟩ : ByteArray)]) ?_ 2 _ rfl; (with_reducible repeat (first | refine blk_drewN ?_ _ | refine blk_drew ?_ | refine blk_alloc ?_ _)); refine blk_put (cs := #[.int .i64 ((rd_T112 l0 x519003_1).f0.f0), .int .i64 0, .string (⟨#[]⟩ : ByteArray), .int .i64 0, .int .i64 0, .string (⟨#[]⟩ : ByteArray)]) ?_ 1 _ rfl; (with_reducible repeat (first | refine blk_drewN ?_ _ | refine blk_drew ?_ | refine blk_alloc ?_ _)); refine blk_put (cs := #[.int .i64 0, .int .i64 0, .string (⟨#[]⟩ : ByteArray), .int .i64 0, .int .i64 0, .string (⟨#[]⟩ : ByteArray)]) ?_ 0 _ rfl; (with_reducible repeat (first | refine blk_drewN ?_ _ | refine blk_drew ?_ | refine blk_alloc ?_ _)); exact BK520.out) hg (Kd.R_ne HO_519001.out BK520.out (by decide))); have n4_ := ak (hb); have n5_ := ak (ho); clear BK515 BK516 BK518 BK520 HB HO_519001; have BK515 := n0_; have BK516 := n1_; have BK518 := n2_; have BK520 := n3_; have HB := n4_; have HO523 := n5_; clear n0_ n1_ n2_ n3_ n4_ n5_ ho hb hg hat; obtain ⟨Ao44, co44, eo44⟩ := Kd.R_slice HO523.out; subst eo44; have hcz45_0 : w43.cell? ⟨gb518, 0, none⟩ = some (.int .i64 0) := (blk_cell BK518.out 0).trans rfl; have hcz45_1 : w43.cell? ⟨gb518, 1, none⟩ = some (u519001) := (blk_cell BK518.out 1).trans rfl; have hcz45_2 : w43.cell? ⟨gb518, 2, none⟩ = some (.int .i64 x519002_1) := (blk_cell BK518.out 2).trans rfl; have hcz45_3 : w43.cell? ⟨gb518, 3, none⟩ = some (.int .i64 x519003_1) := (blk_cell BK518.out 3).trans rfl; have hcz45_4 : w43.cell? ⟨gb518, 4, none⟩ = some (.string x519004_1) := (blk_cell BK518.out 4).trans rfl; have hfz45_0 := blk_frozen BK518.out 0; have hfz45_1 := blk_frozen BK518.out 1; have hfz45_2 := blk_frozen BK518.out 2; have hfz45_3 := blk_frozen BK518.out 3; have hfz45_4 := blk_frozen BK518.out 4; have hcz46_0 : w43.cell? ⟨gb520, 0, none⟩ = some (.int .i64 ((rd_T112 l0 x519003_1).f0.f0)) := (blk_cell BK520.out 0).trans rfl; have hcz46_1 : w43.cell? ⟨gb520, 1, none⟩ = some (.int .i64 ((rd_T112 l0 x519003_1).f0.f1)) := (blk_cell BK520.out 1).trans rfl; have hcz46_2 : w43.cell? ⟨gb520, 2, none⟩ = some (.string ((rd_T112 l0 x519003_1).f0.f2)) := (blk_cell BK520.out 2).trans rfl; have hcz46_3 : w43.cell? ⟨gb520, 3, none⟩ = some (.int .i64 ((rd_T112 l0 x519003_1).f1.f0)) := (blk_cell BK520.out 3).trans rfl; have hcz46_4 : w43.cell? ⟨gb520, 4, none⟩ = some (.int .i64 ((rd_T112 l0 x519003_1).f1.f1)) := (blk_cell BK520.out 4).trans rfl; have hcz46_5 : w43.cell? ⟨gb520, 5, none⟩ = some (.string ((rd_T112 l0 x519003_1).f1.f2)) := (blk_cell BK520.out 5).trans rfl; have hfz46_0 := blk_frozen BK520.out 0; have hfz46_1 := blk_frozen BK520.out 1; have hfz46_2 := blk_frozen BK520.out 2; have hfz46_3 := blk_frozen BK520.out 3; have hfz46_4 := blk_frozen BK520.out 4; have hfz46_5 := blk_frozen BK520.out 5))
          go_roundg k1
          case measure => have := HK1.out; omega
          case rel => exact ⟨(x517000_1), (x517002_1), (x517003_1), (x517004_1), (y521), ((rd_T112 l0 x519003_1).f1.f0), ((rd_T112 l0 x519003_1).f1.f1), ((rd_T112 l0 x519003_1).f1.f2), (.slice Ao44 y521.length co44), H', ⟨by have := HK1.out; omega⟩, ⟨by (with_reducible repeat (first | apply Kd.R_alloc | apply Kd.R_drewN | apply Kd.R_drew)); exact Kd.R_mono (Kd.R_far (p := ⟨gb518, 4, none⟩) (Kd.R_far (p := ⟨gb518, 3, none⟩) (Kd.R_far (p := ⟨gb518, 2, none⟩) (Kd.R_far (p := ⟨gb518, 1, none⟩) (Kd.R_types HO523.out BK518.out (by decide)) (fun _ hk => hk.2) (.slice Ao44 y521.length co44)) (fun _ hk => hk.2) (.int .i64 ((rd_T112 l0 x519003_1).f1.f0))) (fun _ hk => hk.2) (.int .i64 ((rd_T112 l0 x519003_1).f1.f1))) (fun _ hk => hk.2) (.string ((rd_T112 l0 x519003_1).f1.f2))) (fun _ hk => hk.1)⟩, ⟨by (with_reducible repeat (first | refine blk_drewN ?_ _ | refine blk_drew ?_ | refine blk_alloc ?_ _)); refine blk_far ?_ NB515_518.out _; (with_reducible repeat (first | refine blk_drewN ?_ _ | refine blk_drew ?_ | refine blk_alloc ?_ _)); refine blk_far ?_ NB515_518.out _; (with_reducible repeat (first | refine blk_drewN ?_ _ | refine blk_drew ?_ | refine blk_alloc ?_ _)); refine blk_far ?_ NB515_518.out _; (with_reducible repeat (first | refine blk_drewN ?_ _ | refine blk_drew ?_ | refine blk_alloc ?_ _)); refine blk_far ?_ NB515_518.out _; (with_reducible repeat (first | refine blk_drewN ?_ _ | refine blk_drew ?_ | refine blk_alloc ?_ _)); exact BK515.out⟩, ⟨by (with_reducible repeat (first | refine blk_drewN ?_ _ | refine blk_drew ?_ | refine blk_alloc ?_ _)); refine blk_far ?_ NB516_518.out _; (with_reducible repeat (first | refine blk_drewN ?_ _ | refine blk_drew ?_ | refine blk_alloc ?_ _)); refine blk_far ?_ NB516_518.out _; (with_reducible repeat (first | refine blk_drewN ?_ _ | refine blk_drew ?_ | refine blk_alloc ?_ _)); refine blk_far ?_ NB516_518.out _; (with_reducible repeat (first | refine blk_drewN ?_ _ | refine blk_drew ?_ | refine blk_alloc ?_ _)); refine blk_far ?_ NB516_518.out _; (with_reducible repeat (first | refine blk_drewN ?_ _ | refine blk_drew ?_ | refine blk_alloc ?_ _)); exact BK516.out⟩, ⟨by (with_reducible repeat (first | refine blk_drewN ?_ _ | refine blk_drew ?_ | refine blk_alloc ?_ _)); refine blk_put (cs := #[.int .i64 0, .slice Ao44 y521.length co44, .int .i64 ((rd_T112 l0 x519003_1).f1.f0), .int .i64 ((rd_T112 l0 x519003_1).f1.f1), .string x519004_1]) ?_ 4 _ rfl; (with_reducible repeat (first | refine blk_drewN ?_ _ | refine blk_drew ?_ | refine blk_alloc ?_ _)); refine blk_put (cs := #[.int .i64 0, .slice Ao44 y521.length co44, .int .i64 ((rd_T112 l0 x519003_1).f1.f0), .int .i64 x519003_1, .string x519004_1]) ?_ 3 _ rfl; (with_reducible repeat (first | refine blk_drewN ?_ _ | refine blk_drew ?_ | refine blk_alloc ?_ _)); refine blk_put (cs := #[.int .i64 0, .slice Ao44 y521.length co44, .int .i64 x519002_1, .int .i64 x519003_1, .string x519004_1]) ?_ 2 _ rfl; (with_reducible repeat (first | refine blk_drewN ?_ _ | refine blk_drew ?_ | refine blk_alloc ?_ _)); refine blk_put (cs := #[.int .i64 0, u519001, .int .i64 x519002_1, .int .i64 x519003_1, .string x519004_1]) ?_ 1 _ rfl; (with_reducible repeat (first | refine blk_drewN ?_ _ | refine blk_drew ?_ | refine blk_alloc ?_ _)); exact BK518.out⟩, ⟨by repeat (first | (with_reducible first | exact HB.out | apply below_alloc | apply pw_below_drewN | apply below_drew1 | refine below_set ?_ GE515.out | refine below_set ?_ GE516.out | refine below_set ?_ GE518.out | refine below_set ?_ GE520.out) | exact HB.out)⟩⟩
        ·rw [if_neg c17] at H
         exact absurd H (by simp)
       ·rw [if_neg c16] at H
        exact absurd H (by simp)
      ·rw [if_neg c15] at H
       exact absurd H (by simp)
     ·rw [if_neg c14] at H
      have c14b0 : (x519002_1 == 5) = false := beq_eq_false_iff_ne.mpr c14
      have c14b1 : (x519002_1 != 5) = true := bne_iff_ne.mpr c14
      simp only [Option.some.injEq, Prod.mk.injEq] at H
      obtain ⟨rfl, rfl, rfl, rfl, rfl⟩ := H
      have hnb47 := NB518_515.out
      have hnc47 := NB515_518.out
      have hnb48 := NB518_516.out
      have hnc48 := NB516_518.out
      have hcz49_0 : wr.cell? ⟨gb518, 0, none⟩ = some (.int .i64 0) := (blk_cell BK518.out 0).trans rfl
      have hcz49_1 : wr.cell? ⟨gb518, 1, none⟩ = some (u519001) := (blk_cell BK518.out 1).trans rfl
      have hcz49_2 : wr.cell? ⟨gb518, 2, none⟩ = some (.int .i64 x519002_1) := (blk_cell BK518.out 2).trans rfl
      have hcz49_3 : wr.cell? ⟨gb518, 3, none⟩ = some (.int .i64 x519003_1) := (blk_cell BK518.out 3).trans rfl
      have hcz49_4 : wr.cell? ⟨gb518, 4, none⟩ = some (.string x519004_1) := (blk_cell BK518.out 4).trans rfl
      have hfz49_0 := blk_frozen BK518.out 0
      have hfz49_1 := blk_frozen BK518.out 1
      have hfz49_2 := blk_frozen BK518.out 2
      have hfz49_3 := blk_frozen BK518.out 3
      have hfz49_4 := blk_frozen BK518.out 4
      have hnb50 := NB516_515.out
      have hnc50 := NB515_516.out
      have hcz51_0 : wr.cell? ⟨gb516, 0, none⟩ = some (.int .i64 x517000_1) := (blk_cell BK516.out 0).trans rfl
      have hcz51_1 : wr.cell? ⟨gb516, 1, none⟩ = some (.slice none 0 0) := (blk_cell BK516.out 1).trans rfl
      have hcz51_2 : wr.cell? ⟨gb516, 2, none⟩ = some (.int .i64 x517002_1) := (blk_cell BK516.out 2).trans rfl
      have hcz51_3 : wr.cell? ⟨gb516, 3, none⟩ = some (.int .i64 x517003_1) := (blk_cell BK516.out 3).trans rfl
      have hcz51_4 : wr.cell? ⟨gb516, 4, none⟩ = some (.string x517004_1) := (blk_cell BK516.out 4).trans rfl
      have hfz51_0 := blk_frozen BK516.out 0
      have hfz51_1 := blk_frozen BK516.out 1
      have hfz51_2 := blk_frozen BK516.out 2
      have hfz51_3 := blk_frozen BK516.out 3
      have hfz51_4 := blk_frozen BK516.out 4
      obtain ⟨Ao52, co52, eo52⟩ := Kd.R_slice HO_519001.out
      subst eo52
      go_wp2
      refine bodyPost_ret (results_cell_row rfl _ _ gb516 61 #[.int .i64 0, .slice Ao52 x519001_1.length co52, .int .i64 x519002_1, .int .i64 x519003_1, .string x519004_1] (0, 0) _ rfl (by (with_reducible repeat (first | refine blk_drewN ?_ _ | refine blk_drew ?_ | refine blk_alloc ?_ _)); refine blk_put (cs := #[.int .i64 0, .slice Ao52 x519001_1.length co52, .int .i64 x519002_1, .int .i64 x519003_1, .string x517004_1]) ?_ 4 _ rfl; (with_reducible repeat (first | refine blk_drewN ?_ _ | refine blk_drew ?_ | refine blk_alloc ?_ _)); refine blk_put (cs := #[.int .i64 0, .slice Ao52 x519001_1.length co52, .int .i64 x519002_1, .int .i64 x517003_1, .string x517004_1]) ?_ 3 _ rfl; (with_reducible repeat (first | refine blk_drewN ?_ _ | refine blk_drew ?_ | refine blk_alloc ?_ _)); refine blk_put (cs := #[.int .i64 0, .slice Ao52 x519001_1.length co52, .int .i64 x517002_1, .int .i64 x517003_1, .string x517004_1]) ?_ 2 _ rfl; (with_reducible repeat (first | refine blk_drewN ?_ _ | refine blk_drew ?_ | refine blk_alloc ?_ _)); refine blk_put (cs := #[.int .i64 0, .slice none 0 0, .int .i64 x517002_1, .int .i64 x517003_1, .string x517004_1]) ?_ 1 _ rfl; (with_reducible repeat (first | refine blk_drewN ?_ _ | refine blk_drew ?_ | refine blk_alloc ?_ _)); refine blk_put (cs := #[.int .i64 x517000_1, .slice none 0 0, .int .i64 x517002_1, .int .i64 x517003_1, .string x517004_1]) ?_ 0 _ rfl; (with_reducible repeat (first | refine blk_drewN ?_ _ | refine blk_drew ?_ | refine blk_alloc ?_ _)); exact BK516.out) Tryd.underlying61 rfl (by kernel_rfl)) rfl ?_
      exact ⟨_, by first | rfl | (simp [errW_none, errW_some] <;> rfl) | (simp [*, errW_none, errW_some] <;> rfl), by (with_reducible repeat (first | apply Kd.R_alloc | apply Kd.R_drewN | apply Kd.R_drew)); exact Kd.R_mono (Kd.R_far (p := ⟨gb516, 4, none⟩) (Kd.R_far (p := ⟨gb516, 3, none⟩) (Kd.R_far (p := ⟨gb516, 2, none⟩) (Kd.R_far (p := ⟨gb516, 1, none⟩) (Kd.R_far (p := ⟨gb516, 0, none⟩) (Kd.R_types HO_519001.out BK516.out (by decide)) (fun _ hk => hk.2) (.int .i64 0)) (fun _ hk => hk.2) (.slice Ao52 x519001_1.length co52)) (fun _ hk => hk.2) (.int .i64 x519002_1)) (fun _ hk => hk.2) (.int .i64 x519003_1)) (fun _ hk => hk.2) (.string x519004_1)) (fun _ hk => trivial), by repeat (first | (with_reducible first | exact HB.out | apply below_alloc | apply pw_below_drewN | apply below_drew1 | refine below_set ?_ GE515.out | refine below_set ?_ GE516.out | refine below_set ?_ GE518.out) | exact HB.out)⟩
  ·rw [if_neg c4] at H
   have c4b0 : (t517 == 0) = false := beq_eq_false_iff_ne.mpr c4
   have c4b1 : (t517 != 0) = true := bne_iff_ne.mpr c4
   simp only [Option.some.injEq, Prod.mk.injEq] at H
   obtain ⟨rfl, rfl, rfl, rfl, rfl⟩ := H
   go_enter Tryd.func32, Tryd.ntmps32
   go_wp2_with (first | ((with_reducible refine gate_dst (N := 3) rfl ?_); refine box_event ?hg (N := 3) ?hd (cs := #[.int .i64 a1_0, .int .i64 a1_1, .string a1_2]) (t := 32) ?hr ?_; (case hd => rfl); (case hg => rfl); (case hr => first | (go_simp; done) | (go_simp; rfl)); intro gb515 hg w53 hbox hb; have n0_ := ak (below_step d22_3 hb); have n1_ := ak (hbox); have n2_ := ak ((d22_21 : w.heap.size ≤ gb515)); have n3_ := ak ((d22_21 : w.heap.size ≤ gb515)); clear HB; have HB := n0_; have BK515 := n1_; have GW515 := n2_; have GE515 := n3_; clear n0_ n1_ n2_ n3_ hb hbox hg) | ((with_reducible refine gate_dst (N := 4) rfl ?_); refine box_event ?hg (N := 4) ?hd (cs := #[.int .i64 0, .slice none 0 0, .int .i64 0, .int .i64 0, .string (⟨#[]⟩ : ByteArray)]) (t := 61) ?hr ?_; (case hd => rfl); (case hg => rfl); (case hr => first | (go_simp; done) | (go_simp; rfl)); intro gb516 hg w54 hbox hb; have n0_ := ak (blk_below (g := gb515) (o := .cells #[.int .i64 a1_0, .int .i64 a1_1, .string a1_2] 32 (0, 0)) d22_1 hb); have n1_ := ak (below_step d22_9 hb); have n2_ := ak (hbox); have n3_ := ak ((by rw [hg]; exact (below_size d22_9) : w.heap.size ≤ gb516)); have n4_ := ak ((by rw [hg]; exact (below_size d22_9) : w.heap.size ≤ gb516)); have n5_ := ak ((by rw [hg]; exact Nat.ne_of_lt (blk_lt (g := gb515) (o := .cells #[.int .i64 a1_0, .int .i64 a1_1, .string a1_2] 32 (0, 0)) d22_1) : gb515 ≠ gb516)); have n6_ := ak ((by rw [hg]; exact Nat.ne_of_gt (blk_lt (g := gb515) (o := .cells #[.int .i64 a1_0, .int .i64 a1_1, .string a1_2] 32 (0, 0)) d22_1) : gb516 ≠ gb515)); clear BK515 HB; have BK515 := n0_; have HB := n1_; have BK516 := n2_; have GW516 := n3_; have GE516 := n4_; have NB515_516 := n5_; have NB516_515 := n6_; clear n0_ n1_ n2_ n3_ n4_ n5_ n6_ hb hbox hg; have hnb55 := NB515_516.out; have hnc55 := NB516_515.out; have hcz56_0 : w54.cell? ⟨gb515, 0, none⟩ = some (.int .i64 a1_0) := (blk_cell BK515.out 0).trans rfl; have hcz56_1 : w54.cell? ⟨gb515, 1, none⟩ = some (.int .i64 a1_1) := (blk_cell BK515.out 1).trans rfl; have hcz56_2 : w54.cell? ⟨gb515, 2, none⟩ = some (.string a1_2) := (blk_cell BK515.out 2).trans rfl; have hfz56_0 := blk_frozen BK515.out 0; have hfz56_1 := blk_frozen BK515.out 1; have hfz56_2 := blk_frozen BK515.out 2) | (go_at_call 73; (with_reducible refine (spec_l5Asked.calls k _ _ l0 _ a1_0 a1_1 a1_2 t517 _ ?side1 ?side2 ?side3 ?side4 ?side5 A3.out).mono ?_); (case side1 => repeat (first | exact (Kd.C_below HR0.out HB.out) | (with_reducible refine Kd.C_alloc ?_ _) | (with_reducible refine Kd.C_drewN ?_ _) | (with_reducible refine Kd.C_drew ?_))); (case side2 => exact HC0.out); (case side3 => first | exact hcz56_0 | (refine Eq.trans ?_ hcz56_0; simp only [go_sem]) | exact ((blk_cell d22_1 0).trans rfl) | (refine Eq.trans ?_ ((blk_cell d22_1 0).trans rfl); simp only [go_sem])); (case side4 => first | exact hcz56_1 | (refine Eq.trans ?_ hcz56_1; simp only [go_sem]) | exact ((blk_cell d22_1 1).trans rfl) | (refine Eq.trans ?_ ((blk_cell d22_1 1).trans rfl); simp only [go_sem])); (case side5 => first | exact hcz56_2 | (refine Eq.trans ?_ hcz56_2; simp only [go_sem]) | exact ((blk_cell d22_1 2).trans rfl) | (refine Eq.trans ?_ ((blk_cell d22_1 2).trans rfl); simp only [go_sem])); rintro e w' ⟨rfl, ⟨nd, rfl⟩⟩; (try (rw [drewN_self w54]; generalize hq_ : World.drewN w54 _ = w54; have n0_ : Aside0 (w54.heap[gb515]? = some (.cells #[.int .i64 a1_0, .int .i64 a1_1, .string a1_2] 32 (0, 0))) := ⟨by rw [← hq_]; exact d22_1⟩; have n1_ : Aside0 (w54.heap[gb516]? = some (.cells #[.int .i64 0, .slice none 0 0, .int .i64 0, .int .i64 0, .string (⟨#[]⟩ : ByteArray)] 61 (0, 0))) := ⟨by rw [← hq_]; exact d22_5⟩; have n2_ : Aside0 (Below w.heap.size w w54) := ⟨by rw [← hq_]; exact d22_11⟩; clear BK515 BK516 HB hq_; have BK515 := n0_; have BK516 := n1_; have HB := n2_; clear n0_ n1_ n2_)); have hcz57_0 : w54.cell? ⟨gb516, 0, none⟩ = some (.int .i64 0) := (blk_cell BK516.out 0).trans rfl; have hcz57_1 : w54.cell? ⟨gb516, 1, none⟩ = some (.slice none 0 0) := (blk_cell BK516.out 1).trans rfl; have hcz57_2 : w54.cell? ⟨gb516, 2, none⟩ = some (.int .i64 0) := (blk_cell BK516.out 2).trans rfl; have hcz57_3 : w54.cell? ⟨gb516, 3, none⟩ = some (.int .i64 0) := (blk_cell BK516.out 3).trans rfl; have hcz57_4 : w54.cell? ⟨gb516, 4, none⟩ = some (.string (⟨#[]⟩ : ByteArray)) := (blk_cell BK516.out 4).trans rfl; have hfz57_0 := blk_frozen BK516.out 0; have hfz57_1 := blk_frozen BK516.out 1; have hfz57_2 := blk_frozen BK516.out 2; have hfz57_3 := blk_frozen BK516.out 3; have hfz57_4 := blk_frozen BK516.out 4))
   refine bodyPost_ret (results_cell_row rfl _ _ gb516 61 #[.int .i64 t517, .slice none 0 0, .int .i64 0, .int .i64 0, .string (⟨#[]⟩ : ByteArray)] (0, 0) _ rfl (by (with_reducible repeat (first | refine blk_drewN ?_ _ | refine blk_drew ?_ | refine blk_alloc ?_ _)); refine blk_put (cs := #[.int .i64 t517, .slice none 0 0, .int .i64 0, .int .i64 0, .string (⟨#[]⟩ : ByteArray)]) ?_ 4 _ rfl; (with_reducible repeat (first | refine blk_drewN ?_ _ | refine blk_drew ?_ | refine blk_alloc ?_ _)); refine blk_put (cs := #[.int .i64 t517, .slice none 0 0, .int .i64 0, .int .i64 0, .string (⟨#[]⟩ : ByteArray)]) ?_ 3 _ rfl; (with_reducible repeat (first | refine blk_drewN ?_ _ | refine blk_drew ?_ | refine blk_alloc ?_ _)); refine blk_put (cs := #[.int .i64 t517, .slice none 0 0, .int .i64 0, .int .i64 0, .string (⟨#[]⟩ : ByteArray)]) ?_ 2 _ rfl; (with_reducible repeat (first | refine blk_drewN ?_ _ | refine blk_drew ?_ | refine blk_alloc ?_ _)); refine blk_put (cs := #[.int .i64 t517, .slice none 0 0, .int .i64 0, .int .i64 0, .string (⟨#[]⟩ : ByteArray)]) ?_ 1 _ rfl; (with_reducible repeat (first | refine blk_drewN ?_ _ | refine blk_drew ?_ | refine blk_alloc ?_ _)); refine blk_put (cs := #[.int .i64 0, .slice none 0 0, .int .i64 0, .int .i64 0, .string (⟨#[]⟩ : ByteArray)]) ?_ 0 _ rfl; (with_reducible repeat (first | refine blk_drewN ?_ _ | refine blk_drew ?_ | refine blk_alloc ?_ _)); exact BK516.out) Tryd.underlying61 rfl (by kernel_rfl)) rfl ?_
   exact ⟨_, by first | rfl | (simp [errW_none, errW_some] <;> rfl) | (simp [*, errW_none, errW_some] <;> rfl), by first | exact Kd.R_nil _ _ _ _ _ | exact Kd.N_nil _ _ _ _ _ | exact Kd.V_nil _ _ _ _ _ | exact Kd.Q_nil _ _ _ _ _ | exact Kd.S_nil _ _ _ _ _, by repeat (first | (with_reducible first | exact HB.out | apply below_alloc | apply pw_below_drewN | apply below_drew1 | refine below_set ?_ GE515.out | refine below_set ?_ GE516.out) | exact HB.out)⟩

/-! ### laws_toPair: function 74 -/
def laws_toPair.f (a0_0 : Int) (a0_1 : Int) (a0_2 : ByteArray) (a0_3 : Int) (a0_4 : Int) (a0_5 : ByteArray) : Option (Int × Int × ByteArray × Int × Int × ByteArray) := (laws_toValue.f a0_0 a0_1 a0_2).bind fun bt527 => ((laws_toValue.f a0_3 a0_4 a0_5).bind fun bt530 => (some (bt527.1, bt527.2.1, bt527.2.2, bt530.1, bt530.2.1, bt530.2.2)))
set_option maxHeartbeats 8000000 in
set_option maxRecDepth 100000 in
theorem laws_toPair.calls (a0_0 : Int) (a0_1 : Int) (a0_2 : ByteArray) (a0_3 : Int) (a0_4 : Int) (a0_5 : ByteArray) (r1 : Int) (r2 : Int) (r3 : ByteArray) (r4 : Int) (r5 : Int) (r6 : ByteArray) (w : World) (h : laws_toPair.f a0_0 a0_1 a0_2 a0_3 a0_4 a0_5 = some (r1, r2, r3, r4, r5, r6)) :
    Calls Tryd.prog 74 #[.agg #[.int .i64 a0_0, .int .i64 a0_1, .string a0_2, .int .i64 a0_3, .int .i64 a0_4, .string a0_5]] w fun e w' => e = .returned (.agg #[.int .i64 r1, .int .i64 r2, .string r3, .int .i64 r4, .int .i64 r5, .string r6]) ∧ Below w.heap.size w w' := by
  have hu108 := Tryd.underlying108
  have hu112 := Tryd.underlying112
  have hu24 := Tryd.underlying24
  have hu32 := Tryd.underlying32
  have HB := ak (Below.refl w.heap.size w)
  have H : ((laws_toValue.f a0_0 a0_1 a0_2).bind fun bt527 => ((laws_toValue.f a0_3 a0_4 a0_5).bind fun bt530 => (some (bt527.1, bt527.2.1, bt527.2.2, bt530.1, bt530.2.1, bt530.2.2)))) = some (r1, r2, r3, r4, r5, r6) := h
  clear h
  replace H := Option.bind_eq_some_iff.mp H
  obtain ⟨⟨t527, t528, t529⟩, A20, H⟩ := H
  replace H : ((laws_toValue.f a0_3 a0_4 a0_5).bind fun bt530 => (some (t527, t528, t529, bt530.1, bt530.2.1, bt530.2.2))) = some (r1, r2, r3, r4, r5, r6) := H
  have A2 := ak A20
  clear A20
  replace H := Option.bind_eq_some_iff.mp H
  obtain ⟨⟨t530, t531, t532⟩, A30, H⟩ := H
  replace H : (some (t527, t528, t529, t530, t531, t532)) = some (r1, r2, r3, r4, r5, r6) := H
  have A3 := ak A30
  clear A30
  simp only [Option.some.injEq, Prod.mk.injEq] at H
  obtain ⟨rfl, rfl, rfl, rfl, rfl, rfl⟩ := H
  go_enter Tryd.func74, Tryd.ntmps74
  go_wp2_with (first | ((with_reducible refine gate_dst (N := 1) rfl ?_); refine box_event ?hg (N := 1) ?hd (cs := #[.int .i64 a0_0, .int .i64 a0_1, .string a0_2, .int .i64 a0_3, .int .i64 a0_4, .string a0_5]) (t := 108) ?hr ?_; (case hd => rfl); (case hg => rfl); (case hr => first | (go_simp; done) | (go_simp; rfl)); intro gb524 hg w4 hbox hb; have n0_ := ak (below_step d22_3 hb); have n1_ := ak (hbox); have n2_ := ak ((d22_21 : w.heap.size ≤ gb524)); have n3_ := ak ((d22_21 : w.heap.size ≤ gb524)); clear HB; have HB := n0_; have BK524 := n1_; have GW524 := n2_; have GE524 := n3_; clear n0_ n1_ n2_ n3_ hb hbox hg) | ((with_reducible refine gate_dst (N := 2) rfl ?_); refine box_event ?hg (N := 2) ?hd (cs := #[.int .i64 0, .int .i64 0, .string (⟨#[]⟩ : ByteArray), .int .i64 0, .int .i64 0, .string (⟨#[]⟩ : ByteArray)]) (t := 112) ?hr ?_; (case hd => rfl); (case hg => rfl); (case hr => first | (go_simp; done) | (go_simp; rfl)); intro gb525 hg w5 hbox hb; have n0_ := ak (blk_below (g := gb524) (o := .cells #[.int .i64 a0_0, .int .i64 a0_1, .string a0_2, .int .i64 a0_3, .int .i64 a0_4, .string a0_5] 108 (0, 0)) d22_13 hb); have n1_ := ak (below_step d22_20 hb); have n2_ := ak (hbox); have n3_ := ak ((by rw [hg]; exact (below_size d22_20) : w.heap.size ≤ gb525)); have n4_ := ak ((by rw [hg]; exact (below_size d22_20) : w.heap.size ≤ gb525)); have n5_ := ak ((by rw [hg]; exact Nat.ne_of_lt (blk_lt (g := gb524) (o := .cells #[.int .i64 a0_0, .int .i64 a0_1, .string a0_2, .int .i64 a0_3, .int .i64 a0_4, .string a0_5] 108 (0, 0)) d22_13) : gb524 ≠ gb525)); have n6_ := ak ((by rw [hg]; exact Nat.ne_of_gt (blk_lt (g := gb524) (o := .cells #[.int .i64 a0_0, .int .i64 a0_1, .string a0_2, .int .i64 a0_3, .int .i64 a0_4, .string a0_5] 108 (0, 0)) d22_13) : gb525 ≠ gb524)); clear BK524 HB; have BK524 := n0_; have HB := n1_; have BK525 := n2_; have GW525 := n3_; have GE525 := n4_; have NB524_525 := n5_; have NB525_524 := n6_; clear n0_ n1_ n2_ n3_ n4_ n5_ n6_ hb hbox hg) | ((with_reducible refine gate_dst (N := 3) rfl ?_); refine box_event ?hg (N := 3) ?hd (cs := #[.int .i64 0, .int .i64 0, .string (⟨#[]⟩ : ByteArray), .int .i64 0, .int .i64 0, .string (⟨#[]⟩ : ByteArray)]) (t := 112) ?hr ?_; (case hd => rfl); (case hg => rfl); (case hr => first | (go_simp; done) | (go_simp; rfl)); intro gb526 hg w6 hbox hb; have n0_ := ak (blk_below (g := gb524) (o := .cells #[.int .i64 a0_0, .int .i64 a0_1, .string a0_2, .int .i64 a0_3, .int .i64 a0_4, .string a0_5] 108 (0, 0)) d22_13 hb); have n1_ := ak (blk_below (g := gb525) (o := .cells #[.int .i64 0, .int .i64 0, .string (⟨#[]⟩ : ByteArray), .int .i64 0, .int .i64 0, .string (⟨#[]⟩ : ByteArray)] 112 (0, 0)) d22_19 hb); have n2_ := ak (below_step d22_18 hb); have n3_ := ak (hbox); have n4_ := ak ((by rw [hg]; exact (below_size d22_18) : w.heap.size ≤ gb526)); have n5_ := ak ((by rw [hg]; exact (below_size d22_18) : w.heap.size ≤ gb526)); have n6_ := ak ((by rw [hg]; exact Nat.ne_of_lt (blk_lt (g := gb524) (o := .cells #[.int .i64 a0_0, .int .i64 a0_1, .string a0_2, .int .i64 a0_3, .int .i64 a0_4, .string a0_5] 108 (0, 0)) d22_13) : gb524 ≠ gb526)); have n7_ := ak ((by rw [hg]; exact Nat.ne_of_gt (blk_lt (g := gb524) (o := .cells #[.int .i64 a0_0, .int .i64 a0_1, .string a0_2, .int .i64 a0_3, .int .i64 a0_4, .string a0_5] 108 (0, 0)) d22_13) : gb526 ≠ gb524)); have n8_ := ak ((by rw [hg]; exact Nat.ne_of_lt (blk_lt (g := gb525) (o := .cells #[.int .i64 0, .int .i64 0, .string (⟨#[]⟩ : ByteArray), .int .i64 0, .int .i64 0, .string (⟨#[]⟩ : ByteArray)] 112 (0, 0)) d22_19) : gb525 ≠ gb526)); have n9_ := ak ((by rw [hg]; exact Nat.ne_of_gt (blk_lt (g := gb525) (o := .cells #[.int .i64 0, .int .i64 0, .string (⟨#[]⟩ : ByteArray), .int .i64 0, .int .i64 0, .string (⟨#[]⟩ : ByteArray)] 112 (0, 0)) d22_19) : gb526 ≠ gb525)); clear BK524 BK525 HB; have BK524 := n0_; have BK525 := n1_; have HB := n2_; have BK526 := n3_; have GW526 := n4_; have GE526 := n5_; have NB524_526 := n6_; have NB526_524 := n7_; have NB525_526 := n8_; have NB526_525 := n9_; clear n0_ n1_ n2_ n3_ n4_ n5_ n6_ n7_ n8_ n9_ hb hbox hg; have hnb7 := NB524_525.out; have hnc7 := NB525_524.out; have hnb8 := NB524_526.out; have hnc8 := NB526_524.out; have hcz9_0 : w6.cell? ⟨gb524, 0, none⟩ = some (.int .i64 a0_0) := (blk_cell BK524.out 0).trans rfl; have hcz9_1 : w6.cell? ⟨gb524, 1, none⟩ = some (.int .i64 a0_1) := (blk_cell BK524.out 1).trans rfl; have hcz9_2 : w6.cell? ⟨gb524, 2, none⟩ = some (.string a0_2) := (blk_cell BK524.out 2).trans rfl; have hcz9_3 : w6.cell? ⟨gb524, 3, none⟩ = some (.int .i64 a0_3) := (blk_cell BK524.out 3).trans rfl; have hcz9_4 : w6.cell? ⟨gb524, 4, none⟩ = some (.int .i64 a0_4) := (blk_cell BK524.out 4).trans rfl; have hcz9_5 : w6.cell? ⟨gb524, 5, none⟩ = some (.string a0_5) := (blk_cell BK524.out 5).trans rfl; have hfz9_0 := blk_frozen BK524.out 0; have hfz9_1 := blk_frozen BK524.out 1; have hfz9_2 := blk_frozen BK524.out 2; have hfz9_3 := blk_frozen BK524.out 3; have hfz9_4 := blk_frozen BK524.out 4; have hfz9_5 := blk_frozen BK524.out 5) | ((with_reducible refine gate_callee (f := 34) rfl ?_); refine goesL_ (some 6) rfl rfl Tryd.func34 (by kernel_rfl) rfl #[.agg #[.int .i64 a0_0, .int .i64 a0_1, .string a0_2]] rfl d22_4 ?_; (with_reducible refine (laws_toValue.calls a0_0 a0_1 a0_2 t527 t528 t529 _ A2.out).mono ?_); rintro e w10 ⟨rfl, hb⟩; refine ⟨_, rfl, ?_⟩; have n0_ := ak (blk_below (g := gb524) (o := .cells #[.int .i64 a0_0, .int .i64 a0_1, .string a0_2, .int .i64 a0_3, .int .i64 a0_4, .string a0_5] 108 (0, 0)) d22_13 hb); have n1_ := ak (blk_below (g := gb525) (o := .cells #[.int .i64 0, .int .i64 0, .string (⟨#[]⟩ : ByteArray), .int .i64 0, .int .i64 0, .string (⟨#[]⟩ : ByteArray)] 112 (0, 0)) d22_19 hb); have n2_ := ak (blk_below (g := gb526) (o := .cells #[.int .i64 0, .int .i64 0, .string (⟨#[]⟩ : ByteArray), .int .i64 0, .int .i64 0, .string (⟨#[]⟩ : ByteArray)] 112 (0, 0)) (by (with_reducible repeat (first | refine blk_drewN ?_ _ | refine blk_drew ?_ | refine blk_alloc ?_ _)); exact BK526.out) hb); have n3_ := ak (below_step (by repeat (first | (with_reducible first | exact HB.out | apply below_alloc | apply pw_below_drewN | apply below_drew1 | refine below_set ?_ GE524.out | refine below_set ?_ GE525.out | refine below_set ?_ GE526.out) | exact HB.out)) hb); clear BK524 BK525 BK526 HB; have BK524 := n0_; have BK525 := n1_; have BK526 := n2_; have HB := n3_; clear n0_ n1_ n2_ n3_; (try clear hb); have hnb11 := NB526_525.out; have hnc11 := NB525_526.out; have hcz12_0 : w10.cell? ⟨gb526, 0, none⟩ = some (.int .i64 0) := (blk_cell BK526.out 0).trans rfl; have hcz12_1 : w10.cell? ⟨gb526, 1, none⟩ = some (.int .i64 0) := (blk_cell BK526.out 1).trans rfl; have hcz12_2 : w10.cell? ⟨gb526, 2, none⟩ = some (.string (⟨#[]⟩ : ByteArray)) := (blk_cell BK526.out 2).trans rfl; have hcz12_3 : w10.cell? ⟨gb526, 3, none⟩ = some (.int .i64 0) := (blk_cell BK526.out 3).trans rfl; have hcz12_4 : w10.cell? ⟨gb526, 4, none⟩ = some (.int .i64 0) := (blk_cell BK526.out 4).trans rfl; have hcz12_5 : w10.cell? ⟨gb526, 5, none⟩ = some (.string (⟨#[]⟩ : ByteArray)) := (blk_cell BK526.out 5).trans rfl; have hfz12_0 := blk_frozen BK526.out 0; have hfz12_1 := blk_frozen BK526.out 1; have hfz12_2 := blk_frozen BK526.out 2; have hfz12_3 := blk_frozen BK526.out 3; have hfz12_4 := blk_frozen BK526.out 4; have hfz12_5 := blk_frozen BK526.out 5; have hcz13_0 : w10.cell? ⟨gb524, 0, none⟩ = some (.int .i64 a0_0) := (blk_cell BK524.out 0).trans rfl; have hcz13_1 : w10.cell? ⟨gb524, 1, none⟩ = some (.int .i64 a0_1) := (blk_cell BK524.out 1).trans rfl; have hcz13_2 : w10.cell? ⟨gb524, 2, none⟩ = some (.string a0_2) := (blk_cell BK524.out 2).trans rfl; have hcz13_3 : w10.cell? ⟨gb524, 3, none⟩ = some (.int .i64 a0_3) := (blk_cell BK524.out 3).trans rfl; have hcz13_4 : w10.cell? ⟨gb524, 4, none⟩ = some (.int .i64 a0_4) := (blk_cell BK524.out 4).trans rfl; have hcz13_5 : w10.cell? ⟨gb524, 5, none⟩ = some (.string a0_5) := (blk_cell BK524.out 5).trans rfl; have hfz13_0 := blk_frozen BK524.out 0; have hfz13_1 := blk_frozen BK524.out 1; have hfz13_2 := blk_frozen BK524.out 2; have hfz13_3 := blk_frozen BK524.out 3; have hfz13_4 := blk_frozen BK524.out 4; have hfz13_5 := blk_frozen BK524.out 5) | ((with_reducible refine gate_callee (f := 34) rfl ?_); refine goesL_ (some 10) rfl rfl Tryd.func34 (by kernel_rfl) rfl #[.agg #[.int .i64 a0_3, .int .i64 a0_4, .string a0_5]] rfl d22_4 ?_; (with_reducible refine (laws_toValue.calls a0_3 a0_4 a0_5 t530 t531 t532 _ A3.out).mono ?_); rintro e w14 ⟨rfl, hb⟩; refine ⟨_, rfl, ?_⟩; have n0_ := ak (blk_below (g := gb524) (o := .cells #[.int .i64 a0_0, .int .i64 a0_1, .string a0_2, .int .i64 a0_3, .int .i64 a0_4, .string a0_5] 108 (0, 0)) (by (with_reducible repeat (first | refine blk_drewN ?_ _ | refine blk_drew ?_ | refine blk_alloc ?_ _)); refine blk_far ?_ NB524_526.out _; (with_reducible repeat (first | refine blk_drewN ?_ _ | refine blk_drew ?_ | refine blk_alloc ?_ _)); refine blk_far ?_ NB524_526.out _; (with_reducible repeat (first | refine blk_drewN ?_ _ | refine blk_drew ?_ | refine blk_alloc ?_ _)); refine blk_far ?_ NB524_526.out _; (with_reducible repeat (first | refine blk_drewN ?_ _ | refine blk_drew ?_ | refine blk_alloc ?_ _)); exact BK524.out) hb); have n1_ := ak (blk_below (g := gb525) (o := .cells #[.int .i64 0, .int .i64 0, .string (⟨#[]⟩ : ByteArray), .int .i64 0, .int .i64 0, .string (⟨#[]⟩ : ByteArray)] 112 (0, 0)) (by (with_reducible repeat (first | refine blk_drewN ?_ _ | refine blk_drew ?_ | refine blk_alloc ?_ _)); refine blk_far ?_ NB525_526.out _; (with_reducible repeat (first | refine blk_drewN ?_ _ | refine blk_drew ?_ | refine blk_alloc ?_ _)); refine blk_far ?_ NB525_526.out _; (with_reducible repeat (first | refine blk_drewN ?_ _ | refine blk_drew ?_ | refine blk_alloc ?_ _)); refine blk_far ?_ NB525_526.out _; (with_reducible repeat (first | refine blk_drewN ?_ _ | refine blk_drew ?_ | refine blk_alloc ?_ _)); exact BK525.out) hb); have n2_ := ak (blk_below (g := gb526) (o := .cells #[.int .i64 t527, .int .i64 t528, .string t529, .int .i64 0, .int .i64 0, .string (⟨#[]⟩ : ByteArray)] 112 (0, 0)) (by (with_reducible repeat (first | refine blk_drewN ?_ _ | refine blk_drew ?_ | refine blk_alloc ?_ _)); refine blk_put (cs := #[.int .i64 t527, .int .i64 t528, .string (⟨#[]⟩ : ByteArray), .int .i64 0, .int .i64 0, .string (⟨#[]⟩ : ByteArray)]) ?_ 2 _ rfl; (with_reducible repeat (first | refine blk_drewN ?_ _ | refine blk_drew ?_ | refine blk_alloc ?_ _)); refine blk_put (cs := #[.int .i64 t527, .int .i64 0, .string (⟨#[]⟩ : ByteArray), .int .i64 0, .int .i64 0, .string (⟨#[]⟩ : ByteArray)]) ?_ 1 _ rfl; (with_reducible repeat (first | refine blk_drewN ?_ _ | refine blk_drew ?_ | refine blk_alloc ?_ _)); refine blk_put (cs := #[.int .i64 0, .int .i64 0, .string (⟨#[]⟩ : ByteArray), .int .i64 0, .int .i64 0, .string (⟨#[]⟩ : ByteArray)]) ?_ 0 _ rfl; (with_reducible repeat (first | refine blk_drewN ?_ _ | refine blk_drew ?_ | refine blk_alloc ?_ _)); exact BK526.out) hb); have n3_ := ak (below_step (by repeat (first | (with_reducible first | exact HB.out | apply below_alloc | apply pw_below_drewN | apply below_drew1 | refine below_set ?_ GE524.out | refine below_set ?_ GE525.out | refine below_set ?_ GE526.out) | exact HB.out)) hb); clear BK524 BK525 BK526 HB; have BK524 := n0_; have BK525 := n1_; have BK526 := n2_; have HB := n3_; clear n0_ n1_ n2_ n3_; (try clear hb); have hcz15_0 : w14.cell? ⟨gb526, 0, none⟩ = some (.int .i64 t527) := (blk_cell BK526.out 0).trans rfl; have hcz15_1 : w14.cell? ⟨gb526, 1, none⟩ = some (.int .i64 t528) := (blk_cell BK526.out 1).trans rfl; have hcz15_2 : w14.cell? ⟨gb526, 2, none⟩ = some (.string t529) := (blk_cell BK526.out 2).trans rfl; have hcz15_3 : w14.cell? ⟨gb526, 3, none⟩ = some (.int .i64 0) := (blk_cell BK526.out 3).trans rfl; have hcz15_4 : w14.cell? ⟨gb526, 4, none⟩ = some (.int .i64 0) := (blk_cell BK526.out 4).trans rfl; have hcz15_5 : w14.cell? ⟨gb526, 5, none⟩ = some (.string (⟨#[]⟩ : ByteArray)) := (blk_cell BK526.out 5).trans rfl; have hfz15_0 := blk_frozen BK526.out 0; have hfz15_1 := blk_frozen BK526.out 1; have hfz15_2 := blk_frozen BK526.out 2; have hfz15_3 := blk_frozen BK526.out 3; have hfz15_4 := blk_frozen BK526.out 4; have hfz15_5 := blk_frozen BK526.out 5; have hcz16_0 : w14.cell? ⟨gb525, 0, none⟩ = some (.int .i64 0) := (blk_cell BK525.out 0).trans rfl; have hcz16_1 : w14.cell? ⟨gb525, 1, none⟩ = some (.int .i64 0) := (blk_cell BK525.out 1).trans rfl; have hcz16_2 : w14.cell? ⟨gb525, 2, none⟩ = some (.string (⟨#[]⟩ : ByteArray)) := (blk_cell BK525.out 2).trans rfl; have hcz16_3 : w14.cell? ⟨gb525, 3, none⟩ = some (.int .i64 0) := (blk_cell BK525.out 3).trans rfl; have hcz16_4 : w14.cell? ⟨gb525, 4, none⟩ = some (.int .i64 0) := (blk_cell BK525.out 4).trans rfl; have hcz16_5 : w14.cell? ⟨gb525, 5, none⟩ = some (.string (⟨#[]⟩ : ByteArray)) := (blk_cell BK525.out 5).trans rfl; have hfz16_0 := blk_frozen BK525.out 0; have hfz16_1 := blk_frozen BK525.out 1; have hfz16_2 := blk_frozen BK525.out 2; have hfz16_3 := blk_frozen BK525.out 3; have hfz16_4 := blk_frozen BK525.out 4; have hfz16_5 := blk_frozen BK525.out 5))
  refine bodyPost_ret (results_cell_row rfl _ _ gb525 112 #[.int .i64 t527, .int .i64 t528, .string t529, .int .i64 t530, .int .i64 t531, .string t532] (0, 0) _ rfl (by (with_reducible repeat (first | refine blk_drewN ?_ _ | refine blk_drew ?_ | refine blk_alloc ?_ _)); refine blk_put (cs := #[.int .i64 t527, .int .i64 t528, .string t529, .int .i64 t530, .int .i64 t531, .string (⟨#[]⟩ : ByteArray)]) ?_ 5 _ rfl; (with_reducible repeat (first | refine blk_drewN ?_ _ | refine blk_drew ?_ | refine blk_alloc ?_ _)); refine blk_put (cs := #[.int .i64 t527, .int .i64 t528, .string t529, .int .i64 t530, .int .i64 0, .string (⟨#[]⟩ : ByteArray)]) ?_ 4 _ rfl; (with_reducible repeat (first | refine blk_drewN ?_ _ | refine blk_drew ?_ | refine blk_alloc ?_ _)); refine blk_put (cs := #[.int .i64 t527, .int .i64 t528, .string t529, .int .i64 0, .int .i64 0, .string (⟨#[]⟩ : ByteArray)]) ?_ 3 _ rfl; (with_reducible repeat (first | refine blk_drewN ?_ _ | refine blk_drew ?_ | refine blk_alloc ?_ _)); refine blk_put (cs := #[.int .i64 t527, .int .i64 t528, .string (⟨#[]⟩ : ByteArray), .int .i64 0, .int .i64 0, .string (⟨#[]⟩ : ByteArray)]) ?_ 2 _ rfl; (with_reducible repeat (first | refine blk_drewN ?_ _ | refine blk_drew ?_ | refine blk_alloc ?_ _)); refine blk_put (cs := #[.int .i64 t527, .int .i64 0, .string (⟨#[]⟩ : ByteArray), .int .i64 0, .int .i64 0, .string (⟨#[]⟩ : ByteArray)]) ?_ 1 _ rfl; (with_reducible repeat (first | refine blk_drewN ?_ _ | refine blk_drew ?_ | refine blk_alloc ?_ _)); refine blk_put (cs := #[.int .i64 0, .int .i64 0, .string (⟨#[]⟩ : ByteArray), .int .i64 0, .int .i64 0, .string (⟨#[]⟩ : ByteArray)]) ?_ 0 _ rfl; (with_reducible repeat (first | refine blk_drewN ?_ _ | refine blk_drew ?_ | refine blk_alloc ?_ _)); refine blk_far ?_ NB525_526.out _; (with_reducible repeat (first | refine blk_drewN ?_ _ | refine blk_drew ?_ | refine blk_alloc ?_ _)); refine blk_far ?_ NB525_526.out _; (with_reducible repeat (first | refine blk_drewN ?_ _ | refine blk_drew ?_ | refine blk_alloc ?_ _)); refine blk_far ?_ NB525_526.out _; (with_reducible repeat (first | refine blk_drewN ?_ _ | refine blk_drew ?_ | refine blk_alloc ?_ _)); exact BK525.out) Tryd.underlying112 rfl (by kernel_rfl)) rfl ?_
  exact ⟨by first | rfl | (simp [errW_none, errW_some] <;> rfl) | (simp [*, errW_none, errW_some] <;> rfl), by repeat (first | (with_reducible first | exact HB.out | apply below_alloc | apply pw_below_drewN | apply below_drew1 | refine below_set ?_ GE524.out | refine below_set ?_ GE525.out | refine below_set ?_ GE526.out) | exact HB.out)⟩

end Go.Proofs.YtaeeoljihmndfaaDoor.A
