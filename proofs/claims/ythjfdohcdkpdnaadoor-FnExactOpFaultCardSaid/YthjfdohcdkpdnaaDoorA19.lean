/- Walks of the program's functions: each Go function's answer as a plain Lean function, and that the call comes to it. Written by a program. Conditions: those in each theorem's own head. -/
import Derived.Test.YthjfdohcdkpdnaaDoorA0
import Derived.Test.YthjfdohcdkpdnaaDoorA18
namespace Go.Proofs.YthjfdohcdkpdnaaDoor.A
open Go.RowKit Go.Proofs.YthjfdohcdkpdnaaDoorW.PrintWords Go.Proofs.YthjfdohcdkpdnaaDoorW.PrintLast Go.Proofs.YthjfdohcdkpdnaaDoorW.PrintMore
attribute [local go_sem] max2_int min2_int max_two min_two max_three min_three max_four min_four   -- for this text's walks alone
set_option linter.unusedVariables false
set_option linter.unusedSimpArgs false

theorem d19_1 {p : Prop} (h : p := by (with_reducible repeat (first | refine blk_drewN ?_ _ | refine blk_drew ?_ | refine blk_alloc ?_ _)); exact BK592.out) : p := h
theorem d19_2 {p : Prop} (h : p := by repeat (first | (with_reducible first | exact HB.out | apply below_alloc | apply pw_below_drewN | apply below_drew1) | exact HB.out)) : p := h
theorem d19_3 {p : Prop} (h : p := by first | rfl | (simp; done) | (simp [*]; done) | (simp [ne_nil_b, eq_nil_b]; done)) : p := h
theorem d19_4 {p : Prop} (h : p := by first | (with_reducible assumption) | assumption) : p := h
theorem d19_5 {p : Prop} (h : p := by (with_reducible repeat (first | refine blk_drewN ?_ _ | refine blk_drew ?_ | refine blk_alloc ?_ _)); exact BK594.out) : p := h
theorem d19_6 {p : Prop} (h : p := by (with_reducible repeat (first | refine blk_drewN ?_ _ | refine blk_drew ?_ | refine blk_alloc ?_ _)); exact BK606.out) : p := h
theorem d19_7 {p : Prop} (h : p := by repeat (first | (with_reducible first | exact HB.out | apply below_alloc | apply pw_below_drewN | apply below_drew1 | refine below_set ?_ GE606.out | refine below_set ?_ GE607.out | refine below_set ?_ GE608.out) | exact HB.out)) : p := h
theorem d19_8 {p : Prop} (h : p := by repeat (first | (with_reducible first | exact HB.out | apply below_alloc | apply pw_below_drewN | apply below_drew1 | refine below_set ?_ GE594.out | refine below_set ?_ GE595.out) | exact HB.out)) : p := h
theorem d19_9 {p : Prop} (h : p := by repeat (first | (with_reducible first | exact HB.out | apply below_alloc | apply pw_below_drewN | apply below_drew1 | refine below_set ?_ GE606.out | refine below_set ?_ GE607.out) | exact HB.out)) : p := h
theorem d19_10 {p : Prop} (h : p := by repeat (first | (with_reducible first | exact HB.out | apply below_alloc | apply pw_below_drewN | apply below_drew1 | refine below_set ?_ GE594.out) | exact HB.out)) : p := h
theorem d19_11 {p : Prop} (h : p := by repeat (first | (with_reducible first | exact HB.out | apply below_alloc | apply pw_below_drewN | apply below_drew1 | refine below_set ?_ GE606.out) | exact HB.out)) : p := h

/-! ### spec_OpFault: function 39 -/
def spec_OpFault.f (k : Nat) (a0_0 : Int) (a0_1 : Int) (a0_2 : Int) (a0_3 : Int) (a0_4 : Int) (a0_5 : ByteArray) (l0_6 : List (S132)) : Option (Int) := (spec_l9Op.f k a0_0 a0_1 a0_2 a0_3 a0_4 a0_5 l0_6).bind fun t593 => (some t593)
theorem spec_OpFault.mono : ∀ a0 a1 a2 a3 a4 a5 a6 k, LeO (spec_OpFault.f k a0 a1 a2 a3 a4 a5 a6) (spec_OpFault.f (k + 1) a0 a1 a2 a3 a4 a5 a6) := by
  intro a0 a1 a2 a3 a4 a5 a6 k
  unfold spec_OpFault.f
  repeat' first
      | (with_reducible exact spec_l9Op.mono _ _ _ _ _ _ _ _)
      | (with_reducible exact LeO.refl _)
      | (with_reducible exact LeO.none _)
      | (with_reducible refine LeO.ite ?_ ?_)
      | (with_reducible refine LeO.bind ?_ (fun _ => ?_))
      | exact spec_l9Op.mono _ _ _ _ _ _ _ _
      | exact LeO.none _
      | refine LeO.ite ?_ ?_
      | refine LeO.bind ?_ (fun _ => ?_)
set_option maxHeartbeats 8000000 in
set_option maxRecDepth 100000 in
theorem spec_OpFault.calls (k : Nat) (a0_0 : Int) (a0_1 : Int) (a0_2 : Int) (a0_3 : Int) (a0_4 : Int) (a0_5 : ByteArray) (A0_6 : Option Addr) (c0_6 : Nat) (l0_6 : List (S132)) (r : Int) (w : World) (hr0_6 : Kd.C k132 w A0_6 l0_6.length l0_6) (hc0_6 : l0_6.length ≤ c0_6) (h : spec_OpFault.f k a0_0 a0_1 a0_2 a0_3 a0_4 a0_5 l0_6 = some r) :
    Calls Tryd.prog 39 #[.agg #[.int .i64 a0_0, .int .i64 a0_1, .int .i64 a0_2, .int .i64 a0_3, .int .i64 a0_4, .string a0_5, .slice A0_6 l0_6.length c0_6]] w fun e w' => e = .returned (.int .i64 r) ∧ Below w.heap.size w w' := by
  have hu69 := Tryd.underlying69
  have HR0_6 := ak hr0_6
  have HC0_6 := ak hc0_6
  clear hr0_6 hc0_6
  have HB := ak (Below.refl w.heap.size w)
  have H : ((spec_l9Op.f k a0_0 a0_1 a0_2 a0_3 a0_4 a0_5 l0_6).bind fun t593 => (some t593)) = some r := h
  clear h
  replace H := Option.bind_eq_some_iff.mp H
  obtain ⟨t593, A20, H⟩ := H
  replace H : (some t593) = some r := H
  have A2 := ak A20
  clear A20
  obtain rfl := Option.some.inj H
  go_enter Tryd.func39, Tryd.ntmps39
  go_wp2_with (first | ((with_reducible refine gate_dst (N := 1) rfl ?_); refine box_event ?hg (N := 1) ?hd (cs := #[.int .i64 a0_0, .int .i64 a0_1, .int .i64 a0_2, .int .i64 a0_3, .int .i64 a0_4, .string a0_5, .slice A0_6 l0_6.length c0_6]) (t := 69) ?hr ?_; (case hd => rfl); (case hg => rfl); (case hr => first | (go_simp; done) | (go_simp; rfl)); intro gb592 hg w3 hbox hb; have n0_ := ak (below_step d19_2 hb); have n1_ := ak (hbox); have n2_ := ak ((by rw [hg]; exact (below_size d19_2) : w.heap.size ≤ gb592)); have n3_ := ak ((by rw [hg]; exact (below_size d19_2) : w.heap.size ≤ gb592)); clear HB; have HB := n0_; have BK592 := n1_; have GW592 := n2_; have GE592 := n3_; clear n0_ n1_ n2_ n3_ hb hbox hg; have hcz4_0 : w3.cell? ⟨gb592, 0, none⟩ = some (.int .i64 a0_0) := (blk_cell BK592.out 0).trans rfl; have hcz4_1 : w3.cell? ⟨gb592, 1, none⟩ = some (.int .i64 a0_1) := (blk_cell BK592.out 1).trans rfl; have hcz4_2 : w3.cell? ⟨gb592, 2, none⟩ = some (.int .i64 a0_2) := (blk_cell BK592.out 2).trans rfl; have hcz4_3 : w3.cell? ⟨gb592, 3, none⟩ = some (.int .i64 a0_3) := (blk_cell BK592.out 3).trans rfl; have hcz4_4 : w3.cell? ⟨gb592, 4, none⟩ = some (.int .i64 a0_4) := (blk_cell BK592.out 4).trans rfl; have hcz4_5 : w3.cell? ⟨gb592, 5, none⟩ = some (.string a0_5) := (blk_cell BK592.out 5).trans rfl; have hcz4_6 : w3.cell? ⟨gb592, 6, none⟩ = some (.slice A0_6 l0_6.length c0_6) := (blk_cell BK592.out 6).trans rfl; have hfz4_0 := blk_frozen BK592.out 0; have hfz4_1 := blk_frozen BK592.out 1; have hfz4_2 := blk_frozen BK592.out 2; have hfz4_3 := blk_frozen BK592.out 3; have hfz4_4 := blk_frozen BK592.out 4; have hfz4_5 := blk_frozen BK592.out 5; have hfz4_6 := blk_frozen BK592.out 6) | (go_at_call 67; (with_reducible refine (spec_l9Op.calls k _ a0_0 a0_1 a0_2 a0_3 a0_4 a0_5 A0_6 c0_6 l0_6 t593 _ ?side1 ?side2 ?side3 ?side4 ?side5 ?side6 ?side7 ?side8 ?side9 A2.out).mono ?_); (case side1 => first | exact hcz4_0 | (refine Eq.trans ?_ hcz4_0; simp only [go_sem]) | exact ((blk_cell d19_1 0).trans rfl) | (refine Eq.trans ?_ ((blk_cell d19_1 0).trans rfl); simp only [go_sem])); (case side2 => first | exact hcz4_1 | (refine Eq.trans ?_ hcz4_1; simp only [go_sem]) | exact ((blk_cell d19_1 1).trans rfl) | (refine Eq.trans ?_ ((blk_cell d19_1 1).trans rfl); simp only [go_sem])); (case side3 => first | exact hcz4_2 | (refine Eq.trans ?_ hcz4_2; simp only [go_sem]) | exact ((blk_cell d19_1 2).trans rfl) | (refine Eq.trans ?_ ((blk_cell d19_1 2).trans rfl); simp only [go_sem])); (case side4 => first | exact hcz4_3 | (refine Eq.trans ?_ hcz4_3; simp only [go_sem]) | exact ((blk_cell d19_1 3).trans rfl) | (refine Eq.trans ?_ ((blk_cell d19_1 3).trans rfl); simp only [go_sem])); (case side5 => first | exact hcz4_4 | (refine Eq.trans ?_ hcz4_4; simp only [go_sem]) | exact ((blk_cell d19_1 4).trans rfl) | (refine Eq.trans ?_ ((blk_cell d19_1 4).trans rfl); simp only [go_sem])); (case side6 => first | exact hcz4_5 | (refine Eq.trans ?_ hcz4_5; simp only [go_sem]) | exact ((blk_cell d19_1 5).trans rfl) | (refine Eq.trans ?_ ((blk_cell d19_1 5).trans rfl); simp only [go_sem])); (case side7 => first | exact hcz4_6 | (refine Eq.trans ?_ hcz4_6; simp only [go_sem]) | exact ((blk_cell d19_1 6).trans rfl) | (refine Eq.trans ?_ ((blk_cell d19_1 6).trans rfl); simp only [go_sem])); (case side8 => repeat (first | exact (Kd.C_below HR0_6.out HB.out) | (with_reducible refine Kd.C_alloc ?_ _) | (with_reducible refine Kd.C_drewN ?_ _) | (with_reducible refine Kd.C_drew ?_))); (case side9 => exact HC0_6.out); rintro e w5 ⟨rfl, hb⟩; have n0_ := ak (blk_below (g := gb592) (o := .cells #[.int .i64 a0_0, .int .i64 a0_1, .int .i64 a0_2, .int .i64 a0_3, .int .i64 a0_4, .string a0_5, .slice A0_6 l0_6.length c0_6] 69 (0, 0)) d19_1 hb); have n1_ := ak (below_step (by repeat (first | (with_reducible first | exact HB.out | apply below_alloc | apply pw_below_drewN | apply below_drew1 | refine below_set ?_ GE592.out) | exact HB.out)) hb); clear BK592 HB; have BK592 := n0_; have HB := n1_; clear n0_ n1_; (try clear hb)))
  go_ret
  exact ⟨by first | rfl | (simp [errW_none, errW_some] <;> rfl) | (simp [*, errW_none, errW_some] <;> rfl), by repeat (first | (with_reducible first | exact HB.out | apply below_alloc | apply pw_below_drewN | apply below_drew1 | refine below_set ?_ GE592.out) | exact HB.out)⟩

/-! ### laws_toDatum: function 100 -/
def laws_toDatum.f (a0_0 : Int) (a0_1 : Int) (a0_2 : Int) (a0_3 : ByteArray) : Option (Int × Int × Int × ByteArray) := some (a0_0, a0_1, a0_2, a0_3)
set_option maxHeartbeats 8000000 in
set_option maxRecDepth 100000 in
theorem laws_toDatum.calls (a0_0 : Int) (a0_1 : Int) (a0_2 : Int) (a0_3 : ByteArray) (r1 : Int) (r2 : Int) (r3 : Int) (r4 : ByteArray) (w : World) (h : laws_toDatum.f a0_0 a0_1 a0_2 a0_3 = some (r1, r2, r3, r4)) :
    Calls Tryd.prog 100 #[.agg #[.int .i64 a0_0, .int .i64 a0_1, .int .i64 a0_2, .string a0_3]] w fun e w' => e = .returned (.agg #[.int .i64 r1, .int .i64 r2, .int .i64 r3, .string r4]) ∧ Below w.heap.size w w' := by
  have hu130 := Tryd.underlying130
  have hu132 := Tryd.underlying132
  have HB := ak (Below.refl w.heap.size w)
  have H : (some (a0_0, a0_1, a0_2, a0_3)) = some (r1, r2, r3, r4) := h
  clear h
  simp only [Option.some.injEq, Prod.mk.injEq] at H
  obtain ⟨rfl, rfl, rfl, rfl⟩ := H
  go_enter Tryd.func100, Tryd.ntmps100
  go_wp2_with (first | ((with_reducible refine gate_dst (N := 1) rfl ?_); refine box_event ?hg (N := 1) ?hd (cs := #[.int .i64 a0_0, .int .i64 a0_1, .int .i64 a0_2, .string a0_3]) (t := 130) ?hr ?_; (case hd => rfl); (case hg => rfl); (case hr => first | (go_simp; done) | (go_simp; rfl)); intro gb594 hg w2 hbox hb; have n0_ := ak (below_step d19_2 hb); have n1_ := ak (hbox); have n2_ := ak ((by rw [hg]; exact (below_size d19_2) : w.heap.size ≤ gb594)); have n3_ := ak ((by rw [hg]; exact (below_size d19_2) : w.heap.size ≤ gb594)); clear HB; have HB := n0_; have BK594 := n1_; have GW594 := n2_; have GE594 := n3_; clear n0_ n1_ n2_ n3_ hb hbox hg) | ((with_reducible refine gate_dst (N := 2) rfl ?_); refine box_event ?hg (N := 2) ?hd (cs := #[.int .i64 0, .int .i64 0, .int .i64 0, .string (⟨#[]⟩ : ByteArray)]) (t := 132) ?hr ?_; (case hd => rfl); (case hg => rfl); (case hr => first | (go_simp; done) | (go_simp; rfl)); intro gb595 hg w3 hbox hb; have n0_ := ak (blk_below (g := gb594) (o := .cells #[.int .i64 a0_0, .int .i64 a0_1, .int .i64 a0_2, .string a0_3] 130 (0, 0)) d19_5 hb); have n1_ := ak (below_step d19_10 hb); have n2_ := ak (hbox); have n3_ := ak ((by rw [hg]; exact (below_size d19_10) : w.heap.size ≤ gb595)); have n4_ := ak ((by rw [hg]; exact (below_size d19_10) : w.heap.size ≤ gb595)); have n5_ := ak ((by rw [hg]; exact Nat.ne_of_lt (blk_lt (g := gb594) (o := .cells #[.int .i64 a0_0, .int .i64 a0_1, .int .i64 a0_2, .string a0_3] 130 (0, 0)) d19_5) : gb594 ≠ gb595)); have n6_ := ak ((by rw [hg]; exact Nat.ne_of_gt (blk_lt (g := gb594) (o := .cells #[.int .i64 a0_0, .int .i64 a0_1, .int .i64 a0_2, .string a0_3] 130 (0, 0)) d19_5) : gb595 ≠ gb594)); clear BK594 HB; have BK594 := n0_; have HB := n1_; have BK595 := n2_; have GW595 := n3_; have GE595 := n4_; have NB594_595 := n5_; have NB595_594 := n6_; clear n0_ n1_ n2_ n3_ n4_ n5_ n6_ hb hbox hg) | ((with_reducible refine gate_dst (N := 3) rfl ?_); refine box_event ?hg (N := 3) ?hd (cs := #[.int .i64 0, .int .i64 0, .int .i64 0, .string (⟨#[]⟩ : ByteArray)]) (t := 132) ?hr ?_; (case hd => rfl); (case hg => rfl); (case hr => first | (go_simp; done) | (go_simp; rfl)); intro gb596 hg w4 hbox hb; have n0_ := ak (blk_below (g := gb594) (o := .cells #[.int .i64 a0_0, .int .i64 a0_1, .int .i64 a0_2, .string a0_3] 130 (0, 0)) d19_5 hb); have n1_ := ak (blk_below (g := gb595) (o := .cells #[.int .i64 0, .int .i64 0, .int .i64 0, .string (⟨#[]⟩ : ByteArray)] 132 (0, 0)) (by (with_reducible repeat (first | refine blk_drewN ?_ _ | refine blk_drew ?_ | refine blk_alloc ?_ _)); exact BK595.out) hb); have n2_ := ak (below_step d19_8 hb); have n3_ := ak (hbox); have n4_ := ak ((by rw [hg]; exact (below_size d19_8) : w.heap.size ≤ gb596)); have n5_ := ak ((by rw [hg]; exact (below_size d19_8) : w.heap.size ≤ gb596)); have n6_ := ak ((by rw [hg]; exact Nat.ne_of_lt (blk_lt (g := gb594) (o := .cells #[.int .i64 a0_0, .int .i64 a0_1, .int .i64 a0_2, .string a0_3] 130 (0, 0)) d19_5) : gb594 ≠ gb596)); have n7_ := ak ((by rw [hg]; exact Nat.ne_of_gt (blk_lt (g := gb594) (o := .cells #[.int .i64 a0_0, .int .i64 a0_1, .int .i64 a0_2, .string a0_3] 130 (0, 0)) d19_5) : gb596 ≠ gb594)); have n8_ := ak ((by rw [hg]; exact Nat.ne_of_lt (blk_lt (g := gb595) (o := .cells #[.int .i64 0, .int .i64 0, .int .i64 0, .string (⟨#[]⟩ : ByteArray)] 132 (0, 0)) (by (with_reducible repeat (first | refine blk_drewN ?_ _ | refine blk_drew ?_ | refine blk_alloc ?_ _)); exact BK595.out)) : gb595 ≠ gb596)); have n9_ := ak ((by rw [hg]; exact Nat.ne_of_gt (blk_lt (g := gb595) (o := .cells #[.int .i64 0, .int .i64 0, .int .i64 0, .string (⟨#[]⟩ : ByteArray)] 132 (0, 0)) (by (with_reducible repeat (first | refine blk_drewN ?_ _ | refine blk_drew ?_ | refine blk_alloc ?_ _)); exact BK595.out)) : gb596 ≠ gb595)); clear BK594 BK595 HB; have BK594 := n0_; have BK595 := n1_; have HB := n2_; have BK596 := n3_; have GW596 := n4_; have GE596 := n5_; have NB594_596 := n6_; have NB596_594 := n7_; have NB595_596 := n8_; have NB596_595 := n9_; clear n0_ n1_ n2_ n3_ n4_ n5_ n6_ n7_ n8_ n9_ hb hbox hg; have hnb5 := NB594_595.out; have hnc5 := NB595_594.out; have hnb6 := NB594_596.out; have hnc6 := NB596_594.out; have hcz7_0 : w4.cell? ⟨gb594, 0, none⟩ = some (.int .i64 a0_0) := (blk_cell BK594.out 0).trans rfl; have hcz7_1 : w4.cell? ⟨gb594, 1, none⟩ = some (.int .i64 a0_1) := (blk_cell BK594.out 1).trans rfl; have hcz7_2 : w4.cell? ⟨gb594, 2, none⟩ = some (.int .i64 a0_2) := (blk_cell BK594.out 2).trans rfl; have hcz7_3 : w4.cell? ⟨gb594, 3, none⟩ = some (.string a0_3) := (blk_cell BK594.out 3).trans rfl; have hfz7_0 := blk_frozen BK594.out 0; have hfz7_1 := blk_frozen BK594.out 1; have hfz7_2 := blk_frozen BK594.out 2; have hfz7_3 := blk_frozen BK594.out 3; have hnb8 := NB596_595.out; have hnc8 := NB595_596.out; have hcz9_0 : w4.cell? ⟨gb596, 0, none⟩ = some (.int .i64 0) := (blk_cell BK596.out 0).trans rfl; have hcz9_1 : w4.cell? ⟨gb596, 1, none⟩ = some (.int .i64 0) := (blk_cell BK596.out 1).trans rfl; have hcz9_2 : w4.cell? ⟨gb596, 2, none⟩ = some (.int .i64 0) := (blk_cell BK596.out 2).trans rfl; have hcz9_3 : w4.cell? ⟨gb596, 3, none⟩ = some (.string (⟨#[]⟩ : ByteArray)) := (blk_cell BK596.out 3).trans rfl; have hfz9_0 := blk_frozen BK596.out 0; have hfz9_1 := blk_frozen BK596.out 1; have hfz9_2 := blk_frozen BK596.out 2; have hfz9_3 := blk_frozen BK596.out 3; have hcz10_0 : w4.cell? ⟨gb595, 0, none⟩ = some (.int .i64 0) := (blk_cell BK595.out 0).trans rfl; have hcz10_1 : w4.cell? ⟨gb595, 1, none⟩ = some (.int .i64 0) := (blk_cell BK595.out 1).trans rfl; have hcz10_2 : w4.cell? ⟨gb595, 2, none⟩ = some (.int .i64 0) := (blk_cell BK595.out 2).trans rfl; have hcz10_3 : w4.cell? ⟨gb595, 3, none⟩ = some (.string (⟨#[]⟩ : ByteArray)) := (blk_cell BK595.out 3).trans rfl; have hfz10_0 := blk_frozen BK595.out 0; have hfz10_1 := blk_frozen BK595.out 1; have hfz10_2 := blk_frozen BK595.out 2; have hfz10_3 := blk_frozen BK595.out 3))
  refine bodyPost_ret (results_cell_row rfl _ _ gb595 132 #[.int .i64 a0_0, .int .i64 a0_1, .int .i64 a0_2, .string a0_3] (0, 0) _ rfl (by (with_reducible repeat (first | refine blk_drewN ?_ _ | refine blk_drew ?_ | refine blk_alloc ?_ _)); refine blk_put (cs := #[.int .i64 a0_0, .int .i64 a0_1, .int .i64 a0_2, .string (⟨#[]⟩ : ByteArray)]) ?_ 3 _ rfl; (with_reducible repeat (first | refine blk_drewN ?_ _ | refine blk_drew ?_ | refine blk_alloc ?_ _)); refine blk_put (cs := #[.int .i64 a0_0, .int .i64 a0_1, .int .i64 0, .string (⟨#[]⟩ : ByteArray)]) ?_ 2 _ rfl; (with_reducible repeat (first | refine blk_drewN ?_ _ | refine blk_drew ?_ | refine blk_alloc ?_ _)); refine blk_put (cs := #[.int .i64 a0_0, .int .i64 0, .int .i64 0, .string (⟨#[]⟩ : ByteArray)]) ?_ 1 _ rfl; (with_reducible repeat (first | refine blk_drewN ?_ _ | refine blk_drew ?_ | refine blk_alloc ?_ _)); refine blk_put (cs := #[.int .i64 0, .int .i64 0, .int .i64 0, .string (⟨#[]⟩ : ByteArray)]) ?_ 0 _ rfl; (with_reducible repeat (first | refine blk_drewN ?_ _ | refine blk_drew ?_ | refine blk_alloc ?_ _)); refine blk_far ?_ NB595_596.out _; (with_reducible repeat (first | refine blk_drewN ?_ _ | refine blk_drew ?_ | refine blk_alloc ?_ _)); refine blk_far ?_ NB595_596.out _; (with_reducible repeat (first | refine blk_drewN ?_ _ | refine blk_drew ?_ | refine blk_alloc ?_ _)); refine blk_far ?_ NB595_596.out _; (with_reducible repeat (first | refine blk_drewN ?_ _ | refine blk_drew ?_ | refine blk_alloc ?_ _)); refine blk_far ?_ NB595_596.out _; (with_reducible repeat (first | refine blk_drewN ?_ _ | refine blk_drew ?_ | refine blk_alloc ?_ _)); exact BK595.out) Tryd.underlying132 rfl (by kernel_rfl)) rfl ?_
  exact ⟨by first | rfl | (simp [errW_none, errW_some] <;> rfl) | (simp [*, errW_none, errW_some] <;> rfl), by repeat (first | (with_reducible first | exact HB.out | apply below_alloc | apply pw_below_drewN | apply below_drew1 | refine below_set ?_ GE594.out | refine below_set ?_ GE595.out | refine below_set ?_ GE596.out) | exact HB.out)⟩

/-! ### laws_toDatumS: function 68 -/
def laws_toDatumS.l0 : Nat → List (S130) → List (S132) → Int → Option ((List (S132)))
  | 0, _, _, _ => none
  | k + 1, x0, x3, x4 => if x4 < (x0.length : Int) then (if 0 ≤ x4 then ((laws_toDatum.f ((rd_T130 x0 x4).f0) ((rd_T130 x0 x4).f1) ((rd_T130 x0 x4).f2) ((rd_T130 x0 x4).f3)).bind fun bt601 => (if x4 < (x3.length : Int) then (laws_toDatumS.l0 k x0 (x3.set (x4 : Int).toNat (⟨bt601.1, bt601.2.1, bt601.2.2.1, bt601.2.2.2⟩ : S132)) (wrap64 (x4 + 1))) else (none))) else (none)) else (some x3)
def laws_toDatumS.f (k : Nat) (l0 : List (S130)) : Option ((List (S132))) := if 0 ≤ (l0.length : Int) then (if ((l0.length : Int) : Int).toNat ≤ 7036874417766 then (laws_toDatumS.l0 k l0 (List.replicate ((l0.length : Int) : Int).toNat z132) 0) else (none)) else (none)
theorem laws_toDatumS.mono_l : ∀ k, (∀ y0 y1 y2, LeO (laws_toDatumS.l0 k y0 y1 y2) (laws_toDatumS.l0 (k + 1) y0 y1 y2))
  | 0 => fun _ _ _ r h => by simp [laws_toDatumS.l0] at h
  | k + 1 => by
    have ih0 := laws_toDatumS.mono_l k
    · intro y0 y1 y2
      unfold laws_toDatumS.l0
      repeat' first
      | (with_reducible exact ih0 _ _ _)
      | (with_reducible exact LeO.refl _)
      | (with_reducible exact LeO.none _)
      | (with_reducible refine LeO.ite ?_ ?_)
      | (with_reducible refine LeO.bind ?_ (fun _ => ?_))
      | exact ih0 _ _ _
      | exact LeO.none _
      | refine LeO.ite ?_ ?_
      | refine LeO.bind ?_ (fun _ => ?_)
theorem laws_toDatumS.mono : ∀ a0 k, LeO (laws_toDatumS.f k a0) (laws_toDatumS.f (k + 1) a0) := by
  intro a0 k
  have ih0 := laws_toDatumS.mono_l k
  unfold laws_toDatumS.f
  repeat' first
      | (with_reducible exact ih0 _ _ _)
      | (with_reducible exact LeO.refl _)
      | (with_reducible exact LeO.none _)
      | (with_reducible refine LeO.ite ?_ ?_)
      | (with_reducible refine LeO.bind ?_ (fun _ => ?_))
      | exact ih0 _ _ _
      | exact LeO.none _
      | refine LeO.ite ?_ ?_
      | refine LeO.bind ?_ (fun _ => ?_)
set_option maxHeartbeats 8000000 in
set_option maxRecDepth 100000 in
theorem laws_toDatumS.calls (k : Nat) (A0 : Option Addr) (c0 : Nat) (l0 : List (S130)) (r : List (S132)) (w : World) (hr0 : Kd.C k130 w A0 l0.length l0) (hc0 : l0.length ≤ c0) (h : laws_toDatumS.f k l0 = some r) :
    Calls Tryd.prog 68 #[.slice A0 l0.length c0] w fun e w' => ∃ v0_ : Value, e = .returned (v0_) ∧ Kd.R k132 132 w' w.heap.size (fun _ => True) v0_ r ∧ Below w.heap.size w w' := by
  have hu130 := Tryd.underlying130
  have hu132 := Tryd.underlying132
  have HR0 := ak hr0
  have HC0 := ak hc0
  clear hr0 hc0
  have HB := ak (Below.refl w.heap.size w)
  have H : (if 0 ≤ (l0.length : Int) then (if ((l0.length : Int) : Int).toNat ≤ 7036874417766 then (laws_toDatumS.l0 k l0 (List.replicate ((l0.length : Int) : Int).toNat z132) 0) else (none)) else (none)) = some r := h
  clear h
  by_cases c2 : 0 ≤ (l0.length : Int)
  ·rw [if_pos c2] at H
   have c2b0 := eq_true c2
   have c2b1 : decide (0 ≤ (l0.length : Int)) = true := decide_eq_true c2
   clear c2
   by_cases c3 : ((l0.length : Int) : Int).toNat ≤ 7036874417766
   ·rw [if_pos c3] at H
    have c3b0 := eq_true c3
    have c3b1 : decide (((l0.length : Int) : Int).toNat ≤ 7036874417766) = true := decide_eq_true c3
    clear c3
    obtain ⟨y597, hy597⟩ : ∃ y_ : List (S132), y_ = (List.replicate ((l0.length : Int) : Int).toNat z132) := ⟨_, rfl⟩
    replace H : (laws_toDatumS.l0 k l0 y597 0) = some r := by first | (rw [hy597]; with_reducible exact H) | (have H2_ := (Option.bind_some _ _).symm.trans H; rw [hy597]; with_reducible exact H2_) | (have H2_ := (Option.bind_some _ _).symm.trans H; with_reducible exact H2_) | with_reducible exact H | (rw [hy597]; exact H) | exact H
    have Ny597 := ak hy597
    clear hy597
    have H' := ak H
    clear H
    go_enter Tryd.func68, Tryd.ntmps68
    go_wp2_with (first | ((with_reducible refine gate_dst (N := 7) rfl ?_); refine Kd.R_make k132 _ 132 rfl (N := 7) rfl 67 _ _ rfl (l0.length : Int) rfl rfl Tryd.underlying67 (.agg #[(.int .i64 0), (.int .i64 0), (.int .i64 0), (.string ⟨#[]⟩)]) 40 info132 rfl (by decide) (by omega) z132 (ok := fun _ => True) (okp := fun _ => True) (k132_mkM _ _ _ z132 ) (fun _ hk => hk) trivial (of_decide_eq_true d19_4) (Nat.le_trans (Nat.mul_le_mul_right _ (of_decide_eq_true d19_4 : (l0.length : Int).toNat ≤ 7036874417766)) (by omega)) (Below.refl _ _) (Nat.le_refl _) ?_; intro v598 w4 ho5 hb hg_ hnew_; clear hg_ hnew_; (first | rw [← Ny597.out] at ho5 | (simp only [Int.reduceToNat] at ho5; rw [← Ny597.out] at ho5)); have n0_ := ak (Kd.R_lower ho5 (below_size d19_2)); have n1_ := ak (below_step d19_2 hb); clear HB; have HO599 := n0_; have HB := n1_; clear n0_ n1_ hb ho5))
    go_loopg [4] k (fun kq v4 w' => ∃ (x3_1 : List (S132)) (x4_1 : Int), v4 = .int .i64 x4_1 ∧ Aside0 (laws_toDatumS.l0 kq l0 x3_1 x4_1 = some r) ∧ Aside0 (kq ≤ k) ∧ Aside0 (Kd.R k132 132 w' w.heap.size (fun _ => True) v598 x3_1) ∧ Aside0 (Below w.heap.size w w'))
    case atStart => exact ⟨(y597), (0), d19_3, H', ⟨Nat.le_refl _⟩, ⟨by (with_reducible repeat (first | apply Kd.R_alloc | apply Kd.R_drewN | apply Kd.R_drew)); exact HO599.out⟩, ⟨by repeat (first | (with_reducible first | exact HB.out | apply below_alloc | apply pw_below_drewN | apply below_drew1) | exact HB.out)⟩⟩
    case round =>
     clear H'
     try clear c2
     try clear c2b0
     try clear c2b1
     try clear p2
     try clear c3
     try clear c3b0
     try clear c3b1
     obtain ⟨x3_1, x4_1, rfl, HA, HK1, HO_3, HB⟩ := hrel
     cases gk with
     | zero => exact absurd HA.out (by simp [laws_toDatumS.l0])
     | succ k1 =>
      have H := HA.out
      clear HA
      simp only [laws_toDatumS.l0] at H
      by_cases c6 : x4_1 < (l0.length : Int)
      ·rw [if_pos c6] at H
       have c6b0 : decide (x4_1 < (l0.length : Int)) = true := decide_eq_true c6
       clear c6
       by_cases c7 : 0 ≤ x4_1
       ·rw [if_pos c7] at H
        have c7b0 : decide (0 ≤ x4_1) = true := decide_eq_true c7
        clear c7
        replace H := Option.bind_eq_some_iff.mp H
        obtain ⟨⟨t601, t602, t603, t604⟩, A80, H⟩ := H
        replace H : (if x4_1 < (x3_1.length : Int) then (laws_toDatumS.l0 k1 l0 (x3_1.set (x4_1 : Int).toNat (⟨t601, t602, t603, t604⟩ : S132)) (wrap64 (x4_1 + 1))) else (none)) = some r := H
        have A8 := ak A80
        clear A80
        by_cases c9 : x4_1 < (x3_1.length : Int)
        ·rw [if_pos c9] at H
         have c9b0 : decide (x4_1 < (x3_1.length : Int)) = true := decide_eq_true c9
         clear c9
         obtain ⟨y605, hy605⟩ : ∃ y_ : List (S132), y_ = (x3_1.set (x4_1 : Int).toNat (⟨t601, t602, t603, t604⟩ : S132)) := ⟨_, rfl⟩
         replace H : (laws_toDatumS.l0 k1 l0 y605 (wrap64 (x4_1 + 1))) = some r := by first | (rw [hy605]; with_reducible exact H) | (have H2_ := (Option.bind_some _ _).symm.trans H; rw [hy605]; with_reducible exact H2_) | (have H2_ := (Option.bind_some _ _).symm.trans H; with_reducible exact H2_) | with_reducible exact H | (rw [hy605]; exact H) | exact H
         have Ny605 := ak hy605
         clear hy605
         have H' := ak H
         clear H
         have p600 : 0 ≤ (x4_1 : Int) := of_decide_eq_true d19_4
         have q600 : x4_1 < (l0.length : Int) := of_decide_eq_true d19_4
         obtain ⟨ad600, e600, hx600_0, hx600_1, hx600_2, hx600_3⟩ := at_T130 HR0.out x4_1 p600 q600
         cases e600
         replace hx600_0 := (HB.out.cell (World.block_lt_of_cell? w _ hx600_0)).trans hx600_0
         replace hx600_1 := (HB.out.cell (World.block_lt_of_cell? w _ hx600_1)).trans hx600_1
         replace hx600_2 := (HB.out.cell (World.block_lt_of_cell? w _ hx600_2)).trans hx600_2
         replace hx600_3 := (HB.out.cell (World.block_lt_of_cell? w _ hx600_3)).trans hx600_3
         replace p600 := eq_true p600
         replace q600 := eq_true q600
         go_wp2_with (first | ((with_reducible refine gate_callee (f := 100) rfl ?_); refine goesL_ (some 20) rfl rfl Tryd.func100 (by kernel_rfl) rfl #[.agg #[.int .i64 ((rd_T130 l0 x4_1).f0), .int .i64 ((rd_T130 l0 x4_1).f1), .int .i64 ((rd_T130 l0 x4_1).f2), .string ((rd_T130 l0 x4_1).f3)]] rfl (by (try simp only [List.map_toArray, List.map_cons, List.map_nil]); first | done | rfl | (simp only [List.length_drop, List.length_take]; rfl)) ?_; (with_reducible refine (laws_toDatum.calls ((rd_T130 l0 x4_1).f0) ((rd_T130 l0 x4_1).f1) ((rd_T130 l0 x4_1).f2) ((rd_T130 l0 x4_1).f3) t601 t602 t603 t604 _ A8.out).mono ?_); rintro e w11 ⟨rfl, hb⟩; refine ⟨_, rfl, ?_⟩; have n0_ := ak (Kd.R_below (by (with_reducible repeat (first | apply Kd.R_alloc | apply Kd.R_drewN | apply Kd.R_drew)); exact HO_3.out) hb); have n1_ := ak (below_step d19_2 hb); clear HO_3 HB; have HO_3 := n0_; have HB := n1_; clear n0_ n1_; (try clear hb); (try clear hk); have p10 : 0 ≤ (x4_1 : Int) := of_decide_eq_true d19_4; have q10 : (x4_1 : Int) < ((x3_1.length : Int) : Int) := of_decide_eq_true d19_4; obtain ⟨go10, co10, eo10, gb10, gl10, cl10, HG10⟩ := Kd.R_form HO_3.out (by omega); (first | cases eo10 | (injection eo10 with ea_ en_ ec_; (first | subst ea_ | (injection ea_ with ea_; subst ea_)); subst ec_; clear en_)); have GB10 := ak gb10; have GG10 := ak HG10; clear gb10 gl10 HG10; obtain ⟨ce10, hcl10, hM10, hcc10, hfr10⟩ := Kd.R_elem HO_3.out z132 (x4_1 : Int) p10 q10; obtain rfl := k132_openM hM10; have hx10_0 : w11.cell? ⟨go10, (x4_1 : Int).toNat * 4, none⟩ = some (.int .i64 ((rd_T132 x3_1 x4_1).f0)) := hcc10 0 _ rfl; have hx10_1 : w11.cell? ⟨go10, (x4_1 : Int).toNat * 4 + 1, none⟩ = some (.int .i64 ((rd_T132 x3_1 x4_1).f1)) := hcc10 1 _ rfl; have hx10_2 : w11.cell? ⟨go10, (x4_1 : Int).toNat * 4 + 2, none⟩ = some (.int .i64 ((rd_T132 x3_1 x4_1).f2)) := hcc10 2 _ rfl; have hx10_3 : w11.cell? ⟨go10, (x4_1 : Int).toNat * 4 + 3, none⟩ = some (.string ((rd_T132 x3_1 x4_1).f3)) := hcc10 3 _ rfl; have hf10_0 : w11.frozen? ⟨go10, (x4_1 : Int).toNat * 4, none⟩ = false := hfr10 0; have hf10_1 : w11.frozen? ⟨go10, (x4_1 : Int).toNat * 4 + 1, none⟩ = false := hfr10 1; have hf10_2 : w11.frozen? ⟨go10, (x4_1 : Int).toNat * 4 + 2, none⟩ = false := hfr10 2; have hf10_3 : w11.frozen? ⟨go10, (x4_1 : Int).toNat * 4 + 3, none⟩ = false := hfr10 3; clear hcl10 hcc10 hfr10 hM10; replace p10 := eq_true p10; replace q10 := eq_true q10; have HX12 := ak (show Kd.R k132 132 w11 w.heap.size (fun _ => True) (.slice (some ⟨go10, 0, none⟩) x3_1.length co10) x3_1 from (by (with_reducible repeat (first | apply Kd.R_alloc | apply Kd.R_drewN | apply Kd.R_drew)); exact HO_3.out)); obtain ⟨ce12, hcl12, hM12, hcc12, hfr12⟩ := Kd.R_elem HX12.out z132 (x4_1 : Int) (of_decide_eq_true d19_4) (by have h_ : (x4_1 : Int) < ((x3_1.length : Int) : Int) := of_decide_eq_true d19_4; first | exact h_ | (have e_ := (Kd.R_reads' HO_3.out).1; omega) | simpa using h_); obtain rfl := k132_openM hM12; have HP12 := Kd.R_seg HX12.out (x4_1 : Int) (of_decide_eq_true d19_4) (by have h_ : (x4_1 : Int) < ((x3_1.length : Int) : Int) := of_decide_eq_true d19_4; first | exact h_ | (have e_ := (Kd.R_reads' HO_3.out).1; omega) | simpa using h_) (seg := [.int .i64 t601, .int .i64 t602, .int .i64 t603, .string t604]) (j := 0) hcl12 hcc12 (show 4 ≤ 4 from by decide) (x' := (⟨t601, t602, t603, t604⟩ : S132)) (k132_mkM _ _ _ (⟨t601, t602, t603, t604⟩ : S132) ) (fun _ hk => hk); have hx12_0 := hcc12 0 _ rfl; (try simp only [show (k132).sz = 4 from rfl, Nat.mul_one, Nat.add_zero] at hx12_0); have hf12_0 := hfr12 0; (try simp only [show (k132).sz = 4 from rfl, Nat.mul_one, Nat.add_zero] at hf12_0); have hx12_1 := hcc12 1 _ rfl; (try simp only [show (k132).sz = 4 from rfl, Nat.mul_one, Nat.add_zero] at hx12_1); have hf12_1 := hfr12 1; (try simp only [show (k132).sz = 4 from rfl, Nat.mul_one, Nat.add_zero] at hf12_1); have hx12_2 := hcc12 2 _ rfl; (try simp only [show (k132).sz = 4 from rfl, Nat.mul_one, Nat.add_zero] at hx12_2); have hf12_2 := hfr12 2; (try simp only [show (k132).sz = 4 from rfl, Nat.mul_one, Nat.add_zero] at hf12_2); have hx12_3 := hcc12 3 _ rfl; (try simp only [show (k132).sz = 4 from rfl, Nat.mul_one, Nat.add_zero] at hx12_3); have hf12_3 := hfr12 3; (try simp only [show (k132).sz = 4 from rfl, Nat.mul_one, Nat.add_zero] at hf12_3); clear hcl12 hcc12 hfr12 hM12) | ((with_reducible refine gate_store (t := 132) (p := 21) rfl ?_); refine store_event (t := 132) (p := 21) (v := ?vo_w13) (w1 := ((((w11.setCell ⟨go10, (x4_1 : Int).toNat * 4, none⟩ (.int .i64 t601)).setCell ⟨go10, (x4_1 : Int).toNat * 4 + 1, none⟩ (.int .i64 t602)).setCell ⟨go10, (x4_1 : Int).toNat * 4 + 2, none⟩ (.int .i64 t603)).setCell ⟨go10, (x4_1 : Int).toNat * 4 + 3, none⟩ (.string t604))) ?hg ?ho ?hn ?hr ?_; (case ho => rfl); (case hg => rfl); (case hn => rfl); (case hr => first | (go_simp; done) | (go_simp; rfl)); intro w13 hw; have hg : w11.grownBy w13 (some go10) := (by rw [hw]; exact HP12.2); have hp_ : Kd.R k132 132 w13 w.heap.size (fun _ => True) (.slice (some ⟨go10, 0, none⟩) x3_1.length co10) y605 := (by rw [hw, Ny605.out]; exact HP12.1); clear HP12; have n0_ := ak (hp_); have n1_ := ak ((by rw [hw]; exact below_set (below_set (below_set (below_set (HB.out) GB10.out) GB10.out) GB10.out) GB10.out : Below w.heap.size w w13)); clear HO_3 HB; have HO_3 := n0_; have HB := n1_; clear n0_ n1_ hg hw hp_))
         go_roundg k1
         case measure => have := HK1.out; omega
         case rel => exact ⟨(y605), (wrap64 (x4_1 + 1)), d19_3, H', ⟨by have := HK1.out; omega⟩, ⟨by (with_reducible repeat (first | apply Kd.R_alloc | apply Kd.R_drewN | apply Kd.R_drew)); exact HO_3.out⟩, ⟨by repeat (first | (with_reducible first | exact HB.out | apply below_alloc | apply pw_below_drewN | apply below_drew1) | exact HB.out)⟩⟩
        ·rw [if_neg c9] at H
         exact absurd H (by simp)
       ·rw [if_neg c7] at H
        exact absurd H (by simp)
      ·rw [if_neg c6] at H
       have c6b0 : decide (x4_1 < (l0.length : Int)) = false := decide_eq_false c6
       clear c6
       obtain rfl := Option.some.inj H
       go_wp2
       go_ret
       exact ⟨_, by first | rfl | (simp [errW_none, errW_some] <;> rfl) | (simp [*, errW_none, errW_some] <;> rfl), by (with_reducible repeat (first | apply Kd.R_alloc | apply Kd.R_drewN | apply Kd.R_drew)); exact HO_3.out, by repeat (first | (with_reducible first | exact HB.out | apply below_alloc | apply pw_below_drewN | apply below_drew1) | exact HB.out)⟩
   ·rw [if_neg c3] at H
    exact absurd H (by simp)
  ·rw [if_neg c2] at H
   exact absurd H (by simp)

/-! ### laws_toOp: function 40 -/
def laws_toOp.f (k : Nat) (a0_0 : Int) (a0_1 : Int) (a0_2 : Int) (a0_3 : Int) (a0_4 : Int) (a0_5 : ByteArray) (l0_6 : List (S130)) : Option (Int × Int × Int × Int × Int × ByteArray × (List (S132))) := (laws_toDatumS.f k l0_6).bind fun t609 => (some (a0_0, a0_1, a0_2, a0_3, a0_4, a0_5, t609))
theorem laws_toOp.mono : ∀ a0 a1 a2 a3 a4 a5 a6 k, LeO (laws_toOp.f k a0 a1 a2 a3 a4 a5 a6) (laws_toOp.f (k + 1) a0 a1 a2 a3 a4 a5 a6) := by
  intro a0 a1 a2 a3 a4 a5 a6 k
  unfold laws_toOp.f
  repeat' first
      | (with_reducible exact laws_toDatumS.mono _ _)
      | (with_reducible exact LeO.refl _)
      | (with_reducible exact LeO.none _)
      | (with_reducible refine LeO.ite ?_ ?_)
      | (with_reducible refine LeO.bind ?_ (fun _ => ?_))
      | exact laws_toDatumS.mono _ _
      | exact LeO.none _
      | refine LeO.ite ?_ ?_
      | refine LeO.bind ?_ (fun _ => ?_)
set_option maxHeartbeats 8000000 in
set_option maxRecDepth 100000 in
theorem laws_toOp.calls (k : Nat) (a0_0 : Int) (a0_1 : Int) (a0_2 : Int) (a0_3 : Int) (a0_4 : Int) (a0_5 : ByteArray) (A0_6 : Option Addr) (c0_6 : Nat) (l0_6 : List (S130)) (r1 : Int) (r2 : Int) (r3 : Int) (r4 : Int) (r5 : Int) (r6 : ByteArray) (r7 : List (S132)) (w : World) (hr0_6 : Kd.C k130 w A0_6 l0_6.length l0_6) (hc0_6 : l0_6.length ≤ c0_6) (h : laws_toOp.f k a0_0 a0_1 a0_2 a0_3 a0_4 a0_5 l0_6 = some (r1, r2, r3, r4, r5, r6, r7)) :
    Calls Tryd.prog 40 #[.agg #[.int .i64 a0_0, .int .i64 a0_1, .int .i64 a0_2, .int .i64 a0_3, .int .i64 a0_4, .string a0_5, .slice A0_6 l0_6.length c0_6]] w fun e w' => ∃ v6_ : Value, e = .returned (.agg #[.int .i64 r1, .int .i64 r2, .int .i64 r3, .int .i64 r4, .int .i64 r5, .string r6, v6_]) ∧ Kd.R k132 132 w' w.heap.size (fun _ => True) v6_ r7 ∧ Below w.heap.size w w' := by
  have hu64 := Tryd.underlying64
  have hu69 := Tryd.underlying69
  have HR0_6 := ak hr0_6
  have HC0_6 := ak hc0_6
  clear hr0_6 hc0_6
  have HB := ak (Below.refl w.heap.size w)
  have H : ((laws_toDatumS.f k l0_6).bind fun t609 => (some (a0_0, a0_1, a0_2, a0_3, a0_4, a0_5, t609))) = some (r1, r2, r3, r4, r5, r6, r7) := h
  clear h
  replace H := Option.bind_eq_some_iff.mp H
  obtain ⟨t609, A20, H⟩ := H
  replace H : (some (a0_0, a0_1, a0_2, a0_3, a0_4, a0_5, t609)) = some (r1, r2, r3, r4, r5, r6, r7) := H
  have A2 := ak A20
  clear A20
  simp only [Option.some.injEq, Prod.mk.injEq] at H
  obtain ⟨rfl, rfl, rfl, rfl, rfl, rfl, rfl⟩ := H
  go_enter Tryd.func40, Tryd.ntmps40
  go_wp2_with (first | ((with_reducible refine gate_dst (N := 1) rfl ?_); refine box_event ?hg (N := 1) ?hd (cs := #[.int .i64 a0_0, .int .i64 a0_1, .int .i64 a0_2, .int .i64 a0_3, .int .i64 a0_4, .string a0_5, .slice A0_6 l0_6.length c0_6]) (t := 64) ?hr ?_; (case hd => rfl); (case hg => rfl); (case hr => first | (go_simp; done) | (go_simp; rfl)); intro gb606 hg w3 hbox hb; have n0_ := ak (below_step d19_2 hb); have n1_ := ak (hbox); have n2_ := ak ((by rw [hg]; exact (below_size d19_2) : w.heap.size ≤ gb606)); have n3_ := ak ((by rw [hg]; exact (below_size d19_2) : w.heap.size ≤ gb606)); clear HB; have HB := n0_; have BK606 := n1_; have GW606 := n2_; have GE606 := n3_; clear n0_ n1_ n2_ n3_ hb hbox hg) | ((with_reducible refine gate_dst (N := 2) rfl ?_); refine box_event ?hg (N := 2) ?hd (cs := #[.int .i64 0, .int .i64 0, .int .i64 0, .int .i64 0, .int .i64 0, .string (⟨#[]⟩ : ByteArray), .slice none 0 0]) (t := 69) ?hr ?_; (case hd => rfl); (case hg => rfl); (case hr => first | (go_simp; done) | (go_simp; rfl)); intro gb607 hg w4 hbox hb; have n0_ := ak (blk_below (g := gb606) (o := .cells #[.int .i64 a0_0, .int .i64 a0_1, .int .i64 a0_2, .int .i64 a0_3, .int .i64 a0_4, .string a0_5, .slice A0_6 l0_6.length c0_6] 64 (0, 0)) d19_6 hb); have n1_ := ak (below_step d19_11 hb); have n2_ := ak (hbox); have n3_ := ak ((by rw [hg]; exact (below_size d19_11) : w.heap.size ≤ gb607)); have n4_ := ak ((by rw [hg]; exact (below_size d19_11) : w.heap.size ≤ gb607)); have n5_ := ak ((by rw [hg]; exact Nat.ne_of_lt (blk_lt (g := gb606) (o := .cells #[.int .i64 a0_0, .int .i64 a0_1, .int .i64 a0_2, .int .i64 a0_3, .int .i64 a0_4, .string a0_5, .slice A0_6 l0_6.length c0_6] 64 (0, 0)) d19_6) : gb606 ≠ gb607)); have n6_ := ak ((by rw [hg]; exact Nat.ne_of_gt (blk_lt (g := gb606) (o := .cells #[.int .i64 a0_0, .int .i64 a0_1, .int .i64 a0_2, .int .i64 a0_3, .int .i64 a0_4, .string a0_5, .slice A0_6 l0_6.length c0_6] 64 (0, 0)) d19_6) : gb607 ≠ gb606)); clear BK606 HB; have BK606 := n0_; have HB := n1_; have BK607 := n2_; have GW607 := n3_; have GE607 := n4_; have NB606_607 := n5_; have NB607_606 := n6_; clear n0_ n1_ n2_ n3_ n4_ n5_ n6_ hb hbox hg) | ((with_reducible refine gate_dst (N := 3) rfl ?_); refine box_event ?hg (N := 3) ?hd (cs := #[.int .i64 0, .int .i64 0, .int .i64 0, .int .i64 0, .int .i64 0, .string (⟨#[]⟩ : ByteArray), .slice none 0 0]) (t := 69) ?hr ?_; (case hd => rfl); (case hg => rfl); (case hr => first | (go_simp; done) | (go_simp; rfl)); intro gb608 hg w5 hbox hb; have n0_ := ak (blk_below (g := gb606) (o := .cells #[.int .i64 a0_0, .int .i64 a0_1, .int .i64 a0_2, .int .i64 a0_3, .int .i64 a0_4, .string a0_5, .slice A0_6 l0_6.length c0_6] 64 (0, 0)) d19_6 hb); have n1_ := ak (blk_below (g := gb607) (o := .cells #[.int .i64 0, .int .i64 0, .int .i64 0, .int .i64 0, .int .i64 0, .string (⟨#[]⟩ : ByteArray), .slice none 0 0] 69 (0, 0)) (by (with_reducible repeat (first | refine blk_drewN ?_ _ | refine blk_drew ?_ | refine blk_alloc ?_ _)); exact BK607.out) hb); have n2_ := ak (below_step d19_9 hb); have n3_ := ak (hbox); have n4_ := ak ((by rw [hg]; exact (below_size d19_9) : w.heap.size ≤ gb608)); have n5_ := ak ((by rw [hg]; exact (below_size d19_9) : w.heap.size ≤ gb608)); have n6_ := ak ((by rw [hg]; exact Nat.ne_of_lt (blk_lt (g := gb606) (o := .cells #[.int .i64 a0_0, .int .i64 a0_1, .int .i64 a0_2, .int .i64 a0_3, .int .i64 a0_4, .string a0_5, .slice A0_6 l0_6.length c0_6] 64 (0, 0)) d19_6) : gb606 ≠ gb608)); have n7_ := ak ((by rw [hg]; exact Nat.ne_of_gt (blk_lt (g := gb606) (o := .cells #[.int .i64 a0_0, .int .i64 a0_1, .int .i64 a0_2, .int .i64 a0_3, .int .i64 a0_4, .string a0_5, .slice A0_6 l0_6.length c0_6] 64 (0, 0)) d19_6) : gb608 ≠ gb606)); have n8_ := ak ((by rw [hg]; exact Nat.ne_of_lt (blk_lt (g := gb607) (o := .cells #[.int .i64 0, .int .i64 0, .int .i64 0, .int .i64 0, .int .i64 0, .string (⟨#[]⟩ : ByteArray), .slice none 0 0] 69 (0, 0)) (by (with_reducible repeat (first | refine blk_drewN ?_ _ | refine blk_drew ?_ | refine blk_alloc ?_ _)); exact BK607.out)) : gb607 ≠ gb608)); have n9_ := ak ((by rw [hg]; exact Nat.ne_of_gt (blk_lt (g := gb607) (o := .cells #[.int .i64 0, .int .i64 0, .int .i64 0, .int .i64 0, .int .i64 0, .string (⟨#[]⟩ : ByteArray), .slice none 0 0] 69 (0, 0)) (by (with_reducible repeat (first | refine blk_drewN ?_ _ | refine blk_drew ?_ | refine blk_alloc ?_ _)); exact BK607.out)) : gb608 ≠ gb607)); clear BK606 BK607 HB; have BK606 := n0_; have BK607 := n1_; have HB := n2_; have BK608 := n3_; have GW608 := n4_; have GE608 := n5_; have NB606_608 := n6_; have NB608_606 := n7_; have NB607_608 := n8_; have NB608_607 := n9_; clear n0_ n1_ n2_ n3_ n4_ n5_ n6_ n7_ n8_ n9_ hb hbox hg; have hnb6 := NB606_607.out; have hnc6 := NB607_606.out; have hnb7 := NB606_608.out; have hnc7 := NB608_606.out; have hcz8_0 : w5.cell? ⟨gb606, 0, none⟩ = some (.int .i64 a0_0) := (blk_cell BK606.out 0).trans rfl; have hcz8_1 : w5.cell? ⟨gb606, 1, none⟩ = some (.int .i64 a0_1) := (blk_cell BK606.out 1).trans rfl; have hcz8_2 : w5.cell? ⟨gb606, 2, none⟩ = some (.int .i64 a0_2) := (blk_cell BK606.out 2).trans rfl; have hcz8_3 : w5.cell? ⟨gb606, 3, none⟩ = some (.int .i64 a0_3) := (blk_cell BK606.out 3).trans rfl; have hcz8_4 : w5.cell? ⟨gb606, 4, none⟩ = some (.int .i64 a0_4) := (blk_cell BK606.out 4).trans rfl; have hcz8_5 : w5.cell? ⟨gb606, 5, none⟩ = some (.string a0_5) := (blk_cell BK606.out 5).trans rfl; have hcz8_6 : w5.cell? ⟨gb606, 6, none⟩ = some (.slice A0_6 l0_6.length c0_6) := (blk_cell BK606.out 6).trans rfl; have hfz8_0 := blk_frozen BK606.out 0; have hfz8_1 := blk_frozen BK606.out 1; have hfz8_2 := blk_frozen BK606.out 2; have hfz8_3 := blk_frozen BK606.out 3; have hfz8_4 := blk_frozen BK606.out 4; have hfz8_5 := blk_frozen BK606.out 5; have hfz8_6 := blk_frozen BK606.out 6; have hnb9 := NB608_607.out; have hnc9 := NB607_608.out; have hcz10_0 : w5.cell? ⟨gb608, 0, none⟩ = some (.int .i64 0) := (blk_cell BK608.out 0).trans rfl; have hcz10_1 : w5.cell? ⟨gb608, 1, none⟩ = some (.int .i64 0) := (blk_cell BK608.out 1).trans rfl; have hcz10_2 : w5.cell? ⟨gb608, 2, none⟩ = some (.int .i64 0) := (blk_cell BK608.out 2).trans rfl; have hcz10_3 : w5.cell? ⟨gb608, 3, none⟩ = some (.int .i64 0) := (blk_cell BK608.out 3).trans rfl; have hcz10_4 : w5.cell? ⟨gb608, 4, none⟩ = some (.int .i64 0) := (blk_cell BK608.out 4).trans rfl; have hcz10_5 : w5.cell? ⟨gb608, 5, none⟩ = some (.string (⟨#[]⟩ : ByteArray)) := (blk_cell BK608.out 5).trans rfl; have hcz10_6 : w5.cell? ⟨gb608, 6, none⟩ = some (.slice none 0 0) := (blk_cell BK608.out 6).trans rfl; have hfz10_0 := blk_frozen BK608.out 0; have hfz10_1 := blk_frozen BK608.out 1; have hfz10_2 := blk_frozen BK608.out 2; have hfz10_3 := blk_frozen BK608.out 3; have hfz10_4 := blk_frozen BK608.out 4; have hfz10_5 := blk_frozen BK608.out 5; have hfz10_6 := blk_frozen BK608.out 6) | ((with_reducible refine gate_callee (f := 68) rfl ?_); refine goesL_ (some 24) rfl rfl Tryd.func68 (by kernel_rfl) rfl #[.slice A0_6 l0_6.length c0_6] rfl (by (try simp only [List.map_toArray, List.map_cons, List.map_nil]); first | done | rfl | (simp only [List.length_drop, List.length_take]; rfl)) ?_; (with_reducible refine (laws_toDatumS.calls k _ _ l0_6 t609 _ ?side1 ?side2 A2.out).mono ?_); (case side1 => exact Kd.C_below HR0_6.out d19_7); (case side2 => exact HC0_6.out); rintro e w11 ⟨v610, rfl, ho0, hb⟩; refine ⟨_, rfl, ?_⟩; have n0_ := ak (Kd.R_lower ho0 (below_size d19_7)); have n1_ := ak (blk_below (g := gb606) (o := .cells #[.int .i64 a0_0, .int .i64 a0_1, .int .i64 a0_2, .int .i64 a0_3, .int .i64 a0_4, .string a0_5, .slice A0_6 l0_6.length c0_6] 64 (0, 0)) (by (with_reducible repeat (first | refine blk_drewN ?_ _ | refine blk_drew ?_ | refine blk_alloc ?_ _)); refine blk_far ?_ NB606_608.out _; (with_reducible repeat (first | refine blk_drewN ?_ _ | refine blk_drew ?_ | refine blk_alloc ?_ _)); refine blk_far ?_ NB606_608.out _; (with_reducible repeat (first | refine blk_drewN ?_ _ | refine blk_drew ?_ | refine blk_alloc ?_ _)); refine blk_far ?_ NB606_608.out _; (with_reducible repeat (first | refine blk_drewN ?_ _ | refine blk_drew ?_ | refine blk_alloc ?_ _)); refine blk_far ?_ NB606_608.out _; (with_reducible repeat (first | refine blk_drewN ?_ _ | refine blk_drew ?_ | refine blk_alloc ?_ _)); refine blk_far ?_ NB606_608.out _; (with_reducible repeat (first | refine blk_drewN ?_ _ | refine blk_drew ?_ | refine blk_alloc ?_ _)); refine blk_far ?_ NB606_608.out _; (with_reducible repeat (first | refine blk_drewN ?_ _ | refine blk_drew ?_ | refine blk_alloc ?_ _)); exact BK606.out) hb); have n2_ := ak (blk_below (g := gb607) (o := .cells #[.int .i64 0, .int .i64 0, .int .i64 0, .int .i64 0, .int .i64 0, .string (⟨#[]⟩ : ByteArray), .slice none 0 0] 69 (0, 0)) (by (with_reducible repeat (first | refine blk_drewN ?_ _ | refine blk_drew ?_ | refine blk_alloc ?_ _)); refine blk_far ?_ NB607_608.out _; (with_reducible repeat (first | refine blk_drewN ?_ _ | refine blk_drew ?_ | refine blk_alloc ?_ _)); refine blk_far ?_ NB607_608.out _; (with_reducible repeat (first | refine blk_drewN ?_ _ | refine blk_drew ?_ | refine blk_alloc ?_ _)); refine blk_far ?_ NB607_608.out _; (with_reducible repeat (first | refine blk_drewN ?_ _ | refine blk_drew ?_ | refine blk_alloc ?_ _)); refine blk_far ?_ NB607_608.out _; (with_reducible repeat (first | refine blk_drewN ?_ _ | refine blk_drew ?_ | refine blk_alloc ?_ _)); refine blk_far ?_ NB607_608.out _; (with_reducible repeat (first | refine blk_drewN ?_ _ | refine blk_drew ?_ | refine blk_alloc ?_ _)); refine blk_far ?_ NB607_608.out _; (with_reducible repeat (first | refine blk_drewN ?_ _ | refine blk_drew ?_ | refine blk_alloc ?_ _)); exact BK607.out) hb); have n3_ := ak (blk_below (g := gb608) (o := .cells #[.int .i64 a0_0, .int .i64 a0_1, .int .i64 a0_2, .int .i64 a0_3, .int .i64 a0_4, .string a0_5, .slice none 0 0] 69 (0, 0)) (by (with_reducible repeat (first | refine blk_drewN ?_ _ | refine blk_drew ?_ | refine blk_alloc ?_ _)); refine blk_put (cs := #[.int .i64 a0_0, .int .i64 a0_1, .int .i64 a0_2, .int .i64 a0_3, .int .i64 a0_4, .string (⟨#[]⟩ : ByteArray), .slice none 0 0]) ?_ 5 _ rfl; (with_reducible repeat (first | refine blk_drewN ?_ _ | refine blk_drew ?_ | refine blk_alloc ?_ _)); refine blk_put (cs := #[.int .i64 a0_0, .int .i64 a0_1, .int .i64 a0_2, .int .i64 a0_3, .int .i64 0, .string (⟨#[]⟩ : ByteArray), .slice none 0 0]) ?_ 4 _ rfl; (with_reducible repeat (first | refine blk_drewN ?_ _ | refine blk_drew ?_ | refine blk_alloc ?_ _)); refine blk_put (cs := #[.int .i64 a0_0, .int .i64 a0_1, .int .i64 a0_2, .int .i64 0, .int .i64 0, .string (⟨#[]⟩ : ByteArray), .slice none 0 0]) ?_ 3 _ rfl; (with_reducible repeat (first | refine blk_drewN ?_ _ | refine blk_drew ?_ | refine blk_alloc ?_ _)); refine blk_put (cs := #[.int .i64 a0_0, .int .i64 a0_1, .int .i64 0, .int .i64 0, .int .i64 0, .string (⟨#[]⟩ : ByteArray), .slice none 0 0]) ?_ 2 _ rfl; (with_reducible repeat (first | refine blk_drewN ?_ _ | refine blk_drew ?_ | refine blk_alloc ?_ _)); refine blk_put (cs := #[.int .i64 a0_0, .int .i64 0, .int .i64 0, .int .i64 0, .int .i64 0, .string (⟨#[]⟩ : ByteArray), .slice none 0 0]) ?_ 1 _ rfl; (with_reducible repeat (first | refine blk_drewN ?_ _ | refine blk_drew ?_ | refine blk_alloc ?_ _)); refine blk_put (cs := #[.int .i64 0, .int .i64 0, .int .i64 0, .int .i64 0, .int .i64 0, .string (⟨#[]⟩ : ByteArray), .slice none 0 0]) ?_ 0 _ rfl; (with_reducible repeat (first | refine blk_drewN ?_ _ | refine blk_drew ?_ | refine blk_alloc ?_ _)); exact BK608.out) hb); have n4_ := ak (below_step d19_7 hb); clear BK606 BK607 BK608 HB; have HO611 := n0_; have BK606 := n1_; have BK607 := n2_; have BK608 := n3_; have HB := n4_; clear n0_ n1_ n2_ n3_ n4_; (try clear hb); (try clear ho0); obtain ⟨Ao12, co12, eo12⟩ := Kd.R_slice HO611.out; subst eo12; have hcz13_0 : w11.cell? ⟨gb608, 0, none⟩ = some (.int .i64 a0_0) := (blk_cell BK608.out 0).trans rfl; have hcz13_1 : w11.cell? ⟨gb608, 1, none⟩ = some (.int .i64 a0_1) := (blk_cell BK608.out 1).trans rfl; have hcz13_2 : w11.cell? ⟨gb608, 2, none⟩ = some (.int .i64 a0_2) := (blk_cell BK608.out 2).trans rfl; have hcz13_3 : w11.cell? ⟨gb608, 3, none⟩ = some (.int .i64 a0_3) := (blk_cell BK608.out 3).trans rfl; have hcz13_4 : w11.cell? ⟨gb608, 4, none⟩ = some (.int .i64 a0_4) := (blk_cell BK608.out 4).trans rfl; have hcz13_5 : w11.cell? ⟨gb608, 5, none⟩ = some (.string a0_5) := (blk_cell BK608.out 5).trans rfl; have hcz13_6 : w11.cell? ⟨gb608, 6, none⟩ = some (.slice none 0 0) := (blk_cell BK608.out 6).trans rfl; have hfz13_0 := blk_frozen BK608.out 0; have hfz13_1 := blk_frozen BK608.out 1; have hfz13_2 := blk_frozen BK608.out 2; have hfz13_3 := blk_frozen BK608.out 3; have hfz13_4 := blk_frozen BK608.out 4; have hfz13_5 := blk_frozen BK608.out 5; have hfz13_6 := blk_frozen BK608.out 6; have hcz14_0 : w11.cell? ⟨gb607, 0, none⟩ = some (.int .i64 0) := (blk_cell BK607.out 0).trans rfl; have hcz14_1 : w11.cell? ⟨gb607, 1, none⟩ = some (.int .i64 0) := (blk_cell BK607.out 1).trans rfl; have hcz14_2 : w11.cell? ⟨gb607, 2, none⟩ = some (.int .i64 0) := (blk_cell BK607.out 2).trans rfl; have hcz14_3 : w11.cell? ⟨gb607, 3, none⟩ = some (.int .i64 0) := (blk_cell BK607.out 3).trans rfl; have hcz14_4 : w11.cell? ⟨gb607, 4, none⟩ = some (.int .i64 0) := (blk_cell BK607.out 4).trans rfl; have hcz14_5 : w11.cell? ⟨gb607, 5, none⟩ = some (.string (⟨#[]⟩ : ByteArray)) := (blk_cell BK607.out 5).trans rfl; have hcz14_6 : w11.cell? ⟨gb607, 6, none⟩ = some (.slice none 0 0) := (blk_cell BK607.out 6).trans rfl; have hfz14_0 := blk_frozen BK607.out 0; have hfz14_1 := blk_frozen BK607.out 1; have hfz14_2 := blk_frozen BK607.out 2; have hfz14_3 := blk_frozen BK607.out 3; have hfz14_4 := blk_frozen BK607.out 4; have hfz14_5 := blk_frozen BK607.out 5; have hfz14_6 := blk_frozen BK607.out 6))
  refine bodyPost_ret (results_cell_row rfl _ _ gb607 69 #[.int .i64 a0_0, .int .i64 a0_1, .int .i64 a0_2, .int .i64 a0_3, .int .i64 a0_4, .string a0_5, .slice Ao12 t609.length co12] (0, 0) _ rfl (by (with_reducible repeat (first | refine blk_drewN ?_ _ | refine blk_drew ?_ | refine blk_alloc ?_ _)); refine blk_put (cs := #[.int .i64 a0_0, .int .i64 a0_1, .int .i64 a0_2, .int .i64 a0_3, .int .i64 a0_4, .string a0_5, .slice none 0 0]) ?_ 6 _ rfl; (with_reducible repeat (first | refine blk_drewN ?_ _ | refine blk_drew ?_ | refine blk_alloc ?_ _)); refine blk_put (cs := #[.int .i64 a0_0, .int .i64 a0_1, .int .i64 a0_2, .int .i64 a0_3, .int .i64 a0_4, .string (⟨#[]⟩ : ByteArray), .slice none 0 0]) ?_ 5 _ rfl; (with_reducible repeat (first | refine blk_drewN ?_ _ | refine blk_drew ?_ | refine blk_alloc ?_ _)); refine blk_put (cs := #[.int .i64 a0_0, .int .i64 a0_1, .int .i64 a0_2, .int .i64 a0_3, .int .i64 0, .string (⟨#[]⟩ : ByteArray), .slice none 0 0]) ?_ 4 _ rfl; (with_reducible repeat (first | refine blk_drewN ?_ _ | refine blk_drew ?_ | refine blk_alloc ?_ _)); refine blk_put (cs := #[.int .i64 a0_0, .int .i64 a0_1, .int .i64 a0_2, .int .i64 0, .int .i64 0, .string (⟨#[]⟩ : ByteArray), .slice none 0 0]) ?_ 3 _ rfl; (with_reducible repeat (first | refine blk_drewN ?_ _ | refine blk_drew ?_ | refine blk_alloc ?_ _)); refine blk_put (cs := #[.int .i64 a0_0, .int .i64 a0_1, .int .i64 0, .int .i64 0, .int .i64 0, .string (⟨#[]⟩ : ByteArray), .slice none 0 0]) ?_ 2 _ rfl; (with_reducible repeat (first | refine blk_drewN ?_ _ | refine blk_drew ?_ | refine blk_alloc ?_ _)); refine blk_put (cs := #[.int .i64 a0_0, .int .i64 0, .int .i64 0, .int .i64 0, .int .i64 0, .string (⟨#[]⟩ : ByteArray), .slice none 0 0]) ?_ 1 _ rfl; (with_reducible repeat (first | refine blk_drewN ?_ _ | refine blk_drew ?_ | refine blk_alloc ?_ _)); refine blk_put (cs := #[.int .i64 0, .int .i64 0, .int .i64 0, .int .i64 0, .int .i64 0, .string (⟨#[]⟩ : ByteArray), .slice none 0 0]) ?_ 0 _ rfl; (with_reducible repeat (first | refine blk_drewN ?_ _ | refine blk_drew ?_ | refine blk_alloc ?_ _)); refine blk_far ?_ NB607_608.out _; (with_reducible repeat (first | refine blk_drewN ?_ _ | refine blk_drew ?_ | refine blk_alloc ?_ _)); exact BK607.out) Tryd.underlying69 rfl (by kernel_rfl)) rfl ?_
  exact ⟨_, by first | rfl | (simp [errW_none, errW_some] <;> rfl) | (simp [*, errW_none, errW_some] <;> rfl), by (with_reducible repeat (first | apply Kd.R_alloc | apply Kd.R_drewN | apply Kd.R_drew)); exact Kd.R_mono (Kd.R_far (p := ⟨gb607, 6, none⟩) (Kd.R_far (p := ⟨gb607, 5, none⟩) (Kd.R_far (p := ⟨gb607, 4, none⟩) (Kd.R_far (p := ⟨gb607, 3, none⟩) (Kd.R_far (p := ⟨gb607, 2, none⟩) (Kd.R_far (p := ⟨gb607, 1, none⟩) (Kd.R_far (p := ⟨gb607, 0, none⟩) (Kd.R_far (p := ⟨gb608, 6, none⟩) (Kd.R_types (Kd.R_types HO611.out BK608.out (by decide)) BK607.out (by decide)) (fun _ hk => hk.1.2) (.slice Ao12 t609.length co12)) (fun _ hk => hk.2) (.int .i64 a0_0)) (fun _ hk => hk.2) (.int .i64 a0_1)) (fun _ hk => hk.2) (.int .i64 a0_2)) (fun _ hk => hk.2) (.int .i64 a0_3)) (fun _ hk => hk.2) (.int .i64 a0_4)) (fun _ hk => hk.2) (.string a0_5)) (fun _ hk => hk.2) (.slice Ao12 t609.length co12)) (fun _ hk => trivial), by repeat (first | (with_reducible first | exact HB.out | apply below_alloc | apply pw_below_drewN | apply below_drew1 | refine below_set ?_ GE606.out | refine below_set ?_ GE607.out | refine below_set ?_ GE608.out) | exact HB.out)⟩

/-! ### impl_opNums: function 71 -/
mutual
def impl_opNums.j0 : Nat → Int → Bool → Option (Int)
  | 0, _, _ => none
  | k + 1, x3, x4 => if x4 = true then (some 1) else (if x3 = 2 then (impl_opNums.j1 k x3 (x3 == 2)) else (impl_opNums.j1 k x3 (x3 == 14)))
def impl_opNums.j1 : Nat → Int → Bool → Option (Int)
  | 0, _, _ => none
  | k + 1, x3, x10 => if x10 = true then (some 2) else (if x3 = 16 then (some 3) else (if x3 = 15 then (some 4) else (some 0)))
end
def impl_opNums.f (k : Nat) (a0 : Int) : Option (Int) := if a0 = 4 then (impl_opNums.j0 k a0 (a0 == 4)) else (if a0 = 5 then (impl_opNums.j0 k a0 (a0 == 5)) else (if a0 = 6 then (impl_opNums.j0 k a0 (a0 == 6)) else (if a0 = 10 then (impl_opNums.j0 k a0 (a0 == 10)) else (impl_opNums.j0 k a0 (a0 == 11)))))
theorem impl_opNums.mono_l : ∀ k, (∀ y0 y1, LeO (impl_opNums.j0 k y0 y1) (impl_opNums.j0 (k + 1) y0 y1)) ∧ (∀ y0 y1, LeO (impl_opNums.j1 k y0 y1) (impl_opNums.j1 (k + 1) y0 y1))
  | 0 => ⟨fun _ _ r h => by simp [impl_opNums.j0] at h, fun _ _ r h => by simp [impl_opNums.j1] at h⟩
  | k + 1 => by
    obtain ⟨ih0, ih1⟩ := impl_opNums.mono_l k
    refine ⟨?_, ?_⟩
    · intro y0 y1
      unfold impl_opNums.j0
      repeat' first
      | (with_reducible exact ih0 _ _)
      | (with_reducible exact ih1 _ _)
      | (with_reducible exact LeO.refl _)
      | (with_reducible exact LeO.none _)
      | (with_reducible refine LeO.ite ?_ ?_)
      | (with_reducible refine LeO.bind ?_ (fun _ => ?_))
      | exact ih0 _ _
      | exact ih1 _ _
      | exact LeO.none _
      | refine LeO.ite ?_ ?_
      | refine LeO.bind ?_ (fun _ => ?_)
    · intro y0 y1
      unfold impl_opNums.j1
      repeat' first
      | (with_reducible exact ih0 _ _)
      | (with_reducible exact ih1 _ _)
      | (with_reducible exact LeO.refl _)
      | (with_reducible exact LeO.none _)
      | (with_reducible refine LeO.ite ?_ ?_)
      | (with_reducible refine LeO.bind ?_ (fun _ => ?_))
      | exact ih0 _ _
      | exact ih1 _ _
      | exact LeO.none _
      | refine LeO.ite ?_ ?_
      | refine LeO.bind ?_ (fun _ => ?_)
theorem impl_opNums.mono : ∀ a0 k, LeO (impl_opNums.f k a0) (impl_opNums.f (k + 1) a0) := by
  intro a0 k
  obtain ⟨ih0, ih1⟩ := impl_opNums.mono_l k
  unfold impl_opNums.f
  repeat' first
      | (with_reducible exact ih0 _ _)
      | (with_reducible exact ih1 _ _)
      | (with_reducible exact LeO.refl _)
      | (with_reducible exact LeO.none _)
      | (with_reducible refine LeO.ite ?_ ?_)
      | (with_reducible refine LeO.bind ?_ (fun _ => ?_))
      | exact ih0 _ _
      | exact ih1 _ _
      | exact LeO.none _
      | refine LeO.ite ?_ ?_
      | refine LeO.bind ?_ (fun _ => ?_)
set_option maxHeartbeats 8000000 in
set_option maxRecDepth 100000 in
theorem impl_opNums.calls (k : Nat) (a0 : Int) (r : Int) (w : World) (h : impl_opNums.f k a0 = some r) :
    Calls Tryd.prog 71 #[.int .i64 a0] w fun e w' => e = .returned (.int .i64 r) ∧ Drawn0 w w' := by
  have H : (if a0 = 4 then (impl_opNums.j0 k a0 (a0 == 4)) else (if a0 = 5 then (impl_opNums.j0 k a0 (a0 == 5)) else (if a0 = 6 then (impl_opNums.j0 k a0 (a0 == 6)) else (if a0 = 10 then (impl_opNums.j0 k a0 (a0 == 10)) else (impl_opNums.j0 k a0 (a0 == 11)))))) = some r := h
  clear h
  have HC2 := ak H
  clear H
  go_enter Tryd.func71, Tryd.ntmps71
  go_upto_if 4 with (fail)
  go_cut [4] (fun v4 wc => ∃ (kq : Nat) (x4_1 : Bool), v4 = .bool x4_1 ∧ Aside0 (impl_opNums.j0 kq a0 x4_1 = some r) ∧ Aside0 (kq ≤ k) ∧ Drawn0 w wc)
  case first =>
   have H := HC2.out
   clear HC2
   by_cases c3 : a0 = 4
   ·rw [if_pos c3] at H
    have c3b0 : (a0 == 4) = true := beq_iff_eq.mpr c3
    have c3b1 : (a0 != 4) = false := bne_eq_false_iff_eq.mpr c3
    clear c3
    (first | rw [c3b0] | (simp only [i64_w, i32_w]; rw [c3b0]) | skip)
    have H' := ak H
    clear H
    go_wp2
    go_meet
    case rel => exact ⟨_, ((a0 == 4)), d19_3, H', ⟨by first | omega | exact Nat.le_refl _⟩, by repeat (first | exact Drawn0.refl _ | apply Drawn0.step)⟩
   ·rw [if_neg c3] at H
    have c3b0 : (a0 == 4) = false := beq_eq_false_iff_ne.mpr c3
    have c3b1 : (a0 != 4) = true := bne_iff_ne.mpr c3
    (first | rw [c3b0] | (simp only [i64_w, i32_w]; rw [c3b0]) | skip)
    by_cases c4 : a0 = 5
    ·rw [if_pos c4] at H
     have c4b0 : (a0 == 5) = true := beq_iff_eq.mpr c4
     have c4b1 : (a0 != 5) = false := bne_eq_false_iff_eq.mpr c4
     clear c4
     have H' := ak H
     clear H
     go_wp2
     go_meet
     case rel => exact ⟨_, ((a0 == 5)), d19_3, H', ⟨by first | omega | exact Nat.le_refl _⟩, by repeat (first | exact Drawn0.refl _ | apply Drawn0.step)⟩
    ·rw [if_neg c4] at H
     have c4b0 : (a0 == 5) = false := beq_eq_false_iff_ne.mpr c4
     have c4b1 : (a0 != 5) = true := bne_iff_ne.mpr c4
     by_cases c5 : a0 = 6
     ·rw [if_pos c5] at H
      have c5b0 : (a0 == 6) = true := beq_iff_eq.mpr c5
      have c5b1 : (a0 != 6) = false := bne_eq_false_iff_eq.mpr c5
      clear c5
      have H' := ak H
      clear H
      go_wp2
      go_meet
      case rel => exact ⟨_, ((a0 == 6)), d19_3, H', ⟨by first | omega | exact Nat.le_refl _⟩, by repeat (first | exact Drawn0.refl _ | apply Drawn0.step)⟩
     ·rw [if_neg c5] at H
      have c5b0 : (a0 == 6) = false := beq_eq_false_iff_ne.mpr c5
      have c5b1 : (a0 != 6) = true := bne_iff_ne.mpr c5
      by_cases c6 : a0 = 10
      ·rw [if_pos c6] at H
       have c6b0 : (a0 == 10) = true := beq_iff_eq.mpr c6
       have c6b1 : (a0 != 10) = false := bne_eq_false_iff_eq.mpr c6
       clear c6
       have H' := ak H
       clear H
       go_wp2
       go_meet
       case rel => exact ⟨_, ((a0 == 10)), d19_3, H', ⟨by first | omega | exact Nat.le_refl _⟩, by repeat (first | exact Drawn0.refl _ | apply Drawn0.step)⟩
      ·rw [if_neg c6] at H
       have c6b0 : (a0 == 10) = false := beq_eq_false_iff_ne.mpr c6
       have c6b1 : (a0 != 10) = true := bne_iff_ne.mpr c6
       have H' := ak H
       clear H
       go_wp2
       go_meet
       case rel => exact ⟨_, ((a0 == 11)), d19_3, H', ⟨by first | omega | exact Nat.le_refl _⟩, by repeat (first | exact Drawn0.refl _ | apply Drawn0.step)⟩
  case rest =>
   clear HC2
   obtain ⟨kq, x4_1, rfl, HA, HJ1, ⟨mc1, rfl⟩⟩ := hcut
   cases kq with
   | zero => exact absurd HA.out (by simp [impl_opNums.j0])
   | succ kj1 =>
    have H := HA.out
    clear HA
    simp only [impl_opNums.j0] at H
    by_cases c7 : x4_1 = true
    ·subst c7
     have H1 : (some 1) = some r := by rw [if_pos rfl] at H; exact H
     clear H
     have H := H1
     clear H1
     obtain rfl := Option.some.inj H
     go_wp2
     go_ret
     exact ⟨by first | rfl | (simp; done) | (simp [*]; done) | (simp [ne_nil_b, eq_nil_b]; done), by repeat (first | exact Drawn0.refl _ | apply Drawn0.step)⟩
    ·replace c7 := Bool.eq_false_iff.mpr c7
     subst c7
     have H1 : (if a0 = 2 then (impl_opNums.j1 kj1 a0 (a0 == 2)) else (impl_opNums.j1 kj1 a0 (a0 == 14))) = some r := by rw [if_neg (show ¬ (false = true) by decide)] at H; exact H
     clear H
     have H := H1
     clear H1
     have HC8 := ak H
     clear H
     go_upto_if 10 with (fail)
     go_cut [10] (fun v10 wc => ∃ (kq : Nat) (x10_7 : Bool), v10 = .bool x10_7 ∧ Aside0 (impl_opNums.j1 kq a0 x10_7 = some r) ∧ Aside0 (kq ≤ kj1) ∧ Drawn0 w wc)
     case first =>
      have H := HC8.out
      clear HC8
      by_cases c9 : a0 = 2
      ·rw [if_pos c9] at H
       have c9b0 : (a0 == 2) = true := beq_iff_eq.mpr c9
       have c9b1 : (a0 != 2) = false := bne_eq_false_iff_eq.mpr c9
       clear c9
       (first | rw [c9b0] | (simp only [i64_w, i32_w]; rw [c9b0]) | skip)
       have H' := ak H
       clear H
       go_wp2
       go_meet
       case rel => exact ⟨_, ((a0 == 2)), d19_3, H', ⟨by have := HJ1.out; first | omega | exact Nat.le_refl _⟩, by repeat (first | exact Drawn0.refl _ | apply Drawn0.step)⟩
      ·rw [if_neg c9] at H
       have c9b0 : (a0 == 2) = false := beq_eq_false_iff_ne.mpr c9
       have c9b1 : (a0 != 2) = true := bne_iff_ne.mpr c9
       (first | rw [c9b0] | (simp only [i64_w, i32_w]; rw [c9b0]) | skip)
       have H' := ak H
       clear H
       go_wp2
       go_meet
       case rel => exact ⟨_, ((a0 == 14)), d19_3, H', ⟨by have := HJ1.out; first | omega | exact Nat.le_refl _⟩, by repeat (first | exact Drawn0.refl _ | apply Drawn0.step)⟩
     case rest =>
      clear HC8
      try clear c1
      try clear p2
      try clear c3
      try clear c3b0
      try clear c3b1
      try clear c4
      try clear c4b0
      try clear c4b1
      try clear c5
      try clear c5b0
      try clear c5b1
      try clear c6
      try clear c6b0
      try clear c6b1
      try clear c7
      obtain ⟨kq, x10_7, rfl, HA, HJ7, ⟨mc7, rfl⟩⟩ := hcut
      cases kq with
      | zero => exact absurd HA.out (by simp [impl_opNums.j1])
      | succ kj7 =>
       have H := HA.out
       clear HA
       simp only [impl_opNums.j1] at H
       by_cases c10 : x10_7 = true
       ·subst c10
        have H1 : (some 2) = some r := by rw [if_pos rfl] at H; exact H
        clear H
        have H := H1
        clear H1
        obtain rfl := Option.some.inj H
        go_wp2
        go_ret
        exact ⟨by first | rfl | (simp; done) | (simp [*]; done) | (simp [ne_nil_b, eq_nil_b]; done), by repeat (first | exact Drawn0.refl _ | apply Drawn0.step)⟩
       ·replace c10 := Bool.eq_false_iff.mpr c10
        subst c10
        have H1 : (if a0 = 16 then (some 3) else (if a0 = 15 then (some 4) else (some 0))) = some r := by rw [if_neg (show ¬ (false = true) by decide)] at H; exact H
        clear H
        have H := H1
        clear H1
        by_cases c11 : a0 = 16
        ·rw [if_pos c11] at H
         have c11b0 : (a0 == 16) = true := beq_iff_eq.mpr c11
         have c11b1 : (a0 != 16) = false := bne_eq_false_iff_eq.mpr c11
         clear c11
         obtain rfl := Option.some.inj H
         go_wp2
         go_ret
         exact ⟨by first | rfl | (simp; done) | (simp [*]; done) | (simp [ne_nil_b, eq_nil_b]; done), by repeat (first | exact Drawn0.refl _ | apply Drawn0.step)⟩
        ·rw [if_neg c11] at H
         have c11b0 : (a0 == 16) = false := beq_eq_false_iff_ne.mpr c11
         have c11b1 : (a0 != 16) = true := bne_iff_ne.mpr c11
         by_cases c12 : a0 = 15
         ·rw [if_pos c12] at H
          have c12b0 : (a0 == 15) = true := beq_iff_eq.mpr c12
          have c12b1 : (a0 != 15) = false := bne_eq_false_iff_eq.mpr c12
          clear c12
          obtain rfl := Option.some.inj H
          go_wp2
          go_ret
          exact ⟨by first | rfl | (simp; done) | (simp [*]; done) | (simp [ne_nil_b, eq_nil_b]; done), by repeat (first | exact Drawn0.refl _ | apply Drawn0.step)⟩
         ·rw [if_neg c12] at H
          have c12b0 : (a0 == 15) = false := beq_eq_false_iff_ne.mpr c12
          have c12b1 : (a0 != 15) = true := bne_iff_ne.mpr c12
          obtain rfl := Option.some.inj H
          go_wp2
          go_ret
          exact ⟨by first | rfl | (simp; done) | (simp [*]; done) | (simp [ne_nil_b, eq_nil_b]; done), by repeat (first | exact Drawn0.refl _ | apply Drawn0.step)⟩

/-! ### impl_opNamed: function 72 -/
def impl_opNamed.f (a0 : Int) : Option (Bool) := if a0 = 3 then (some true) else (if a0 = 8 then (some true) else (some (a0 == 9)))
set_option maxHeartbeats 8000000 in
set_option maxRecDepth 100000 in
theorem impl_opNamed.calls (a0 : Int) (r : Bool) (w : World) (h : impl_opNamed.f a0 = some r) :
    Calls Tryd.prog 72 #[.int .i64 a0] w fun e w' => e = .returned (.bool r) ∧ Drawn0 w w' := by
  have H : (if a0 = 3 then (some true) else (if a0 = 8 then (some true) else (some (a0 == 9)))) = some r := h
  clear h
  by_cases c2 : a0 = 3
  ·rw [if_pos c2] at H
   have c2b0 : (a0 == 3) = true := beq_iff_eq.mpr c2
   have c2b1 : (a0 != 3) = false := bne_eq_false_iff_eq.mpr c2
   clear c2
   obtain rfl := Option.some.inj H
   go_enter Tryd.func72, Tryd.ntmps72
   go_wp2
   go_ret
   exact ⟨by first | rfl | (simp; done) | (simp [*]; done) | (simp [ne_nil_b, eq_nil_b]; done), by repeat (first | exact Drawn0.refl _ | apply Drawn0.step)⟩
  ·rw [if_neg c2] at H
   have c2b0 : (a0 == 3) = false := beq_eq_false_iff_ne.mpr c2
   have c2b1 : (a0 != 3) = true := bne_iff_ne.mpr c2
   by_cases c3 : a0 = 8
   ·rw [if_pos c3] at H
    have c3b0 : (a0 == 8) = true := beq_iff_eq.mpr c3
    have c3b1 : (a0 != 8) = false := bne_eq_false_iff_eq.mpr c3
    clear c3
    obtain rfl := Option.some.inj H
    go_enter Tryd.func72, Tryd.ntmps72
    go_wp2
    go_ret
    exact ⟨by first | rfl | (simp; done) | (simp [*]; done) | (simp [ne_nil_b, eq_nil_b]; done), by repeat (first | exact Drawn0.refl _ | apply Drawn0.step)⟩
   ·rw [if_neg c3] at H
    have c3b0 : (a0 == 8) = false := beq_eq_false_iff_ne.mpr c3
    have c3b1 : (a0 != 8) = true := bne_iff_ne.mpr c3
    obtain rfl := Option.some.inj H
    go_enter Tryd.func72, Tryd.ntmps72
    go_wp2
    go_ret
    exact ⟨by first | rfl | (simp; done) | (simp [*]; done) | (simp [ne_nil_b, eq_nil_b]; done), by repeat (first | exact Drawn0.refl _ | apply Drawn0.step)⟩

/-! ### impl_opData: function 73 -/
def impl_opData.f (a0 : Int) : Option (Bool) := if a0 = 1 then (some true) else (some (a0 == 13))
set_option maxHeartbeats 8000000 in
set_option maxRecDepth 100000 in
theorem impl_opData.calls (a0 : Int) (r : Bool) (w : World) (h : impl_opData.f a0 = some r) :
    Calls Tryd.prog 73 #[.int .i64 a0] w fun e w' => e = .returned (.bool r) ∧ Drawn0 w w' := by
  have H : (if a0 = 1 then (some true) else (some (a0 == 13))) = some r := h
  clear h
  by_cases c2 : a0 = 1
  ·rw [if_pos c2] at H
   have c2b0 : (a0 == 1) = true := beq_iff_eq.mpr c2
   have c2b1 : (a0 != 1) = false := bne_eq_false_iff_eq.mpr c2
   clear c2
   obtain rfl := Option.some.inj H
   go_enter Tryd.func73, Tryd.ntmps73
   go_wp2
   go_ret
   exact ⟨by first | rfl | (simp; done) | (simp [*]; done) | (simp [ne_nil_b, eq_nil_b]; done), by repeat (first | exact Drawn0.refl _ | apply Drawn0.step)⟩
  ·rw [if_neg c2] at H
   have c2b0 : (a0 == 1) = false := beq_eq_false_iff_ne.mpr c2
   have c2b1 : (a0 != 1) = true := bne_iff_ne.mpr c2
   obtain rfl := Option.some.inj H
   go_enter Tryd.func73, Tryd.ntmps73
   go_wp2
   go_ret
   exact ⟨by first | rfl | (simp; done) | (simp [*]; done) | (simp [ne_nil_b, eq_nil_b]; done), by repeat (first | exact Drawn0.refl _ | apply Drawn0.step)⟩

/-! ### impl_deep: function 131 -/
def impl_deep.l0 : Nat → List (S132) → Int → Int → Option (Int)
  | 0, _, _, _ => none
  | k + 1, x0, x1, x5 => if x1 ≥ 0 then (if 0 ≤ x1 then (if x1 < (x0.length : Int) then (impl_deep.l0 k x0 ((rd_T132 x0 x1).f1) (wrap64 (x5 + 1))) else (none)) else (none)) else (some x5)
def impl_deep.f (k : Nat) (l0 : List (S132)) (a1 : Int) : Option (Int) := impl_deep.l0 k l0 a1 0
theorem impl_deep.mono_l : ∀ k, (∀ y0 y1 y2, LeO (impl_deep.l0 k y0 y1 y2) (impl_deep.l0 (k + 1) y0 y1 y2))
  | 0 => fun _ _ _ r h => by simp [impl_deep.l0] at h
  | k + 1 => by
    have ih0 := impl_deep.mono_l k
    · intro y0 y1 y2
      unfold impl_deep.l0
      repeat' first
      | (with_reducible exact ih0 _ _ _)
      | (with_reducible exact LeO.refl _)
      | (with_reducible exact LeO.none _)
      | (with_reducible refine LeO.ite ?_ ?_)
      | (with_reducible refine LeO.bind ?_ (fun _ => ?_))
      | exact ih0 _ _ _
      | exact LeO.none _
      | refine LeO.ite ?_ ?_
      | refine LeO.bind ?_ (fun _ => ?_)
theorem impl_deep.mono : ∀ a0 a1 k, LeO (impl_deep.f k a0 a1) (impl_deep.f (k + 1) a0 a1) := by
  intro a0 a1 k
  have ih0 := impl_deep.mono_l k
  unfold impl_deep.f
  repeat' first
      | (with_reducible exact ih0 _ _ _)
      | (with_reducible exact LeO.refl _)
      | (with_reducible exact LeO.none _)
      | (with_reducible refine LeO.ite ?_ ?_)
      | (with_reducible refine LeO.bind ?_ (fun _ => ?_))
      | exact ih0 _ _ _
      | exact LeO.none _
      | refine LeO.ite ?_ ?_
      | refine LeO.bind ?_ (fun _ => ?_)
set_option maxHeartbeats 8000000 in
set_option maxRecDepth 100000 in
theorem impl_deep.calls (k : Nat) (A0 : Option Addr) (c0 : Nat) (l0 : List (S132)) (a1 : Int) (r : Int) (w : World) (hr0 : Kd.C k132 w A0 l0.length l0) (hc0 : l0.length ≤ c0) (h : impl_deep.f k l0 a1 = some r) :
    Calls Tryd.prog 131 #[.slice A0 l0.length c0, .int .i64 a1] w fun e w' => e = .returned (.int .i64 r) ∧ Drawn0 w w' := by
  have HR0 := ak hr0
  have HC0 := ak hc0
  clear hr0 hc0
  have H : (impl_deep.l0 k l0 a1 0) = some r := h
  clear h
  have H' := ak H
  clear H
  go_enter Tryd.func131, Tryd.ntmps131
  go_wp2
  go_loopg [1, 5] k (fun kq v1 v5 w' => ∃ (x1_1 : Int) (x5_1 : Int), v1 = .int .i64 x1_1 ∧ v5 = .int .i64 x5_1 ∧ Aside0 (impl_deep.l0 kq l0 x1_1 x5_1 = some r) ∧ Aside0 (kq ≤ k) ∧ Drawn0 w w')
  case atStart => exact ⟨(a1), (0), d19_3, d19_3, H', ⟨Nat.le_refl _⟩, by repeat (first | exact Drawn0.refl _ | apply Drawn0.step)⟩
  case round =>
   clear H'
   try clear c1
   try clear p2
   obtain ⟨x1_1, x5_1, rfl, rfl, HA, HK1, ⟨m1, rfl⟩⟩ := hrel
   cases gk with
   | zero => exact absurd HA.out (by simp [impl_deep.l0])
   | succ k1 =>
    have H := HA.out
    clear HA
    simp only [impl_deep.l0] at H
    by_cases c3 : x1_1 ≥ 0
    ·rw [if_pos c3] at H
     have c3b0 : decide (0 ≤ x1_1) = true := decide_eq_true c3
     clear c3
     by_cases c4 : 0 ≤ x1_1
     ·rw [if_pos c4] at H
      have c4b0 : decide (0 ≤ x1_1) = true := decide_eq_true c4
      clear c4
      by_cases c5 : x1_1 < (l0.length : Int)
      ·rw [if_pos c5] at H
       have c5b0 : decide (x1_1 < (l0.length : Int)) = true := decide_eq_true c5
       clear c5
       have H' := ak H
       clear H
       have p612 : 0 ≤ (x1_1 : Int) := of_decide_eq_true d19_4
       have q612 : x1_1 < (l0.length : Int) := of_decide_eq_true d19_4
       obtain ⟨ad612, e612, hx612_0, hx612_1, hx612_2, hx612_3⟩ := at_T132 HR0.out x1_1 p612 q612
       cases e612
       replace p612 := eq_true p612
       replace q612 := eq_true q612
       go_wp2
       go_roundg k1
       case measure => have := HK1.out; omega
       case rel => exact ⟨((rd_T132 l0 x1_1).f1), (wrap64 (x5_1 + 1)), d19_3, d19_3, H', ⟨by have := HK1.out; omega⟩, by repeat (first | exact Drawn0.refl _ | apply Drawn0.step)⟩
      ·rw [if_neg c5] at H
       exact absurd H (by simp)
     ·rw [if_neg c4] at H
      exact absurd H (by simp)
    ·rw [if_neg c3] at H
     have c3b0 : decide (0 ≤ x1_1) = false := decide_eq_false c3
     clear c3
     obtain rfl := Option.some.inj H
     go_wp2
     go_ret
     exact ⟨by first | rfl | (simp; done) | (simp [*]; done) | (simp [ne_nil_b, eq_nil_b]; done), by repeat (first | exact Drawn0.refl _ | apply Drawn0.step)⟩

/-! ### impl_datumFault_1: function 130 -/
def impl_datumFault_1.f (a0 : Int) (l1_0 : List (S132)) : Option (Int) := if 0 ≤ a0 then (if a0 < (l1_0.length : Int) then (some ((rd_T132 l1_0 a0).f1)) else (none)) else (none)
set_option maxHeartbeats 8000000 in
set_option maxRecDepth 100000 in
theorem impl_datumFault_1.calls (a0 : Int) (P1_ : Addr) (A1_0 : Option Addr) (c1_0 : Nat) (l1_0 : List (S132)) (r : Int) (w : World) (hq1_0 : w.cell? P1_ = some (.slice A1_0 l1_0.length c1_0)) (hr1_0 : Kd.C k132 w A1_0 l1_0.length l1_0) (hc1_0 : l1_0.length ≤ c1_0) (h : impl_datumFault_1.f a0 l1_0 = some r) :
    Calls Tryd.prog 130 #[.int .i64 a0, .pointer (some P1_)] w fun e w' => e = .returned (.int .i64 r) ∧ Drawn0 w w' := by
  have HQ1_0 := ak hq1_0
  clear hq1_0
  have HR1_0 := ak hr1_0
  have HC1_0 := ak hc1_0
  clear hr1_0 hc1_0
  have H : (if 0 ≤ a0 then (if a0 < (l1_0.length : Int) then (some ((rd_T132 l1_0 a0).f1)) else (none)) else (none)) = some r := h
  clear h
  by_cases c3 : 0 ≤ a0
  ·rw [if_pos c3] at H
   have c3b0 : decide (0 ≤ a0) = true := decide_eq_true c3
   clear c3
   by_cases c4 : a0 < (l1_0.length : Int)
   ·rw [if_pos c4] at H
    have c4b0 : decide (a0 < (l1_0.length : Int)) = true := decide_eq_true c4
    clear c4
    obtain rfl := Option.some.inj H
    have hx620_0 := HQ1_0.out
    have p621 : 0 ≤ (a0 : Int) := of_decide_eq_true d19_4
    have q621 : a0 < (l1_0.length : Int) := of_decide_eq_true d19_4
    obtain ⟨ad621, e621, hx621_0, hx621_1, hx621_2, hx621_3⟩ := at_T132 HR1_0.out a0 p621 q621
    cases e621
    replace p621 := eq_true p621
    replace q621 := eq_true q621
    go_enter Tryd.func130, Tryd.ntmps130
    go_wp2
    go_ret
    exact ⟨by first | rfl | (simp; done) | (simp [*]; done) | (simp [ne_nil_b, eq_nil_b]; done), by repeat (first | exact Drawn0.refl _ | apply Drawn0.step)⟩
   ·rw [if_neg c4] at H
    exact absurd H (by simp)
  ·rw [if_neg c3] at H
   exact absurd H (by simp)

/-! ### impl_isUp__impl_datumFault_1: function 129 -/
def impl_isUp__impl_datumFault_1.l0 : Nat → Int → Int → List (S132) → Option (Bool)
  | 0, _, _, _ => none
  | k + 1, x2, x7, x1000 => if x7 ≥ 0 then (if x7 = x2 then (some true) else ((impl_datumFault_1.f x7 x1000).bind fun t623 => (impl_isUp__impl_datumFault_1.l0 k x2 t623 x1000))) else (some false)
def impl_isUp__impl_datumFault_1.f (k : Nat) (l0_0 : List (S132)) (a1 : Int) (a2 : Int) : Option (Bool) := impl_isUp__impl_datumFault_1.l0 k a2 a1 l0_0
theorem impl_isUp__impl_datumFault_1.mono_l : ∀ k, (∀ y0 y1 y2, LeO (impl_isUp__impl_datumFault_1.l0 k y0 y1 y2) (impl_isUp__impl_datumFault_1.l0 (k + 1) y0 y1 y2))
  | 0 => fun _ _ _ r h => by simp [impl_isUp__impl_datumFault_1.l0] at h
  | k + 1 => by
    have ih0 := impl_isUp__impl_datumFault_1.mono_l k
    · intro y0 y1 y2
      unfold impl_isUp__impl_datumFault_1.l0
      repeat' first
      | (with_reducible exact ih0 _ _ _)
      | (with_reducible exact LeO.refl _)
      | (with_reducible exact LeO.none _)
      | (with_reducible refine LeO.ite ?_ ?_)
      | (with_reducible refine LeO.bind ?_ (fun _ => ?_))
      | exact ih0 _ _ _
      | exact LeO.none _
      | refine LeO.ite ?_ ?_
      | refine LeO.bind ?_ (fun _ => ?_)
theorem impl_isUp__impl_datumFault_1.mono : ∀ a0 a1 a2 k, LeO (impl_isUp__impl_datumFault_1.f k a0 a1 a2) (impl_isUp__impl_datumFault_1.f (k + 1) a0 a1 a2) := by
  intro a0 a1 a2 k
  have ih0 := impl_isUp__impl_datumFault_1.mono_l k
  unfold impl_isUp__impl_datumFault_1.f
  repeat' first
      | (with_reducible exact ih0 _ _ _)
      | (with_reducible exact LeO.refl _)
      | (with_reducible exact LeO.none _)
      | (with_reducible refine LeO.ite ?_ ?_)
      | (with_reducible refine LeO.bind ?_ (fun _ => ?_))
      | exact ih0 _ _ _
      | exact LeO.none _
      | refine LeO.ite ?_ ?_
      | refine LeO.bind ?_ (fun _ => ?_)
set_option maxHeartbeats 8000000 in
set_option maxRecDepth 100000 in
theorem impl_isUp__impl_datumFault_1.calls (k : Nat) (P0_0 : Addr) (A0_0 : Option Addr) (c0_0 : Nat) (l0_0 : List (S132)) (a1 : Int) (a2 : Int) (r : Bool) (w : World) (hq0_0 : w.cell? P0_0 = some (.slice A0_0 l0_0.length c0_0)) (hr0_0 : Kd.C k132 w A0_0 l0_0.length l0_0) (hc0_0 : l0_0.length ≤ c0_0) (h : impl_isUp__impl_datumFault_1.f k l0_0 a1 a2 = some r) :
    Calls Tryd.prog 129 #[.func (.func 130) #[] #[.pointer (some P0_0)], .int .i64 a1, .int .i64 a2] w fun e w' => e = .returned (.bool r) ∧ Drawn0 w w' := by
  have HQ0_0 := ak hq0_0
  clear hq0_0
  have HR0_0 := ak hr0_0
  have HC0_0 := ak hc0_0
  clear hr0_0 hc0_0
  have H : (impl_isUp__impl_datumFault_1.l0 k a2 a1 l0_0) = some r := h
  clear h
  have H' := ak H
  clear H
  go_enter Tryd.func129, Tryd.ntmps129
  go_wp2
  go_loopg [7] k (fun kq v7 w' => ∃ (x7_1 : Int), v7 = .int .i64 x7_1 ∧ Aside0 (impl_isUp__impl_datumFault_1.l0 kq a2 x7_1 l0_0 = some r) ∧ Aside0 (kq ≤ k) ∧ Drawn0 w w')
  case atStart => exact ⟨(a1), d19_3, H', ⟨Nat.le_refl _⟩, by repeat (first | exact Drawn0.refl _ | apply Drawn0.step)⟩
  case round =>
   clear H'
   try clear c1
   try clear p2
   obtain ⟨x7_1, rfl, HA, HK1, ⟨m1, rfl⟩⟩ := hrel
   cases gk with
   | zero => exact absurd HA.out (by simp [impl_isUp__impl_datumFault_1.l0])
   | succ k1 =>
    have H := HA.out
    clear HA
    simp only [impl_isUp__impl_datumFault_1.l0] at H
    by_cases c4 : x7_1 ≥ 0
    ·rw [if_pos c4] at H
     have c4b0 : decide (0 ≤ x7_1) = true := decide_eq_true c4
     clear c4
     by_cases c5 : x7_1 = a2
     ·rw [if_pos c5] at H
      have c5b0 : (x7_1 == a2) = true := beq_iff_eq.mpr c5
      have c5b1 : (x7_1 != a2) = false := bne_eq_false_iff_eq.mpr c5
      clear c5
      obtain rfl := Option.some.inj H
      go_wp2
      go_ret
      exact ⟨by first | rfl | (simp; done) | (simp [*]; done) | (simp [ne_nil_b, eq_nil_b]; done), by repeat (first | exact Drawn0.refl _ | apply Drawn0.step)⟩
     ·rw [if_neg c5] at H
      have c5b0 : (x7_1 == a2) = false := beq_eq_false_iff_ne.mpr c5
      have c5b1 : (x7_1 != a2) = true := bne_iff_ne.mpr c5
      replace H := Option.bind_eq_some_iff.mp H
      obtain ⟨t623, A60, H⟩ := H
      replace H : (impl_isUp__impl_datumFault_1.l0 k1 a2 t623 l0_0) = some r := H
      have A6 := ak A60
      clear A60
      have H' := ak H
      clear H
      have hx622_0 := HQ0_0.out
      go_wp2_with (first | (go_at_call 130; (with_reducible refine (impl_datumFault_1.calls x7_1 _ A0_0 c0_0 l0_0 t623 _ ?side1 ?side2 ?side3 A6.out).mono ?_); (case side1 => first | exact hx622_0 | (refine Eq.trans ?_ hx622_0; simp only [go_sem])); (case side2 => repeat (first | exact HR0_0.out | (with_reducible refine Kd.C_alloc ?_ _) | (with_reducible refine Kd.C_drewN ?_ _) | (with_reducible refine Kd.C_drew ?_))); (case side3 => exact HC0_0.out); rintro e w' ⟨rfl, ⟨nd, rfl⟩⟩))
      go_roundg k1
      case measure => have := HK1.out; omega
      case rel => exact ⟨(t623), d19_3, H', ⟨by have := HK1.out; omega⟩, by repeat (first | exact Drawn0.refl _ | apply Drawn0.step)⟩
    ·rw [if_neg c4] at H
     have c4b0 : decide (0 ≤ x7_1) = false := decide_eq_false c4
     clear c4
     obtain rfl := Option.some.inj H
     go_wp2
     go_ret
     exact ⟨by first | rfl | (simp; done) | (simp [*]; done) | (simp [ne_nil_b, eq_nil_b]; done), by repeat (first | exact Drawn0.refl _ | apply Drawn0.step)⟩

end Go.Proofs.YthjfdohcdkpdnaaDoor.A
