/- Walks of the program's functions: each Go function's answer as a plain Lean function, and that the call comes to it. Written by a program. Conditions: those in each theorem's own head. -/
import Derived.Test.YteomhecieedcnaaDoorA0
import Derived.Test.YteomhecieedcnaaDoorA1
import Derived.Test.YteomhecieedcnaaDoorA2
import Derived.Test.YteomhecieedcnaaDoorA4
namespace Go.Proofs.YteomhecieedcnaaDoor.A
open Go.RowKit Go.Proofs.YteomhecieedcnaaDoorW.PrintWords Go.Proofs.YteomhecieedcnaaDoorW.PrintLast Go.Proofs.YteomhecieedcnaaDoorW.PrintMore
attribute [local go_sem] max2_int min2_int max_two min_two max_three min_three max_four min_four   -- for this text's walks alone
set_option linter.unusedVariables false
set_option linter.unusedSimpArgs false

theorem b5N {w : World} {g : Nat} {o : Obj} (h : w.heap[g]? = some o) (n : Nat) : (w.drewN n).heap[g]? = some o := h
theorem b5D {w : World} {g : Nat} {o : Obj} (h : w.heap[g]? = some o) : (w.drew).heap[g]? = some o := h
theorem b5L {w : World} {g : Nat} {o : Obj} (h : w.heap[g]? = some o) (o' : Obj) : (w.alloc o').heap[g]? = some o := blk_alloc h o'
theorem d5_1 {p : Prop} (h : p := by repeat (first | (with_reducible first | exact HB.out | apply below_alloc | apply pw_below_drewN | apply below_drew1) | exact HB.out)) : p := h
theorem d5_2 {p : Prop} (h : p := by (try simp only [List.map_toArray, List.map_cons, List.map_nil]); first | done | rfl | (simp only [List.length_drop, List.length_take]; rfl)) : p := h
theorem d5_3 {p : Prop} (h : p := by repeat (first | (with_reducible first | exact HB.out | apply below_alloc | apply pw_below_drewN | apply below_drew1 | refine below_set ?_ GE218.out) | exact HB.out)) : p := h
theorem d5_4 {p : Prop} (h : p := by (with_reducible repeat first | apply b5N | apply b5D | apply b5L); exact BK218.out) : p := h
theorem d5_5 {p : Prop} (h : p := by repeat (first | (with_reducible first | exact HB.out | apply below_alloc | apply pw_below_drewN | apply below_drew1 | refine below_set ?_ GE209.out) | exact HB.out)) : p := h
theorem d5_6 {p : Prop} (h : p := by rw [hg]; exact (below_size d5_1)) : p := h
theorem c5_1 {p : Prop} (h : p := by repeat (first | (with_reducible first | exact HB.out | apply below_alloc | apply pw_below_drewN | apply below_drew1 | refine below_set ?_ GE218.out) | exact HB.out)) : p := h
theorem c5_2 {p : Prop} (h : p := by first | rfl | (simp [errW_none, errW_some] <;> rfl) | (simp [*, errW_none, errW_some] <;> rfl)) : p := h

/-! ### spec_l1Of: function 28 -/
def spec_l1Of.f (a0 : Int) : Option (Int × Int) := (spec_l1Num.f a0).bind fun t208 => (if t208 = true then (some (0, a0)) else (some (7, 0)))
set_option maxHeartbeats 8000000 in
set_option maxRecDepth 100000 in
theorem spec_l1Of.calls (a0 : Int) (r1 : Int) (r2 : Int) (w : World) (h : spec_l1Of.f a0 = some (r1, r2)) :
    Calls Tryd.prog 28 #[.int .i64 a0] w fun e w' => e = .returned (.agg #[.int .i64 r1, .int .i64 r2]) ∧ Below w.heap.size w w' := by
  have hu23 := Tryd.underlying23; have HB := ak (Below.refl w.heap.size w); have H : ((spec_l1Num.f a0).bind fun t208 => (if t208 = true then (some (0, a0)) else (some (7, 0)))) = some (r1, r2) := h; clear h; replace H := Option.bind_eq_some_iff.mp H; obtain ⟨t208, A20, H⟩ := H; replace H : (if t208 = true then (some (0, a0)) else (some (7, 0))) = some (r1, r2) := H; have A2 := ak A20; clear A20; by_cases c3 : t208 = true
  ·subst c3
   have H1 : (some (0, a0)) = some (r1, r2) := by rw [if_pos rfl] at H; exact H
   clear H; have H := H1; clear H1; simp only [Option.some.injEq, Prod.mk.injEq] at H; obtain ⟨rfl, rfl⟩ := H; go_enter Tryd.func28, Tryd.ntmps28
   go_wp2_with (first | ((with_reducible refine gate_dst (N := 2) rfl ?_); refine box_event ?hg (N := 2) ?hd (cs := #[.int .i64 0, .int .i64 0]) (t := 23) ?hr ?_; (case hd => rfl); (case hg => rfl); (case hr => first | (go_simp; done) | (go_simp; rfl)); intro gb207 hg w4 hbox hb; have n0_ := ak (below_step d5_1 hb); have n1_ := ak (hbox); have n2_ := ak ((d5_6 : w.heap.size ≤ gb207)); have n3_ := ak ((d5_6 : w.heap.size ≤ gb207)); clear HB; have HB := n0_; have BK207 := n1_; have GW207 := n2_; have GE207 := n3_; clear n0_ n1_ n2_ n3_ hb hbox hg) | ((with_reducible refine gate_callee (f := 30) rfl ?_); refine goesL_ (some 4) rfl rfl Tryd.func30 (by kernel_rfl) rfl #[.int .i64 a0] rfl d5_2 ?_; (with_reducible refine (spec_l1Num.calls a0 true _ A2.out).mono ?_); rintro e w' ⟨rfl, ⟨nd, rfl⟩⟩; refine ⟨_, rfl, ?_⟩; (try (rw [drewN_self w4]; generalize hq_ : World.drewN w4 _ = w4; have n0_ : Aside0 (w4.heap[gb207]? = some (.cells #[.int .i64 0, .int .i64 0] 23 (0, 0))) := ⟨by rw [← hq_]; exact (by (with_reducible repeat first | apply b5N | apply b5D | apply b5L); exact BK207.out)⟩; have n1_ : Aside0 (Below w.heap.size w w4) := ⟨by rw [← hq_]; exact (by repeat (first | (with_reducible first | exact HB.out | apply below_alloc | apply pw_below_drewN | apply below_drew1 | refine below_set ?_ GE207.out) | exact HB.out))⟩; clear BK207 HB hq_; have BK207 := n0_; have HB := n1_; clear n0_ n1_)); have hcz5_0 : w4.cell? ⟨gb207, 0, none⟩ = some (.int .i64 0) := (blk_cell BK207.out 0).trans rfl; have hcz5_1 : w4.cell? ⟨gb207, 1, none⟩ = some (.int .i64 0) := (blk_cell BK207.out 1).trans rfl; have hfz5_0 := blk_frozen BK207.out 0; have hfz5_1 := blk_frozen BK207.out 1))
   refine bodyPost_ret (results_cell_row rfl _ _ gb207 23 #[.int .i64 0, .int .i64 a0] (0, 0) _ rfl (by (with_reducible repeat first | apply b5N | apply b5D | apply b5L); refine blk_put (cs := #[.int .i64 0, .int .i64 0]) ?_ 1 _ rfl; (with_reducible repeat first | apply b5N | apply b5D | apply b5L); refine blk_put (cs := #[.int .i64 0, .int .i64 0]) ?_ 0 _ rfl; (with_reducible repeat first | apply b5N | apply b5D | apply b5L); exact BK207.out) Tryd.underlying23 rfl (by kernel_rfl)) rfl ?_; exact ⟨c5_2, by repeat (first | (with_reducible first | exact HB.out | apply below_alloc | apply pw_below_drewN | apply below_drew1 | refine below_set ?_ GE207.out) | exact HB.out)⟩
  ·replace c3 := Bool.eq_false_iff.mpr c3
   subst c3
   have H1 : (some (7, 0)) = some (r1, r2) := by rw [if_neg (show ¬ (false = true) by decide)] at H; exact H
   clear H; have H := H1; clear H1; simp only [Option.some.injEq, Prod.mk.injEq] at H; obtain ⟨rfl, rfl⟩ := H; go_enter Tryd.func28, Tryd.ntmps28
   go_wp2_with (first | ((with_reducible refine gate_dst (N := 2) rfl ?_); refine box_event ?hg (N := 2) ?hd (cs := #[.int .i64 0, .int .i64 0]) (t := 23) ?hr ?_; (case hd => rfl); (case hg => rfl); (case hr => first | (go_simp; done) | (go_simp; rfl)); intro gb207 hg w6 hbox hb; have n0_ := ak (below_step d5_1 hb); have n1_ := ak (hbox); have n2_ := ak ((d5_6 : w.heap.size ≤ gb207)); have n3_ := ak ((d5_6 : w.heap.size ≤ gb207)); clear HB; have HB := n0_; have BK207 := n1_; have GW207 := n2_; have GE207 := n3_; clear n0_ n1_ n2_ n3_ hb hbox hg) | ((with_reducible refine gate_callee (f := 30) rfl ?_); refine goesL_ (some 4) rfl rfl Tryd.func30 (by kernel_rfl) rfl #[.int .i64 a0] rfl d5_2 ?_; (with_reducible refine (spec_l1Num.calls a0 false _ A2.out).mono ?_); rintro e w' ⟨rfl, ⟨nd, rfl⟩⟩; refine ⟨_, rfl, ?_⟩; (try (rw [drewN_self w6]; generalize hq_ : World.drewN w6 _ = w6; have n0_ : Aside0 (w6.heap[gb207]? = some (.cells #[.int .i64 0, .int .i64 0] 23 (0, 0))) := ⟨by rw [← hq_]; exact (by (with_reducible repeat first | apply b5N | apply b5D | apply b5L); exact BK207.out)⟩; have n1_ : Aside0 (Below w.heap.size w w6) := ⟨by rw [← hq_]; exact (by repeat (first | (with_reducible first | exact HB.out | apply below_alloc | apply pw_below_drewN | apply below_drew1 | refine below_set ?_ GE207.out) | exact HB.out))⟩; clear BK207 HB hq_; have BK207 := n0_; have HB := n1_; clear n0_ n1_)); have hcz7_0 : w6.cell? ⟨gb207, 0, none⟩ = some (.int .i64 0) := (blk_cell BK207.out 0).trans rfl; have hcz7_1 : w6.cell? ⟨gb207, 1, none⟩ = some (.int .i64 0) := (blk_cell BK207.out 1).trans rfl; have hfz7_0 := blk_frozen BK207.out 0; have hfz7_1 := blk_frozen BK207.out 1))
   refine bodyPost_ret (results_cell_row rfl _ _ gb207 23 #[.int .i64 7, .int .i64 0] (0, 0) _ rfl (by (with_reducible repeat first | apply b5N | apply b5D | apply b5L); refine blk_put (cs := #[.int .i64 7, .int .i64 0]) ?_ 1 _ rfl; (with_reducible repeat first | apply b5N | apply b5D | apply b5L); refine blk_put (cs := #[.int .i64 0, .int .i64 0]) ?_ 0 _ rfl; (with_reducible repeat first | apply b5N | apply b5D | apply b5L); exact BK207.out) Tryd.underlying23 rfl (by kernel_rfl)) rfl ?_; exact ⟨c5_2, by repeat (first | (with_reducible first | exact HB.out | apply below_alloc | apply pw_below_drewN | apply below_drew1 | refine below_set ?_ GE207.out) | exact HB.out)⟩

/-! ### spec_AddNum: function 13 -/
def spec_AddNum.f (a0 : Int) (a1 : Int) : Option (Int × Int) := (spec_l1Two.f a0 a1).bind fun t210 => (if t210 = true then ((spec_l1Of.f (wrap64 (a0 + a1))).bind fun bt211 => (some (bt211.1, bt211.2))) else (some (3, 0)))
set_option maxHeartbeats 8000000 in
set_option maxRecDepth 100000 in
theorem spec_AddNum.calls (a0 : Int) (a1 : Int) (r1 : Int) (r2 : Int) (w : World) (h : spec_AddNum.f a0 a1 = some (r1, r2)) :
    Calls Tryd.prog 13 #[.int .i64 a0, .int .i64 a1] w fun e w' => e = .returned (.agg #[.int .i64 r1, .int .i64 r2]) ∧ Below w.heap.size w w' := by
  have hu23 := Tryd.underlying23; have HB := ak (Below.refl w.heap.size w); have H : ((spec_l1Two.f a0 a1).bind fun t210 => (if t210 = true then ((spec_l1Of.f (wrap64 (a0 + a1))).bind fun bt211 => (some (bt211.1, bt211.2))) else (some (3, 0)))) = some (r1, r2) := h; clear h; replace H := Option.bind_eq_some_iff.mp H; obtain ⟨t210, A30, H⟩ := H; replace H : (if t210 = true then ((spec_l1Of.f (wrap64 (a0 + a1))).bind fun bt211 => (some (bt211.1, bt211.2))) else (some (3, 0))) = some (r1, r2) := H; have A3 := ak A30; clear A30; by_cases c4 : t210 = true
  ·subst c4
   have H1 : ((spec_l1Of.f (wrap64 (a0 + a1))).bind fun bt211 => (some (bt211.1, bt211.2))) = some (r1, r2) := by rw [if_pos rfl] at H; exact H
   clear H; have H := H1; clear H1; replace H := Option.bind_eq_some_iff.mp H; obtain ⟨⟨t211, t212⟩, A50, H⟩ := H; replace H : (some (t211, t212)) = some (r1, r2) := H; have A5 := ak A50; clear A50; simp only [Option.some.injEq, Prod.mk.injEq] at H; obtain ⟨rfl, rfl⟩ := H; go_enter Tryd.func13, Tryd.ntmps13
   go_wp2_with (first | ((with_reducible refine gate_dst (N := 4) rfl ?_); refine box_event ?hg (N := 4) ?hd (cs := #[.int .i64 0, .int .i64 0]) (t := 23) ?hr ?_; (case hd => rfl); (case hg => rfl); (case hr => first | (go_simp; done) | (go_simp; rfl)); intro gb209 hg w6 hbox hb; have n0_ := ak (below_step d5_1 hb); have n1_ := ak (hbox); have n2_ := ak ((d5_6 : w.heap.size ≤ gb209)); have n3_ := ak ((d5_6 : w.heap.size ≤ gb209)); clear HB; have HB := n0_; have BK209 := n1_; have GW209 := n2_; have GE209 := n3_; clear n0_ n1_ n2_ n3_ hb hbox hg) | ((with_reducible refine gate_callee (f := 27) rfl ?_); refine goesL_ (some 7) rfl rfl Tryd.func27 (by kernel_rfl) rfl #[.int .i64 a0, .int .i64 a1] rfl d5_2 ?_; (with_reducible refine (spec_l1Two.calls a0 a1 true _ A3.out).mono ?_); rintro e w' ⟨rfl, ⟨nd, rfl⟩⟩; refine ⟨_, rfl, ?_⟩; (try (rw [drewN_self w6]; generalize hq_ : World.drewN w6 _ = w6; have n0_ : Aside0 (w6.heap[gb209]? = some (.cells #[.int .i64 0, .int .i64 0] 23 (0, 0))) := ⟨by rw [← hq_]; exact (by (with_reducible repeat first | apply b5N | apply b5D | apply b5L); exact BK209.out)⟩; have n1_ : Aside0 (Below w.heap.size w w6) := ⟨by rw [← hq_]; exact d5_5⟩; clear BK209 HB hq_; have BK209 := n0_; have HB := n1_; clear n0_ n1_))) | ((with_reducible refine gate_callee (f := 28) rfl ?_); refine goesL_ (some 13) rfl rfl Tryd.func28 (by kernel_rfl) rfl #[.int .i64 (wrap64 (a0 + a1))] rfl d5_2 ?_; (with_reducible refine (spec_l1Of.calls (wrap64 (a0 + a1)) t211 t212 _ A5.out).mono ?_); rintro e w7 ⟨rfl, hb⟩; refine ⟨_, rfl, ?_⟩; have n0_ := ak (blk_below (g := gb209) (o := .cells #[.int .i64 0, .int .i64 0] 23 (0, 0)) (by (with_reducible repeat first | apply b5N | apply b5D | apply b5L); exact BK209.out) hb); have n1_ := ak (below_step d5_5 hb); clear BK209 HB; have BK209 := n0_; have HB := n1_; clear n0_ n1_; (try clear hb); have hcz8_0 : w7.cell? ⟨gb209, 0, none⟩ = some (.int .i64 0) := (blk_cell BK209.out 0).trans rfl; have hcz8_1 : w7.cell? ⟨gb209, 1, none⟩ = some (.int .i64 0) := (blk_cell BK209.out 1).trans rfl; have hfz8_0 := blk_frozen BK209.out 0; have hfz8_1 := blk_frozen BK209.out 1))
   refine bodyPost_ret (results_cell_row rfl _ _ gb209 23 #[.int .i64 t211, .int .i64 t212] (0, 0) _ rfl (by (with_reducible repeat first | apply b5N | apply b5D | apply b5L); refine blk_put (cs := #[.int .i64 t211, .int .i64 0]) ?_ 1 _ rfl; (with_reducible repeat first | apply b5N | apply b5D | apply b5L); refine blk_put (cs := #[.int .i64 0, .int .i64 0]) ?_ 0 _ rfl; (with_reducible repeat first | apply b5N | apply b5D | apply b5L); exact BK209.out) Tryd.underlying23 rfl (by kernel_rfl)) rfl ?_; exact ⟨c5_2, by repeat (first | (with_reducible first | exact HB.out | apply below_alloc | apply pw_below_drewN | apply below_drew1 | refine below_set ?_ GE209.out) | exact HB.out)⟩
  ·replace c4 := Bool.eq_false_iff.mpr c4
   subst c4
   have H1 : (some (3, 0)) = some (r1, r2) := by rw [if_neg (show ¬ (false = true) by decide)] at H; exact H
   clear H; have H := H1; clear H1; simp only [Option.some.injEq, Prod.mk.injEq] at H; obtain ⟨rfl, rfl⟩ := H; go_enter Tryd.func13, Tryd.ntmps13
   go_wp2_with (first | ((with_reducible refine gate_dst (N := 4) rfl ?_); refine box_event ?hg (N := 4) ?hd (cs := #[.int .i64 0, .int .i64 0]) (t := 23) ?hr ?_; (case hd => rfl); (case hg => rfl); (case hr => first | (go_simp; done) | (go_simp; rfl)); intro gb209 hg w9 hbox hb; have n0_ := ak (below_step d5_1 hb); have n1_ := ak (hbox); have n2_ := ak ((d5_6 : w.heap.size ≤ gb209)); have n3_ := ak ((d5_6 : w.heap.size ≤ gb209)); clear HB; have HB := n0_; have BK209 := n1_; have GW209 := n2_; have GE209 := n3_; clear n0_ n1_ n2_ n3_ hb hbox hg) | ((with_reducible refine gate_callee (f := 27) rfl ?_); refine goesL_ (some 7) rfl rfl Tryd.func27 (by kernel_rfl) rfl #[.int .i64 a0, .int .i64 a1] rfl d5_2 ?_; (with_reducible refine (spec_l1Two.calls a0 a1 false _ A3.out).mono ?_); rintro e w' ⟨rfl, ⟨nd, rfl⟩⟩; refine ⟨_, rfl, ?_⟩; (try (rw [drewN_self w9]; generalize hq_ : World.drewN w9 _ = w9; have n0_ : Aside0 (w9.heap[gb209]? = some (.cells #[.int .i64 0, .int .i64 0] 23 (0, 0))) := ⟨by rw [← hq_]; exact (by (with_reducible repeat first | apply b5N | apply b5D | apply b5L); exact BK209.out)⟩; have n1_ : Aside0 (Below w.heap.size w w9) := ⟨by rw [← hq_]; exact d5_5⟩; clear BK209 HB hq_; have BK209 := n0_; have HB := n1_; clear n0_ n1_)); have hcz10_0 : w9.cell? ⟨gb209, 0, none⟩ = some (.int .i64 0) := (blk_cell BK209.out 0).trans rfl; have hcz10_1 : w9.cell? ⟨gb209, 1, none⟩ = some (.int .i64 0) := (blk_cell BK209.out 1).trans rfl; have hfz10_0 := blk_frozen BK209.out 0; have hfz10_1 := blk_frozen BK209.out 1))
   refine bodyPost_ret (results_cell_row rfl _ _ gb209 23 #[.int .i64 3, .int .i64 0] (0, 0) _ rfl (by (with_reducible repeat first | apply b5N | apply b5D | apply b5L); refine blk_put (cs := #[.int .i64 3, .int .i64 0]) ?_ 1 _ rfl; (with_reducible repeat first | apply b5N | apply b5D | apply b5L); refine blk_put (cs := #[.int .i64 0, .int .i64 0]) ?_ 0 _ rfl; (with_reducible repeat first | apply b5N | apply b5D | apply b5L); exact BK209.out) Tryd.underlying23 rfl (by kernel_rfl)) rfl ?_; exact ⟨c5_2, by repeat (first | (with_reducible first | exact HB.out | apply below_alloc | apply pw_below_drewN | apply below_drew1 | refine below_set ?_ GE209.out) | exact HB.out)⟩

/-! ### spec_NumFault: function 15 -/
def spec_NumFault.f (a0 : Int) : Option (Int) := (spec_l1Num.f a0).bind fun t213 => (if t213 = true then (some 0) else (some 3))
set_option maxHeartbeats 8000000 in
set_option maxRecDepth 100000 in
theorem spec_NumFault.calls (a0 : Int) (r : Int) (w : World) (h : spec_NumFault.f a0 = some r) :
    Calls Tryd.prog 15 #[.int .i64 a0] w fun e w' => e = .returned (.int .i64 r) ∧ Drawn0 w w' := by
  have H : ((spec_l1Num.f a0).bind fun t213 => (if t213 = true then (some 0) else (some 3))) = some r := h; clear h; replace H := Option.bind_eq_some_iff.mp H; obtain ⟨t213, A20, H⟩ := H; replace H : (if t213 = true then (some 0) else (some 3)) = some r := H; have A2 := ak A20; clear A20; by_cases c3 : t213 = true
  ·subst c3
   have H1 : (some 0) = some r := by rw [if_pos rfl] at H; exact H
   clear H; have H := H1; clear H1; obtain rfl := Option.some.inj H; go_enter Tryd.func15, Tryd.ntmps15; go_wp2_with (first | ((with_reducible refine gate_callee (f := 30) rfl ?_); refine goesL_ (some 4) rfl rfl Tryd.func30 (by kernel_rfl) rfl #[.int .i64 a0] rfl d5_2 ?_; (with_reducible refine (spec_l1Num.calls a0 true _ A2.out).mono ?_); rintro e w' ⟨rfl, ⟨nd, rfl⟩⟩; refine ⟨_, rfl, ?_⟩)); go_ret; exact ⟨by first | rfl | (simp; done) | (simp [*]; done) | (simp [ne_nil_b, eq_nil_b]; done), by repeat (first | exact Drawn0.refl _ | apply Drawn0.step)⟩
  ·replace c3 := Bool.eq_false_iff.mpr c3
   subst c3
   have H1 : (some 3) = some r := by rw [if_neg (show ¬ (false = true) by decide)] at H; exact H
   clear H; have H := H1; clear H1; obtain rfl := Option.some.inj H; go_enter Tryd.func15, Tryd.ntmps15; go_wp2_with (first | ((with_reducible refine gate_callee (f := 30) rfl ?_); refine goesL_ (some 4) rfl rfl Tryd.func30 (by kernel_rfl) rfl #[.int .i64 a0] rfl d5_2 ?_; (with_reducible refine (spec_l1Num.calls a0 false _ A2.out).mono ?_); rintro e w' ⟨rfl, ⟨nd, rfl⟩⟩; refine ⟨_, rfl, ?_⟩)); go_ret; exact ⟨by first | rfl | (simp; done) | (simp [*]; done) | (simp [ne_nil_b, eq_nil_b]; done), by repeat (first | exact Drawn0.refl _ | apply Drawn0.step)⟩

/-! ### impl_SubNum_1: function 31 -/
def impl_SubNum_1.f (a0 : Int) (a1 : Int) : Option (Int × Bool) := some (wrap64 (a0 - a1), true)
set_option maxHeartbeats 8000000 in
set_option maxRecDepth 100000 in
theorem impl_SubNum_1.calls (a0 : Int) (a1 : Int) (r1 : Int) (r2 : Bool) (w : World) (h : impl_SubNum_1.f a0 a1 = some (r1, r2)) :
    Calls Tryd.prog 31 #[.int .i64 a0, .int .i64 a1] w fun e w' => e = .returned (.tuple #[.int .i64 r1, .bool r2]) ∧ Drawn0 w w' := by
  have H : (some (wrap64 (a0 - a1), true)) = some (r1, r2) := h; clear h; simp only [Option.some.injEq, Prod.mk.injEq] at H; obtain ⟨rfl, rfl⟩ := H; go_enter Tryd.func31, Tryd.ntmps31; go_wp2; go_ret2; exact ⟨by first | rfl | (simp; done) | (simp [*]; done) | (simp [ne_nil_b, eq_nil_b]; done), by repeat (first | exact Drawn0.refl _ | apply Drawn0.step)⟩

/-! ### impl_calculated__impl_SubNum_1: function 25 -/
def impl_calculated__impl_SubNum_1.j0 : Nat → Int → Int → Bool → Option (Int × Int)
  | 0, _, _, _ => none
  | k + 1, x0, x1, x16 => if x16 = true then (some (3, 0)) else ((impl_SubNum_1.f x0 x1).bind fun bt221 => (if bt221.2 = true then ((impl_NumFault.f bt221.1).bind fun t223 => (if t223 = 0 then (some (0, bt221.1)) else (some (7, 0)))) else (some (7, 0))))
def impl_calculated__impl_SubNum_1.f (k : Nat) (a0 : Int) (a1 : Int)  : Option (Int × Int) := (impl_NumFault.f a0).bind fun t219 => (if t219 = 0 then ((impl_NumFault.f a1).bind fun t220 => (impl_calculated__impl_SubNum_1.j0 k a0 a1 (t220 != 0))) else (impl_calculated__impl_SubNum_1.j0 k a0 a1 true))
theorem impl_calculated__impl_SubNum_1.mono_l : ∀ k, (∀ y0 y1 y2, LeO (impl_calculated__impl_SubNum_1.j0 k y0 y1 y2) (impl_calculated__impl_SubNum_1.j0 (k + 1) y0 y1 y2))
  | 0 => fun _ _ _ r h => by simp [impl_calculated__impl_SubNum_1.j0] at h
  | k + 1 => by
    have ih0 := impl_calculated__impl_SubNum_1.mono_l k
    · intro y0 y1 y2
      unfold impl_calculated__impl_SubNum_1.j0
      repeat' first
      | (with_reducible exact ih0 _ _ _)
      | (with_reducible exact LeO.refl _)
      | (with_reducible exact LeO.none _)
      | (with_reducible refine LeO.ite ?_ ?_)
      | (with_reducible refine LeO.bind ?_ (fun _ => ?_))
      | exact ih0 _ _ _
      | exact LeO.none _
      | refine LeO.ite ?_ ?_
      | refine LeO.bind ?_ (fun _ => ?_)
theorem impl_calculated__impl_SubNum_1.mono : ∀ a0 a1 k, LeO (impl_calculated__impl_SubNum_1.f k a0 a1) (impl_calculated__impl_SubNum_1.f (k + 1) a0 a1) := by
  intro a0 a1 k; have ih0 := impl_calculated__impl_SubNum_1.mono_l k; unfold impl_calculated__impl_SubNum_1.f
  repeat' first
      | (with_reducible exact ih0 _ _ _)
      | (with_reducible exact LeO.refl _)
      | (with_reducible exact LeO.none _)
      | (with_reducible refine LeO.ite ?_ ?_)
      | (with_reducible refine LeO.bind ?_ (fun _ => ?_))
      | exact ih0 _ _ _
      | exact LeO.none _
      | refine LeO.ite ?_ ?_
      | refine LeO.bind ?_ (fun _ => ?_)
set_option maxHeartbeats 8000000 in
set_option maxRecDepth 100000 in
theorem impl_calculated__impl_SubNum_1.calls (k : Nat) (a0 : Int) (a1 : Int)  (r1 : Int) (r2 : Int) (w : World) (h : impl_calculated__impl_SubNum_1.f k a0 a1 = some (r1, r2)) :
    Calls Tryd.prog 25 #[.int .i64 a0, .int .i64 a1, .func (.func 31) #[] #[]] w fun e w' => e = .returned (.agg #[.int .i64 r1, .int .i64 r2]) ∧ Below w.heap.size w w' := by
  have hu23 := Tryd.underlying23; have HB := ak (Below.refl w.heap.size w); have H : ((impl_NumFault.f a0).bind fun t219 => (if t219 = 0 then ((impl_NumFault.f a1).bind fun t220 => (impl_calculated__impl_SubNum_1.j0 k a0 a1 (t220 != 0))) else (impl_calculated__impl_SubNum_1.j0 k a0 a1 true))) = some (r1, r2) := h; clear h; have HC4 := ak H; clear H; go_enter Tryd.func25, Tryd.ntmps25; go_upto_region 1 with (first | ((with_reducible refine gate_dst (N := 6) rfl ?_); refine box_event ?hg (N := 6) ?hd (cs := #[.int .i64 0, .int .i64 0]) (t := 23) ?hr ?_; (case hd => rfl); (case hg => rfl); (case hr => first | (go_simp; done) | (go_simp; rfl)); intro gb218 hg w5 hbox hb; have n0_ := ak (below_step d5_1 hb); have n1_ := ak (hbox); have n2_ := ak ((d5_6 : w.heap.size ≤ gb218)); have n3_ := ak ((d5_6 : w.heap.size ≤ gb218)); clear HB; have HB := n0_; have BK218 := n1_; have GW218 := n2_; have GE218 := n3_; clear n0_ n1_ n2_ n3_ hb hbox hg))
  (try simp only [Act.put, List.setIfInBounds_toArray, List.set_cons_zero, List.set_cons_succ])
  go_cut [16] (fun v16 wc => ∃ (kq : Nat) (x16_3 : Bool), v16 = .bool x16_3 ∧ Aside0 (impl_calculated__impl_SubNum_1.j0 kq a0 a1 x16_3 = some (r1, r2)) ∧ Aside0 (kq ≤ k) ∧ Aside0 (wc.heap[gb218]? = some (.cells #[.int .i64 0, .int .i64 0] 23 (0, 0))) ∧ Aside0 (Below w.heap.size w wc))
  case first =>
   have H := HC4.out; clear HC4; replace H := Option.bind_eq_some_iff.mp H; obtain ⟨t219, A60, H⟩ := H; replace H : (if t219 = 0 then ((impl_NumFault.f a1).bind fun t220 => (impl_calculated__impl_SubNum_1.j0 k a0 a1 (t220 != 0))) else (impl_calculated__impl_SubNum_1.j0 k a0 a1 true)) = some (r1, r2) := H; have A6 := ak A60; clear A60; by_cases c7 : t219 = 0
   ·rw [if_pos c7] at H
    have c7b0 : (t219 == 0) = true := beq_iff_eq.mpr c7; have c7b1 : (t219 != 0) = false := bne_eq_false_iff_eq.mpr c7; clear c7
    (first | rw [c7b0] | (simp only [i64_w, i32_w]; rw [c7b0]) | skip)
    replace H := Option.bind_eq_some_iff.mp H; obtain ⟨t220, A80, H⟩ := H; replace H : (impl_calculated__impl_SubNum_1.j0 k a0 a1 (t220 != 0)) = some (r1, r2) := H; have A8 := ak A80; clear A80; have H' := ak H; clear H; go_wp2_with (first | ((with_reducible refine gate_callee (f := 14) rfl ?_); refine goesL_ (some 10) rfl rfl Tryd.func14 (by kernel_rfl) rfl #[.int .i64 a0] rfl d5_2 ?_; (with_reducible refine (impl_NumFault.calls a0 t219 _ A6.out).mono ?_); rintro e w' ⟨rfl, ⟨nd, rfl⟩⟩; refine ⟨_, rfl, ?_⟩) | (go_at_call 14; (with_reducible refine (impl_NumFault.calls a1 t220 _ A8.out).mono ?_); rintro e w' ⟨rfl, ⟨nd, rfl⟩⟩)); go_meet
    case rel => exact ⟨_, ((t220 != 0)), (by first | rfl | (simp; done) | (simp [*]; done) | (simp [ne_nil_b, eq_nil_b]; done)), H', ⟨by first | omega | exact Nat.le_refl _⟩, ⟨by (with_reducible repeat first | apply b5N | apply b5D | apply b5L); exact BK218.out⟩, ⟨c5_1⟩⟩
   ·rw [if_neg c7] at H
    have c7b0 : (t219 == 0) = false := beq_eq_false_iff_ne.mpr c7; have c7b1 : (t219 != 0) = true := bne_iff_ne.mpr c7
    (first | rw [c7b0] | (simp only [i64_w, i32_w]; rw [c7b0]) | skip)
    have H' := ak H; clear H; go_wp2_with (first | ((with_reducible refine gate_callee (f := 14) rfl ?_); refine goesL_ (some 10) rfl rfl Tryd.func14 (by kernel_rfl) rfl #[.int .i64 a0] rfl d5_2 ?_; (with_reducible refine (impl_NumFault.calls a0 t219 _ A6.out).mono ?_); rintro e w' ⟨rfl, ⟨nd, rfl⟩⟩; refine ⟨_, rfl, ?_⟩)); go_meet
    case rel => exact ⟨_, (true), (by first | rfl | (simp; done) | (simp [*]; done) | (simp [ne_nil_b, eq_nil_b]; done)), H', ⟨by first | omega | exact Nat.le_refl _⟩, ⟨by (with_reducible repeat first | apply b5N | apply b5D | apply b5L); exact BK218.out⟩, ⟨c5_1⟩⟩
  case rest =>
   clear HC4
   try clear c2
   obtain ⟨kq, x16_3, rfl, HA, HJ3, BK218, HB⟩ := hcut
   cases kq with
   | zero => exact absurd HA.out (by simp [impl_calculated__impl_SubNum_1.j0])
   | succ kj3 =>
    have H := HA.out; clear HA; simp only [impl_calculated__impl_SubNum_1.j0] at H; by_cases c9 : x16_3 = true
    ·subst c9
     have H1 : (some (3, 0)) = some (r1, r2) := by rw [if_pos rfl] at H; exact H
     clear H; have H := H1; clear H1; simp only [Option.some.injEq, Prod.mk.injEq] at H; obtain ⟨rfl, rfl⟩ := H; have hcz10_0 : wc.cell? ⟨gb218, 0, none⟩ = some (.int .i64 0) := (blk_cell BK218.out 0).trans rfl; have hcz10_1 : wc.cell? ⟨gb218, 1, none⟩ = some (.int .i64 0) := (blk_cell BK218.out 1).trans rfl; have hfz10_0 := blk_frozen BK218.out 0; have hfz10_1 := blk_frozen BK218.out 1; go_wp2; refine bodyPost_ret (results_cell_row rfl _ _ gb218 23 #[.int .i64 3, .int .i64 0] (0, 0) _ rfl (by (with_reducible repeat first | apply b5N | apply b5D | apply b5L); refine blk_put (cs := #[.int .i64 3, .int .i64 0]) ?_ 1 _ rfl; (with_reducible repeat first | apply b5N | apply b5D | apply b5L); refine blk_put (cs := #[.int .i64 0, .int .i64 0]) ?_ 0 _ rfl; (with_reducible repeat first | apply b5N | apply b5D | apply b5L); exact BK218.out) Tryd.underlying23 rfl (by kernel_rfl)) rfl ?_; exact ⟨c5_2, c5_1⟩
    ·replace c9 := Bool.eq_false_iff.mpr c9
     subst c9
     have H1 : ((impl_SubNum_1.f a0 a1).bind fun bt221 => (if bt221.2 = true then ((impl_NumFault.f bt221.1).bind fun t223 => (if t223 = 0 then (some (0, bt221.1)) else (some (7, 0)))) else (some (7, 0)))) = some (r1, r2) := by rw [if_neg (show ¬ (false = true) by decide)] at H; exact H
     clear H; have H := H1; clear H1; replace H := Option.bind_eq_some_iff.mp H; obtain ⟨⟨t221, t222⟩, A110, H⟩ := H; replace H : (if t222 = true then ((impl_NumFault.f t221).bind fun t223 => (if t223 = 0 then (some (0, t221)) else (some (7, 0)))) else (some (7, 0))) = some (r1, r2) := H; have A11 := ak A110; clear A110; by_cases c12 : t222 = true
     ·subst c12
      have H1 : ((impl_NumFault.f t221).bind fun t223 => (if t223 = 0 then (some (0, t221)) else (some (7, 0)))) = some (r1, r2) := by rw [if_pos rfl] at H; exact H
      clear H; have H := H1; clear H1; replace H := Option.bind_eq_some_iff.mp H; obtain ⟨t223, A130, H⟩ := H; replace H : (if t223 = 0 then (some (0, t221)) else (some (7, 0))) = some (r1, r2) := H; have A13 := ak A130; clear A130; by_cases c14 : t223 = 0
      ·rw [if_pos c14] at H
       have c14b0 : (t223 == 0) = true := beq_iff_eq.mpr c14; have c14b1 : (t223 != 0) = false := bne_eq_false_iff_eq.mpr c14; clear c14; simp only [Option.some.injEq, Prod.mk.injEq] at H; obtain ⟨rfl, rfl⟩ := H; go_wp2_with (first | (go_at_call 31; (with_reducible refine (impl_SubNum_1.calls a0 a1 t221 true _ A11.out).mono ?_); rintro e w' ⟨rfl, ⟨nd, rfl⟩⟩; (try (rw [drewN_self wc]; generalize hq_ : World.drewN wc _ = wc; have n0_ : Aside0 (wc.heap[gb218]? = some (.cells #[.int .i64 0, .int .i64 0] 23 (0, 0))) := ⟨by rw [← hq_]; exact d5_4⟩; have n1_ : Aside0 (Below w.heap.size w wc) := ⟨by rw [← hq_]; exact d5_3⟩; clear BK218 HB hq_; have BK218 := n0_; have HB := n1_; clear n0_ n1_))) | (go_at_call 14; (with_reducible refine (impl_NumFault.calls t221 t223 _ A13.out).mono ?_); rintro e w' ⟨rfl, ⟨nd, rfl⟩⟩; (try (rw [drewN_self wc]; generalize hq_ : World.drewN wc _ = wc; have n0_ : Aside0 (wc.heap[gb218]? = some (.cells #[.int .i64 0, .int .i64 0] 23 (0, 0))) := ⟨by rw [← hq_]; exact d5_4⟩; have n1_ : Aside0 (Below w.heap.size w wc) := ⟨by rw [← hq_]; exact d5_3⟩; clear BK218 HB hq_; have BK218 := n0_; have HB := n1_; clear n0_ n1_)); have hcz15_0 : wc.cell? ⟨gb218, 0, none⟩ = some (.int .i64 0) := (blk_cell BK218.out 0).trans rfl; have hcz15_1 : wc.cell? ⟨gb218, 1, none⟩ = some (.int .i64 0) := (blk_cell BK218.out 1).trans rfl; have hfz15_0 := blk_frozen BK218.out 0; have hfz15_1 := blk_frozen BK218.out 1))
       refine bodyPost_ret (results_cell_row rfl _ _ gb218 23 #[.int .i64 0, .int .i64 t221] (0, 0) _ rfl (by (with_reducible repeat first | apply b5N | apply b5D | apply b5L); refine blk_put (cs := #[.int .i64 0, .int .i64 0]) ?_ 1 _ rfl; (with_reducible repeat first | apply b5N | apply b5D | apply b5L); refine blk_put (cs := #[.int .i64 0, .int .i64 0]) ?_ 0 _ rfl; (with_reducible repeat first | apply b5N | apply b5D | apply b5L); exact BK218.out) Tryd.underlying23 rfl (by kernel_rfl)) rfl ?_; exact ⟨c5_2, c5_1⟩
      ·rw [if_neg c14] at H
       have c14b0 : (t223 == 0) = false := beq_eq_false_iff_ne.mpr c14; have c14b1 : (t223 != 0) = true := bne_iff_ne.mpr c14; simp only [Option.some.injEq, Prod.mk.injEq] at H; obtain ⟨rfl, rfl⟩ := H; go_wp2_with (first | (go_at_call 31; (with_reducible refine (impl_SubNum_1.calls a0 a1 t221 true _ A11.out).mono ?_); rintro e w' ⟨rfl, ⟨nd, rfl⟩⟩; (try (rw [drewN_self wc]; generalize hq_ : World.drewN wc _ = wc; have n0_ : Aside0 (wc.heap[gb218]? = some (.cells #[.int .i64 0, .int .i64 0] 23 (0, 0))) := ⟨by rw [← hq_]; exact d5_4⟩; have n1_ : Aside0 (Below w.heap.size w wc) := ⟨by rw [← hq_]; exact d5_3⟩; clear BK218 HB hq_; have BK218 := n0_; have HB := n1_; clear n0_ n1_))) | (go_at_call 14; (with_reducible refine (impl_NumFault.calls t221 t223 _ A13.out).mono ?_); rintro e w' ⟨rfl, ⟨nd, rfl⟩⟩; (try (rw [drewN_self wc]; generalize hq_ : World.drewN wc _ = wc; have n0_ : Aside0 (wc.heap[gb218]? = some (.cells #[.int .i64 0, .int .i64 0] 23 (0, 0))) := ⟨by rw [← hq_]; exact d5_4⟩; have n1_ : Aside0 (Below w.heap.size w wc) := ⟨by rw [← hq_]; exact d5_3⟩; clear BK218 HB hq_; have BK218 := n0_; have HB := n1_; clear n0_ n1_)); have hcz16_0 : wc.cell? ⟨gb218, 0, none⟩ = some (.int .i64 0) := (blk_cell BK218.out 0).trans rfl; have hcz16_1 : wc.cell? ⟨gb218, 1, none⟩ = some (.int .i64 0) := (blk_cell BK218.out 1).trans rfl; have hfz16_0 := blk_frozen BK218.out 0; have hfz16_1 := blk_frozen BK218.out 1))
       refine bodyPost_ret (results_cell_row rfl _ _ gb218 23 #[.int .i64 7, .int .i64 0] (0, 0) _ rfl (by (with_reducible repeat first | apply b5N | apply b5D | apply b5L); refine blk_put (cs := #[.int .i64 7, .int .i64 0]) ?_ 1 _ rfl; (with_reducible repeat first | apply b5N | apply b5D | apply b5L); refine blk_put (cs := #[.int .i64 0, .int .i64 0]) ?_ 0 _ rfl; (with_reducible repeat first | apply b5N | apply b5D | apply b5L); exact BK218.out) Tryd.underlying23 rfl (by kernel_rfl)) rfl ?_; exact ⟨c5_2, c5_1⟩
     ·replace c12 := Bool.eq_false_iff.mpr c12
      subst c12
      have H1 : (some (7, 0)) = some (r1, r2) := by rw [if_neg (show ¬ (false = true) by decide)] at H; exact H
      clear H; have H := H1; clear H1; simp only [Option.some.injEq, Prod.mk.injEq] at H; obtain ⟨rfl, rfl⟩ := H; go_wp2_with (first | (go_at_call 31; (with_reducible refine (impl_SubNum_1.calls a0 a1 t221 false _ A11.out).mono ?_); rintro e w' ⟨rfl, ⟨nd, rfl⟩⟩; (try (rw [drewN_self wc]; generalize hq_ : World.drewN wc _ = wc; have n0_ : Aside0 (wc.heap[gb218]? = some (.cells #[.int .i64 0, .int .i64 0] 23 (0, 0))) := ⟨by rw [← hq_]; exact d5_4⟩; have n1_ : Aside0 (Below w.heap.size w wc) := ⟨by rw [← hq_]; exact d5_3⟩; clear BK218 HB hq_; have BK218 := n0_; have HB := n1_; clear n0_ n1_)); have hcz17_0 : wc.cell? ⟨gb218, 0, none⟩ = some (.int .i64 0) := (blk_cell BK218.out 0).trans rfl; have hcz17_1 : wc.cell? ⟨gb218, 1, none⟩ = some (.int .i64 0) := (blk_cell BK218.out 1).trans rfl; have hfz17_0 := blk_frozen BK218.out 0; have hfz17_1 := blk_frozen BK218.out 1)); refine bodyPost_ret (results_cell_row rfl _ _ gb218 23 #[.int .i64 7, .int .i64 0] (0, 0) _ rfl (by (with_reducible repeat first | apply b5N | apply b5D | apply b5L); refine blk_put (cs := #[.int .i64 7, .int .i64 0]) ?_ 1 _ rfl; (with_reducible repeat first | apply b5N | apply b5D | apply b5L); refine blk_put (cs := #[.int .i64 0, .int .i64 0]) ?_ 0 _ rfl; (with_reducible repeat first | apply b5N | apply b5D | apply b5L); exact BK218.out) Tryd.underlying23 rfl (by kernel_rfl)) rfl ?_
      exact ⟨c5_2, c5_1⟩

/-! ### impl_SubNum: function 16 -/
def impl_SubNum.f (k : Nat) (a0 : Int) (a1 : Int) : Option (Int × Int) := (impl_calculated__impl_SubNum_1.f k a0 a1).bind fun bt225 => (some (bt225.1, bt225.2))
theorem impl_SubNum.mono : ∀ a0 a1 k, LeO (impl_SubNum.f k a0 a1) (impl_SubNum.f (k + 1) a0 a1) := by
  intro a0 a1 k; unfold impl_SubNum.f
  repeat' first
      | (with_reducible exact impl_calculated__impl_SubNum_1.mono _ _ _)
      | (with_reducible exact LeO.refl _)
      | (with_reducible exact LeO.none _)
      | (with_reducible refine LeO.ite ?_ ?_)
      | (with_reducible refine LeO.bind ?_ (fun _ => ?_))
      | exact impl_calculated__impl_SubNum_1.mono _ _ _
      | exact LeO.none _
      | refine LeO.ite ?_ ?_
      | refine LeO.bind ?_ (fun _ => ?_)
set_option maxHeartbeats 8000000 in
set_option maxRecDepth 100000 in
theorem impl_SubNum.calls (k : Nat) (a0 : Int) (a1 : Int) (r1 : Int) (r2 : Int) (w : World) (h : impl_SubNum.f k a0 a1 = some (r1, r2)) :
    Calls Tryd.prog 16 #[.int .i64 a0, .int .i64 a1] w fun e w' => e = .returned (.agg #[.int .i64 r1, .int .i64 r2]) ∧ Below w.heap.size w w' := by
  have hu23 := Tryd.underlying23; have HB := ak (Below.refl w.heap.size w); have H : ((impl_calculated__impl_SubNum_1.f k a0 a1).bind fun bt225 => (some (bt225.1, bt225.2))) = some (r1, r2) := h; clear h; replace H := Option.bind_eq_some_iff.mp H; obtain ⟨⟨t225, t226⟩, A30, H⟩ := H; replace H : (some (t225, t226)) = some (r1, r2) := H; have A3 := ak A30; clear A30; simp only [Option.some.injEq, Prod.mk.injEq] at H; obtain ⟨rfl, rfl⟩ := H; go_enter Tryd.func16, Tryd.ntmps16
  go_wp2_with (first | ((with_reducible refine gate_dst (N := 4) rfl ?_); refine box_event ?hg (N := 4) ?hd (cs := #[.int .i64 0, .int .i64 0]) (t := 23) ?hr ?_; (case hd => rfl); (case hg => rfl); (case hr => first | (go_simp; done) | (go_simp; rfl)); intro gb224 hg w4 hbox hb; have n0_ := ak (below_step d5_1 hb); have n1_ := ak (hbox); have n2_ := ak ((d5_6 : w.heap.size ≤ gb224)); have n3_ := ak ((d5_6 : w.heap.size ≤ gb224)); clear HB; have HB := n0_; have BK224 := n1_; have GW224 := n2_; have GE224 := n3_; clear n0_ n1_ n2_ n3_ hb hbox hg) | (go_at_call 25; (with_reducible refine (impl_calculated__impl_SubNum_1.calls k a0 a1  t225 t226 _ A3.out).mono ?_); rintro e w5 ⟨rfl, hb⟩; have n0_ := ak (blk_below (g := gb224) (o := .cells #[.int .i64 0, .int .i64 0] 23 (0, 0)) (by (with_reducible repeat first | apply b5N | apply b5D | apply b5L); exact BK224.out) hb); have n1_ := ak (below_step (by repeat (first | (with_reducible first | exact HB.out | apply below_alloc | apply pw_below_drewN | apply below_drew1 | refine below_set ?_ GE224.out) | exact HB.out)) hb); clear BK224 HB; have BK224 := n0_; have HB := n1_; clear n0_ n1_; (try clear hb); have hcz6_0 : w5.cell? ⟨gb224, 0, none⟩ = some (.int .i64 0) := (blk_cell BK224.out 0).trans rfl; have hcz6_1 : w5.cell? ⟨gb224, 1, none⟩ = some (.int .i64 0) := (blk_cell BK224.out 1).trans rfl; have hfz6_0 := blk_frozen BK224.out 0; have hfz6_1 := blk_frozen BK224.out 1))
  refine bodyPost_ret (results_cell_row rfl _ _ gb224 23 #[.int .i64 t225, .int .i64 t226] (0, 0) _ rfl (by (with_reducible repeat first | apply b5N | apply b5D | apply b5L); refine blk_put (cs := #[.int .i64 t225, .int .i64 0]) ?_ 1 _ rfl; (with_reducible repeat first | apply b5N | apply b5D | apply b5L); refine blk_put (cs := #[.int .i64 0, .int .i64 0]) ?_ 0 _ rfl; (with_reducible repeat first | apply b5N | apply b5D | apply b5L); exact BK224.out) Tryd.underlying23 rfl (by kernel_rfl)) rfl ?_; exact ⟨c5_2, by repeat (first | (with_reducible first | exact HB.out | apply below_alloc | apply pw_below_drewN | apply below_drew1 | refine below_set ?_ GE224.out) | exact HB.out)⟩

end Go.Proofs.YteomhecieedcnaaDoor.A
