/- Walks of the program's functions: each Go function's answer as a plain Lean function, and that the call comes to it. Written by a program. Conditions: those in each theorem's own head. -/
import Derived.Test.YteiokhfikbndbaaGreatDoorA0
import Derived.Test.YteiokhfikbndbaaGreatDoorA1
import Derived.Test.YteiokhfikbndbaaGreatDoorA2
import Derived.Test.YteiokhfikbndbaaGreatDoorA3
import Derived.Test.YteiokhfikbndbaaGreatDoorA6
import Derived.Test.YteiokhfikbndbaaGreatDoorA7
import Derived.Test.YteiokhfikbndbaaGreatDoorA8
import Derived.Test.YteiokhfikbndbaaGreatDoorA9
namespace Go.Proofs.YteiokhfikbndbaaGreatDoor.A
open Go.RowKit Go.Proofs.YteiokhfikbndbaaGreatDoorW.PrintWords Go.Proofs.YteiokhfikbndbaaGreatDoorW.PrintLast Go.Proofs.YteiokhfikbndbaaGreatDoorW.PrintMore
attribute [local go_sem] max2_int min2_int max_two min_two max_three min_three max_four min_four   -- for this text's walks alone
set_option linter.unusedVariables false
set_option linter.unusedSimpArgs false

attribute [local go_sem high] eqA37
theorem b10N {w : World} {g : Nat} {o : Obj} (h : w.heap[g]? = some o) (n : Nat) : (w.drewN n).heap[g]? = some o := h
theorem b10D {w : World} {g : Nat} {o : Obj} (h : w.heap[g]? = some o) : (w.drew).heap[g]? = some o := h
theorem b10L {w : World} {g : Nat} {o : Obj} (h : w.heap[g]? = some o) (o' : Obj) : (w.alloc o').heap[g]? = some o := blk_alloc h o'
theorem d10_1 {p : Prop} (h : p := by repeat (first | (with_reducible first | exact HB.out | apply below_alloc | apply pw_below_drewN | apply below_drew1 | refine below_set ?_ GE349.out) | exact HB.out)) : p := h
theorem d10_2 {p : Prop} (h : p := by (try simp only [List.map_toArray, List.map_cons, List.map_nil]); first | done | rfl | (simp only [List.length_drop, List.length_take]; rfl)) : p := h
theorem d10_3 {p : Prop} (h : p := by (with_reducible repeat first | apply b10N | apply b10D | apply b10L); exact BK349.out) : p := h
theorem d10_4 {p : Prop} (h : p := by (with_reducible repeat (first | apply Kd.R_alloc | apply Kd.R_drewN | apply Kd.R_drew)); exact HO348.out) : p := h
theorem d10_5 {p : Prop} (h : p := by repeat (first | (with_reducible first | exact HB.out | apply below_alloc | apply pw_below_drewN | apply below_drew1 | refine below_set ?_ GE349.out | refine below_set ?_ GE367.out) | exact HB.out)) : p := h
theorem d10_6 {p : Prop} (h : p := by repeat (first | (with_reducible first | exact HB.out | apply below_alloc | apply pw_below_drewN | apply below_drew1 | refine below_set ?_ GE349.out | refine below_set ?_ GE367.out | refine below_set ?_ GE377.out) | exact HB.out)) : p := h
theorem d10_7 {p : Prop} (h : p := by (with_reducible repeat (first | apply Kd.R_alloc | apply Kd.R_drewN | apply Kd.R_drew)); exact HO_350002.out) : p := h
theorem d10_8 {p : Prop} (h : p := by first | (with_reducible assumption) | assumption) : p := h
theorem d10_9 {p : Prop} (h : p := by (with_reducible repeat first | apply b10N | apply b10D | apply b10L); exact BK367.out) : p := h
theorem d10_10 {p : Prop} (h : p := by first | rfl | (simp; done) | (simp [*]; done) | (simp [ne_nil_b, eq_nil_b]; done)) : p := h
theorem d10_11 {p : Prop} (h : p := by repeat (first | (with_reducible first | exact HB.out | apply below_alloc | apply pw_below_drewN | apply below_drew1) | exact HB.out)) : p := h
theorem d10_12 {p : Prop} (h : p := by (with_reducible repeat (first | apply Kd.R_alloc | apply Kd.R_drewN | apply Kd.R_drew)); exact HO_5.out) : p := h
theorem d10_13 {p : Prop} (h : p := by (with_reducible repeat (first | apply Kd.R_alloc | apply Kd.R_drewN | apply Kd.R_drew)); exact HO354.out) : p := h
theorem d10_14 {p : Prop} (h : p := by (with_reducible repeat first | apply b10N | apply b10D | apply b10L); exact BK377.out) : p := h
theorem d10_15 {p : Prop} (h : p := by (with_reducible repeat (first | apply Kd.R_alloc | apply Kd.R_drewN | apply Kd.R_drew)); exact HO_378002.out) : p := h
theorem c10_1 {p : Prop} (h : p := by repeat (first | (with_reducible first | exact HB.out | apply below_alloc | apply pw_below_drewN | apply below_drew1 | refine below_set ?_ GE349.out | refine below_set ?_ GE367.out | refine below_set ?_ GE377.out) | exact HB.out)) : p := h
theorem c10_2 {p : Prop} (h : p := by (with_reducible repeat first | apply b10N | apply b10D | apply b10L); exact BK349.out) : p := h
theorem c10_3 {p : Prop} (h : p := by repeat (first | (with_reducible first | exact HB.out | apply below_alloc | apply pw_below_drewN | apply below_drew1 | refine below_set ?_ GE349.out) | exact HB.out)) : p := h
theorem c10_4 {p : Prop} (h : p := by (with_reducible repeat first | apply b10N | apply b10D | apply b10L); exact BK367.out) : p := h
theorem c10_5 {p : Prop} (h : p := by (with_reducible repeat (first | apply Kd.R_alloc | apply Kd.R_drewN | apply Kd.R_drew)); exact HO_350002.out) : p := h
theorem c10_6 {p : Prop} (h : p := by (with_reducible repeat first | apply b10N | apply b10D | apply b10L); exact BK377.out) : p := h
theorem c10_7 {p : Prop} (h : p := by (with_reducible repeat (first | apply Kd.R_alloc | apply Kd.R_drewN | apply Kd.R_drew)); exact HO_5.out) : p := h
theorem c10_8 {p : Prop} (h : p := by (with_reducible repeat (first | apply Kd.R_alloc | apply Kd.R_drewN | apply Kd.R_drew)); exact HO_378002.out) : p := h
theorem c10_9 {p : Prop} (h : p := by repeat (first | (with_reducible first | exact HB.out | apply below_alloc | apply pw_below_drewN | apply below_drew1 | refine below_set ?_ GE349.out | refine below_set ?_ GE367.out) | exact HB.out)) : p := h
theorem c10_10 {p : Prop} (h : p := by first | rfl | (simp [errW_none, errW_some] <;> rfl) | (simp [*, errW_none, errW_some] <;> rfl)) : p := h
theorem c10_11 {p : Prop} (h : p := by (with_reducible repeat first | apply b10N | apply b10D | apply b10L); refine blk_far ?_ NB349_377.out _; (with_reducible repeat first | apply b10N | apply b10D | apply b10L); refine blk_far ?_ NB349_377.out _; (with_reducible repeat first | apply b10N | apply b10D | apply b10L); refine blk_far ?_ NB349_377.out _; (with_reducible repeat first | apply b10N | apply b10D | apply b10L); exact BK349.out) : p := h
theorem c10_12 {p : Prop} (h : p := by (with_reducible repeat first | apply b10N | apply b10D | apply b10L); refine blk_far ?_ NB367_377.out _; (with_reducible repeat first | apply b10N | apply b10D | apply b10L); refine blk_far ?_ NB367_377.out _; (with_reducible repeat first | apply b10N | apply b10D | apply b10L); refine blk_far ?_ NB367_377.out _; (with_reducible repeat first | apply b10N | apply b10D | apply b10L); exact BK367.out) : p := h
theorem c10_13 {p : Prop} (h : p := by (with_reducible repeat (first | apply Kd.R_alloc | apply Kd.R_drewN | apply Kd.R_drew)); exact Kd.R_mono HO348.out (fun _ hk => trivial)) : p := h
theorem c10_14 {p : Prop} (h : p := by (with_reducible repeat first | apply b10N | apply b10D | apply b10L); refine blk_far ?_ NB349_367.out _; (with_reducible repeat first | apply b10N | apply b10D | apply b10L); refine blk_far ?_ NB349_367.out _; (with_reducible repeat first | apply b10N | apply b10D | apply b10L); exact BK349.out) : p := h
set_option maxHeartbeats 8000000
set_option maxRecDepth 100000
theorem z10c {w : World} {g : Nat} {t : TypeId} {cs : Array Value} (h : w.heap[g]? = some (.cells cs t (0, 0))) (i : Nat) {v : Value} (e : cs[i]? = some v) : w.cell? ⟨g, i, none⟩ = some v := (blk_cell h i).trans e
abbrev m10_0 : Array Bool := #[false, false, false, false, false, false, false, false, false, false, false, false, false, false, false, false, false, false, false, false, false, false, false, false, false, false, false, false, false, false, false, false, false, false, false, false]
abbrev m10_1 : Array Bool := #[false, false, false, false, false, false, false, false, false, false, false, false, false, false, false, false, false, false, false, false, false, false, false, false, false, false, false, false]
abbrev m10_2 : Array Bool := #[true, false, false, false, false, false, false, false, false, false, false, false, false, false, false, false, false, false, false, false, false, false, false, false, false, false, false, false, false, false, false, false, false, false, false, false]
abbrev m10_3 : Array Bool := #[true, false, false, false, false, false, false, false, false, false, false, false, false, false, false, false, false, false, false, false, false, false, false, false, false, false, false, false]
abbrev m10_4 : Array Bool := #[true, false, true, false, false, false, false, false, false, false, false, false, false, false, false, false, false, false, false, false, false, false, false, false, false, false, false, false, false, false, false, false, false, false, false, false]
abbrev m10_5 : Array Bool := #[true, false, true, false, false, false, false, false, false, false, false, false, false, false, false, false, false, false, false, false, false, false, false, false, false, false, false, false]
abbrev m10_6 : Array Bool := #[true, false, true, false, false, true, false, false, false, false, false, false, false, false, false, false, false, false, false, false, false, false, false, false, false, false, false, false, false, false, false, false, false, false, false, false]
abbrev m10_7 : Array Bool := #[true, false, true, false, false, true, true, false, false, false, false, false, false, false, false, false, false, false, false, false, false, false, false, false, false, false, false, false, false, false, false, false, false, false, false, false]
abbrev m10_8 : Array Bool := #[true, false, true, false, false, true, true, true, false, false, false, false, false, false, false, false, false, false, false, false, false, false, false, false, false, false, false, false, false, false, false, false, false, false, false, false]
abbrev m10_9 : Array Bool := #[true, true, true, false, false, false, false, false, false, false, false, false, false, false, false, false, false, false, false, false, false, false, false, false, false, false, false, false]
abbrev m10_10 : Array Bool := #[true, true, true, false, false, true, true, true, false, false, false, false, false, false, false, false, false, false, false, false, false, false, false, false, false, false, false, false, false, false, false, false, false, false, false, false]
abbrev m10_11 : Array Bool := #[true, true, true, true, false, false, false, false, false, false, false, false, false, false, false, false, false, false, false, false, false, false, false, false, false, false, false, false]
abbrev m10_12 : Array Bool := #[true, true, true, true, false, true, true, true, false, false, false, false, false, false, false, false, false, false, false, false, false, false, false, false, false, false, false, false, false, false, false, false, false, false, false, false]
abbrev m10_13 : Array Bool := #[true, true, true, true, true, false, false, false, false, false, false, false, false, false, false, false, false, false, false, false, false, false, false, false, false, false, false, false]
abbrev m10_14 : Array Bool := #[true, true, true, true, true, true, false, false, false, false, false, false, false, false, false, false, false, false, false, false, false, false, false, false, false, false, false, false]
abbrev m10_15 : Array Bool := #[true, true, true, true, true, true, true, false, false, false, false, false, false, false, false, false, false, false, false, false, false, false, false, false, false, false, false, false]
abbrev m10_16 : Array Bool := #[true, true, true, true, true, true, true, true, false, false, false, false, false, false, false, false, false, false, false, false, false, false, false, false, false, false, false, false, false, false, false, false, false, false, false, false]
abbrev m10_17 : Array Bool := #[true, true, true, true, true, true, true, true, false, false, false, false, false, false, false, false, false, false, false, false, false, false, false, false, false, false, false, false]
abbrev m10_18 : Array Bool := #[true, true, true, true, true, true, true, true, false, true, false, false, false, false, false, false, false, false, false, false, false, false, false, false, false, false, false, false]
abbrev m10_19 : Array Bool := #[true, true, true, true, true, true, true, true, true, false, false, false, false, false, false, false, false, false, false, false, false, false, false, false, false, false, false, false, false, false, false, false, false, false, false, false]
abbrev m10_21 : Array Bool := #[true, true, true, true, true, true, true, true, true, true, false, false, false, false, false, false, false, false, false, false, false, false, false, false, false, false, false, false, false, false, false, false, false, false, false, false]
abbrev m10_22 : Array Bool := #[true, true, true, true, true, true, true, true, true, true, false, false, false, false, false, false, false, false, false, false, false, false, false, false, false, false, false, false]
abbrev m10_23 : Array Bool := #[true, true, true, true, true, true, true, true, true, true, true, false, false, false, false, false, false, false, false, false, false, false, false, false, false, false, false, false, false, false, false, false, false, false, false, false]
abbrev m10_24 : Array Bool := #[true, true, true, true, true, true, true, true, true, true, true, false, false, false, false, false, false, false, false, false, false, false, false, false, false, false, false, false]
abbrev m10_25 : Array Bool := #[true, true, true, true, true, true, true, true, true, true, true, true, false, false, false, false, false, false, false, false, false, false, false, false, false, false, false, false, false, false, false, false, false, false, false, false]
abbrev m10_26 : Array Bool := #[true, true, true, true, true, true, true, true, true, true, true, true, false, false, false, false, false, false, false, false, false, false, false, false, false, false, false, false]
abbrev m10_27 : Array Bool := #[true, true, true, true, true, true, true, true, true, true, true, true, true, false, false, false, false, false, false, false, false, false, false, false, false, false, false, false, false, false, false, false, false, false, false, false]
abbrev m10_28 : Array Bool := #[true, true, true, true, true, true, true, true, true, true, true, true, true, false, false, false, false, false, false, false, false, false, false, false, false, false, false, false]
abbrev m10_29 : Array Bool := #[true, true, true, true, true, true, true, true, true, true, true, true, true, true, false, false, false, false, false, false, false, false, false, false, false, false, false, false, false, false, false, false, false, false, false, false]
abbrev m10_30 : Array Bool := #[true, true, true, true, true, true, true, true, true, true, true, true, true, true, false, false, false, false, false, false, false, false, false, false, false, false, false, false]
abbrev m10_31 : Array Bool := #[true, true, true, true, true, true, true, true, true, true, true, true, true, true, true, false, false, false, false, false, false, false, false, false, false, false, false, false, false, false, false, false, false, false, false, false]
abbrev m10_32 : Array Bool := #[true, true, true, true, true, true, true, true, true, true, true, true, true, true, true, false, false, false, false, false, false, false, false, false, false, false, false, false]
abbrev m10_33 : Array Bool := #[true, true, true, true, true, true, true, true, true, true, true, true, true, true, true, true, false, false, false, false, false, false, false, false, false, false, false, false, false, false, false, false, false, false, false, false]
abbrev m10_34 : Array Bool := #[true, true, true, true, true, true, true, true, true, true, true, true, true, true, true, true, false, false, false, false, false, false, false, false, false, false, false, false]
abbrev m10_35 : Array Bool := #[true, true, true, true, true, true, true, true, true, true, true, true, true, true, true, true, true, false, false, false, false, false, false, false, false, false, false, false, false, false, false, false, false, false, false, false]
abbrev m10_36 : Array Bool := #[true, true, true, true, true, true, true, true, true, true, true, true, true, true, true, true, true, false, false, false, false, false, false, false, false, false, false, false]
abbrev m10_37 : Array Bool := #[true, true, true, true, true, true, true, true, true, true, true, true, true, true, true, true, true, true, false, false, false, false, false, false, false, false, false, false, false, false, false, false, false, false, false, false]
abbrev m10_38 : Array Bool := #[true, true, true, true, true, true, true, true, true, true, true, true, true, true, true, true, true, true, false, false, false, false, false, false, false, false, false, false]
abbrev m10_39 : Array Bool := #[true, true, true, true, true, true, true, true, true, true, true, true, true, true, true, true, true, true, true, false, false, false, false, false, false, false, false, false, false, false, false, false, false, false, false, false]
abbrev m10_40 : Array Bool := #[true, true, true, true, true, true, true, true, true, true, true, true, true, true, true, true, true, true, true, false, false, false, false, false, false, false, false, false]
abbrev m10_41 : Array Bool := #[true, true, true, true, true, true, true, true, true, true, true, true, true, true, true, true, true, true, true, true, false, false, false, false, false, false, false, false, false, false, false, false, false, false, false, false]
abbrev m10_42 : Array Bool := #[true, true, true, true, true, true, true, true, true, true, true, true, true, true, true, true, true, true, true, true, false, false, false, false, false, false, false, false]
abbrev m10_46 : Array Bool := #[true, true, true, true, true, true, true, true, true, true, true, true, true, true, true, true, true, true, true, true, true, false, false, false, false, false, false, false, false, false, false, false, false, false, false, false]
abbrev m10_47 : Array Bool := #[true, true, true, true, true, true, true, true, true, true, true, true, true, true, true, true, true, true, true, true, true, false, false, false, false, false, false, false]
abbrev m10_49 : Array Bool := #[true, true, true, true, true, true, true, true, true, true, true, true, true, true, true, true, true, true, true, true, true, true, false, false, false, false, false, false, false, false, false, false, false, false, false, false]
abbrev m10_50 : Array Bool := #[true, true, true, true, true, true, true, true, true, true, true, true, true, true, true, true, true, true, true, true, true, true, false, false, false, false, false, false]
abbrev m10_51 : Array Bool := #[true, true, true, true, true, true, true, true, true, true, true, true, true, true, true, true, true, true, true, true, true, true, true, false, false, false, false, false, false, false, false, false, false, false, false, false]
abbrev m10_52 : Array Bool := #[true, true, true, true, true, true, true, true, true, true, true, true, true, true, true, true, true, true, true, true, true, true, true, false, false, false, false, false]
abbrev m10_53 : Array Bool := #[true, true, true, true, true, true, true, true, true, true, true, true, true, true, true, true, true, true, true, true, true, true, true, true, false, false, false, false, false, false, false, false, false, false, false, false]
abbrev m10_54 : Array Bool := #[true, true, true, true, true, true, true, true, true, true, true, true, true, true, true, true, true, true, true, true, true, true, true, true, false, false, false, false]
abbrev m10_55 : Array Bool := #[true, true, true, true, true, true, true, true, true, true, true, true, true, true, true, true, true, true, true, true, true, true, true, true, true, false, false, false, false, false, false, false, false, false, false, false]
abbrev m10_56 : Array Bool := #[true, true, true, true, true, true, true, true, true, true, true, true, true, true, true, true, true, true, true, true, true, true, true, true, true, false, false, false]
abbrev m10_57 : Array Bool := #[true, true, true, true, true, true, true, true, true, true, true, true, true, true, true, true, true, true, true, true, true, true, true, true, true, true, false, false, false, false, false, false, false, false, false, false]
abbrev m10_58 : Array Bool := #[true, true, true, true, true, true, true, true, true, true, true, true, true, true, true, true, true, true, true, true, true, true, true, true, true, true, false, false]
abbrev m10_59 : Array Bool := #[true, true, true, true, true, true, true, true, true, true, true, true, true, true, true, true, true, true, true, true, true, true, true, true, true, true, true, false, false, false, false, false, false, false, false, false]
abbrev m10_60 : Array Bool := #[true, true, true, true, true, true, true, true, true, true, true, true, true, true, true, true, true, true, true, true, true, true, true, true, true, true, true, false]
abbrev m10_61 : Array Bool := #[true, true, true, true, true, true, true, true, true, true, true, true, true, true, true, true, true, true, true, true, true, true, true, true, true, true, true, true, false, false, false, false, false, false, false, false]
abbrev m10_62 : Array Bool := #[true, true, true, true, true, true, true, true, true, true, true, true, true, true, true, true, true, true, true, true, true, true, true, true, true, true, true, true, true, false, false, false, false, false, false, false]
abbrev m10_63 : Array Bool := #[true, true, true, true, true, true, true, true, true, true, true, true, true, true, true, true, true, true, true, true, true, true, true, true, true, true, true, true, true, true, false, false, false, false, false, false]
abbrev m10_64 : Array Bool := #[true, true, true, true, true, true, true, true, true, true, true, true, true, true, true, true, true, true, true, true, true, true, true, true, true, true, true, true, true, true, true, false, false, false, false, false]
abbrev m10_65 : Array Bool := #[true, true, true, true, true, true, true, true, true, true, true, true, true, true, true, true, true, true, true, true, true, true, true, true, true, true, true, true, true, true, true, true, false, false, false, false]
abbrev m10_66 : Array Bool := #[true, true, true, true, true, true, true, true, true, true, true, true, true, true, true, true, true, true, true, true, true, true, true, true, true, true, true, true, true, true, true, true, true, false, false, false]
abbrev m10_67 : Array Bool := #[true, true, true, true, true, true, true, true, true, true, true, true, true, true, true, true, true, true, true, true, true, true, true, true, true, true, true, true, true, true, true, true, true, true, false, false]
abbrev m10_68 : Array Bool := #[true, true, true, true, true, true, true, true, true, true, true, true, true, true, true, true, true, true, true, true, true, true, true, true, true, true, true, true, true, true, true, true, true, true, true, false]
abbrev m10_69 : Array Bool := #[true, true, true, true, true, true, true, true, true, true, true, true, true, true, true, true, true, true, true, true, true, true, true, true, true, true, true, true, true, true, true, true, true, true, true, true]
abbrev m10_70 : Array Bool := #[true, true, true, true, true, true, true, true, true, true, true, true, true, true, true, true, true, true, true, true, true, true, true, true, true, true, true, true]
theorem pa10_1 {α : Type} (l : List α) (i : Nat) (a : α) : l.toArray.setIfInBounds i a = (l.set i a).toArray := List.setIfInBounds_toArray l i a
theorem pa10_2 {α : Type} (a : α) (l : List α) (b : α) : (a :: l).set 0 b = b :: l := rfl
theorem pa10_3 {α : Type} (a : α) (l : List α) (n : Nat) (b : α) : (a :: l).set (n + 1) b = a :: l.set n b := rfl

theorem hb10_2 {w : World} {g0 : Nat} {t0 : TypeId} {a0_0 a0_1 : Value} (h0 : w.heap[g0]? = some (.cells #[a0_0, a0_1] t0 (0, 0))) : w.cell? ⟨g0, 0, none⟩ = some a0_0 ∧ w.cell? ⟨g0, 1, none⟩ = some a0_1 := ⟨(blk_cell h0 0).trans rfl, (blk_cell h0 1).trans rfl⟩
theorem hb10_3 {w : World} {g0 : Nat} {t0 : TypeId} {a0_0 a0_1 a0_2 : Value} (h0 : w.heap[g0]? = some (.cells #[a0_0, a0_1, a0_2] t0 (0, 0))) : w.cell? ⟨g0, 0, none⟩ = some a0_0 ∧ w.cell? ⟨g0, 1, none⟩ = some a0_1 ∧ w.cell? ⟨g0, 2, none⟩ = some a0_2 := ⟨(blk_cell h0 0).trans rfl, (blk_cell h0 1).trans rfl, (blk_cell h0 2).trans rfl⟩

/-! ### laws_FnTokens: function 3 -/
mutual
def laws_FnTokens.j0 : Nat → List Int → Option (Bool)
  | 0, _ => none
  | k + 1, x0 => (spec_DrawTokensOf.f k x0).bind fun t343 => ((impl_TokensOf.f k t343).bind fun bt344 => ((spec_TokensOf.f k t343).bind fun bt350 => (if bt344.1 = bt350.1 then ((spec_TokensOf.f k t343).bind fun bt355 => (if bt344.2.1 = bt355.2.1 then (if bt344.1 = 0 then ((impl_SpotOf.f k t343).bind fun bt360 => (laws_FnTokens.j1 k x0 (bt360.2 != (bt344.2.2.length : Int)))) else (laws_FnTokens.j1 k x0 false)) else (laws_FnTokens.j1 k x0 true))) else (laws_FnTokens.j1 k x0 true))))
def laws_FnTokens.j1 : Nat → List Int → Bool → Option (Bool)
  | 0, _, _ => none
  | k + 1, x0, x42 => if x42 = true then (some false) else (laws_FnTokens.j2 k x0)
def laws_FnTokens.j2 : Nat → List Int → Option (Bool)
  | 0, _ => none
  | k + 1, x0 => (spec_DrawTokensText.f k x0).bind fun t362 => ((impl_TokensText.f k t362).bind fun bt365 => (if bt365.1 = 0 then (laws_FnTokens.j3 k t362 bt365.1 bt365.2) else ((spec_TokensText.f k t362).bind fun bt368 => (some (bt368.1 == bt365.1)))))
def laws_FnTokens.j3 : Nat → List (S37) → Int → ByteArray → Option (Bool)
  | 0, _, _, _ => none
  | k + 1, x5, x368000, x368001 => if (x368001.size : Int) > 400 then ((spec_TokensText.f k x5).bind fun bt370 => (some (x368001.toList == bt370.2.toList))) else (laws_FnTokens.j4 k x5 x368000 x368001)
def laws_FnTokens.j4 : Nat → List (S37) → Int → ByteArray → Option (Bool)
  | 0, _, _, _ => none
  | k + 1, x5, x368000, x368001 => (impl_TokensOf.f k x368001).bind fun bt372 => (if bt372.1 = 0 then (laws_FnTokens.j5 k x5 ((bt372.2.2.length : Int) != (x5.length : Int)) bt372.1 bt372.2.1 bt372.2.2) else (laws_FnTokens.j5 k x5 true bt372.1 bt372.2.1 bt372.2.2))
def laws_FnTokens.j5 : Nat → List (S37) → Bool → Int → Int → List (S37) → Option (Bool)
  | 0, _, _, _, _, _ => none
  | k + 1, x5, x79, x378000, x378001, x378002 => if x79 = true then (some false) else (laws_FnTokens.j6 k x5 x378000 x378001 x378002)
def laws_FnTokens.j6 : Nat → List (S37) → Int → Int → List (S37) → Option (Bool)
  | 0, _, _, _, _ => none
  | k + 1, x5, x378000, x378001, x378002 => laws_FnTokens.l0 k x5 0 x378000 x378001 x378002
def laws_FnTokens.j11 : Nat → Option (Bool)
  | 0 => none
  | k + 1 => some true
def laws_FnTokens.l0 : Nat → List (S37) → Int → Int → Int → List (S37) → Option (Bool)
  | 0, _, _, _, _, _ => none
  | k + 1, x5, x8, x378000, x378001, x378002 => if x8 < (x5.length : Int) then (laws_FnTokens.j8 k x5 x8 x378000 x378001 x378002) else (laws_FnTokens.j11 k)
def laws_FnTokens.j8 : Nat → List (S37) → Int → Int → Int → List (S37) → Option (Bool)
  | 0, _, _, _, _, _ => none
  | k + 1, x5, x8, x378000, x378001, x378002 => if 0 ≤ x8 then (if x8 < (x378002.length : Int) then (if x8 < (x5.length : Int) then (if (!(((rd_T37 x378002 x8).f0) == ((rd_T37 x5 x8).f0)) || (!(((rd_T37 x378002 x8).f1) == ((rd_T37 x5 x8).f1)) || (!((((rd_T37 x378002 x8).f2).toList) == (((rd_T37 x5 x8).f2).toList))))) = true then (laws_FnTokens.j9 k x5 x8 true x378000 x378001 x378002) else ((impl_TokenText.f k ((rd_T37 x5 x8).f0) ((rd_T37 x5 x8).f1) ((rd_T37 x5 x8).f2)).bind fun bt381 => (if bt381.1 = 0 then (if ((rd_T37 x5 x8).f0) = 6 then ((impl_SymFault.f ((rd_T37 x5 x8).f2)).bind fun t385 => (laws_FnTokens.j9 k x5 x8 (t385 != 0) x378000 x378001 x378002)) else (laws_FnTokens.j9 k x5 x8 false x378000 x378001 x378002)) else (laws_FnTokens.j9 k x5 x8 true x378000 x378001 x378002)))) else (none)) else (none)) else (none)
def laws_FnTokens.j10 : Nat → List (S37) → Int → Int → Int → List (S37) → Option (Bool)
  | 0, _, _, _, _, _ => none
  | k + 1, x5, x8, x378000, x378001, x378002 => laws_FnTokens.l0 k x5 (wrap64 (x8 + 1)) x378000 x378001 x378002
def laws_FnTokens.j9 : Nat → List (S37) → Int → Bool → Int → Int → List (S37) → Option (Bool)
  | 0, _, _, _, _, _, _ => none
  | k + 1, x5, x8, x121, x378000, x378001, x378002 => if x121 = true then (some false) else (laws_FnTokens.j10 k x5 x8 x378000 x378001 x378002)
end
def laws_FnTokens.f (k : Nat) (l0 : List Int) : Option (Bool) := (laws_lwBig.f l0).bind fun t342 => (if t342 = true then (some true) else (laws_FnTokens.j0 k l0))
theorem laws_FnTokens.mono_l : ∀ k, (∀ y0, LeO (laws_FnTokens.j0 k y0) (laws_FnTokens.j0 (k + 1) y0)) ∧ (∀ y0 y1, LeO (laws_FnTokens.j1 k y0 y1) (laws_FnTokens.j1 (k + 1) y0 y1)) ∧ (∀ y0, LeO (laws_FnTokens.j2 k y0) (laws_FnTokens.j2 (k + 1) y0)) ∧ (∀ y0 y1 y2, LeO (laws_FnTokens.j3 k y0 y1 y2) (laws_FnTokens.j3 (k + 1) y0 y1 y2)) ∧ (∀ y0 y1 y2, LeO (laws_FnTokens.j4 k y0 y1 y2) (laws_FnTokens.j4 (k + 1) y0 y1 y2)) ∧ (∀ y0 y1 y2 y3 y4, LeO (laws_FnTokens.j5 k y0 y1 y2 y3 y4) (laws_FnTokens.j5 (k + 1) y0 y1 y2 y3 y4)) ∧ (∀ y0 y1 y2 y3, LeO (laws_FnTokens.j6 k y0 y1 y2 y3) (laws_FnTokens.j6 (k + 1) y0 y1 y2 y3)) ∧ (LeO (laws_FnTokens.j11 k ) (laws_FnTokens.j11 (k + 1) )) ∧ (∀ y0 y1 y2 y3 y4, LeO (laws_FnTokens.l0 k y0 y1 y2 y3 y4) (laws_FnTokens.l0 (k + 1) y0 y1 y2 y3 y4)) ∧ (∀ y0 y1 y2 y3 y4, LeO (laws_FnTokens.j8 k y0 y1 y2 y3 y4) (laws_FnTokens.j8 (k + 1) y0 y1 y2 y3 y4)) ∧ (∀ y0 y1 y2 y3 y4, LeO (laws_FnTokens.j10 k y0 y1 y2 y3 y4) (laws_FnTokens.j10 (k + 1) y0 y1 y2 y3 y4)) ∧ (∀ y0 y1 y2 y3 y4 y5, LeO (laws_FnTokens.j9 k y0 y1 y2 y3 y4 y5) (laws_FnTokens.j9 (k + 1) y0 y1 y2 y3 y4 y5))
  | 0 => ⟨fun _ r h => by simp [laws_FnTokens.j0] at h, fun _ _ r h => by simp [laws_FnTokens.j1] at h, fun _ r h => by simp [laws_FnTokens.j2] at h, fun _ _ _ r h => by simp [laws_FnTokens.j3] at h, fun _ _ _ r h => by simp [laws_FnTokens.j4] at h, fun _ _ _ _ _ r h => by simp [laws_FnTokens.j5] at h, fun _ _ _ _ r h => by simp [laws_FnTokens.j6] at h, fun r h => by simp [laws_FnTokens.j11] at h, fun _ _ _ _ _ r h => by simp [laws_FnTokens.l0] at h, fun _ _ _ _ _ r h => by simp [laws_FnTokens.j8] at h, fun _ _ _ _ _ r h => by simp [laws_FnTokens.j10] at h, fun _ _ _ _ _ _ r h => by simp [laws_FnTokens.j9] at h⟩
  | k + 1 => by
    obtain ⟨ih0, ih1, ih2, ih3, ih4, ih5, ih6, ih7, ih8, ih9, ih10, ih11⟩ := laws_FnTokens.mono_l k; refine ⟨?_, ?_, ?_, ?_, ?_, ?_, ?_, ?_, ?_, ?_, ?_, ?_⟩
    all_goals
      intros
      first | unfold laws_FnTokens.j0 | unfold laws_FnTokens.j1 | unfold laws_FnTokens.j2 | unfold laws_FnTokens.j3 | unfold laws_FnTokens.j4 | unfold laws_FnTokens.j5 | unfold laws_FnTokens.j6 | unfold laws_FnTokens.j11 | unfold laws_FnTokens.l0 | unfold laws_FnTokens.j8 | unfold laws_FnTokens.j10 | unfold laws_FnTokens.j9
      repeat' first | (with_reducible first | apply ih0 | apply ih1 | apply ih2 | apply ih3 | apply ih4 | apply ih5 | apply ih6 | exact ih7 | apply ih8 | apply ih9 | apply ih10 | apply ih11 | apply impl_SpotOf.mono | apply impl_TokenText.mono | apply impl_TokensOf.mono | apply impl_TokensText.mono | apply spec_DrawTokensOf.mono | apply spec_DrawTokensText.mono | apply spec_TokensOf.mono | apply spec_TokensText.mono | exact LeO.refl _ | exact LeO.none _ | refine LeO.ite ?_ ?_ | refine LeO.bind ?_ (fun _ => ?_)) | apply ih0 | apply ih1 | apply ih2 | apply ih3 | apply ih4 | apply ih5 | apply ih6 | exact ih7 | apply ih8 | apply ih9 | apply ih10 | apply ih11 | apply impl_SpotOf.mono | apply impl_TokenText.mono | apply impl_TokensOf.mono | apply impl_TokensText.mono | apply spec_DrawTokensOf.mono | apply spec_DrawTokensText.mono | apply spec_TokensOf.mono | apply spec_TokensText.mono | exact LeO.none _ | refine LeO.ite ?_ ?_ | refine LeO.bind ?_ (fun _ => ?_)
theorem laws_FnTokens.mono : ∀ a0 k, LeO (laws_FnTokens.f k a0) (laws_FnTokens.f (k + 1) a0) := by
  intro a0 k; obtain ⟨ih0, ih1, ih2, ih3, ih4, ih5, ih6, ih7, ih8, ih9, ih10, ih11⟩ := laws_FnTokens.mono_l k; unfold laws_FnTokens.f
  repeat' first | (with_reducible first | apply ih0 | apply ih1 | apply ih2 | apply ih3 | apply ih4 | apply ih5 | apply ih6 | exact ih7 | apply ih8 | apply ih9 | apply ih10 | apply ih11 | apply impl_SpotOf.mono | apply impl_TokenText.mono | apply impl_TokensOf.mono | apply impl_TokensText.mono | apply spec_DrawTokensOf.mono | apply spec_DrawTokensText.mono | apply spec_TokensOf.mono | apply spec_TokensText.mono | exact LeO.refl _ | exact LeO.none _ | refine LeO.ite ?_ ?_ | refine LeO.bind ?_ (fun _ => ?_)) | apply ih0 | apply ih1 | apply ih2 | apply ih3 | apply ih4 | apply ih5 | apply ih6 | exact ih7 | apply ih8 | apply ih9 | apply ih10 | apply ih11 | apply impl_SpotOf.mono | apply impl_TokenText.mono | apply impl_TokensOf.mono | apply impl_TokensText.mono | apply spec_DrawTokensOf.mono | apply spec_DrawTokensText.mono | apply spec_TokensOf.mono | apply spec_TokensText.mono | exact LeO.none _ | refine LeO.ite ?_ ?_ | refine LeO.bind ?_ (fun _ => ?_)
def laws_FnTokens.T5 : Bool × List (List Nat × List Nat) := (true, [([], []), ([0], [0]), ([], []), ([2], [2]), ([3], [3]), ([1, 4], [1, 4]), ([5, 3], [5]), ([6], [6]), ([7, 6], [6, 7]), ([6], [6]), ([9, 6, 6], [6, 9]), ([10, 6], [6, 10]), ([8, 11, 6], [6, 8, 11]), ([6, 12], [6, 12]), ([13, 10], [13]), ([14], [14]), ([15, 14], [14, 15]), ([16, 14], [14, 16]), ([17, 14, 14], [14, 17]), ([18], [18]), ([19, 18, 18], [18, 19]), ([20, 18], [18, 20]), ([18], [18]), ([22, 18], [18, 22]), ([23, 18], [18, 23]), ([21, 24, 18], [18, 21, 24]), ([18, 25, 14], [14, 18, 25]), ([14, 26], [14, 26])])
def laws_FnTokens.B5 : List Nat := [0, 1, 0, 4, 12, 31, 63, 127, 255, 127, 639, 1663, 4095, 8191, 16383, 32767, 65535, 131071, 262143, 524287, 1048575, 2097151, 524287, 4718591, 13107199, 33554431, 67108863, 134217727]
theorem laws_FnTokens.tab5 : rtab .any (opsOf Tryz.f3 5) = laws_FnTokens.T5 := by kernel_rfl
theorem laws_FnTokens.bits5 : waitsOk laws_FnTokens.T5.2 laws_FnTokens.B5 = true := by kernel_rfl
def laws_FnTokens.T19 : Bool × List (List Nat × List Nat) := (true, [([], []), ([0], [0]), ([], []), ([1, 2], [1, 2]), ([3], [3]), ([], []), ([], []), ([5, 6], [5, 6]), ([7], [7]), ([4, 8], [4, 8]), ([9], [9]), ([10], [10]), ([10], [10]), ([11, 12, 10], [10, 11, 12]), ([13, 10], [10, 13]), ([14, 10, 10], [10, 14]), ([15, 10], [10, 15]), ([16, 10], [10, 16]), ([10, 17], [10, 17]), ([18, 15], [18]), ([19], [19]), ([19], [19]), ([20, 21, 19], [19, 20, 21]), ([22, 19], [19, 22]), ([23, 19], [19, 23]), ([24, 19], [19, 24]), ([25, 19, 19], [19, 25]), ([26], [26]), ([26], [26]), ([27, 28, 26], [26, 27, 28]), ([29, 26], [26, 29]), ([30, 26], [26, 30]), ([31, 26, 26], [26, 31]), ([32, 26], [26, 32]), ([26, 33, 19], [19, 26, 33]), ([19, 34], [19, 34])])
def laws_FnTokens.B19 : List Nat := [0, 1, 0, 7, 15, 0, 0, 96, 224, 511, 1023, 2047, 2047, 8191, 16383, 32767, 65535, 131071, 262143, 524287, 1048575, 1048575, 4194303, 8388607, 16777215, 33554431, 67108863, 134217727, 134217727, 536870911, 1073741823, 2147483647, 4294967295, 8589934591, 17179869183, 34359738367]
theorem laws_FnTokens.tab19 : rtab .any (opsOf Tryz.f3 19) = laws_FnTokens.T19 := by kernel_rfl
theorem laws_FnTokens.bits19 : waitsOk laws_FnTokens.T19.2 laws_FnTokens.B19 = true := by kernel_rfl
theorem laws_FnTokens.calls (k : Nat) (A0 : Option Addr) (c0 : Nat) (l0 : List Int) (r : Bool) (w : World) (hr0 : Kd.C (Kd.int .u8) w A0 l0.length l0) (hc0 : l0.length ≤ c0) (hLz : Lz w) (h : laws_FnTokens.f k l0 = some r) :
    Calls Tryz.prog 3 #[.slice A0 l0.length c0] w fun e w' => e = .returned (.bool r) ∧ Below w.heap.size w w' := by
  have hu27 := Tryz.underlying27
  have hfd27_0 : ∀ (v0 v1 v2 : Value) (w : World), (Instr.field 27 (.agg #[v0, v1, v2]) 0).run Tryz.prog w = .ok (v0) w := fun _ _ _ _ => by kernel_rfl
  have hfd27_1 : ∀ (v0 v1 v2 : Value) (w : World), (Instr.field 27 (.agg #[v0, v1, v2]) 1).run Tryz.prog w = .ok (v1) w := fun _ _ _ _ => by kernel_rfl
  have hfd30_1 : ∀ (v0 v1 : Value) (w : World), (Instr.field 30 (.agg #[v0, v1]) 1).run Tryz.prog w = .ok (v1) w := fun _ _ _ => by kernel_rfl
  have hu34 := Tryz.underlying34
  have hfd34_0 : ∀ (v0 v1 : Value) (w : World), (Instr.field 34 (.agg #[v0, v1]) 0).run Tryz.prog w = .ok (v0) w := fun _ _ _ => by kernel_rfl
  have hfd34_1 : ∀ (v0 v1 : Value) (w : World), (Instr.field 34 (.agg #[v0, v1]) 1).run Tryz.prog w = .ok (v1) w := fun _ _ _ => by kernel_rfl
  have hu37 := Tryz.underlying37; have HR0 := ak hr0; have HC0 := ak hc0; clear hr0 hc0; have HB := ak (Below.refl w.heap.size w); have HLZ := ak hLz; clear hLz; have H := h; clear h; unfold laws_FnTokens.f at H; replace H := Option.bind_eq_some_iff.mp H; obtain ⟨t342, A20, H⟩ := H; (try dsimp -simprocs only at H); have A2 := ak A20; clear A20; have HC3 := ak H; clear H; go_enter Tryz.func3, Tryz.ntmps3; go_upto_if 10 with (first | ((with_reducible refine gate_callee (f := 5) rfl ?_); refine goesL_ (some 10) rfl rfl Tryz.func5 (by kernel_rfl) rfl #[.slice A0 l0.length c0] rfl d10_2 ?_; (with_reducible refine (laws_lwBig.calls _ _ l0 t342 _ ?side1 ?side2 A2.out).mono ?_); (case side1 => repeat (first | exact HR0.out | (with_reducible refine Kd.C_alloc ?_ _) | (with_reducible refine Kd.C_drewN ?_ _) | (with_reducible refine Kd.C_drew ?_))); (case side2 => exact HC0.out); rintro e w' ⟨rfl, ⟨nd, rfl⟩⟩; refine ⟨_, rfl, ?_⟩))
  (try simp only [Act.put, pa10_1, pa10_2, pa10_3])
  go_cut [] (fun wc => ∃ (kq : Nat), Aside0 (laws_FnTokens.j0 kq l0 = some r) ∧ Aside0 (kq ≤ k) ∧ Aside0 (Below w.heap.size w wc))
  case first =>
   have H := HC3.out; clear HC3; by_cases c4 : t342 = true
   ·subst c4
    rw [if_pos rfl] at H; obtain rfl := Option.some.inj H; go_wp2; go_ret; exact ⟨c10_10, by repeat (first | (with_reducible first | exact HB.out | apply below_alloc | apply pw_below_drewN | apply below_drew1) | exact HB.out)⟩
   ·replace c4 := Bool.eq_false_iff.mpr c4
    subst c4
    rw [if_neg (show ¬ (false = true) by decide)] at H; have H' := ak H; clear H; go_wp2; go_meet
    case rel => exact ⟨_, H', ⟨by first | omega | exact Nat.le_refl _⟩, ⟨by repeat (first | (with_reducible first | exact HB.out | apply below_alloc | apply pw_below_drewN | apply below_drew1) | exact HB.out)⟩⟩
  case rest =>
   clear HC3
   try clear c3
   obtain ⟨kq, HA, HJ2, HB⟩ := hcut
   cases kq with
   | zero => exact absurd HA.out (by simp [laws_FnTokens.j0])
   | succ kj2 =>
    have H := HA.out; clear HA; simp only [laws_FnTokens.j0] at H; replace H := Option.bind_eq_some_iff.mp H; obtain ⟨t343, A50, H⟩ := H; (try dsimp -simprocs only at H); have A5 := ak A50; clear A50; replace H := Option.bind_eq_some_iff.mp H; obtain ⟨⟨t344, t345, t346⟩, A60, H⟩ := H; (try dsimp -simprocs only at H); have A6 := ak A60; clear A60; have HC7 := ak H; clear H
    go_upto_region 5 with (first | ((with_reducible refine gate_callee (f := 6) rfl ?_); refine goesL_ (some 12) rfl rfl Tryz.func6 (by kernel_rfl) rfl #[.slice A0 l0.length c0] rfl d10_2 ?_; (with_reducible refine (spec_DrawTokensOf.calls kj2 _ _ l0 t343 _ ?side1 ?side2 A5.out).mono ?_); (case side1 => repeat (first | exact (Kd.C_below HR0.out HB.out) | (with_reducible refine Kd.C_alloc ?_ _) | (with_reducible refine Kd.C_drewN ?_ _) | (with_reducible refine Kd.C_drew ?_))); (case side2 => exact HC0.out); rintro e w8 ⟨rfl, hb⟩; refine ⟨_, rfl, ?_⟩; have n0_ := ak (below_step d10_11 hb); clear HB; have HB := n0_; clear n0_; (try clear hb)) | ((with_reducible refine gate_callee (f := 7) rfl ?_); refine goesL_ (some 14) rfl rfl Tryz.func7 (by kernel_rfl) rfl #[.string t343] rfl d10_2 ?_; (with_reducible refine (impl_TokensOf.calls kj2 t343 t344 t345 t346 _ ?side1 A6.out).mono ?_); (case side1 => exact Lz.below HLZ.out d10_11); rintro e w9 ⟨v347, rfl, ho0, hb⟩; refine ⟨_, rfl, ?_⟩; have n0_ := ak (Kd.R_lower ho0 (below_size d10_11)); have n1_ := ak (below_step d10_11 hb); clear HB; have HO348 := n0_; have HB := n1_; clear n0_ n1_; (try clear hb); (try clear ho0)) | ((with_reducible refine gate_dst (N := 4) rfl ?_); refine box_event ?hg (N := 4) ?hd (cs := #[.int .i64 0, .int .i64 0, .slice none 0 0]) (t := 27) ?hr ?_; (case hd => rfl); (case hg => rfl); (case hr => first | (go_simp; done) | (go_simp; rfl)); intro gb349 hg w10 hbox hb; have n0_ := ak (Kd.R_below d10_4 hb); have n1_ := ak (below_step d10_11 hb); have n2_ := ak (hbox); have n3_ := ak ((by rw [hg]; exact (below_size d10_11) : w.heap.size ≤ gb349)); have n4_ := ak ((by rw [hg]; exact (below_size d10_11) : w.heap.size ≤ gb349)); clear HO348 HB; have HO348 := n0_; have HB := n1_; have BK349 := n2_; have GW349 := n3_; have GE349 := n4_; clear n0_ n1_ n2_ n3_ n4_ hb hbox hg; have hcz11_0 := z10c BK349.out 0 (v := (.int .i64 0)) rfl; have hcz11_1 := z10c BK349.out 1 (v := (.int .i64 0)) rfl; have hcz11_2 := z10c BK349.out 2 (v := (.slice none 0 0)) rfl; have hfz11_0 := blk_frozen BK349.out 0; have hfz11_1 := blk_frozen BK349.out 1; have hfz11_2 := blk_frozen BK349.out 2; obtain ⟨Ao12, co12, eo12⟩ := Kd.R_slice HO348.out; subst eo12))
    (try simp only [Act.put, pa10_1, pa10_2, pa10_3])
    go_cut [42] (fun v42 wc => ∃ (kq : Nat) (x42_6 : Bool), v42 = .bool x42_6 ∧ Aside0 (laws_FnTokens.j1 kq l0 x42_6 = some r) ∧ Aside0 (kq ≤ kj2) ∧ Aside0 (Kd.R k37 37 wc w.heap.size (fun _ => True) (.slice Ao12 t346.length co12) t346) ∧ Aside0 (wc.heap[gb349]? = some (.cells #[.int .i64 t344, .int .i64 t345, (.slice Ao12 t346.length co12)] 27 (0, 0))) ∧ Aside0 (Below w.heap.size w wc))
    case first =>
     have H := HC7.out; clear HC7; replace H := Option.bind_eq_some_iff.mp H; obtain ⟨⟨t350, t351, t352⟩, A130, H⟩ := H; (try dsimp -simprocs only at H); have A13 := ak A130; clear A130; by_cases c14 : t344 = t350
     ·rw [if_pos c14] at H
      have c14b0 : (t344 == t350) = true := beq_iff_eq.mpr c14; have c14b1 : (t344 != t350) = false := bne_eq_false_iff_eq.mpr c14; clear c14
      (first | rw [c14b0] | (simp only [i64_w, i32_w]; rw [c14b0]) | skip)
      replace H := Option.bind_eq_some_iff.mp H; obtain ⟨⟨t355, t356, t357⟩, A150, H⟩ := H; (try dsimp -simprocs only at H); have A15 := ak A150; clear A150; by_cases c16 : t345 = t356
      ·rw [if_pos c16] at H
       have c16b0 : (t345 == t356) = true := beq_iff_eq.mpr c16; have c16b1 : (t345 != t356) = false := bne_eq_false_iff_eq.mpr c16; clear c16; by_cases c17 : t344 = 0
       ·rw [if_pos c17] at H
        have c17b0 : (t344 == 0) = true := beq_iff_eq.mpr c17; have c17b1 : (t344 != 0) = false := bne_eq_false_iff_eq.mpr c17; clear c17; replace H := Option.bind_eq_some_iff.mp H; obtain ⟨⟨t360, t361⟩, A180, H⟩ := H; (try dsimp -simprocs only at H); have A18 := ak A180; clear A180; have H' := ak H; clear H
        try go_wp2
        have n0_ : Aside0 (Kd.R k37 37 (((w10.setCell ⟨gb349, 0, none⟩ (.int .i64 t344)).setCell ⟨gb349, 1, none⟩ (.int .i64 t345)).setCell ⟨gb349, 2, none⟩ (.slice Ao12 t346.length co12)) w.heap.size (fun _ => True) (.slice Ao12 t346.length co12) t346) := ⟨by (with_reducible repeat (first | apply Kd.R_alloc | apply Kd.R_drewN | apply Kd.R_drew)); exact Kd.R_mono (Kd.R_far (p := ⟨gb349, 2, none⟩) (Kd.R_far (p := ⟨gb349, 1, none⟩) (Kd.R_far (p := ⟨gb349, 0, none⟩) (Kd.R_types HO348.out BK349.out (by decide)) (fun _ hk => hk.2) (.int .i64 t344)) (fun _ hk => hk.2) (.int .i64 t345)) (fun _ hk => hk.2) (.slice Ao12 t346.length co12)) (fun _ hk => trivial)⟩
        have n1_ : Aside0 ((((w10.setCell ⟨gb349, 0, none⟩ (.int .i64 t344)).setCell ⟨gb349, 1, none⟩ (.int .i64 t345)).setCell ⟨gb349, 2, none⟩ (.slice Ao12 t346.length co12)).heap[gb349]? = some (.cells #[.int .i64 t344, .int .i64 t345, .slice Ao12 t346.length co12] 27 (0, 0))) := ⟨by (with_reducible repeat first | apply b10N | apply b10D | apply b10L); refine blk_put (cs := #[.int .i64 t344, .int .i64 t345, .slice none 0 0]) ?_ 2 _ rfl; (with_reducible repeat first | apply b10N | apply b10D | apply b10L); refine blk_put (cs := #[.int .i64 t344, .int .i64 0, .slice none 0 0]) ?_ 1 _ rfl; (with_reducible repeat first | apply b10N | apply b10D | apply b10L); refine blk_put (cs := #[.int .i64 0, .int .i64 0, .slice none 0 0]) ?_ 0 _ rfl; (with_reducible repeat first | apply b10N | apply b10D | apply b10L); exact BK349.out⟩; have n2_ : Aside0 (Below w.heap.size w (((w10.setCell ⟨gb349, 0, none⟩ (.int .i64 t344)).setCell ⟨gb349, 1, none⟩ (.int .i64 t345)).setCell ⟨gb349, 2, none⟩ (.slice Ao12 t346.length co12))) := ⟨c10_3⟩
        (try clear HO348)
        (try clear BK349)
        (try clear HB)
        generalize (((w10.setCell ⟨gb349, 0, none⟩ (.int .i64 t344)).setCell ⟨gb349, 1, none⟩ (.int .i64 t345)).setCell ⟨gb349, 2, none⟩ (.slice Ao12 t346.length co12)) = w19 at n0_ n1_ n2_ ⊢; have HO348 := n0_; have BK349 := n1_; have HB := n2_; clear n0_ n1_ n2_; have n0_ := ak (Kd.R_drew HO348.out); have n1_ := ak (blk_drew BK349.out); have n2_ := ak (below_drew1 HB.out); clear HO348; clear BK349; clear HB; have HO348 := n0_; have BK349 := n1_; have HB := n2_; clear n0_ n1_ n2_; refine start_ (n := 28) (S := fun w' => w'.cell? ⟨gb349, 0, none⟩ = some (.int .i64 t344) ∧ w'.cell? ⟨gb349, 1, none⟩ = some (.int .i64 t345) ∧ w'.cell? ⟨gb349, 2, none⟩ = some (.slice Ao12 t346.length co12)) (ds := []) m10_1 (by kernel_rfl) rfl rfl (hb10_3 BK349.out) (fun hHeld => ?_); refine with_tabW laws_FnTokens.tab5 laws_FnTokens.bits5 (fun HT_ HW_ => ?_); generalize w19.drew = w20 at HO348 BK349 HB hHeld ⊢
        refine pure_ (i := 0) (N := some 15) (v := ?_) (a' := ?_) m10_3 rfl rfl (any_of HT_.out (by kernel_rfl)) (fun _ _ _ h => h) (Or.inl ⟨by rfl, ?_⟩) ?_ ?_; rotate_left
        · intro w'
          go_simp; (with_reducible rfl)
        rotate_left
        · simp only [Act.put, pa10_1, pa10_2, pa10_3, i64_w, i32_w]
          rfl
        refine pure_ (i := 2) (N := some 17) (v := ?_) (a' := ?_) m10_5 rfl rfl (any_of HT_.out (by kernel_rfl)) (fun _ _ _ h => h) (Or.inl ⟨by rfl, ?_⟩) ?_ ?_; rotate_left
        · intro w'
          go_simp; (with_reducible rfl)
        rotate_left
        · simp only [Act.put, pa10_1, pa10_2, pa10_3, i64_w, i32_w]
          rfl
        refine take_ (i := 1) (N := some 16) (v := ?_) (a' := ?_) m10_9 rfl rfl (take_ofW HT_.out HW_.out (by kernel_rfl)) (fun _ _ _ h => h) (Or.inl ⟨by rfl, ?_⟩) hHeld ?_ ?_; rotate_left
        · rintro w' ⟨s0, s1, s2⟩
          go_simp; (with_reducible rfl)
        rotate_left
        · simp only [Act.put, pa10_1, pa10_2, pa10_3, i64_w, i32_w]
          rfl
        refine one_ (i := 3) (N := some 18) m10_11 rfl rfl (one_of HT_.out (by kernel_rfl)) (by decide) (fun K hK => ?_); refine goes_ Tryz.func8 (by kernel_rfl) rfl #[.string t343] (by rfl) rfl rfl d10_2 ?_; (with_reducible refine (spec_TokensOf.calls kj2 t343 t350 t351 t352 _ A13.out).mono ?_); rintro e w21 ⟨v353, rfl, ho0, hb⟩; refine ⟨_, rfl, ?_⟩; have n0_ := ak (Kd.R_elder' d10_4 (Kd.R_base ho0) hb); have n1_ := ak (Kd.R_lower (Kd.R_new' ho0 (Kd.R_lt d10_4)) (below_size d10_1)); have n2_ := ak (blk_below (g := gb349) (o := .cells #[.int .i64 t344, .int .i64 t345, .slice Ao12 t346.length co12] 27 (0, 0)) d10_3 hb); have n3_ := ak (below_step d10_1 hb); clear HO348; clear BK349; clear HB; have HO348 := n0_; have HO354 := n1_; have BK349 := n2_; have HB := n3_; clear n0_ n1_ n2_ n3_
        (try clear hb)
        (try clear hb2)
        (try clear hk)
        (try clear hi)
        (try clear ho0)
        refine hK.out _ _ (hb10_3 BK349.out) (fun hHeld => ?_); clear hK K; refine norm_ (a' := ?_) ?_ ?_; rotate_left
        · show Act.put _ (some 18) _ = _
          simp only [Act.put, pa10_1, pa10_2, pa10_3, i64_w, i32_w]; rfl
        refine pure_ (i := 4) (N := some 19) (v := ?_) (a' := ?_) m10_13 rfl rfl (any_of HT_.out (by kernel_rfl)) (fun _ _ _ h => h) (Or.inl ⟨by rfl, ?_⟩) ?_ ?_; rotate_left
        · intro w'
          go_simp; (with_reducible rfl)
        rotate_left
        · simp only [Act.put, pa10_1, pa10_2, pa10_3, i64_w, i32_w]
          rfl
        refine pure_ (i := 5) (N := some 20) (v := ?_) (a' := ?_) m10_14 rfl rfl (any_of HT_.out (by kernel_rfl)) (fun _ _ _ h => h) (Or.inl ⟨by rfl, ?_⟩) ?_ ?_; rotate_left
        · intro w'
          go_simp; (with_reducible rfl)
        rotate_left
        · simp only [Act.put, pa10_1, pa10_2, pa10_3, i64_w, i32_w]
          rfl
        refine pure_ (i := 6) (N := some 21) (v := ?_) (a' := ?_) m10_15 rfl rfl (any_of HT_.out (by kernel_rfl)) (fun _ _ _ h => h) (Or.inl ⟨by rfl, ?_⟩) ?_ ?_; rotate_left
        · intro w'
          go_simp; (with_reducible rfl)
        rotate_left
        · simp only [Act.put, pa10_1, pa10_2, pa10_3, i64_w, i32_w]
          rfl
        refine pure_ (i := 7) (N := some 22) (v := ?_) (a' := ?_) m10_17 rfl rfl (any_of HT_.out (by kernel_rfl)) (fun _ _ _ h => h) (Or.inl ⟨by rfl, ?_⟩) ?_ ?_; rotate_left
        · intro w'
          go_simp; (with_reducible rfl)
        rotate_left
        · simp only [Act.put, pa10_1, pa10_2, pa10_3, i64_w, i32_w]
          rfl
        refine pure_ (i := 9) (N := some 24) (v := ?_) (a' := ?_) m10_18 rfl rfl (any_of HT_.out (by kernel_rfl)) (fun _ _ _ h => h) (Or.inl ⟨by rfl, ?_⟩) ?_ ?_; rotate_left
        · intro w'
          go_simp; (with_reducible rfl)
        rotate_left
        · simp only [Act.put, pa10_1, pa10_2, pa10_3, i64_w, i32_w]
          rfl
        refine take_ (i := 8) (N := some 23) (v := ?_) (a' := ?_) m10_22 rfl rfl (take_ofW HT_.out HW_.out (by kernel_rfl)) (fun _ _ _ h => h) (Or.inl ⟨by rfl, ?_⟩) hHeld ?_ ?_; rotate_left
        · rintro w' ⟨s0, s1, s2⟩
          go_simp; (with_reducible rfl)
        rotate_left
        · simp only [Act.put, pa10_1, pa10_2, pa10_3, i64_w, i32_w]
          rfl
        refine one_ (i := 10) (N := some 25) m10_24 rfl rfl (one_of HT_.out (by kernel_rfl)) (by decide) (fun K hK => ?_); refine goes_ Tryz.func8 (by kernel_rfl) rfl #[.string t343] (by rfl) rfl rfl d10_2 ?_; (with_reducible refine (spec_TokensOf.calls kj2 t343 t355 t356 t357 _ A15.out).mono ?_); rintro e w22 ⟨v358, rfl, ho0, hb⟩; refine ⟨_, rfl, ?_⟩; have n0_ := ak (Kd.R_elder' d10_4 (Kd.R_base ho0) hb); have n1_ := ak (Kd.R_elder' d10_13 (Kd.R_base ho0) hb); have n2_ := ak (Kd.R_lower (Kd.R_new' (Kd.R_new' ho0 (Kd.R_lt d10_4)) (Kd.R_lt d10_13)) (below_size d10_1)); have n3_ := ak (blk_below (g := gb349) (o := .cells #[.int .i64 t344, .int .i64 t345, .slice Ao12 t346.length co12] 27 (0, 0)) d10_3 hb); have n4_ := ak (below_step d10_1 hb); clear HO348; clear HO354; clear BK349; clear HB; have HO348 := n0_; have HO354 := n1_; have HO359 := n2_; have BK349 := n3_; have HB := n4_; clear n0_ n1_ n2_ n3_ n4_
        (try clear hb)
        (try clear hb2)
        (try clear hk)
        (try clear hi)
        (try clear ho0)
        refine hK.out _ _ (hb10_3 BK349.out) (fun hHeld => ?_); clear hK K; refine norm_ (a' := ?_) ?_ ?_; rotate_left
        · show Act.put _ (some 25) _ = _
          simp only [Act.put, pa10_1, pa10_2, pa10_3, i64_w, i32_w]; rfl
        refine pure_ (i := 11) (N := some 26) (v := ?_) (a' := ?_) m10_26 rfl rfl (any_of HT_.out (by kernel_rfl)) (fun _ _ _ h => h) (Or.inl ⟨by rfl, ?_⟩) ?_ ?_; rotate_left
        · intro w'
          go_simp; (with_reducible rfl)
        rotate_left
        · simp only [Act.put, pa10_1, pa10_2, pa10_3, i64_w, i32_w]
          rfl
        refine pure_ (i := 12) (N := some 27) (v := ?_) (a' := ?_) m10_28 rfl rfl (any_of HT_.out (by kernel_rfl)) (fun _ _ _ h => h) (Or.inl ⟨by rfl, ?_⟩) ?_ ?_; rotate_left
        · intro w'
          go_simp; (with_reducible rfl)
        rotate_left
        · simp only [Act.put, pa10_1, pa10_2, pa10_3, i64_w, i32_w]
          rfl
        refine pure_ (i := 13) (N := some 28) (v := ?_) (a' := ?_) m10_30 rfl rfl (any_of HT_.out (by kernel_rfl)) (fun _ _ _ h => h) (Or.inl ⟨by rfl, ?_⟩) ?_ ?_; rotate_left
        · intro w'
          go_simp; (with_reducible rfl)
        rotate_left
        · simp only [Act.put, pa10_1, pa10_2, pa10_3, i64_w, i32_w]
          rfl
        refine pure_ (i := 14) (N := some 29) (v := ?_) (a' := ?_) m10_32 rfl rfl (any_of HT_.out (by kernel_rfl)) (fun _ _ _ h => h) (Or.inl ⟨by rfl, ?_⟩) ?_ ?_; rotate_left
        · intro w'
          go_simp; (with_reducible rfl)
        rotate_left
        · simp only [Act.put, pa10_1, pa10_2, pa10_3, i64_w, i32_w]
          rfl
        refine pure_ (i := 15) (N := some 30) (v := ?_) (a' := ?_) m10_34 rfl rfl (any_of HT_.out (by kernel_rfl)) (fun _ _ _ h => h) (Or.inl ⟨by rfl, ?_⟩) ?_ ?_; rotate_left
        · intro w'
          go_simp; (with_reducible rfl)
        rotate_left
        · simp only [Act.put, pa10_1, pa10_2, pa10_3, i64_w, i32_w]
          rfl
        refine take_ (i := 16) (N := some 31) (v := ?_) (a' := ?_) m10_36 rfl rfl (take_ofW HT_.out HW_.out (by kernel_rfl)) (fun _ _ _ h => h) (Or.inl ⟨by rfl, ?_⟩) hHeld ?_ ?_; rotate_left
        · rintro w' ⟨s0, s1, s2⟩
          go_simp; (with_reducible rfl)
        rotate_left
        · simp only [Act.put, pa10_1, pa10_2, pa10_3, i64_w, i32_w]
          rfl
        refine pure_ (i := 17) (N := some 32) (v := ?_) (a' := ?_) m10_38 rfl rfl (any_of HT_.out (by kernel_rfl)) (fun _ _ _ h => h) (Or.inl ⟨by rfl, ?_⟩) ?_ ?_; rotate_left
        · intro w'
          go_simp; (with_reducible rfl)
        rotate_left
        · simp only [Act.put, pa10_1, pa10_2, pa10_3, i64_w, i32_w]
          rfl
        refine pure_ (i := 18) (N := some 33) (v := ?_) (a' := ?_) m10_40 rfl rfl (any_of HT_.out (by kernel_rfl)) (fun _ _ _ h => h) (Or.inl ⟨by rfl, ?_⟩) ?_ ?_; rotate_left
        · intro w'
          go_simp; (with_reducible rfl)
        rotate_left
        · simp only [Act.put, pa10_1, pa10_2, pa10_3, i64_w, i32_w]
          rfl
        refine pure_ (i := 19) (N := some 34) (v := ?_) (a' := ?_) m10_42 rfl rfl (any_of HT_.out (by kernel_rfl)) (fun _ _ _ h => h) (Or.inl ⟨by rfl, ?_⟩) ?_ ?_; rotate_left
        · intro w'
          go_simp; (with_reducible rfl)
        rotate_left
        · simp only [Act.put, pa10_1, pa10_2, pa10_3, i64_w, i32_w]
          rfl
        refine pure_ (i := 22) (N := some 37) (v := ?_) (a' := ?_) #[true, true, true, true, true, true, true, true, true, true, true, true, true, true, true, true, true, true, true, true, false, false, true, false, false, false, false, false] rfl rfl (any_of HT_.out (by kernel_rfl)) (fun _ _ _ h => h) (Or.inl ⟨by rfl, ?_⟩) ?_ ?_; rotate_left
        · intro w'
          go_simp; (with_reducible rfl)
        rotate_left
        · simp only [Act.put, pa10_1, pa10_2, pa10_3, i64_w, i32_w]
          rfl
        refine take_ (i := 23) (N := some 38) (v := ?_) (a' := ?_) #[true, true, true, true, true, true, true, true, true, true, true, true, true, true, true, true, true, true, true, true, false, false, true, true, false, false, false, false] rfl rfl (take_ofW HT_.out HW_.out (by kernel_rfl)) (fun _ _ _ h => h) (Or.inl ⟨by rfl, ?_⟩) hHeld ?_ ?_; rotate_left
        · rintro w' ⟨s0, s1, s2⟩
          go_simp; (with_reducible rfl)
        rotate_left
        · simp only [Act.put, pa10_1, pa10_2, pa10_3, i64_w, i32_w]
          rfl
        refine pure_ (i := 24) (N := some 39) (v := ?_) (a' := ?_) #[true, true, true, true, true, true, true, true, true, true, true, true, true, true, true, true, true, true, true, true, false, false, true, true, true, false, false, false] rfl rfl (any_of HT_.out (by kernel_rfl)) (fun _ _ _ h => h) (Or.inl ⟨by rfl, ?_⟩) ?_ ?_; rotate_left
        · intro w'
          go_simp; (with_reducible rfl)
        rotate_left
        · simp only [Act.put, pa10_1, pa10_2, pa10_3, i64_w, i32_w]
          rfl
        refine one_ (i := 20) (N := some 35) #[true, true, true, true, true, true, true, true, true, true, true, true, true, true, true, true, true, true, true, true, true, false, true, true, true, false, false, false] rfl rfl (one_of HT_.out (by kernel_rfl)) (by decide) (fun K hK => ?_); refine goes_ Tryz.func9 (by kernel_rfl) rfl #[.string t343] (by rfl) rfl rfl d10_2 ?_; (with_reducible refine (impl_SpotOf.calls kj2 t343 t360 t361 _ ?side1 A18.out).mono ?_)
        (case side1 => exact Lz.below HLZ.out d10_1)
        rintro e w23 ⟨rfl, hb⟩; refine ⟨_, rfl, ?_⟩; have n0_ := ak (Kd.R_below d10_4 hb); have n1_ := ak (Kd.R_below d10_13 hb); have n2_ := ak (Kd.R_below (by (with_reducible repeat (first | apply Kd.R_alloc | apply Kd.R_drewN | apply Kd.R_drew)); exact HO359.out) hb); have n3_ := ak (blk_below (g := gb349) (o := .cells #[.int .i64 t344, .int .i64 t345, .slice Ao12 t346.length co12] 27 (0, 0)) d10_3 hb); have n4_ := ak (below_step d10_1 hb); clear HO348; clear HO354; clear HO359; clear BK349; clear HB; have HO348 := n0_; have HO354 := n1_; have HO359 := n2_; have BK349 := n3_; have HB := n4_; clear n0_ n1_ n2_ n3_ n4_
        (try clear hb)
        (try clear hb2)
        (try clear hk)
        (try clear hi)
        refine hK.out _ _ (hb10_3 BK349.out) (fun hHeld => ?_); clear hK K; refine norm_ (a' := ?_) ?_ ?_; rotate_left
        · show Act.put _ (some 35) _ = _
          simp only [Act.put, pa10_1, pa10_2, pa10_3, i64_w, i32_w]; rfl
        refine pure_ (i := 21) (N := some 36) (v := ?_) (a' := ?_) m10_56 rfl rfl (any_of HT_.out (by kernel_rfl)) (fun _ _ _ h => h) (Or.inl ⟨by rfl, ?_⟩) ?_ ?_; rotate_left
        · intro w'
          go_simp; (with_reducible rfl)
        rotate_left
        · simp only [Act.put, pa10_1, pa10_2, pa10_3, i64_w, i32_w]
          rfl
        refine pure_ (i := 25) (N := some 40) (v := ?_) (a' := ?_) m10_58 rfl rfl (any_of HT_.out (by kernel_rfl)) (fun _ _ _ h => h) (Or.inl ⟨by rfl, ?_⟩) ?_ ?_; rotate_left
        · intro w'
          go_simp; (with_reducible rfl)
        rotate_left
        · simp only [Act.put, pa10_1, pa10_2, pa10_3, i64_w, i32_w]
          rfl
        refine pure_ (i := 26) (N := some 41) (v := ?_) (a' := ?_) m10_60 rfl rfl (any_of HT_.out (by kernel_rfl)) (fun _ _ _ h => h) (Or.inl ⟨by rfl, ?_⟩) ?_ ?_; rotate_left
        · intro w'
          go_simp; (with_reducible rfl)
        rotate_left
        · simp only [Act.put, pa10_1, pa10_2, pa10_3, i64_w, i32_w]
          rfl
        refine pure_ (i := 27) (N := some 42) (v := ?_) (a' := ?_) m10_70 rfl rfl (any_of HT_.out (by kernel_rfl)) (fun _ _ _ h => h) (Or.inl ⟨by rfl, ?_⟩) ?_ ?_; rotate_left
        · intro w'
          go_simp; (with_reducible rfl)
        rotate_left
        · simp only [Act.put, pa10_1, pa10_2, pa10_3, i64_w, i32_w]
          rfl
        refine done_ (done_of HT_.out (by kernel_rfl)) ?_
        try go_wp2
        go_meet
        case rel => exact ⟨_, ((t361 != (t346.length : Int))), d10_10, H', ⟨by have := HJ2.out; first | omega | exact Nat.le_refl _⟩, ⟨c10_13⟩, ⟨c10_2⟩, ⟨c10_3⟩⟩
       ·rw [if_neg c17] at H
        have c17b0 : (t344 == 0) = false := beq_eq_false_iff_ne.mpr c17; have c17b1 : (t344 != 0) = true := bne_iff_ne.mpr c17; have H' := ak H; clear H
        try go_wp2
        have n0_ : Aside0 (Kd.R k37 37 (((w10.setCell ⟨gb349, 0, none⟩ (.int .i64 t344)).setCell ⟨gb349, 1, none⟩ (.int .i64 t345)).setCell ⟨gb349, 2, none⟩ (.slice Ao12 t346.length co12)) w.heap.size (fun _ => True) (.slice Ao12 t346.length co12) t346) := ⟨by (with_reducible repeat (first | apply Kd.R_alloc | apply Kd.R_drewN | apply Kd.R_drew)); exact Kd.R_mono (Kd.R_far (p := ⟨gb349, 2, none⟩) (Kd.R_far (p := ⟨gb349, 1, none⟩) (Kd.R_far (p := ⟨gb349, 0, none⟩) (Kd.R_types HO348.out BK349.out (by decide)) (fun _ hk => hk.2) (.int .i64 t344)) (fun _ hk => hk.2) (.int .i64 t345)) (fun _ hk => hk.2) (.slice Ao12 t346.length co12)) (fun _ hk => trivial)⟩
        have n1_ : Aside0 ((((w10.setCell ⟨gb349, 0, none⟩ (.int .i64 t344)).setCell ⟨gb349, 1, none⟩ (.int .i64 t345)).setCell ⟨gb349, 2, none⟩ (.slice Ao12 t346.length co12)).heap[gb349]? = some (.cells #[.int .i64 t344, .int .i64 t345, .slice Ao12 t346.length co12] 27 (0, 0))) := ⟨by (with_reducible repeat first | apply b10N | apply b10D | apply b10L); refine blk_put (cs := #[.int .i64 t344, .int .i64 t345, .slice none 0 0]) ?_ 2 _ rfl; (with_reducible repeat first | apply b10N | apply b10D | apply b10L); refine blk_put (cs := #[.int .i64 t344, .int .i64 0, .slice none 0 0]) ?_ 1 _ rfl; (with_reducible repeat first | apply b10N | apply b10D | apply b10L); refine blk_put (cs := #[.int .i64 0, .int .i64 0, .slice none 0 0]) ?_ 0 _ rfl; (with_reducible repeat first | apply b10N | apply b10D | apply b10L); exact BK349.out⟩; have n2_ : Aside0 (Below w.heap.size w (((w10.setCell ⟨gb349, 0, none⟩ (.int .i64 t344)).setCell ⟨gb349, 1, none⟩ (.int .i64 t345)).setCell ⟨gb349, 2, none⟩ (.slice Ao12 t346.length co12))) := ⟨c10_3⟩
        (try clear HO348)
        (try clear BK349)
        (try clear HB)
        generalize (((w10.setCell ⟨gb349, 0, none⟩ (.int .i64 t344)).setCell ⟨gb349, 1, none⟩ (.int .i64 t345)).setCell ⟨gb349, 2, none⟩ (.slice Ao12 t346.length co12)) = w24 at n0_ n1_ n2_ ⊢; have HO348 := n0_; have BK349 := n1_; have HB := n2_; clear n0_ n1_ n2_; have n0_ := ak (Kd.R_drew HO348.out); have n1_ := ak (blk_drew BK349.out); have n2_ := ak (below_drew1 HB.out); clear HO348; clear BK349; clear HB; have HO348 := n0_; have BK349 := n1_; have HB := n2_; clear n0_ n1_ n2_; refine start_ (n := 28) (S := fun w' => w'.cell? ⟨gb349, 0, none⟩ = some (.int .i64 t344) ∧ w'.cell? ⟨gb349, 1, none⟩ = some (.int .i64 t345) ∧ w'.cell? ⟨gb349, 2, none⟩ = some (.slice Ao12 t346.length co12)) (ds := []) m10_1 (by kernel_rfl) rfl rfl (hb10_3 BK349.out) (fun hHeld => ?_); refine with_tabW laws_FnTokens.tab5 laws_FnTokens.bits5 (fun HT_ HW_ => ?_); generalize w24.drew = w25 at HO348 BK349 HB hHeld ⊢
        refine pure_ (i := 0) (N := some 15) (v := ?_) (a' := ?_) m10_3 rfl rfl (any_of HT_.out (by kernel_rfl)) (fun _ _ _ h => h) (Or.inl ⟨by rfl, ?_⟩) ?_ ?_; rotate_left
        · intro w'
          go_simp; (with_reducible rfl)
        rotate_left
        · simp only [Act.put, pa10_1, pa10_2, pa10_3, i64_w, i32_w]
          rfl
        refine pure_ (i := 2) (N := some 17) (v := ?_) (a' := ?_) m10_5 rfl rfl (any_of HT_.out (by kernel_rfl)) (fun _ _ _ h => h) (Or.inl ⟨by rfl, ?_⟩) ?_ ?_; rotate_left
        · intro w'
          go_simp; (with_reducible rfl)
        rotate_left
        · simp only [Act.put, pa10_1, pa10_2, pa10_3, i64_w, i32_w]
          rfl
        refine take_ (i := 1) (N := some 16) (v := ?_) (a' := ?_) m10_9 rfl rfl (take_ofW HT_.out HW_.out (by kernel_rfl)) (fun _ _ _ h => h) (Or.inl ⟨by rfl, ?_⟩) hHeld ?_ ?_; rotate_left
        · rintro w' ⟨s0, s1, s2⟩
          go_simp; (with_reducible rfl)
        rotate_left
        · simp only [Act.put, pa10_1, pa10_2, pa10_3, i64_w, i32_w]
          rfl
        refine one_ (i := 3) (N := some 18) m10_11 rfl rfl (one_of HT_.out (by kernel_rfl)) (by decide) (fun K hK => ?_); refine goes_ Tryz.func8 (by kernel_rfl) rfl #[.string t343] (by rfl) rfl rfl d10_2 ?_; (with_reducible refine (spec_TokensOf.calls kj2 t343 t350 t351 t352 _ A13.out).mono ?_); rintro e w26 ⟨v353, rfl, ho0, hb⟩; refine ⟨_, rfl, ?_⟩; have n0_ := ak (Kd.R_elder' d10_4 (Kd.R_base ho0) hb); have n1_ := ak (Kd.R_lower (Kd.R_new' ho0 (Kd.R_lt d10_4)) (below_size d10_1)); have n2_ := ak (blk_below (g := gb349) (o := .cells #[.int .i64 t344, .int .i64 t345, .slice Ao12 t346.length co12] 27 (0, 0)) d10_3 hb); have n3_ := ak (below_step d10_1 hb); clear HO348; clear BK349; clear HB; have HO348 := n0_; have HO354 := n1_; have BK349 := n2_; have HB := n3_; clear n0_ n1_ n2_ n3_
        (try clear hb)
        (try clear hb2)
        (try clear hk)
        (try clear hi)
        (try clear ho0)
        refine hK.out _ _ (hb10_3 BK349.out) (fun hHeld => ?_); clear hK K; refine norm_ (a' := ?_) ?_ ?_; rotate_left
        · show Act.put _ (some 18) _ = _
          simp only [Act.put, pa10_1, pa10_2, pa10_3, i64_w, i32_w]; rfl
        refine pure_ (i := 4) (N := some 19) (v := ?_) (a' := ?_) m10_13 rfl rfl (any_of HT_.out (by kernel_rfl)) (fun _ _ _ h => h) (Or.inl ⟨by rfl, ?_⟩) ?_ ?_; rotate_left
        · intro w'
          go_simp; (with_reducible rfl)
        rotate_left
        · simp only [Act.put, pa10_1, pa10_2, pa10_3, i64_w, i32_w]
          rfl
        refine pure_ (i := 5) (N := some 20) (v := ?_) (a' := ?_) m10_14 rfl rfl (any_of HT_.out (by kernel_rfl)) (fun _ _ _ h => h) (Or.inl ⟨by rfl, ?_⟩) ?_ ?_; rotate_left
        · intro w'
          go_simp; (with_reducible rfl)
        rotate_left
        · simp only [Act.put, pa10_1, pa10_2, pa10_3, i64_w, i32_w]
          rfl
        refine pure_ (i := 6) (N := some 21) (v := ?_) (a' := ?_) m10_15 rfl rfl (any_of HT_.out (by kernel_rfl)) (fun _ _ _ h => h) (Or.inl ⟨by rfl, ?_⟩) ?_ ?_; rotate_left
        · intro w'
          go_simp; (with_reducible rfl)
        rotate_left
        · simp only [Act.put, pa10_1, pa10_2, pa10_3, i64_w, i32_w]
          rfl
        refine pure_ (i := 7) (N := some 22) (v := ?_) (a' := ?_) m10_17 rfl rfl (any_of HT_.out (by kernel_rfl)) (fun _ _ _ h => h) (Or.inl ⟨by rfl, ?_⟩) ?_ ?_; rotate_left
        · intro w'
          go_simp; (with_reducible rfl)
        rotate_left
        · simp only [Act.put, pa10_1, pa10_2, pa10_3, i64_w, i32_w]
          rfl
        refine pure_ (i := 9) (N := some 24) (v := ?_) (a' := ?_) m10_18 rfl rfl (any_of HT_.out (by kernel_rfl)) (fun _ _ _ h => h) (Or.inl ⟨by rfl, ?_⟩) ?_ ?_; rotate_left
        · intro w'
          go_simp; (with_reducible rfl)
        rotate_left
        · simp only [Act.put, pa10_1, pa10_2, pa10_3, i64_w, i32_w]
          rfl
        refine take_ (i := 8) (N := some 23) (v := ?_) (a' := ?_) m10_22 rfl rfl (take_ofW HT_.out HW_.out (by kernel_rfl)) (fun _ _ _ h => h) (Or.inl ⟨by rfl, ?_⟩) hHeld ?_ ?_; rotate_left
        · rintro w' ⟨s0, s1, s2⟩
          go_simp; (with_reducible rfl)
        rotate_left
        · simp only [Act.put, pa10_1, pa10_2, pa10_3, i64_w, i32_w]
          rfl
        refine one_ (i := 10) (N := some 25) m10_24 rfl rfl (one_of HT_.out (by kernel_rfl)) (by decide) (fun K hK => ?_); refine goes_ Tryz.func8 (by kernel_rfl) rfl #[.string t343] (by rfl) rfl rfl d10_2 ?_; (with_reducible refine (spec_TokensOf.calls kj2 t343 t355 t356 t357 _ A15.out).mono ?_); rintro e w27 ⟨v358, rfl, ho0, hb⟩; refine ⟨_, rfl, ?_⟩; have n0_ := ak (Kd.R_elder' d10_4 (Kd.R_base ho0) hb); have n1_ := ak (Kd.R_elder' d10_13 (Kd.R_base ho0) hb); have n2_ := ak (Kd.R_lower (Kd.R_new' (Kd.R_new' ho0 (Kd.R_lt d10_4)) (Kd.R_lt d10_13)) (below_size d10_1)); have n3_ := ak (blk_below (g := gb349) (o := .cells #[.int .i64 t344, .int .i64 t345, .slice Ao12 t346.length co12] 27 (0, 0)) d10_3 hb); have n4_ := ak (below_step d10_1 hb); clear HO348; clear HO354; clear BK349; clear HB; have HO348 := n0_; have HO354 := n1_; have HO359 := n2_; have BK349 := n3_; have HB := n4_; clear n0_ n1_ n2_ n3_ n4_
        (try clear hb)
        (try clear hb2)
        (try clear hk)
        (try clear hi)
        (try clear ho0)
        refine hK.out _ _ (hb10_3 BK349.out) (fun hHeld => ?_); clear hK K; refine norm_ (a' := ?_) ?_ ?_; rotate_left
        · show Act.put _ (some 25) _ = _
          simp only [Act.put, pa10_1, pa10_2, pa10_3, i64_w, i32_w]; rfl
        refine pure_ (i := 11) (N := some 26) (v := ?_) (a' := ?_) m10_26 rfl rfl (any_of HT_.out (by kernel_rfl)) (fun _ _ _ h => h) (Or.inl ⟨by rfl, ?_⟩) ?_ ?_; rotate_left
        · intro w'
          go_simp; (with_reducible rfl)
        rotate_left
        · simp only [Act.put, pa10_1, pa10_2, pa10_3, i64_w, i32_w]
          rfl
        refine pure_ (i := 12) (N := some 27) (v := ?_) (a' := ?_) m10_28 rfl rfl (any_of HT_.out (by kernel_rfl)) (fun _ _ _ h => h) (Or.inl ⟨by rfl, ?_⟩) ?_ ?_; rotate_left
        · intro w'
          go_simp; (with_reducible rfl)
        rotate_left
        · simp only [Act.put, pa10_1, pa10_2, pa10_3, i64_w, i32_w]
          rfl
        refine pure_ (i := 13) (N := some 28) (v := ?_) (a' := ?_) m10_30 rfl rfl (any_of HT_.out (by kernel_rfl)) (fun _ _ _ h => h) (Or.inl ⟨by rfl, ?_⟩) ?_ ?_; rotate_left
        · intro w'
          go_simp; (with_reducible rfl)
        rotate_left
        · simp only [Act.put, pa10_1, pa10_2, pa10_3, i64_w, i32_w]
          rfl
        refine pure_ (i := 14) (N := some 29) (v := ?_) (a' := ?_) m10_32 rfl rfl (any_of HT_.out (by kernel_rfl)) (fun _ _ _ h => h) (Or.inl ⟨by rfl, ?_⟩) ?_ ?_; rotate_left
        · intro w'
          go_simp; (with_reducible rfl)
        rotate_left
        · simp only [Act.put, pa10_1, pa10_2, pa10_3, i64_w, i32_w]
          rfl
        refine pure_ (i := 15) (N := some 30) (v := ?_) (a' := ?_) m10_34 rfl rfl (any_of HT_.out (by kernel_rfl)) (fun _ _ _ h => h) (Or.inl ⟨by rfl, ?_⟩) ?_ ?_; rotate_left
        · intro w'
          go_simp; (with_reducible rfl)
        rotate_left
        · simp only [Act.put, pa10_1, pa10_2, pa10_3, i64_w, i32_w]
          rfl
        refine take_ (i := 16) (N := some 31) (v := ?_) (a' := ?_) m10_36 rfl rfl (take_ofW HT_.out HW_.out (by kernel_rfl)) (fun _ _ _ h => h) (Or.inl ⟨by rfl, ?_⟩) hHeld ?_ ?_; rotate_left
        · rintro w' ⟨s0, s1, s2⟩
          go_simp; (with_reducible rfl)
        rotate_left
        · simp only [Act.put, pa10_1, pa10_2, pa10_3, i64_w, i32_w]
          rfl
        refine pure_ (i := 17) (N := some 32) (v := ?_) (a' := ?_) m10_38 rfl rfl (any_of HT_.out (by kernel_rfl)) (fun _ _ _ h => h) (Or.inl ⟨by rfl, ?_⟩) ?_ ?_; rotate_left
        · intro w'
          go_simp; (with_reducible rfl)
        rotate_left
        · simp only [Act.put, pa10_1, pa10_2, pa10_3, i64_w, i32_w]
          rfl
        refine pure_ (i := 18) (N := some 33) (v := ?_) (a' := ?_) m10_40 rfl rfl (any_of HT_.out (by kernel_rfl)) (fun _ _ _ h => h) (Or.inl ⟨by rfl, ?_⟩) ?_ ?_; rotate_left
        · intro w'
          go_simp; (with_reducible rfl)
        rotate_left
        · simp only [Act.put, pa10_1, pa10_2, pa10_3, i64_w, i32_w]
          rfl
        refine pure_ (i := 19) (N := some 34) (v := undef) (a' := ?_) m10_42 rfl rfl (any_of HT_.out (by kernel_rfl)) (fun _ _ _ h => h) (Or.inr ⟨by rfl, rfl⟩) ?_ ?_; rotate_left
        · simp only [Act.put, pa10_1, pa10_2, pa10_3, i64_w, i32_w]
          rfl
        refine pure_ (i := 20) (N := some 35) (v := undef) (a' := ?_) m10_47 rfl rfl (any_of HT_.out (by kernel_rfl)) (fun _ _ _ h => h) (Or.inr ⟨by rfl, rfl⟩) ?_ ?_; rotate_left
        · simp only [Act.put, pa10_1, pa10_2, pa10_3, i64_w, i32_w]
          rfl
        refine pure_ (i := 21) (N := some 36) (v := undef) (a' := ?_) m10_50 rfl rfl (any_of HT_.out (by kernel_rfl)) (fun _ _ _ h => h) (Or.inr ⟨by rfl, rfl⟩) ?_ ?_; rotate_left
        · simp only [Act.put, pa10_1, pa10_2, pa10_3, i64_w, i32_w]
          rfl
        refine pure_ (i := 22) (N := some 37) (v := undef) (a' := ?_) m10_52 rfl rfl (any_of HT_.out (by kernel_rfl)) (fun _ _ _ h => h) (Or.inr ⟨by rfl, rfl⟩) ?_ ?_; rotate_left
        · simp only [Act.put, pa10_1, pa10_2, pa10_3, i64_w, i32_w]
          rfl
        refine pure_ (i := 23) (N := some 38) (v := undef) (a' := ?_) m10_54 rfl rfl (any_of HT_.out (by kernel_rfl)) (fun _ _ _ h => h) (Or.inr ⟨by rfl, rfl⟩) ?_ ?_; rotate_left
        · simp only [Act.put, pa10_1, pa10_2, pa10_3, i64_w, i32_w]
          rfl
        refine pure_ (i := 24) (N := some 39) (v := undef) (a' := ?_) m10_56 rfl rfl (any_of HT_.out (by kernel_rfl)) (fun _ _ _ h => h) (Or.inr ⟨by rfl, rfl⟩) ?_ ?_; rotate_left
        · simp only [Act.put, pa10_1, pa10_2, pa10_3, i64_w, i32_w]
          rfl
        refine pure_ (i := 25) (N := some 40) (v := undef) (a' := ?_) m10_58 rfl rfl (any_of HT_.out (by kernel_rfl)) (fun _ _ _ h => h) (Or.inr ⟨by rfl, rfl⟩) ?_ ?_; rotate_left
        · simp only [Act.put, pa10_1, pa10_2, pa10_3, i64_w, i32_w]
          rfl
        refine pure_ (i := 26) (N := some 41) (v := ?_) (a' := ?_) m10_60 rfl rfl (any_of HT_.out (by kernel_rfl)) (fun _ _ _ h => h) (Or.inl ⟨by rfl, ?_⟩) ?_ ?_; rotate_left
        · intro w'
          go_simp; (with_reducible rfl)
        rotate_left
        · simp only [Act.put, pa10_1, pa10_2, pa10_3, i64_w, i32_w]
          rfl
        refine pure_ (i := 27) (N := some 42) (v := ?_) (a' := ?_) m10_70 rfl rfl (any_of HT_.out (by kernel_rfl)) (fun _ _ _ h => h) (Or.inl ⟨by rfl, ?_⟩) ?_ ?_; rotate_left
        · intro w'
          go_simp; (with_reducible rfl)
        rotate_left
        · simp only [Act.put, pa10_1, pa10_2, pa10_3, i64_w, i32_w]
          rfl
        refine done_ (done_of HT_.out (by kernel_rfl)) ?_
        try go_wp2
        go_meet
        case rel => exact ⟨_, (false), d10_10, H', ⟨by have := HJ2.out; first | omega | exact Nat.le_refl _⟩, ⟨c10_13⟩, ⟨c10_2⟩, ⟨c10_3⟩⟩
      ·rw [if_neg c16] at H
       have c16b0 : (t345 == t356) = false := beq_eq_false_iff_ne.mpr c16; have c16b1 : (t345 != t356) = true := bne_iff_ne.mpr c16; have H' := ak H; clear H
       try go_wp2
       have n0_ : Aside0 (Kd.R k37 37 (((w10.setCell ⟨gb349, 0, none⟩ (.int .i64 t344)).setCell ⟨gb349, 1, none⟩ (.int .i64 t345)).setCell ⟨gb349, 2, none⟩ (.slice Ao12 t346.length co12)) w.heap.size (fun _ => True) (.slice Ao12 t346.length co12) t346) := ⟨by (with_reducible repeat (first | apply Kd.R_alloc | apply Kd.R_drewN | apply Kd.R_drew)); exact Kd.R_mono (Kd.R_far (p := ⟨gb349, 2, none⟩) (Kd.R_far (p := ⟨gb349, 1, none⟩) (Kd.R_far (p := ⟨gb349, 0, none⟩) (Kd.R_types HO348.out BK349.out (by decide)) (fun _ hk => hk.2) (.int .i64 t344)) (fun _ hk => hk.2) (.int .i64 t345)) (fun _ hk => hk.2) (.slice Ao12 t346.length co12)) (fun _ hk => trivial)⟩
       have n1_ : Aside0 ((((w10.setCell ⟨gb349, 0, none⟩ (.int .i64 t344)).setCell ⟨gb349, 1, none⟩ (.int .i64 t345)).setCell ⟨gb349, 2, none⟩ (.slice Ao12 t346.length co12)).heap[gb349]? = some (.cells #[.int .i64 t344, .int .i64 t345, .slice Ao12 t346.length co12] 27 (0, 0))) := ⟨by (with_reducible repeat first | apply b10N | apply b10D | apply b10L); refine blk_put (cs := #[.int .i64 t344, .int .i64 t345, .slice none 0 0]) ?_ 2 _ rfl; (with_reducible repeat first | apply b10N | apply b10D | apply b10L); refine blk_put (cs := #[.int .i64 t344, .int .i64 0, .slice none 0 0]) ?_ 1 _ rfl; (with_reducible repeat first | apply b10N | apply b10D | apply b10L); refine blk_put (cs := #[.int .i64 0, .int .i64 0, .slice none 0 0]) ?_ 0 _ rfl; (with_reducible repeat first | apply b10N | apply b10D | apply b10L); exact BK349.out⟩; have n2_ : Aside0 (Below w.heap.size w (((w10.setCell ⟨gb349, 0, none⟩ (.int .i64 t344)).setCell ⟨gb349, 1, none⟩ (.int .i64 t345)).setCell ⟨gb349, 2, none⟩ (.slice Ao12 t346.length co12))) := ⟨c10_3⟩
       (try clear HO348)
       (try clear BK349)
       (try clear HB)
       generalize (((w10.setCell ⟨gb349, 0, none⟩ (.int .i64 t344)).setCell ⟨gb349, 1, none⟩ (.int .i64 t345)).setCell ⟨gb349, 2, none⟩ (.slice Ao12 t346.length co12)) = w28 at n0_ n1_ n2_ ⊢; have HO348 := n0_; have BK349 := n1_; have HB := n2_; clear n0_ n1_ n2_; have n0_ := ak (Kd.R_drew HO348.out); have n1_ := ak (blk_drew BK349.out); have n2_ := ak (below_drew1 HB.out); clear HO348; clear BK349; clear HB; have HO348 := n0_; have BK349 := n1_; have HB := n2_; clear n0_ n1_ n2_; refine start_ (n := 28) (S := fun w' => w'.cell? ⟨gb349, 0, none⟩ = some (.int .i64 t344) ∧ w'.cell? ⟨gb349, 1, none⟩ = some (.int .i64 t345) ∧ w'.cell? ⟨gb349, 2, none⟩ = some (.slice Ao12 t346.length co12)) (ds := []) m10_1 (by kernel_rfl) rfl rfl (hb10_3 BK349.out) (fun hHeld => ?_); refine with_tabW laws_FnTokens.tab5 laws_FnTokens.bits5 (fun HT_ HW_ => ?_); generalize w28.drew = w29 at HO348 BK349 HB hHeld ⊢
       refine pure_ (i := 0) (N := some 15) (v := ?_) (a' := ?_) m10_3 rfl rfl (any_of HT_.out (by kernel_rfl)) (fun _ _ _ h => h) (Or.inl ⟨by rfl, ?_⟩) ?_ ?_; rotate_left
       · intro w'
         go_simp; (with_reducible rfl)
       rotate_left
       · simp only [Act.put, pa10_1, pa10_2, pa10_3, i64_w, i32_w]
         rfl
       refine pure_ (i := 2) (N := some 17) (v := ?_) (a' := ?_) m10_5 rfl rfl (any_of HT_.out (by kernel_rfl)) (fun _ _ _ h => h) (Or.inl ⟨by rfl, ?_⟩) ?_ ?_; rotate_left
       · intro w'
         go_simp; (with_reducible rfl)
       rotate_left
       · simp only [Act.put, pa10_1, pa10_2, pa10_3, i64_w, i32_w]
         rfl
       refine take_ (i := 1) (N := some 16) (v := ?_) (a' := ?_) m10_9 rfl rfl (take_ofW HT_.out HW_.out (by kernel_rfl)) (fun _ _ _ h => h) (Or.inl ⟨by rfl, ?_⟩) hHeld ?_ ?_; rotate_left
       · rintro w' ⟨s0, s1, s2⟩
         go_simp; (with_reducible rfl)
       rotate_left
       · simp only [Act.put, pa10_1, pa10_2, pa10_3, i64_w, i32_w]
         rfl
       refine one_ (i := 3) (N := some 18) m10_11 rfl rfl (one_of HT_.out (by kernel_rfl)) (by decide) (fun K hK => ?_); refine goes_ Tryz.func8 (by kernel_rfl) rfl #[.string t343] (by rfl) rfl rfl d10_2 ?_; (with_reducible refine (spec_TokensOf.calls kj2 t343 t350 t351 t352 _ A13.out).mono ?_); rintro e w30 ⟨v353, rfl, ho0, hb⟩; refine ⟨_, rfl, ?_⟩; have n0_ := ak (Kd.R_elder' d10_4 (Kd.R_base ho0) hb); have n1_ := ak (Kd.R_lower (Kd.R_new' ho0 (Kd.R_lt d10_4)) (below_size d10_1)); have n2_ := ak (blk_below (g := gb349) (o := .cells #[.int .i64 t344, .int .i64 t345, .slice Ao12 t346.length co12] 27 (0, 0)) d10_3 hb); have n3_ := ak (below_step d10_1 hb); clear HO348; clear BK349; clear HB; have HO348 := n0_; have HO354 := n1_; have BK349 := n2_; have HB := n3_; clear n0_ n1_ n2_ n3_
       (try clear hb)
       (try clear hb2)
       (try clear hk)
       (try clear hi)
       (try clear ho0)
       refine hK.out _ _ (hb10_3 BK349.out) (fun hHeld => ?_); clear hK K; refine norm_ (a' := ?_) ?_ ?_; rotate_left
       · show Act.put _ (some 18) _ = _
         simp only [Act.put, pa10_1, pa10_2, pa10_3, i64_w, i32_w]; rfl
       refine pure_ (i := 4) (N := some 19) (v := ?_) (a' := ?_) m10_13 rfl rfl (any_of HT_.out (by kernel_rfl)) (fun _ _ _ h => h) (Or.inl ⟨by rfl, ?_⟩) ?_ ?_; rotate_left
       · intro w'
         go_simp; (with_reducible rfl)
       rotate_left
       · simp only [Act.put, pa10_1, pa10_2, pa10_3, i64_w, i32_w]
         rfl
       refine pure_ (i := 5) (N := some 20) (v := ?_) (a' := ?_) m10_14 rfl rfl (any_of HT_.out (by kernel_rfl)) (fun _ _ _ h => h) (Or.inl ⟨by rfl, ?_⟩) ?_ ?_; rotate_left
       · intro w'
         go_simp; (with_reducible rfl)
       rotate_left
       · simp only [Act.put, pa10_1, pa10_2, pa10_3, i64_w, i32_w]
         rfl
       refine pure_ (i := 6) (N := some 21) (v := ?_) (a' := ?_) m10_15 rfl rfl (any_of HT_.out (by kernel_rfl)) (fun _ _ _ h => h) (Or.inl ⟨by rfl, ?_⟩) ?_ ?_; rotate_left
       · intro w'
         go_simp; (with_reducible rfl)
       rotate_left
       · simp only [Act.put, pa10_1, pa10_2, pa10_3, i64_w, i32_w]
         rfl
       refine pure_ (i := 7) (N := some 22) (v := ?_) (a' := ?_) m10_17 rfl rfl (any_of HT_.out (by kernel_rfl)) (fun _ _ _ h => h) (Or.inl ⟨by rfl, ?_⟩) ?_ ?_; rotate_left
       · intro w'
         go_simp; (with_reducible rfl)
       rotate_left
       · simp only [Act.put, pa10_1, pa10_2, pa10_3, i64_w, i32_w]
         rfl
       refine pure_ (i := 9) (N := some 24) (v := ?_) (a' := ?_) m10_18 rfl rfl (any_of HT_.out (by kernel_rfl)) (fun _ _ _ h => h) (Or.inl ⟨by rfl, ?_⟩) ?_ ?_; rotate_left
       · intro w'
         go_simp; (with_reducible rfl)
       rotate_left
       · simp only [Act.put, pa10_1, pa10_2, pa10_3, i64_w, i32_w]
         rfl
       refine take_ (i := 8) (N := some 23) (v := ?_) (a' := ?_) m10_22 rfl rfl (take_ofW HT_.out HW_.out (by kernel_rfl)) (fun _ _ _ h => h) (Or.inl ⟨by rfl, ?_⟩) hHeld ?_ ?_; rotate_left
       · rintro w' ⟨s0, s1, s2⟩
         go_simp; (with_reducible rfl)
       rotate_left
       · simp only [Act.put, pa10_1, pa10_2, pa10_3, i64_w, i32_w]
         rfl
       refine one_ (i := 10) (N := some 25) m10_24 rfl rfl (one_of HT_.out (by kernel_rfl)) (by decide) (fun K hK => ?_); refine goes_ Tryz.func8 (by kernel_rfl) rfl #[.string t343] (by rfl) rfl rfl d10_2 ?_; (with_reducible refine (spec_TokensOf.calls kj2 t343 t355 t356 t357 _ A15.out).mono ?_); rintro e w31 ⟨v358, rfl, ho0, hb⟩; refine ⟨_, rfl, ?_⟩; have n0_ := ak (Kd.R_elder' d10_4 (Kd.R_base ho0) hb); have n1_ := ak (Kd.R_elder' d10_13 (Kd.R_base ho0) hb); have n2_ := ak (Kd.R_lower (Kd.R_new' (Kd.R_new' ho0 (Kd.R_lt d10_4)) (Kd.R_lt d10_13)) (below_size d10_1)); have n3_ := ak (blk_below (g := gb349) (o := .cells #[.int .i64 t344, .int .i64 t345, .slice Ao12 t346.length co12] 27 (0, 0)) d10_3 hb); have n4_ := ak (below_step d10_1 hb); clear HO348; clear HO354; clear BK349; clear HB; have HO348 := n0_; have HO354 := n1_; have HO359 := n2_; have BK349 := n3_; have HB := n4_; clear n0_ n1_ n2_ n3_ n4_
       (try clear hb)
       (try clear hb2)
       (try clear hk)
       (try clear hi)
       (try clear ho0)
       refine hK.out _ _ (hb10_3 BK349.out) (fun hHeld => ?_); clear hK K; refine norm_ (a' := ?_) ?_ ?_; rotate_left
       · show Act.put _ (some 25) _ = _
         simp only [Act.put, pa10_1, pa10_2, pa10_3, i64_w, i32_w]; rfl
       refine pure_ (i := 11) (N := some 26) (v := ?_) (a' := ?_) m10_26 rfl rfl (any_of HT_.out (by kernel_rfl)) (fun _ _ _ h => h) (Or.inl ⟨by rfl, ?_⟩) ?_ ?_; rotate_left
       · intro w'
         go_simp; (with_reducible rfl)
       rotate_left
       · simp only [Act.put, pa10_1, pa10_2, pa10_3, i64_w, i32_w]
         rfl
       refine pure_ (i := 12) (N := some 27) (v := ?_) (a' := ?_) m10_28 rfl rfl (any_of HT_.out (by kernel_rfl)) (fun _ _ _ h => h) (Or.inl ⟨by rfl, ?_⟩) ?_ ?_; rotate_left
       · intro w'
         go_simp; (with_reducible rfl)
       rotate_left
       · simp only [Act.put, pa10_1, pa10_2, pa10_3, i64_w, i32_w]
         rfl
       refine pure_ (i := 13) (N := some 28) (v := ?_) (a' := ?_) m10_30 rfl rfl (any_of HT_.out (by kernel_rfl)) (fun _ _ _ h => h) (Or.inl ⟨by rfl, ?_⟩) ?_ ?_; rotate_left
       · intro w'
         go_simp; (with_reducible rfl)
       rotate_left
       · simp only [Act.put, pa10_1, pa10_2, pa10_3, i64_w, i32_w]
         rfl
       refine pure_ (i := 14) (N := some 29) (v := ?_) (a' := ?_) m10_32 rfl rfl (any_of HT_.out (by kernel_rfl)) (fun _ _ _ h => h) (Or.inl ⟨by rfl, ?_⟩) ?_ ?_; rotate_left
       · intro w'
         go_simp; (with_reducible rfl)
       rotate_left
       · simp only [Act.put, pa10_1, pa10_2, pa10_3, i64_w, i32_w]
         rfl
       refine pure_ (i := 15) (N := some 30) (v := undef) (a' := ?_) m10_34 rfl rfl (any_of HT_.out (by kernel_rfl)) (fun _ _ _ h => h) (Or.inr ⟨by rfl, rfl⟩) ?_ ?_; rotate_left
       · simp only [Act.put, pa10_1, pa10_2, pa10_3, i64_w, i32_w]
         rfl
       refine pure_ (i := 16) (N := some 31) (v := undef) (a' := ?_) m10_36 rfl rfl (any_of HT_.out (by kernel_rfl)) (fun _ _ _ h => h) (Or.inr ⟨by rfl, rfl⟩) ?_ ?_; rotate_left
       · simp only [Act.put, pa10_1, pa10_2, pa10_3, i64_w, i32_w]
         rfl
       refine pure_ (i := 17) (N := some 32) (v := undef) (a' := ?_) m10_38 rfl rfl (any_of HT_.out (by kernel_rfl)) (fun _ _ _ h => h) (Or.inr ⟨by rfl, rfl⟩) ?_ ?_; rotate_left
       · simp only [Act.put, pa10_1, pa10_2, pa10_3, i64_w, i32_w]
         rfl
       refine pure_ (i := 18) (N := some 33) (v := undef) (a' := ?_) m10_40 rfl rfl (any_of HT_.out (by kernel_rfl)) (fun _ _ _ h => h) (Or.inr ⟨by rfl, rfl⟩) ?_ ?_; rotate_left
       · simp only [Act.put, pa10_1, pa10_2, pa10_3, i64_w, i32_w]
         rfl
       refine pure_ (i := 19) (N := some 34) (v := undef) (a' := ?_) m10_42 rfl rfl (any_of HT_.out (by kernel_rfl)) (fun _ _ _ h => h) (Or.inr ⟨by rfl, rfl⟩) ?_ ?_; rotate_left
       · simp only [Act.put, pa10_1, pa10_2, pa10_3, i64_w, i32_w]
         rfl
       refine pure_ (i := 20) (N := some 35) (v := undef) (a' := ?_) m10_47 rfl rfl (any_of HT_.out (by kernel_rfl)) (fun _ _ _ h => h) (Or.inr ⟨by rfl, rfl⟩) ?_ ?_; rotate_left
       · simp only [Act.put, pa10_1, pa10_2, pa10_3, i64_w, i32_w]
         rfl
       refine pure_ (i := 21) (N := some 36) (v := undef) (a' := ?_) m10_50 rfl rfl (any_of HT_.out (by kernel_rfl)) (fun _ _ _ h => h) (Or.inr ⟨by rfl, rfl⟩) ?_ ?_; rotate_left
       · simp only [Act.put, pa10_1, pa10_2, pa10_3, i64_w, i32_w]
         rfl
       refine pure_ (i := 22) (N := some 37) (v := undef) (a' := ?_) m10_52 rfl rfl (any_of HT_.out (by kernel_rfl)) (fun _ _ _ h => h) (Or.inr ⟨by rfl, rfl⟩) ?_ ?_; rotate_left
       · simp only [Act.put, pa10_1, pa10_2, pa10_3, i64_w, i32_w]
         rfl
       refine pure_ (i := 23) (N := some 38) (v := undef) (a' := ?_) m10_54 rfl rfl (any_of HT_.out (by kernel_rfl)) (fun _ _ _ h => h) (Or.inr ⟨by rfl, rfl⟩) ?_ ?_; rotate_left
       · simp only [Act.put, pa10_1, pa10_2, pa10_3, i64_w, i32_w]
         rfl
       refine pure_ (i := 24) (N := some 39) (v := undef) (a' := ?_) m10_56 rfl rfl (any_of HT_.out (by kernel_rfl)) (fun _ _ _ h => h) (Or.inr ⟨by rfl, rfl⟩) ?_ ?_; rotate_left
       · simp only [Act.put, pa10_1, pa10_2, pa10_3, i64_w, i32_w]
         rfl
       refine pure_ (i := 25) (N := some 40) (v := undef) (a' := ?_) m10_58 rfl rfl (any_of HT_.out (by kernel_rfl)) (fun _ _ _ h => h) (Or.inr ⟨by rfl, rfl⟩) ?_ ?_; rotate_left
       · simp only [Act.put, pa10_1, pa10_2, pa10_3, i64_w, i32_w]
         rfl
       refine pure_ (i := 26) (N := some 41) (v := undef) (a' := ?_) m10_60 rfl rfl (any_of HT_.out (by kernel_rfl)) (fun _ _ _ h => h) (Or.inr ⟨by rfl, rfl⟩) ?_ ?_; rotate_left
       · simp only [Act.put, pa10_1, pa10_2, pa10_3, i64_w, i32_w]
         rfl
       refine pure_ (i := 27) (N := some 42) (v := ?_) (a' := ?_) m10_70 rfl rfl (any_of HT_.out (by kernel_rfl)) (fun _ _ _ h => h) (Or.inl ⟨by rfl, ?_⟩) ?_ ?_; rotate_left
       · intro w'
         go_simp; (with_reducible rfl)
       rotate_left
       · simp only [Act.put, pa10_1, pa10_2, pa10_3, i64_w, i32_w]
         rfl
       refine done_ (done_of HT_.out (by kernel_rfl)) ?_
       try go_wp2
       go_meet
       case rel => exact ⟨_, (true), d10_10, H', ⟨by have := HJ2.out; first | omega | exact Nat.le_refl _⟩, ⟨c10_13⟩, ⟨c10_2⟩, ⟨c10_3⟩⟩
     ·rw [if_neg c14] at H
      have c14b0 : (t344 == t350) = false := beq_eq_false_iff_ne.mpr c14; have c14b1 : (t344 != t350) = true := bne_iff_ne.mpr c14
      (first | rw [c14b0] | (simp only [i64_w, i32_w]; rw [c14b0]) | skip)
      have H' := ak H; clear H
      try go_wp2
      have n0_ : Aside0 (Kd.R k37 37 (((w10.setCell ⟨gb349, 0, none⟩ (.int .i64 t344)).setCell ⟨gb349, 1, none⟩ (.int .i64 t345)).setCell ⟨gb349, 2, none⟩ (.slice Ao12 t346.length co12)) w.heap.size (fun _ => True) (.slice Ao12 t346.length co12) t346) := ⟨by (with_reducible repeat (first | apply Kd.R_alloc | apply Kd.R_drewN | apply Kd.R_drew)); exact Kd.R_mono (Kd.R_far (p := ⟨gb349, 2, none⟩) (Kd.R_far (p := ⟨gb349, 1, none⟩) (Kd.R_far (p := ⟨gb349, 0, none⟩) (Kd.R_types HO348.out BK349.out (by decide)) (fun _ hk => hk.2) (.int .i64 t344)) (fun _ hk => hk.2) (.int .i64 t345)) (fun _ hk => hk.2) (.slice Ao12 t346.length co12)) (fun _ hk => trivial)⟩
      have n1_ : Aside0 ((((w10.setCell ⟨gb349, 0, none⟩ (.int .i64 t344)).setCell ⟨gb349, 1, none⟩ (.int .i64 t345)).setCell ⟨gb349, 2, none⟩ (.slice Ao12 t346.length co12)).heap[gb349]? = some (.cells #[.int .i64 t344, .int .i64 t345, .slice Ao12 t346.length co12] 27 (0, 0))) := ⟨by (with_reducible repeat first | apply b10N | apply b10D | apply b10L); refine blk_put (cs := #[.int .i64 t344, .int .i64 t345, .slice none 0 0]) ?_ 2 _ rfl; (with_reducible repeat first | apply b10N | apply b10D | apply b10L); refine blk_put (cs := #[.int .i64 t344, .int .i64 0, .slice none 0 0]) ?_ 1 _ rfl; (with_reducible repeat first | apply b10N | apply b10D | apply b10L); refine blk_put (cs := #[.int .i64 0, .int .i64 0, .slice none 0 0]) ?_ 0 _ rfl; (with_reducible repeat first | apply b10N | apply b10D | apply b10L); exact BK349.out⟩; have n2_ : Aside0 (Below w.heap.size w (((w10.setCell ⟨gb349, 0, none⟩ (.int .i64 t344)).setCell ⟨gb349, 1, none⟩ (.int .i64 t345)).setCell ⟨gb349, 2, none⟩ (.slice Ao12 t346.length co12))) := ⟨c10_3⟩
      (try clear HO348)
      (try clear BK349)
      (try clear HB)
      generalize (((w10.setCell ⟨gb349, 0, none⟩ (.int .i64 t344)).setCell ⟨gb349, 1, none⟩ (.int .i64 t345)).setCell ⟨gb349, 2, none⟩ (.slice Ao12 t346.length co12)) = w32 at n0_ n1_ n2_ ⊢; have HO348 := n0_; have BK349 := n1_; have HB := n2_; clear n0_ n1_ n2_; have n0_ := ak (Kd.R_drew HO348.out); have n1_ := ak (blk_drew BK349.out); have n2_ := ak (below_drew1 HB.out); clear HO348; clear BK349; clear HB; have HO348 := n0_; have BK349 := n1_; have HB := n2_; clear n0_ n1_ n2_; refine start_ (n := 28) (S := fun w' => w'.cell? ⟨gb349, 0, none⟩ = some (.int .i64 t344) ∧ w'.cell? ⟨gb349, 1, none⟩ = some (.int .i64 t345) ∧ w'.cell? ⟨gb349, 2, none⟩ = some (.slice Ao12 t346.length co12)) (ds := []) m10_1 (by kernel_rfl) rfl rfl (hb10_3 BK349.out) (fun hHeld => ?_); refine with_tabW laws_FnTokens.tab5 laws_FnTokens.bits5 (fun HT_ HW_ => ?_); generalize w32.drew = w33 at HO348 BK349 HB hHeld ⊢
      refine pure_ (i := 0) (N := some 15) (v := ?_) (a' := ?_) m10_3 rfl rfl (any_of HT_.out (by kernel_rfl)) (fun _ _ _ h => h) (Or.inl ⟨by rfl, ?_⟩) ?_ ?_; rotate_left
      · intro w'
        go_simp; (with_reducible rfl)
      rotate_left
      · simp only [Act.put, pa10_1, pa10_2, pa10_3, i64_w, i32_w]
        rfl
      refine pure_ (i := 2) (N := some 17) (v := ?_) (a' := ?_) m10_5 rfl rfl (any_of HT_.out (by kernel_rfl)) (fun _ _ _ h => h) (Or.inl ⟨by rfl, ?_⟩) ?_ ?_; rotate_left
      · intro w'
        go_simp; (with_reducible rfl)
      rotate_left
      · simp only [Act.put, pa10_1, pa10_2, pa10_3, i64_w, i32_w]
        rfl
      refine take_ (i := 1) (N := some 16) (v := ?_) (a' := ?_) m10_9 rfl rfl (take_ofW HT_.out HW_.out (by kernel_rfl)) (fun _ _ _ h => h) (Or.inl ⟨by rfl, ?_⟩) hHeld ?_ ?_; rotate_left
      · rintro w' ⟨s0, s1, s2⟩
        go_simp; (with_reducible rfl)
      rotate_left
      · simp only [Act.put, pa10_1, pa10_2, pa10_3, i64_w, i32_w]
        rfl
      refine one_ (i := 3) (N := some 18) m10_11 rfl rfl (one_of HT_.out (by kernel_rfl)) (by decide) (fun K hK => ?_); refine goes_ Tryz.func8 (by kernel_rfl) rfl #[.string t343] (by rfl) rfl rfl d10_2 ?_; (with_reducible refine (spec_TokensOf.calls kj2 t343 t350 t351 t352 _ A13.out).mono ?_); rintro e w34 ⟨v353, rfl, ho0, hb⟩; refine ⟨_, rfl, ?_⟩; have n0_ := ak (Kd.R_elder' d10_4 (Kd.R_base ho0) hb); have n1_ := ak (Kd.R_lower (Kd.R_new' ho0 (Kd.R_lt d10_4)) (below_size d10_1)); have n2_ := ak (blk_below (g := gb349) (o := .cells #[.int .i64 t344, .int .i64 t345, .slice Ao12 t346.length co12] 27 (0, 0)) d10_3 hb); have n3_ := ak (below_step d10_1 hb); clear HO348; clear BK349; clear HB; have HO348 := n0_; have HO354 := n1_; have BK349 := n2_; have HB := n3_; clear n0_ n1_ n2_ n3_
      (try clear hb)
      (try clear hb2)
      (try clear hk)
      (try clear hi)
      (try clear ho0)
      refine hK.out _ _ (hb10_3 BK349.out) (fun hHeld => ?_); clear hK K; refine norm_ (a' := ?_) ?_ ?_; rotate_left
      · show Act.put _ (some 18) _ = _
        simp only [Act.put, pa10_1, pa10_2, pa10_3, i64_w, i32_w]; rfl
      refine pure_ (i := 4) (N := some 19) (v := ?_) (a' := ?_) m10_13 rfl rfl (any_of HT_.out (by kernel_rfl)) (fun _ _ _ h => h) (Or.inl ⟨by rfl, ?_⟩) ?_ ?_; rotate_left
      · intro w'
        go_simp; (with_reducible rfl)
      rotate_left
      · simp only [Act.put, pa10_1, pa10_2, pa10_3, i64_w, i32_w]
        rfl
      refine pure_ (i := 5) (N := some 20) (v := ?_) (a' := ?_) m10_14 rfl rfl (any_of HT_.out (by kernel_rfl)) (fun _ _ _ h => h) (Or.inl ⟨by rfl, ?_⟩) ?_ ?_; rotate_left
      · intro w'
        go_simp; (with_reducible rfl)
      rotate_left
      · simp only [Act.put, pa10_1, pa10_2, pa10_3, i64_w, i32_w]
        rfl
      refine pure_ (i := 6) (N := some 21) (v := ?_) (a' := ?_) m10_15 rfl rfl (any_of HT_.out (by kernel_rfl)) (fun _ _ _ h => h) (Or.inl ⟨by rfl, ?_⟩) ?_ ?_; rotate_left
      · intro w'
        go_simp; (with_reducible rfl)
      rotate_left
      · simp only [Act.put, pa10_1, pa10_2, pa10_3, i64_w, i32_w]
        rfl
      refine pure_ (i := 7) (N := some 22) (v := undef) (a' := ?_) m10_17 rfl rfl (any_of HT_.out (by kernel_rfl)) (fun _ _ _ h => h) (Or.inr ⟨by rfl, rfl⟩) ?_ ?_; rotate_left
      · simp only [Act.put, pa10_1, pa10_2, pa10_3, i64_w, i32_w]
        rfl
      refine pure_ (i := 8) (N := some 23) (v := undef) (a' := ?_) #[true, true, true, true, true, true, true, true, true, false, false, false, false, false, false, false, false, false, false, false, false, false, false, false, false, false, false, false] rfl rfl (any_of HT_.out (by kernel_rfl)) (fun _ _ _ h => h) (Or.inr ⟨by rfl, rfl⟩) ?_ ?_; rotate_left
      · simp only [Act.put, pa10_1, pa10_2, pa10_3, i64_w, i32_w]
        rfl
      refine pure_ (i := 9) (N := some 24) (v := undef) (a' := ?_) m10_22 rfl rfl (any_of HT_.out (by kernel_rfl)) (fun _ _ _ h => h) (Or.inr ⟨by rfl, rfl⟩) ?_ ?_; rotate_left
      · simp only [Act.put, pa10_1, pa10_2, pa10_3, i64_w, i32_w]
        rfl
      refine pure_ (i := 10) (N := some 25) (v := undef) (a' := ?_) m10_24 rfl rfl (any_of HT_.out (by kernel_rfl)) (fun _ _ _ h => h) (Or.inr ⟨by rfl, rfl⟩) ?_ ?_; rotate_left
      · simp only [Act.put, pa10_1, pa10_2, pa10_3, i64_w, i32_w]
        rfl
      refine pure_ (i := 11) (N := some 26) (v := undef) (a' := ?_) m10_26 rfl rfl (any_of HT_.out (by kernel_rfl)) (fun _ _ _ h => h) (Or.inr ⟨by rfl, rfl⟩) ?_ ?_; rotate_left
      · simp only [Act.put, pa10_1, pa10_2, pa10_3, i64_w, i32_w]
        rfl
      refine pure_ (i := 12) (N := some 27) (v := undef) (a' := ?_) m10_28 rfl rfl (any_of HT_.out (by kernel_rfl)) (fun _ _ _ h => h) (Or.inr ⟨by rfl, rfl⟩) ?_ ?_; rotate_left
      · simp only [Act.put, pa10_1, pa10_2, pa10_3, i64_w, i32_w]
        rfl
      refine pure_ (i := 13) (N := some 28) (v := ?_) (a' := ?_) m10_30 rfl rfl (any_of HT_.out (by kernel_rfl)) (fun _ _ _ h => h) (Or.inl ⟨by rfl, ?_⟩) ?_ ?_; rotate_left
      · intro w'
        go_simp; (with_reducible rfl)
      rotate_left
      · simp only [Act.put, pa10_1, pa10_2, pa10_3, i64_w, i32_w]
        rfl
      refine pure_ (i := 14) (N := some 29) (v := ?_) (a' := ?_) m10_32 rfl rfl (any_of HT_.out (by kernel_rfl)) (fun _ _ _ h => h) (Or.inl ⟨by rfl, ?_⟩) ?_ ?_; rotate_left
      · intro w'
        go_simp; (with_reducible rfl)
      rotate_left
      · simp only [Act.put, pa10_1, pa10_2, pa10_3, i64_w, i32_w]
        rfl
      refine pure_ (i := 15) (N := some 30) (v := undef) (a' := ?_) m10_34 rfl rfl (any_of HT_.out (by kernel_rfl)) (fun _ _ _ h => h) (Or.inr ⟨by rfl, rfl⟩) ?_ ?_; rotate_left
      · simp only [Act.put, pa10_1, pa10_2, pa10_3, i64_w, i32_w]
        rfl
      refine pure_ (i := 16) (N := some 31) (v := undef) (a' := ?_) m10_36 rfl rfl (any_of HT_.out (by kernel_rfl)) (fun _ _ _ h => h) (Or.inr ⟨by rfl, rfl⟩) ?_ ?_; rotate_left
      · simp only [Act.put, pa10_1, pa10_2, pa10_3, i64_w, i32_w]
        rfl
      refine pure_ (i := 17) (N := some 32) (v := undef) (a' := ?_) m10_38 rfl rfl (any_of HT_.out (by kernel_rfl)) (fun _ _ _ h => h) (Or.inr ⟨by rfl, rfl⟩) ?_ ?_; rotate_left
      · simp only [Act.put, pa10_1, pa10_2, pa10_3, i64_w, i32_w]
        rfl
      refine pure_ (i := 18) (N := some 33) (v := undef) (a' := ?_) m10_40 rfl rfl (any_of HT_.out (by kernel_rfl)) (fun _ _ _ h => h) (Or.inr ⟨by rfl, rfl⟩) ?_ ?_; rotate_left
      · simp only [Act.put, pa10_1, pa10_2, pa10_3, i64_w, i32_w]
        rfl
      refine pure_ (i := 19) (N := some 34) (v := undef) (a' := ?_) m10_42 rfl rfl (any_of HT_.out (by kernel_rfl)) (fun _ _ _ h => h) (Or.inr ⟨by rfl, rfl⟩) ?_ ?_; rotate_left
      · simp only [Act.put, pa10_1, pa10_2, pa10_3, i64_w, i32_w]
        rfl
      refine pure_ (i := 20) (N := some 35) (v := undef) (a' := ?_) m10_47 rfl rfl (any_of HT_.out (by kernel_rfl)) (fun _ _ _ h => h) (Or.inr ⟨by rfl, rfl⟩) ?_ ?_; rotate_left
      · simp only [Act.put, pa10_1, pa10_2, pa10_3, i64_w, i32_w]
        rfl
      refine pure_ (i := 21) (N := some 36) (v := undef) (a' := ?_) m10_50 rfl rfl (any_of HT_.out (by kernel_rfl)) (fun _ _ _ h => h) (Or.inr ⟨by rfl, rfl⟩) ?_ ?_; rotate_left
      · simp only [Act.put, pa10_1, pa10_2, pa10_3, i64_w, i32_w]
        rfl
      refine pure_ (i := 22) (N := some 37) (v := undef) (a' := ?_) m10_52 rfl rfl (any_of HT_.out (by kernel_rfl)) (fun _ _ _ h => h) (Or.inr ⟨by rfl, rfl⟩) ?_ ?_; rotate_left
      · simp only [Act.put, pa10_1, pa10_2, pa10_3, i64_w, i32_w]
        rfl
      refine pure_ (i := 23) (N := some 38) (v := undef) (a' := ?_) m10_54 rfl rfl (any_of HT_.out (by kernel_rfl)) (fun _ _ _ h => h) (Or.inr ⟨by rfl, rfl⟩) ?_ ?_; rotate_left
      · simp only [Act.put, pa10_1, pa10_2, pa10_3, i64_w, i32_w]
        rfl
      refine pure_ (i := 24) (N := some 39) (v := undef) (a' := ?_) m10_56 rfl rfl (any_of HT_.out (by kernel_rfl)) (fun _ _ _ h => h) (Or.inr ⟨by rfl, rfl⟩) ?_ ?_; rotate_left
      · simp only [Act.put, pa10_1, pa10_2, pa10_3, i64_w, i32_w]
        rfl
      refine pure_ (i := 25) (N := some 40) (v := undef) (a' := ?_) m10_58 rfl rfl (any_of HT_.out (by kernel_rfl)) (fun _ _ _ h => h) (Or.inr ⟨by rfl, rfl⟩) ?_ ?_; rotate_left
      · simp only [Act.put, pa10_1, pa10_2, pa10_3, i64_w, i32_w]
        rfl
      refine pure_ (i := 26) (N := some 41) (v := undef) (a' := ?_) m10_60 rfl rfl (any_of HT_.out (by kernel_rfl)) (fun _ _ _ h => h) (Or.inr ⟨by rfl, rfl⟩) ?_ ?_; rotate_left
      · simp only [Act.put, pa10_1, pa10_2, pa10_3, i64_w, i32_w]
        rfl
      refine pure_ (i := 27) (N := some 42) (v := ?_) (a' := ?_) m10_70 rfl rfl (any_of HT_.out (by kernel_rfl)) (fun _ _ _ h => h) (Or.inl ⟨by rfl, ?_⟩) ?_ ?_; rotate_left
      · intro w'
        go_simp; (with_reducible rfl)
      rotate_left
      · simp only [Act.put, pa10_1, pa10_2, pa10_3, i64_w, i32_w]
        rfl
      refine done_ (done_of HT_.out (by kernel_rfl)) ?_
      try go_wp2
      go_meet
      case rel => exact ⟨_, (true), d10_10, H', ⟨by have := HJ2.out; first | omega | exact Nat.le_refl _⟩, ⟨c10_13⟩, ⟨c10_2⟩, ⟨c10_3⟩⟩
    case rest =>
     clear HC7
     (try clear p2); (try clear c3); (try clear c4); (try clear c5); (try clear c6); (try clear c7); (try clear hcz11_0); (try clear hcz11_1); (try clear hcz11_2); (try clear hfz11_0); (try clear hfz11_1); (try clear hfz11_2)
     obtain ⟨kq, x42_6, rfl, HA, HJ6, HO_350002, BK349, HB⟩ := hcut
     cases kq with
     | zero => exact absurd HA.out (by simp [laws_FnTokens.j1])
     | succ kj6 =>
      have H := HA.out; clear HA; simp only [laws_FnTokens.j1] at H; have HC35 := ak H; clear H; go_upto_if 42 with (fail); go_cut [] (fun wc => ∃ (kq : Nat), Aside0 (laws_FnTokens.j2 kq l0 = some r) ∧ Aside0 (kq ≤ kj6) ∧ Aside0 (Kd.R k37 37 wc w.heap.size (fun _ => True) (.slice Ao12 t346.length co12) t346) ∧ Aside0 (wc.heap[gb349]? = some (.cells #[.int .i64 t344, .int .i64 t345, (.slice Ao12 t346.length co12)] 27 (0, 0))) ∧ Aside0 (Below w.heap.size w wc))
      case first =>
       have H := HC35.out; clear HC35; by_cases c36 : x42_6 = true
       ·subst c36
        rw [if_pos rfl] at H; obtain rfl := Option.some.inj H; go_wp2; go_ret; exact ⟨c10_10, c10_3⟩
       ·replace c36 := Bool.eq_false_iff.mpr c36
        subst c36
        rw [if_neg (show ¬ (false = true) by decide)] at H; have H' := ak H; clear H; go_wp2; go_meet
        case rel => exact ⟨_, H', ⟨by have := HJ2.out; have := HJ6.out; first | omega | exact Nat.le_refl _⟩, ⟨c10_5⟩, ⟨c10_2⟩, ⟨c10_3⟩⟩
      case rest =>
       clear HC35
       (try clear c1); (try clear p2); (try clear c3); (try clear c4); (try clear c5); (try clear c6); (try clear c7); (try clear c8); (try clear c14); (try clear c14b0); (try clear c14b1); (try clear c16); (try clear c16b0); (try clear c16b1); (try clear hcz11_0); (try clear hcz11_1); (try clear hcz11_2); (try clear hfz11_0); (try clear hfz11_1); (try clear hfz11_2); (try clear p2)
       obtain ⟨kq, HA, HJ34, HO_350002, BK349, HB⟩ := hcut
       cases kq with
       | zero => exact absurd HA.out (by simp [laws_FnTokens.j2])
       | succ kj34 =>
        have H := HA.out; clear HA; simp only [laws_FnTokens.j2] at H; replace H := Option.bind_eq_some_iff.mp H; obtain ⟨t362, A370, H⟩ := H; (try dsimp -simprocs only at H); have A37 := ak A370; clear A370; replace H := Option.bind_eq_some_iff.mp H; obtain ⟨⟨t365, t366⟩, A380, H⟩ := H; (try dsimp -simprocs only at H); have A38 := ak A380; clear A380; have HC39 := ak H; clear H
        go_upto_if 49 with (first | ((with_reducible refine gate_callee (f := 10) rfl ?_); refine goesL_ (some 44) rfl rfl Tryz.func10 (by kernel_rfl) rfl #[.slice A0 l0.length c0] rfl d10_2 ?_; (with_reducible refine (spec_DrawTokensText.calls kj34 _ _ l0 t362 _ ?side1 ?side2 A37.out).mono ?_); (case side1 => repeat (first | exact (Kd.C_below HR0.out HB.out) | (with_reducible refine Kd.C_alloc ?_ _) | (with_reducible refine Kd.C_drewN ?_ _) | (with_reducible refine Kd.C_drew ?_))); (case side2 => exact HC0.out); rintro e w40 ⟨v363, rfl, ho0, hb⟩; refine ⟨_, rfl, ?_⟩; have n0_ := ak (Kd.R_elder' d10_7 (Kd.R_base ho0) hb); have n1_ := ak (Kd.R_lower (Kd.R_new' ho0 (Kd.R_lt d10_7)) (below_size d10_1)); have n2_ := ak (blk_below (g := gb349) (o := .cells #[.int .i64 t344, .int .i64 t345, .slice Ao12 t346.length co12] 27 (0, 0)) d10_3 hb); have n3_ := ak (below_step d10_1 hb); clear HO_350002 BK349 HB; have HO_350002 := n0_; have HO364 := n1_; have BK349 := n2_; have HB := n3_; clear n0_ n1_ n2_ n3_; (try clear hb); (try clear ho0); obtain ⟨Ao41, co41, eo41⟩ := Kd.R_slice HO364.out; subst eo41) | ((with_reducible refine gate_callee (f := 11) rfl ?_); refine goesL_ (some 46) rfl rfl Tryz.func11 (by kernel_rfl) rfl #[.slice Ao41 t362.length co41] rfl d10_2 ?_; (with_reducible refine (impl_TokensText.calls kj34 _ _ t362 t365 t366 _ ?side1 ?side2 ?side3 A38.out).mono ?_); (case side1 => repeat (first | exact (Kd.R_reads' HO364.out).2.2 | (with_reducible refine Kd.C_alloc ?_ _) | (with_reducible refine Kd.C_drewN ?_ _) | (with_reducible refine Kd.C_drew ?_))); (case side2 => exact (Kd.R_reads' HO364.out).2.1); (case side3 => exact Lz.below HLZ.out d10_1); rintro e w42 ⟨rfl, hb⟩; refine ⟨_, rfl, ?_⟩; have n0_ := ak (Kd.R_below d10_7 hb); have n1_ := ak (Kd.R_below (by (with_reducible repeat (first | apply Kd.R_alloc | apply Kd.R_drewN | apply Kd.R_drew)); exact HO364.out) hb); have n2_ := ak (blk_below (g := gb349) (o := .cells #[.int .i64 t344, .int .i64 t345, .slice Ao12 t346.length co12] 27 (0, 0)) d10_3 hb); have n3_ := ak (below_step d10_1 hb); clear HO_350002 HO364 BK349 HB; have HO_350002 := n0_; have HO364 := n1_; have BK349 := n2_; have HB := n3_; clear n0_ n1_ n2_ n3_; (try clear hb)) | ((with_reducible refine gate_dst (N := 6) rfl ?_); refine box_event ?hg (N := 6) ?hd (cs := #[.int .i64 0, .string (⟨#[]⟩ : ByteArray)]) (t := 34) ?hr ?_; (case hd => rfl); (case hg => rfl); (case hr => first | (go_simp; done) | (go_simp; rfl)); intro gb367 hg w43 hbox hb; have n0_ := ak (Kd.R_below d10_7 hb); have n1_ := ak (Kd.R_below (by (with_reducible repeat (first | apply Kd.R_alloc | apply Kd.R_drewN | apply Kd.R_drew)); exact HO364.out) hb); have n2_ := ak (blk_below (g := gb349) (o := .cells #[.int .i64 t344, .int .i64 t345, .slice Ao12 t346.length co12] 27 (0, 0)) d10_3 hb); have n3_ := ak (below_step d10_1 hb); have n4_ := ak (hbox); have n5_ := ak ((by rw [hg]; exact (below_size d10_1) : w.heap.size ≤ gb367)); have n6_ := ak ((by rw [hg]; exact (below_size d10_1) : w.heap.size ≤ gb367)); have n7_ := ak ((by rw [hg]; exact Nat.ne_of_lt (blk_lt (g := gb349) (o := .cells #[.int .i64 t344, .int .i64 t345, .slice Ao12 t346.length co12] 27 (0, 0)) d10_3) : gb349 ≠ gb367)); have n8_ := ak ((by rw [hg]; exact Nat.ne_of_gt (blk_lt (g := gb349) (o := .cells #[.int .i64 t344, .int .i64 t345, .slice Ao12 t346.length co12] 27 (0, 0)) d10_3) : gb367 ≠ gb349)); clear HO_350002 HO364 BK349 HB; have HO_350002 := n0_; have HO364 := n1_; have BK349 := n2_; have HB := n3_; have BK367 := n4_; have GW367 := n5_; have GE367 := n6_; have NB349_367 := n7_; have NB367_349 := n8_; clear n0_ n1_ n2_ n3_ n4_ n5_ n6_ n7_ n8_ hb hbox hg; have hnb44 := NB367_349.out; have hnc44 := NB349_367.out; have hcz45_0 := z10c BK367.out 0 (v := (.int .i64 0)) rfl; have hcz45_1 := z10c BK367.out 1 (v := (.string (⟨#[]⟩ : ByteArray))) rfl; have hfz45_0 := blk_frozen BK367.out 0; have hfz45_1 := blk_frozen BK367.out 1))
        (try simp only [Act.put, pa10_1, pa10_2, pa10_3])
        go_cut [] (fun wc => ∃ (kq : Nat), Aside0 (laws_FnTokens.j3 kq t362 t365 t366 = some r) ∧ Aside0 (kq ≤ kj34) ∧ Aside0 (Kd.R k37 37 wc w.heap.size (fun k_ => some k_ ≠ ((.slice Ao12 t346.length co12) : Value).ownBlock) (.slice Ao41 t362.length co41) t362) ∧ Aside0 (Kd.R k37 37 wc w.heap.size (fun k_ => some k_ ≠ ((.slice Ao41 t362.length co41) : Value).ownBlock) (.slice Ao12 t346.length co12) t346) ∧ Aside0 (wc.heap[gb349]? = some (.cells #[.int .i64 t344, .int .i64 t345, (.slice Ao12 t346.length co12)] 27 (0, 0))) ∧ Aside0 (wc.heap[gb367]? = some (.cells #[.int .i64 t365, .string t366] 34 (0, 0))) ∧ Aside0 (Below w.heap.size w wc))
        case first =>
         have H := HC39.out; clear HC39; by_cases c46 : t365 = 0
         ·rw [if_pos c46] at H
          have c46b0 : (t365 == 0) = true := beq_iff_eq.mpr c46; have c46b1 : (t365 != 0) = false := bne_eq_false_iff_eq.mpr c46; clear c46
          (first | rw [c46b0] | (simp only [i64_w, i32_w]; rw [c46b0]) | skip)
          have H' := ak H; clear H; go_wp2; go_meet
          case rel => exact ⟨_, H', ⟨by have := HJ2.out; have := HJ6.out; have := HJ34.out; first | omega | exact Nat.le_refl _⟩, ⟨by (with_reducible repeat (first | apply Kd.R_alloc | apply Kd.R_drewN | apply Kd.R_drew)); exact Kd.R_mono (Kd.R_far (p := ⟨gb367, 1, none⟩) (Kd.R_far (p := ⟨gb367, 0, none⟩) (Kd.R_types HO364.out BK367.out (by decide)) (fun _ hk => hk.2) (.int .i64 t365)) (fun _ hk => hk.2) (.string t366)) (fun _ hk => hk.1.2)⟩, ⟨by (with_reducible repeat (first | apply Kd.R_alloc | apply Kd.R_drewN | apply Kd.R_drew)); exact Kd.R_mono (Kd.R_far (p := ⟨gb367, 1, none⟩) (Kd.R_far (p := ⟨gb367, 0, none⟩) (Kd.R_types HO_350002.out BK367.out (by decide)) (fun _ hk => hk.2) (.int .i64 t365)) (fun _ hk => hk.2) (.string t366)) (fun _ hk => hk.1.2)⟩, ⟨c10_14⟩, ⟨by (with_reducible repeat first | apply b10N | apply b10D | apply b10L); refine blk_put (cs := #[.int .i64 t365, .string (⟨#[]⟩ : ByteArray)]) ?_ 1 _ rfl; (with_reducible repeat first | apply b10N | apply b10D | apply b10L); refine blk_put (cs := #[.int .i64 0, .string (⟨#[]⟩ : ByteArray)]) ?_ 0 _ rfl; (with_reducible repeat first | apply b10N | apply b10D | apply b10L); exact BK367.out⟩, ⟨c10_9⟩⟩
         ·rw [if_neg c46] at H
          have c46b0 : (t365 == 0) = false := beq_eq_false_iff_ne.mpr c46; have c46b1 : (t365 != 0) = true := bne_iff_ne.mpr c46
          (first | rw [c46b0] | (simp only [i64_w, i32_w]; rw [c46b0]) | skip)
          replace H := Option.bind_eq_some_iff.mp H; obtain ⟨⟨t368, t369⟩, A470, H⟩ := H; (try dsimp -simprocs only at H); have A47 := ak A470; clear A470; obtain rfl := Option.some.inj H
          try go_wp2
          have n0_ : Aside0 (Kd.R k37 37 ((w43.setCell ⟨gb367, 0, none⟩ (.int .i64 t365)).setCell ⟨gb367, 1, none⟩ (.string t366)) w.heap.size (fun k_ => some k_ ≠ (.slice Ao41 t362.length co41 : Value).ownBlock) (.slice Ao12 t346.length co12) t346) := ⟨by (with_reducible repeat (first | apply Kd.R_alloc | apply Kd.R_drewN | apply Kd.R_drew)); exact Kd.R_mono (Kd.R_far (p := ⟨gb367, 1, none⟩) (Kd.R_far (p := ⟨gb367, 0, none⟩) (Kd.R_types HO_350002.out BK367.out (by decide)) (fun _ hk => hk.2) (.int .i64 t365)) (fun _ hk => hk.2) (.string t366)) (fun _ hk => hk.1.2)⟩; have n1_ : Aside0 (Kd.R k37 37 ((w43.setCell ⟨gb367, 0, none⟩ (.int .i64 t365)).setCell ⟨gb367, 1, none⟩ (.string t366)) w.heap.size (fun k_ => some k_ ≠ (.slice Ao12 t346.length co12 : Value).ownBlock) (.slice Ao41 t362.length co41) t362) := ⟨by (with_reducible repeat (first | apply Kd.R_alloc | apply Kd.R_drewN | apply Kd.R_drew)); exact Kd.R_mono (Kd.R_far (p := ⟨gb367, 1, none⟩) (Kd.R_far (p := ⟨gb367, 0, none⟩) (Kd.R_types HO364.out BK367.out (by decide)) (fun _ hk => hk.2) (.int .i64 t365)) (fun _ hk => hk.2) (.string t366)) (fun _ hk => hk.1.2)⟩
          have n2_ : Aside0 (((w43.setCell ⟨gb367, 0, none⟩ (.int .i64 t365)).setCell ⟨gb367, 1, none⟩ (.string t366)).heap[gb349]? = some (.cells #[.int .i64 t344, .int .i64 t345, .slice Ao12 t346.length co12] 27 (0, 0))) := ⟨c10_14⟩; have n3_ : Aside0 (((w43.setCell ⟨gb367, 0, none⟩ (.int .i64 t365)).setCell ⟨gb367, 1, none⟩ (.string t366)).heap[gb367]? = some (.cells #[.int .i64 t365, .string t366] 34 (0, 0))) := ⟨by (with_reducible repeat first | apply b10N | apply b10D | apply b10L); refine blk_put (cs := #[.int .i64 t365, .string (⟨#[]⟩ : ByteArray)]) ?_ 1 _ rfl; (with_reducible repeat first | apply b10N | apply b10D | apply b10L); refine blk_put (cs := #[.int .i64 0, .string (⟨#[]⟩ : ByteArray)]) ?_ 0 _ rfl; (with_reducible repeat first | apply b10N | apply b10D | apply b10L); exact BK367.out⟩
          have n4_ : Aside0 (Below w.heap.size w ((w43.setCell ⟨gb367, 0, none⟩ (.int .i64 t365)).setCell ⟨gb367, 1, none⟩ (.string t366))) := ⟨c10_9⟩
          (try clear HO_350002)
          (try clear HO364)
          (try clear BK349)
          (try clear BK367)
          (try clear HB)
          generalize ((w43.setCell ⟨gb367, 0, none⟩ (.int .i64 t365)).setCell ⟨gb367, 1, none⟩ (.string t366)) = w48 at n0_ n1_ n2_ n3_ n4_ ⊢; have HO_350002 := n0_; have HO364 := n1_; have BK349 := n2_; have BK367 := n3_; have HB := n4_; clear n0_ n1_ n2_ n3_ n4_; have n0_ := ak (Kd.R_drew HO_350002.out); have n1_ := ak (Kd.R_drew HO364.out); have n2_ := ak (blk_drew BK349.out); have n3_ := ak (blk_drew BK367.out); have n4_ := ak (below_drew1 HB.out); clear HO_350002; clear HO364; clear BK349; clear BK367; clear HB; have HO_350002 := n0_; have HO364 := n1_; have BK349 := n2_; have BK367 := n3_; have HB := n4_; clear n0_ n1_ n2_ n3_ n4_; refine start_ (n := 7) (S := fun w' => w'.cell? ⟨gb367, 0, none⟩ = some (.int .i64 t365) ∧ w'.cell? ⟨gb367, 1, none⟩ = some (.string t366)) (ds := []) #[false, false, false, false, false, false, false] (by kernel_rfl) rfl rfl (hb10_2 BK367.out) (fun hHeld => ?_); generalize w48.drew = w49 at HO_350002 HO364 BK349 BK367 HB hHeld ⊢; refine pure_ (i := 0) (N := some 50) (v := ?_) (a' := ?_) #[true, false, false, false, false, false, false] rfl rfl (by kernel_rfl) (fun _ _ _ h => h) (Or.inl ⟨by rfl, ?_⟩) ?_ ?_; rotate_left
          · intro w'
            go_simp; (with_reducible rfl)
          rotate_left
          · simp only [Act.put, pa10_1, pa10_2, pa10_3, i64_w, i32_w]
            rfl
          refine pure_ (i := 3) (N := some 53) (v := ?_) (a' := ?_) #[true, false, false, true, false, false, false] rfl rfl (by kernel_rfl) (fun _ _ _ h => h) (Or.inl ⟨by rfl, ?_⟩) ?_ ?_; rotate_left
          · intro w'
            go_simp; (with_reducible rfl)
          rotate_left
          · simp only [Act.put, pa10_1, pa10_2, pa10_3, i64_w, i32_w]
            rfl
          refine take_ (i := 4) (N := some 54) (v := ?_) (a' := ?_) #[true, false, false, true, true, false, false] rfl rfl (by kernel_rfl) (fun _ _ _ h => h) (Or.inl ⟨by rfl, ?_⟩) hHeld ?_ ?_; rotate_left
          · rintro w' ⟨s0, s1⟩
            go_simp; (with_reducible rfl)
          rotate_left
          · simp only [Act.put, pa10_1, pa10_2, pa10_3, i64_w, i32_w]
            rfl
          refine one_ (i := 1) (N := some 51) #[true, true, false, true, true, false, false] rfl rfl (by kernel_rfl) (by decide) (fun K hK => ?_); refine goes_ Tryz.func12 (by kernel_rfl) rfl #[.slice Ao41 t362.length co41] (by rfl) rfl rfl d10_2 ?_; (with_reducible refine (spec_TokensText.calls kj34 _ _ t362 t368 t369 _ ?side1 ?side2 A47.out).mono ?_)
          (case side1 => repeat (first | exact (Kd.R_reads' HO364.out).2.2 | (with_reducible refine Kd.C_alloc ?_ _) | (with_reducible refine Kd.C_drewN ?_ _) | (with_reducible refine Kd.C_drew ?_)))
          (case side2 => exact (Kd.R_reads' HO364.out).2.1)
          rintro e w50 ⟨rfl, hb⟩; refine ⟨_, rfl, ?_⟩; have n0_ := ak (Kd.R_below d10_7 hb); have n1_ := ak (Kd.R_below (by (with_reducible repeat (first | apply Kd.R_alloc | apply Kd.R_drewN | apply Kd.R_drew)); exact HO364.out) hb); have n2_ := ak (blk_below (g := gb349) (o := .cells #[.int .i64 t344, .int .i64 t345, .slice Ao12 t346.length co12] 27 (0, 0)) d10_3 hb); have n3_ := ak (blk_below (g := gb367) (o := .cells #[.int .i64 t365, .string t366] 34 (0, 0)) d10_9 hb); have n4_ := ak (below_step d10_5 hb); clear HO_350002; clear HO364; clear BK349; clear BK367; clear HB; have HO_350002 := n0_; have HO364 := n1_; have BK349 := n2_; have BK367 := n3_; have HB := n4_; clear n0_ n1_ n2_ n3_ n4_
          (try clear hb)
          (try clear hb2)
          (try clear hk)
          (try clear hi)
          refine hK.out _ _ (hb10_2 BK367.out) (fun hHeld => ?_); clear hK K; refine norm_ (a' := ?_) ?_ ?_; rotate_left
          · show Act.put _ (some 51) _ = _
            simp only [Act.put, pa10_1, pa10_2, pa10_3, i64_w, i32_w]; rfl
          refine pure_ (i := 2) (N := some 52) (v := ?_) (a' := ?_) #[true, true, true, true, true, false, false] rfl rfl (by kernel_rfl) (fun _ _ _ h => h) (Or.inl ⟨by rfl, ?_⟩) ?_ ?_; rotate_left
          · intro w'
            go_simp; (with_reducible rfl)
          rotate_left
          · simp only [Act.put, pa10_1, pa10_2, pa10_3, i64_w, i32_w]
            rfl
          refine pure_ (i := 5) (N := some 55) (v := ?_) (a' := ?_) #[true, true, true, true, true, true, false] rfl rfl (by kernel_rfl) (fun _ _ _ h => h) (Or.inl ⟨by rfl, ?_⟩) ?_ ?_; rotate_left
          · intro w'
            go_simp; (with_reducible rfl)
          rotate_left
          · simp only [Act.put, pa10_1, pa10_2, pa10_3, i64_w, i32_w]
            rfl
          refine pure_ (i := 6) (N := some 2) (v := ?_) (a' := ?_) #[true, true, true, true, true, true, true] rfl rfl (by kernel_rfl) (fun _ _ _ h => h) (Or.inl ⟨by rfl, ?_⟩) ?_ ?_; rotate_left
          · intro w'
            go_simp; (with_reducible rfl)
          rotate_left
          · simp only [Act.put, pa10_1, pa10_2, pa10_3, i64_w, i32_w]
            rfl
          refine done_ (by kernel_rfl) ?_
          try go_wp2
          go_ret; exact ⟨c10_10, c10_9⟩
        case rest =>
         clear HC39
         (try clear c1); (try clear p2); (try clear c3); (try clear c4); (try clear c5); (try clear c6); (try clear c7); (try clear c8); (try clear c10); (try clear c11); (try clear c14); (try clear c14b0); (try clear c14b1); (try clear c16); (try clear c16b0); (try clear c16b1); (try clear c36); (try clear c44); (try clear hcz11_0); (try clear hcz11_1); (try clear hcz11_2); (try clear hcz45_0); (try clear hcz45_1); (try clear hfz11_0); (try clear hfz11_1); (try clear hfz11_2); (try clear hfz45_0); (try clear hfz45_1); (try clear p2)
         obtain ⟨kq, HA, HJ38, HO_5, HO_350002, BK349, BK367, HB⟩ := hcut
         cases kq with
         | zero => exact absurd HA.out (by simp [laws_FnTokens.j3])
         | succ kj38 =>
          have H := HA.out; clear HA; simp only [laws_FnTokens.j3] at H; have HC51 := ak H; clear H; have hnb52 := NB367_349.out; have hnc52 := NB349_367.out; have hcz53_0 := z10c BK367.out 0 (v := (.int .i64 t365)) rfl; have hcz53_1 := z10c BK367.out 1 (v := (.string t366)) rfl; have hfz53_0 := blk_frozen BK367.out 0; have hfz53_1 := blk_frozen BK367.out 1; go_upto_if 59 with (fail); go_cut [] (fun wc => ∃ (kq : Nat), Aside0 (laws_FnTokens.j4 kq t362 t365 t366 = some r) ∧ Aside0 (kq ≤ kj38) ∧ Aside0 (Kd.R k37 37 wc w.heap.size (fun k_ => some k_ ≠ ((.slice Ao12 t346.length co12) : Value).ownBlock) (.slice Ao41 t362.length co41) t362) ∧ Aside0 (Kd.R k37 37 wc w.heap.size (fun k_ => some k_ ≠ ((.slice Ao41 t362.length co41) : Value).ownBlock) (.slice Ao12 t346.length co12) t346) ∧ Aside0 (wc.heap[gb349]? = some (.cells #[.int .i64 t344, .int .i64 t345, (.slice Ao12 t346.length co12)] 27 (0, 0))) ∧ Aside0 (wc.heap[gb367]? = some (.cells #[.int .i64 t365, .string t366] 34 (0, 0))) ∧ Aside0 (Below w.heap.size w wc))
          case first =>
           have H := HC51.out; clear HC51; by_cases c54 : (t366.size : Int) > 400
           ·rw [if_pos c54] at H
            have c54b0 : decide (400 < (t366.size : Int)) = true := decide_eq_true c54; have c54b1 : decide (400 < t366.size) = true := decide_eq_true (by omega); clear c54
            (first | rw [c54b0] | (simp only [i64_w, i32_w]; rw [c54b0]) | skip)
            replace H := Option.bind_eq_some_iff.mp H; obtain ⟨⟨t370, t371⟩, A550, H⟩ := H; (try dsimp -simprocs only at H); have A55 := ak A550; clear A550; obtain rfl := Option.some.inj H
            try go_wp2
            have n0_ := ak (Kd.R_drew HO_5.out); have n1_ := ak (Kd.R_drew HO_350002.out); have n2_ := ak (blk_drew BK349.out); have n3_ := ak (blk_drew BK367.out); have n4_ := ak (below_drew1 HB.out); clear HO_5; clear HO_350002; clear BK349; clear BK367; clear HB; have HO_5 := n0_; have HO_350002 := n1_; have BK349 := n2_; have BK367 := n3_; have HB := n4_; clear n0_ n1_ n2_ n3_ n4_; refine start_ (n := 7) (S := fun w' => w'.cell? ⟨gb367, 0, none⟩ = some (.int .i64 t365) ∧ w'.cell? ⟨gb367, 1, none⟩ = some (.string t366)) (ds := []) #[false, false, false, false, false, false, false] (by kernel_rfl) rfl rfl (hb10_2 BK367.out) (fun hHeld => ?_); generalize wc.drew = w56 at HO_5 HO_350002 BK349 BK367 HB hHeld ⊢; refine pure_ (i := 0) (N := some 60) (v := ?_) (a' := ?_) #[true, false, false, false, false, false, false] rfl rfl (by kernel_rfl) (fun _ _ _ h => h) (Or.inl ⟨by rfl, ?_⟩) ?_ ?_; rotate_left
            · intro w'
              go_simp; (with_reducible rfl)
            rotate_left
            · simp only [Act.put, pa10_1, pa10_2, pa10_3, i64_w, i32_w]
              rfl
            refine pure_ (i := 2) (N := some 62) (v := ?_) (a' := ?_) #[true, false, true, false, false, false, false] rfl rfl (by kernel_rfl) (fun _ _ _ h => h) (Or.inl ⟨by rfl, ?_⟩) ?_ ?_; rotate_left
            · intro w'
              go_simp; (with_reducible rfl)
            rotate_left
            · simp only [Act.put, pa10_1, pa10_2, pa10_3, i64_w, i32_w]
              rfl
            refine take_ (i := 1) (N := some 61) (v := ?_) (a' := ?_) #[true, true, true, false, false, false, false] rfl rfl (by kernel_rfl) (fun _ _ _ h => h) (Or.inl ⟨by rfl, ?_⟩) hHeld ?_ ?_; rotate_left
            · rintro w' ⟨s0, s1⟩
              go_simp; (with_reducible rfl)
            rotate_left
            · simp only [Act.put, pa10_1, pa10_2, pa10_3, i64_w, i32_w]
              rfl
            refine one_ (i := 3) (N := some 63) #[true, true, true, true, false, false, false] rfl rfl (by kernel_rfl) (by decide) (fun K hK => ?_); refine goes_ Tryz.func12 (by kernel_rfl) rfl #[.slice Ao41 t362.length co41] (by rfl) rfl rfl d10_2 ?_; (with_reducible refine (spec_TokensText.calls kj38 _ _ t362 t370 t371 _ ?side1 ?side2 A55.out).mono ?_)
            (case side1 => repeat (first | exact (Kd.R_reads' HO_5.out).2.2 | (with_reducible refine Kd.C_alloc ?_ _) | (with_reducible refine Kd.C_drewN ?_ _) | (with_reducible refine Kd.C_drew ?_)))
            (case side2 => exact (Kd.R_reads' HO_5.out).2.1)
            rintro e w57 ⟨rfl, hb⟩; refine ⟨_, rfl, ?_⟩; have n0_ := ak (Kd.R_below d10_12 hb); have n1_ := ak (Kd.R_below d10_7 hb); have n2_ := ak (blk_below (g := gb349) (o := .cells #[.int .i64 t344, .int .i64 t345, .slice Ao12 t346.length co12] 27 (0, 0)) d10_3 hb); have n3_ := ak (blk_below (g := gb367) (o := .cells #[.int .i64 t365, .string t366] 34 (0, 0)) d10_9 hb); have n4_ := ak (below_step d10_5 hb); clear HO_5; clear HO_350002; clear BK349; clear BK367; clear HB; have HO_5 := n0_; have HO_350002 := n1_; have BK349 := n2_; have BK367 := n3_; have HB := n4_; clear n0_ n1_ n2_ n3_ n4_
            (try clear hb)
            (try clear hb2)
            (try clear hk)
            (try clear hi)
            refine hK.out _ _ (hb10_2 BK367.out) (fun hHeld => ?_); clear hK K; refine norm_ (a' := ?_) ?_ ?_; rotate_left
            · show Act.put _ (some 63) _ = _
              simp only [Act.put, pa10_1, pa10_2, pa10_3, i64_w, i32_w]; rfl
            refine pure_ (i := 4) (N := some 64) (v := ?_) (a' := ?_) #[true, true, true, true, true, false, false] rfl rfl (by kernel_rfl) (fun _ _ _ h => h) (Or.inl ⟨by rfl, ?_⟩) ?_ ?_; rotate_left
            · intro w'
              go_simp; (with_reducible rfl)
            rotate_left
            · simp only [Act.put, pa10_1, pa10_2, pa10_3, i64_w, i32_w]
              rfl
            refine pure_ (i := 5) (N := some 65) (v := ?_) (a' := ?_) #[true, true, true, true, true, true, false] rfl rfl (by kernel_rfl) (fun _ _ _ h => h) (Or.inl ⟨by rfl, ?_⟩) ?_ ?_; rotate_left
            · intro w'
              go_simp; (with_reducible rfl)
            rotate_left
            · simp only [Act.put, pa10_1, pa10_2, pa10_3, i64_w, i32_w]
              rfl
            refine pure_ (i := 6) (N := some 2) (v := ?_) (a' := ?_) #[true, true, true, true, true, true, true] rfl rfl (by kernel_rfl) (fun _ _ _ h => h) (Or.inl ⟨by rfl, ?_⟩) ?_ ?_; rotate_left
            · intro w'
              go_simp; (with_reducible rfl)
            rotate_left
            · simp only [Act.put, pa10_1, pa10_2, pa10_3, i64_w, i32_w]
              rfl
            refine done_ (by kernel_rfl) ?_
            try go_wp2
            go_ret; exact ⟨c10_10, c10_9⟩
           ·rw [if_neg c54] at H
            have c54b0 : decide (400 < (t366.size : Int)) = false := decide_eq_false c54; have c54b1 : decide (400 < t366.size) = false := decide_eq_false (by omega); clear c54
            (first | rw [c54b0] | (simp only [i64_w, i32_w]; rw [c54b0]) | skip)
            have H' := ak H; clear H; go_wp2; go_meet
            case rel => exact ⟨_, H', ⟨by have := HJ2.out; have := HJ6.out; have := HJ34.out; have := HJ38.out; first | omega | exact Nat.le_refl _⟩, ⟨c10_7⟩, ⟨c10_5⟩, ⟨c10_2⟩, ⟨c10_4⟩, ⟨c10_9⟩⟩
          case rest =>
           clear HC51
           (try clear c1); (try clear p2); (try clear c3); (try clear c4); (try clear c5); (try clear c6); (try clear c7); (try clear c8); (try clear c10); (try clear c11); (try clear c12); (try clear c14); (try clear c14b0); (try clear c14b1); (try clear c16); (try clear c16b0); (try clear c16b1); (try clear c36); (try clear c44); (try clear c46); (try clear c46b0); (try clear c46b1); (try clear c52); (try clear hcz11_0); (try clear hcz11_1); (try clear hcz11_2); (try clear hcz45_0); (try clear hcz45_1); (try clear hcz53_0); (try clear hcz53_1); (try clear hfz11_0); (try clear hfz11_1); (try clear hfz11_2); (try clear hfz45_0); (try clear hfz45_1); (try clear hfz53_0); (try clear hfz53_1); (try clear p2)
           obtain ⟨kq, HA, HJ50, HO_5, HO_350002, BK349, BK367, HB⟩ := hcut
           cases kq with
           | zero => exact absurd HA.out (by simp [laws_FnTokens.j4])
           | succ kj50 =>
            have H := HA.out; clear HA; simp only [laws_FnTokens.j4] at H; replace H := Option.bind_eq_some_iff.mp H; obtain ⟨⟨t372, t373, t374⟩, A580, H⟩ := H; (try dsimp -simprocs only at H); have A58 := ak A580; clear A580; have HC59 := ak H; clear H; have hnb60 := NB367_349.out; have hnc60 := NB349_367.out; have hcz61_0 := z10c BK367.out 0 (v := (.int .i64 t365)) rfl; have hcz61_1 := z10c BK367.out 1 (v := (.string t366)) rfl; have hfz61_0 := blk_frozen BK367.out 0; have hfz61_1 := blk_frozen BK367.out 1
            go_upto_region 14 with (first | ((with_reducible refine gate_callee (f := 7) rfl ?_); refine goesL_ (some 68) rfl rfl Tryz.func7 (by kernel_rfl) rfl #[.string t366] rfl d10_2 ?_; (with_reducible refine (impl_TokensOf.calls kj50 t366 t372 t373 t374 _ ?side1 A58.out).mono ?_); (case side1 => exact Lz.below HLZ.out d10_5); rintro e w62 ⟨v375, rfl, ho0, hb⟩; refine ⟨_, rfl, ?_⟩; have n0_ := ak (Kd.R_elder' d10_12 (Kd.R_base ho0) hb); have n1_ := ak (Kd.R_elder' d10_7 (Kd.R_base ho0) hb); have n2_ := ak (Kd.R_lower (Kd.R_new' (Kd.R_new' ho0 (Kd.R_lt d10_12)) (Kd.R_lt d10_7)) (below_size d10_5)); have n3_ := ak (blk_below (g := gb349) (o := .cells #[.int .i64 t344, .int .i64 t345, .slice Ao12 t346.length co12] 27 (0, 0)) d10_3 hb); have n4_ := ak (blk_below (g := gb367) (o := .cells #[.int .i64 t365, .string t366] 34 (0, 0)) d10_9 hb); have n5_ := ak (below_step d10_5 hb); clear HO_5 HO_350002 BK349 BK367 HB; have HO_5 := n0_; have HO_350002 := n1_; have HO376 := n2_; have BK349 := n3_; have BK367 := n4_; have HB := n5_; clear n0_ n1_ n2_ n3_ n4_ n5_; (try clear hb); (try clear ho0)) | ((with_reducible refine gate_dst (N := 7) rfl ?_); refine box_event ?hg (N := 7) ?hd (cs := #[.int .i64 0, .int .i64 0, .slice none 0 0]) (t := 27) ?hr ?_; (case hd => rfl); (case hg => rfl); (case hr => first | (go_simp; done) | (go_simp; rfl)); intro gb377 hg w63 hbox hb; have n0_ := ak (Kd.R_below d10_12 hb); have n1_ := ak (Kd.R_below d10_7 hb); have n2_ := ak (Kd.R_below (by (with_reducible repeat (first | apply Kd.R_alloc | apply Kd.R_drewN | apply Kd.R_drew)); exact HO376.out) hb); have n3_ := ak (blk_below (g := gb349) (o := .cells #[.int .i64 t344, .int .i64 t345, .slice Ao12 t346.length co12] 27 (0, 0)) d10_3 hb); have n4_ := ak (blk_below (g := gb367) (o := .cells #[.int .i64 t365, .string t366] 34 (0, 0)) d10_9 hb); have n5_ := ak (below_step d10_5 hb); have n6_ := ak (hbox); have n7_ := ak ((by rw [hg]; exact (below_size d10_5) : w.heap.size ≤ gb377)); have n8_ := ak ((by rw [hg]; exact (below_size d10_5) : w.heap.size ≤ gb377)); have n9_ := ak ((by rw [hg]; exact Nat.ne_of_lt (blk_lt (g := gb349) (o := .cells #[.int .i64 t344, .int .i64 t345, .slice Ao12 t346.length co12] 27 (0, 0)) d10_3) : gb349 ≠ gb377)); have n10_ := ak ((by rw [hg]; exact Nat.ne_of_gt (blk_lt (g := gb349) (o := .cells #[.int .i64 t344, .int .i64 t345, .slice Ao12 t346.length co12] 27 (0, 0)) d10_3) : gb377 ≠ gb349)); have n11_ := ak ((by rw [hg]; exact Nat.ne_of_lt (blk_lt (g := gb367) (o := .cells #[.int .i64 t365, .string t366] 34 (0, 0)) d10_9) : gb367 ≠ gb377)); have n12_ := ak ((by rw [hg]; exact Nat.ne_of_gt (blk_lt (g := gb367) (o := .cells #[.int .i64 t365, .string t366] 34 (0, 0)) d10_9) : gb377 ≠ gb367)); clear HO_5 HO_350002 HO376 BK349 BK367 HB; have HO_5 := n0_; have HO_350002 := n1_; have HO376 := n2_; have BK349 := n3_; have BK367 := n4_; have HB := n5_; have BK377 := n6_; have GW377 := n7_; have GE377 := n8_; have NB349_377 := n9_; have NB377_349 := n10_; have NB367_377 := n11_; have NB377_367 := n12_; clear n0_ n1_ n2_ n3_ n4_ n5_ n6_ n7_ n8_ n9_ n10_ n11_ n12_ hb hbox hg; have hnb64 := NB377_349.out; have hnc64 := NB349_377.out; have hnb65 := NB377_367.out; have hnc65 := NB367_377.out; have hcz66_0 := z10c BK377.out 0 (v := (.int .i64 0)) rfl; have hcz66_1 := z10c BK377.out 1 (v := (.int .i64 0)) rfl; have hcz66_2 := z10c BK377.out 2 (v := (.slice none 0 0)) rfl; have hfz66_0 := blk_frozen BK377.out 0; have hfz66_1 := blk_frozen BK377.out 1; have hfz66_2 := blk_frozen BK377.out 2; obtain ⟨Ao67, co67, eo67⟩ := Kd.R_slice HO376.out; subst eo67))
            (try simp only [Act.put, pa10_1, pa10_2, pa10_3])
            go_cut [79] (fun v79 wc => ∃ (kq : Nat) (x79_58 : Bool), v79 = .bool x79_58 ∧ Aside0 (laws_FnTokens.j5 kq t362 x79_58 t372 t373 t374 = some r) ∧ Aside0 (kq ≤ kj50) ∧ Aside0 (Kd.R k37 37 wc w.heap.size (fun k_ => some k_ ≠ ((.slice Ao12 t346.length co12) : Value).ownBlock ∧ some k_ ≠ ((.slice Ao67 t374.length co67) : Value).ownBlock) (.slice Ao41 t362.length co41) t362) ∧ Aside0 (Kd.R k37 37 wc w.heap.size (fun k_ => some k_ ≠ ((.slice Ao41 t362.length co41) : Value).ownBlock ∧ some k_ ≠ ((.slice Ao67 t374.length co67) : Value).ownBlock) (.slice Ao12 t346.length co12) t346) ∧ Aside0 (Kd.R k37 37 wc w.heap.size (fun k_ => some k_ ≠ ((.slice Ao41 t362.length co41) : Value).ownBlock ∧ some k_ ≠ ((.slice Ao12 t346.length co12) : Value).ownBlock) (.slice Ao67 t374.length co67) t374) ∧ Aside0 (wc.heap[gb349]? = some (.cells #[.int .i64 t344, .int .i64 t345, (.slice Ao12 t346.length co12)] 27 (0, 0))) ∧ Aside0 (wc.heap[gb367]? = some (.cells #[.int .i64 t365, .string t366] 34 (0, 0))) ∧ Aside0 (wc.heap[gb377]? = some (.cells #[.int .i64 t372, .int .i64 t373, (.slice Ao67 t374.length co67)] 27 (0, 0))) ∧ Aside0 (Below w.heap.size w wc))
            case first =>
             have H := HC59.out; clear HC59; by_cases c68 : t372 = 0
             ·rw [if_pos c68] at H
              have c68b0 : (t372 == 0) = true := beq_iff_eq.mpr c68; have c68b1 : (t372 != 0) = false := bne_eq_false_iff_eq.mpr c68; clear c68
              (first | rw [c68b0] | (simp only [i64_w, i32_w]; rw [c68b0]) | skip)
              have H' := ak H; clear H; have hnb69 := NB377_349.out; have hnc69 := NB349_377.out; have hnb70 := NB377_367.out; have hnc70 := NB367_377.out; have hcz71_0 := z10c BK377.out 0 (v := (.int .i64 0)) rfl; have hcz71_1 := z10c BK377.out 1 (v := (.int .i64 0)) rfl; have hcz71_2 := z10c BK377.out 2 (v := (.slice none 0 0)) rfl; have hfz71_0 := blk_frozen BK377.out 0; have hfz71_1 := blk_frozen BK377.out 1; have hfz71_2 := blk_frozen BK377.out 2; go_wp2; go_meet
              case rel => exact ⟨_, (((t374.length : Int) != (t362.length : Int))), d10_10, H', ⟨by have := HJ2.out; have := HJ6.out; have := HJ34.out; have := HJ38.out; have := HJ50.out; first | omega | exact Nat.le_refl _⟩, ⟨by (with_reducible repeat (first | apply Kd.R_alloc | apply Kd.R_drewN | apply Kd.R_drew)); exact Kd.R_mono (Kd.R_far (p := ⟨gb377, 2, none⟩) (Kd.R_far (p := ⟨gb377, 1, none⟩) (Kd.R_far (p := ⟨gb377, 0, none⟩) (Kd.R_types HO_5.out BK377.out (by decide)) (fun _ hk => hk.2) (.int .i64 t372)) (fun _ hk => hk.2) (.int .i64 t373)) (fun _ hk => hk.2) (.slice Ao67 t374.length co67)) (fun _ hk => ⟨hk.1.1, hk.1.2⟩)⟩, ⟨by (with_reducible repeat (first | apply Kd.R_alloc | apply Kd.R_drewN | apply Kd.R_drew)); exact Kd.R_mono (Kd.R_far (p := ⟨gb377, 2, none⟩) (Kd.R_far (p := ⟨gb377, 1, none⟩) (Kd.R_far (p := ⟨gb377, 0, none⟩) (Kd.R_types HO_350002.out BK377.out (by decide)) (fun _ hk => hk.2) (.int .i64 t372)) (fun _ hk => hk.2) (.int .i64 t373)) (fun _ hk => hk.2) (.slice Ao67 t374.length co67)) (fun _ hk => ⟨hk.1.1, hk.1.2⟩)⟩, ⟨by (with_reducible repeat (first | apply Kd.R_alloc | apply Kd.R_drewN | apply Kd.R_drew)); exact Kd.R_mono (Kd.R_far (p := ⟨gb377, 2, none⟩) (Kd.R_far (p := ⟨gb377, 1, none⟩) (Kd.R_far (p := ⟨gb377, 0, none⟩) (Kd.R_types HO376.out BK377.out (by decide)) (fun _ hk => hk.2) (.int .i64 t372)) (fun _ hk => hk.2) (.int .i64 t373)) (fun _ hk => hk.2) (.slice Ao67 t374.length co67)) (fun _ hk => ⟨hk.1.1.2, hk.1.2⟩)⟩, ⟨c10_11⟩, ⟨c10_12⟩, ⟨by (with_reducible repeat first | apply b10N | apply b10D | apply b10L); refine blk_put (cs := #[.int .i64 t372, .int .i64 t373, .slice none 0 0]) ?_ 2 _ rfl; (with_reducible repeat first | apply b10N | apply b10D | apply b10L); refine blk_put (cs := #[.int .i64 t372, .int .i64 0, .slice none 0 0]) ?_ 1 _ rfl; (with_reducible repeat first | apply b10N | apply b10D | apply b10L); refine blk_put (cs := #[.int .i64 0, .int .i64 0, .slice none 0 0]) ?_ 0 _ rfl; (with_reducible repeat first | apply b10N | apply b10D | apply b10L); exact BK377.out⟩, ⟨c10_1⟩⟩
             ·rw [if_neg c68] at H
              have c68b0 : (t372 == 0) = false := beq_eq_false_iff_ne.mpr c68; have c68b1 : (t372 != 0) = true := bne_iff_ne.mpr c68
              (first | rw [c68b0] | (simp only [i64_w, i32_w]; rw [c68b0]) | skip)
              have H' := ak H; clear H; have hnb72 := NB377_349.out; have hnc72 := NB349_377.out; have hnb73 := NB377_367.out; have hnc73 := NB367_377.out; have hcz74_0 := z10c BK377.out 0 (v := (.int .i64 0)) rfl; have hcz74_1 := z10c BK377.out 1 (v := (.int .i64 0)) rfl; have hcz74_2 := z10c BK377.out 2 (v := (.slice none 0 0)) rfl; have hfz74_0 := blk_frozen BK377.out 0; have hfz74_1 := blk_frozen BK377.out 1; have hfz74_2 := blk_frozen BK377.out 2; go_wp2; go_meet
              case rel => exact ⟨_, (true), d10_10, H', ⟨by have := HJ2.out; have := HJ6.out; have := HJ34.out; have := HJ38.out; have := HJ50.out; first | omega | exact Nat.le_refl _⟩, ⟨by (with_reducible repeat (first | apply Kd.R_alloc | apply Kd.R_drewN | apply Kd.R_drew)); exact Kd.R_mono (Kd.R_far (p := ⟨gb377, 2, none⟩) (Kd.R_far (p := ⟨gb377, 1, none⟩) (Kd.R_far (p := ⟨gb377, 0, none⟩) (Kd.R_types HO_5.out BK377.out (by decide)) (fun _ hk => hk.2) (.int .i64 t372)) (fun _ hk => hk.2) (.int .i64 t373)) (fun _ hk => hk.2) (.slice Ao67 t374.length co67)) (fun _ hk => ⟨hk.1.1, hk.1.2⟩)⟩, ⟨by (with_reducible repeat (first | apply Kd.R_alloc | apply Kd.R_drewN | apply Kd.R_drew)); exact Kd.R_mono (Kd.R_far (p := ⟨gb377, 2, none⟩) (Kd.R_far (p := ⟨gb377, 1, none⟩) (Kd.R_far (p := ⟨gb377, 0, none⟩) (Kd.R_types HO_350002.out BK377.out (by decide)) (fun _ hk => hk.2) (.int .i64 t372)) (fun _ hk => hk.2) (.int .i64 t373)) (fun _ hk => hk.2) (.slice Ao67 t374.length co67)) (fun _ hk => ⟨hk.1.1, hk.1.2⟩)⟩, ⟨by (with_reducible repeat (first | apply Kd.R_alloc | apply Kd.R_drewN | apply Kd.R_drew)); exact Kd.R_mono (Kd.R_far (p := ⟨gb377, 2, none⟩) (Kd.R_far (p := ⟨gb377, 1, none⟩) (Kd.R_far (p := ⟨gb377, 0, none⟩) (Kd.R_types HO376.out BK377.out (by decide)) (fun _ hk => hk.2) (.int .i64 t372)) (fun _ hk => hk.2) (.int .i64 t373)) (fun _ hk => hk.2) (.slice Ao67 t374.length co67)) (fun _ hk => ⟨hk.1.1.2, hk.1.2⟩)⟩, ⟨c10_11⟩, ⟨c10_12⟩, ⟨by (with_reducible repeat first | apply b10N | apply b10D | apply b10L); refine blk_put (cs := #[.int .i64 t372, .int .i64 t373, .slice none 0 0]) ?_ 2 _ rfl; (with_reducible repeat first | apply b10N | apply b10D | apply b10L); refine blk_put (cs := #[.int .i64 t372, .int .i64 0, .slice none 0 0]) ?_ 1 _ rfl; (with_reducible repeat first | apply b10N | apply b10D | apply b10L); refine blk_put (cs := #[.int .i64 0, .int .i64 0, .slice none 0 0]) ?_ 0 _ rfl; (with_reducible repeat first | apply b10N | apply b10D | apply b10L); exact BK377.out⟩, ⟨c10_1⟩⟩
            case rest =>
             clear HC59
             (try clear c1); (try clear p2); (try clear c3); (try clear c4); (try clear c5); (try clear c6); (try clear c7); (try clear c8); (try clear c10); (try clear c11); (try clear c12); (try clear c14); (try clear c14b0); (try clear c14b1); (try clear c16); (try clear c16b0); (try clear c16b1); (try clear c36); (try clear c44); (try clear c46); (try clear c46b0); (try clear c46b1); (try clear c52); (try clear c54); (try clear c54b0); (try clear c54b1); (try clear c60); (try clear c64); (try clear c65); (try clear hcz11_0); (try clear hcz11_1); (try clear hcz11_2); (try clear hcz45_0); (try clear hcz45_1); (try clear hcz53_0); (try clear hcz53_1); (try clear hcz61_0); (try clear hcz61_1); (try clear hcz66_0); (try clear hcz66_1); (try clear hcz66_2); (try clear hfz11_0); (try clear hfz11_1); (try clear hfz11_2); (try clear hfz45_0); (try clear hfz45_1); (try clear hfz53_0); (try clear hfz53_1); (try clear hfz61_0); (try clear hfz61_1); (try clear hfz66_0); (try clear hfz66_1); (try clear hfz66_2); (try clear p2)
             obtain ⟨kq, x79_58, rfl, HA, HJ58, HO_5, HO_350002, HO_378002, BK349, BK367, BK377, HB⟩ := hcut
             cases kq with
             | zero => exact absurd HA.out (by simp [laws_FnTokens.j5])
             | succ kj58 =>
              have H := HA.out; clear HA; simp only [laws_FnTokens.j5] at H; have HC75 := ak H; clear H; go_upto_if 79 with (fail); go_cut [] (fun wc => ∃ (kq : Nat), Aside0 (laws_FnTokens.j6 kq t362 t372 t373 t374 = some r) ∧ Aside0 (kq ≤ kj58) ∧ Aside0 (Kd.R k37 37 wc w.heap.size (fun k_ => some k_ ≠ ((.slice Ao12 t346.length co12) : Value).ownBlock ∧ some k_ ≠ ((.slice Ao67 t374.length co67) : Value).ownBlock) (.slice Ao41 t362.length co41) t362) ∧ Aside0 (Kd.R k37 37 wc w.heap.size (fun k_ => some k_ ≠ ((.slice Ao41 t362.length co41) : Value).ownBlock ∧ some k_ ≠ ((.slice Ao67 t374.length co67) : Value).ownBlock) (.slice Ao12 t346.length co12) t346) ∧ Aside0 (Kd.R k37 37 wc w.heap.size (fun k_ => some k_ ≠ ((.slice Ao41 t362.length co41) : Value).ownBlock ∧ some k_ ≠ ((.slice Ao12 t346.length co12) : Value).ownBlock) (.slice Ao67 t374.length co67) t374) ∧ Aside0 (wc.heap[gb349]? = some (.cells #[.int .i64 t344, .int .i64 t345, (.slice Ao12 t346.length co12)] 27 (0, 0))) ∧ Aside0 (wc.heap[gb367]? = some (.cells #[.int .i64 t365, .string t366] 34 (0, 0))) ∧ Aside0 (wc.heap[gb377]? = some (.cells #[.int .i64 t372, .int .i64 t373, (.slice Ao67 t374.length co67)] 27 (0, 0))) ∧ Aside0 (Below w.heap.size w wc))
              case first =>
               have H := HC75.out; clear HC75; by_cases c76 : x79_58 = true
               ·subst c76
                rw [if_pos rfl] at H; obtain rfl := Option.some.inj H; go_wp2; go_ret; exact ⟨c10_10, c10_1⟩
               ·replace c76 := Bool.eq_false_iff.mpr c76
                subst c76
                rw [if_neg (show ¬ (false = true) by decide)] at H; have H' := ak H; clear H; go_wp2; go_meet
                case rel => exact ⟨_, H', ⟨by have := HJ2.out; have := HJ6.out; have := HJ34.out; have := HJ38.out; have := HJ50.out; have := HJ58.out; first | omega | exact Nat.le_refl _⟩, ⟨c10_7⟩, ⟨c10_5⟩, ⟨c10_8⟩, ⟨c10_2⟩, ⟨c10_4⟩, ⟨c10_6⟩, ⟨c10_1⟩⟩
              case rest =>
               clear HC75
               (try clear c1); (try clear p2); (try clear c3); (try clear c4); (try clear c5); (try clear c6); (try clear c7); (try clear c8); (try clear c10); (try clear c11); (try clear c12); (try clear c14); (try clear c14b0); (try clear c14b1); (try clear c16); (try clear c16b0); (try clear c16b1); (try clear c36); (try clear c44); (try clear c46); (try clear c46b0); (try clear c46b1); (try clear c52); (try clear c54); (try clear c54b0); (try clear c54b1); (try clear c60); (try clear c64); (try clear c65); (try clear c68); (try clear c68b0); (try clear c68b1); (try clear c69); (try clear c70); (try clear c72); (try clear c73); (try clear hcz11_0); (try clear hcz11_1); (try clear hcz11_2); (try clear hcz45_0); (try clear hcz45_1); (try clear hcz53_0); (try clear hcz53_1); (try clear hcz61_0); (try clear hcz61_1); (try clear hcz66_0); (try clear hcz66_1); (try clear hcz66_2); (try clear hcz71_0); (try clear hcz71_1); (try clear hcz71_2); (try clear hcz74_0); (try clear hcz74_1); (try clear hcz74_2); (try clear hfz11_0); (try clear hfz11_1); (try clear hfz11_2); (try clear hfz45_0); (try clear hfz45_1); (try clear hfz53_0); (try clear hfz53_1); (try clear hfz61_0); (try clear hfz61_1); (try clear hfz66_0); (try clear hfz66_1); (try clear hfz66_2); (try clear hfz71_0); (try clear hfz71_1); (try clear hfz71_2); (try clear hfz74_0); (try clear hfz74_1); (try clear hfz74_2); (try clear p2)
               obtain ⟨kq, HA, HJ74, HO_5, HO_350002, HO_378002, BK349, BK367, BK377, HB⟩ := hcut
               cases kq with
               | zero => exact absurd HA.out (by simp [laws_FnTokens.j6])
               | succ kj74 =>
                have H := HA.out; clear HA; simp only [laws_FnTokens.j6] at H; have HC77 := ak H; clear H; go_upto_block 0 with (fail); go_cut [] (fun wc => ∃ (kq : Nat), Aside0 (laws_FnTokens.j11 kq  = some r) ∧ Aside0 (kq ≤ kj74) ∧ Aside0 (Kd.R k37 37 wc w.heap.size (fun k_ => some k_ ≠ ((.slice Ao67 t374.length co67) : Value).ownBlock) (.slice Ao12 t346.length co12) t346) ∧ Aside0 (Kd.R k37 37 wc w.heap.size (fun k_ => some k_ ≠ ((.slice Ao12 t346.length co12) : Value).ownBlock) (.slice Ao67 t374.length co67) t374) ∧ Aside0 (wc.heap[gb349]? = some (.cells #[.int .i64 t344, .int .i64 t345, (.slice Ao12 t346.length co12)] 27 (0, 0))) ∧ Aside0 (wc.heap[gb367]? = some (.cells #[.int .i64 t365, .string t366] 34 (0, 0))) ∧ Aside0 (wc.heap[gb377]? = some (.cells #[.int .i64 t372, .int .i64 t373, (.slice Ao67 t374.length co67)] 27 (0, 0))) ∧ Aside0 (Below w.heap.size w wc))
                case first =>
                 have H := HC77.out; clear HC77; have H' := ak H; clear H; go_wp2; go_loopg [8] kj74 (fun kq v8 w' => ∃ (x8_8 : Int), v8 = .int .i64 x8_8 ∧ Aside0 (laws_FnTokens.l0 kq t362 x8_8 t372 t373 t374 = some r) ∧ Aside0 (kq ≤ kj74) ∧ Aside0 (Kd.R k37 37 w' w.heap.size (fun k_ => some k_ ≠ ((.slice Ao12 t346.length co12) : Value).ownBlock ∧ some k_ ≠ ((.slice Ao67 t374.length co67) : Value).ownBlock) (.slice Ao41 t362.length co41) t362) ∧ Aside0 (Kd.R k37 37 w' w.heap.size (fun k_ => some k_ ≠ ((.slice Ao41 t362.length co41) : Value).ownBlock ∧ some k_ ≠ ((.slice Ao67 t374.length co67) : Value).ownBlock) (.slice Ao12 t346.length co12) t346) ∧ Aside0 (Kd.R k37 37 w' w.heap.size (fun k_ => some k_ ≠ ((.slice Ao41 t362.length co41) : Value).ownBlock ∧ some k_ ≠ ((.slice Ao12 t346.length co12) : Value).ownBlock) (.slice Ao67 t374.length co67) t374) ∧ Aside0 (w'.heap[gb349]? = some (.cells #[.int .i64 t344, .int .i64 t345, (.slice Ao12 t346.length co12)] 27 (0, 0))) ∧ Aside0 (w'.heap[gb367]? = some (.cells #[.int .i64 t365, .string t366] 34 (0, 0))) ∧ Aside0 (w'.heap[gb377]? = some (.cells #[.int .i64 t372, .int .i64 t373, (.slice Ao67 t374.length co67)] 27 (0, 0))) ∧ Aside0 (Below w.heap.size w w'))
                 case atStart => exact ⟨(0), d10_10, H', ⟨Nat.le_refl _⟩, ⟨c10_7⟩, ⟨c10_5⟩, ⟨c10_8⟩, ⟨c10_2⟩, ⟨c10_4⟩, ⟨c10_6⟩, ⟨c10_1⟩⟩
                 case round =>
                  clear H'
                  (try clear c1); (try clear p2); (try clear c3); (try clear c4); (try clear c5); (try clear c6); (try clear c7); (try clear c8); (try clear c10); (try clear c11); (try clear c12); (try clear c14); (try clear c14b0); (try clear c14b1); (try clear c16); (try clear c16b0); (try clear c16b1); (try clear c36); (try clear c44); (try clear c46); (try clear c46b0); (try clear c46b1); (try clear c52); (try clear c54); (try clear c54b0); (try clear c54b1); (try clear c60); (try clear c64); (try clear c65); (try clear c68); (try clear c68b0); (try clear c68b1); (try clear c69); (try clear c70); (try clear c72); (try clear c73); (try clear c76); (try clear hcz11_0); (try clear hcz11_1); (try clear hcz11_2); (try clear hcz45_0); (try clear hcz45_1); (try clear hcz53_0); (try clear hcz53_1); (try clear hcz61_0); (try clear hcz61_1); (try clear hcz66_0); (try clear hcz66_1); (try clear hcz66_2); (try clear hcz71_0); (try clear hcz71_1); (try clear hcz71_2); (try clear hcz74_0); (try clear hcz74_1); (try clear hcz74_2); (try clear hfz11_0); (try clear hfz11_1); (try clear hfz11_2); (try clear hfz45_0); (try clear hfz45_1); (try clear hfz53_0); (try clear hfz53_1); (try clear hfz61_0); (try clear hfz61_1); (try clear hfz66_0); (try clear hfz66_1); (try clear hfz66_2); (try clear hfz71_0); (try clear hfz71_1); (try clear hfz71_2); (try clear hfz74_0); (try clear hfz74_1); (try clear hfz74_2); (try clear p2)
                  obtain ⟨x8_8, rfl, HA, HK8, HO_5, HO_350002, HO_378002, BK349, BK367, BK377, HB⟩ := hrel
                  cases gk with
                  | zero => exact absurd HA.out (by simp [laws_FnTokens.l0])
                  | succ k8 =>
                   have H := HA.out; clear HA; simp only [laws_FnTokens.l0] at H; have HC78 := ak H; clear H; go_upto_if 83 with (fail); go_cut [] (fun wc => ∃ (kq : Nat), Aside0 (laws_FnTokens.j8 kq t362 x8_8 t372 t373 t374 = some r) ∧ Aside0 (kq ≤ k8) ∧ Aside0 (Kd.R k37 37 wc w.heap.size (fun k_ => some k_ ≠ ((.slice Ao12 t346.length co12) : Value).ownBlock ∧ some k_ ≠ ((.slice Ao67 t374.length co67) : Value).ownBlock) (.slice Ao41 t362.length co41) t362) ∧ Aside0 (Kd.R k37 37 wc w.heap.size (fun k_ => some k_ ≠ ((.slice Ao41 t362.length co41) : Value).ownBlock ∧ some k_ ≠ ((.slice Ao67 t374.length co67) : Value).ownBlock) (.slice Ao12 t346.length co12) t346) ∧ Aside0 (Kd.R k37 37 wc w.heap.size (fun k_ => some k_ ≠ ((.slice Ao41 t362.length co41) : Value).ownBlock ∧ some k_ ≠ ((.slice Ao12 t346.length co12) : Value).ownBlock) (.slice Ao67 t374.length co67) t374) ∧ Aside0 (wc.heap[gb349]? = some (.cells #[.int .i64 t344, .int .i64 t345, (.slice Ao12 t346.length co12)] 27 (0, 0))) ∧ Aside0 (wc.heap[gb367]? = some (.cells #[.int .i64 t365, .string t366] 34 (0, 0))) ∧ Aside0 (wc.heap[gb377]? = some (.cells #[.int .i64 t372, .int .i64 t373, (.slice Ao67 t374.length co67)] 27 (0, 0))) ∧ Aside0 (Below w.heap.size w wc))
                   case first =>
                    have H := HC78.out; clear HC78; by_cases c79 : x8_8 < (t362.length : Int)
                    ·rw [if_pos c79] at H
                     have c79b0 : decide (x8_8 < (t362.length : Int)) = true := decide_eq_true c79; clear c79
                     (first | rw [c79b0] | (simp only [i64_w, i32_w]; rw [c79b0]) | skip)
                     have H' := ak H; clear H; go_wp2; go_meet
                     case rel => exact ⟨_, H', ⟨by have := HJ2.out; have := HJ6.out; have := HJ34.out; have := HJ38.out; have := HJ50.out; have := HJ58.out; have := HJ74.out; have := HK8.out; first | omega | exact Nat.le_refl _⟩, ⟨c10_7⟩, ⟨c10_5⟩, ⟨c10_8⟩, ⟨c10_2⟩, ⟨c10_4⟩, ⟨c10_6⟩, ⟨c10_1⟩⟩
                    ·rw [if_neg c79] at H
                     have c79b0 : decide (x8_8 < (t362.length : Int)) = false := decide_eq_false c79; clear c79
                     (first | rw [c79b0] | (simp only [i64_w, i32_w]; rw [c79b0]) | skip)
                     have H' := ak H; clear H; go_wp2; go_meet
                     case rel => exact ⟨_, H', ⟨by have := HJ2.out; have := HJ6.out; have := HJ34.out; have := HJ38.out; have := HJ50.out; have := HJ58.out; have := HJ74.out; have := HK8.out; first | omega | exact Nat.le_refl _⟩, ⟨by (with_reducible repeat (first | apply Kd.R_alloc | apply Kd.R_drewN | apply Kd.R_drew)); exact Kd.R_mono HO_350002.out (fun _ hk => hk.2)⟩, ⟨by (with_reducible repeat (first | apply Kd.R_alloc | apply Kd.R_drewN | apply Kd.R_drew)); exact Kd.R_mono HO_378002.out (fun _ hk => hk.2)⟩, ⟨c10_2⟩, ⟨c10_4⟩, ⟨c10_6⟩, ⟨c10_1⟩⟩
                   case rest =>
                    clear HC78
                    (try clear c1); (try clear p2); (try clear c3); (try clear c4); (try clear c5); (try clear c6); (try clear c7); (try clear c8); (try clear c10); (try clear c11); (try clear c12); (try clear c14); (try clear c14b0); (try clear c14b1); (try clear c16); (try clear c16b0); (try clear c16b1); (try clear c36); (try clear c44); (try clear c46); (try clear c46b0); (try clear c46b1); (try clear c52); (try clear c54); (try clear c54b0); (try clear c54b1); (try clear c60); (try clear c64); (try clear c65); (try clear c68); (try clear c68b0); (try clear c68b1); (try clear c69); (try clear c70); (try clear c72); (try clear c73); (try clear c76); (try clear hcz11_0); (try clear hcz11_1); (try clear hcz11_2); (try clear hcz45_0); (try clear hcz45_1); (try clear hcz53_0); (try clear hcz53_1); (try clear hcz61_0); (try clear hcz61_1); (try clear hcz66_0); (try clear hcz66_1); (try clear hcz66_2); (try clear hcz71_0); (try clear hcz71_1); (try clear hcz71_2); (try clear hcz74_0); (try clear hcz74_1); (try clear hcz74_2); (try clear hfz11_0); (try clear hfz11_1); (try clear hfz11_2); (try clear hfz45_0); (try clear hfz45_1); (try clear hfz53_0); (try clear hfz53_1); (try clear hfz61_0); (try clear hfz61_1); (try clear hfz66_0); (try clear hfz66_1); (try clear hfz66_2); (try clear hfz71_0); (try clear hfz71_1); (try clear hfz71_2); (try clear hfz74_0); (try clear hfz74_1); (try clear hfz74_2); (try clear p2)
                    obtain ⟨kq, HA, HJ77, HO_5, HO_350002, HO_378002, BK349, BK367, BK377, HB⟩ := hcut
                    cases kq with
                    | zero => exact absurd HA.out (by simp [laws_FnTokens.j8])
                    | succ kj77 =>
                     have H := HA.out; clear HA; simp only [laws_FnTokens.j8] at H; have HC80 := ak H; clear H; go_upto_block 1 with (fail); go_cut [] (fun wc => ∃ (kq : Nat), Aside0 (laws_FnTokens.j10 kq t362 x8_8 t372 t373 t374 = some r) ∧ Aside0 (kq ≤ kj77) ∧ Aside0 (Kd.R k37 37 wc w.heap.size (fun k_ => some k_ ≠ ((.slice Ao12 t346.length co12) : Value).ownBlock ∧ some k_ ≠ ((.slice Ao67 t374.length co67) : Value).ownBlock) (.slice Ao41 t362.length co41) t362) ∧ Aside0 (Kd.R k37 37 wc w.heap.size (fun k_ => some k_ ≠ ((.slice Ao41 t362.length co41) : Value).ownBlock ∧ some k_ ≠ ((.slice Ao67 t374.length co67) : Value).ownBlock) (.slice Ao12 t346.length co12) t346) ∧ Aside0 (Kd.R k37 37 wc w.heap.size (fun k_ => some k_ ≠ ((.slice Ao41 t362.length co41) : Value).ownBlock ∧ some k_ ≠ ((.slice Ao12 t346.length co12) : Value).ownBlock) (.slice Ao67 t374.length co67) t374) ∧ Aside0 (wc.heap[gb349]? = some (.cells #[.int .i64 t344, .int .i64 t345, (.slice Ao12 t346.length co12)] 27 (0, 0))) ∧ Aside0 (wc.heap[gb367]? = some (.cells #[.int .i64 t365, .string t366] 34 (0, 0))) ∧ Aside0 (wc.heap[gb377]? = some (.cells #[.int .i64 t372, .int .i64 t373, (.slice Ao67 t374.length co67)] 27 (0, 0))) ∧ Aside0 (Below w.heap.size w wc))
                     case first =>
                      have H := HC80.out; clear HC80; have HC81 := ak H; clear H; go_upto_region 19 with (fail); go_cut [121] (fun v121 wc => ∃ (kq : Nat) (x121_80 : Bool), v121 = .bool x121_80 ∧ Aside0 (laws_FnTokens.j9 kq t362 x8_8 x121_80 t372 t373 t374 = some r) ∧ Aside0 (kq ≤ kj77) ∧ Aside0 (Kd.R k37 37 wc w.heap.size (fun k_ => some k_ ≠ ((.slice Ao12 t346.length co12) : Value).ownBlock ∧ some k_ ≠ ((.slice Ao67 t374.length co67) : Value).ownBlock) (.slice Ao41 t362.length co41) t362) ∧ Aside0 (Kd.R k37 37 wc w.heap.size (fun k_ => some k_ ≠ ((.slice Ao41 t362.length co41) : Value).ownBlock ∧ some k_ ≠ ((.slice Ao67 t374.length co67) : Value).ownBlock) (.slice Ao12 t346.length co12) t346) ∧ Aside0 (Kd.R k37 37 wc w.heap.size (fun k_ => some k_ ≠ ((.slice Ao41 t362.length co41) : Value).ownBlock ∧ some k_ ≠ ((.slice Ao12 t346.length co12) : Value).ownBlock) (.slice Ao67 t374.length co67) t374) ∧ Aside0 (wc.heap[gb349]? = some (.cells #[.int .i64 t344, .int .i64 t345, (.slice Ao12 t346.length co12)] 27 (0, 0))) ∧ Aside0 (wc.heap[gb367]? = some (.cells #[.int .i64 t365, .string t366] 34 (0, 0))) ∧ Aside0 (wc.heap[gb377]? = some (.cells #[.int .i64 t372, .int .i64 t373, (.slice Ao67 t374.length co67)] 27 (0, 0))) ∧ Aside0 (Below w.heap.size w wc))
                      case first =>
                       have H := HC81.out; clear HC81; by_cases c82 : 0 ≤ x8_8
                       ·rw [if_pos c82] at H
                        have c82b0 : decide (0 ≤ x8_8) = true := decide_eq_true c82; clear c82
                        (first | rw [c82b0] | (simp only [i64_w, i32_w]; rw [c82b0]) | skip)
                        by_cases c83 : x8_8 < (t374.length : Int)
                        ·rw [if_pos c83] at H
                         have c83b0 : decide (x8_8 < (t374.length : Int)) = true := decide_eq_true c83; clear c83; by_cases c84 : x8_8 < (t362.length : Int)
                         ·rw [if_pos c84] at H
                          have c84b0 : decide (x8_8 < (t362.length : Int)) = true := decide_eq_true c84; clear c84; by_cases c85 : (!(((rd_T37 t374 x8_8).f0) == ((rd_T37 t362 x8_8).f0)) || (!(((rd_T37 t374 x8_8).f1) == ((rd_T37 t362 x8_8).f1)) || (!((((rd_T37 t374 x8_8).f2).toList) == (((rd_T37 t362 x8_8).f2).toList))))) = true
                          ·rw [if_pos c85] at H
                           have c85b0 : (!(((rd_T37 t374 x8_8).f0) == ((rd_T37 t362 x8_8).f0)) || (!(((rd_T37 t374 x8_8).f1) == ((rd_T37 t362 x8_8).f1)) || (!((((rd_T37 t374 x8_8).f2).toList) == (((rd_T37 t362 x8_8).f2).toList))))) = true := c85
                           (try (have c85b1 : ((!(((rd_T37 t374 x8_8).f0) == ((rd_T37 t362 x8_8).f0))) = true ∨ (!(((rd_T37 t374 x8_8).f1) == ((rd_T37 t362 x8_8).f1))) = true ∨ (!((((rd_T37 t374 x8_8).f2).toList) == (((rd_T37 t362 x8_8).f2).toList))) = true) := by simpa [eq_nil_b, ne_nil_b] using c85))
                           (try (have c85b2 : ¬ ((!(((rd_T37 t374 x8_8).f0) == ((rd_T37 t362 x8_8).f0))) = false ∧ (!(((rd_T37 t374 x8_8).f1) == ((rd_T37 t362 x8_8).f1))) = false ∧ (!((((rd_T37 t374 x8_8).f2).toList) == (((rd_T37 t362 x8_8).f2).toList))) = false) := by first | (intro hh; simp [eq_nil_b, ne_nil_b, hh] at c85; done) | simpa [eq_nil_b, ne_nil_b] using c85))
                           clear c85; have H' := ak H; clear H
                           try go_wp2
                           have n0_ := ak (Kd.R_drew HO_5.out); have n1_ := ak (Kd.R_drew HO_350002.out); have n2_ := ak (Kd.R_drew HO_378002.out); have n3_ := ak (blk_drew BK349.out); have n4_ := ak (blk_drew BK367.out); have n5_ := ak (blk_drew BK377.out); have n6_ := ak (below_drew1 HB.out); clear HO_5; clear HO_350002; clear HO_378002; clear BK349; clear BK367; clear BK377; clear HB; have HO_5 := n0_; have HO_350002 := n1_; have HO_378002 := n2_; have BK349 := n3_; have BK367 := n4_; have BK377 := n5_; have HB := n6_; clear n0_ n1_ n2_ n3_ n4_ n5_ n6_; have p378 : 0 ≤ (x8_8 : Int) := of_decide_eq_true d10_8; have q378 : x8_8 < (t374.length : Int) := of_decide_eq_true d10_8; obtain ⟨ad378, e378, hx378_0, hx378_1, hx378_2⟩ := at_T37 (Kd.R_reads' HO_378002.out).2.2 x8_8 p378 q378
                           cases e378
                           replace p378 := eq_true p378; replace q378 := eq_true q378; have p379 : 0 ≤ (x8_8 : Int) := of_decide_eq_true d10_8; have q379 : x8_8 < (t362.length : Int) := of_decide_eq_true d10_8; obtain ⟨ad379, e379, hx379_0, hx379_1, hx379_2⟩ := at_T37 (Kd.R_reads' HO_5.out).2.2 x8_8 p379 q379
                           cases e379
                           replace p379 := eq_true p379; replace q379 := eq_true q379
                           refine start_ (n := 36) (S := fun w' => w'.cell? ⟨gb377, 0, none⟩ = some (.int .i64 t372) ∧ w'.cell? ⟨gb377, 1, none⟩ = some (.int .i64 t373) ∧ w'.cell? ⟨gb377, 2, none⟩ = some (.slice (some ad378) t374.length co67) ∧ w'.cell? (ad378.add ((x8_8).toNat * 3)) = some (.int .i64 ((rd_T37 t374 x8_8).f0)) ∧ w'.cell? ⟨(ad378.add ((x8_8).toNat * 3)).block, (ad378.add ((x8_8).toNat * 3)).off + 1, none⟩ = some (.int .i64 ((rd_T37 t374 x8_8).f1)) ∧ w'.cell? ⟨(ad378.add ((x8_8).toNat * 3)).block, (ad378.add ((x8_8).toNat * 3)).off + 2, none⟩ = some (.string ((rd_T37 t374 x8_8).f2)) ∧ w'.cell? (ad379.add ((x8_8).toNat * 3)) = some (.int .i64 ((rd_T37 t362 x8_8).f0)) ∧ w'.cell? ⟨(ad379.add ((x8_8).toNat * 3)).block, (ad379.add ((x8_8).toNat * 3)).off + 1, none⟩ = some (.int .i64 ((rd_T37 t362 x8_8).f1)) ∧ w'.cell? ⟨(ad379.add ((x8_8).toNat * 3)).block, (ad379.add ((x8_8).toNat * 3)).off + 2, none⟩ = some (.string ((rd_T37 t362 x8_8).f2))) (ds := []) m10_0 (by kernel_rfl) rfl rfl ⟨(blk_cell BK377.out 0).trans rfl, (blk_cell BK377.out 1).trans rfl, (blk_cell BK377.out 2).trans rfl, hx378_0, hx378_1, hx378_2, hx379_0, hx379_1, hx379_2⟩ (fun hHeld => ?_); refine with_tabW laws_FnTokens.tab19 laws_FnTokens.bits19 (fun HT_ HW_ => ?_)
                           generalize wc.drew = w86 at HO_5 HO_350002 HO_378002 BK349 BK367 BK377 HB hx378_0 hx378_1 hx378_2 hx379_0 hx379_1 hx379_2 hHeld ⊢; refine pure_ (i := 0) (N := some 86) (v := ?_) (a' := ?_) m10_2 rfl rfl (any_of HT_.out (by kernel_rfl)) (fun _ _ _ h => h) (Or.inl ⟨by rfl, ?_⟩) ?_ ?_; rotate_left
                           · intro w'
                             go_simp; (with_reducible rfl)
                           rotate_left
                           · simp only [Act.put, pa10_1, pa10_2, pa10_3, i64_w, i32_w]
                             rfl
                           refine pure_ (i := 2) (N := some 88) (v := ?_) (a' := ?_) m10_4 rfl rfl (any_of HT_.out (by kernel_rfl)) (fun _ _ _ h => h) (Or.inl ⟨by rfl, ?_⟩) ?_ ?_; rotate_left
                           · intro w'
                             go_simp; (with_reducible rfl)
                           rotate_left
                           · simp only [Act.put, pa10_1, pa10_2, pa10_3, i64_w, i32_w]
                             rfl
                           refine pure_ (i := 5) (N := some 91) (v := ?_) (a' := ?_) m10_6 rfl rfl (any_of HT_.out (by kernel_rfl)) (fun _ _ _ h => h) (Or.inl ⟨by rfl, ?_⟩) ?_ ?_; rotate_left
                           · intro w'
                             go_simp; (with_reducible rfl)
                           rotate_left
                           · simp only [Act.put, pa10_1, pa10_2, pa10_3, i64_w, i32_w]
                             rfl
                           refine pure_ (i := 6) (N := some 92) (v := ?_) (a' := ?_) m10_7 rfl rfl (any_of HT_.out (by kernel_rfl)) (fun _ _ _ h => h) (Or.inl ⟨by rfl, ?_⟩) ?_ ?_; rotate_left
                           · intro w'
                             go_simp; (with_reducible rfl)
                           rotate_left
                           · simp only [Act.put, pa10_1, pa10_2, pa10_3, i64_w, i32_w]
                             rfl
                           refine pure_ (i := 7) (N := some 93) (v := ?_) (a' := ?_) m10_8 rfl rfl (any_of HT_.out (by kernel_rfl)) (fun _ _ _ h => h) (Or.inl ⟨by rfl, ?_⟩) ?_ ?_; rotate_left
                           · intro w'
                             go_simp; (with_reducible rfl)
                           rotate_left
                           · simp only [Act.put, pa10_1, pa10_2, pa10_3, i64_w, i32_w]
                             rfl
                           refine take_ (i := 1) (N := some 87) (v := ?_) (a' := ?_) m10_10 rfl rfl (take_ofW HT_.out HW_.out (by kernel_rfl)) (fun _ _ _ h => h) (Or.inl ⟨by rfl, ?_⟩) hHeld ?_ ?_; rotate_left
                           · rintro w' ⟨s0, s1, s2, s3, s4, s5, s6, s7, s8⟩
                             go_simp; (with_reducible rfl)
                           rotate_left
                           · simp only [Act.put, pa10_1, pa10_2, pa10_3, i64_w, i32_w]
                             rfl
                           refine pure_ (i := 3) (N := some 89) (v := ?_) (a' := ?_) m10_12 rfl rfl (any_of HT_.out (by kernel_rfl)) (fun _ _ _ h => h) (Or.inl ⟨by rfl, ?_⟩) ?_ ?_; rotate_left
                           · intro w'
                             go_simp; (with_reducible rfl)
                           rotate_left
                           · simp only [Act.put, pa10_1, pa10_2, pa10_3, i64_w, i32_w]
                             rfl
                           refine take_ (i := 4) (N := some 90) (v := ?_) (a' := ?_) m10_16 rfl rfl (take_ofW HT_.out HW_.out (by kernel_rfl)) (fun _ _ _ h => h) (Or.inl ⟨by rfl, ?_⟩) hHeld ?_ ?_; rotate_left
                           · rintro w' ⟨s0, s1, s2, s3, s4, s5, s6, s7, s8⟩
                             go_simp; (with_reducible rfl)
                           rotate_left
                           · simp only [Act.put, pa10_1, pa10_2, pa10_3, i64_w, i32_w]
                             rfl
                           refine take_ (i := 8) (N := some 94) (v := ?_) (a' := ?_) m10_19 rfl rfl (take_ofW HT_.out HW_.out (by kernel_rfl)) (fun _ _ _ h => h) (Or.inl ⟨by rfl, ?_⟩) hHeld ?_ ?_; rotate_left
                           · rintro w' ⟨s0, s1, s2, s3, s4, s5, s6, s7, s8⟩
                             go_simp; (with_reducible rfl)
                           rotate_left
                           · simp only [Act.put, pa10_1, pa10_2, pa10_3, i64_w, i32_w]
                             rfl
                           refine pure_ (i := 9) (N := some 95) (v := ?_) (a' := ?_) m10_21 rfl rfl (any_of HT_.out (by kernel_rfl)) (fun _ _ _ h => h) (Or.inl ⟨by rfl, ?_⟩) ?_ ?_; rotate_left
                           · intro w'
                             go_simp; (with_reducible rfl)
                           rotate_left
                           · simp only [Act.put, pa10_1, pa10_2, pa10_3, i64_w, i32_w]
                             rfl
                           refine pure_ (i := 10) (N := some 96) (v := ?_) (a' := ?_) m10_23 rfl rfl (any_of HT_.out (by kernel_rfl)) (fun _ _ _ h => h) (Or.inl ⟨by rfl, ?_⟩) ?_ ?_; rotate_left
                           · intro w'
                             go_simp; (with_reducible rfl)
                           rotate_left
                           · simp only [Act.put, pa10_1, pa10_2, pa10_3, i64_w, i32_w]
                             rfl
                           refine pure_ (i := 11) (N := some 97) (v := undef) (a' := ?_) m10_25 rfl rfl (any_of HT_.out (by kernel_rfl)) (fun _ _ _ h => h) (Or.inr ⟨by rfl, rfl⟩) ?_ ?_; rotate_left
                           · simp only [Act.put, pa10_1, pa10_2, pa10_3, i64_w, i32_w]
                             rfl
                           refine pure_ (i := 12) (N := some 98) (v := undef) (a' := ?_) m10_27 rfl rfl (any_of HT_.out (by kernel_rfl)) (fun _ _ _ h => h) (Or.inr ⟨by rfl, rfl⟩) ?_ ?_; rotate_left
                           · simp only [Act.put, pa10_1, pa10_2, pa10_3, i64_w, i32_w]
                             rfl
                           refine pure_ (i := 13) (N := some 99) (v := undef) (a' := ?_) m10_29 rfl rfl (any_of HT_.out (by kernel_rfl)) (fun _ _ _ h => h) (Or.inr ⟨by rfl, rfl⟩) ?_ ?_; rotate_left
                           · simp only [Act.put, pa10_1, pa10_2, pa10_3, i64_w, i32_w]
                             rfl
                           refine pure_ (i := 14) (N := some 100) (v := undef) (a' := ?_) m10_31 rfl rfl (any_of HT_.out (by kernel_rfl)) (fun _ _ _ h => h) (Or.inr ⟨by rfl, rfl⟩) ?_ ?_; rotate_left
                           · simp only [Act.put, pa10_1, pa10_2, pa10_3, i64_w, i32_w]
                             rfl
                           refine pure_ (i := 15) (N := some 101) (v := undef) (a' := ?_) m10_33 rfl rfl (any_of HT_.out (by kernel_rfl)) (fun _ _ _ h => h) (Or.inr ⟨by rfl, rfl⟩) ?_ ?_; rotate_left
                           · simp only [Act.put, pa10_1, pa10_2, pa10_3, i64_w, i32_w]
                             rfl
                           refine pure_ (i := 16) (N := some 102) (v := undef) (a' := ?_) m10_35 rfl rfl (any_of HT_.out (by kernel_rfl)) (fun _ _ _ h => h) (Or.inr ⟨by rfl, rfl⟩) ?_ ?_; rotate_left
                           · simp only [Act.put, pa10_1, pa10_2, pa10_3, i64_w, i32_w]
                             rfl
                           refine pure_ (i := 17) (N := some 103) (v := undef) (a' := ?_) m10_37 rfl rfl (any_of HT_.out (by kernel_rfl)) (fun _ _ _ h => h) (Or.inr ⟨by rfl, rfl⟩) ?_ ?_; rotate_left
                           · simp only [Act.put, pa10_1, pa10_2, pa10_3, i64_w, i32_w]
                             rfl
                           refine pure_ (i := 18) (N := some 104) (v := ?_) (a' := ?_) m10_39 rfl rfl (any_of HT_.out (by kernel_rfl)) (fun _ _ _ h => h) (Or.inl ⟨by rfl, ?_⟩) ?_ ?_; rotate_left
                           · intro w'
                             go_simp; (with_reducible rfl)
                           rotate_left
                           · simp only [Act.put, pa10_1, pa10_2, pa10_3, i64_w, i32_w]
                             rfl
                           refine pure_ (i := 19) (N := some 105) (v := ?_) (a' := ?_) m10_41 rfl rfl (any_of HT_.out (by kernel_rfl)) (fun _ _ _ h => h) (Or.inl ⟨by rfl, ?_⟩) ?_ ?_; rotate_left
                           · intro w'
                             go_simp; (with_reducible rfl)
                           rotate_left
                           · simp only [Act.put, pa10_1, pa10_2, pa10_3, i64_w, i32_w]
                             rfl
                           refine pure_ (i := 20) (N := some 106) (v := undef) (a' := ?_) m10_46 rfl rfl (any_of HT_.out (by kernel_rfl)) (fun _ _ _ h => h) (Or.inr ⟨by rfl, rfl⟩) ?_ ?_; rotate_left
                           · simp only [Act.put, pa10_1, pa10_2, pa10_3, i64_w, i32_w]
                             rfl
                           refine pure_ (i := 21) (N := some 107) (v := undef) (a' := ?_) m10_49 rfl rfl (any_of HT_.out (by kernel_rfl)) (fun _ _ _ h => h) (Or.inr ⟨by rfl, rfl⟩) ?_ ?_; rotate_left
                           · simp only [Act.put, pa10_1, pa10_2, pa10_3, i64_w, i32_w]
                             rfl
                           refine pure_ (i := 22) (N := some 108) (v := undef) (a' := ?_) m10_51 rfl rfl (any_of HT_.out (by kernel_rfl)) (fun _ _ _ h => h) (Or.inr ⟨by rfl, rfl⟩) ?_ ?_; rotate_left
                           · simp only [Act.put, pa10_1, pa10_2, pa10_3, i64_w, i32_w]
                             rfl
                           refine pure_ (i := 23) (N := some 109) (v := undef) (a' := ?_) m10_53 rfl rfl (any_of HT_.out (by kernel_rfl)) (fun _ _ _ h => h) (Or.inr ⟨by rfl, rfl⟩) ?_ ?_; rotate_left
                           · simp only [Act.put, pa10_1, pa10_2, pa10_3, i64_w, i32_w]
                             rfl
                           refine pure_ (i := 24) (N := some 110) (v := undef) (a' := ?_) m10_55 rfl rfl (any_of HT_.out (by kernel_rfl)) (fun _ _ _ h => h) (Or.inr ⟨by rfl, rfl⟩) ?_ ?_; rotate_left
                           · simp only [Act.put, pa10_1, pa10_2, pa10_3, i64_w, i32_w]
                             rfl
                           refine pure_ (i := 25) (N := some 111) (v := undef) (a' := ?_) m10_57 rfl rfl (any_of HT_.out (by kernel_rfl)) (fun _ _ _ h => h) (Or.inr ⟨by rfl, rfl⟩) ?_ ?_; rotate_left
                           · simp only [Act.put, pa10_1, pa10_2, pa10_3, i64_w, i32_w]
                             rfl
                           refine pure_ (i := 26) (N := some 112) (v := undef) (a' := ?_) m10_59 rfl rfl (any_of HT_.out (by kernel_rfl)) (fun _ _ _ h => h) (Or.inr ⟨by rfl, rfl⟩) ?_ ?_; rotate_left
                           · simp only [Act.put, pa10_1, pa10_2, pa10_3, i64_w, i32_w]
                             rfl
                           refine pure_ (i := 27) (N := some 113) (v := undef) (a' := ?_) m10_61 rfl rfl (any_of HT_.out (by kernel_rfl)) (fun _ _ _ h => h) (Or.inr ⟨by rfl, rfl⟩) ?_ ?_; rotate_left
                           · simp only [Act.put, pa10_1, pa10_2, pa10_3, i64_w, i32_w]
                             rfl
                           refine pure_ (i := 28) (N := some 114) (v := undef) (a' := ?_) m10_62 rfl rfl (any_of HT_.out (by kernel_rfl)) (fun _ _ _ h => h) (Or.inr ⟨by rfl, rfl⟩) ?_ ?_; rotate_left
                           · simp only [Act.put, pa10_1, pa10_2, pa10_3, i64_w, i32_w]
                             rfl
                           refine pure_ (i := 29) (N := some 115) (v := undef) (a' := ?_) m10_63 rfl rfl (any_of HT_.out (by kernel_rfl)) (fun _ _ _ h => h) (Or.inr ⟨by rfl, rfl⟩) ?_ ?_; rotate_left
                           · simp only [Act.put, pa10_1, pa10_2, pa10_3, i64_w, i32_w]
                             rfl
                           refine pure_ (i := 30) (N := some 116) (v := undef) (a' := ?_) m10_64 rfl rfl (any_of HT_.out (by kernel_rfl)) (fun _ _ _ h => h) (Or.inr ⟨by rfl, rfl⟩) ?_ ?_; rotate_left
                           · simp only [Act.put, pa10_1, pa10_2, pa10_3, i64_w, i32_w]
                             rfl
                           refine pure_ (i := 31) (N := some 117) (v := undef) (a' := ?_) m10_65 rfl rfl (any_of HT_.out (by kernel_rfl)) (fun _ _ _ h => h) (Or.inr ⟨by rfl, rfl⟩) ?_ ?_; rotate_left
                           · simp only [Act.put, pa10_1, pa10_2, pa10_3, i64_w, i32_w]
                             rfl
                           refine pure_ (i := 32) (N := some 118) (v := undef) (a' := ?_) m10_66 rfl rfl (any_of HT_.out (by kernel_rfl)) (fun _ _ _ h => h) (Or.inr ⟨by rfl, rfl⟩) ?_ ?_; rotate_left
                           · simp only [Act.put, pa10_1, pa10_2, pa10_3, i64_w, i32_w]
                             rfl
                           refine pure_ (i := 33) (N := some 119) (v := undef) (a' := ?_) m10_67 rfl rfl (any_of HT_.out (by kernel_rfl)) (fun _ _ _ h => h) (Or.inr ⟨by rfl, rfl⟩) ?_ ?_; rotate_left
                           · simp only [Act.put, pa10_1, pa10_2, pa10_3, i64_w, i32_w]
                             rfl
                           refine pure_ (i := 34) (N := some 120) (v := undef) (a' := ?_) m10_68 rfl rfl (any_of HT_.out (by kernel_rfl)) (fun _ _ _ h => h) (Or.inr ⟨by rfl, rfl⟩) ?_ ?_; rotate_left
                           · simp only [Act.put, pa10_1, pa10_2, pa10_3, i64_w, i32_w]
                             rfl
                           refine pure_ (i := 35) (N := some 121) (v := ?_) (a' := ?_) m10_69 rfl rfl (any_of HT_.out (by kernel_rfl)) (fun _ _ _ h => h) (Or.inl ⟨by rfl, ?_⟩) ?_ ?_; rotate_left
                           · intro w'
                             go_simp; (with_reducible rfl)
                           rotate_left
                           · simp only [Act.put, pa10_1, pa10_2, pa10_3, i64_w, i32_w]
                             rfl
                           refine done_ (done_of HT_.out (by kernel_rfl)) ?_
                           try go_wp2
                           go_meet
                           case rel => exact ⟨_, (true), d10_10, H', ⟨by have := HJ2.out; have := HJ6.out; have := HJ34.out; have := HJ38.out; have := HJ50.out; have := HJ58.out; have := HJ74.out; have := HK8.out; have := HJ77.out; first | omega | exact Nat.le_refl _⟩, ⟨c10_7⟩, ⟨c10_5⟩, ⟨c10_8⟩, ⟨c10_2⟩, ⟨c10_4⟩, ⟨c10_6⟩, ⟨c10_1⟩⟩
                          ·rw [if_neg c85] at H
                           have c85b0 : (!(((rd_T37 t374 x8_8).f0) == ((rd_T37 t362 x8_8).f0)) || (!(((rd_T37 t374 x8_8).f1) == ((rd_T37 t362 x8_8).f1)) || (!((((rd_T37 t374 x8_8).f2).toList) == (((rd_T37 t362 x8_8).f2).toList))))) = false := by simpa using c85
                           (try (have c85b1 : ¬ ((!(((rd_T37 t374 x8_8).f0) == ((rd_T37 t362 x8_8).f0))) = true ∨ (!(((rd_T37 t374 x8_8).f1) == ((rd_T37 t362 x8_8).f1))) = true ∨ (!((((rd_T37 t374 x8_8).f2).toList) == (((rd_T37 t362 x8_8).f2).toList))) = true) := by simpa [eq_nil_b, ne_nil_b] using c85))
                           (try (have c85b2 : ((!(((rd_T37 t374 x8_8).f0) == ((rd_T37 t362 x8_8).f0))) = false ∧ (!(((rd_T37 t374 x8_8).f1) == ((rd_T37 t362 x8_8).f1))) = false ∧ (!((((rd_T37 t374 x8_8).f2).toList) == (((rd_T37 t362 x8_8).f2).toList))) = false) := by first | (intro hh; simp [eq_nil_b, ne_nil_b, hh] at c85; done) | simpa [eq_nil_b, ne_nil_b] using c85))
                           clear c85; replace H := Option.bind_eq_some_iff.mp H; obtain ⟨⟨t381, t382⟩, A870, H⟩ := H; (try dsimp -simprocs only at H); have A87 := ak A870; clear A870; by_cases c88 : t381 = 0
                           ·rw [if_pos c88] at H
                            have c88b0 : (t381 == 0) = true := beq_iff_eq.mpr c88; have c88b1 : (t381 != 0) = false := bne_eq_false_iff_eq.mpr c88; clear c88; by_cases c89 : ((rd_T37 t362 x8_8).f0) = 6
                            ·rw [if_pos c89] at H
                             have c89b0 : (((rd_T37 t362 x8_8).f0) == 6) = true := beq_iff_eq.mpr c89; have c89b1 : (((rd_T37 t362 x8_8).f0) != 6) = false := bne_eq_false_iff_eq.mpr c89; clear c89; replace H := Option.bind_eq_some_iff.mp H; obtain ⟨t385, A900, H⟩ := H; (try dsimp -simprocs only at H); have A90 := ak A900; clear A900; have H' := ak H; clear H
                             try go_wp2
                             have n0_ := ak (Kd.R_drew HO_5.out); have n1_ := ak (Kd.R_drew HO_350002.out); have n2_ := ak (Kd.R_drew HO_378002.out); have n3_ := ak (blk_drew BK349.out); have n4_ := ak (blk_drew BK367.out); have n5_ := ak (blk_drew BK377.out); have n6_ := ak (below_drew1 HB.out); clear HO_5; clear HO_350002; clear HO_378002; clear BK349; clear BK367; clear BK377; clear HB; have HO_5 := n0_; have HO_350002 := n1_; have HO_378002 := n2_; have BK349 := n3_; have BK367 := n4_; have BK377 := n5_; have HB := n6_; clear n0_ n1_ n2_ n3_ n4_ n5_ n6_; have p378 : 0 ≤ (x8_8 : Int) := of_decide_eq_true d10_8; have q378 : x8_8 < (t374.length : Int) := of_decide_eq_true d10_8; obtain ⟨ad378, e378, hx378_0, hx378_1, hx378_2⟩ := at_T37 (Kd.R_reads' HO_378002.out).2.2 x8_8 p378 q378
                             cases e378
                             replace p378 := eq_true p378; replace q378 := eq_true q378; have p379 : 0 ≤ (x8_8 : Int) := of_decide_eq_true d10_8; have q379 : x8_8 < (t362.length : Int) := of_decide_eq_true d10_8; obtain ⟨ad379, e379, hx379_0, hx379_1, hx379_2⟩ := at_T37 (Kd.R_reads' HO_5.out).2.2 x8_8 p379 q379
                             cases e379
                             replace p379 := eq_true p379; replace q379 := eq_true q379; have p380 : 0 ≤ (x8_8 : Int) := of_decide_eq_true d10_8; have q380 : x8_8 < (t362.length : Int) := of_decide_eq_true d10_8; obtain ⟨ad380, e380, hx380_0, hx380_1, hx380_2⟩ := at_T37 (Kd.R_reads' HO_5.out).2.2 x8_8 p380 q380; obtain rfl : ad379 = ad380 := (by injection e380); replace p380 := eq_true p380; replace q380 := eq_true q380; have p383 : 0 ≤ (x8_8 : Int) := of_decide_eq_true d10_8; have q383 : x8_8 < (t362.length : Int) := of_decide_eq_true d10_8; obtain ⟨ad383, e383, hx383_0, hx383_1, hx383_2⟩ := at_T37 (Kd.R_reads' HO_5.out).2.2 x8_8 p383 q383; obtain rfl : ad379 = ad383 := (by injection e383); replace p383 := eq_true p383; replace q383 := eq_true q383; have p384 : 0 ≤ (x8_8 : Int) := of_decide_eq_true d10_8; have q384 : x8_8 < (t362.length : Int) := of_decide_eq_true d10_8; obtain ⟨ad384, e384, hx384_0, hx384_1, hx384_2⟩ := at_T37 (Kd.R_reads' HO_5.out).2.2 x8_8 p384 q384; obtain rfl : ad379 = ad384 := (by injection e384); replace p384 := eq_true p384; replace q384 := eq_true q384
                             refine start_ (n := 36) (S := fun w' => w'.cell? ⟨gb377, 0, none⟩ = some (.int .i64 t372) ∧ w'.cell? ⟨gb377, 1, none⟩ = some (.int .i64 t373) ∧ w'.cell? ⟨gb377, 2, none⟩ = some (.slice (some ad378) t374.length co67) ∧ w'.cell? (ad378.add ((x8_8).toNat * 3)) = some (.int .i64 ((rd_T37 t374 x8_8).f0)) ∧ w'.cell? ⟨(ad378.add ((x8_8).toNat * 3)).block, (ad378.add ((x8_8).toNat * 3)).off + 1, none⟩ = some (.int .i64 ((rd_T37 t374 x8_8).f1)) ∧ w'.cell? ⟨(ad378.add ((x8_8).toNat * 3)).block, (ad378.add ((x8_8).toNat * 3)).off + 2, none⟩ = some (.string ((rd_T37 t374 x8_8).f2)) ∧ w'.cell? (ad379.add ((x8_8).toNat * 3)) = some (.int .i64 ((rd_T37 t362 x8_8).f0)) ∧ w'.cell? ⟨(ad379.add ((x8_8).toNat * 3)).block, (ad379.add ((x8_8).toNat * 3)).off + 1, none⟩ = some (.int .i64 ((rd_T37 t362 x8_8).f1)) ∧ w'.cell? ⟨(ad379.add ((x8_8).toNat * 3)).block, (ad379.add ((x8_8).toNat * 3)).off + 2, none⟩ = some (.string ((rd_T37 t362 x8_8).f2)) ∧ w'.cell? (ad379.add ((x8_8).toNat * 3)) = some (.int .i64 ((rd_T37 t362 x8_8).f0)) ∧ w'.cell? ⟨(ad379.add ((x8_8).toNat * 3)).block, (ad379.add ((x8_8).toNat * 3)).off + 1, none⟩ = some (.int .i64 ((rd_T37 t362 x8_8).f1)) ∧ w'.cell? ⟨(ad379.add ((x8_8).toNat * 3)).block, (ad379.add ((x8_8).toNat * 3)).off + 2, none⟩ = some (.string ((rd_T37 t362 x8_8).f2)) ∧ w'.cell? (ad379.add ((x8_8).toNat * 3)) = some (.int .i64 ((rd_T37 t362 x8_8).f0)) ∧ w'.cell? ⟨(ad379.add ((x8_8).toNat * 3)).block, (ad379.add ((x8_8).toNat * 3)).off + 1, none⟩ = some (.int .i64 ((rd_T37 t362 x8_8).f1)) ∧ w'.cell? ⟨(ad379.add ((x8_8).toNat * 3)).block, (ad379.add ((x8_8).toNat * 3)).off + 2, none⟩ = some (.string ((rd_T37 t362 x8_8).f2)) ∧ w'.cell? (ad379.add ((x8_8).toNat * 3)) = some (.int .i64 ((rd_T37 t362 x8_8).f0)) ∧ w'.cell? ⟨(ad379.add ((x8_8).toNat * 3)).block, (ad379.add ((x8_8).toNat * 3)).off + 1, none⟩ = some (.int .i64 ((rd_T37 t362 x8_8).f1)) ∧ w'.cell? ⟨(ad379.add ((x8_8).toNat * 3)).block, (ad379.add ((x8_8).toNat * 3)).off + 2, none⟩ = some (.string ((rd_T37 t362 x8_8).f2))) (ds := []) m10_0 (by kernel_rfl) rfl rfl ⟨(blk_cell BK377.out 0).trans rfl, (blk_cell BK377.out 1).trans rfl, (blk_cell BK377.out 2).trans rfl, hx378_0, hx378_1, hx378_2, hx379_0, hx379_1, hx379_2, hx380_0, hx380_1, hx380_2, hx383_0, hx383_1, hx383_2, hx384_0, hx384_1, hx384_2⟩ (fun hHeld => ?_); refine with_tabW laws_FnTokens.tab19 laws_FnTokens.bits19 (fun HT_ HW_ => ?_)
                             generalize wc.drew = w91 at HO_5 HO_350002 HO_378002 BK349 BK367 BK377 HB hx378_0 hx378_1 hx378_2 hx379_0 hx379_1 hx379_2 hx380_0 hx380_1 hx380_2 hx383_0 hx383_1 hx383_2 hx384_0 hx384_1 hx384_2 hHeld ⊢; refine pure_ (i := 0) (N := some 86) (v := ?_) (a' := ?_) m10_2 rfl rfl (any_of HT_.out (by kernel_rfl)) (fun _ _ _ h => h) (Or.inl ⟨by rfl, ?_⟩) ?_ ?_; rotate_left
                             · intro w'
                               go_simp; (with_reducible rfl)
                             rotate_left
                             · simp only [Act.put, pa10_1, pa10_2, pa10_3, i64_w, i32_w]
                               rfl
                             refine pure_ (i := 2) (N := some 88) (v := ?_) (a' := ?_) m10_4 rfl rfl (any_of HT_.out (by kernel_rfl)) (fun _ _ _ h => h) (Or.inl ⟨by rfl, ?_⟩) ?_ ?_; rotate_left
                             · intro w'
                               go_simp; (with_reducible rfl)
                             rotate_left
                             · simp only [Act.put, pa10_1, pa10_2, pa10_3, i64_w, i32_w]
                               rfl
                             refine pure_ (i := 5) (N := some 91) (v := ?_) (a' := ?_) m10_6 rfl rfl (any_of HT_.out (by kernel_rfl)) (fun _ _ _ h => h) (Or.inl ⟨by rfl, ?_⟩) ?_ ?_; rotate_left
                             · intro w'
                               go_simp; (with_reducible rfl)
                             rotate_left
                             · simp only [Act.put, pa10_1, pa10_2, pa10_3, i64_w, i32_w]
                               rfl
                             refine pure_ (i := 6) (N := some 92) (v := ?_) (a' := ?_) m10_7 rfl rfl (any_of HT_.out (by kernel_rfl)) (fun _ _ _ h => h) (Or.inl ⟨by rfl, ?_⟩) ?_ ?_; rotate_left
                             · intro w'
                               go_simp; (with_reducible rfl)
                             rotate_left
                             · simp only [Act.put, pa10_1, pa10_2, pa10_3, i64_w, i32_w]
                               rfl
                             refine pure_ (i := 7) (N := some 93) (v := ?_) (a' := ?_) m10_8 rfl rfl (any_of HT_.out (by kernel_rfl)) (fun _ _ _ h => h) (Or.inl ⟨by rfl, ?_⟩) ?_ ?_; rotate_left
                             · intro w'
                               go_simp; (with_reducible rfl)
                             rotate_left
                             · simp only [Act.put, pa10_1, pa10_2, pa10_3, i64_w, i32_w]
                               rfl
                             refine take_ (i := 1) (N := some 87) (v := ?_) (a' := ?_) m10_10 rfl rfl (take_ofW HT_.out HW_.out (by kernel_rfl)) (fun _ _ _ h => h) (Or.inl ⟨by rfl, ?_⟩) hHeld ?_ ?_; rotate_left
                             · rintro w' ⟨s0, s1, s2, s3, s4, s5, s6, s7, s8, s9, s10, s11, s12, s13, s14, s15, s16, s17⟩
                               go_simp; (with_reducible rfl)
                             rotate_left
                             · simp only [Act.put, pa10_1, pa10_2, pa10_3, i64_w, i32_w]
                               rfl
                             refine pure_ (i := 3) (N := some 89) (v := ?_) (a' := ?_) m10_12 rfl rfl (any_of HT_.out (by kernel_rfl)) (fun _ _ _ h => h) (Or.inl ⟨by rfl, ?_⟩) ?_ ?_; rotate_left
                             · intro w'
                               go_simp; (with_reducible rfl)
                             rotate_left
                             · simp only [Act.put, pa10_1, pa10_2, pa10_3, i64_w, i32_w]
                               rfl
                             refine take_ (i := 4) (N := some 90) (v := ?_) (a' := ?_) m10_16 rfl rfl (take_ofW HT_.out HW_.out (by kernel_rfl)) (fun _ _ _ h => h) (Or.inl ⟨by rfl, ?_⟩) hHeld ?_ ?_; rotate_left
                             · rintro w' ⟨s0, s1, s2, s3, s4, s5, s6, s7, s8, s9, s10, s11, s12, s13, s14, s15, s16, s17⟩
                               go_simp; (with_reducible rfl)
                             rotate_left
                             · simp only [Act.put, pa10_1, pa10_2, pa10_3, i64_w, i32_w]
                               rfl
                             refine take_ (i := 8) (N := some 94) (v := ?_) (a' := ?_) m10_19 rfl rfl (take_ofW HT_.out HW_.out (by kernel_rfl)) (fun _ _ _ h => h) (Or.inl ⟨by rfl, ?_⟩) hHeld ?_ ?_; rotate_left
                             · rintro w' ⟨s0, s1, s2, s3, s4, s5, s6, s7, s8, s9, s10, s11, s12, s13, s14, s15, s16, s17⟩
                               go_simp; (with_reducible rfl)
                             rotate_left
                             · simp only [Act.put, pa10_1, pa10_2, pa10_3, i64_w, i32_w]
                               rfl
                             refine pure_ (i := 9) (N := some 95) (v := ?_) (a' := ?_) m10_21 rfl rfl (any_of HT_.out (by kernel_rfl)) (fun _ _ _ h => h) (Or.inl ⟨by rfl, ?_⟩) ?_ ?_; rotate_left
                             · intro w'
                               go_simp; (with_reducible rfl)
                             rotate_left
                             · simp only [Act.put, pa10_1, pa10_2, pa10_3, i64_w, i32_w]
                               rfl
                             refine pure_ (i := 10) (N := some 96) (v := ?_) (a' := ?_) m10_23 rfl rfl (any_of HT_.out (by kernel_rfl)) (fun _ _ _ h => h) (Or.inl ⟨by rfl, ?_⟩) ?_ ?_; rotate_left
                             · intro w'
                               go_simp; (with_reducible rfl)
                             rotate_left
                             · simp only [Act.put, pa10_1, pa10_2, pa10_3, i64_w, i32_w]
                               rfl
                             refine pure_ (i := 11) (N := some 97) (v := ?_) (a' := ?_) m10_25 rfl rfl (any_of HT_.out (by kernel_rfl)) (fun _ _ _ h => h) (Or.inl ⟨by rfl, ?_⟩) ?_ ?_; rotate_left
                             · intro w'
                               go_simp; (with_reducible rfl)
                             rotate_left
                             · simp only [Act.put, pa10_1, pa10_2, pa10_3, i64_w, i32_w]
                               rfl
                             refine pure_ (i := 12) (N := some 98) (v := ?_) (a' := ?_) m10_27 rfl rfl (any_of HT_.out (by kernel_rfl)) (fun _ _ _ h => h) (Or.inl ⟨by rfl, ?_⟩) ?_ ?_; rotate_left
                             · intro w'
                               go_simp; (with_reducible rfl)
                             rotate_left
                             · simp only [Act.put, pa10_1, pa10_2, pa10_3, i64_w, i32_w]
                               rfl
                             refine pure_ (i := 13) (N := some 99) (v := ?_) (a' := ?_) m10_29 rfl rfl (any_of HT_.out (by kernel_rfl)) (fun _ _ _ h => h) (Or.inl ⟨by rfl, ?_⟩) ?_ ?_; rotate_left
                             · intro w'
                               go_simp; (with_reducible rfl)
                             rotate_left
                             · simp only [Act.put, pa10_1, pa10_2, pa10_3, i64_w, i32_w]
                               rfl
                             refine take_ (i := 14) (N := some 100) (v := ?_) (a' := ?_) m10_31 rfl rfl (take_ofW HT_.out HW_.out (by kernel_rfl)) (fun _ _ _ h => h) (Or.inl ⟨by rfl, ?_⟩) hHeld ?_ ?_; rotate_left
                             · rintro w' ⟨s0, s1, s2, s3, s4, s5, s6, s7, s8, s9, s10, s11, s12, s13, s14, s15, s16, s17⟩
                               go_simp; (with_reducible rfl)
                             rotate_left
                             · simp only [Act.put, pa10_1, pa10_2, pa10_3, i64_w, i32_w]
                               rfl
                             refine one_ (i := 15) (N := some 101) m10_33 rfl rfl (one_of HT_.out (by kernel_rfl)) (by decide) (fun K hK => ?_); refine goes_ Tryz.func13 (by kernel_rfl) rfl #[.agg #[.int .i64 ((rd_T37 t362 x8_8).f0), .int .i64 ((rd_T37 t362 x8_8).f1), .string ((rd_T37 t362 x8_8).f2)]] (by rfl) rfl rfl d10_2 ?_; (with_reducible refine (impl_TokenText.calls kj77 ((rd_T37 t362 x8_8).f0) ((rd_T37 t362 x8_8).f1) ((rd_T37 t362 x8_8).f2) t381 t382 _ ?side1 A87.out).mono ?_)
                             (case side1 => exact Lz.below HLZ.out d10_6)
                             rintro e w92 ⟨rfl, hb⟩; have HS3_ := (hb.cell (World.block_lt_of_cell? _ _ (hHeld.2.2.2.1))).trans (hHeld.2.2.2.1); have HS4_ := (hb.cell (World.block_lt_of_cell? _ _ (hHeld.2.2.2.2.1))).trans (hHeld.2.2.2.2.1); have HS5_ := (hb.cell (World.block_lt_of_cell? _ _ (hHeld.2.2.2.2.2.1))).trans (hHeld.2.2.2.2.2.1); have HS6_ := (hb.cell (World.block_lt_of_cell? _ _ (hHeld.2.2.2.2.2.2.1))).trans (hHeld.2.2.2.2.2.2.1); have HS7_ := (hb.cell (World.block_lt_of_cell? _ _ (hHeld.2.2.2.2.2.2.2.1))).trans (hHeld.2.2.2.2.2.2.2.1); have HS8_ := (hb.cell (World.block_lt_of_cell? _ _ (hHeld.2.2.2.2.2.2.2.2.1))).trans (hHeld.2.2.2.2.2.2.2.2.1); have HS9_ := (hb.cell (World.block_lt_of_cell? _ _ (hHeld.2.2.2.2.2.2.2.2.2.1))).trans (hHeld.2.2.2.2.2.2.2.2.2.1); have HS10_ := (hb.cell (World.block_lt_of_cell? _ _ (hHeld.2.2.2.2.2.2.2.2.2.2.1))).trans (hHeld.2.2.2.2.2.2.2.2.2.2.1); have HS11_ := (hb.cell (World.block_lt_of_cell? _ _ (hHeld.2.2.2.2.2.2.2.2.2.2.2.1))).trans (hHeld.2.2.2.2.2.2.2.2.2.2.2.1); have HS12_ := (hb.cell (World.block_lt_of_cell? _ _ (hHeld.2.2.2.2.2.2.2.2.2.2.2.2.1))).trans (hHeld.2.2.2.2.2.2.2.2.2.2.2.2.1); have HS13_ := (hb.cell (World.block_lt_of_cell? _ _ (hHeld.2.2.2.2.2.2.2.2.2.2.2.2.2.1))).trans (hHeld.2.2.2.2.2.2.2.2.2.2.2.2.2.1); have HS14_ := (hb.cell (World.block_lt_of_cell? _ _ (hHeld.2.2.2.2.2.2.2.2.2.2.2.2.2.2.1))).trans (hHeld.2.2.2.2.2.2.2.2.2.2.2.2.2.2.1)
                             have HS15_ := (hb.cell (World.block_lt_of_cell? _ _ (hHeld.2.2.2.2.2.2.2.2.2.2.2.2.2.2.2.1))).trans (hHeld.2.2.2.2.2.2.2.2.2.2.2.2.2.2.2.1); have HS16_ := (hb.cell (World.block_lt_of_cell? _ _ (hHeld.2.2.2.2.2.2.2.2.2.2.2.2.2.2.2.2.1))).trans (hHeld.2.2.2.2.2.2.2.2.2.2.2.2.2.2.2.2.1); have HS17_ := (hb.cell (World.block_lt_of_cell? _ _ (hHeld.2.2.2.2.2.2.2.2.2.2.2.2.2.2.2.2.2))).trans (hHeld.2.2.2.2.2.2.2.2.2.2.2.2.2.2.2.2.2); refine ⟨_, rfl, ?_⟩; have n0_ := ak (Kd.R_below d10_12 hb); have n1_ := ak (Kd.R_below d10_7 hb); have n2_ := ak (Kd.R_below d10_15 hb); have n3_ := ak (blk_below (g := gb349) (o := .cells #[.int .i64 t344, .int .i64 t345, .slice Ao12 t346.length co12] 27 (0, 0)) d10_3 hb); have n4_ := ak (blk_below (g := gb367) (o := .cells #[.int .i64 t365, .string t366] 34 (0, 0)) d10_9 hb); have n5_ := ak (blk_below (g := gb377) (o := .cells #[.int .i64 t372, .int .i64 t373, .slice (some ad378) t374.length co67] 27 (0, 0)) d10_14 hb); have n6_ := ak (below_step d10_6 hb); clear HO_5; clear HO_350002; clear HO_378002; clear BK349; clear BK367; clear BK377; clear HB; have HO_5 := n0_; have HO_350002 := n1_; have HO_378002 := n2_; have BK349 := n3_; have BK367 := n4_; have BK377 := n5_; have HB := n6_; clear n0_ n1_ n2_ n3_ n4_ n5_ n6_
                             (try clear hb)
                             (try clear hb2)
                             (try clear hk)
                             (try clear hi)
                             refine hK.out _ _ ⟨(blk_cell BK377.out 0).trans rfl, (blk_cell BK377.out 1).trans rfl, (blk_cell BK377.out 2).trans rfl, HS3_, HS4_, HS5_, HS6_, HS7_, HS8_, HS9_, HS10_, HS11_, HS12_, HS13_, HS14_, HS15_, HS16_, HS17_⟩ (fun hHeld => ?_); clear hK K; refine norm_ (a' := ?_) ?_ ?_; rotate_left
                             · show Act.put _ (some 101) _ = _
                               simp only [Act.put, pa10_1, pa10_2, pa10_3, i64_w, i32_w]; rfl
                             refine pure_ (i := 16) (N := some 102) (v := ?_) (a' := ?_) m10_35 rfl rfl (any_of HT_.out (by kernel_rfl)) (fun _ _ _ h => h) (Or.inl ⟨by rfl, ?_⟩) ?_ ?_; rotate_left
                             · intro w'
                               go_simp; (with_reducible rfl)
                             rotate_left
                             · simp only [Act.put, pa10_1, pa10_2, pa10_3, i64_w, i32_w]
                               rfl
                             refine pure_ (i := 17) (N := some 103) (v := ?_) (a' := ?_) m10_37 rfl rfl (any_of HT_.out (by kernel_rfl)) (fun _ _ _ h => h) (Or.inl ⟨by rfl, ?_⟩) ?_ ?_; rotate_left
                             · intro w'
                               go_simp; (with_reducible rfl)
                             rotate_left
                             · simp only [Act.put, pa10_1, pa10_2, pa10_3, i64_w, i32_w]
                               rfl
                             refine pure_ (i := 18) (N := some 104) (v := ?_) (a' := ?_) m10_39 rfl rfl (any_of HT_.out (by kernel_rfl)) (fun _ _ _ h => h) (Or.inl ⟨by rfl, ?_⟩) ?_ ?_; rotate_left
                             · intro w'
                               go_simp; (with_reducible rfl)
                             rotate_left
                             · simp only [Act.put, pa10_1, pa10_2, pa10_3, i64_w, i32_w]
                               rfl
                             refine pure_ (i := 19) (N := some 105) (v := ?_) (a' := ?_) m10_41 rfl rfl (any_of HT_.out (by kernel_rfl)) (fun _ _ _ h => h) (Or.inl ⟨by rfl, ?_⟩) ?_ ?_; rotate_left
                             · intro w'
                               go_simp; (with_reducible rfl)
                             rotate_left
                             · simp only [Act.put, pa10_1, pa10_2, pa10_3, i64_w, i32_w]
                               rfl
                             refine pure_ (i := 20) (N := some 106) (v := ?_) (a' := ?_) m10_46 rfl rfl (any_of HT_.out (by kernel_rfl)) (fun _ _ _ h => h) (Or.inl ⟨by rfl, ?_⟩) ?_ ?_; rotate_left
                             · intro w'
                               go_simp; (with_reducible rfl)
                             rotate_left
                             · simp only [Act.put, pa10_1, pa10_2, pa10_3, i64_w, i32_w]
                               rfl
                             refine pure_ (i := 21) (N := some 107) (v := ?_) (a' := ?_) m10_49 rfl rfl (any_of HT_.out (by kernel_rfl)) (fun _ _ _ h => h) (Or.inl ⟨by rfl, ?_⟩) ?_ ?_; rotate_left
                             · intro w'
                               go_simp; (with_reducible rfl)
                             rotate_left
                             · simp only [Act.put, pa10_1, pa10_2, pa10_3, i64_w, i32_w]
                               rfl
                             refine pure_ (i := 22) (N := some 108) (v := ?_) (a' := ?_) m10_51 rfl rfl (any_of HT_.out (by kernel_rfl)) (fun _ _ _ h => h) (Or.inl ⟨by rfl, ?_⟩) ?_ ?_; rotate_left
                             · intro w'
                               go_simp; (with_reducible rfl)
                             rotate_left
                             · simp only [Act.put, pa10_1, pa10_2, pa10_3, i64_w, i32_w]
                               rfl
                             refine pure_ (i := 23) (N := some 109) (v := ?_) (a' := ?_) m10_53 rfl rfl (any_of HT_.out (by kernel_rfl)) (fun _ _ _ h => h) (Or.inl ⟨by rfl, ?_⟩) ?_ ?_; rotate_left
                             · intro w'
                               go_simp; (with_reducible rfl)
                             rotate_left
                             · simp only [Act.put, pa10_1, pa10_2, pa10_3, i64_w, i32_w]
                               rfl
                             refine take_ (i := 24) (N := some 110) (v := ?_) (a' := ?_) m10_55 rfl rfl (take_ofW HT_.out HW_.out (by kernel_rfl)) (fun _ _ _ h => h) (Or.inl ⟨by rfl, ?_⟩) hHeld ?_ ?_; rotate_left
                             · rintro w' ⟨s0, s1, s2, s3, s4, s5, s6, s7, s8, s9, s10, s11, s12, s13, s14, s15, s16, s17⟩
                               go_simp; (with_reducible rfl)
                             rotate_left
                             · simp only [Act.put, pa10_1, pa10_2, pa10_3, i64_w, i32_w]
                               rfl
                             refine pure_ (i := 25) (N := some 111) (v := ?_) (a' := ?_) m10_57 rfl rfl (any_of HT_.out (by kernel_rfl)) (fun _ _ _ h => h) (Or.inl ⟨by rfl, ?_⟩) ?_ ?_; rotate_left
                             · intro w'
                               go_simp; (with_reducible rfl)
                             rotate_left
                             · simp only [Act.put, pa10_1, pa10_2, pa10_3, i64_w, i32_w]
                               rfl
                             refine pure_ (i := 26) (N := some 112) (v := ?_) (a' := ?_) m10_59 rfl rfl (any_of HT_.out (by kernel_rfl)) (fun _ _ _ h => h) (Or.inl ⟨by rfl, ?_⟩) ?_ ?_; rotate_left
                             · intro w'
                               go_simp; (with_reducible rfl)
                             rotate_left
                             · simp only [Act.put, pa10_1, pa10_2, pa10_3, i64_w, i32_w]
                               rfl
                             refine pure_ (i := 27) (N := some 113) (v := ?_) (a' := ?_) m10_61 rfl rfl (any_of HT_.out (by kernel_rfl)) (fun _ _ _ h => h) (Or.inl ⟨by rfl, ?_⟩) ?_ ?_; rotate_left
                             · intro w'
                               go_simp; (with_reducible rfl)
                             rotate_left
                             · simp only [Act.put, pa10_1, pa10_2, pa10_3, i64_w, i32_w]
                               rfl
                             refine pure_ (i := 28) (N := some 114) (v := ?_) (a' := ?_) m10_62 rfl rfl (any_of HT_.out (by kernel_rfl)) (fun _ _ _ h => h) (Or.inl ⟨by rfl, ?_⟩) ?_ ?_; rotate_left
                             · intro w'
                               go_simp; (with_reducible rfl)
                             rotate_left
                             · simp only [Act.put, pa10_1, pa10_2, pa10_3, i64_w, i32_w]
                               rfl
                             refine pure_ (i := 29) (N := some 115) (v := ?_) (a' := ?_) m10_63 rfl rfl (any_of HT_.out (by kernel_rfl)) (fun _ _ _ h => h) (Or.inl ⟨by rfl, ?_⟩) ?_ ?_; rotate_left
                             · intro w'
                               go_simp; (with_reducible rfl)
                             rotate_left
                             · simp only [Act.put, pa10_1, pa10_2, pa10_3, i64_w, i32_w]
                               rfl
                             refine pure_ (i := 30) (N := some 116) (v := ?_) (a' := ?_) m10_64 rfl rfl (any_of HT_.out (by kernel_rfl)) (fun _ _ _ h => h) (Or.inl ⟨by rfl, ?_⟩) ?_ ?_; rotate_left
                             · intro w'
                               go_simp; (with_reducible rfl)
                             rotate_left
                             · simp only [Act.put, pa10_1, pa10_2, pa10_3, i64_w, i32_w]
                               rfl
                             refine take_ (i := 31) (N := some 117) (v := ?_) (a' := ?_) m10_65 rfl rfl (take_ofW HT_.out HW_.out (by kernel_rfl)) (fun _ _ _ h => h) (Or.inl ⟨by rfl, ?_⟩) hHeld ?_ ?_; rotate_left
                             · rintro w' ⟨s0, s1, s2, s3, s4, s5, s6, s7, s8, s9, s10, s11, s12, s13, s14, s15, s16, s17⟩
                               go_simp; (with_reducible rfl)
                             rotate_left
                             · simp only [Act.put, pa10_1, pa10_2, pa10_3, i64_w, i32_w]
                               rfl
                             refine one_ (i := 32) (N := some 118) m10_66 rfl rfl (one_of HT_.out (by kernel_rfl)) (by decide) (fun K hK => ?_); refine goes_ Tryz.func14 (by kernel_rfl) rfl #[.string ((rd_T37 t362 x8_8).f2)] (by rfl) rfl rfl d10_2 ?_; (with_reducible refine (impl_SymFault.calls ((rd_T37 t362 x8_8).f2) t385 _ A90.out).mono ?_); rintro e w93 ⟨rfl, hb⟩; have HS3_ := (hb.cell (World.block_lt_of_cell? _ _ (hHeld.2.2.2.1))).trans (hHeld.2.2.2.1); have HS4_ := (hb.cell (World.block_lt_of_cell? _ _ (hHeld.2.2.2.2.1))).trans (hHeld.2.2.2.2.1); have HS5_ := (hb.cell (World.block_lt_of_cell? _ _ (hHeld.2.2.2.2.2.1))).trans (hHeld.2.2.2.2.2.1); have HS6_ := (hb.cell (World.block_lt_of_cell? _ _ (hHeld.2.2.2.2.2.2.1))).trans (hHeld.2.2.2.2.2.2.1); have HS7_ := (hb.cell (World.block_lt_of_cell? _ _ (hHeld.2.2.2.2.2.2.2.1))).trans (hHeld.2.2.2.2.2.2.2.1); have HS8_ := (hb.cell (World.block_lt_of_cell? _ _ (hHeld.2.2.2.2.2.2.2.2.1))).trans (hHeld.2.2.2.2.2.2.2.2.1); have HS9_ := (hb.cell (World.block_lt_of_cell? _ _ (hHeld.2.2.2.2.2.2.2.2.2.1))).trans (hHeld.2.2.2.2.2.2.2.2.2.1); have HS10_ := (hb.cell (World.block_lt_of_cell? _ _ (hHeld.2.2.2.2.2.2.2.2.2.2.1))).trans (hHeld.2.2.2.2.2.2.2.2.2.2.1)
                             have HS11_ := (hb.cell (World.block_lt_of_cell? _ _ (hHeld.2.2.2.2.2.2.2.2.2.2.2.1))).trans (hHeld.2.2.2.2.2.2.2.2.2.2.2.1); have HS12_ := (hb.cell (World.block_lt_of_cell? _ _ (hHeld.2.2.2.2.2.2.2.2.2.2.2.2.1))).trans (hHeld.2.2.2.2.2.2.2.2.2.2.2.2.1); have HS13_ := (hb.cell (World.block_lt_of_cell? _ _ (hHeld.2.2.2.2.2.2.2.2.2.2.2.2.2.1))).trans (hHeld.2.2.2.2.2.2.2.2.2.2.2.2.2.1); have HS14_ := (hb.cell (World.block_lt_of_cell? _ _ (hHeld.2.2.2.2.2.2.2.2.2.2.2.2.2.2.1))).trans (hHeld.2.2.2.2.2.2.2.2.2.2.2.2.2.2.1); have HS15_ := (hb.cell (World.block_lt_of_cell? _ _ (hHeld.2.2.2.2.2.2.2.2.2.2.2.2.2.2.2.1))).trans (hHeld.2.2.2.2.2.2.2.2.2.2.2.2.2.2.2.1); have HS16_ := (hb.cell (World.block_lt_of_cell? _ _ (hHeld.2.2.2.2.2.2.2.2.2.2.2.2.2.2.2.2.1))).trans (hHeld.2.2.2.2.2.2.2.2.2.2.2.2.2.2.2.2.1); have HS17_ := (hb.cell (World.block_lt_of_cell? _ _ (hHeld.2.2.2.2.2.2.2.2.2.2.2.2.2.2.2.2.2))).trans (hHeld.2.2.2.2.2.2.2.2.2.2.2.2.2.2.2.2.2); refine ⟨_, rfl, ?_⟩; have n0_ := ak (Kd.R_below d10_12 hb); have n1_ := ak (Kd.R_below d10_7 hb); have n2_ := ak (Kd.R_below d10_15 hb); have n3_ := ak (blk_below (g := gb349) (o := .cells #[.int .i64 t344, .int .i64 t345, .slice Ao12 t346.length co12] 27 (0, 0)) d10_3 hb); have n4_ := ak (blk_below (g := gb367) (o := .cells #[.int .i64 t365, .string t366] 34 (0, 0)) d10_9 hb)
                             have n5_ := ak (blk_below (g := gb377) (o := .cells #[.int .i64 t372, .int .i64 t373, .slice (some ad378) t374.length co67] 27 (0, 0)) d10_14 hb); have n6_ := ak (below_step d10_6 hb); clear HO_5; clear HO_350002; clear HO_378002; clear BK349; clear BK367; clear BK377; clear HB; have HO_5 := n0_; have HO_350002 := n1_; have HO_378002 := n2_; have BK349 := n3_; have BK367 := n4_; have BK377 := n5_; have HB := n6_; clear n0_ n1_ n2_ n3_ n4_ n5_ n6_
                             (try clear hb)
                             (try clear hb2)
                             (try clear hk)
                             (try clear hi)
                             refine hK.out _ _ ⟨(blk_cell BK377.out 0).trans rfl, (blk_cell BK377.out 1).trans rfl, (blk_cell BK377.out 2).trans rfl, HS3_, HS4_, HS5_, HS6_, HS7_, HS8_, HS9_, HS10_, HS11_, HS12_, HS13_, HS14_, HS15_, HS16_, HS17_⟩ (fun hHeld => ?_); clear hK K; refine norm_ (a' := ?_) ?_ ?_; rotate_left
                             · show Act.put _ (some 118) _ = _
                               simp only [Act.put, pa10_1, pa10_2, pa10_3, i64_w, i32_w]; rfl
                             refine pure_ (i := 33) (N := some 119) (v := ?_) (a' := ?_) m10_67 rfl rfl (any_of HT_.out (by kernel_rfl)) (fun _ _ _ h => h) (Or.inl ⟨by rfl, ?_⟩) ?_ ?_; rotate_left
                             · intro w'
                               go_simp; (with_reducible rfl)
                             rotate_left
                             · simp only [Act.put, pa10_1, pa10_2, pa10_3, i64_w, i32_w]
                               rfl
                             refine pure_ (i := 34) (N := some 120) (v := ?_) (a' := ?_) m10_68 rfl rfl (any_of HT_.out (by kernel_rfl)) (fun _ _ _ h => h) (Or.inl ⟨by rfl, ?_⟩) ?_ ?_; rotate_left
                             · intro w'
                               go_simp; (with_reducible rfl)
                             rotate_left
                             · simp only [Act.put, pa10_1, pa10_2, pa10_3, i64_w, i32_w]
                               rfl
                             refine pure_ (i := 35) (N := some 121) (v := ?_) (a' := ?_) m10_69 rfl rfl (any_of HT_.out (by kernel_rfl)) (fun _ _ _ h => h) (Or.inl ⟨by rfl, ?_⟩) ?_ ?_; rotate_left
                             · intro w'
                               go_simp; (with_reducible rfl)
                             rotate_left
                             · simp only [Act.put, pa10_1, pa10_2, pa10_3, i64_w, i32_w]
                               rfl
                             refine done_ (done_of HT_.out (by kernel_rfl)) ?_
                             try go_wp2
                             go_meet
                             case rel => exact ⟨_, ((t385 != 0)), d10_10, H', ⟨by have := HJ2.out; have := HJ6.out; have := HJ34.out; have := HJ38.out; have := HJ50.out; have := HJ58.out; have := HJ74.out; have := HK8.out; have := HJ77.out; first | omega | exact Nat.le_refl _⟩, ⟨c10_7⟩, ⟨c10_5⟩, ⟨c10_8⟩, ⟨c10_2⟩, ⟨c10_4⟩, ⟨c10_6⟩, ⟨c10_1⟩⟩
                            ·rw [if_neg c89] at H
                             have c89b0 : (((rd_T37 t362 x8_8).f0) == 6) = false := beq_eq_false_iff_ne.mpr c89; have c89b1 : (((rd_T37 t362 x8_8).f0) != 6) = true := bne_iff_ne.mpr c89; have H' := ak H; clear H
                             try go_wp2
                             have n0_ := ak (Kd.R_drew HO_5.out); have n1_ := ak (Kd.R_drew HO_350002.out); have n2_ := ak (Kd.R_drew HO_378002.out); have n3_ := ak (blk_drew BK349.out); have n4_ := ak (blk_drew BK367.out); have n5_ := ak (blk_drew BK377.out); have n6_ := ak (below_drew1 HB.out); clear HO_5; clear HO_350002; clear HO_378002; clear BK349; clear BK367; clear BK377; clear HB; have HO_5 := n0_; have HO_350002 := n1_; have HO_378002 := n2_; have BK349 := n3_; have BK367 := n4_; have BK377 := n5_; have HB := n6_; clear n0_ n1_ n2_ n3_ n4_ n5_ n6_; have p378 : 0 ≤ (x8_8 : Int) := of_decide_eq_true d10_8; have q378 : x8_8 < (t374.length : Int) := of_decide_eq_true d10_8; obtain ⟨ad378, e378, hx378_0, hx378_1, hx378_2⟩ := at_T37 (Kd.R_reads' HO_378002.out).2.2 x8_8 p378 q378
                             cases e378
                             replace p378 := eq_true p378; replace q378 := eq_true q378; have p379 : 0 ≤ (x8_8 : Int) := of_decide_eq_true d10_8; have q379 : x8_8 < (t362.length : Int) := of_decide_eq_true d10_8; obtain ⟨ad379, e379, hx379_0, hx379_1, hx379_2⟩ := at_T37 (Kd.R_reads' HO_5.out).2.2 x8_8 p379 q379
                             cases e379
                             replace p379 := eq_true p379; replace q379 := eq_true q379; have p380 : 0 ≤ (x8_8 : Int) := of_decide_eq_true d10_8; have q380 : x8_8 < (t362.length : Int) := of_decide_eq_true d10_8; obtain ⟨ad380, e380, hx380_0, hx380_1, hx380_2⟩ := at_T37 (Kd.R_reads' HO_5.out).2.2 x8_8 p380 q380; obtain rfl : ad379 = ad380 := (by injection e380); replace p380 := eq_true p380; replace q380 := eq_true q380; have p383 : 0 ≤ (x8_8 : Int) := of_decide_eq_true d10_8; have q383 : x8_8 < (t362.length : Int) := of_decide_eq_true d10_8; obtain ⟨ad383, e383, hx383_0, hx383_1, hx383_2⟩ := at_T37 (Kd.R_reads' HO_5.out).2.2 x8_8 p383 q383; obtain rfl : ad379 = ad383 := (by injection e383); replace p383 := eq_true p383; replace q383 := eq_true q383
                             refine start_ (n := 36) (S := fun w' => w'.cell? ⟨gb377, 0, none⟩ = some (.int .i64 t372) ∧ w'.cell? ⟨gb377, 1, none⟩ = some (.int .i64 t373) ∧ w'.cell? ⟨gb377, 2, none⟩ = some (.slice (some ad378) t374.length co67) ∧ w'.cell? (ad378.add ((x8_8).toNat * 3)) = some (.int .i64 ((rd_T37 t374 x8_8).f0)) ∧ w'.cell? ⟨(ad378.add ((x8_8).toNat * 3)).block, (ad378.add ((x8_8).toNat * 3)).off + 1, none⟩ = some (.int .i64 ((rd_T37 t374 x8_8).f1)) ∧ w'.cell? ⟨(ad378.add ((x8_8).toNat * 3)).block, (ad378.add ((x8_8).toNat * 3)).off + 2, none⟩ = some (.string ((rd_T37 t374 x8_8).f2)) ∧ w'.cell? (ad379.add ((x8_8).toNat * 3)) = some (.int .i64 ((rd_T37 t362 x8_8).f0)) ∧ w'.cell? ⟨(ad379.add ((x8_8).toNat * 3)).block, (ad379.add ((x8_8).toNat * 3)).off + 1, none⟩ = some (.int .i64 ((rd_T37 t362 x8_8).f1)) ∧ w'.cell? ⟨(ad379.add ((x8_8).toNat * 3)).block, (ad379.add ((x8_8).toNat * 3)).off + 2, none⟩ = some (.string ((rd_T37 t362 x8_8).f2)) ∧ w'.cell? (ad379.add ((x8_8).toNat * 3)) = some (.int .i64 ((rd_T37 t362 x8_8).f0)) ∧ w'.cell? ⟨(ad379.add ((x8_8).toNat * 3)).block, (ad379.add ((x8_8).toNat * 3)).off + 1, none⟩ = some (.int .i64 ((rd_T37 t362 x8_8).f1)) ∧ w'.cell? ⟨(ad379.add ((x8_8).toNat * 3)).block, (ad379.add ((x8_8).toNat * 3)).off + 2, none⟩ = some (.string ((rd_T37 t362 x8_8).f2)) ∧ w'.cell? (ad379.add ((x8_8).toNat * 3)) = some (.int .i64 ((rd_T37 t362 x8_8).f0)) ∧ w'.cell? ⟨(ad379.add ((x8_8).toNat * 3)).block, (ad379.add ((x8_8).toNat * 3)).off + 1, none⟩ = some (.int .i64 ((rd_T37 t362 x8_8).f1)) ∧ w'.cell? ⟨(ad379.add ((x8_8).toNat * 3)).block, (ad379.add ((x8_8).toNat * 3)).off + 2, none⟩ = some (.string ((rd_T37 t362 x8_8).f2))) (ds := []) m10_0 (by kernel_rfl) rfl rfl ⟨(blk_cell BK377.out 0).trans rfl, (blk_cell BK377.out 1).trans rfl, (blk_cell BK377.out 2).trans rfl, hx378_0, hx378_1, hx378_2, hx379_0, hx379_1, hx379_2, hx380_0, hx380_1, hx380_2, hx383_0, hx383_1, hx383_2⟩ (fun hHeld => ?_); refine with_tabW laws_FnTokens.tab19 laws_FnTokens.bits19 (fun HT_ HW_ => ?_)
                             generalize wc.drew = w94 at HO_5 HO_350002 HO_378002 BK349 BK367 BK377 HB hx378_0 hx378_1 hx378_2 hx379_0 hx379_1 hx379_2 hx380_0 hx380_1 hx380_2 hx383_0 hx383_1 hx383_2 hHeld ⊢; refine pure_ (i := 0) (N := some 86) (v := ?_) (a' := ?_) m10_2 rfl rfl (any_of HT_.out (by kernel_rfl)) (fun _ _ _ h => h) (Or.inl ⟨by rfl, ?_⟩) ?_ ?_; rotate_left
                             · intro w'
                               go_simp; (with_reducible rfl)
                             rotate_left
                             · simp only [Act.put, pa10_1, pa10_2, pa10_3, i64_w, i32_w]
                               rfl
                             refine pure_ (i := 2) (N := some 88) (v := ?_) (a' := ?_) m10_4 rfl rfl (any_of HT_.out (by kernel_rfl)) (fun _ _ _ h => h) (Or.inl ⟨by rfl, ?_⟩) ?_ ?_; rotate_left
                             · intro w'
                               go_simp; (with_reducible rfl)
                             rotate_left
                             · simp only [Act.put, pa10_1, pa10_2, pa10_3, i64_w, i32_w]
                               rfl
                             refine pure_ (i := 5) (N := some 91) (v := ?_) (a' := ?_) m10_6 rfl rfl (any_of HT_.out (by kernel_rfl)) (fun _ _ _ h => h) (Or.inl ⟨by rfl, ?_⟩) ?_ ?_; rotate_left
                             · intro w'
                               go_simp; (with_reducible rfl)
                             rotate_left
                             · simp only [Act.put, pa10_1, pa10_2, pa10_3, i64_w, i32_w]
                               rfl
                             refine pure_ (i := 6) (N := some 92) (v := ?_) (a' := ?_) m10_7 rfl rfl (any_of HT_.out (by kernel_rfl)) (fun _ _ _ h => h) (Or.inl ⟨by rfl, ?_⟩) ?_ ?_; rotate_left
                             · intro w'
                               go_simp; (with_reducible rfl)
                             rotate_left
                             · simp only [Act.put, pa10_1, pa10_2, pa10_3, i64_w, i32_w]
                               rfl
                             refine pure_ (i := 7) (N := some 93) (v := ?_) (a' := ?_) m10_8 rfl rfl (any_of HT_.out (by kernel_rfl)) (fun _ _ _ h => h) (Or.inl ⟨by rfl, ?_⟩) ?_ ?_; rotate_left
                             · intro w'
                               go_simp; (with_reducible rfl)
                             rotate_left
                             · simp only [Act.put, pa10_1, pa10_2, pa10_3, i64_w, i32_w]
                               rfl
                             refine take_ (i := 1) (N := some 87) (v := ?_) (a' := ?_) m10_10 rfl rfl (take_ofW HT_.out HW_.out (by kernel_rfl)) (fun _ _ _ h => h) (Or.inl ⟨by rfl, ?_⟩) hHeld ?_ ?_; rotate_left
                             · rintro w' ⟨s0, s1, s2, s3, s4, s5, s6, s7, s8, s9, s10, s11, s12, s13, s14⟩
                               go_simp; (with_reducible rfl)
                             rotate_left
                             · simp only [Act.put, pa10_1, pa10_2, pa10_3, i64_w, i32_w]
                               rfl
                             refine pure_ (i := 3) (N := some 89) (v := ?_) (a' := ?_) m10_12 rfl rfl (any_of HT_.out (by kernel_rfl)) (fun _ _ _ h => h) (Or.inl ⟨by rfl, ?_⟩) ?_ ?_; rotate_left
                             · intro w'
                               go_simp; (with_reducible rfl)
                             rotate_left
                             · simp only [Act.put, pa10_1, pa10_2, pa10_3, i64_w, i32_w]
                               rfl
                             refine take_ (i := 4) (N := some 90) (v := ?_) (a' := ?_) m10_16 rfl rfl (take_ofW HT_.out HW_.out (by kernel_rfl)) (fun _ _ _ h => h) (Or.inl ⟨by rfl, ?_⟩) hHeld ?_ ?_; rotate_left
                             · rintro w' ⟨s0, s1, s2, s3, s4, s5, s6, s7, s8, s9, s10, s11, s12, s13, s14⟩
                               go_simp; (with_reducible rfl)
                             rotate_left
                             · simp only [Act.put, pa10_1, pa10_2, pa10_3, i64_w, i32_w]
                               rfl
                             refine take_ (i := 8) (N := some 94) (v := ?_) (a' := ?_) m10_19 rfl rfl (take_ofW HT_.out HW_.out (by kernel_rfl)) (fun _ _ _ h => h) (Or.inl ⟨by rfl, ?_⟩) hHeld ?_ ?_; rotate_left
                             · rintro w' ⟨s0, s1, s2, s3, s4, s5, s6, s7, s8, s9, s10, s11, s12, s13, s14⟩
                               go_simp; (with_reducible rfl)
                             rotate_left
                             · simp only [Act.put, pa10_1, pa10_2, pa10_3, i64_w, i32_w]
                               rfl
                             refine pure_ (i := 9) (N := some 95) (v := ?_) (a' := ?_) m10_21 rfl rfl (any_of HT_.out (by kernel_rfl)) (fun _ _ _ h => h) (Or.inl ⟨by rfl, ?_⟩) ?_ ?_; rotate_left
                             · intro w'
                               go_simp; (with_reducible rfl)
                             rotate_left
                             · simp only [Act.put, pa10_1, pa10_2, pa10_3, i64_w, i32_w]
                               rfl
                             refine pure_ (i := 10) (N := some 96) (v := ?_) (a' := ?_) m10_23 rfl rfl (any_of HT_.out (by kernel_rfl)) (fun _ _ _ h => h) (Or.inl ⟨by rfl, ?_⟩) ?_ ?_; rotate_left
                             · intro w'
                               go_simp; (with_reducible rfl)
                             rotate_left
                             · simp only [Act.put, pa10_1, pa10_2, pa10_3, i64_w, i32_w]
                               rfl
                             refine pure_ (i := 11) (N := some 97) (v := ?_) (a' := ?_) m10_25 rfl rfl (any_of HT_.out (by kernel_rfl)) (fun _ _ _ h => h) (Or.inl ⟨by rfl, ?_⟩) ?_ ?_; rotate_left
                             · intro w'
                               go_simp; (with_reducible rfl)
                             rotate_left
                             · simp only [Act.put, pa10_1, pa10_2, pa10_3, i64_w, i32_w]
                               rfl
                             refine pure_ (i := 12) (N := some 98) (v := ?_) (a' := ?_) m10_27 rfl rfl (any_of HT_.out (by kernel_rfl)) (fun _ _ _ h => h) (Or.inl ⟨by rfl, ?_⟩) ?_ ?_; rotate_left
                             · intro w'
                               go_simp; (with_reducible rfl)
                             rotate_left
                             · simp only [Act.put, pa10_1, pa10_2, pa10_3, i64_w, i32_w]
                               rfl
                             refine pure_ (i := 13) (N := some 99) (v := ?_) (a' := ?_) m10_29 rfl rfl (any_of HT_.out (by kernel_rfl)) (fun _ _ _ h => h) (Or.inl ⟨by rfl, ?_⟩) ?_ ?_; rotate_left
                             · intro w'
                               go_simp; (with_reducible rfl)
                             rotate_left
                             · simp only [Act.put, pa10_1, pa10_2, pa10_3, i64_w, i32_w]
                               rfl
                             refine take_ (i := 14) (N := some 100) (v := ?_) (a' := ?_) m10_31 rfl rfl (take_ofW HT_.out HW_.out (by kernel_rfl)) (fun _ _ _ h => h) (Or.inl ⟨by rfl, ?_⟩) hHeld ?_ ?_; rotate_left
                             · rintro w' ⟨s0, s1, s2, s3, s4, s5, s6, s7, s8, s9, s10, s11, s12, s13, s14⟩
                               go_simp; (with_reducible rfl)
                             rotate_left
                             · simp only [Act.put, pa10_1, pa10_2, pa10_3, i64_w, i32_w]
                               rfl
                             refine one_ (i := 15) (N := some 101) m10_33 rfl rfl (one_of HT_.out (by kernel_rfl)) (by decide) (fun K hK => ?_); refine goes_ Tryz.func13 (by kernel_rfl) rfl #[.agg #[.int .i64 ((rd_T37 t362 x8_8).f0), .int .i64 ((rd_T37 t362 x8_8).f1), .string ((rd_T37 t362 x8_8).f2)]] (by rfl) rfl rfl d10_2 ?_; (with_reducible refine (impl_TokenText.calls kj77 ((rd_T37 t362 x8_8).f0) ((rd_T37 t362 x8_8).f1) ((rd_T37 t362 x8_8).f2) t381 t382 _ ?side1 A87.out).mono ?_)
                             (case side1 => exact Lz.below HLZ.out d10_6)
                             rintro e w95 ⟨rfl, hb⟩; have HS3_ := (hb.cell (World.block_lt_of_cell? _ _ (hHeld.2.2.2.1))).trans (hHeld.2.2.2.1); have HS4_ := (hb.cell (World.block_lt_of_cell? _ _ (hHeld.2.2.2.2.1))).trans (hHeld.2.2.2.2.1); have HS5_ := (hb.cell (World.block_lt_of_cell? _ _ (hHeld.2.2.2.2.2.1))).trans (hHeld.2.2.2.2.2.1); have HS6_ := (hb.cell (World.block_lt_of_cell? _ _ (hHeld.2.2.2.2.2.2.1))).trans (hHeld.2.2.2.2.2.2.1); have HS7_ := (hb.cell (World.block_lt_of_cell? _ _ (hHeld.2.2.2.2.2.2.2.1))).trans (hHeld.2.2.2.2.2.2.2.1); have HS8_ := (hb.cell (World.block_lt_of_cell? _ _ (hHeld.2.2.2.2.2.2.2.2.1))).trans (hHeld.2.2.2.2.2.2.2.2.1); have HS9_ := (hb.cell (World.block_lt_of_cell? _ _ (hHeld.2.2.2.2.2.2.2.2.2.1))).trans (hHeld.2.2.2.2.2.2.2.2.2.1); have HS10_ := (hb.cell (World.block_lt_of_cell? _ _ (hHeld.2.2.2.2.2.2.2.2.2.2.1))).trans (hHeld.2.2.2.2.2.2.2.2.2.2.1); have HS11_ := (hb.cell (World.block_lt_of_cell? _ _ (hHeld.2.2.2.2.2.2.2.2.2.2.2.1))).trans (hHeld.2.2.2.2.2.2.2.2.2.2.2.1); have HS12_ := (hb.cell (World.block_lt_of_cell? _ _ (hHeld.2.2.2.2.2.2.2.2.2.2.2.2.1))).trans (hHeld.2.2.2.2.2.2.2.2.2.2.2.2.1); have HS13_ := (hb.cell (World.block_lt_of_cell? _ _ (hHeld.2.2.2.2.2.2.2.2.2.2.2.2.2.1))).trans (hHeld.2.2.2.2.2.2.2.2.2.2.2.2.2.1); have HS14_ := (hb.cell (World.block_lt_of_cell? _ _ (hHeld.2.2.2.2.2.2.2.2.2.2.2.2.2.2))).trans (hHeld.2.2.2.2.2.2.2.2.2.2.2.2.2.2); refine ⟨_, rfl, ?_⟩
                             have n0_ := ak (Kd.R_below d10_12 hb); have n1_ := ak (Kd.R_below d10_7 hb); have n2_ := ak (Kd.R_below d10_15 hb); have n3_ := ak (blk_below (g := gb349) (o := .cells #[.int .i64 t344, .int .i64 t345, .slice Ao12 t346.length co12] 27 (0, 0)) d10_3 hb); have n4_ := ak (blk_below (g := gb367) (o := .cells #[.int .i64 t365, .string t366] 34 (0, 0)) d10_9 hb); have n5_ := ak (blk_below (g := gb377) (o := .cells #[.int .i64 t372, .int .i64 t373, .slice (some ad378) t374.length co67] 27 (0, 0)) d10_14 hb); have n6_ := ak (below_step d10_6 hb); clear HO_5; clear HO_350002; clear HO_378002; clear BK349; clear BK367; clear BK377; clear HB; have HO_5 := n0_; have HO_350002 := n1_; have HO_378002 := n2_; have BK349 := n3_; have BK367 := n4_; have BK377 := n5_; have HB := n6_; clear n0_ n1_ n2_ n3_ n4_ n5_ n6_
                             (try clear hb)
                             (try clear hb2)
                             (try clear hk)
                             (try clear hi)
                             refine hK.out _ _ ⟨(blk_cell BK377.out 0).trans rfl, (blk_cell BK377.out 1).trans rfl, (blk_cell BK377.out 2).trans rfl, HS3_, HS4_, HS5_, HS6_, HS7_, HS8_, HS9_, HS10_, HS11_, HS12_, HS13_, HS14_⟩ (fun hHeld => ?_); clear hK K; refine norm_ (a' := ?_) ?_ ?_; rotate_left
                             · show Act.put _ (some 101) _ = _
                               simp only [Act.put, pa10_1, pa10_2, pa10_3, i64_w, i32_w]; rfl
                             refine pure_ (i := 16) (N := some 102) (v := ?_) (a' := ?_) m10_35 rfl rfl (any_of HT_.out (by kernel_rfl)) (fun _ _ _ h => h) (Or.inl ⟨by rfl, ?_⟩) ?_ ?_; rotate_left
                             · intro w'
                               go_simp; (with_reducible rfl)
                             rotate_left
                             · simp only [Act.put, pa10_1, pa10_2, pa10_3, i64_w, i32_w]
                               rfl
                             refine pure_ (i := 17) (N := some 103) (v := ?_) (a' := ?_) m10_37 rfl rfl (any_of HT_.out (by kernel_rfl)) (fun _ _ _ h => h) (Or.inl ⟨by rfl, ?_⟩) ?_ ?_; rotate_left
                             · intro w'
                               go_simp; (with_reducible rfl)
                             rotate_left
                             · simp only [Act.put, pa10_1, pa10_2, pa10_3, i64_w, i32_w]
                               rfl
                             refine pure_ (i := 18) (N := some 104) (v := ?_) (a' := ?_) m10_39 rfl rfl (any_of HT_.out (by kernel_rfl)) (fun _ _ _ h => h) (Or.inl ⟨by rfl, ?_⟩) ?_ ?_; rotate_left
                             · intro w'
                               go_simp; (with_reducible rfl)
                             rotate_left
                             · simp only [Act.put, pa10_1, pa10_2, pa10_3, i64_w, i32_w]
                               rfl
                             refine pure_ (i := 19) (N := some 105) (v := ?_) (a' := ?_) m10_41 rfl rfl (any_of HT_.out (by kernel_rfl)) (fun _ _ _ h => h) (Or.inl ⟨by rfl, ?_⟩) ?_ ?_; rotate_left
                             · intro w'
                               go_simp; (with_reducible rfl)
                             rotate_left
                             · simp only [Act.put, pa10_1, pa10_2, pa10_3, i64_w, i32_w]
                               rfl
                             refine pure_ (i := 20) (N := some 106) (v := ?_) (a' := ?_) m10_46 rfl rfl (any_of HT_.out (by kernel_rfl)) (fun _ _ _ h => h) (Or.inl ⟨by rfl, ?_⟩) ?_ ?_; rotate_left
                             · intro w'
                               go_simp; (with_reducible rfl)
                             rotate_left
                             · simp only [Act.put, pa10_1, pa10_2, pa10_3, i64_w, i32_w]
                               rfl
                             refine pure_ (i := 21) (N := some 107) (v := ?_) (a' := ?_) m10_49 rfl rfl (any_of HT_.out (by kernel_rfl)) (fun _ _ _ h => h) (Or.inl ⟨by rfl, ?_⟩) ?_ ?_; rotate_left
                             · intro w'
                               go_simp; (with_reducible rfl)
                             rotate_left
                             · simp only [Act.put, pa10_1, pa10_2, pa10_3, i64_w, i32_w]
                               rfl
                             refine pure_ (i := 22) (N := some 108) (v := ?_) (a' := ?_) m10_51 rfl rfl (any_of HT_.out (by kernel_rfl)) (fun _ _ _ h => h) (Or.inl ⟨by rfl, ?_⟩) ?_ ?_; rotate_left
                             · intro w'
                               go_simp; (with_reducible rfl)
                             rotate_left
                             · simp only [Act.put, pa10_1, pa10_2, pa10_3, i64_w, i32_w]
                               rfl
                             refine pure_ (i := 23) (N := some 109) (v := ?_) (a' := ?_) m10_53 rfl rfl (any_of HT_.out (by kernel_rfl)) (fun _ _ _ h => h) (Or.inl ⟨by rfl, ?_⟩) ?_ ?_; rotate_left
                             · intro w'
                               go_simp; (with_reducible rfl)
                             rotate_left
                             · simp only [Act.put, pa10_1, pa10_2, pa10_3, i64_w, i32_w]
                               rfl
                             refine take_ (i := 24) (N := some 110) (v := ?_) (a' := ?_) m10_55 rfl rfl (take_ofW HT_.out HW_.out (by kernel_rfl)) (fun _ _ _ h => h) (Or.inl ⟨by rfl, ?_⟩) hHeld ?_ ?_; rotate_left
                             · rintro w' ⟨s0, s1, s2, s3, s4, s5, s6, s7, s8, s9, s10, s11, s12, s13, s14⟩
                               go_simp; (with_reducible rfl)
                             rotate_left
                             · simp only [Act.put, pa10_1, pa10_2, pa10_3, i64_w, i32_w]
                               rfl
                             refine pure_ (i := 25) (N := some 111) (v := ?_) (a' := ?_) m10_57 rfl rfl (any_of HT_.out (by kernel_rfl)) (fun _ _ _ h => h) (Or.inl ⟨by rfl, ?_⟩) ?_ ?_; rotate_left
                             · intro w'
                               go_simp; (with_reducible rfl)
                             rotate_left
                             · simp only [Act.put, pa10_1, pa10_2, pa10_3, i64_w, i32_w]
                               rfl
                             refine pure_ (i := 26) (N := some 112) (v := ?_) (a' := ?_) m10_59 rfl rfl (any_of HT_.out (by kernel_rfl)) (fun _ _ _ h => h) (Or.inl ⟨by rfl, ?_⟩) ?_ ?_; rotate_left
                             · intro w'
                               go_simp; (with_reducible rfl)
                             rotate_left
                             · simp only [Act.put, pa10_1, pa10_2, pa10_3, i64_w, i32_w]
                               rfl
                             refine pure_ (i := 27) (N := some 113) (v := undef) (a' := ?_) m10_61 rfl rfl (any_of HT_.out (by kernel_rfl)) (fun _ _ _ h => h) (Or.inr ⟨by rfl, rfl⟩) ?_ ?_; rotate_left
                             · simp only [Act.put, pa10_1, pa10_2, pa10_3, i64_w, i32_w]
                               rfl
                             refine pure_ (i := 28) (N := some 114) (v := undef) (a' := ?_) m10_62 rfl rfl (any_of HT_.out (by kernel_rfl)) (fun _ _ _ h => h) (Or.inr ⟨by rfl, rfl⟩) ?_ ?_; rotate_left
                             · simp only [Act.put, pa10_1, pa10_2, pa10_3, i64_w, i32_w]
                               rfl
                             refine pure_ (i := 29) (N := some 115) (v := undef) (a' := ?_) m10_63 rfl rfl (any_of HT_.out (by kernel_rfl)) (fun _ _ _ h => h) (Or.inr ⟨by rfl, rfl⟩) ?_ ?_; rotate_left
                             · simp only [Act.put, pa10_1, pa10_2, pa10_3, i64_w, i32_w]
                               rfl
                             refine pure_ (i := 30) (N := some 116) (v := undef) (a' := ?_) m10_64 rfl rfl (any_of HT_.out (by kernel_rfl)) (fun _ _ _ h => h) (Or.inr ⟨by rfl, rfl⟩) ?_ ?_; rotate_left
                             · simp only [Act.put, pa10_1, pa10_2, pa10_3, i64_w, i32_w]
                               rfl
                             refine pure_ (i := 31) (N := some 117) (v := undef) (a' := ?_) m10_65 rfl rfl (any_of HT_.out (by kernel_rfl)) (fun _ _ _ h => h) (Or.inr ⟨by rfl, rfl⟩) ?_ ?_; rotate_left
                             · simp only [Act.put, pa10_1, pa10_2, pa10_3, i64_w, i32_w]
                               rfl
                             refine pure_ (i := 32) (N := some 118) (v := undef) (a' := ?_) m10_66 rfl rfl (any_of HT_.out (by kernel_rfl)) (fun _ _ _ h => h) (Or.inr ⟨by rfl, rfl⟩) ?_ ?_; rotate_left
                             · simp only [Act.put, pa10_1, pa10_2, pa10_3, i64_w, i32_w]
                               rfl
                             refine pure_ (i := 33) (N := some 119) (v := undef) (a' := ?_) m10_67 rfl rfl (any_of HT_.out (by kernel_rfl)) (fun _ _ _ h => h) (Or.inr ⟨by rfl, rfl⟩) ?_ ?_; rotate_left
                             · simp only [Act.put, pa10_1, pa10_2, pa10_3, i64_w, i32_w]
                               rfl
                             refine pure_ (i := 34) (N := some 120) (v := ?_) (a' := ?_) m10_68 rfl rfl (any_of HT_.out (by kernel_rfl)) (fun _ _ _ h => h) (Or.inl ⟨by rfl, ?_⟩) ?_ ?_; rotate_left
                             · intro w'
                               go_simp; (with_reducible rfl)
                             rotate_left
                             · simp only [Act.put, pa10_1, pa10_2, pa10_3, i64_w, i32_w]
                               rfl
                             refine pure_ (i := 35) (N := some 121) (v := ?_) (a' := ?_) m10_69 rfl rfl (any_of HT_.out (by kernel_rfl)) (fun _ _ _ h => h) (Or.inl ⟨by rfl, ?_⟩) ?_ ?_; rotate_left
                             · intro w'
                               go_simp; (with_reducible rfl)
                             rotate_left
                             · simp only [Act.put, pa10_1, pa10_2, pa10_3, i64_w, i32_w]
                               rfl
                             refine done_ (done_of HT_.out (by kernel_rfl)) ?_
                             try go_wp2
                             go_meet
                             case rel => exact ⟨_, (false), d10_10, H', ⟨by have := HJ2.out; have := HJ6.out; have := HJ34.out; have := HJ38.out; have := HJ50.out; have := HJ58.out; have := HJ74.out; have := HK8.out; have := HJ77.out; first | omega | exact Nat.le_refl _⟩, ⟨c10_7⟩, ⟨c10_5⟩, ⟨c10_8⟩, ⟨c10_2⟩, ⟨c10_4⟩, ⟨c10_6⟩, ⟨c10_1⟩⟩
                           ·rw [if_neg c88] at H
                            have c88b0 : (t381 == 0) = false := beq_eq_false_iff_ne.mpr c88; have c88b1 : (t381 != 0) = true := bne_iff_ne.mpr c88; have H' := ak H; clear H
                            try go_wp2
                            have n0_ := ak (Kd.R_drew HO_5.out); have n1_ := ak (Kd.R_drew HO_350002.out); have n2_ := ak (Kd.R_drew HO_378002.out); have n3_ := ak (blk_drew BK349.out); have n4_ := ak (blk_drew BK367.out); have n5_ := ak (blk_drew BK377.out); have n6_ := ak (below_drew1 HB.out); clear HO_5; clear HO_350002; clear HO_378002; clear BK349; clear BK367; clear BK377; clear HB; have HO_5 := n0_; have HO_350002 := n1_; have HO_378002 := n2_; have BK349 := n3_; have BK367 := n4_; have BK377 := n5_; have HB := n6_; clear n0_ n1_ n2_ n3_ n4_ n5_ n6_; have p378 : 0 ≤ (x8_8 : Int) := of_decide_eq_true d10_8; have q378 : x8_8 < (t374.length : Int) := of_decide_eq_true d10_8; obtain ⟨ad378, e378, hx378_0, hx378_1, hx378_2⟩ := at_T37 (Kd.R_reads' HO_378002.out).2.2 x8_8 p378 q378
                            cases e378
                            replace p378 := eq_true p378; replace q378 := eq_true q378; have p379 : 0 ≤ (x8_8 : Int) := of_decide_eq_true d10_8; have q379 : x8_8 < (t362.length : Int) := of_decide_eq_true d10_8; obtain ⟨ad379, e379, hx379_0, hx379_1, hx379_2⟩ := at_T37 (Kd.R_reads' HO_5.out).2.2 x8_8 p379 q379
                            cases e379
                            replace p379 := eq_true p379; replace q379 := eq_true q379; have p380 : 0 ≤ (x8_8 : Int) := of_decide_eq_true d10_8; have q380 : x8_8 < (t362.length : Int) := of_decide_eq_true d10_8; obtain ⟨ad380, e380, hx380_0, hx380_1, hx380_2⟩ := at_T37 (Kd.R_reads' HO_5.out).2.2 x8_8 p380 q380; obtain rfl : ad379 = ad380 := (by injection e380); replace p380 := eq_true p380; replace q380 := eq_true q380
                            refine start_ (n := 36) (S := fun w' => w'.cell? ⟨gb377, 0, none⟩ = some (.int .i64 t372) ∧ w'.cell? ⟨gb377, 1, none⟩ = some (.int .i64 t373) ∧ w'.cell? ⟨gb377, 2, none⟩ = some (.slice (some ad378) t374.length co67) ∧ w'.cell? (ad378.add ((x8_8).toNat * 3)) = some (.int .i64 ((rd_T37 t374 x8_8).f0)) ∧ w'.cell? ⟨(ad378.add ((x8_8).toNat * 3)).block, (ad378.add ((x8_8).toNat * 3)).off + 1, none⟩ = some (.int .i64 ((rd_T37 t374 x8_8).f1)) ∧ w'.cell? ⟨(ad378.add ((x8_8).toNat * 3)).block, (ad378.add ((x8_8).toNat * 3)).off + 2, none⟩ = some (.string ((rd_T37 t374 x8_8).f2)) ∧ w'.cell? (ad379.add ((x8_8).toNat * 3)) = some (.int .i64 ((rd_T37 t362 x8_8).f0)) ∧ w'.cell? ⟨(ad379.add ((x8_8).toNat * 3)).block, (ad379.add ((x8_8).toNat * 3)).off + 1, none⟩ = some (.int .i64 ((rd_T37 t362 x8_8).f1)) ∧ w'.cell? ⟨(ad379.add ((x8_8).toNat * 3)).block, (ad379.add ((x8_8).toNat * 3)).off + 2, none⟩ = some (.string ((rd_T37 t362 x8_8).f2)) ∧ w'.cell? (ad379.add ((x8_8).toNat * 3)) = some (.int .i64 ((rd_T37 t362 x8_8).f0)) ∧ w'.cell? ⟨(ad379.add ((x8_8).toNat * 3)).block, (ad379.add ((x8_8).toNat * 3)).off + 1, none⟩ = some (.int .i64 ((rd_T37 t362 x8_8).f1)) ∧ w'.cell? ⟨(ad379.add ((x8_8).toNat * 3)).block, (ad379.add ((x8_8).toNat * 3)).off + 2, none⟩ = some (.string ((rd_T37 t362 x8_8).f2))) (ds := []) m10_0 (by kernel_rfl) rfl rfl ⟨(blk_cell BK377.out 0).trans rfl, (blk_cell BK377.out 1).trans rfl, (blk_cell BK377.out 2).trans rfl, hx378_0, hx378_1, hx378_2, hx379_0, hx379_1, hx379_2, hx380_0, hx380_1, hx380_2⟩ (fun hHeld => ?_); refine with_tabW laws_FnTokens.tab19 laws_FnTokens.bits19 (fun HT_ HW_ => ?_)
                            generalize wc.drew = w96 at HO_5 HO_350002 HO_378002 BK349 BK367 BK377 HB hx378_0 hx378_1 hx378_2 hx379_0 hx379_1 hx379_2 hx380_0 hx380_1 hx380_2 hHeld ⊢; refine pure_ (i := 0) (N := some 86) (v := ?_) (a' := ?_) m10_2 rfl rfl (any_of HT_.out (by kernel_rfl)) (fun _ _ _ h => h) (Or.inl ⟨by rfl, ?_⟩) ?_ ?_; rotate_left
                            · intro w'
                              go_simp; (with_reducible rfl)
                            rotate_left
                            · simp only [Act.put, pa10_1, pa10_2, pa10_3, i64_w, i32_w]
                              rfl
                            refine pure_ (i := 2) (N := some 88) (v := ?_) (a' := ?_) m10_4 rfl rfl (any_of HT_.out (by kernel_rfl)) (fun _ _ _ h => h) (Or.inl ⟨by rfl, ?_⟩) ?_ ?_; rotate_left
                            · intro w'
                              go_simp; (with_reducible rfl)
                            rotate_left
                            · simp only [Act.put, pa10_1, pa10_2, pa10_3, i64_w, i32_w]
                              rfl
                            refine pure_ (i := 5) (N := some 91) (v := ?_) (a' := ?_) m10_6 rfl rfl (any_of HT_.out (by kernel_rfl)) (fun _ _ _ h => h) (Or.inl ⟨by rfl, ?_⟩) ?_ ?_; rotate_left
                            · intro w'
                              go_simp; (with_reducible rfl)
                            rotate_left
                            · simp only [Act.put, pa10_1, pa10_2, pa10_3, i64_w, i32_w]
                              rfl
                            refine pure_ (i := 6) (N := some 92) (v := ?_) (a' := ?_) m10_7 rfl rfl (any_of HT_.out (by kernel_rfl)) (fun _ _ _ h => h) (Or.inl ⟨by rfl, ?_⟩) ?_ ?_; rotate_left
                            · intro w'
                              go_simp; (with_reducible rfl)
                            rotate_left
                            · simp only [Act.put, pa10_1, pa10_2, pa10_3, i64_w, i32_w]
                              rfl
                            refine pure_ (i := 7) (N := some 93) (v := ?_) (a' := ?_) m10_8 rfl rfl (any_of HT_.out (by kernel_rfl)) (fun _ _ _ h => h) (Or.inl ⟨by rfl, ?_⟩) ?_ ?_; rotate_left
                            · intro w'
                              go_simp; (with_reducible rfl)
                            rotate_left
                            · simp only [Act.put, pa10_1, pa10_2, pa10_3, i64_w, i32_w]
                              rfl
                            refine take_ (i := 1) (N := some 87) (v := ?_) (a' := ?_) m10_10 rfl rfl (take_ofW HT_.out HW_.out (by kernel_rfl)) (fun _ _ _ h => h) (Or.inl ⟨by rfl, ?_⟩) hHeld ?_ ?_; rotate_left
                            · rintro w' ⟨s0, s1, s2, s3, s4, s5, s6, s7, s8, s9, s10, s11⟩
                              go_simp; (with_reducible rfl)
                            rotate_left
                            · simp only [Act.put, pa10_1, pa10_2, pa10_3, i64_w, i32_w]
                              rfl
                            refine pure_ (i := 3) (N := some 89) (v := ?_) (a' := ?_) m10_12 rfl rfl (any_of HT_.out (by kernel_rfl)) (fun _ _ _ h => h) (Or.inl ⟨by rfl, ?_⟩) ?_ ?_; rotate_left
                            · intro w'
                              go_simp; (with_reducible rfl)
                            rotate_left
                            · simp only [Act.put, pa10_1, pa10_2, pa10_3, i64_w, i32_w]
                              rfl
                            refine take_ (i := 4) (N := some 90) (v := ?_) (a' := ?_) m10_16 rfl rfl (take_ofW HT_.out HW_.out (by kernel_rfl)) (fun _ _ _ h => h) (Or.inl ⟨by rfl, ?_⟩) hHeld ?_ ?_; rotate_left
                            · rintro w' ⟨s0, s1, s2, s3, s4, s5, s6, s7, s8, s9, s10, s11⟩
                              go_simp; (with_reducible rfl)
                            rotate_left
                            · simp only [Act.put, pa10_1, pa10_2, pa10_3, i64_w, i32_w]
                              rfl
                            refine take_ (i := 8) (N := some 94) (v := ?_) (a' := ?_) m10_19 rfl rfl (take_ofW HT_.out HW_.out (by kernel_rfl)) (fun _ _ _ h => h) (Or.inl ⟨by rfl, ?_⟩) hHeld ?_ ?_; rotate_left
                            · rintro w' ⟨s0, s1, s2, s3, s4, s5, s6, s7, s8, s9, s10, s11⟩
                              go_simp; (with_reducible rfl)
                            rotate_left
                            · simp only [Act.put, pa10_1, pa10_2, pa10_3, i64_w, i32_w]
                              rfl
                            refine pure_ (i := 9) (N := some 95) (v := ?_) (a' := ?_) m10_21 rfl rfl (any_of HT_.out (by kernel_rfl)) (fun _ _ _ h => h) (Or.inl ⟨by rfl, ?_⟩) ?_ ?_; rotate_left
                            · intro w'
                              go_simp; (with_reducible rfl)
                            rotate_left
                            · simp only [Act.put, pa10_1, pa10_2, pa10_3, i64_w, i32_w]
                              rfl
                            refine pure_ (i := 10) (N := some 96) (v := ?_) (a' := ?_) m10_23 rfl rfl (any_of HT_.out (by kernel_rfl)) (fun _ _ _ h => h) (Or.inl ⟨by rfl, ?_⟩) ?_ ?_; rotate_left
                            · intro w'
                              go_simp; (with_reducible rfl)
                            rotate_left
                            · simp only [Act.put, pa10_1, pa10_2, pa10_3, i64_w, i32_w]
                              rfl
                            refine pure_ (i := 11) (N := some 97) (v := ?_) (a' := ?_) m10_25 rfl rfl (any_of HT_.out (by kernel_rfl)) (fun _ _ _ h => h) (Or.inl ⟨by rfl, ?_⟩) ?_ ?_; rotate_left
                            · intro w'
                              go_simp; (with_reducible rfl)
                            rotate_left
                            · simp only [Act.put, pa10_1, pa10_2, pa10_3, i64_w, i32_w]
                              rfl
                            refine pure_ (i := 12) (N := some 98) (v := ?_) (a' := ?_) m10_27 rfl rfl (any_of HT_.out (by kernel_rfl)) (fun _ _ _ h => h) (Or.inl ⟨by rfl, ?_⟩) ?_ ?_; rotate_left
                            · intro w'
                              go_simp; (with_reducible rfl)
                            rotate_left
                            · simp only [Act.put, pa10_1, pa10_2, pa10_3, i64_w, i32_w]
                              rfl
                            refine pure_ (i := 13) (N := some 99) (v := ?_) (a' := ?_) m10_29 rfl rfl (any_of HT_.out (by kernel_rfl)) (fun _ _ _ h => h) (Or.inl ⟨by rfl, ?_⟩) ?_ ?_; rotate_left
                            · intro w'
                              go_simp; (with_reducible rfl)
                            rotate_left
                            · simp only [Act.put, pa10_1, pa10_2, pa10_3, i64_w, i32_w]
                              rfl
                            refine take_ (i := 14) (N := some 100) (v := ?_) (a' := ?_) m10_31 rfl rfl (take_ofW HT_.out HW_.out (by kernel_rfl)) (fun _ _ _ h => h) (Or.inl ⟨by rfl, ?_⟩) hHeld ?_ ?_; rotate_left
                            · rintro w' ⟨s0, s1, s2, s3, s4, s5, s6, s7, s8, s9, s10, s11⟩
                              go_simp; (with_reducible rfl)
                            rotate_left
                            · simp only [Act.put, pa10_1, pa10_2, pa10_3, i64_w, i32_w]
                              rfl
                            refine one_ (i := 15) (N := some 101) m10_33 rfl rfl (one_of HT_.out (by kernel_rfl)) (by decide) (fun K hK => ?_); refine goes_ Tryz.func13 (by kernel_rfl) rfl #[.agg #[.int .i64 ((rd_T37 t362 x8_8).f0), .int .i64 ((rd_T37 t362 x8_8).f1), .string ((rd_T37 t362 x8_8).f2)]] (by rfl) rfl rfl d10_2 ?_; (with_reducible refine (impl_TokenText.calls kj77 ((rd_T37 t362 x8_8).f0) ((rd_T37 t362 x8_8).f1) ((rd_T37 t362 x8_8).f2) t381 t382 _ ?side1 A87.out).mono ?_)
                            (case side1 => exact Lz.below HLZ.out d10_6)
                            rintro e w97 ⟨rfl, hb⟩; have HS3_ := (hb.cell (World.block_lt_of_cell? _ _ (hHeld.2.2.2.1))).trans (hHeld.2.2.2.1); have HS4_ := (hb.cell (World.block_lt_of_cell? _ _ (hHeld.2.2.2.2.1))).trans (hHeld.2.2.2.2.1); have HS5_ := (hb.cell (World.block_lt_of_cell? _ _ (hHeld.2.2.2.2.2.1))).trans (hHeld.2.2.2.2.2.1); have HS6_ := (hb.cell (World.block_lt_of_cell? _ _ (hHeld.2.2.2.2.2.2.1))).trans (hHeld.2.2.2.2.2.2.1); have HS7_ := (hb.cell (World.block_lt_of_cell? _ _ (hHeld.2.2.2.2.2.2.2.1))).trans (hHeld.2.2.2.2.2.2.2.1); have HS8_ := (hb.cell (World.block_lt_of_cell? _ _ (hHeld.2.2.2.2.2.2.2.2.1))).trans (hHeld.2.2.2.2.2.2.2.2.1); have HS9_ := (hb.cell (World.block_lt_of_cell? _ _ (hHeld.2.2.2.2.2.2.2.2.2.1))).trans (hHeld.2.2.2.2.2.2.2.2.2.1); have HS10_ := (hb.cell (World.block_lt_of_cell? _ _ (hHeld.2.2.2.2.2.2.2.2.2.2.1))).trans (hHeld.2.2.2.2.2.2.2.2.2.2.1); have HS11_ := (hb.cell (World.block_lt_of_cell? _ _ (hHeld.2.2.2.2.2.2.2.2.2.2.2))).trans (hHeld.2.2.2.2.2.2.2.2.2.2.2); refine ⟨_, rfl, ?_⟩; have n0_ := ak (Kd.R_below d10_12 hb); have n1_ := ak (Kd.R_below d10_7 hb); have n2_ := ak (Kd.R_below d10_15 hb); have n3_ := ak (blk_below (g := gb349) (o := .cells #[.int .i64 t344, .int .i64 t345, .slice Ao12 t346.length co12] 27 (0, 0)) d10_3 hb); have n4_ := ak (blk_below (g := gb367) (o := .cells #[.int .i64 t365, .string t366] 34 (0, 0)) d10_9 hb)
                            have n5_ := ak (blk_below (g := gb377) (o := .cells #[.int .i64 t372, .int .i64 t373, .slice (some ad378) t374.length co67] 27 (0, 0)) d10_14 hb); have n6_ := ak (below_step d10_6 hb); clear HO_5; clear HO_350002; clear HO_378002; clear BK349; clear BK367; clear BK377; clear HB; have HO_5 := n0_; have HO_350002 := n1_; have HO_378002 := n2_; have BK349 := n3_; have BK367 := n4_; have BK377 := n5_; have HB := n6_; clear n0_ n1_ n2_ n3_ n4_ n5_ n6_
                            (try clear hb)
                            (try clear hb2)
                            (try clear hk)
                            (try clear hi)
                            refine hK.out _ _ ⟨(blk_cell BK377.out 0).trans rfl, (blk_cell BK377.out 1).trans rfl, (blk_cell BK377.out 2).trans rfl, HS3_, HS4_, HS5_, HS6_, HS7_, HS8_, HS9_, HS10_, HS11_⟩ (fun hHeld => ?_); clear hK K; refine norm_ (a' := ?_) ?_ ?_; rotate_left
                            · show Act.put _ (some 101) _ = _
                              simp only [Act.put, pa10_1, pa10_2, pa10_3, i64_w, i32_w]; rfl
                            refine pure_ (i := 16) (N := some 102) (v := ?_) (a' := ?_) m10_35 rfl rfl (any_of HT_.out (by kernel_rfl)) (fun _ _ _ h => h) (Or.inl ⟨by rfl, ?_⟩) ?_ ?_; rotate_left
                            · intro w'
                              go_simp; (with_reducible rfl)
                            rotate_left
                            · simp only [Act.put, pa10_1, pa10_2, pa10_3, i64_w, i32_w]
                              rfl
                            refine pure_ (i := 17) (N := some 103) (v := ?_) (a' := ?_) m10_37 rfl rfl (any_of HT_.out (by kernel_rfl)) (fun _ _ _ h => h) (Or.inl ⟨by rfl, ?_⟩) ?_ ?_; rotate_left
                            · intro w'
                              go_simp; (with_reducible rfl)
                            rotate_left
                            · simp only [Act.put, pa10_1, pa10_2, pa10_3, i64_w, i32_w]
                              rfl
                            refine pure_ (i := 18) (N := some 104) (v := ?_) (a' := ?_) m10_39 rfl rfl (any_of HT_.out (by kernel_rfl)) (fun _ _ _ h => h) (Or.inl ⟨by rfl, ?_⟩) ?_ ?_; rotate_left
                            · intro w'
                              go_simp; (with_reducible rfl)
                            rotate_left
                            · simp only [Act.put, pa10_1, pa10_2, pa10_3, i64_w, i32_w]
                              rfl
                            refine pure_ (i := 19) (N := some 105) (v := ?_) (a' := ?_) m10_41 rfl rfl (any_of HT_.out (by kernel_rfl)) (fun _ _ _ h => h) (Or.inl ⟨by rfl, ?_⟩) ?_ ?_; rotate_left
                            · intro w'
                              go_simp; (with_reducible rfl)
                            rotate_left
                            · simp only [Act.put, pa10_1, pa10_2, pa10_3, i64_w, i32_w]
                              rfl
                            refine pure_ (i := 20) (N := some 106) (v := undef) (a' := ?_) m10_46 rfl rfl (any_of HT_.out (by kernel_rfl)) (fun _ _ _ h => h) (Or.inr ⟨by rfl, rfl⟩) ?_ ?_; rotate_left
                            · simp only [Act.put, pa10_1, pa10_2, pa10_3, i64_w, i32_w]
                              rfl
                            refine pure_ (i := 21) (N := some 107) (v := undef) (a' := ?_) m10_49 rfl rfl (any_of HT_.out (by kernel_rfl)) (fun _ _ _ h => h) (Or.inr ⟨by rfl, rfl⟩) ?_ ?_; rotate_left
                            · simp only [Act.put, pa10_1, pa10_2, pa10_3, i64_w, i32_w]
                              rfl
                            refine pure_ (i := 22) (N := some 108) (v := undef) (a' := ?_) m10_51 rfl rfl (any_of HT_.out (by kernel_rfl)) (fun _ _ _ h => h) (Or.inr ⟨by rfl, rfl⟩) ?_ ?_; rotate_left
                            · simp only [Act.put, pa10_1, pa10_2, pa10_3, i64_w, i32_w]
                              rfl
                            refine pure_ (i := 23) (N := some 109) (v := undef) (a' := ?_) m10_53 rfl rfl (any_of HT_.out (by kernel_rfl)) (fun _ _ _ h => h) (Or.inr ⟨by rfl, rfl⟩) ?_ ?_; rotate_left
                            · simp only [Act.put, pa10_1, pa10_2, pa10_3, i64_w, i32_w]
                              rfl
                            refine pure_ (i := 24) (N := some 110) (v := undef) (a' := ?_) m10_55 rfl rfl (any_of HT_.out (by kernel_rfl)) (fun _ _ _ h => h) (Or.inr ⟨by rfl, rfl⟩) ?_ ?_; rotate_left
                            · simp only [Act.put, pa10_1, pa10_2, pa10_3, i64_w, i32_w]
                              rfl
                            refine pure_ (i := 25) (N := some 111) (v := undef) (a' := ?_) m10_57 rfl rfl (any_of HT_.out (by kernel_rfl)) (fun _ _ _ h => h) (Or.inr ⟨by rfl, rfl⟩) ?_ ?_; rotate_left
                            · simp only [Act.put, pa10_1, pa10_2, pa10_3, i64_w, i32_w]
                              rfl
                            refine pure_ (i := 26) (N := some 112) (v := undef) (a' := ?_) m10_59 rfl rfl (any_of HT_.out (by kernel_rfl)) (fun _ _ _ h => h) (Or.inr ⟨by rfl, rfl⟩) ?_ ?_; rotate_left
                            · simp only [Act.put, pa10_1, pa10_2, pa10_3, i64_w, i32_w]
                              rfl
                            refine pure_ (i := 27) (N := some 113) (v := undef) (a' := ?_) m10_61 rfl rfl (any_of HT_.out (by kernel_rfl)) (fun _ _ _ h => h) (Or.inr ⟨by rfl, rfl⟩) ?_ ?_; rotate_left
                            · simp only [Act.put, pa10_1, pa10_2, pa10_3, i64_w, i32_w]
                              rfl
                            refine pure_ (i := 28) (N := some 114) (v := undef) (a' := ?_) m10_62 rfl rfl (any_of HT_.out (by kernel_rfl)) (fun _ _ _ h => h) (Or.inr ⟨by rfl, rfl⟩) ?_ ?_; rotate_left
                            · simp only [Act.put, pa10_1, pa10_2, pa10_3, i64_w, i32_w]
                              rfl
                            refine pure_ (i := 29) (N := some 115) (v := undef) (a' := ?_) m10_63 rfl rfl (any_of HT_.out (by kernel_rfl)) (fun _ _ _ h => h) (Or.inr ⟨by rfl, rfl⟩) ?_ ?_; rotate_left
                            · simp only [Act.put, pa10_1, pa10_2, pa10_3, i64_w, i32_w]
                              rfl
                            refine pure_ (i := 30) (N := some 116) (v := undef) (a' := ?_) m10_64 rfl rfl (any_of HT_.out (by kernel_rfl)) (fun _ _ _ h => h) (Or.inr ⟨by rfl, rfl⟩) ?_ ?_; rotate_left
                            · simp only [Act.put, pa10_1, pa10_2, pa10_3, i64_w, i32_w]
                              rfl
                            refine pure_ (i := 31) (N := some 117) (v := undef) (a' := ?_) m10_65 rfl rfl (any_of HT_.out (by kernel_rfl)) (fun _ _ _ h => h) (Or.inr ⟨by rfl, rfl⟩) ?_ ?_; rotate_left
                            · simp only [Act.put, pa10_1, pa10_2, pa10_3, i64_w, i32_w]
                              rfl
                            refine pure_ (i := 32) (N := some 118) (v := undef) (a' := ?_) m10_66 rfl rfl (any_of HT_.out (by kernel_rfl)) (fun _ _ _ h => h) (Or.inr ⟨by rfl, rfl⟩) ?_ ?_; rotate_left
                            · simp only [Act.put, pa10_1, pa10_2, pa10_3, i64_w, i32_w]
                              rfl
                            refine pure_ (i := 33) (N := some 119) (v := undef) (a' := ?_) m10_67 rfl rfl (any_of HT_.out (by kernel_rfl)) (fun _ _ _ h => h) (Or.inr ⟨by rfl, rfl⟩) ?_ ?_; rotate_left
                            · simp only [Act.put, pa10_1, pa10_2, pa10_3, i64_w, i32_w]
                              rfl
                            refine pure_ (i := 34) (N := some 120) (v := undef) (a' := ?_) m10_68 rfl rfl (any_of HT_.out (by kernel_rfl)) (fun _ _ _ h => h) (Or.inr ⟨by rfl, rfl⟩) ?_ ?_; rotate_left
                            · simp only [Act.put, pa10_1, pa10_2, pa10_3, i64_w, i32_w]
                              rfl
                            refine pure_ (i := 35) (N := some 121) (v := ?_) (a' := ?_) m10_69 rfl rfl (any_of HT_.out (by kernel_rfl)) (fun _ _ _ h => h) (Or.inl ⟨by rfl, ?_⟩) ?_ ?_; rotate_left
                            · intro w'
                              go_simp; (with_reducible rfl)
                            rotate_left
                            · simp only [Act.put, pa10_1, pa10_2, pa10_3, i64_w, i32_w]
                              rfl
                            refine done_ (done_of HT_.out (by kernel_rfl)) ?_
                            try go_wp2
                            go_meet
                            case rel => exact ⟨_, (true), d10_10, H', ⟨by have := HJ2.out; have := HJ6.out; have := HJ34.out; have := HJ38.out; have := HJ50.out; have := HJ58.out; have := HJ74.out; have := HK8.out; have := HJ77.out; first | omega | exact Nat.le_refl _⟩, ⟨c10_7⟩, ⟨c10_5⟩, ⟨c10_8⟩, ⟨c10_2⟩, ⟨c10_4⟩, ⟨c10_6⟩, ⟨c10_1⟩⟩
                         ·rw [if_neg c84] at H
                          exact absurd H (by simp)
                        ·rw [if_neg c83] at H
                         exact absurd H (by simp)
                       ·rw [if_neg c82] at H
                        exact absurd H (by simp)
                      case rest =>
                       clear HC81
                       (try clear c1); (try clear p2); (try clear c3); (try clear c4); (try clear c5); (try clear c6); (try clear c7); (try clear c8); (try clear c10); (try clear c11); (try clear c12); (try clear c14); (try clear c14b0); (try clear c14b1); (try clear c16); (try clear c16b0); (try clear c16b1); (try clear c36); (try clear c44); (try clear c46); (try clear c46b0); (try clear c46b1); (try clear c52); (try clear c54); (try clear c54b0); (try clear c54b1); (try clear c60); (try clear c64); (try clear c65); (try clear c68); (try clear c68b0); (try clear c68b1); (try clear c69); (try clear c70); (try clear c72); (try clear c73); (try clear c76); (try clear c79); (try clear c79b0); (try clear hcz11_0); (try clear hcz11_1); (try clear hcz11_2); (try clear hcz45_0); (try clear hcz45_1); (try clear hcz53_0); (try clear hcz53_1); (try clear hcz61_0); (try clear hcz61_1); (try clear hcz66_0); (try clear hcz66_1); (try clear hcz66_2); (try clear hcz71_0); (try clear hcz71_1); (try clear hcz71_2); (try clear hcz74_0); (try clear hcz74_1); (try clear hcz74_2); (try clear hfz11_0); (try clear hfz11_1); (try clear hfz11_2); (try clear hfz45_0); (try clear hfz45_1); (try clear hfz53_0); (try clear hfz53_1); (try clear hfz61_0); (try clear hfz61_1); (try clear hfz66_0); (try clear hfz66_1); (try clear hfz66_2); (try clear hfz71_0); (try clear hfz71_1); (try clear hfz71_2); (try clear hfz74_0); (try clear hfz74_1); (try clear hfz74_2); (try clear p2)
                       obtain ⟨kq, x121_80, rfl, HA, HJ80, HO_5, HO_350002, HO_378002, BK349, BK367, BK377, HB⟩ := hcut
                       cases kq with
                       | zero => exact absurd HA.out (by simp [laws_FnTokens.j9])
                       | succ kj80 =>
                        have H := HA.out; clear HA; simp only [laws_FnTokens.j9] at H; by_cases c98 : x121_80 = true
                        ·subst c98
                         rw [if_pos rfl] at H; obtain rfl := Option.some.inj H; go_wp2; go_ret; exact ⟨c10_10, c10_1⟩
                        ·replace c98 := Bool.eq_false_iff.mpr c98
                         subst c98
                         rw [if_neg (show ¬ (false = true) by decide)] at H; have H' := ak H; clear H; go_wp2; go_meet
                         case rel => exact ⟨_, H', ⟨by have := HJ2.out; have := HJ6.out; have := HJ34.out; have := HJ38.out; have := HJ50.out; have := HJ58.out; have := HJ74.out; have := HK8.out; have := HJ77.out; have := HJ80.out; first | omega | exact Nat.le_refl _⟩, ⟨c10_7⟩, ⟨c10_5⟩, ⟨c10_8⟩, ⟨c10_2⟩, ⟨c10_4⟩, ⟨c10_6⟩, ⟨c10_1⟩⟩
                     case rest =>
                      clear HC80
                      (try clear c1); (try clear p2); (try clear c3); (try clear c4); (try clear c5); (try clear c6); (try clear c7); (try clear c8); (try clear c10); (try clear c11); (try clear c12); (try clear c14); (try clear c14b0); (try clear c14b1); (try clear c16); (try clear c16b0); (try clear c16b1); (try clear c36); (try clear c44); (try clear c46); (try clear c46b0); (try clear c46b1); (try clear c52); (try clear c54); (try clear c54b0); (try clear c54b1); (try clear c60); (try clear c64); (try clear c65); (try clear c68); (try clear c68b0); (try clear c68b1); (try clear c69); (try clear c70); (try clear c72); (try clear c73); (try clear c76); (try clear c79); (try clear c79b0); (try clear hcz11_0); (try clear hcz11_1); (try clear hcz11_2); (try clear hcz45_0); (try clear hcz45_1); (try clear hcz53_0); (try clear hcz53_1); (try clear hcz61_0); (try clear hcz61_1); (try clear hcz66_0); (try clear hcz66_1); (try clear hcz66_2); (try clear hcz71_0); (try clear hcz71_1); (try clear hcz71_2); (try clear hcz74_0); (try clear hcz74_1); (try clear hcz74_2); (try clear hfz11_0); (try clear hfz11_1); (try clear hfz11_2); (try clear hfz45_0); (try clear hfz45_1); (try clear hfz53_0); (try clear hfz53_1); (try clear hfz61_0); (try clear hfz61_1); (try clear hfz66_0); (try clear hfz66_1); (try clear hfz66_2); (try clear hfz71_0); (try clear hfz71_1); (try clear hfz71_2); (try clear hfz74_0); (try clear hfz74_1); (try clear hfz74_2); (try clear p2)
                      obtain ⟨kq, HA, HJ79, HO_5, HO_350002, HO_378002, BK349, BK367, BK377, HB⟩ := hcut
                      cases kq with
                      | zero => exact absurd HA.out (by simp [laws_FnTokens.j10])
                      | succ kj79 =>
                       have H := HA.out; clear HA; simp only [laws_FnTokens.j10] at H; have H' := ak H; clear H; go_wp2; go_roundg kj79
                       case measure => have := HJ2.out; have := HJ6.out; have := HJ34.out; have := HJ38.out; have := HJ50.out; have := HJ58.out; have := HJ74.out; have := HK8.out; have := HJ77.out; have := HJ79.out; omega
                       case rel => exact ⟨(wrap64 (x8_8 + 1)), d10_10, H', ⟨by have := HJ2.out; have := HJ6.out; have := HJ34.out; have := HJ38.out; have := HJ50.out; have := HJ58.out; have := HJ74.out; have := HK8.out; have := HJ77.out; have := HJ79.out; omega⟩, ⟨c10_7⟩, ⟨c10_5⟩, ⟨c10_8⟩, ⟨c10_2⟩, ⟨c10_4⟩, ⟨c10_6⟩, ⟨c10_1⟩⟩
                case rest =>
                 clear HC77
                 (try clear c1); (try clear p2); (try clear c3); (try clear c4); (try clear c5); (try clear c6); (try clear c7); (try clear c8); (try clear c10); (try clear c11); (try clear c12); (try clear c14); (try clear c14b0); (try clear c14b1); (try clear c16); (try clear c16b0); (try clear c16b1); (try clear c36); (try clear c44); (try clear c46); (try clear c46b0); (try clear c46b1); (try clear c52); (try clear c54); (try clear c54b0); (try clear c54b1); (try clear c60); (try clear c64); (try clear c65); (try clear c68); (try clear c68b0); (try clear c68b1); (try clear c69); (try clear c70); (try clear c72); (try clear c73); (try clear c76); (try clear hcz11_0); (try clear hcz11_1); (try clear hcz11_2); (try clear hcz45_0); (try clear hcz45_1); (try clear hcz53_0); (try clear hcz53_1); (try clear hcz61_0); (try clear hcz61_1); (try clear hcz66_0); (try clear hcz66_1); (try clear hcz66_2); (try clear hcz71_0); (try clear hcz71_1); (try clear hcz71_2); (try clear hcz74_0); (try clear hcz74_1); (try clear hcz74_2); (try clear hfz11_0); (try clear hfz11_1); (try clear hfz11_2); (try clear hfz45_0); (try clear hfz45_1); (try clear hfz53_0); (try clear hfz53_1); (try clear hfz61_0); (try clear hfz61_1); (try clear hfz66_0); (try clear hfz66_1); (try clear hfz66_2); (try clear hfz71_0); (try clear hfz71_1); (try clear hfz71_2); (try clear hfz74_0); (try clear hfz74_1); (try clear hfz74_2); (try clear p2)
                 obtain ⟨kq, HA, HJ76, HO_350002, HO_378002, BK349, BK367, BK377, HB⟩ := hcut
                 cases kq with
                 | zero => exact absurd HA.out (by simp [laws_FnTokens.j11])
                 | succ kj76 =>
                  have H := HA.out; clear HA; simp only [laws_FnTokens.j11] at H; obtain rfl := Option.some.inj H; go_wp2; go_ret; exact ⟨c10_10, c10_1⟩

end Go.Proofs.YteiokhfikbndbaaGreatDoor.A
