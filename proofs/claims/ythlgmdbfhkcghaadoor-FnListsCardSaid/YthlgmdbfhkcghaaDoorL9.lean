/- Walks of the program's functions: each Go function's answer as a plain Lean function, and that the call comes to it. Written by a program. Conditions: those in each theorem's own head. -/
import Derived.Test.YthlgmdbfhkcghaaDoorL0
import Derived.Test.YthlgmdbfhkcghaaDoorL4
import Derived.Test.YthlgmdbfhkcghaaDoorL5
import Derived.Test.YthlgmdbfhkcghaaDoorL6
import Derived.Test.YthlgmdbfhkcghaaDoorL8
namespace Go.Proofs.YthlgmdbfhkcghaaDoor.L
open Go.RowKit Go.Proofs.YthlgmdbfhkcghaaDoorW.PrintWords Go.Proofs.YthlgmdbfhkcghaaDoorW.PrintLast Go.Proofs.YthlgmdbfhkcghaaDoorW.PrintMore
attribute [local go_sem] max2_int min2_int max_two min_two max_three min_three max_four min_four   -- for this text's walks alone
set_option linter.unusedVariables false
set_option linter.unusedSimpArgs false

theorem b9N {w : World} {g : Nat} {o : Obj} (h : w.heap[g]? = some o) (n : Nat) : (w.drewN n).heap[g]? = some o := h
theorem b9D {w : World} {g : Nat} {o : Obj} (h : w.heap[g]? = some o) : (w.drew).heap[g]? = some o := h
theorem b9L {w : World} {g : Nat} {o : Obj} (h : w.heap[g]? = some o) (o' : Obj) : (w.alloc o').heap[g]? = some o := blk_alloc h o'
theorem d9_1 {p : Prop} (h : p := by (with_reducible repeat first | apply b9N | apply b9D | apply b9L); exact BK358.out) : p := h
theorem d9_2 {p : Prop} (h : p := by (with_reducible repeat first | apply b9N | apply b9D | apply b9L); exact BK359.out) : p := h
theorem d9_3 {p : Prop} (h : p := by repeat (first | (with_reducible first | exact HB.out | apply below_alloc | apply pw_below_drewN | apply below_drew1 | refine below_set ?_ GE358.out | refine below_set ?_ GE359.out | refine below_set ?_ GE367.out | refine below_set ?_ GE382.out | refine below_set ?_ GE390.out) | exact HB.out)) : p := h
theorem d9_4 {p : Prop} (h : p := by (with_reducible repeat first | apply b9N | apply b9D | apply b9L); exact BK367.out) : p := h
theorem d9_5 {p : Prop} (h : p := by (try simp only [List.map_toArray, List.map_cons, List.map_nil]); first | done | rfl | (simp only [List.length_drop, List.length_take]; rfl)) : p := h
theorem d9_6 {p : Prop} (h : p := by repeat (first | (with_reducible first | exact HB.out | apply below_alloc | apply pw_below_drewN | apply below_drew1 | refine below_set ?_ GE358.out | refine below_set ?_ GE359.out | refine below_set ?_ GE367.out) | exact HB.out)) : p := h
theorem d9_7 {p : Prop} (h : p := by (with_reducible repeat first | apply b9N | apply b9D | apply b9L); exact BK382.out) : p := h
theorem d9_8 {p : Prop} (h : p := by (with_reducible repeat (first | apply Kd.R_alloc | apply Kd.R_drewN | apply Kd.R_drew)); exact HO_368001.out) : p := h
theorem d9_9 {p : Prop} (h : p := by repeat (first | (with_reducible first | exact HB.out | apply below_alloc | apply pw_below_drewN | apply below_drew1 | refine below_set ?_ GE358.out | refine below_set ?_ GE359.out | refine below_set ?_ GE367.out | refine below_set ?_ GE382.out) | exact HB.out)) : p := h
theorem d9_10 {p : Prop} (h : p := by (with_reducible repeat first | apply b9N | apply b9D | apply b9L); exact BK390.out) : p := h
theorem d9_11 {p : Prop} (h : p := by (with_reducible repeat first | apply b9N | apply b9D | apply b9L); refine blk_far ?_ NB358_382.out _; (with_reducible repeat first | apply b9N | apply b9D | apply b9L); refine blk_far ?_ NB358_382.out _; (with_reducible repeat first | apply b9N | apply b9D | apply b9L); refine blk_far ?_ NB358_382.out _; (with_reducible repeat first | apply b9N | apply b9D | apply b9L); refine blk_far ?_ NB358_382.out _; (with_reducible repeat first | apply b9N | apply b9D | apply b9L); refine blk_far ?_ NB358_382.out _; (with_reducible repeat first | apply b9N | apply b9D | apply b9L); exact BK358.out) : p := h
theorem d9_12 {p : Prop} (h : p := by (with_reducible repeat first | apply b9N | apply b9D | apply b9L); refine blk_far ?_ NB359_382.out _; (with_reducible repeat first | apply b9N | apply b9D | apply b9L); refine blk_far ?_ NB359_382.out _; (with_reducible repeat first | apply b9N | apply b9D | apply b9L); refine blk_far ?_ NB359_382.out _; (with_reducible repeat first | apply b9N | apply b9D | apply b9L); refine blk_far ?_ NB359_382.out _; (with_reducible repeat first | apply b9N | apply b9D | apply b9L); refine blk_far ?_ NB359_382.out _; (with_reducible repeat first | apply b9N | apply b9D | apply b9L); exact BK359.out) : p := h
theorem d9_13 {p : Prop} (h : p := by repeat (first | (with_reducible first | exact HB.out | apply below_alloc | apply pw_below_drewN | apply below_drew1 | refine below_set ?_ GE358.out | refine below_set ?_ GE359.out) | exact HB.out)) : p := h
theorem d9_14 {p : Prop} (h : p := by (with_reducible repeat (first | apply Kd.R_alloc | apply Kd.R_drewN | apply Kd.R_drew)); exact HO_383001.out) : p := h
theorem d9_15 {p : Prop} (h : p := by (with_reducible repeat (first | apply Kd.R_alloc | apply Kd.R_drewN | apply Kd.R_drew)); exact HO_391001.out) : p := h
theorem d9_16 {p : Prop} (h : p := by first | rfl | (simp; done) | (simp [*]; done) | (simp [ne_nil_b, eq_nil_b]; done)) : p := h
theorem d9_17 {p : Prop} (h : p := by repeat (first | (with_reducible first | exact HB.out | apply below_alloc | apply pw_below_drewN | apply below_drew1) | exact HB.out)) : p := h
theorem d9_18 {p : Prop} (h : p := by first | (with_reducible assumption) | assumption) : p := h
theorem d9_19 {p : Prop} (h : p := by (with_reducible repeat (first | apply Kd.R_alloc | apply Kd.R_drewN | apply Kd.R_drew)); exact HO351.out) : p := h
theorem d9_20 {p : Prop} (h : p := by repeat (first | (with_reducible first | exact HB.out | apply below_alloc | apply pw_below_drewN | apply below_drew1 | refine below_set ?_ GE358.out) | exact HB.out)) : p := h
theorem c9_1 {p : Prop} (h : p := by repeat (first | (with_reducible first | exact HB.out | apply below_alloc | apply pw_below_drewN | apply below_drew1 | refine below_set ?_ GE358.out | refine below_set ?_ GE359.out | refine below_set ?_ GE367.out | refine below_set ?_ GE382.out | refine below_set ?_ GE390.out) | exact HB.out)) : p := h
theorem c9_2 {p : Prop} (h : p := by (with_reducible repeat first | apply b9N | apply b9D | apply b9L); exact BK358.out) : p := h
theorem c9_3 {p : Prop} (h : p := by (with_reducible repeat first | apply b9N | apply b9D | apply b9L); exact BK359.out) : p := h
theorem c9_4 {p : Prop} (h : p := by (with_reducible repeat first | apply b9N | apply b9D | apply b9L); exact BK367.out) : p := h
theorem c9_5 {p : Prop} (h : p := by (with_reducible repeat first | apply b9N | apply b9D | apply b9L); exact BK382.out) : p := h
theorem c9_6 {p : Prop} (h : p := by (with_reducible repeat first | apply b9N | apply b9D | apply b9L); exact BK390.out) : p := h
theorem c9_7 {p : Prop} (h : p := by (with_reducible repeat (first | apply Kd.R_alloc | apply Kd.R_drewN | apply Kd.R_drew)); exact HO_368001.out) : p := h
theorem c9_8 {p : Prop} (h : p := by (with_reducible repeat (first | apply Kd.R_alloc | apply Kd.R_drewN | apply Kd.R_drew)); exact HO_383001.out) : p := h
theorem c9_9 {p : Prop} (h : p := by (with_reducible repeat (first | apply Kd.R_alloc | apply Kd.R_drewN | apply Kd.R_drew)); exact HO_391001.out) : p := h
theorem c9_10 {p : Prop} (h : p := by (with_reducible repeat first | apply b9N | apply b9D | apply b9L); refine blk_far ?_ NB358_367.out _; (with_reducible repeat first | apply b9N | apply b9D | apply b9L); refine blk_far ?_ NB358_367.out _; (with_reducible repeat first | apply b9N | apply b9D | apply b9L); refine blk_far ?_ NB358_367.out _; (with_reducible repeat first | apply b9N | apply b9D | apply b9L); refine blk_far ?_ NB358_367.out _; (with_reducible repeat first | apply b9N | apply b9D | apply b9L); refine blk_far ?_ NB358_367.out _; (with_reducible repeat first | apply b9N | apply b9D | apply b9L); exact BK358.out) : p := h
theorem c9_11 {p : Prop} (h : p := by (with_reducible repeat first | apply b9N | apply b9D | apply b9L); refine blk_far ?_ NB359_367.out _; (with_reducible repeat first | apply b9N | apply b9D | apply b9L); refine blk_far ?_ NB359_367.out _; (with_reducible repeat first | apply b9N | apply b9D | apply b9L); refine blk_far ?_ NB359_367.out _; (with_reducible repeat first | apply b9N | apply b9D | apply b9L); refine blk_far ?_ NB359_367.out _; (with_reducible repeat first | apply b9N | apply b9D | apply b9L); refine blk_far ?_ NB359_367.out _; (with_reducible repeat first | apply b9N | apply b9D | apply b9L); exact BK359.out) : p := h
theorem c9_12 {p : Prop} (h : p := by (with_reducible repeat first | apply b9N | apply b9D | apply b9L); refine blk_far ?_ NB358_390.out _; (with_reducible repeat first | apply b9N | apply b9D | apply b9L); refine blk_far ?_ NB358_390.out _; (with_reducible repeat first | apply b9N | apply b9D | apply b9L); refine blk_far ?_ NB358_390.out _; (with_reducible repeat first | apply b9N | apply b9D | apply b9L); refine blk_far ?_ NB358_390.out _; (with_reducible repeat first | apply b9N | apply b9D | apply b9L); refine blk_far ?_ NB358_390.out _; (with_reducible repeat first | apply b9N | apply b9D | apply b9L); exact BK358.out) : p := h
theorem c9_13 {p : Prop} (h : p := by (with_reducible repeat first | apply b9N | apply b9D | apply b9L); refine blk_far ?_ NB359_390.out _; (with_reducible repeat first | apply b9N | apply b9D | apply b9L); refine blk_far ?_ NB359_390.out _; (with_reducible repeat first | apply b9N | apply b9D | apply b9L); refine blk_far ?_ NB359_390.out _; (with_reducible repeat first | apply b9N | apply b9D | apply b9L); refine blk_far ?_ NB359_390.out _; (with_reducible repeat first | apply b9N | apply b9D | apply b9L); refine blk_far ?_ NB359_390.out _; (with_reducible repeat first | apply b9N | apply b9D | apply b9L); exact BK359.out) : p := h
theorem c9_14 {p : Prop} (h : p := by (with_reducible repeat first | apply b9N | apply b9D | apply b9L); refine blk_far ?_ NB367_390.out _; (with_reducible repeat first | apply b9N | apply b9D | apply b9L); refine blk_far ?_ NB367_390.out _; (with_reducible repeat first | apply b9N | apply b9D | apply b9L); refine blk_far ?_ NB367_390.out _; (with_reducible repeat first | apply b9N | apply b9D | apply b9L); refine blk_far ?_ NB367_390.out _; (with_reducible repeat first | apply b9N | apply b9D | apply b9L); refine blk_far ?_ NB367_390.out _; (with_reducible repeat first | apply b9N | apply b9D | apply b9L); exact BK367.out) : p := h
theorem c9_15 {p : Prop} (h : p := by (with_reducible repeat first | apply b9N | apply b9D | apply b9L); refine blk_far ?_ NB382_390.out _; (with_reducible repeat first | apply b9N | apply b9D | apply b9L); refine blk_far ?_ NB382_390.out _; (with_reducible repeat first | apply b9N | apply b9D | apply b9L); refine blk_far ?_ NB382_390.out _; (with_reducible repeat first | apply b9N | apply b9D | apply b9L); refine blk_far ?_ NB382_390.out _; (with_reducible repeat first | apply b9N | apply b9D | apply b9L); refine blk_far ?_ NB382_390.out _; (with_reducible repeat first | apply b9N | apply b9D | apply b9L); exact BK382.out) : p := h
theorem c9_16 {p : Prop} (h : p := by repeat (first | (with_reducible first | exact HB.out | apply below_alloc | apply pw_below_drewN | apply below_drew1 | refine below_set ?_ GE358.out | refine below_set ?_ GE359.out | refine below_set ?_ GE367.out) | exact HB.out)) : p := h
set_option maxHeartbeats 8000000
set_option maxRecDepth 100000
theorem z9c {w : World} {g : Nat} {t : TypeId} {cs : Array Value} (h : w.heap[g]? = some (.cells cs t (0, 0))) (i : Nat) {v : Value} (e : cs[i]? = some v) : w.cell? ⟨g, i, none⟩ = some v := (blk_cell h i).trans e
theorem z9f {w : World} {g : Nat} {t : TypeId} {cs : Array Value} (h : w.heap[g]? = some (.cells cs t (0, 0))) (i : Nat) : w.frozen? ⟨g, i, none⟩ = false := blk_frozen h i
abbrev m9_0 : Array Bool := #[false, false, false, false, false, false, false, false, false, false, false, false, false, false, false, false, false, false, false, false, false, false, false, false, false, false, false, false, false, false]
abbrev m9_1 : Array Bool := #[true, false, false, false, false, false, false, false, false, false, false, false, false, false, false, false, false, false, false, false, false, false, false, false, false, false, false, false, false, false]
abbrev m9_2 : Array Bool := #[true, false, false, true, false, false, false, false, false, false, false, false, false, false, false, false, false, false, false, false, false, false, false, false, false, false, false, false, false, false]
abbrev m9_3 : Array Bool := #[true, true, false, true, false, false, false, false, false, false, false, false, false, false, false, false, false, false, false, false, false, false, false, false, false, false, false, false, false, false]
abbrev m9_4 : Array Bool := #[true, true, true, true, false, false, false, false, false, false, false, false, false, false, false, false, false, false, false, false, false, false, false, false, false, false, false, false, false, false]
abbrev m9_5 : Array Bool := #[true, true, true, true, true, false, false, false, false, false, false, false, false, false, false, false, false, false, false, false, false, false, false, false, false, false, false, false, false, false]
abbrev m9_6 : Array Bool := #[true, true, true, true, true, true, false, false, false, false, false, false, false, false, false, false, false, false, false, false, false, false, false, false, false, false, false, false, false, false]
abbrev m9_7 : Array Bool := #[true, true, true, true, true, true, true, false, false, false, false, false, false, false, false, false, false, false, false, false, false, false, false, false, false, false, false, false, false, false]
abbrev m9_8 : Array Bool := #[true, true, true, true, true, true, true, true, false, false, false, false, false, false, false, false, false, false, false, false, false, false, false, false, false, false, false, false, false, false]
abbrev m9_9 : Array Bool := #[true, true, true, true, true, true, true, true, true, false, false, false, false, false, false, false, false, false, false, false, false, false, false, false, false, false, false, false, false, false]
abbrev m9_10 : Array Bool := #[true, true, true, true, true, true, true, true, true, true, false, false, false, false, false, false, false, false, false, false, false, false, false, false, false, false, false, false, false, false]
abbrev m9_11 : Array Bool := #[true, true, true, true, true, true, true, true, true, true, true, false, false, false, false, false, false, false, false, false, false, false, false, false, false, false, false, false, false, false]
abbrev m9_12 : Array Bool := #[true, true, true, true, true, true, true, true, true, true, true, true, false, false, false, false, false, false, false, false, false, false, false, false, false, false, false, false, false, false]
abbrev m9_13 : Array Bool := #[true, true, true, true, true, true, true, true, true, true, true, true, true, false, false, false, false, false, false, false, false, false, false, false, false, false, false, false, false, false]
abbrev m9_14 : Array Bool := #[true, true, true, true, true, true, true, true, true, true, true, true, true, true, false, false, false, false, false, false, false, false, false, false, false, false, false, false, false, false]
abbrev m9_15 : Array Bool := #[true, true, true, true, true, true, true, true, true, true, true, true, true, true, true, false, false, false, false, false, false, false, false, false, false, false, false, false, false, false]
abbrev m9_16 : Array Bool := #[true, true, true, true, true, true, true, true, true, true, true, true, true, true, true, true, false, false, false, false, false, false, false, false, false, false, false, false, false, false]
abbrev m9_17 : Array Bool := #[true, true, true, true, true, true, true, true, true, true, true, true, true, true, true, true, true, false, false, false, false, false, false, false, false, false, false, false, false, false]
abbrev m9_18 : Array Bool := #[true, true, true, true, true, true, true, true, true, true, true, true, true, true, true, true, true, true, false, false, false, false, false, false, false, false, false, false, false, false]
abbrev m9_19 : Array Bool := #[true, true, true, true, true, true, true, true, true, true, true, true, true, true, true, true, true, true, false, true, false, false, false, false, false, false, false, false, false, false]
abbrev m9_20 : Array Bool := #[true, true, true, true, true, true, true, true, true, true, true, true, true, true, true, true, true, true, true, false, false, false, false, false, false, false, false, false, false, false]
abbrev m9_21 : Array Bool := #[true, true, true, true, true, true, true, true, true, true, true, true, true, true, true, true, true, true, true, true, false, false, false, false, false, false, false, false, false, false]
abbrev m9_22 : Array Bool := #[true, true, true, true, true, true, true, true, true, true, true, true, true, true, true, true, true, true, true, true, true, false, false, false, false, false, false, false, false, false]
abbrev m9_23 : Array Bool := #[true, true, true, true, true, true, true, true, true, true, true, true, true, true, true, true, true, true, true, true, true, true, false, false, false, false, false, false, false, false]
abbrev m9_24 : Array Bool := #[true, true, true, true, true, true, true, true, true, true, true, true, true, true, true, true, true, true, true, true, true, true, true, false, false, false, false, false, false, false]
abbrev m9_25 : Array Bool := #[true, true, true, true, true, true, true, true, true, true, true, true, true, true, true, true, true, true, true, true, true, true, true, true, false, false, false, false, false, false]
abbrev m9_26 : Array Bool := #[true, true, true, true, true, true, true, true, true, true, true, true, true, true, true, true, true, true, true, true, true, true, true, true, true, false, false, false, false, false]
abbrev m9_27 : Array Bool := #[true, true, true, true, true, true, true, true, true, true, true, true, true, true, true, true, true, true, true, true, true, true, true, true, true, true, false, false, false, false]
abbrev m9_28 : Array Bool := #[true, true, true, true, true, true, true, true, true, true, true, true, true, true, true, true, true, true, true, true, true, true, true, true, true, true, true, false, false, false]
abbrev m9_29 : Array Bool := #[true, true, true, true, true, true, true, true, true, true, true, true, true, true, true, true, true, true, true, true, true, true, true, true, true, true, true, true, false, false]
abbrev m9_30 : Array Bool := #[true, true, true, true, true, true, true, true, true, true, true, true, true, true, true, true, true, true, true, true, true, true, true, true, true, true, true, true, true, false]
abbrev m9_31 : Array Bool := #[true, true, true, true, true, true, true, true, true, true, true, true, true, true, true, true, true, true, true, true, true, true, true, true, true, true, true, true, true, true]
theorem pa9_1 {α : Type} (l : List α) (i : Nat) (a : α) : l.toArray.setIfInBounds i a = (l.set i a).toArray := List.setIfInBounds_toArray l i a
theorem pa9_2 {α : Type} (a : α) (l : List α) (b : α) : (a :: l).set 0 b = b :: l := rfl
theorem pa9_3 {α : Type} (a : α) (l : List α) (n : Nat) (b : α) : (a :: l).set (n + 1) b = a :: l.set n b := rfl

theorem hb9_3_3_5 {w : World} {g0 g1 g2 : Nat} {t0 t1 t2 : TypeId} {a0_0 a0_1 a0_2 a1_0 a1_1 a1_2 a2_0 a2_1 a2_2 a2_3 a2_4 : Value} (h0 : w.heap[g0]? = some (.cells #[a0_0, a0_1, a0_2] t0 (0, 0))) (h1 : w.heap[g1]? = some (.cells #[a1_0, a1_1, a1_2] t1 (0, 0))) (h2 : w.heap[g2]? = some (.cells #[a2_0, a2_1, a2_2, a2_3, a2_4] t2 (0, 0))) : w.cell? ⟨g0, 0, none⟩ = some a0_0 ∧ w.cell? ⟨g0, 1, none⟩ = some a0_1 ∧ w.cell? ⟨g0, 2, none⟩ = some a0_2 ∧ w.cell? ⟨g1, 0, none⟩ = some a1_0 ∧ w.cell? ⟨g1, 1, none⟩ = some a1_1 ∧ w.cell? ⟨g1, 2, none⟩ = some a1_2 ∧ w.cell? ⟨g2, 0, none⟩ = some a2_0 ∧ w.cell? ⟨g2, 1, none⟩ = some a2_1 ∧ w.cell? ⟨g2, 2, none⟩ = some a2_2 ∧ w.cell? ⟨g2, 3, none⟩ = some a2_3 ∧ w.cell? ⟨g2, 4, none⟩ = some a2_4 := ⟨(blk_cell h0 0).trans rfl, (blk_cell h0 1).trans rfl, (blk_cell h0 2).trans rfl, (blk_cell h1 0).trans rfl, (blk_cell h1 1).trans rfl, (blk_cell h1 2).trans rfl, (blk_cell h2 0).trans rfl, (blk_cell h2 1).trans rfl, (blk_cell h2 2).trans rfl, (blk_cell h2 3).trans rfl, (blk_cell h2 4).trans rfl⟩
theorem hb9_5_5 {w : World} {g0 g1 : Nat} {t0 t1 : TypeId} {a0_0 a0_1 a0_2 a0_3 a0_4 a1_0 a1_1 a1_2 a1_3 a1_4 : Value} (h0 : w.heap[g0]? = some (.cells #[a0_0, a0_1, a0_2, a0_3, a0_4] t0 (0, 0))) (h1 : w.heap[g1]? = some (.cells #[a1_0, a1_1, a1_2, a1_3, a1_4] t1 (0, 0))) : w.cell? ⟨g0, 0, none⟩ = some a0_0 ∧ w.cell? ⟨g0, 1, none⟩ = some a0_1 ∧ w.cell? ⟨g0, 2, none⟩ = some a0_2 ∧ w.cell? ⟨g0, 3, none⟩ = some a0_3 ∧ w.cell? ⟨g0, 4, none⟩ = some a0_4 ∧ w.cell? ⟨g1, 0, none⟩ = some a1_0 ∧ w.cell? ⟨g1, 1, none⟩ = some a1_1 ∧ w.cell? ⟨g1, 2, none⟩ = some a1_2 ∧ w.cell? ⟨g1, 3, none⟩ = some a1_3 ∧ w.cell? ⟨g1, 4, none⟩ = some a1_4 := ⟨(blk_cell h0 0).trans rfl, (blk_cell h0 1).trans rfl, (blk_cell h0 2).trans rfl, (blk_cell h0 3).trans rfl, (blk_cell h0 4).trans rfl, (blk_cell h1 0).trans rfl, (blk_cell h1 1).trans rfl, (blk_cell h1 2).trans rfl, (blk_cell h1 3).trans rfl, (blk_cell h1 4).trans rfl⟩

/-! ### laws_FnLists: function 4 -/
mutual
def laws_FnLists.j0 : Nat → List Int → Option (Bool)
  | 0, _ => none
  | k + 1, x0 => (spec_DrawConsTo.f k x0).bind fun bt349 => ((impl_ConsTo.f k bt349.1 bt349.2.1 bt349.2.2.1 bt349.2.2.2.1 bt349.2.2.2.2.1 bt349.2.2.2.2.2.1 bt349.2.2.2.2.2.2).bind fun bt360 => (if bt360.1 = 0 then (laws_FnLists.j1 k bt349.1 bt349.2.1 bt349.2.2.1 bt349.2.2.2.1 bt349.2.2.2.2.1 bt349.2.2.2.2.2.1 bt349.2.2.2.2.2.2 bt360.1 bt360.2.1 bt360.2.2.1 bt360.2.2.2.1 bt360.2.2.2.2) else ((spec_ConsTo.f k bt349.1 bt349.2.1 bt349.2.2.1 bt349.2.2.2.1 bt349.2.2.2.2.1 bt349.2.2.2.2.2.1 bt349.2.2.2.2.2.2).bind fun bt368 => (some (bt368.1 == bt360.1)))))
def laws_FnLists.j1 : Nat → List (S70) → Int → Int → ByteArray → Int → Int → ByteArray → Int → List (S70) → Int → Int → ByteArray → Option (Bool)
  | 0, _, _, _, _, _, _, _, _, _, _, _, _ => none
  | k + 1, x3, x359000, x359001, x359002, x360000, x360001, x360002, x368000, x368001, x368002, x368003, x368004 => (impl_ListFrom.f k x368001 x368002 x368003 x368004).bind fun bt375 => ((impl_ListFrom.f k x3 x360000 x360001 x360002).bind fun bt383 => (if bt375.1 = 0 then (laws_FnLists.j2 k (bt383.1 != 0) x359000 x359001 x359002 x368000 x368001 x368002 x368003 x368004 bt375.1 bt375.2.1 bt375.2.2.1 bt375.2.2.2.1 bt375.2.2.2.2 bt383.1 bt383.2.1 bt383.2.2.1 bt383.2.2.2.1 bt383.2.2.2.2) else (laws_FnLists.j2 k true x359000 x359001 x359002 x368000 x368001 x368002 x368003 x368004 bt375.1 bt375.2.1 bt375.2.2.1 bt375.2.2.2.1 bt375.2.2.2.2 bt383.1 bt383.2.1 bt383.2.2.1 bt383.2.2.2.1 bt383.2.2.2.2)))
def laws_FnLists.j2 : Nat → Bool → Int → Int → ByteArray → Int → List (S70) → Int → Int → ByteArray → Int → List (S28) → Int → Int → ByteArray → Int → List (S28) → Int → Int → ByteArray → Option (Bool)
  | 0, _, _, _, _, _, _, _, _, _, _, _, _, _, _, _, _, _, _, _ => none
  | k + 1, x48, x359000, x359001, x359002, x368000, x368001, x368002, x368003, x368004, x383000, x383001, x383002, x383003, x383004, x391000, x391001, x391002, x391003, x391004 => if x48 = true then (some (x383000 == 2)) else (laws_FnLists.j3 k x359000 x359001 x359002 x368000 x368001 x368002 x368003 x368004 x383000 x383001 x383002 x383003 x383004 x391000 x391001 x391002 x391003 x391004)
def laws_FnLists.j3 : Nat → Int → Int → ByteArray → Int → List (S70) → Int → Int → ByteArray → Int → List (S28) → Int → Int → ByteArray → Int → List (S28) → Int → Int → ByteArray → Option (Bool)
  | 0, _, _, _, _, _, _, _, _, _, _, _, _, _, _, _, _, _, _ => none
  | k + 1, x359000, x359001, x359002, x368000, x368001, x368002, x368003, x368004, x383000, x383001, x383002, x383003, x383004, x391000, x391001, x391002, x391003, x391004 => laws_FnLists.l0 k 0 x359000 x359001 x359002 x368000 x368001 x368002 x368003 x368004 x383000 x383001 x383002 x383003 x383004 x391000 x391001 x391002 x391003 x391004
def laws_FnLists.j7 : Nat → Int → Int → ByteArray → Int → List (S70) → Int → Int → ByteArray → Int → List (S28) → Int → Int → ByteArray → Int → List (S28) → Int → Int → ByteArray → Option (Bool)
  | 0, _, _, _, _, _, _, _, _, _, _, _, _, _, _, _, _, _, _ => none
  | k + 1, x359000, x359001, x359002, x368000, x368001, x368002, x368003, x368004, x383000, x383001, x383002, x383003, x383004, x391000, x391001, x391002, x391003, x391004 => if (x383001.length : Int) = (wrap64 ((x391001.length : Int) + 1)) then (if 0 < (x383001.length : Int) then ((impl_SameValues.f ((rd_T28 x383001 0).f0) ((rd_T28 x383001 0).f1) ((rd_T28 x383001 0).f2) x359000 x359001 x359002).bind fun t395 => (if t395 = true then ((impl_SameValues.f x383002 x383003 x383004 x391002 x391003 x391004).bind fun t396 => (if t396 = true then ((impl_HeapFault.f k x368001).bind fun t397 => (laws_FnLists.j8 k (t397 == 0))) else (laws_FnLists.j8 k false))) else (laws_FnLists.j8 k false))) else (none)) else (laws_FnLists.j8 k false)
def laws_FnLists.j8 : Nat → Bool → Option (Bool)
  | 0, _ => none
  | k + 1, x2 => some x2
def laws_FnLists.l0 : Nat → Int → Int → Int → ByteArray → Int → List (S70) → Int → Int → ByteArray → Int → List (S28) → Int → Int → ByteArray → Int → List (S28) → Int → Int → ByteArray → Option (Bool)
  | 0, _, _, _, _, _, _, _, _, _, _, _, _, _, _, _, _, _, _, _ => none
  | k + 1, x9, x359000, x359001, x359002, x368000, x368001, x368002, x368003, x368004, x383000, x383001, x383002, x383003, x383004, x391000, x391001, x391002, x391003, x391004 => if x9 < (x391001.length : Int) then (laws_FnLists.j5 k x9 x359000 x359001 x359002 x368000 x368001 x368002 x368003 x368004 x383000 x383001 x383002 x383003 x383004 x391000 x391001 x391002 x391003 x391004) else (laws_FnLists.j7 k x359000 x359001 x359002 x368000 x368001 x368002 x368003 x368004 x383000 x383001 x383002 x383003 x383004 x391000 x391001 x391002 x391003 x391004)
def laws_FnLists.j5 : Nat → Int → Int → Int → ByteArray → Int → List (S70) → Int → Int → ByteArray → Int → List (S28) → Int → Int → ByteArray → Int → List (S28) → Int → Int → ByteArray → Option (Bool)
  | 0, _, _, _, _, _, _, _, _, _, _, _, _, _, _, _, _, _, _, _ => none
  | k + 1, x9, x359000, x359001, x359002, x368000, x368001, x368002, x368003, x368004, x383000, x383001, x383002, x383003, x383004, x391000, x391001, x391002, x391003, x391004 => if 0 ≤ (wrap64 (x9 + 1)) then (if (wrap64 (x9 + 1)) < (x383001.length : Int) then (if 0 ≤ x9 then (if x9 < (x391001.length : Int) then ((impl_SameValues.f ((rd_T28 x383001 (wrap64 (x9 + 1))).f0) ((rd_T28 x383001 (wrap64 (x9 + 1))).f1) ((rd_T28 x383001 (wrap64 (x9 + 1))).f2) ((rd_T28 x391001 x9).f0) ((rd_T28 x391001 x9).f1) ((rd_T28 x391001 x9).f2)).bind fun t393 => (if t393 = true then (laws_FnLists.j6 k x9 x359000 x359001 x359002 x368000 x368001 x368002 x368003 x368004 x383000 x383001 x383002 x383003 x383004 x391000 x391001 x391002 x391003 x391004) else (some false))) else (none)) else (none)) else (none)) else (none)
def laws_FnLists.j6 : Nat → Int → Int → Int → ByteArray → Int → List (S70) → Int → Int → ByteArray → Int → List (S28) → Int → Int → ByteArray → Int → List (S28) → Int → Int → ByteArray → Option (Bool)
  | 0, _, _, _, _, _, _, _, _, _, _, _, _, _, _, _, _, _, _, _ => none
  | k + 1, x9, x359000, x359001, x359002, x368000, x368001, x368002, x368003, x368004, x383000, x383001, x383002, x383003, x383004, x391000, x391001, x391002, x391003, x391004 => laws_FnLists.l0 k (wrap64 (x9 + 1)) x359000 x359001 x359002 x368000 x368001 x368002 x368003 x368004 x383000 x383001 x383002 x383003 x383004 x391000 x391001 x391002 x391003 x391004
end
def laws_FnLists.f (k : Nat) (l0 : List Int) : Option (Bool) := (laws_lwBig.f l0).bind fun t348 => (if t348 = true then (some true) else (laws_FnLists.j0 k l0))
theorem laws_FnLists.mono_l : ∀ k, (∀ y0, LeO (laws_FnLists.j0 k y0) (laws_FnLists.j0 (k + 1) y0)) ∧ (∀ y0 y1 y2 y3 y4 y5 y6 y7 y8 y9 y10 y11, LeO (laws_FnLists.j1 k y0 y1 y2 y3 y4 y5 y6 y7 y8 y9 y10 y11) (laws_FnLists.j1 (k + 1) y0 y1 y2 y3 y4 y5 y6 y7 y8 y9 y10 y11)) ∧ (∀ y0 y1 y2 y3 y4 y5 y6 y7 y8 y9 y10 y11 y12 y13 y14 y15 y16 y17 y18, LeO (laws_FnLists.j2 k y0 y1 y2 y3 y4 y5 y6 y7 y8 y9 y10 y11 y12 y13 y14 y15 y16 y17 y18) (laws_FnLists.j2 (k + 1) y0 y1 y2 y3 y4 y5 y6 y7 y8 y9 y10 y11 y12 y13 y14 y15 y16 y17 y18)) ∧ (∀ y0 y1 y2 y3 y4 y5 y6 y7 y8 y9 y10 y11 y12 y13 y14 y15 y16 y17, LeO (laws_FnLists.j3 k y0 y1 y2 y3 y4 y5 y6 y7 y8 y9 y10 y11 y12 y13 y14 y15 y16 y17) (laws_FnLists.j3 (k + 1) y0 y1 y2 y3 y4 y5 y6 y7 y8 y9 y10 y11 y12 y13 y14 y15 y16 y17)) ∧ (∀ y0 y1 y2 y3 y4 y5 y6 y7 y8 y9 y10 y11 y12 y13 y14 y15 y16 y17, LeO (laws_FnLists.j7 k y0 y1 y2 y3 y4 y5 y6 y7 y8 y9 y10 y11 y12 y13 y14 y15 y16 y17) (laws_FnLists.j7 (k + 1) y0 y1 y2 y3 y4 y5 y6 y7 y8 y9 y10 y11 y12 y13 y14 y15 y16 y17)) ∧ (∀ y0, LeO (laws_FnLists.j8 k y0) (laws_FnLists.j8 (k + 1) y0)) ∧ (∀ y0 y1 y2 y3 y4 y5 y6 y7 y8 y9 y10 y11 y12 y13 y14 y15 y16 y17 y18, LeO (laws_FnLists.l0 k y0 y1 y2 y3 y4 y5 y6 y7 y8 y9 y10 y11 y12 y13 y14 y15 y16 y17 y18) (laws_FnLists.l0 (k + 1) y0 y1 y2 y3 y4 y5 y6 y7 y8 y9 y10 y11 y12 y13 y14 y15 y16 y17 y18)) ∧ (∀ y0 y1 y2 y3 y4 y5 y6 y7 y8 y9 y10 y11 y12 y13 y14 y15 y16 y17 y18, LeO (laws_FnLists.j5 k y0 y1 y2 y3 y4 y5 y6 y7 y8 y9 y10 y11 y12 y13 y14 y15 y16 y17 y18) (laws_FnLists.j5 (k + 1) y0 y1 y2 y3 y4 y5 y6 y7 y8 y9 y10 y11 y12 y13 y14 y15 y16 y17 y18)) ∧ (∀ y0 y1 y2 y3 y4 y5 y6 y7 y8 y9 y10 y11 y12 y13 y14 y15 y16 y17 y18, LeO (laws_FnLists.j6 k y0 y1 y2 y3 y4 y5 y6 y7 y8 y9 y10 y11 y12 y13 y14 y15 y16 y17 y18) (laws_FnLists.j6 (k + 1) y0 y1 y2 y3 y4 y5 y6 y7 y8 y9 y10 y11 y12 y13 y14 y15 y16 y17 y18))
  | 0 => ⟨fun _ r h => by simp [laws_FnLists.j0] at h, fun _ _ _ _ _ _ _ _ _ _ _ _ r h => by simp [laws_FnLists.j1] at h, fun _ _ _ _ _ _ _ _ _ _ _ _ _ _ _ _ _ _ _ r h => by simp [laws_FnLists.j2] at h, fun _ _ _ _ _ _ _ _ _ _ _ _ _ _ _ _ _ _ r h => by simp [laws_FnLists.j3] at h, fun _ _ _ _ _ _ _ _ _ _ _ _ _ _ _ _ _ _ r h => by simp [laws_FnLists.j7] at h, fun _ r h => by simp [laws_FnLists.j8] at h, fun _ _ _ _ _ _ _ _ _ _ _ _ _ _ _ _ _ _ _ r h => by simp [laws_FnLists.l0] at h, fun _ _ _ _ _ _ _ _ _ _ _ _ _ _ _ _ _ _ _ r h => by simp [laws_FnLists.j5] at h, fun _ _ _ _ _ _ _ _ _ _ _ _ _ _ _ _ _ _ _ r h => by simp [laws_FnLists.j6] at h⟩
  | k + 1 => by
    obtain ⟨ih0, ih1, ih2, ih3, ih4, ih5, ih6, ih7, ih8⟩ := laws_FnLists.mono_l k; refine ⟨?_, ?_, ?_, ?_, ?_, ?_, ?_, ?_, ?_⟩
    all_goals
      intros
      first | unfold laws_FnLists.j0 | unfold laws_FnLists.j1 | unfold laws_FnLists.j2 | unfold laws_FnLists.j3 | unfold laws_FnLists.j7 | unfold laws_FnLists.j8 | unfold laws_FnLists.l0 | unfold laws_FnLists.j5 | unfold laws_FnLists.j6
      repeat' first | (with_reducible first | apply ih0 | apply ih1 | apply ih2 | apply ih3 | apply ih4 | apply ih5 | apply ih6 | apply ih7 | apply ih8 | apply impl_ConsTo.mono | apply impl_HeapFault.mono | apply impl_ListFrom.mono | apply spec_ConsTo.mono | apply spec_DrawConsTo.mono | exact LeO.refl _ | exact LeO.none _ | refine LeO.ite ?_ ?_ | refine LeO.bind ?_ (fun _ => ?_)) | apply ih0 | apply ih1 | apply ih2 | apply ih3 | apply ih4 | apply ih5 | apply ih6 | apply ih7 | apply ih8 | apply impl_ConsTo.mono | apply impl_HeapFault.mono | apply impl_ListFrom.mono | apply spec_ConsTo.mono | apply spec_DrawConsTo.mono | exact LeO.none _ | refine LeO.ite ?_ ?_ | refine LeO.bind ?_ (fun _ => ?_)
theorem laws_FnLists.mono : ∀ a0 k, LeO (laws_FnLists.f k a0) (laws_FnLists.f (k + 1) a0) := by
  intro a0 k; obtain ⟨ih0, ih1, ih2, ih3, ih4, ih5, ih6, ih7, ih8⟩ := laws_FnLists.mono_l k; unfold laws_FnLists.f
  repeat' first | (with_reducible first | apply ih0 | apply ih1 | apply ih2 | apply ih3 | apply ih4 | apply ih5 | apply ih6 | apply ih7 | apply ih8 | apply impl_ConsTo.mono | apply impl_HeapFault.mono | apply impl_ListFrom.mono | apply spec_ConsTo.mono | apply spec_DrawConsTo.mono | exact LeO.refl _ | exact LeO.none _ | refine LeO.ite ?_ ?_ | refine LeO.bind ?_ (fun _ => ?_)) | apply ih0 | apply ih1 | apply ih2 | apply ih3 | apply ih4 | apply ih5 | apply ih6 | apply ih7 | apply ih8 | apply impl_ConsTo.mono | apply impl_HeapFault.mono | apply impl_ListFrom.mono | apply spec_ConsTo.mono | apply spec_DrawConsTo.mono | exact LeO.none _ | refine LeO.ite ?_ ?_ | refine LeO.bind ?_ (fun _ => ?_)
def laws_FnLists.T6 : Bool × List (List Nat × List Nat) := (true, [([], []), ([], []), ([], []), ([0, 1, 2], [0, 1, 2]), ([3], [3]), ([], []), ([5], [5]), ([4, 6], [4, 6]), ([7, 3, 0, 1, 2, 3, 4, 5, 6, 7], [7])])
def laws_FnLists.B6 : List Nat := [0, 0, 0, 7, 15, 0, 32, 127, 255]
theorem laws_FnLists.tab6 : rtab .any (opsOf Tryd.f4 6) = laws_FnLists.T6 := by kernel_rfl
theorem laws_FnLists.bits6 : waitsOk laws_FnLists.T6.2 laws_FnLists.B6 = true := by kernel_rfl
def laws_FnLists.T14 : Bool × List (List Nat × List Nat) := (true, [([], []), ([0], [0]), ([], []), ([2], [2]), ([1, 3], [1, 3]), ([4], [4]), ([], []), ([6], [6]), ([], []), ([7, 8], [7, 8]), ([9], [9]), ([5, 10], [5, 10]), ([11], [11])])
def laws_FnLists.B14 : List Nat := [0, 1, 0, 4, 15, 31, 0, 64, 0, 448, 960, 2047, 4095]
theorem laws_FnLists.tab14 : rtab .any (opsOf Tryd.f4 14) = laws_FnLists.T14 := by kernel_rfl
theorem laws_FnLists.bits14 : waitsOk laws_FnLists.T14.2 laws_FnLists.B14 = true := by kernel_rfl
def laws_FnLists.T16 : Bool × List (List Nat × List Nat) := (true, [([], []), ([0], [0]), ([1], [1]), ([], []), ([3], [3]), ([4], [4]), ([5], [5]), ([2, 6], [2, 6]), ([7], [7]), ([8], [8]), ([9, 8], [8, 9]), ([10, 8], [8, 10]), ([11, 8], [8, 11]), ([8], [8]), ([12, 13, 8, 8], [8, 12, 13]), ([8, 14], [8, 14]), ([15, 14], [15]), ([16], [16]), ([17, 16], [16, 17]), ([16], [16]), ([19, 16], [16, 19]), ([18, 20, 16, 16], [16, 18, 20]), ([16, 21], [16, 21]), ([22, 21], [22]), ([23], [23]), ([24, 23], [23, 24]), ([25, 23, 23], [23, 25]), ([26, 23], [23, 26]), ([23, 27], [23, 27]), ([28, 26, 0, 1, 2, 3, 4, 5, 6, 7, 8, 9, 10, 11, 12, 13, 14, 15, 16, 17, 18, 19, 20, 21, 22, 23, 24, 25, 26, 27, 28], [28])])
def laws_FnLists.B16 : List Nat := [0, 1, 3, 0, 8, 24, 56, 127, 255, 511, 1023, 2047, 4095, 511, 16383, 32767, 65535, 131071, 262143, 131071, 655359, 2097151, 4194303, 8388607, 16777215, 33554431, 67108863, 134217727, 268435455, 536870911]
theorem laws_FnLists.tab16 : rtab .any (opsOf Tryd.f4 16) = laws_FnLists.T16 := by kernel_rfl
theorem laws_FnLists.bits16 : waitsOk laws_FnLists.T16.2 laws_FnLists.B16 = true := by kernel_rfl
theorem laws_FnLists.calls (k : Nat) (A0 : Option Addr) (c0 : Nat) (l0 : List Int) (r : Bool) (w : World) (hr0 : Kd.C (Kd.int .u8) w A0 l0.length l0) (hc0 : l0.length ≤ c0) (h : laws_FnLists.f k l0 = some r) :
    Calls Tryd.prog 4 #[.slice A0 l0.length c0] w fun e w' => e = .returned (.bool r) ∧ Below w.heap.size w w' := by
  have hu28 := Tryd.underlying28; have hu30 := Tryd.underlying30
  have hfd30_0 : ∀ (v0 v1 v2 v3 v4 : Value) (w : World), (Instr.field 30 (.agg #[v0, v1, v2, v3, v4]) 0).run Tryd.prog w = .ok (v0) w := fun _ _ _ _ _ _ => by kernel_rfl
  have hu45 := Tryd.underlying45; have HR0 := ak hr0; have HC0 := ak hc0; clear hr0 hc0; have HB := ak (Below.refl w.heap.size w); have H := h; clear h; unfold laws_FnLists.f at H; replace H := Option.bind_eq_some_iff.mp H; obtain ⟨t348, A20, H⟩ := H; (try dsimp -simprocs only at H); have A2 := ak A20; clear A20; have HC3 := ak H; clear H; go_enter Tryd.func4, Tryd.ntmps4; go_upto_if 11 with (first | ((with_reducible refine gate_callee (f := 21) rfl ?_); refine goesL_ (some 11) rfl rfl Tryd.func21 (by kernel_rfl) rfl #[.slice A0 l0.length c0] rfl d9_5 ?_; (with_reducible refine (laws_lwBig.calls _ _ l0 t348 _ ?side1 ?side2 A2.out).mono ?_); (case side1 => repeat (first | exact HR0.out | (with_reducible refine Kd.C_alloc ?_ _) | (with_reducible refine Kd.C_drewN ?_ _) | (with_reducible refine Kd.C_drew ?_))); (case side2 => exact HC0.out); rintro e w' ⟨rfl, ⟨nd, rfl⟩⟩; refine ⟨_, rfl, ?_⟩))
  (try simp only [Act.put, pa9_1, pa9_2, pa9_3])
  go_cut [] (fun wc => ∃ (kq : Nat), Aside0 (laws_FnLists.j0 kq l0 = some r) ∧ Aside0 (kq ≤ k) ∧ Aside0 (Below w.heap.size w wc))
  case first =>
   have H := HC3.out; clear HC3; by_cases c4 : t348 = true
   ·subst c4
    rw [if_pos rfl] at H; obtain rfl := Option.some.inj H; go_wp2; go_ret; exact ⟨by first | rfl | (simp [errW_none, errW_some] <;> rfl) | (simp [*, errW_none, errW_some] <;> rfl), by repeat (first | (with_reducible first | exact HB.out | apply below_alloc | apply pw_below_drewN | apply below_drew1) | exact HB.out)⟩
   ·replace c4 := Bool.eq_false_iff.mpr c4
    subst c4
    rw [if_neg (show ¬ (false = true) by decide)] at H; have H' := ak H; clear H; go_wp2; go_meet
    case rel => exact ⟨_, H', ⟨by first | omega | exact Nat.le_refl _⟩, ⟨by repeat (first | (with_reducible first | exact HB.out | apply below_alloc | apply pw_below_drewN | apply below_drew1) | exact HB.out)⟩⟩
  case rest =>
   clear HC3
   (try clear c2); (try clear c4)
   obtain ⟨kq, HA, HJ2, HB⟩ := hcut
   cases kq with
   | zero => exact absurd HA.out (by simp [laws_FnLists.j0])
   | succ kj2 =>
    have H := HA.out; clear HA; simp only [laws_FnLists.j0] at H; replace H := Option.bind_eq_some_iff.mp H; obtain ⟨⟨t349, t352, t353, t354, t355, t356, t357⟩, A50, H⟩ := H; (try dsimp -simprocs only at H); have A5 := ak A50; clear A50; replace H := Option.bind_eq_some_iff.mp H; obtain ⟨⟨t360, t361, t364, t365, t366⟩, A60, H⟩ := H; (try dsimp -simprocs only at H); have A6 := ak A60; clear A60; have HC7 := ak H; clear H
    go_upto_if 24 with (first | ((with_reducible refine gate_callee (f := 22) rfl ?_); refine goesL_ (some 14) rfl rfl Tryd.func22 (by kernel_rfl) rfl #[.slice A0 l0.length c0] rfl d9_5 ?_; (with_reducible refine (spec_DrawConsTo.calls kj2 _ _ l0 t349 t352 t353 t354 t355 t356 t357 _ ?side1 ?side2 A5.out).mono ?_); (case side1 => repeat (first | exact (Kd.C_below HR0.out HB.out) | (with_reducible refine Kd.C_alloc ?_ _) | (with_reducible refine Kd.C_drewN ?_ _) | (with_reducible refine Kd.C_drew ?_))); (case side2 => exact HC0.out); rintro e w8 ⟨v350, rfl, ho0, hb⟩; refine ⟨_, rfl, ?_⟩; have n0_ := ak (Kd.R_lower ho0 (below_size d9_17)); have n1_ := ak (below_step d9_17 hb); clear HB; have HO351 := n0_; have HB := n1_; clear n0_ n1_; (try clear hb); (try clear hk); (try clear ho0)) | ((with_reducible refine gate_dst (N := 4) rfl ?_); refine box_event ?hg (N := 4) ?hd (cs := #[.int .i64 0, .int .i64 0, .string (⟨#[]⟩ : ByteArray)]) (t := 28) ?hr ?_; (case hd => rfl); (case hg => rfl); (case hr => first | (go_simp; done) | (go_simp; rfl)); intro gb358 hg w9 hbox hb; have n0_ := ak (Kd.R_below d9_19 hb); have n1_ := ak (below_step d9_17 hb); have n2_ := ak (hbox); have n3_ := ak ((by rw [hg]; exact (below_size d9_17) : w.heap.size ≤ gb358)); have n4_ := ak ((by rw [hg]; exact (below_size d9_17) : w.heap.size ≤ gb358)); clear HO351 HB; have HO351 := n0_; have HB := n1_; have BK358 := n2_; have GW358 := n3_; have GE358 := n4_; clear n0_ n1_ n2_ n3_ n4_ hb hbox hg) | ((with_reducible refine gate_dst (N := 5) rfl ?_); refine box_event ?hg (N := 5) ?hd (cs := #[.int .i64 0, .int .i64 0, .string (⟨#[]⟩ : ByteArray)]) (t := 28) ?hr ?_; (case hd => rfl); (case hg => rfl); (case hr => first | (go_simp; done) | (go_simp; rfl)); intro gb359 hg w10 hbox hb; have n0_ := ak (Kd.R_below d9_19 hb); have n1_ := ak (blk_below (g := gb358) (o := .cells #[.int .i64 0, .int .i64 0, .string (⟨#[]⟩ : ByteArray)] 28 (0, 0)) d9_1 hb); have n2_ := ak (below_step d9_20 hb); have n3_ := ak (hbox); have n4_ := ak ((by rw [hg]; exact (below_size d9_20) : w.heap.size ≤ gb359)); have n5_ := ak ((by rw [hg]; exact (below_size d9_20) : w.heap.size ≤ gb359)); have n6_ := ak ((by rw [hg]; exact Nat.ne_of_lt (blk_lt (g := gb358) (o := .cells #[.int .i64 0, .int .i64 0, .string (⟨#[]⟩ : ByteArray)] 28 (0, 0)) d9_1) : gb358 ≠ gb359)); have n7_ := ak ((by rw [hg]; exact Nat.ne_of_gt (blk_lt (g := gb358) (o := .cells #[.int .i64 0, .int .i64 0, .string (⟨#[]⟩ : ByteArray)] 28 (0, 0)) d9_1) : gb359 ≠ gb358)); clear HO351 BK358 HB; have HO351 := n0_; have BK358 := n1_; have HB := n2_; have BK359 := n3_; have GW359 := n4_; have GE359 := n5_; have NB358_359 := n6_; have NB359_358 := n7_; clear n0_ n1_ n2_ n3_ n4_ n5_ n6_ n7_ hb hbox hg; have hnb11 := NB358_359.out; have hnc11 := NB359_358.out; have hcz12_0 := z9c BK358.out 0 (v := (.int .i64 0)) rfl; have hcz12_1 := z9c BK358.out 1 (v := (.int .i64 0)) rfl; have hcz12_2 := z9c BK358.out 2 (v := (.string (⟨#[]⟩ : ByteArray))) rfl; have hfz12_0 := z9f BK358.out 0; have hfz12_1 := z9f BK358.out 1; have hfz12_2 := z9f BK358.out 2; have hcz13_0 := z9c BK359.out 0 (v := (.int .i64 0)) rfl; have hcz13_1 := z9c BK359.out 1 (v := (.int .i64 0)) rfl; have hcz13_2 := z9c BK359.out 2 (v := (.string (⟨#[]⟩ : ByteArray))) rfl; have hfz13_0 := z9f BK359.out 0; have hfz13_1 := z9f BK359.out 1; have hfz13_2 := z9f BK359.out 2; obtain ⟨Ao14, co14, eo14⟩ := Kd.R_slice HO351.out; subst eo14) | ((with_reducible refine gate_callee (f := 15) rfl ?_); refine goesL_ (some 21) rfl rfl Tryd.func15 (by kernel_rfl) rfl #[.slice Ao14 t349.length co14, .agg #[.int .i64 t352, .int .i64 t353, .string t354], .agg #[.int .i64 t355, .int .i64 t356, .string t357]] rfl d9_5 ?_; (with_reducible refine (impl_ConsTo.calls kj2 _ _ t349 t352 t353 t354 t355 t356 t357 t360 t361 t364 t365 t366 _ ?side1 ?side2 A6.out).mono ?_); (case side1 => refine (Kd.R_reads' (e := 70) (base := w.heap.size) (ok := fun k_ => True) (n := t349.length) (c := co14) ?_).2.2; exact (by (with_reducible repeat (first | apply Kd.R_alloc | apply Kd.R_drewN | apply Kd.R_drew)); exact (Kd.R_mono (Kd.R_mono (Kd.R_far (p := ⟨gb359, 2, none⟩) (Kd.R_far (p := ⟨gb359, 1, none⟩) (Kd.R_far (p := ⟨gb359, 0, none⟩) (Kd.R_far (p := ⟨gb358, 2, none⟩) (Kd.R_far (p := ⟨gb358, 1, none⟩) (Kd.R_far (p := ⟨gb358, 0, none⟩) (Kd.R_types (Kd.R_types HO351.out BK358.out (by decide)) BK359.out (by decide)) (fun _ hk => hk.1.2) (.int .i64 t352)) (fun _ hk => hk.1.2) (.int .i64 t353)) (fun _ hk => hk.1.2) (.string t354)) (fun _ hk => hk.2) (.int .i64 t355)) (fun _ hk => hk.2) (.int .i64 t356)) (fun _ hk => hk.2) (.string t357)) (fun _ h_ => h_.1)) (fun _ h_ => h_.1)))); (case side2 => exact (Kd.R_reads' HO351.out).2.1); rintro e w15 ⟨v362, rfl, ho0, hb⟩; refine ⟨_, rfl, ?_⟩; have n0_ := ak (Kd.R_elder' (by (with_reducible repeat (first | apply Kd.R_alloc | apply Kd.R_drewN | apply Kd.R_drew)); exact (Kd.R_mono (Kd.R_mono (Kd.R_far (p := ⟨gb359, 2, none⟩) (Kd.R_far (p := ⟨gb359, 1, none⟩) (Kd.R_far (p := ⟨gb359, 0, none⟩) (Kd.R_far (p := ⟨gb358, 2, none⟩) (Kd.R_far (p := ⟨gb358, 1, none⟩) (Kd.R_far (p := ⟨gb358, 0, none⟩) (Kd.R_types (Kd.R_types HO351.out BK358.out (by decide)) BK359.out (by decide)) (fun _ hk => hk.1.2) (.int .i64 t352)) (fun _ hk => hk.1.2) (.int .i64 t353)) (fun _ hk => hk.1.2) (.string t354)) (fun _ hk => hk.2) (.int .i64 t355)) (fun _ hk => hk.2) (.int .i64 t356)) (fun _ hk => hk.2) (.string t357)) (fun _ h_ => h_.1)) (fun _ h_ => h_.1))) (Kd.R_base ho0) hb); have n1_ := ak (Kd.R_lower (Kd.R_new' ho0 (Kd.R_lt (by (with_reducible repeat (first | apply Kd.R_alloc | apply Kd.R_drewN | apply Kd.R_drew)); exact (Kd.R_mono (Kd.R_mono (Kd.R_far (p := ⟨gb359, 2, none⟩) (Kd.R_far (p := ⟨gb359, 1, none⟩) (Kd.R_far (p := ⟨gb359, 0, none⟩) (Kd.R_far (p := ⟨gb358, 2, none⟩) (Kd.R_far (p := ⟨gb358, 1, none⟩) (Kd.R_far (p := ⟨gb358, 0, none⟩) (Kd.R_types (Kd.R_types HO351.out BK358.out (by decide)) BK359.out (by decide)) (fun _ hk => hk.1.2) (.int .i64 t352)) (fun _ hk => hk.1.2) (.int .i64 t353)) (fun _ hk => hk.1.2) (.string t354)) (fun _ hk => hk.2) (.int .i64 t355)) (fun _ hk => hk.2) (.int .i64 t356)) (fun _ hk => hk.2) (.string t357)) (fun _ h_ => h_.1)) (fun _ h_ => h_.1))))) (below_size d9_13)); have n2_ := ak (blk_below (g := gb358) (o := .cells #[.int .i64 t352, .int .i64 t353, .string t354] 28 (0, 0)) (by (with_reducible repeat first | apply b9N | apply b9D | apply b9L); refine blk_far ?_ NB358_359.out _; (with_reducible repeat first | apply b9N | apply b9D | apply b9L); refine blk_far ?_ NB358_359.out _; (with_reducible repeat first | apply b9N | apply b9D | apply b9L); refine blk_far ?_ NB358_359.out _; (with_reducible repeat first | apply b9N | apply b9D | apply b9L); refine blk_put (cs := #[.int .i64 t352, .int .i64 t353, .string (⟨#[]⟩ : ByteArray)]) ?_ 2 _ rfl; (with_reducible repeat first | apply b9N | apply b9D | apply b9L); refine blk_put (cs := #[.int .i64 t352, .int .i64 0, .string (⟨#[]⟩ : ByteArray)]) ?_ 1 _ rfl; (with_reducible repeat first | apply b9N | apply b9D | apply b9L); refine blk_put (cs := #[.int .i64 0, .int .i64 0, .string (⟨#[]⟩ : ByteArray)]) ?_ 0 _ rfl; (with_reducible repeat first | apply b9N | apply b9D | apply b9L); exact BK358.out) hb); have n3_ := ak (blk_below (g := gb359) (o := .cells #[.int .i64 t355, .int .i64 t356, .string t357] 28 (0, 0)) (by (with_reducible repeat first | apply b9N | apply b9D | apply b9L); refine blk_put (cs := #[.int .i64 t355, .int .i64 t356, .string (⟨#[]⟩ : ByteArray)]) ?_ 2 _ rfl; (with_reducible repeat first | apply b9N | apply b9D | apply b9L); refine blk_put (cs := #[.int .i64 t355, .int .i64 0, .string (⟨#[]⟩ : ByteArray)]) ?_ 1 _ rfl; (with_reducible repeat first | apply b9N | apply b9D | apply b9L); refine blk_put (cs := #[.int .i64 0, .int .i64 0, .string (⟨#[]⟩ : ByteArray)]) ?_ 0 _ rfl; (with_reducible repeat first | apply b9N | apply b9D | apply b9L); refine blk_far ?_ NB359_358.out _; (with_reducible repeat first | apply b9N | apply b9D | apply b9L); refine blk_far ?_ NB359_358.out _; (with_reducible repeat first | apply b9N | apply b9D | apply b9L); refine blk_far ?_ NB359_358.out _; (with_reducible repeat first | apply b9N | apply b9D | apply b9L); exact BK359.out) hb); have n4_ := ak (below_step d9_13 hb); clear HO351 BK358 BK359 HB; have HO351 := n0_; have HO363 := n1_; have BK358 := n2_; have BK359 := n3_; have HB := n4_; clear n0_ n1_ n2_ n3_ n4_; (try clear hb); (try clear hk); (try clear ho0)) | ((with_reducible refine gate_dst (N := 6) rfl ?_); refine box_event ?hg (N := 6) ?hd (cs := #[.int .i64 0, .slice none 0 0, .int .i64 0, .int .i64 0, .string (⟨#[]⟩ : ByteArray)]) (t := 30) ?hr ?_; (case hd => rfl); (case hg => rfl); (case hr => first | (go_simp; done) | (go_simp; rfl)); intro gb367 hg w16 hbox hb; have n0_ := ak (Kd.R_below d9_19 hb); have n1_ := ak (Kd.R_below (by (with_reducible repeat (first | apply Kd.R_alloc | apply Kd.R_drewN | apply Kd.R_drew)); exact HO363.out) hb); have n2_ := ak (blk_below (g := gb358) (o := .cells #[.int .i64 t352, .int .i64 t353, .string t354] 28 (0, 0)) d9_1 hb); have n3_ := ak (blk_below (g := gb359) (o := .cells #[.int .i64 t355, .int .i64 t356, .string t357] 28 (0, 0)) d9_2 hb); have n4_ := ak (below_step d9_13 hb); have n5_ := ak (hbox); have n6_ := ak ((by rw [hg]; exact (below_size d9_13) : w.heap.size ≤ gb367)); have n7_ := ak ((by rw [hg]; exact (below_size d9_13) : w.heap.size ≤ gb367)); have n8_ := ak ((by rw [hg]; exact Nat.ne_of_lt (blk_lt (g := gb358) (o := .cells #[.int .i64 t352, .int .i64 t353, .string t354] 28 (0, 0)) d9_1) : gb358 ≠ gb367)); have n9_ := ak ((by rw [hg]; exact Nat.ne_of_gt (blk_lt (g := gb358) (o := .cells #[.int .i64 t352, .int .i64 t353, .string t354] 28 (0, 0)) d9_1) : gb367 ≠ gb358)); have n10_ := ak ((by rw [hg]; exact Nat.ne_of_lt (blk_lt (g := gb359) (o := .cells #[.int .i64 t355, .int .i64 t356, .string t357] 28 (0, 0)) d9_2) : gb359 ≠ gb367)); have n11_ := ak ((by rw [hg]; exact Nat.ne_of_gt (blk_lt (g := gb359) (o := .cells #[.int .i64 t355, .int .i64 t356, .string t357] 28 (0, 0)) d9_2) : gb367 ≠ gb359)); clear HO351 HO363 BK358 BK359 HB; have HO351 := n0_; have HO363 := n1_; have BK358 := n2_; have BK359 := n3_; have HB := n4_; have BK367 := n5_; have GW367 := n6_; have GE367 := n7_; have NB358_367 := n8_; have NB367_358 := n9_; have NB359_367 := n10_; have NB367_359 := n11_; clear n0_ n1_ n2_ n3_ n4_ n5_ n6_ n7_ n8_ n9_ n10_ n11_ hb hbox hg; have hnb17 := NB367_358.out; have hnc17 := NB358_367.out; have hnb18 := NB367_359.out; have hnc18 := NB359_367.out; have hcz19_0 := z9c BK367.out 0 (v := (.int .i64 0)) rfl; have hcz19_1 := z9c BK367.out 1 (v := (.slice none 0 0)) rfl; have hcz19_2 := z9c BK367.out 2 (v := (.int .i64 0)) rfl; have hcz19_3 := z9c BK367.out 3 (v := (.int .i64 0)) rfl; have hcz19_4 := z9c BK367.out 4 (v := (.string (⟨#[]⟩ : ByteArray))) rfl; have hfz19_0 := z9f BK367.out 0; have hfz19_1 := z9f BK367.out 1; have hfz19_2 := z9f BK367.out 2; have hfz19_3 := z9f BK367.out 3; have hfz19_4 := z9f BK367.out 4; obtain ⟨Ao20, co20, eo20⟩ := Kd.R_slice HO363.out; subst eo20))
    (try simp only [Act.put, pa9_1, pa9_2, pa9_3])
    go_cut [] (fun wc => ∃ (kq : Nat), Aside0 (laws_FnLists.j1 kq t349 t352 t353 t354 t355 t356 t357 t360 t361 t364 t365 t366 = some r) ∧ Aside0 (kq ≤ kj2) ∧ Aside0 (Kd.R k70 70 wc w.heap.size (fun k_ => some k_ ≠ ((.slice Ao20 t361.length co20) : Value).ownBlock) (.slice Ao14 t349.length co14) t349) ∧ Aside0 (Kd.R k70 70 wc w.heap.size (fun k_ => some k_ ≠ ((.slice Ao14 t349.length co14) : Value).ownBlock) (.slice Ao20 t361.length co20) t361) ∧ Aside0 (wc.heap[gb358]? = some (.cells #[.int .i64 t352, .int .i64 t353, .string t354] 28 (0, 0))) ∧ Aside0 (wc.heap[gb359]? = some (.cells #[.int .i64 t355, .int .i64 t356, .string t357] 28 (0, 0))) ∧ Aside0 (wc.heap[gb367]? = some (.cells #[.int .i64 t360, (.slice Ao20 t361.length co20), .int .i64 t364, .int .i64 t365, .string t366] 30 (0, 0))) ∧ Aside0 (Below w.heap.size w wc))
    case first =>
     have H := HC7.out; clear HC7; by_cases c21 : t360 = 0
     ·rw [if_pos c21] at H
      have c21b0 : (t360 == 0) = true := beq_iff_eq.mpr c21; have c21b1 : (t360 != 0) = false := bne_eq_false_iff_eq.mpr c21; clear c21
      (first | rw [c21b0] | (simp only [i64_w, i32_w]; rw [c21b0]) | skip)
      have H' := ak H; clear H; go_wp2; go_meet
      case rel => exact ⟨_, H', ⟨by have := HJ2.out; first | omega | exact Nat.le_refl _⟩, ⟨by (with_reducible repeat (first | apply Kd.R_alloc | apply Kd.R_drewN | apply Kd.R_drew)); exact Kd.R_mono (Kd.R_far (p := ⟨gb367, 4, none⟩) (Kd.R_far (p := ⟨gb367, 3, none⟩) (Kd.R_far (p := ⟨gb367, 2, none⟩) (Kd.R_far (p := ⟨gb367, 1, none⟩) (Kd.R_far (p := ⟨gb367, 0, none⟩) (Kd.R_types HO351.out BK367.out (by decide)) (fun _ hk => hk.2) (.int .i64 t360)) (fun _ hk => hk.2) (.slice Ao20 t361.length co20)) (fun _ hk => hk.2) (.int .i64 t364)) (fun _ hk => hk.2) (.int .i64 t365)) (fun _ hk => hk.2) (.string t366)) (fun _ hk => hk.1.2)⟩, ⟨by (with_reducible repeat (first | apply Kd.R_alloc | apply Kd.R_drewN | apply Kd.R_drew)); exact Kd.R_mono (Kd.R_far (p := ⟨gb367, 4, none⟩) (Kd.R_far (p := ⟨gb367, 3, none⟩) (Kd.R_far (p := ⟨gb367, 2, none⟩) (Kd.R_far (p := ⟨gb367, 1, none⟩) (Kd.R_far (p := ⟨gb367, 0, none⟩) (Kd.R_types HO363.out BK367.out (by decide)) (fun _ hk => hk.2) (.int .i64 t360)) (fun _ hk => hk.2) (.slice Ao20 t361.length co20)) (fun _ hk => hk.2) (.int .i64 t364)) (fun _ hk => hk.2) (.int .i64 t365)) (fun _ hk => hk.2) (.string t366)) (fun _ hk => hk.1.2)⟩, ⟨c9_10⟩, ⟨c9_11⟩, ⟨by (with_reducible repeat first | apply b9N | apply b9D | apply b9L); refine blk_put (cs := #[.int .i64 t360, .slice Ao20 t361.length co20, .int .i64 t364, .int .i64 t365, .string (⟨#[]⟩ : ByteArray)]) ?_ 4 _ rfl; (with_reducible repeat first | apply b9N | apply b9D | apply b9L); refine blk_put (cs := #[.int .i64 t360, .slice Ao20 t361.length co20, .int .i64 t364, .int .i64 0, .string (⟨#[]⟩ : ByteArray)]) ?_ 3 _ rfl; (with_reducible repeat first | apply b9N | apply b9D | apply b9L); refine blk_put (cs := #[.int .i64 t360, .slice Ao20 t361.length co20, .int .i64 0, .int .i64 0, .string (⟨#[]⟩ : ByteArray)]) ?_ 2 _ rfl; (with_reducible repeat first | apply b9N | apply b9D | apply b9L); refine blk_put (cs := #[.int .i64 t360, .slice none 0 0, .int .i64 0, .int .i64 0, .string (⟨#[]⟩ : ByteArray)]) ?_ 1 _ rfl; (with_reducible repeat first | apply b9N | apply b9D | apply b9L); refine blk_put (cs := #[.int .i64 0, .slice none 0 0, .int .i64 0, .int .i64 0, .string (⟨#[]⟩ : ByteArray)]) ?_ 0 _ rfl; (with_reducible repeat first | apply b9N | apply b9D | apply b9L); exact BK367.out⟩, ⟨c9_16⟩⟩
     ·rw [if_neg c21] at H
      have c21b0 : (t360 == 0) = false := beq_eq_false_iff_ne.mpr c21; have c21b1 : (t360 != 0) = true := bne_iff_ne.mpr c21
      (first | rw [c21b0] | (simp only [i64_w, i32_w]; rw [c21b0]) | skip)
      replace H := Option.bind_eq_some_iff.mp H; obtain ⟨⟨t368, t369, t372, t373, t374⟩, A220, H⟩ := H; (try dsimp -simprocs only at H); have A22 := ak A220; clear A220; obtain rfl := Option.some.inj H
      try go_wp2
      have n0_ : Aside0 (Kd.R k70 70 (((((w16.setCell ⟨gb367, 0, none⟩ (.int .i64 t360)).setCell ⟨gb367, 1, none⟩ (.slice Ao20 t361.length co20)).setCell ⟨gb367, 2, none⟩ (.int .i64 t364)).setCell ⟨gb367, 3, none⟩ (.int .i64 t365)).setCell ⟨gb367, 4, none⟩ (.string t366)) w.heap.size (fun k_ => some k_ ≠ (.slice Ao20 t361.length co20 : Value).ownBlock) (.slice Ao14 t349.length co14) t349) := ⟨by (with_reducible repeat (first | apply Kd.R_alloc | apply Kd.R_drewN | apply Kd.R_drew)); exact Kd.R_mono (Kd.R_far (p := ⟨gb367, 4, none⟩) (Kd.R_far (p := ⟨gb367, 3, none⟩) (Kd.R_far (p := ⟨gb367, 2, none⟩) (Kd.R_far (p := ⟨gb367, 1, none⟩) (Kd.R_far (p := ⟨gb367, 0, none⟩) (Kd.R_types HO351.out BK367.out (by decide)) (fun _ hk => hk.2) (.int .i64 t360)) (fun _ hk => hk.2) (.slice Ao20 t361.length co20)) (fun _ hk => hk.2) (.int .i64 t364)) (fun _ hk => hk.2) (.int .i64 t365)) (fun _ hk => hk.2) (.string t366)) (fun _ hk => hk.1.2)⟩
      have n1_ : Aside0 (Kd.R k70 70 (((((w16.setCell ⟨gb367, 0, none⟩ (.int .i64 t360)).setCell ⟨gb367, 1, none⟩ (.slice Ao20 t361.length co20)).setCell ⟨gb367, 2, none⟩ (.int .i64 t364)).setCell ⟨gb367, 3, none⟩ (.int .i64 t365)).setCell ⟨gb367, 4, none⟩ (.string t366)) w.heap.size (fun k_ => some k_ ≠ (.slice Ao14 t349.length co14 : Value).ownBlock) (.slice Ao20 t361.length co20) t361) := ⟨by (with_reducible repeat (first | apply Kd.R_alloc | apply Kd.R_drewN | apply Kd.R_drew)); exact Kd.R_mono (Kd.R_far (p := ⟨gb367, 4, none⟩) (Kd.R_far (p := ⟨gb367, 3, none⟩) (Kd.R_far (p := ⟨gb367, 2, none⟩) (Kd.R_far (p := ⟨gb367, 1, none⟩) (Kd.R_far (p := ⟨gb367, 0, none⟩) (Kd.R_types HO363.out BK367.out (by decide)) (fun _ hk => hk.2) (.int .i64 t360)) (fun _ hk => hk.2) (.slice Ao20 t361.length co20)) (fun _ hk => hk.2) (.int .i64 t364)) (fun _ hk => hk.2) (.int .i64 t365)) (fun _ hk => hk.2) (.string t366)) (fun _ hk => hk.1.2)⟩
      have n2_ : Aside0 ((((((w16.setCell ⟨gb367, 0, none⟩ (.int .i64 t360)).setCell ⟨gb367, 1, none⟩ (.slice Ao20 t361.length co20)).setCell ⟨gb367, 2, none⟩ (.int .i64 t364)).setCell ⟨gb367, 3, none⟩ (.int .i64 t365)).setCell ⟨gb367, 4, none⟩ (.string t366)).heap[gb358]? = some (.cells #[.int .i64 t352, .int .i64 t353, .string t354] 28 (0, 0))) := ⟨c9_10⟩
      have n3_ : Aside0 ((((((w16.setCell ⟨gb367, 0, none⟩ (.int .i64 t360)).setCell ⟨gb367, 1, none⟩ (.slice Ao20 t361.length co20)).setCell ⟨gb367, 2, none⟩ (.int .i64 t364)).setCell ⟨gb367, 3, none⟩ (.int .i64 t365)).setCell ⟨gb367, 4, none⟩ (.string t366)).heap[gb359]? = some (.cells #[.int .i64 t355, .int .i64 t356, .string t357] 28 (0, 0))) := ⟨c9_11⟩
      have n4_ : Aside0 ((((((w16.setCell ⟨gb367, 0, none⟩ (.int .i64 t360)).setCell ⟨gb367, 1, none⟩ (.slice Ao20 t361.length co20)).setCell ⟨gb367, 2, none⟩ (.int .i64 t364)).setCell ⟨gb367, 3, none⟩ (.int .i64 t365)).setCell ⟨gb367, 4, none⟩ (.string t366)).heap[gb367]? = some (.cells #[.int .i64 t360, .slice Ao20 t361.length co20, .int .i64 t364, .int .i64 t365, .string t366] 30 (0, 0))) := ⟨by (with_reducible repeat first | apply b9N | apply b9D | apply b9L); refine blk_put (cs := #[.int .i64 t360, .slice Ao20 t361.length co20, .int .i64 t364, .int .i64 t365, .string (⟨#[]⟩ : ByteArray)]) ?_ 4 _ rfl; (with_reducible repeat first | apply b9N | apply b9D | apply b9L); refine blk_put (cs := #[.int .i64 t360, .slice Ao20 t361.length co20, .int .i64 t364, .int .i64 0, .string (⟨#[]⟩ : ByteArray)]) ?_ 3 _ rfl; (with_reducible repeat first | apply b9N | apply b9D | apply b9L); refine blk_put (cs := #[.int .i64 t360, .slice Ao20 t361.length co20, .int .i64 0, .int .i64 0, .string (⟨#[]⟩ : ByteArray)]) ?_ 2 _ rfl; (with_reducible repeat first | apply b9N | apply b9D | apply b9L); refine blk_put (cs := #[.int .i64 t360, .slice none 0 0, .int .i64 0, .int .i64 0, .string (⟨#[]⟩ : ByteArray)]) ?_ 1 _ rfl; (with_reducible repeat first | apply b9N | apply b9D | apply b9L); refine blk_put (cs := #[.int .i64 0, .slice none 0 0, .int .i64 0, .int .i64 0, .string (⟨#[]⟩ : ByteArray)]) ?_ 0 _ rfl; (with_reducible repeat first | apply b9N | apply b9D | apply b9L); exact BK367.out⟩
      have n5_ : Aside0 (Below w.heap.size w (((((w16.setCell ⟨gb367, 0, none⟩ (.int .i64 t360)).setCell ⟨gb367, 1, none⟩ (.slice Ao20 t361.length co20)).setCell ⟨gb367, 2, none⟩ (.int .i64 t364)).setCell ⟨gb367, 3, none⟩ (.int .i64 t365)).setCell ⟨gb367, 4, none⟩ (.string t366))) := ⟨c9_16⟩
      (try clear HO351)
      (try clear HO363)
      (try clear BK358)
      (try clear BK359)
      (try clear BK367)
      (try clear HB)
      generalize (((((w16.setCell ⟨gb367, 0, none⟩ (.int .i64 t360)).setCell ⟨gb367, 1, none⟩ (.slice Ao20 t361.length co20)).setCell ⟨gb367, 2, none⟩ (.int .i64 t364)).setCell ⟨gb367, 3, none⟩ (.int .i64 t365)).setCell ⟨gb367, 4, none⟩ (.string t366)) = w23 at n0_ n1_ n2_ n3_ n4_ n5_ ⊢; have HO351 := n0_; have HO363 := n1_; have BK358 := n2_; have BK359 := n3_; have BK367 := n4_; have HB := n5_; clear n0_ n1_ n2_ n3_ n4_ n5_; have n0_ := ak (Kd.R_drew HO351.out); have n1_ := ak (Kd.R_drew HO363.out); have n2_ := ak (blk_drew BK358.out); have n3_ := ak (blk_drew BK359.out); have n4_ := ak (blk_drew BK367.out); have n5_ := ak (below_drew1 HB.out); clear HO351; clear HO363; clear BK358; clear BK359; clear BK367; clear HB; have HO351 := n0_; have HO363 := n1_; have BK358 := n2_; have BK359 := n3_; have BK367 := n4_; have HB := n5_; clear n0_ n1_ n2_ n3_ n4_ n5_
      refine start_ (n := 9) (S := fun w' => w'.cell? ⟨gb358, 0, none⟩ = some (.int .i64 t352) ∧ w'.cell? ⟨gb358, 1, none⟩ = some (.int .i64 t353) ∧ w'.cell? ⟨gb358, 2, none⟩ = some (.string t354) ∧ w'.cell? ⟨gb359, 0, none⟩ = some (.int .i64 t355) ∧ w'.cell? ⟨gb359, 1, none⟩ = some (.int .i64 t356) ∧ w'.cell? ⟨gb359, 2, none⟩ = some (.string t357) ∧ w'.cell? ⟨gb367, 0, none⟩ = some (.int .i64 t360) ∧ w'.cell? ⟨gb367, 1, none⟩ = some (.slice Ao20 t361.length co20) ∧ w'.cell? ⟨gb367, 2, none⟩ = some (.int .i64 t364) ∧ w'.cell? ⟨gb367, 3, none⟩ = some (.int .i64 t365) ∧ w'.cell? ⟨gb367, 4, none⟩ = some (.string t366)) (ds := []) #[false, false, false, false, false, false, false, false, false] (by kernel_rfl) rfl rfl (hb9_3_3_5 BK358.out BK359.out BK367.out) (fun hHeld => ?_); refine with_tabW laws_FnLists.tab6 laws_FnLists.bits6 (fun HT_ HW_ => ?_); generalize w23.drew = w24 at HO351 HO363 BK358 BK359 BK367 HB hHeld ⊢; refine pure_ (i := 0) (N := some 25) (v := ?_) (a' := ?_) #[true, false, false, false, false, false, false, false, false] rfl rfl (any_of HT_.out (by kernel_rfl)) (fun _ _ _ h => h) (Or.inl ⟨by rfl, ?_⟩) ?_ ?_; rotate_left
      · intro w'
        go_simp; (with_reducible rfl)
      rotate_left
      · simp only [Act.put, pa9_1, pa9_2, pa9_3, i64_w, i32_w]
        rfl
      refine pure_ (i := 5) (N := some 30) (v := ?_) (a' := ?_) #[true, false, false, false, false, true, false, false, false] rfl rfl (any_of HT_.out (by kernel_rfl)) (fun _ _ _ h => h) (Or.inl ⟨by rfl, ?_⟩) ?_ ?_; rotate_left
      · intro w'
        go_simp; (with_reducible rfl)
      rotate_left
      · simp only [Act.put, pa9_1, pa9_2, pa9_3, i64_w, i32_w]
        rfl
      refine take_ (i := 1) (N := some 26) (v := ?_) (a' := ?_) #[true, true, false, false, false, true, false, false, false] rfl rfl (take_ofW HT_.out HW_.out (by kernel_rfl)) (fun _ _ _ h => h) (Or.inl ⟨by rfl, ?_⟩) hHeld ?_ ?_; rotate_left
      · rintro w' ⟨s0, s1, s2, s3, s4, s5, s6, s7, s8, s9, s10⟩
        go_simp; (with_reducible rfl)
      rotate_left
      · simp only [Act.put, pa9_1, pa9_2, pa9_3, i64_w, i32_w]
        rfl
      refine take_ (i := 2) (N := some 27) (v := ?_) (a' := ?_) #[true, true, true, false, false, true, false, false, false] rfl rfl (take_ofW HT_.out HW_.out (by kernel_rfl)) (fun _ _ _ h => h) (Or.inl ⟨by rfl, ?_⟩) hHeld ?_ ?_; rotate_left
      · rintro w' ⟨s0, s1, s2, s3, s4, s5, s6, s7, s8, s9, s10⟩
        go_simp; (with_reducible rfl)
      rotate_left
      · simp only [Act.put, pa9_1, pa9_2, pa9_3, i64_w, i32_w]
        rfl
      refine take_ (i := 6) (N := some 31) (v := ?_) (a' := ?_) #[true, true, true, false, false, true, true, false, false] rfl rfl (take_ofW HT_.out HW_.out (by kernel_rfl)) (fun _ _ _ h => h) (Or.inl ⟨by rfl, ?_⟩) hHeld ?_ ?_; rotate_left
      · rintro w' ⟨s0, s1, s2, s3, s4, s5, s6, s7, s8, s9, s10⟩
        go_simp; (with_reducible rfl)
      rotate_left
      · simp only [Act.put, pa9_1, pa9_2, pa9_3, i64_w, i32_w]
        rfl
      refine one_ (i := 3) (N := some 28) #[true, true, true, true, false, true, true, false, false] rfl rfl (one_of HT_.out (by kernel_rfl)) (by decide) (fun K hK => ?_); refine goes_ Tryd.func12 (by kernel_rfl) rfl #[.slice Ao14 t349.length co14, .agg #[.int .i64 t352, .int .i64 t353, .string t354], .agg #[.int .i64 t355, .int .i64 t356, .string t357]] (by rfl) rfl rfl d9_5 ?_; (with_reducible refine (spec_ConsTo.calls kj2 _ _ t349 t352 t353 t354 t355 t356 t357 t368 t369 t372 t373 t374 _ ?side1 ?side2 A22.out).mono ?_)
      (case side1 => repeat (first | exact (Kd.R_reads' HO351.out).2.2 | (with_reducible refine Kd.C_alloc ?_ _) | (with_reducible refine Kd.C_drewN ?_ _) | (with_reducible refine Kd.C_drew ?_)))
      (case side2 => exact (Kd.R_reads' HO351.out).2.1)
      rintro e w25 ⟨v370, rfl, ho0, hb⟩; refine ⟨_, rfl, ?_⟩; have n0_ := ak (Kd.R_elder' d9_19 (Kd.R_base ho0) hb); have n1_ := ak (Kd.R_elder' (by (with_reducible repeat (first | apply Kd.R_alloc | apply Kd.R_drewN | apply Kd.R_drew)); exact HO363.out) (Kd.R_base ho0) hb); have n2_ := ak (Kd.R_lower (Kd.R_new' (Kd.R_new' ho0 (Kd.R_lt d9_19)) (Kd.R_lt (by (with_reducible repeat (first | apply Kd.R_alloc | apply Kd.R_drewN | apply Kd.R_drew)); exact HO363.out))) (below_size d9_6)); have n3_ := ak (blk_below (g := gb358) (o := .cells #[.int .i64 t352, .int .i64 t353, .string t354] 28 (0, 0)) d9_1 hb); have n4_ := ak (blk_below (g := gb359) (o := .cells #[.int .i64 t355, .int .i64 t356, .string t357] 28 (0, 0)) d9_2 hb); have n5_ := ak (blk_below (g := gb367) (o := .cells #[.int .i64 t360, .slice Ao20 t361.length co20, .int .i64 t364, .int .i64 t365, .string t366] 30 (0, 0)) d9_4 hb); have n6_ := ak (below_step d9_6 hb); clear HO351; clear HO363; clear BK358; clear BK359; clear BK367; clear HB; have HO351 := n0_; have HO363 := n1_; have HO371 := n2_; have BK358 := n3_; have BK359 := n4_; have BK367 := n5_; have HB := n6_; clear n0_ n1_ n2_ n3_ n4_ n5_ n6_
      (try clear hb)
      (try clear hb2)
      (try clear hk)
      (try clear hi)
      (try clear ho0)
      refine hK.out _ _ (hb9_3_3_5 BK358.out BK359.out BK367.out) (fun hHeld => ?_); clear hK K; refine norm_ (a' := ?_) ?_ ?_; rotate_left
      · show Act.put _ (some 28) _ = _
        simp only [Act.put, pa9_1, pa9_2, pa9_3, i64_w, i32_w]; rfl
      refine pure_ (i := 4) (N := some 29) (v := ?_) (a' := ?_) #[true, true, true, true, true, true, true, false, false] rfl rfl (any_of HT_.out (by kernel_rfl)) (fun _ _ _ h => h) (Or.inl ⟨by rfl, ?_⟩) ?_ ?_; rotate_left
      · intro w'
        go_simp; (with_reducible rfl)
      rotate_left
      · simp only [Act.put, pa9_1, pa9_2, pa9_3, i64_w, i32_w]
        rfl
      refine pure_ (i := 7) (N := some 32) (v := ?_) (a' := ?_) #[true, true, true, true, true, true, true, true, false] rfl rfl (any_of HT_.out (by kernel_rfl)) (fun _ _ _ h => h) (Or.inl ⟨by rfl, ?_⟩) ?_ ?_; rotate_left
      · intro w'
        go_simp; (with_reducible rfl)
      rotate_left
      · simp only [Act.put, pa9_1, pa9_2, pa9_3, i64_w, i32_w]
        rfl
      refine pure_ (i := 8) (N := some 2) (v := ?_) (a' := ?_) #[true, true, true, true, true, true, true, true, true] rfl rfl (any_of HT_.out (by kernel_rfl)) (fun _ _ _ h => h) (Or.inl ⟨by rfl, ?_⟩) ?_ ?_; rotate_left
      · intro w'
        go_simp; (with_reducible rfl)
      rotate_left
      · simp only [Act.put, pa9_1, pa9_2, pa9_3, i64_w, i32_w]
        rfl
      refine done_ (done_of HT_.out (by kernel_rfl)) ?_
      try go_wp2
      go_ret; exact ⟨by first | rfl | (simp [errW_none, errW_some] <;> rfl) | (simp [*, errW_none, errW_some] <;> rfl), c9_16⟩
    case rest =>
     clear HC7
     (try clear c1); (try clear c2); (try clear p2); (try clear c4); (try clear c11); (try clear c15); (try clear c17); (try clear c18); (try clear c21); (try clear c22); (try clear hcz12_0); (try clear hcz12_1); (try clear hcz12_2); (try clear hcz13_0); (try clear hcz13_1); (try clear hcz13_2); (try clear hcz19_0); (try clear hcz19_1); (try clear hcz19_2); (try clear hcz19_3); (try clear hcz19_4); (try clear hfz12_0); (try clear hfz12_1); (try clear hfz12_2); (try clear hfz13_0); (try clear hfz13_1); (try clear hfz13_2); (try clear hfz19_0); (try clear hfz19_1); (try clear hfz19_2); (try clear hfz19_3); (try clear hfz19_4)
     obtain ⟨kq, HA, HJ6, HO_3, HO_368001, BK358, BK359, BK367, HB⟩ := hcut
     cases kq with
     | zero => exact absurd HA.out (by simp [laws_FnLists.j1])
     | succ kj6 =>
      have H := HA.out; clear HA; simp only [laws_FnLists.j1] at H; replace H := Option.bind_eq_some_iff.mp H; obtain ⟨⟨t375, t376, t379, t380, t381⟩, A260, H⟩ := H; (try dsimp -simprocs only at H); have A26 := ak A260; clear A260; replace H := Option.bind_eq_some_iff.mp H; obtain ⟨⟨t383, t384, t387, t388, t389⟩, A270, H⟩ := H; (try dsimp -simprocs only at H); have A27 := ak A270; clear A270; have HC28 := ak H; clear H; have hnb29 := NB367_358.out; have hnc29 := NB358_367.out; have hnb30 := NB367_359.out; have hnc30 := NB359_367.out; have hcz31_0 := z9c BK367.out 0 (v := (.int .i64 t360)) rfl; have hcz31_1 := z9c BK367.out 1 (v := (.slice Ao20 t361.length co20)) rfl
      have hcz31_2 := z9c BK367.out 2 (v := (.int .i64 t364)) rfl; have hcz31_3 := z9c BK367.out 3 (v := (.int .i64 t365)) rfl; have hcz31_4 := z9c BK367.out 4 (v := (.string t366)) rfl; have hfz31_0 := z9f BK367.out 0; have hfz31_1 := z9f BK367.out 1; have hfz31_2 := z9f BK367.out 2; have hfz31_3 := z9f BK367.out 3; have hfz31_4 := z9f BK367.out 4
      go_upto_region 9 with (first | ((with_reducible refine gate_callee (f := 23) rfl ?_); refine goesL_ (some 37) rfl rfl Tryd.func23 (by kernel_rfl) rfl #[.slice Ao20 t361.length co20, .agg #[.int .i64 t364, .int .i64 t365, .string t366]] rfl d9_5 ?_; (with_reducible refine (impl_ListFrom.calls kj6 _ _ t361 t364 t365 t366 t375 t376 t379 t380 t381 _ ?side1 ?side2 A26.out).mono ?_); (case side1 => repeat (first | exact (Kd.R_reads' HO_368001.out).2.2 | (with_reducible refine Kd.C_alloc ?_ _) | (with_reducible refine Kd.C_drewN ?_ _) | (with_reducible refine Kd.C_drew ?_))); (case side2 => exact (Kd.R_reads' HO_368001.out).2.1); rintro e w32 ⟨v377, rfl, ho0, hb⟩; refine ⟨_, rfl, ?_⟩; have n0_ := ak (Kd.R_below (by (with_reducible repeat (first | apply Kd.R_alloc | apply Kd.R_drewN | apply Kd.R_drew)); exact HO_3.out) hb); have n1_ := ak (Kd.R_below d9_8 hb); have n2_ := ak (Kd.R_lower (Kd.R_newB (Kd.R_newB ho0 (g := gb358) (o := .cells #[.int .i64 t352, .int .i64 t353, .string t354] 28 (0, 0)) d9_1) (g := gb359) (o := .cells #[.int .i64 t355, .int .i64 t356, .string t357] 28 (0, 0)) d9_2) (below_size d9_6)); have n3_ := ak (blk_below (g := gb358) (o := .cells #[.int .i64 t352, .int .i64 t353, .string t354] 28 (0, 0)) d9_1 hb); have n4_ := ak (blk_below (g := gb359) (o := .cells #[.int .i64 t355, .int .i64 t356, .string t357] 28 (0, 0)) d9_2 hb); have n5_ := ak (blk_below (g := gb367) (o := .cells #[.int .i64 t360, .slice Ao20 t361.length co20, .int .i64 t364, .int .i64 t365, .string t366] 30 (0, 0)) d9_4 hb); have n6_ := ak (below_step d9_6 hb); clear HO_3 HO_368001 BK358 BK359 BK367 HB; have HO_3 := n0_; have HO_368001 := n1_; have HO378 := n2_; have BK358 := n3_; have BK359 := n4_; have BK367 := n5_; have HB := n6_; clear n0_ n1_ n2_ n3_ n4_ n5_ n6_; (try clear hb); (try clear hk); (try clear ho0)) | ((with_reducible refine gate_dst (N := 7) rfl ?_); refine box_event ?hg (N := 7) ?hd (cs := #[.int .i64 0, .slice none 0 0, .int .i64 0, .int .i64 0, .string (⟨#[]⟩ : ByteArray)]) (t := 45) ?hr ?_; (case hd => rfl); (case hg => rfl); (case hr => first | (go_simp; done) | (go_simp; rfl)); intro gb382 hg w33 hbox hb; have n0_ := ak (Kd.R_below (by (with_reducible repeat (first | apply Kd.R_alloc | apply Kd.R_drewN | apply Kd.R_drew)); exact HO_3.out) hb); have n1_ := ak (Kd.R_below d9_8 hb); have n2_ := ak (Kd.R_below (by (with_reducible repeat (first | apply Kd.R_alloc | apply Kd.R_drewN | apply Kd.R_drew)); exact HO378.out) hb); have n3_ := ak (blk_below (g := gb358) (o := .cells #[.int .i64 t352, .int .i64 t353, .string t354] 28 (0, 0)) d9_1 hb); have n4_ := ak (blk_below (g := gb359) (o := .cells #[.int .i64 t355, .int .i64 t356, .string t357] 28 (0, 0)) d9_2 hb); have n5_ := ak (blk_below (g := gb367) (o := .cells #[.int .i64 t360, .slice Ao20 t361.length co20, .int .i64 t364, .int .i64 t365, .string t366] 30 (0, 0)) d9_4 hb); have n6_ := ak (below_step d9_6 hb); have n7_ := ak (hbox); have n8_ := ak ((by rw [hg]; exact (below_size d9_6) : w.heap.size ≤ gb382)); have n9_ := ak ((by rw [hg]; exact (below_size d9_6) : w.heap.size ≤ gb382)); have n10_ := ak ((by rw [hg]; exact Nat.ne_of_lt (blk_lt (g := gb358) (o := .cells #[.int .i64 t352, .int .i64 t353, .string t354] 28 (0, 0)) d9_1) : gb358 ≠ gb382)); have n11_ := ak ((by rw [hg]; exact Nat.ne_of_gt (blk_lt (g := gb358) (o := .cells #[.int .i64 t352, .int .i64 t353, .string t354] 28 (0, 0)) d9_1) : gb382 ≠ gb358)); have n12_ := ak ((by rw [hg]; exact Nat.ne_of_lt (blk_lt (g := gb359) (o := .cells #[.int .i64 t355, .int .i64 t356, .string t357] 28 (0, 0)) d9_2) : gb359 ≠ gb382)); have n13_ := ak ((by rw [hg]; exact Nat.ne_of_gt (blk_lt (g := gb359) (o := .cells #[.int .i64 t355, .int .i64 t356, .string t357] 28 (0, 0)) d9_2) : gb382 ≠ gb359)); have n14_ := ak ((by rw [hg]; exact Nat.ne_of_lt (blk_lt (g := gb367) (o := .cells #[.int .i64 t360, .slice Ao20 t361.length co20, .int .i64 t364, .int .i64 t365, .string t366] 30 (0, 0)) d9_4) : gb367 ≠ gb382)); have n15_ := ak ((by rw [hg]; exact Nat.ne_of_gt (blk_lt (g := gb367) (o := .cells #[.int .i64 t360, .slice Ao20 t361.length co20, .int .i64 t364, .int .i64 t365, .string t366] 30 (0, 0)) d9_4) : gb382 ≠ gb367)); clear HO_3 HO_368001 HO378 BK358 BK359 BK367 HB; have HO_3 := n0_; have HO_368001 := n1_; have HO378 := n2_; have BK358 := n3_; have BK359 := n4_; have BK367 := n5_; have HB := n6_; have BK382 := n7_; have GW382 := n8_; have GE382 := n9_; have NB358_382 := n10_; have NB382_358 := n11_; have NB359_382 := n12_; have NB382_359 := n13_; have NB367_382 := n14_; have NB382_367 := n15_; clear n0_ n1_ n2_ n3_ n4_ n5_ n6_ n7_ n8_ n9_ n10_ n11_ n12_ n13_ n14_ n15_ hb hbox hg; have hnb34 := NB382_358.out; have hnc34 := NB358_382.out; have hnb35 := NB382_359.out; have hnc35 := NB359_382.out; have hnb36 := NB382_367.out; have hnc36 := NB367_382.out; have hcz37_0 := z9c BK382.out 0 (v := (.int .i64 0)) rfl; have hcz37_1 := z9c BK382.out 1 (v := (.slice none 0 0)) rfl; have hcz37_2 := z9c BK382.out 2 (v := (.int .i64 0)) rfl; have hcz37_3 := z9c BK382.out 3 (v := (.int .i64 0)) rfl; have hcz37_4 := z9c BK382.out 4 (v := (.string (⟨#[]⟩ : ByteArray))) rfl; have hfz37_0 := z9f BK382.out 0; have hfz37_1 := z9f BK382.out 1; have hfz37_2 := z9f BK382.out 2; have hfz37_3 := z9f BK382.out 3; have hfz37_4 := z9f BK382.out 4; obtain ⟨Ao38, co38, eo38⟩ := Kd.R_slice HO378.out; subst eo38; have hnb39 := NB359_358.out; have hnc39 := NB358_359.out; have hcz40_0 := z9c BK359.out 0 (v := (.int .i64 t355)) rfl; have hcz40_1 := z9c BK359.out 1 (v := (.int .i64 t356)) rfl; have hcz40_2 := z9c BK359.out 2 (v := (.string t357)) rfl; have hfz40_0 := z9f BK359.out 0; have hfz40_1 := z9f BK359.out 1; have hfz40_2 := z9f BK359.out 2) | ((with_reducible refine gate_callee (f := 23) rfl ?_); refine goesL_ (some 40) rfl rfl Tryd.func23 (by kernel_rfl) rfl #[.slice Ao14 t349.length co14, .agg #[.int .i64 t355, .int .i64 t356, .string t357]] rfl d9_5 ?_; (with_reducible refine (impl_ListFrom.calls kj6 _ _ t349 t355 t356 t357 t383 t384 t387 t388 t389 _ ?side1 ?side2 A27.out).mono ?_); (case side1 => refine (Kd.R_reads' (e := 70) (base := w.heap.size) (ok := fun k_ => some k_ ≠ (.slice Ao20 t361.length co20 : Value).ownBlock) (n := t349.length) (c := co14) ?_).2.2; exact (by (with_reducible repeat (first | apply Kd.R_alloc | apply Kd.R_drewN | apply Kd.R_drew)); exact (Kd.R_mono (Kd.R_far (p := ⟨gb382, 4, none⟩) (Kd.R_far (p := ⟨gb382, 3, none⟩) (Kd.R_far (p := ⟨gb382, 2, none⟩) (Kd.R_far (p := ⟨gb382, 1, none⟩) (Kd.R_far (p := ⟨gb382, 0, none⟩) (Kd.R_types HO_3.out BK382.out (by decide)) (fun _ hk => hk.2) (.int .i64 t375)) (fun _ hk => hk.2) (.slice Ao38 t376.length co38)) (fun _ hk => hk.2) (.int .i64 t379)) (fun _ hk => hk.2) (.int .i64 t380)) (fun _ hk => hk.2) (.string t381)) (fun _ h_ => h_.1)))); (case side2 => exact (Kd.R_reads' HO_3.out).2.1); rintro e w41 ⟨v385, rfl, ho0, hb⟩; refine ⟨_, rfl, ?_⟩; have n0_ := ak (Kd.R_below (by (with_reducible repeat (first | apply Kd.R_alloc | apply Kd.R_drewN | apply Kd.R_drew)); exact (Kd.R_mono (Kd.R_far (p := ⟨gb382, 4, none⟩) (Kd.R_far (p := ⟨gb382, 3, none⟩) (Kd.R_far (p := ⟨gb382, 2, none⟩) (Kd.R_far (p := ⟨gb382, 1, none⟩) (Kd.R_far (p := ⟨gb382, 0, none⟩) (Kd.R_types HO_3.out BK382.out (by decide)) (fun _ hk => hk.2) (.int .i64 t375)) (fun _ hk => hk.2) (.slice Ao38 t376.length co38)) (fun _ hk => hk.2) (.int .i64 t379)) (fun _ hk => hk.2) (.int .i64 t380)) (fun _ hk => hk.2) (.string t381)) (fun _ h_ => h_.1))) hb); have n1_ := ak (Kd.R_below (by (with_reducible repeat (first | apply Kd.R_alloc | apply Kd.R_drewN | apply Kd.R_drew)); exact (Kd.R_mono (Kd.R_far (p := ⟨gb382, 4, none⟩) (Kd.R_far (p := ⟨gb382, 3, none⟩) (Kd.R_far (p := ⟨gb382, 2, none⟩) (Kd.R_far (p := ⟨gb382, 1, none⟩) (Kd.R_far (p := ⟨gb382, 0, none⟩) (Kd.R_types HO_368001.out BK382.out (by decide)) (fun _ hk => hk.2) (.int .i64 t375)) (fun _ hk => hk.2) (.slice Ao38 t376.length co38)) (fun _ hk => hk.2) (.int .i64 t379)) (fun _ hk => hk.2) (.int .i64 t380)) (fun _ hk => hk.2) (.string t381)) (fun _ h_ => h_.1))) hb); have n2_ := ak (Kd.R_elder' (by (with_reducible repeat (first | apply Kd.R_alloc | apply Kd.R_drewN | apply Kd.R_drew)); exact (Kd.R_mono (Kd.R_far (p := ⟨gb382, 4, none⟩) (Kd.R_far (p := ⟨gb382, 3, none⟩) (Kd.R_far (p := ⟨gb382, 2, none⟩) (Kd.R_far (p := ⟨gb382, 1, none⟩) (Kd.R_far (p := ⟨gb382, 0, none⟩) (Kd.R_types HO378.out BK382.out (by decide)) (fun _ hk => hk.2) (.int .i64 t375)) (fun _ hk => hk.2) (.slice Ao38 t376.length co38)) (fun _ hk => hk.2) (.int .i64 t379)) (fun _ hk => hk.2) (.int .i64 t380)) (fun _ hk => hk.2) (.string t381)) (fun _ h_ => h_.1))) (Kd.R_base ho0) hb); have n3_ := ak (Kd.R_lower (Kd.R_newB (Kd.R_newB (Kd.R_new' ho0 (Kd.R_lt (by (with_reducible repeat (first | apply Kd.R_alloc | apply Kd.R_drewN | apply Kd.R_drew)); exact (Kd.R_mono (Kd.R_far (p := ⟨gb382, 4, none⟩) (Kd.R_far (p := ⟨gb382, 3, none⟩) (Kd.R_far (p := ⟨gb382, 2, none⟩) (Kd.R_far (p := ⟨gb382, 1, none⟩) (Kd.R_far (p := ⟨gb382, 0, none⟩) (Kd.R_types HO378.out BK382.out (by decide)) (fun _ hk => hk.2) (.int .i64 t375)) (fun _ hk => hk.2) (.slice Ao38 t376.length co38)) (fun _ hk => hk.2) (.int .i64 t379)) (fun _ hk => hk.2) (.int .i64 t380)) (fun _ hk => hk.2) (.string t381)) (fun _ h_ => h_.1))))) (g := gb358) (o := .cells #[.int .i64 t352, .int .i64 t353, .string t354] 28 (0, 0)) d9_11) (g := gb359) (o := .cells #[.int .i64 t355, .int .i64 t356, .string t357] 28 (0, 0)) d9_12) (below_size d9_9)); have n4_ := ak (blk_below (g := gb358) (o := .cells #[.int .i64 t352, .int .i64 t353, .string t354] 28 (0, 0)) d9_11 hb); have n5_ := ak (blk_below (g := gb359) (o := .cells #[.int .i64 t355, .int .i64 t356, .string t357] 28 (0, 0)) d9_12 hb); have n6_ := ak (blk_below (g := gb367) (o := .cells #[.int .i64 t360, .slice Ao20 t361.length co20, .int .i64 t364, .int .i64 t365, .string t366] 30 (0, 0)) (by (with_reducible repeat first | apply b9N | apply b9D | apply b9L); refine blk_far ?_ NB367_382.out _; (with_reducible repeat first | apply b9N | apply b9D | apply b9L); refine blk_far ?_ NB367_382.out _; (with_reducible repeat first | apply b9N | apply b9D | apply b9L); refine blk_far ?_ NB367_382.out _; (with_reducible repeat first | apply b9N | apply b9D | apply b9L); refine blk_far ?_ NB367_382.out _; (with_reducible repeat first | apply b9N | apply b9D | apply b9L); refine blk_far ?_ NB367_382.out _; (with_reducible repeat first | apply b9N | apply b9D | apply b9L); exact BK367.out) hb); have n7_ := ak (blk_below (g := gb382) (o := .cells #[.int .i64 t375, .slice Ao38 t376.length co38, .int .i64 t379, .int .i64 t380, .string t381] 45 (0, 0)) (by (with_reducible repeat first | apply b9N | apply b9D | apply b9L); refine blk_put (cs := #[.int .i64 t375, .slice Ao38 t376.length co38, .int .i64 t379, .int .i64 t380, .string (⟨#[]⟩ : ByteArray)]) ?_ 4 _ rfl; (with_reducible repeat first | apply b9N | apply b9D | apply b9L); refine blk_put (cs := #[.int .i64 t375, .slice Ao38 t376.length co38, .int .i64 t379, .int .i64 0, .string (⟨#[]⟩ : ByteArray)]) ?_ 3 _ rfl; (with_reducible repeat first | apply b9N | apply b9D | apply b9L); refine blk_put (cs := #[.int .i64 t375, .slice Ao38 t376.length co38, .int .i64 0, .int .i64 0, .string (⟨#[]⟩ : ByteArray)]) ?_ 2 _ rfl; (with_reducible repeat first | apply b9N | apply b9D | apply b9L); refine blk_put (cs := #[.int .i64 t375, .slice none 0 0, .int .i64 0, .int .i64 0, .string (⟨#[]⟩ : ByteArray)]) ?_ 1 _ rfl; (with_reducible repeat first | apply b9N | apply b9D | apply b9L); refine blk_put (cs := #[.int .i64 0, .slice none 0 0, .int .i64 0, .int .i64 0, .string (⟨#[]⟩ : ByteArray)]) ?_ 0 _ rfl; (with_reducible repeat first | apply b9N | apply b9D | apply b9L); exact BK382.out) hb); have n8_ := ak (below_step d9_9 hb); clear HO_3 HO_368001 HO378 BK358 BK359 BK367 BK382 HB; have HO_3 := n0_; have HO_368001 := n1_; have HO378 := n2_; have HO386 := n3_; have BK358 := n4_; have BK359 := n5_; have BK367 := n6_; have BK382 := n7_; have HB := n8_; clear n0_ n1_ n2_ n3_ n4_ n5_ n6_ n7_ n8_; (try clear hb); (try clear hk); (try clear ho0)) | ((with_reducible refine gate_dst (N := 8) rfl ?_); refine box_event ?hg (N := 8) ?hd (cs := #[.int .i64 0, .slice none 0 0, .int .i64 0, .int .i64 0, .string (⟨#[]⟩ : ByteArray)]) (t := 45) ?hr ?_; (case hd => rfl); (case hg => rfl); (case hr => first | (go_simp; done) | (go_simp; rfl)); intro gb390 hg w42 hbox hb; have n0_ := ak (Kd.R_below (by (with_reducible repeat (first | apply Kd.R_alloc | apply Kd.R_drewN | apply Kd.R_drew)); exact HO_3.out) hb); have n1_ := ak (Kd.R_below d9_8 hb); have n2_ := ak (Kd.R_below (by (with_reducible repeat (first | apply Kd.R_alloc | apply Kd.R_drewN | apply Kd.R_drew)); exact HO378.out) hb); have n3_ := ak (Kd.R_below (by (with_reducible repeat (first | apply Kd.R_alloc | apply Kd.R_drewN | apply Kd.R_drew)); exact HO386.out) hb); have n4_ := ak (blk_below (g := gb358) (o := .cells #[.int .i64 t352, .int .i64 t353, .string t354] 28 (0, 0)) d9_1 hb); have n5_ := ak (blk_below (g := gb359) (o := .cells #[.int .i64 t355, .int .i64 t356, .string t357] 28 (0, 0)) d9_2 hb); have n6_ := ak (blk_below (g := gb367) (o := .cells #[.int .i64 t360, .slice Ao20 t361.length co20, .int .i64 t364, .int .i64 t365, .string t366] 30 (0, 0)) d9_4 hb); have n7_ := ak (blk_below (g := gb382) (o := .cells #[.int .i64 t375, .slice Ao38 t376.length co38, .int .i64 t379, .int .i64 t380, .string t381] 45 (0, 0)) d9_7 hb); have n8_ := ak (below_step d9_9 hb); have n9_ := ak (hbox); have n10_ := ak ((by rw [hg]; exact (below_size d9_9) : w.heap.size ≤ gb390)); have n11_ := ak ((by rw [hg]; exact (below_size d9_9) : w.heap.size ≤ gb390)); have n12_ := ak ((by rw [hg]; exact Nat.ne_of_lt (blk_lt (g := gb358) (o := .cells #[.int .i64 t352, .int .i64 t353, .string t354] 28 (0, 0)) d9_1) : gb358 ≠ gb390)); have n13_ := ak ((by rw [hg]; exact Nat.ne_of_gt (blk_lt (g := gb358) (o := .cells #[.int .i64 t352, .int .i64 t353, .string t354] 28 (0, 0)) d9_1) : gb390 ≠ gb358)); have n14_ := ak ((by rw [hg]; exact Nat.ne_of_lt (blk_lt (g := gb359) (o := .cells #[.int .i64 t355, .int .i64 t356, .string t357] 28 (0, 0)) d9_2) : gb359 ≠ gb390)); have n15_ := ak ((by rw [hg]; exact Nat.ne_of_gt (blk_lt (g := gb359) (o := .cells #[.int .i64 t355, .int .i64 t356, .string t357] 28 (0, 0)) d9_2) : gb390 ≠ gb359)); have n16_ := ak ((by rw [hg]; exact Nat.ne_of_lt (blk_lt (g := gb367) (o := .cells #[.int .i64 t360, .slice Ao20 t361.length co20, .int .i64 t364, .int .i64 t365, .string t366] 30 (0, 0)) d9_4) : gb367 ≠ gb390)); have n17_ := ak ((by rw [hg]; exact Nat.ne_of_gt (blk_lt (g := gb367) (o := .cells #[.int .i64 t360, .slice Ao20 t361.length co20, .int .i64 t364, .int .i64 t365, .string t366] 30 (0, 0)) d9_4) : gb390 ≠ gb367)); have n18_ := ak ((by rw [hg]; exact Nat.ne_of_lt (blk_lt (g := gb382) (o := .cells #[.int .i64 t375, .slice Ao38 t376.length co38, .int .i64 t379, .int .i64 t380, .string t381] 45 (0, 0)) d9_7) : gb382 ≠ gb390)); have n19_ := ak ((by rw [hg]; exact Nat.ne_of_gt (blk_lt (g := gb382) (o := .cells #[.int .i64 t375, .slice Ao38 t376.length co38, .int .i64 t379, .int .i64 t380, .string t381] 45 (0, 0)) d9_7) : gb390 ≠ gb382)); clear HO_3 HO_368001 HO378 HO386 BK358 BK359 BK367 BK382 HB; have HO_3 := n0_; have HO_368001 := n1_; have HO378 := n2_; have HO386 := n3_; have BK358 := n4_; have BK359 := n5_; have BK367 := n6_; have BK382 := n7_; have HB := n8_; have BK390 := n9_; have GW390 := n10_; have GE390 := n11_; have NB358_390 := n12_; have NB390_358 := n13_; have NB359_390 := n14_; have NB390_359 := n15_; have NB367_390 := n16_; have NB390_367 := n17_; have NB382_390 := n18_; have NB390_382 := n19_; clear n0_ n1_ n2_ n3_ n4_ n5_ n6_ n7_ n8_ n9_ n10_ n11_ n12_ n13_ n14_ n15_ n16_ n17_ n18_ n19_ hb hbox hg; have hnb43 := NB390_358.out; have hnc43 := NB358_390.out; have hnb44 := NB390_359.out; have hnc44 := NB359_390.out; have hnb45 := NB390_367.out; have hnc45 := NB367_390.out; have hnb46 := NB390_382.out; have hnc46 := NB382_390.out; have hcz47_0 := z9c BK390.out 0 (v := (.int .i64 0)) rfl; have hcz47_1 := z9c BK390.out 1 (v := (.slice none 0 0)) rfl; have hcz47_2 := z9c BK390.out 2 (v := (.int .i64 0)) rfl; have hcz47_3 := z9c BK390.out 3 (v := (.int .i64 0)) rfl; have hcz47_4 := z9c BK390.out 4 (v := (.string (⟨#[]⟩ : ByteArray))) rfl; have hfz47_0 := z9f BK390.out 0; have hfz47_1 := z9f BK390.out 1; have hfz47_2 := z9f BK390.out 2; have hfz47_3 := z9f BK390.out 3; have hfz47_4 := z9f BK390.out 4; obtain ⟨Ao48, co48, eo48⟩ := Kd.R_slice HO386.out; subst eo48))
      (try simp only [Act.put, pa9_1, pa9_2, pa9_3])
      go_cut [48] (fun v48 wc => ∃ (kq : Nat) (x48_27 : Bool), v48 = .bool x48_27 ∧ Aside0 (laws_FnLists.j2 kq x48_27 t352 t353 t354 t360 t361 t364 t365 t366 t375 t376 t379 t380 t381 t383 t384 t387 t388 t389 = some r) ∧ Aside0 (kq ≤ kj6) ∧ Aside0 (Kd.R k70 70 wc w.heap.size (fun _ => True) (.slice Ao20 t361.length co20) t361) ∧ Aside0 (Kd.R k28 28 wc w.heap.size (fun k_ => some k_ ≠ ((.slice Ao48 t384.length co48) : Value).ownBlock ∧ k_ ≠ gb358 ∧ k_ ≠ gb359) (.slice Ao38 t376.length co38) t376) ∧ Aside0 (Kd.R k28 28 wc w.heap.size (fun k_ => some k_ ≠ ((.slice Ao38 t376.length co38) : Value).ownBlock ∧ k_ ≠ gb358 ∧ k_ ≠ gb359) (.slice Ao48 t384.length co48) t384) ∧ Aside0 (wc.heap[gb358]? = some (.cells #[.int .i64 t352, .int .i64 t353, .string t354] 28 (0, 0))) ∧ Aside0 (wc.heap[gb359]? = some (.cells #[.int .i64 t355, .int .i64 t356, .string t357] 28 (0, 0))) ∧ Aside0 (wc.heap[gb367]? = some (.cells #[.int .i64 t360, (.slice Ao20 t361.length co20), .int .i64 t364, .int .i64 t365, .string t366] 30 (0, 0))) ∧ Aside0 (wc.heap[gb382]? = some (.cells #[.int .i64 t375, (.slice Ao38 t376.length co38), .int .i64 t379, .int .i64 t380, .string t381] 45 (0, 0))) ∧ Aside0 (wc.heap[gb390]? = some (.cells #[.int .i64 t383, (.slice Ao48 t384.length co48), .int .i64 t387, .int .i64 t388, .string t389] 45 (0, 0))) ∧ Aside0 (Below w.heap.size w wc))
      case first =>
       have H := HC28.out; clear HC28; by_cases c49 : t375 = 0
       ·rw [if_pos c49] at H
        have c49b0 : (t375 == 0) = true := beq_iff_eq.mpr c49; have c49b1 : (t375 != 0) = false := bne_eq_false_iff_eq.mpr c49; clear c49
        (first | rw [c49b0] | (simp only [i64_w, i32_w]; rw [c49b0]) | skip)
        have H' := ak H; clear H; have hnb50 := NB382_358.out; have hnc50 := NB358_382.out; have hnb51 := NB382_359.out; have hnc51 := NB359_382.out; have hnb52 := NB382_367.out; have hnc52 := NB367_382.out; have hnb53 := NB382_390.out; have hnc53 := NB390_382.out; have hcz54_0 := z9c BK382.out 0 (v := (.int .i64 t375)) rfl; have hcz54_1 := z9c BK382.out 1 (v := (.slice Ao38 t376.length co38)) rfl; have hcz54_2 := z9c BK382.out 2 (v := (.int .i64 t379)) rfl; have hcz54_3 := z9c BK382.out 3 (v := (.int .i64 t380)) rfl; have hcz54_4 := z9c BK382.out 4 (v := (.string t381)) rfl; have hfz54_0 := z9f BK382.out 0; have hfz54_1 := z9f BK382.out 1; have hfz54_2 := z9f BK382.out 2; have hfz54_3 := z9f BK382.out 3; have hfz54_4 := z9f BK382.out 4; have hnb55 := NB390_358.out; have hnc55 := NB358_390.out; have hnb56 := NB390_359.out; have hnc56 := NB359_390.out; have hnb57 := NB390_367.out; have hnc57 := NB367_390.out; have hcz58_0 := z9c BK390.out 0 (v := (.int .i64 0)) rfl; have hcz58_1 := z9c BK390.out 1 (v := (.slice none 0 0)) rfl; have hcz58_2 := z9c BK390.out 2 (v := (.int .i64 0)) rfl
        have hcz58_3 := z9c BK390.out 3 (v := (.int .i64 0)) rfl; have hcz58_4 := z9c BK390.out 4 (v := (.string (⟨#[]⟩ : ByteArray))) rfl; have hfz58_0 := z9f BK390.out 0; have hfz58_1 := z9f BK390.out 1; have hfz58_2 := z9f BK390.out 2; have hfz58_3 := z9f BK390.out 3; have hfz58_4 := z9f BK390.out 4; go_wp2; go_meet
        case rel => exact ⟨_, ((t383 != 0)), d9_16, H', ⟨by have := HJ2.out; have := HJ6.out; first | omega | exact Nat.le_refl _⟩, ⟨by (with_reducible repeat (first | apply Kd.R_alloc | apply Kd.R_drewN | apply Kd.R_drew)); exact Kd.R_mono (Kd.R_far (p := ⟨gb390, 4, none⟩) (Kd.R_far (p := ⟨gb390, 3, none⟩) (Kd.R_far (p := ⟨gb390, 2, none⟩) (Kd.R_far (p := ⟨gb390, 1, none⟩) (Kd.R_far (p := ⟨gb390, 0, none⟩) (Kd.R_types HO_368001.out BK390.out (by decide)) (fun _ hk => hk.2) (.int .i64 t383)) (fun _ hk => hk.2) (.slice Ao48 t384.length co48)) (fun _ hk => hk.2) (.int .i64 t387)) (fun _ hk => hk.2) (.int .i64 t388)) (fun _ hk => hk.2) (.string t389)) (fun _ hk => trivial)⟩, ⟨by (with_reducible repeat (first | apply Kd.R_alloc | apply Kd.R_drewN | apply Kd.R_drew)); exact Kd.R_mono (Kd.R_far (p := ⟨gb390, 4, none⟩) (Kd.R_far (p := ⟨gb390, 3, none⟩) (Kd.R_far (p := ⟨gb390, 2, none⟩) (Kd.R_far (p := ⟨gb390, 1, none⟩) (Kd.R_far (p := ⟨gb390, 0, none⟩) (Kd.R_types HO378.out BK390.out (by decide)) (fun _ hk => hk.2) (.int .i64 t383)) (fun _ hk => hk.2) (.slice Ao48 t384.length co48)) (fun _ hk => hk.2) (.int .i64 t387)) (fun _ hk => hk.2) (.int .i64 t388)) (fun _ hk => hk.2) (.string t389)) (fun _ hk => ⟨hk.1.2, ⟨hk.1.1.1.2, hk.1.1.2⟩⟩)⟩, ⟨by (with_reducible repeat (first | apply Kd.R_alloc | apply Kd.R_drewN | apply Kd.R_drew)); exact Kd.R_mono (Kd.R_far (p := ⟨gb390, 4, none⟩) (Kd.R_far (p := ⟨gb390, 3, none⟩) (Kd.R_far (p := ⟨gb390, 2, none⟩) (Kd.R_far (p := ⟨gb390, 1, none⟩) (Kd.R_far (p := ⟨gb390, 0, none⟩) (Kd.R_types HO386.out BK390.out (by decide)) (fun _ hk => hk.2) (.int .i64 t383)) (fun _ hk => hk.2) (.slice Ao48 t384.length co48)) (fun _ hk => hk.2) (.int .i64 t387)) (fun _ hk => hk.2) (.int .i64 t388)) (fun _ hk => hk.2) (.string t389)) (fun _ hk => ⟨hk.1.1.1.2, ⟨hk.1.1.2, hk.1.2⟩⟩)⟩, ⟨c9_12⟩, ⟨c9_13⟩, ⟨c9_14⟩, ⟨c9_15⟩, ⟨by (with_reducible repeat first | apply b9N | apply b9D | apply b9L); refine blk_put (cs := #[.int .i64 t383, .slice Ao48 t384.length co48, .int .i64 t387, .int .i64 t388, .string (⟨#[]⟩ : ByteArray)]) ?_ 4 _ rfl; (with_reducible repeat first | apply b9N | apply b9D | apply b9L); refine blk_put (cs := #[.int .i64 t383, .slice Ao48 t384.length co48, .int .i64 t387, .int .i64 0, .string (⟨#[]⟩ : ByteArray)]) ?_ 3 _ rfl; (with_reducible repeat first | apply b9N | apply b9D | apply b9L); refine blk_put (cs := #[.int .i64 t383, .slice Ao48 t384.length co48, .int .i64 0, .int .i64 0, .string (⟨#[]⟩ : ByteArray)]) ?_ 2 _ rfl; (with_reducible repeat first | apply b9N | apply b9D | apply b9L); refine blk_put (cs := #[.int .i64 t383, .slice none 0 0, .int .i64 0, .int .i64 0, .string (⟨#[]⟩ : ByteArray)]) ?_ 1 _ rfl; (with_reducible repeat first | apply b9N | apply b9D | apply b9L); refine blk_put (cs := #[.int .i64 0, .slice none 0 0, .int .i64 0, .int .i64 0, .string (⟨#[]⟩ : ByteArray)]) ?_ 0 _ rfl; (with_reducible repeat first | apply b9N | apply b9D | apply b9L); exact BK390.out⟩, ⟨c9_1⟩⟩
       ·rw [if_neg c49] at H
        have c49b0 : (t375 == 0) = false := beq_eq_false_iff_ne.mpr c49; have c49b1 : (t375 != 0) = true := bne_iff_ne.mpr c49
        (first | rw [c49b0] | (simp only [i64_w, i32_w]; rw [c49b0]) | skip)
        have H' := ak H; clear H; have hnb59 := NB382_358.out; have hnc59 := NB358_382.out; have hnb60 := NB382_359.out; have hnc60 := NB359_382.out; have hnb61 := NB382_367.out; have hnc61 := NB367_382.out; have hnb62 := NB382_390.out; have hnc62 := NB390_382.out; have hcz63_0 := z9c BK382.out 0 (v := (.int .i64 t375)) rfl; have hcz63_1 := z9c BK382.out 1 (v := (.slice Ao38 t376.length co38)) rfl; have hcz63_2 := z9c BK382.out 2 (v := (.int .i64 t379)) rfl; have hcz63_3 := z9c BK382.out 3 (v := (.int .i64 t380)) rfl; have hcz63_4 := z9c BK382.out 4 (v := (.string t381)) rfl; have hfz63_0 := z9f BK382.out 0; have hfz63_1 := z9f BK382.out 1; have hfz63_2 := z9f BK382.out 2; have hfz63_3 := z9f BK382.out 3; have hfz63_4 := z9f BK382.out 4; go_wp2; go_meet
        case rel => exact ⟨_, (true), d9_16, H', ⟨by have := HJ2.out; have := HJ6.out; first | omega | exact Nat.le_refl _⟩, ⟨by (with_reducible repeat (first | apply Kd.R_alloc | apply Kd.R_drewN | apply Kd.R_drew)); exact Kd.R_mono (Kd.R_far (p := ⟨gb390, 4, none⟩) (Kd.R_far (p := ⟨gb390, 3, none⟩) (Kd.R_far (p := ⟨gb390, 2, none⟩) (Kd.R_far (p := ⟨gb390, 1, none⟩) (Kd.R_far (p := ⟨gb390, 0, none⟩) (Kd.R_types HO_368001.out BK390.out (by decide)) (fun _ hk => hk.2) (.int .i64 t383)) (fun _ hk => hk.2) (.slice Ao48 t384.length co48)) (fun _ hk => hk.2) (.int .i64 t387)) (fun _ hk => hk.2) (.int .i64 t388)) (fun _ hk => hk.2) (.string t389)) (fun _ hk => trivial)⟩, ⟨by (with_reducible repeat (first | apply Kd.R_alloc | apply Kd.R_drewN | apply Kd.R_drew)); exact Kd.R_mono (Kd.R_far (p := ⟨gb390, 4, none⟩) (Kd.R_far (p := ⟨gb390, 3, none⟩) (Kd.R_far (p := ⟨gb390, 2, none⟩) (Kd.R_far (p := ⟨gb390, 1, none⟩) (Kd.R_far (p := ⟨gb390, 0, none⟩) (Kd.R_types HO378.out BK390.out (by decide)) (fun _ hk => hk.2) (.int .i64 t383)) (fun _ hk => hk.2) (.slice Ao48 t384.length co48)) (fun _ hk => hk.2) (.int .i64 t387)) (fun _ hk => hk.2) (.int .i64 t388)) (fun _ hk => hk.2) (.string t389)) (fun _ hk => ⟨hk.1.2, ⟨hk.1.1.1.2, hk.1.1.2⟩⟩)⟩, ⟨by (with_reducible repeat (first | apply Kd.R_alloc | apply Kd.R_drewN | apply Kd.R_drew)); exact Kd.R_mono (Kd.R_far (p := ⟨gb390, 4, none⟩) (Kd.R_far (p := ⟨gb390, 3, none⟩) (Kd.R_far (p := ⟨gb390, 2, none⟩) (Kd.R_far (p := ⟨gb390, 1, none⟩) (Kd.R_far (p := ⟨gb390, 0, none⟩) (Kd.R_types HO386.out BK390.out (by decide)) (fun _ hk => hk.2) (.int .i64 t383)) (fun _ hk => hk.2) (.slice Ao48 t384.length co48)) (fun _ hk => hk.2) (.int .i64 t387)) (fun _ hk => hk.2) (.int .i64 t388)) (fun _ hk => hk.2) (.string t389)) (fun _ hk => ⟨hk.1.1.1.2, ⟨hk.1.1.2, hk.1.2⟩⟩)⟩, ⟨c9_12⟩, ⟨c9_13⟩, ⟨c9_14⟩, ⟨c9_15⟩, ⟨by (with_reducible repeat first | apply b9N | apply b9D | apply b9L); refine blk_put (cs := #[.int .i64 t383, .slice Ao48 t384.length co48, .int .i64 t387, .int .i64 t388, .string (⟨#[]⟩ : ByteArray)]) ?_ 4 _ rfl; (with_reducible repeat first | apply b9N | apply b9D | apply b9L); refine blk_put (cs := #[.int .i64 t383, .slice Ao48 t384.length co48, .int .i64 t387, .int .i64 0, .string (⟨#[]⟩ : ByteArray)]) ?_ 3 _ rfl; (with_reducible repeat first | apply b9N | apply b9D | apply b9L); refine blk_put (cs := #[.int .i64 t383, .slice Ao48 t384.length co48, .int .i64 0, .int .i64 0, .string (⟨#[]⟩ : ByteArray)]) ?_ 2 _ rfl; (with_reducible repeat first | apply b9N | apply b9D | apply b9L); refine blk_put (cs := #[.int .i64 t383, .slice none 0 0, .int .i64 0, .int .i64 0, .string (⟨#[]⟩ : ByteArray)]) ?_ 1 _ rfl; (with_reducible repeat first | apply b9N | apply b9D | apply b9L); refine blk_put (cs := #[.int .i64 0, .slice none 0 0, .int .i64 0, .int .i64 0, .string (⟨#[]⟩ : ByteArray)]) ?_ 0 _ rfl; (with_reducible repeat first | apply b9N | apply b9D | apply b9L); exact BK390.out⟩, ⟨c9_1⟩⟩
      case rest =>
       clear HC28
       (try clear c1); (try clear c2); (try clear p2); (try clear c3); (try clear c4); (try clear c11); (try clear c12); (try clear c15); (try clear c17); (try clear c18); (try clear c21); (try clear c21b0); (try clear c21b1); (try clear c22); (try clear c23); (try clear c29); (try clear c30); (try clear c34); (try clear c35); (try clear c36); (try clear c39); (try clear c43); (try clear c44); (try clear c45); (try clear c46); (try clear hcz12_0); (try clear hcz12_1); (try clear hcz12_2); (try clear hcz13_0); (try clear hcz13_1); (try clear hcz13_2); (try clear hcz19_0); (try clear hcz19_1); (try clear hcz19_2); (try clear hcz19_3); (try clear hcz19_4); (try clear hcz31_0); (try clear hcz31_1); (try clear hcz31_2); (try clear hcz31_3); (try clear hcz31_4); (try clear hcz37_0); (try clear hcz37_1); (try clear hcz37_2); (try clear hcz37_3); (try clear hcz37_4); (try clear hcz40_0); (try clear hcz40_1); (try clear hcz40_2); (try clear hcz47_0); (try clear hcz47_1); (try clear hcz47_2); (try clear hcz47_3); (try clear hcz47_4); (try clear hfz12_0); (try clear hfz12_1); (try clear hfz12_2); (try clear hfz13_0); (try clear hfz13_1); (try clear hfz13_2); (try clear hfz19_0); (try clear hfz19_1); (try clear hfz19_2); (try clear hfz19_3); (try clear hfz19_4); (try clear hfz31_0); (try clear hfz31_1); (try clear hfz31_2); (try clear hfz31_3); (try clear hfz31_4); (try clear hfz37_0); (try clear hfz37_1); (try clear hfz37_2); (try clear hfz37_3); (try clear hfz37_4); (try clear hfz40_0); (try clear hfz40_1); (try clear hfz40_2); (try clear hfz47_0); (try clear hfz47_1); (try clear hfz47_2); (try clear hfz47_3); (try clear hfz47_4); (try clear p2)
       obtain ⟨kq, x48_27, rfl, HA, HJ27, HO_368001, HO_383001, HO_391001, BK358, BK359, BK367, BK382, BK390, HB⟩ := hcut
       cases kq with
       | zero => exact absurd HA.out (by simp [laws_FnLists.j2])
       | succ kj27 =>
        have H := HA.out; clear HA; simp only [laws_FnLists.j2] at H; have HC64 := ak H; clear H; go_upto_if 48 with (fail); go_cut [] (fun wc => ∃ (kq : Nat), Aside0 (laws_FnLists.j3 kq t352 t353 t354 t360 t361 t364 t365 t366 t375 t376 t379 t380 t381 t383 t384 t387 t388 t389 = some r) ∧ Aside0 (kq ≤ kj27) ∧ Aside0 (Kd.R k70 70 wc w.heap.size (fun _ => True) (.slice Ao20 t361.length co20) t361) ∧ Aside0 (Kd.R k28 28 wc w.heap.size (fun k_ => some k_ ≠ ((.slice Ao48 t384.length co48) : Value).ownBlock ∧ k_ ≠ gb358 ∧ k_ ≠ gb359) (.slice Ao38 t376.length co38) t376) ∧ Aside0 (Kd.R k28 28 wc w.heap.size (fun k_ => some k_ ≠ ((.slice Ao38 t376.length co38) : Value).ownBlock ∧ k_ ≠ gb358 ∧ k_ ≠ gb359) (.slice Ao48 t384.length co48) t384) ∧ Aside0 (wc.heap[gb358]? = some (.cells #[.int .i64 t352, .int .i64 t353, .string t354] 28 (0, 0))) ∧ Aside0 (wc.heap[gb359]? = some (.cells #[.int .i64 t355, .int .i64 t356, .string t357] 28 (0, 0))) ∧ Aside0 (wc.heap[gb367]? = some (.cells #[.int .i64 t360, (.slice Ao20 t361.length co20), .int .i64 t364, .int .i64 t365, .string t366] 30 (0, 0))) ∧ Aside0 (wc.heap[gb382]? = some (.cells #[.int .i64 t375, (.slice Ao38 t376.length co38), .int .i64 t379, .int .i64 t380, .string t381] 45 (0, 0))) ∧ Aside0 (wc.heap[gb390]? = some (.cells #[.int .i64 t383, (.slice Ao48 t384.length co48), .int .i64 t387, .int .i64 t388, .string t389] 45 (0, 0))) ∧ Aside0 (Below w.heap.size w wc))
        case first =>
         have H := HC64.out; clear HC64; by_cases c65 : x48_27 = true
         ·subst c65
          rw [if_pos rfl] at H; obtain rfl := Option.some.inj H; have hnb66 := NB382_358.out; have hnc66 := NB358_382.out; have hnb67 := NB382_359.out; have hnc67 := NB359_382.out; have hnb68 := NB382_367.out; have hnc68 := NB367_382.out; have hnb69 := NB382_390.out; have hnc69 := NB390_382.out; have hcz70_0 := z9c BK382.out 0 (v := (.int .i64 t375)) rfl; have hcz70_1 := z9c BK382.out 1 (v := (.slice Ao38 t376.length co38)) rfl; have hcz70_2 := z9c BK382.out 2 (v := (.int .i64 t379)) rfl; have hcz70_3 := z9c BK382.out 3 (v := (.int .i64 t380)) rfl; have hcz70_4 := z9c BK382.out 4 (v := (.string t381)) rfl; have hfz70_0 := z9f BK382.out 0; have hfz70_1 := z9f BK382.out 1; have hfz70_2 := z9f BK382.out 2; have hfz70_3 := z9f BK382.out 3; have hfz70_4 := z9f BK382.out 4; go_wp2; go_ret; exact ⟨by first | rfl | (simp [errW_none, errW_some] <;> rfl) | (simp [*, errW_none, errW_some] <;> rfl), c9_1⟩
         ·replace c65 := Bool.eq_false_iff.mpr c65
          subst c65
          rw [if_neg (show ¬ (false = true) by decide)] at H; have H' := ak H; clear H; go_wp2; go_meet
          case rel => exact ⟨_, H', ⟨by have := HJ2.out; have := HJ6.out; have := HJ27.out; first | omega | exact Nat.le_refl _⟩, ⟨c9_7⟩, ⟨c9_8⟩, ⟨c9_9⟩, ⟨c9_2⟩, ⟨c9_3⟩, ⟨c9_4⟩, ⟨c9_5⟩, ⟨c9_6⟩, ⟨c9_1⟩⟩
        case rest =>
         clear HC64
         (try clear c1); (try clear c2); (try clear p2); (try clear c3); (try clear c4); (try clear c5); (try clear c6); (try clear c11); (try clear c12); (try clear c15); (try clear c17); (try clear c18); (try clear c21); (try clear c21b0); (try clear c21b1); (try clear c22); (try clear c23); (try clear c29); (try clear c30); (try clear c34); (try clear c35); (try clear c36); (try clear c39); (try clear c43); (try clear c44); (try clear c45); (try clear c46); (try clear c49); (try clear c49b0); (try clear c49b1); (try clear c50); (try clear c51); (try clear c52); (try clear c53); (try clear c55); (try clear c56); (try clear c57); (try clear c59); (try clear c60); (try clear c61); (try clear c62); (try clear hcz12_0); (try clear hcz12_1); (try clear hcz12_2); (try clear hcz13_0); (try clear hcz13_1); (try clear hcz13_2); (try clear hcz19_0); (try clear hcz19_1); (try clear hcz19_2); (try clear hcz19_3); (try clear hcz19_4); (try clear hcz31_0); (try clear hcz31_1); (try clear hcz31_2); (try clear hcz31_3); (try clear hcz31_4); (try clear hcz37_0); (try clear hcz37_1); (try clear hcz37_2); (try clear hcz37_3); (try clear hcz37_4); (try clear hcz40_0); (try clear hcz40_1); (try clear hcz40_2); (try clear hcz47_0); (try clear hcz47_1); (try clear hcz47_2); (try clear hcz47_3); (try clear hcz47_4); (try clear hcz54_0); (try clear hcz54_1); (try clear hcz54_2); (try clear hcz54_3); (try clear hcz54_4); (try clear hcz58_0); (try clear hcz58_1); (try clear hcz58_2); (try clear hcz58_3); (try clear hcz58_4); (try clear hcz63_0); (try clear hcz63_1); (try clear hcz63_2); (try clear hcz63_3); (try clear hcz63_4); (try clear hfz12_0); (try clear hfz12_1); (try clear hfz12_2); (try clear hfz13_0); (try clear hfz13_1); (try clear hfz13_2); (try clear hfz19_0); (try clear hfz19_1); (try clear hfz19_2); (try clear hfz19_3); (try clear hfz19_4); (try clear hfz31_0); (try clear hfz31_1); (try clear hfz31_2); (try clear hfz31_3); (try clear hfz31_4); (try clear hfz37_0); (try clear hfz37_1); (try clear hfz37_2); (try clear hfz37_3); (try clear hfz37_4); (try clear hfz40_0); (try clear hfz40_1); (try clear hfz40_2); (try clear hfz47_0); (try clear hfz47_1); (try clear hfz47_2); (try clear hfz47_3); (try clear hfz47_4); (try clear hfz54_0); (try clear hfz54_1); (try clear hfz54_2); (try clear hfz54_3); (try clear hfz54_4); (try clear hfz58_0); (try clear hfz58_1); (try clear hfz58_2); (try clear hfz58_3); (try clear hfz58_4); (try clear hfz63_0); (try clear hfz63_1); (try clear hfz63_2); (try clear hfz63_3); (try clear hfz63_4); (try clear p2)
         obtain ⟨kq, HA, HJ63, HO_368001, HO_383001, HO_391001, BK358, BK359, BK367, BK382, BK390, HB⟩ := hcut
         cases kq with
         | zero => exact absurd HA.out (by simp [laws_FnLists.j3])
         | succ kj63 =>
          have H := HA.out; clear HA; simp only [laws_FnLists.j3] at H; have HC71 := ak H; clear H; go_upto_block 0 with (fail); go_cut [] (fun wc => ∃ (kq : Nat), Aside0 (laws_FnLists.j7 kq t352 t353 t354 t360 t361 t364 t365 t366 t375 t376 t379 t380 t381 t383 t384 t387 t388 t389 = some r) ∧ Aside0 (kq ≤ kj63) ∧ Aside0 (Kd.R k70 70 wc w.heap.size (fun _ => True) (.slice Ao20 t361.length co20) t361) ∧ Aside0 (Kd.R k28 28 wc w.heap.size (fun k_ => some k_ ≠ ((.slice Ao48 t384.length co48) : Value).ownBlock ∧ k_ ≠ gb358 ∧ k_ ≠ gb359) (.slice Ao38 t376.length co38) t376) ∧ Aside0 (Kd.R k28 28 wc w.heap.size (fun k_ => some k_ ≠ ((.slice Ao38 t376.length co38) : Value).ownBlock ∧ k_ ≠ gb358 ∧ k_ ≠ gb359) (.slice Ao48 t384.length co48) t384) ∧ Aside0 (wc.heap[gb358]? = some (.cells #[.int .i64 t352, .int .i64 t353, .string t354] 28 (0, 0))) ∧ Aside0 (wc.heap[gb359]? = some (.cells #[.int .i64 t355, .int .i64 t356, .string t357] 28 (0, 0))) ∧ Aside0 (wc.heap[gb367]? = some (.cells #[.int .i64 t360, (.slice Ao20 t361.length co20), .int .i64 t364, .int .i64 t365, .string t366] 30 (0, 0))) ∧ Aside0 (wc.heap[gb382]? = some (.cells #[.int .i64 t375, (.slice Ao38 t376.length co38), .int .i64 t379, .int .i64 t380, .string t381] 45 (0, 0))) ∧ Aside0 (wc.heap[gb390]? = some (.cells #[.int .i64 t383, (.slice Ao48 t384.length co48), .int .i64 t387, .int .i64 t388, .string t389] 45 (0, 0))) ∧ Aside0 (Below w.heap.size w wc))
          case first =>
           have H := HC71.out; clear HC71; have H' := ak H; clear H; go_wp2; go_loopg [9] kj63 (fun kq v9 w' => ∃ (x9_5 : Int), v9 = .int .i64 x9_5 ∧ Aside0 (laws_FnLists.l0 kq x9_5 t352 t353 t354 t360 t361 t364 t365 t366 t375 t376 t379 t380 t381 t383 t384 t387 t388 t389 = some r) ∧ Aside0 (kq ≤ kj63) ∧ Aside0 (Kd.R k70 70 w' w.heap.size (fun _ => True) (.slice Ao20 t361.length co20) t361) ∧ Aside0 (Kd.R k28 28 w' w.heap.size (fun k_ => some k_ ≠ ((.slice Ao48 t384.length co48) : Value).ownBlock ∧ k_ ≠ gb358 ∧ k_ ≠ gb359) (.slice Ao38 t376.length co38) t376) ∧ Aside0 (Kd.R k28 28 w' w.heap.size (fun k_ => some k_ ≠ ((.slice Ao38 t376.length co38) : Value).ownBlock ∧ k_ ≠ gb358 ∧ k_ ≠ gb359) (.slice Ao48 t384.length co48) t384) ∧ Aside0 (w'.heap[gb358]? = some (.cells #[.int .i64 t352, .int .i64 t353, .string t354] 28 (0, 0))) ∧ Aside0 (w'.heap[gb359]? = some (.cells #[.int .i64 t355, .int .i64 t356, .string t357] 28 (0, 0))) ∧ Aside0 (w'.heap[gb367]? = some (.cells #[.int .i64 t360, (.slice Ao20 t361.length co20), .int .i64 t364, .int .i64 t365, .string t366] 30 (0, 0))) ∧ Aside0 (w'.heap[gb382]? = some (.cells #[.int .i64 t375, (.slice Ao38 t376.length co38), .int .i64 t379, .int .i64 t380, .string t381] 45 (0, 0))) ∧ Aside0 (w'.heap[gb390]? = some (.cells #[.int .i64 t383, (.slice Ao48 t384.length co48), .int .i64 t387, .int .i64 t388, .string t389] 45 (0, 0))) ∧ Aside0 (Below w.heap.size w w'))
           case atStart => exact ⟨(0), d9_16, H', ⟨Nat.le_refl _⟩, ⟨c9_7⟩, ⟨c9_8⟩, ⟨c9_9⟩, ⟨c9_2⟩, ⟨c9_3⟩, ⟨c9_4⟩, ⟨c9_5⟩, ⟨c9_6⟩, ⟨c9_1⟩⟩
           case round =>
            clear H'
            (try clear c1); (try clear c2); (try clear p2); (try clear c3); (try clear c4); (try clear c5); (try clear c6); (try clear c11); (try clear c12); (try clear c15); (try clear c17); (try clear c18); (try clear c21); (try clear c21b0); (try clear c21b1); (try clear c22); (try clear c23); (try clear c29); (try clear c30); (try clear c34); (try clear c35); (try clear c36); (try clear c39); (try clear c43); (try clear c44); (try clear c45); (try clear c46); (try clear c49); (try clear c49b0); (try clear c49b1); (try clear c50); (try clear c51); (try clear c52); (try clear c53); (try clear c55); (try clear c56); (try clear c57); (try clear c59); (try clear c60); (try clear c61); (try clear c62); (try clear c65); (try clear c66); (try clear c67); (try clear c68); (try clear c69); (try clear hcz12_0); (try clear hcz12_1); (try clear hcz12_2); (try clear hcz13_0); (try clear hcz13_1); (try clear hcz13_2); (try clear hcz19_0); (try clear hcz19_1); (try clear hcz19_2); (try clear hcz19_3); (try clear hcz19_4); (try clear hcz31_0); (try clear hcz31_1); (try clear hcz31_2); (try clear hcz31_3); (try clear hcz31_4); (try clear hcz37_0); (try clear hcz37_1); (try clear hcz37_2); (try clear hcz37_3); (try clear hcz37_4); (try clear hcz40_0); (try clear hcz40_1); (try clear hcz40_2); (try clear hcz47_0); (try clear hcz47_1); (try clear hcz47_2); (try clear hcz47_3); (try clear hcz47_4); (try clear hcz54_0); (try clear hcz54_1); (try clear hcz54_2); (try clear hcz54_3); (try clear hcz54_4); (try clear hcz58_0); (try clear hcz58_1); (try clear hcz58_2); (try clear hcz58_3); (try clear hcz58_4); (try clear hcz63_0); (try clear hcz63_1); (try clear hcz63_2); (try clear hcz63_3); (try clear hcz63_4); (try clear hcz70_0); (try clear hcz70_1); (try clear hcz70_2); (try clear hcz70_3); (try clear hcz70_4); (try clear hfz12_0); (try clear hfz12_1); (try clear hfz12_2); (try clear hfz13_0); (try clear hfz13_1); (try clear hfz13_2); (try clear hfz19_0); (try clear hfz19_1); (try clear hfz19_2); (try clear hfz19_3); (try clear hfz19_4); (try clear hfz31_0); (try clear hfz31_1); (try clear hfz31_2); (try clear hfz31_3); (try clear hfz31_4); (try clear hfz37_0); (try clear hfz37_1); (try clear hfz37_2); (try clear hfz37_3); (try clear hfz37_4); (try clear hfz40_0); (try clear hfz40_1); (try clear hfz40_2); (try clear hfz47_0); (try clear hfz47_1); (try clear hfz47_2); (try clear hfz47_3); (try clear hfz47_4); (try clear hfz54_0); (try clear hfz54_1); (try clear hfz54_2); (try clear hfz54_3); (try clear hfz54_4); (try clear hfz58_0); (try clear hfz58_1); (try clear hfz58_2); (try clear hfz58_3); (try clear hfz58_4); (try clear hfz63_0); (try clear hfz63_1); (try clear hfz63_2); (try clear hfz63_3); (try clear hfz63_4); (try clear hfz70_0); (try clear hfz70_1); (try clear hfz70_2); (try clear hfz70_3); (try clear hfz70_4); (try clear p2)
            obtain ⟨x9_5, rfl, HA, HK5, HO_368001, HO_383001, HO_391001, BK358, BK359, BK367, BK382, BK390, HB⟩ := hrel
            cases gk with
            | zero => exact absurd HA.out (by simp [laws_FnLists.l0])
            | succ k5 =>
             have H := HA.out; clear HA; simp only [laws_FnLists.l0] at H; have HC72 := ak H; clear H; have hnb73 := NB390_358.out; have hnc73 := NB358_390.out; have hnb74 := NB390_359.out; have hnc74 := NB359_390.out; have hnb75 := NB390_367.out; have hnc75 := NB367_390.out; have hnb76 := NB390_382.out; have hnc76 := NB382_390.out; have hcz77_0 := z9c BK390.out 0 (v := (.int .i64 t383)) rfl; have hcz77_1 := z9c BK390.out 1 (v := (.slice Ao48 t384.length co48)) rfl; have hcz77_2 := z9c BK390.out 2 (v := (.int .i64 t387)) rfl; have hcz77_3 := z9c BK390.out 3 (v := (.int .i64 t388)) rfl; have hcz77_4 := z9c BK390.out 4 (v := (.string t389)) rfl; have hfz77_0 := z9f BK390.out 0; have hfz77_1 := z9f BK390.out 1; have hfz77_2 := z9f BK390.out 2; have hfz77_3 := z9f BK390.out 3; have hfz77_4 := z9f BK390.out 4; go_upto_if 56 with (fail)
             go_cut [] (fun wc => ∃ (kq : Nat), Aside0 (laws_FnLists.j5 kq x9_5 t352 t353 t354 t360 t361 t364 t365 t366 t375 t376 t379 t380 t381 t383 t384 t387 t388 t389 = some r) ∧ Aside0 (kq ≤ k5) ∧ Aside0 (Kd.R k70 70 wc w.heap.size (fun _ => True) (.slice Ao20 t361.length co20) t361) ∧ Aside0 (Kd.R k28 28 wc w.heap.size (fun k_ => some k_ ≠ ((.slice Ao48 t384.length co48) : Value).ownBlock ∧ k_ ≠ gb358 ∧ k_ ≠ gb359) (.slice Ao38 t376.length co38) t376) ∧ Aside0 (Kd.R k28 28 wc w.heap.size (fun k_ => some k_ ≠ ((.slice Ao38 t376.length co38) : Value).ownBlock ∧ k_ ≠ gb358 ∧ k_ ≠ gb359) (.slice Ao48 t384.length co48) t384) ∧ Aside0 (wc.heap[gb358]? = some (.cells #[.int .i64 t352, .int .i64 t353, .string t354] 28 (0, 0))) ∧ Aside0 (wc.heap[gb359]? = some (.cells #[.int .i64 t355, .int .i64 t356, .string t357] 28 (0, 0))) ∧ Aside0 (wc.heap[gb367]? = some (.cells #[.int .i64 t360, (.slice Ao20 t361.length co20), .int .i64 t364, .int .i64 t365, .string t366] 30 (0, 0))) ∧ Aside0 (wc.heap[gb382]? = some (.cells #[.int .i64 t375, (.slice Ao38 t376.length co38), .int .i64 t379, .int .i64 t380, .string t381] 45 (0, 0))) ∧ Aside0 (wc.heap[gb390]? = some (.cells #[.int .i64 t383, (.slice Ao48 t384.length co48), .int .i64 t387, .int .i64 t388, .string t389] 45 (0, 0))) ∧ Aside0 (Below w.heap.size w wc))
             case first =>
              have H := HC72.out; clear HC72; by_cases c78 : x9_5 < (t384.length : Int)
              ·rw [if_pos c78] at H
               have c78b0 : decide (x9_5 < (t384.length : Int)) = true := decide_eq_true c78; clear c78
               (first | rw [c78b0] | (simp only [i64_w, i32_w]; rw [c78b0]) | skip)
               have H' := ak H; clear H; go_wp2; go_meet
               case rel => exact ⟨_, H', ⟨by have := HJ2.out; have := HJ6.out; have := HJ27.out; have := HJ63.out; have := HK5.out; first | omega | exact Nat.le_refl _⟩, ⟨c9_7⟩, ⟨c9_8⟩, ⟨c9_9⟩, ⟨c9_2⟩, ⟨c9_3⟩, ⟨c9_4⟩, ⟨c9_5⟩, ⟨c9_6⟩, ⟨c9_1⟩⟩
              ·rw [if_neg c78] at H
               have c78b0 : decide (x9_5 < (t384.length : Int)) = false := decide_eq_false c78; clear c78
               (first | rw [c78b0] | (simp only [i64_w, i32_w]; rw [c78b0]) | skip)
               have H' := ak H; clear H; go_wp2; go_meet
               case rel => exact ⟨_, H', ⟨by have := HJ2.out; have := HJ6.out; have := HJ27.out; have := HJ63.out; have := HK5.out; first | omega | exact Nat.le_refl _⟩, ⟨c9_7⟩, ⟨c9_8⟩, ⟨c9_9⟩, ⟨c9_2⟩, ⟨c9_3⟩, ⟨c9_4⟩, ⟨c9_5⟩, ⟨c9_6⟩, ⟨c9_1⟩⟩
             case rest =>
              clear HC72
              (try clear c1); (try clear c2); (try clear p2); (try clear c3); (try clear c4); (try clear c5); (try clear c6); (try clear c7); (try clear c11); (try clear c12); (try clear c15); (try clear c17); (try clear c18); (try clear c21); (try clear c21b0); (try clear c21b1); (try clear c22); (try clear c23); (try clear c29); (try clear c30); (try clear c34); (try clear c35); (try clear c36); (try clear c39); (try clear c43); (try clear c44); (try clear c45); (try clear c46); (try clear c49); (try clear c49b0); (try clear c49b1); (try clear c50); (try clear c51); (try clear c52); (try clear c53); (try clear c55); (try clear c56); (try clear c57); (try clear c59); (try clear c60); (try clear c61); (try clear c62); (try clear c65); (try clear c66); (try clear c67); (try clear c68); (try clear c69); (try clear c73); (try clear c74); (try clear c75); (try clear c76); (try clear hcz12_0); (try clear hcz12_1); (try clear hcz12_2); (try clear hcz13_0); (try clear hcz13_1); (try clear hcz13_2); (try clear hcz19_0); (try clear hcz19_1); (try clear hcz19_2); (try clear hcz19_3); (try clear hcz19_4); (try clear hcz31_0); (try clear hcz31_1); (try clear hcz31_2); (try clear hcz31_3); (try clear hcz31_4); (try clear hcz37_0); (try clear hcz37_1); (try clear hcz37_2); (try clear hcz37_3); (try clear hcz37_4); (try clear hcz40_0); (try clear hcz40_1); (try clear hcz40_2); (try clear hcz47_0); (try clear hcz47_1); (try clear hcz47_2); (try clear hcz47_3); (try clear hcz47_4); (try clear hcz54_0); (try clear hcz54_1); (try clear hcz54_2); (try clear hcz54_3); (try clear hcz54_4); (try clear hcz58_0); (try clear hcz58_1); (try clear hcz58_2); (try clear hcz58_3); (try clear hcz58_4); (try clear hcz63_0); (try clear hcz63_1); (try clear hcz63_2); (try clear hcz63_3); (try clear hcz63_4); (try clear hcz70_0); (try clear hcz70_1); (try clear hcz70_2); (try clear hcz70_3); (try clear hcz70_4); (try clear hcz77_0); (try clear hcz77_1); (try clear hcz77_2); (try clear hcz77_3); (try clear hcz77_4); (try clear hfz12_0); (try clear hfz12_1); (try clear hfz12_2); (try clear hfz13_0); (try clear hfz13_1); (try clear hfz13_2); (try clear hfz19_0); (try clear hfz19_1); (try clear hfz19_2); (try clear hfz19_3); (try clear hfz19_4); (try clear hfz31_0); (try clear hfz31_1); (try clear hfz31_2); (try clear hfz31_3); (try clear hfz31_4); (try clear hfz37_0); (try clear hfz37_1); (try clear hfz37_2); (try clear hfz37_3); (try clear hfz37_4); (try clear hfz40_0); (try clear hfz40_1); (try clear hfz40_2); (try clear hfz47_0); (try clear hfz47_1); (try clear hfz47_2); (try clear hfz47_3); (try clear hfz47_4); (try clear hfz54_0); (try clear hfz54_1); (try clear hfz54_2); (try clear hfz54_3); (try clear hfz54_4); (try clear hfz58_0); (try clear hfz58_1); (try clear hfz58_2); (try clear hfz58_3); (try clear hfz58_4); (try clear hfz63_0); (try clear hfz63_1); (try clear hfz63_2); (try clear hfz63_3); (try clear hfz63_4); (try clear hfz70_0); (try clear hfz70_1); (try clear hfz70_2); (try clear hfz70_3); (try clear hfz70_4); (try clear hfz77_0); (try clear hfz77_1); (try clear hfz77_2); (try clear hfz77_3); (try clear hfz77_4); (try clear p2)
              obtain ⟨kq, HA, HJ71, HO_368001, HO_383001, HO_391001, BK358, BK359, BK367, BK382, BK390, HB⟩ := hcut
              cases kq with
              | zero => exact absurd HA.out (by simp [laws_FnLists.j5])
              | succ kj71 =>
               have H := HA.out; clear HA; simp only [laws_FnLists.j5] at H; have HC79 := ak H; clear H; go_upto_block 1 with (fail); go_cut [] (fun wc => ∃ (kq : Nat), Aside0 (laws_FnLists.j6 kq x9_5 t352 t353 t354 t360 t361 t364 t365 t366 t375 t376 t379 t380 t381 t383 t384 t387 t388 t389 = some r) ∧ Aside0 (kq ≤ kj71) ∧ Aside0 (Kd.R k70 70 wc w.heap.size (fun _ => True) (.slice Ao20 t361.length co20) t361) ∧ Aside0 (Kd.R k28 28 wc w.heap.size (fun k_ => some k_ ≠ ((.slice Ao48 t384.length co48) : Value).ownBlock ∧ k_ ≠ gb358 ∧ k_ ≠ gb359) (.slice Ao38 t376.length co38) t376) ∧ Aside0 (Kd.R k28 28 wc w.heap.size (fun k_ => some k_ ≠ ((.slice Ao38 t376.length co38) : Value).ownBlock ∧ k_ ≠ gb358 ∧ k_ ≠ gb359) (.slice Ao48 t384.length co48) t384) ∧ Aside0 (wc.heap[gb358]? = some (.cells #[.int .i64 t352, .int .i64 t353, .string t354] 28 (0, 0))) ∧ Aside0 (wc.heap[gb359]? = some (.cells #[.int .i64 t355, .int .i64 t356, .string t357] 28 (0, 0))) ∧ Aside0 (wc.heap[gb367]? = some (.cells #[.int .i64 t360, (.slice Ao20 t361.length co20), .int .i64 t364, .int .i64 t365, .string t366] 30 (0, 0))) ∧ Aside0 (wc.heap[gb382]? = some (.cells #[.int .i64 t375, (.slice Ao38 t376.length co38), .int .i64 t379, .int .i64 t380, .string t381] 45 (0, 0))) ∧ Aside0 (wc.heap[gb390]? = some (.cells #[.int .i64 t383, (.slice Ao48 t384.length co48), .int .i64 t387, .int .i64 t388, .string t389] 45 (0, 0))) ∧ Aside0 (Below w.heap.size w wc))
               case first =>
                have H := HC79.out; clear HC79; obtain ⟨ji80, hji80⟩ : ∃ j_ : Int, (wrap64 (x9_5 + 1)) = j_ := ⟨_, rfl⟩
                replace H : (if 0 ≤ (ji80) then (if (ji80) < (t376.length : Int) then (if 0 ≤ x9_5 then (if x9_5 < (t384.length : Int) then ((impl_SameValues.f ((rd_T28 t376 (ji80)).f0) ((rd_T28 t376 (ji80)).f1) ((rd_T28 t376 (ji80)).f2) ((rd_T28 t384 x9_5).f0) ((rd_T28 t384 x9_5).f1) ((rd_T28 t384 x9_5).f2)).bind fun t393 => (if t393 = true then (laws_FnLists.j6 kj71 x9_5 t352 t353 t354 t360 t361 t364 t365 t366 t375 t376 t379 t380 t381 t383 t384 t387 t388 t389) else (some false))) else (none)) else (none)) else (none)) else (none)) = some r := by first | (rw [hji80] at H; exact H) | (simp only [hji80] at H ⊢; exact H)
                have hji80w : (IntKind.i64.wrap (x9_5 + 1)) = ji80 := (i64_w _).trans hji80; by_cases c81 : 0 ≤ (ji80)
                ·rw [if_pos c81] at H
                 have c81b0 : decide (0 ≤ (ji80)) = true := decide_eq_true c81; clear c81
                 (first | rw [c81b0] | (simp only [i64_w, i32_w]; rw [c81b0]) | skip)
                 by_cases c82 : (ji80) < (t376.length : Int)
                 ·rw [if_pos c82] at H
                  have c82b0 : decide ((ji80) < (t376.length : Int)) = true := decide_eq_true c82; clear c82; by_cases c83 : 0 ≤ x9_5
                  ·rw [if_pos c83] at H
                   have c83b0 : decide (0 ≤ x9_5) = true := decide_eq_true c83; clear c83; by_cases c84 : x9_5 < (t384.length : Int)
                   ·rw [if_pos c84] at H
                    have c84b0 : decide (x9_5 < (t384.length : Int)) = true := decide_eq_true c84; clear c84; replace H := Option.bind_eq_some_iff.mp H; obtain ⟨t393, A850, H⟩ := H; (try dsimp -simprocs only at H); have A85 := ak A850; clear A850; by_cases c86 : t393 = true
                    ·subst c86
                     rw [if_pos rfl] at H; have H' := ak H; clear H
                     try go_wp2
                     have n0_ := ak (Kd.R_drew HO_368001.out); have n1_ := ak (Kd.R_drew HO_383001.out); have n2_ := ak (Kd.R_drew HO_391001.out); have n3_ := ak (blk_drew BK358.out); have n4_ := ak (blk_drew BK359.out); have n5_ := ak (blk_drew BK367.out); have n6_ := ak (blk_drew BK382.out); have n7_ := ak (blk_drew BK390.out); have n8_ := ak (below_drew1 HB.out); clear HO_368001; clear HO_383001; clear HO_391001; clear BK358; clear BK359; clear BK367; clear BK382; clear BK390; clear HB; have HO_368001 := n0_; have HO_383001 := n1_; have HO_391001 := n2_; have BK358 := n3_; have BK359 := n4_; have BK367 := n5_; have BK382 := n6_; have BK390 := n7_; have HB := n8_; clear n0_ n1_ n2_ n3_ n4_ n5_ n6_ n7_ n8_; have p391 : 0 ≤ ((ji80) : Int) := of_decide_eq_true d9_18; have q391 : (ji80) < (t376.length : Int) := of_decide_eq_true d9_18; obtain ⟨ad391, e391, hx391_0, hx391_1, hx391_2⟩ := at_T28 (Kd.R_reads' HO_383001.out).2.2 (ji80) p391 q391
                     cases e391
                     replace p391 := eq_true p391; replace q391 := eq_true q391; have p392 : 0 ≤ (x9_5 : Int) := of_decide_eq_true d9_18; have q392 : x9_5 < (t384.length : Int) := of_decide_eq_true d9_18; obtain ⟨ad392, e392, hx392_0, hx392_1, hx392_2⟩ := at_T28 (Kd.R_reads' HO_391001.out).2.2 x9_5 p392 q392
                     cases e392
                     replace p392 := eq_true p392; replace q392 := eq_true q392
                     refine start_ (n := 13) (S := fun w' => w'.cell? ⟨gb382, 0, none⟩ = some (.int .i64 t375) ∧ w'.cell? ⟨gb382, 1, none⟩ = some (.slice (some ad391) t376.length co38) ∧ w'.cell? ⟨gb382, 2, none⟩ = some (.int .i64 t379) ∧ w'.cell? ⟨gb382, 3, none⟩ = some (.int .i64 t380) ∧ w'.cell? ⟨gb382, 4, none⟩ = some (.string t381) ∧ w'.cell? ⟨gb390, 0, none⟩ = some (.int .i64 t383) ∧ w'.cell? ⟨gb390, 1, none⟩ = some (.slice (some ad392) t384.length co48) ∧ w'.cell? ⟨gb390, 2, none⟩ = some (.int .i64 t387) ∧ w'.cell? ⟨gb390, 3, none⟩ = some (.int .i64 t388) ∧ w'.cell? ⟨gb390, 4, none⟩ = some (.string t389) ∧ w'.cell? (ad391.add (((ji80)).toNat * 3)) = some (.int .i64 ((rd_T28 t376 (ji80)).f0)) ∧ w'.cell? ⟨(ad391.add (((ji80)).toNat * 3)).block, (ad391.add (((ji80)).toNat * 3)).off + 1, none⟩ = some (.int .i64 ((rd_T28 t376 (ji80)).f1)) ∧ w'.cell? ⟨(ad391.add (((ji80)).toNat * 3)).block, (ad391.add (((ji80)).toNat * 3)).off + 2, none⟩ = some (.string ((rd_T28 t376 (ji80)).f2)) ∧ w'.cell? (ad392.add ((x9_5).toNat * 3)) = some (.int .i64 ((rd_T28 t384 x9_5).f0)) ∧ w'.cell? ⟨(ad392.add ((x9_5).toNat * 3)).block, (ad392.add ((x9_5).toNat * 3)).off + 1, none⟩ = some (.int .i64 ((rd_T28 t384 x9_5).f1)) ∧ w'.cell? ⟨(ad392.add ((x9_5).toNat * 3)).block, (ad392.add ((x9_5).toNat * 3)).off + 2, none⟩ = some (.string ((rd_T28 t384 x9_5).f2))) (ds := []) #[false, false, false, false, false, false, false, false, false, false, false, false, false] (by kernel_rfl) rfl rfl ⟨(blk_cell BK382.out 0).trans rfl, (blk_cell BK382.out 1).trans rfl, (blk_cell BK382.out 2).trans rfl, (blk_cell BK382.out 3).trans rfl, (blk_cell BK382.out 4).trans rfl, (blk_cell BK390.out 0).trans rfl, (blk_cell BK390.out 1).trans rfl, (blk_cell BK390.out 2).trans rfl, (blk_cell BK390.out 3).trans rfl, (blk_cell BK390.out 4).trans rfl, hx391_0, hx391_1, hx391_2, hx392_0, hx392_1, hx392_2⟩ (fun hHeld => ?_); refine with_tabW laws_FnLists.tab14 laws_FnLists.bits14 (fun HT_ HW_ => ?_)
                     generalize wc.drew = w87 at HO_368001 HO_383001 HO_391001 BK358 BK359 BK367 BK382 BK390 HB hx391_0 hx391_1 hx391_2 hx392_0 hx392_1 hx392_2 hHeld ⊢; refine pure_ (i := 0) (N := some 59) (v := ?_) (a' := ?_) #[true, false, false, false, false, false, false, false, false, false, false, false, false] rfl rfl (any_of HT_.out (by kernel_rfl)) (fun _ _ _ h => h) (Or.inl ⟨by rfl, ?_⟩) ?_ ?_; rotate_left
                     · intro w'
                       go_simp; (with_reducible rfl)
                     rotate_left
                     · simp only [Act.put, pa9_1, pa9_2, pa9_3, i64_w, i32_w]
                       rfl
                     refine pure_ (i := 2) (N := some 61) (v := ?_) (a' := ?_) #[true, false, true, false, false, false, false, false, false, false, false, false, false] rfl rfl (any_of HT_.out (by kernel_rfl)) (fun _ _ _ h => h) (Or.inl ⟨by rfl, ?_⟩) ?_ ?_; rotate_left
                     · intro w'
                       go_simp; (with_reducible rfl)
                     rotate_left
                     · simp only [Act.put, pa9_1, pa9_2, pa9_3, i64_w, i32_w]
                       rfl
                     refine pure_ (i := 3) (N := some 62) (v := ?_) (a' := ?_) #[true, false, true, true, false, false, false, false, false, false, false, false, false] rfl rfl (any_of HT_.out (by kernel_rfl)) (fun _ _ _ h => h) (Or.inl ⟨by rfl, ?_⟩) ?_ ?_; rotate_left
                     · intro w'
                       go_simp; (with_reducible rfl)
                     rotate_left
                     · simp only [Act.put, pa9_1, pa9_2, pa9_3, i64_w, i32_w]
                       rfl
                     refine pure_ (i := 6) (N := some 65) (v := ?_) (a' := ?_) #[true, false, true, true, false, false, true, false, false, false, false, false, false] rfl rfl (any_of HT_.out (by kernel_rfl)) (fun _ _ _ h => h) (Or.inl ⟨by rfl, ?_⟩) ?_ ?_; rotate_left
                     · intro w'
                       go_simp; (with_reducible rfl)
                     rotate_left
                     · simp only [Act.put, pa9_1, pa9_2, pa9_3, i64_w, i32_w]
                       rfl
                     refine pure_ (i := 8) (N := some 67) (v := ?_) (a' := ?_) #[true, false, true, true, false, false, true, false, true, false, false, false, false] rfl rfl (any_of HT_.out (by kernel_rfl)) (fun _ _ _ h => h) (Or.inl ⟨by rfl, ?_⟩) ?_ ?_; rotate_left
                     · intro w'
                       go_simp; (with_reducible rfl)
                     rotate_left
                     · simp only [Act.put, pa9_1, pa9_2, pa9_3, i64_w, i32_w]
                       rfl
                     refine take_ (i := 1) (N := some 60) (v := ?_) (a' := ?_) #[true, true, true, true, false, false, true, false, true, false, false, false, false] rfl rfl (take_ofW HT_.out HW_.out (by kernel_rfl)) (fun _ _ _ h => h) (Or.inl ⟨by rfl, ?_⟩) hHeld ?_ ?_; rotate_left
                     · rintro w' ⟨s0, s1, s2, s3, s4, s5, s6, s7, s8, s9, s10, s11, s12, s13, s14, s15⟩
                       go_simp; (with_reducible rfl)
                     rotate_left
                     · simp only [Act.put, pa9_1, pa9_2, pa9_3, i64_w, i32_w]
                       rfl
                     refine pure_ (i := 4) (N := some 63) (v := ?_) (a' := ?_) #[true, true, true, true, true, false, true, false, true, false, false, false, false] rfl rfl (any_of HT_.out (by kernel_rfl)) (fun _ _ _ h => h) (Or.inl ⟨by rfl, ?_⟩) ?_ ?_; rotate_left
                     · intro w'
                       go_simp; (with_reducible rfl)
                     rotate_left
                     · simp only [Act.put, pa9_1, pa9_2, pa9_3, i64_w, i32_w]
                       rfl
                     refine take_ (i := 5) (N := some 64) (v := ?_) (a' := ?_) #[true, true, true, true, true, true, true, false, true, false, false, false, false] rfl rfl (take_ofW HT_.out HW_.out (by kernel_rfl)) (fun _ _ _ h => h) (Or.inl ⟨by rfl, ?_⟩) hHeld ?_ ?_; rotate_left
                     · rintro w' ⟨s0, s1, s2, s3, s4, s5, s6, s7, s8, s9, s10, s11, s12, s13, s14, s15⟩
                       go_simp; (with_reducible rfl)
                     rotate_left
                     · simp only [Act.put, pa9_1, pa9_2, pa9_3, i64_w, i32_w]
                       rfl
                     refine take_ (i := 7) (N := some 66) (v := ?_) (a' := ?_) #[true, true, true, true, true, true, true, true, true, false, false, false, false] rfl rfl (take_ofW HT_.out HW_.out (by kernel_rfl)) (fun _ _ _ h => h) (Or.inl ⟨by rfl, ?_⟩) hHeld ?_ ?_; rotate_left
                     · rintro w' ⟨s0, s1, s2, s3, s4, s5, s6, s7, s8, s9, s10, s11, s12, s13, s14, s15⟩
                       go_simp; (with_reducible rfl)
                     rotate_left
                     · simp only [Act.put, pa9_1, pa9_2, pa9_3, i64_w, i32_w]
                       rfl
                     refine pure_ (i := 9) (N := some 68) (v := ?_) (a' := ?_) #[true, true, true, true, true, true, true, true, true, true, false, false, false] rfl rfl (any_of HT_.out (by kernel_rfl)) (fun _ _ _ h => h) (Or.inl ⟨by rfl, ?_⟩) ?_ ?_; rotate_left
                     · intro w'
                       go_simp; (with_reducible rfl)
                     rotate_left
                     · simp only [Act.put, pa9_1, pa9_2, pa9_3, i64_w, i32_w]
                       rfl
                     refine take_ (i := 10) (N := some 69) (v := ?_) (a' := ?_) #[true, true, true, true, true, true, true, true, true, true, true, false, false] rfl rfl (take_ofW HT_.out HW_.out (by kernel_rfl)) (fun _ _ _ h => h) (Or.inl ⟨by rfl, ?_⟩) hHeld ?_ ?_; rotate_left
                     · rintro w' ⟨s0, s1, s2, s3, s4, s5, s6, s7, s8, s9, s10, s11, s12, s13, s14, s15⟩
                       go_simp; (with_reducible rfl)
                     rotate_left
                     · simp only [Act.put, pa9_1, pa9_2, pa9_3, i64_w, i32_w]
                       rfl
                     refine one_ (i := 11) (N := some 70) #[true, true, true, true, true, true, true, true, true, true, true, true, false] rfl rfl (one_of HT_.out (by kernel_rfl)) (by decide) (fun K hK => ?_); refine goes_ Tryd.func24 (by kernel_rfl) rfl #[.agg #[.int .i64 ((rd_T28 t376 (ji80)).f0), .int .i64 ((rd_T28 t376 (ji80)).f1), .string ((rd_T28 t376 (ji80)).f2)], .agg #[.int .i64 ((rd_T28 t384 x9_5).f0), .int .i64 ((rd_T28 t384 x9_5).f1), .string ((rd_T28 t384 x9_5).f2)]] (by rfl) rfl rfl (by (try simp only [List.map_toArray, List.map_cons, List.map_nil]); first | done | (simp only [hji80]; rfl) | rfl | (simp only [List.length_drop, List.length_take]; rfl)) ?_; (with_reducible refine (impl_SameValues.calls ((rd_T28 t376 (ji80)).f0) ((rd_T28 t376 (ji80)).f1) ((rd_T28 t376 (ji80)).f2) ((rd_T28 t384 x9_5).f0) ((rd_T28 t384 x9_5).f1) ((rd_T28 t384 x9_5).f2) true _ A85.out).mono ?_); rintro e w88 ⟨rfl, hb⟩; have HS10_ := (hb.cell (World.block_lt_of_cell? _ _ (hHeld.2.2.2.2.2.2.2.2.2.2.1))).trans (hHeld.2.2.2.2.2.2.2.2.2.2.1); have HS11_ := (hb.cell (World.block_lt_of_cell? _ _ (hHeld.2.2.2.2.2.2.2.2.2.2.2.1))).trans (hHeld.2.2.2.2.2.2.2.2.2.2.2.1); have HS12_ := (hb.cell (World.block_lt_of_cell? _ _ (hHeld.2.2.2.2.2.2.2.2.2.2.2.2.1))).trans (hHeld.2.2.2.2.2.2.2.2.2.2.2.2.1); have HS13_ := (hb.cell (World.block_lt_of_cell? _ _ (hHeld.2.2.2.2.2.2.2.2.2.2.2.2.2.1))).trans (hHeld.2.2.2.2.2.2.2.2.2.2.2.2.2.1)
                     have HS14_ := (hb.cell (World.block_lt_of_cell? _ _ (hHeld.2.2.2.2.2.2.2.2.2.2.2.2.2.2.1))).trans (hHeld.2.2.2.2.2.2.2.2.2.2.2.2.2.2.1); have HS15_ := (hb.cell (World.block_lt_of_cell? _ _ (hHeld.2.2.2.2.2.2.2.2.2.2.2.2.2.2.2))).trans (hHeld.2.2.2.2.2.2.2.2.2.2.2.2.2.2.2); refine ⟨_, rfl, ?_⟩; have n0_ := ak (Kd.R_below d9_8 hb); have n1_ := ak (Kd.R_below d9_14 hb); have n2_ := ak (Kd.R_below d9_15 hb); have n3_ := ak (blk_below (g := gb358) (o := .cells #[.int .i64 t352, .int .i64 t353, .string t354] 28 (0, 0)) d9_1 hb); have n4_ := ak (blk_below (g := gb359) (o := .cells #[.int .i64 t355, .int .i64 t356, .string t357] 28 (0, 0)) d9_2 hb); have n5_ := ak (blk_below (g := gb367) (o := .cells #[.int .i64 t360, .slice Ao20 t361.length co20, .int .i64 t364, .int .i64 t365, .string t366] 30 (0, 0)) d9_4 hb); have n6_ := ak (blk_below (g := gb382) (o := .cells #[.int .i64 t375, .slice (some ad391) t376.length co38, .int .i64 t379, .int .i64 t380, .string t381] 45 (0, 0)) d9_7 hb); have n7_ := ak (blk_below (g := gb390) (o := .cells #[.int .i64 t383, .slice (some ad392) t384.length co48, .int .i64 t387, .int .i64 t388, .string t389] 45 (0, 0)) d9_10 hb); have n8_ := ak (below_step d9_3 hb); clear HO_368001; clear HO_383001; clear HO_391001; clear BK358; clear BK359; clear BK367; clear BK382; clear BK390; clear HB; have HO_368001 := n0_; have HO_383001 := n1_; have HO_391001 := n2_; have BK358 := n3_; have BK359 := n4_; have BK367 := n5_
                     have BK382 := n6_; have BK390 := n7_; have HB := n8_; clear n0_ n1_ n2_ n3_ n4_ n5_ n6_ n7_ n8_
                     (try clear hb)
                     (try clear hb2)
                     (try clear hk)
                     (try clear hi)
                     refine hK.out _ _ ⟨(blk_cell BK382.out 0).trans rfl, (blk_cell BK382.out 1).trans rfl, (blk_cell BK382.out 2).trans rfl, (blk_cell BK382.out 3).trans rfl, (blk_cell BK382.out 4).trans rfl, (blk_cell BK390.out 0).trans rfl, (blk_cell BK390.out 1).trans rfl, (blk_cell BK390.out 2).trans rfl, (blk_cell BK390.out 3).trans rfl, (blk_cell BK390.out 4).trans rfl, HS10_, HS11_, HS12_, HS13_, HS14_, HS15_⟩ (fun hHeld => ?_); clear hK K; refine norm_ (a' := ?_) ?_ ?_; rotate_left
                     · show Act.put _ (some 70) _ = _
                       simp only [Act.put, pa9_1, pa9_2, pa9_3, i64_w, i32_w]; rfl
                     refine pure_ (i := 12) (N := some 71) (v := ?_) (a' := ?_) #[true, true, true, true, true, true, true, true, true, true, true, true, true] rfl rfl (any_of HT_.out (by kernel_rfl)) (fun _ _ _ h => h) (Or.inl ⟨by rfl, ?_⟩) ?_ ?_; rotate_left
                     · intro w'
                       go_simp; (with_reducible rfl)
                     rotate_left
                     · simp only [Act.put, pa9_1, pa9_2, pa9_3, i64_w, i32_w]
                       rfl
                     refine done_ (done_of HT_.out (by kernel_rfl)) ?_
                     try go_wp2
                     go_meet
                     case rel => exact ⟨_, H', ⟨by have := HJ2.out; have := HJ6.out; have := HJ27.out; have := HJ63.out; have := HK5.out; have := HJ71.out; first | omega | exact Nat.le_refl _⟩, ⟨c9_7⟩, ⟨c9_8⟩, ⟨c9_9⟩, ⟨c9_2⟩, ⟨c9_3⟩, ⟨c9_4⟩, ⟨c9_5⟩, ⟨c9_6⟩, ⟨c9_1⟩⟩
                    ·replace c86 := Bool.eq_false_iff.mpr c86
                     subst c86
                     rw [if_neg (show ¬ (false = true) by decide)] at H; obtain rfl := Option.some.inj H
                     try go_wp2
                     have n0_ := ak (Kd.R_drew HO_368001.out); have n1_ := ak (Kd.R_drew HO_383001.out); have n2_ := ak (Kd.R_drew HO_391001.out); have n3_ := ak (blk_drew BK358.out); have n4_ := ak (blk_drew BK359.out); have n5_ := ak (blk_drew BK367.out); have n6_ := ak (blk_drew BK382.out); have n7_ := ak (blk_drew BK390.out); have n8_ := ak (below_drew1 HB.out); clear HO_368001; clear HO_383001; clear HO_391001; clear BK358; clear BK359; clear BK367; clear BK382; clear BK390; clear HB; have HO_368001 := n0_; have HO_383001 := n1_; have HO_391001 := n2_; have BK358 := n3_; have BK359 := n4_; have BK367 := n5_; have BK382 := n6_; have BK390 := n7_; have HB := n8_; clear n0_ n1_ n2_ n3_ n4_ n5_ n6_ n7_ n8_; have p391 : 0 ≤ ((ji80) : Int) := of_decide_eq_true d9_18; have q391 : (ji80) < (t376.length : Int) := of_decide_eq_true d9_18; obtain ⟨ad391, e391, hx391_0, hx391_1, hx391_2⟩ := at_T28 (Kd.R_reads' HO_383001.out).2.2 (ji80) p391 q391
                     cases e391
                     replace p391 := eq_true p391; replace q391 := eq_true q391; have p392 : 0 ≤ (x9_5 : Int) := of_decide_eq_true d9_18; have q392 : x9_5 < (t384.length : Int) := of_decide_eq_true d9_18; obtain ⟨ad392, e392, hx392_0, hx392_1, hx392_2⟩ := at_T28 (Kd.R_reads' HO_391001.out).2.2 x9_5 p392 q392
                     cases e392
                     replace p392 := eq_true p392; replace q392 := eq_true q392
                     refine start_ (n := 13) (S := fun w' => w'.cell? ⟨gb382, 0, none⟩ = some (.int .i64 t375) ∧ w'.cell? ⟨gb382, 1, none⟩ = some (.slice (some ad391) t376.length co38) ∧ w'.cell? ⟨gb382, 2, none⟩ = some (.int .i64 t379) ∧ w'.cell? ⟨gb382, 3, none⟩ = some (.int .i64 t380) ∧ w'.cell? ⟨gb382, 4, none⟩ = some (.string t381) ∧ w'.cell? ⟨gb390, 0, none⟩ = some (.int .i64 t383) ∧ w'.cell? ⟨gb390, 1, none⟩ = some (.slice (some ad392) t384.length co48) ∧ w'.cell? ⟨gb390, 2, none⟩ = some (.int .i64 t387) ∧ w'.cell? ⟨gb390, 3, none⟩ = some (.int .i64 t388) ∧ w'.cell? ⟨gb390, 4, none⟩ = some (.string t389) ∧ w'.cell? (ad391.add (((ji80)).toNat * 3)) = some (.int .i64 ((rd_T28 t376 (ji80)).f0)) ∧ w'.cell? ⟨(ad391.add (((ji80)).toNat * 3)).block, (ad391.add (((ji80)).toNat * 3)).off + 1, none⟩ = some (.int .i64 ((rd_T28 t376 (ji80)).f1)) ∧ w'.cell? ⟨(ad391.add (((ji80)).toNat * 3)).block, (ad391.add (((ji80)).toNat * 3)).off + 2, none⟩ = some (.string ((rd_T28 t376 (ji80)).f2)) ∧ w'.cell? (ad392.add ((x9_5).toNat * 3)) = some (.int .i64 ((rd_T28 t384 x9_5).f0)) ∧ w'.cell? ⟨(ad392.add ((x9_5).toNat * 3)).block, (ad392.add ((x9_5).toNat * 3)).off + 1, none⟩ = some (.int .i64 ((rd_T28 t384 x9_5).f1)) ∧ w'.cell? ⟨(ad392.add ((x9_5).toNat * 3)).block, (ad392.add ((x9_5).toNat * 3)).off + 2, none⟩ = some (.string ((rd_T28 t384 x9_5).f2))) (ds := []) #[false, false, false, false, false, false, false, false, false, false, false, false, false] (by kernel_rfl) rfl rfl ⟨(blk_cell BK382.out 0).trans rfl, (blk_cell BK382.out 1).trans rfl, (blk_cell BK382.out 2).trans rfl, (blk_cell BK382.out 3).trans rfl, (blk_cell BK382.out 4).trans rfl, (blk_cell BK390.out 0).trans rfl, (blk_cell BK390.out 1).trans rfl, (blk_cell BK390.out 2).trans rfl, (blk_cell BK390.out 3).trans rfl, (blk_cell BK390.out 4).trans rfl, hx391_0, hx391_1, hx391_2, hx392_0, hx392_1, hx392_2⟩ (fun hHeld => ?_); refine with_tabW laws_FnLists.tab14 laws_FnLists.bits14 (fun HT_ HW_ => ?_)
                     generalize wc.drew = w89 at HO_368001 HO_383001 HO_391001 BK358 BK359 BK367 BK382 BK390 HB hx391_0 hx391_1 hx391_2 hx392_0 hx392_1 hx392_2 hHeld ⊢; refine pure_ (i := 0) (N := some 59) (v := ?_) (a' := ?_) #[true, false, false, false, false, false, false, false, false, false, false, false, false] rfl rfl (any_of HT_.out (by kernel_rfl)) (fun _ _ _ h => h) (Or.inl ⟨by rfl, ?_⟩) ?_ ?_; rotate_left
                     · intro w'
                       go_simp; (with_reducible rfl)
                     rotate_left
                     · simp only [Act.put, pa9_1, pa9_2, pa9_3, i64_w, i32_w]
                       rfl
                     refine pure_ (i := 2) (N := some 61) (v := ?_) (a' := ?_) #[true, false, true, false, false, false, false, false, false, false, false, false, false] rfl rfl (any_of HT_.out (by kernel_rfl)) (fun _ _ _ h => h) (Or.inl ⟨by rfl, ?_⟩) ?_ ?_; rotate_left
                     · intro w'
                       go_simp; (with_reducible rfl)
                     rotate_left
                     · simp only [Act.put, pa9_1, pa9_2, pa9_3, i64_w, i32_w]
                       rfl
                     refine pure_ (i := 3) (N := some 62) (v := ?_) (a' := ?_) #[true, false, true, true, false, false, false, false, false, false, false, false, false] rfl rfl (any_of HT_.out (by kernel_rfl)) (fun _ _ _ h => h) (Or.inl ⟨by rfl, ?_⟩) ?_ ?_; rotate_left
                     · intro w'
                       go_simp; (with_reducible rfl)
                     rotate_left
                     · simp only [Act.put, pa9_1, pa9_2, pa9_3, i64_w, i32_w]
                       rfl
                     refine pure_ (i := 6) (N := some 65) (v := ?_) (a' := ?_) #[true, false, true, true, false, false, true, false, false, false, false, false, false] rfl rfl (any_of HT_.out (by kernel_rfl)) (fun _ _ _ h => h) (Or.inl ⟨by rfl, ?_⟩) ?_ ?_; rotate_left
                     · intro w'
                       go_simp; (with_reducible rfl)
                     rotate_left
                     · simp only [Act.put, pa9_1, pa9_2, pa9_3, i64_w, i32_w]
                       rfl
                     refine pure_ (i := 8) (N := some 67) (v := ?_) (a' := ?_) #[true, false, true, true, false, false, true, false, true, false, false, false, false] rfl rfl (any_of HT_.out (by kernel_rfl)) (fun _ _ _ h => h) (Or.inl ⟨by rfl, ?_⟩) ?_ ?_; rotate_left
                     · intro w'
                       go_simp; (with_reducible rfl)
                     rotate_left
                     · simp only [Act.put, pa9_1, pa9_2, pa9_3, i64_w, i32_w]
                       rfl
                     refine take_ (i := 1) (N := some 60) (v := ?_) (a' := ?_) #[true, true, true, true, false, false, true, false, true, false, false, false, false] rfl rfl (take_ofW HT_.out HW_.out (by kernel_rfl)) (fun _ _ _ h => h) (Or.inl ⟨by rfl, ?_⟩) hHeld ?_ ?_; rotate_left
                     · rintro w' ⟨s0, s1, s2, s3, s4, s5, s6, s7, s8, s9, s10, s11, s12, s13, s14, s15⟩
                       go_simp; (with_reducible rfl)
                     rotate_left
                     · simp only [Act.put, pa9_1, pa9_2, pa9_3, i64_w, i32_w]
                       rfl
                     refine pure_ (i := 4) (N := some 63) (v := ?_) (a' := ?_) #[true, true, true, true, true, false, true, false, true, false, false, false, false] rfl rfl (any_of HT_.out (by kernel_rfl)) (fun _ _ _ h => h) (Or.inl ⟨by rfl, ?_⟩) ?_ ?_; rotate_left
                     · intro w'
                       go_simp; (with_reducible rfl)
                     rotate_left
                     · simp only [Act.put, pa9_1, pa9_2, pa9_3, i64_w, i32_w]
                       rfl
                     refine take_ (i := 5) (N := some 64) (v := ?_) (a' := ?_) #[true, true, true, true, true, true, true, false, true, false, false, false, false] rfl rfl (take_ofW HT_.out HW_.out (by kernel_rfl)) (fun _ _ _ h => h) (Or.inl ⟨by rfl, ?_⟩) hHeld ?_ ?_; rotate_left
                     · rintro w' ⟨s0, s1, s2, s3, s4, s5, s6, s7, s8, s9, s10, s11, s12, s13, s14, s15⟩
                       go_simp; (with_reducible rfl)
                     rotate_left
                     · simp only [Act.put, pa9_1, pa9_2, pa9_3, i64_w, i32_w]
                       rfl
                     refine take_ (i := 7) (N := some 66) (v := ?_) (a' := ?_) #[true, true, true, true, true, true, true, true, true, false, false, false, false] rfl rfl (take_ofW HT_.out HW_.out (by kernel_rfl)) (fun _ _ _ h => h) (Or.inl ⟨by rfl, ?_⟩) hHeld ?_ ?_; rotate_left
                     · rintro w' ⟨s0, s1, s2, s3, s4, s5, s6, s7, s8, s9, s10, s11, s12, s13, s14, s15⟩
                       go_simp; (with_reducible rfl)
                     rotate_left
                     · simp only [Act.put, pa9_1, pa9_2, pa9_3, i64_w, i32_w]
                       rfl
                     refine pure_ (i := 9) (N := some 68) (v := ?_) (a' := ?_) #[true, true, true, true, true, true, true, true, true, true, false, false, false] rfl rfl (any_of HT_.out (by kernel_rfl)) (fun _ _ _ h => h) (Or.inl ⟨by rfl, ?_⟩) ?_ ?_; rotate_left
                     · intro w'
                       go_simp; (with_reducible rfl)
                     rotate_left
                     · simp only [Act.put, pa9_1, pa9_2, pa9_3, i64_w, i32_w]
                       rfl
                     refine take_ (i := 10) (N := some 69) (v := ?_) (a' := ?_) #[true, true, true, true, true, true, true, true, true, true, true, false, false] rfl rfl (take_ofW HT_.out HW_.out (by kernel_rfl)) (fun _ _ _ h => h) (Or.inl ⟨by rfl, ?_⟩) hHeld ?_ ?_; rotate_left
                     · rintro w' ⟨s0, s1, s2, s3, s4, s5, s6, s7, s8, s9, s10, s11, s12, s13, s14, s15⟩
                       go_simp; (with_reducible rfl)
                     rotate_left
                     · simp only [Act.put, pa9_1, pa9_2, pa9_3, i64_w, i32_w]
                       rfl
                     refine one_ (i := 11) (N := some 70) #[true, true, true, true, true, true, true, true, true, true, true, true, false] rfl rfl (one_of HT_.out (by kernel_rfl)) (by decide) (fun K hK => ?_); refine goes_ Tryd.func24 (by kernel_rfl) rfl #[.agg #[.int .i64 ((rd_T28 t376 (ji80)).f0), .int .i64 ((rd_T28 t376 (ji80)).f1), .string ((rd_T28 t376 (ji80)).f2)], .agg #[.int .i64 ((rd_T28 t384 x9_5).f0), .int .i64 ((rd_T28 t384 x9_5).f1), .string ((rd_T28 t384 x9_5).f2)]] (by rfl) rfl rfl (by (try simp only [List.map_toArray, List.map_cons, List.map_nil]); first | done | (simp only [hji80]; rfl) | rfl | (simp only [List.length_drop, List.length_take]; rfl)) ?_; (with_reducible refine (impl_SameValues.calls ((rd_T28 t376 (ji80)).f0) ((rd_T28 t376 (ji80)).f1) ((rd_T28 t376 (ji80)).f2) ((rd_T28 t384 x9_5).f0) ((rd_T28 t384 x9_5).f1) ((rd_T28 t384 x9_5).f2) false _ A85.out).mono ?_); rintro e w90 ⟨rfl, hb⟩; have HS10_ := (hb.cell (World.block_lt_of_cell? _ _ (hHeld.2.2.2.2.2.2.2.2.2.2.1))).trans (hHeld.2.2.2.2.2.2.2.2.2.2.1); have HS11_ := (hb.cell (World.block_lt_of_cell? _ _ (hHeld.2.2.2.2.2.2.2.2.2.2.2.1))).trans (hHeld.2.2.2.2.2.2.2.2.2.2.2.1); have HS12_ := (hb.cell (World.block_lt_of_cell? _ _ (hHeld.2.2.2.2.2.2.2.2.2.2.2.2.1))).trans (hHeld.2.2.2.2.2.2.2.2.2.2.2.2.1); have HS13_ := (hb.cell (World.block_lt_of_cell? _ _ (hHeld.2.2.2.2.2.2.2.2.2.2.2.2.2.1))).trans (hHeld.2.2.2.2.2.2.2.2.2.2.2.2.2.1)
                     have HS14_ := (hb.cell (World.block_lt_of_cell? _ _ (hHeld.2.2.2.2.2.2.2.2.2.2.2.2.2.2.1))).trans (hHeld.2.2.2.2.2.2.2.2.2.2.2.2.2.2.1); have HS15_ := (hb.cell (World.block_lt_of_cell? _ _ (hHeld.2.2.2.2.2.2.2.2.2.2.2.2.2.2.2))).trans (hHeld.2.2.2.2.2.2.2.2.2.2.2.2.2.2.2); refine ⟨_, rfl, ?_⟩; have n0_ := ak (Kd.R_below d9_8 hb); have n1_ := ak (Kd.R_below d9_14 hb); have n2_ := ak (Kd.R_below d9_15 hb); have n3_ := ak (blk_below (g := gb358) (o := .cells #[.int .i64 t352, .int .i64 t353, .string t354] 28 (0, 0)) d9_1 hb); have n4_ := ak (blk_below (g := gb359) (o := .cells #[.int .i64 t355, .int .i64 t356, .string t357] 28 (0, 0)) d9_2 hb); have n5_ := ak (blk_below (g := gb367) (o := .cells #[.int .i64 t360, .slice Ao20 t361.length co20, .int .i64 t364, .int .i64 t365, .string t366] 30 (0, 0)) d9_4 hb); have n6_ := ak (blk_below (g := gb382) (o := .cells #[.int .i64 t375, .slice (some ad391) t376.length co38, .int .i64 t379, .int .i64 t380, .string t381] 45 (0, 0)) d9_7 hb); have n7_ := ak (blk_below (g := gb390) (o := .cells #[.int .i64 t383, .slice (some ad392) t384.length co48, .int .i64 t387, .int .i64 t388, .string t389] 45 (0, 0)) d9_10 hb); have n8_ := ak (below_step d9_3 hb); clear HO_368001; clear HO_383001; clear HO_391001; clear BK358; clear BK359; clear BK367; clear BK382; clear BK390; clear HB; have HO_368001 := n0_; have HO_383001 := n1_; have HO_391001 := n2_; have BK358 := n3_; have BK359 := n4_; have BK367 := n5_
                     have BK382 := n6_; have BK390 := n7_; have HB := n8_; clear n0_ n1_ n2_ n3_ n4_ n5_ n6_ n7_ n8_
                     (try clear hb)
                     (try clear hb2)
                     (try clear hk)
                     (try clear hi)
                     refine hK.out _ _ ⟨(blk_cell BK382.out 0).trans rfl, (blk_cell BK382.out 1).trans rfl, (blk_cell BK382.out 2).trans rfl, (blk_cell BK382.out 3).trans rfl, (blk_cell BK382.out 4).trans rfl, (blk_cell BK390.out 0).trans rfl, (blk_cell BK390.out 1).trans rfl, (blk_cell BK390.out 2).trans rfl, (blk_cell BK390.out 3).trans rfl, (blk_cell BK390.out 4).trans rfl, HS10_, HS11_, HS12_, HS13_, HS14_, HS15_⟩ (fun hHeld => ?_); clear hK K; refine norm_ (a' := ?_) ?_ ?_; rotate_left
                     · show Act.put _ (some 70) _ = _
                       simp only [Act.put, pa9_1, pa9_2, pa9_3, i64_w, i32_w]; rfl
                     refine pure_ (i := 12) (N := some 71) (v := ?_) (a' := ?_) #[true, true, true, true, true, true, true, true, true, true, true, true, true] rfl rfl (any_of HT_.out (by kernel_rfl)) (fun _ _ _ h => h) (Or.inl ⟨by rfl, ?_⟩) ?_ ?_; rotate_left
                     · intro w'
                       go_simp; (with_reducible rfl)
                     rotate_left
                     · simp only [Act.put, pa9_1, pa9_2, pa9_3, i64_w, i32_w]
                       rfl
                     refine done_ (done_of HT_.out (by kernel_rfl)) ?_
                     try go_wp2
                     go_ret; exact ⟨by first | rfl | (simp [errW_none, errW_some] <;> rfl) | (simp only [← hji80]; first | rfl | (simp [errW_none, errW_some] <;> rfl)) | (simp [*, errW_none, errW_some] <;> rfl), c9_1⟩
                   ·rw [if_neg c84] at H
                    exact absurd H (by simp)
                  ·rw [if_neg c83] at H
                   exact absurd H (by simp)
                 ·rw [if_neg c82] at H
                  exact absurd H (by simp)
                ·rw [if_neg c81] at H
                 exact absurd H (by simp)
               case rest =>
                clear HC79
                (try clear c1); (try clear c2); (try clear p2); (try clear c3); (try clear c4); (try clear c5); (try clear c6); (try clear c7); (try clear c11); (try clear c12); (try clear c15); (try clear c17); (try clear c18); (try clear c21); (try clear c21b0); (try clear c21b1); (try clear c22); (try clear c23); (try clear c29); (try clear c30); (try clear c34); (try clear c35); (try clear c36); (try clear c39); (try clear c43); (try clear c44); (try clear c45); (try clear c46); (try clear c49); (try clear c49b0); (try clear c49b1); (try clear c50); (try clear c51); (try clear c52); (try clear c53); (try clear c55); (try clear c56); (try clear c57); (try clear c59); (try clear c60); (try clear c61); (try clear c62); (try clear c65); (try clear c66); (try clear c67); (try clear c68); (try clear c69); (try clear c73); (try clear c74); (try clear c75); (try clear c76); (try clear c78); (try clear c78b0); (try clear hcz12_0); (try clear hcz12_1); (try clear hcz12_2); (try clear hcz13_0); (try clear hcz13_1); (try clear hcz13_2); (try clear hcz19_0); (try clear hcz19_1); (try clear hcz19_2); (try clear hcz19_3); (try clear hcz19_4); (try clear hcz31_0); (try clear hcz31_1); (try clear hcz31_2); (try clear hcz31_3); (try clear hcz31_4); (try clear hcz37_0); (try clear hcz37_1); (try clear hcz37_2); (try clear hcz37_3); (try clear hcz37_4); (try clear hcz40_0); (try clear hcz40_1); (try clear hcz40_2); (try clear hcz47_0); (try clear hcz47_1); (try clear hcz47_2); (try clear hcz47_3); (try clear hcz47_4); (try clear hcz54_0); (try clear hcz54_1); (try clear hcz54_2); (try clear hcz54_3); (try clear hcz54_4); (try clear hcz58_0); (try clear hcz58_1); (try clear hcz58_2); (try clear hcz58_3); (try clear hcz58_4); (try clear hcz63_0); (try clear hcz63_1); (try clear hcz63_2); (try clear hcz63_3); (try clear hcz63_4); (try clear hcz70_0); (try clear hcz70_1); (try clear hcz70_2); (try clear hcz70_3); (try clear hcz70_4); (try clear hcz77_0); (try clear hcz77_1); (try clear hcz77_2); (try clear hcz77_3); (try clear hcz77_4); (try clear hfz12_0); (try clear hfz12_1); (try clear hfz12_2); (try clear hfz13_0); (try clear hfz13_1); (try clear hfz13_2); (try clear hfz19_0); (try clear hfz19_1); (try clear hfz19_2); (try clear hfz19_3); (try clear hfz19_4); (try clear hfz31_0); (try clear hfz31_1); (try clear hfz31_2); (try clear hfz31_3); (try clear hfz31_4); (try clear hfz37_0); (try clear hfz37_1); (try clear hfz37_2); (try clear hfz37_3); (try clear hfz37_4); (try clear hfz40_0); (try clear hfz40_1); (try clear hfz40_2); (try clear hfz47_0); (try clear hfz47_1); (try clear hfz47_2); (try clear hfz47_3); (try clear hfz47_4); (try clear hfz54_0); (try clear hfz54_1); (try clear hfz54_2); (try clear hfz54_3); (try clear hfz54_4); (try clear hfz58_0); (try clear hfz58_1); (try clear hfz58_2); (try clear hfz58_3); (try clear hfz58_4); (try clear hfz63_0); (try clear hfz63_1); (try clear hfz63_2); (try clear hfz63_3); (try clear hfz63_4); (try clear hfz70_0); (try clear hfz70_1); (try clear hfz70_2); (try clear hfz70_3); (try clear hfz70_4); (try clear hfz77_0); (try clear hfz77_1); (try clear hfz77_2); (try clear hfz77_3); (try clear hfz77_4); (try clear p2)
                obtain ⟨kq, HA, HJ78, HO_368001, HO_383001, HO_391001, BK358, BK359, BK367, BK382, BK390, HB⟩ := hcut
                cases kq with
                | zero => exact absurd HA.out (by simp [laws_FnLists.j6])
                | succ kj78 =>
                 have H := HA.out; clear HA; simp only [laws_FnLists.j6] at H; have H' := ak H; clear H; go_wp2; go_roundg kj78
                 case measure => have := HJ2.out; have := HJ6.out; have := HJ27.out; have := HJ63.out; have := HK5.out; have := HJ71.out; have := HJ78.out; omega
                 case rel => exact ⟨(wrap64 (x9_5 + 1)), d9_16, H', ⟨by have := HJ2.out; have := HJ6.out; have := HJ27.out; have := HJ63.out; have := HK5.out; have := HJ71.out; have := HJ78.out; omega⟩, ⟨c9_7⟩, ⟨c9_8⟩, ⟨c9_9⟩, ⟨c9_2⟩, ⟨c9_3⟩, ⟨c9_4⟩, ⟨c9_5⟩, ⟨c9_6⟩, ⟨c9_1⟩⟩
          case rest =>
           clear HC71
           (try clear c1); (try clear c2); (try clear p2); (try clear c3); (try clear c4); (try clear c5); (try clear c6); (try clear c11); (try clear c12); (try clear c15); (try clear c17); (try clear c18); (try clear c21); (try clear c21b0); (try clear c21b1); (try clear c22); (try clear c23); (try clear c29); (try clear c30); (try clear c34); (try clear c35); (try clear c36); (try clear c39); (try clear c43); (try clear c44); (try clear c45); (try clear c46); (try clear c49); (try clear c49b0); (try clear c49b1); (try clear c50); (try clear c51); (try clear c52); (try clear c53); (try clear c55); (try clear c56); (try clear c57); (try clear c59); (try clear c60); (try clear c61); (try clear c62); (try clear c65); (try clear c66); (try clear c67); (try clear c68); (try clear c69); (try clear hcz12_0); (try clear hcz12_1); (try clear hcz12_2); (try clear hcz13_0); (try clear hcz13_1); (try clear hcz13_2); (try clear hcz19_0); (try clear hcz19_1); (try clear hcz19_2); (try clear hcz19_3); (try clear hcz19_4); (try clear hcz31_0); (try clear hcz31_1); (try clear hcz31_2); (try clear hcz31_3); (try clear hcz31_4); (try clear hcz37_0); (try clear hcz37_1); (try clear hcz37_2); (try clear hcz37_3); (try clear hcz37_4); (try clear hcz40_0); (try clear hcz40_1); (try clear hcz40_2); (try clear hcz47_0); (try clear hcz47_1); (try clear hcz47_2); (try clear hcz47_3); (try clear hcz47_4); (try clear hcz54_0); (try clear hcz54_1); (try clear hcz54_2); (try clear hcz54_3); (try clear hcz54_4); (try clear hcz58_0); (try clear hcz58_1); (try clear hcz58_2); (try clear hcz58_3); (try clear hcz58_4); (try clear hcz63_0); (try clear hcz63_1); (try clear hcz63_2); (try clear hcz63_3); (try clear hcz63_4); (try clear hcz70_0); (try clear hcz70_1); (try clear hcz70_2); (try clear hcz70_3); (try clear hcz70_4); (try clear hfz12_0); (try clear hfz12_1); (try clear hfz12_2); (try clear hfz13_0); (try clear hfz13_1); (try clear hfz13_2); (try clear hfz19_0); (try clear hfz19_1); (try clear hfz19_2); (try clear hfz19_3); (try clear hfz19_4); (try clear hfz31_0); (try clear hfz31_1); (try clear hfz31_2); (try clear hfz31_3); (try clear hfz31_4); (try clear hfz37_0); (try clear hfz37_1); (try clear hfz37_2); (try clear hfz37_3); (try clear hfz37_4); (try clear hfz40_0); (try clear hfz40_1); (try clear hfz40_2); (try clear hfz47_0); (try clear hfz47_1); (try clear hfz47_2); (try clear hfz47_3); (try clear hfz47_4); (try clear hfz54_0); (try clear hfz54_1); (try clear hfz54_2); (try clear hfz54_3); (try clear hfz54_4); (try clear hfz58_0); (try clear hfz58_1); (try clear hfz58_2); (try clear hfz58_3); (try clear hfz58_4); (try clear hfz63_0); (try clear hfz63_1); (try clear hfz63_2); (try clear hfz63_3); (try clear hfz63_4); (try clear hfz70_0); (try clear hfz70_1); (try clear hfz70_2); (try clear hfz70_3); (try clear hfz70_4); (try clear p2)
           obtain ⟨kq, HA, HJ70, HO_368001, HO_383001, HO_391001, BK358, BK359, BK367, BK382, BK390, HB⟩ := hcut
           cases kq with
           | zero => exact absurd HA.out (by simp [laws_FnLists.j7])
           | succ kj70 =>
            have H := HA.out; clear HA; simp only [laws_FnLists.j7] at H; have HC91 := ak H; clear H; go_upto_region 16 with (fail); go_cut [2] (fun v2 wc => ∃ (kq : Nat) (x2_90 : Bool), v2 = .bool x2_90 ∧ Aside0 (laws_FnLists.j8 kq x2_90 = some r) ∧ Aside0 (kq ≤ kj70) ∧ Aside0 (Kd.R k70 70 wc w.heap.size (fun _ => True) (.slice Ao20 t361.length co20) t361) ∧ Aside0 (Kd.R k28 28 wc w.heap.size (fun k_ => some k_ ≠ ((.slice Ao48 t384.length co48) : Value).ownBlock ∧ k_ ≠ gb358 ∧ k_ ≠ gb359) (.slice Ao38 t376.length co38) t376) ∧ Aside0 (Kd.R k28 28 wc w.heap.size (fun k_ => some k_ ≠ ((.slice Ao38 t376.length co38) : Value).ownBlock ∧ k_ ≠ gb358 ∧ k_ ≠ gb359) (.slice Ao48 t384.length co48) t384) ∧ Aside0 (wc.heap[gb358]? = some (.cells #[.int .i64 t352, .int .i64 t353, .string t354] 28 (0, 0))) ∧ Aside0 (wc.heap[gb359]? = some (.cells #[.int .i64 t355, .int .i64 t356, .string t357] 28 (0, 0))) ∧ Aside0 (wc.heap[gb367]? = some (.cells #[.int .i64 t360, (.slice Ao20 t361.length co20), .int .i64 t364, .int .i64 t365, .string t366] 30 (0, 0))) ∧ Aside0 (wc.heap[gb382]? = some (.cells #[.int .i64 t375, (.slice Ao38 t376.length co38), .int .i64 t379, .int .i64 t380, .string t381] 45 (0, 0))) ∧ Aside0 (wc.heap[gb390]? = some (.cells #[.int .i64 t383, (.slice Ao48 t384.length co48), .int .i64 t387, .int .i64 t388, .string t389] 45 (0, 0))) ∧ Aside0 (Below w.heap.size w wc))
            case first =>
             have H := HC91.out; clear HC91; by_cases c92 : (t376.length : Int) = (wrap64 ((t384.length : Int) + 1))
             ·rw [if_pos c92] at H
              have c92b0 : ((t376.length : Int) == (wrap64 ((t384.length : Int) + 1))) = true := beq_iff_eq.mpr c92; have c92b1 : ((t376.length : Int) != (wrap64 ((t384.length : Int) + 1))) = false := bne_eq_false_iff_eq.mpr c92; clear c92
              (first | rw [c92b0] | (simp only [i64_w, i32_w]; rw [c92b0]) | skip)
              by_cases c93 : 0 < (t376.length : Int)
              ·rw [if_pos c93] at H
               have c93b0 : decide (0 < (t376.length : Int)) = true := decide_eq_true c93; have c93b1 : decide (0 < t376.length) = true := decide_eq_true (by omega); clear c93; replace H := Option.bind_eq_some_iff.mp H; obtain ⟨t395, A940, H⟩ := H; (try dsimp -simprocs only at H); have A94 := ak A940; clear A940; by_cases c95 : t395 = true
               ·subst c95
                rw [if_pos rfl] at H; replace H := Option.bind_eq_some_iff.mp H; obtain ⟨t396, A960, H⟩ := H; (try dsimp -simprocs only at H); have A96 := ak A960; clear A960; by_cases c97 : t396 = true
                ·subst c97
                 rw [if_pos rfl] at H; replace H := Option.bind_eq_some_iff.mp H; obtain ⟨t397, A980, H⟩ := H; (try dsimp -simprocs only at H); have A98 := ak A980; clear A980; have H' := ak H; clear H
                 try go_wp2
                 have n0_ := ak (Kd.R_drew HO_368001.out); have n1_ := ak (Kd.R_drew HO_383001.out); have n2_ := ak (Kd.R_drew HO_391001.out); have n3_ := ak (blk_drew BK358.out); have n4_ := ak (blk_drew BK359.out); have n5_ := ak (blk_drew BK367.out); have n6_ := ak (blk_drew BK382.out); have n7_ := ak (blk_drew BK390.out); have n8_ := ak (below_drew1 HB.out); clear HO_368001; clear HO_383001; clear HO_391001; clear BK358; clear BK359; clear BK367; clear BK382; clear BK390; clear HB; have HO_368001 := n0_; have HO_383001 := n1_; have HO_391001 := n2_; have BK358 := n3_; have BK359 := n4_; have BK367 := n5_; have BK382 := n6_; have BK390 := n7_; have HB := n8_; clear n0_ n1_ n2_ n3_ n4_ n5_ n6_ n7_ n8_; have p394 : 0 ≤ (0 : Int) := (by omega); have q394 : 0 < (t376.length : Int) := of_decide_eq_true d9_18; obtain ⟨ad394, e394, hx394_0, hx394_1, hx394_2⟩ := at_T28 (Kd.R_reads' HO_383001.out).2.2 0 p394 q394
                 cases e394
                 have qi394 : (0 < t376.length) = True := eq_true (by omega)
                 (try rw [show ((0 : Int)).toNat = 0 from rfl] at hx394_0)
                 (try rw [show 0 * 3 = 0 from rfl] at hx394_0)
                 (try rw [Addr.add_zero'] at hx394_0)
                 (try rw [show ((0 : Int)).toNat = 0 from rfl] at hx394_1)
                 (try rw [show 0 * 3 = 0 from rfl] at hx394_1)
                 (try rw [Addr.add_zero'] at hx394_1)
                 (try rw [show ((0 : Int)).toNat = 0 from rfl] at hx394_2)
                 (try rw [show 0 * 3 = 0 from rfl] at hx394_2)
                 (try rw [Addr.add_zero'] at hx394_2)
                 replace p394 := eq_true p394; replace q394 := eq_true q394
                 refine start_ (n := 30) (S := fun w' => w'.cell? ⟨gb382, 0, none⟩ = some (.int .i64 t375) ∧ w'.cell? ⟨gb382, 1, none⟩ = some (.slice (some ad394) t376.length co38) ∧ w'.cell? ⟨gb382, 2, none⟩ = some (.int .i64 t379) ∧ w'.cell? ⟨gb382, 3, none⟩ = some (.int .i64 t380) ∧ w'.cell? ⟨gb382, 4, none⟩ = some (.string t381) ∧ w'.cell? ⟨gb390, 0, none⟩ = some (.int .i64 t383) ∧ w'.cell? ⟨gb390, 1, none⟩ = some (.slice Ao48 t384.length co48) ∧ w'.cell? ⟨gb390, 2, none⟩ = some (.int .i64 t387) ∧ w'.cell? ⟨gb390, 3, none⟩ = some (.int .i64 t388) ∧ w'.cell? ⟨gb390, 4, none⟩ = some (.string t389) ∧ w'.cell? ⟨gb358, 0, none⟩ = some (.int .i64 t352) ∧ w'.cell? ⟨gb358, 1, none⟩ = some (.int .i64 t353) ∧ w'.cell? ⟨gb358, 2, none⟩ = some (.string t354) ∧ w'.cell? ⟨gb367, 0, none⟩ = some (.int .i64 t360) ∧ w'.cell? ⟨gb367, 1, none⟩ = some (.slice Ao20 t361.length co20) ∧ w'.cell? ⟨gb367, 2, none⟩ = some (.int .i64 t364) ∧ w'.cell? ⟨gb367, 3, none⟩ = some (.int .i64 t365) ∧ w'.cell? ⟨gb367, 4, none⟩ = some (.string t366) ∧ w'.cell? ad394 = some (.int .i64 ((rd_T28 t376 0).f0)) ∧ w'.cell? ⟨ad394.block, ad394.off + 1, none⟩ = some (.int .i64 ((rd_T28 t376 0).f1)) ∧ w'.cell? ⟨ad394.block, ad394.off + 2, none⟩ = some (.string ((rd_T28 t376 0).f2))) (ds := []) m9_0 (by kernel_rfl) rfl rfl ⟨(blk_cell BK382.out 0).trans rfl, (blk_cell BK382.out 1).trans rfl, (blk_cell BK382.out 2).trans rfl, (blk_cell BK382.out 3).trans rfl, (blk_cell BK382.out 4).trans rfl, (blk_cell BK390.out 0).trans rfl, (blk_cell BK390.out 1).trans rfl, (blk_cell BK390.out 2).trans rfl, (blk_cell BK390.out 3).trans rfl, (blk_cell BK390.out 4).trans rfl, (blk_cell BK358.out 0).trans rfl, (blk_cell BK358.out 1).trans rfl, (blk_cell BK358.out 2).trans rfl, (blk_cell BK367.out 0).trans rfl, (blk_cell BK367.out 1).trans rfl, (blk_cell BK367.out 2).trans rfl, (blk_cell BK367.out 3).trans rfl, (blk_cell BK367.out 4).trans rfl, hx394_0, hx394_1, hx394_2⟩ (fun hHeld => ?_); refine with_tabW laws_FnLists.tab16 laws_FnLists.bits16 (fun HT_ HW_ => ?_)
                 generalize wc.drew = w99 at HO_368001 HO_383001 HO_391001 BK358 BK359 BK367 BK382 BK390 HB hx394_0 hx394_1 hx394_2 hHeld ⊢; refine pure_ (i := 0) (N := some 72) (v := ?_) (a' := ?_) m9_1 rfl rfl (any_of HT_.out (by kernel_rfl)) (fun _ _ _ h => h) (Or.inl ⟨by rfl, ?_⟩) ?_ ?_; rotate_left
                 · intro w'
                   go_simp; (with_reducible rfl)
                 rotate_left
                 · simp only [Act.put, pa9_1, pa9_2, pa9_3, i64_w, i32_w]
                   rfl
                 refine pure_ (i := 3) (N := some 75) (v := ?_) (a' := ?_) m9_2 rfl rfl (any_of HT_.out (by kernel_rfl)) (fun _ _ _ h => h) (Or.inl ⟨by rfl, ?_⟩) ?_ ?_; rotate_left
                 · intro w'
                   go_simp; (with_reducible rfl)
                 rotate_left
                 · simp only [Act.put, pa9_1, pa9_2, pa9_3, i64_w, i32_w]
                   rfl
                 refine take_ (i := 1) (N := some 73) (v := ?_) (a' := ?_) m9_3 rfl rfl (take_ofW HT_.out HW_.out (by kernel_rfl)) (fun _ _ _ h => h) (Or.inl ⟨by rfl, ?_⟩) hHeld ?_ ?_; rotate_left
                 · rintro w' ⟨s0, s1, s2, s3, s4, s5, s6, s7, s8, s9, s10, s11, s12, s13, s14, s15, s16, s17, s18, s19, s20⟩
                   go_simp; (with_reducible rfl)
                 rotate_left
                 · simp only [Act.put, pa9_1, pa9_2, pa9_3, i64_w, i32_w]
                   rfl
                 refine pure_ (i := 2) (N := some 74) (v := ?_) (a' := ?_) m9_4 rfl rfl (any_of HT_.out (by kernel_rfl)) (fun _ _ _ h => h) (Or.inl ⟨by rfl, ?_⟩) ?_ ?_; rotate_left
                 · intro w'
                   go_simp; (with_reducible rfl)
                 rotate_left
                 · simp only [Act.put, pa9_1, pa9_2, pa9_3, i64_w, i32_w]
                   rfl
                 refine take_ (i := 4) (N := some 76) (v := ?_) (a' := ?_) m9_5 rfl rfl (take_ofW HT_.out HW_.out (by kernel_rfl)) (fun _ _ _ h => h) (Or.inl ⟨by rfl, ?_⟩) hHeld ?_ ?_; rotate_left
                 · rintro w' ⟨s0, s1, s2, s3, s4, s5, s6, s7, s8, s9, s10, s11, s12, s13, s14, s15, s16, s17, s18, s19, s20⟩
                   go_simp; (with_reducible rfl)
                 rotate_left
                 · simp only [Act.put, pa9_1, pa9_2, pa9_3, i64_w, i32_w]
                   rfl
                 refine pure_ (i := 5) (N := some 77) (v := ?_) (a' := ?_) m9_6 rfl rfl (any_of HT_.out (by kernel_rfl)) (fun _ _ _ h => h) (Or.inl ⟨by rfl, ?_⟩) ?_ ?_; rotate_left
                 · intro w'
                   go_simp; (with_reducible rfl)
                 rotate_left
                 · simp only [Act.put, pa9_1, pa9_2, pa9_3, i64_w, i32_w]
                   rfl
                 refine pure_ (i := 6) (N := some 78) (v := ?_) (a' := ?_) m9_7 rfl rfl (any_of HT_.out (by kernel_rfl)) (fun _ _ _ h => h) (Or.inl ⟨by rfl, ?_⟩) ?_ ?_; rotate_left
                 · intro w'
                   go_simp; (with_reducible rfl)
                 rotate_left
                 · simp only [Act.put, pa9_1, pa9_2, pa9_3, i64_w, i32_w]
                   rfl
                 refine pure_ (i := 7) (N := some 79) (v := ?_) (a' := ?_) m9_8 rfl rfl (any_of HT_.out (by kernel_rfl)) (fun _ _ _ h => h) (Or.inl ⟨by rfl, ?_⟩) ?_ ?_; rotate_left
                 · intro w'
                   go_simp; (with_reducible rfl)
                 rotate_left
                 · simp only [Act.put, pa9_1, pa9_2, pa9_3, i64_w, i32_w]
                   rfl
                 refine pure_ (i := 8) (N := some 80) (v := ?_) (a' := ?_) m9_9 rfl rfl (any_of HT_.out (by kernel_rfl)) (fun _ _ _ h => h) (Or.inl ⟨by rfl, ?_⟩) ?_ ?_; rotate_left
                 · intro w'
                   go_simp; (with_reducible rfl)
                 rotate_left
                 · simp only [Act.put, pa9_1, pa9_2, pa9_3, i64_w, i32_w]
                   rfl
                 refine pure_ (i := 9) (N := some 81) (v := ?_) (a' := ?_) m9_10 rfl rfl (any_of HT_.out (by kernel_rfl)) (fun _ _ _ h => h) (Or.inl ⟨by rfl, ?_⟩) ?_ ?_; rotate_left
                 · intro w'
                   go_simp; (with_reducible rfl)
                 rotate_left
                 · simp only [Act.put, pa9_1, pa9_2, pa9_3, i64_w, i32_w]
                   rfl
                 refine take_ (i := 10) (N := some 82) (v := ?_) (a' := ?_) m9_11 rfl rfl (take_ofW HT_.out HW_.out (by kernel_rfl)) (fun _ _ _ h => h) (Or.inl ⟨by rfl, ?_⟩) hHeld ?_ ?_; rotate_left
                 · rintro w' ⟨s0, s1, s2, s3, s4, s5, s6, s7, s8, s9, s10, s11, s12, s13, s14, s15, s16, s17, s18, s19, s20⟩
                   go_simp; (with_reducible rfl)
                 rotate_left
                 · simp only [Act.put, pa9_1, pa9_2, pa9_3, i64_w, i32_w]
                   rfl
                 refine pure_ (i := 11) (N := some 83) (v := ?_) (a' := ?_) m9_12 rfl rfl (any_of HT_.out (by kernel_rfl)) (fun _ _ _ h => h) (Or.inl ⟨by rfl, ?_⟩) ?_ ?_; rotate_left
                 · intro w'
                   go_simp; (with_reducible rfl)
                 rotate_left
                 · simp only [Act.put, pa9_1, pa9_2, pa9_3, i64_w, i32_w]
                   rfl
                 refine take_ (i := 12) (N := some 84) (v := ?_) (a' := ?_) m9_13 rfl rfl (take_ofW HT_.out HW_.out (by kernel_rfl)) (fun _ _ _ h => h) (Or.inl ⟨by rfl, ?_⟩) hHeld ?_ ?_; rotate_left
                 · rintro w' ⟨s0, s1, s2, s3, s4, s5, s6, s7, s8, s9, s10, s11, s12, s13, s14, s15, s16, s17, s18, s19, s20⟩
                   go_simp; (with_reducible rfl)
                 rotate_left
                 · simp only [Act.put, pa9_1, pa9_2, pa9_3, i64_w, i32_w]
                   rfl
                 refine take_ (i := 13) (N := some 85) (v := ?_) (a' := ?_) m9_14 rfl rfl (take_ofW HT_.out HW_.out (by kernel_rfl)) (fun _ _ _ h => h) (Or.inl ⟨by rfl, ?_⟩) hHeld ?_ ?_; rotate_left
                 · rintro w' ⟨s0, s1, s2, s3, s4, s5, s6, s7, s8, s9, s10, s11, s12, s13, s14, s15, s16, s17, s18, s19, s20⟩
                   go_simp; (with_reducible rfl)
                 rotate_left
                 · simp only [Act.put, pa9_1, pa9_2, pa9_3, i64_w, i32_w]
                   rfl
                 refine one_ (i := 14) (N := some 86) m9_15 rfl rfl (one_of HT_.out (by kernel_rfl)) (by decide) (fun K hK => ?_); refine goes_ Tryd.func24 (by kernel_rfl) rfl #[.agg #[.int .i64 ((rd_T28 t376 0).f0), .int .i64 ((rd_T28 t376 0).f1), .string ((rd_T28 t376 0).f2)], .agg #[.int .i64 t352, .int .i64 t353, .string t354]] (by rfl) rfl rfl d9_5 ?_; (with_reducible refine (impl_SameValues.calls ((rd_T28 t376 0).f0) ((rd_T28 t376 0).f1) ((rd_T28 t376 0).f2) t352 t353 t354 true _ A94.out).mono ?_); rintro e w100 ⟨rfl, hb⟩; have HS18_ := (hb.cell (World.block_lt_of_cell? _ _ (hHeld.2.2.2.2.2.2.2.2.2.2.2.2.2.2.2.2.2.2.1))).trans (hHeld.2.2.2.2.2.2.2.2.2.2.2.2.2.2.2.2.2.2.1); have HS19_ := (hb.cell (World.block_lt_of_cell? _ _ (hHeld.2.2.2.2.2.2.2.2.2.2.2.2.2.2.2.2.2.2.2.1))).trans (hHeld.2.2.2.2.2.2.2.2.2.2.2.2.2.2.2.2.2.2.2.1); have HS20_ := (hb.cell (World.block_lt_of_cell? _ _ (hHeld.2.2.2.2.2.2.2.2.2.2.2.2.2.2.2.2.2.2.2.2))).trans (hHeld.2.2.2.2.2.2.2.2.2.2.2.2.2.2.2.2.2.2.2.2); refine ⟨_, rfl, ?_⟩; have n0_ := ak (Kd.R_below d9_8 hb); have n1_ := ak (Kd.R_below d9_14 hb); have n2_ := ak (Kd.R_below d9_15 hb); have n3_ := ak (blk_below (g := gb358) (o := .cells #[.int .i64 t352, .int .i64 t353, .string t354] 28 (0, 0)) d9_1 hb)
                 have n4_ := ak (blk_below (g := gb359) (o := .cells #[.int .i64 t355, .int .i64 t356, .string t357] 28 (0, 0)) d9_2 hb); have n5_ := ak (blk_below (g := gb367) (o := .cells #[.int .i64 t360, .slice Ao20 t361.length co20, .int .i64 t364, .int .i64 t365, .string t366] 30 (0, 0)) d9_4 hb); have n6_ := ak (blk_below (g := gb382) (o := .cells #[.int .i64 t375, .slice (some ad394) t376.length co38, .int .i64 t379, .int .i64 t380, .string t381] 45 (0, 0)) d9_7 hb); have n7_ := ak (blk_below (g := gb390) (o := .cells #[.int .i64 t383, .slice Ao48 t384.length co48, .int .i64 t387, .int .i64 t388, .string t389] 45 (0, 0)) d9_10 hb); have n8_ := ak (below_step d9_3 hb); clear HO_368001; clear HO_383001; clear HO_391001; clear BK358; clear BK359; clear BK367; clear BK382; clear BK390; clear HB; have HO_368001 := n0_; have HO_383001 := n1_; have HO_391001 := n2_; have BK358 := n3_; have BK359 := n4_; have BK367 := n5_; have BK382 := n6_; have BK390 := n7_; have HB := n8_; clear n0_ n1_ n2_ n3_ n4_ n5_ n6_ n7_ n8_
                 (try clear hb)
                 (try clear hb2)
                 (try clear hk)
                 (try clear hi)
                 refine hK.out _ _ ⟨(blk_cell BK382.out 0).trans rfl, (blk_cell BK382.out 1).trans rfl, (blk_cell BK382.out 2).trans rfl, (blk_cell BK382.out 3).trans rfl, (blk_cell BK382.out 4).trans rfl, (blk_cell BK390.out 0).trans rfl, (blk_cell BK390.out 1).trans rfl, (blk_cell BK390.out 2).trans rfl, (blk_cell BK390.out 3).trans rfl, (blk_cell BK390.out 4).trans rfl, (blk_cell BK358.out 0).trans rfl, (blk_cell BK358.out 1).trans rfl, (blk_cell BK358.out 2).trans rfl, (blk_cell BK367.out 0).trans rfl, (blk_cell BK367.out 1).trans rfl, (blk_cell BK367.out 2).trans rfl, (blk_cell BK367.out 3).trans rfl, (blk_cell BK367.out 4).trans rfl, HS18_, HS19_, HS20_⟩ (fun hHeld => ?_); clear hK K; refine norm_ (a' := ?_) ?_ ?_; rotate_left
                 · show Act.put _ (some 86) _ = _
                   simp only [Act.put, pa9_1, pa9_2, pa9_3, i64_w, i32_w]; rfl
                 refine pure_ (i := 15) (N := some 87) (v := ?_) (a' := ?_) m9_16 rfl rfl (any_of HT_.out (by kernel_rfl)) (fun _ _ _ h => h) (Or.inl ⟨by rfl, ?_⟩) ?_ ?_; rotate_left
                 · intro w'
                   go_simp; (with_reducible rfl)
                 rotate_left
                 · simp only [Act.put, pa9_1, pa9_2, pa9_3, i64_w, i32_w]
                   rfl
                 refine pure_ (i := 16) (N := some 88) (v := ?_) (a' := ?_) m9_17 rfl rfl (any_of HT_.out (by kernel_rfl)) (fun _ _ _ h => h) (Or.inl ⟨by rfl, ?_⟩) ?_ ?_; rotate_left
                 · intro w'
                   go_simp; (with_reducible rfl)
                 rotate_left
                 · simp only [Act.put, pa9_1, pa9_2, pa9_3, i64_w, i32_w]
                   rfl
                 refine pure_ (i := 17) (N := some 89) (v := ?_) (a' := ?_) m9_18 rfl rfl (any_of HT_.out (by kernel_rfl)) (fun _ _ _ h => h) (Or.inl ⟨by rfl, ?_⟩) ?_ ?_; rotate_left
                 · intro w'
                   go_simp; (with_reducible rfl)
                 rotate_left
                 · simp only [Act.put, pa9_1, pa9_2, pa9_3, i64_w, i32_w]
                   rfl
                 refine pure_ (i := 19) (N := some 91) (v := ?_) (a' := ?_) m9_19 rfl rfl (any_of HT_.out (by kernel_rfl)) (fun _ _ _ h => h) (Or.inl ⟨by rfl, ?_⟩) ?_ ?_; rotate_left
                 · intro w'
                   go_simp; (with_reducible rfl)
                 rotate_left
                 · simp only [Act.put, pa9_1, pa9_2, pa9_3, i64_w, i32_w]
                   rfl
                 refine take_ (i := 18) (N := some 90) (v := ?_) (a' := ?_) m9_21 rfl rfl (take_ofW HT_.out HW_.out (by kernel_rfl)) (fun _ _ _ h => h) (Or.inl ⟨by rfl, ?_⟩) hHeld ?_ ?_; rotate_left
                 · rintro w' ⟨s0, s1, s2, s3, s4, s5, s6, s7, s8, s9, s10, s11, s12, s13, s14, s15, s16, s17, s18, s19, s20⟩
                   go_simp; (with_reducible rfl)
                 rotate_left
                 · simp only [Act.put, pa9_1, pa9_2, pa9_3, i64_w, i32_w]
                   rfl
                 refine take_ (i := 20) (N := some 92) (v := ?_) (a' := ?_) m9_22 rfl rfl (take_ofW HT_.out HW_.out (by kernel_rfl)) (fun _ _ _ h => h) (Or.inl ⟨by rfl, ?_⟩) hHeld ?_ ?_; rotate_left
                 · rintro w' ⟨s0, s1, s2, s3, s4, s5, s6, s7, s8, s9, s10, s11, s12, s13, s14, s15, s16, s17, s18, s19, s20⟩
                   go_simp; (with_reducible rfl)
                 rotate_left
                 · simp only [Act.put, pa9_1, pa9_2, pa9_3, i64_w, i32_w]
                   rfl
                 refine one_ (i := 21) (N := some 93) m9_23 rfl rfl (one_of HT_.out (by kernel_rfl)) (by decide) (fun K hK => ?_); refine goes_ Tryd.func24 (by kernel_rfl) rfl #[.agg #[.int .i64 t379, .int .i64 t380, .string t381], .agg #[.int .i64 t387, .int .i64 t388, .string t389]] (by rfl) rfl rfl d9_5 ?_; (with_reducible refine (impl_SameValues.calls t379 t380 t381 t387 t388 t389 true _ A96.out).mono ?_); rintro e w101 ⟨rfl, hb⟩; have HS18_ := (hb.cell (World.block_lt_of_cell? _ _ (hHeld.2.2.2.2.2.2.2.2.2.2.2.2.2.2.2.2.2.2.1))).trans (hHeld.2.2.2.2.2.2.2.2.2.2.2.2.2.2.2.2.2.2.1); have HS19_ := (hb.cell (World.block_lt_of_cell? _ _ (hHeld.2.2.2.2.2.2.2.2.2.2.2.2.2.2.2.2.2.2.2.1))).trans (hHeld.2.2.2.2.2.2.2.2.2.2.2.2.2.2.2.2.2.2.2.1); have HS20_ := (hb.cell (World.block_lt_of_cell? _ _ (hHeld.2.2.2.2.2.2.2.2.2.2.2.2.2.2.2.2.2.2.2.2))).trans (hHeld.2.2.2.2.2.2.2.2.2.2.2.2.2.2.2.2.2.2.2.2); refine ⟨_, rfl, ?_⟩; have n0_ := ak (Kd.R_below d9_8 hb); have n1_ := ak (Kd.R_below d9_14 hb); have n2_ := ak (Kd.R_below d9_15 hb); have n3_ := ak (blk_below (g := gb358) (o := .cells #[.int .i64 t352, .int .i64 t353, .string t354] 28 (0, 0)) d9_1 hb); have n4_ := ak (blk_below (g := gb359) (o := .cells #[.int .i64 t355, .int .i64 t356, .string t357] 28 (0, 0)) d9_2 hb)
                 have n5_ := ak (blk_below (g := gb367) (o := .cells #[.int .i64 t360, .slice Ao20 t361.length co20, .int .i64 t364, .int .i64 t365, .string t366] 30 (0, 0)) d9_4 hb); have n6_ := ak (blk_below (g := gb382) (o := .cells #[.int .i64 t375, .slice (some ad394) t376.length co38, .int .i64 t379, .int .i64 t380, .string t381] 45 (0, 0)) d9_7 hb); have n7_ := ak (blk_below (g := gb390) (o := .cells #[.int .i64 t383, .slice Ao48 t384.length co48, .int .i64 t387, .int .i64 t388, .string t389] 45 (0, 0)) d9_10 hb); have n8_ := ak (below_step d9_3 hb); clear HO_368001; clear HO_383001; clear HO_391001; clear BK358; clear BK359; clear BK367; clear BK382; clear BK390; clear HB; have HO_368001 := n0_; have HO_383001 := n1_; have HO_391001 := n2_; have BK358 := n3_; have BK359 := n4_; have BK367 := n5_; have BK382 := n6_; have BK390 := n7_; have HB := n8_; clear n0_ n1_ n2_ n3_ n4_ n5_ n6_ n7_ n8_
                 (try clear hb)
                 (try clear hb2)
                 (try clear hk)
                 (try clear hi)
                 refine hK.out _ _ ⟨(blk_cell BK382.out 0).trans rfl, (blk_cell BK382.out 1).trans rfl, (blk_cell BK382.out 2).trans rfl, (blk_cell BK382.out 3).trans rfl, (blk_cell BK382.out 4).trans rfl, (blk_cell BK390.out 0).trans rfl, (blk_cell BK390.out 1).trans rfl, (blk_cell BK390.out 2).trans rfl, (blk_cell BK390.out 3).trans rfl, (blk_cell BK390.out 4).trans rfl, (blk_cell BK358.out 0).trans rfl, (blk_cell BK358.out 1).trans rfl, (blk_cell BK358.out 2).trans rfl, (blk_cell BK367.out 0).trans rfl, (blk_cell BK367.out 1).trans rfl, (blk_cell BK367.out 2).trans rfl, (blk_cell BK367.out 3).trans rfl, (blk_cell BK367.out 4).trans rfl, HS18_, HS19_, HS20_⟩ (fun hHeld => ?_); clear hK K; refine norm_ (a' := ?_) ?_ ?_; rotate_left
                 · show Act.put _ (some 93) _ = _
                   simp only [Act.put, pa9_1, pa9_2, pa9_3, i64_w, i32_w]; rfl
                 refine pure_ (i := 22) (N := some 94) (v := ?_) (a' := ?_) m9_24 rfl rfl (any_of HT_.out (by kernel_rfl)) (fun _ _ _ h => h) (Or.inl ⟨by rfl, ?_⟩) ?_ ?_; rotate_left
                 · intro w'
                   go_simp; (with_reducible rfl)
                 rotate_left
                 · simp only [Act.put, pa9_1, pa9_2, pa9_3, i64_w, i32_w]
                   rfl
                 refine pure_ (i := 23) (N := some 95) (v := ?_) (a' := ?_) m9_25 rfl rfl (any_of HT_.out (by kernel_rfl)) (fun _ _ _ h => h) (Or.inl ⟨by rfl, ?_⟩) ?_ ?_; rotate_left
                 · intro w'
                   go_simp; (with_reducible rfl)
                 rotate_left
                 · simp only [Act.put, pa9_1, pa9_2, pa9_3, i64_w, i32_w]
                   rfl
                 refine pure_ (i := 24) (N := some 96) (v := ?_) (a' := ?_) m9_26 rfl rfl (any_of HT_.out (by kernel_rfl)) (fun _ _ _ h => h) (Or.inl ⟨by rfl, ?_⟩) ?_ ?_; rotate_left
                 · intro w'
                   go_simp; (with_reducible rfl)
                 rotate_left
                 · simp only [Act.put, pa9_1, pa9_2, pa9_3, i64_w, i32_w]
                   rfl
                 refine take_ (i := 25) (N := some 97) (v := ?_) (a' := ?_) m9_27 rfl rfl (take_ofW HT_.out HW_.out (by kernel_rfl)) (fun _ _ _ h => h) (Or.inl ⟨by rfl, ?_⟩) hHeld ?_ ?_; rotate_left
                 · rintro w' ⟨s0, s1, s2, s3, s4, s5, s6, s7, s8, s9, s10, s11, s12, s13, s14, s15, s16, s17, s18, s19, s20⟩
                   go_simp; (with_reducible rfl)
                 rotate_left
                 · simp only [Act.put, pa9_1, pa9_2, pa9_3, i64_w, i32_w]
                   rfl
                 refine one_ (i := 26) (N := some 98) m9_28 rfl rfl (one_of HT_.out (by kernel_rfl)) (by decide) (fun K hK => ?_); refine goes_ Tryd.func25 (by kernel_rfl) rfl #[.slice Ao20 t361.length co20] (by rfl) rfl rfl d9_5 ?_; (with_reducible refine (impl_HeapFault.calls kj70 _ _ t361 t397 _ ?side1 ?side2 A98.out).mono ?_)
                 (case side1 => repeat (first | exact (Kd.R_reads' HO_368001.out).2.2 | (with_reducible refine Kd.C_alloc ?_ _) | (with_reducible refine Kd.C_drewN ?_ _) | (with_reducible refine Kd.C_drew ?_)))
                 (case side2 => exact (Kd.R_reads' HO_368001.out).2.1)
                 rintro e w102 ⟨rfl, hb⟩; have HS18_ := (hb.cell (World.block_lt_of_cell? _ _ (hHeld.2.2.2.2.2.2.2.2.2.2.2.2.2.2.2.2.2.2.1))).trans (hHeld.2.2.2.2.2.2.2.2.2.2.2.2.2.2.2.2.2.2.1); have HS19_ := (hb.cell (World.block_lt_of_cell? _ _ (hHeld.2.2.2.2.2.2.2.2.2.2.2.2.2.2.2.2.2.2.2.1))).trans (hHeld.2.2.2.2.2.2.2.2.2.2.2.2.2.2.2.2.2.2.2.1); have HS20_ := (hb.cell (World.block_lt_of_cell? _ _ (hHeld.2.2.2.2.2.2.2.2.2.2.2.2.2.2.2.2.2.2.2.2))).trans (hHeld.2.2.2.2.2.2.2.2.2.2.2.2.2.2.2.2.2.2.2.2); refine ⟨_, rfl, ?_⟩; have n0_ := ak (Kd.R_below d9_8 hb); have n1_ := ak (Kd.R_below d9_14 hb); have n2_ := ak (Kd.R_below d9_15 hb); have n3_ := ak (blk_below (g := gb358) (o := .cells #[.int .i64 t352, .int .i64 t353, .string t354] 28 (0, 0)) d9_1 hb); have n4_ := ak (blk_below (g := gb359) (o := .cells #[.int .i64 t355, .int .i64 t356, .string t357] 28 (0, 0)) d9_2 hb); have n5_ := ak (blk_below (g := gb367) (o := .cells #[.int .i64 t360, .slice Ao20 t361.length co20, .int .i64 t364, .int .i64 t365, .string t366] 30 (0, 0)) d9_4 hb); have n6_ := ak (blk_below (g := gb382) (o := .cells #[.int .i64 t375, .slice (some ad394) t376.length co38, .int .i64 t379, .int .i64 t380, .string t381] 45 (0, 0)) d9_7 hb); have n7_ := ak (blk_below (g := gb390) (o := .cells #[.int .i64 t383, .slice Ao48 t384.length co48, .int .i64 t387, .int .i64 t388, .string t389] 45 (0, 0)) d9_10 hb); have n8_ := ak (below_step d9_3 hb); clear HO_368001; clear HO_383001; clear HO_391001
                 clear BK358; clear BK359; clear BK367; clear BK382; clear BK390; clear HB; have HO_368001 := n0_; have HO_383001 := n1_; have HO_391001 := n2_; have BK358 := n3_; have BK359 := n4_; have BK367 := n5_; have BK382 := n6_; have BK390 := n7_; have HB := n8_; clear n0_ n1_ n2_ n3_ n4_ n5_ n6_ n7_ n8_
                 (try clear hb)
                 (try clear hb2)
                 (try clear hk)
                 (try clear hi)
                 refine hK.out _ _ ⟨(blk_cell BK382.out 0).trans rfl, (blk_cell BK382.out 1).trans rfl, (blk_cell BK382.out 2).trans rfl, (blk_cell BK382.out 3).trans rfl, (blk_cell BK382.out 4).trans rfl, (blk_cell BK390.out 0).trans rfl, (blk_cell BK390.out 1).trans rfl, (blk_cell BK390.out 2).trans rfl, (blk_cell BK390.out 3).trans rfl, (blk_cell BK390.out 4).trans rfl, (blk_cell BK358.out 0).trans rfl, (blk_cell BK358.out 1).trans rfl, (blk_cell BK358.out 2).trans rfl, (blk_cell BK367.out 0).trans rfl, (blk_cell BK367.out 1).trans rfl, (blk_cell BK367.out 2).trans rfl, (blk_cell BK367.out 3).trans rfl, (blk_cell BK367.out 4).trans rfl, HS18_, HS19_, HS20_⟩ (fun hHeld => ?_); clear hK K; refine norm_ (a' := ?_) ?_ ?_; rotate_left
                 · show Act.put _ (some 98) _ = _
                   simp only [Act.put, pa9_1, pa9_2, pa9_3, i64_w, i32_w]; rfl
                 refine pure_ (i := 27) (N := some 99) (v := ?_) (a' := ?_) m9_29 rfl rfl (any_of HT_.out (by kernel_rfl)) (fun _ _ _ h => h) (Or.inl ⟨by rfl, ?_⟩) ?_ ?_; rotate_left
                 · intro w'
                   go_simp; (with_reducible rfl)
                 rotate_left
                 · simp only [Act.put, pa9_1, pa9_2, pa9_3, i64_w, i32_w]
                   rfl
                 refine pure_ (i := 28) (N := some 100) (v := ?_) (a' := ?_) m9_30 rfl rfl (any_of HT_.out (by kernel_rfl)) (fun _ _ _ h => h) (Or.inl ⟨by rfl, ?_⟩) ?_ ?_; rotate_left
                 · intro w'
                   go_simp; (with_reducible rfl)
                 rotate_left
                 · simp only [Act.put, pa9_1, pa9_2, pa9_3, i64_w, i32_w]
                   rfl
                 refine pure_ (i := 29) (N := some 2) (v := ?_) (a' := ?_) m9_31 rfl rfl (any_of HT_.out (by kernel_rfl)) (fun _ _ _ h => h) (Or.inl ⟨by rfl, ?_⟩) ?_ ?_; rotate_left
                 · intro w'
                   go_simp; (with_reducible rfl)
                 rotate_left
                 · simp only [Act.put, pa9_1, pa9_2, pa9_3, i64_w, i32_w]
                   rfl
                 refine done_ (done_of HT_.out (by kernel_rfl)) ?_
                 try go_wp2
                 go_meet
                 case rel => exact ⟨_, ((t397 == 0)), d9_16, H', ⟨by have := HJ2.out; have := HJ6.out; have := HJ27.out; have := HJ63.out; have := HJ70.out; first | omega | exact Nat.le_refl _⟩, ⟨c9_7⟩, ⟨c9_8⟩, ⟨c9_9⟩, ⟨c9_2⟩, ⟨c9_3⟩, ⟨c9_4⟩, ⟨c9_5⟩, ⟨c9_6⟩, ⟨c9_1⟩⟩
                ·replace c97 := Bool.eq_false_iff.mpr c97
                 subst c97
                 rw [if_neg (show ¬ (false = true) by decide)] at H; have H' := ak H; clear H
                 try go_wp2
                 have n0_ := ak (Kd.R_drew HO_368001.out); have n1_ := ak (Kd.R_drew HO_383001.out); have n2_ := ak (Kd.R_drew HO_391001.out); have n3_ := ak (blk_drew BK358.out); have n4_ := ak (blk_drew BK359.out); have n5_ := ak (blk_drew BK367.out); have n6_ := ak (blk_drew BK382.out); have n7_ := ak (blk_drew BK390.out); have n8_ := ak (below_drew1 HB.out); clear HO_368001; clear HO_383001; clear HO_391001; clear BK358; clear BK359; clear BK367; clear BK382; clear BK390; clear HB; have HO_368001 := n0_; have HO_383001 := n1_; have HO_391001 := n2_; have BK358 := n3_; have BK359 := n4_; have BK367 := n5_; have BK382 := n6_; have BK390 := n7_; have HB := n8_; clear n0_ n1_ n2_ n3_ n4_ n5_ n6_ n7_ n8_; have p394 : 0 ≤ (0 : Int) := (by omega); have q394 : 0 < (t376.length : Int) := of_decide_eq_true d9_18; obtain ⟨ad394, e394, hx394_0, hx394_1, hx394_2⟩ := at_T28 (Kd.R_reads' HO_383001.out).2.2 0 p394 q394
                 cases e394
                 have qi394 : (0 < t376.length) = True := eq_true (by omega)
                 (try rw [show ((0 : Int)).toNat = 0 from rfl] at hx394_0)
                 (try rw [show 0 * 3 = 0 from rfl] at hx394_0)
                 (try rw [Addr.add_zero'] at hx394_0)
                 (try rw [show ((0 : Int)).toNat = 0 from rfl] at hx394_1)
                 (try rw [show 0 * 3 = 0 from rfl] at hx394_1)
                 (try rw [Addr.add_zero'] at hx394_1)
                 (try rw [show ((0 : Int)).toNat = 0 from rfl] at hx394_2)
                 (try rw [show 0 * 3 = 0 from rfl] at hx394_2)
                 (try rw [Addr.add_zero'] at hx394_2)
                 replace p394 := eq_true p394; replace q394 := eq_true q394
                 refine start_ (n := 30) (S := fun w' => w'.cell? ⟨gb382, 0, none⟩ = some (.int .i64 t375) ∧ w'.cell? ⟨gb382, 1, none⟩ = some (.slice (some ad394) t376.length co38) ∧ w'.cell? ⟨gb382, 2, none⟩ = some (.int .i64 t379) ∧ w'.cell? ⟨gb382, 3, none⟩ = some (.int .i64 t380) ∧ w'.cell? ⟨gb382, 4, none⟩ = some (.string t381) ∧ w'.cell? ⟨gb390, 0, none⟩ = some (.int .i64 t383) ∧ w'.cell? ⟨gb390, 1, none⟩ = some (.slice Ao48 t384.length co48) ∧ w'.cell? ⟨gb390, 2, none⟩ = some (.int .i64 t387) ∧ w'.cell? ⟨gb390, 3, none⟩ = some (.int .i64 t388) ∧ w'.cell? ⟨gb390, 4, none⟩ = some (.string t389) ∧ w'.cell? ⟨gb358, 0, none⟩ = some (.int .i64 t352) ∧ w'.cell? ⟨gb358, 1, none⟩ = some (.int .i64 t353) ∧ w'.cell? ⟨gb358, 2, none⟩ = some (.string t354) ∧ w'.cell? ad394 = some (.int .i64 ((rd_T28 t376 0).f0)) ∧ w'.cell? ⟨ad394.block, ad394.off + 1, none⟩ = some (.int .i64 ((rd_T28 t376 0).f1)) ∧ w'.cell? ⟨ad394.block, ad394.off + 2, none⟩ = some (.string ((rd_T28 t376 0).f2))) (ds := []) m9_0 (by kernel_rfl) rfl rfl ⟨(blk_cell BK382.out 0).trans rfl, (blk_cell BK382.out 1).trans rfl, (blk_cell BK382.out 2).trans rfl, (blk_cell BK382.out 3).trans rfl, (blk_cell BK382.out 4).trans rfl, (blk_cell BK390.out 0).trans rfl, (blk_cell BK390.out 1).trans rfl, (blk_cell BK390.out 2).trans rfl, (blk_cell BK390.out 3).trans rfl, (blk_cell BK390.out 4).trans rfl, (blk_cell BK358.out 0).trans rfl, (blk_cell BK358.out 1).trans rfl, (blk_cell BK358.out 2).trans rfl, hx394_0, hx394_1, hx394_2⟩ (fun hHeld => ?_); refine with_tabW laws_FnLists.tab16 laws_FnLists.bits16 (fun HT_ HW_ => ?_)
                 generalize wc.drew = w103 at HO_368001 HO_383001 HO_391001 BK358 BK359 BK367 BK382 BK390 HB hx394_0 hx394_1 hx394_2 hHeld ⊢; refine pure_ (i := 0) (N := some 72) (v := ?_) (a' := ?_) m9_1 rfl rfl (any_of HT_.out (by kernel_rfl)) (fun _ _ _ h => h) (Or.inl ⟨by rfl, ?_⟩) ?_ ?_; rotate_left
                 · intro w'
                   go_simp; (with_reducible rfl)
                 rotate_left
                 · simp only [Act.put, pa9_1, pa9_2, pa9_3, i64_w, i32_w]
                   rfl
                 refine pure_ (i := 3) (N := some 75) (v := ?_) (a' := ?_) m9_2 rfl rfl (any_of HT_.out (by kernel_rfl)) (fun _ _ _ h => h) (Or.inl ⟨by rfl, ?_⟩) ?_ ?_; rotate_left
                 · intro w'
                   go_simp; (with_reducible rfl)
                 rotate_left
                 · simp only [Act.put, pa9_1, pa9_2, pa9_3, i64_w, i32_w]
                   rfl
                 refine take_ (i := 1) (N := some 73) (v := ?_) (a' := ?_) m9_3 rfl rfl (take_ofW HT_.out HW_.out (by kernel_rfl)) (fun _ _ _ h => h) (Or.inl ⟨by rfl, ?_⟩) hHeld ?_ ?_; rotate_left
                 · rintro w' ⟨s0, s1, s2, s3, s4, s5, s6, s7, s8, s9, s10, s11, s12, s13, s14, s15⟩
                   go_simp; (with_reducible rfl)
                 rotate_left
                 · simp only [Act.put, pa9_1, pa9_2, pa9_3, i64_w, i32_w]
                   rfl
                 refine pure_ (i := 2) (N := some 74) (v := ?_) (a' := ?_) m9_4 rfl rfl (any_of HT_.out (by kernel_rfl)) (fun _ _ _ h => h) (Or.inl ⟨by rfl, ?_⟩) ?_ ?_; rotate_left
                 · intro w'
                   go_simp; (with_reducible rfl)
                 rotate_left
                 · simp only [Act.put, pa9_1, pa9_2, pa9_3, i64_w, i32_w]
                   rfl
                 refine take_ (i := 4) (N := some 76) (v := ?_) (a' := ?_) m9_5 rfl rfl (take_ofW HT_.out HW_.out (by kernel_rfl)) (fun _ _ _ h => h) (Or.inl ⟨by rfl, ?_⟩) hHeld ?_ ?_; rotate_left
                 · rintro w' ⟨s0, s1, s2, s3, s4, s5, s6, s7, s8, s9, s10, s11, s12, s13, s14, s15⟩
                   go_simp; (with_reducible rfl)
                 rotate_left
                 · simp only [Act.put, pa9_1, pa9_2, pa9_3, i64_w, i32_w]
                   rfl
                 refine pure_ (i := 5) (N := some 77) (v := ?_) (a' := ?_) m9_6 rfl rfl (any_of HT_.out (by kernel_rfl)) (fun _ _ _ h => h) (Or.inl ⟨by rfl, ?_⟩) ?_ ?_; rotate_left
                 · intro w'
                   go_simp; (with_reducible rfl)
                 rotate_left
                 · simp only [Act.put, pa9_1, pa9_2, pa9_3, i64_w, i32_w]
                   rfl
                 refine pure_ (i := 6) (N := some 78) (v := ?_) (a' := ?_) m9_7 rfl rfl (any_of HT_.out (by kernel_rfl)) (fun _ _ _ h => h) (Or.inl ⟨by rfl, ?_⟩) ?_ ?_; rotate_left
                 · intro w'
                   go_simp; (with_reducible rfl)
                 rotate_left
                 · simp only [Act.put, pa9_1, pa9_2, pa9_3, i64_w, i32_w]
                   rfl
                 refine pure_ (i := 7) (N := some 79) (v := ?_) (a' := ?_) m9_8 rfl rfl (any_of HT_.out (by kernel_rfl)) (fun _ _ _ h => h) (Or.inl ⟨by rfl, ?_⟩) ?_ ?_; rotate_left
                 · intro w'
                   go_simp; (with_reducible rfl)
                 rotate_left
                 · simp only [Act.put, pa9_1, pa9_2, pa9_3, i64_w, i32_w]
                   rfl
                 refine pure_ (i := 8) (N := some 80) (v := ?_) (a' := ?_) m9_9 rfl rfl (any_of HT_.out (by kernel_rfl)) (fun _ _ _ h => h) (Or.inl ⟨by rfl, ?_⟩) ?_ ?_; rotate_left
                 · intro w'
                   go_simp; (with_reducible rfl)
                 rotate_left
                 · simp only [Act.put, pa9_1, pa9_2, pa9_3, i64_w, i32_w]
                   rfl
                 refine pure_ (i := 9) (N := some 81) (v := ?_) (a' := ?_) m9_10 rfl rfl (any_of HT_.out (by kernel_rfl)) (fun _ _ _ h => h) (Or.inl ⟨by rfl, ?_⟩) ?_ ?_; rotate_left
                 · intro w'
                   go_simp; (with_reducible rfl)
                 rotate_left
                 · simp only [Act.put, pa9_1, pa9_2, pa9_3, i64_w, i32_w]
                   rfl
                 refine take_ (i := 10) (N := some 82) (v := ?_) (a' := ?_) m9_11 rfl rfl (take_ofW HT_.out HW_.out (by kernel_rfl)) (fun _ _ _ h => h) (Or.inl ⟨by rfl, ?_⟩) hHeld ?_ ?_; rotate_left
                 · rintro w' ⟨s0, s1, s2, s3, s4, s5, s6, s7, s8, s9, s10, s11, s12, s13, s14, s15⟩
                   go_simp; (with_reducible rfl)
                 rotate_left
                 · simp only [Act.put, pa9_1, pa9_2, pa9_3, i64_w, i32_w]
                   rfl
                 refine pure_ (i := 11) (N := some 83) (v := ?_) (a' := ?_) m9_12 rfl rfl (any_of HT_.out (by kernel_rfl)) (fun _ _ _ h => h) (Or.inl ⟨by rfl, ?_⟩) ?_ ?_; rotate_left
                 · intro w'
                   go_simp; (with_reducible rfl)
                 rotate_left
                 · simp only [Act.put, pa9_1, pa9_2, pa9_3, i64_w, i32_w]
                   rfl
                 refine take_ (i := 12) (N := some 84) (v := ?_) (a' := ?_) m9_13 rfl rfl (take_ofW HT_.out HW_.out (by kernel_rfl)) (fun _ _ _ h => h) (Or.inl ⟨by rfl, ?_⟩) hHeld ?_ ?_; rotate_left
                 · rintro w' ⟨s0, s1, s2, s3, s4, s5, s6, s7, s8, s9, s10, s11, s12, s13, s14, s15⟩
                   go_simp; (with_reducible rfl)
                 rotate_left
                 · simp only [Act.put, pa9_1, pa9_2, pa9_3, i64_w, i32_w]
                   rfl
                 refine take_ (i := 13) (N := some 85) (v := ?_) (a' := ?_) m9_14 rfl rfl (take_ofW HT_.out HW_.out (by kernel_rfl)) (fun _ _ _ h => h) (Or.inl ⟨by rfl, ?_⟩) hHeld ?_ ?_; rotate_left
                 · rintro w' ⟨s0, s1, s2, s3, s4, s5, s6, s7, s8, s9, s10, s11, s12, s13, s14, s15⟩
                   go_simp; (with_reducible rfl)
                 rotate_left
                 · simp only [Act.put, pa9_1, pa9_2, pa9_3, i64_w, i32_w]
                   rfl
                 refine one_ (i := 14) (N := some 86) m9_15 rfl rfl (one_of HT_.out (by kernel_rfl)) (by decide) (fun K hK => ?_); refine goes_ Tryd.func24 (by kernel_rfl) rfl #[.agg #[.int .i64 ((rd_T28 t376 0).f0), .int .i64 ((rd_T28 t376 0).f1), .string ((rd_T28 t376 0).f2)], .agg #[.int .i64 t352, .int .i64 t353, .string t354]] (by rfl) rfl rfl d9_5 ?_; (with_reducible refine (impl_SameValues.calls ((rd_T28 t376 0).f0) ((rd_T28 t376 0).f1) ((rd_T28 t376 0).f2) t352 t353 t354 true _ A94.out).mono ?_); rintro e w104 ⟨rfl, hb⟩; have HS13_ := (hb.cell (World.block_lt_of_cell? _ _ (hHeld.2.2.2.2.2.2.2.2.2.2.2.2.2.1))).trans (hHeld.2.2.2.2.2.2.2.2.2.2.2.2.2.1); have HS14_ := (hb.cell (World.block_lt_of_cell? _ _ (hHeld.2.2.2.2.2.2.2.2.2.2.2.2.2.2.1))).trans (hHeld.2.2.2.2.2.2.2.2.2.2.2.2.2.2.1); have HS15_ := (hb.cell (World.block_lt_of_cell? _ _ (hHeld.2.2.2.2.2.2.2.2.2.2.2.2.2.2.2))).trans (hHeld.2.2.2.2.2.2.2.2.2.2.2.2.2.2.2); refine ⟨_, rfl, ?_⟩; have n0_ := ak (Kd.R_below d9_8 hb); have n1_ := ak (Kd.R_below d9_14 hb); have n2_ := ak (Kd.R_below d9_15 hb); have n3_ := ak (blk_below (g := gb358) (o := .cells #[.int .i64 t352, .int .i64 t353, .string t354] 28 (0, 0)) d9_1 hb)
                 have n4_ := ak (blk_below (g := gb359) (o := .cells #[.int .i64 t355, .int .i64 t356, .string t357] 28 (0, 0)) d9_2 hb); have n5_ := ak (blk_below (g := gb367) (o := .cells #[.int .i64 t360, .slice Ao20 t361.length co20, .int .i64 t364, .int .i64 t365, .string t366] 30 (0, 0)) d9_4 hb); have n6_ := ak (blk_below (g := gb382) (o := .cells #[.int .i64 t375, .slice (some ad394) t376.length co38, .int .i64 t379, .int .i64 t380, .string t381] 45 (0, 0)) d9_7 hb); have n7_ := ak (blk_below (g := gb390) (o := .cells #[.int .i64 t383, .slice Ao48 t384.length co48, .int .i64 t387, .int .i64 t388, .string t389] 45 (0, 0)) d9_10 hb); have n8_ := ak (below_step d9_3 hb); clear HO_368001; clear HO_383001; clear HO_391001; clear BK358; clear BK359; clear BK367; clear BK382; clear BK390; clear HB; have HO_368001 := n0_; have HO_383001 := n1_; have HO_391001 := n2_; have BK358 := n3_; have BK359 := n4_; have BK367 := n5_; have BK382 := n6_; have BK390 := n7_; have HB := n8_; clear n0_ n1_ n2_ n3_ n4_ n5_ n6_ n7_ n8_
                 (try clear hb)
                 (try clear hb2)
                 (try clear hk)
                 (try clear hi)
                 refine hK.out _ _ ⟨(blk_cell BK382.out 0).trans rfl, (blk_cell BK382.out 1).trans rfl, (blk_cell BK382.out 2).trans rfl, (blk_cell BK382.out 3).trans rfl, (blk_cell BK382.out 4).trans rfl, (blk_cell BK390.out 0).trans rfl, (blk_cell BK390.out 1).trans rfl, (blk_cell BK390.out 2).trans rfl, (blk_cell BK390.out 3).trans rfl, (blk_cell BK390.out 4).trans rfl, (blk_cell BK358.out 0).trans rfl, (blk_cell BK358.out 1).trans rfl, (blk_cell BK358.out 2).trans rfl, HS13_, HS14_, HS15_⟩ (fun hHeld => ?_); clear hK K; refine norm_ (a' := ?_) ?_ ?_; rotate_left
                 · show Act.put _ (some 86) _ = _
                   simp only [Act.put, pa9_1, pa9_2, pa9_3, i64_w, i32_w]; rfl
                 refine pure_ (i := 15) (N := some 87) (v := ?_) (a' := ?_) m9_16 rfl rfl (any_of HT_.out (by kernel_rfl)) (fun _ _ _ h => h) (Or.inl ⟨by rfl, ?_⟩) ?_ ?_; rotate_left
                 · intro w'
                   go_simp; (with_reducible rfl)
                 rotate_left
                 · simp only [Act.put, pa9_1, pa9_2, pa9_3, i64_w, i32_w]
                   rfl
                 refine pure_ (i := 16) (N := some 88) (v := ?_) (a' := ?_) m9_17 rfl rfl (any_of HT_.out (by kernel_rfl)) (fun _ _ _ h => h) (Or.inl ⟨by rfl, ?_⟩) ?_ ?_; rotate_left
                 · intro w'
                   go_simp; (with_reducible rfl)
                 rotate_left
                 · simp only [Act.put, pa9_1, pa9_2, pa9_3, i64_w, i32_w]
                   rfl
                 refine pure_ (i := 17) (N := some 89) (v := ?_) (a' := ?_) m9_18 rfl rfl (any_of HT_.out (by kernel_rfl)) (fun _ _ _ h => h) (Or.inl ⟨by rfl, ?_⟩) ?_ ?_; rotate_left
                 · intro w'
                   go_simp; (with_reducible rfl)
                 rotate_left
                 · simp only [Act.put, pa9_1, pa9_2, pa9_3, i64_w, i32_w]
                   rfl
                 refine pure_ (i := 19) (N := some 91) (v := ?_) (a' := ?_) m9_19 rfl rfl (any_of HT_.out (by kernel_rfl)) (fun _ _ _ h => h) (Or.inl ⟨by rfl, ?_⟩) ?_ ?_; rotate_left
                 · intro w'
                   go_simp; (with_reducible rfl)
                 rotate_left
                 · simp only [Act.put, pa9_1, pa9_2, pa9_3, i64_w, i32_w]
                   rfl
                 refine take_ (i := 18) (N := some 90) (v := ?_) (a' := ?_) m9_21 rfl rfl (take_ofW HT_.out HW_.out (by kernel_rfl)) (fun _ _ _ h => h) (Or.inl ⟨by rfl, ?_⟩) hHeld ?_ ?_; rotate_left
                 · rintro w' ⟨s0, s1, s2, s3, s4, s5, s6, s7, s8, s9, s10, s11, s12, s13, s14, s15⟩
                   go_simp; (with_reducible rfl)
                 rotate_left
                 · simp only [Act.put, pa9_1, pa9_2, pa9_3, i64_w, i32_w]
                   rfl
                 refine take_ (i := 20) (N := some 92) (v := ?_) (a' := ?_) m9_22 rfl rfl (take_ofW HT_.out HW_.out (by kernel_rfl)) (fun _ _ _ h => h) (Or.inl ⟨by rfl, ?_⟩) hHeld ?_ ?_; rotate_left
                 · rintro w' ⟨s0, s1, s2, s3, s4, s5, s6, s7, s8, s9, s10, s11, s12, s13, s14, s15⟩
                   go_simp; (with_reducible rfl)
                 rotate_left
                 · simp only [Act.put, pa9_1, pa9_2, pa9_3, i64_w, i32_w]
                   rfl
                 refine one_ (i := 21) (N := some 93) m9_23 rfl rfl (one_of HT_.out (by kernel_rfl)) (by decide) (fun K hK => ?_); refine goes_ Tryd.func24 (by kernel_rfl) rfl #[.agg #[.int .i64 t379, .int .i64 t380, .string t381], .agg #[.int .i64 t387, .int .i64 t388, .string t389]] (by rfl) rfl rfl d9_5 ?_; (with_reducible refine (impl_SameValues.calls t379 t380 t381 t387 t388 t389 false _ A96.out).mono ?_); rintro e w105 ⟨rfl, hb⟩; have HS13_ := (hb.cell (World.block_lt_of_cell? _ _ (hHeld.2.2.2.2.2.2.2.2.2.2.2.2.2.1))).trans (hHeld.2.2.2.2.2.2.2.2.2.2.2.2.2.1); have HS14_ := (hb.cell (World.block_lt_of_cell? _ _ (hHeld.2.2.2.2.2.2.2.2.2.2.2.2.2.2.1))).trans (hHeld.2.2.2.2.2.2.2.2.2.2.2.2.2.2.1); have HS15_ := (hb.cell (World.block_lt_of_cell? _ _ (hHeld.2.2.2.2.2.2.2.2.2.2.2.2.2.2.2))).trans (hHeld.2.2.2.2.2.2.2.2.2.2.2.2.2.2.2); refine ⟨_, rfl, ?_⟩; have n0_ := ak (Kd.R_below d9_8 hb); have n1_ := ak (Kd.R_below d9_14 hb); have n2_ := ak (Kd.R_below d9_15 hb); have n3_ := ak (blk_below (g := gb358) (o := .cells #[.int .i64 t352, .int .i64 t353, .string t354] 28 (0, 0)) d9_1 hb); have n4_ := ak (blk_below (g := gb359) (o := .cells #[.int .i64 t355, .int .i64 t356, .string t357] 28 (0, 0)) d9_2 hb)
                 have n5_ := ak (blk_below (g := gb367) (o := .cells #[.int .i64 t360, .slice Ao20 t361.length co20, .int .i64 t364, .int .i64 t365, .string t366] 30 (0, 0)) d9_4 hb); have n6_ := ak (blk_below (g := gb382) (o := .cells #[.int .i64 t375, .slice (some ad394) t376.length co38, .int .i64 t379, .int .i64 t380, .string t381] 45 (0, 0)) d9_7 hb); have n7_ := ak (blk_below (g := gb390) (o := .cells #[.int .i64 t383, .slice Ao48 t384.length co48, .int .i64 t387, .int .i64 t388, .string t389] 45 (0, 0)) d9_10 hb); have n8_ := ak (below_step d9_3 hb); clear HO_368001; clear HO_383001; clear HO_391001; clear BK358; clear BK359; clear BK367; clear BK382; clear BK390; clear HB; have HO_368001 := n0_; have HO_383001 := n1_; have HO_391001 := n2_; have BK358 := n3_; have BK359 := n4_; have BK367 := n5_; have BK382 := n6_; have BK390 := n7_; have HB := n8_; clear n0_ n1_ n2_ n3_ n4_ n5_ n6_ n7_ n8_
                 (try clear hb)
                 (try clear hb2)
                 (try clear hk)
                 (try clear hi)
                 refine hK.out _ _ ⟨(blk_cell BK382.out 0).trans rfl, (blk_cell BK382.out 1).trans rfl, (blk_cell BK382.out 2).trans rfl, (blk_cell BK382.out 3).trans rfl, (blk_cell BK382.out 4).trans rfl, (blk_cell BK390.out 0).trans rfl, (blk_cell BK390.out 1).trans rfl, (blk_cell BK390.out 2).trans rfl, (blk_cell BK390.out 3).trans rfl, (blk_cell BK390.out 4).trans rfl, (blk_cell BK358.out 0).trans rfl, (blk_cell BK358.out 1).trans rfl, (blk_cell BK358.out 2).trans rfl, HS13_, HS14_, HS15_⟩ (fun hHeld => ?_); clear hK K; refine norm_ (a' := ?_) ?_ ?_; rotate_left
                 · show Act.put _ (some 93) _ = _
                   simp only [Act.put, pa9_1, pa9_2, pa9_3, i64_w, i32_w]; rfl
                 refine pure_ (i := 22) (N := some 94) (v := ?_) (a' := ?_) m9_24 rfl rfl (any_of HT_.out (by kernel_rfl)) (fun _ _ _ h => h) (Or.inl ⟨by rfl, ?_⟩) ?_ ?_; rotate_left
                 · intro w'
                   go_simp; (with_reducible rfl)
                 rotate_left
                 · simp only [Act.put, pa9_1, pa9_2, pa9_3, i64_w, i32_w]
                   rfl
                 refine pure_ (i := 23) (N := some 95) (v := ?_) (a' := ?_) m9_25 rfl rfl (any_of HT_.out (by kernel_rfl)) (fun _ _ _ h => h) (Or.inl ⟨by rfl, ?_⟩) ?_ ?_; rotate_left
                 · intro w'
                   go_simp; (with_reducible rfl)
                 rotate_left
                 · simp only [Act.put, pa9_1, pa9_2, pa9_3, i64_w, i32_w]
                   rfl
                 refine pure_ (i := 24) (N := some 96) (v := undef) (a' := ?_) m9_26 rfl rfl (any_of HT_.out (by kernel_rfl)) (fun _ _ _ h => h) (Or.inr ⟨by rfl, rfl⟩) ?_ ?_; rotate_left
                 · simp only [Act.put, pa9_1, pa9_2, pa9_3, i64_w, i32_w]
                   rfl
                 refine pure_ (i := 25) (N := some 97) (v := undef) (a' := ?_) m9_27 rfl rfl (any_of HT_.out (by kernel_rfl)) (fun _ _ _ h => h) (Or.inr ⟨by rfl, rfl⟩) ?_ ?_; rotate_left
                 · simp only [Act.put, pa9_1, pa9_2, pa9_3, i64_w, i32_w]
                   rfl
                 refine pure_ (i := 26) (N := some 98) (v := undef) (a' := ?_) m9_28 rfl rfl (any_of HT_.out (by kernel_rfl)) (fun _ _ _ h => h) (Or.inr ⟨by rfl, rfl⟩) ?_ ?_; rotate_left
                 · simp only [Act.put, pa9_1, pa9_2, pa9_3, i64_w, i32_w]
                   rfl
                 refine pure_ (i := 27) (N := some 99) (v := undef) (a' := ?_) m9_29 rfl rfl (any_of HT_.out (by kernel_rfl)) (fun _ _ _ h => h) (Or.inr ⟨by rfl, rfl⟩) ?_ ?_; rotate_left
                 · simp only [Act.put, pa9_1, pa9_2, pa9_3, i64_w, i32_w]
                   rfl
                 refine pure_ (i := 28) (N := some 100) (v := ?_) (a' := ?_) m9_30 rfl rfl (any_of HT_.out (by kernel_rfl)) (fun _ _ _ h => h) (Or.inl ⟨by rfl, ?_⟩) ?_ ?_; rotate_left
                 · intro w'
                   go_simp; (with_reducible rfl)
                 rotate_left
                 · simp only [Act.put, pa9_1, pa9_2, pa9_3, i64_w, i32_w]
                   rfl
                 refine pure_ (i := 29) (N := some 2) (v := ?_) (a' := ?_) m9_31 rfl rfl (any_of HT_.out (by kernel_rfl)) (fun _ _ _ h => h) (Or.inl ⟨by rfl, ?_⟩) ?_ ?_; rotate_left
                 · intro w'
                   go_simp; (with_reducible rfl)
                 rotate_left
                 · simp only [Act.put, pa9_1, pa9_2, pa9_3, i64_w, i32_w]
                   rfl
                 refine done_ (done_of HT_.out (by kernel_rfl)) ?_
                 try go_wp2
                 go_meet
                 case rel => exact ⟨_, (false), d9_16, H', ⟨by have := HJ2.out; have := HJ6.out; have := HJ27.out; have := HJ63.out; have := HJ70.out; first | omega | exact Nat.le_refl _⟩, ⟨c9_7⟩, ⟨c9_8⟩, ⟨c9_9⟩, ⟨c9_2⟩, ⟨c9_3⟩, ⟨c9_4⟩, ⟨c9_5⟩, ⟨c9_6⟩, ⟨c9_1⟩⟩
               ·replace c95 := Bool.eq_false_iff.mpr c95
                subst c95
                rw [if_neg (show ¬ (false = true) by decide)] at H; have H' := ak H; clear H
                try go_wp2
                have n0_ := ak (Kd.R_drew HO_368001.out); have n1_ := ak (Kd.R_drew HO_383001.out); have n2_ := ak (Kd.R_drew HO_391001.out); have n3_ := ak (blk_drew BK358.out); have n4_ := ak (blk_drew BK359.out); have n5_ := ak (blk_drew BK367.out); have n6_ := ak (blk_drew BK382.out); have n7_ := ak (blk_drew BK390.out); have n8_ := ak (below_drew1 HB.out); clear HO_368001; clear HO_383001; clear HO_391001; clear BK358; clear BK359; clear BK367; clear BK382; clear BK390; clear HB; have HO_368001 := n0_; have HO_383001 := n1_; have HO_391001 := n2_; have BK358 := n3_; have BK359 := n4_; have BK367 := n5_; have BK382 := n6_; have BK390 := n7_; have HB := n8_; clear n0_ n1_ n2_ n3_ n4_ n5_ n6_ n7_ n8_; have p394 : 0 ≤ (0 : Int) := (by omega); have q394 : 0 < (t376.length : Int) := of_decide_eq_true d9_18; obtain ⟨ad394, e394, hx394_0, hx394_1, hx394_2⟩ := at_T28 (Kd.R_reads' HO_383001.out).2.2 0 p394 q394
                cases e394
                have qi394 : (0 < t376.length) = True := eq_true (by omega)
                (try rw [show ((0 : Int)).toNat = 0 from rfl] at hx394_0)
                (try rw [show 0 * 3 = 0 from rfl] at hx394_0)
                (try rw [Addr.add_zero'] at hx394_0)
                (try rw [show ((0 : Int)).toNat = 0 from rfl] at hx394_1)
                (try rw [show 0 * 3 = 0 from rfl] at hx394_1)
                (try rw [Addr.add_zero'] at hx394_1)
                (try rw [show ((0 : Int)).toNat = 0 from rfl] at hx394_2)
                (try rw [show 0 * 3 = 0 from rfl] at hx394_2)
                (try rw [Addr.add_zero'] at hx394_2)
                replace p394 := eq_true p394; replace q394 := eq_true q394
                refine start_ (n := 30) (S := fun w' => w'.cell? ⟨gb382, 0, none⟩ = some (.int .i64 t375) ∧ w'.cell? ⟨gb382, 1, none⟩ = some (.slice (some ad394) t376.length co38) ∧ w'.cell? ⟨gb382, 2, none⟩ = some (.int .i64 t379) ∧ w'.cell? ⟨gb382, 3, none⟩ = some (.int .i64 t380) ∧ w'.cell? ⟨gb382, 4, none⟩ = some (.string t381) ∧ w'.cell? ⟨gb390, 0, none⟩ = some (.int .i64 t383) ∧ w'.cell? ⟨gb390, 1, none⟩ = some (.slice Ao48 t384.length co48) ∧ w'.cell? ⟨gb390, 2, none⟩ = some (.int .i64 t387) ∧ w'.cell? ⟨gb390, 3, none⟩ = some (.int .i64 t388) ∧ w'.cell? ⟨gb390, 4, none⟩ = some (.string t389) ∧ w'.cell? ⟨gb358, 0, none⟩ = some (.int .i64 t352) ∧ w'.cell? ⟨gb358, 1, none⟩ = some (.int .i64 t353) ∧ w'.cell? ⟨gb358, 2, none⟩ = some (.string t354) ∧ w'.cell? ad394 = some (.int .i64 ((rd_T28 t376 0).f0)) ∧ w'.cell? ⟨ad394.block, ad394.off + 1, none⟩ = some (.int .i64 ((rd_T28 t376 0).f1)) ∧ w'.cell? ⟨ad394.block, ad394.off + 2, none⟩ = some (.string ((rd_T28 t376 0).f2))) (ds := []) m9_0 (by kernel_rfl) rfl rfl ⟨(blk_cell BK382.out 0).trans rfl, (blk_cell BK382.out 1).trans rfl, (blk_cell BK382.out 2).trans rfl, (blk_cell BK382.out 3).trans rfl, (blk_cell BK382.out 4).trans rfl, (blk_cell BK390.out 0).trans rfl, (blk_cell BK390.out 1).trans rfl, (blk_cell BK390.out 2).trans rfl, (blk_cell BK390.out 3).trans rfl, (blk_cell BK390.out 4).trans rfl, (blk_cell BK358.out 0).trans rfl, (blk_cell BK358.out 1).trans rfl, (blk_cell BK358.out 2).trans rfl, hx394_0, hx394_1, hx394_2⟩ (fun hHeld => ?_); refine with_tabW laws_FnLists.tab16 laws_FnLists.bits16 (fun HT_ HW_ => ?_)
                generalize wc.drew = w106 at HO_368001 HO_383001 HO_391001 BK358 BK359 BK367 BK382 BK390 HB hx394_0 hx394_1 hx394_2 hHeld ⊢; refine pure_ (i := 0) (N := some 72) (v := ?_) (a' := ?_) m9_1 rfl rfl (any_of HT_.out (by kernel_rfl)) (fun _ _ _ h => h) (Or.inl ⟨by rfl, ?_⟩) ?_ ?_; rotate_left
                · intro w'
                  go_simp; (with_reducible rfl)
                rotate_left
                · simp only [Act.put, pa9_1, pa9_2, pa9_3, i64_w, i32_w]
                  rfl
                refine pure_ (i := 3) (N := some 75) (v := ?_) (a' := ?_) m9_2 rfl rfl (any_of HT_.out (by kernel_rfl)) (fun _ _ _ h => h) (Or.inl ⟨by rfl, ?_⟩) ?_ ?_; rotate_left
                · intro w'
                  go_simp; (with_reducible rfl)
                rotate_left
                · simp only [Act.put, pa9_1, pa9_2, pa9_3, i64_w, i32_w]
                  rfl
                refine take_ (i := 1) (N := some 73) (v := ?_) (a' := ?_) m9_3 rfl rfl (take_ofW HT_.out HW_.out (by kernel_rfl)) (fun _ _ _ h => h) (Or.inl ⟨by rfl, ?_⟩) hHeld ?_ ?_; rotate_left
                · rintro w' ⟨s0, s1, s2, s3, s4, s5, s6, s7, s8, s9, s10, s11, s12, s13, s14, s15⟩
                  go_simp; (with_reducible rfl)
                rotate_left
                · simp only [Act.put, pa9_1, pa9_2, pa9_3, i64_w, i32_w]
                  rfl
                refine pure_ (i := 2) (N := some 74) (v := ?_) (a' := ?_) m9_4 rfl rfl (any_of HT_.out (by kernel_rfl)) (fun _ _ _ h => h) (Or.inl ⟨by rfl, ?_⟩) ?_ ?_; rotate_left
                · intro w'
                  go_simp; (with_reducible rfl)
                rotate_left
                · simp only [Act.put, pa9_1, pa9_2, pa9_3, i64_w, i32_w]
                  rfl
                refine take_ (i := 4) (N := some 76) (v := ?_) (a' := ?_) m9_5 rfl rfl (take_ofW HT_.out HW_.out (by kernel_rfl)) (fun _ _ _ h => h) (Or.inl ⟨by rfl, ?_⟩) hHeld ?_ ?_; rotate_left
                · rintro w' ⟨s0, s1, s2, s3, s4, s5, s6, s7, s8, s9, s10, s11, s12, s13, s14, s15⟩
                  go_simp; (with_reducible rfl)
                rotate_left
                · simp only [Act.put, pa9_1, pa9_2, pa9_3, i64_w, i32_w]
                  rfl
                refine pure_ (i := 5) (N := some 77) (v := ?_) (a' := ?_) m9_6 rfl rfl (any_of HT_.out (by kernel_rfl)) (fun _ _ _ h => h) (Or.inl ⟨by rfl, ?_⟩) ?_ ?_; rotate_left
                · intro w'
                  go_simp; (with_reducible rfl)
                rotate_left
                · simp only [Act.put, pa9_1, pa9_2, pa9_3, i64_w, i32_w]
                  rfl
                refine pure_ (i := 6) (N := some 78) (v := ?_) (a' := ?_) m9_7 rfl rfl (any_of HT_.out (by kernel_rfl)) (fun _ _ _ h => h) (Or.inl ⟨by rfl, ?_⟩) ?_ ?_; rotate_left
                · intro w'
                  go_simp; (with_reducible rfl)
                rotate_left
                · simp only [Act.put, pa9_1, pa9_2, pa9_3, i64_w, i32_w]
                  rfl
                refine pure_ (i := 7) (N := some 79) (v := ?_) (a' := ?_) m9_8 rfl rfl (any_of HT_.out (by kernel_rfl)) (fun _ _ _ h => h) (Or.inl ⟨by rfl, ?_⟩) ?_ ?_; rotate_left
                · intro w'
                  go_simp; (with_reducible rfl)
                rotate_left
                · simp only [Act.put, pa9_1, pa9_2, pa9_3, i64_w, i32_w]
                  rfl
                refine pure_ (i := 8) (N := some 80) (v := ?_) (a' := ?_) m9_9 rfl rfl (any_of HT_.out (by kernel_rfl)) (fun _ _ _ h => h) (Or.inl ⟨by rfl, ?_⟩) ?_ ?_; rotate_left
                · intro w'
                  go_simp; (with_reducible rfl)
                rotate_left
                · simp only [Act.put, pa9_1, pa9_2, pa9_3, i64_w, i32_w]
                  rfl
                refine pure_ (i := 9) (N := some 81) (v := ?_) (a' := ?_) m9_10 rfl rfl (any_of HT_.out (by kernel_rfl)) (fun _ _ _ h => h) (Or.inl ⟨by rfl, ?_⟩) ?_ ?_; rotate_left
                · intro w'
                  go_simp; (with_reducible rfl)
                rotate_left
                · simp only [Act.put, pa9_1, pa9_2, pa9_3, i64_w, i32_w]
                  rfl
                refine take_ (i := 10) (N := some 82) (v := ?_) (a' := ?_) m9_11 rfl rfl (take_ofW HT_.out HW_.out (by kernel_rfl)) (fun _ _ _ h => h) (Or.inl ⟨by rfl, ?_⟩) hHeld ?_ ?_; rotate_left
                · rintro w' ⟨s0, s1, s2, s3, s4, s5, s6, s7, s8, s9, s10, s11, s12, s13, s14, s15⟩
                  go_simp; (with_reducible rfl)
                rotate_left
                · simp only [Act.put, pa9_1, pa9_2, pa9_3, i64_w, i32_w]
                  rfl
                refine pure_ (i := 11) (N := some 83) (v := ?_) (a' := ?_) m9_12 rfl rfl (any_of HT_.out (by kernel_rfl)) (fun _ _ _ h => h) (Or.inl ⟨by rfl, ?_⟩) ?_ ?_; rotate_left
                · intro w'
                  go_simp; (with_reducible rfl)
                rotate_left
                · simp only [Act.put, pa9_1, pa9_2, pa9_3, i64_w, i32_w]
                  rfl
                refine take_ (i := 12) (N := some 84) (v := ?_) (a' := ?_) m9_13 rfl rfl (take_ofW HT_.out HW_.out (by kernel_rfl)) (fun _ _ _ h => h) (Or.inl ⟨by rfl, ?_⟩) hHeld ?_ ?_; rotate_left
                · rintro w' ⟨s0, s1, s2, s3, s4, s5, s6, s7, s8, s9, s10, s11, s12, s13, s14, s15⟩
                  go_simp; (with_reducible rfl)
                rotate_left
                · simp only [Act.put, pa9_1, pa9_2, pa9_3, i64_w, i32_w]
                  rfl
                refine take_ (i := 13) (N := some 85) (v := ?_) (a' := ?_) m9_14 rfl rfl (take_ofW HT_.out HW_.out (by kernel_rfl)) (fun _ _ _ h => h) (Or.inl ⟨by rfl, ?_⟩) hHeld ?_ ?_; rotate_left
                · rintro w' ⟨s0, s1, s2, s3, s4, s5, s6, s7, s8, s9, s10, s11, s12, s13, s14, s15⟩
                  go_simp; (with_reducible rfl)
                rotate_left
                · simp only [Act.put, pa9_1, pa9_2, pa9_3, i64_w, i32_w]
                  rfl
                refine one_ (i := 14) (N := some 86) m9_15 rfl rfl (one_of HT_.out (by kernel_rfl)) (by decide) (fun K hK => ?_); refine goes_ Tryd.func24 (by kernel_rfl) rfl #[.agg #[.int .i64 ((rd_T28 t376 0).f0), .int .i64 ((rd_T28 t376 0).f1), .string ((rd_T28 t376 0).f2)], .agg #[.int .i64 t352, .int .i64 t353, .string t354]] (by rfl) rfl rfl d9_5 ?_; (with_reducible refine (impl_SameValues.calls ((rd_T28 t376 0).f0) ((rd_T28 t376 0).f1) ((rd_T28 t376 0).f2) t352 t353 t354 false _ A94.out).mono ?_); rintro e w107 ⟨rfl, hb⟩; have HS13_ := (hb.cell (World.block_lt_of_cell? _ _ (hHeld.2.2.2.2.2.2.2.2.2.2.2.2.2.1))).trans (hHeld.2.2.2.2.2.2.2.2.2.2.2.2.2.1); have HS14_ := (hb.cell (World.block_lt_of_cell? _ _ (hHeld.2.2.2.2.2.2.2.2.2.2.2.2.2.2.1))).trans (hHeld.2.2.2.2.2.2.2.2.2.2.2.2.2.2.1); have HS15_ := (hb.cell (World.block_lt_of_cell? _ _ (hHeld.2.2.2.2.2.2.2.2.2.2.2.2.2.2.2))).trans (hHeld.2.2.2.2.2.2.2.2.2.2.2.2.2.2.2); refine ⟨_, rfl, ?_⟩; have n0_ := ak (Kd.R_below d9_8 hb); have n1_ := ak (Kd.R_below d9_14 hb); have n2_ := ak (Kd.R_below d9_15 hb); have n3_ := ak (blk_below (g := gb358) (o := .cells #[.int .i64 t352, .int .i64 t353, .string t354] 28 (0, 0)) d9_1 hb)
                have n4_ := ak (blk_below (g := gb359) (o := .cells #[.int .i64 t355, .int .i64 t356, .string t357] 28 (0, 0)) d9_2 hb); have n5_ := ak (blk_below (g := gb367) (o := .cells #[.int .i64 t360, .slice Ao20 t361.length co20, .int .i64 t364, .int .i64 t365, .string t366] 30 (0, 0)) d9_4 hb); have n6_ := ak (blk_below (g := gb382) (o := .cells #[.int .i64 t375, .slice (some ad394) t376.length co38, .int .i64 t379, .int .i64 t380, .string t381] 45 (0, 0)) d9_7 hb); have n7_ := ak (blk_below (g := gb390) (o := .cells #[.int .i64 t383, .slice Ao48 t384.length co48, .int .i64 t387, .int .i64 t388, .string t389] 45 (0, 0)) d9_10 hb); have n8_ := ak (below_step d9_3 hb); clear HO_368001; clear HO_383001; clear HO_391001; clear BK358; clear BK359; clear BK367; clear BK382; clear BK390; clear HB; have HO_368001 := n0_; have HO_383001 := n1_; have HO_391001 := n2_; have BK358 := n3_; have BK359 := n4_; have BK367 := n5_; have BK382 := n6_; have BK390 := n7_; have HB := n8_; clear n0_ n1_ n2_ n3_ n4_ n5_ n6_ n7_ n8_
                (try clear hb)
                (try clear hb2)
                (try clear hk)
                (try clear hi)
                refine hK.out _ _ ⟨(blk_cell BK382.out 0).trans rfl, (blk_cell BK382.out 1).trans rfl, (blk_cell BK382.out 2).trans rfl, (blk_cell BK382.out 3).trans rfl, (blk_cell BK382.out 4).trans rfl, (blk_cell BK390.out 0).trans rfl, (blk_cell BK390.out 1).trans rfl, (blk_cell BK390.out 2).trans rfl, (blk_cell BK390.out 3).trans rfl, (blk_cell BK390.out 4).trans rfl, (blk_cell BK358.out 0).trans rfl, (blk_cell BK358.out 1).trans rfl, (blk_cell BK358.out 2).trans rfl, HS13_, HS14_, HS15_⟩ (fun hHeld => ?_); clear hK K; refine norm_ (a' := ?_) ?_ ?_; rotate_left
                · show Act.put _ (some 86) _ = _
                  simp only [Act.put, pa9_1, pa9_2, pa9_3, i64_w, i32_w]; rfl
                refine pure_ (i := 15) (N := some 87) (v := ?_) (a' := ?_) m9_16 rfl rfl (any_of HT_.out (by kernel_rfl)) (fun _ _ _ h => h) (Or.inl ⟨by rfl, ?_⟩) ?_ ?_; rotate_left
                · intro w'
                  go_simp; (with_reducible rfl)
                rotate_left
                · simp only [Act.put, pa9_1, pa9_2, pa9_3, i64_w, i32_w]
                  rfl
                refine pure_ (i := 16) (N := some 88) (v := ?_) (a' := ?_) m9_17 rfl rfl (any_of HT_.out (by kernel_rfl)) (fun _ _ _ h => h) (Or.inl ⟨by rfl, ?_⟩) ?_ ?_; rotate_left
                · intro w'
                  go_simp; (with_reducible rfl)
                rotate_left
                · simp only [Act.put, pa9_1, pa9_2, pa9_3, i64_w, i32_w]
                  rfl
                refine pure_ (i := 17) (N := some 89) (v := undef) (a' := ?_) m9_18 rfl rfl (any_of HT_.out (by kernel_rfl)) (fun _ _ _ h => h) (Or.inr ⟨by rfl, rfl⟩) ?_ ?_; rotate_left
                · simp only [Act.put, pa9_1, pa9_2, pa9_3, i64_w, i32_w]
                  rfl
                refine pure_ (i := 18) (N := some 90) (v := undef) (a' := ?_) m9_20 rfl rfl (any_of HT_.out (by kernel_rfl)) (fun _ _ _ h => h) (Or.inr ⟨by rfl, rfl⟩) ?_ ?_; rotate_left
                · simp only [Act.put, pa9_1, pa9_2, pa9_3, i64_w, i32_w]
                  rfl
                refine pure_ (i := 19) (N := some 91) (v := undef) (a' := ?_) m9_21 rfl rfl (any_of HT_.out (by kernel_rfl)) (fun _ _ _ h => h) (Or.inr ⟨by rfl, rfl⟩) ?_ ?_; rotate_left
                · simp only [Act.put, pa9_1, pa9_2, pa9_3, i64_w, i32_w]
                  rfl
                refine pure_ (i := 20) (N := some 92) (v := undef) (a' := ?_) m9_22 rfl rfl (any_of HT_.out (by kernel_rfl)) (fun _ _ _ h => h) (Or.inr ⟨by rfl, rfl⟩) ?_ ?_; rotate_left
                · simp only [Act.put, pa9_1, pa9_2, pa9_3, i64_w, i32_w]
                  rfl
                refine pure_ (i := 21) (N := some 93) (v := undef) (a' := ?_) m9_23 rfl rfl (any_of HT_.out (by kernel_rfl)) (fun _ _ _ h => h) (Or.inr ⟨by rfl, rfl⟩) ?_ ?_; rotate_left
                · simp only [Act.put, pa9_1, pa9_2, pa9_3, i64_w, i32_w]
                  rfl
                refine pure_ (i := 22) (N := some 94) (v := ?_) (a' := ?_) m9_24 rfl rfl (any_of HT_.out (by kernel_rfl)) (fun _ _ _ h => h) (Or.inl ⟨by rfl, ?_⟩) ?_ ?_; rotate_left
                · intro w'
                  go_simp; (with_reducible rfl)
                rotate_left
                · simp only [Act.put, pa9_1, pa9_2, pa9_3, i64_w, i32_w]
                  rfl
                refine pure_ (i := 23) (N := some 95) (v := ?_) (a' := ?_) m9_25 rfl rfl (any_of HT_.out (by kernel_rfl)) (fun _ _ _ h => h) (Or.inl ⟨by rfl, ?_⟩) ?_ ?_; rotate_left
                · intro w'
                  go_simp; (with_reducible rfl)
                rotate_left
                · simp only [Act.put, pa9_1, pa9_2, pa9_3, i64_w, i32_w]
                  rfl
                refine pure_ (i := 24) (N := some 96) (v := undef) (a' := ?_) m9_26 rfl rfl (any_of HT_.out (by kernel_rfl)) (fun _ _ _ h => h) (Or.inr ⟨by rfl, rfl⟩) ?_ ?_; rotate_left
                · simp only [Act.put, pa9_1, pa9_2, pa9_3, i64_w, i32_w]
                  rfl
                refine pure_ (i := 25) (N := some 97) (v := undef) (a' := ?_) m9_27 rfl rfl (any_of HT_.out (by kernel_rfl)) (fun _ _ _ h => h) (Or.inr ⟨by rfl, rfl⟩) ?_ ?_; rotate_left
                · simp only [Act.put, pa9_1, pa9_2, pa9_3, i64_w, i32_w]
                  rfl
                refine pure_ (i := 26) (N := some 98) (v := undef) (a' := ?_) m9_28 rfl rfl (any_of HT_.out (by kernel_rfl)) (fun _ _ _ h => h) (Or.inr ⟨by rfl, rfl⟩) ?_ ?_; rotate_left
                · simp only [Act.put, pa9_1, pa9_2, pa9_3, i64_w, i32_w]
                  rfl
                refine pure_ (i := 27) (N := some 99) (v := undef) (a' := ?_) m9_29 rfl rfl (any_of HT_.out (by kernel_rfl)) (fun _ _ _ h => h) (Or.inr ⟨by rfl, rfl⟩) ?_ ?_; rotate_left
                · simp only [Act.put, pa9_1, pa9_2, pa9_3, i64_w, i32_w]
                  rfl
                refine pure_ (i := 28) (N := some 100) (v := ?_) (a' := ?_) m9_30 rfl rfl (any_of HT_.out (by kernel_rfl)) (fun _ _ _ h => h) (Or.inl ⟨by rfl, ?_⟩) ?_ ?_; rotate_left
                · intro w'
                  go_simp; (with_reducible rfl)
                rotate_left
                · simp only [Act.put, pa9_1, pa9_2, pa9_3, i64_w, i32_w]
                  rfl
                refine pure_ (i := 29) (N := some 2) (v := ?_) (a' := ?_) m9_31 rfl rfl (any_of HT_.out (by kernel_rfl)) (fun _ _ _ h => h) (Or.inl ⟨by rfl, ?_⟩) ?_ ?_; rotate_left
                · intro w'
                  go_simp; (with_reducible rfl)
                rotate_left
                · simp only [Act.put, pa9_1, pa9_2, pa9_3, i64_w, i32_w]
                  rfl
                refine done_ (done_of HT_.out (by kernel_rfl)) ?_
                try go_wp2
                go_meet
                case rel => exact ⟨_, (false), d9_16, H', ⟨by have := HJ2.out; have := HJ6.out; have := HJ27.out; have := HJ63.out; have := HJ70.out; first | omega | exact Nat.le_refl _⟩, ⟨c9_7⟩, ⟨c9_8⟩, ⟨c9_9⟩, ⟨c9_2⟩, ⟨c9_3⟩, ⟨c9_4⟩, ⟨c9_5⟩, ⟨c9_6⟩, ⟨c9_1⟩⟩
              ·rw [if_neg c93] at H
               exact absurd H (by simp)
             ·rw [if_neg c92] at H
              have c92b0 : ((t376.length : Int) == (wrap64 ((t384.length : Int) + 1))) = false := beq_eq_false_iff_ne.mpr c92; have c92b1 : ((t376.length : Int) != (wrap64 ((t384.length : Int) + 1))) = true := bne_iff_ne.mpr c92
              (first | rw [c92b0] | (simp only [i64_w, i32_w]; rw [c92b0]) | skip)
              have H' := ak H; clear H
              try go_wp2
              have n0_ := ak (Kd.R_drew HO_368001.out); have n1_ := ak (Kd.R_drew HO_383001.out); have n2_ := ak (Kd.R_drew HO_391001.out); have n3_ := ak (blk_drew BK358.out); have n4_ := ak (blk_drew BK359.out); have n5_ := ak (blk_drew BK367.out); have n6_ := ak (blk_drew BK382.out); have n7_ := ak (blk_drew BK390.out); have n8_ := ak (below_drew1 HB.out); clear HO_368001; clear HO_383001; clear HO_391001; clear BK358; clear BK359; clear BK367; clear BK382; clear BK390; clear HB; have HO_368001 := n0_; have HO_383001 := n1_; have HO_391001 := n2_; have BK358 := n3_; have BK359 := n4_; have BK367 := n5_; have BK382 := n6_; have BK390 := n7_; have HB := n8_; clear n0_ n1_ n2_ n3_ n4_ n5_ n6_ n7_ n8_
              refine start_ (n := 30) (S := fun w' => w'.cell? ⟨gb382, 0, none⟩ = some (.int .i64 t375) ∧ w'.cell? ⟨gb382, 1, none⟩ = some (.slice Ao38 t376.length co38) ∧ w'.cell? ⟨gb382, 2, none⟩ = some (.int .i64 t379) ∧ w'.cell? ⟨gb382, 3, none⟩ = some (.int .i64 t380) ∧ w'.cell? ⟨gb382, 4, none⟩ = some (.string t381) ∧ w'.cell? ⟨gb390, 0, none⟩ = some (.int .i64 t383) ∧ w'.cell? ⟨gb390, 1, none⟩ = some (.slice Ao48 t384.length co48) ∧ w'.cell? ⟨gb390, 2, none⟩ = some (.int .i64 t387) ∧ w'.cell? ⟨gb390, 3, none⟩ = some (.int .i64 t388) ∧ w'.cell? ⟨gb390, 4, none⟩ = some (.string t389)) (ds := []) m9_0 (by kernel_rfl) rfl rfl (hb9_5_5 BK382.out BK390.out) (fun hHeld => ?_); refine with_tabW laws_FnLists.tab16 laws_FnLists.bits16 (fun HT_ HW_ => ?_); generalize wc.drew = w108 at HO_368001 HO_383001 HO_391001 BK358 BK359 BK367 BK382 BK390 HB hHeld ⊢
              refine pure_ (i := 0) (N := some 72) (v := ?_) (a' := ?_) m9_1 rfl rfl (any_of HT_.out (by kernel_rfl)) (fun _ _ _ h => h) (Or.inl ⟨by rfl, ?_⟩) ?_ ?_; rotate_left
              · intro w'
                go_simp; (with_reducible rfl)
              rotate_left
              · simp only [Act.put, pa9_1, pa9_2, pa9_3, i64_w, i32_w]
                rfl
              refine pure_ (i := 3) (N := some 75) (v := ?_) (a' := ?_) m9_2 rfl rfl (any_of HT_.out (by kernel_rfl)) (fun _ _ _ h => h) (Or.inl ⟨by rfl, ?_⟩) ?_ ?_; rotate_left
              · intro w'
                go_simp; (with_reducible rfl)
              rotate_left
              · simp only [Act.put, pa9_1, pa9_2, pa9_3, i64_w, i32_w]
                rfl
              refine take_ (i := 1) (N := some 73) (v := ?_) (a' := ?_) m9_3 rfl rfl (take_ofW HT_.out HW_.out (by kernel_rfl)) (fun _ _ _ h => h) (Or.inl ⟨by rfl, ?_⟩) hHeld ?_ ?_; rotate_left
              · rintro w' ⟨s0, s1, s2, s3, s4, s5, s6, s7, s8, s9⟩
                go_simp; (with_reducible rfl)
              rotate_left
              · simp only [Act.put, pa9_1, pa9_2, pa9_3, i64_w, i32_w]
                rfl
              refine pure_ (i := 2) (N := some 74) (v := ?_) (a' := ?_) m9_4 rfl rfl (any_of HT_.out (by kernel_rfl)) (fun _ _ _ h => h) (Or.inl ⟨by rfl, ?_⟩) ?_ ?_; rotate_left
              · intro w'
                go_simp; (with_reducible rfl)
              rotate_left
              · simp only [Act.put, pa9_1, pa9_2, pa9_3, i64_w, i32_w]
                rfl
              refine take_ (i := 4) (N := some 76) (v := ?_) (a' := ?_) m9_5 rfl rfl (take_ofW HT_.out HW_.out (by kernel_rfl)) (fun _ _ _ h => h) (Or.inl ⟨by rfl, ?_⟩) hHeld ?_ ?_; rotate_left
              · rintro w' ⟨s0, s1, s2, s3, s4, s5, s6, s7, s8, s9⟩
                go_simp; (with_reducible rfl)
              rotate_left
              · simp only [Act.put, pa9_1, pa9_2, pa9_3, i64_w, i32_w]
                rfl
              refine pure_ (i := 5) (N := some 77) (v := ?_) (a' := ?_) m9_6 rfl rfl (any_of HT_.out (by kernel_rfl)) (fun _ _ _ h => h) (Or.inl ⟨by rfl, ?_⟩) ?_ ?_; rotate_left
              · intro w'
                go_simp; (with_reducible rfl)
              rotate_left
              · simp only [Act.put, pa9_1, pa9_2, pa9_3, i64_w, i32_w]
                rfl
              refine pure_ (i := 6) (N := some 78) (v := ?_) (a' := ?_) m9_7 rfl rfl (any_of HT_.out (by kernel_rfl)) (fun _ _ _ h => h) (Or.inl ⟨by rfl, ?_⟩) ?_ ?_; rotate_left
              · intro w'
                go_simp; (with_reducible rfl)
              rotate_left
              · simp only [Act.put, pa9_1, pa9_2, pa9_3, i64_w, i32_w]
                rfl
              refine pure_ (i := 7) (N := some 79) (v := ?_) (a' := ?_) m9_8 rfl rfl (any_of HT_.out (by kernel_rfl)) (fun _ _ _ h => h) (Or.inl ⟨by rfl, ?_⟩) ?_ ?_; rotate_left
              · intro w'
                go_simp; (with_reducible rfl)
              rotate_left
              · simp only [Act.put, pa9_1, pa9_2, pa9_3, i64_w, i32_w]
                rfl
              refine pure_ (i := 8) (N := some 80) (v := ?_) (a' := ?_) m9_9 rfl rfl (any_of HT_.out (by kernel_rfl)) (fun _ _ _ h => h) (Or.inl ⟨by rfl, ?_⟩) ?_ ?_; rotate_left
              · intro w'
                go_simp; (with_reducible rfl)
              rotate_left
              · simp only [Act.put, pa9_1, pa9_2, pa9_3, i64_w, i32_w]
                rfl
              refine pure_ (i := 9) (N := some 81) (v := undef) (a' := ?_) m9_10 rfl rfl (any_of HT_.out (by kernel_rfl)) (fun _ _ _ h => h) (Or.inr ⟨by rfl, rfl⟩) ?_ ?_; rotate_left
              · simp only [Act.put, pa9_1, pa9_2, pa9_3, i64_w, i32_w]
                rfl
              refine pure_ (i := 10) (N := some 82) (v := undef) (a' := ?_) m9_11 rfl rfl (any_of HT_.out (by kernel_rfl)) (fun _ _ _ h => h) (Or.inr ⟨by rfl, rfl⟩) ?_ ?_; rotate_left
              · simp only [Act.put, pa9_1, pa9_2, pa9_3, i64_w, i32_w]
                rfl
              refine pure_ (i := 11) (N := some 83) (v := undef) (a' := ?_) m9_12 rfl rfl (any_of HT_.out (by kernel_rfl)) (fun _ _ _ h => h) (Or.inr ⟨by rfl, rfl⟩) ?_ ?_; rotate_left
              · simp only [Act.put, pa9_1, pa9_2, pa9_3, i64_w, i32_w]
                rfl
              refine pure_ (i := 12) (N := some 84) (v := undef) (a' := ?_) m9_13 rfl rfl (any_of HT_.out (by kernel_rfl)) (fun _ _ _ h => h) (Or.inr ⟨by rfl, rfl⟩) ?_ ?_; rotate_left
              · simp only [Act.put, pa9_1, pa9_2, pa9_3, i64_w, i32_w]
                rfl
              refine pure_ (i := 13) (N := some 85) (v := undef) (a' := ?_) m9_14 rfl rfl (any_of HT_.out (by kernel_rfl)) (fun _ _ _ h => h) (Or.inr ⟨by rfl, rfl⟩) ?_ ?_; rotate_left
              · simp only [Act.put, pa9_1, pa9_2, pa9_3, i64_w, i32_w]
                rfl
              refine pure_ (i := 14) (N := some 86) (v := undef) (a' := ?_) m9_15 rfl rfl (any_of HT_.out (by kernel_rfl)) (fun _ _ _ h => h) (Or.inr ⟨by rfl, rfl⟩) ?_ ?_; rotate_left
              · simp only [Act.put, pa9_1, pa9_2, pa9_3, i64_w, i32_w]
                rfl
              refine pure_ (i := 15) (N := some 87) (v := ?_) (a' := ?_) m9_16 rfl rfl (any_of HT_.out (by kernel_rfl)) (fun _ _ _ h => h) (Or.inl ⟨by rfl, ?_⟩) ?_ ?_; rotate_left
              · intro w'
                go_simp; (with_reducible rfl)
              rotate_left
              · simp only [Act.put, pa9_1, pa9_2, pa9_3, i64_w, i32_w]
                rfl
              refine pure_ (i := 16) (N := some 88) (v := ?_) (a' := ?_) m9_17 rfl rfl (any_of HT_.out (by kernel_rfl)) (fun _ _ _ h => h) (Or.inl ⟨by rfl, ?_⟩) ?_ ?_; rotate_left
              · intro w'
                go_simp; (with_reducible rfl)
              rotate_left
              · simp only [Act.put, pa9_1, pa9_2, pa9_3, i64_w, i32_w]
                rfl
              refine pure_ (i := 17) (N := some 89) (v := undef) (a' := ?_) m9_18 rfl rfl (any_of HT_.out (by kernel_rfl)) (fun _ _ _ h => h) (Or.inr ⟨by rfl, rfl⟩) ?_ ?_; rotate_left
              · simp only [Act.put, pa9_1, pa9_2, pa9_3, i64_w, i32_w]
                rfl
              refine pure_ (i := 18) (N := some 90) (v := undef) (a' := ?_) m9_20 rfl rfl (any_of HT_.out (by kernel_rfl)) (fun _ _ _ h => h) (Or.inr ⟨by rfl, rfl⟩) ?_ ?_; rotate_left
              · simp only [Act.put, pa9_1, pa9_2, pa9_3, i64_w, i32_w]
                rfl
              refine pure_ (i := 19) (N := some 91) (v := undef) (a' := ?_) m9_21 rfl rfl (any_of HT_.out (by kernel_rfl)) (fun _ _ _ h => h) (Or.inr ⟨by rfl, rfl⟩) ?_ ?_; rotate_left
              · simp only [Act.put, pa9_1, pa9_2, pa9_3, i64_w, i32_w]
                rfl
              refine pure_ (i := 20) (N := some 92) (v := undef) (a' := ?_) m9_22 rfl rfl (any_of HT_.out (by kernel_rfl)) (fun _ _ _ h => h) (Or.inr ⟨by rfl, rfl⟩) ?_ ?_; rotate_left
              · simp only [Act.put, pa9_1, pa9_2, pa9_3, i64_w, i32_w]
                rfl
              refine pure_ (i := 21) (N := some 93) (v := undef) (a' := ?_) m9_23 rfl rfl (any_of HT_.out (by kernel_rfl)) (fun _ _ _ h => h) (Or.inr ⟨by rfl, rfl⟩) ?_ ?_; rotate_left
              · simp only [Act.put, pa9_1, pa9_2, pa9_3, i64_w, i32_w]
                rfl
              refine pure_ (i := 22) (N := some 94) (v := ?_) (a' := ?_) m9_24 rfl rfl (any_of HT_.out (by kernel_rfl)) (fun _ _ _ h => h) (Or.inl ⟨by rfl, ?_⟩) ?_ ?_; rotate_left
              · intro w'
                go_simp; (with_reducible rfl)
              rotate_left
              · simp only [Act.put, pa9_1, pa9_2, pa9_3, i64_w, i32_w]
                rfl
              refine pure_ (i := 23) (N := some 95) (v := ?_) (a' := ?_) m9_25 rfl rfl (any_of HT_.out (by kernel_rfl)) (fun _ _ _ h => h) (Or.inl ⟨by rfl, ?_⟩) ?_ ?_; rotate_left
              · intro w'
                go_simp; (with_reducible rfl)
              rotate_left
              · simp only [Act.put, pa9_1, pa9_2, pa9_3, i64_w, i32_w]
                rfl
              refine pure_ (i := 24) (N := some 96) (v := undef) (a' := ?_) m9_26 rfl rfl (any_of HT_.out (by kernel_rfl)) (fun _ _ _ h => h) (Or.inr ⟨by rfl, rfl⟩) ?_ ?_; rotate_left
              · simp only [Act.put, pa9_1, pa9_2, pa9_3, i64_w, i32_w]
                rfl
              refine pure_ (i := 25) (N := some 97) (v := undef) (a' := ?_) m9_27 rfl rfl (any_of HT_.out (by kernel_rfl)) (fun _ _ _ h => h) (Or.inr ⟨by rfl, rfl⟩) ?_ ?_; rotate_left
              · simp only [Act.put, pa9_1, pa9_2, pa9_3, i64_w, i32_w]
                rfl
              refine pure_ (i := 26) (N := some 98) (v := undef) (a' := ?_) m9_28 rfl rfl (any_of HT_.out (by kernel_rfl)) (fun _ _ _ h => h) (Or.inr ⟨by rfl, rfl⟩) ?_ ?_; rotate_left
              · simp only [Act.put, pa9_1, pa9_2, pa9_3, i64_w, i32_w]
                rfl
              refine pure_ (i := 27) (N := some 99) (v := undef) (a' := ?_) m9_29 rfl rfl (any_of HT_.out (by kernel_rfl)) (fun _ _ _ h => h) (Or.inr ⟨by rfl, rfl⟩) ?_ ?_; rotate_left
              · simp only [Act.put, pa9_1, pa9_2, pa9_3, i64_w, i32_w]
                rfl
              refine pure_ (i := 28) (N := some 100) (v := ?_) (a' := ?_) m9_30 rfl rfl (any_of HT_.out (by kernel_rfl)) (fun _ _ _ h => h) (Or.inl ⟨by rfl, ?_⟩) ?_ ?_; rotate_left
              · intro w'
                go_simp; (with_reducible rfl)
              rotate_left
              · simp only [Act.put, pa9_1, pa9_2, pa9_3, i64_w, i32_w]
                rfl
              refine pure_ (i := 29) (N := some 2) (v := ?_) (a' := ?_) m9_31 rfl rfl (any_of HT_.out (by kernel_rfl)) (fun _ _ _ h => h) (Or.inl ⟨by rfl, ?_⟩) ?_ ?_; rotate_left
              · intro w'
                go_simp; (with_reducible rfl)
              rotate_left
              · simp only [Act.put, pa9_1, pa9_2, pa9_3, i64_w, i32_w]
                rfl
              refine done_ (done_of HT_.out (by kernel_rfl)) ?_
              try go_wp2
              go_meet
              case rel => exact ⟨_, (false), d9_16, H', ⟨by have := HJ2.out; have := HJ6.out; have := HJ27.out; have := HJ63.out; have := HJ70.out; first | omega | exact Nat.le_refl _⟩, ⟨c9_7⟩, ⟨c9_8⟩, ⟨c9_9⟩, ⟨c9_2⟩, ⟨c9_3⟩, ⟨c9_4⟩, ⟨c9_5⟩, ⟨c9_6⟩, ⟨c9_1⟩⟩
            case rest =>
             clear HC91
             (try clear c1); (try clear c2); (try clear p2); (try clear c3); (try clear p3); (try clear q3); (try clear hx3); (try clear c4); (try clear c5); (try clear c6); (try clear p6); (try clear c7); (try clear c8); (try clear c11); (try clear c12); (try clear c15); (try clear c17); (try clear c18); (try clear c21); (try clear c21b0); (try clear c21b1); (try clear c22); (try clear c23); (try clear c24); (try clear c29); (try clear c30); (try clear c34); (try clear c35); (try clear c36); (try clear c39); (try clear p39); (try clear q39); (try clear hx39); (try clear c43); (try clear c44); (try clear c45); (try clear c46); (try clear c49); (try clear c49b0); (try clear c49b1); (try clear c50); (try clear c51); (try clear c52); (try clear c53); (try clear c55); (try clear c56); (try clear c57); (try clear c59); (try clear c60); (try clear c61); (try clear c62); (try clear p64); (try clear c65); (try clear c66); (try clear c67); (try clear c68); (try clear c69); (try clear c73); (try clear c74); (try clear c75); (try clear c76); (try clear c78); (try clear c78b0); (try clear c81); (try clear c82); (try clear c83); (try clear c84); (try clear c86); (try clear hcz12_0); (try clear hcz12_1); (try clear hcz12_2); (try clear hcz13_0); (try clear hcz13_1); (try clear hcz13_2); (try clear hcz19_0); (try clear hcz19_1); (try clear hcz19_2); (try clear hcz19_3); (try clear hcz19_4); (try clear hcz31_0); (try clear hcz31_1); (try clear hcz31_2); (try clear hcz31_3); (try clear hcz31_4); (try clear hcz37_0); (try clear hcz37_1); (try clear hcz37_2); (try clear hcz37_3); (try clear hcz37_4); (try clear hcz40_0); (try clear hcz40_1); (try clear hcz40_2); (try clear hcz47_0); (try clear hcz47_1); (try clear hcz47_2); (try clear hcz47_3); (try clear hcz47_4); (try clear hcz54_0); (try clear hcz54_1); (try clear hcz54_2); (try clear hcz54_3); (try clear hcz54_4); (try clear hcz58_0); (try clear hcz58_1); (try clear hcz58_2); (try clear hcz58_3); (try clear hcz58_4); (try clear hcz63_0); (try clear hcz63_1); (try clear hcz63_2); (try clear hcz63_3); (try clear hcz63_4); (try clear hcz70_0); (try clear hcz70_1); (try clear hcz70_2); (try clear hcz70_3); (try clear hcz70_4); (try clear hcz77_0); (try clear hcz77_1); (try clear hcz77_2); (try clear hcz77_3); (try clear hcz77_4); (try clear hfz12_0); (try clear hfz12_1); (try clear hfz12_2); (try clear hfz13_0); (try clear hfz13_1); (try clear hfz13_2); (try clear hfz19_0); (try clear hfz19_1); (try clear hfz19_2); (try clear hfz19_3); (try clear hfz19_4); (try clear hfz31_0); (try clear hfz31_1); (try clear hfz31_2); (try clear hfz31_3); (try clear hfz31_4); (try clear hfz37_0); (try clear hfz37_1); (try clear hfz37_2); (try clear hfz37_3); (try clear hfz37_4); (try clear hfz40_0); (try clear hfz40_1); (try clear hfz40_2); (try clear hfz47_0); (try clear hfz47_1); (try clear hfz47_2); (try clear hfz47_3); (try clear hfz47_4); (try clear hfz54_0); (try clear hfz54_1); (try clear hfz54_2); (try clear hfz54_3); (try clear hfz54_4); (try clear hfz58_0); (try clear hfz58_1); (try clear hfz58_2); (try clear hfz58_3); (try clear hfz58_4); (try clear hfz63_0); (try clear hfz63_1); (try clear hfz63_2); (try clear hfz63_3); (try clear hfz63_4); (try clear hfz70_0); (try clear hfz70_1); (try clear hfz70_2); (try clear hfz70_3); (try clear hfz70_4); (try clear hfz77_0); (try clear hfz77_1); (try clear hfz77_2); (try clear hfz77_3); (try clear hfz77_4); (try clear hx391_0); (try clear hx391_1); (try clear hx391_2); (try clear hx392_0); (try clear hx392_1); (try clear hx392_2); (try clear p2); (try clear p391); (try clear p392); (try clear q391); (try clear q392)
             obtain ⟨kq, x2_90, rfl, HA, HJ90, HO_368001, HO_383001, HO_391001, BK358, BK359, BK367, BK382, BK390, HB⟩ := hcut
             cases kq with
             | zero => exact absurd HA.out (by simp [laws_FnLists.j8])
             | succ kj90 =>
              have H := HA.out; clear HA; simp only [laws_FnLists.j8] at H; obtain rfl := Option.some.inj H; go_wp2; go_ret; exact ⟨by first | rfl | (simp [errW_none, errW_some] <;> rfl) | (simp [*, errW_none, errW_some] <;> rfl), c9_1⟩

end Go.Proofs.YthlgmdbfhkcghaaDoor.L
