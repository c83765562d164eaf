/- Walks of the program's functions: each Go function's answer as a plain Lean function, and that the call comes to it. Written by a program. Conditions: those in each theorem's own head. -/
import Derived.Test.YteiokhfikbndbaaDoorR0
namespace Go.Proofs.YteiokhfikbndbaaDoor.R
open Go.RowKit Go.Proofs.YteiokhfikbndbaaDoorW.PrintWords Go.Proofs.YteiokhfikbndbaaDoorW.PrintLast Go.Proofs.YteiokhfikbndbaaDoorW.PrintMore
attribute [local go_sem] max2_int min2_int max_two min_two max_three min_three max_four min_four   -- for this text's walks alone
set_option linter.unusedVariables false
set_option linter.unusedSimpArgs false

theorem b4N {w : World} {g : Nat} {o : Obj} (h : w.heap[g]? = some o) (n : Nat) : (w.drewN n).heap[g]? = some o := h
theorem b4D {w : World} {g : Nat} {o : Obj} (h : w.heap[g]? = some o) : (w.drew).heap[g]? = some o := h
theorem b4L {w : World} {g : Nat} {o : Obj} (h : w.heap[g]? = some o) (o' : Obj) : (w.alloc o').heap[g]? = some o := blk_alloc h o'
theorem d4_1 {p : Prop} (h : p := by repeat (first | (with_reducible first | exact HB.out | apply below_alloc | apply pw_below_drewN | apply below_drew1 | refine below_set ?_ GE0.out | refine below_set ?_ GE147.out) | exact HB.out)) : p := h
theorem d4_2 {p : Prop} (h : p := by (with_reducible repeat (first | apply Kd.R_alloc | apply Kd.R_drewN | apply Kd.R_drew)); exact HO_1000.out) : p := h
theorem d4_3 {p : Prop} (h : p := by (with_reducible repeat first | apply b4N | apply b4D | apply b4L); exact BK0.out) : p := h
theorem d4_4 {p : Prop} (h : p := by (with_reducible repeat first | apply b4N | apply b4D | apply b4L); exact BK147.out) : p := h
theorem d4_5 {p : Prop} (h : p := by first | exact HK.out.1 | exact (show Kept w _ (fun k_ => (P0_0_ k_ ∨ P0_1_ k_ ∨ P0_2_ k_) ∨ k_ = g) from by repeat (first | (with_reducible first | exact HK.out | apply Kept.alloc | apply Kept.drewN | apply Kept.drew | refine Kept.setCell ?_ (.inl (.inr rfl)) _ | refine Kept.setCell ?_ (.inr GW147.out) _) | exact HK.out)).1) : p := h
theorem c4_1 {p : Prop} (h : p := by repeat (first | (with_reducible first | exact HK.out | apply Kept.alloc | apply Kept.drewN | apply Kept.drew | refine Kept.setCell ?_ (.inl (.inr rfl)) _ | refine Kept.setCell ?_ (.inr GW147.out) _) | exact HK.out)) : p := h
theorem c4_2 {p : Prop} (h : p := by repeat (first | (with_reducible first | exact HB.out | apply below_alloc | apply pw_below_drewN | apply below_drew1 | refine below_set ?_ GE0.out | refine below_set ?_ GE147.out) | exact HB.out)) : p := h
set_option maxHeartbeats 8000000
set_option maxRecDepth 100000
theorem z4c {w : World} {g : Nat} {t : TypeId} {cs : Array Value} (h : w.heap[g]? = some (.cells cs t (0, 0))) (i : Nat) {v : Value} (e : cs[i]? = some v) : w.cell? ⟨g, i, none⟩ = some v := (blk_cell h i).trans e
theorem pa4_1 {α : Type} (l : List α) (i : Nat) (a : α) : l.toArray.setIfInBounds i a = (l.set i a).toArray := List.setIfInBounds_toArray l i a
theorem pa4_2 {α : Type} (a : α) (l : List α) (b : α) : (a :: l).set 0 b = b :: l := rfl
theorem pa4_3 {α : Type} (a : α) (l : List α) (n : Nat) (b : α) : (a :: l).set (n + 1) b = a :: l.set n b := rfl

theorem hb4_3_4 {w : World} {g0 g1 : Nat} {t0 t1 : TypeId} {a0_0 a0_1 a0_2 a1_0 a1_1 a1_2 a1_3 : Value} (h0 : w.heap[g0]? = some (.cells #[a0_0, a0_1, a0_2] t0 (0, 0))) (h1 : w.heap[g1]? = some (.cells #[a1_0, a1_1, a1_2, a1_3] t1 (0, 0))) : w.cell? ⟨g0, 0, none⟩ = some a0_0 ∧ w.cell? ⟨g0, 1, none⟩ = some a0_1 ∧ w.cell? ⟨g0, 2, none⟩ = some a0_2 ∧ w.cell? ⟨g1, 0, none⟩ = some a1_0 ∧ w.cell? ⟨g1, 1, none⟩ = some a1_1 ∧ w.cell? ⟨g1, 2, none⟩ = some a1_2 ∧ w.cell? ⟨g1, 3, none⟩ = some a1_3 := ⟨(blk_cell h0 0).trans rfl, (blk_cell h0 1).trans rfl, (blk_cell h0 2).trans rfl, (blk_cell h1 0).trans rfl, (blk_cell h1 1).trans rfl, (blk_cell h1 2).trans rfl, (blk_cell h1 3).trans rfl⟩

/-! ### spec_l3Put: function 65 -/
def spec_l3Put.j0 : Nat → Bool → List (S80) → List Int → List Bool → Int → Int → Int → ByteArray → Option (Int × (List (S80)) × List Int × List Bool)
  | 0, _, _, _, _, _, _, _, _ => none
  | k + 1, x19, x1000, x1001, x1002, x148000, x148001, x148002, x148003 => if x19 = true then (some (2, x1000, x1001, x1002)) else (if (x1001.length : Int) > 0 then (if 0 ≤ (wrap64 ((x1001.length : Int) - 1)) then (if (wrap64 ((x1001.length : Int) - 1)) < (x1001.length : Int) then (if x1000.length < 3518437208883 then (some (0, (x1000 ++ [(⟨x148000, rd x1001 (wrap64 ((x1001.length : Int) - 1)), x148002, x148003⟩ : S80)]), x1001, x1002)) else (none)) else (none)) else (none)) else (if x1000.length < 3518437208883 then (some (0, (x1000 ++ [(⟨x148000, (-1), x148002, x148003⟩ : S80)]), x1001, x1002)) else (none)))
def spec_l3Put.f (k : Nat) (l0_0 : List (S80)) (l0_1 : List Int) (l0_2 : List Bool) (a1_0 : Int) (a1_1 : Int) (a1_2 : Int) (a1_3 : ByteArray) : Option (Int × (List (S80)) × List Int × List Bool) := if (l0_0.length : Int) ≥ 80 then (spec_l3Put.j0 k true l0_0 l0_1 l0_2 a1_0 a1_1 a1_2 a1_3) else (spec_l3Put.j0 k (decide ((l0_1.length : Int) ≥ 12)) l0_0 l0_1 l0_2 a1_0 a1_1 a1_2 a1_3)
theorem spec_l3Put.mono_l : ∀ k, (∀ y0 y1 y2 y3 y4 y5 y6 y7, LeO (spec_l3Put.j0 k y0 y1 y2 y3 y4 y5 y6 y7) (spec_l3Put.j0 (k + 1) y0 y1 y2 y3 y4 y5 y6 y7))
  | 0 => fun _ _ _ _ _ _ _ _ r h => by simp [spec_l3Put.j0] at h
  | k + 1 => by
    have ih0 := spec_l3Put.mono_l k
    · intro y0 y1 y2 y3 y4 y5 y6 y7
      unfold spec_l3Put.j0
      repeat' first | (with_reducible first | apply ih0 | exact LeO.refl _ | exact LeO.none _ | refine LeO.ite ?_ ?_ | refine LeO.bind ?_ (fun _ => ?_)) | apply ih0 | exact LeO.none _ | refine LeO.ite ?_ ?_ | refine LeO.bind ?_ (fun _ => ?_)
theorem spec_l3Put.mono : ∀ a0 a1 a2 a3 a4 a5 a6 k, LeO (spec_l3Put.f k a0 a1 a2 a3 a4 a5 a6) (spec_l3Put.f (k + 1) a0 a1 a2 a3 a4 a5 a6) := by
  intro a0 a1 a2 a3 a4 a5 a6 k; have ih0 := spec_l3Put.mono_l k; unfold spec_l3Put.f
  repeat' first | (with_reducible first | apply ih0 | exact LeO.refl _ | exact LeO.none _ | refine LeO.ite ?_ ?_ | refine LeO.bind ?_ (fun _ => ?_)) | apply ih0 | exact LeO.none _ | refine LeO.ite ?_ ?_ | refine LeO.bind ?_ (fun _ => ?_)
def spec_l3Put.T7 : Bool × List (List Nat × List Nat) := (true, [([], []), ([], []), ([1], [1]), ([2], [2]), ([3], [3]), ([], []), ([5], [5]), ([4, 6], [4, 6]), ([0, 0, 1, 2, 3, 4, 5, 6, 7], [0]), ([8, 0, 1, 2, 3, 4, 5, 6, 7], [8]), ([9, 7, 7, 0, 1, 2, 3, 4, 5, 6, 7], [7, 9])])
def spec_l3Put.B7 : List Nat := [0, 0, 2, 6, 14, 0, 32, 126, 255, 511, 1023]
theorem spec_l3Put.tab7 : rtab .any (opsOf Tryd.f65 7) = spec_l3Put.T7 := by kernel_rfl
theorem spec_l3Put.bits7 : waitsOk spec_l3Put.T7.2 spec_l3Put.B7 = true := by kernel_rfl
theorem spec_l3Put.calls (k : Nat) (g : Nat) (P0_0_ : Nat → Prop) (u9000_ : Value) (l0_0 : List (S80)) (P0_1_ : Nat → Prop) (u9001_ : Value) (l0_1 : List Int) (P0_2_ : Nat → Prop) (u9002_ : Value) (l0_2 : List Bool) (a1_0 : Int) (a1_1 : Int) (a1_2 : Int) (a1_3 : ByteArray) (r1 : Int) (r2 : List (S80)) (r3 : List Int) (r4 : List Bool) (w0 w : World) (hB : Below w0.heap.size w0 w) (hb0 : w.heap[g]? = some (.cells #[u9000_, u9001_, u9002_] 74 (0, 0))) (hg0 : w0.heap.size ≤ g) (ho0_0 : Kd.R k80 80 w w0.heap.size P0_0_ u9000_ l0_0) (ho0_1 : Kd.R (Kd.int .i64) 2 w w0.heap.size P0_1_ u9001_ l0_1) (ho0_2 : Kd.R Kd.bool 4 w w0.heap.size P0_2_ u9002_ l0_2) (h : spec_l3Put.f k l0_0 l0_1 l0_2 a1_0 a1_1 a1_2 a1_3 = some (r1, r2, r3, r4)) :
    Calls Tryd.prog 65 #[.pointer (some ⟨g, 0, none⟩), .agg #[.int .i64 a1_0, .int .i64 a1_1, .int .i64 a1_2, .string a1_3]] w fun e w' => ∃ v1_ v2_ v3_ : Value, e = .returned (.int .i64 r1) ∧ Kd.R k80 80 w' w0.heap.size (fun k_ => ((P0_0_ k_ ∨ P0_1_ k_ ∨ P0_2_ k_) ∨ w.heap.size ≤ k_)) v1_ r2 ∧ Kd.R (Kd.int .i64) 2 w' w0.heap.size (fun k_ => ((P0_0_ k_ ∨ P0_1_ k_ ∨ P0_2_ k_) ∨ w.heap.size ≤ k_)) v2_ r3 ∧ Kd.R Kd.bool 4 w' w0.heap.size (fun k_ => ((P0_0_ k_ ∨ P0_1_ k_ ∨ P0_2_ k_) ∨ w.heap.size ≤ k_)) v3_ r4 ∧ w'.heap[g]? = some (.cells #[v1_, v2_, v3_] 74 (0, 0)) ∧ Below w0.heap.size w0 w' ∧ Kept w w' (fun k_ => (P0_0_ k_ ∨ P0_1_ k_ ∨ P0_2_ k_) ∨ k_ = g) := by
  have hu80 := Tryd.underlying80; have BK0 := ak hb0; have GE0 := ak hg0; clear hb0 hg0; have HO0_0 := ak (show Kd.R k80 80 w w0.heap.size (fun k_ => ((P0_0_ k_ ∨ P0_1_ k_ ∨ P0_2_ k_) ∨ w.heap.size ≤ k_)) u9000_ l0_0 from Kd.R_mono ho0_0 (fun k_ hk => (.inl (.inl hk)))); have HO0_1 := ak (show Kd.R (Kd.int .i64) 2 w w0.heap.size (fun k_ => ((P0_0_ k_ ∨ P0_1_ k_ ∨ P0_2_ k_) ∨ w.heap.size ≤ k_)) u9001_ l0_1 from Kd.R_mono ho0_1 (fun k_ hk => (.inl (.inr (.inl hk))))); have HO0_2 := ak (show Kd.R Kd.bool 4 w w0.heap.size (fun k_ => ((P0_0_ k_ ∨ P0_1_ k_ ∨ P0_2_ k_) ∨ w.heap.size ≤ k_)) u9002_ l0_2 from Kd.R_mono ho0_2 (fun k_ hk => (.inl (.inr (.inr hk))))); have HK := ak (Kept.refl w (fun k_ => (P0_0_ k_ ∨ P0_1_ k_ ∨ P0_2_ k_) ∨ k_ = g)); have HW0 := ak hB.size; have HB := ak hB; clear hB; have H := h; clear h; unfold spec_l3Put.f at H; have HC3 := ak H; clear H; go_enter Tryd.func65, Tryd.ntmps65
  go_upto_region 1 with (first | ((with_reducible refine gate_dst (N := 3) rfl ?_); refine box_event ?hg (N := 3) ?hd (cs := #[.int .i64 a1_0, .int .i64 a1_1, .int .i64 a1_2, .string a1_3]) (t := 80) ?hr ?_; (case hd => rfl); (case hg => rfl); (case hr => first | (go_simp; done) | (go_simp; rfl)); intro gb147 hg w4 hbox hb; have n0_ := ak (Kd.R_below (Kd.R_elderB (by (with_reducible repeat (first | apply Kd.R_alloc | apply Kd.R_drewN | apply Kd.R_drew)); exact HO0_0.out) gb147 (Nat.le_of_eq hg.symm)) hb); have n1_ := ak (Kd.R_below (by (with_reducible repeat (first | apply Kd.R_alloc | apply Kd.R_drewN | apply Kd.R_drew)); exact HO0_1.out) hb); have n2_ := ak (Kd.R_below (by (with_reducible repeat (first | apply Kd.R_alloc | apply Kd.R_drewN | apply Kd.R_drew)); exact HO0_2.out) hb); have n3_ := ak (blk_below (g := g) (o := .cells #[u9000_, u9001_, u9002_] 74 (0, 0)) d4_3 hb); have n4_ := ak (Kept.below (S := (fun k_ => (P0_0_ k_ ∨ P0_1_ k_ ∨ P0_2_ k_) ∨ k_ = g)) (by repeat (first | (with_reducible first | exact HK.out | apply Kept.alloc | apply Kept.drewN | apply Kept.drew | refine Kept.setCell ?_ (.inl (.inr rfl)) _) | exact HK.out)) hb); have n5_ := ak (below_step (by repeat (first | (with_reducible first | exact HB.out | apply below_alloc | apply pw_below_drewN | apply below_drew1 | refine below_set ?_ GE0.out) | exact HB.out)) hb); have n6_ := ak (hbox); have n7_ := ak ((by rw [hg]; exact (by first | exact HK.out.1 | exact (show Kept w _ (fun k_ => (P0_0_ k_ ∨ P0_1_ k_ ∨ P0_2_ k_) ∨ k_ = g) from by repeat (first | (with_reducible first | exact HK.out | apply Kept.alloc | apply Kept.drewN | apply Kept.drew | refine Kept.setCell ?_ (.inl (.inr rfl)) _) | exact HK.out)).1) : w.heap.size ≤ gb147)); have n8_ := ak ((by rw [hg]; exact (below_size (by repeat (first | (with_reducible first | exact HB.out | apply below_alloc | apply pw_below_drewN | apply below_drew1 | refine below_set ?_ GE0.out) | exact HB.out))) : w0.heap.size ≤ gb147)); have n9_ := ak ((by rw [hg]; exact Nat.ne_of_lt (blk_lt (g := g) (o := .cells #[u9000_, u9001_, u9002_] 74 (0, 0)) d4_3) : g ≠ gb147)); have n10_ := ak ((by rw [hg]; exact Nat.ne_of_gt (blk_lt (g := g) (o := .cells #[u9000_, u9001_, u9002_] 74 (0, 0)) d4_3) : gb147 ≠ g)); clear HO0_0 HO0_1 HO0_2 BK0 HK HB; have HO0_0 := n0_; have HO0_1 := n1_; have HO0_2 := n2_; have BK0 := n3_; have HK := n4_; have HB := n5_; have BK147 := n6_; have GW147 := n7_; have GE147 := n8_; have NB0_147 := n9_; have NB147_0 := n10_; clear n0_ n1_ n2_ n3_ n4_ n5_ n6_ n7_ n8_ n9_ n10_ hb hbox hg))
  (try simp only [Act.put, pa4_1, pa4_2, pa4_3])
  go_cut [19] (fun v19 wc => ∃ (kq : Nat) (x19_2 : Bool), v19 = .bool x19_2 ∧ Aside0 (spec_l3Put.j0 kq x19_2 l0_0 l0_1 l0_2 a1_0 a1_1 a1_2 a1_3 = some (r1, r2, r3, r4)) ∧ Aside0 (kq ≤ k) ∧ Aside0 (Kd.R k80 80 wc w0.heap.size (fun k_ => ((P0_0_ k_ ∨ P0_1_ k_ ∨ P0_2_ k_) ∨ w.heap.size ≤ k_) ∧ k_ ≠ gb147) u9000_ l0_0) ∧ Aside0 (Kd.R (Kd.int .i64) 2 wc w0.heap.size (fun k_ => ((P0_0_ k_ ∨ P0_1_ k_ ∨ P0_2_ k_) ∨ w.heap.size ≤ k_)) u9001_ l0_1) ∧ Aside0 (Kd.R Kd.bool 4 wc w0.heap.size (fun k_ => ((P0_0_ k_ ∨ P0_1_ k_ ∨ P0_2_ k_) ∨ w.heap.size ≤ k_)) u9002_ l0_2) ∧ Aside0 (wc.heap[g]? = some (.cells #[u9000_, u9001_, u9002_] 74 (0, 0))) ∧ Aside0 (wc.heap[gb147]? = some (.cells #[.int .i64 a1_0, .int .i64 a1_1, .int .i64 a1_2, .string a1_3] 80 (0, 0))) ∧ Aside0 (Kept w wc (fun k_ => (P0_0_ k_ ∨ P0_1_ k_ ∨ P0_2_ k_) ∨ k_ = g)) ∧ Aside0 (Below w0.heap.size w0 wc))
  case first =>
   have H := HC3.out; clear HC3; by_cases c5 : (l0_0.length : Int) ≥ 80
   ·rw [if_pos c5] at H
    have c5b0 : decide (80 ≤ (l0_0.length : Int)) = true := decide_eq_true c5; have c5b1 : decide (80 ≤ l0_0.length) = true := decide_eq_true (by omega); clear c5
    (first | rw [c5b0] | (simp only [i64_w, i32_w]; rw [c5b0]) | skip)
    have H' := ak H; clear H; have hnb6 := NB0_147.out; have hnc6 := NB147_0.out; have hcz7_0 := z4c BK0.out 0 (v := (u9000_)) rfl; have hcz7_1 := z4c BK0.out 1 (v := (u9001_)) rfl; have hcz7_2 := z4c BK0.out 2 (v := (u9002_)) rfl; have hfz7_0 := blk_frozen BK0.out 0; have hfz7_1 := blk_frozen BK0.out 1; have hfz7_2 := blk_frozen BK0.out 2; obtain ⟨Ao8, co8, eo8⟩ := Kd.R_slice HO0_0.out; subst eo8; go_wp2; go_meet
    case rel => exact ⟨_, (true), (by first | rfl | (simp; done) | (simp [*]; done) | (simp [ne_nil_b, eq_nil_b]; done)), H', ⟨by first | omega | exact Nat.le_refl _⟩, ⟨by (with_reducible repeat (first | apply Kd.R_alloc | apply Kd.R_drewN | apply Kd.R_drew)); exact HO0_0.out⟩, ⟨by (with_reducible repeat (first | apply Kd.R_alloc | apply Kd.R_drewN | apply Kd.R_drew)); exact HO0_1.out⟩, ⟨by (with_reducible repeat (first | apply Kd.R_alloc | apply Kd.R_drewN | apply Kd.R_drew)); exact HO0_2.out⟩, ⟨by (with_reducible repeat first | apply b4N | apply b4D | apply b4L); exact BK0.out⟩, ⟨by (with_reducible repeat first | apply b4N | apply b4D | apply b4L); exact BK147.out⟩, ⟨c4_1⟩, ⟨c4_2⟩⟩
   ·rw [if_neg c5] at H
    have c5b0 : decide (80 ≤ (l0_0.length : Int)) = false := decide_eq_false c5; have c5b1 : decide (80 ≤ l0_0.length) = false := decide_eq_false (by omega); clear c5
    (first | rw [c5b0] | (simp only [i64_w, i32_w]; rw [c5b0]) | skip)
    have H' := ak H; clear H; have hnb9 := NB0_147.out; have hnc9 := NB147_0.out; have hcz10_0 := z4c BK0.out 0 (v := (u9000_)) rfl; have hcz10_1 := z4c BK0.out 1 (v := (u9001_)) rfl; have hcz10_2 := z4c BK0.out 2 (v := (u9002_)) rfl; have hfz10_0 := blk_frozen BK0.out 0; have hfz10_1 := blk_frozen BK0.out 1; have hfz10_2 := blk_frozen BK0.out 2; obtain ⟨Ao11, co11, eo11⟩ := Kd.R_slice HO0_0.out; subst eo11; obtain ⟨Ao12, co12, eo12⟩ := Kd.R_slice HO0_1.out; subst eo12; go_wp2; go_meet
    case rel => exact ⟨_, (decide ((l0_1.length : Int) ≥ 12)), (by first | rfl | (simp; done) | (simp [*]; done) | (simp [ne_nil_b, eq_nil_b]; done)), H', ⟨by first | omega | exact Nat.le_refl _⟩, ⟨by (with_reducible repeat (first | apply Kd.R_alloc | apply Kd.R_drewN | apply Kd.R_drew)); exact HO0_0.out⟩, ⟨by (with_reducible repeat (first | apply Kd.R_alloc | apply Kd.R_drewN | apply Kd.R_drew)); exact HO0_1.out⟩, ⟨by (with_reducible repeat (first | apply Kd.R_alloc | apply Kd.R_drewN | apply Kd.R_drew)); exact HO0_2.out⟩, ⟨by (with_reducible repeat first | apply b4N | apply b4D | apply b4L); exact BK0.out⟩, ⟨by (with_reducible repeat first | apply b4N | apply b4D | apply b4L); exact BK147.out⟩, ⟨c4_1⟩, ⟨c4_2⟩⟩
  case rest =>
   clear HC3
   try clear c6
   obtain ⟨kq, x19_2, rfl, HA, HJ2, HO_1000, HO_1001, HO_1002, BK0, BK147, HK, HB⟩ := hcut
   cases kq with
   | zero => exact absurd HA.out (by simp [spec_l3Put.j0])
   | succ kj2 =>
    have H := HA.out; clear HA; simp only [spec_l3Put.j0] at H; by_cases c13 : x19_2 = true
    ·subst c13
     rw [if_pos rfl] at H; simp only [Option.some.injEq, Prod.mk.injEq] at H; obtain ⟨rfl, rfl, rfl, rfl⟩ := H; go_wp2; go_ret; exact ⟨_, _, _, by first | rfl | (simp [errW_none, errW_some] <;> rfl) | (simp [*, errW_none, errW_some] <;> rfl), by (with_reducible repeat (first | apply Kd.R_alloc | apply Kd.R_drewN | apply Kd.R_drew)); exact Kd.R_mono HO_1000.out (fun _ hk => hk.1), by (with_reducible repeat (first | apply Kd.R_alloc | apply Kd.R_drewN | apply Kd.R_drew)); exact HO_1001.out, by (with_reducible repeat (first | apply Kd.R_alloc | apply Kd.R_drewN | apply Kd.R_drew)); exact HO_1002.out, by (with_reducible repeat first | apply b4N | apply b4D | apply b4L); exact BK0.out, c4_2, c4_1⟩
    ·replace c13 := Bool.eq_false_iff.mpr c13
     subst c13
     rw [if_neg (show ¬ (false = true) by decide)] at H; by_cases c14 : (l0_1.length : Int) > 0
     ·rw [if_pos c14] at H
      have c14b0 : decide (0 < (l0_1.length : Int)) = true := decide_eq_true c14; have c14b1 : decide (0 < l0_1.length) = true := decide_eq_true (by omega); clear c14; obtain ⟨ji15, hji15⟩ : ∃ j_ : Int, (wrap64 ((l0_1.length : Int) - 1)) = j_ := ⟨_, rfl⟩
      replace H : (if 0 ≤ (ji15) then (if (ji15) < (l0_1.length : Int) then (if l0_0.length < 3518437208883 then (some (0, (l0_0 ++ [(⟨a1_0, rd l0_1 (ji15), a1_2, a1_3⟩ : S80)]), l0_1, l0_2)) else (none)) else (none)) else (none)) = some (r1, r2, r3, r4) := by first | (rw [hji15] at H; exact H) | (simp only [hji15] at H ⊢; exact H)
      have hji15w : (IntKind.i64.wrap ((l0_1.length : Int) - 1)) = ji15 := (i64_w _).trans hji15; by_cases c16 : 0 ≤ (ji15)
      ·rw [if_pos c16] at H
       have c16b0 : decide (0 ≤ (ji15)) = true := decide_eq_true c16; clear c16; by_cases c17 : (ji15) < (l0_1.length : Int)
       ·rw [if_pos c17] at H
        have c17b0 : decide ((ji15) < (l0_1.length : Int)) = true := decide_eq_true c17; clear c17; by_cases c18 : l0_0.length < 3518437208883
        ·rw [if_pos c18] at H
         have LMc18 := ak c18; clear c18; obtain ⟨y149, hy149⟩ : ∃ y_ : List (S80), y_ = (l0_0 ++ [(⟨a1_0, rd l0_1 (ji15), a1_2, a1_3⟩ : S80)]) := ⟨_, rfl⟩
         replace H : (some (0, y149, l0_1, l0_2)) = some (r1, r2, r3, r4) := by first | (rw [hy149]; with_reducible exact H) | (have H2_ := (Option.bind_some _ _).symm.trans H; rw [hy149]; with_reducible exact H2_) | (have H2_ := (Option.bind_some _ _).symm.trans H; with_reducible exact H2_) | with_reducible exact H | (rw [hy149]; exact H) | exact H
         have Ny149 := ak hy149; clear hy149; simp only [Option.some.injEq, Prod.mk.injEq] at H; obtain ⟨rfl, rfl, rfl, rfl⟩ := H; have hnb19 := NB147_0.out; have hnc19 := NB0_147.out; have hcz20_0 := z4c BK147.out 0 (v := (.int .i64 a1_0)) rfl; have hcz20_1 := z4c BK147.out 1 (v := (.int .i64 a1_1)) rfl; have hcz20_2 := z4c BK147.out 2 (v := (.int .i64 a1_2)) rfl; have hcz20_3 := z4c BK147.out 3 (v := (.string a1_3)) rfl; have hfz20_0 := blk_frozen BK147.out 0; have hfz20_1 := blk_frozen BK147.out 1; have hfz20_2 := blk_frozen BK147.out 2; have hfz20_3 := blk_frozen BK147.out 3; have hcz21_0 := z4c BK0.out 0 (v := (u9000_)) rfl; have hcz21_1 := z4c BK0.out 1 (v := (u9001_)) rfl; have hcz21_2 := z4c BK0.out 2 (v := (u9002_)) rfl; have hfz21_0 := blk_frozen BK0.out 0; have hfz21_1 := blk_frozen BK0.out 1; have hfz21_2 := blk_frozen BK0.out 2; obtain ⟨Ao22, co22, eo22⟩ := Kd.R_slice HO_1001.out; subst eo22; have p148 : 0 ≤ ((ji15) : Int) := of_decide_eq_true (by first | (with_reducible assumption) | assumption); have q148 : (ji15) < (l0_1.length : Int) := of_decide_eq_true (by first | (with_reducible assumption) | assumption)
         obtain ⟨ad148, e148, hx148_0⟩ := Kd.at_int (Kd.R_reads' HO_1001.out).2.2 (ji15) p148 q148
         cases e148
         have hn148_0 : ad148.block ≠ gb147 := Kd.own_blk (Kd.R_ne HO_1001.out BK147.out (by decide)); replace hx148_0 := (cell_far (p := ⟨gb147, 1, none⟩) (by first | (rw [add_block]; exact hn148_0) | (show (Addr.add _ _).block ≠ _; rw [add_block]; exact hn148_0) | exact hn148_0) (.int .i64 (-1))).trans hx148_0; clear hn148_0; replace p148 := eq_true p148; replace q148 := eq_true q148
         try go_wp2
         have n0_ : Aside0 (Kd.R k80 80 ((wc.setCell ⟨gb147, 1, none⟩ (.int .i64 (-1))).setCell ⟨gb147, 1, none⟩ (.int .i64 (rd l0_1 (ji15)))) w0.heap.size (fun k_ => ((P0_0_ k_ ∨ P0_1_ k_ ∨ P0_2_ k_) ∨ w.heap.size ≤ k_) ∧ k_ ≠ gb147) u9000_ l0_0) := ⟨by (with_reducible repeat (first | apply Kd.R_alloc | apply Kd.R_drewN | apply Kd.R_drew)); exact Kd.R_mono (Kd.R_far (p := ⟨gb147, 1, none⟩) (Kd.R_far (p := ⟨gb147, 1, none⟩) (Kd.R_mono HO_1000.out (fun k_ hk => (⟨hk, hk.2⟩ : _ ∧ k_ ≠ gb147))) (fun _ hk => hk.2) (.int .i64 (-1))) (fun _ hk => hk.2) (.int .i64 (rd l0_1 (ji15)))) (fun _ hk => ⟨hk.1.1, hk.1.2⟩)⟩; have n1_ : Aside0 (Kd.R (Kd.int .i64) 2 ((wc.setCell ⟨gb147, 1, none⟩ (.int .i64 (-1))).setCell ⟨gb147, 1, none⟩ (.int .i64 (rd l0_1 (ji15)))) w0.heap.size (fun k_ => ((P0_0_ k_ ∨ P0_1_ k_ ∨ P0_2_ k_) ∨ w.heap.size ≤ k_)) (.slice (some ad148) l0_1.length co22) l0_1) := ⟨by (with_reducible repeat (first | apply Kd.R_alloc | apply Kd.R_drewN | apply Kd.R_drew)); exact Kd.R_mono (Kd.R_far (p := ⟨gb147, 1, none⟩) (Kd.R_far (p := ⟨gb147, 1, none⟩) (Kd.R_types HO_1001.out BK147.out (by decide)) (fun _ hk => hk.2) (.int .i64 (-1))) (fun _ hk => hk.2) (.int .i64 (rd l0_1 (ji15)))) (fun _ hk => hk.1)⟩
         have n2_ : Aside0 (Kd.R Kd.bool 4 ((wc.setCell ⟨gb147, 1, none⟩ (.int .i64 (-1))).setCell ⟨gb147, 1, none⟩ (.int .i64 (rd l0_1 (ji15)))) w0.heap.size (fun k_ => ((P0_0_ k_ ∨ P0_1_ k_ ∨ P0_2_ k_) ∨ w.heap.size ≤ k_)) u9002_ l0_2) := ⟨by (with_reducible repeat (first | apply Kd.R_alloc | apply Kd.R_drewN | apply Kd.R_drew)); exact Kd.R_mono (Kd.R_far (p := ⟨gb147, 1, none⟩) (Kd.R_far (p := ⟨gb147, 1, none⟩) (Kd.R_types HO_1002.out BK147.out (by decide)) (fun _ hk => hk.2) (.int .i64 (-1))) (fun _ hk => hk.2) (.int .i64 (rd l0_1 (ji15)))) (fun _ hk => hk.1)⟩; have n3_ : Aside0 (((wc.setCell ⟨gb147, 1, none⟩ (.int .i64 (-1))).setCell ⟨gb147, 1, none⟩ (.int .i64 (rd l0_1 (ji15)))).heap[g]? = some (.cells #[u9000_, .slice (some ad148) l0_1.length co22, u9002_] 74 (0, 0))) := ⟨by (with_reducible repeat first | apply b4N | apply b4D | apply b4L); refine blk_far ?_ NB0_147.out _; (with_reducible repeat first | apply b4N | apply b4D | apply b4L); refine blk_far ?_ NB0_147.out _; (with_reducible repeat first | apply b4N | apply b4D | apply b4L); exact BK0.out⟩
         have n4_ : Aside0 (((wc.setCell ⟨gb147, 1, none⟩ (.int .i64 (-1))).setCell ⟨gb147, 1, none⟩ (.int .i64 (rd l0_1 (ji15)))).heap[gb147]? = some (.cells #[.int .i64 a1_0, .int .i64 (rd l0_1 (ji15)), .int .i64 a1_2, .string a1_3] 80 (0, 0))) := ⟨by (with_reducible repeat first | apply b4N | apply b4D | apply b4L); refine blk_put (cs := #[.int .i64 a1_0, .int .i64 (-1), .int .i64 a1_2, .string a1_3]) ?_ 1 _ rfl; (with_reducible repeat first | apply b4N | apply b4D | apply b4L); refine blk_put (cs := #[.int .i64 a1_0, .int .i64 a1_1, .int .i64 a1_2, .string a1_3]) ?_ 1 _ rfl; (with_reducible repeat first | apply b4N | apply b4D | apply b4L); exact BK147.out⟩; have n5_ : Aside0 (Kept w ((wc.setCell ⟨gb147, 1, none⟩ (.int .i64 (-1))).setCell ⟨gb147, 1, none⟩ (.int .i64 (rd l0_1 (ji15)))) (fun k_ => (P0_0_ k_ ∨ P0_1_ k_ ∨ P0_2_ k_) ∨ k_ = g)) := ⟨c4_1⟩
         have n6_ : Aside0 (Below w0.heap.size w0 ((wc.setCell ⟨gb147, 1, none⟩ (.int .i64 (-1))).setCell ⟨gb147, 1, none⟩ (.int .i64 (rd l0_1 (ji15))))) := ⟨c4_2⟩
         (try clear HO_1000)
         (try clear HO_1001)
         (try clear HO_1002)
         (try clear BK0)
         (try clear BK147)
         (try clear HK)
         (try clear HB)
         generalize ((wc.setCell ⟨gb147, 1, none⟩ (.int .i64 (-1))).setCell ⟨gb147, 1, none⟩ (.int .i64 (rd l0_1 (ji15)))) = w23 at n0_ n1_ n2_ n3_ n4_ n5_ n6_ ⊢; have HO_1000 := n0_; have HO_1001 := n1_; have HO_1002 := n2_; have BK0 := n3_; have BK147 := n4_; have HK := n5_; have HB := n6_; clear n0_ n1_ n2_ n3_ n4_ n5_ n6_; have n0_ := ak (Kd.R_drew HO_1000.out); have n1_ := ak (Kd.R_drew HO_1001.out); have n2_ := ak (Kd.R_drew HO_1002.out); have n3_ := ak (blk_drew BK0.out); have n4_ := ak (blk_drew BK147.out); have n5_ := ak (Kept.drew HK.out); have n6_ := ak (below_drew1 HB.out); clear HO_1000; clear HO_1001; clear HO_1002; clear BK0; clear BK147; clear HK; clear HB; have HO_1000 := n0_; have HO_1001 := n1_; have HO_1002 := n2_; have BK0 := n3_; have BK147 := n4_; have HK := n5_; have HB := n6_; clear n0_ n1_ n2_ n3_ n4_ n5_ n6_
         refine start_ (n := 11) (S := fun w' => w'.cell? ⟨g, 0, none⟩ = some (u9000_) ∧ w'.cell? ⟨g, 1, none⟩ = some (.slice (some ad148) l0_1.length co22) ∧ w'.cell? ⟨g, 2, none⟩ = some (u9002_) ∧ w'.cell? ⟨gb147, 0, none⟩ = some (.int .i64 a1_0) ∧ w'.cell? ⟨gb147, 1, none⟩ = some (.int .i64 (rd l0_1 (ji15))) ∧ w'.cell? ⟨gb147, 2, none⟩ = some (.int .i64 a1_2) ∧ w'.cell? ⟨gb147, 3, none⟩ = some (.string a1_3)) (ds := [10]) #[false, false, false, false, false, false, false, false, false, false, false] (by kernel_rfl) rfl rfl (hb4_3_4 BK0.out BK147.out) (fun hHeld => ?_); refine with_tabW spec_l3Put.tab7 spec_l3Put.bits7 (fun HT_ HW_ => ?_); generalize w23.drew = w24 at HO_1000 HO_1001 HO_1002 BK0 BK147 HK HB hHeld ⊢; refine pure_ (i := 0) (N := some 37) (v := ?_) (a' := ?_) #[true, false, false, false, false, false, false, false, false, false, false] rfl rfl (any_of HT_.out (by kernel_rfl)) (fun _ _ _ h => h) (Or.inl ⟨by rfl, ?_⟩) ?_ ?_; rotate_left
         · intro w'
           go_simp; (with_reducible rfl)
         rotate_left
         · simp only [Act.put, pa4_1, pa4_2, pa4_3, i64_w, i32_w]
           rfl
         refine pure_ (i := 1) (N := some 38) (v := ?_) (a' := ?_) #[true, true, false, false, false, false, false, false, false, false, false] rfl rfl (any_of HT_.out (by kernel_rfl)) (fun _ _ _ h => h) (Or.inl ⟨by rfl, ?_⟩) ?_ ?_; rotate_left
         · intro w'
           go_simp; (with_reducible rfl)
         rotate_left
         · simp only [Act.put, pa4_1, pa4_2, pa4_3, i64_w, i32_w]
           rfl
         refine pure_ (i := 2) (N := some 39) (v := ?_) (a' := ?_) #[true, true, true, false, false, false, false, false, false, false, false] rfl rfl (any_of HT_.out (by kernel_rfl)) (fun _ _ _ h => h) (Or.inl ⟨by rfl, ?_⟩) ?_ ?_; rotate_left
         · intro w'
           go_simp; (with_reducible rfl)
         rotate_left
         · simp only [Act.put, pa4_1, pa4_2, pa4_3, i64_w, i32_w]
           rfl
         refine pure_ (i := 3) (N := some 40) (v := ?_) (a' := ?_) #[true, true, true, true, false, false, false, false, false, false, false] rfl rfl (any_of HT_.out (by kernel_rfl)) (fun _ _ _ h => h) (Or.inl ⟨by rfl, ?_⟩) ?_ ?_; rotate_left
         · intro w'
           go_simp; (with_reducible rfl)
         rotate_left
         · simp only [Act.put, pa4_1, pa4_2, pa4_3, i64_w, i32_w]
           rfl
         refine take_ (i := 4) (N := some 41) (v := ?_) (a' := ?_) #[true, true, true, true, true, false, false, false, false, false, false] rfl rfl (take_ofW HT_.out HW_.out (by kernel_rfl)) (fun _ _ _ h => h) (Or.inl ⟨by rfl, ?_⟩) hHeld ?_ ?_; rotate_left
         · rintro w' ⟨s0, s1, s2, s3, s4, s5, s6⟩
           go_simp; (with_reducible rfl)
         rotate_left
         · simp only [Act.put, pa4_1, pa4_2, pa4_3, i64_w, i32_w]
           rfl
         refine take_ (i := 5) (N := some 42) (v := ?_) (a' := ?_) #[true, true, true, true, true, true, false, false, false, false, false] rfl rfl (take_ofW HT_.out HW_.out (by kernel_rfl)) (fun _ _ _ h => h) (Or.inl ⟨by rfl, ?_⟩) hHeld ?_ ?_; rotate_left
         · rintro w' ⟨s0, s1, s2, s3, s4, s5, s6⟩
           go_simp; (with_reducible rfl)
         rotate_left
         · simp only [Act.put, pa4_1, pa4_2, pa4_3, i64_w, i32_w]
           rfl
         refine one_ (i := 6) (N := some 43) #[true, true, true, true, true, true, true, false, false, false, false] rfl rfl (one_of HT_.out (by kernel_rfl)) (by decide) (fun K hK => ?_); refine value_ (w1 := ?_) (v := ?_) (by rfl) rfl ?_ ?_; rotate_left 2
         · go_simp
           constructor
           · rfl
           · rfl
         refine hK.out _ _ ⟨(blk_cell (blk_alloc BK0.out _) 0).trans rfl, (blk_cell (blk_alloc BK0.out _) 1).trans rfl, (blk_cell (blk_alloc BK0.out _) 2).trans rfl, (blk_cell (blk_alloc BK147.out _) 0).trans rfl, (blk_cell (blk_alloc BK147.out _) 1).trans rfl, (blk_cell (blk_alloc BK147.out _) 2).trans rfl, (blk_cell (blk_alloc BK147.out _) 3).trans rfl⟩ (fun hHeld => ?_); clear hK K; refine norm_ (a' := ?_) ?_ ?_; rotate_left
         · show Act.put _ (some 43) _ = _
           simp only [Act.put, pa4_1, pa4_2, pa4_3, i64_w, i32_w]; rfl
         refine one_ (i := 7) (N := some 44) #[true, true, true, true, true, true, true, true, false, false, false] rfl rfl (one_of HT_.out (by kernel_rfl)) (by decide) (fun K hK => ?_); refine Kd.R_append_step k80 (w0 := w0) w0.heap.size (by rfl) (.tmp 41) (.tmp 43) 33 80 (.agg #[(.int .i64 0), (.int .i64 0), (.int .i64 0), (.string ⟨#[]⟩)]) 40 rfl Tryd.underlying33 info80 rfl (by decide) (by omega) u9000_ l0_0 (⟨a1_0, rd l0_1 (ji15), a1_2, a1_3⟩ : S80) [.int .i64 a1_0, .int .i64 (rd l0_1 (ji15)), .int .i64 a1_2, .string a1_3] (fun k_ => ((P0_0_ k_ ∨ P0_1_ k_ ∨ P0_2_ k_) ∨ w.heap.size ≤ k_) ∧ k_ ≠ gb147) (fun _ => False) rfl rfl ?aP (fun _ hk => hk.elim) ?aF ?aO ?aB ?aS ?aL ?_
         (case aP => exact k80_mkM _ _ _ (⟨a1_0, rd l0_1 (ji15), a1_2, a1_3⟩ : S80))
         (case aB => exact d4_1)
         (case aF => exact (fun k_ hk => ⟨(.inr (Nat.le_trans d4_5 hk)), Kd.freshB (g := gb147) (o := .cells #[.int .i64 a1_0, .int .i64 (rd l0_1 (ji15)), .int .i64 a1_2, .string a1_3] 80 (0, 0)) d4_4 k_ hk⟩))
         (case aO => exact d4_2)
         (case aS => exact (below_size d4_1))
         (case aL => have := LMc18.out; omega)
         intro v150 w25 ho hb hg hat; rw [← Ny149.out] at ho; have n0_ := ak (Kd.R_over' (by (with_reducible repeat (first | apply Kd.R_alloc | apply Kd.R_drewN | apply Kd.R_drew)); exact HO_1001.out) (Kd.R_typed d4_2) (by decide) hg); have n1_ := ak (Kd.R_over' (by (with_reducible repeat (first | apply Kd.R_alloc | apply Kd.R_drewN | apply Kd.R_drew)); exact HO_1002.out) (Kd.R_typed d4_2) (by decide) hg); have n2_ := ak (blk_grown (g := g) (o := .cells #[u9000_, .slice (some ad148) l0_1.length co22, u9002_] 74 (0, 0)) d4_3 hg (Kd.R_ne HO_1000.out BK0.out (by decide))); have n3_ := ak (blk_grown (g := gb147) (o := .cells #[.int .i64 a1_0, .int .i64 (rd l0_1 (ji15)), .int .i64 a1_2, .string a1_3] 80 (0, 0)) d4_4 hg (Kd.R_away HO_1000.out (fun _ hk => hk.2))); have n4_ := ak (hb); have n5_ := ak (Kept.of_grown (S := (fun k_ => (P0_0_ k_ ∨ P0_1_ k_ ∨ P0_2_ k_) ∨ k_ = g)) hg (by repeat (first | (with_reducible first | exact HK.out | apply Kept.alloc | apply Kept.drewN | apply Kept.drew | refine Kept.setCell ?_ (.inl (.inr rfl)) _ | refine Kept.setCell ?_ (.inr GW147.out) _) | exact HK.out)) (fun k_ e_ => Or.imp_left Or.inl ((HO_1000.out.1 k_ e_).1))); have n6_ := ak (ho); clear HO_1001; clear HO_1002; clear BK0; clear BK147; clear HB; clear HK; clear HO_1000; have HO_1001 := n0_; have HO_1002 := n1_; have BK0 := n2_; have BK147 := n3_; have HB := n4_; have HK := n5_; have HO151 := n6_; clear n0_ n1_ n2_ n3_ n4_ n5_ n6_; clear ho hb hg hat
         obtain ⟨Ao26, co26, eo26⟩ := Kd.R_slice HO151.out
         (first | subst eo26 | (injection eo26 with f1_ f2_ f3_; have f4_ := f1_.symm; have f5_ := f3_.symm; clear f1_ f2_ f3_; subst f4_; subst f5_))
         refine hK.out _ _ (hb4_3_4 BK0.out BK147.out) (fun hHeld => ?_); clear hK K; refine norm_ (a' := ?_) ?_ ?_; rotate_left
         · show Act.put _ (some 44) _ = _
           simp only [Act.put, pa4_1, pa4_2, pa4_3, i64_w, i32_w]; rfl
         refine pure_ (i := 8) (N := some 45) (v := ?_) (a' := ?_) #[true, true, true, true, true, true, true, true, true, false, false] rfl rfl (any_of HT_.out (by kernel_rfl)) (fun _ _ _ h => h) (Or.inl ⟨by rfl, ?_⟩) ?_ ?_; rotate_left
         · intro w'
           go_simp; (with_reducible rfl)
         rotate_left
         · simp only [Act.put, pa4_1, pa4_2, pa4_3, i64_w, i32_w]
           rfl
         refine pure_ (i := 9) (N := some 46) (v := ?_) (a' := ?_) #[true, true, true, true, true, true, true, true, true, true, false] rfl rfl (any_of HT_.out (by kernel_rfl)) (fun _ _ _ h => h) (Or.inl ⟨by rfl, ?_⟩) ?_ ?_; rotate_left
         · intro w'
           go_simp; (with_reducible rfl)
         rotate_left
         · simp only [Act.put, pa4_1, pa4_2, pa4_3, i64_w, i32_w]
           rfl
         refine last_ (i := 10) (N := none) #[true, true, true, true, true, true, true, true, true, true, true] rfl rfl (one_of HT_.out (by kernel_rfl)) (by decide) (fun K hK => ?_); have hs27 : w25.cell? ⟨g, 0, none⟩ = some (u9000_) := (blk_cell BK0.out 0).trans rfl; have hfs27 := blk_frozen BK0.out 0; have hns27_1 := NB147_0.out; have hms27_1 := NB0_147.out; refine skip_ (w1 := ?_) (by rfl) rfl ?_ ?_; rotate_left
         · go_simp
           rfl
         refine hK.out _ _ ?_; clear hK K; refine done_ (done_of HT_.out (by kernel_rfl)) ?_
         try go_wp2
         go_ret
         exact ⟨_, _, _, by first | rfl | (simp [errW_none, errW_some] <;> rfl) | (simp only [← hji15]; first | rfl | (simp [errW_none, errW_some] <;> rfl)) | (simp [*, errW_none, errW_some] <;> rfl), by (with_reducible repeat (first | apply Kd.R_alloc | apply Kd.R_drewN | apply Kd.R_drew)); exact Kd.R_mono (Kd.R_far (p := ⟨g, 0, none⟩) (Kd.R_types HO151.out BK0.out (by decide)) (fun _ hk => hk.2) (.slice Ao26 y149.length co26)) (fun _ hk => hk.1.1), by (with_reducible repeat (first | apply Kd.R_alloc | apply Kd.R_drewN | apply Kd.R_drew)); exact Kd.R_mono (Kd.R_far (p := ⟨g, 0, none⟩) (Kd.R_types HO_1001.out BK0.out (by decide)) (fun _ hk => hk.2) (.slice Ao26 y149.length co26)) (fun _ hk => hk.1), by (with_reducible repeat (first | apply Kd.R_alloc | apply Kd.R_drewN | apply Kd.R_drew)); exact Kd.R_mono (Kd.R_far (p := ⟨g, 0, none⟩) (Kd.R_types HO_1002.out BK0.out (by decide)) (fun _ hk => hk.2) (.slice Ao26 y149.length co26)) (fun _ hk => hk.1), by (with_reducible repeat first | apply b4N | apply b4D | apply b4L); refine blk_put (cs := #[u9000_, .slice (some ad148) l0_1.length co22, u9002_]) ?_ 0 _ rfl; (with_reducible repeat first | apply b4N | apply b4D | apply b4L); exact BK0.out, c4_2, c4_1⟩
        ·rw [if_neg c18] at H
         exact absurd H (by simp)
       ·rw [if_neg c17] at H
        exact absurd H (by simp)
      ·rw [if_neg c16] at H
       exact absurd H (by simp)
     ·rw [if_neg c14] at H
      have c14b0 : decide (0 < (l0_1.length : Int)) = false := decide_eq_false c14; have c14b1 : decide (0 < l0_1.length) = false := decide_eq_false (by omega); clear c14; by_cases c28 : l0_0.length < 3518437208883
      ·rw [if_pos c28] at H
       have LMc28 := ak c28; clear c28; obtain ⟨y152, hy152⟩ : ∃ y_ : List (S80), y_ = (l0_0 ++ [(⟨a1_0, (-1), a1_2, a1_3⟩ : S80)]) := ⟨_, rfl⟩
       replace H : (some (0, y152, l0_1, l0_2)) = some (r1, r2, r3, r4) := by first | (rw [hy152]; with_reducible exact H) | (have H2_ := (Option.bind_some _ _).symm.trans H; rw [hy152]; with_reducible exact H2_) | (have H2_ := (Option.bind_some _ _).symm.trans H; with_reducible exact H2_) | with_reducible exact H | (rw [hy152]; exact H) | exact H
       have Ny152 := ak hy152; clear hy152; simp only [Option.some.injEq, Prod.mk.injEq] at H; obtain ⟨rfl, rfl, rfl, rfl⟩ := H; have hnb29 := NB147_0.out; have hnc29 := NB0_147.out; have hcz30_0 := z4c BK147.out 0 (v := (.int .i64 a1_0)) rfl; have hcz30_1 := z4c BK147.out 1 (v := (.int .i64 a1_1)) rfl; have hcz30_2 := z4c BK147.out 2 (v := (.int .i64 a1_2)) rfl; have hcz30_3 := z4c BK147.out 3 (v := (.string a1_3)) rfl; have hfz30_0 := blk_frozen BK147.out 0; have hfz30_1 := blk_frozen BK147.out 1; have hfz30_2 := blk_frozen BK147.out 2; have hfz30_3 := blk_frozen BK147.out 3; have hcz31_0 := z4c BK0.out 0 (v := (u9000_)) rfl; have hcz31_1 := z4c BK0.out 1 (v := (u9001_)) rfl; have hcz31_2 := z4c BK0.out 2 (v := (u9002_)) rfl; have hfz31_0 := blk_frozen BK0.out 0; have hfz31_1 := blk_frozen BK0.out 1; have hfz31_2 := blk_frozen BK0.out 2; obtain ⟨Ao32, co32, eo32⟩ := Kd.R_slice HO_1001.out; subst eo32
       try go_wp2
       have n0_ : Aside0 (Kd.R k80 80 (wc.setCell ⟨gb147, 1, none⟩ (.int .i64 (-1))) w0.heap.size (fun k_ => ((P0_0_ k_ ∨ P0_1_ k_ ∨ P0_2_ k_) ∨ w.heap.size ≤ k_) ∧ k_ ≠ gb147) u9000_ l0_0) := ⟨by (with_reducible repeat (first | apply Kd.R_alloc | apply Kd.R_drewN | apply Kd.R_drew)); exact Kd.R_mono (Kd.R_far (p := ⟨gb147, 1, none⟩) (Kd.R_mono HO_1000.out (fun k_ hk => (⟨hk, hk.2⟩ : _ ∧ k_ ≠ gb147))) (fun _ hk => hk.2) (.int .i64 (-1))) (fun _ hk => ⟨hk.1.1, hk.1.2⟩)⟩; have n1_ : Aside0 (Kd.R (Kd.int .i64) 2 (wc.setCell ⟨gb147, 1, none⟩ (.int .i64 (-1))) w0.heap.size (fun k_ => ((P0_0_ k_ ∨ P0_1_ k_ ∨ P0_2_ k_) ∨ w.heap.size ≤ k_)) (.slice Ao32 l0_1.length co32) l0_1) := ⟨by (with_reducible repeat (first | apply Kd.R_alloc | apply Kd.R_drewN | apply Kd.R_drew)); exact Kd.R_mono (Kd.R_far (p := ⟨gb147, 1, none⟩) (Kd.R_types HO_1001.out BK147.out (by decide)) (fun _ hk => hk.2) (.int .i64 (-1))) (fun _ hk => hk.1)⟩; have n2_ : Aside0 (Kd.R Kd.bool 4 (wc.setCell ⟨gb147, 1, none⟩ (.int .i64 (-1))) w0.heap.size (fun k_ => ((P0_0_ k_ ∨ P0_1_ k_ ∨ P0_2_ k_) ∨ w.heap.size ≤ k_)) u9002_ l0_2) := ⟨by (with_reducible repeat (first | apply Kd.R_alloc | apply Kd.R_drewN | apply Kd.R_drew)); exact Kd.R_mono (Kd.R_far (p := ⟨gb147, 1, none⟩) (Kd.R_types HO_1002.out BK147.out (by decide)) (fun _ hk => hk.2) (.int .i64 (-1))) (fun _ hk => hk.1)⟩
       have n3_ : Aside0 ((wc.setCell ⟨gb147, 1, none⟩ (.int .i64 (-1))).heap[g]? = some (.cells #[u9000_, .slice Ao32 l0_1.length co32, u9002_] 74 (0, 0))) := ⟨by (with_reducible repeat first | apply b4N | apply b4D | apply b4L); refine blk_far ?_ NB0_147.out _; (with_reducible repeat first | apply b4N | apply b4D | apply b4L); exact BK0.out⟩; have n4_ : Aside0 ((wc.setCell ⟨gb147, 1, none⟩ (.int .i64 (-1))).heap[gb147]? = some (.cells #[.int .i64 a1_0, .int .i64 (-1), .int .i64 a1_2, .string a1_3] 80 (0, 0))) := ⟨by (with_reducible repeat first | apply b4N | apply b4D | apply b4L); refine blk_put (cs := #[.int .i64 a1_0, .int .i64 a1_1, .int .i64 a1_2, .string a1_3]) ?_ 1 _ rfl; (with_reducible repeat first | apply b4N | apply b4D | apply b4L); exact BK147.out⟩; have n5_ : Aside0 (Kept w (wc.setCell ⟨gb147, 1, none⟩ (.int .i64 (-1))) (fun k_ => (P0_0_ k_ ∨ P0_1_ k_ ∨ P0_2_ k_) ∨ k_ = g)) := ⟨c4_1⟩
       have n6_ : Aside0 (Below w0.heap.size w0 (wc.setCell ⟨gb147, 1, none⟩ (.int .i64 (-1)))) := ⟨c4_2⟩
       (try clear HO_1000)
       (try clear HO_1001)
       (try clear HO_1002)
       (try clear BK0)
       (try clear BK147)
       (try clear HK)
       (try clear HB)
       generalize (wc.setCell ⟨gb147, 1, none⟩ (.int .i64 (-1))) = w33 at n0_ n1_ n2_ n3_ n4_ n5_ n6_ ⊢; have HO_1000 := n0_; have HO_1001 := n1_; have HO_1002 := n2_; have BK0 := n3_; have BK147 := n4_; have HK := n5_; have HB := n6_; clear n0_ n1_ n2_ n3_ n4_ n5_ n6_; have n0_ := ak (Kd.R_drew HO_1000.out); have n1_ := ak (Kd.R_drew HO_1001.out); have n2_ := ak (Kd.R_drew HO_1002.out); have n3_ := ak (blk_drew BK0.out); have n4_ := ak (blk_drew BK147.out); have n5_ := ak (Kept.drew HK.out); have n6_ := ak (below_drew1 HB.out); clear HO_1000; clear HO_1001; clear HO_1002; clear BK0; clear BK147; clear HK; clear HB; have HO_1000 := n0_; have HO_1001 := n1_; have HO_1002 := n2_; have BK0 := n3_; have BK147 := n4_; have HK := n5_; have HB := n6_; clear n0_ n1_ n2_ n3_ n4_ n5_ n6_
       refine start_ (n := 11) (S := fun w' => w'.cell? ⟨g, 0, none⟩ = some (u9000_) ∧ w'.cell? ⟨g, 1, none⟩ = some (.slice Ao32 l0_1.length co32) ∧ w'.cell? ⟨g, 2, none⟩ = some (u9002_) ∧ w'.cell? ⟨gb147, 0, none⟩ = some (.int .i64 a1_0) ∧ w'.cell? ⟨gb147, 1, none⟩ = some (.int .i64 (-1)) ∧ w'.cell? ⟨gb147, 2, none⟩ = some (.int .i64 a1_2) ∧ w'.cell? ⟨gb147, 3, none⟩ = some (.string a1_3)) (ds := [10]) #[false, false, false, false, false, false, false, false, false, false, false] (by kernel_rfl) rfl rfl (hb4_3_4 BK0.out BK147.out) (fun hHeld => ?_); refine with_tabW spec_l3Put.tab7 spec_l3Put.bits7 (fun HT_ HW_ => ?_); generalize w33.drew = w34 at HO_1000 HO_1001 HO_1002 BK0 BK147 HK HB hHeld ⊢; refine pure_ (i := 0) (N := some 37) (v := ?_) (a' := ?_) #[true, false, false, false, false, false, false, false, false, false, false] rfl rfl (any_of HT_.out (by kernel_rfl)) (fun _ _ _ h => h) (Or.inl ⟨by rfl, ?_⟩) ?_ ?_; rotate_left
       · intro w'
         go_simp; (with_reducible rfl)
       rotate_left
       · simp only [Act.put, pa4_1, pa4_2, pa4_3, i64_w, i32_w]
         rfl
       refine pure_ (i := 1) (N := some 38) (v := ?_) (a' := ?_) #[true, true, false, false, false, false, false, false, false, false, false] rfl rfl (any_of HT_.out (by kernel_rfl)) (fun _ _ _ h => h) (Or.inl ⟨by rfl, ?_⟩) ?_ ?_; rotate_left
       · intro w'
         go_simp; (with_reducible rfl)
       rotate_left
       · simp only [Act.put, pa4_1, pa4_2, pa4_3, i64_w, i32_w]
         rfl
       refine pure_ (i := 2) (N := some 39) (v := ?_) (a' := ?_) #[true, true, true, false, false, false, false, false, false, false, false] rfl rfl (any_of HT_.out (by kernel_rfl)) (fun _ _ _ h => h) (Or.inl ⟨by rfl, ?_⟩) ?_ ?_; rotate_left
       · intro w'
         go_simp; (with_reducible rfl)
       rotate_left
       · simp only [Act.put, pa4_1, pa4_2, pa4_3, i64_w, i32_w]
         rfl
       refine pure_ (i := 3) (N := some 40) (v := ?_) (a' := ?_) #[true, true, true, true, false, false, false, false, false, false, false] rfl rfl (any_of HT_.out (by kernel_rfl)) (fun _ _ _ h => h) (Or.inl ⟨by rfl, ?_⟩) ?_ ?_; rotate_left
       · intro w'
         go_simp; (with_reducible rfl)
       rotate_left
       · simp only [Act.put, pa4_1, pa4_2, pa4_3, i64_w, i32_w]
         rfl
       refine take_ (i := 4) (N := some 41) (v := ?_) (a' := ?_) #[true, true, true, true, true, false, false, false, false, false, false] rfl rfl (take_ofW HT_.out HW_.out (by kernel_rfl)) (fun _ _ _ h => h) (Or.inl ⟨by rfl, ?_⟩) hHeld ?_ ?_; rotate_left
       · rintro w' ⟨s0, s1, s2, s3, s4, s5, s6⟩
         go_simp; (with_reducible rfl)
       rotate_left
       · simp only [Act.put, pa4_1, pa4_2, pa4_3, i64_w, i32_w]
         rfl
       refine take_ (i := 5) (N := some 42) (v := ?_) (a' := ?_) #[true, true, true, true, true, true, false, false, false, false, false] rfl rfl (take_ofW HT_.out HW_.out (by kernel_rfl)) (fun _ _ _ h => h) (Or.inl ⟨by rfl, ?_⟩) hHeld ?_ ?_; rotate_left
       · rintro w' ⟨s0, s1, s2, s3, s4, s5, s6⟩
         go_simp; (with_reducible rfl)
       rotate_left
       · simp only [Act.put, pa4_1, pa4_2, pa4_3, i64_w, i32_w]
         rfl
       refine one_ (i := 6) (N := some 43) #[true, true, true, true, true, true, true, false, false, false, false] rfl rfl (one_of HT_.out (by kernel_rfl)) (by decide) (fun K hK => ?_); refine value_ (w1 := ?_) (v := ?_) (by rfl) rfl ?_ ?_; rotate_left 2
       · go_simp
         constructor
         · rfl
         · rfl
       refine hK.out _ _ ⟨(blk_cell (blk_alloc BK0.out _) 0).trans rfl, (blk_cell (blk_alloc BK0.out _) 1).trans rfl, (blk_cell (blk_alloc BK0.out _) 2).trans rfl, (blk_cell (blk_alloc BK147.out _) 0).trans rfl, (blk_cell (blk_alloc BK147.out _) 1).trans rfl, (blk_cell (blk_alloc BK147.out _) 2).trans rfl, (blk_cell (blk_alloc BK147.out _) 3).trans rfl⟩ (fun hHeld => ?_); clear hK K; refine norm_ (a' := ?_) ?_ ?_; rotate_left
       · show Act.put _ (some 43) _ = _
         simp only [Act.put, pa4_1, pa4_2, pa4_3, i64_w, i32_w]; rfl
       refine one_ (i := 7) (N := some 44) #[true, true, true, true, true, true, true, true, false, false, false] rfl rfl (one_of HT_.out (by kernel_rfl)) (by decide) (fun K hK => ?_); refine Kd.R_append_step k80 (w0 := w0) w0.heap.size (by rfl) (.tmp 41) (.tmp 43) 33 80 (.agg #[(.int .i64 0), (.int .i64 0), (.int .i64 0), (.string ⟨#[]⟩)]) 40 rfl Tryd.underlying33 info80 rfl (by decide) (by omega) u9000_ l0_0 (⟨a1_0, (-1), a1_2, a1_3⟩ : S80) [.int .i64 a1_0, .int .i64 (-1), .int .i64 a1_2, .string a1_3] (fun k_ => ((P0_0_ k_ ∨ P0_1_ k_ ∨ P0_2_ k_) ∨ w.heap.size ≤ k_) ∧ k_ ≠ gb147) (fun _ => False) rfl rfl ?aP (fun _ hk => hk.elim) ?aF ?aO ?aB ?aS ?aL ?_
       (case aP => exact k80_mkM _ _ _ (⟨a1_0, (-1), a1_2, a1_3⟩ : S80))
       (case aB => exact d4_1)
       (case aF => exact (fun k_ hk => ⟨(.inr (Nat.le_trans d4_5 hk)), Kd.freshB (g := gb147) (o := .cells #[.int .i64 a1_0, .int .i64 (-1), .int .i64 a1_2, .string a1_3] 80 (0, 0)) d4_4 k_ hk⟩))
       (case aO => exact d4_2)
       (case aS => exact (below_size d4_1))
       (case aL => have := LMc28.out; omega)
       intro v153 w35 ho hb hg hat; rw [← Ny152.out] at ho; have n0_ := ak (Kd.R_over' (by (with_reducible repeat (first | apply Kd.R_alloc | apply Kd.R_drewN | apply Kd.R_drew)); exact HO_1001.out) (Kd.R_typed d4_2) (by decide) hg); have n1_ := ak (Kd.R_over' (by (with_reducible repeat (first | apply Kd.R_alloc | apply Kd.R_drewN | apply Kd.R_drew)); exact HO_1002.out) (Kd.R_typed d4_2) (by decide) hg); have n2_ := ak (blk_grown (g := g) (o := .cells #[u9000_, .slice Ao32 l0_1.length co32, u9002_] 74 (0, 0)) d4_3 hg (Kd.R_ne HO_1000.out BK0.out (by decide))); have n3_ := ak (blk_grown (g := gb147) (o := .cells #[.int .i64 a1_0, .int .i64 (-1), .int .i64 a1_2, .string a1_3] 80 (0, 0)) d4_4 hg (Kd.R_away HO_1000.out (fun _ hk => hk.2))); have n4_ := ak (hb); have n5_ := ak (Kept.of_grown (S := (fun k_ => (P0_0_ k_ ∨ P0_1_ k_ ∨ P0_2_ k_) ∨ k_ = g)) hg (by repeat (first | (with_reducible first | exact HK.out | apply Kept.alloc | apply Kept.drewN | apply Kept.drew | refine Kept.setCell ?_ (.inl (.inr rfl)) _ | refine Kept.setCell ?_ (.inr GW147.out) _) | exact HK.out)) (fun k_ e_ => Or.imp_left Or.inl ((HO_1000.out.1 k_ e_).1))); have n6_ := ak (ho); clear HO_1001; clear HO_1002; clear BK0; clear BK147; clear HB; clear HK; clear HO_1000; have HO_1001 := n0_; have HO_1002 := n1_; have BK0 := n2_; have BK147 := n3_; have HB := n4_; have HK := n5_; have HO154 := n6_; clear n0_ n1_ n2_ n3_ n4_ n5_ n6_; clear ho hb hg hat; obtain ⟨Ao36, co36, eo36⟩ := Kd.R_slice HO154.out
       (first | subst eo36 | (injection eo36 with f1_ f2_ f3_; have f4_ := f1_.symm; have f5_ := f3_.symm; clear f1_ f2_ f3_; subst f4_; subst f5_))
       refine hK.out _ _ (hb4_3_4 BK0.out BK147.out) (fun hHeld => ?_); clear hK K; refine norm_ (a' := ?_) ?_ ?_; rotate_left
       · show Act.put _ (some 44) _ = _
         simp only [Act.put, pa4_1, pa4_2, pa4_3, i64_w, i32_w]; rfl
       refine pure_ (i := 8) (N := some 45) (v := ?_) (a' := ?_) #[true, true, true, true, true, true, true, true, true, false, false] rfl rfl (any_of HT_.out (by kernel_rfl)) (fun _ _ _ h => h) (Or.inl ⟨by rfl, ?_⟩) ?_ ?_; rotate_left
       · intro w'
         go_simp; (with_reducible rfl)
       rotate_left
       · simp only [Act.put, pa4_1, pa4_2, pa4_3, i64_w, i32_w]
         rfl
       refine pure_ (i := 9) (N := some 46) (v := ?_) (a' := ?_) #[true, true, true, true, true, true, true, true, true, true, false] rfl rfl (any_of HT_.out (by kernel_rfl)) (fun _ _ _ h => h) (Or.inl ⟨by rfl, ?_⟩) ?_ ?_; rotate_left
       · intro w'
         go_simp; (with_reducible rfl)
       rotate_left
       · simp only [Act.put, pa4_1, pa4_2, pa4_3, i64_w, i32_w]
         rfl
       refine last_ (i := 10) (N := none) #[true, true, true, true, true, true, true, true, true, true, true] rfl rfl (one_of HT_.out (by kernel_rfl)) (by decide) (fun K hK => ?_); have hs37 : w35.cell? ⟨g, 0, none⟩ = some (u9000_) := (blk_cell BK0.out 0).trans rfl; have hfs37 := blk_frozen BK0.out 0; have hns37_1 := NB147_0.out; have hms37_1 := NB0_147.out; refine skip_ (w1 := ?_) (by rfl) rfl ?_ ?_; rotate_left
       · go_simp
         rfl
       refine hK.out _ _ ?_; clear hK K; refine done_ (done_of HT_.out (by kernel_rfl)) ?_
       try go_wp2
       go_ret
       exact ⟨_, _, _, by first | rfl | (simp [errW_none, errW_some] <;> rfl) | (simp [*, errW_none, errW_some] <;> rfl), by (with_reducible repeat (first | apply Kd.R_alloc | apply Kd.R_drewN | apply Kd.R_drew)); exact Kd.R_mono (Kd.R_far (p := ⟨g, 0, none⟩) (Kd.R_types HO154.out BK0.out (by decide)) (fun _ hk => hk.2) (.slice Ao36 y152.length co36)) (fun _ hk => hk.1.1), by (with_reducible repeat (first | apply Kd.R_alloc | apply Kd.R_drewN | apply Kd.R_drew)); exact Kd.R_mono (Kd.R_far (p := ⟨g, 0, none⟩) (Kd.R_types HO_1001.out BK0.out (by decide)) (fun _ hk => hk.2) (.slice Ao36 y152.length co36)) (fun _ hk => hk.1), by (with_reducible repeat (first | apply Kd.R_alloc | apply Kd.R_drewN | apply Kd.R_drew)); exact Kd.R_mono (Kd.R_far (p := ⟨g, 0, none⟩) (Kd.R_types HO_1002.out BK0.out (by decide)) (fun _ hk => hk.2) (.slice Ao36 y152.length co36)) (fun _ hk => hk.1), by (with_reducible repeat first | apply b4N | apply b4D | apply b4L); refine blk_put (cs := #[u9000_, .slice Ao32 l0_1.length co32, u9002_]) ?_ 0 _ rfl; (with_reducible repeat first | apply b4N | apply b4D | apply b4L); exact BK0.out, c4_2, c4_1⟩
      ·rw [if_neg c28] at H
       exact absurd H (by simp)

end Go.Proofs.YteiokhfikbndbaaDoor.R
