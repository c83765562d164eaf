/- Walks of the program's functions: each Go function's answer as a plain Lean function, and that the call comes to it. Written by a program. Conditions: those in each theorem's own head. -/
import Derived.Test.YtgoccbnpchglkaaDoorP0
import Derived.Test.YtgoccbnpchglkaaDoorP2
namespace Go.Proofs.YtgoccbnpchglkaaDoor.P
open Go.RowKit Go.Proofs.YtgoccbnpchglkaaDoorW.PrintWords Go.Proofs.YtgoccbnpchglkaaDoorW.PrintLast Go.Proofs.YtgoccbnpchglkaaDoorW.PrintMore
attribute [local go_sem] max2_int min2_int max_two min_two max_three min_three max_four min_four   -- for this text's walks alone
set_option linter.unusedVariables false
set_option linter.unusedSimpArgs false

theorem b3N {w : World} {g : Nat} {o : Obj} (h : w.heap[g]? = some o) (n : Nat) : (w.drewN n).heap[g]? = some o := h
theorem b3D {w : World} {g : Nat} {o : Obj} (h : w.heap[g]? = some o) : (w.drew).heap[g]? = some o := h
theorem b3L {w : World} {g : Nat} {o : Obj} (h : w.heap[g]? = some o) (o' : Obj) : (w.alloc o').heap[g]? = some o := blk_alloc h o'
theorem d3_1 {p : Prop} (h : p := by repeat (first | (with_reducible first | exact HB.out | apply below_alloc | apply pw_below_drewN | apply below_drew1) | exact HB.out)) : p := h
theorem d3_2 {p : Prop} (h : p := by (try simp only [List.map_toArray, List.map_cons, List.map_nil]); first | done | rfl | (simp only [List.length_drop, List.length_take]; rfl)) : p := h
theorem d3_3 {p : Prop} (h : p := by repeat (first | (with_reducible first | exact HB.out | apply below_alloc | apply pw_below_drewN | apply below_drew1 | refine below_set ?_ GE123.out) | exact HB.out)) : p := h
theorem d3_4 {p : Prop} (h : p := by repeat (first | (with_reducible first | exact HB.out | apply below_alloc | apply pw_below_drewN | apply below_drew1 | refine below_set ?_ GE139.out) | exact HB.out)) : p := h
theorem d3_5 {p : Prop} (h : p := by repeat (first | (with_reducible first | exact HB.out | apply below_alloc | apply pw_below_drewN | apply below_drew1 | refine below_set ?_ GE152.out) | exact HB.out)) : p := h
theorem d3_6 {p : Prop} (h : p := by first | rfl | (simp; done) | (simp [*]; done) | (simp [ne_nil_b, eq_nil_b]; done)) : p := h
theorem d3_7 {p : Prop} (h : p := by (with_reducible repeat first | apply b3N | apply b3D | apply b3L); exact BK139.out) : p := h
theorem d3_8 {p : Prop} (h : p := by (with_reducible repeat first | apply b3N | apply b3D | apply b3L); exact BK152.out) : p := h
theorem d3_9 {p : Prop} (h : p := by rw [hg]; exact (below_size d3_1)) : p := h
theorem c3_1 {p : Prop} (h : p := by first | rfl | (simp [errW_none, errW_some] <;> rfl) | (simp [*, errW_none, errW_some] <;> rfl)) : p := h
theorem c3_2 {p : Prop} (h : p := by repeat (first | (with_reducible first | exact HB.out | apply below_alloc | apply pw_below_drewN | apply below_drew1 | refine below_set ?_ GE139.out) | exact HB.out)) : p := h
theorem c3_3 {p : Prop} (h : p := by repeat (first | (with_reducible first | exact HB.out | apply below_alloc | apply pw_below_drewN | apply below_drew1 | refine below_set ?_ GE152.out) | exact HB.out)) : p := h
theorem c3_4 {p : Prop} (h : p := by first | rfl | (simp; done) | (simp [*]; done) | (simp [ne_nil_b, eq_nil_b]; done)) : p := h
theorem c3_5 {p : Prop} (h : p := by repeat (first | exact Drawn0.refl _ | apply Drawn0.step)) : p := h
theorem c3_6 {p : Prop} (h : p := by first | (go_simp; done) | (go_simp; rfl)) : p := h
theorem c3_7 {p : Prop} (h : p := by repeat (first | (with_reducible first | exact HB.out | apply below_alloc | apply pw_below_drewN | apply below_drew1 | refine below_set ?_ GE123.out) | exact HB.out)) : p := h
set_option maxHeartbeats 8000000
set_option maxRecDepth 100000
theorem z3c {w : World} {g : Nat} {t : TypeId} {cs : Array Value} (h : w.heap[g]? = some (.cells cs t (0, 0))) (i : Nat) {v : Value} (e : cs[i]? = some v) : w.cell? ⟨g, i, none⟩ = some v := (blk_cell h i).trans e
theorem z3f {w : World} {g : Nat} {t : TypeId} {cs : Array Value} (h : w.heap[g]? = some (.cells cs t (0, 0))) (i : Nat) : w.frozen? ⟨g, i, none⟩ = false := blk_frozen h i

/-! ### impl_inHeap: function 55 -/
def impl_inHeap.l0 : Nat → List (S58) → List (S28) → Int → Int → Option (Int)
  | 0, _, _, _, _ => none
  | k + 1, x0, x8, x9, x10 => if x10 < x9 then (if 0 ≤ x10 then (if x10 < (x8.length : Int) then ((impl_ValueFault.f k ((rd_T28 x8 x10).f0) ((rd_T28 x8 x10).f1) ((rd_T28 x8 x10).f2)).bind fun t124 => (if t124 = 0 then ((impl_isBeyond.f ((rd_T28 x8 x10).f0) ((rd_T28 x8 x10).f1) ((rd_T28 x8 x10).f2) (x0.length : Int)).bind fun t125 => (if t125 = true then (some 4) else (impl_inHeap.l0 k x0 x8 x9 (wrap64 (x10 + 1))))) else (some t124))) else (none)) else (none)) else (some 0)
def impl_inHeap.f (k : Nat) (l0 : List (S58)) (l1 : List (S28)) : Option (Int) := impl_inHeap.l0 k l0 l1 (l1.length : Int) 0
theorem impl_inHeap.mono_l : ∀ k, (∀ y0 y1 y2 y3, LeO (impl_inHeap.l0 k y0 y1 y2 y3) (impl_inHeap.l0 (k + 1) y0 y1 y2 y3))
  | 0 => fun _ _ _ _ r h => by simp [impl_inHeap.l0] at h
  | k + 1 => by
    have ih0 := impl_inHeap.mono_l k
    · intro y0 y1 y2 y3
      unfold impl_inHeap.l0
      repeat' first | (with_reducible first | apply ih0 | apply impl_ValueFault.mono | exact LeO.refl _ | exact LeO.none _ | refine LeO.ite ?_ ?_ | refine LeO.bind ?_ (fun _ => ?_)) | apply ih0 | apply impl_ValueFault.mono | exact LeO.none _ | refine LeO.ite ?_ ?_ | refine LeO.bind ?_ (fun _ => ?_)
theorem impl_inHeap.mono : ∀ a0 a1 k, LeO (impl_inHeap.f k a0 a1) (impl_inHeap.f (k + 1) a0 a1) := by
  intro a0 a1 k; have ih0 := impl_inHeap.mono_l k; unfold impl_inHeap.f
  repeat' first | (with_reducible first | apply ih0 | apply impl_ValueFault.mono | exact LeO.refl _ | exact LeO.none _ | refine LeO.ite ?_ ?_ | refine LeO.bind ?_ (fun _ => ?_)) | apply ih0 | apply impl_ValueFault.mono | exact LeO.none _ | refine LeO.ite ?_ ?_ | refine LeO.bind ?_ (fun _ => ?_)
theorem impl_inHeap.calls (k : Nat) (A0 : Option Addr) (c0 : Nat) (l0 : List (S58)) (A1 : Option Addr) (c1 : Nat) (l1 : List (S28)) (r : Int) (w : World) (hr0 : Kd.C k58 w A0 l0.length l0) (hc0 : l0.length ≤ c0) (hr1 : Kd.C k28 w A1 l1.length l1) (hc1 : l1.length ≤ c1) (h : impl_inHeap.f k l0 l1 = some r) :
    Calls Tryd.prog 55 #[.slice A0 l0.length c0, .slice A1 l1.length c1] w fun e w' => e = .returned (.int .i64 r) ∧ Below w.heap.size w w' := by
  have hu28 := Tryd.underlying28; have HR0 := ak hr0; have HC0 := ak hc0; clear hr0 hc0; have HR1 := ak hr1; have HC1 := ak hc1; clear hr1 hc1; have HB := ak (Below.refl w.heap.size w); have H := h; clear h; unfold impl_inHeap.f at H; have H' := ak H; clear H; go_enter Tryd.func55, Tryd.ntmps55; go_wp2; go_loopg [10] k (fun kq v10 w' => ∃ (x10_1 : Int), v10 = .int .i64 x10_1 ∧ Aside0 (impl_inHeap.l0 kq l0 l1 (l1.length : Int) x10_1 = some r) ∧ Aside0 (kq ≤ k) ∧ Aside0 (Below w.heap.size w w'))
  case atStart => exact ⟨(0), d3_6, H', ⟨Nat.le_refl _⟩, ⟨by repeat (first | (with_reducible first | exact HB.out | apply below_alloc | apply pw_below_drewN | apply below_drew1) | exact HB.out)⟩⟩
  case round =>
   clear H'
   (try clear c1); (try clear p2)
   obtain ⟨x10_1, rfl, HA, HK1, HB⟩ := hrel
   cases gk with
   | zero => exact absurd HA.out (by simp [impl_inHeap.l0])
   | succ k1 =>
    have H := HA.out; clear HA; simp only [impl_inHeap.l0] at H; by_cases c3 : x10_1 < (l1.length : Int)
    ·rw [if_pos c3] at H
     have c3b0 : decide (x10_1 < (l1.length : Int)) = true := decide_eq_true c3; clear c3; by_cases c4 : 0 ≤ x10_1
     ·rw [if_pos c4] at H
      have c4b0 : decide (0 ≤ x10_1) = true := decide_eq_true c4; clear c4; by_cases c5 : x10_1 < (l1.length : Int)
      ·rw [if_pos c5] at H
       have c5b0 : decide (x10_1 < (l1.length : Int)) = true := decide_eq_true c5; clear c5; replace H := Option.bind_eq_some_iff.mp H; obtain ⟨t124, A60, H⟩ := H; (try dsimp -simprocs only at H); have A6 := ak A60; clear A60; by_cases c7 : t124 = 0
       ·rw [if_pos c7] at H
        have c7b0 : (t124 == 0) = true := beq_iff_eq.mpr c7; have c7b1 : (t124 != 0) = false := bne_eq_false_iff_eq.mpr c7; clear c7; replace H := Option.bind_eq_some_iff.mp H; obtain ⟨t125, A80, H⟩ := H; (try dsimp -simprocs only at H); have A8 := ak A80; clear A80; by_cases c9 : t125 = true
        ·subst c9
         rw [if_pos rfl] at H; obtain rfl := Option.some.inj H; have p122 : 0 ≤ (x10_1 : Int) := of_decide_eq_true (by first | (with_reducible assumption) | assumption); have q122 : x10_1 < (l1.length : Int) := of_decide_eq_true (by first | (with_reducible assumption) | assumption); obtain ⟨ad122, e122, hx122_0, hx122_1, hx122_2⟩ := at_T28 HR1.out x10_1 p122 q122
         cases e122
         replace hx122_0 := (HB.out.cell (World.block_lt_of_cell? w _ hx122_0)).trans hx122_0; replace hx122_1 := (HB.out.cell (World.block_lt_of_cell? w _ hx122_1)).trans hx122_1; replace hx122_2 := (HB.out.cell (World.block_lt_of_cell? w _ hx122_2)).trans hx122_2; replace p122 := eq_true p122; replace q122 := eq_true q122
         go_wp2_with (first | ((with_reducible refine gate_dst (N := 6) rfl ?_); refine box_event ?hg (N := 6) ?hd (cs := #[.int .i64 0, .int .i64 0, .string (⟨#[]⟩ : ByteArray)]) (t := 28) ?hr ?_; (case hd => rfl); (case hg => rfl); (case hr => exact c3_6); intro gb123 hg w10 hbox hb; have n0_ := ak (below_step d3_1 hb); have n1_ := ak (hbox); have n2_ := ak ((d3_9 : w.heap.size ≤ gb123)); have n3_ := ak ((d3_9 : w.heap.size ≤ gb123)); clear HB; have HB := n0_; have BK123 := n1_; have GW123 := n2_; have GE123 := n3_; clear n0_ n1_ n2_ n3_ hb hbox hg; have hcz11_0 := z3c BK123.out 0 (v := (.int .i64 0)) rfl; have hcz11_1 := z3c BK123.out 1 (v := (.int .i64 0)) rfl; have hcz11_2 := z3c BK123.out 2 (v := (.string (⟨#[]⟩ : ByteArray))) rfl; have hfz11_0 := z3f BK123.out 0; have hfz11_1 := z3f BK123.out 1; have hfz11_2 := z3f BK123.out 2) | ((with_reducible refine gate_callee (f := 29) rfl ?_); refine goesL_ (some 15) rfl rfl Tryd.func29 (by kernel_rfl) rfl #[.agg #[.int .i64 ((rd_T28 l1 x10_1).f0), .int .i64 ((rd_T28 l1 x10_1).f1), .string ((rd_T28 l1 x10_1).f2)]] rfl d3_2 ?_; (with_reducible refine (impl_ValueFault.calls k1 ((rd_T28 l1 x10_1).f0) ((rd_T28 l1 x10_1).f1) ((rd_T28 l1 x10_1).f2) t124 _ A6.out).mono ?_); rintro e w12 ⟨rfl, hb⟩; refine ⟨_, rfl, ?_⟩; have n0_ := ak (blk_below (g := gb123) (o := .cells #[.int .i64 ((rd_T28 l1 x10_1).f0), .int .i64 ((rd_T28 l1 x10_1).f1), .string ((rd_T28 l1 x10_1).f2)] 28 (0, 0)) (by (with_reducible repeat first | apply b3N | apply b3D | apply b3L); refine blk_put (cs := #[.int .i64 ((rd_T28 l1 x10_1).f0), .int .i64 ((rd_T28 l1 x10_1).f1), .string (⟨#[]⟩ : ByteArray)]) ?_ 2 _ rfl; (with_reducible repeat first | apply b3N | apply b3D | apply b3L); refine blk_put (cs := #[.int .i64 ((rd_T28 l1 x10_1).f0), .int .i64 0, .string (⟨#[]⟩ : ByteArray)]) ?_ 1 _ rfl; (with_reducible repeat first | apply b3N | apply b3D | apply b3L); refine blk_put (cs := #[.int .i64 0, .int .i64 0, .string (⟨#[]⟩ : ByteArray)]) ?_ 0 _ rfl; (with_reducible repeat first | apply b3N | apply b3D | apply b3L); exact BK123.out) hb); have n1_ := ak (below_step d3_3 hb); clear BK123 HB; have BK123 := n0_; have HB := n1_; clear n0_ n1_; (try clear hb); have hcz13_0 := z3c BK123.out 0 (v := (.int .i64 ((rd_T28 l1 x10_1).f0))) rfl; have hcz13_1 := z3c BK123.out 1 (v := (.int .i64 ((rd_T28 l1 x10_1).f1))) rfl; have hcz13_2 := z3c BK123.out 2 (v := (.string ((rd_T28 l1 x10_1).f2))) rfl; have hfz13_0 := z3f BK123.out 0; have hfz13_1 := z3f BK123.out 1; have hfz13_2 := z3f BK123.out 2) | ((with_reducible refine gate_callee (f := 76) rfl ?_); refine goesL_ (some 22) rfl rfl Tryd.func76 (by kernel_rfl) rfl #[.agg #[.int .i64 ((rd_T28 l1 x10_1).f0), .int .i64 ((rd_T28 l1 x10_1).f1), .string ((rd_T28 l1 x10_1).f2)], .int .i64 (l0.length : Int)] rfl d3_2 ?_; (with_reducible refine (impl_isBeyond.calls ((rd_T28 l1 x10_1).f0) ((rd_T28 l1 x10_1).f1) ((rd_T28 l1 x10_1).f2) (l0.length : Int) true _ A8.out).mono ?_); rintro e w14 ⟨rfl, hb⟩; refine ⟨_, rfl, ?_⟩; have n0_ := ak (blk_below (g := gb123) (o := .cells #[.int .i64 ((rd_T28 l1 x10_1).f0), .int .i64 ((rd_T28 l1 x10_1).f1), .string ((rd_T28 l1 x10_1).f2)] 28 (0, 0)) (by (with_reducible repeat first | apply b3N | apply b3D | apply b3L); exact BK123.out) hb); have n1_ := ak (below_step d3_3 hb); clear BK123 HB; have BK123 := n0_; have HB := n1_; clear n0_ n1_; (try clear hb)))
         go_ret; exact ⟨c3_1, c3_7⟩
        ·replace c9 := Bool.eq_false_iff.mpr c9
         subst c9; rw [if_neg (show ¬ (false = true) by decide)] at H; have H' := ak H; clear H; have p122 : 0 ≤ (x10_1 : Int) := of_decide_eq_true (by first | (with_reducible assumption) | assumption); have q122 : x10_1 < (l1.length : Int) := of_decide_eq_true (by first | (with_reducible assumption) | assumption); obtain ⟨ad122, e122, hx122_0, hx122_1, hx122_2⟩ := at_T28 HR1.out x10_1 p122 q122
         cases e122
         replace hx122_0 := (HB.out.cell (World.block_lt_of_cell? w _ hx122_0)).trans hx122_0; replace hx122_1 := (HB.out.cell (World.block_lt_of_cell? w _ hx122_1)).trans hx122_1; replace hx122_2 := (HB.out.cell (World.block_lt_of_cell? w _ hx122_2)).trans hx122_2; replace p122 := eq_true p122; replace q122 := eq_true q122
         go_wp2_with (first | ((with_reducible refine gate_dst (N := 6) rfl ?_); refine box_event ?hg (N := 6) ?hd (cs := #[.int .i64 0, .int .i64 0, .string (⟨#[]⟩ : ByteArray)]) (t := 28) ?hr ?_; (case hd => rfl); (case hg => rfl); (case hr => exact c3_6); intro gb123 hg w15 hbox hb; have n0_ := ak (below_step d3_1 hb); have n1_ := ak (hbox); have n2_ := ak ((d3_9 : w.heap.size ≤ gb123)); have n3_ := ak ((d3_9 : w.heap.size ≤ gb123)); clear HB; have HB := n0_; have BK123 := n1_; have GW123 := n2_; have GE123 := n3_; clear n0_ n1_ n2_ n3_ hb hbox hg; have hcz16_0 := z3c BK123.out 0 (v := (.int .i64 0)) rfl; have hcz16_1 := z3c BK123.out 1 (v := (.int .i64 0)) rfl; have hcz16_2 := z3c BK123.out 2 (v := (.string (⟨#[]⟩ : ByteArray))) rfl; have hfz16_0 := z3f BK123.out 0; have hfz16_1 := z3f BK123.out 1; have hfz16_2 := z3f BK123.out 2) | ((with_reducible refine gate_callee (f := 29) rfl ?_); refine goesL_ (some 15) rfl rfl Tryd.func29 (by kernel_rfl) rfl #[.agg #[.int .i64 ((rd_T28 l1 x10_1).f0), .int .i64 ((rd_T28 l1 x10_1).f1), .string ((rd_T28 l1 x10_1).f2)]] rfl d3_2 ?_; (with_reducible refine (impl_ValueFault.calls k1 ((rd_T28 l1 x10_1).f0) ((rd_T28 l1 x10_1).f1) ((rd_T28 l1 x10_1).f2) t124 _ A6.out).mono ?_); rintro e w17 ⟨rfl, hb⟩; refine ⟨_, rfl, ?_⟩; have n0_ := ak (blk_below (g := gb123) (o := .cells #[.int .i64 ((rd_T28 l1 x10_1).f0), .int .i64 ((rd_T28 l1 x10_1).f1), .string ((rd_T28 l1 x10_1).f2)] 28 (0, 0)) (by (with_reducible repeat first | apply b3N | apply b3D | apply b3L); refine blk_put (cs := #[.int .i64 ((rd_T28 l1 x10_1).f0), .int .i64 ((rd_T28 l1 x10_1).f1), .string (⟨#[]⟩ : ByteArray)]) ?_ 2 _ rfl; (with_reducible repeat first | apply b3N | apply b3D | apply b3L); refine blk_put (cs := #[.int .i64 ((rd_T28 l1 x10_1).f0), .int .i64 0, .string (⟨#[]⟩ : ByteArray)]) ?_ 1 _ rfl; (with_reducible repeat first | apply b3N | apply b3D | apply b3L); refine blk_put (cs := #[.int .i64 0, .int .i64 0, .string (⟨#[]⟩ : ByteArray)]) ?_ 0 _ rfl; (with_reducible repeat first | apply b3N | apply b3D | apply b3L); exact BK123.out) hb); have n1_ := ak (below_step d3_3 hb); clear BK123 HB; have BK123 := n0_; have HB := n1_; clear n0_ n1_; (try clear hb); have hcz18_0 := z3c BK123.out 0 (v := (.int .i64 ((rd_T28 l1 x10_1).f0))) rfl; have hcz18_1 := z3c BK123.out 1 (v := (.int .i64 ((rd_T28 l1 x10_1).f1))) rfl; have hcz18_2 := z3c BK123.out 2 (v := (.string ((rd_T28 l1 x10_1).f2))) rfl; have hfz18_0 := z3f BK123.out 0; have hfz18_1 := z3f BK123.out 1; have hfz18_2 := z3f BK123.out 2) | ((with_reducible refine gate_callee (f := 76) rfl ?_); refine goesL_ (some 22) rfl rfl Tryd.func76 (by kernel_rfl) rfl #[.agg #[.int .i64 ((rd_T28 l1 x10_1).f0), .int .i64 ((rd_T28 l1 x10_1).f1), .string ((rd_T28 l1 x10_1).f2)], .int .i64 (l0.length : Int)] rfl d3_2 ?_; (with_reducible refine (impl_isBeyond.calls ((rd_T28 l1 x10_1).f0) ((rd_T28 l1 x10_1).f1) ((rd_T28 l1 x10_1).f2) (l0.length : Int) false _ A8.out).mono ?_); rintro e w19 ⟨rfl, hb⟩; refine ⟨_, rfl, ?_⟩; have n0_ := ak (blk_below (g := gb123) (o := .cells #[.int .i64 ((rd_T28 l1 x10_1).f0), .int .i64 ((rd_T28 l1 x10_1).f1), .string ((rd_T28 l1 x10_1).f2)] 28 (0, 0)) (by (with_reducible repeat first | apply b3N | apply b3D | apply b3L); exact BK123.out) hb); have n1_ := ak (below_step d3_3 hb); clear BK123 HB; have BK123 := n0_; have HB := n1_; clear n0_ n1_; (try clear hb)))
         go_roundg k1
         case measure => have := HK1.out; omega
         case rel => exact ⟨(wrap64 (x10_1 + 1)), d3_6, H', ⟨by have := HK1.out; omega⟩, ⟨c3_7⟩⟩
       ·rw [if_neg c7] at H
        have c7b0 : (t124 == 0) = false := beq_eq_false_iff_ne.mpr c7; have c7b1 : (t124 != 0) = true := bne_iff_ne.mpr c7; obtain rfl := Option.some.inj H; have p122 : 0 ≤ (x10_1 : Int) := of_decide_eq_true (by first | (with_reducible assumption) | assumption); have q122 : x10_1 < (l1.length : Int) := of_decide_eq_true (by first | (with_reducible assumption) | assumption); obtain ⟨ad122, e122, hx122_0, hx122_1, hx122_2⟩ := at_T28 HR1.out x10_1 p122 q122
        cases e122
        replace hx122_0 := (HB.out.cell (World.block_lt_of_cell? w _ hx122_0)).trans hx122_0; replace hx122_1 := (HB.out.cell (World.block_lt_of_cell? w _ hx122_1)).trans hx122_1; replace hx122_2 := (HB.out.cell (World.block_lt_of_cell? w _ hx122_2)).trans hx122_2; replace p122 := eq_true p122; replace q122 := eq_true q122
        go_wp2_with (first | ((with_reducible refine gate_dst (N := 6) rfl ?_); refine box_event ?hg (N := 6) ?hd (cs := #[.int .i64 0, .int .i64 0, .string (⟨#[]⟩ : ByteArray)]) (t := 28) ?hr ?_; (case hd => rfl); (case hg => rfl); (case hr => exact c3_6); intro gb123 hg w20 hbox hb; have n0_ := ak (below_step d3_1 hb); have n1_ := ak (hbox); have n2_ := ak ((d3_9 : w.heap.size ≤ gb123)); have n3_ := ak ((d3_9 : w.heap.size ≤ gb123)); clear HB; have HB := n0_; have BK123 := n1_; have GW123 := n2_; have GE123 := n3_; clear n0_ n1_ n2_ n3_ hb hbox hg; have hcz21_0 := z3c BK123.out 0 (v := (.int .i64 0)) rfl; have hcz21_1 := z3c BK123.out 1 (v := (.int .i64 0)) rfl; have hcz21_2 := z3c BK123.out 2 (v := (.string (⟨#[]⟩ : ByteArray))) rfl; have hfz21_0 := z3f BK123.out 0; have hfz21_1 := z3f BK123.out 1; have hfz21_2 := z3f BK123.out 2) | ((with_reducible refine gate_callee (f := 29) rfl ?_); refine goesL_ (some 15) rfl rfl Tryd.func29 (by kernel_rfl) rfl #[.agg #[.int .i64 ((rd_T28 l1 x10_1).f0), .int .i64 ((rd_T28 l1 x10_1).f1), .string ((rd_T28 l1 x10_1).f2)]] rfl d3_2 ?_; (with_reducible refine (impl_ValueFault.calls k1 ((rd_T28 l1 x10_1).f0) ((rd_T28 l1 x10_1).f1) ((rd_T28 l1 x10_1).f2) t124 _ A6.out).mono ?_); rintro e w22 ⟨rfl, hb⟩; refine ⟨_, rfl, ?_⟩; have n0_ := ak (blk_below (g := gb123) (o := .cells #[.int .i64 ((rd_T28 l1 x10_1).f0), .int .i64 ((rd_T28 l1 x10_1).f1), .string ((rd_T28 l1 x10_1).f2)] 28 (0, 0)) (by (with_reducible repeat first | apply b3N | apply b3D | apply b3L); refine blk_put (cs := #[.int .i64 ((rd_T28 l1 x10_1).f0), .int .i64 ((rd_T28 l1 x10_1).f1), .string (⟨#[]⟩ : ByteArray)]) ?_ 2 _ rfl; (with_reducible repeat first | apply b3N | apply b3D | apply b3L); refine blk_put (cs := #[.int .i64 ((rd_T28 l1 x10_1).f0), .int .i64 0, .string (⟨#[]⟩ : ByteArray)]) ?_ 1 _ rfl; (with_reducible repeat first | apply b3N | apply b3D | apply b3L); refine blk_put (cs := #[.int .i64 0, .int .i64 0, .string (⟨#[]⟩ : ByteArray)]) ?_ 0 _ rfl; (with_reducible repeat first | apply b3N | apply b3D | apply b3L); exact BK123.out) hb); have n1_ := ak (below_step d3_3 hb); clear BK123 HB; have BK123 := n0_; have HB := n1_; clear n0_ n1_; (try clear hb)))
        go_ret; exact ⟨c3_1, c3_7⟩
      ·rw [if_neg c5] at H
       exact absurd H (by simp)
     ·rw [if_neg c4] at H
      exact absurd H (by simp)
    ·rw [if_neg c3] at H
     have c3b0 : decide (x10_1 < (l1.length : Int)) = false := decide_eq_false c3; clear c3; obtain rfl := Option.some.inj H; go_wp2; go_ret; exact ⟨c3_1, by repeat (first | (with_reducible first | exact HB.out | apply below_alloc | apply pw_below_drewN | apply below_drew1) | exact HB.out)⟩

/-! ### impl_isPrim: function 56 -/
def impl_isPrim.f (a0 : Int) : Option (Bool) := (impl_in.f a0 0 15).bind fun t126 => (some t126)
theorem impl_isPrim.calls (a0 : Int) (r : Bool) (w : World) (h : impl_isPrim.f a0 = some r) :
    Calls Tryd.prog 56 #[.int .i64 a0] w fun e w' => e = .returned (.bool r) ∧ Drawn0 w w' := by
  have H := h; clear h; unfold impl_isPrim.f at H; replace H := Option.bind_eq_some_iff.mp H; obtain ⟨t126, A20, H⟩ := H; (try dsimp -simprocs only at H); have A2 := ak A20; clear A20; obtain rfl := Option.some.inj H; go_enter Tryd.func56, Tryd.ntmps56; go_wp2_with (first | ((with_reducible refine gate_callee (f := 77) rfl ?_); refine goesL_ (some 4) rfl rfl Tryd.func77 (by kernel_rfl) rfl #[.int .i64 a0, .int .i64 0, .int .i64 15] rfl d3_2 ?_; (with_reducible refine (impl_in.calls a0 0 15 t126 _ A2.out).mono ?_); rintro e w' ⟨rfl, ⟨nd, rfl⟩⟩; refine ⟨_, rfl, ?_⟩)); go_ret; exact ⟨c3_4, c3_5⟩

/-! ### impl_Pair: function 57 -/
def impl_Pair.f (l0 : List (S58)) : Option ((List (S58))) := (some (([] : List (S58)) : List (S58))).bind fun y127 => (if y127.length + l0.length < 2199023255552 then (some (y127 ++ l0)) else (none))
theorem impl_Pair.calls1 (A0 : Option Addr) (c0 : Nat) (l0 : List (S58)) (r : List (S58)) (w : World) (hr0 : Kd.C k58 w A0 l0.length l0) (hc0 : l0.length ≤ c0) (hA0 : A0.isNone = false) (h : impl_Pair.f l0 = some r) :
    Calls Tryd.prog 57 #[.slice A0 l0.length c0] w fun e w' => ∃ v0_ : Value, e = .returned (v0_) ∧ Kd.R k58 58 w' w.heap.size (fun _ => True) v0_ r ∧ Below w.heap.size w w' := by
  have q_ := fun (w : World) (a : Option Addr) (n c n' c' : Nat) => Lib.run_eql_slice_nil w 26 58 a n c n' c' Tryd.underlying26; have HR0 := ak hr0; have HC0 := ak hc0; clear hr0 hc0; have HB := ak (Below.refl w.heap.size w); have H := h; clear h; unfold impl_Pair.f at H; obtain ⟨y127, hy127⟩ : ∃ y_ : List (S58), y_ = (([] : List (S58))) := ⟨_, rfl⟩
  replace H : (if y127.length + l0.length < 2199023255552 then (some (y127 ++ l0)) else (none)) = some r := by first | (rw [hy127]; with_reducible exact H) | (have H2_ := (Option.bind_some _ _).symm.trans H; rw [hy127]; with_reducible exact H2_) | (have H2_ := (Option.bind_some _ _).symm.trans H; with_reducible exact H2_) | with_reducible exact H | (rw [hy127]; exact H) | exact H
  have Ny127 := ak hy127; clear hy127; by_cases c2 : y127.length + l0.length < 2199023255552
  ·rw [if_pos c2] at H
   have LMc2 := ak c2; clear c2; obtain ⟨y130, hy130⟩ : ∃ y_ : List (S58), y_ = (y127 ++ l0) := ⟨_, rfl⟩
   replace H : (some y130) = some r := by first | (rw [hy130]; with_reducible exact H) | (have H2_ := (Option.bind_some _ _).symm.trans H; rw [hy130]; with_reducible exact H2_) | (have H2_ := (Option.bind_some _ _).symm.trans H; with_reducible exact H2_) | with_reducible exact H | (rw [hy130]; exact H) | exact H
   have Ny130 := ak hy130; clear hy130; obtain rfl := Option.some.inj H; go_enter Tryd.func57, Tryd.ntmps57
   go_wp2_with (first | ((with_reducible refine gate_dst (N := 5) rfl ?_); refine Kd.R_lit k58 _ 58 ?hg (N := 5) ?hd (xs := ([] : List (S58))) (inner := []) (ok := fun _ => True) (okp := fun _ => True) ?hr ?hp (fun _ hk => hk) trivial (Below.refl _ _) (Nat.le_refl _) (by simp) ?_; (case hd => rfl); (case hg => rfl); (case hr => exact c3_6); (case hp => exact (Reps.none _ _)); intro v128 w3 ho4 hb hg_ hnew_; clear hg_ hnew_; (first | rw [← Ny127.out] at ho4 | (simp only [Int.reduceToNat] at ho4; rw [← Ny127.out] at ho4)); have n0_ := ak (Kd.R_lower ho4 (below_size d3_1)); have n1_ := ak (below_step d3_1 hb); clear HB; have HO129 := n0_; have HB := n1_; clear n0_ n1_ hb ho4) | ((with_reducible refine gate_builtin (b := .append) (xs := #[.tmp 5, .tmp 6]) rfl ?_); at_builtin; refine Kd.R_append_rows k58 (w0 := w) w.heap.size rfl (.tmp 5) (.tmp 6) 26 58 (.agg #[(.int .i64 0), (.int .i64 0), (.string ⟨#[]⟩), (.int .i64 0), (.int .i64 0), (.string ⟨#[]⟩)]) 64 rfl Tryd.underlying26 info58 rfl (by decide) (by omega) v128 y127 l0 _ _ _ (fun _ => True) (fun _ => False) rfl rfl ?aO ?aR (fun _ _ h => h) (fun _ h => h.elim) ?aF ?aB ?aS ?aL ?_; (case aR => repeat (first | exact (Kd.C_below HR0.out HB.out) | (with_reducible refine Kd.C_alloc ?_ _) | (with_reducible refine Kd.C_drewN ?_ _) | (with_reducible refine Kd.C_drew ?_))); (case aB => exact d3_1); (case aF => exact (fun _ _ => trivial)); (case aO => exact (by (with_reducible repeat (first | apply Kd.R_alloc | apply Kd.R_drewN | apply Kd.R_drew)); exact HO129.out)); (case aS => exact (below_size d3_1)); (case aL => have := LMc2.out; omega); intro v131 w5 ho hb hg hat; rw [← Ny130.out] at ho; have n0_ := ak (hb); have n1_ := ak (ho); clear HB HO129; have HB := n0_; have HO132 := n1_; clear n0_ n1_ ho hb hg hat))
   go_ret; (try refine exists_and_left.mp ?_); exact ⟨_, c3_1, by (with_reducible repeat (first | apply Kd.R_alloc | apply Kd.R_drewN | apply Kd.R_drew)); exact HO132.out, by repeat (first | (with_reducible first | exact HB.out | apply below_alloc | apply pw_below_drewN | apply below_drew1) | exact HB.out)⟩
  ·rw [if_neg c2] at H
   exact absurd H (by simp)
theorem impl_Pair.calls (A0 : Option Addr) (c0 : Nat) (l0 : List (S58)) (r : List (S58)) (w : World) (hr0 : Kd.C k58 w A0 l0.length l0) (hc0 : l0.length ≤ c0) (h : impl_Pair.f l0 = some r) :
    Calls Tryd.prog 57 #[.slice A0 l0.length c0] w fun e w' => ∃ v0_ : Value, e = .returned (v0_) ∧ Kd.R k58 58 w' w.heap.size (fun _ => True) v0_ r ∧ Below w.heap.size w w' := by
  by_cases hA0 : A0.isNone = false
  · exact impl_Pair.calls1 A0 c0 l0 r w hr0 hc0 hA0 h
  · obtain rfl : A0 = none := by
      cases A0 with
      | none => rfl
      | some a => exact absurd rfl hA0
    obtain rfl : l0 = [] := by
      cases l0 with
      | nil => rfl
      | cons x t => obtain ⟨ad, he, _⟩ := hr0.2.2 (by simp); cases he
    obtain rfl : [] = r := by simpa [impl_Pair.f] using h
    clear hA0 hr0 hc0 h; have q_ := fun (w : World) (a : Option Addr) (n c n' c' : Nat) => Lib.run_eql_slice_nil w 26 58 a n c n' c' Tryd.underlying26; go_enter Tryd.func57, Tryd.ntmps57; go_wp2; go_ret; exact ⟨_, rfl, Kd.R_nil _ _ _ _ _, Below.refl _ _⟩


/-! ### impl_IsTrue: function 30 -/
def impl_IsTrue.f (a0_0 : Int) (a0_1 : Int) (a0_2 : ByteArray) : Option (Bool) := if a0_0 = 2 then (some (a0_1 != 0)) else (some true)
theorem impl_IsTrue.calls (a0_0 : Int) (a0_1 : Int) (a0_2 : ByteArray) (r : Bool) (w : World) (h : impl_IsTrue.f a0_0 a0_1 a0_2 = some r) :
    Calls Tryd.prog 30 #[.agg #[.int .i64 a0_0, .int .i64 a0_1, .string a0_2]] w fun e w' => e = .returned (.bool r) ∧ Below w.heap.size w w' := by
  have hu28 := Tryd.underlying28; have HB := ak (Below.refl w.heap.size w); have H := h; clear h; unfold impl_IsTrue.f at H; by_cases c2 : a0_0 = 2
  ·rw [if_pos c2] at H
   have c2b0 : (a0_0 == 2) = true := beq_iff_eq.mpr c2; have c2b1 : (a0_0 != 2) = false := bne_eq_false_iff_eq.mpr c2; clear c2; obtain rfl := Option.some.inj H; go_enter Tryd.func30, Tryd.ntmps30; go_wp2_with (first | ((with_reducible refine gate_dst (N := 1) rfl ?_); refine box_event ?hg (N := 1) ?hd (cs := #[.int .i64 a0_0, .int .i64 a0_1, .string a0_2]) (t := 28) ?hr ?_; (case hd => rfl); (case hg => rfl); (case hr => exact c3_6); intro gb133 hg w3 hbox hb; have n0_ := ak (below_step d3_1 hb); have n1_ := ak (hbox); have n2_ := ak ((d3_9 : w.heap.size ≤ gb133)); have n3_ := ak ((d3_9 : w.heap.size ≤ gb133)); clear HB; have HB := n0_; have BK133 := n1_; have GW133 := n2_; have GE133 := n3_; clear n0_ n1_ n2_ n3_ hb hbox hg; have hcz4_0 := z3c BK133.out 0 (v := (.int .i64 a0_0)) rfl; have hcz4_1 := z3c BK133.out 1 (v := (.int .i64 a0_1)) rfl; have hcz4_2 := z3c BK133.out 2 (v := (.string a0_2)) rfl; have hfz4_0 := z3f BK133.out 0; have hfz4_1 := z3f BK133.out 1; have hfz4_2 := z3f BK133.out 2)); go_ret; exact ⟨c3_1, by repeat (first | (with_reducible first | exact HB.out | apply below_alloc | apply pw_below_drewN | apply below_drew1 | refine below_set ?_ GE133.out) | exact HB.out)⟩
  ·rw [if_neg c2] at H
   have c2b0 : (a0_0 == 2) = false := beq_eq_false_iff_ne.mpr c2; have c2b1 : (a0_0 != 2) = true := bne_iff_ne.mpr c2; obtain rfl := Option.some.inj H; go_enter Tryd.func30, Tryd.ntmps30; go_wp2_with (first | ((with_reducible refine gate_dst (N := 1) rfl ?_); refine box_event ?hg (N := 1) ?hd (cs := #[.int .i64 a0_0, .int .i64 a0_1, .string a0_2]) (t := 28) ?hr ?_; (case hd => rfl); (case hg => rfl); (case hr => exact c3_6); intro gb133 hg w5 hbox hb; have n0_ := ak (below_step d3_1 hb); have n1_ := ak (hbox); have n2_ := ak ((d3_9 : w.heap.size ≤ gb133)); have n3_ := ak ((d3_9 : w.heap.size ≤ gb133)); clear HB; have HB := n0_; have BK133 := n1_; have GW133 := n2_; have GE133 := n3_; clear n0_ n1_ n2_ n3_ hb hbox hg; have hcz6_0 := z3c BK133.out 0 (v := (.int .i64 a0_0)) rfl; have hcz6_1 := z3c BK133.out 1 (v := (.int .i64 a0_1)) rfl; have hcz6_2 := z3c BK133.out 2 (v := (.string a0_2)) rfl; have hfz6_0 := z3f BK133.out 0; have hfz6_1 := z3f BK133.out 1; have hfz6_2 := z3f BK133.out 2)); go_ret; exact ⟨c3_1, by repeat (first | (with_reducible first | exact HB.out | apply below_alloc | apply pw_below_drewN | apply below_drew1 | refine below_set ?_ GE133.out) | exact HB.out)⟩

/-! ### impl_argsFor: function 69 -/
def impl_argsFor.j0 : Nat → Int → Bool → Option (Int × Int)
  | 0, _, _ => none
  | k + 1, x0, x4 => if x4 = true then (some (2, 2)) else (if x0 = 14 then (some (0, 3)) else (some (1, 1)))
def impl_argsFor.f (k : Nat) (a0 : Int) : Option (Int × Int) := if a0 ≤ 7 then (impl_argsFor.j0 k a0 true) else (impl_argsFor.j0 k a0 (a0 == 12))
theorem impl_argsFor.mono_l : ∀ k, (∀ y0 y1, LeO (impl_argsFor.j0 k y0 y1) (impl_argsFor.j0 (k + 1) y0 y1))
  | 0 => fun _ _ r h => by simp [impl_argsFor.j0] at h
  | k + 1 => by
    have ih0 := impl_argsFor.mono_l k
    · intro y0 y1
      unfold impl_argsFor.j0
      repeat' first | (with_reducible first | apply ih0 | exact LeO.refl _ | exact LeO.none _ | refine LeO.ite ?_ ?_ | refine LeO.bind ?_ (fun _ => ?_)) | apply ih0 | exact LeO.none _ | refine LeO.ite ?_ ?_ | refine LeO.bind ?_ (fun _ => ?_)
theorem impl_argsFor.mono : ∀ a0 k, LeO (impl_argsFor.f k a0) (impl_argsFor.f (k + 1) a0) := by
  intro a0 k; have ih0 := impl_argsFor.mono_l k; unfold impl_argsFor.f
  repeat' first | (with_reducible first | apply ih0 | exact LeO.refl _ | exact LeO.none _ | refine LeO.ite ?_ ?_ | refine LeO.bind ?_ (fun _ => ?_)) | apply ih0 | exact LeO.none _ | refine LeO.ite ?_ ?_ | refine LeO.bind ?_ (fun _ => ?_)
theorem impl_argsFor.calls (k : Nat) (a0 : Int) (r1 : Int) (r2 : Int) (w : World) (h : impl_argsFor.f k a0 = some (r1, r2)) :
    Calls Tryd.prog 69 #[.int .i64 a0] w fun e w' => e = .returned (.tuple #[.int .i64 r1, .int .i64 r2]) ∧ Drawn0 w w' := by
  have H := h; clear h; unfold impl_argsFor.f at H; have HC2 := ak H; clear H; go_enter Tryd.func69, Tryd.ntmps69; go_upto_region 1 with (fail); go_cut [4] (fun v4 wc => ∃ (kq : Nat) (x4_1 : Bool), v4 = .bool x4_1 ∧ Aside0 (impl_argsFor.j0 kq a0 x4_1 = some (r1, r2)) ∧ Aside0 (kq ≤ k) ∧ Drawn0 w wc)
  case first =>
   have H := HC2.out; clear HC2; by_cases c3 : a0 ≤ 7
   ·rw [if_pos c3] at H
    have c3b0 : decide (a0 ≤ 7) = true := decide_eq_true c3; clear c3
    (first | rw [c3b0] | (simp only [i64_w, i32_w]; rw [c3b0]) | skip)
    have H' := ak H; clear H; go_wp2; go_meet
    case rel => exact ⟨_, (true), d3_6, H', ⟨by first | omega | exact Nat.le_refl _⟩, c3_5⟩
   ·rw [if_neg c3] at H
    have c3b0 : decide (a0 ≤ 7) = false := decide_eq_false c3; clear c3
    (first | rw [c3b0] | (simp only [i64_w, i32_w]; rw [c3b0]) | skip)
    have H' := ak H; clear H; go_wp2; go_meet
    case rel => exact ⟨_, ((a0 == 12)), d3_6, H', ⟨by first | omega | exact Nat.le_refl _⟩, c3_5⟩
  case rest =>
   clear HC2; obtain ⟨kq, x4_1, rfl, HA, HJ1, ⟨mc1, rfl⟩⟩ := hcut
   cases kq with
   | zero => exact absurd HA.out (by simp [impl_argsFor.j0])
   | succ kj1 =>
    have H := HA.out; clear HA; simp only [impl_argsFor.j0] at H; by_cases c4 : x4_1 = true
    ·subst c4
     rw [if_pos rfl] at H; simp only [Option.some.injEq, Prod.mk.injEq] at H; obtain ⟨rfl, rfl⟩ := H; go_wp2; go_ret2; exact ⟨c3_4, c3_5⟩
    ·replace c4 := Bool.eq_false_iff.mpr c4
     subst c4; rw [if_neg (show ¬ (false = true) by decide)] at H; by_cases c5 : a0 = 14
     ·rw [if_pos c5] at H
      have c5b0 : (a0 == 14) = true := beq_iff_eq.mpr c5; have c5b1 : (a0 != 14) = false := bne_eq_false_iff_eq.mpr c5; clear c5; simp only [Option.some.injEq, Prod.mk.injEq] at H; obtain ⟨rfl, rfl⟩ := H; go_wp2; go_ret2; exact ⟨c3_4, c3_5⟩
     ·rw [if_neg c5] at H
      have c5b0 : (a0 == 14) = false := beq_eq_false_iff_ne.mpr c5; have c5b1 : (a0 != 14) = true := bne_iff_ne.mpr c5; simp only [Option.some.injEq, Prod.mk.injEq] at H; obtain ⟨rfl, rfl⟩ := H; go_wp2; go_ret2; exact ⟨c3_4, c3_5⟩

/-! ### impl_boolValue: function 108 -/
def impl_boolValue.f (a0 : Bool) : Option (Int × Int × ByteArray) := if a0 = true then (some (2, 1, (⟨#[]⟩ : ByteArray))) else (some (2, 0, (⟨#[]⟩ : ByteArray)))
theorem impl_boolValue.calls (a0 : Bool) (r1 : Int) (r2 : Int) (r3 : ByteArray) (w : World) (h : impl_boolValue.f a0 = some (r1, r2, r3)) :
    Calls Tryd.prog 108 #[.bool a0] w fun e w' => e = .returned (.agg #[.int .i64 r1, .int .i64 r2, .string r3]) ∧ Below w.heap.size w w' := by
  have hu28 := Tryd.underlying28; have HB := ak (Below.refl w.heap.size w); have H := h; clear h; unfold impl_boolValue.f at H; by_cases c2 : a0 = true
  ·subst c2
   rw [if_pos rfl] at H; simp only [Option.some.injEq, Prod.mk.injEq] at H; obtain ⟨rfl, rfl, rfl⟩ := H; go_enter Tryd.func108, Tryd.ntmps108; go_wp2_with (first | ((with_reducible refine gate_dst (N := 2) rfl ?_); refine box_event ?hg (N := 2) ?hd (cs := #[.int .i64 0, .int .i64 0, .string (⟨#[]⟩ : ByteArray)]) (t := 28) ?hr ?_; (case hd => rfl); (case hg => rfl); (case hr => exact c3_6); intro gb134 hg w3 hbox hb; have n0_ := ak (below_step d3_1 hb); have n1_ := ak (hbox); have n2_ := ak ((d3_9 : w.heap.size ≤ gb134)); have n3_ := ak ((d3_9 : w.heap.size ≤ gb134)); clear HB; have HB := n0_; have BK134 := n1_; have GW134 := n2_; have GE134 := n3_; clear n0_ n1_ n2_ n3_ hb hbox hg; have hcz4_0 := z3c BK134.out 0 (v := (.int .i64 0)) rfl; have hcz4_1 := z3c BK134.out 1 (v := (.int .i64 0)) rfl; have hcz4_2 := z3c BK134.out 2 (v := (.string (⟨#[]⟩ : ByteArray))) rfl; have hfz4_0 := z3f BK134.out 0; have hfz4_1 := z3f BK134.out 1; have hfz4_2 := z3f BK134.out 2))
   refine bodyPost_ret (results_cell_row rfl _ _ gb134 28 #[.int .i64 2, .int .i64 1, .string (⟨#[]⟩ : ByteArray)] (0, 0) _ rfl (by (with_reducible repeat first | apply b3N | apply b3D | apply b3L); refine blk_put (cs := #[.int .i64 2, .int .i64 1, .string (⟨#[]⟩ : ByteArray)]) ?_ 2 _ rfl; (with_reducible repeat first | apply b3N | apply b3D | apply b3L); refine blk_put (cs := #[.int .i64 2, .int .i64 0, .string (⟨#[]⟩ : ByteArray)]) ?_ 1 _ rfl; (with_reducible repeat first | apply b3N | apply b3D | apply b3L); refine blk_put (cs := #[.int .i64 0, .int .i64 0, .string (⟨#[]⟩ : ByteArray)]) ?_ 0 _ rfl; (with_reducible repeat first | apply b3N | apply b3D | apply b3L); exact BK134.out) Tryd.underlying28 rfl (by kernel_rfl)) rfl ?_; exact ⟨c3_1, by repeat (first | (with_reducible first | exact HB.out | apply below_alloc | apply pw_below_drewN | apply below_drew1 | refine below_set ?_ GE134.out) | exact HB.out)⟩
  ·replace c2 := Bool.eq_false_iff.mpr c2
   subst c2; rw [if_neg (show ¬ (false = true) by decide)] at H; simp only [Option.some.injEq, Prod.mk.injEq] at H; obtain ⟨rfl, rfl, rfl⟩ := H; go_enter Tryd.func108, Tryd.ntmps108; go_wp2_with (first | ((with_reducible refine gate_dst (N := 2) rfl ?_); refine box_event ?hg (N := 2) ?hd (cs := #[.int .i64 0, .int .i64 0, .string (⟨#[]⟩ : ByteArray)]) (t := 28) ?hr ?_; (case hd => rfl); (case hg => rfl); (case hr => exact c3_6); intro gb134 hg w5 hbox hb; have n0_ := ak (below_step d3_1 hb); have n1_ := ak (hbox); have n2_ := ak ((d3_9 : w.heap.size ≤ gb134)); have n3_ := ak ((d3_9 : w.heap.size ≤ gb134)); clear HB; have HB := n0_; have BK134 := n1_; have GW134 := n2_; have GE134 := n3_; clear n0_ n1_ n2_ n3_ hb hbox hg; have hcz6_0 := z3c BK134.out 0 (v := (.int .i64 0)) rfl; have hcz6_1 := z3c BK134.out 1 (v := (.int .i64 0)) rfl; have hcz6_2 := z3c BK134.out 2 (v := (.string (⟨#[]⟩ : ByteArray))) rfl; have hfz6_0 := z3f BK134.out 0; have hfz6_1 := z3f BK134.out 1; have hfz6_2 := z3f BK134.out 2))
   refine bodyPost_ret (results_cell_row rfl _ _ gb134 28 #[.int .i64 2, .int .i64 0, .string (⟨#[]⟩ : ByteArray)] (0, 0) _ rfl (by (with_reducible repeat first | apply b3N | apply b3D | apply b3L); refine blk_put (cs := #[.int .i64 2, .int .i64 0, .string (⟨#[]⟩ : ByteArray)]) ?_ 2 _ rfl; (with_reducible repeat first | apply b3N | apply b3D | apply b3L); refine blk_put (cs := #[.int .i64 2, .int .i64 0, .string (⟨#[]⟩ : ByteArray)]) ?_ 1 _ rfl; (with_reducible repeat first | apply b3N | apply b3D | apply b3L); refine blk_put (cs := #[.int .i64 0, .int .i64 0, .string (⟨#[]⟩ : ByteArray)]) ?_ 0 _ rfl; (with_reducible repeat first | apply b3N | apply b3D | apply b3L); exact BK134.out) Tryd.underlying28 rfl (by kernel_rfl)) rfl ?_; exact ⟨c3_1, by repeat (first | (with_reducible first | exact HB.out | apply below_alloc | apply pw_below_drewN | apply below_drew1 | refine below_set ?_ GE134.out) | exact HB.out)⟩

/-! ### impl_AddNum_1: function 158 -/
def impl_AddNum_1.f (a0 : Int) (a1 : Int) : Option (Int × Bool) := some (wrap64 (a0 + a1), true)
theorem impl_AddNum_1.calls (a0 : Int) (a1 : Int) (r1 : Int) (r2 : Bool) (w : World) (h : impl_AddNum_1.f a0 a1 = some (r1, r2)) :
    Calls Tryd.prog 158 #[.int .i64 a0, .int .i64 a1] w fun e w' => e = .returned (.tuple #[.int .i64 r1, .bool r2]) ∧ Drawn0 w w' := by
  have H := h; clear h; unfold impl_AddNum_1.f at H; simp only [Option.some.injEq, Prod.mk.injEq] at H; obtain ⟨rfl, rfl⟩ := H; go_enter Tryd.func158, Tryd.ntmps158; go_wp2; go_ret2; exact ⟨c3_4, c3_5⟩

/-! ### impl_calculated__impl_AddNum_1: function 157 -/
def impl_calculated__impl_AddNum_1.j0 : Nat → Int → Int → Bool → Option (Int × Int)
  | 0, _, _, _ => none
  | k + 1, x0, x1, x16 => if x16 = true then (some (3, 0)) else ((impl_AddNum_1.f x0 x1).bind fun bt142 => (if bt142.2 = true then ((impl_NumFault.f bt142.1).bind fun t144 => (if t144 = 0 then (some (0, bt142.1)) else (some (7, 0)))) else (some (7, 0))))
def impl_calculated__impl_AddNum_1.f (k : Nat) (a0 : Int) (a1 : Int)  : Option (Int × Int) := (impl_NumFault.f a0).bind fun t140 => (if t140 = 0 then ((impl_NumFault.f a1).bind fun t141 => (impl_calculated__impl_AddNum_1.j0 k a0 a1 (t141 != 0))) else (impl_calculated__impl_AddNum_1.j0 k a0 a1 true))
theorem impl_calculated__impl_AddNum_1.mono_l : ∀ k, (∀ y0 y1 y2, LeO (impl_calculated__impl_AddNum_1.j0 k y0 y1 y2) (impl_calculated__impl_AddNum_1.j0 (k + 1) y0 y1 y2))
  | 0 => fun _ _ _ r h => by simp [impl_calculated__impl_AddNum_1.j0] at h
  | k + 1 => by
    have ih0 := impl_calculated__impl_AddNum_1.mono_l k
    · intro y0 y1 y2
      unfold impl_calculated__impl_AddNum_1.j0
      repeat' first | (with_reducible first | apply ih0 | exact LeO.refl _ | exact LeO.none _ | refine LeO.ite ?_ ?_ | refine LeO.bind ?_ (fun _ => ?_)) | apply ih0 | exact LeO.none _ | refine LeO.ite ?_ ?_ | refine LeO.bind ?_ (fun _ => ?_)
theorem impl_calculated__impl_AddNum_1.mono : ∀ a0 a1 k, LeO (impl_calculated__impl_AddNum_1.f k a0 a1) (impl_calculated__impl_AddNum_1.f (k + 1) a0 a1) := by
  intro a0 a1 k; have ih0 := impl_calculated__impl_AddNum_1.mono_l k; unfold impl_calculated__impl_AddNum_1.f
  repeat' first | (with_reducible first | apply ih0 | exact LeO.refl _ | exact LeO.none _ | refine LeO.ite ?_ ?_ | refine LeO.bind ?_ (fun _ => ?_)) | apply ih0 | exact LeO.none _ | refine LeO.ite ?_ ?_ | refine LeO.bind ?_ (fun _ => ?_)
theorem impl_calculated__impl_AddNum_1.calls (k : Nat) (a0 : Int) (a1 : Int)  (r1 : Int) (r2 : Int) (w : World) (h : impl_calculated__impl_AddNum_1.f k a0 a1 = some (r1, r2)) :
    Calls Tryd.prog 157 #[.int .i64 a0, .int .i64 a1, .func (.func 158) #[] #[]] w fun e w' => e = .returned (.agg #[.int .i64 r1, .int .i64 r2]) ∧ Below w.heap.size w w' := by
  have hu46 := Tryd.underlying46; have HB := ak (Below.refl w.heap.size w); have H := h; clear h; unfold impl_calculated__impl_AddNum_1.f at H; have HC4 := ak H; clear H; go_enter Tryd.func157, Tryd.ntmps157; go_upto_region 1 with (first | ((with_reducible refine gate_dst (N := 6) rfl ?_); refine box_event ?hg (N := 6) ?hd (cs := #[.int .i64 0, .int .i64 0]) (t := 46) ?hr ?_; (case hd => rfl); (case hg => rfl); (case hr => exact c3_6); intro gb139 hg w5 hbox hb; have n0_ := ak (below_step d3_1 hb); have n1_ := ak (hbox); have n2_ := ak ((d3_9 : w.heap.size ≤ gb139)); have n3_ := ak ((d3_9 : w.heap.size ≤ gb139)); clear HB; have HB := n0_; have BK139 := n1_; have GW139 := n2_; have GE139 := n3_; clear n0_ n1_ n2_ n3_ hb hbox hg))
  (try simp only [Act.put, List.setIfInBounds_toArray, List.set_cons_zero, List.set_cons_succ])
  go_cut [16] (fun v16 wc => ∃ (kq : Nat) (x16_3 : Bool), v16 = .bool x16_3 ∧ Aside0 (impl_calculated__impl_AddNum_1.j0 kq a0 a1 x16_3 = some (r1, r2)) ∧ Aside0 (kq ≤ k) ∧ Aside0 (wc.heap[gb139]? = some (.cells #[.int .i64 0, .int .i64 0] 46 (0, 0))) ∧ Aside0 (Below w.heap.size w wc))
  case first =>
   have H := HC4.out; clear HC4; replace H := Option.bind_eq_some_iff.mp H; obtain ⟨t140, A60, H⟩ := H; (try dsimp -simprocs only at H); have A6 := ak A60; clear A60; by_cases c7 : t140 = 0
   ·rw [if_pos c7] at H
    have c7b0 : (t140 == 0) = true := beq_iff_eq.mpr c7; have c7b1 : (t140 != 0) = false := bne_eq_false_iff_eq.mpr c7; clear c7
    (first | rw [c7b0] | (simp only [i64_w, i32_w]; rw [c7b0]) | skip)
    replace H := Option.bind_eq_some_iff.mp H; obtain ⟨t141, A80, H⟩ := H; (try dsimp -simprocs only at H); have A8 := ak A80; clear A80; have H' := ak H; clear H; go_wp2_with (first | ((with_reducible refine gate_callee (f := 111) rfl ?_); refine goesL_ (some 10) rfl rfl Tryd.func111 (by kernel_rfl) rfl #[.int .i64 a0] rfl d3_2 ?_; (with_reducible refine (impl_NumFault.calls a0 t140 _ A6.out).mono ?_); rintro e w' ⟨rfl, ⟨nd, rfl⟩⟩; refine ⟨_, rfl, ?_⟩) | (go_at_call 111; (with_reducible refine (impl_NumFault.calls a1 t141 _ A8.out).mono ?_); rintro e w' ⟨rfl, ⟨nd, rfl⟩⟩)); go_meet
    case rel => exact ⟨_, ((t141 != 0)), d3_6, H', ⟨by first | omega | exact Nat.le_refl _⟩, ⟨by (with_reducible repeat first | apply b3N | apply b3D | apply b3L); exact BK139.out⟩, ⟨c3_2⟩⟩
   ·rw [if_neg c7] at H
    have c7b0 : (t140 == 0) = false := beq_eq_false_iff_ne.mpr c7; have c7b1 : (t140 != 0) = true := bne_iff_ne.mpr c7
    (first | rw [c7b0] | (simp only [i64_w, i32_w]; rw [c7b0]) | skip)
    have H' := ak H; clear H; go_wp2_with (first | ((with_reducible refine gate_callee (f := 111) rfl ?_); refine goesL_ (some 10) rfl rfl Tryd.func111 (by kernel_rfl) rfl #[.int .i64 a0] rfl d3_2 ?_; (with_reducible refine (impl_NumFault.calls a0 t140 _ A6.out).mono ?_); rintro e w' ⟨rfl, ⟨nd, rfl⟩⟩; refine ⟨_, rfl, ?_⟩)); go_meet
    case rel => exact ⟨_, (true), d3_6, H', ⟨by first | omega | exact Nat.le_refl _⟩, ⟨by (with_reducible repeat first | apply b3N | apply b3D | apply b3L); exact BK139.out⟩, ⟨c3_2⟩⟩
  case rest =>
   clear HC4
   try clear c1
   obtain ⟨kq, x16_3, rfl, HA, HJ3, BK139, HB⟩ := hcut
   cases kq with
   | zero => exact absurd HA.out (by simp [impl_calculated__impl_AddNum_1.j0])
   | succ kj3 =>
    have H := HA.out; clear HA; simp only [impl_calculated__impl_AddNum_1.j0] at H; by_cases c9 : x16_3 = true
    ·subst c9
     rw [if_pos rfl] at H; simp only [Option.some.injEq, Prod.mk.injEq] at H; obtain ⟨rfl, rfl⟩ := H; have hcz10_0 := z3c BK139.out 0 (v := (.int .i64 0)) rfl; have hcz10_1 := z3c BK139.out 1 (v := (.int .i64 0)) rfl; have hfz10_0 := z3f BK139.out 0; have hfz10_1 := z3f BK139.out 1; go_wp2; refine bodyPost_ret (results_cell_row rfl _ _ gb139 46 #[.int .i64 3, .int .i64 0] (0, 0) _ rfl (by (with_reducible repeat first | apply b3N | apply b3D | apply b3L); refine blk_put (cs := #[.int .i64 3, .int .i64 0]) ?_ 1 _ rfl; (with_reducible repeat first | apply b3N | apply b3D | apply b3L); refine blk_put (cs := #[.int .i64 0, .int .i64 0]) ?_ 0 _ rfl; (with_reducible repeat first | apply b3N | apply b3D | apply b3L); exact BK139.out) Tryd.underlying46 rfl (by kernel_rfl)) rfl ?_; exact ⟨c3_1, c3_2⟩
    ·replace c9 := Bool.eq_false_iff.mpr c9
     subst c9; rw [if_neg (show ¬ (false = true) by decide)] at H; replace H := Option.bind_eq_some_iff.mp H; obtain ⟨⟨t142, t143⟩, A110, H⟩ := H; (try dsimp -simprocs only at H); have A11 := ak A110; clear A110; by_cases c12 : t143 = true
     ·subst c12
      rw [if_pos rfl] at H; replace H := Option.bind_eq_some_iff.mp H; obtain ⟨t144, A130, H⟩ := H; (try dsimp -simprocs only at H); have A13 := ak A130; clear A130; by_cases c14 : t144 = 0
      ·rw [if_pos c14] at H
       have c14b0 : (t144 == 0) = true := beq_iff_eq.mpr c14; have c14b1 : (t144 != 0) = false := bne_eq_false_iff_eq.mpr c14; clear c14; simp only [Option.some.injEq, Prod.mk.injEq] at H; obtain ⟨rfl, rfl⟩ := H; go_wp2_with (first | (go_at_call 158; (with_reducible refine (impl_AddNum_1.calls a0 a1 t142 true _ A11.out).mono ?_); rintro e w' ⟨rfl, ⟨nd, rfl⟩⟩; (try (rw [drewN_self wc]; generalize hq_ : World.drewN wc _ = wc; have n0_ : Aside0 (wc.heap[gb139]? = some (.cells #[.int .i64 0, .int .i64 0] 46 (0, 0))) := ⟨by rw [← hq_]; exact d3_7⟩; have n1_ : Aside0 (Below w.heap.size w wc) := ⟨by rw [← hq_]; exact d3_4⟩; clear BK139 HB hq_; have BK139 := n0_; have HB := n1_; clear n0_ n1_))) | (go_at_call 111; (with_reducible refine (impl_NumFault.calls t142 t144 _ A13.out).mono ?_); rintro e w' ⟨rfl, ⟨nd, rfl⟩⟩; (try (rw [drewN_self wc]; generalize hq_ : World.drewN wc _ = wc; have n0_ : Aside0 (wc.heap[gb139]? = some (.cells #[.int .i64 0, .int .i64 0] 46 (0, 0))) := ⟨by rw [← hq_]; exact d3_7⟩; have n1_ : Aside0 (Below w.heap.size w wc) := ⟨by rw [← hq_]; exact d3_4⟩; clear BK139 HB hq_; have BK139 := n0_; have HB := n1_; clear n0_ n1_)); have hcz15_0 := z3c BK139.out 0 (v := (.int .i64 0)) rfl; have hcz15_1 := z3c BK139.out 1 (v := (.int .i64 0)) rfl; have hfz15_0 := z3f BK139.out 0; have hfz15_1 := z3f BK139.out 1))
       refine bodyPost_ret (results_cell_row rfl _ _ gb139 46 #[.int .i64 0, .int .i64 t142] (0, 0) _ rfl (by (with_reducible repeat first | apply b3N | apply b3D | apply b3L); refine blk_put (cs := #[.int .i64 0, .int .i64 0]) ?_ 1 _ rfl; (with_reducible repeat first | apply b3N | apply b3D | apply b3L); refine blk_put (cs := #[.int .i64 0, .int .i64 0]) ?_ 0 _ rfl; (with_reducible repeat first | apply b3N | apply b3D | apply b3L); exact BK139.out) Tryd.underlying46 rfl (by kernel_rfl)) rfl ?_; exact ⟨c3_1, c3_2⟩
      ·rw [if_neg c14] at H
       have c14b0 : (t144 == 0) = false := beq_eq_false_iff_ne.mpr c14; have c14b1 : (t144 != 0) = true := bne_iff_ne.mpr c14; simp only [Option.some.injEq, Prod.mk.injEq] at H; obtain ⟨rfl, rfl⟩ := H; go_wp2_with (first | (go_at_call 158; (with_reducible refine (impl_AddNum_1.calls a0 a1 t142 true _ A11.out).mono ?_); rintro e w' ⟨rfl, ⟨nd, rfl⟩⟩; (try (rw [drewN_self wc]; generalize hq_ : World.drewN wc _ = wc; have n0_ : Aside0 (wc.heap[gb139]? = some (.cells #[.int .i64 0, .int .i64 0] 46 (0, 0))) := ⟨by rw [← hq_]; exact d3_7⟩; have n1_ : Aside0 (Below w.heap.size w wc) := ⟨by rw [← hq_]; exact d3_4⟩; clear BK139 HB hq_; have BK139 := n0_; have HB := n1_; clear n0_ n1_))) | (go_at_call 111; (with_reducible refine (impl_NumFault.calls t142 t144 _ A13.out).mono ?_); rintro e w' ⟨rfl, ⟨nd, rfl⟩⟩; (try (rw [drewN_self wc]; generalize hq_ : World.drewN wc _ = wc; have n0_ : Aside0 (wc.heap[gb139]? = some (.cells #[.int .i64 0, .int .i64 0] 46 (0, 0))) := ⟨by rw [← hq_]; exact d3_7⟩; have n1_ : Aside0 (Below w.heap.size w wc) := ⟨by rw [← hq_]; exact d3_4⟩; clear BK139 HB hq_; have BK139 := n0_; have HB := n1_; clear n0_ n1_)); have hcz16_0 := z3c BK139.out 0 (v := (.int .i64 0)) rfl; have hcz16_1 := z3c BK139.out 1 (v := (.int .i64 0)) rfl; have hfz16_0 := z3f BK139.out 0; have hfz16_1 := z3f BK139.out 1))
       refine bodyPost_ret (results_cell_row rfl _ _ gb139 46 #[.int .i64 7, .int .i64 0] (0, 0) _ rfl (by (with_reducible repeat first | apply b3N | apply b3D | apply b3L); refine blk_put (cs := #[.int .i64 7, .int .i64 0]) ?_ 1 _ rfl; (with_reducible repeat first | apply b3N | apply b3D | apply b3L); refine blk_put (cs := #[.int .i64 0, .int .i64 0]) ?_ 0 _ rfl; (with_reducible repeat first | apply b3N | apply b3D | apply b3L); exact BK139.out) Tryd.underlying46 rfl (by kernel_rfl)) rfl ?_; exact ⟨c3_1, c3_2⟩
     ·replace c12 := Bool.eq_false_iff.mpr c12
      subst c12; rw [if_neg (show ¬ (false = true) by decide)] at H; simp only [Option.some.injEq, Prod.mk.injEq] at H; obtain ⟨rfl, rfl⟩ := H; go_wp2_with (first | (go_at_call 158; (with_reducible refine (impl_AddNum_1.calls a0 a1 t142 false _ A11.out).mono ?_); rintro e w' ⟨rfl, ⟨nd, rfl⟩⟩; (try (rw [drewN_self wc]; generalize hq_ : World.drewN wc _ = wc; have n0_ : Aside0 (wc.heap[gb139]? = some (.cells #[.int .i64 0, .int .i64 0] 46 (0, 0))) := ⟨by rw [← hq_]; exact d3_7⟩; have n1_ : Aside0 (Below w.heap.size w wc) := ⟨by rw [← hq_]; exact d3_4⟩; clear BK139 HB hq_; have BK139 := n0_; have HB := n1_; clear n0_ n1_)); have hcz17_0 := z3c BK139.out 0 (v := (.int .i64 0)) rfl; have hcz17_1 := z3c BK139.out 1 (v := (.int .i64 0)) rfl; have hfz17_0 := z3f BK139.out 0; have hfz17_1 := z3f BK139.out 1)); refine bodyPost_ret (results_cell_row rfl _ _ gb139 46 #[.int .i64 7, .int .i64 0] (0, 0) _ rfl (by (with_reducible repeat first | apply b3N | apply b3D | apply b3L); refine blk_put (cs := #[.int .i64 7, .int .i64 0]) ?_ 1 _ rfl; (with_reducible repeat first | apply b3N | apply b3D | apply b3L); refine blk_put (cs := #[.int .i64 0, .int .i64 0]) ?_ 0 _ rfl; (with_reducible repeat first | apply b3N | apply b3D | apply b3L); exact BK139.out) Tryd.underlying46 rfl (by kernel_rfl)) rfl ?_; exact ⟨c3_1, c3_2⟩

/-! ### impl_AddNum: function 133 -/
def impl_AddNum.f (k : Nat) (a0 : Int) (a1 : Int) : Option (Int × Int) := (impl_calculated__impl_AddNum_1.f k a0 a1).bind fun bt146 => (some (bt146.1, bt146.2))
theorem impl_AddNum.mono : ∀ a0 a1 k, LeO (impl_AddNum.f k a0 a1) (impl_AddNum.f (k + 1) a0 a1) := by
  intro a0 a1 k; unfold impl_AddNum.f
  repeat' first | (with_reducible first | apply impl_calculated__impl_AddNum_1.mono | exact LeO.refl _ | exact LeO.none _ | refine LeO.ite ?_ ?_ | refine LeO.bind ?_ (fun _ => ?_)) | apply impl_calculated__impl_AddNum_1.mono | exact LeO.none _ | refine LeO.ite ?_ ?_ | refine LeO.bind ?_ (fun _ => ?_)
theorem impl_AddNum.calls (k : Nat) (a0 : Int) (a1 : Int) (r1 : Int) (r2 : Int) (w : World) (h : impl_AddNum.f k a0 a1 = some (r1, r2)) :
    Calls Tryd.prog 133 #[.int .i64 a0, .int .i64 a1] w fun e w' => e = .returned (.agg #[.int .i64 r1, .int .i64 r2]) ∧ Below w.heap.size w w' := by
  have hu46 := Tryd.underlying46; have HB := ak (Below.refl w.heap.size w); have H := h; clear h; unfold impl_AddNum.f at H; replace H := Option.bind_eq_some_iff.mp H; obtain ⟨⟨t146, t147⟩, A30, H⟩ := H; (try dsimp -simprocs only at H); have A3 := ak A30; clear A30; simp only [Option.some.injEq, Prod.mk.injEq] at H; obtain ⟨rfl, rfl⟩ := H; go_enter Tryd.func133, Tryd.ntmps133
  go_wp2_with (first | ((with_reducible refine gate_dst (N := 4) rfl ?_); refine box_event ?hg (N := 4) ?hd (cs := #[.int .i64 0, .int .i64 0]) (t := 46) ?hr ?_; (case hd => rfl); (case hg => rfl); (case hr => exact c3_6); intro gb145 hg w4 hbox hb; have n0_ := ak (below_step d3_1 hb); have n1_ := ak (hbox); have n2_ := ak ((d3_9 : w.heap.size ≤ gb145)); have n3_ := ak ((d3_9 : w.heap.size ≤ gb145)); clear HB; have HB := n0_; have BK145 := n1_; have GW145 := n2_; have GE145 := n3_; clear n0_ n1_ n2_ n3_ hb hbox hg) | (go_at_call 157; (with_reducible refine (impl_calculated__impl_AddNum_1.calls k a0 a1  t146 t147 _ A3.out).mono ?_); rintro e w5 ⟨rfl, hb⟩; have n0_ := ak (blk_below (g := gb145) (o := .cells #[.int .i64 0, .int .i64 0] 46 (0, 0)) (by (with_reducible repeat first | apply b3N | apply b3D | apply b3L); exact BK145.out) hb); have n1_ := ak (below_step (by repeat (first | (with_reducible first | exact HB.out | apply below_alloc | apply pw_below_drewN | apply below_drew1 | refine below_set ?_ GE145.out) | exact HB.out)) hb); clear BK145 HB; have BK145 := n0_; have HB := n1_; clear n0_ n1_; (try clear hb); have hcz6_0 := z3c BK145.out 0 (v := (.int .i64 0)) rfl; have hcz6_1 := z3c BK145.out 1 (v := (.int .i64 0)) rfl; have hfz6_0 := z3f BK145.out 0; have hfz6_1 := z3f BK145.out 1))
  refine bodyPost_ret (results_cell_row rfl _ _ gb145 46 #[.int .i64 t146, .int .i64 t147] (0, 0) _ rfl (by (with_reducible repeat first | apply b3N | apply b3D | apply b3L); refine blk_put (cs := #[.int .i64 t146, .int .i64 0]) ?_ 1 _ rfl; (with_reducible repeat first | apply b3N | apply b3D | apply b3L); refine blk_put (cs := #[.int .i64 0, .int .i64 0]) ?_ 0 _ rfl; (with_reducible repeat first | apply b3N | apply b3D | apply b3L); exact BK145.out) Tryd.underlying46 rfl (by kernel_rfl)) rfl ?_; exact ⟨c3_1, by repeat (first | (with_reducible first | exact HB.out | apply below_alloc | apply pw_below_drewN | apply below_drew1 | refine below_set ?_ GE145.out) | exact HB.out)⟩

/-! ### impl_SubNum_1: function 159 -/
def impl_SubNum_1.f (a0 : Int) (a1 : Int) : Option (Int × Bool) := some (wrap64 (a0 - a1), true)
theorem impl_SubNum_1.calls (a0 : Int) (a1 : Int) (r1 : Int) (r2 : Bool) (w : World) (h : impl_SubNum_1.f a0 a1 = some (r1, r2)) :
    Calls Tryd.prog 159 #[.int .i64 a0, .int .i64 a1] w fun e w' => e = .returned (.tuple #[.int .i64 r1, .bool r2]) ∧ Drawn0 w w' := by
  have H := h; clear h; unfold impl_SubNum_1.f at H; simp only [Option.some.injEq, Prod.mk.injEq] at H; obtain ⟨rfl, rfl⟩ := H; go_enter Tryd.func159, Tryd.ntmps159; go_wp2; go_ret2; exact ⟨c3_4, c3_5⟩

/-! ### impl_calculated__impl_SubNum_1: function 157 -/
def impl_calculated__impl_SubNum_1.j0 : Nat → Int → Int → Bool → Option (Int × Int)
  | 0, _, _, _ => none
  | k + 1, x0, x1, x16 => if x16 = true then (some (3, 0)) else ((impl_SubNum_1.f x0 x1).bind fun bt155 => (if bt155.2 = true then ((impl_NumFault.f bt155.1).bind fun t157 => (if t157 = 0 then (some (0, bt155.1)) else (some (7, 0)))) else (some (7, 0))))
def impl_calculated__impl_SubNum_1.f (k : Nat) (a0 : Int) (a1 : Int)  : Option (Int × Int) := (impl_NumFault.f a0).bind fun t153 => (if t153 = 0 then ((impl_NumFault.f a1).bind fun t154 => (impl_calculated__impl_SubNum_1.j0 k a0 a1 (t154 != 0))) else (impl_calculated__impl_SubNum_1.j0 k a0 a1 true))
theorem impl_calculated__impl_SubNum_1.mono_l : ∀ k, (∀ y0 y1 y2, LeO (impl_calculated__impl_SubNum_1.j0 k y0 y1 y2) (impl_calculated__impl_SubNum_1.j0 (k + 1) y0 y1 y2))
  | 0 => fun _ _ _ r h => by simp [impl_calculated__impl_SubNum_1.j0] at h
  | k + 1 => by
    have ih0 := impl_calculated__impl_SubNum_1.mono_l k
    · intro y0 y1 y2
      unfold impl_calculated__impl_SubNum_1.j0
      repeat' first | (with_reducible first | apply ih0 | exact LeO.refl _ | exact LeO.none _ | refine LeO.ite ?_ ?_ | refine LeO.bind ?_ (fun _ => ?_)) | apply ih0 | exact LeO.none _ | refine LeO.ite ?_ ?_ | refine LeO.bind ?_ (fun _ => ?_)
theorem impl_calculated__impl_SubNum_1.mono : ∀ a0 a1 k, LeO (impl_calculated__impl_SubNum_1.f k a0 a1) (impl_calculated__impl_SubNum_1.f (k + 1) a0 a1) := by
  intro a0 a1 k; have ih0 := impl_calculated__impl_SubNum_1.mono_l k; unfold impl_calculated__impl_SubNum_1.f
  repeat' first | (with_reducible first | apply ih0 | exact LeO.refl _ | exact LeO.none _ | refine LeO.ite ?_ ?_ | refine LeO.bind ?_ (fun _ => ?_)) | apply ih0 | exact LeO.none _ | refine LeO.ite ?_ ?_ | refine LeO.bind ?_ (fun _ => ?_)
theorem impl_calculated__impl_SubNum_1.calls (k : Nat) (a0 : Int) (a1 : Int)  (r1 : Int) (r2 : Int) (w : World) (h : impl_calculated__impl_SubNum_1.f k a0 a1 = some (r1, r2)) :
    Calls Tryd.prog 157 #[.int .i64 a0, .int .i64 a1, .func (.func 159) #[] #[]] w fun e w' => e = .returned (.agg #[.int .i64 r1, .int .i64 r2]) ∧ Below w.heap.size w w' := by
  have hu46 := Tryd.underlying46; have HB := ak (Below.refl w.heap.size w); have H := h; clear h; unfold impl_calculated__impl_SubNum_1.f at H; have HC4 := ak H; clear H; go_enter Tryd.func157, Tryd.ntmps157; go_upto_region 1 with (first | ((with_reducible refine gate_dst (N := 6) rfl ?_); refine box_event ?hg (N := 6) ?hd (cs := #[.int .i64 0, .int .i64 0]) (t := 46) ?hr ?_; (case hd => rfl); (case hg => rfl); (case hr => exact c3_6); intro gb152 hg w5 hbox hb; have n0_ := ak (below_step d3_1 hb); have n1_ := ak (hbox); have n2_ := ak ((d3_9 : w.heap.size ≤ gb152)); have n3_ := ak ((d3_9 : w.heap.size ≤ gb152)); clear HB; have HB := n0_; have BK152 := n1_; have GW152 := n2_; have GE152 := n3_; clear n0_ n1_ n2_ n3_ hb hbox hg))
  (try simp only [Act.put, List.setIfInBounds_toArray, List.set_cons_zero, List.set_cons_succ])
  go_cut [16] (fun v16 wc => ∃ (kq : Nat) (x16_3 : Bool), v16 = .bool x16_3 ∧ Aside0 (impl_calculated__impl_SubNum_1.j0 kq a0 a1 x16_3 = some (r1, r2)) ∧ Aside0 (kq ≤ k) ∧ Aside0 (wc.heap[gb152]? = some (.cells #[.int .i64 0, .int .i64 0] 46 (0, 0))) ∧ Aside0 (Below w.heap.size w wc))
  case first =>
   have H := HC4.out; clear HC4; replace H := Option.bind_eq_some_iff.mp H; obtain ⟨t153, A60, H⟩ := H; (try dsimp -simprocs only at H); have A6 := ak A60; clear A60; by_cases c7 : t153 = 0
   ·rw [if_pos c7] at H
    have c7b0 : (t153 == 0) = true := beq_iff_eq.mpr c7; have c7b1 : (t153 != 0) = false := bne_eq_false_iff_eq.mpr c7; clear c7
    (first | rw [c7b0] | (simp only [i64_w, i32_w]; rw [c7b0]) | skip)
    replace H := Option.bind_eq_some_iff.mp H; obtain ⟨t154, A80, H⟩ := H; (try dsimp -simprocs only at H); have A8 := ak A80; clear A80; have H' := ak H; clear H; go_wp2_with (first | ((with_reducible refine gate_callee (f := 111) rfl ?_); refine goesL_ (some 10) rfl rfl Tryd.func111 (by kernel_rfl) rfl #[.int .i64 a0] rfl d3_2 ?_; (with_reducible refine (impl_NumFault.calls a0 t153 _ A6.out).mono ?_); rintro e w' ⟨rfl, ⟨nd, rfl⟩⟩; refine ⟨_, rfl, ?_⟩) | (go_at_call 111; (with_reducible refine (impl_NumFault.calls a1 t154 _ A8.out).mono ?_); rintro e w' ⟨rfl, ⟨nd, rfl⟩⟩)); go_meet
    case rel => exact ⟨_, ((t154 != 0)), d3_6, H', ⟨by first | omega | exact Nat.le_refl _⟩, ⟨by (with_reducible repeat first | apply b3N | apply b3D | apply b3L); exact BK152.out⟩, ⟨c3_3⟩⟩
   ·rw [if_neg c7] at H
    have c7b0 : (t153 == 0) = false := beq_eq_false_iff_ne.mpr c7; have c7b1 : (t153 != 0) = true := bne_iff_ne.mpr c7
    (first | rw [c7b0] | (simp only [i64_w, i32_w]; rw [c7b0]) | skip)
    have H' := ak H; clear H; go_wp2_with (first | ((with_reducible refine gate_callee (f := 111) rfl ?_); refine goesL_ (some 10) rfl rfl Tryd.func111 (by kernel_rfl) rfl #[.int .i64 a0] rfl d3_2 ?_; (with_reducible refine (impl_NumFault.calls a0 t153 _ A6.out).mono ?_); rintro e w' ⟨rfl, ⟨nd, rfl⟩⟩; refine ⟨_, rfl, ?_⟩)); go_meet
    case rel => exact ⟨_, (true), d3_6, H', ⟨by first | omega | exact Nat.le_refl _⟩, ⟨by (with_reducible repeat first | apply b3N | apply b3D | apply b3L); exact BK152.out⟩, ⟨c3_3⟩⟩
  case rest =>
   clear HC4
   try clear c1
   obtain ⟨kq, x16_3, rfl, HA, HJ3, BK152, HB⟩ := hcut
   cases kq with
   | zero => exact absurd HA.out (by simp [impl_calculated__impl_SubNum_1.j0])
   | succ kj3 =>
    have H := HA.out; clear HA; simp only [impl_calculated__impl_SubNum_1.j0] at H; by_cases c9 : x16_3 = true
    ·subst c9
     rw [if_pos rfl] at H; simp only [Option.some.injEq, Prod.mk.injEq] at H; obtain ⟨rfl, rfl⟩ := H; have hcz10_0 := z3c BK152.out 0 (v := (.int .i64 0)) rfl; have hcz10_1 := z3c BK152.out 1 (v := (.int .i64 0)) rfl; have hfz10_0 := z3f BK152.out 0; have hfz10_1 := z3f BK152.out 1; go_wp2; refine bodyPost_ret (results_cell_row rfl _ _ gb152 46 #[.int .i64 3, .int .i64 0] (0, 0) _ rfl (by (with_reducible repeat first | apply b3N | apply b3D | apply b3L); refine blk_put (cs := #[.int .i64 3, .int .i64 0]) ?_ 1 _ rfl; (with_reducible repeat first | apply b3N | apply b3D | apply b3L); refine blk_put (cs := #[.int .i64 0, .int .i64 0]) ?_ 0 _ rfl; (with_reducible repeat first | apply b3N | apply b3D | apply b3L); exact BK152.out) Tryd.underlying46 rfl (by kernel_rfl)) rfl ?_; exact ⟨c3_1, c3_3⟩
    ·replace c9 := Bool.eq_false_iff.mpr c9
     subst c9; rw [if_neg (show ¬ (false = true) by decide)] at H; replace H := Option.bind_eq_some_iff.mp H; obtain ⟨⟨t155, t156⟩, A110, H⟩ := H; (try dsimp -simprocs only at H); have A11 := ak A110; clear A110; by_cases c12 : t156 = true
     ·subst c12
      rw [if_pos rfl] at H; replace H := Option.bind_eq_some_iff.mp H; obtain ⟨t157, A130, H⟩ := H; (try dsimp -simprocs only at H); have A13 := ak A130; clear A130; by_cases c14 : t157 = 0
      ·rw [if_pos c14] at H
       have c14b0 : (t157 == 0) = true := beq_iff_eq.mpr c14; have c14b1 : (t157 != 0) = false := bne_eq_false_iff_eq.mpr c14; clear c14; simp only [Option.some.injEq, Prod.mk.injEq] at H; obtain ⟨rfl, rfl⟩ := H; go_wp2_with (first | (go_at_call 159; (with_reducible refine (impl_SubNum_1.calls a0 a1 t155 true _ A11.out).mono ?_); rintro e w' ⟨rfl, ⟨nd, rfl⟩⟩; (try (rw [drewN_self wc]; generalize hq_ : World.drewN wc _ = wc; have n0_ : Aside0 (wc.heap[gb152]? = some (.cells #[.int .i64 0, .int .i64 0] 46 (0, 0))) := ⟨by rw [← hq_]; exact d3_8⟩; have n1_ : Aside0 (Below w.heap.size w wc) := ⟨by rw [← hq_]; exact d3_5⟩; clear BK152 HB hq_; have BK152 := n0_; have HB := n1_; clear n0_ n1_))) | (go_at_call 111; (with_reducible refine (impl_NumFault.calls t155 t157 _ A13.out).mono ?_); rintro e w' ⟨rfl, ⟨nd, rfl⟩⟩; (try (rw [drewN_self wc]; generalize hq_ : World.drewN wc _ = wc; have n0_ : Aside0 (wc.heap[gb152]? = some (.cells #[.int .i64 0, .int .i64 0] 46 (0, 0))) := ⟨by rw [← hq_]; exact d3_8⟩; have n1_ : Aside0 (Below w.heap.size w wc) := ⟨by rw [← hq_]; exact d3_5⟩; clear BK152 HB hq_; have BK152 := n0_; have HB := n1_; clear n0_ n1_)); have hcz15_0 := z3c BK152.out 0 (v := (.int .i64 0)) rfl; have hcz15_1 := z3c BK152.out 1 (v := (.int .i64 0)) rfl; have hfz15_0 := z3f BK152.out 0; have hfz15_1 := z3f BK152.out 1))
       refine bodyPost_ret (results_cell_row rfl _ _ gb152 46 #[.int .i64 0, .int .i64 t155] (0, 0) _ rfl (by (with_reducible repeat first | apply b3N | apply b3D | apply b3L); refine blk_put (cs := #[.int .i64 0, .int .i64 0]) ?_ 1 _ rfl; (with_reducible repeat first | apply b3N | apply b3D | apply b3L); refine blk_put (cs := #[.int .i64 0, .int .i64 0]) ?_ 0 _ rfl; (with_reducible repeat first | apply b3N | apply b3D | apply b3L); exact BK152.out) Tryd.underlying46 rfl (by kernel_rfl)) rfl ?_; exact ⟨c3_1, c3_3⟩
      ·rw [if_neg c14] at H
       have c14b0 : (t157 == 0) = false := beq_eq_false_iff_ne.mpr c14; have c14b1 : (t157 != 0) = true := bne_iff_ne.mpr c14; simp only [Option.some.injEq, Prod.mk.injEq] at H; obtain ⟨rfl, rfl⟩ := H; go_wp2_with (first | (go_at_call 159; (with_reducible refine (impl_SubNum_1.calls a0 a1 t155 true _ A11.out).mono ?_); rintro e w' ⟨rfl, ⟨nd, rfl⟩⟩; (try (rw [drewN_self wc]; generalize hq_ : World.drewN wc _ = wc; have n0_ : Aside0 (wc.heap[gb152]? = some (.cells #[.int .i64 0, .int .i64 0] 46 (0, 0))) := ⟨by rw [← hq_]; exact d3_8⟩; have n1_ : Aside0 (Below w.heap.size w wc) := ⟨by rw [← hq_]; exact d3_5⟩; clear BK152 HB hq_; have BK152 := n0_; have HB := n1_; clear n0_ n1_))) | (go_at_call 111; (with_reducible refine (impl_NumFault.calls t155 t157 _ A13.out).mono ?_); rintro e w' ⟨rfl, ⟨nd, rfl⟩⟩; (try (rw [drewN_self wc]; generalize hq_ : World.drewN wc _ = wc; have n0_ : Aside0 (wc.heap[gb152]? = some (.cells #[.int .i64 0, .int .i64 0] 46 (0, 0))) := ⟨by rw [← hq_]; exact d3_8⟩; have n1_ : Aside0 (Below w.heap.size w wc) := ⟨by rw [← hq_]; exact d3_5⟩; clear BK152 HB hq_; have BK152 := n0_; have HB := n1_; clear n0_ n1_)); have hcz16_0 := z3c BK152.out 0 (v := (.int .i64 0)) rfl; have hcz16_1 := z3c BK152.out 1 (v := (.int .i64 0)) rfl; have hfz16_0 := z3f BK152.out 0; have hfz16_1 := z3f BK152.out 1))
       refine bodyPost_ret (results_cell_row rfl _ _ gb152 46 #[.int .i64 7, .int .i64 0] (0, 0) _ rfl (by (with_reducible repeat first | apply b3N | apply b3D | apply b3L); refine blk_put (cs := #[.int .i64 7, .int .i64 0]) ?_ 1 _ rfl; (with_reducible repeat first | apply b3N | apply b3D | apply b3L); refine blk_put (cs := #[.int .i64 0, .int .i64 0]) ?_ 0 _ rfl; (with_reducible repeat first | apply b3N | apply b3D | apply b3L); exact BK152.out) Tryd.underlying46 rfl (by kernel_rfl)) rfl ?_; exact ⟨c3_1, c3_3⟩
     ·replace c12 := Bool.eq_false_iff.mpr c12
      subst c12; rw [if_neg (show ¬ (false = true) by decide)] at H; simp only [Option.some.injEq, Prod.mk.injEq] at H; obtain ⟨rfl, rfl⟩ := H; go_wp2_with (first | (go_at_call 159; (with_reducible refine (impl_SubNum_1.calls a0 a1 t155 false _ A11.out).mono ?_); rintro e w' ⟨rfl, ⟨nd, rfl⟩⟩; (try (rw [drewN_self wc]; generalize hq_ : World.drewN wc _ = wc; have n0_ : Aside0 (wc.heap[gb152]? = some (.cells #[.int .i64 0, .int .i64 0] 46 (0, 0))) := ⟨by rw [← hq_]; exact d3_8⟩; have n1_ : Aside0 (Below w.heap.size w wc) := ⟨by rw [← hq_]; exact d3_5⟩; clear BK152 HB hq_; have BK152 := n0_; have HB := n1_; clear n0_ n1_)); have hcz17_0 := z3c BK152.out 0 (v := (.int .i64 0)) rfl; have hcz17_1 := z3c BK152.out 1 (v := (.int .i64 0)) rfl; have hfz17_0 := z3f BK152.out 0; have hfz17_1 := z3f BK152.out 1)); refine bodyPost_ret (results_cell_row rfl _ _ gb152 46 #[.int .i64 7, .int .i64 0] (0, 0) _ rfl (by (with_reducible repeat first | apply b3N | apply b3D | apply b3L); refine blk_put (cs := #[.int .i64 7, .int .i64 0]) ?_ 1 _ rfl; (with_reducible repeat first | apply b3N | apply b3D | apply b3L); refine blk_put (cs := #[.int .i64 0, .int .i64 0]) ?_ 0 _ rfl; (with_reducible repeat first | apply b3N | apply b3D | apply b3L); exact BK152.out) Tryd.underlying46 rfl (by kernel_rfl)) rfl ?_; exact ⟨c3_1, c3_3⟩

/-! ### impl_SubNum: function 134 -/
def impl_SubNum.f (k : Nat) (a0 : Int) (a1 : Int) : Option (Int × Int) := (impl_calculated__impl_SubNum_1.f k a0 a1).bind fun bt159 => (some (bt159.1, bt159.2))
theorem impl_SubNum.mono : ∀ a0 a1 k, LeO (impl_SubNum.f k a0 a1) (impl_SubNum.f (k + 1) a0 a1) := by
  intro a0 a1 k; unfold impl_SubNum.f
  repeat' first | (with_reducible first | apply impl_calculated__impl_SubNum_1.mono | exact LeO.refl _ | exact LeO.none _ | refine LeO.ite ?_ ?_ | refine LeO.bind ?_ (fun _ => ?_)) | apply impl_calculated__impl_SubNum_1.mono | exact LeO.none _ | refine LeO.ite ?_ ?_ | refine LeO.bind ?_ (fun _ => ?_)
theorem impl_SubNum.calls (k : Nat) (a0 : Int) (a1 : Int) (r1 : Int) (r2 : Int) (w : World) (h : impl_SubNum.f k a0 a1 = some (r1, r2)) :
    Calls Tryd.prog 134 #[.int .i64 a0, .int .i64 a1] w fun e w' => e = .returned (.agg #[.int .i64 r1, .int .i64 r2]) ∧ Below w.heap.size w w' := by
  have hu46 := Tryd.underlying46; have HB := ak (Below.refl w.heap.size w); have H := h; clear h; unfold impl_SubNum.f at H; replace H := Option.bind_eq_some_iff.mp H; obtain ⟨⟨t159, t160⟩, A30, H⟩ := H; (try dsimp -simprocs only at H); have A3 := ak A30; clear A30; simp only [Option.some.injEq, Prod.mk.injEq] at H; obtain ⟨rfl, rfl⟩ := H; go_enter Tryd.func134, Tryd.ntmps134
  go_wp2_with (first | ((with_reducible refine gate_dst (N := 4) rfl ?_); refine box_event ?hg (N := 4) ?hd (cs := #[.int .i64 0, .int .i64 0]) (t := 46) ?hr ?_; (case hd => rfl); (case hg => rfl); (case hr => exact c3_6); intro gb158 hg w4 hbox hb; have n0_ := ak (below_step d3_1 hb); have n1_ := ak (hbox); have n2_ := ak ((d3_9 : w.heap.size ≤ gb158)); have n3_ := ak ((d3_9 : w.heap.size ≤ gb158)); clear HB; have HB := n0_; have BK158 := n1_; have GW158 := n2_; have GE158 := n3_; clear n0_ n1_ n2_ n3_ hb hbox hg) | (go_at_call 157; (with_reducible refine (impl_calculated__impl_SubNum_1.calls k a0 a1  t159 t160 _ A3.out).mono ?_); rintro e w5 ⟨rfl, hb⟩; have n0_ := ak (blk_below (g := gb158) (o := .cells #[.int .i64 0, .int .i64 0] 46 (0, 0)) (by (with_reducible repeat first | apply b3N | apply b3D | apply b3L); exact BK158.out) hb); have n1_ := ak (below_step (by repeat (first | (with_reducible first | exact HB.out | apply below_alloc | apply pw_below_drewN | apply below_drew1 | refine below_set ?_ GE158.out) | exact HB.out)) hb); clear BK158 HB; have BK158 := n0_; have HB := n1_; clear n0_ n1_; (try clear hb); have hcz6_0 := z3c BK158.out 0 (v := (.int .i64 0)) rfl; have hcz6_1 := z3c BK158.out 1 (v := (.int .i64 0)) rfl; have hfz6_0 := z3f BK158.out 0; have hfz6_1 := z3f BK158.out 1))
  refine bodyPost_ret (results_cell_row rfl _ _ gb158 46 #[.int .i64 t159, .int .i64 t160] (0, 0) _ rfl (by (with_reducible repeat first | apply b3N | apply b3D | apply b3L); refine blk_put (cs := #[.int .i64 t159, .int .i64 0]) ?_ 1 _ rfl; (with_reducible repeat first | apply b3N | apply b3D | apply b3L); refine blk_put (cs := #[.int .i64 0, .int .i64 0]) ?_ 0 _ rfl; (with_reducible repeat first | apply b3N | apply b3D | apply b3L); exact BK158.out) Tryd.underlying46 rfl (by kernel_rfl)) rfl ?_; exact ⟨c3_1, by repeat (first | (with_reducible first | exact HB.out | apply below_alloc | apply pw_below_drewN | apply below_drew1 | refine below_set ?_ GE158.out) | exact HB.out)⟩

/-! ### impl_MulNum_1: function 160 -/
def impl_MulNum_1.f (a0 : Int) (a1 : Int) : Option (Int × Bool) := some (wrap64 (a0 * a1), true)
theorem impl_MulNum_1.calls (a0 : Int) (a1 : Int) (r1 : Int) (r2 : Bool) (w : World) (h : impl_MulNum_1.f a0 a1 = some (r1, r2)) :
    Calls Tryd.prog 160 #[.int .i64 a0, .int .i64 a1] w fun e w' => e = .returned (.tuple #[.int .i64 r1, .bool r2]) ∧ Drawn0 w w' := by
  have H := h; clear h; unfold impl_MulNum_1.f at H; simp only [Option.some.injEq, Prod.mk.injEq] at H; obtain ⟨rfl, rfl⟩ := H; go_enter Tryd.func160, Tryd.ntmps160; go_wp2; go_ret2; exact ⟨c3_4, c3_5⟩

end Go.Proofs.YtgoccbnpchglkaaDoor.P
