/- Walks of the program's functions: each Go function's answer as a plain Lean function, and that the call comes to it. Written by a program. Conditions: those in each theorem's own head. -/
import Derived.Test.YtgbgioodifcdbaaC0
import Derived.Test.YtgbgioodifcdbaaC1
namespace Go.Proofs.Ytgbgioodifcdbaa.C
open Go.RowKit Go.Proofs.YtgbgioodifcdbaaW.PrintWords Go.Proofs.YtgbgioodifcdbaaW.PrintLast Go.Proofs.YtgbgioodifcdbaaW.PrintMore
attribute [local go_sem] max2_int min2_int max_two min_two max_three min_three max_four min_four   -- for this text's walks alone
set_option linter.unusedVariables false
set_option linter.unusedSimpArgs false

attribute [local go_sem high] eqA41
theorem d2_1 {p : Prop} (h : p := by repeat (first | (with_reducible first | exact HB.out | apply below_alloc | apply pw_below_drewN | apply below_drew1) | exact HB.out)) : p := h
theorem d2_2 {p : Prop} (h : p := by first | rfl | (simp; done) | (simp [*]; done) | (simp [ne_nil_b, eq_nil_b]; done)) : p := h
theorem d2_3 {p : Prop} (h : p := by first | (with_reducible assumption) | assumption) : p := h
theorem d2_4 {p : Prop} (h : p := by (try simp only [List.map_toArray, List.map_cons, List.map_nil]); first | done | rfl | (simp only [List.length_drop, List.length_take]; rfl)) : p := h
theorem c2_1 {p : Prop} (h : p := by repeat (first | (with_reducible first | exact HB.out | apply below_alloc | apply pw_below_drewN | apply below_drew1) | exact HB.out)) : p := h
theorem c2_2 {p : Prop} (h : p := by first | rfl | (simp [errW_none, errW_some] <;> rfl) | (simp [*, errW_none, errW_some] <;> rfl)) : p := h
theorem c2_3 {p : Prop} (h : p := by repeat (first | (with_reducible first | exact HB.out | apply below_alloc | apply pw_below_drewN | apply below_drew1 | refine below_set ?_ GE104.out) | exact HB.out)) : p := h
set_option maxHeartbeats 8000000
set_option maxRecDepth 100000
theorem z2c {w : World} {g : Nat} {t : TypeId} {cs : Array Value} (h : w.heap[g]? = some (.cells cs t (0, 0))) (i : Nat) {v : Value} (e : cs[i]? = some v) : w.cell? ⟨g, i, none⟩ = some v := (blk_cell h i).trans e

/-! ### laws_szDatum: function 20 -/
def laws_szDatum.f (a0_0 : Int) (a0_1 : Int) (a0_2 : Int) (a0_3 : ByteArray) (a1 : Int) : Option (Int) := if (wrap64 (a1 - (a0_3.size : Int))) < 0 then (some (-1)) else (some (wrap64 (a1 - (a0_3.size : Int))))
theorem laws_szDatum.calls (a0_0 : Int) (a0_1 : Int) (a0_2 : Int) (a0_3 : ByteArray) (a1 : Int) (r : Int) (w : World) (h : laws_szDatum.f a0_0 a0_1 a0_2 a0_3 a1 = some r) :
    Calls Try.prog 20 #[.agg #[.int .i64 a0_0, .int .i64 a0_1, .int .i64 a0_2, .string a0_3], .int .i64 a1] w fun e w' => e = .returned (.int .i64 r) ∧ Below w.heap.size w w' := by
  have hu44 := Try.underlying44; have HB := ak (Below.refl w.heap.size w); have H := h; clear h; unfold laws_szDatum.f at H; by_cases c3 : (wrap64 (a1 - (a0_3.size : Int))) < 0
  ·rw [if_pos c3] at H
   have c3b0 : decide ((wrap64 (a1 - (a0_3.size : Int))) < 0) = true := decide_eq_true c3; clear c3; obtain rfl := Option.some.inj H; go_enter Try.func20, Try.ntmps20; go_wp2_with (first | ((with_reducible refine gate_dst (N := 2) rfl ?_); refine box_event ?hg (N := 2) ?hd (cs := #[.int .i64 a0_0, .int .i64 a0_1, .int .i64 a0_2, .string a0_3]) (t := 44) ?hr ?_; (case hd => rfl); (case hg => rfl); (case hr => first | (go_simp; done) | (go_simp; rfl)); intro gb101 hg w4 hbox hb; have n0_ := ak (below_step d2_1 hb); have n1_ := ak (hbox); have n2_ := ak ((by rw [hg]; exact (below_size d2_1) : w.heap.size ≤ gb101)); have n3_ := ak ((by rw [hg]; exact (below_size d2_1) : w.heap.size ≤ gb101)); clear HB; have HB := n0_; have BK101 := n1_; have GW101 := n2_; have GE101 := n3_; clear n0_ n1_ n2_ n3_ hb hbox hg; have hcz5_0 := z2c BK101.out 0 (v := (.int .i64 a0_0)) rfl; have hcz5_1 := z2c BK101.out 1 (v := (.int .i64 a0_1)) rfl; have hcz5_2 := z2c BK101.out 2 (v := (.int .i64 a0_2)) rfl; have hcz5_3 := z2c BK101.out 3 (v := (.string a0_3)) rfl; have hfz5_0 := blk_frozen BK101.out 0; have hfz5_1 := blk_frozen BK101.out 1; have hfz5_2 := blk_frozen BK101.out 2; have hfz5_3 := blk_frozen BK101.out 3)); go_ret
   exact ⟨c2_2, by repeat (first | (with_reducible first | exact HB.out | apply below_alloc | apply pw_below_drewN | apply below_drew1 | refine below_set ?_ GE101.out) | exact HB.out)⟩
  ·rw [if_neg c3] at H
   have c3b0 : decide ((wrap64 (a1 - (a0_3.size : Int))) < 0) = false := decide_eq_false c3; clear c3; obtain rfl := Option.some.inj H; go_enter Try.func20, Try.ntmps20; go_wp2_with (first | ((with_reducible refine gate_dst (N := 2) rfl ?_); refine box_event ?hg (N := 2) ?hd (cs := #[.int .i64 a0_0, .int .i64 a0_1, .int .i64 a0_2, .string a0_3]) (t := 44) ?hr ?_; (case hd => rfl); (case hg => rfl); (case hr => first | (go_simp; done) | (go_simp; rfl)); intro gb101 hg w6 hbox hb; have n0_ := ak (below_step d2_1 hb); have n1_ := ak (hbox); have n2_ := ak ((by rw [hg]; exact (below_size d2_1) : w.heap.size ≤ gb101)); have n3_ := ak ((by rw [hg]; exact (below_size d2_1) : w.heap.size ≤ gb101)); clear HB; have HB := n0_; have BK101 := n1_; have GW101 := n2_; have GE101 := n3_; clear n0_ n1_ n2_ n3_ hb hbox hg; have hcz7_0 := z2c BK101.out 0 (v := (.int .i64 a0_0)) rfl; have hcz7_1 := z2c BK101.out 1 (v := (.int .i64 a0_1)) rfl; have hcz7_2 := z2c BK101.out 2 (v := (.int .i64 a0_2)) rfl; have hcz7_3 := z2c BK101.out 3 (v := (.string a0_3)) rfl; have hfz7_0 := blk_frozen BK101.out 0; have hfz7_1 := blk_frozen BK101.out 1; have hfz7_2 := blk_frozen BK101.out 2; have hfz7_3 := blk_frozen BK101.out 3)); go_ret
   exact ⟨c2_2, by repeat (first | (with_reducible first | exact HB.out | apply below_alloc | apply pw_below_drewN | apply below_drew1 | refine below_set ?_ GE101.out) | exact HB.out)⟩

/-! ### laws_szDatumS: function 16 -/
def laws_szDatumS.l0 : Nat → List (S44) → Int → Int → Option (Int)
  | 0, _, _, _ => none
  | k + 1, x0, x1, x5 => if x5 < (x0.length : Int) then (if 0 ≤ x5 then ((laws_szDatum.f ((rd_T44 x0 x5).f0) ((rd_T44 x0 x5).f1) ((rd_T44 x0 x5).f2) ((rd_T44 x0 x5).f3) x1).bind fun t103 => (if t103 < 0 then (some (-1)) else (laws_szDatumS.l0 k x0 t103 (wrap64 (x5 + 1))))) else (none)) else (some x1)
def laws_szDatumS.f (k : Nat) (l0 : List (S44)) (a1 : Int) : Option (Int) := if (wrap64 (a1 - (l0.length : Int))) < 0 then (some (-1)) else (laws_szDatumS.l0 k l0 (wrap64 (a1 - (l0.length : Int))) 0)
theorem laws_szDatumS.mono_l : ∀ k, (∀ y0 y1 y2, LeO (laws_szDatumS.l0 k y0 y1 y2) (laws_szDatumS.l0 (k + 1) y0 y1 y2))
  | 0 => fun _ _ _ r h => by simp [laws_szDatumS.l0] at h
  | k + 1 => by
    have ih0 := laws_szDatumS.mono_l k
    · intro y0 y1 y2
      unfold laws_szDatumS.l0
      repeat' first | (with_reducible first | apply ih0 | exact LeO.refl _ | exact LeO.none _ | refine LeO.ite ?_ ?_ | refine LeO.bind ?_ (fun _ => ?_)) | apply ih0 | exact LeO.none _ | refine LeO.ite ?_ ?_ | refine LeO.bind ?_ (fun _ => ?_)
theorem laws_szDatumS.mono : ∀ a0 a1 k, LeO (laws_szDatumS.f k a0 a1) (laws_szDatumS.f (k + 1) a0 a1) := by
  intro a0 a1 k; have ih0 := laws_szDatumS.mono_l k; unfold laws_szDatumS.f
  repeat' first | (with_reducible first | apply ih0 | exact LeO.refl _ | exact LeO.none _ | refine LeO.ite ?_ ?_ | refine LeO.bind ?_ (fun _ => ?_)) | apply ih0 | exact LeO.none _ | refine LeO.ite ?_ ?_ | refine LeO.bind ?_ (fun _ => ?_)
theorem laws_szDatumS.calls (k : Nat) (A0 : Option Addr) (c0 : Nat) (l0 : List (S44)) (a1 : Int) (r : Int) (w : World) (hr0 : Kd.C k44 w A0 l0.length l0) (hc0 : l0.length ≤ c0) (h : laws_szDatumS.f k l0 a1 = some r) :
    Calls Try.prog 16 #[.slice A0 l0.length c0, .int .i64 a1] w fun e w' => e = .returned (.int .i64 r) ∧ Below w.heap.size w w' := by
  have hu44 := Try.underlying44; have HR0 := ak hr0; have HC0 := ak hc0; clear hr0 hc0; have HB := ak (Below.refl w.heap.size w); have H := h; clear h; unfold laws_szDatumS.f at H; by_cases c3 : (wrap64 (a1 - (l0.length : Int))) < 0
  ·rw [if_pos c3] at H
   have c3b0 : decide ((wrap64 (a1 - (l0.length : Int))) < 0) = true := decide_eq_true c3; clear c3; obtain rfl := Option.some.inj H; go_enter Try.func16, Try.ntmps16; go_wp2; go_ret; exact ⟨c2_2, c2_1⟩
  ·rw [if_neg c3] at H
   have c3b0 : decide ((wrap64 (a1 - (l0.length : Int))) < 0) = false := decide_eq_false c3; clear c3; have H' := ak H; clear H; go_enter Try.func16, Try.ntmps16; go_wp2; go_loopg [1, 5] k (fun kq v1 v5 w' => ∃ (x1_1 : Int) (x5_1 : Int), v1 = .int .i64 x1_1 ∧ v5 = .int .i64 x5_1 ∧ Aside0 (laws_szDatumS.l0 kq l0 x1_1 x5_1 = some r) ∧ Aside0 (kq ≤ k) ∧ Aside0 (Below w.heap.size w w'))
   case atStart => exact ⟨(wrap64 (a1 - (l0.length : Int))), (0), d2_2, d2_2, H', ⟨Nat.le_refl _⟩, ⟨c2_1⟩⟩
   case round =>
    clear H'
    (try clear c1); (try clear p2); (try clear c3); (try clear c3b0)
    obtain ⟨x1_1, x5_1, rfl, rfl, HA, HK1, HB⟩ := hrel
    cases gk with
    | zero => exact absurd HA.out (by simp [laws_szDatumS.l0])
    | succ k1 =>
     have H := HA.out; clear HA; simp only [laws_szDatumS.l0] at H; by_cases c4 : x5_1 < (l0.length : Int)
     ·rw [if_pos c4] at H
      have c4b0 : decide (x5_1 < (l0.length : Int)) = true := decide_eq_true c4; clear c4; by_cases c5 : 0 ≤ x5_1
      ·rw [if_pos c5] at H
       have c5b0 : decide (0 ≤ x5_1) = true := decide_eq_true c5; clear c5; replace H := Option.bind_eq_some_iff.mp H; obtain ⟨t103, A60, H⟩ := H; (try dsimp -simprocs only at H); have A6 := ak A60; clear A60; by_cases c7 : t103 < 0
       ·rw [if_pos c7] at H
        have c7b0 : decide (t103 < 0) = true := decide_eq_true c7; clear c7; obtain rfl := Option.some.inj H; have p102 : 0 ≤ (x5_1 : Int) := of_decide_eq_true d2_3; have q102 : x5_1 < (l0.length : Int) := of_decide_eq_true d2_3; obtain ⟨ad102, e102, hx102_0, hx102_1, hx102_2, hx102_3⟩ := at_T44 HR0.out x5_1 p102 q102
        cases e102
        replace hx102_0 := (HB.out.cell (World.block_lt_of_cell? w _ hx102_0)).trans hx102_0; replace hx102_1 := (HB.out.cell (World.block_lt_of_cell? w _ hx102_1)).trans hx102_1; replace hx102_2 := (HB.out.cell (World.block_lt_of_cell? w _ hx102_2)).trans hx102_2; replace hx102_3 := (HB.out.cell (World.block_lt_of_cell? w _ hx102_3)).trans hx102_3; replace p102 := eq_true p102; replace q102 := eq_true q102; go_wp2_with (first | ((with_reducible refine gate_callee (f := 20) rfl ?_); refine goesL_ (some 23) rfl rfl Try.func20 (by kernel_rfl) rfl #[.agg #[.int .i64 ((rd_T44 l0 x5_1).f0), .int .i64 ((rd_T44 l0 x5_1).f1), .int .i64 ((rd_T44 l0 x5_1).f2), .string ((rd_T44 l0 x5_1).f3)], .int .i64 x1_1] rfl d2_4 ?_; (with_reducible refine (laws_szDatum.calls ((rd_T44 l0 x5_1).f0) ((rd_T44 l0 x5_1).f1) ((rd_T44 l0 x5_1).f2) ((rd_T44 l0 x5_1).f3) x1_1 t103 _ A6.out).mono ?_); rintro e w8 ⟨rfl, hb⟩; refine ⟨_, rfl, ?_⟩; have n0_ := ak (below_step d2_1 hb); clear HB; have HB := n0_; clear n0_; (try clear hb))); go_ret; exact ⟨c2_2, c2_1⟩
       ·rw [if_neg c7] at H
        have c7b0 : decide (t103 < 0) = false := decide_eq_false c7; clear c7; have H' := ak H; clear H; have p102 : 0 ≤ (x5_1 : Int) := of_decide_eq_true d2_3; have q102 : x5_1 < (l0.length : Int) := of_decide_eq_true d2_3; obtain ⟨ad102, e102, hx102_0, hx102_1, hx102_2, hx102_3⟩ := at_T44 HR0.out x5_1 p102 q102
        cases e102
        replace hx102_0 := (HB.out.cell (World.block_lt_of_cell? w _ hx102_0)).trans hx102_0; replace hx102_1 := (HB.out.cell (World.block_lt_of_cell? w _ hx102_1)).trans hx102_1; replace hx102_2 := (HB.out.cell (World.block_lt_of_cell? w _ hx102_2)).trans hx102_2; replace hx102_3 := (HB.out.cell (World.block_lt_of_cell? w _ hx102_3)).trans hx102_3; replace p102 := eq_true p102; replace q102 := eq_true q102; go_wp2_with (first | ((with_reducible refine gate_callee (f := 20) rfl ?_); refine goesL_ (some 23) rfl rfl Try.func20 (by kernel_rfl) rfl #[.agg #[.int .i64 ((rd_T44 l0 x5_1).f0), .int .i64 ((rd_T44 l0 x5_1).f1), .int .i64 ((rd_T44 l0 x5_1).f2), .string ((rd_T44 l0 x5_1).f3)], .int .i64 x1_1] rfl d2_4 ?_; (with_reducible refine (laws_szDatum.calls ((rd_T44 l0 x5_1).f0) ((rd_T44 l0 x5_1).f1) ((rd_T44 l0 x5_1).f2) ((rd_T44 l0 x5_1).f3) x1_1 t103 _ A6.out).mono ?_); rintro e w9 ⟨rfl, hb⟩; refine ⟨_, rfl, ?_⟩; have n0_ := ak (below_step d2_1 hb); clear HB; have HB := n0_; clear n0_; (try clear hb))); go_roundg k1
        case measure => have := HK1.out; omega
        case rel => exact ⟨(t103), (wrap64 (x5_1 + 1)), d2_2, d2_2, H', ⟨by have := HK1.out; omega⟩, ⟨c2_1⟩⟩
      ·rw [if_neg c5] at H
       exact absurd H (by simp)
     ·rw [if_neg c4] at H
      have c4b0 : decide (x5_1 < (l0.length : Int)) = false := decide_eq_false c4; clear c4; obtain rfl := Option.some.inj H; go_wp2; go_ret; exact ⟨c2_2, c2_1⟩

/-! ### laws_szCore: function 9 -/
def laws_szCore.f (k : Nat) (a0_0 : Int) (a0_1 : Int) (a0_2 : Int) (a0_3 : Int) (a0_4 : ByteArray) (l0_5 : List (S44)) (a1 : Int) : Option (Int) := if (wrap64 (a1 - (a0_4.size : Int))) < 0 then (some (-1)) else ((laws_szDatumS.f k l0_5 (wrap64 (a1 - (a0_4.size : Int)))).bind fun t105 => (if t105 < 0 then (some (-1)) else (some t105)))
theorem laws_szCore.mono : ∀ a0 a1 a2 a3 a4 a5 a6 k, LeO (laws_szCore.f k a0 a1 a2 a3 a4 a5 a6) (laws_szCore.f (k + 1) a0 a1 a2 a3 a4 a5 a6) := by
  intro a0 a1 a2 a3 a4 a5 a6 k; unfold laws_szCore.f
  repeat' first | (with_reducible first | apply laws_szDatumS.mono | exact LeO.refl _ | exact LeO.none _ | refine LeO.ite ?_ ?_ | refine LeO.bind ?_ (fun _ => ?_)) | apply laws_szDatumS.mono | exact LeO.none _ | refine LeO.ite ?_ ?_ | refine LeO.bind ?_ (fun _ => ?_)
theorem laws_szCore.calls (k : Nat) (a0_0 : Int) (a0_1 : Int) (a0_2 : Int) (a0_3 : Int) (a0_4 : ByteArray) (A0_5 : Option Addr) (c0_5 : Nat) (l0_5 : List (S44)) (a1 : Int) (r : Int) (w : World) (hr0_5 : Kd.C k44 w A0_5 l0_5.length l0_5) (hc0_5 : l0_5.length ≤ c0_5) (h : laws_szCore.f k a0_0 a0_1 a0_2 a0_3 a0_4 l0_5 a1 = some r) :
    Calls Try.prog 9 #[.agg #[.int .i64 a0_0, .int .i64 a0_1, .int .i64 a0_2, .int .i64 a0_3, .string a0_4, .slice A0_5 l0_5.length c0_5], .int .i64 a1] w fun e w' => e = .returned (.int .i64 r) ∧ Below w.heap.size w w' := by
  have hu31 := Try.underlying31; have HR0_5 := ak hr0_5; have HC0_5 := ak hc0_5; clear hr0_5 hc0_5; have HB := ak (Below.refl w.heap.size w); have H := h; clear h; unfold laws_szCore.f at H; by_cases c3 : (wrap64 (a1 - (a0_4.size : Int))) < 0
  ·rw [if_pos c3] at H
   have c3b0 : decide ((wrap64 (a1 - (a0_4.size : Int))) < 0) = true := decide_eq_true c3; clear c3; obtain rfl := Option.some.inj H; go_enter Try.func9, Try.ntmps9
   go_wp2_with (first | ((with_reducible refine gate_dst (N := 2) rfl ?_); refine box_event ?hg (N := 2) ?hd (cs := #[.int .i64 a0_0, .int .i64 a0_1, .int .i64 a0_2, .int .i64 a0_3, .string a0_4, .slice A0_5 l0_5.length c0_5]) (t := 31) ?hr ?_; (case hd => rfl); (case hg => rfl); (case hr => first | (go_simp; done) | (go_simp; rfl)); intro gb104 hg w4 hbox hb; have n0_ := ak (below_step d2_1 hb); have n1_ := ak (hbox); have n2_ := ak ((by rw [hg]; exact (below_size d2_1) : w.heap.size ≤ gb104)); have n3_ := ak ((by rw [hg]; exact (below_size d2_1) : w.heap.size ≤ gb104)); clear HB; have HB := n0_; have BK104 := n1_; have GW104 := n2_; have GE104 := n3_; clear n0_ n1_ n2_ n3_ hb hbox hg; have hcz5_0 := z2c BK104.out 0 (v := (.int .i64 a0_0)) rfl; have hcz5_1 := z2c BK104.out 1 (v := (.int .i64 a0_1)) rfl; have hcz5_2 := z2c BK104.out 2 (v := (.int .i64 a0_2)) rfl; have hcz5_3 := z2c BK104.out 3 (v := (.int .i64 a0_3)) rfl; have hcz5_4 := z2c BK104.out 4 (v := (.string a0_4)) rfl; have hcz5_5 := z2c BK104.out 5 (v := (.slice A0_5 l0_5.length c0_5)) rfl; have hfz5_0 := blk_frozen BK104.out 0; have hfz5_1 := blk_frozen BK104.out 1; have hfz5_2 := blk_frozen BK104.out 2; have hfz5_3 := blk_frozen BK104.out 3; have hfz5_4 := blk_frozen BK104.out 4; have hfz5_5 := blk_frozen BK104.out 5))
   go_ret; exact ⟨c2_2, c2_3⟩
  ·rw [if_neg c3] at H
   have c3b0 : decide ((wrap64 (a1 - (a0_4.size : Int))) < 0) = false := decide_eq_false c3; clear c3; replace H := Option.bind_eq_some_iff.mp H; obtain ⟨t105, A60, H⟩ := H; (try dsimp -simprocs only at H); have A6 := ak A60; clear A60; by_cases c7 : t105 < 0
   ·rw [if_pos c7] at H
    have c7b0 : decide (t105 < 0) = true := decide_eq_true c7; clear c7; obtain rfl := Option.some.inj H; go_enter Try.func9, Try.ntmps9
    go_wp2_with (first | ((with_reducible refine gate_dst (N := 2) rfl ?_); refine box_event ?hg (N := 2) ?hd (cs := #[.int .i64 a0_0, .int .i64 a0_1, .int .i64 a0_2, .int .i64 a0_3, .string a0_4, .slice A0_5 l0_5.length c0_5]) (t := 31) ?hr ?_; (case hd => rfl); (case hg => rfl); (case hr => first | (go_simp; done) | (go_simp; rfl)); intro gb104 hg w8 hbox hb; have n0_ := ak (below_step d2_1 hb); have n1_ := ak (hbox); have n2_ := ak ((by rw [hg]; exact (below_size d2_1) : w.heap.size ≤ gb104)); have n3_ := ak ((by rw [hg]; exact (below_size d2_1) : w.heap.size ≤ gb104)); clear HB; have HB := n0_; have BK104 := n1_; have GW104 := n2_; have GE104 := n3_; clear n0_ n1_ n2_ n3_ hb hbox hg; have hcz9_0 := z2c BK104.out 0 (v := (.int .i64 a0_0)) rfl; have hcz9_1 := z2c BK104.out 1 (v := (.int .i64 a0_1)) rfl; have hcz9_2 := z2c BK104.out 2 (v := (.int .i64 a0_2)) rfl; have hcz9_3 := z2c BK104.out 3 (v := (.int .i64 a0_3)) rfl; have hcz9_4 := z2c BK104.out 4 (v := (.string a0_4)) rfl; have hcz9_5 := z2c BK104.out 5 (v := (.slice A0_5 l0_5.length c0_5)) rfl; have hfz9_0 := blk_frozen BK104.out 0; have hfz9_1 := blk_frozen BK104.out 1; have hfz9_2 := blk_frozen BK104.out 2; have hfz9_3 := blk_frozen BK104.out 3; have hfz9_4 := blk_frozen BK104.out 4; have hfz9_5 := blk_frozen BK104.out 5) | ((with_reducible refine gate_callee (f := 16) rfl ?_); refine goesL_ (some 15) rfl rfl Try.func16 (by kernel_rfl) rfl #[.slice A0_5 l0_5.length c0_5, .int .i64 (wrap64 (a1 - (a0_4.size : Int)))] rfl d2_4 ?_; (with_reducible refine (laws_szDatumS.calls k _ _ l0_5 (wrap64 (a1 - (a0_4.size : Int))) t105 _ ?side1 ?side2 A6.out).mono ?_); (case side1 => repeat (first | exact (Kd.C_below HR0_5.out HB.out) | (with_reducible refine Kd.C_alloc ?_ _) | (with_reducible refine Kd.C_drewN ?_ _) | (with_reducible refine Kd.C_drew ?_))); (case side2 => exact HC0_5.out); rintro e w10 ⟨rfl, hb⟩; refine ⟨_, rfl, ?_⟩; have n0_ := ak (blk_below (g := gb104) (o := .cells #[.int .i64 a0_0, .int .i64 a0_1, .int .i64 a0_2, .int .i64 a0_3, .string a0_4, .slice A0_5 l0_5.length c0_5] 31 (0, 0)) (by (with_reducible repeat (first | refine blk_drewN ?_ _ | refine blk_drew ?_ | refine blk_alloc ?_ _)); exact BK104.out) hb); have n1_ := ak (below_step (by repeat (first | (with_reducible first | exact HB.out | apply below_alloc | apply pw_below_drewN | apply below_drew1 | refine below_set ?_ GE104.out) | exact HB.out)) hb); clear BK104 HB; have BK104 := n0_; have HB := n1_; clear n0_ n1_; (try clear hb)))
    go_ret; exact ⟨c2_2, c2_3⟩
   ·rw [if_neg c7] at H
    have c7b0 : decide (t105 < 0) = false := decide_eq_false c7; clear c7; obtain rfl := Option.some.inj H; go_enter Try.func9, Try.ntmps9
    go_wp2_with (first | ((with_reducible refine gate_dst (N := 2) rfl ?_); refine box_event ?hg (N := 2) ?hd (cs := #[.int .i64 a0_0, .int .i64 a0_1, .int .i64 a0_2, .int .i64 a0_3, .string a0_4, .slice A0_5 l0_5.length c0_5]) (t := 31) ?hr ?_; (case hd => rfl); (case hg => rfl); (case hr => first | (go_simp; done) | (go_simp; rfl)); intro gb104 hg w11 hbox hb; have n0_ := ak (below_step d2_1 hb); have n1_ := ak (hbox); have n2_ := ak ((by rw [hg]; exact (below_size d2_1) : w.heap.size ≤ gb104)); have n3_ := ak ((by rw [hg]; exact (below_size d2_1) : w.heap.size ≤ gb104)); clear HB; have HB := n0_; have BK104 := n1_; have GW104 := n2_; have GE104 := n3_; clear n0_ n1_ n2_ n3_ hb hbox hg; have hcz12_0 := z2c BK104.out 0 (v := (.int .i64 a0_0)) rfl; have hcz12_1 := z2c BK104.out 1 (v := (.int .i64 a0_1)) rfl; have hcz12_2 := z2c BK104.out 2 (v := (.int .i64 a0_2)) rfl; have hcz12_3 := z2c BK104.out 3 (v := (.int .i64 a0_3)) rfl; have hcz12_4 := z2c BK104.out 4 (v := (.string a0_4)) rfl; have hcz12_5 := z2c BK104.out 5 (v := (.slice A0_5 l0_5.length c0_5)) rfl; have hfz12_0 := blk_frozen BK104.out 0; have hfz12_1 := blk_frozen BK104.out 1; have hfz12_2 := blk_frozen BK104.out 2; have hfz12_3 := blk_frozen BK104.out 3; have hfz12_4 := blk_frozen BK104.out 4; have hfz12_5 := blk_frozen BK104.out 5) | ((with_reducible refine gate_callee (f := 16) rfl ?_); refine goesL_ (some 15) rfl rfl Try.func16 (by kernel_rfl) rfl #[.slice A0_5 l0_5.length c0_5, .int .i64 (wrap64 (a1 - (a0_4.size : Int)))] rfl d2_4 ?_; (with_reducible refine (laws_szDatumS.calls k _ _ l0_5 (wrap64 (a1 - (a0_4.size : Int))) t105 _ ?side1 ?side2 A6.out).mono ?_); (case side1 => repeat (first | exact (Kd.C_below HR0_5.out HB.out) | (with_reducible refine Kd.C_alloc ?_ _) | (with_reducible refine Kd.C_drewN ?_ _) | (with_reducible refine Kd.C_drew ?_))); (case side2 => exact HC0_5.out); rintro e w13 ⟨rfl, hb⟩; refine ⟨_, rfl, ?_⟩; have n0_ := ak (blk_below (g := gb104) (o := .cells #[.int .i64 a0_0, .int .i64 a0_1, .int .i64 a0_2, .int .i64 a0_3, .string a0_4, .slice A0_5 l0_5.length c0_5] 31 (0, 0)) (by (with_reducible repeat (first | refine blk_drewN ?_ _ | refine blk_drew ?_ | refine blk_alloc ?_ _)); exact BK104.out) hb); have n1_ := ak (below_step (by repeat (first | (with_reducible first | exact HB.out | apply below_alloc | apply pw_below_drewN | apply below_drew1 | refine below_set ?_ GE104.out) | exact HB.out)) hb); clear BK104 HB; have BK104 := n0_; have HB := n1_; clear n0_ n1_; (try clear hb)))
    go_ret; exact ⟨c2_2, c2_3⟩

/-! ### laws_szCoreS: function 4 -/
def laws_szCoreS.l0 : Nat → List (S31) → Int → Int → Option (Int)
  | 0, _, _, _ => none
  | k + 1, x0, x1, x5 => if x5 < (x0.length : Int) then (if 0 ≤ x5 then ((laws_szCore.f k ((rd_T31 x0 x5).f0) ((rd_T31 x0 x5).f1) ((rd_T31 x0 x5).f2) ((rd_T31 x0 x5).f3) ((rd_T31 x0 x5).f4) ((rd_T31 x0 x5).f5) x1).bind fun t107 => (if t107 < 0 then (some (-1)) else (laws_szCoreS.l0 k x0 t107 (wrap64 (x5 + 1))))) else (none)) else (some x1)
def laws_szCoreS.f (k : Nat) (l0 : List (S31)) (a1 : Int) : Option (Int) := if (wrap64 (a1 - (l0.length : Int))) < 0 then (some (-1)) else (laws_szCoreS.l0 k l0 (wrap64 (a1 - (l0.length : Int))) 0)
theorem laws_szCoreS.mono_l : ∀ k, (∀ y0 y1 y2, LeO (laws_szCoreS.l0 k y0 y1 y2) (laws_szCoreS.l0 (k + 1) y0 y1 y2))
  | 0 => fun _ _ _ r h => by simp [laws_szCoreS.l0] at h
  | k + 1 => by
    have ih0 := laws_szCoreS.mono_l k
    · intro y0 y1 y2
      unfold laws_szCoreS.l0
      repeat' first | (with_reducible first | apply ih0 | apply laws_szCore.mono | exact LeO.refl _ | exact LeO.none _ | refine LeO.ite ?_ ?_ | refine LeO.bind ?_ (fun _ => ?_)) | apply ih0 | apply laws_szCore.mono | exact LeO.none _ | refine LeO.ite ?_ ?_ | refine LeO.bind ?_ (fun _ => ?_)
theorem laws_szCoreS.mono : ∀ a0 a1 k, LeO (laws_szCoreS.f k a0 a1) (laws_szCoreS.f (k + 1) a0 a1) := by
  intro a0 a1 k; have ih0 := laws_szCoreS.mono_l k; unfold laws_szCoreS.f
  repeat' first | (with_reducible first | apply ih0 | apply laws_szCore.mono | exact LeO.refl _ | exact LeO.none _ | refine LeO.ite ?_ ?_ | refine LeO.bind ?_ (fun _ => ?_)) | apply ih0 | apply laws_szCore.mono | exact LeO.none _ | refine LeO.ite ?_ ?_ | refine LeO.bind ?_ (fun _ => ?_)
theorem laws_szCoreS.calls (k : Nat) (A0 : Option Addr) (c0 : Nat) (l0 : List (S31)) (a1 : Int) (r : Int) (w : World) (hr0 : Kd.C k31 w A0 l0.length l0) (hc0 : l0.length ≤ c0) (h : laws_szCoreS.f k l0 a1 = some r) :
    Calls Try.prog 4 #[.slice A0 l0.length c0, .int .i64 a1] w fun e w' => e = .returned (.int .i64 r) ∧ Below w.heap.size w w' := by
  have hu31 := Try.underlying31; have HR0 := ak hr0; have HC0 := ak hc0; clear hr0 hc0; have HB := ak (Below.refl w.heap.size w); have H := h; clear h; unfold laws_szCoreS.f at H; by_cases c3 : (wrap64 (a1 - (l0.length : Int))) < 0
  ·rw [if_pos c3] at H
   have c3b0 : decide ((wrap64 (a1 - (l0.length : Int))) < 0) = true := decide_eq_true c3; clear c3; obtain rfl := Option.some.inj H; go_enter Try.func4, Try.ntmps4; go_wp2; go_ret; exact ⟨c2_2, c2_1⟩
  ·rw [if_neg c3] at H
   have c3b0 : decide ((wrap64 (a1 - (l0.length : Int))) < 0) = false := decide_eq_false c3; clear c3; have H' := ak H; clear H; go_enter Try.func4, Try.ntmps4; go_wp2; go_loopg [1, 5] k (fun kq v1 v5 w' => ∃ (x1_1 : Int) (x5_1 : Int), v1 = .int .i64 x1_1 ∧ v5 = .int .i64 x5_1 ∧ Aside0 (laws_szCoreS.l0 kq l0 x1_1 x5_1 = some r) ∧ Aside0 (kq ≤ k) ∧ Aside0 (Below w.heap.size w w'))
   case atStart => exact ⟨(wrap64 (a1 - (l0.length : Int))), (0), d2_2, d2_2, H', ⟨Nat.le_refl _⟩, ⟨c2_1⟩⟩
   case round =>
    clear H'
    (try clear p2); (try clear c3); (try clear c3b0)
    obtain ⟨x1_1, x5_1, rfl, rfl, HA, HK1, HB⟩ := hrel
    cases gk with
    | zero => exact absurd HA.out (by simp [laws_szCoreS.l0])
    | succ k1 =>
     have H := HA.out; clear HA; simp only [laws_szCoreS.l0] at H; by_cases c4 : x5_1 < (l0.length : Int)
     ·rw [if_pos c4] at H
      have c4b0 : decide (x5_1 < (l0.length : Int)) = true := decide_eq_true c4; clear c4; by_cases c5 : 0 ≤ x5_1
      ·rw [if_pos c5] at H
       have c5b0 : decide (0 ≤ x5_1) = true := decide_eq_true c5; clear c5; replace H := Option.bind_eq_some_iff.mp H; obtain ⟨t107, A60, H⟩ := H; (try dsimp -simprocs only at H); have A6 := ak A60; clear A60; by_cases c7 : t107 < 0
       ·rw [if_pos c7] at H
        have c7b0 : decide (t107 < 0) = true := decide_eq_true c7; clear c7; obtain rfl := Option.some.inj H; have p106 : 0 ≤ (x5_1 : Int) := of_decide_eq_true d2_3; have q106 : x5_1 < (l0.length : Int) := of_decide_eq_true d2_3; obtain ⟨ad106, A106_5, c106_5, e106, hx106_0, hx106_1, hx106_2, hx106_3, hx106_4, hx106_5, hl106_5, hi106_5⟩ := at_T31 HR0.out x5_1 p106 q106
        cases e106
        replace hx106_0 := (HB.out.cell (World.block_lt_of_cell? w _ hx106_0)).trans hx106_0; replace hx106_1 := (HB.out.cell (World.block_lt_of_cell? w _ hx106_1)).trans hx106_1; replace hx106_2 := (HB.out.cell (World.block_lt_of_cell? w _ hx106_2)).trans hx106_2; replace hx106_3 := (HB.out.cell (World.block_lt_of_cell? w _ hx106_3)).trans hx106_3; replace hx106_4 := (HB.out.cell (World.block_lt_of_cell? w _ hx106_4)).trans hx106_4; replace hx106_5 := (HB.out.cell (World.block_lt_of_cell? w _ hx106_5)).trans hx106_5; have HR106_5 := ak hi106_5; have HC106_5 := ak hl106_5; clear hi106_5 hl106_5; replace p106 := eq_true p106; replace q106 := eq_true q106
        go_wp2_with (first | ((with_reducible refine gate_callee (f := 9) rfl ?_); refine goesL_ (some 23) rfl rfl Try.func9 (by kernel_rfl) rfl #[.agg #[.int .i64 ((rd_T31 l0 x5_1).f0), .int .i64 ((rd_T31 l0 x5_1).f1), .int .i64 ((rd_T31 l0 x5_1).f2), .int .i64 ((rd_T31 l0 x5_1).f3), .string ((rd_T31 l0 x5_1).f4), .slice A106_5 ((rd_T31 l0 x5_1).f5).length c106_5], .int .i64 x1_1] rfl d2_4 ?_; (with_reducible refine (laws_szCore.calls k1 ((rd_T31 l0 x5_1).f0) ((rd_T31 l0 x5_1).f1) ((rd_T31 l0 x5_1).f2) ((rd_T31 l0 x5_1).f3) ((rd_T31 l0 x5_1).f4) _ _ ((rd_T31 l0 x5_1).f5) x1_1 t107 _ ?side1 ?side2 A6.out).mono ?_); (case side1 => repeat (first | exact (Kd.C_below HR106_5.out HB.out) | (with_reducible refine Kd.C_alloc ?_ _) | (with_reducible refine Kd.C_drewN ?_ _) | (with_reducible refine Kd.C_drew ?_))); (case side2 => exact HC106_5.out); rintro e w8 ⟨rfl, hb⟩; refine ⟨_, rfl, ?_⟩; have n0_ := ak (below_step d2_1 hb); clear HB; have HB := n0_; clear n0_; (try clear hb))); go_ret; exact ⟨c2_2, c2_1⟩
       ·rw [if_neg c7] at H
        have c7b0 : decide (t107 < 0) = false := decide_eq_false c7; clear c7; have H' := ak H; clear H; have p106 : 0 ≤ (x5_1 : Int) := of_decide_eq_true d2_3; have q106 : x5_1 < (l0.length : Int) := of_decide_eq_true d2_3; obtain ⟨ad106, A106_5, c106_5, e106, hx106_0, hx106_1, hx106_2, hx106_3, hx106_4, hx106_5, hl106_5, hi106_5⟩ := at_T31 HR0.out x5_1 p106 q106
        cases e106
        replace hx106_0 := (HB.out.cell (World.block_lt_of_cell? w _ hx106_0)).trans hx106_0; replace hx106_1 := (HB.out.cell (World.block_lt_of_cell? w _ hx106_1)).trans hx106_1; replace hx106_2 := (HB.out.cell (World.block_lt_of_cell? w _ hx106_2)).trans hx106_2; replace hx106_3 := (HB.out.cell (World.block_lt_of_cell? w _ hx106_3)).trans hx106_3; replace hx106_4 := (HB.out.cell (World.block_lt_of_cell? w _ hx106_4)).trans hx106_4; replace hx106_5 := (HB.out.cell (World.block_lt_of_cell? w _ hx106_5)).trans hx106_5; have HR106_5 := ak hi106_5; have HC106_5 := ak hl106_5; clear hi106_5 hl106_5; replace p106 := eq_true p106; replace q106 := eq_true q106
        go_wp2_with (first | ((with_reducible refine gate_callee (f := 9) rfl ?_); refine goesL_ (some 23) rfl rfl Try.func9 (by kernel_rfl) rfl #[.agg #[.int .i64 ((rd_T31 l0 x5_1).f0), .int .i64 ((rd_T31 l0 x5_1).f1), .int .i64 ((rd_T31 l0 x5_1).f2), .int .i64 ((rd_T31 l0 x5_1).f3), .string ((rd_T31 l0 x5_1).f4), .slice A106_5 ((rd_T31 l0 x5_1).f5).length c106_5], .int .i64 x1_1] rfl d2_4 ?_; (with_reducible refine (laws_szCore.calls k1 ((rd_T31 l0 x5_1).f0) ((rd_T31 l0 x5_1).f1) ((rd_T31 l0 x5_1).f2) ((rd_T31 l0 x5_1).f3) ((rd_T31 l0 x5_1).f4) _ _ ((rd_T31 l0 x5_1).f5) x1_1 t107 _ ?side1 ?side2 A6.out).mono ?_); (case side1 => repeat (first | exact (Kd.C_below HR106_5.out HB.out) | (with_reducible refine Kd.C_alloc ?_ _) | (with_reducible refine Kd.C_drewN ?_ _) | (with_reducible refine Kd.C_drew ?_))); (case side2 => exact HC106_5.out); rintro e w9 ⟨rfl, hb⟩; refine ⟨_, rfl, ?_⟩; have n0_ := ak (below_step d2_1 hb); clear HB; have HB := n0_; clear n0_; (try clear hb))); go_roundg k1
        case measure => have := HK1.out; omega
        case rel => exact ⟨(t107), (wrap64 (x5_1 + 1)), d2_2, d2_2, H', ⟨by have := HK1.out; omega⟩, ⟨c2_1⟩⟩
      ·rw [if_neg c5] at H
       exact absurd H (by simp)
     ·rw [if_neg c4] at H
      have c4b0 : decide (x5_1 < (l0.length : Int)) = false := decide_eq_false c4; clear c4; obtain rfl := Option.some.inj H; go_wp2; go_ret; exact ⟨c2_2, c2_1⟩

/-! ### spec_SameData: function 10 -/
def spec_SameData.l0 : Nat → List (S41) → List (S41) → Int → Option (Bool)
  | 0, _, _, _ => none
  | k + 1, x0, x1, x5 => if x5 < (x0.length : Int) then (if 0 ≤ x5 then (if x5 < (x1.length : Int) then (if (!(((rd_T41 x0 x5).f0) == ((rd_T41 x1 x5).f0)) || (!(((rd_T41 x0 x5).f1) == ((rd_T41 x1 x5).f1)) || (!(((rd_T41 x0 x5).f2) == ((rd_T41 x1 x5).f2)) || (!((((rd_T41 x0 x5).f3).toList) == (((rd_T41 x1 x5).f3).toList)))))) = true then (some false) else (spec_SameData.l0 k x0 x1 (wrap64 (x5 + 1)))) else (none)) else (none)) else (some true)
def spec_SameData.f (k : Nat) (l0 : List (S41)) (l1 : List (S41)) : Option (Bool) := if (l0.length : Int) = (l1.length : Int) then (spec_SameData.l0 k l0 l1 0) else (some false)
theorem spec_SameData.mono_l : ∀ k, (∀ y0 y1 y2, LeO (spec_SameData.l0 k y0 y1 y2) (spec_SameData.l0 (k + 1) y0 y1 y2))
  | 0 => fun _ _ _ r h => by simp [spec_SameData.l0] at h
  | k + 1 => by
    have ih0 := spec_SameData.mono_l k
    · intro y0 y1 y2
      unfold spec_SameData.l0
      repeat' first | (with_reducible first | apply ih0 | exact LeO.refl _ | exact LeO.none _ | refine LeO.ite ?_ ?_ | refine LeO.bind ?_ (fun _ => ?_)) | apply ih0 | exact LeO.none _ | refine LeO.ite ?_ ?_ | refine LeO.bind ?_ (fun _ => ?_)
theorem spec_SameData.mono : ∀ a0 a1 k, LeO (spec_SameData.f k a0 a1) (spec_SameData.f (k + 1) a0 a1) := by
  intro a0 a1 k; have ih0 := spec_SameData.mono_l k; unfold spec_SameData.f
  repeat' first | (with_reducible first | apply ih0 | exact LeO.refl _ | exact LeO.none _ | refine LeO.ite ?_ ?_ | refine LeO.bind ?_ (fun _ => ?_)) | apply ih0 | exact LeO.none _ | refine LeO.ite ?_ ?_ | refine LeO.bind ?_ (fun _ => ?_)
theorem spec_SameData.calls (k : Nat) (A0 : Option Addr) (c0 : Nat) (l0 : List (S41)) (A1 : Option Addr) (c1 : Nat) (l1 : List (S41)) (r : Bool) (w : World) (hr0 : Kd.C k41 w A0 l0.length l0) (hc0 : l0.length ≤ c0) (hr1 : Kd.C k41 w A1 l1.length l1) (hc1 : l1.length ≤ c1) (h : spec_SameData.f k l0 l1 = some r) :
    Calls Try.prog 10 #[.slice A0 l0.length c0, .slice A1 l1.length c1] w fun e w' => e = .returned (.bool r) ∧ Drawn0 w w' := by
  have hu41 := Try.underlying41; have HR0 := ak hr0; have HC0 := ak hc0; clear hr0 hc0; have HR1 := ak hr1; have HC1 := ak hc1; clear hr1 hc1; have H := h; clear h; unfold spec_SameData.f at H; by_cases c3 : (l0.length : Int) = (l1.length : Int)
  ·rw [if_pos c3] at H
   have c3b0 : ((l0.length : Int) == (l1.length : Int)) = true := beq_iff_eq.mpr c3; have c3b1 : ((l0.length : Int) != (l1.length : Int)) = false := bne_eq_false_iff_eq.mpr c3
   have c3b2 : (l0.length == l1.length) = true := by first | simpa using c3 | (simp at c3 ⊢; omega)
   clear c3; have H' := ak H; clear H; go_enter Try.func10, Try.ntmps10; go_wp2
   repeat (go_quiet (fail); try go_wp2)
   go_loopg [5] k (fun kq v5 w' => ∃ (x5_1 : Int), v5 = .int .i64 x5_1 ∧ Aside0 (spec_SameData.l0 kq l0 l1 x5_1 = some r) ∧ Aside0 (kq ≤ k) ∧ Drawn0 w w')
   case atStart => exact ⟨(0), d2_2, H', ⟨Nat.le_refl _⟩, by repeat (first | exact Drawn0.refl _ | apply Drawn0.step)⟩
   case round =>
    clear H'
    (try clear c1); (try clear p2); (try clear c3); (try clear c3b0); (try clear c3b1); (try clear c3b2)
    obtain ⟨x5_1, rfl, HA, HK1, ⟨m1, rfl⟩⟩ := hrel
    cases gk with
    | zero => exact absurd HA.out (by simp [spec_SameData.l0])
    | succ k1 =>
     have H := HA.out; clear HA; simp only [spec_SameData.l0] at H; by_cases c4 : x5_1 < (l0.length : Int)
     ·rw [if_pos c4] at H
      have c4b0 : decide (x5_1 < (l0.length : Int)) = true := decide_eq_true c4; clear c4; by_cases c5 : 0 ≤ x5_1
      ·rw [if_pos c5] at H
       have c5b0 : decide (0 ≤ x5_1) = true := decide_eq_true c5; clear c5; by_cases c6 : x5_1 < (l1.length : Int)
       ·rw [if_pos c6] at H
        have c6b0 : decide (x5_1 < (l1.length : Int)) = true := decide_eq_true c6; clear c6; by_cases c7 : (!(((rd_T41 l0 x5_1).f0) == ((rd_T41 l1 x5_1).f0)) || (!(((rd_T41 l0 x5_1).f1) == ((rd_T41 l1 x5_1).f1)) || (!(((rd_T41 l0 x5_1).f2) == ((rd_T41 l1 x5_1).f2)) || (!((((rd_T41 l0 x5_1).f3).toList) == (((rd_T41 l1 x5_1).f3).toList)))))) = true
        ·rw [if_pos c7] at H
         have c7b0 : (!(((rd_T41 l0 x5_1).f0) == ((rd_T41 l1 x5_1).f0)) || (!(((rd_T41 l0 x5_1).f1) == ((rd_T41 l1 x5_1).f1)) || (!(((rd_T41 l0 x5_1).f2) == ((rd_T41 l1 x5_1).f2)) || (!((((rd_T41 l0 x5_1).f3).toList) == (((rd_T41 l1 x5_1).f3).toList)))))) = true := c7
         (try (have c7b1 : ((!(((rd_T41 l0 x5_1).f0) == ((rd_T41 l1 x5_1).f0))) = true ∨ (!(((rd_T41 l0 x5_1).f1) == ((rd_T41 l1 x5_1).f1))) = true ∨ (!(((rd_T41 l0 x5_1).f2) == ((rd_T41 l1 x5_1).f2))) = true ∨ (!((((rd_T41 l0 x5_1).f3).toList) == (((rd_T41 l1 x5_1).f3).toList))) = true) := by simpa [eq_nil_b, ne_nil_b] using c7))
         (try (have c7b2 : ¬ ((!(((rd_T41 l0 x5_1).f0) == ((rd_T41 l1 x5_1).f0))) = false ∧ (!(((rd_T41 l0 x5_1).f1) == ((rd_T41 l1 x5_1).f1))) = false ∧ (!(((rd_T41 l0 x5_1).f2) == ((rd_T41 l1 x5_1).f2))) = false ∧ (!((((rd_T41 l0 x5_1).f3).toList) == (((rd_T41 l1 x5_1).f3).toList))) = false) := by first | (intro hh; simp [eq_nil_b, ne_nil_b, hh] at c7; done) | simpa [eq_nil_b, ne_nil_b] using c7))
         clear c7; obtain rfl := Option.some.inj H; have p108 : 0 ≤ (x5_1 : Int) := of_decide_eq_true d2_3; have q108 : x5_1 < (l0.length : Int) := of_decide_eq_true d2_3; obtain ⟨ad108, e108, hx108_0, hx108_1, hx108_2, hx108_3⟩ := at_T41 HR0.out x5_1 p108 q108
         cases e108
         replace p108 := eq_true p108; replace q108 := eq_true q108; have p109 : 0 ≤ (x5_1 : Int) := of_decide_eq_true d2_3; have q109 : x5_1 < (l1.length : Int) := of_decide_eq_true d2_3; obtain ⟨ad109, e109, hx109_0, hx109_1, hx109_2, hx109_3⟩ := at_T41 HR1.out x5_1 p109 q109
         cases e109
         replace p109 := eq_true p109; replace q109 := eq_true q109; go_wp2
         repeat (go_quiet (fail); try go_wp2)
         go_ret; exact ⟨by first | rfl | (simp; done) | (simp [*]; done) | (simp [ne_nil_b, eq_nil_b]; done), by repeat (first | exact Drawn0.refl _ | apply Drawn0.step)⟩
        ·rw [if_neg c7] at H
         have c7b0 : (!(((rd_T41 l0 x5_1).f0) == ((rd_T41 l1 x5_1).f0)) || (!(((rd_T41 l0 x5_1).f1) == ((rd_T41 l1 x5_1).f1)) || (!(((rd_T41 l0 x5_1).f2) == ((rd_T41 l1 x5_1).f2)) || (!((((rd_T41 l0 x5_1).f3).toList) == (((rd_T41 l1 x5_1).f3).toList)))))) = false := by simpa using c7
         (try (have c7b1 : ¬ ((!(((rd_T41 l0 x5_1).f0) == ((rd_T41 l1 x5_1).f0))) = true ∨ (!(((rd_T41 l0 x5_1).f1) == ((rd_T41 l1 x5_1).f1))) = true ∨ (!(((rd_T41 l0 x5_1).f2) == ((rd_T41 l1 x5_1).f2))) = true ∨ (!((((rd_T41 l0 x5_1).f3).toList) == (((rd_T41 l1 x5_1).f3).toList))) = true) := by simpa [eq_nil_b, ne_nil_b] using c7))
         (try (have c7b2 : ((!(((rd_T41 l0 x5_1).f0) == ((rd_T41 l1 x5_1).f0))) = false ∧ (!(((rd_T41 l0 x5_1).f1) == ((rd_T41 l1 x5_1).f1))) = false ∧ (!(((rd_T41 l0 x5_1).f2) == ((rd_T41 l1 x5_1).f2))) = false ∧ (!((((rd_T41 l0 x5_1).f3).toList) == (((rd_T41 l1 x5_1).f3).toList))) = false) := by first | (intro hh; simp [eq_nil_b, ne_nil_b, hh] at c7; done) | simpa [eq_nil_b, ne_nil_b] using c7))
         clear c7; have H' := ak H; clear H; have p108 : 0 ≤ (x5_1 : Int) := of_decide_eq_true d2_3; have q108 : x5_1 < (l0.length : Int) := of_decide_eq_true d2_3; obtain ⟨ad108, e108, hx108_0, hx108_1, hx108_2, hx108_3⟩ := at_T41 HR0.out x5_1 p108 q108
         cases e108
         replace p108 := eq_true p108; replace q108 := eq_true q108; have p109 : 0 ≤ (x5_1 : Int) := of_decide_eq_true d2_3; have q109 : x5_1 < (l1.length : Int) := of_decide_eq_true d2_3; obtain ⟨ad109, e109, hx109_0, hx109_1, hx109_2, hx109_3⟩ := at_T41 HR1.out x5_1 p109 q109
         cases e109
         replace p109 := eq_true p109; replace q109 := eq_true q109; go_wp2
         repeat (go_quiet (fail); try go_wp2)
         go_roundg k1
         case measure => have := HK1.out; omega
         case rel => exact ⟨(wrap64 (x5_1 + 1)), d2_2, H', ⟨by have := HK1.out; omega⟩, by repeat (first | exact Drawn0.refl _ | apply Drawn0.step)⟩
       ·rw [if_neg c6] at H
        exact absurd H (by simp)
      ·rw [if_neg c5] at H
       exact absurd H (by simp)
     ·rw [if_neg c4] at H
      have c4b0 : decide (x5_1 < (l0.length : Int)) = false := decide_eq_false c4; clear c4; obtain rfl := Option.some.inj H; go_wp2
      repeat (go_quiet (fail); try go_wp2)
      go_ret; exact ⟨by first | rfl | (simp; done) | (simp [*]; done) | (simp [ne_nil_b, eq_nil_b]; done), by repeat (first | exact Drawn0.refl _ | apply Drawn0.step)⟩
  ·rw [if_neg c3] at H
   have c3b0 : ((l0.length : Int) == (l1.length : Int)) = false := beq_eq_false_iff_ne.mpr c3; have c3b1 : ((l0.length : Int) != (l1.length : Int)) = true := bne_iff_ne.mpr c3
   have c3b2 : (l0.length == l1.length) = false := by first | simpa using c3 | (simp at c3 ⊢; omega)
   obtain rfl := Option.some.inj H; go_enter Try.func10, Try.ntmps10; go_wp2
   repeat (go_quiet (fail); try go_wp2)
   go_ret; exact ⟨by first | rfl | (simp; done) | (simp [*]; done) | (simp [ne_nil_b, eq_nil_b]; done), by repeat (first | exact Drawn0.refl _ | apply Drawn0.step)⟩

end Go.Proofs.Ytgbgioodifcdbaa.C
