/- Walks of the program's functions: each Go function's answer as a plain Lean function, and that the call comes to it. Written by a program. Conditions: those in each theorem's own head. -/
import Derived.Test.YtcliaceiijaafaaDoorC0
namespace Go.Proofs.YtcliaceiijaafaaDoor.C
open Go.RowKit Go.Proofs.YtcliaceiijaafaaDoorW.PrintWords Go.Proofs.YtcliaceiijaafaaDoorW.PrintLast Go.Proofs.YtcliaceiijaafaaDoorW.PrintMore
attribute [local go_sem] max2_int min2_int max_two min_two max_three min_three max_four min_four   -- for this text's walks alone
set_option linter.unusedVariables false
set_option linter.unusedSimpArgs false

theorem d1_1 {p : Prop} (h : p := by (try simp only [List.map_toArray, List.map_cons, List.map_nil]); first | done | rfl | (simp only [List.length_drop, List.length_take]; rfl)) : p := h
theorem d1_2 {p : Prop} (h : p := by repeat (first | (with_reducible first | exact HB.out | apply below_alloc | apply pw_below_drewN | apply below_drew1) | exact HB.out)) : p := h
theorem d1_3 {p : Prop} (h : p := by first | rfl | (simp; done) | (simp [*]; done) | (simp [ne_nil_b, eq_nil_b]; done)) : p := h
theorem d1_4 {p : Prop} (h : p := by first | (with_reducible assumption) | assumption) : p := h

/-! ### laws_szDatum: function 113 -/
def laws_szDatum.f (a0_0 : Int) (a0_1 : Int) (a0_2 : Int) (a0_3 : ByteArray) (a1 : Int) : Option (Int) := if (wrap64 (a1 - (a0_3.size : Int))) < 0 then (some (-1)) else (some (wrap64 (a1 - (a0_3.size : Int))))
set_option maxHeartbeats 8000000 in
set_option maxRecDepth 100000 in
theorem laws_szDatum.calls (a0_0 : Int) (a0_1 : Int) (a0_2 : Int) (a0_3 : ByteArray) (a1 : Int) (r : Int) (w : World) (h : laws_szDatum.f a0_0 a0_1 a0_2 a0_3 a1 = some r) :
    Calls Tryd.prog 113 #[.agg #[.int .i64 a0_0, .int .i64 a0_1, .int .i64 a0_2, .string a0_3], .int .i64 a1] w fun e w' => e = .returned (.int .i64 r) ∧ Below w.heap.size w w' := by
  have hu139 := Tryd.underlying139
  have HB := ak (Below.refl w.heap.size w)
  have H : (if (wrap64 (a1 - (a0_3.size : Int))) < 0 then (some (-1)) else (some (wrap64 (a1 - (a0_3.size : Int))))) = some r := h
  clear h
  by_cases c3 : (wrap64 (a1 - (a0_3.size : Int))) < 0
  ·rw [if_pos c3] at H
   have c3b0 : decide ((wrap64 (a1 - (a0_3.size : Int))) < 0) = true := decide_eq_true c3
   clear c3
   obtain rfl := Option.some.inj H
   go_enter Tryd.func113, Tryd.ntmps113
   go_wp2_with (first | ((with_reducible refine gate_dst (N := 2) rfl ?_); refine box_event ?hg (N := 2) ?hd (cs := #[.int .i64 a0_0, .int .i64 a0_1, .int .i64 a0_2, .string a0_3]) (t := 139) ?hr ?_; (case hd => rfl); (case hg => rfl); (case hr => first | (go_simp; done) | (go_simp; rfl)); intro gb101 hg w4 hbox hb; have n0_ := ak (below_step d1_2 hb); have n1_ := ak (hbox); have n2_ := ak ((by rw [hg]; exact (below_size d1_2) : w.heap.size ≤ gb101)); have n3_ := ak ((by rw [hg]; exact (below_size d1_2) : w.heap.size ≤ gb101)); clear HB; have HB := n0_; have BK101 := n1_; have GW101 := n2_; have GE101 := n3_; clear n0_ n1_ n2_ n3_ hb hbox hg; have hcz5_0 : w4.cell? ⟨gb101, 0, none⟩ = some (.int .i64 a0_0) := (blk_cell BK101.out 0).trans rfl; have hcz5_1 : w4.cell? ⟨gb101, 1, none⟩ = some (.int .i64 a0_1) := (blk_cell BK101.out 1).trans rfl; have hcz5_2 : w4.cell? ⟨gb101, 2, none⟩ = some (.int .i64 a0_2) := (blk_cell BK101.out 2).trans rfl; have hcz5_3 : w4.cell? ⟨gb101, 3, none⟩ = some (.string a0_3) := (blk_cell BK101.out 3).trans rfl; have hfz5_0 := blk_frozen BK101.out 0; have hfz5_1 := blk_frozen BK101.out 1; have hfz5_2 := blk_frozen BK101.out 2; have hfz5_3 := blk_frozen BK101.out 3))
   go_ret
   exact ⟨by first | rfl | (simp [errW_none, errW_some] <;> rfl) | (simp [*, errW_none, errW_some] <;> rfl), by repeat (first | (with_reducible first | exact HB.out | apply below_alloc | apply pw_below_drewN | apply below_drew1 | refine below_set ?_ GE101.out) | exact HB.out)⟩
  ·rw [if_neg c3] at H
   have c3b0 : decide ((wrap64 (a1 - (a0_3.size : Int))) < 0) = false := decide_eq_false c3
   clear c3
   obtain rfl := Option.some.inj H
   go_enter Tryd.func113, Tryd.ntmps113
   go_wp2_with (first | ((with_reducible refine gate_dst (N := 2) rfl ?_); refine box_event ?hg (N := 2) ?hd (cs := #[.int .i64 a0_0, .int .i64 a0_1, .int .i64 a0_2, .string a0_3]) (t := 139) ?hr ?_; (case hd => rfl); (case hg => rfl); (case hr => first | (go_simp; done) | (go_simp; rfl)); intro gb101 hg w6 hbox hb; have n0_ := ak (below_step d1_2 hb); have n1_ := ak (hbox); have n2_ := ak ((by rw [hg]; exact (below_size d1_2) : w.heap.size ≤ gb101)); have n3_ := ak ((by rw [hg]; exact (below_size d1_2) : w.heap.size ≤ gb101)); clear HB; have HB := n0_; have BK101 := n1_; have GW101 := n2_; have GE101 := n3_; clear n0_ n1_ n2_ n3_ hb hbox hg; have hcz7_0 : w6.cell? ⟨gb101, 0, none⟩ = some (.int .i64 a0_0) := (blk_cell BK101.out 0).trans rfl; have hcz7_1 : w6.cell? ⟨gb101, 1, none⟩ = some (.int .i64 a0_1) := (blk_cell BK101.out 1).trans rfl; have hcz7_2 : w6.cell? ⟨gb101, 2, none⟩ = some (.int .i64 a0_2) := (blk_cell BK101.out 2).trans rfl; have hcz7_3 : w6.cell? ⟨gb101, 3, none⟩ = some (.string a0_3) := (blk_cell BK101.out 3).trans rfl; have hfz7_0 := blk_frozen BK101.out 0; have hfz7_1 := blk_frozen BK101.out 1; have hfz7_2 := blk_frozen BK101.out 2; have hfz7_3 := blk_frozen BK101.out 3))
   go_ret
   exact ⟨by first | rfl | (simp [errW_none, errW_some] <;> rfl) | (simp [*, errW_none, errW_some] <;> rfl), by repeat (first | (with_reducible first | exact HB.out | apply below_alloc | apply pw_below_drewN | apply below_drew1 | refine below_set ?_ GE101.out) | exact HB.out)⟩

/-! ### laws_szDatumS: function 89 -/
def laws_szDatumS.l0 : Nat → List (S139) → Int → Int → Option (Int)
  | 0, _, _, _ => none
  | k + 1, x0, x1, x5 => if x5 < (x0.length : Int) then (if 0 ≤ x5 then ((laws_szDatum.f ((rd_T139 x0 x5).f0) ((rd_T139 x0 x5).f1) ((rd_T139 x0 x5).f2) ((rd_T139 x0 x5).f3) x1).bind fun t103 => (if t103 < 0 then (some (-1)) else (laws_szDatumS.l0 k x0 t103 (wrap64 (x5 + 1))))) else (none)) else (some x1)
def laws_szDatumS.f (k : Nat) (l0 : List (S139)) (a1 : Int) : Option (Int) := if (wrap64 (a1 - (l0.length : Int))) < 0 then (some (-1)) else (laws_szDatumS.l0 k l0 (wrap64 (a1 - (l0.length : Int))) 0)
theorem laws_szDatumS.mono_l : ∀ k, (∀ y0 y1 y2, LeO (laws_szDatumS.l0 k y0 y1 y2) (laws_szDatumS.l0 (k + 1) y0 y1 y2))
  | 0 => fun _ _ _ r h => by simp [laws_szDatumS.l0] at h
  | k + 1 => by
    have ih0 := laws_szDatumS.mono_l k
    · intro y0 y1 y2
      unfold laws_szDatumS.l0
      repeat' first
      | (with_reducible exact ih0 _ _ _)
      | (with_reducible exact LeO.refl _)
      | (with_reducible exact LeO.none _)
      | (with_reducible refine LeO.ite ?_ ?_)
      | (with_reducible refine LeO.bind ?_ (fun _ => ?_))
      | exact ih0 _ _ _
      | exact LeO.none _
      | refine LeO.ite ?_ ?_
      | refine LeO.bind ?_ (fun _ => ?_)
theorem laws_szDatumS.mono : ∀ a0 a1 k, LeO (laws_szDatumS.f k a0 a1) (laws_szDatumS.f (k + 1) a0 a1) := by
  intro a0 a1 k
  have ih0 := laws_szDatumS.mono_l k
  unfold laws_szDatumS.f
  repeat' first
      | (with_reducible exact ih0 _ _ _)
      | (with_reducible exact LeO.refl _)
      | (with_reducible exact LeO.none _)
      | (with_reducible refine LeO.ite ?_ ?_)
      | (with_reducible refine LeO.bind ?_ (fun _ => ?_))
      | exact ih0 _ _ _
      | exact LeO.none _
      | refine LeO.ite ?_ ?_
      | refine LeO.bind ?_ (fun _ => ?_)
set_option maxHeartbeats 8000000 in
set_option maxRecDepth 100000 in
theorem laws_szDatumS.calls (k : Nat) (A0 : Option Addr) (c0 : Nat) (l0 : List (S139)) (a1 : Int) (r : Int) (w : World) (hr0 : Kd.C k139 w A0 l0.length l0) (hc0 : l0.length ≤ c0) (h : laws_szDatumS.f k l0 a1 = some r) :
    Calls Tryd.prog 89 #[.slice A0 l0.length c0, .int .i64 a1] w fun e w' => e = .returned (.int .i64 r) ∧ Below w.heap.size w w' := by
  have hu139 := Tryd.underlying139
  have HR0 := ak hr0
  have HC0 := ak hc0
  clear hr0 hc0
  have HB := ak (Below.refl w.heap.size w)
  have H : (if (wrap64 (a1 - (l0.length : Int))) < 0 then (some (-1)) else (laws_szDatumS.l0 k l0 (wrap64 (a1 - (l0.length : Int))) 0)) = some r := h
  clear h
  by_cases c3 : (wrap64 (a1 - (l0.length : Int))) < 0
  ·rw [if_pos c3] at H
   have c3b0 : decide ((wrap64 (a1 - (l0.length : Int))) < 0) = true := decide_eq_true c3
   clear c3
   obtain rfl := Option.some.inj H
   go_enter Tryd.func89, Tryd.ntmps89
   go_wp2
   go_ret
   exact ⟨by first | rfl | (simp [errW_none, errW_some] <;> rfl) | (simp [*, errW_none, errW_some] <;> rfl), by repeat (first | (with_reducible first | exact HB.out | apply below_alloc | apply pw_below_drewN | apply below_drew1) | exact HB.out)⟩
  ·rw [if_neg c3] at H
   have c3b0 : decide ((wrap64 (a1 - (l0.length : Int))) < 0) = false := decide_eq_false c3
   clear c3
   have H' := ak H
   clear H
   go_enter Tryd.func89, Tryd.ntmps89
   go_wp2
   go_loopg [1, 5] k (fun kq v1 v5 w' => ∃ (x1_1 : Int) (x5_1 : Int), v1 = .int .i64 x1_1 ∧ v5 = .int .i64 x5_1 ∧ Aside0 (laws_szDatumS.l0 kq l0 x1_1 x5_1 = some r) ∧ Aside0 (kq ≤ k) ∧ Aside0 (Below w.heap.size w w'))
   case atStart => exact ⟨(wrap64 (a1 - (l0.length : Int))), (0), d1_3, d1_3, H', ⟨Nat.le_refl _⟩, ⟨by repeat (first | (with_reducible first | exact HB.out | apply below_alloc | apply pw_below_drewN | apply below_drew1) | exact HB.out)⟩⟩
   case round =>
    clear H'
    try clear p2
    try clear c3
    try clear c3b0
    obtain ⟨x1_1, x5_1, rfl, rfl, HA, HK1, HB⟩ := hrel
    cases gk with
    | zero => exact absurd HA.out (by simp [laws_szDatumS.l0])
    | succ k1 =>
     have H := HA.out
     clear HA
     simp only [laws_szDatumS.l0] at H
     by_cases c4 : x5_1 < (l0.length : Int)
     ·rw [if_pos c4] at H
      have c4b0 : decide (x5_1 < (l0.length : Int)) = true := decide_eq_true c4
      clear c4
      by_cases c5 : 0 ≤ x5_1
      ·rw [if_pos c5] at H
       have c5b0 : decide (0 ≤ x5_1) = true := decide_eq_true c5
       clear c5
       replace H := Option.bind_eq_some_iff.mp H
       obtain ⟨t103, A60, H⟩ := H
       replace H : (if t103 < 0 then (some (-1)) else (laws_szDatumS.l0 k1 l0 t103 (wrap64 (x5_1 + 1)))) = some r := H
       have A6 := ak A60
       clear A60
       by_cases c7 : t103 < 0
       ·rw [if_pos c7] at H
        have c7b0 : decide (t103 < 0) = true := decide_eq_true c7
        clear c7
        obtain rfl := Option.some.inj H
        have p102 : 0 ≤ (x5_1 : Int) := of_decide_eq_true d1_4
        have q102 : x5_1 < (l0.length : Int) := of_decide_eq_true d1_4
        obtain ⟨ad102, e102, hx102_0, hx102_1, hx102_2, hx102_3⟩ := at_T139 HR0.out x5_1 p102 q102
        cases e102
        replace hx102_0 := (HB.out.cell (World.block_lt_of_cell? w _ hx102_0)).trans hx102_0
        replace hx102_1 := (HB.out.cell (World.block_lt_of_cell? w _ hx102_1)).trans hx102_1
        replace hx102_2 := (HB.out.cell (World.block_lt_of_cell? w _ hx102_2)).trans hx102_2
        replace hx102_3 := (HB.out.cell (World.block_lt_of_cell? w _ hx102_3)).trans hx102_3
        replace p102 := eq_true p102
        replace q102 := eq_true q102
        go_wp2_with (first | ((with_reducible refine gate_callee (f := 113) rfl ?_); refine goesL_ (some 23) rfl rfl Tryd.func113 (by kernel_rfl) rfl #[.agg #[.int .i64 ((rd_T139 l0 x5_1).f0), .int .i64 ((rd_T139 l0 x5_1).f1), .int .i64 ((rd_T139 l0 x5_1).f2), .string ((rd_T139 l0 x5_1).f3)], .int .i64 x1_1] rfl d1_1 ?_; (with_reducible refine (laws_szDatum.calls ((rd_T139 l0 x5_1).f0) ((rd_T139 l0 x5_1).f1) ((rd_T139 l0 x5_1).f2) ((rd_T139 l0 x5_1).f3) x1_1 t103 _ A6.out).mono ?_); rintro e w8 ⟨rfl, hb⟩; refine ⟨_, rfl, ?_⟩; have n0_ := ak (below_step d1_2 hb); clear HB; have HB := n0_; clear n0_; (try clear hb)))
        go_ret
        exact ⟨by first | rfl | (simp [errW_none, errW_some] <;> rfl) | (simp [*, errW_none, errW_some] <;> rfl), by repeat (first | (with_reducible first | exact HB.out | apply below_alloc | apply pw_below_drewN | apply below_drew1) | exact HB.out)⟩
       ·rw [if_neg c7] at H
        have c7b0 : decide (t103 < 0) = false := decide_eq_false c7
        clear c7
        have H' := ak H
        clear H
        have p102 : 0 ≤ (x5_1 : Int) := of_decide_eq_true d1_4
        have q102 : x5_1 < (l0.length : Int) := of_decide_eq_true d1_4
        obtain ⟨ad102, e102, hx102_0, hx102_1, hx102_2, hx102_3⟩ := at_T139 HR0.out x5_1 p102 q102
        cases e102
        replace hx102_0 := (HB.out.cell (World.block_lt_of_cell? w _ hx102_0)).trans hx102_0
        replace hx102_1 := (HB.out.cell (World.block_lt_of_cell? w _ hx102_1)).trans hx102_1
        replace hx102_2 := (HB.out.cell (World.block_lt_of_cell? w _ hx102_2)).trans hx102_2
        replace hx102_3 := (HB.out.cell (World.block_lt_of_cell? w _ hx102_3)).trans hx102_3
        replace p102 := eq_true p102
        replace q102 := eq_true q102
        go_wp2_with (first | ((with_reducible refine gate_callee (f := 113) rfl ?_); refine goesL_ (some 23) rfl rfl Tryd.func113 (by kernel_rfl) rfl #[.agg #[.int .i64 ((rd_T139 l0 x5_1).f0), .int .i64 ((rd_T139 l0 x5_1).f1), .int .i64 ((rd_T139 l0 x5_1).f2), .string ((rd_T139 l0 x5_1).f3)], .int .i64 x1_1] rfl d1_1 ?_; (with_reducible refine (laws_szDatum.calls ((rd_T139 l0 x5_1).f0) ((rd_T139 l0 x5_1).f1) ((rd_T139 l0 x5_1).f2) ((rd_T139 l0 x5_1).f3) x1_1 t103 _ A6.out).mono ?_); rintro e w9 ⟨rfl, hb⟩; refine ⟨_, rfl, ?_⟩; have n0_ := ak (below_step d1_2 hb); clear HB; have HB := n0_; clear n0_; (try clear hb)))
        go_roundg k1
        case measure => have := HK1.out; omega
        case rel => exact ⟨(t103), (wrap64 (x5_1 + 1)), d1_3, d1_3, H', ⟨by have := HK1.out; omega⟩, ⟨by repeat (first | (with_reducible first | exact HB.out | apply below_alloc | apply pw_below_drewN | apply below_drew1) | exact HB.out)⟩⟩
      ·rw [if_neg c5] at H
       exact absurd H (by simp)
     ·rw [if_neg c4] at H
      have c4b0 : decide (x5_1 < (l0.length : Int)) = false := decide_eq_false c4
      clear c4
      obtain rfl := Option.some.inj H
      go_wp2
      go_ret
      exact ⟨by first | rfl | (simp [errW_none, errW_some] <;> rfl) | (simp [*, errW_none, errW_some] <;> rfl), by repeat (first | (with_reducible first | exact HB.out | apply below_alloc | apply pw_below_drewN | apply below_drew1) | exact HB.out)⟩

/-! ### laws_szCore: function 58 -/
def laws_szCore.f (k : Nat) (a0_0 : Int) (a0_1 : Int) (a0_2 : Int) (a0_3 : Int) (a0_4 : ByteArray) (l0_5 : List (S139)) (a1 : Int) : Option (Int) := if (wrap64 (a1 - (a0_4.size : Int))) < 0 then (some (-1)) else ((laws_szDatumS.f k l0_5 (wrap64 (a1 - (a0_4.size : Int)))).bind fun t105 => (if t105 < 0 then (some (-1)) else (some t105)))
theorem laws_szCore.mono : ∀ a0 a1 a2 a3 a4 a5 a6 k, LeO (laws_szCore.f k a0 a1 a2 a3 a4 a5 a6) (laws_szCore.f (k + 1) a0 a1 a2 a3 a4 a5 a6) := by
  intro a0 a1 a2 a3 a4 a5 a6 k
  unfold laws_szCore.f
  repeat' first
      | (with_reducible exact laws_szDatumS.mono _ _ _)
      | (with_reducible exact LeO.refl _)
      | (with_reducible exact LeO.none _)
      | (with_reducible refine LeO.ite ?_ ?_)
      | (with_reducible refine LeO.bind ?_ (fun _ => ?_))
      | exact laws_szDatumS.mono _ _ _
      | exact LeO.none _
      | refine LeO.ite ?_ ?_
      | refine LeO.bind ?_ (fun _ => ?_)
set_option maxHeartbeats 8000000 in
set_option maxRecDepth 100000 in
theorem laws_szCore.calls (k : Nat) (a0_0 : Int) (a0_1 : Int) (a0_2 : Int) (a0_3 : Int) (a0_4 : ByteArray) (A0_5 : Option Addr) (c0_5 : Nat) (l0_5 : List (S139)) (a1 : Int) (r : Int) (w : World) (hr0_5 : Kd.C k139 w A0_5 l0_5.length l0_5) (hc0_5 : l0_5.length ≤ c0_5) (h : laws_szCore.f k a0_0 a0_1 a0_2 a0_3 a0_4 l0_5 a1 = some r) :
    Calls Tryd.prog 58 #[.agg #[.int .i64 a0_0, .int .i64 a0_1, .int .i64 a0_2, .int .i64 a0_3, .string a0_4, .slice A0_5 l0_5.length c0_5], .int .i64 a1] w fun e w' => e = .returned (.int .i64 r) ∧ Below w.heap.size w w' := by
  have hu90 := Tryd.underlying90
  have HR0_5 := ak hr0_5
  have HC0_5 := ak hc0_5
  clear hr0_5 hc0_5
  have HB := ak (Below.refl w.heap.size w)
  have H : (if (wrap64 (a1 - (a0_4.size : Int))) < 0 then (some (-1)) else ((laws_szDatumS.f k l0_5 (wrap64 (a1 - (a0_4.size : Int)))).bind fun t105 => (if t105 < 0 then (some (-1)) else (some t105)))) = some r := h
  clear h
  by_cases c3 : (wrap64 (a1 - (a0_4.size : Int))) < 0
  ·rw [if_pos c3] at H
   have c3b0 : decide ((wrap64 (a1 - (a0_4.size : Int))) < 0) = true := decide_eq_true c3
   clear c3
   obtain rfl := Option.some.inj H
   go_enter Tryd.func58, Tryd.ntmps58
   go_wp2_with (first | ((with_reducible refine gate_dst (N := 2) rfl ?_); refine box_event ?hg (N := 2) ?hd (cs := #[.int .i64 a0_0, .int .i64 a0_1, .int .i64 a0_2, .int .i64 a0_3, .string a0_4, .slice A0_5 l0_5.length c0_5]) (t := 90) ?hr ?_; (case hd => rfl); (case hg => rfl); (case hr => first | (go_simp; done) | (go_simp; rfl)); intro gb104 hg w4 hbox hb; have n0_ := ak (below_step d1_2 hb); have n1_ := ak (hbox); have n2_ := ak ((by rw [hg]; exact (below_size d1_2) : w.heap.size ≤ gb104)); have n3_ := ak ((by rw [hg]; exact (below_size d1_2) : w.heap.size ≤ gb104)); clear HB; have HB := n0_; have BK104 := n1_; have GW104 := n2_; have GE104 := n3_; clear n0_ n1_ n2_ n3_ hb hbox hg; have hcz5_0 : w4.cell? ⟨gb104, 0, none⟩ = some (.int .i64 a0_0) := (blk_cell BK104.out 0).trans rfl; have hcz5_1 : w4.cell? ⟨gb104, 1, none⟩ = some (.int .i64 a0_1) := (blk_cell BK104.out 1).trans rfl; have hcz5_2 : w4.cell? ⟨gb104, 2, none⟩ = some (.int .i64 a0_2) := (blk_cell BK104.out 2).trans rfl; have hcz5_3 : w4.cell? ⟨gb104, 3, none⟩ = some (.int .i64 a0_3) := (blk_cell BK104.out 3).trans rfl; have hcz5_4 : w4.cell? ⟨gb104, 4, none⟩ = some (.string a0_4) := (blk_cell BK104.out 4).trans rfl; have hcz5_5 : w4.cell? ⟨gb104, 5, none⟩ = some (.slice A0_5 l0_5.length c0_5) := (blk_cell BK104.out 5).trans rfl; have hfz5_0 := blk_frozen BK104.out 0; have hfz5_1 := blk_frozen BK104.out 1; have hfz5_2 := blk_frozen BK104.out 2; have hfz5_3 := blk_frozen BK104.out 3; have hfz5_4 := blk_frozen BK104.out 4; have hfz5_5 := blk_frozen BK104.out 5))
   go_ret
   exact ⟨by first | rfl | (simp [errW_none, errW_some] <;> rfl) | (simp [*, errW_none, errW_some] <;> rfl), by repeat (first | (with_reducible first | exact HB.out | apply below_alloc | apply pw_below_drewN | apply below_drew1 | refine below_set ?_ GE104.out) | exact HB.out)⟩
  ·rw [if_neg c3] at H
   have c3b0 : decide ((wrap64 (a1 - (a0_4.size : Int))) < 0) = false := decide_eq_false c3
   clear c3
   replace H := Option.bind_eq_some_iff.mp H
   obtain ⟨t105, A60, H⟩ := H
   replace H : (if t105 < 0 then (some (-1)) else (some t105)) = some r := H
   have A6 := ak A60
   clear A60
   by_cases c7 : t105 < 0
   ·rw [if_pos c7] at H
    have c7b0 : decide (t105 < 0) = true := decide_eq_true c7
    clear c7
    obtain rfl := Option.some.inj H
    go_enter Tryd.func58, Tryd.ntmps58
    go_wp2_with (first | ((with_reducible refine gate_dst (N := 2) rfl ?_); refine box_event ?hg (N := 2) ?hd (cs := #[.int .i64 a0_0, .int .i64 a0_1, .int .i64 a0_2, .int .i64 a0_3, .string a0_4, .slice A0_5 l0_5.length c0_5]) (t := 90) ?hr ?_; (case hd => rfl); (case hg => rfl); (case hr => first | (go_simp; done) | (go_simp; rfl)); intro gb104 hg w8 hbox hb; have n0_ := ak (below_step d1_2 hb); have n1_ := ak (hbox); have n2_ := ak ((by rw [hg]; exact (below_size d1_2) : w.heap.size ≤ gb104)); have n3_ := ak ((by rw [hg]; exact (below_size d1_2) : w.heap.size ≤ gb104)); clear HB; have HB := n0_; have BK104 := n1_; have GW104 := n2_; have GE104 := n3_; clear n0_ n1_ n2_ n3_ hb hbox hg; have hcz9_0 : w8.cell? ⟨gb104, 0, none⟩ = some (.int .i64 a0_0) := (blk_cell BK104.out 0).trans rfl; have hcz9_1 : w8.cell? ⟨gb104, 1, none⟩ = some (.int .i64 a0_1) := (blk_cell BK104.out 1).trans rfl; have hcz9_2 : w8.cell? ⟨gb104, 2, none⟩ = some (.int .i64 a0_2) := (blk_cell BK104.out 2).trans rfl; have hcz9_3 : w8.cell? ⟨gb104, 3, none⟩ = some (.int .i64 a0_3) := (blk_cell BK104.out 3).trans rfl; have hcz9_4 : w8.cell? ⟨gb104, 4, none⟩ = some (.string a0_4) := (blk_cell BK104.out 4).trans rfl; have hcz9_5 : w8.cell? ⟨gb104, 5, none⟩ = some (.slice A0_5 l0_5.length c0_5) := (blk_cell BK104.out 5).trans rfl; have hfz9_0 := blk_frozen BK104.out 0; have hfz9_1 := blk_frozen BK104.out 1; have hfz9_2 := blk_frozen BK104.out 2; have hfz9_3 := blk_frozen BK104.out 3; have hfz9_4 := blk_frozen BK104.out 4; have hfz9_5 := blk_frozen BK104.out 5) | ((with_reducible refine gate_callee (f := 89) rfl ?_); refine goesL_ (some 15) rfl rfl Tryd.func89 (by kernel_rfl) rfl #[.slice A0_5 l0_5.length c0_5, .int .i64 (wrap64 (a1 - (a0_4.size : Int)))] rfl d1_1 ?_; (with_reducible refine (laws_szDatumS.calls k _ _ l0_5 (wrap64 (a1 - (a0_4.size : Int))) t105 _ ?side1 ?side2 A6.out).mono ?_); (case side1 => repeat (first | exact (Kd.C_below HR0_5.out HB.out) | (with_reducible refine Kd.C_alloc ?_ _) | (with_reducible refine Kd.C_drewN ?_ _) | (with_reducible refine Kd.C_drew ?_))); (case side2 => exact HC0_5.out); rintro e w10 ⟨rfl, hb⟩; refine ⟨_, rfl, ?_⟩; have n0_ := ak (blk_below (g := gb104) (o := .cells #[.int .i64 a0_0, .int .i64 a0_1, .int .i64 a0_2, .int .i64 a0_3, .string a0_4, .slice A0_5 l0_5.length c0_5] 90 (0, 0)) (by (with_reducible repeat (first | refine blk_drewN ?_ _ | refine blk_drew ?_ | refine blk_alloc ?_ _)); exact BK104.out) hb); have n1_ := ak (below_step (by repeat (first | (with_reducible first | exact HB.out | apply below_alloc | apply pw_below_drewN | apply below_drew1 | refine below_set ?_ GE104.out) | exact HB.out)) hb); clear BK104 HB; have BK104 := n0_; have HB := n1_; clear n0_ n1_; (try clear hb)))
    go_ret
    exact ⟨by first | rfl | (simp [errW_none, errW_some] <;> rfl) | (simp [*, errW_none, errW_some] <;> rfl), by repeat (first | (with_reducible first | exact HB.out | apply below_alloc | apply pw_below_drewN | apply below_drew1 | refine below_set ?_ GE104.out) | exact HB.out)⟩
   ·rw [if_neg c7] at H
    have c7b0 : decide (t105 < 0) = false := decide_eq_false c7
    clear c7
    obtain rfl := Option.some.inj H
    go_enter Tryd.func58, Tryd.ntmps58
    go_wp2_with (first | ((with_reducible refine gate_dst (N := 2) rfl ?_); refine box_event ?hg (N := 2) ?hd (cs := #[.int .i64 a0_0, .int .i64 a0_1, .int .i64 a0_2, .int .i64 a0_3, .string a0_4, .slice A0_5 l0_5.length c0_5]) (t := 90) ?hr ?_; (case hd => rfl); (case hg => rfl); (case hr => first | (go_simp; done) | (go_simp; rfl)); intro gb104 hg w11 hbox hb; have n0_ := ak (below_step d1_2 hb); have n1_ := ak (hbox); have n2_ := ak ((by rw [hg]; exact (below_size d1_2) : w.heap.size ≤ gb104)); have n3_ := ak ((by rw [hg]; exact (below_size d1_2) : w.heap.size ≤ gb104)); clear HB; have HB := n0_; have BK104 := n1_; have GW104 := n2_; have GE104 := n3_; clear n0_ n1_ n2_ n3_ hb hbox hg; have hcz12_0 : w11.cell? ⟨gb104, 0, none⟩ = some (.int .i64 a0_0) := (blk_cell BK104.out 0).trans rfl; have hcz12_1 : w11.cell? ⟨gb104, 1, none⟩ = some (.int .i64 a0_1) := (blk_cell BK104.out 1).trans rfl; have hcz12_2 : w11.cell? ⟨gb104, 2, none⟩ = some (.int .i64 a0_2) := (blk_cell BK104.out 2).trans rfl; have hcz12_3 : w11.cell? ⟨gb104, 3, none⟩ = some (.int .i64 a0_3) := (blk_cell BK104.out 3).trans rfl; have hcz12_4 : w11.cell? ⟨gb104, 4, none⟩ = some (.string a0_4) := (blk_cell BK104.out 4).trans rfl; have hcz12_5 : w11.cell? ⟨gb104, 5, none⟩ = some (.slice A0_5 l0_5.length c0_5) := (blk_cell BK104.out 5).trans rfl; have hfz12_0 := blk_frozen BK104.out 0; have hfz12_1 := blk_frozen BK104.out 1; have hfz12_2 := blk_frozen BK104.out 2; have hfz12_3 := blk_frozen BK104.out 3; have hfz12_4 := blk_frozen BK104.out 4; have hfz12_5 := blk_frozen BK104.out 5) | ((with_reducible refine gate_callee (f := 89) rfl ?_); refine goesL_ (some 15) rfl rfl Tryd.func89 (by kernel_rfl) rfl #[.slice A0_5 l0_5.length c0_5, .int .i64 (wrap64 (a1 - (a0_4.size : Int)))] rfl d1_1 ?_; (with_reducible refine (laws_szDatumS.calls k _ _ l0_5 (wrap64 (a1 - (a0_4.size : Int))) t105 _ ?side1 ?side2 A6.out).mono ?_); (case side1 => repeat (first | exact (Kd.C_below HR0_5.out HB.out) | (with_reducible refine Kd.C_alloc ?_ _) | (with_reducible refine Kd.C_drewN ?_ _) | (with_reducible refine Kd.C_drew ?_))); (case side2 => exact HC0_5.out); rintro e w13 ⟨rfl, hb⟩; refine ⟨_, rfl, ?_⟩; have n0_ := ak (blk_below (g := gb104) (o := .cells #[.int .i64 a0_0, .int .i64 a0_1, .int .i64 a0_2, .int .i64 a0_3, .string a0_4, .slice A0_5 l0_5.length c0_5] 90 (0, 0)) (by (with_reducible repeat (first | refine blk_drewN ?_ _ | refine blk_drew ?_ | refine blk_alloc ?_ _)); exact BK104.out) hb); have n1_ := ak (below_step (by repeat (first | (with_reducible first | exact HB.out | apply below_alloc | apply pw_below_drewN | apply below_drew1 | refine below_set ?_ GE104.out) | exact HB.out)) hb); clear BK104 HB; have BK104 := n0_; have HB := n1_; clear n0_ n1_; (try clear hb)))
    go_ret
    exact ⟨by first | rfl | (simp [errW_none, errW_some] <;> rfl) | (simp [*, errW_none, errW_some] <;> rfl), by repeat (first | (with_reducible first | exact HB.out | apply below_alloc | apply pw_below_drewN | apply below_drew1 | refine below_set ?_ GE104.out) | exact HB.out)⟩

/-! ### laws_szCoreS: function 24 -/
def laws_szCoreS.l0 : Nat → List (S90) → Int → Int → Option (Int)
  | 0, _, _, _ => none
  | k + 1, x0, x1, x5 => if x5 < (x0.length : Int) then (if 0 ≤ x5 then ((laws_szCore.f k ((rd_T90 x0 x5).f0) ((rd_T90 x0 x5).f1) ((rd_T90 x0 x5).f2) ((rd_T90 x0 x5).f3) ((rd_T90 x0 x5).f4) ((rd_T90 x0 x5).f5) x1).bind fun t107 => (if t107 < 0 then (some (-1)) else (laws_szCoreS.l0 k x0 t107 (wrap64 (x5 + 1))))) else (none)) else (some x1)
def laws_szCoreS.f (k : Nat) (l0 : List (S90)) (a1 : Int) : Option (Int) := if (wrap64 (a1 - (l0.length : Int))) < 0 then (some (-1)) else (laws_szCoreS.l0 k l0 (wrap64 (a1 - (l0.length : Int))) 0)
theorem laws_szCoreS.mono_l : ∀ k, (∀ y0 y1 y2, LeO (laws_szCoreS.l0 k y0 y1 y2) (laws_szCoreS.l0 (k + 1) y0 y1 y2))
  | 0 => fun _ _ _ r h => by simp [laws_szCoreS.l0] at h
  | k + 1 => by
    have ih0 := laws_szCoreS.mono_l k
    · intro y0 y1 y2
      unfold laws_szCoreS.l0
      repeat' first
      | (with_reducible exact ih0 _ _ _)
      | (with_reducible exact laws_szCore.mono _ _ _ _ _ _ _ _)
      | (with_reducible exact LeO.refl _)
      | (with_reducible exact LeO.none _)
      | (with_reducible refine LeO.ite ?_ ?_)
      | (with_reducible refine LeO.bind ?_ (fun _ => ?_))
      | exact ih0 _ _ _
      | exact laws_szCore.mono _ _ _ _ _ _ _ _
      | exact LeO.none _
      | refine LeO.ite ?_ ?_
      | refine LeO.bind ?_ (fun _ => ?_)
theorem laws_szCoreS.mono : ∀ a0 a1 k, LeO (laws_szCoreS.f k a0 a1) (laws_szCoreS.f (k + 1) a0 a1) := by
  intro a0 a1 k
  have ih0 := laws_szCoreS.mono_l k
  unfold laws_szCoreS.f
  repeat' first
      | (with_reducible exact ih0 _ _ _)
      | (with_reducible exact laws_szCore.mono _ _ _ _ _ _ _ _)
      | (with_reducible exact LeO.refl _)
      | (with_reducible exact LeO.none _)
      | (with_reducible refine LeO.ite ?_ ?_)
      | (with_reducible refine LeO.bind ?_ (fun _ => ?_))
      | exact ih0 _ _ _
      | exact laws_szCore.mono _ _ _ _ _ _ _ _
      | exact LeO.none _
      | refine LeO.ite ?_ ?_
      | refine LeO.bind ?_ (fun _ => ?_)
set_option maxHeartbeats 8000000 in
set_option maxRecDepth 100000 in
theorem laws_szCoreS.calls (k : Nat) (A0 : Option Addr) (c0 : Nat) (l0 : List (S90)) (a1 : Int) (r : Int) (w : World) (hr0 : Kd.C k90 w A0 l0.length l0) (hc0 : l0.length ≤ c0) (h : laws_szCoreS.f k l0 a1 = some r) :
    Calls Tryd.prog 24 #[.slice A0 l0.length c0, .int .i64 a1] w fun e w' => e = .returned (.int .i64 r) ∧ Below w.heap.size w w' := by
  have hu90 := Tryd.underlying90
  have HR0 := ak hr0
  have HC0 := ak hc0
  clear hr0 hc0
  have HB := ak (Below.refl w.heap.size w)
  have H : (if (wrap64 (a1 - (l0.length : Int))) < 0 then (some (-1)) else (laws_szCoreS.l0 k l0 (wrap64 (a1 - (l0.length : Int))) 0)) = some r := h
  clear h
  by_cases c3 : (wrap64 (a1 - (l0.length : Int))) < 0
  ·rw [if_pos c3] at H
   have c3b0 : decide ((wrap64 (a1 - (l0.length : Int))) < 0) = true := decide_eq_true c3
   clear c3
   obtain rfl := Option.some.inj H
   go_enter Tryd.func24, Tryd.ntmps24
   go_wp2
   go_ret
   exact ⟨by first | rfl | (simp [errW_none, errW_some] <;> rfl) | (simp [*, errW_none, errW_some] <;> rfl), by repeat (first | (with_reducible first | exact HB.out | apply below_alloc | apply pw_below_drewN | apply below_drew1) | exact HB.out)⟩
  ·rw [if_neg c3] at H
   have c3b0 : decide ((wrap64 (a1 - (l0.length : Int))) < 0) = false := decide_eq_false c3
   clear c3
   have H' := ak H
   clear H
   go_enter Tryd.func24, Tryd.ntmps24
   go_wp2
   go_loopg [1, 5] k (fun kq v1 v5 w' => ∃ (x1_1 : Int) (x5_1 : Int), v1 = .int .i64 x1_1 ∧ v5 = .int .i64 x5_1 ∧ Aside0 (laws_szCoreS.l0 kq l0 x1_1 x5_1 = some r) ∧ Aside0 (kq ≤ k) ∧ Aside0 (Below w.heap.size w w'))
   case atStart => exact ⟨(wrap64 (a1 - (l0.length : Int))), (0), d1_3, d1_3, H', ⟨Nat.le_refl _⟩, ⟨by repeat (first | (with_reducible first | exact HB.out | apply below_alloc | apply pw_below_drewN | apply below_drew1) | exact HB.out)⟩⟩
   case round =>
    clear H'
    try clear c2
    try clear p2
    try clear c3
    try clear c3b0
    obtain ⟨x1_1, x5_1, rfl, rfl, HA, HK1, HB⟩ := hrel
    cases gk with
    | zero => exact absurd HA.out (by simp [laws_szCoreS.l0])
    | succ k1 =>
     have H := HA.out
     clear HA
     simp only [laws_szCoreS.l0] at H
     by_cases c4 : x5_1 < (l0.length : Int)
     ·rw [if_pos c4] at H
      have c4b0 : decide (x5_1 < (l0.length : Int)) = true := decide_eq_true c4
      clear c4
      by_cases c5 : 0 ≤ x5_1
      ·rw [if_pos c5] at H
       have c5b0 : decide (0 ≤ x5_1) = true := decide_eq_true c5
       clear c5
       replace H := Option.bind_eq_some_iff.mp H
       obtain ⟨t107, A60, H⟩ := H
       replace H : (if t107 < 0 then (some (-1)) else (laws_szCoreS.l0 k1 l0 t107 (wrap64 (x5_1 + 1)))) = some r := H
       have A6 := ak A60
       clear A60
       by_cases c7 : t107 < 0
       ·rw [if_pos c7] at H
        have c7b0 : decide (t107 < 0) = true := decide_eq_true c7
        clear c7
        obtain rfl := Option.some.inj H
        have p106 : 0 ≤ (x5_1 : Int) := of_decide_eq_true d1_4
        have q106 : x5_1 < (l0.length : Int) := of_decide_eq_true d1_4
        obtain ⟨ad106, A106_5, c106_5, e106, hx106_0, hx106_1, hx106_2, hx106_3, hx106_4, hx106_5, hl106_5, hi106_5⟩ := at_T90 HR0.out x5_1 p106 q106
        cases e106
        replace hx106_0 := (HB.out.cell (World.block_lt_of_cell? w _ hx106_0)).trans hx106_0
        replace hx106_1 := (HB.out.cell (World.block_lt_of_cell? w _ hx106_1)).trans hx106_1
        replace hx106_2 := (HB.out.cell (World.block_lt_of_cell? w _ hx106_2)).trans hx106_2
        replace hx106_3 := (HB.out.cell (World.block_lt_of_cell? w _ hx106_3)).trans hx106_3
        replace hx106_4 := (HB.out.cell (World.block_lt_of_cell? w _ hx106_4)).trans hx106_4
        replace hx106_5 := (HB.out.cell (World.block_lt_of_cell? w _ hx106_5)).trans hx106_5
        have HR106_5 := ak hi106_5
        have HC106_5 := ak hl106_5
        clear hi106_5 hl106_5
        replace p106 := eq_true p106
        replace q106 := eq_true q106
        go_wp2_with (first | ((with_reducible refine gate_callee (f := 58) rfl ?_); refine goesL_ (some 23) rfl rfl Tryd.func58 (by kernel_rfl) rfl #[.agg #[.int .i64 ((rd_T90 l0 x5_1).f0), .int .i64 ((rd_T90 l0 x5_1).f1), .int .i64 ((rd_T90 l0 x5_1).f2), .int .i64 ((rd_T90 l0 x5_1).f3), .string ((rd_T90 l0 x5_1).f4), .slice A106_5 ((rd_T90 l0 x5_1).f5).length c106_5], .int .i64 x1_1] rfl d1_1 ?_; (with_reducible refine (laws_szCore.calls k1 ((rd_T90 l0 x5_1).f0) ((rd_T90 l0 x5_1).f1) ((rd_T90 l0 x5_1).f2) ((rd_T90 l0 x5_1).f3) ((rd_T90 l0 x5_1).f4) _ _ ((rd_T90 l0 x5_1).f5) x1_1 t107 _ ?side1 ?side2 A6.out).mono ?_); (case side1 => repeat (first | exact (Kd.C_below HR106_5.out HB.out) | (with_reducible refine Kd.C_alloc ?_ _) | (with_reducible refine Kd.C_drewN ?_ _) | (with_reducible refine Kd.C_drew ?_))); (case side2 => exact HC106_5.out); rintro e w8 ⟨rfl, hb⟩; refine ⟨_, rfl, ?_⟩; have n0_ := ak (below_step d1_2 hb); clear HB; have HB := n0_; clear n0_; (try clear hb)))
        go_ret
        exact ⟨by first | rfl | (simp [errW_none, errW_some] <;> rfl) | (simp [*, errW_none, errW_some] <;> rfl), by repeat (first | (with_reducible first | exact HB.out | apply below_alloc | apply pw_below_drewN | apply below_drew1) | exact HB.out)⟩
       ·rw [if_neg c7] at H
        have c7b0 : decide (t107 < 0) = false := decide_eq_false c7
        clear c7
        have H' := ak H
        clear H
        have p106 : 0 ≤ (x5_1 : Int) := of_decide_eq_true d1_4
        have q106 : x5_1 < (l0.length : Int) := of_decide_eq_true d1_4
        obtain ⟨ad106, A106_5, c106_5, e106, hx106_0, hx106_1, hx106_2, hx106_3, hx106_4, hx106_5, hl106_5, hi106_5⟩ := at_T90 HR0.out x5_1 p106 q106
        cases e106
        replace hx106_0 := (HB.out.cell (World.block_lt_of_cell? w _ hx106_0)).trans hx106_0
        replace hx106_1 := (HB.out.cell (World.block_lt_of_cell? w _ hx106_1)).trans hx106_1
        replace hx106_2 := (HB.out.cell (World.block_lt_of_cell? w _ hx106_2)).trans hx106_2
        replace hx106_3 := (HB.out.cell (World.block_lt_of_cell? w _ hx106_3)).trans hx106_3
        replace hx106_4 := (HB.out.cell (World.block_lt_of_cell? w _ hx106_4)).trans hx106_4
        replace hx106_5 := (HB.out.cell (World.block_lt_of_cell? w _ hx106_5)).trans hx106_5
        have HR106_5 := ak hi106_5
        have HC106_5 := ak hl106_5
        clear hi106_5 hl106_5
        replace p106 := eq_true p106
        replace q106 := eq_true q106
        go_wp2_with (first | ((with_reducible refine gate_callee (f := 58) rfl ?_); refine goesL_ (some 23) rfl rfl Tryd.func58 (by kernel_rfl) rfl #[.agg #[.int .i64 ((rd_T90 l0 x5_1).f0), .int .i64 ((rd_T90 l0 x5_1).f1), .int .i64 ((rd_T90 l0 x5_1).f2), .int .i64 ((rd_T90 l0 x5_1).f3), .string ((rd_T90 l0 x5_1).f4), .slice A106_5 ((rd_T90 l0 x5_1).f5).length c106_5], .int .i64 x1_1] rfl d1_1 ?_; (with_reducible refine (laws_szCore.calls k1 ((rd_T90 l0 x5_1).f0) ((rd_T90 l0 x5_1).f1) ((rd_T90 l0 x5_1).f2) ((rd_T90 l0 x5_1).f3) ((rd_T90 l0 x5_1).f4) _ _ ((rd_T90 l0 x5_1).f5) x1_1 t107 _ ?side1 ?side2 A6.out).mono ?_); (case side1 => repeat (first | exact (Kd.C_below HR106_5.out HB.out) | (with_reducible refine Kd.C_alloc ?_ _) | (with_reducible refine Kd.C_drewN ?_ _) | (with_reducible refine Kd.C_drew ?_))); (case side2 => exact HC106_5.out); rintro e w9 ⟨rfl, hb⟩; refine ⟨_, rfl, ?_⟩; have n0_ := ak (below_step d1_2 hb); clear HB; have HB := n0_; clear n0_; (try clear hb)))
        go_roundg k1
        case measure => have := HK1.out; omega
        case rel => exact ⟨(t107), (wrap64 (x5_1 + 1)), d1_3, d1_3, H', ⟨by have := HK1.out; omega⟩, ⟨by repeat (first | (with_reducible first | exact HB.out | apply below_alloc | apply pw_below_drewN | apply below_drew1) | exact HB.out)⟩⟩
      ·rw [if_neg c5] at H
       exact absurd H (by simp)
     ·rw [if_neg c4] at H
      have c4b0 : decide (x5_1 < (l0.length : Int)) = false := decide_eq_false c4
      clear c4
      obtain rfl := Option.some.inj H
      go_wp2
      go_ret
      exact ⟨by first | rfl | (simp [errW_none, errW_some] <;> rfl) | (simp [*, errW_none, errW_some] <;> rfl), by repeat (first | (with_reducible first | exact HB.out | apply below_alloc | apply pw_below_drewN | apply below_drew1) | exact HB.out)⟩

/-! ### spec_l4Named: function 65 -/
def spec_l4Named.f (a0 : Int) : Option (Bool) := if a0 = 3 then (some true) else (if a0 = 7 then (some true) else (some (a0 == 8)))
set_option maxHeartbeats 8000000 in
set_option maxRecDepth 100000 in
theorem spec_l4Named.calls (a0 : Int) (r : Bool) (w : World) (h : spec_l4Named.f a0 = some r) :
    Calls Tryd.prog 65 #[.int .i64 a0] w fun e w' => e = .returned (.bool r) ∧ Drawn0 w w' := by
  have H : (if a0 = 3 then (some true) else (if a0 = 7 then (some true) else (some (a0 == 8)))) = some r := h
  clear h
  by_cases c2 : a0 = 3
  ·rw [if_pos c2] at H
   have c2b0 : (a0 == 3) = true := beq_iff_eq.mpr c2
   have c2b1 : (a0 != 3) = false := bne_eq_false_iff_eq.mpr c2
   clear c2
   obtain rfl := Option.some.inj H
   go_enter Tryd.func65, Tryd.ntmps65
   go_wp2
   go_ret
   exact ⟨by first | rfl | (simp; done) | (simp [*]; done) | (simp [ne_nil_b, eq_nil_b]; done), by repeat (first | exact Drawn0.refl _ | apply Drawn0.step)⟩
  ·rw [if_neg c2] at H
   have c2b0 : (a0 == 3) = false := beq_eq_false_iff_ne.mpr c2
   have c2b1 : (a0 != 3) = true := bne_iff_ne.mpr c2
   by_cases c3 : a0 = 7
   ·rw [if_pos c3] at H
    have c3b0 : (a0 == 7) = true := beq_iff_eq.mpr c3
    have c3b1 : (a0 != 7) = false := bne_eq_false_iff_eq.mpr c3
    clear c3
    obtain rfl := Option.some.inj H
    go_enter Tryd.func65, Tryd.ntmps65
    go_wp2
    go_ret
    exact ⟨by first | rfl | (simp; done) | (simp [*]; done) | (simp [ne_nil_b, eq_nil_b]; done), by repeat (first | exact Drawn0.refl _ | apply Drawn0.step)⟩
   ·rw [if_neg c3] at H
    have c3b0 : (a0 == 7) = false := beq_eq_false_iff_ne.mpr c3
    have c3b1 : (a0 != 7) = true := bne_iff_ne.mpr c3
    obtain rfl := Option.some.inj H
    go_enter Tryd.func65, Tryd.ntmps65
    go_wp2
    go_ret
    exact ⟨by first | rfl | (simp; done) | (simp [*]; done) | (simp [ne_nil_b, eq_nil_b]; done), by repeat (first | exact Drawn0.refl _ | apply Drawn0.step)⟩

/-! ### spec_l1In: function 73 -/
def spec_l1In.f (a0 : Int) (a1 : Int) (a2 : Int) : Option (Bool) := if a0 ≥ a1 then (some (decide (a0 ≤ a2))) else (some false)
set_option maxHeartbeats 8000000 in
set_option maxRecDepth 100000 in
theorem spec_l1In.calls (a0 : Int) (a1 : Int) (a2 : Int) (r : Bool) (w : World) (h : spec_l1In.f a0 a1 a2 = some r) :
    Calls Tryd.prog 73 #[.int .i64 a0, .int .i64 a1, .int .i64 a2] w fun e w' => e = .returned (.bool r) ∧ Drawn0 w w' := by
  have H : (if a0 ≥ a1 then (some (decide (a0 ≤ a2))) else (some false)) = some r := h
  clear h
  by_cases c4 : a0 ≥ a1
  ·rw [if_pos c4] at H
   have c4b0 : decide (a1 ≤ a0) = true := decide_eq_true c4
   clear c4
   obtain rfl := Option.some.inj H
   go_enter Tryd.func73, Tryd.ntmps73
   go_wp2
   go_ret
   exact ⟨by first | rfl | (simp; done) | (simp [*]; done) | (simp [ne_nil_b, eq_nil_b]; done), by repeat (first | exact Drawn0.refl _ | apply Drawn0.step)⟩
  ·rw [if_neg c4] at H
   have c4b0 : decide (a1 ≤ a0) = false := decide_eq_false c4
   clear c4
   obtain rfl := Option.some.inj H
   go_enter Tryd.func73, Tryd.ntmps73
   go_wp2
   go_ret
   exact ⟨by first | rfl | (simp; done) | (simp [*]; done) | (simp [ne_nil_b, eq_nil_b]; done), by repeat (first | exact Drawn0.refl _ | apply Drawn0.step)⟩

/-! ### spec_l4Bare: function 114 -/
def spec_l4Bare.f (a0_0 : Int) (a0_1 : Int) (a0_2 : Int) (a0_3 : Int) (a0_4 : ByteArray) (l0_5 : List (S127)) : Option (Bool) := if a0_0 = 2 then ((spec_l1In.f a0_0 1 9).bind fun t109 => (if t109 = true then ((spec_l4Named.f a0_0).bind fun t110 => (if t110 = true then (if a0_0 = 1 then (some true) else (some ((l0_5.length : Int) == 0))) else (if a0_4.toList = ([] : List UInt8) then (if a0_0 = 1 then (some true) else (some ((l0_5.length : Int) == 0))) else (some false)))) else (some false))) else ((spec_l1In.f a0_0 1 9).bind fun t111 => (if t111 = true then (if a0_0 = 5 then (if a0_3 = 0 then ((spec_l4Named.f a0_0).bind fun t112 => (if t112 = true then (if a0_0 = 1 then (some true) else (some ((l0_5.length : Int) == 0))) else (if a0_4.toList = ([] : List UInt8) then (if a0_0 = 1 then (some true) else (some ((l0_5.length : Int) == 0))) else (some false)))) else (some false)) else (if a0_2 = 0 then (if a0_3 = 0 then ((spec_l4Named.f a0_0).bind fun t113 => (if t113 = true then (if a0_0 = 1 then (some true) else (some ((l0_5.length : Int) == 0))) else (if a0_4.toList = ([] : List UInt8) then (if a0_0 = 1 then (some true) else (some ((l0_5.length : Int) == 0))) else (some false)))) else (some false)) else (some false))) else (some false)))
set_option maxHeartbeats 8000000 in
set_option maxRecDepth 100000 in
theorem spec_l4Bare.calls (P0_ : Addr) (a0_0 : Int) (a0_1 : Int) (a0_2 : Int) (a0_3 : Int) (a0_4 : ByteArray) (A0_5 : Option Addr) (c0_5 : Nat) (l0_5 : List (S127)) (r : Bool) (w : World) (hq0_0 : w.cell? P0_ = some (.int .i64 a0_0)) (hq0_1 : w.cell? ⟨P0_.block, P0_.off + 1, none⟩ = some (.int .i64 a0_1)) (hq0_2 : w.cell? ⟨P0_.block, P0_.off + 2, none⟩ = some (.int .i64 a0_2)) (hq0_3 : w.cell? ⟨P0_.block, P0_.off + 3, none⟩ = some (.int .i64 a0_3)) (hq0_4 : w.cell? ⟨P0_.block, P0_.off + 4, none⟩ = some (.string a0_4)) (hq0_5 : w.cell? ⟨P0_.block, P0_.off + 5, none⟩ = some (.slice A0_5 l0_5.length c0_5)) (hr0_5 : Kd.C k127 w A0_5 l0_5.length l0_5) (hc0_5 : l0_5.length ≤ c0_5) (h : spec_l4Bare.f a0_0 a0_1 a0_2 a0_3 a0_4 l0_5 = some r) :
    Calls Tryd.prog 114 #[.pointer (some P0_)] w fun e w' => e = .returned (.bool r) ∧ Drawn0 w w' := by
  have HQ0_0 := ak hq0_0
  clear hq0_0
  have HQ0_1 := ak hq0_1
  clear hq0_1
  have HQ0_2 := ak hq0_2
  clear hq0_2
  have HQ0_3 := ak hq0_3
  clear hq0_3
  have HQ0_4 := ak hq0_4
  clear hq0_4
  have HQ0_5 := ak hq0_5
  clear hq0_5
  have HR0_5 := ak hr0_5
  have HC0_5 := ak hc0_5
  clear hr0_5 hc0_5
  have H : (if a0_0 = 2 then ((spec_l1In.f a0_0 1 9).bind fun t109 => (if t109 = true then ((spec_l4Named.f a0_0).bind fun t110 => (if t110 = true then (if a0_0 = 1 then (some true) else (some ((l0_5.length : Int) == 0))) else (if a0_4.toList = ([] : List UInt8) then (if a0_0 = 1 then (some true) else (some ((l0_5.length : Int) == 0))) else (some false)))) else (some false))) else ((spec_l1In.f a0_0 1 9).bind fun t111 => (if t111 = true then (if a0_0 = 5 then (if a0_3 = 0 then ((spec_l4Named.f a0_0).bind fun t112 => (if t112 = true then (if a0_0 = 1 then (some true) else (some ((l0_5.length : Int) == 0))) else (if a0_4.toList = ([] : List UInt8) then (if a0_0 = 1 then (some true) else (some ((l0_5.length : Int) == 0))) else (some false)))) else (some false)) else (if a0_2 = 0 then (if a0_3 = 0 then ((spec_l4Named.f a0_0).bind fun t113 => (if t113 = true then (if a0_0 = 1 then (some true) else (some ((l0_5.length : Int) == 0))) else (if a0_4.toList = ([] : List UInt8) then (if a0_0 = 1 then (some true) else (some ((l0_5.length : Int) == 0))) else (some false)))) else (some false)) else (some false))) else (some false)))) = some r := h
  clear h
  by_cases c2 : a0_0 = 2
  ·rw [if_pos c2] at H
   have c2b0 : (a0_0 == 2) = true := beq_iff_eq.mpr c2
   have c2b1 : (a0_0 != 2) = false := bne_eq_false_iff_eq.mpr c2
   clear c2
   replace H := Option.bind_eq_some_iff.mp H
   obtain ⟨t109, A30, H⟩ := H
   replace H : (if t109 = true then ((spec_l4Named.f a0_0).bind fun t110 => (if t110 = true then (if a0_0 = 1 then (some true) else (some ((l0_5.length : Int) == 0))) else (if a0_4.toList = ([] : List UInt8) then (if a0_0 = 1 then (some true) else (some ((l0_5.length : Int) == 0))) else (some false)))) else (some false)) = some r := H
   have A3 := ak A30
   clear A30
   by_cases c4 : t109 = true
   ·subst c4
    have H1 : ((spec_l4Named.f a0_0).bind fun t110 => (if t110 = true then (if a0_0 = 1 then (some true) else (some ((l0_5.length : Int) == 0))) else (if a0_4.toList = ([] : List UInt8) then (if a0_0 = 1 then (some true) else (some ((l0_5.length : Int) == 0))) else (some false)))) = some r := by rw [if_pos rfl] at H; exact H
    clear H
    have H := H1
    clear H1
    replace H := Option.bind_eq_some_iff.mp H
    obtain ⟨t110, A50, H⟩ := H
    replace H : (if t110 = true then (if a0_0 = 1 then (some true) else (some ((l0_5.length : Int) == 0))) else (if a0_4.toList = ([] : List UInt8) then (if a0_0 = 1 then (some true) else (some ((l0_5.length : Int) == 0))) else (some false))) = some r := H
    have A5 := ak A50
    clear A50
    by_cases c6 : t110 = true
    ·subst c6
     have H1 : (if a0_0 = 1 then (some true) else (some ((l0_5.length : Int) == 0))) = some r := by rw [if_pos rfl] at H; exact H
     clear H
     have H := H1
     clear H1
     by_cases c7 : a0_0 = 1
     ·rw [if_pos c7] at H
      have c7b0 : (a0_0 == 1) = true := beq_iff_eq.mpr c7
      have c7b1 : (a0_0 != 1) = false := bne_eq_false_iff_eq.mpr c7
      clear c7
      obtain rfl := Option.some.inj H
      have hx108_0 := HQ0_0.out
      have hx108_1 := HQ0_1.out
      have hx108_2 := HQ0_2.out
      have hx108_3 := HQ0_3.out
      have hx108_4 := HQ0_4.out
      have hx108_5 := HQ0_5.out
      go_enter Tryd.func114, Tryd.ntmps114
      go_wp2_with (first | ((with_reducible refine gate_callee (f := 73) rfl ?_); refine goesL_ (some 20) rfl rfl Tryd.func73 (by kernel_rfl) rfl #[.int .i64 a0_0, .int .i64 1, .int .i64 9] rfl d1_1 ?_; (with_reducible refine (spec_l1In.calls a0_0 1 9 true _ A3.out).mono ?_); rintro e w' ⟨rfl, ⟨nd, rfl⟩⟩; refine ⟨_, rfl, ?_⟩) | (go_at_call 65; (with_reducible refine (spec_l4Named.calls a0_0 true _ A5.out).mono ?_); rintro e w' ⟨rfl, ⟨nd, rfl⟩⟩))
      go_ret
      exact ⟨by first | rfl | (simp; done) | (simp [*]; done) | (simp [ne_nil_b, eq_nil_b]; done), by repeat (first | exact Drawn0.refl _ | apply Drawn0.step)⟩
     ·rw [if_neg c7] at H
      have c7b0 : (a0_0 == 1) = false := beq_eq_false_iff_ne.mpr c7
      have c7b1 : (a0_0 != 1) = true := bne_iff_ne.mpr c7
      obtain rfl := Option.some.inj H
      have hx108_0 := HQ0_0.out
      have hx108_1 := HQ0_1.out
      have hx108_2 := HQ0_2.out
      have hx108_3 := HQ0_3.out
      have hx108_4 := HQ0_4.out
      have hx108_5 := HQ0_5.out
      go_enter Tryd.func114, Tryd.ntmps114
      go_wp2_with (first | ((with_reducible refine gate_callee (f := 73) rfl ?_); refine goesL_ (some 20) rfl rfl Tryd.func73 (by kernel_rfl) rfl #[.int .i64 a0_0, .int .i64 1, .int .i64 9] rfl d1_1 ?_; (with_reducible refine (spec_l1In.calls a0_0 1 9 true _ A3.out).mono ?_); rintro e w' ⟨rfl, ⟨nd, rfl⟩⟩; refine ⟨_, rfl, ?_⟩) | (go_at_call 65; (with_reducible refine (spec_l4Named.calls a0_0 true _ A5.out).mono ?_); rintro e w' ⟨rfl, ⟨nd, rfl⟩⟩))
      go_ret
      exact ⟨by first | rfl | (simp; done) | (simp [*]; done) | (simp [ne_nil_b, eq_nil_b]; done), by repeat (first | exact Drawn0.refl _ | apply Drawn0.step)⟩
    ·replace c6 := Bool.eq_false_iff.mpr c6
     subst c6
     have H1 : (if a0_4.toList = ([] : List UInt8) then (if a0_0 = 1 then (some true) else (some ((l0_5.length : Int) == 0))) else (some false)) = some r := by rw [if_neg (show ¬ (false = true) by decide)] at H; exact H
     clear H
     have H := H1
     clear H1
     by_cases c8 : a0_4.toList = ([] : List UInt8)
     ·rw [if_pos c8] at H
      have c8b0 : (a0_4.toList == ([] : List UInt8)) = true := beq_iff_eq.mpr c8
      have c8b1 : (a0_4.toList != ([] : List UInt8)) = false := bne_eq_false_iff_eq.mpr c8
      clear c8
      by_cases c9 : a0_0 = 1
      ·rw [if_pos c9] at H
       have c9b0 : (a0_0 == 1) = true := beq_iff_eq.mpr c9
       have c9b1 : (a0_0 != 1) = false := bne_eq_false_iff_eq.mpr c9
       clear c9
       obtain rfl := Option.some.inj H
       have hx108_0 := HQ0_0.out
       have hx108_1 := HQ0_1.out
       have hx108_2 := HQ0_2.out
       have hx108_3 := HQ0_3.out
       have hx108_4 := HQ0_4.out
       have hx108_5 := HQ0_5.out
       go_enter Tryd.func114, Tryd.ntmps114
       go_wp2_with (first | ((with_reducible refine gate_callee (f := 73) rfl ?_); refine goesL_ (some 20) rfl rfl Tryd.func73 (by kernel_rfl) rfl #[.int .i64 a0_0, .int .i64 1, .int .i64 9] rfl d1_1 ?_; (with_reducible refine (spec_l1In.calls a0_0 1 9 true _ A3.out).mono ?_); rintro e w' ⟨rfl, ⟨nd, rfl⟩⟩; refine ⟨_, rfl, ?_⟩) | (go_at_call 65; (with_reducible refine (spec_l4Named.calls a0_0 false _ A5.out).mono ?_); rintro e w' ⟨rfl, ⟨nd, rfl⟩⟩))
       go_ret
       exact ⟨by first | rfl | (simp; done) | (simp [*]; done) | (simp [ne_nil_b, eq_nil_b]; done), by repeat (first | exact Drawn0.refl _ | apply Drawn0.step)⟩
      ·rw [if_neg c9] at H
       have c9b0 : (a0_0 == 1) = false := beq_eq_false_iff_ne.mpr c9
       have c9b1 : (a0_0 != 1) = true := bne_iff_ne.mpr c9
       obtain rfl := Option.some.inj H
       have hx108_0 := HQ0_0.out
       have hx108_1 := HQ0_1.out
       have hx108_2 := HQ0_2.out
       have hx108_3 := HQ0_3.out
       have hx108_4 := HQ0_4.out
       have hx108_5 := HQ0_5.out
       go_enter Tryd.func114, Tryd.ntmps114
       go_wp2_with (first | ((with_reducible refine gate_callee (f := 73) rfl ?_); refine goesL_ (some 20) rfl rfl Tryd.func73 (by kernel_rfl) rfl #[.int .i64 a0_0, .int .i64 1, .int .i64 9] rfl d1_1 ?_; (with_reducible refine (spec_l1In.calls a0_0 1 9 true _ A3.out).mono ?_); rintro e w' ⟨rfl, ⟨nd, rfl⟩⟩; refine ⟨_, rfl, ?_⟩) | (go_at_call 65; (with_reducible refine (spec_l4Named.calls a0_0 false _ A5.out).mono ?_); rintro e w' ⟨rfl, ⟨nd, rfl⟩⟩))
       go_ret
       exact ⟨by first | rfl | (simp; done) | (simp [*]; done) | (simp [ne_nil_b, eq_nil_b]; done), by repeat (first | exact Drawn0.refl _ | apply Drawn0.step)⟩
     ·rw [if_neg c8] at H
      have c8b0 : (a0_4.toList == ([] : List UInt8)) = false := beq_eq_false_iff_ne.mpr c8
      have c8b1 : (a0_4.toList != ([] : List UInt8)) = true := bne_iff_ne.mpr c8
      obtain rfl := Option.some.inj H
      have hx108_0 := HQ0_0.out
      have hx108_1 := HQ0_1.out
      have hx108_2 := HQ0_2.out
      have hx108_3 := HQ0_3.out
      have hx108_4 := HQ0_4.out
      have hx108_5 := HQ0_5.out
      go_enter Tryd.func114, Tryd.ntmps114
      go_wp2_with (first | ((with_reducible refine gate_callee (f := 73) rfl ?_); refine goesL_ (some 20) rfl rfl Tryd.func73 (by kernel_rfl) rfl #[.int .i64 a0_0, .int .i64 1, .int .i64 9] rfl d1_1 ?_; (with_reducible refine (spec_l1In.calls a0_0 1 9 true _ A3.out).mono ?_); rintro e w' ⟨rfl, ⟨nd, rfl⟩⟩; refine ⟨_, rfl, ?_⟩) | (go_at_call 65; (with_reducible refine (spec_l4Named.calls a0_0 false _ A5.out).mono ?_); rintro e w' ⟨rfl, ⟨nd, rfl⟩⟩))
      go_ret
      exact ⟨by first | rfl | (simp; done) | (simp [*]; done) | (simp [ne_nil_b, eq_nil_b]; done), by repeat (first | exact Drawn0.refl _ | apply Drawn0.step)⟩
   ·replace c4 := Bool.eq_false_iff.mpr c4
    subst c4
    have H1 : (some false) = some r := by rw [if_neg (show ¬ (false = true) by decide)] at H; exact H
    clear H
    have H := H1
    clear H1
    obtain rfl := Option.some.inj H
    have hx108_0 := HQ0_0.out
    have hx108_1 := HQ0_1.out
    have hx108_2 := HQ0_2.out
    have hx108_3 := HQ0_3.out
    have hx108_4 := HQ0_4.out
    have hx108_5 := HQ0_5.out
    go_enter Tryd.func114, Tryd.ntmps114
    go_wp2_with (first | ((with_reducible refine gate_callee (f := 73) rfl ?_); refine goesL_ (some 20) rfl rfl Tryd.func73 (by kernel_rfl) rfl #[.int .i64 a0_0, .int .i64 1, .int .i64 9] rfl d1_1 ?_; (with_reducible refine (spec_l1In.calls a0_0 1 9 false _ A3.out).mono ?_); rintro e w' ⟨rfl, ⟨nd, rfl⟩⟩; refine ⟨_, rfl, ?_⟩))
    go_ret
    exact ⟨by first | rfl | (simp; done) | (simp [*]; done) | (simp [ne_nil_b, eq_nil_b]; done), by repeat (first | exact Drawn0.refl _ | apply Drawn0.step)⟩
  ·rw [if_neg c2] at H
   have c2b0 : (a0_0 == 2) = false := beq_eq_false_iff_ne.mpr c2
   have c2b1 : (a0_0 != 2) = true := bne_iff_ne.mpr c2
   replace H := Option.bind_eq_some_iff.mp H
   obtain ⟨t111, A100, H⟩ := H
   replace H : (if t111 = true then (if a0_0 = 5 then (if a0_3 = 0 then ((spec_l4Named.f a0_0).bind fun t112 => (if t112 = true then (if a0_0 = 1 then (some true) else (some ((l0_5.length : Int) == 0))) else (if a0_4.toList = ([] : List UInt8) then (if a0_0 = 1 then (some true) else (some ((l0_5.length : Int) == 0))) else (some false)))) else (some false)) else (if a0_2 = 0 then (if a0_3 = 0 then ((spec_l4Named.f a0_0).bind fun t113 => (if t113 = true then (if a0_0 = 1 then (some true) else (some ((l0_5.length : Int) == 0))) else (if a0_4.toList = ([] : List UInt8) then (if a0_0 = 1 then (some true) else (some ((l0_5.length : Int) == 0))) else (some false)))) else (some false)) else (some false))) else (some false)) = some r := H
   have A10 := ak A100
   clear A100
   by_cases c11 : t111 = true
   ·subst c11
    have H1 : (if a0_0 = 5 then (if a0_3 = 0 then ((spec_l4Named.f a0_0).bind fun t112 => (if t112 = true then (if a0_0 = 1 then (some true) else (some ((l0_5.length : Int) == 0))) else (if a0_4.toList = ([] : List UInt8) then (if a0_0 = 1 then (some true) else (some ((l0_5.length : Int) == 0))) else (some false)))) else (some false)) else (if a0_2 = 0 then (if a0_3 = 0 then ((spec_l4Named.f a0_0).bind fun t113 => (if t113 = true then (if a0_0 = 1 then (some true) else (some ((l0_5.length : Int) == 0))) else (if a0_4.toList = ([] : List UInt8) then (if a0_0 = 1 then (some true) else (some ((l0_5.length : Int) == 0))) else (some false)))) else (some false)) else (some false))) = some r := by rw [if_pos rfl] at H; exact H
    clear H
    have H := H1
    clear H1
    by_cases c12 : a0_0 = 5
    ·rw [if_pos c12] at H
     have c12b0 : (a0_0 == 5) = true := beq_iff_eq.mpr c12
     have c12b1 : (a0_0 != 5) = false := bne_eq_false_iff_eq.mpr c12
     clear c12
     by_cases c13 : a0_3 = 0
     ·rw [if_pos c13] at H
      have c13b0 : (a0_3 == 0) = true := beq_iff_eq.mpr c13
      have c13b1 : (a0_3 != 0) = false := bne_eq_false_iff_eq.mpr c13
      clear c13
      replace H := Option.bind_eq_some_iff.mp H
      obtain ⟨t112, A140, H⟩ := H
      replace H : (if t112 = true then (if a0_0 = 1 then (some true) else (some ((l0_5.length : Int) == 0))) else (if a0_4.toList = ([] : List UInt8) then (if a0_0 = 1 then (some true) else (some ((l0_5.length : Int) == 0))) else (some false))) = some r := H
      have A14 := ak A140
      clear A140
      by_cases c15 : t112 = true
      ·subst c15
       have H1 : (if a0_0 = 1 then (some true) else (some ((l0_5.length : Int) == 0))) = some r := by rw [if_pos rfl] at H; exact H
       clear H
       have H := H1
       clear H1
       by_cases c16 : a0_0 = 1
       ·rw [if_pos c16] at H
        have c16b0 : (a0_0 == 1) = true := beq_iff_eq.mpr c16
        have c16b1 : (a0_0 != 1) = false := bne_eq_false_iff_eq.mpr c16
        clear c16
        obtain rfl := Option.some.inj H
        have hx108_0 := HQ0_0.out
        have hx108_1 := HQ0_1.out
        have hx108_2 := HQ0_2.out
        have hx108_3 := HQ0_3.out
        have hx108_4 := HQ0_4.out
        have hx108_5 := HQ0_5.out
        go_enter Tryd.func114, Tryd.ntmps114
        go_wp2_with (first | ((with_reducible refine gate_callee (f := 73) rfl ?_); refine goesL_ (some 20) rfl rfl Tryd.func73 (by kernel_rfl) rfl #[.int .i64 a0_0, .int .i64 1, .int .i64 9] rfl d1_1 ?_; (with_reducible refine (spec_l1In.calls a0_0 1 9 true _ A10.out).mono ?_); rintro e w' ⟨rfl, ⟨nd, rfl⟩⟩; refine ⟨_, rfl, ?_⟩) | (go_at_call 65; (with_reducible refine (spec_l4Named.calls a0_0 true _ A14.out).mono ?_); rintro e w' ⟨rfl, ⟨nd, rfl⟩⟩))
        go_ret
        exact ⟨by first | rfl | (simp; done) | (simp [*]; done) | (simp [ne_nil_b, eq_nil_b]; done), by repeat (first | exact Drawn0.refl _ | apply Drawn0.step)⟩
       ·rw [if_neg c16] at H
        have c16b0 : (a0_0 == 1) = false := beq_eq_false_iff_ne.mpr c16
        have c16b1 : (a0_0 != 1) = true := bne_iff_ne.mpr c16
        obtain rfl := Option.some.inj H
        have hx108_0 := HQ0_0.out
        have hx108_1 := HQ0_1.out
        have hx108_2 := HQ0_2.out
        have hx108_3 := HQ0_3.out
        have hx108_4 := HQ0_4.out
        have hx108_5 := HQ0_5.out
        go_enter Tryd.func114, Tryd.ntmps114
        go_wp2_with (first | ((with_reducible refine gate_callee (f := 73) rfl ?_); refine goesL_ (some 20) rfl rfl Tryd.func73 (by kernel_rfl) rfl #[.int .i64 a0_0, .int .i64 1, .int .i64 9] rfl d1_1 ?_; (with_reducible refine (spec_l1In.calls a0_0 1 9 true _ A10.out).mono ?_); rintro e w' ⟨rfl, ⟨nd, rfl⟩⟩; refine ⟨_, rfl, ?_⟩) | (go_at_call 65; (with_reducible refine (spec_l4Named.calls a0_0 true _ A14.out).mono ?_); rintro e w' ⟨rfl, ⟨nd, rfl⟩⟩))
        go_ret
        exact ⟨by first | rfl | (simp; done) | (simp [*]; done) | (simp [ne_nil_b, eq_nil_b]; done), by repeat (first | exact Drawn0.refl _ | apply Drawn0.step)⟩
      ·replace c15 := Bool.eq_false_iff.mpr c15
       subst c15
       have H1 : (if a0_4.toList = ([] : List UInt8) then (if a0_0 = 1 then (some true) else (some ((l0_5.length : Int) == 0))) else (some false)) = some r := by rw [if_neg (show ¬ (false = true) by decide)] at H; exact H
       clear H
       have H := H1
       clear H1
       by_cases c17 : a0_4.toList = ([] : List UInt8)
       ·rw [if_pos c17] at H
        have c17b0 : (a0_4.toList == ([] : List UInt8)) = true := beq_iff_eq.mpr c17
        have c17b1 : (a0_4.toList != ([] : List UInt8)) = false := bne_eq_false_iff_eq.mpr c17
        clear c17
        by_cases c18 : a0_0 = 1
        ·rw [if_pos c18] at H
         have c18b0 : (a0_0 == 1) = true := beq_iff_eq.mpr c18
         have c18b1 : (a0_0 != 1) = false := bne_eq_false_iff_eq.mpr c18
         clear c18
         obtain rfl := Option.some.inj H
         have hx108_0 := HQ0_0.out
         have hx108_1 := HQ0_1.out
         have hx108_2 := HQ0_2.out
         have hx108_3 := HQ0_3.out
         have hx108_4 := HQ0_4.out
         have hx108_5 := HQ0_5.out
         go_enter Tryd.func114, Tryd.ntmps114
         go_wp2_with (first | ((with_reducible refine gate_callee (f := 73) rfl ?_); refine goesL_ (some 20) rfl rfl Tryd.func73 (by kernel_rfl) rfl #[.int .i64 a0_0, .int .i64 1, .int .i64 9] rfl d1_1 ?_; (with_reducible refine (spec_l1In.calls a0_0 1 9 true _ A10.out).mono ?_); rintro e w' ⟨rfl, ⟨nd, rfl⟩⟩; refine ⟨_, rfl, ?_⟩) | (go_at_call 65; (with_reducible refine (spec_l4Named.calls a0_0 false _ A14.out).mono ?_); rintro e w' ⟨rfl, ⟨nd, rfl⟩⟩))
         go_ret
         exact ⟨by first | rfl | (simp; done) | (simp [*]; done) | (simp [ne_nil_b, eq_nil_b]; done), by repeat (first | exact Drawn0.refl _ | apply Drawn0.step)⟩
        ·rw [if_neg c18] at H
         have c18b0 : (a0_0 == 1) = false := beq_eq_false_iff_ne.mpr c18
         have c18b1 : (a0_0 != 1) = true := bne_iff_ne.mpr c18
         obtain rfl := Option.some.inj H
         have hx108_0 := HQ0_0.out
         have hx108_1 := HQ0_1.out
         have hx108_2 := HQ0_2.out
         have hx108_3 := HQ0_3.out
         have hx108_4 := HQ0_4.out
         have hx108_5 := HQ0_5.out
         go_enter Tryd.func114, Tryd.ntmps114
         go_wp2_with (first | ((with_reducible refine gate_callee (f := 73) rfl ?_); refine goesL_ (some 20) rfl rfl Tryd.func73 (by kernel_rfl) rfl #[.int .i64 a0_0, .int .i64 1, .int .i64 9] rfl d1_1 ?_; (with_reducible refine (spec_l1In.calls a0_0 1 9 true _ A10.out).mono ?_); rintro e w' ⟨rfl, ⟨nd, rfl⟩⟩; refine ⟨_, rfl, ?_⟩) | (go_at_call 65; (with_reducible refine (spec_l4Named.calls a0_0 false _ A14.out).mono ?_); rintro e w' ⟨rfl, ⟨nd, rfl⟩⟩))
         go_ret
         exact ⟨by first | rfl | (simp; done) | (simp [*]; done) | (simp [ne_nil_b, eq_nil_b]; done), by repeat (first | exact Drawn0.refl _ | apply Drawn0.step)⟩
       ·rw [if_neg c17] at H
        have c17b0 : (a0_4.toList == ([] : List UInt8)) = false := beq_eq_false_iff_ne.mpr c17
        have c17b1 : (a0_4.toList != ([] : List UInt8)) = true := bne_iff_ne.mpr c17
        obtain rfl := Option.some.inj H
        have hx108_0 := HQ0_0.out
        have hx108_1 := HQ0_1.out
        have hx108_2 := HQ0_2.out
        have hx108_3 := HQ0_3.out
        have hx108_4 := HQ0_4.out
        have hx108_5 := HQ0_5.out
        go_enter Tryd.func114, Tryd.ntmps114
        go_wp2_with (first | ((with_reducible refine gate_callee (f := 73) rfl ?_); refine goesL_ (some 20) rfl rfl Tryd.func73 (by kernel_rfl) rfl #[.int .i64 a0_0, .int .i64 1, .int .i64 9] rfl d1_1 ?_; (with_reducible refine (spec_l1In.calls a0_0 1 9 true _ A10.out).mono ?_); rintro e w' ⟨rfl, ⟨nd, rfl⟩⟩; refine ⟨_, rfl, ?_⟩) | (go_at_call 65; (with_reducible refine (spec_l4Named.calls a0_0 false _ A14.out).mono ?_); rintro e w' ⟨rfl, ⟨nd, rfl⟩⟩))
        go_ret
        exact ⟨by first | rfl | (simp; done) | (simp [*]; done) | (simp [ne_nil_b, eq_nil_b]; done), by repeat (first | exact Drawn0.refl _ | apply Drawn0.step)⟩
     ·rw [if_neg c13] at H
      have c13b0 : (a0_3 == 0) = false := beq_eq_false_iff_ne.mpr c13
      have c13b1 : (a0_3 != 0) = true := bne_iff_ne.mpr c13
      obtain rfl := Option.some.inj H
      have hx108_0 := HQ0_0.out
      have hx108_1 := HQ0_1.out
      have hx108_2 := HQ0_2.out
      have hx108_3 := HQ0_3.out
      have hx108_4 := HQ0_4.out
      have hx108_5 := HQ0_5.out
      go_enter Tryd.func114, Tryd.ntmps114
      go_wp2_with (first | ((with_reducible refine gate_callee (f := 73) rfl ?_); refine goesL_ (some 20) rfl rfl Tryd.func73 (by kernel_rfl) rfl #[.int .i64 a0_0, .int .i64 1, .int .i64 9] rfl d1_1 ?_; (with_reducible refine (spec_l1In.calls a0_0 1 9 true _ A10.out).mono ?_); rintro e w' ⟨rfl, ⟨nd, rfl⟩⟩; refine ⟨_, rfl, ?_⟩))
      go_ret
      exact ⟨by first | rfl | (simp; done) | (simp [*]; done) | (simp [ne_nil_b, eq_nil_b]; done), by repeat (first | exact Drawn0.refl _ | apply Drawn0.step)⟩
    ·rw [if_neg c12] at H
     have c12b0 : (a0_0 == 5) = false := beq_eq_false_iff_ne.mpr c12
     have c12b1 : (a0_0 != 5) = true := bne_iff_ne.mpr c12
     by_cases c19 : a0_2 = 0
     ·rw [if_pos c19] at H
      have c19b0 : (a0_2 == 0) = true := beq_iff_eq.mpr c19
      have c19b1 : (a0_2 != 0) = false := bne_eq_false_iff_eq.mpr c19
      clear c19
      by_cases c20 : a0_3 = 0
      ·rw [if_pos c20] at H
       have c20b0 : (a0_3 == 0) = true := beq_iff_eq.mpr c20
       have c20b1 : (a0_3 != 0) = false := bne_eq_false_iff_eq.mpr c20
       clear c20
       replace H := Option.bind_eq_some_iff.mp H
       obtain ⟨t113, A210, H⟩ := H
       replace H : (if t113 = true then (if a0_0 = 1 then (some true) else (some ((l0_5.length : Int) == 0))) else (if a0_4.toList = ([] : List UInt8) then (if a0_0 = 1 then (some true) else (some ((l0_5.length : Int) == 0))) else (some false))) = some r := H
       have A21 := ak A210
       clear A210
       by_cases c22 : t113 = true
       ·subst c22
        have H1 : (if a0_0 = 1 then (some true) else (some ((l0_5.length : Int) == 0))) = some r := by rw [if_pos rfl] at H; exact H
        clear H
        have H := H1
        clear H1
        by_cases c23 : a0_0 = 1
        ·rw [if_pos c23] at H
         have c23b0 : (a0_0 == 1) = true := beq_iff_eq.mpr c23
         have c23b1 : (a0_0 != 1) = false := bne_eq_false_iff_eq.mpr c23
         clear c23
         obtain rfl := Option.some.inj H
         have hx108_0 := HQ0_0.out
         have hx108_1 := HQ0_1.out
         have hx108_2 := HQ0_2.out
         have hx108_3 := HQ0_3.out
         have hx108_4 := HQ0_4.out
         have hx108_5 := HQ0_5.out
         go_enter Tryd.func114, Tryd.ntmps114
         go_wp2_with (first | ((with_reducible refine gate_callee (f := 73) rfl ?_); refine goesL_ (some 20) rfl rfl Tryd.func73 (by kernel_rfl) rfl #[.int .i64 a0_0, .int .i64 1, .int .i64 9] rfl d1_1 ?_; (with_reducible refine (spec_l1In.calls a0_0 1 9 true _ A10.out).mono ?_); rintro e w' ⟨rfl, ⟨nd, rfl⟩⟩; refine ⟨_, rfl, ?_⟩) | (go_at_call 65; (with_reducible refine (spec_l4Named.calls a0_0 true _ A21.out).mono ?_); rintro e w' ⟨rfl, ⟨nd, rfl⟩⟩))
         go_ret
         exact ⟨by first | rfl | (simp; done) | (simp [*]; done) | (simp [ne_nil_b, eq_nil_b]; done), by repeat (first | exact Drawn0.refl _ | apply Drawn0.step)⟩
        ·rw [if_neg c23] at H
         have c23b0 : (a0_0 == 1) = false := beq_eq_false_iff_ne.mpr c23
         have c23b1 : (a0_0 != 1) = true := bne_iff_ne.mpr c23
         obtain rfl := Option.some.inj H
         have hx108_0 := HQ0_0.out
         have hx108_1 := HQ0_1.out
         have hx108_2 := HQ0_2.out
         have hx108_3 := HQ0_3.out
         have hx108_4 := HQ0_4.out
         have hx108_5 := HQ0_5.out
         go_enter Tryd.func114, Tryd.ntmps114
         go_wp2_with (first | ((with_reducible refine gate_callee (f := 73) rfl ?_); refine goesL_ (some 20) rfl rfl Tryd.func73 (by kernel_rfl) rfl #[.int .i64 a0_0, .int .i64 1, .int .i64 9] rfl d1_1 ?_; (with_reducible refine (spec_l1In.calls a0_0 1 9 true _ A10.out).mono ?_); rintro e w' ⟨rfl, ⟨nd, rfl⟩⟩; refine ⟨_, rfl, ?_⟩) | (go_at_call 65; (with_reducible refine (spec_l4Named.calls a0_0 true _ A21.out).mono ?_); rintro e w' ⟨rfl, ⟨nd, rfl⟩⟩))
         go_ret
         exact ⟨by first | rfl | (simp; done) | (simp [*]; done) | (simp [ne_nil_b, eq_nil_b]; done), by repeat (first | exact Drawn0.refl _ | apply Drawn0.step)⟩
       ·replace c22 := Bool.eq_false_iff.mpr c22
        subst c22
        have H1 : (if a0_4.toList = ([] : List UInt8) then (if a0_0 = 1 then (some true) else (some ((l0_5.length : Int) == 0))) else (some false)) = some r := by rw [if_neg (show ¬ (false = true) by decide)] at H; exact H
        clear H
        have H := H1
        clear H1
        by_cases c24 : a0_4.toList = ([] : List UInt8)
        ·rw [if_pos c24] at H
         have c24b0 : (a0_4.toList == ([] : List UInt8)) = true := beq_iff_eq.mpr c24
         have c24b1 : (a0_4.toList != ([] : List UInt8)) = false := bne_eq_false_iff_eq.mpr c24
         clear c24
         by_cases c25 : a0_0 = 1
         ·rw [if_pos c25] at H
          have c25b0 : (a0_0 == 1) = true := beq_iff_eq.mpr c25
          have c25b1 : (a0_0 != 1) = false := bne_eq_false_iff_eq.mpr c25
          clear c25
          obtain rfl := Option.some.inj H
          have hx108_0 := HQ0_0.out
          have hx108_1 := HQ0_1.out
          have hx108_2 := HQ0_2.out
          have hx108_3 := HQ0_3.out
          have hx108_4 := HQ0_4.out
          have hx108_5 := HQ0_5.out
          go_enter Tryd.func114, Tryd.ntmps114
          go_wp2_with (first | ((with_reducible refine gate_callee (f := 73) rfl ?_); refine goesL_ (some 20) rfl rfl Tryd.func73 (by kernel_rfl) rfl #[.int .i64 a0_0, .int .i64 1, .int .i64 9] rfl d1_1 ?_; (with_reducible refine (spec_l1In.calls a0_0 1 9 true _ A10.out).mono ?_); rintro e w' ⟨rfl, ⟨nd, rfl⟩⟩; refine ⟨_, rfl, ?_⟩) | (go_at_call 65; (with_reducible refine (spec_l4Named.calls a0_0 false _ A21.out).mono ?_); rintro e w' ⟨rfl, ⟨nd, rfl⟩⟩))
          go_ret
          exact ⟨by first | rfl | (simp; done) | (simp [*]; done) | (simp [ne_nil_b, eq_nil_b]; done), by repeat (first | exact Drawn0.refl _ | apply Drawn0.step)⟩
         ·rw [if_neg c25] at H
          have c25b0 : (a0_0 == 1) = false := beq_eq_false_iff_ne.mpr c25
          have c25b1 : (a0_0 != 1) = true := bne_iff_ne.mpr c25
          obtain rfl := Option.some.inj H
          have hx108_0 := HQ0_0.out
          have hx108_1 := HQ0_1.out
          have hx108_2 := HQ0_2.out
          have hx108_3 := HQ0_3.out
          have hx108_4 := HQ0_4.out
          have hx108_5 := HQ0_5.out
          go_enter Tryd.func114, Tryd.ntmps114
          go_wp2_with (first | ((with_reducible refine gate_callee (f := 73) rfl ?_); refine goesL_ (some 20) rfl rfl Tryd.func73 (by kernel_rfl) rfl #[.int .i64 a0_0, .int .i64 1, .int .i64 9] rfl d1_1 ?_; (with_reducible refine (spec_l1In.calls a0_0 1 9 true _ A10.out).mono ?_); rintro e w' ⟨rfl, ⟨nd, rfl⟩⟩; refine ⟨_, rfl, ?_⟩) | (go_at_call 65; (with_reducible refine (spec_l4Named.calls a0_0 false _ A21.out).mono ?_); rintro e w' ⟨rfl, ⟨nd, rfl⟩⟩))
          go_ret
          exact ⟨by first | rfl | (simp; done) | (simp [*]; done) | (simp [ne_nil_b, eq_nil_b]; done), by repeat (first | exact Drawn0.refl _ | apply Drawn0.step)⟩
        ·rw [if_neg c24] at H
         have c24b0 : (a0_4.toList == ([] : List UInt8)) = false := beq_eq_false_iff_ne.mpr c24
         have c24b1 : (a0_4.toList != ([] : List UInt8)) = true := bne_iff_ne.mpr c24
         obtain rfl := Option.some.inj H
         have hx108_0 := HQ0_0.out
         have hx108_1 := HQ0_1.out
         have hx108_2 := HQ0_2.out
         have hx108_3 := HQ0_3.out
         have hx108_4 := HQ0_4.out
         have hx108_5 := HQ0_5.out
         go_enter Tryd.func114, Tryd.ntmps114
         go_wp2_with (first | ((with_reducible refine gate_callee (f := 73) rfl ?_); refine goesL_ (some 20) rfl rfl Tryd.func73 (by kernel_rfl) rfl #[.int .i64 a0_0, .int .i64 1, .int .i64 9] rfl d1_1 ?_; (with_reducible refine (spec_l1In.calls a0_0 1 9 true _ A10.out).mono ?_); rintro e w' ⟨rfl, ⟨nd, rfl⟩⟩; refine ⟨_, rfl, ?_⟩) | (go_at_call 65; (with_reducible refine (spec_l4Named.calls a0_0 false _ A21.out).mono ?_); rintro e w' ⟨rfl, ⟨nd, rfl⟩⟩))
         go_ret
         exact ⟨by first | rfl | (simp; done) | (simp [*]; done) | (simp [ne_nil_b, eq_nil_b]; done), by repeat (first | exact Drawn0.refl _ | apply Drawn0.step)⟩
      ·rw [if_neg c20] at H
       have c20b0 : (a0_3 == 0) = false := beq_eq_false_iff_ne.mpr c20
       have c20b1 : (a0_3 != 0) = true := bne_iff_ne.mpr c20
       obtain rfl := Option.some.inj H
       have hx108_0 := HQ0_0.out
       have hx108_1 := HQ0_1.out
       have hx108_2 := HQ0_2.out
       have hx108_3 := HQ0_3.out
       have hx108_4 := HQ0_4.out
       have hx108_5 := HQ0_5.out
       go_enter Tryd.func114, Tryd.ntmps114
       go_wp2_with (first | ((with_reducible refine gate_callee (f := 73) rfl ?_); refine goesL_ (some 20) rfl rfl Tryd.func73 (by kernel_rfl) rfl #[.int .i64 a0_0, .int .i64 1, .int .i64 9] rfl d1_1 ?_; (with_reducible refine (spec_l1In.calls a0_0 1 9 true _ A10.out).mono ?_); rintro e w' ⟨rfl, ⟨nd, rfl⟩⟩; refine ⟨_, rfl, ?_⟩))
       go_ret
       exact ⟨by first | rfl | (simp; done) | (simp [*]; done) | (simp [ne_nil_b, eq_nil_b]; done), by repeat (first | exact Drawn0.refl _ | apply Drawn0.step)⟩
     ·rw [if_neg c19] at H
      have c19b0 : (a0_2 == 0) = false := beq_eq_false_iff_ne.mpr c19
      have c19b1 : (a0_2 != 0) = true := bne_iff_ne.mpr c19
      obtain rfl := Option.some.inj H
      have hx108_0 := HQ0_0.out
      have hx108_1 := HQ0_1.out
      have hx108_2 := HQ0_2.out
      have hx108_3 := HQ0_3.out
      have hx108_4 := HQ0_4.out
      have hx108_5 := HQ0_5.out
      go_enter Tryd.func114, Tryd.ntmps114
      go_wp2_with (first | ((with_reducible refine gate_callee (f := 73) rfl ?_); refine goesL_ (some 20) rfl rfl Tryd.func73 (by kernel_rfl) rfl #[.int .i64 a0_0, .int .i64 1, .int .i64 9] rfl d1_1 ?_; (with_reducible refine (spec_l1In.calls a0_0 1 9 true _ A10.out).mono ?_); rintro e w' ⟨rfl, ⟨nd, rfl⟩⟩; refine ⟨_, rfl, ?_⟩))
      go_ret
      exact ⟨by first | rfl | (simp; done) | (simp [*]; done) | (simp [ne_nil_b, eq_nil_b]; done), by repeat (first | exact Drawn0.refl _ | apply Drawn0.step)⟩
   ·replace c11 := Bool.eq_false_iff.mpr c11
    subst c11
    have H1 : (some false) = some r := by rw [if_neg (show ¬ (false = true) by decide)] at H; exact H
    clear H
    have H := H1
    clear H1
    obtain rfl := Option.some.inj H
    have hx108_0 := HQ0_0.out
    have hx108_1 := HQ0_1.out
    have hx108_2 := HQ0_2.out
    have hx108_3 := HQ0_3.out
    have hx108_4 := HQ0_4.out
    have hx108_5 := HQ0_5.out
    go_enter Tryd.func114, Tryd.ntmps114
    go_wp2_with (first | ((with_reducible refine gate_callee (f := 73) rfl ?_); refine goesL_ (some 20) rfl rfl Tryd.func73 (by kernel_rfl) rfl #[.int .i64 a0_0, .int .i64 1, .int .i64 9] rfl d1_1 ?_; (with_reducible refine (spec_l1In.calls a0_0 1 9 false _ A10.out).mono ?_); rintro e w' ⟨rfl, ⟨nd, rfl⟩⟩; refine ⟨_, rfl, ?_⟩))
    go_ret
    exact ⟨by first | rfl | (simp; done) | (simp [*]; done) | (simp [ne_nil_b, eq_nil_b]; done), by repeat (first | exact Drawn0.refl _ | apply Drawn0.step)⟩

end Go.Proofs.YtcliaceiijaafaaDoor.C
