/- Walks of the program's functions: each Go function's answer as a plain Lean function, and that the call comes to it. Written by a program. Conditions: those in each theorem's own head. -/
import Derived.Test.YtljaachpknphpaaA0
import Derived.Test.YtljaachpknphpaaA4
import Derived.Test.YtljaachpknphpaaA5
import Derived.Test.YtljaachpknphpaaA6
namespace Go.Proofs.Ytljaachpknphpaa.A
open Go.RowKit Go.Proofs.YtljaachpknphpaaW.PrintWords Go.Proofs.YtljaachpknphpaaW.PrintLast Go.Proofs.YtljaachpknphpaaW.PrintMore
attribute [local go_sem] max2_int min2_int max_two min_two max_three min_three max_four min_four   -- for this text's walks alone
set_option linter.unusedVariables false
set_option linter.unusedSimpArgs false

theorem d7_1 {p : Prop} (h : p := by (try simp only [List.map_toArray, List.map_cons, List.map_nil]); first | done | rfl | (simp only [List.length_drop, List.length_take]; rfl)) : p := h
theorem d7_2 {p : Prop} (h : p := by repeat (first | (with_reducible first | exact HB.out | apply below_alloc | apply pw_below_drewN | apply below_drew1) | exact HB.out)) : p := h
theorem d7_3 {p : Prop} (h : p := by (with_reducible repeat (first | refine blk_drewN ?_ _ | refine blk_drew ?_ | refine blk_alloc ?_ _)); exact BK175.out) : p := h
theorem d7_4 {p : Prop} (h : p := by repeat (first | (with_reducible first | exact HB.out | apply below_alloc | apply pw_below_drewN | apply below_drew1 | refine below_set ?_ GE175.out | refine below_set ?_ GE180.out) | exact HB.out)) : p := h
theorem d7_5 {p : Prop} (h : p := by (with_reducible repeat (first | refine blk_drewN ?_ _ | refine blk_drew ?_ | refine blk_alloc ?_ _)); exact BK180.out) : p := h
theorem d7_6 {p : Prop} (h : p := by repeat (first | (with_reducible first | exact HB.out | apply below_alloc | apply pw_below_drewN | apply below_drew1 | refine below_set ?_ GE175.out | refine below_set ?_ GE180.out | refine below_set ?_ GE189.out) | exact HB.out)) : p := h
theorem d7_7 {p : Prop} (h : p := by repeat (first | (with_reducible first | exact HB.out | apply below_alloc | apply pw_below_drewN | apply below_drew1 | refine below_set ?_ GE175.out) | exact HB.out)) : p := h
theorem d7_8 {p : Prop} (h : p := by (with_reducible repeat (first | apply Kd.R_alloc | apply Kd.R_drewN | apply Kd.R_drew)); exact HO_176001.out) : p := h
theorem d7_9 {p : Prop} (h : p := by (with_reducible repeat (first | apply Kd.R_alloc | apply Kd.R_drewN | apply Kd.R_drew)); exact HO_181001.out) : p := h

/-! ### laws_heldGlobalsResult: function 11 -/
def laws_heldGlobalsResult.f (k : Nat) (a0_0 : Int) (l0_1 : List (S91)) (a1 : Int) : Option (Int) := (laws_heldGlobalS.f k l0_1 a1).bind fun t170 => (if t170 < 0 then (some (-1)) else (some t170))
theorem laws_heldGlobalsResult.mono : ∀ a0 a1 a2 k, LeO (laws_heldGlobalsResult.f k a0 a1 a2) (laws_heldGlobalsResult.f (k + 1) a0 a1 a2) := by
  intro a0 a1 a2 k
  unfold laws_heldGlobalsResult.f
  repeat' first
      | (with_reducible exact laws_heldGlobalS.mono _ _ _)
      | (with_reducible exact LeO.refl _)
      | (with_reducible exact LeO.none _)
      | (with_reducible refine LeO.ite ?_ ?_)
      | (with_reducible refine LeO.bind ?_ (fun _ => ?_))
      | exact laws_heldGlobalS.mono _ _ _
      | exact LeO.none _
      | refine LeO.ite ?_ ?_
      | refine LeO.bind ?_ (fun _ => ?_)
set_option maxHeartbeats 8000000 in
set_option maxRecDepth 100000 in
theorem laws_heldGlobalsResult.calls (k : Nat) (a0_0 : Int) (A0_1 : Option Addr) (c0_1 : Nat) (l0_1 : List (S91)) (a1 : Int) (r : Int) (w : World) (hr0_1 : Kd.C k91 w A0_1 l0_1.length l0_1) (hc0_1 : l0_1.length ≤ c0_1) (h : laws_heldGlobalsResult.f k a0_0 l0_1 a1 = some r) :
    Calls Try.prog 11 #[.agg #[.int .i64 a0_0, .slice A0_1 l0_1.length c0_1], .int .i64 a1] w fun e w' => e = .returned (.int .i64 r) ∧ Below w.heap.size w w' := by
  have hu24 := Try.underlying24
  have HR0_1 := ak hr0_1
  have HC0_1 := ak hc0_1
  clear hr0_1 hc0_1
  have HB := ak (Below.refl w.heap.size w)
  have H : ((laws_heldGlobalS.f k l0_1 a1).bind fun t170 => (if t170 < 0 then (some (-1)) else (some t170))) = some r := h
  clear h
  replace H := Option.bind_eq_some_iff.mp H
  obtain ⟨t170, A30, H⟩ := H
  replace H : (if t170 < 0 then (some (-1)) else (some t170)) = some r := H
  have A3 := ak A30
  clear A30
  by_cases c4 : t170 < 0
  ·rw [if_pos c4] at H
   have c4b0 : decide (t170 < 0) = true := decide_eq_true c4
   clear c4
   obtain rfl := Option.some.inj H
   go_enter Try.func11, Try.ntmps11
   go_wp2_with (first | ((with_reducible refine gate_dst (N := 2) rfl ?_); refine box_event ?hg (N := 2) ?hd (cs := #[.int .i64 a0_0, .slice A0_1 l0_1.length c0_1]) (t := 24) ?hr ?_; (case hd => rfl); (case hg => rfl); (case hr => first | (go_simp; done) | (go_simp; rfl)); intro gb169 hg w5 hbox hb; have n0_ := ak (below_step d7_2 hb); have n1_ := ak (hbox); have n2_ := ak ((by rw [hg]; exact (below_size d7_2) : w.heap.size ≤ gb169)); have n3_ := ak ((by rw [hg]; exact (below_size d7_2) : w.heap.size ≤ gb169)); clear HB; have HB := n0_; have BK169 := n1_; have GW169 := n2_; have GE169 := n3_; clear n0_ n1_ n2_ n3_ hb hbox hg; have hcz6_0 : w5.cell? ⟨gb169, 0, none⟩ = some (.int .i64 a0_0) := (blk_cell BK169.out 0).trans rfl; have hcz6_1 : w5.cell? ⟨gb169, 1, none⟩ = some (.slice A0_1 l0_1.length c0_1) := (blk_cell BK169.out 1).trans rfl; have hfz6_0 := blk_frozen BK169.out 0; have hfz6_1 := blk_frozen BK169.out 1) | ((with_reducible refine gate_callee (f := 35) rfl ?_); refine goesL_ (some 8) rfl rfl Try.func35 (by kernel_rfl) rfl #[.slice A0_1 l0_1.length c0_1, .int .i64 a1] rfl d7_1 ?_; (with_reducible refine (laws_heldGlobalS.calls k _ _ l0_1 a1 t170 _ ?side1 ?side2 A3.out).mono ?_); (case side1 => repeat (first | exact (Kd.C_below HR0_1.out HB.out) | (with_reducible refine Kd.C_alloc ?_ _) | (with_reducible refine Kd.C_drewN ?_ _) | (with_reducible refine Kd.C_drew ?_))); (case side2 => exact HC0_1.out); rintro e w7 ⟨rfl, hb⟩; refine ⟨_, rfl, ?_⟩; have n0_ := ak (blk_below (g := gb169) (o := .cells #[.int .i64 a0_0, .slice A0_1 l0_1.length c0_1] 24 (0, 0)) (by (with_reducible repeat (first | refine blk_drewN ?_ _ | refine blk_drew ?_ | refine blk_alloc ?_ _)); exact BK169.out) hb); have n1_ := ak (below_step (by repeat (first | (with_reducible first | exact HB.out | apply below_alloc | apply pw_below_drewN | apply below_drew1 | refine below_set ?_ GE169.out) | exact HB.out)) hb); clear BK169 HB; have BK169 := n0_; have HB := n1_; clear n0_ n1_; (try clear hb)))
   go_ret
   exact ⟨by first | rfl | (simp [errW_none, errW_some] <;> rfl) | (simp [*, errW_none, errW_some] <;> rfl), by repeat (first | (with_reducible first | exact HB.out | apply below_alloc | apply pw_below_drewN | apply below_drew1 | refine below_set ?_ GE169.out) | exact HB.out)⟩
  ·rw [if_neg c4] at H
   have c4b0 : decide (t170 < 0) = false := decide_eq_false c4
   clear c4
   obtain rfl := Option.some.inj H
   go_enter Try.func11, Try.ntmps11
   go_wp2_with (first | ((with_reducible refine gate_dst (N := 2) rfl ?_); refine box_event ?hg (N := 2) ?hd (cs := #[.int .i64 a0_0, .slice A0_1 l0_1.length c0_1]) (t := 24) ?hr ?_; (case hd => rfl); (case hg => rfl); (case hr => first | (go_simp; done) | (go_simp; rfl)); intro gb169 hg w8 hbox hb; have n0_ := ak (below_step d7_2 hb); have n1_ := ak (hbox); have n2_ := ak ((by rw [hg]; exact (below_size d7_2) : w.heap.size ≤ gb169)); have n3_ := ak ((by rw [hg]; exact (below_size d7_2) : w.heap.size ≤ gb169)); clear HB; have HB := n0_; have BK169 := n1_; have GW169 := n2_; have GE169 := n3_; clear n0_ n1_ n2_ n3_ hb hbox hg; have hcz9_0 : w8.cell? ⟨gb169, 0, none⟩ = some (.int .i64 a0_0) := (blk_cell BK169.out 0).trans rfl; have hcz9_1 : w8.cell? ⟨gb169, 1, none⟩ = some (.slice A0_1 l0_1.length c0_1) := (blk_cell BK169.out 1).trans rfl; have hfz9_0 := blk_frozen BK169.out 0; have hfz9_1 := blk_frozen BK169.out 1) | ((with_reducible refine gate_callee (f := 35) rfl ?_); refine goesL_ (some 8) rfl rfl Try.func35 (by kernel_rfl) rfl #[.slice A0_1 l0_1.length c0_1, .int .i64 a1] rfl d7_1 ?_; (with_reducible refine (laws_heldGlobalS.calls k _ _ l0_1 a1 t170 _ ?side1 ?side2 A3.out).mono ?_); (case side1 => repeat (first | exact (Kd.C_below HR0_1.out HB.out) | (with_reducible refine Kd.C_alloc ?_ _) | (with_reducible refine Kd.C_drewN ?_ _) | (with_reducible refine Kd.C_drew ?_))); (case side2 => exact HC0_1.out); rintro e w10 ⟨rfl, hb⟩; refine ⟨_, rfl, ?_⟩; have n0_ := ak (blk_below (g := gb169) (o := .cells #[.int .i64 a0_0, .slice A0_1 l0_1.length c0_1] 24 (0, 0)) (by (with_reducible repeat (first | refine blk_drewN ?_ _ | refine blk_drew ?_ | refine blk_alloc ?_ _)); exact BK169.out) hb); have n1_ := ak (below_step (by repeat (first | (with_reducible first | exact HB.out | apply below_alloc | apply pw_below_drewN | apply below_drew1 | refine below_set ?_ GE169.out) | exact HB.out)) hb); clear BK169 HB; have BK169 := n0_; have HB := n1_; clear n0_ n1_; (try clear hb)))
   go_ret
   exact ⟨by first | rfl | (simp [errW_none, errW_some] <;> rfl) | (simp [*, errW_none, errW_some] <;> rfl), by repeat (first | (with_reducible first | exact HB.out | apply below_alloc | apply pw_below_drewN | apply below_drew1 | refine below_set ?_ GE169.out) | exact HB.out)⟩

/-! ### laws_FnExactNewGlobals: function 3 -/
mutual
def laws_FnExactNewGlobals.j0 : Nat → Int → Int → List (S91) → Int → List (S91) → Option (Bool)
  | 0, _, _, _, _, _ => none
  | k + 1, x0, x176000, x176001, x181000, x181001 => (laws_markGlobalsResult.f k x181000 x181001 1).bind fun bt182 => ((laws_heldGlobalsResult.f k x181000 bt182.2 1).bind fun t184 => (if t184 < 0 then (some false) else (laws_FnExactNewGlobals.j1 k x0 bt182.1 t184 x176000 x176001 x181000 bt182.2)))
def laws_FnExactNewGlobals.j1 : Nat → Int → Int → Int → Int → List (S91) → Int → List (S91) → Option (Bool)
  | 0, _, _, _, _, _, _, _ => none
  | k + 1, x0, x5, x6, x176000, x176001, x181000, x181001 => if x6 = x5 then (laws_FnExactNewGlobals.j2 k x0 x5 x176000 x176001 x181000 x181001) else (some false)
def laws_FnExactNewGlobals.j2 : Nat → Int → Int → Int → List (S91) → Int → List (S91) → Option (Bool)
  | 0, _, _, _, _, _, _ => none
  | k + 1, x0, x5, x176000, x176001, x181000, x181001 => (impl_NewGlobals.f k x0).bind fun bt185 => ((laws_eqGlobalsResult.f k bt185.1 bt185.2 x176000 x176001).bind fun t190 => (if t190 = true then (laws_FnExactNewGlobals.j3 k x5 x181000 x181001) else (some false)))
def laws_FnExactNewGlobals.j3 : Nat → Int → Int → List (S91) → Option (Bool)
  | 0, _, _, _ => none
  | k + 1, x5, x181000, x181001 => (laws_heldGlobalsResult.f k x181000 x181001 1).bind fun t191 => (if t191 < 0 then (some false) else (if t191 = x5 then (some true) else (some false)))
end
def laws_FnExactNewGlobals.f (k : Nat) (a0 : Int) : Option (Bool) := (spec_NewGlobals.f k a0).bind fun bt171 => ((impl_NewGlobals.f k a0).bind fun bt176 => ((laws_eqGlobalsResult.f k bt176.1 bt176.2 bt171.1 bt171.2).bind fun t181 => (if t181 = true then (laws_FnExactNewGlobals.j0 k a0 bt171.1 bt171.2 bt176.1 bt176.2) else (some false))))
theorem laws_FnExactNewGlobals.mono_l : ∀ k, (∀ y0 y1 y2 y3 y4, LeO (laws_FnExactNewGlobals.j0 k y0 y1 y2 y3 y4) (laws_FnExactNewGlobals.j0 (k + 1) y0 y1 y2 y3 y4)) ∧ (∀ y0 y1 y2 y3 y4 y5 y6, LeO (laws_FnExactNewGlobals.j1 k y0 y1 y2 y3 y4 y5 y6) (laws_FnExactNewGlobals.j1 (k + 1) y0 y1 y2 y3 y4 y5 y6)) ∧ (∀ y0 y1 y2 y3 y4 y5, LeO (laws_FnExactNewGlobals.j2 k y0 y1 y2 y3 y4 y5) (laws_FnExactNewGlobals.j2 (k + 1) y0 y1 y2 y3 y4 y5)) ∧ (∀ y0 y1 y2, LeO (laws_FnExactNewGlobals.j3 k y0 y1 y2) (laws_FnExactNewGlobals.j3 (k + 1) y0 y1 y2))
  | 0 => ⟨fun _ _ _ _ _ r h => by simp [laws_FnExactNewGlobals.j0] at h, fun _ _ _ _ _ _ _ r h => by simp [laws_FnExactNewGlobals.j1] at h, fun _ _ _ _ _ _ r h => by simp [laws_FnExactNewGlobals.j2] at h, fun _ _ _ r h => by simp [laws_FnExactNewGlobals.j3] at h⟩
  | k + 1 => by
    obtain ⟨ih0, ih1, ih2, ih3⟩ := laws_FnExactNewGlobals.mono_l k
    refine ⟨?_, ?_, ?_, ?_⟩
    · intro y0 y1 y2 y3 y4
      unfold laws_FnExactNewGlobals.j0
      repeat' first
      | (with_reducible exact ih0 _ _ _ _ _)
      | (with_reducible exact ih1 _ _ _ _ _ _ _)
      | (with_reducible exact ih2 _ _ _ _ _ _)
      | (with_reducible exact ih3 _ _ _)
      | (with_reducible exact impl_NewGlobals.mono _ _)
      | (with_reducible exact laws_eqGlobalsResult.mono _ _ _ _ _)
      | (with_reducible exact laws_heldGlobalsResult.mono _ _ _ _)
      | (with_reducible exact laws_markGlobalsResult.mono _ _ _ _)
      | (with_reducible exact spec_NewGlobals.mono _ _)
      | (with_reducible exact LeO.refl _)
      | (with_reducible exact LeO.none _)
      | (with_reducible refine LeO.ite ?_ ?_)
      | (with_reducible refine LeO.bind ?_ (fun _ => ?_))
      | exact ih0 _ _ _ _ _
      | exact ih1 _ _ _ _ _ _ _
      | exact ih2 _ _ _ _ _ _
      | exact ih3 _ _ _
      | exact impl_NewGlobals.mono _ _
      | exact laws_eqGlobalsResult.mono _ _ _ _ _
      | exact laws_heldGlobalsResult.mono _ _ _ _
      | exact laws_markGlobalsResult.mono _ _ _ _
      | exact spec_NewGlobals.mono _ _
      | exact LeO.none _
      | refine LeO.ite ?_ ?_
      | refine LeO.bind ?_ (fun _ => ?_)
    · intro y0 y1 y2 y3 y4 y5 y6
      unfold laws_FnExactNewGlobals.j1
      repeat' first
      | (with_reducible exact ih0 _ _ _ _ _)
      | (with_reducible exact ih1 _ _ _ _ _ _ _)
      | (with_reducible exact ih2 _ _ _ _ _ _)
      | (with_reducible exact ih3 _ _ _)
      | (with_reducible exact impl_NewGlobals.mono _ _)
      | (with_reducible exact laws_eqGlobalsResult.mono _ _ _ _ _)
      | (with_reducible exact laws_heldGlobalsResult.mono _ _ _ _)
      | (with_reducible exact laws_markGlobalsResult.mono _ _ _ _)
      | (with_reducible exact spec_NewGlobals.mono _ _)
      | (with_reducible exact LeO.refl _)
      | (with_reducible exact LeO.none _)
      | (with_reducible refine LeO.ite ?_ ?_)
      | (with_reducible refine LeO.bind ?_ (fun _ => ?_))
      | exact ih0 _ _ _ _ _
      | exact ih1 _ _ _ _ _ _ _
      | exact ih2 _ _ _ _ _ _
      | exact ih3 _ _ _
      | exact impl_NewGlobals.mono _ _
      | exact laws_eqGlobalsResult.mono _ _ _ _ _
      | exact laws_heldGlobalsResult.mono _ _ _ _
      | exact laws_markGlobalsResult.mono _ _ _ _
      | exact spec_NewGlobals.mono _ _
      | exact LeO.none _
      | refine LeO.ite ?_ ?_
      | refine LeO.bind ?_ (fun _ => ?_)
    · intro y0 y1 y2 y3 y4 y5
      unfold laws_FnExactNewGlobals.j2
      repeat' first
      | (with_reducible exact ih0 _ _ _ _ _)
      | (with_reducible exact ih1 _ _ _ _ _ _ _)
      | (with_reducible exact ih2 _ _ _ _ _ _)
      | (with_reducible exact ih3 _ _ _)
      | (with_reducible exact impl_NewGlobals.mono _ _)
      | (with_reducible exact laws_eqGlobalsResult.mono _ _ _ _ _)
      | (with_reducible exact laws_heldGlobalsResult.mono _ _ _ _)
      | (with_reducible exact laws_markGlobalsResult.mono _ _ _ _)
      | (with_reducible exact spec_NewGlobals.mono _ _)
      | (with_reducible exact LeO.refl _)
      | (with_reducible exact LeO.none _)
      | (with_reducible refine LeO.ite ?_ ?_)
      | (with_reducible refine LeO.bind ?_ (fun _ => ?_))
      | exact ih0 _ _ _ _ _
      | exact ih1 _ _ _ _ _ _ _
      | exact ih2 _ _ _ _ _ _
      | exact ih3 _ _ _
      | exact impl_NewGlobals.mono _ _
      | exact laws_eqGlobalsResult.mono _ _ _ _ _
      | exact laws_heldGlobalsResult.mono _ _ _ _
      | exact laws_markGlobalsResult.mono _ _ _ _
      | exact spec_NewGlobals.mono _ _
      | exact LeO.none _
      | refine LeO.ite ?_ ?_
      | refine LeO.bind ?_ (fun _ => ?_)
    · intro y0 y1 y2
      unfold laws_FnExactNewGlobals.j3
      repeat' first
      | (with_reducible exact ih0 _ _ _ _ _)
      | (with_reducible exact ih1 _ _ _ _ _ _ _)
      | (with_reducible exact ih2 _ _ _ _ _ _)
      | (with_reducible exact ih3 _ _ _)
      | (with_reducible exact impl_NewGlobals.mono _ _)
      | (with_reducible exact laws_eqGlobalsResult.mono _ _ _ _ _)
      | (with_reducible exact laws_heldGlobalsResult.mono _ _ _ _)
      | (with_reducible exact laws_markGlobalsResult.mono _ _ _ _)
      | (with_reducible exact spec_NewGlobals.mono _ _)
      | (with_reducible exact LeO.refl _)
      | (with_reducible exact LeO.none _)
      | (with_reducible refine LeO.ite ?_ ?_)
      | (with_reducible refine LeO.bind ?_ (fun _ => ?_))
      | exact ih0 _ _ _ _ _
      | exact ih1 _ _ _ _ _ _ _
      | exact ih2 _ _ _ _ _ _
      | exact ih3 _ _ _
      | exact impl_NewGlobals.mono _ _
      | exact laws_eqGlobalsResult.mono _ _ _ _ _
      | exact laws_heldGlobalsResult.mono _ _ _ _
      | exact laws_markGlobalsResult.mono _ _ _ _
      | exact spec_NewGlobals.mono _ _
      | exact LeO.none _
      | refine LeO.ite ?_ ?_
      | refine LeO.bind ?_ (fun _ => ?_)
theorem laws_FnExactNewGlobals.mono : ∀ a0 k, LeO (laws_FnExactNewGlobals.f k a0) (laws_FnExactNewGlobals.f (k + 1) a0) := by
  intro a0 k
  obtain ⟨ih0, ih1, ih2, ih3⟩ := laws_FnExactNewGlobals.mono_l k
  unfold laws_FnExactNewGlobals.f
  repeat' first
      | (with_reducible exact ih0 _ _ _ _ _)
      | (with_reducible exact ih1 _ _ _ _ _ _ _)
      | (with_reducible exact ih2 _ _ _ _ _ _)
      | (with_reducible exact ih3 _ _ _)
      | (with_reducible exact impl_NewGlobals.mono _ _)
      | (with_reducible exact laws_eqGlobalsResult.mono _ _ _ _ _)
      | (with_reducible exact laws_heldGlobalsResult.mono _ _ _ _)
      | (with_reducible exact laws_markGlobalsResult.mono _ _ _ _)
      | (with_reducible exact spec_NewGlobals.mono _ _)
      | (with_reducible exact LeO.refl _)
      | (with_reducible exact LeO.none _)
      | (with_reducible refine LeO.ite ?_ ?_)
      | (with_reducible refine LeO.bind ?_ (fun _ => ?_))
      | exact ih0 _ _ _ _ _
      | exact ih1 _ _ _ _ _ _ _
      | exact ih2 _ _ _ _ _ _
      | exact ih3 _ _ _
      | exact impl_NewGlobals.mono _ _
      | exact laws_eqGlobalsResult.mono _ _ _ _ _
      | exact laws_heldGlobalsResult.mono _ _ _ _
      | exact laws_markGlobalsResult.mono _ _ _ _
      | exact spec_NewGlobals.mono _ _
      | exact LeO.none _
      | refine LeO.ite ?_ ?_
      | refine LeO.bind ?_ (fun _ => ?_)
set_option maxHeartbeats 8000000 in
set_option maxRecDepth 100000 in
theorem laws_FnExactNewGlobals.calls (k : Nat) (a0 : Int) (r : Bool) (w : World) (h : laws_FnExactNewGlobals.f k a0 = some r) :
    Calls Try.prog 3 #[.int .i64 a0] w fun e w' => e = .returned (.bool r) ∧ Below w.heap.size w w' := by
  have hu24 := Try.underlying24
  have HB := ak (Below.refl w.heap.size w)
  have H : ((spec_NewGlobals.f k a0).bind fun bt171 => ((impl_NewGlobals.f k a0).bind fun bt176 => ((laws_eqGlobalsResult.f k bt176.1 bt176.2 bt171.1 bt171.2).bind fun t181 => (if t181 = true then (laws_FnExactNewGlobals.j0 k a0 bt171.1 bt171.2 bt176.1 bt176.2) else (some false))))) = some r := h
  clear h
  replace H := Option.bind_eq_some_iff.mp H
  obtain ⟨⟨t171, t172⟩, A20, H⟩ := H
  replace H : ((impl_NewGlobals.f k a0).bind fun bt176 => ((laws_eqGlobalsResult.f k bt176.1 bt176.2 t171 t172).bind fun t181 => (if t181 = true then (laws_FnExactNewGlobals.j0 k a0 t171 t172 bt176.1 bt176.2) else (some false)))) = some r := H
  have A2 := ak A20
  clear A20
  replace H := Option.bind_eq_some_iff.mp H
  obtain ⟨⟨t176, t177⟩, A30, H⟩ := H
  replace H : ((laws_eqGlobalsResult.f k t176 t177 t171 t172).bind fun t181 => (if t181 = true then (laws_FnExactNewGlobals.j0 k a0 t171 t172 t176 t177) else (some false))) = some r := H
  have A3 := ak A30
  clear A30
  replace H := Option.bind_eq_some_iff.mp H
  obtain ⟨t181, A40, H⟩ := H
  replace H : (if t181 = true then (laws_FnExactNewGlobals.j0 k a0 t171 t172 t176 t177) else (some false)) = some r := H
  have A4 := ak A40
  clear A40
  have HC5 := ak H
  clear H
  go_enter Try.func3, Try.ntmps3
  go_upto_if 15 with (first | ((with_reducible refine gate_callee (f := 7) rfl ?_); refine goesL_ (some 9) rfl rfl Try.func7 (by kernel_rfl) rfl #[.int .i64 a0] rfl d7_1 ?_; (with_reducible refine (spec_NewGlobals.calls k a0 t171 t172 _ A2.out).mono ?_); rintro e w6 ⟨v173, rfl, ho0, hb⟩; refine ⟨_, rfl, ?_⟩; have n0_ := ak (Kd.R_lower ho0 (below_size d7_2)); have n1_ := ak (below_step d7_2 hb); clear HB; have HO174 := n0_; have HB := n1_; clear n0_ n1_; (try clear hb); (try clear hk); (try clear ho0)) | ((with_reducible refine gate_dst (N := 3) rfl ?_); refine box_event ?hg (N := 3) ?hd (cs := #[.int .i64 0, .slice none 0 0]) (t := 24) ?hr ?_; (case hd => rfl); (case hg => rfl); (case hr => first | (go_simp; done) | (go_simp; rfl)); intro gb175 hg w7 hbox hb; have n0_ := ak (Kd.R_below (by (with_reducible repeat (first | apply Kd.R_alloc | apply Kd.R_drewN | apply Kd.R_drew)); exact HO174.out) hb); have n1_ := ak (below_step d7_2 hb); have n2_ := ak (hbox); have n3_ := ak ((by rw [hg]; exact (below_size d7_2) : w.heap.size ≤ gb175)); have n4_ := ak ((by rw [hg]; exact (below_size d7_2) : w.heap.size ≤ gb175)); clear HO174 HB; have HO174 := n0_; have HB := n1_; have BK175 := n2_; have GW175 := n3_; have GE175 := n4_; clear n0_ n1_ n2_ n3_ n4_ hb hbox hg; have hcz8_0 : w7.cell? ⟨gb175, 0, none⟩ = some (.int .i64 0) := (blk_cell BK175.out 0).trans rfl; have hcz8_1 : w7.cell? ⟨gb175, 1, none⟩ = some (.slice none 0 0) := (blk_cell BK175.out 1).trans rfl; have hfz8_0 := blk_frozen BK175.out 0; have hfz8_1 := blk_frozen BK175.out 1; obtain ⟨Ao9, co9, eo9⟩ := Kd.R_slice HO174.out; subst eo9) | ((with_reducible refine gate_callee (f := 8) rfl ?_); refine goesL_ (some 11) rfl rfl Try.func8 (by kernel_rfl) rfl #[.int .i64 a0] rfl d7_1 ?_; (with_reducible refine (impl_NewGlobals.calls k a0 t176 t177 _ A3.out).mono ?_); rintro e w10 ⟨v178, rfl, ho0, hb⟩; refine ⟨_, rfl, ?_⟩; have n0_ := ak (Kd.R_elder' (by (with_reducible repeat (first | apply Kd.R_alloc | apply Kd.R_drewN | apply Kd.R_drew)); exact (Kd.R_mono (Kd.R_far (p := ⟨gb175, 1, none⟩) (Kd.R_far (p := ⟨gb175, 0, none⟩) (Kd.R_types HO174.out BK175.out (by decide)) (fun _ hk => hk.2) (.int .i64 t171)) (fun _ hk => hk.2) (.slice Ao9 t172.length co9)) (fun _ h_ => h_.1))) (Kd.R_base ho0) hb); have n1_ := ak (Kd.R_lower (Kd.R_new' ho0 (Kd.R_lt (by (with_reducible repeat (first | apply Kd.R_alloc | apply Kd.R_drewN | apply Kd.R_drew)); exact (Kd.R_mono (Kd.R_far (p := ⟨gb175, 1, none⟩) (Kd.R_far (p := ⟨gb175, 0, none⟩) (Kd.R_types HO174.out BK175.out (by decide)) (fun _ hk => hk.2) (.int .i64 t171)) (fun _ hk => hk.2) (.slice Ao9 t172.length co9)) (fun _ h_ => h_.1))))) (below_size d7_7)); have n2_ := ak (blk_below (g := gb175) (o := .cells #[.int .i64 t171, .slice Ao9 t172.length co9] 24 (0, 0)) (by (with_reducible repeat (first | refine blk_drewN ?_ _ | refine blk_drew ?_ | refine blk_alloc ?_ _)); refine blk_put (cs := #[.int .i64 t171, .slice none 0 0]) ?_ 1 _ rfl; (with_reducible repeat (first | refine blk_drewN ?_ _ | refine blk_drew ?_ | refine blk_alloc ?_ _)); refine blk_put (cs := #[.int .i64 0, .slice none 0 0]) ?_ 0 _ rfl; (with_reducible repeat (first | refine blk_drewN ?_ _ | refine blk_drew ?_ | refine blk_alloc ?_ _)); exact BK175.out) hb); have n3_ := ak (below_step d7_7 hb); clear HO174 BK175 HB; have HO174 := n0_; have HO179 := n1_; have BK175 := n2_; have HB := n3_; clear n0_ n1_ n2_ n3_; (try clear hb); (try clear hk); (try clear ho0)) | ((with_reducible refine gate_dst (N := 4) rfl ?_); refine box_event ?hg (N := 4) ?hd (cs := #[.int .i64 0, .slice none 0 0]) (t := 24) ?hr ?_; (case hd => rfl); (case hg => rfl); (case hr => first | (go_simp; done) | (go_simp; rfl)); intro gb180 hg w11 hbox hb; have n0_ := ak (Kd.R_below (by (with_reducible repeat (first | apply Kd.R_alloc | apply Kd.R_drewN | apply Kd.R_drew)); exact HO174.out) hb); have n1_ := ak (Kd.R_below (by (with_reducible repeat (first | apply Kd.R_alloc | apply Kd.R_drewN | apply Kd.R_drew)); exact HO179.out) hb); have n2_ := ak (blk_below (g := gb175) (o := .cells #[.int .i64 t171, .slice Ao9 t172.length co9] 24 (0, 0)) d7_3 hb); have n3_ := ak (below_step d7_7 hb); have n4_ := ak (hbox); have n5_ := ak ((by rw [hg]; exact (below_size d7_7) : w.heap.size ≤ gb180)); have n6_ := ak ((by rw [hg]; exact (below_size d7_7) : w.heap.size ≤ gb180)); have n7_ := ak ((by rw [hg]; exact Nat.ne_of_lt (blk_lt (g := gb175) (o := .cells #[.int .i64 t171, .slice Ao9 t172.length co9] 24 (0, 0)) d7_3) : gb175 ≠ gb180)); have n8_ := ak ((by rw [hg]; exact Nat.ne_of_gt (blk_lt (g := gb175) (o := .cells #[.int .i64 t171, .slice Ao9 t172.length co9] 24 (0, 0)) d7_3) : gb180 ≠ gb175)); clear HO174 HO179 BK175 HB; have HO174 := n0_; have HO179 := n1_; have BK175 := n2_; have HB := n3_; have BK180 := n4_; have GW180 := n5_; have GE180 := n6_; have NB175_180 := n7_; have NB180_175 := n8_; clear n0_ n1_ n2_ n3_ n4_ n5_ n6_ n7_ n8_ hb hbox hg; have hnb12 := NB180_175.out; have hnc12 := NB175_180.out; have hcz13_0 : w11.cell? ⟨gb180, 0, none⟩ = some (.int .i64 0) := (blk_cell BK180.out 0).trans rfl; have hcz13_1 : w11.cell? ⟨gb180, 1, none⟩ = some (.slice none 0 0) := (blk_cell BK180.out 1).trans rfl; have hfz13_0 := blk_frozen BK180.out 0; have hfz13_1 := blk_frozen BK180.out 1; obtain ⟨Ao14, co14, eo14⟩ := Kd.R_slice HO179.out; subst eo14; have hcz15_0 : w11.cell? ⟨gb175, 0, none⟩ = some (.int .i64 t171) := (blk_cell BK175.out 0).trans rfl; have hcz15_1 : w11.cell? ⟨gb175, 1, none⟩ = some (.slice Ao9 t172.length co9) := (blk_cell BK175.out 1).trans rfl; have hfz15_0 := blk_frozen BK175.out 0; have hfz15_1 := blk_frozen BK175.out 1) | ((with_reducible refine gate_callee (f := 9) rfl ?_); refine goesL_ (some 14) rfl rfl Try.func9 (by kernel_rfl) rfl #[.agg #[.int .i64 t176, .slice Ao14 t177.length co14], .agg #[.int .i64 t171, .slice Ao9 t172.length co9]] rfl d7_1 ?_; (with_reducible refine (laws_eqGlobalsResult.calls k t176 _ _ t177 t171 _ _ t172 t181 _ ?side1 ?side2 ?side3 ?side4 A4.out).mono ?_); (case side1 => refine (Kd.R_reads' (e := 91) (base := w.heap.size) (ok := fun k_ => (True ∧ some k_ ≠ (.slice Ao9 t172.length co9 : Value).ownBlock)) (n := t177.length) (c := co14) ?_).2.2; exact (by (with_reducible repeat (first | apply Kd.R_alloc | apply Kd.R_drewN | apply Kd.R_drew)); exact (Kd.R_mono (Kd.R_far (p := ⟨gb180, 1, none⟩) (Kd.R_far (p := ⟨gb180, 0, none⟩) (Kd.R_types HO179.out BK180.out (by decide)) (fun _ hk => hk.2) (.int .i64 t176)) (fun _ hk => hk.2) (.slice Ao14 t177.length co14)) (fun _ h_ => h_.1)))); (case side2 => exact (Kd.R_reads' HO179.out).2.1); (case side3 => refine (Kd.R_reads' (e := 91) (base := w.heap.size) (ok := fun k_ => (True ∧ some k_ ≠ (.slice Ao14 t177.length co14 : Value).ownBlock)) (n := t172.length) (c := co9) ?_).2.2; exact (by (with_reducible repeat (first | apply Kd.R_alloc | apply Kd.R_drewN | apply Kd.R_drew)); exact (Kd.R_mono (Kd.R_far (p := ⟨gb180, 1, none⟩) (Kd.R_far (p := ⟨gb180, 0, none⟩) (Kd.R_types HO174.out BK180.out (by decide)) (fun _ hk => hk.2) (.int .i64 t176)) (fun _ hk => hk.2) (.slice Ao14 t177.length co14)) (fun _ h_ => h_.1)))); (case side4 => exact (Kd.R_reads' HO174.out).2.1); rintro e w16 ⟨rfl, hb⟩; refine ⟨_, rfl, ?_⟩; have n0_ := ak (Kd.R_below (by (with_reducible repeat (first | apply Kd.R_alloc | apply Kd.R_drewN | apply Kd.R_drew)); exact (Kd.R_mono (Kd.R_far (p := ⟨gb180, 1, none⟩) (Kd.R_far (p := ⟨gb180, 0, none⟩) (Kd.R_types HO174.out BK180.out (by decide)) (fun _ hk => hk.2) (.int .i64 t176)) (fun _ hk => hk.2) (.slice Ao14 t177.length co14)) (fun _ h_ => h_.1))) hb); have n1_ := ak (Kd.R_below (by (with_reducible repeat (first | apply Kd.R_alloc | apply Kd.R_drewN | apply Kd.R_drew)); exact (Kd.R_mono (Kd.R_far (p := ⟨gb180, 1, none⟩) (Kd.R_far (p := ⟨gb180, 0, none⟩) (Kd.R_types HO179.out BK180.out (by decide)) (fun _ hk => hk.2) (.int .i64 t176)) (fun _ hk => hk.2) (.slice Ao14 t177.length co14)) (fun _ h_ => h_.1))) hb); have n2_ := ak (blk_below (g := gb175) (o := .cells #[.int .i64 t171, .slice Ao9 t172.length co9] 24 (0, 0)) (by (with_reducible repeat (first | refine blk_drewN ?_ _ | refine blk_drew ?_ | refine blk_alloc ?_ _)); refine blk_far ?_ NB175_180.out _; (with_reducible repeat (first | refine blk_drewN ?_ _ | refine blk_drew ?_ | refine blk_alloc ?_ _)); refine blk_far ?_ NB175_180.out _; (with_reducible repeat (first | refine blk_drewN ?_ _ | refine blk_drew ?_ | refine blk_alloc ?_ _)); exact BK175.out) hb); have n3_ := ak (blk_below (g := gb180) (o := .cells #[.int .i64 t176, .slice Ao14 t177.length co14] 24 (0, 0)) (by (with_reducible repeat (first | refine blk_drewN ?_ _ | refine blk_drew ?_ | refine blk_alloc ?_ _)); refine blk_put (cs := #[.int .i64 t176, .slice none 0 0]) ?_ 1 _ rfl; (with_reducible repeat (first | refine blk_drewN ?_ _ | refine blk_drew ?_ | refine blk_alloc ?_ _)); refine blk_put (cs := #[.int .i64 0, .slice none 0 0]) ?_ 0 _ rfl; (with_reducible repeat (first | refine blk_drewN ?_ _ | refine blk_drew ?_ | refine blk_alloc ?_ _)); exact BK180.out) hb); have n4_ := ak (below_step d7_4 hb); clear HO174 HO179 BK175 BK180 HB; have HO174 := n0_; have HO179 := n1_; have BK175 := n2_; have BK180 := n3_; have HB := n4_; clear n0_ n1_ n2_ n3_ n4_; (try clear hb); (try clear hk)))
  (try simp only [Act.put, List.setIfInBounds_toArray, List.set_cons_zero, List.set_cons_succ])
  go_cut [] (fun wc => ∃ (kq : Nat), Aside0 (laws_FnExactNewGlobals.j0 kq a0 t171 t172 t176 t177 = some r) ∧ Aside0 (kq ≤ k) ∧ Aside0 (Kd.R k91 91 wc w.heap.size (fun k_ => some k_ ≠ ((.slice Ao14 t177.length co14) : Value).ownBlock) (.slice Ao9 t172.length co9) t172) ∧ Aside0 (Kd.R k91 91 wc w.heap.size (fun k_ => some k_ ≠ ((.slice Ao9 t172.length co9) : Value).ownBlock) (.slice Ao14 t177.length co14) t177) ∧ Aside0 (wc.heap[gb175]? = some (.cells #[.int .i64 t171, (.slice Ao9 t172.length co9)] 24 (0, 0))) ∧ Aside0 (wc.heap[gb180]? = some (.cells #[.int .i64 t176, (.slice Ao14 t177.length co14)] 24 (0, 0))) ∧ Aside0 (Below w.heap.size w wc))
  case first =>
   have H := HC5.out
   clear HC5
   by_cases c17 : t181 = true
   ·subst c17
    have H1 : (laws_FnExactNewGlobals.j0 k a0 t171 t172 t176 t177) = some r := by rw [if_pos rfl] at H; exact H
    clear H
    have H := H1
    clear H1
    have H' := ak H
    clear H
    go_wp2
    go_meet
    case rel => exact ⟨_, H', ⟨by first | omega | exact Nat.le_refl _⟩, ⟨by (with_reducible repeat (first | apply Kd.R_alloc | apply Kd.R_drewN | apply Kd.R_drew)); exact Kd.R_mono HO174.out (fun _ hk => hk.2)⟩, ⟨by (with_reducible repeat (first | apply Kd.R_alloc | apply Kd.R_drewN | apply Kd.R_drew)); exact Kd.R_mono HO179.out (fun _ hk => hk.2)⟩, ⟨by (with_reducible repeat (first | refine blk_drewN ?_ _ | refine blk_drew ?_ | refine blk_alloc ?_ _)); exact BK175.out⟩, ⟨by (with_reducible repeat (first | refine blk_drewN ?_ _ | refine blk_drew ?_ | refine blk_alloc ?_ _)); exact BK180.out⟩, ⟨by repeat (first | (with_reducible first | exact HB.out | apply below_alloc | apply pw_below_drewN | apply below_drew1 | refine below_set ?_ GE175.out | refine below_set ?_ GE180.out) | exact HB.out)⟩⟩
   ·replace c17 := Bool.eq_false_iff.mpr c17
    subst c17
    have H1 : (some false) = some r := by rw [if_neg (show ¬ (false = true) by decide)] at H; exact H
    clear H
    have H := H1
    clear H1
    obtain rfl := Option.some.inj H
    go_wp2
    go_ret
    exact ⟨by first | rfl | (simp [errW_none, errW_some] <;> rfl) | (simp [*, errW_none, errW_some] <;> rfl), by repeat (first | (with_reducible first | exact HB.out | apply below_alloc | apply pw_below_drewN | apply below_drew1 | refine below_set ?_ GE175.out | refine below_set ?_ GE180.out) | exact HB.out)⟩
  case rest =>
   clear HC5
   try clear c1
   try clear c3
   try clear c7
   try clear c8
   try clear c9
   try clear c12
   try clear hcz13_0
   try clear hcz13_1
   try clear hcz15_0
   try clear hcz15_1
   try clear hcz8_0
   try clear hcz8_1
   try clear hfz13_0
   try clear hfz13_1
   try clear hfz15_0
   try clear hfz15_1
   try clear hfz8_0
   try clear hfz8_1
   obtain ⟨kq, HA, HJ4, HO_176001, HO_181001, BK175, BK180, HB⟩ := hcut
   cases kq with
   | zero => exact absurd HA.out (by simp [laws_FnExactNewGlobals.j0])
   | succ kj4 =>
    have H := HA.out
    clear HA
    simp only [laws_FnExactNewGlobals.j0] at H
    replace H := Option.bind_eq_some_iff.mp H
    obtain ⟨⟨t182, t183⟩, A180, H⟩ := H
    replace H : ((laws_heldGlobalsResult.f kj4 t176 t183 1).bind fun t184 => (if t184 < 0 then (some false) else (laws_FnExactNewGlobals.j1 kj4 a0 t182 t184 t171 t172 t176 t183))) = some r := H
    have A18 := ak A180
    clear A180
    replace H := Option.bind_eq_some_iff.mp H
    obtain ⟨t184, A190, H⟩ := H
    replace H : (if t184 < 0 then (some false) else (laws_FnExactNewGlobals.j1 kj4 a0 t182 t184 t171 t172 t176 t183)) = some r := H
    have A19 := ak A190
    clear A190
    have HC20 := ak H
    clear H
    have hnb21 := NB180_175.out
    have hnc21 := NB175_180.out
    have hcz22_0 : wc.cell? ⟨gb180, 0, none⟩ = some (.int .i64 t176) := (blk_cell BK180.out 0).trans rfl
    have hcz22_1 : wc.cell? ⟨gb180, 1, none⟩ = some (.slice Ao14 t177.length co14) := (blk_cell BK180.out 1).trans rfl
    have hfz22_0 := blk_frozen BK180.out 0
    have hfz22_1 := blk_frozen BK180.out 1
    go_upto_if 23 with (first | ((with_reducible refine gate_callee (f := 10) rfl ?_); refine goesL_ (some 18) rfl rfl Try.func10 (by kernel_rfl) rfl #[.agg #[.int .i64 t176, .slice Ao14 t177.length co14], .int .i64 1] rfl d7_1 ?_; (with_reducible refine (laws_markGlobalsResult.calls kj4 t176 (fun k_ => some k_ = (.slice Ao14 t177.length co14 : Value).ownBlock) (.slice Ao14 t177.length co14) t177 1 t182 t183 w _ ?side1 ?side2 A18.out).mono ?_); (case side1 => repeat (first | (with_reducible first | exact HB.out | apply below_alloc | apply pw_below_drewN | apply below_drew1 | refine below_set ?_ GE175.out | refine below_set ?_ GE180.out) | exact HB.out)); (case side2 => exact Kd.R_tight rfl HO_181001.out); rintro e w23 ⟨rfl, hy0, hb, hkp⟩; refine ⟨_, rfl, ?_⟩; have n0_ := ak (Kd.R_mono (ok' := fun k_ => some k_ ≠ (.slice Ao14 t177.length co14 : Value).ownBlock) (Kd.R_keptB (HO_176001.out) hkp (fun k_ hk_ hs_ => (hk_) hs_)) (fun k_ hk_ => hk_.1)); have n1_ := ak (Kd.R_reok rfl hy0 (fun k_ e_ => HO_181001.out.1 k_ e_)); have n2_ := ak (blk_kept d7_3 hkp (fun hs_ => (fun e_ => (Kd.R_ne HO_181001.out BK175.out (by decide)) e_) hs_)); have n3_ := ak (blk_kept d7_5 hkp (fun hs_ => (fun e_ => (Kd.R_ne HO_181001.out BK180.out (by decide)) e_) hs_)); have n4_ := ak (hb); clear HO_176001 HO_181001 BK175 BK180 HB; have HO_176001 := n0_; have HO_181001 := n1_; have BK175 := n2_; have BK180 := n3_; have HB := n4_; clear n0_ n1_ n2_ n3_ n4_; (try clear hb); (try clear hkp); (try clear hy0); have hcz24_0 : w23.cell? ⟨gb180, 0, none⟩ = some (.int .i64 t176) := (blk_cell BK180.out 0).trans rfl; have hcz24_1 : w23.cell? ⟨gb180, 1, none⟩ = some (.slice Ao14 t177.length co14) := (blk_cell BK180.out 1).trans rfl; have hfz24_0 := blk_frozen BK180.out 0; have hfz24_1 := blk_frozen BK180.out 1) | ((with_reducible refine gate_callee (f := 11) rfl ?_); refine goesL_ (some 21) rfl rfl Try.func11 (by kernel_rfl) rfl #[.agg #[.int .i64 t176, .slice Ao14 t183.length co14], .int .i64 1] rfl (by (try simp only [List.map_toArray, List.map_cons, List.map_nil]); first | done | (rw [show t183.length = t177.length from (Kd.R_reads' HO_181001.out).1.symm] <;> rfl) | rfl | (simp only [List.length_drop, List.length_take]; rfl)) ?_; (with_reducible refine (laws_heldGlobalsResult.calls kj4 t176 _ _ t183 1 t184 _ ?side1 ?side2 A19.out).mono ?_); (case side1 => repeat (first | exact (Kd.R_reads' HO_181001.out).2.2 | (with_reducible refine Kd.C_alloc ?_ _) | (with_reducible refine Kd.C_drewN ?_ _) | (with_reducible refine Kd.C_drew ?_))); (case side2 => rw [show t183.length = t177.length from (Kd.R_reads' HO_181001.out).1.symm]; exact (Kd.R_reads' HO_181001.out).2.1); rintro e w25 ⟨rfl, hb⟩; refine ⟨_, rfl, ?_⟩; have n0_ := ak (Kd.R_below d7_8 hb); have n1_ := ak (Kd.R_below d7_9 hb); have n2_ := ak (blk_below (g := gb175) (o := .cells #[.int .i64 t171, .slice Ao9 t172.length co9] 24 (0, 0)) d7_3 hb); have n3_ := ak (blk_below (g := gb180) (o := .cells #[.int .i64 t176, .slice Ao14 t177.length co14] 24 (0, 0)) d7_5 hb); have n4_ := ak (below_step d7_4 hb); clear HO_176001 HO_181001 BK175 BK180 HB; have HO_176001 := n0_; have HO_181001 := n1_; have BK175 := n2_; have BK180 := n3_; have HB := n4_; clear n0_ n1_ n2_ n3_ n4_; (try clear hb)))
    (try simp only [Act.put, List.setIfInBounds_toArray, List.set_cons_zero, List.set_cons_succ])
    go_cut [] (fun wc => ∃ (kq : Nat), Aside0 (laws_FnExactNewGlobals.j1 kq a0 t182 t184 t171 t172 t176 t183 = some r) ∧ Aside0 (kq ≤ kj4) ∧ Aside0 (Kd.R k91 91 wc w.heap.size (fun k_ => some k_ ≠ ((.slice Ao14 t177.length co14) : Value).ownBlock) (.slice Ao9 t172.length co9) t172) ∧ Aside0 (Kd.R k91 91 wc w.heap.size (fun k_ => some k_ ≠ ((.slice Ao9 t172.length co9) : Value).ownBlock) (.slice Ao14 t177.length co14) t183) ∧ Aside0 (wc.heap[gb175]? = some (.cells #[.int .i64 t171, (.slice Ao9 t172.length co9)] 24 (0, 0))) ∧ Aside0 (wc.heap[gb180]? = some (.cells #[.int .i64 t176, (.slice Ao14 t177.length co14)] 24 (0, 0))) ∧ Aside0 (Below w.heap.size w wc))
    case first =>
     have H := HC20.out
     clear HC20
     by_cases c26 : t184 < 0
     ·rw [if_pos c26] at H
      have c26b0 : decide (t184 < 0) = true := decide_eq_true c26
      clear c26
      (first | rw [c26b0] | (simp only [i64_w, i32_w]; rw [c26b0]) | skip)
      obtain rfl := Option.some.inj H
      go_wp2
      go_ret
      exact ⟨by first | rfl | (simp [errW_none, errW_some] <;> rfl) | (simp [*, errW_none, errW_some] <;> rfl), by repeat (first | (with_reducible first | exact HB.out | apply below_alloc | apply pw_below_drewN | apply below_drew1 | refine below_set ?_ GE175.out | refine below_set ?_ GE180.out) | exact HB.out)⟩
     ·rw [if_neg c26] at H
      have c26b0 : decide (t184 < 0) = false := decide_eq_false c26
      clear c26
      (first | rw [c26b0] | (simp only [i64_w, i32_w]; rw [c26b0]) | skip)
      have H' := ak H
      clear H
      go_wp2
      go_meet
      case rel => exact ⟨_, H', ⟨by have := HJ4.out; first | omega | exact Nat.le_refl _⟩, ⟨by (with_reducible repeat (first | apply Kd.R_alloc | apply Kd.R_drewN | apply Kd.R_drew)); exact HO_176001.out⟩, ⟨by (with_reducible repeat (first | apply Kd.R_alloc | apply Kd.R_drewN | apply Kd.R_drew)); exact HO_181001.out⟩, ⟨by (with_reducible repeat (first | refine blk_drewN ?_ _ | refine blk_drew ?_ | refine blk_alloc ?_ _)); exact BK175.out⟩, ⟨by (with_reducible repeat (first | refine blk_drewN ?_ _ | refine blk_drew ?_ | refine blk_alloc ?_ _)); exact BK180.out⟩, ⟨by repeat (first | (with_reducible first | exact HB.out | apply below_alloc | apply pw_below_drewN | apply below_drew1 | refine below_set ?_ GE175.out | refine below_set ?_ GE180.out) | exact HB.out)⟩⟩
    case rest =>
     clear HC20
     try clear c1
     try clear c2
     try clear p2
     try clear c3
     try clear c7
     try clear c8
     try clear c9
     try clear c10
     try clear c11
     try clear c12
     try clear c17
     try clear c21
     try clear hcz13_0
     try clear hcz13_1
     try clear hcz15_0
     try clear hcz15_1
     try clear hcz22_0
     try clear hcz22_1
     try clear hcz24_0
     try clear hcz24_1
     try clear hcz8_0
     try clear hcz8_1
     try clear hfz13_0
     try clear hfz13_1
     try clear hfz15_0
     try clear hfz15_1
     try clear hfz22_0
     try clear hfz22_1
     try clear hfz24_0
     try clear hfz24_1
     try clear hfz8_0
     try clear hfz8_1
     obtain ⟨kq, HA, HJ19, HO_176001, HO_181001, BK175, BK180, HB⟩ := hcut
     have hl181001_19 := (Kd.R_reads' HO_181001.out).1
     rw [hl181001_19] at HO_181001
     (try simp only [hl181001_19])
     (try simp only [hl181001_19] at BK175)
     (try simp only [hl181001_19] at BK180)
     (try simp only [hl181001_19] at HO_176001)
     cases kq with
     | zero => exact absurd HA.out (by simp [laws_FnExactNewGlobals.j1])
     | succ kj19 =>
      have H := HA.out
      clear HA
      simp only [laws_FnExactNewGlobals.j1] at H
      have HC27 := ak H
      clear H
      go_upto_if 26 with (fail)
      go_cut [] (fun wc => ∃ (kq : Nat), Aside0 (laws_FnExactNewGlobals.j2 kq a0 t182 t171 t172 t176 t183 = some r) ∧ Aside0 (kq ≤ kj19) ∧ Aside0 (Kd.R k91 91 wc w.heap.size (fun k_ => some k_ ≠ ((.slice Ao14 t183.length co14) : Value).ownBlock) (.slice Ao9 t172.length co9) t172) ∧ Aside0 (Kd.R k91 91 wc w.heap.size (fun k_ => some k_ ≠ ((.slice Ao9 t172.length co9) : Value).ownBlock) (.slice Ao14 t183.length co14) t183) ∧ Aside0 (wc.heap[gb175]? = some (.cells #[.int .i64 t171, (.slice Ao9 t172.length co9)] 24 (0, 0))) ∧ Aside0 (wc.heap[gb180]? = some (.cells #[.int .i64 t176, (.slice Ao14 t183.length co14)] 24 (0, 0))) ∧ Aside0 (Below w.heap.size w wc))
      case first =>
       have H := HC27.out
       clear HC27
       by_cases c28 : t184 = t182
       ·rw [if_pos c28] at H
        have c28b0 : (t184 == t182) = true := beq_iff_eq.mpr c28
        have c28b1 : (t184 != t182) = false := bne_eq_false_iff_eq.mpr c28
        clear c28
        (first | rw [c28b0] | (simp only [i64_w, i32_w]; rw [c28b0]) | skip)
        have H' := ak H
        clear H
        go_wp2
        go_meet
        case rel => exact ⟨_, H', ⟨by have := HJ4.out; have := HJ19.out; first | omega | exact Nat.le_refl _⟩, ⟨by (try simp only [hl181001_19]); (with_reducible repeat (first | apply Kd.R_alloc | apply Kd.R_drewN | apply Kd.R_drew)); exact HO_176001.out⟩, ⟨by (try simp only [hl181001_19]); (with_reducible repeat (first | apply Kd.R_alloc | apply Kd.R_drewN | apply Kd.R_drew)); exact HO_181001.out⟩, ⟨by (try simp only [hl181001_19]); (with_reducible repeat (first | refine blk_drewN ?_ _ | refine blk_drew ?_ | refine blk_alloc ?_ _)); exact BK175.out⟩, ⟨by (try simp only [hl181001_19]); (with_reducible repeat (first | refine blk_drewN ?_ _ | refine blk_drew ?_ | refine blk_alloc ?_ _)); exact BK180.out⟩, ⟨by repeat (first | (with_reducible first | exact HB.out | apply below_alloc | apply pw_below_drewN | apply below_drew1 | refine below_set ?_ GE175.out | refine below_set ?_ GE180.out) | exact HB.out)⟩⟩
       ·rw [if_neg c28] at H
        have c28b0 : (t184 == t182) = false := beq_eq_false_iff_ne.mpr c28
        have c28b1 : (t184 != t182) = true := bne_iff_ne.mpr c28
        (first | rw [c28b0] | (simp only [i64_w, i32_w]; rw [c28b0]) | skip)
        obtain rfl := Option.some.inj H
        go_wp2
        go_ret
        exact ⟨by first | rfl | (simp [errW_none, errW_some] <;> rfl) | (simp [*, errW_none, errW_some] <;> rfl), by repeat (first | (with_reducible first | exact HB.out | apply below_alloc | apply pw_below_drewN | apply below_drew1 | refine below_set ?_ GE175.out | refine below_set ?_ GE180.out) | exact HB.out)⟩
      case rest =>
       clear HC27
       try clear c1
       try clear c2
       try clear p2
       try clear c3
       try clear c7
       try clear c8
       try clear c9
       try clear c10
       try clear c11
       try clear c12
       try clear c17
       try clear c21
       try clear c26
       try clear c26b0
       try clear hcz13_0
       try clear hcz13_1
       try clear hcz15_0
       try clear hcz15_1
       try clear hcz22_0
       try clear hcz22_1
       try clear hcz24_0
       try clear hcz24_1
       try clear hcz8_0
       try clear hcz8_1
       try clear hfz13_0
       try clear hfz13_1
       try clear hfz15_0
       try clear hfz15_1
       try clear hfz22_0
       try clear hfz22_1
       try clear hfz24_0
       try clear hfz24_1
       try clear hfz8_0
       try clear hfz8_1
       try clear p2
       obtain ⟨kq, HA, HJ26, HO_176001, HO_181001, BK175, BK180, HB⟩ := hcut
       cases kq with
       | zero => exact absurd HA.out (by simp [laws_FnExactNewGlobals.j2])
       | succ kj26 =>
        have H := HA.out
        clear HA
        simp only [laws_FnExactNewGlobals.j2] at H
        replace H := Option.bind_eq_some_iff.mp H
        obtain ⟨⟨t185, t186⟩, A290, H⟩ := H
        replace H : ((laws_eqGlobalsResult.f kj26 t185 t186 t171 t172).bind fun t190 => (if t190 = true then (laws_FnExactNewGlobals.j3 kj26 t182 t176 t183) else (some false))) = some r := H
        have A29 := ak A290
        clear A290
        replace H := Option.bind_eq_some_iff.mp H
        obtain ⟨t190, A300, H⟩ := H
        replace H : (if t190 = true then (laws_FnExactNewGlobals.j3 kj26 t182 t176 t183) else (some false)) = some r := H
        have A30 := ak A300
        clear A300
        have HC31 := ak H
        clear H
        go_upto_if 32 with (first | ((with_reducible refine gate_callee (f := 8) rfl ?_); refine goesL_ (some 28) rfl rfl Try.func8 (by kernel_rfl) rfl #[.int .i64 a0] rfl d7_1 ?_; (with_reducible refine (impl_NewGlobals.calls kj26 a0 t185 t186 _ A29.out).mono ?_); rintro e w32 ⟨v187, rfl, ho0, hb⟩; refine ⟨_, rfl, ?_⟩; have n0_ := ak (Kd.R_elder' d7_8 (Kd.R_base ho0) hb); have n1_ := ak (Kd.R_elder' d7_9 (Kd.R_base ho0) hb); have n2_ := ak (Kd.R_lower (Kd.R_new' (Kd.R_new' ho0 (Kd.R_lt d7_8)) (Kd.R_lt d7_9)) (below_size d7_4)); have n3_ := ak (blk_below (g := gb175) (o := .cells #[.int .i64 t171, .slice Ao9 t172.length co9] 24 (0, 0)) d7_3 hb); have n4_ := ak (blk_below (g := gb180) (o := .cells #[.int .i64 t176, .slice Ao14 t183.length co14] 24 (0, 0)) d7_5 hb); have n5_ := ak (below_step d7_4 hb); clear HO_176001 HO_181001 BK175 BK180 HB; have HO_176001 := n0_; have HO_181001 := n1_; have HO188 := n2_; have BK175 := n3_; have BK180 := n4_; have HB := n5_; clear n0_ n1_ n2_ n3_ n4_ n5_; (try clear hb); (try clear hk); (try clear ho0)) | ((with_reducible refine gate_dst (N := 7) rfl ?_); refine box_event ?hg (N := 7) ?hd (cs := #[.int .i64 0, .slice none 0 0]) (t := 24) ?hr ?_; (case hd => rfl); (case hg => rfl); (case hr => first | (go_simp; done) | (go_simp; rfl)); intro gb189 hg w33 hbox hb; have n0_ := ak (Kd.R_below d7_8 hb); have n1_ := ak (Kd.R_below d7_9 hb); have n2_ := ak (Kd.R_below (by (with_reducible repeat (first | apply Kd.R_alloc | apply Kd.R_drewN | apply Kd.R_drew)); exact HO188.out) hb); have n3_ := ak (blk_below (g := gb175) (o := .cells #[.int .i64 t171, .slice Ao9 t172.length co9] 24 (0, 0)) d7_3 hb); have n4_ := ak (blk_below (g := gb180) (o := .cells #[.int .i64 t176, .slice Ao14 t183.length co14] 24 (0, 0)) d7_5 hb); have n5_ := ak (below_step d7_4 hb); have n6_ := ak (hbox); have n7_ := ak ((by rw [hg]; exact (below_size d7_4) : w.heap.size ≤ gb189)); have n8_ := ak ((by rw [hg]; exact (below_size d7_4) : w.heap.size ≤ gb189)); have n9_ := ak ((by rw [hg]; exact Nat.ne_of_lt (blk_lt (g := gb175) (o := .cells #[.int .i64 t171, .slice Ao9 t172.length co9] 24 (0, 0)) d7_3) : gb175 ≠ gb189)); have n10_ := ak ((by rw [hg]; exact Nat.ne_of_gt (blk_lt (g := gb175) (o := .cells #[.int .i64 t171, .slice Ao9 t172.length co9] 24 (0, 0)) d7_3) : gb189 ≠ gb175)); have n11_ := ak ((by rw [hg]; exact Nat.ne_of_lt (blk_lt (g := gb180) (o := .cells #[.int .i64 t176, .slice Ao14 t183.length co14] 24 (0, 0)) d7_5) : gb180 ≠ gb189)); have n12_ := ak ((by rw [hg]; exact Nat.ne_of_gt (blk_lt (g := gb180) (o := .cells #[.int .i64 t176, .slice Ao14 t183.length co14] 24 (0, 0)) d7_5) : gb189 ≠ gb180)); clear HO_176001 HO_181001 HO188 BK175 BK180 HB; have HO_176001 := n0_; have HO_181001 := n1_; have HO188 := n2_; have BK175 := n3_; have BK180 := n4_; have HB := n5_; have BK189 := n6_; have GW189 := n7_; have GE189 := n8_; have NB175_189 := n9_; have NB189_175 := n10_; have NB180_189 := n11_; have NB189_180 := n12_; clear n0_ n1_ n2_ n3_ n4_ n5_ n6_ n7_ n8_ n9_ n10_ n11_ n12_ hb hbox hg; have hnb34 := NB189_175.out; have hnc34 := NB175_189.out; have hnb35 := NB189_180.out; have hnc35 := NB180_189.out; have hcz36_0 : w33.cell? ⟨gb189, 0, none⟩ = some (.int .i64 0) := (blk_cell BK189.out 0).trans rfl; have hcz36_1 : w33.cell? ⟨gb189, 1, none⟩ = some (.slice none 0 0) := (blk_cell BK189.out 1).trans rfl; have hfz36_0 := blk_frozen BK189.out 0; have hfz36_1 := blk_frozen BK189.out 1; obtain ⟨Ao37, co37, eo37⟩ := Kd.R_slice HO188.out; subst eo37; have hnb38 := NB175_180.out; have hnc38 := NB180_175.out; have hcz39_0 : w33.cell? ⟨gb175, 0, none⟩ = some (.int .i64 t171) := (blk_cell BK175.out 0).trans rfl; have hcz39_1 : w33.cell? ⟨gb175, 1, none⟩ = some (.slice Ao9 t172.length co9) := (blk_cell BK175.out 1).trans rfl; have hfz39_0 := blk_frozen BK175.out 0; have hfz39_1 := blk_frozen BK175.out 1) | ((with_reducible refine gate_callee (f := 9) rfl ?_); refine goesL_ (some 31) rfl rfl Try.func9 (by kernel_rfl) rfl #[.agg #[.int .i64 t185, .slice Ao37 t186.length co37], .agg #[.int .i64 t171, .slice Ao9 t172.length co9]] rfl d7_1 ?_; (with_reducible refine (laws_eqGlobalsResult.calls kj26 t185 _ _ t186 t171 _ _ t172 t190 _ ?side1 ?side2 ?side3 ?side4 A30.out).mono ?_); (case side1 => refine (Kd.R_reads' (e := 91) (base := w.heap.size) (ok := fun k_ => ((True ∧ some k_ ≠ (.slice Ao9 t172.length co9 : Value).ownBlock) ∧ some k_ ≠ (.slice Ao14 t183.length co14 : Value).ownBlock)) (n := t186.length) (c := co37) ?_).2.2; exact (by (with_reducible repeat (first | apply Kd.R_alloc | apply Kd.R_drewN | apply Kd.R_drew)); exact (Kd.R_mono (Kd.R_far (p := ⟨gb189, 1, none⟩) (Kd.R_far (p := ⟨gb189, 0, none⟩) (Kd.R_types HO188.out BK189.out (by decide)) (fun _ hk => hk.2) (.int .i64 t185)) (fun _ hk => hk.2) (.slice Ao37 t186.length co37)) (fun _ h_ => h_.1)))); (case side2 => exact (Kd.R_reads' HO188.out).2.1); (case side3 => refine (Kd.R_reads' (e := 91) (base := w.heap.size) (ok := fun k_ => (some k_ ≠ (.slice Ao14 t183.length co14 : Value).ownBlock ∧ some k_ ≠ (.slice Ao37 t186.length co37 : Value).ownBlock)) (n := t172.length) (c := co9) ?_).2.2; exact (by (with_reducible repeat (first | apply Kd.R_alloc | apply Kd.R_drewN | apply Kd.R_drew)); exact (Kd.R_mono (Kd.R_far (p := ⟨gb189, 1, none⟩) (Kd.R_far (p := ⟨gb189, 0, none⟩) (Kd.R_types HO_176001.out BK189.out (by decide)) (fun _ hk => hk.2) (.int .i64 t185)) (fun _ hk => hk.2) (.slice Ao37 t186.length co37)) (fun _ h_ => h_.1)))); (case side4 => exact (Kd.R_reads' HO_176001.out).2.1); rintro e w40 ⟨rfl, hb⟩; refine ⟨_, rfl, ?_⟩; have n0_ := ak (Kd.R_below (by (with_reducible repeat (first | apply Kd.R_alloc | apply Kd.R_drewN | apply Kd.R_drew)); exact (Kd.R_mono (Kd.R_far (p := ⟨gb189, 1, none⟩) (Kd.R_far (p := ⟨gb189, 0, none⟩) (Kd.R_types HO_176001.out BK189.out (by decide)) (fun _ hk => hk.2) (.int .i64 t185)) (fun _ hk => hk.2) (.slice Ao37 t186.length co37)) (fun _ h_ => h_.1))) hb); have n1_ := ak (Kd.R_below (by (with_reducible repeat (first | apply Kd.R_alloc | apply Kd.R_drewN | apply Kd.R_drew)); exact (Kd.R_mono (Kd.R_far (p := ⟨gb189, 1, none⟩) (Kd.R_far (p := ⟨gb189, 0, none⟩) (Kd.R_types HO_181001.out BK189.out (by decide)) (fun _ hk => hk.2) (.int .i64 t185)) (fun _ hk => hk.2) (.slice Ao37 t186.length co37)) (fun _ h_ => h_.1))) hb); have n2_ := ak (Kd.R_below (by (with_reducible repeat (first | apply Kd.R_alloc | apply Kd.R_drewN | apply Kd.R_drew)); exact (Kd.R_mono (Kd.R_far (p := ⟨gb189, 1, none⟩) (Kd.R_far (p := ⟨gb189, 0, none⟩) (Kd.R_types HO188.out BK189.out (by decide)) (fun _ hk => hk.2) (.int .i64 t185)) (fun _ hk => hk.2) (.slice Ao37 t186.length co37)) (fun _ h_ => h_.1))) hb); have n3_ := ak (blk_below (g := gb175) (o := .cells #[.int .i64 t171, .slice Ao9 t172.length co9] 24 (0, 0)) (by (with_reducible repeat (first | refine blk_drewN ?_ _ | refine blk_drew ?_ | refine blk_alloc ?_ _)); refine blk_far ?_ NB175_189.out _; (with_reducible repeat (first | refine blk_drewN ?_ _ | refine blk_drew ?_ | refine blk_alloc ?_ _)); refine blk_far ?_ NB175_189.out _; (with_reducible repeat (first | refine blk_drewN ?_ _ | refine blk_drew ?_ | refine blk_alloc ?_ _)); exact BK175.out) hb); have n4_ := ak (blk_below (g := gb180) (o := .cells #[.int .i64 t176, .slice Ao14 t183.length co14] 24 (0, 0)) (by (with_reducible repeat (first | refine blk_drewN ?_ _ | refine blk_drew ?_ | refine blk_alloc ?_ _)); refine blk_far ?_ NB180_189.out _; (with_reducible repeat (first | refine blk_drewN ?_ _ | refine blk_drew ?_ | refine blk_alloc ?_ _)); refine blk_far ?_ NB180_189.out _; (with_reducible repeat (first | refine blk_drewN ?_ _ | refine blk_drew ?_ | refine blk_alloc ?_ _)); exact BK180.out) hb); have n5_ := ak (blk_below (g := gb189) (o := .cells #[.int .i64 t185, .slice Ao37 t186.length co37] 24 (0, 0)) (by (with_reducible repeat (first | refine blk_drewN ?_ _ | refine blk_drew ?_ | refine blk_alloc ?_ _)); refine blk_put (cs := #[.int .i64 t185, .slice none 0 0]) ?_ 1 _ rfl; (with_reducible repeat (first | refine blk_drewN ?_ _ | refine blk_drew ?_ | refine blk_alloc ?_ _)); refine blk_put (cs := #[.int .i64 0, .slice none 0 0]) ?_ 0 _ rfl; (with_reducible repeat (first | refine blk_drewN ?_ _ | refine blk_drew ?_ | refine blk_alloc ?_ _)); exact BK189.out) hb); have n6_ := ak (below_step d7_6 hb); clear HO_176001 HO_181001 HO188 BK175 BK180 BK189 HB; have HO_176001 := n0_; have HO_181001 := n1_; have HO188 := n2_; have BK175 := n3_; have BK180 := n4_; have BK189 := n5_; have HB := n6_; clear n0_ n1_ n2_ n3_ n4_ n5_ n6_; (try clear hb); (try clear hk)))
        (try simp only [Act.put, List.setIfInBounds_toArray, List.set_cons_zero, List.set_cons_succ])
        go_cut [] (fun wc => ∃ (kq : Nat), Aside0 (laws_FnExactNewGlobals.j3 kq t182 t176 t183 = some r) ∧ Aside0 (kq ≤ kj26) ∧ Aside0 (Kd.R k91 91 wc w.heap.size (fun k_ => some k_ ≠ ((.slice Ao14 t183.length co14) : Value).ownBlock ∧ some k_ ≠ ((.slice Ao37 t186.length co37) : Value).ownBlock) (.slice Ao9 t172.length co9) t172) ∧ Aside0 (Kd.R k91 91 wc w.heap.size (fun k_ => some k_ ≠ ((.slice Ao9 t172.length co9) : Value).ownBlock ∧ some k_ ≠ ((.slice Ao37 t186.length co37) : Value).ownBlock) (.slice Ao14 t183.length co14) t183) ∧ Aside0 (Kd.R k91 91 wc w.heap.size (fun k_ => some k_ ≠ ((.slice Ao9 t172.length co9) : Value).ownBlock ∧ some k_ ≠ ((.slice Ao14 t183.length co14) : Value).ownBlock) (.slice Ao37 t186.length co37) t186) ∧ Aside0 (wc.heap[gb175]? = some (.cells #[.int .i64 t171, (.slice Ao9 t172.length co9)] 24 (0, 0))) ∧ Aside0 (wc.heap[gb180]? = some (.cells #[.int .i64 t176, (.slice Ao14 t183.length co14)] 24 (0, 0))) ∧ Aside0 (wc.heap[gb189]? = some (.cells #[.int .i64 t185, (.slice Ao37 t186.length co37)] 24 (0, 0))) ∧ Aside0 (Below w.heap.size w wc))
        case first =>
         have H := HC31.out
         clear HC31
         by_cases c41 : t190 = true
         ·subst c41
          have H1 : (laws_FnExactNewGlobals.j3 kj26 t182 t176 t183) = some r := by rw [if_pos rfl] at H; exact H
          clear H
          have H := H1
          clear H1
          have H' := ak H
          clear H
          go_wp2
          go_meet
          case rel => exact ⟨_, H', ⟨by have := HJ4.out; have := HJ19.out; have := HJ26.out; first | omega | exact Nat.le_refl _⟩, ⟨by (try simp only [hl181001_19]); (with_reducible repeat (first | apply Kd.R_alloc | apply Kd.R_drewN | apply Kd.R_drew)); exact HO_176001.out⟩, ⟨by (try simp only [hl181001_19]); (with_reducible repeat (first | apply Kd.R_alloc | apply Kd.R_drewN | apply Kd.R_drew)); exact HO_181001.out⟩, ⟨by (try simp only [hl181001_19]); (with_reducible repeat (first | apply Kd.R_alloc | apply Kd.R_drewN | apply Kd.R_drew)); exact Kd.R_mono HO188.out (fun _ hk => ⟨hk.1.2, hk.2⟩)⟩, ⟨by (try simp only [hl181001_19]); (with_reducible repeat (first | refine blk_drewN ?_ _ | refine blk_drew ?_ | refine blk_alloc ?_ _)); exact BK175.out⟩, ⟨by (try simp only [hl181001_19]); (with_reducible repeat (first | refine blk_drewN ?_ _ | refine blk_drew ?_ | refine blk_alloc ?_ _)); exact BK180.out⟩, ⟨by (try simp only [hl181001_19]); (with_reducible repeat (first | refine blk_drewN ?_ _ | refine blk_drew ?_ | refine blk_alloc ?_ _)); exact BK189.out⟩, ⟨by repeat (first | (with_reducible first | exact HB.out | apply below_alloc | apply pw_below_drewN | apply below_drew1 | refine below_set ?_ GE175.out | refine below_set ?_ GE180.out | refine below_set ?_ GE189.out) | exact HB.out)⟩⟩
         ·replace c41 := Bool.eq_false_iff.mpr c41
          subst c41
          have H1 : (some false) = some r := by rw [if_neg (show ¬ (false = true) by decide)] at H; exact H
          clear H
          have H := H1
          clear H1
          obtain rfl := Option.some.inj H
          go_wp2
          go_ret
          exact ⟨by first | rfl | (simp [errW_none, errW_some] <;> rfl) | (simp [*, errW_none, errW_some] <;> rfl), by repeat (first | (with_reducible first | exact HB.out | apply below_alloc | apply pw_below_drewN | apply below_drew1 | refine below_set ?_ GE175.out | refine below_set ?_ GE180.out | refine below_set ?_ GE189.out) | exact HB.out)⟩
        case rest =>
         clear HC31
         try clear c1
         try clear c2
         try clear p2
         try clear c3
         try clear c7
         try clear c8
         try clear c9
         try clear c10
         try clear c11
         try clear c12
         try clear c17
         try clear c21
         try clear c26
         try clear c26b0
         try clear c28
         try clear c28b0
         try clear c28b1
         try clear c34
         try clear c35
         try clear c38
         try clear hcz13_0
         try clear hcz13_1
         try clear hcz15_0
         try clear hcz15_1
         try clear hcz22_0
         try clear hcz22_1
         try clear hcz24_0
         try clear hcz24_1
         try clear hcz36_0
         try clear hcz36_1
         try clear hcz39_0
         try clear hcz39_1
         try clear hcz8_0
         try clear hcz8_1
         try clear hfz13_0
         try clear hfz13_1
         try clear hfz15_0
         try clear hfz15_1
         try clear hfz22_0
         try clear hfz22_1
         try clear hfz24_0
         try clear hfz24_1
         try clear hfz36_0
         try clear hfz36_1
         try clear hfz39_0
         try clear hfz39_1
         try clear hfz8_0
         try clear hfz8_1
         try clear p2
         obtain ⟨kq, HA, HJ30, HO_176001, HO_181001, HO_190001, BK175, BK180, BK189, HB⟩ := hcut
         cases kq with
         | zero => exact absurd HA.out (by simp [laws_FnExactNewGlobals.j3])
         | succ kj30 =>
          have H := HA.out
          clear HA
          simp only [laws_FnExactNewGlobals.j3] at H
          replace H := Option.bind_eq_some_iff.mp H
          obtain ⟨t191, A420, H⟩ := H
          replace H : (if t191 < 0 then (some false) else (if t191 = t182 then (some true) else (some false))) = some r := H
          have A42 := ak A420
          clear A420
          by_cases c43 : t191 < 0
          ·rw [if_pos c43] at H
           have c43b0 : decide (t191 < 0) = true := decide_eq_true c43
           clear c43
           obtain rfl := Option.some.inj H
           have hnb44 := NB180_175.out
           have hnc44 := NB175_180.out
           have hnb45 := NB180_189.out
           have hnc45 := NB189_180.out
           have hcz46_0 : wc.cell? ⟨gb180, 0, none⟩ = some (.int .i64 t176) := (blk_cell BK180.out 0).trans rfl
           have hcz46_1 : wc.cell? ⟨gb180, 1, none⟩ = some (.slice Ao14 t183.length co14) := (blk_cell BK180.out 1).trans rfl
           have hfz46_0 := blk_frozen BK180.out 0
           have hfz46_1 := blk_frozen BK180.out 1
           go_wp2_with (first | ((with_reducible refine gate_callee (f := 11) rfl ?_); refine goesL_ (some 35) rfl rfl Try.func11 (by kernel_rfl) rfl #[.agg #[.int .i64 t176, .slice Ao14 t183.length co14], .int .i64 1] rfl d7_1 ?_; (with_reducible refine (laws_heldGlobalsResult.calls kj30 t176 _ _ t183 1 t191 _ ?side1 ?side2 A42.out).mono ?_); (case side1 => repeat (first | exact (Kd.R_reads' HO_181001.out).2.2 | (with_reducible refine Kd.C_alloc ?_ _) | (with_reducible refine Kd.C_drewN ?_ _) | (with_reducible refine Kd.C_drew ?_))); (case side2 => exact (Kd.R_reads' HO_181001.out).2.1); rintro e w47 ⟨rfl, hb⟩; refine ⟨_, rfl, ?_⟩; have n0_ := ak (Kd.R_below d7_8 hb); have n1_ := ak (Kd.R_below d7_9 hb); have n2_ := ak (Kd.R_below (by (with_reducible repeat (first | apply Kd.R_alloc | apply Kd.R_drewN | apply Kd.R_drew)); exact HO_190001.out) hb); have n3_ := ak (blk_below (g := gb175) (o := .cells #[.int .i64 t171, .slice Ao9 t172.length co9] 24 (0, 0)) d7_3 hb); have n4_ := ak (blk_below (g := gb180) (o := .cells #[.int .i64 t176, .slice Ao14 t183.length co14] 24 (0, 0)) d7_5 hb); have n5_ := ak (blk_below (g := gb189) (o := .cells #[.int .i64 t185, .slice Ao37 t186.length co37] 24 (0, 0)) (by (with_reducible repeat (first | refine blk_drewN ?_ _ | refine blk_drew ?_ | refine blk_alloc ?_ _)); exact BK189.out) hb); have n6_ := ak (below_step d7_6 hb); clear HO_176001 HO_181001 HO_190001 BK175 BK180 BK189 HB; have HO_176001 := n0_; have HO_181001 := n1_; have HO_190001 := n2_; have BK175 := n3_; have BK180 := n4_; have BK189 := n5_; have HB := n6_; clear n0_ n1_ n2_ n3_ n4_ n5_ n6_; (try clear hb)))
           go_ret
           exact ⟨by first | rfl | (simp [errW_none, errW_some] <;> rfl) | (simp [*, errW_none, errW_some] <;> rfl), by repeat (first | (with_reducible first | exact HB.out | apply below_alloc | apply pw_below_drewN | apply below_drew1 | refine below_set ?_ GE175.out | refine below_set ?_ GE180.out | refine below_set ?_ GE189.out) | exact HB.out)⟩
          ·rw [if_neg c43] at H
           have c43b0 : decide (t191 < 0) = false := decide_eq_false c43
           clear c43
           by_cases c48 : t191 = t182
           ·rw [if_pos c48] at H
            have c48b0 : (t191 == t182) = true := beq_iff_eq.mpr c48
            have c48b1 : (t191 != t182) = false := bne_eq_false_iff_eq.mpr c48
            clear c48
            obtain rfl := Option.some.inj H
            have hnb49 := NB180_175.out
            have hnc49 := NB175_180.out
            have hnb50 := NB180_189.out
            have hnc50 := NB189_180.out
            have hcz51_0 : wc.cell? ⟨gb180, 0, none⟩ = some (.int .i64 t176) := (blk_cell BK180.out 0).trans rfl
            have hcz51_1 : wc.cell? ⟨gb180, 1, none⟩ = some (.slice Ao14 t183.length co14) := (blk_cell BK180.out 1).trans rfl
            have hfz51_0 := blk_frozen BK180.out 0
            have hfz51_1 := blk_frozen BK180.out 1
            go_wp2_with (first | ((with_reducible refine gate_callee (f := 11) rfl ?_); refine goesL_ (some 35) rfl rfl Try.func11 (by kernel_rfl) rfl #[.agg #[.int .i64 t176, .slice Ao14 t183.length co14], .int .i64 1] rfl d7_1 ?_; (with_reducible refine (laws_heldGlobalsResult.calls kj30 t176 _ _ t183 1 t191 _ ?side1 ?side2 A42.out).mono ?_); (case side1 => repeat (first | exact (Kd.R_reads' HO_181001.out).2.2 | (with_reducible refine Kd.C_alloc ?_ _) | (with_reducible refine Kd.C_drewN ?_ _) | (with_reducible refine Kd.C_drew ?_))); (case side2 => exact (Kd.R_reads' HO_181001.out).2.1); rintro e w52 ⟨rfl, hb⟩; refine ⟨_, rfl, ?_⟩; have n0_ := ak (Kd.R_below d7_8 hb); have n1_ := ak (Kd.R_below d7_9 hb); have n2_ := ak (Kd.R_below (by (with_reducible repeat (first | apply Kd.R_alloc | apply Kd.R_drewN | apply Kd.R_drew)); exact HO_190001.out) hb); have n3_ := ak (blk_below (g := gb175) (o := .cells #[.int .i64 t171, .slice Ao9 t172.length co9] 24 (0, 0)) d7_3 hb); have n4_ := ak (blk_below (g := gb180) (o := .cells #[.int .i64 t176, .slice Ao14 t183.length co14] 24 (0, 0)) d7_5 hb); have n5_ := ak (blk_below (g := gb189) (o := .cells #[.int .i64 t185, .slice Ao37 t186.length co37] 24 (0, 0)) (by (with_reducible repeat (first | refine blk_drewN ?_ _ | refine blk_drew ?_ | refine blk_alloc ?_ _)); exact BK189.out) hb); have n6_ := ak (below_step d7_6 hb); clear HO_176001 HO_181001 HO_190001 BK175 BK180 BK189 HB; have HO_176001 := n0_; have HO_181001 := n1_; have HO_190001 := n2_; have BK175 := n3_; have BK180 := n4_; have BK189 := n5_; have HB := n6_; clear n0_ n1_ n2_ n3_ n4_ n5_ n6_; (try clear hb)))
            go_ret
            exact ⟨by first | rfl | (simp [errW_none, errW_some] <;> rfl) | (simp [*, errW_none, errW_some] <;> rfl), by repeat (first | (with_reducible first | exact HB.out | apply below_alloc | apply pw_below_drewN | apply below_drew1 | refine below_set ?_ GE175.out | refine below_set ?_ GE180.out | refine below_set ?_ GE189.out) | exact HB.out)⟩
           ·rw [if_neg c48] at H
            have c48b0 : (t191 == t182) = false := beq_eq_false_iff_ne.mpr c48
            have c48b1 : (t191 != t182) = true := bne_iff_ne.mpr c48
            obtain rfl := Option.some.inj H
            have hnb53 := NB180_175.out
            have hnc53 := NB175_180.out
            have hnb54 := NB180_189.out
            have hnc54 := NB189_180.out
            have hcz55_0 : wc.cell? ⟨gb180, 0, none⟩ = some (.int .i64 t176) := (blk_cell BK180.out 0).trans rfl
            have hcz55_1 : wc.cell? ⟨gb180, 1, none⟩ = some (.slice Ao14 t183.length co14) := (blk_cell BK180.out 1).trans rfl
            have hfz55_0 := blk_frozen BK180.out 0
            have hfz55_1 := blk_frozen BK180.out 1
            go_wp2_with (first | ((with_reducible refine gate_callee (f := 11) rfl ?_); refine goesL_ (some 35) rfl rfl Try.func11 (by kernel_rfl) rfl #[.agg #[.int .i64 t176, .slice Ao14 t183.length co14], .int .i64 1] rfl d7_1 ?_; (with_reducible refine (laws_heldGlobalsResult.calls kj30 t176 _ _ t183 1 t191 _ ?side1 ?side2 A42.out).mono ?_); (case side1 => repeat (first | exact (Kd.R_reads' HO_181001.out).2.2 | (with_reducible refine Kd.C_alloc ?_ _) | (with_reducible refine Kd.C_drewN ?_ _) | (with_reducible refine Kd.C_drew ?_))); (case side2 => exact (Kd.R_reads' HO_181001.out).2.1); rintro e w56 ⟨rfl, hb⟩; refine ⟨_, rfl, ?_⟩; have n0_ := ak (Kd.R_below d7_8 hb); have n1_ := ak (Kd.R_below d7_9 hb); have n2_ := ak (Kd.R_below (by (with_reducible repeat (first | apply Kd.R_alloc | apply Kd.R_drewN | apply Kd.R_drew)); exact HO_190001.out) hb); have n3_ := ak (blk_below (g := gb175) (o := .cells #[.int .i64 t171, .slice Ao9 t172.length co9] 24 (0, 0)) d7_3 hb); have n4_ := ak (blk_below (g := gb180) (o := .cells #[.int .i64 t176, .slice Ao14 t183.length co14] 24 (0, 0)) d7_5 hb); have n5_ := ak (blk_below (g := gb189) (o := .cells #[.int .i64 t185, .slice Ao37 t186.length co37] 24 (0, 0)) (by (with_reducible repeat (first | refine blk_drewN ?_ _ | refine blk_drew ?_ | refine blk_alloc ?_ _)); exact BK189.out) hb); have n6_ := ak (below_step d7_6 hb); clear HO_176001 HO_181001 HO_190001 BK175 BK180 BK189 HB; have HO_176001 := n0_; have HO_181001 := n1_; have HO_190001 := n2_; have BK175 := n3_; have BK180 := n4_; have BK189 := n5_; have HB := n6_; clear n0_ n1_ n2_ n3_ n4_ n5_ n6_; (try clear hb)))
            go_ret
            exact ⟨by first | rfl | (simp [errW_none, errW_some] <;> rfl) | (simp [*, errW_none, errW_some] <;> rfl), by repeat (first | (with_reducible first | exact HB.out | apply below_alloc | apply pw_below_drewN | apply below_drew1 | refine below_set ?_ GE175.out | refine below_set ?_ GE180.out | refine below_set ?_ GE189.out) | exact HB.out)⟩

end Go.Proofs.Ytljaachpknphpaa.A
