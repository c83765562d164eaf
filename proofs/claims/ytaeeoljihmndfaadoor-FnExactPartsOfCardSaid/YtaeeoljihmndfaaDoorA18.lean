/- Walks of the program's functions: each Go function's answer as a plain Lean function, and that the call comes to it. Written by a program. Conditions: those in each theorem's own head. -/
import Derived.Test.YtaeeoljihmndfaaDoorA0
import Derived.Test.YtaeeoljihmndfaaDoorA10
import Derived.Test.YtaeeoljihmndfaaDoorA12
import Derived.Test.YtaeeoljihmndfaaDoorA14
import Derived.Test.YtaeeoljihmndfaaDoorA16
import Derived.Test.YtaeeoljihmndfaaDoorA17
namespace Go.Proofs.YtaeeoljihmndfaaDoor.A
open Go.RowKit Go.Proofs.YtaeeoljihmndfaaDoorW.PrintWords Go.Proofs.YtaeeoljihmndfaaDoorW.PrintLast Go.Proofs.YtaeeoljihmndfaaDoorW.PrintMore
attribute [local go_sem] max2_int min2_int max_two min_two max_three min_three max_four min_four   -- for this text's walks alone
set_option linter.unusedVariables false
set_option linter.unusedSimpArgs false

theorem d18_1 {p : Prop} (h : p := by repeat (first | (with_reducible first | exact HB.out | apply below_alloc | apply pw_below_drewN | apply below_drew1 | refine below_set ?_ GE376.out | refine below_set ?_ GE384.out) | exact HB.out)) : p := h
theorem d18_2 {p : Prop} (h : p := by (try simp only [List.map_toArray, List.map_cons, List.map_nil]); first | done | rfl | (simp only [List.length_drop, List.length_take]; rfl)) : p := h
theorem d18_3 {p : Prop} (h : p := by (with_reducible repeat (first | refine blk_drewN ?_ _ | refine blk_drew ?_ | refine blk_alloc ?_ _)); exact BK376.out) : p := h
theorem d18_4 {p : Prop} (h : p := by (with_reducible repeat (first | refine blk_drewN ?_ _ | refine blk_drew ?_ | refine blk_alloc ?_ _)); exact BK384.out) : p := h
theorem d18_5 {p : Prop} (h : p := by repeat (first | (with_reducible first | exact HB.out | apply below_alloc | apply pw_below_drewN | apply below_drew1 | refine below_set ?_ GE376.out) | exact HB.out)) : p := h
theorem d18_6 {p : Prop} (h : p := by (with_reducible repeat (first | apply Kd.R_alloc | apply Kd.R_drewN | apply Kd.R_drew)); exact HO_377001.out) : p := h
theorem d18_7 {p : Prop} (h : p := by (with_reducible repeat (first | apply Kd.R_alloc | apply Kd.R_drewN | apply Kd.R_drew)); exact HO_385001.out) : p := h
theorem d18_8 {p : Prop} (h : p := by repeat (first | (with_reducible first | exact HB.out | apply below_alloc | apply pw_below_drewN | apply below_drew1) | exact HB.out)) : p := h
theorem d18_9 {p : Prop} (h : p := by repeat (first | (with_reducible first | exact HB.out | apply below_alloc | apply pw_below_drewN | apply below_drew1 | refine below_set ?_ GE376.out | refine below_set ?_ GE384.out | refine below_set ?_ GE403.out) | exact HB.out)) : p := h
theorem d18_10 {p : Prop} (h : p := by (with_reducible repeat (first | apply Kd.R_alloc | apply Kd.R_drewN | apply Kd.R_drew)); exact HO371.out) : p := h
theorem d18_11 {p : Prop} (h : p := by (with_reducible repeat (first | apply Kd.R_alloc | apply Kd.R_drewN | apply Kd.R_drew)); exact HO375.out) : p := h

/-! ### laws_FnExactPartsOf: function 4 -/
mutual
def laws_FnExactPartsOf.j0 : Nat → List (S96) → Int → Option (Bool)
  | 0, _, _ => none
  | k + 1, x0, x1 => (laws_toDatumS.f k x0).bind fun t369 => ((spec_PartsOf.f k t369 x1).bind fun bt372 => ((laws_toDatumS.f k x0).bind fun t377 => ((impl_PartsOf.f k t377 x1).bind fun bt380 => ((laws_eqIntsResult.f k bt380.1 bt380.2 bt372.1 bt372.2).bind fun t385 => (if t385 = true then (laws_FnExactPartsOf.j1 k x0 x1 t377 bt372.1 bt372.2 bt380.1 bt380.2) else (some false))))))
def laws_FnExactPartsOf.j1 : Nat → List (S96) → Int → List (S99) → Int → List Int → Int → List Int → Option (Bool)
  | 0, _, _, _, _, _, _, _ => none
  | k + 1, x0, x1, x7, x377000, x377001, x385000, x385001 => (laws_toDatumS.f k x0).bind fun t386 => ((laws_eqDatumS.f k x7 t386).bind fun t389 => (if t389 = true then (laws_FnExactPartsOf.j2 k x0 x1 x7 x377000 x377001 x385000 x385001) else (some false)))
def laws_FnExactPartsOf.j2 : Nat → List (S96) → Int → List (S99) → Int → List Int → Int → List Int → Option (Bool)
  | 0, _, _, _, _, _, _, _ => none
  | k + 1, x0, x1, x7, x377000, x377001, x385000, x385001 => (laws_markDatumS.f k x7 1).bind fun bt390 => (if bt390.1 < 0 then (laws_FnExactPartsOf.j3 k x0 x1 true x377000 x377001 x385000 x385001) else ((laws_eqIntsResult.f k x385000 x385001 x377000 x377001).bind fun t392 => (laws_FnExactPartsOf.j3 k x0 x1 (!t392) x377000 x377001 x385000 x385001)))
def laws_FnExactPartsOf.j3 : Nat → List (S96) → Int → Bool → Int → List Int → Int → List Int → Option (Bool)
  | 0, _, _, _, _, _, _, _ => none
  | k + 1, x0, x1, x46, x377000, x377001, x385000, x385001 => if x46 = true then (some false) else (laws_FnExactPartsOf.j4 k x0 x1 x377000 x377001 x385000 x385001)
def laws_FnExactPartsOf.j4 : Nat → List (S96) → Int → Int → List Int → Int → List Int → Option (Bool)
  | 0, _, _, _, _, _, _ => none
  | k + 1, x0, x1, x377000, x377001, x385000, x385001 => (laws_markIntsResult.f k x385000 x385001 1).bind fun bt393 => ((laws_heldIntsResult.f k x385000 bt393.2 1).bind fun t395 => (if t395 < 0 then (some false) else (laws_FnExactPartsOf.j5 k x0 x1 bt393.1 t395 x377000 x377001 x385000 bt393.2)))
def laws_FnExactPartsOf.j5 : Nat → List (S96) → Int → Int → Int → Int → List Int → Int → List Int → Option (Bool)
  | 0, _, _, _, _, _, _, _, _ => none
  | k + 1, x0, x1, x10, x11, x377000, x377001, x385000, x385001 => if x11 = x10 then (laws_FnExactPartsOf.j6 k x0 x1 x10 x377000 x377001 x385000 x385001) else (some false)
def laws_FnExactPartsOf.j6 : Nat → List (S96) → Int → Int → Int → List Int → Int → List Int → Option (Bool)
  | 0, _, _, _, _, _, _, _ => none
  | k + 1, x0, x1, x10, x377000, x377001, x385000, x385001 => (laws_toDatumS.f k x0).bind fun t396 => ((impl_PartsOf.f k t396 x1).bind fun bt399 => ((laws_eqIntsResult.f k bt399.1 bt399.2 x377000 x377001).bind fun t404 => (if t404 = true then (laws_FnExactPartsOf.j7 k x10 x385000 x385001) else (some false))))
def laws_FnExactPartsOf.j7 : Nat → Int → Int → List Int → Option (Bool)
  | 0, _, _, _ => none
  | k + 1, x10, x385000, x385001 => (laws_heldIntsResult.f k x385000 x385001 1).bind fun t405 => (if t405 < 0 then (some false) else (if t405 = x10 then (some true) else (some false)))
end
def laws_FnExactPartsOf.f (k : Nat) (l0 : List (S96)) (a1 : Int) : Option (Bool) := (laws_szDatumS.f k l0 1048576).bind fun t368 => (if t368 < 0 then (some true) else (laws_FnExactPartsOf.j0 k l0 a1))
theorem laws_FnExactPartsOf.mono_l : ∀ k, (∀ y0 y1, LeO (laws_FnExactPartsOf.j0 k y0 y1) (laws_FnExactPartsOf.j0 (k + 1) y0 y1)) ∧ (∀ y0 y1 y2 y3 y4 y5 y6, LeO (laws_FnExactPartsOf.j1 k y0 y1 y2 y3 y4 y5 y6) (laws_FnExactPartsOf.j1 (k + 1) y0 y1 y2 y3 y4 y5 y6)) ∧ (∀ y0 y1 y2 y3 y4 y5 y6, LeO (laws_FnExactPartsOf.j2 k y0 y1 y2 y3 y4 y5 y6) (laws_FnExactPartsOf.j2 (k + 1) y0 y1 y2 y3 y4 y5 y6)) ∧ (∀ y0 y1 y2 y3 y4 y5 y6, LeO (laws_FnExactPartsOf.j3 k y0 y1 y2 y3 y4 y5 y6) (laws_FnExactPartsOf.j3 (k + 1) y0 y1 y2 y3 y4 y5 y6)) ∧ (∀ y0 y1 y2 y3 y4 y5, LeO (laws_FnExactPartsOf.j4 k y0 y1 y2 y3 y4 y5) (laws_FnExactPartsOf.j4 (k + 1) y0 y1 y2 y3 y4 y5)) ∧ (∀ y0 y1 y2 y3 y4 y5 y6 y7, LeO (laws_FnExactPartsOf.j5 k y0 y1 y2 y3 y4 y5 y6 y7) (laws_FnExactPartsOf.j5 (k + 1) y0 y1 y2 y3 y4 y5 y6 y7)) ∧ (∀ y0 y1 y2 y3 y4 y5 y6, LeO (laws_FnExactPartsOf.j6 k y0 y1 y2 y3 y4 y5 y6) (laws_FnExactPartsOf.j6 (k + 1) y0 y1 y2 y3 y4 y5 y6)) ∧ (∀ y0 y1 y2, LeO (laws_FnExactPartsOf.j7 k y0 y1 y2) (laws_FnExactPartsOf.j7 (k + 1) y0 y1 y2))
  | 0 => ⟨fun _ _ r h => by simp [laws_FnExactPartsOf.j0] at h, fun _ _ _ _ _ _ _ r h => by simp [laws_FnExactPartsOf.j1] at h, fun _ _ _ _ _ _ _ r h => by simp [laws_FnExactPartsOf.j2] at h, fun _ _ _ _ _ _ _ r h => by simp [laws_FnExactPartsOf.j3] at h, fun _ _ _ _ _ _ r h => by simp [laws_FnExactPartsOf.j4] at h, fun _ _ _ _ _ _ _ _ r h => by simp [laws_FnExactPartsOf.j5] at h, fun _ _ _ _ _ _ _ r h => by simp [laws_FnExactPartsOf.j6] at h, fun _ _ _ r h => by simp [laws_FnExactPartsOf.j7] at h⟩
  | k + 1 => by
    obtain ⟨ih0, ih1, ih2, ih3, ih4, ih5, ih6, ih7⟩ := laws_FnExactPartsOf.mono_l k
    refine ⟨?_, ?_, ?_, ?_, ?_, ?_, ?_, ?_⟩
    · intro y0 y1
      unfold laws_FnExactPartsOf.j0
      repeat' first
      | (with_reducible exact ih0 _ _)
      | (with_reducible exact ih1 _ _ _ _ _ _ _)
      | (with_reducible exact ih2 _ _ _ _ _ _ _)
      | (with_reducible exact ih3 _ _ _ _ _ _ _)
      | (with_reducible exact ih4 _ _ _ _ _ _)
      | (with_reducible exact ih5 _ _ _ _ _ _ _ _)
      | (with_reducible exact ih6 _ _ _ _ _ _ _)
      | (with_reducible exact ih7 _ _ _)
      | (with_reducible exact impl_PartsOf.mono _ _ _)
      | (with_reducible exact laws_eqDatumS.mono _ _ _)
      | (with_reducible exact laws_eqIntsResult.mono _ _ _ _ _)
      | (with_reducible exact laws_heldIntsResult.mono _ _ _ _)
      | (with_reducible exact laws_markDatumS.mono _ _ _)
      | (with_reducible exact laws_markIntsResult.mono _ _ _ _)
      | (with_reducible exact laws_szDatumS.mono _ _ _)
      | (with_reducible exact laws_toDatumS.mono _ _)
      | (with_reducible exact spec_PartsOf.mono _ _ _)
      | (with_reducible exact LeO.refl _)
      | (with_reducible exact LeO.none _)
      | (with_reducible refine LeO.ite ?_ ?_)
      | (with_reducible refine LeO.bind ?_ (fun _ => ?_))
      | exact ih0 _ _
      | exact ih1 _ _ _ _ _ _ _
      | exact ih2 _ _ _ _ _ _ _
      | exact ih3 _ _ _ _ _ _ _
      | exact ih4 _ _ _ _ _ _
      | exact ih5 _ _ _ _ _ _ _ _
      | exact ih6 _ _ _ _ _ _ _
      | exact ih7 _ _ _
      | exact impl_PartsOf.mono _ _ _
      | exact laws_eqDatumS.mono _ _ _
      | exact laws_eqIntsResult.mono _ _ _ _ _
      | exact laws_heldIntsResult.mono _ _ _ _
      | exact laws_markDatumS.mono _ _ _
      | exact laws_markIntsResult.mono _ _ _ _
      | exact laws_szDatumS.mono _ _ _
      | exact laws_toDatumS.mono _ _
      | exact spec_PartsOf.mono _ _ _
      | exact LeO.none _
      | refine LeO.ite ?_ ?_
      | refine LeO.bind ?_ (fun _ => ?_)
    · intro y0 y1 y2 y3 y4 y5 y6
      unfold laws_FnExactPartsOf.j1
      repeat' first
      | (with_reducible exact ih0 _ _)
      | (with_reducible exact ih1 _ _ _ _ _ _ _)
      | (with_reducible exact ih2 _ _ _ _ _ _ _)
      | (with_reducible exact ih3 _ _ _ _ _ _ _)
      | (with_reducible exact ih4 _ _ _ _ _ _)
      | (with_reducible exact ih5 _ _ _ _ _ _ _ _)
      | (with_reducible exact ih6 _ _ _ _ _ _ _)
      | (with_reducible exact ih7 _ _ _)
      | (with_reducible exact impl_PartsOf.mono _ _ _)
      | (with_reducible exact laws_eqDatumS.mono _ _ _)
      | (with_reducible exact laws_eqIntsResult.mono _ _ _ _ _)
      | (with_reducible exact laws_heldIntsResult.mono _ _ _ _)
      | (with_reducible exact laws_markDatumS.mono _ _ _)
      | (with_reducible exact laws_markIntsResult.mono _ _ _ _)
      | (with_reducible exact laws_szDatumS.mono _ _ _)
      | (with_reducible exact laws_toDatumS.mono _ _)
      | (with_reducible exact spec_PartsOf.mono _ _ _)
      | (with_reducible exact LeO.refl _)
      | (with_reducible exact LeO.none _)
      | (with_reducible refine LeO.ite ?_ ?_)
      | (with_reducible refine LeO.bind ?_ (fun _ => ?_))
      | exact ih0 _ _
      | exact ih1 _ _ _ _ _ _ _
      | exact ih2 _ _ _ _ _ _ _
      | exact ih3 _ _ _ _ _ _ _
      | exact ih4 _ _ _ _ _ _
      | exact ih5 _ _ _ _ _ _ _ _
      | exact ih6 _ _ _ _ _ _ _
      | exact ih7 _ _ _
      | exact impl_PartsOf.mono _ _ _
      | exact laws_eqDatumS.mono _ _ _
      | exact laws_eqIntsResult.mono _ _ _ _ _
      | exact laws_heldIntsResult.mono _ _ _ _
      | exact laws_markDatumS.mono _ _ _
      | exact laws_markIntsResult.mono _ _ _ _
      | exact laws_szDatumS.mono _ _ _
      | exact laws_toDatumS.mono _ _
      | exact spec_PartsOf.mono _ _ _
      | exact LeO.none _
      | refine LeO.ite ?_ ?_
      | refine LeO.bind ?_ (fun _ => ?_)
    · intro y0 y1 y2 y3 y4 y5 y6
      unfold laws_FnExactPartsOf.j2
      repeat' first
      | (with_reducible exact ih0 _ _)
      | (with_reducible exact ih1 _ _ _ _ _ _ _)
      | (with_reducible exact ih2 _ _ _ _ _ _ _)
      | (with_reducible exact ih3 _ _ _ _ _ _ _)
      | (with_reducible exact ih4 _ _ _ _ _ _)
      | (with_reducible exact ih5 _ _ _ _ _ _ _ _)
      | (with_reducible exact ih6 _ _ _ _ _ _ _)
      | (with_reducible exact ih7 _ _ _)
      | (with_reducible exact impl_PartsOf.mono _ _ _)
      | (with_reducible exact laws_eqDatumS.mono _ _ _)
      | (with_reducible exact laws_eqIntsResult.mono _ _ _ _ _)
      | (with_reducible exact laws_heldIntsResult.mono _ _ _ _)
      | (with_reducible exact laws_markDatumS.mono _ _ _)
      | (with_reducible exact laws_markIntsResult.mono _ _ _ _)
      | (with_reducible exact laws_szDatumS.mono _ _ _)
      | (with_reducible exact laws_toDatumS.mono _ _)
      | (with_reducible exact spec_PartsOf.mono _ _ _)
      | (with_reducible exact LeO.refl _)
      | (with_reducible exact LeO.none _)
      | (with_reducible refine LeO.ite ?_ ?_)
      | (with_reducible refine LeO.bind ?_ (fun _ => ?_))
      | exact ih0 _ _
      | exact ih1 _ _ _ _ _ _ _
      | exact ih2 _ _ _ _ _ _ _
      | exact ih3 _ _ _ _ _ _ _
      | exact ih4 _ _ _ _ _ _
      | exact ih5 _ _ _ _ _ _ _ _
      | exact ih6 _ _ _ _ _ _ _
      | exact ih7 _ _ _
      | exact impl_PartsOf.mono _ _ _
      | exact laws_eqDatumS.mono _ _ _
      | exact laws_eqIntsResult.mono _ _ _ _ _
      | exact laws_heldIntsResult.mono _ _ _ _
      | exact laws_markDatumS.mono _ _ _
      | exact laws_markIntsResult.mono _ _ _ _
      | exact laws_szDatumS.mono _ _ _
      | exact laws_toDatumS.mono _ _
      | exact spec_PartsOf.mono _ _ _
      | exact LeO.none _
      | refine LeO.ite ?_ ?_
      | refine LeO.bind ?_ (fun _ => ?_)
    · intro y0 y1 y2 y3 y4 y5 y6
      unfold laws_FnExactPartsOf.j3
      repeat' first
      | (with_reducible exact ih0 _ _)
      | (with_reducible exact ih1 _ _ _ _ _ _ _)
      | (with_reducible exact ih2 _ _ _ _ _ _ _)
      | (with_reducible exact ih3 _ _ _ _ _ _ _)
      | (with_reducible exact ih4 _ _ _ _ _ _)
      | (with_reducible exact ih5 _ _ _ _ _ _ _ _)
      | (with_reducible exact ih6 _ _ _ _ _ _ _)
      | (with_reducible exact ih7 _ _ _)
      | (with_reducible exact impl_PartsOf.mono _ _ _)
      | (with_reducible exact laws_eqDatumS.mono _ _ _)
      | (with_reducible exact laws_eqIntsResult.mono _ _ _ _ _)
      | (with_reducible exact laws_heldIntsResult.mono _ _ _ _)
      | (with_reducible exact laws_markDatumS.mono _ _ _)
      | (with_reducible exact laws_markIntsResult.mono _ _ _ _)
      | (with_reducible exact laws_szDatumS.mono _ _ _)
      | (with_reducible exact laws_toDatumS.mono _ _)
      | (with_reducible exact spec_PartsOf.mono _ _ _)
      | (with_reducible exact LeO.refl _)
      | (with_reducible exact LeO.none _)
      | (with_reducible refine LeO.ite ?_ ?_)
      | (with_reducible refine LeO.bind ?_ (fun _ => ?_))
      | exact ih0 _ _
      | exact ih1 _ _ _ _ _ _ _
      | exact ih2 _ _ _ _ _ _ _
      | exact ih3 _ _ _ _ _ _ _
      | exact ih4 _ _ _ _ _ _
      | exact ih5 _ _ _ _ _ _ _ _
      | exact ih6 _ _ _ _ _ _ _
      | exact ih7 _ _ _
      | exact impl_PartsOf.mono _ _ _
      | exact laws_eqDatumS.mono _ _ _
      | exact laws_eqIntsResult.mono _ _ _ _ _
      | exact laws_heldIntsResult.mono _ _ _ _
      | exact laws_markDatumS.mono _ _ _
      | exact laws_markIntsResult.mono _ _ _ _
      | exact laws_szDatumS.mono _ _ _
      | exact laws_toDatumS.mono _ _
      | exact spec_PartsOf.mono _ _ _
      | exact LeO.none _
      | refine LeO.ite ?_ ?_
      | refine LeO.bind ?_ (fun _ => ?_)
    · intro y0 y1 y2 y3 y4 y5
      unfold laws_FnExactPartsOf.j4
      repeat' first
      | (with_reducible exact ih0 _ _)
      | (with_reducible exact ih1 _ _ _ _ _ _ _)
      | (with_reducible exact ih2 _ _ _ _ _ _ _)
      | (with_reducible exact ih3 _ _ _ _ _ _ _)
      | (with_reducible exact ih4 _ _ _ _ _ _)
      | (with_reducible exact ih5 _ _ _ _ _ _ _ _)
      | (with_reducible exact ih6 _ _ _ _ _ _ _)
      | (with_reducible exact ih7 _ _ _)
      | (with_reducible exact impl_PartsOf.mono _ _ _)
      | (with_reducible exact laws_eqDatumS.mono _ _ _)
      | (with_reducible exact laws_eqIntsResult.mono _ _ _ _ _)
      | (with_reducible exact laws_heldIntsResult.mono _ _ _ _)
      | (with_reducible exact laws_markDatumS.mono _ _ _)
      | (with_reducible exact laws_markIntsResult.mono _ _ _ _)
      | (with_reducible exact laws_szDatumS.mono _ _ _)
      | (with_reducible exact laws_toDatumS.mono _ _)
      | (with_reducible exact spec_PartsOf.mono _ _ _)
      | (with_reducible exact LeO.refl _)
      | (with_reducible exact LeO.none _)
      | (with_reducible refine LeO.ite ?_ ?_)
      | (with_reducible refine LeO.bind ?_ (fun _ => ?_))
      | exact ih0 _ _
      | exact ih1 _ _ _ _ _ _ _
      | exact ih2 _ _ _ _ _ _ _
      | exact ih3 _ _ _ _ _ _ _
      | exact ih4 _ _ _ _ _ _
      | exact ih5 _ _ _ _ _ _ _ _
      | exact ih6 _ _ _ _ _ _ _
      | exact ih7 _ _ _
      | exact impl_PartsOf.mono _ _ _
      | exact laws_eqDatumS.mono _ _ _
      | exact laws_eqIntsResult.mono _ _ _ _ _
      | exact laws_heldIntsResult.mono _ _ _ _
      | exact laws_markDatumS.mono _ _ _
      | exact laws_markIntsResult.mono _ _ _ _
      | exact laws_szDatumS.mono _ _ _
      | exact laws_toDatumS.mono _ _
      | exact spec_PartsOf.mono _ _ _
      | exact LeO.none _
      | refine LeO.ite ?_ ?_
      | refine LeO.bind ?_ (fun _ => ?_)
    · intro y0 y1 y2 y3 y4 y5 y6 y7
      unfold laws_FnExactPartsOf.j5
      repeat' first
      | (with_reducible exact ih0 _ _)
      | (with_reducible exact ih1 _ _ _ _ _ _ _)
      | (with_reducible exact ih2 _ _ _ _ _ _ _)
      | (with_reducible exact ih3 _ _ _ _ _ _ _)
      | (with_reducible exact ih4 _ _ _ _ _ _)
      | (with_reducible exact ih5 _ _ _ _ _ _ _ _)
      | (with_reducible exact ih6 _ _ _ _ _ _ _)
      | (with_reducible exact ih7 _ _ _)
      | (with_reducible exact impl_PartsOf.mono _ _ _)
      | (with_reducible exact laws_eqDatumS.mono _ _ _)
      | (with_reducible exact laws_eqIntsResult.mono _ _ _ _ _)
      | (with_reducible exact laws_heldIntsResult.mono _ _ _ _)
      | (with_reducible exact laws_markDatumS.mono _ _ _)
      | (with_reducible exact laws_markIntsResult.mono _ _ _ _)
      | (with_reducible exact laws_szDatumS.mono _ _ _)
      | (with_reducible exact laws_toDatumS.mono _ _)
      | (with_reducible exact spec_PartsOf.mono _ _ _)
      | (with_reducible exact LeO.refl _)
      | (with_reducible exact LeO.none _)
      | (with_reducible refine LeO.ite ?_ ?_)
      | (with_reducible refine LeO.bind ?_ (fun _ => ?_))
      | exact ih0 _ _
      | exact ih1 _ _ _ _ _ _ _
      | exact ih2 _ _ _ _ _ _ _
      | exact ih3 _ _ _ _ _ _ _
      | exact ih4 _ _ _ _ _ _
      | exact ih5 _ _ _ _ _ _ _ _
      | exact ih6 _ _ _ _ _ _ _
      | exact ih7 _ _ _
      | exact impl_PartsOf.mono _ _ _
      | exact laws_eqDatumS.mono _ _ _
      | exact laws_eqIntsResult.mono _ _ _ _ _
      | exact laws_heldIntsResult.mono _ _ _ _
      | exact laws_markDatumS.mono _ _ _
      | exact laws_markIntsResult.mono _ _ _ _
      | exact laws_szDatumS.mono _ _ _
      | exact laws_toDatumS.mono _ _
      | exact spec_PartsOf.mono _ _ _
      | exact LeO.none _
      | refine LeO.ite ?_ ?_
      | refine LeO.bind ?_ (fun _ => ?_)
    · intro y0 y1 y2 y3 y4 y5 y6
      unfold laws_FnExactPartsOf.j6
      repeat' first
      | (with_reducible exact ih0 _ _)
      | (with_reducible exact ih1 _ _ _ _ _ _ _)
      | (with_reducible exact ih2 _ _ _ _ _ _ _)
      | (with_reducible exact ih3 _ _ _ _ _ _ _)
      | (with_reducible exact ih4 _ _ _ _ _ _)
      | (with_reducible exact ih5 _ _ _ _ _ _ _ _)
      | (with_reducible exact ih6 _ _ _ _ _ _ _)
      | (with_reducible exact ih7 _ _ _)
      | (with_reducible exact impl_PartsOf.mono _ _ _)
      | (with_reducible exact laws_eqDatumS.mono _ _ _)
      | (with_reducible exact laws_eqIntsResult.mono _ _ _ _ _)
      | (with_reducible exact laws_heldIntsResult.mono _ _ _ _)
      | (with_reducible exact laws_markDatumS.mono _ _ _)
      | (with_reducible exact laws_markIntsResult.mono _ _ _ _)
      | (with_reducible exact laws_szDatumS.mono _ _ _)
      | (with_reducible exact laws_toDatumS.mono _ _)
      | (with_reducible exact spec_PartsOf.mono _ _ _)
      | (with_reducible exact LeO.refl _)
      | (with_reducible exact LeO.none _)
      | (with_reducible refine LeO.ite ?_ ?_)
      | (with_reducible refine LeO.bind ?_ (fun _ => ?_))
      | exact ih0 _ _
      | exact ih1 _ _ _ _ _ _ _
      | exact ih2 _ _ _ _ _ _ _
      | exact ih3 _ _ _ _ _ _ _
      | exact ih4 _ _ _ _ _ _
      | exact ih5 _ _ _ _ _ _ _ _
      | exact ih6 _ _ _ _ _ _ _
      | exact ih7 _ _ _
      | exact impl_PartsOf.mono _ _ _
      | exact laws_eqDatumS.mono _ _ _
      | exact laws_eqIntsResult.mono _ _ _ _ _
      | exact laws_heldIntsResult.mono _ _ _ _
      | exact laws_markDatumS.mono _ _ _
      | exact laws_markIntsResult.mono _ _ _ _
      | exact laws_szDatumS.mono _ _ _
      | exact laws_toDatumS.mono _ _
      | exact spec_PartsOf.mono _ _ _
      | exact LeO.none _
      | refine LeO.ite ?_ ?_
      | refine LeO.bind ?_ (fun _ => ?_)
    · intro y0 y1 y2
      unfold laws_FnExactPartsOf.j7
      repeat' first
      | (with_reducible exact ih0 _ _)
      | (with_reducible exact ih1 _ _ _ _ _ _ _)
      | (with_reducible exact ih2 _ _ _ _ _ _ _)
      | (with_reducible exact ih3 _ _ _ _ _ _ _)
      | (with_reducible exact ih4 _ _ _ _ _ _)
      | (with_reducible exact ih5 _ _ _ _ _ _ _ _)
      | (with_reducible exact ih6 _ _ _ _ _ _ _)
      | (with_reducible exact ih7 _ _ _)
      | (with_reducible exact impl_PartsOf.mono _ _ _)
      | (with_reducible exact laws_eqDatumS.mono _ _ _)
      | (with_reducible exact laws_eqIntsResult.mono _ _ _ _ _)
      | (with_reducible exact laws_heldIntsResult.mono _ _ _ _)
      | (with_reducible exact laws_markDatumS.mono _ _ _)
      | (with_reducible exact laws_markIntsResult.mono _ _ _ _)
      | (with_reducible exact laws_szDatumS.mono _ _ _)
      | (with_reducible exact laws_toDatumS.mono _ _)
      | (with_reducible exact spec_PartsOf.mono _ _ _)
      | (with_reducible exact LeO.refl _)
      | (with_reducible exact LeO.none _)
      | (with_reducible refine LeO.ite ?_ ?_)
      | (with_reducible refine LeO.bind ?_ (fun _ => ?_))
      | exact ih0 _ _
      | exact ih1 _ _ _ _ _ _ _
      | exact ih2 _ _ _ _ _ _ _
      | exact ih3 _ _ _ _ _ _ _
      | exact ih4 _ _ _ _ _ _
      | exact ih5 _ _ _ _ _ _ _ _
      | exact ih6 _ _ _ _ _ _ _
      | exact ih7 _ _ _
      | exact impl_PartsOf.mono _ _ _
      | exact laws_eqDatumS.mono _ _ _
      | exact laws_eqIntsResult.mono _ _ _ _ _
      | exact laws_heldIntsResult.mono _ _ _ _
      | exact laws_markDatumS.mono _ _ _
      | exact laws_markIntsResult.mono _ _ _ _
      | exact laws_szDatumS.mono _ _ _
      | exact laws_toDatumS.mono _ _
      | exact spec_PartsOf.mono _ _ _
      | exact LeO.none _
      | refine LeO.ite ?_ ?_
      | refine LeO.bind ?_ (fun _ => ?_)
theorem laws_FnExactPartsOf.mono : ∀ a0 a1 k, LeO (laws_FnExactPartsOf.f k a0 a1) (laws_FnExactPartsOf.f (k + 1) a0 a1) := by
  intro a0 a1 k
  obtain ⟨ih0, ih1, ih2, ih3, ih4, ih5, ih6, ih7⟩ := laws_FnExactPartsOf.mono_l k
  unfold laws_FnExactPartsOf.f
  repeat' first
      | (with_reducible exact ih0 _ _)
      | (with_reducible exact ih1 _ _ _ _ _ _ _)
      | (with_reducible exact ih2 _ _ _ _ _ _ _)
      | (with_reducible exact ih3 _ _ _ _ _ _ _)
      | (with_reducible exact ih4 _ _ _ _ _ _)
      | (with_reducible exact ih5 _ _ _ _ _ _ _ _)
      | (with_reducible exact ih6 _ _ _ _ _ _ _)
      | (with_reducible exact ih7 _ _ _)
      | (with_reducible exact impl_PartsOf.mono _ _ _)
      | (with_reducible exact laws_eqDatumS.mono _ _ _)
      | (with_reducible exact laws_eqIntsResult.mono _ _ _ _ _)
      | (with_reducible exact laws_heldIntsResult.mono _ _ _ _)
      | (with_reducible exact laws_markDatumS.mono _ _ _)
      | (with_reducible exact laws_markIntsResult.mono _ _ _ _)
      | (with_reducible exact laws_szDatumS.mono _ _ _)
      | (with_reducible exact laws_toDatumS.mono _ _)
      | (with_reducible exact spec_PartsOf.mono _ _ _)
      | (with_reducible exact LeO.refl _)
      | (with_reducible exact LeO.none _)
      | (with_reducible refine LeO.ite ?_ ?_)
      | (with_reducible refine LeO.bind ?_ (fun _ => ?_))
      | exact ih0 _ _
      | exact ih1 _ _ _ _ _ _ _
      | exact ih2 _ _ _ _ _ _ _
      | exact ih3 _ _ _ _ _ _ _
      | exact ih4 _ _ _ _ _ _
      | exact ih5 _ _ _ _ _ _ _ _
      | exact ih6 _ _ _ _ _ _ _
      | exact ih7 _ _ _
      | exact impl_PartsOf.mono _ _ _
      | exact laws_eqDatumS.mono _ _ _
      | exact laws_eqIntsResult.mono _ _ _ _ _
      | exact laws_heldIntsResult.mono _ _ _ _
      | exact laws_markDatumS.mono _ _ _
      | exact laws_markIntsResult.mono _ _ _ _
      | exact laws_szDatumS.mono _ _ _
      | exact laws_toDatumS.mono _ _
      | exact spec_PartsOf.mono _ _ _
      | exact LeO.none _
      | refine LeO.ite ?_ ?_
      | refine LeO.bind ?_ (fun _ => ?_)
set_option maxHeartbeats 8000000 in
set_option maxRecDepth 100000 in
theorem laws_FnExactPartsOf.calls (k : Nat) (A0 : Option Addr) (c0 : Nat) (l0 : List (S96)) (a1 : Int) (r : Bool) (w : World) (hr0 : Kd.C k96 w A0 l0.length l0) (hc0 : l0.length ≤ c0) (h : laws_FnExactPartsOf.f k l0 a1 = some r) :
    Calls Tryd.prog 4 #[.slice A0 l0.length c0, .int .i64 a1] w fun e w' => e = .returned (.bool r) ∧ Below w.heap.size w w' := by
  have hu42 := Tryd.underlying42
  have HR0 := ak hr0
  have HC0 := ak hc0
  clear hr0 hc0
  have HB := ak (Below.refl w.heap.size w)
  have H : ((laws_szDatumS.f k l0 1048576).bind fun t368 => (if t368 < 0 then (some true) else (laws_FnExactPartsOf.j0 k l0 a1))) = some r := h
  clear h
  replace H := Option.bind_eq_some_iff.mp H
  obtain ⟨t368, A30, H⟩ := H
  replace H : (if t368 < 0 then (some true) else (laws_FnExactPartsOf.j0 k l0 a1)) = some r := H
  have A3 := ak A30
  clear A30
  have HC4 := ak H
  clear H
  go_enter Tryd.func4, Tryd.ntmps4
  go_upto_if 17 with (first | ((with_reducible refine gate_callee (f := 16) rfl ?_); refine goesL_ (some 15) rfl rfl Tryd.func16 (by kernel_rfl) rfl #[.slice A0 l0.length c0, .int .i64 1048576] rfl d18_2 ?_; (with_reducible refine (laws_szDatumS.calls k _ _ l0 1048576 t368 _ ?side1 ?side2 A3.out).mono ?_); (case side1 => repeat (first | exact HR0.out | (with_reducible refine Kd.C_alloc ?_ _) | (with_reducible refine Kd.C_drewN ?_ _) | (with_reducible refine Kd.C_drew ?_))); (case side2 => exact HC0.out); rintro e w5 ⟨rfl, hb⟩; refine ⟨_, rfl, ?_⟩; have n0_ := ak (below_step d18_8 hb); clear HB; have HB := n0_; clear n0_; (try clear hb)))
  (try simp only [Act.put, List.setIfInBounds_toArray, List.set_cons_zero, List.set_cons_succ])
  go_cut [] (fun wc => ∃ (kq : Nat), Aside0 (laws_FnExactPartsOf.j0 kq l0 a1 = some r) ∧ Aside0 (kq ≤ k) ∧ Aside0 (Below w.heap.size w wc))
  case first =>
   have H := HC4.out
   clear HC4
   by_cases c6 : t368 < 0
   ·rw [if_pos c6] at H
    have c6b0 : decide (t368 < 0) = true := decide_eq_true c6
    clear c6
    (first | rw [c6b0] | (simp only [i64_w, i32_w]; rw [c6b0]) | skip)
    obtain rfl := Option.some.inj H
    go_wp2
    go_ret
    exact ⟨by first | rfl | (simp [errW_none, errW_some] <;> rfl) | (simp [*, errW_none, errW_some] <;> rfl), by repeat (first | (with_reducible first | exact HB.out | apply below_alloc | apply pw_below_drewN | apply below_drew1) | exact HB.out)⟩
   ·rw [if_neg c6] at H
    have c6b0 : decide (t368 < 0) = false := decide_eq_false c6
    clear c6
    (first | rw [c6b0] | (simp only [i64_w, i32_w]; rw [c6b0]) | skip)
    have H' := ak H
    clear H
    go_wp2
    go_meet
    case rel => exact ⟨_, H', ⟨by first | omega | exact Nat.le_refl _⟩, ⟨by repeat (first | (with_reducible first | exact HB.out | apply below_alloc | apply pw_below_drewN | apply below_drew1) | exact HB.out)⟩⟩
  case rest =>
   clear HC4
   try clear c1
   try clear c4
   obtain ⟨kq, HA, HJ3, HB⟩ := hcut
   cases kq with
   | zero => exact absurd HA.out (by simp [laws_FnExactPartsOf.j0])
   | succ kj3 =>
    have H := HA.out
    clear HA
    simp only [laws_FnExactPartsOf.j0] at H
    replace H := Option.bind_eq_some_iff.mp H
    obtain ⟨t369, A70, H⟩ := H
    replace H : ((spec_PartsOf.f kj3 t369 a1).bind fun bt372 => ((laws_toDatumS.f kj3 l0).bind fun t377 => ((impl_PartsOf.f kj3 t377 a1).bind fun bt380 => ((laws_eqIntsResult.f kj3 bt380.1 bt380.2 bt372.1 bt372.2).bind fun t385 => (if t385 = true then (laws_FnExactPartsOf.j1 kj3 l0 a1 t377 bt372.1 bt372.2 bt380.1 bt380.2) else (some false)))))) = some r := H
    have A7 := ak A70
    clear A70
    replace H := Option.bind_eq_some_iff.mp H
    obtain ⟨⟨t372, t373⟩, A80, H⟩ := H
    replace H : ((laws_toDatumS.f kj3 l0).bind fun t377 => ((impl_PartsOf.f kj3 t377 a1).bind fun bt380 => ((laws_eqIntsResult.f kj3 bt380.1 bt380.2 t372 t373).bind fun t385 => (if t385 = true then (laws_FnExactPartsOf.j1 kj3 l0 a1 t377 t372 t373 bt380.1 bt380.2) else (some false))))) = some r := H
    have A8 := ak A80
    clear A80
    replace H := Option.bind_eq_some_iff.mp H
    obtain ⟨t377, A90, H⟩ := H
    replace H : ((impl_PartsOf.f kj3 t377 a1).bind fun bt380 => ((laws_eqIntsResult.f kj3 bt380.1 bt380.2 t372 t373).bind fun t385 => (if t385 = true then (laws_FnExactPartsOf.j1 kj3 l0 a1 t377 t372 t373 bt380.1 bt380.2) else (some false)))) = some r := H
    have A9 := ak A90
    clear A90
    replace H := Option.bind_eq_some_iff.mp H
    obtain ⟨⟨t380, t381⟩, A100, H⟩ := H
    replace H : ((laws_eqIntsResult.f kj3 t380 t381 t372 t373).bind fun t385 => (if t385 = true then (laws_FnExactPartsOf.j1 kj3 l0 a1 t377 t372 t373 t380 t381) else (some false))) = some r := H
    have A10 := ak A100
    clear A100
    replace H := Option.bind_eq_some_iff.mp H
    obtain ⟨t385, A110, H⟩ := H
    replace H : (if t385 = true then (laws_FnExactPartsOf.j1 kj3 l0 a1 t377 t372 t373 t380 t381) else (some false)) = some r := H
    have A11 := ak A110
    clear A110
    have HC12 := ak H
    clear H
    go_upto_if 30 with (first | ((with_reducible refine gate_callee (f := 18) rfl ?_); refine goesL_ (some 19) rfl rfl Tryd.func18 (by kernel_rfl) rfl #[.slice A0 l0.length c0] rfl d18_2 ?_; (with_reducible refine (laws_toDatumS.calls kj3 _ _ l0 t369 _ ?side1 ?side2 A7.out).mono ?_); (case side1 => repeat (first | exact (Kd.C_below HR0.out HB.out) | (with_reducible refine Kd.C_alloc ?_ _) | (with_reducible refine Kd.C_drewN ?_ _) | (with_reducible refine Kd.C_drew ?_))); (case side2 => exact HC0.out); rintro e w13 ⟨v370, rfl, ho0, hb⟩; refine ⟨_, rfl, ?_⟩; have n0_ := ak (Kd.R_lower ho0 (below_size d18_8)); have n1_ := ak (below_step d18_8 hb); clear HB; have HO371 := n0_; have HB := n1_; clear n0_ n1_; (try clear hb); (try clear hk); (try clear ho0); obtain ⟨Ao14, co14, eo14⟩ := Kd.R_slice HO371.out; subst eo14) | ((with_reducible refine gate_callee (f := 17) rfl ?_); refine goesL_ (some 21) rfl rfl Tryd.func17 (by kernel_rfl) rfl #[.slice Ao14 t369.length co14, .int .i64 a1] rfl d18_2 ?_; (with_reducible refine (spec_PartsOf.calls kj3 _ _ t369 a1 t372 t373 _ ?side1 ?side2 A8.out).mono ?_); (case side1 => repeat (first | exact (Kd.R_reads' HO371.out).2.2 | (with_reducible refine Kd.C_alloc ?_ _) | (with_reducible refine Kd.C_drewN ?_ _) | (with_reducible refine Kd.C_drew ?_))); (case side2 => exact (Kd.R_reads' HO371.out).2.1); rintro e w15 ⟨v374, rfl, ho0, hb⟩; refine ⟨_, rfl, ?_⟩; have n0_ := ak (Kd.R_below d18_10 hb); have n1_ := ak (Kd.R_lower ho0 (below_size d18_8)); have n2_ := ak (below_step d18_8 hb); clear HO371 HB; have HO371 := n0_; have HO375 := n1_; have HB := n2_; clear n0_ n1_ n2_; (try clear hb); (try clear hk); (try clear ho0)) | ((with_reducible refine gate_dst (N := 6) rfl ?_); refine box_event ?hg (N := 6) ?hd (cs := #[.int .i64 0, .slice none 0 0]) (t := 42) ?hr ?_; (case hd => rfl); (case hg => rfl); (case hr => first | (go_simp; done) | (go_simp; rfl)); intro gb376 hg w16 hbox hb; have n0_ := ak (Kd.R_below d18_10 hb); have n1_ := ak (Kd.R_below d18_11 hb); have n2_ := ak (below_step d18_8 hb); have n3_ := ak (hbox); have n4_ := ak ((by rw [hg]; exact (below_size d18_8) : w.heap.size ≤ gb376)); have n5_ := ak ((by rw [hg]; exact (below_size d18_8) : w.heap.size ≤ gb376)); clear HO371 HO375 HB; have HO371 := n0_; have HO375 := n1_; have HB := n2_; have BK376 := n3_; have GW376 := n4_; have GE376 := n5_; clear n0_ n1_ n2_ n3_ n4_ n5_ hb hbox hg; have hcz17_0 : w16.cell? ⟨gb376, 0, none⟩ = some (.int .i64 0) := (blk_cell BK376.out 0).trans rfl; have hcz17_1 : w16.cell? ⟨gb376, 1, none⟩ = some (.slice none 0 0) := (blk_cell BK376.out 1).trans rfl; have hfz17_0 := blk_frozen BK376.out 0; have hfz17_1 := blk_frozen BK376.out 1; obtain ⟨Ao18, co18, eo18⟩ := Kd.R_slice HO375.out; subst eo18) | ((with_reducible refine gate_callee (f := 18) rfl ?_); refine goesL_ (some 23) rfl rfl Tryd.func18 (by kernel_rfl) rfl #[.slice A0 l0.length c0] rfl d18_2 ?_; (with_reducible refine (laws_toDatumS.calls kj3 _ _ l0 t377 _ ?side1 ?side2 A9.out).mono ?_); (case side1 => exact Kd.C_below HR0.out d18_5); (case side2 => exact HC0.out); rintro e w19 ⟨v378, rfl, ho0, hb⟩; refine ⟨_, rfl, ?_⟩; have n0_ := ak (Kd.R_elder' (by (with_reducible repeat (first | apply Kd.R_alloc | apply Kd.R_drewN | apply Kd.R_drew)); exact (Kd.R_mono (Kd.R_far (p := ⟨gb376, 1, none⟩) (Kd.R_far (p := ⟨gb376, 0, none⟩) (Kd.R_types HO371.out BK376.out (by decide)) (fun _ hk => hk.2) (.int .i64 t372)) (fun _ hk => hk.2) (.slice Ao18 t373.length co18)) (fun _ h_ => h_.1))) (Kd.R_base ho0) hb); have n1_ := ak (Kd.R_below (by (with_reducible repeat (first | apply Kd.R_alloc | apply Kd.R_drewN | apply Kd.R_drew)); exact (Kd.R_mono (Kd.R_far (p := ⟨gb376, 1, none⟩) (Kd.R_far (p := ⟨gb376, 0, none⟩) (Kd.R_types HO375.out BK376.out (by decide)) (fun _ hk => hk.2) (.int .i64 t372)) (fun _ hk => hk.2) (.slice Ao18 t373.length co18)) (fun _ h_ => h_.1))) hb); have n2_ := ak (Kd.R_lower (Kd.R_new' ho0 (Kd.R_lt (by (with_reducible repeat (first | apply Kd.R_alloc | apply Kd.R_drewN | apply Kd.R_drew)); exact (Kd.R_mono (Kd.R_far (p := ⟨gb376, 1, none⟩) (Kd.R_far (p := ⟨gb376, 0, none⟩) (Kd.R_types HO371.out BK376.out (by decide)) (fun _ hk => hk.2) (.int .i64 t372)) (fun _ hk => hk.2) (.slice Ao18 t373.length co18)) (fun _ h_ => h_.1))))) (below_size d18_5)); have n3_ := ak (blk_below (g := gb376) (o := .cells #[.int .i64 t372, .slice Ao18 t373.length co18] 42 (0, 0)) (by (with_reducible repeat (first | refine blk_drewN ?_ _ | refine blk_drew ?_ | refine blk_alloc ?_ _)); refine blk_put (cs := #[.int .i64 t372, .slice none 0 0]) ?_ 1 _ rfl; (with_reducible repeat (first | refine blk_drewN ?_ _ | refine blk_drew ?_ | refine blk_alloc ?_ _)); refine blk_put (cs := #[.int .i64 0, .slice none 0 0]) ?_ 0 _ rfl; (with_reducible repeat (first | refine blk_drewN ?_ _ | refine blk_drew ?_ | refine blk_alloc ?_ _)); exact BK376.out) hb); have n4_ := ak (below_step d18_5 hb); clear HO371 HO375 BK376 HB; have HO371 := n0_; have HO375 := n1_; have HO379 := n2_; have BK376 := n3_; have HB := n4_; clear n0_ n1_ n2_ n3_ n4_; (try clear hb); (try clear hk); (try clear ho0); obtain ⟨Ao20, co20, eo20⟩ := Kd.R_slice HO379.out; subst eo20) | ((with_reducible refine gate_callee (f := 19) rfl ?_); refine goesL_ (some 26) rfl rfl Tryd.func19 (by kernel_rfl) rfl #[.slice Ao20 t377.length co20, .int .i64 a1] rfl d18_2 ?_; (with_reducible refine (impl_PartsOf.calls kj3 _ _ t377 a1 t380 t381 _ ?side1 ?side2 A10.out).mono ?_); (case side1 => repeat (first | exact (Kd.R_reads' HO379.out).2.2 | (with_reducible refine Kd.C_alloc ?_ _) | (with_reducible refine Kd.C_drewN ?_ _) | (with_reducible refine Kd.C_drew ?_))); (case side2 => exact (Kd.R_reads' HO379.out).2.1); rintro e w21 ⟨v382, rfl, ho0, hb⟩; refine ⟨_, rfl, ?_⟩; have n0_ := ak (Kd.R_below d18_10 hb); have n1_ := ak (Kd.R_elder' d18_11 (Kd.R_base ho0) hb); have n2_ := ak (Kd.R_below (by (with_reducible repeat (first | apply Kd.R_alloc | apply Kd.R_drewN | apply Kd.R_drew)); exact HO379.out) hb); have n3_ := ak (Kd.R_lower (Kd.R_new' ho0 (Kd.R_lt d18_11)) (below_size d18_5)); have n4_ := ak (blk_below (g := gb376) (o := .cells #[.int .i64 t372, .slice Ao18 t373.length co18] 42 (0, 0)) d18_3 hb); have n5_ := ak (below_step d18_5 hb); clear HO371 HO375 HO379 BK376 HB; have HO371 := n0_; have HO375 := n1_; have HO379 := n2_; have HO383 := n3_; have BK376 := n4_; have HB := n5_; clear n0_ n1_ n2_ n3_ n4_ n5_; (try clear hb); (try clear hk); (try clear ho0)) | ((with_reducible refine gate_dst (N := 8) rfl ?_); refine box_event ?hg (N := 8) ?hd (cs := #[.int .i64 0, .slice none 0 0]) (t := 42) ?hr ?_; (case hd => rfl); (case hg => rfl); (case hr => first | (go_simp; done) | (go_simp; rfl)); intro gb384 hg w22 hbox hb; have n0_ := ak (Kd.R_below d18_10 hb); have n1_ := ak (Kd.R_below d18_11 hb); have n2_ := ak (Kd.R_below (by (with_reducible repeat (first | apply Kd.R_alloc | apply Kd.R_drewN | apply Kd.R_drew)); exact HO379.out) hb); have n3_ := ak (Kd.R_below (by (with_reducible repeat (first | apply Kd.R_alloc | apply Kd.R_drewN | apply Kd.R_drew)); exact HO383.out) hb); have n4_ := ak (blk_below (g := gb376) (o := .cells #[.int .i64 t372, .slice Ao18 t373.length co18] 42 (0, 0)) d18_3 hb); have n5_ := ak (below_step d18_5 hb); have n6_ := ak (hbox); have n7_ := ak ((by rw [hg]; exact (below_size d18_5) : w.heap.size ≤ gb384)); have n8_ := ak ((by rw [hg]; exact (below_size d18_5) : w.heap.size ≤ gb384)); have n9_ := ak ((by rw [hg]; exact Nat.ne_of_lt (blk_lt (g := gb376) (o := .cells #[.int .i64 t372, .slice Ao18 t373.length co18] 42 (0, 0)) d18_3) : gb376 ≠ gb384)); have n10_ := ak ((by rw [hg]; exact Nat.ne_of_gt (blk_lt (g := gb376) (o := .cells #[.int .i64 t372, .slice Ao18 t373.length co18] 42 (0, 0)) d18_3) : gb384 ≠ gb376)); clear HO371 HO375 HO379 HO383 BK376 HB; have HO371 := n0_; have HO375 := n1_; have HO379 := n2_; have HO383 := n3_; have BK376 := n4_; have HB := n5_; have BK384 := n6_; have GW384 := n7_; have GE384 := n8_; have NB376_384 := n9_; have NB384_376 := n10_; clear n0_ n1_ n2_ n3_ n4_ n5_ n6_ n7_ n8_ n9_ n10_ hb hbox hg; have hnb23 := NB384_376.out; have hnc23 := NB376_384.out; have hcz24_0 : w22.cell? ⟨gb384, 0, none⟩ = some (.int .i64 0) := (blk_cell BK384.out 0).trans rfl; have hcz24_1 : w22.cell? ⟨gb384, 1, none⟩ = some (.slice none 0 0) := (blk_cell BK384.out 1).trans rfl; have hfz24_0 := blk_frozen BK384.out 0; have hfz24_1 := blk_frozen BK384.out 1; obtain ⟨Ao25, co25, eo25⟩ := Kd.R_slice HO383.out; subst eo25; have hcz26_0 : w22.cell? ⟨gb376, 0, none⟩ = some (.int .i64 t372) := (blk_cell BK376.out 0).trans rfl; have hcz26_1 : w22.cell? ⟨gb376, 1, none⟩ = some (.slice Ao18 t373.length co18) := (blk_cell BK376.out 1).trans rfl; have hfz26_0 := blk_frozen BK376.out 0; have hfz26_1 := blk_frozen BK376.out 1) | ((with_reducible refine gate_callee (f := 20) rfl ?_); refine goesL_ (some 29) rfl rfl Tryd.func20 (by kernel_rfl) rfl #[.agg #[.int .i64 t380, .slice Ao25 t381.length co25], .agg #[.int .i64 t372, .slice Ao18 t373.length co18]] rfl d18_2 ?_; (with_reducible refine (laws_eqIntsResult.calls kj3 t380 _ _ t381 t372 _ _ t373 t385 _ ?side1 ?side2 ?side3 ?side4 A11.out).mono ?_); (case side1 => refine (Kd.R_reads' (e := 2) (base := w.heap.size) (ok := fun k_ => (True ∧ some k_ ≠ (.slice Ao18 t373.length co18 : Value).ownBlock)) (n := t381.length) (c := co25) ?_).2.2; exact (by (with_reducible repeat (first | apply Kd.R_alloc | apply Kd.R_drewN | apply Kd.R_drew)); exact (Kd.R_mono (Kd.R_far (p := ⟨gb384, 1, none⟩) (Kd.R_far (p := ⟨gb384, 0, none⟩) (Kd.R_types HO383.out BK384.out (by decide)) (fun _ hk => hk.2) (.int .i64 t380)) (fun _ hk => hk.2) (.slice Ao25 t381.length co25)) (fun _ h_ => h_.1)))); (case side2 => exact (Kd.R_reads' HO383.out).2.1); (case side3 => refine (Kd.R_reads' (e := 2) (base := w.heap.size) (ok := fun k_ => (True ∧ some k_ ≠ (.slice Ao25 t381.length co25 : Value).ownBlock)) (n := t373.length) (c := co18) ?_).2.2; exact (by (with_reducible repeat (first | apply Kd.R_alloc | apply Kd.R_drewN | apply Kd.R_drew)); exact (Kd.R_mono (Kd.R_far (p := ⟨gb384, 1, none⟩) (Kd.R_far (p := ⟨gb384, 0, none⟩) (Kd.R_types HO375.out BK384.out (by decide)) (fun _ hk => hk.2) (.int .i64 t380)) (fun _ hk => hk.2) (.slice Ao25 t381.length co25)) (fun _ h_ => h_.1)))); (case side4 => exact (Kd.R_reads' HO375.out).2.1); rintro e w27 ⟨rfl, hb⟩; refine ⟨_, rfl, ?_⟩; have n0_ := ak (Kd.R_below (by (with_reducible repeat (first | apply Kd.R_alloc | apply Kd.R_drewN | apply Kd.R_drew)); exact (Kd.R_mono (Kd.R_far (p := ⟨gb384, 1, none⟩) (Kd.R_far (p := ⟨gb384, 0, none⟩) (Kd.R_types HO371.out BK384.out (by decide)) (fun _ hk => hk.2) (.int .i64 t380)) (fun _ hk => hk.2) (.slice Ao25 t381.length co25)) (fun _ h_ => h_.1))) hb); have n1_ := ak (Kd.R_below (by (with_reducible repeat (first | apply Kd.R_alloc | apply Kd.R_drewN | apply Kd.R_drew)); exact (Kd.R_mono (Kd.R_far (p := ⟨gb384, 1, none⟩) (Kd.R_far (p := ⟨gb384, 0, none⟩) (Kd.R_types HO375.out BK384.out (by decide)) (fun _ hk => hk.2) (.int .i64 t380)) (fun _ hk => hk.2) (.slice Ao25 t381.length co25)) (fun _ h_ => h_.1))) hb); have n2_ := ak (Kd.R_below (by (with_reducible repeat (first | apply Kd.R_alloc | apply Kd.R_drewN | apply Kd.R_drew)); exact (Kd.R_mono (Kd.R_far (p := ⟨gb384, 1, none⟩) (Kd.R_far (p := ⟨gb384, 0, none⟩) (Kd.R_types HO379.out BK384.out (by decide)) (fun _ hk => hk.2) (.int .i64 t380)) (fun _ hk => hk.2) (.slice Ao25 t381.length co25)) (fun _ h_ => h_.1))) hb); have n3_ := ak (Kd.R_below (by (with_reducible repeat (first | apply Kd.R_alloc | apply Kd.R_drewN | apply Kd.R_drew)); exact (Kd.R_mono (Kd.R_far (p := ⟨gb384, 1, none⟩) (Kd.R_far (p := ⟨gb384, 0, none⟩) (Kd.R_types HO383.out BK384.out (by decide)) (fun _ hk => hk.2) (.int .i64 t380)) (fun _ hk => hk.2) (.slice Ao25 t381.length co25)) (fun _ h_ => h_.1))) hb); have n4_ := ak (blk_below (g := gb376) (o := .cells #[.int .i64 t372, .slice Ao18 t373.length co18] 42 (0, 0)) (by (with_reducible repeat (first | refine blk_drewN ?_ _ | refine blk_drew ?_ | refine blk_alloc ?_ _)); refine blk_far ?_ NB376_384.out _; (with_reducible repeat (first | refine blk_drewN ?_ _ | refine blk_drew ?_ | refine blk_alloc ?_ _)); refine blk_far ?_ NB376_384.out _; (with_reducible repeat (first | refine blk_drewN ?_ _ | refine blk_drew ?_ | refine blk_alloc ?_ _)); exact BK376.out) hb); have n5_ := ak (blk_below (g := gb384) (o := .cells #[.int .i64 t380, .slice Ao25 t381.length co25] 42 (0, 0)) (by (with_reducible repeat (first | refine blk_drewN ?_ _ | refine blk_drew ?_ | refine blk_alloc ?_ _)); refine blk_put (cs := #[.int .i64 t380, .slice none 0 0]) ?_ 1 _ rfl; (with_reducible repeat (first | refine blk_drewN ?_ _ | refine blk_drew ?_ | refine blk_alloc ?_ _)); refine blk_put (cs := #[.int .i64 0, .slice none 0 0]) ?_ 0 _ rfl; (with_reducible repeat (first | refine blk_drewN ?_ _ | refine blk_drew ?_ | refine blk_alloc ?_ _)); exact BK384.out) hb); have n6_ := ak (below_step d18_1 hb); clear HO371 HO375 HO379 HO383 BK376 BK384 HB; have HO371 := n0_; have HO375 := n1_; have HO379 := n2_; have HO383 := n3_; have BK376 := n4_; have BK384 := n5_; have HB := n6_; clear n0_ n1_ n2_ n3_ n4_ n5_ n6_; (try clear hb); (try clear hk)))
    (try simp only [Act.put, List.setIfInBounds_toArray, List.set_cons_zero, List.set_cons_succ])
    go_cut [] (fun wc => ∃ (kq : Nat), Aside0 (laws_FnExactPartsOf.j1 kq l0 a1 t377 t372 t373 t380 t381 = some r) ∧ Aside0 (kq ≤ kj3) ∧ Aside0 (Kd.R k99 99 wc w.heap.size (fun _ => True) (.slice Ao20 t377.length co20) t377) ∧ Aside0 (Kd.R (Kd.int .i64) 2 wc w.heap.size (fun k_ => some k_ ≠ ((.slice Ao25 t381.length co25) : Value).ownBlock) (.slice Ao18 t373.length co18) t373) ∧ Aside0 (Kd.R (Kd.int .i64) 2 wc w.heap.size (fun k_ => some k_ ≠ ((.slice Ao18 t373.length co18) : Value).ownBlock) (.slice Ao25 t381.length co25) t381) ∧ Aside0 (wc.heap[gb376]? = some (.cells #[.int .i64 t372, (.slice Ao18 t373.length co18)] 42 (0, 0))) ∧ Aside0 (wc.heap[gb384]? = some (.cells #[.int .i64 t380, (.slice Ao25 t381.length co25)] 42 (0, 0))) ∧ Aside0 (Below w.heap.size w wc))
    case first =>
     have H := HC12.out
     clear HC12
     by_cases c28 : t385 = true
     ·subst c28
      have H1 : (laws_FnExactPartsOf.j1 kj3 l0 a1 t377 t372 t373 t380 t381) = some r := by rw [if_pos rfl] at H; exact H
      clear H
      have H := H1
      clear H1
      have H' := ak H
      clear H
      go_wp2
      go_meet
      case rel => exact ⟨_, H', ⟨by have := HJ3.out; first | omega | exact Nat.le_refl _⟩, ⟨by (with_reducible repeat (first | apply Kd.R_alloc | apply Kd.R_drewN | apply Kd.R_drew)); exact Kd.R_mono HO379.out (fun _ hk => trivial)⟩, ⟨by (with_reducible repeat (first | apply Kd.R_alloc | apply Kd.R_drewN | apply Kd.R_drew)); exact Kd.R_mono HO375.out (fun _ hk => hk.2)⟩, ⟨by (with_reducible repeat (first | apply Kd.R_alloc | apply Kd.R_drewN | apply Kd.R_drew)); exact Kd.R_mono HO383.out (fun _ hk => hk.2)⟩, ⟨by (with_reducible repeat (first | refine blk_drewN ?_ _ | refine blk_drew ?_ | refine blk_alloc ?_ _)); exact BK376.out⟩, ⟨by (with_reducible repeat (first | refine blk_drewN ?_ _ | refine blk_drew ?_ | refine blk_alloc ?_ _)); exact BK384.out⟩, ⟨by repeat (first | (with_reducible first | exact HB.out | apply below_alloc | apply pw_below_drewN | apply below_drew1 | refine below_set ?_ GE376.out | refine below_set ?_ GE384.out) | exact HB.out)⟩⟩
     ·replace c28 := Bool.eq_false_iff.mpr c28
      subst c28
      have H1 : (some false) = some r := by rw [if_neg (show ¬ (false = true) by decide)] at H; exact H
      clear H
      have H := H1
      clear H1
      obtain rfl := Option.some.inj H
      go_wp2
      go_ret
      exact ⟨by first | rfl | (simp [errW_none, errW_some] <;> rfl) | (simp [*, errW_none, errW_some] <;> rfl), by repeat (first | (with_reducible first | exact HB.out | apply below_alloc | apply pw_below_drewN | apply below_drew1 | refine below_set ?_ GE376.out | refine below_set ?_ GE384.out) | exact HB.out)⟩
    case rest =>
     clear HC12
     try clear c1
     try clear c2
     try clear p2
     try clear c4
     try clear c6
     try clear c6b0
     try clear c16
     try clear c17
     try clear c18
     try clear c19
     try clear c20
     try clear c23
     try clear hcz17_0
     try clear hcz17_1
     try clear hcz24_0
     try clear hcz24_1
     try clear hcz26_0
     try clear hcz26_1
     try clear hfz17_0
     try clear hfz17_1
     try clear hfz24_0
     try clear hfz24_1
     try clear hfz26_0
     try clear hfz26_1
     obtain ⟨kq, HA, HJ11, HO_7, HO_377001, HO_385001, BK376, BK384, HB⟩ := hcut
     cases kq with
     | zero => exact absurd HA.out (by simp [laws_FnExactPartsOf.j1])
     | succ kj11 =>
      have H := HA.out
      clear HA
      simp only [laws_FnExactPartsOf.j1] at H
      replace H := Option.bind_eq_some_iff.mp H
      obtain ⟨t386, A290, H⟩ := H
      replace H : ((laws_eqDatumS.f kj11 t377 t386).bind fun t389 => (if t389 = true then (laws_FnExactPartsOf.j2 kj11 l0 a1 t377 t372 t373 t380 t381) else (some false))) = some r := H
      have A29 := ak A290
      clear A290
      replace H := Option.bind_eq_some_iff.mp H
      obtain ⟨t389, A300, H⟩ := H
      replace H : (if t389 = true then (laws_FnExactPartsOf.j2 kj11 l0 a1 t377 t372 t373 t380 t381) else (some false)) = some r := H
      have A30 := ak A300
      clear A300
      have HC31 := ak H
      clear H
      go_upto_if 35 with (first | ((with_reducible refine gate_callee (f := 18) rfl ?_); refine goesL_ (some 33) rfl rfl Tryd.func18 (by kernel_rfl) rfl #[.slice A0 l0.length c0] rfl d18_2 ?_; (with_reducible refine (laws_toDatumS.calls kj11 _ _ l0 t386 _ ?side1 ?side2 A29.out).mono ?_); (case side1 => repeat (first | exact (Kd.C_below HR0.out HB.out) | (with_reducible refine Kd.C_alloc ?_ _) | (with_reducible refine Kd.C_drewN ?_ _) | (with_reducible refine Kd.C_drew ?_))); (case side2 => exact HC0.out); rintro e w32 ⟨v387, rfl, ho0, hb⟩; refine ⟨_, rfl, ?_⟩; have n0_ := ak (Kd.R_elder' (by (with_reducible repeat (first | apply Kd.R_alloc | apply Kd.R_drewN | apply Kd.R_drew)); exact HO_7.out) (Kd.R_base ho0) hb); have n1_ := ak (Kd.R_below d18_6 hb); have n2_ := ak (Kd.R_below d18_7 hb); have n3_ := ak (Kd.R_lower (Kd.R_new' ho0 (Kd.R_lt (by (with_reducible repeat (first | apply Kd.R_alloc | apply Kd.R_drewN | apply Kd.R_drew)); exact HO_7.out))) (below_size d18_1)); have n4_ := ak (blk_below (g := gb376) (o := .cells #[.int .i64 t372, .slice Ao18 t373.length co18] 42 (0, 0)) d18_3 hb); have n5_ := ak (blk_below (g := gb384) (o := .cells #[.int .i64 t380, .slice Ao25 t381.length co25] 42 (0, 0)) d18_4 hb); have n6_ := ak (below_step d18_1 hb); clear HO_7 HO_377001 HO_385001 BK376 BK384 HB; have HO_7 := n0_; have HO_377001 := n1_; have HO_385001 := n2_; have HO388 := n3_; have BK376 := n4_; have BK384 := n5_; have HB := n6_; clear n0_ n1_ n2_ n3_ n4_ n5_ n6_; (try clear hb); (try clear ho0); obtain ⟨Ao33, co33, eo33⟩ := Kd.R_slice HO388.out; subst eo33) | ((with_reducible refine gate_callee (f := 21) rfl ?_); refine goesL_ (some 34) rfl rfl Tryd.func21 (by kernel_rfl) rfl #[.slice Ao20 t377.length co20, .slice Ao33 t386.length co33] rfl d18_2 ?_; (with_reducible refine (laws_eqDatumS.calls kj11 _ _ t377 _ _ t386 t389 _ ?side1 ?side2 ?side3 ?side4 A30.out).mono ?_); (case side1 => repeat (first | exact (Kd.R_reads' HO_7.out).2.2 | (with_reducible refine Kd.C_alloc ?_ _) | (with_reducible refine Kd.C_drewN ?_ _) | (with_reducible refine Kd.C_drew ?_))); (case side2 => exact (Kd.R_reads' HO_7.out).2.1); (case side3 => repeat (first | exact (Kd.R_reads' HO388.out).2.2 | (with_reducible refine Kd.C_alloc ?_ _) | (with_reducible refine Kd.C_drewN ?_ _) | (with_reducible refine Kd.C_drew ?_))); (case side4 => exact (Kd.R_reads' HO388.out).2.1); rintro e w34 ⟨rfl, hb⟩; refine ⟨_, rfl, ?_⟩; have n0_ := ak (Kd.R_below (by (with_reducible repeat (first | apply Kd.R_alloc | apply Kd.R_drewN | apply Kd.R_drew)); exact HO_7.out) hb); have n1_ := ak (Kd.R_below d18_6 hb); have n2_ := ak (Kd.R_below d18_7 hb); have n3_ := ak (Kd.R_below (by (with_reducible repeat (first | apply Kd.R_alloc | apply Kd.R_drewN | apply Kd.R_drew)); exact HO388.out) hb); have n4_ := ak (blk_below (g := gb376) (o := .cells #[.int .i64 t372, .slice Ao18 t373.length co18] 42 (0, 0)) d18_3 hb); have n5_ := ak (blk_below (g := gb384) (o := .cells #[.int .i64 t380, .slice Ao25 t381.length co25] 42 (0, 0)) d18_4 hb); have n6_ := ak (below_step d18_1 hb); clear HO_7 HO_377001 HO_385001 HO388 BK376 BK384 HB; have HO_7 := n0_; have HO_377001 := n1_; have HO_385001 := n2_; have HO388 := n3_; have BK376 := n4_; have BK384 := n5_; have HB := n6_; clear n0_ n1_ n2_ n3_ n4_ n5_ n6_; (try clear hb)))
      (try simp only [Act.put, List.setIfInBounds_toArray, List.set_cons_zero, List.set_cons_succ])
      go_cut [] (fun wc => ∃ (kq : Nat), Aside0 (laws_FnExactPartsOf.j2 kq l0 a1 t377 t372 t373 t380 t381 = some r) ∧ Aside0 (kq ≤ kj11) ∧ Aside0 (Kd.R k99 99 wc w.heap.size (fun _ => True) (.slice Ao20 t377.length co20) t377) ∧ Aside0 (Kd.R (Kd.int .i64) 2 wc w.heap.size (fun k_ => some k_ ≠ ((.slice Ao25 t381.length co25) : Value).ownBlock) (.slice Ao18 t373.length co18) t373) ∧ Aside0 (Kd.R (Kd.int .i64) 2 wc w.heap.size (fun k_ => some k_ ≠ ((.slice Ao18 t373.length co18) : Value).ownBlock) (.slice Ao25 t381.length co25) t381) ∧ Aside0 (wc.heap[gb376]? = some (.cells #[.int .i64 t372, (.slice Ao18 t373.length co18)] 42 (0, 0))) ∧ Aside0 (wc.heap[gb384]? = some (.cells #[.int .i64 t380, (.slice Ao25 t381.length co25)] 42 (0, 0))) ∧ Aside0 (Below w.heap.size w wc))
      case first =>
       have H := HC31.out
       clear HC31
       by_cases c35 : t389 = true
       ·subst c35
        have H1 : (laws_FnExactPartsOf.j2 kj11 l0 a1 t377 t372 t373 t380 t381) = some r := by rw [if_pos rfl] at H; exact H
        clear H
        have H := H1
        clear H1
        have H' := ak H
        clear H
        go_wp2
        go_meet
        case rel => exact ⟨_, H', ⟨by have := HJ3.out; have := HJ11.out; first | omega | exact Nat.le_refl _⟩, ⟨by (with_reducible repeat (first | apply Kd.R_alloc | apply Kd.R_drewN | apply Kd.R_drew)); exact Kd.R_mono HO_7.out (fun _ hk => trivial)⟩, ⟨by (with_reducible repeat (first | apply Kd.R_alloc | apply Kd.R_drewN | apply Kd.R_drew)); exact HO_377001.out⟩, ⟨by (with_reducible repeat (first | apply Kd.R_alloc | apply Kd.R_drewN | apply Kd.R_drew)); exact HO_385001.out⟩, ⟨by (with_reducible repeat (first | refine blk_drewN ?_ _ | refine blk_drew ?_ | refine blk_alloc ?_ _)); exact BK376.out⟩, ⟨by (with_reducible repeat (first | refine blk_drewN ?_ _ | refine blk_drew ?_ | refine blk_alloc ?_ _)); exact BK384.out⟩, ⟨by repeat (first | (with_reducible first | exact HB.out | apply below_alloc | apply pw_below_drewN | apply below_drew1 | refine below_set ?_ GE376.out | refine below_set ?_ GE384.out) | exact HB.out)⟩⟩
       ·replace c35 := Bool.eq_false_iff.mpr c35
        subst c35
        have H1 : (some false) = some r := by rw [if_neg (show ¬ (false = true) by decide)] at H; exact H
        clear H
        have H := H1
        clear H1
        obtain rfl := Option.some.inj H
        go_wp2
        go_ret
        exact ⟨by first | rfl | (simp [errW_none, errW_some] <;> rfl) | (simp [*, errW_none, errW_some] <;> rfl), by repeat (first | (with_reducible first | exact HB.out | apply below_alloc | apply pw_below_drewN | apply below_drew1 | refine below_set ?_ GE376.out | refine below_set ?_ GE384.out) | exact HB.out)⟩
      case rest =>
       clear HC31
       try clear c1
       try clear c2
       try clear p2
       try clear c4
       try clear c6
       try clear c6b0
       try clear c16
       try clear c17
       try clear c18
       try clear c19
       try clear c20
       try clear c21
       try clear c23
       try clear c28
       try clear hcz17_0
       try clear hcz17_1
       try clear hcz24_0
       try clear hcz24_1
       try clear hcz26_0
       try clear hcz26_1
       try clear hfz17_0
       try clear hfz17_1
       try clear hfz24_0
       try clear hfz24_1
       try clear hfz26_0
       try clear hfz26_1
       try clear p2
       obtain ⟨kq, HA, HJ30, HO_7, HO_377001, HO_385001, BK376, BK384, HB⟩ := hcut
       cases kq with
       | zero => exact absurd HA.out (by simp [laws_FnExactPartsOf.j2])
       | succ kj30 =>
        have H := HA.out
        clear HA
        simp only [laws_FnExactPartsOf.j2] at H
        replace H := Option.bind_eq_some_iff.mp H
        obtain ⟨⟨t390, t391⟩, A360, H⟩ := H
        replace H : (if t390 < 0 then (laws_FnExactPartsOf.j3 kj30 l0 a1 true t372 t373 t380 t381) else ((laws_eqIntsResult.f kj30 t380 t381 t372 t373).bind fun t392 => (laws_FnExactPartsOf.j3 kj30 l0 a1 (!t392) t372 t373 t380 t381))) = some r := H
        have A36 := ak A360
        clear A360
        have HC37 := ak H
        clear H
        go_upto_region 14 with (first | ((with_reducible refine gate_callee (f := 22) rfl ?_); refine goesL_ (some 38) rfl rfl Tryd.func22 (by kernel_rfl) rfl #[.slice Ao20 t377.length co20, .int .i64 1] rfl d18_2 ?_; (with_reducible refine (laws_markDatumS.calls kj30 (fun k_ => some k_ = (.slice Ao20 t377.length co20 : Value).ownBlock) (.slice Ao20 t377.length co20) t377 1 t390 t391 w _ ?side1 ?side2 A36.out).mono ?_); (case side1 => repeat (first | (with_reducible first | exact HB.out | apply below_alloc | apply pw_below_drewN | apply below_drew1 | refine below_set ?_ GE376.out | refine below_set ?_ GE384.out) | exact HB.out)); (case side2 => exact Kd.R_tight rfl HO_7.out); rintro e w38 ⟨rfl, hy0, hb, hkp⟩; refine ⟨_, rfl, ?_⟩; have n0_ := ak (Kd.R_reok rfl hy0 (fun k_ e_ => HO_7.out.1 k_ e_)); have n1_ := ak (Kd.R_mono (ok' := fun k_ => some k_ ≠ (.slice Ao25 t381.length co25 : Value).ownBlock) (Kd.R_keptB ((Kd.R_apart' HO_377001.out (Kd.R_typed HO_7.out) (by decide))) hkp (fun k_ hk_ hs_ => (hk_.2) hs_)) (fun k_ hk_ => hk_.1.1)); have n2_ := ak (Kd.R_mono (ok' := fun k_ => some k_ ≠ (.slice Ao18 t373.length co18 : Value).ownBlock) (Kd.R_keptB ((Kd.R_apart' HO_385001.out (Kd.R_typed HO_7.out) (by decide))) hkp (fun k_ hk_ hs_ => (hk_.2) hs_)) (fun k_ hk_ => hk_.1.1)); have n3_ := ak (blk_kept d18_3 hkp (fun hs_ => (fun e_ => (Kd.R_ne HO_7.out BK376.out (by decide)) e_) hs_)); have n4_ := ak (blk_kept d18_4 hkp (fun hs_ => (fun e_ => (Kd.R_ne HO_7.out BK384.out (by decide)) e_) hs_)); have n5_ := ak (hb); clear HO_7 HO_377001 HO_385001 BK376 BK384 HB; have HO_7 := n0_; have HO_377001 := n1_; have HO_385001 := n2_; have BK376 := n3_; have BK384 := n4_; have HB := n5_; clear n0_ n1_ n2_ n3_ n4_ n5_; (try clear hb); (try clear hkp); (try clear hy0)))
        (try simp only [Act.put, List.setIfInBounds_toArray, List.set_cons_zero, List.set_cons_succ])
        go_cut [46] (fun v46 wc => ∃ (kq : Nat) (x46_36 : Bool), v46 = .bool x46_36 ∧ Aside0 (laws_FnExactPartsOf.j3 kq l0 a1 x46_36 t372 t373 t380 t381 = some r) ∧ Aside0 (kq ≤ kj30) ∧ Aside0 (Kd.R (Kd.int .i64) 2 wc w.heap.size (fun k_ => some k_ ≠ ((.slice Ao25 t381.length co25) : Value).ownBlock) (.slice Ao18 t373.length co18) t373) ∧ Aside0 (Kd.R (Kd.int .i64) 2 wc w.heap.size (fun k_ => some k_ ≠ ((.slice Ao18 t373.length co18) : Value).ownBlock) (.slice Ao25 t381.length co25) t381) ∧ Aside0 (wc.heap[gb376]? = some (.cells #[.int .i64 t372, (.slice Ao18 t373.length co18)] 42 (0, 0))) ∧ Aside0 (wc.heap[gb384]? = some (.cells #[.int .i64 t380, (.slice Ao25 t381.length co25)] 42 (0, 0))) ∧ Aside0 (Below w.heap.size w wc))
        case first =>
         have H := HC37.out
         clear HC37
         by_cases c39 : t390 < 0
         ·rw [if_pos c39] at H
          have c39b0 : decide (t390 < 0) = true := decide_eq_true c39
          clear c39
          (first | rw [c39b0] | (simp only [i64_w, i32_w]; rw [c39b0]) | skip)
          have H' := ak H
          clear H
          go_wp2
          go_meet
          case rel => exact ⟨_, (true), (by first | rfl | (simp; done) | (simp [*]; done) | (simp [ne_nil_b, eq_nil_b]; done)), H', ⟨by have := HJ3.out; have := HJ11.out; have := HJ30.out; first | omega | exact Nat.le_refl _⟩, ⟨by (with_reducible repeat (first | apply Kd.R_alloc | apply Kd.R_drewN | apply Kd.R_drew)); exact HO_377001.out⟩, ⟨by (with_reducible repeat (first | apply Kd.R_alloc | apply Kd.R_drewN | apply Kd.R_drew)); exact HO_385001.out⟩, ⟨by (with_reducible repeat (first | refine blk_drewN ?_ _ | refine blk_drew ?_ | refine blk_alloc ?_ _)); exact BK376.out⟩, ⟨by (with_reducible repeat (first | refine blk_drewN ?_ _ | refine blk_drew ?_ | refine blk_alloc ?_ _)); exact BK384.out⟩, ⟨by repeat (first | (with_reducible first | exact HB.out | apply below_alloc | apply pw_below_drewN | apply below_drew1 | refine below_set ?_ GE376.out | refine below_set ?_ GE384.out) | exact HB.out)⟩⟩
         ·rw [if_neg c39] at H
          have c39b0 : decide (t390 < 0) = false := decide_eq_false c39
          clear c39
          (first | rw [c39b0] | (simp only [i64_w, i32_w]; rw [c39b0]) | skip)
          replace H := Option.bind_eq_some_iff.mp H
          obtain ⟨t392, A400, H⟩ := H
          replace H : (laws_FnExactPartsOf.j3 kj30 l0 a1 (!t392) t372 t373 t380 t381) = some r := H
          have A40 := ak A400
          clear A400
          have H' := ak H
          clear H
          have hnb41 := NB384_376.out
          have hnc41 := NB376_384.out
          have hcz42_0 : w38.cell? ⟨gb384, 0, none⟩ = some (.int .i64 t380) := (blk_cell BK384.out 0).trans rfl
          have hcz42_1 : w38.cell? ⟨gb384, 1, none⟩ = some (.slice Ao25 t381.length co25) := (blk_cell BK384.out 1).trans rfl
          have hfz42_0 := blk_frozen BK384.out 0
          have hfz42_1 := blk_frozen BK384.out 1
          have hcz43_0 : w38.cell? ⟨gb376, 0, none⟩ = some (.int .i64 t372) := (blk_cell BK376.out 0).trans rfl
          have hcz43_1 : w38.cell? ⟨gb376, 1, none⟩ = some (.slice Ao18 t373.length co18) := (blk_cell BK376.out 1).trans rfl
          have hfz43_0 := blk_frozen BK376.out 0
          have hfz43_1 := blk_frozen BK376.out 1
          go_wp2_with (first | (go_at_call 20; (with_reducible refine (laws_eqIntsResult.calls kj30 t380 _ _ t381 t372 _ _ t373 t392 _ ?side1 ?side2 ?side3 ?side4 A40.out).mono ?_); (case side1 => repeat (first | exact (Kd.R_reads' HO_385001.out).2.2 | (with_reducible refine Kd.C_alloc ?_ _) | (with_reducible refine Kd.C_drewN ?_ _) | (with_reducible refine Kd.C_drew ?_))); (case side2 => exact (Kd.R_reads' HO_385001.out).2.1); (case side3 => repeat (first | exact (Kd.R_reads' HO_377001.out).2.2 | (with_reducible refine Kd.C_alloc ?_ _) | (with_reducible refine Kd.C_drewN ?_ _) | (with_reducible refine Kd.C_drew ?_))); (case side4 => exact (Kd.R_reads' HO_377001.out).2.1); rintro e w44 ⟨rfl, hb⟩; have n0_ := ak (Kd.R_below (by (with_reducible repeat (first | apply Kd.R_alloc | apply Kd.R_drewN | apply Kd.R_drew)); exact HO_7.out) hb); have n1_ := ak (Kd.R_below d18_6 hb); have n2_ := ak (Kd.R_below d18_7 hb); have n3_ := ak (blk_below (g := gb376) (o := .cells #[.int .i64 t372, .slice Ao18 t373.length co18] 42 (0, 0)) d18_3 hb); have n4_ := ak (blk_below (g := gb384) (o := .cells #[.int .i64 t380, .slice Ao25 t381.length co25] 42 (0, 0)) d18_4 hb); have n5_ := ak (below_step d18_1 hb); clear HO_7 HO_377001 HO_385001 BK376 BK384 HB; have HO_7 := n0_; have HO_377001 := n1_; have HO_385001 := n2_; have BK376 := n3_; have BK384 := n4_; have HB := n5_; clear n0_ n1_ n2_ n3_ n4_ n5_; (try clear hb)))
          go_meet
          case rel => exact ⟨_, (!t392), (by first | rfl | (simp; done) | (simp [*]; done) | (simp [ne_nil_b, eq_nil_b]; done)), H', ⟨by have := HJ3.out; have := HJ11.out; have := HJ30.out; first | omega | exact Nat.le_refl _⟩, ⟨by (with_reducible repeat (first | apply Kd.R_alloc | apply Kd.R_drewN | apply Kd.R_drew)); exact HO_377001.out⟩, ⟨by (with_reducible repeat (first | apply Kd.R_alloc | apply Kd.R_drewN | apply Kd.R_drew)); exact HO_385001.out⟩, ⟨by (with_reducible repeat (first | refine blk_drewN ?_ _ | refine blk_drew ?_ | refine blk_alloc ?_ _)); exact BK376.out⟩, ⟨by (with_reducible repeat (first | refine blk_drewN ?_ _ | refine blk_drew ?_ | refine blk_alloc ?_ _)); exact BK384.out⟩, ⟨by repeat (first | (with_reducible first | exact HB.out | apply below_alloc | apply pw_below_drewN | apply below_drew1 | refine below_set ?_ GE376.out | refine below_set ?_ GE384.out) | exact HB.out)⟩⟩
        case rest =>
         clear HC37
         try clear c1
         try clear c2
         try clear p2
         try clear c3
         try clear c4
         try clear c6
         try clear c6b0
         try clear c16
         try clear c17
         try clear c18
         try clear c19
         try clear c20
         try clear c21
         try clear c22
         try clear c23
         try clear c28
         try clear c35
         try clear hcz17_0
         try clear hcz17_1
         try clear hcz24_0
         try clear hcz24_1
         try clear hcz26_0
         try clear hcz26_1
         try clear hfz17_0
         try clear hfz17_1
         try clear hfz24_0
         try clear hfz24_1
         try clear hfz26_0
         try clear hfz26_1
         try clear p2
         obtain ⟨kq, x46_36, rfl, HA, HJ36, HO_377001, HO_385001, BK376, BK384, HB⟩ := hcut
         cases kq with
         | zero => exact absurd HA.out (by simp [laws_FnExactPartsOf.j3])
         | succ kj36 =>
          have H := HA.out
          clear HA
          simp only [laws_FnExactPartsOf.j3] at H
          have HC45 := ak H
          clear H
          go_upto_if 46 with (fail)
          go_cut [] (fun wc => ∃ (kq : Nat), Aside0 (laws_FnExactPartsOf.j4 kq l0 a1 t372 t373 t380 t381 = some r) ∧ Aside0 (kq ≤ kj36) ∧ Aside0 (Kd.R (Kd.int .i64) 2 wc w.heap.size (fun k_ => some k_ ≠ ((.slice Ao25 t381.length co25) : Value).ownBlock) (.slice Ao18 t373.length co18) t373) ∧ Aside0 (Kd.R (Kd.int .i64) 2 wc w.heap.size (fun k_ => some k_ ≠ ((.slice Ao18 t373.length co18) : Value).ownBlock) (.slice Ao25 t381.length co25) t381) ∧ Aside0 (wc.heap[gb376]? = some (.cells #[.int .i64 t372, (.slice Ao18 t373.length co18)] 42 (0, 0))) ∧ Aside0 (wc.heap[gb384]? = some (.cells #[.int .i64 t380, (.slice Ao25 t381.length co25)] 42 (0, 0))) ∧ Aside0 (Below w.heap.size w wc))
          case first =>
           have H := HC45.out
           clear HC45
           by_cases c46 : x46_36 = true
           ·subst c46
            have H1 : (some false) = some r := by rw [if_pos rfl] at H; exact H
            clear H
            have H := H1
            clear H1
            obtain rfl := Option.some.inj H
            go_wp2
            go_ret
            exact ⟨by first | rfl | (simp [errW_none, errW_some] <;> rfl) | (simp [*, errW_none, errW_some] <;> rfl), by repeat (first | (with_reducible first | exact HB.out | apply below_alloc | apply pw_below_drewN | apply below_drew1 | refine below_set ?_ GE376.out | refine below_set ?_ GE384.out) | exact HB.out)⟩
           ·replace c46 := Bool.eq_false_iff.mpr c46
            subst c46
            have H1 : (laws_FnExactPartsOf.j4 kj36 l0 a1 t372 t373 t380 t381) = some r := by rw [if_neg (show ¬ (false = true) by decide)] at H; exact H
            clear H
            have H := H1
            clear H1
            have H' := ak H
            clear H
            go_wp2
            go_meet
            case rel => exact ⟨_, H', ⟨by have := HJ3.out; have := HJ11.out; have := HJ30.out; have := HJ36.out; first | omega | exact Nat.le_refl _⟩, ⟨by (with_reducible repeat (first | apply Kd.R_alloc | apply Kd.R_drewN | apply Kd.R_drew)); exact HO_377001.out⟩, ⟨by (with_reducible repeat (first | apply Kd.R_alloc | apply Kd.R_drewN | apply Kd.R_drew)); exact HO_385001.out⟩, ⟨by (with_reducible repeat (first | refine blk_drewN ?_ _ | refine blk_drew ?_ | refine blk_alloc ?_ _)); exact BK376.out⟩, ⟨by (with_reducible repeat (first | refine blk_drewN ?_ _ | refine blk_drew ?_ | refine blk_alloc ?_ _)); exact BK384.out⟩, ⟨by repeat (first | (with_reducible first | exact HB.out | apply below_alloc | apply pw_below_drewN | apply below_drew1 | refine below_set ?_ GE376.out | refine below_set ?_ GE384.out) | exact HB.out)⟩⟩
          case rest =>
           clear HC45
           try clear c1
           try clear c2
           try clear p2
           try clear c3
           try clear c4
           try clear c6
           try clear c6b0
           try clear c16
           try clear c17
           try clear c18
           try clear c19
           try clear c20
           try clear c21
           try clear c22
           try clear c23
           try clear c28
           try clear c35
           try clear c39
           try clear c39b0
           try clear c41
           try clear hcz17_0
           try clear hcz17_1
           try clear hcz24_0
           try clear hcz24_1
           try clear hcz26_0
           try clear hcz26_1
           try clear hcz42_0
           try clear hcz42_1
           try clear hcz43_0
           try clear hcz43_1
           try clear hfz17_0
           try clear hfz17_1
           try clear hfz24_0
           try clear hfz24_1
           try clear hfz26_0
           try clear hfz26_1
           try clear hfz42_0
           try clear hfz42_1
           try clear hfz43_0
           try clear hfz43_1
           try clear p2
           obtain ⟨kq, HA, HJ44, HO_377001, HO_385001, BK376, BK384, HB⟩ := hcut
           cases kq with
           | zero => exact absurd HA.out (by simp [laws_FnExactPartsOf.j4])
           | succ kj44 =>
            have H := HA.out
            clear HA
            simp only [laws_FnExactPartsOf.j4] at H
            replace H := Option.bind_eq_some_iff.mp H
            obtain ⟨⟨t393, t394⟩, A470, H⟩ := H
            replace H : ((laws_heldIntsResult.f kj44 t380 t394 1).bind fun t395 => (if t395 < 0 then (some false) else (laws_FnExactPartsOf.j5 kj44 l0 a1 t393 t395 t372 t373 t380 t394))) = some r := H
            have A47 := ak A470
            clear A470
            replace H := Option.bind_eq_some_iff.mp H
            obtain ⟨t395, A480, H⟩ := H
            replace H : (if t395 < 0 then (some false) else (laws_FnExactPartsOf.j5 kj44 l0 a1 t393 t395 t372 t373 t380 t394)) = some r := H
            have A48 := ak A480
            clear A480
            have HC49 := ak H
            clear H
            have hnb50 := NB384_376.out
            have hnc50 := NB376_384.out
            have hcz51_0 : wc.cell? ⟨gb384, 0, none⟩ = some (.int .i64 t380) := (blk_cell BK384.out 0).trans rfl
            have hcz51_1 : wc.cell? ⟨gb384, 1, none⟩ = some (.slice Ao25 t381.length co25) := (blk_cell BK384.out 1).trans rfl
            have hfz51_0 := blk_frozen BK384.out 0
            have hfz51_1 := blk_frozen BK384.out 1
            go_upto_if 54 with (first | ((with_reducible refine gate_callee (f := 23) rfl ?_); refine goesL_ (some 49) rfl rfl Tryd.func23 (by kernel_rfl) rfl #[.agg #[.int .i64 t380, .slice Ao25 t381.length co25], .int .i64 1] rfl d18_2 ?_; (with_reducible refine (laws_markIntsResult.calls kj44 t380 (fun k_ => some k_ = (.slice Ao25 t381.length co25 : Value).ownBlock) (.slice Ao25 t381.length co25) t381 1 t393 t394 w _ ?side1 ?side2 A47.out).mono ?_); (case side1 => repeat (first | (with_reducible first | exact HB.out | apply below_alloc | apply pw_below_drewN | apply below_drew1 | refine below_set ?_ GE376.out | refine below_set ?_ GE384.out) | exact HB.out)); (case side2 => exact Kd.R_tight rfl HO_385001.out); rintro e w52 ⟨rfl, hy0, hb, hkp⟩; refine ⟨_, rfl, ?_⟩; have n0_ := ak (Kd.R_mono (ok' := fun k_ => some k_ ≠ (.slice Ao25 t381.length co25 : Value).ownBlock) (Kd.R_keptB (HO_377001.out) hkp (fun k_ hk_ hs_ => (hk_) hs_)) (fun k_ hk_ => hk_.1)); have n1_ := ak (Kd.R_reok rfl hy0 (fun k_ e_ => HO_385001.out.1 k_ e_)); have n2_ := ak (blk_kept d18_3 hkp (fun hs_ => (fun e_ => (Kd.R_ne HO_385001.out BK376.out (by decide)) e_) hs_)); have n3_ := ak (blk_kept d18_4 hkp (fun hs_ => (fun e_ => (Kd.R_ne HO_385001.out BK384.out (by decide)) e_) hs_)); have n4_ := ak (hb); clear HO_377001 HO_385001 BK376 BK384 HB; have HO_377001 := n0_; have HO_385001 := n1_; have BK376 := n2_; have BK384 := n3_; have HB := n4_; clear n0_ n1_ n2_ n3_ n4_; (try clear hb); (try clear hkp); (try clear hy0); have hcz53_0 : w52.cell? ⟨gb384, 0, none⟩ = some (.int .i64 t380) := (blk_cell BK384.out 0).trans rfl; have hcz53_1 : w52.cell? ⟨gb384, 1, none⟩ = some (.slice Ao25 t381.length co25) := (blk_cell BK384.out 1).trans rfl; have hfz53_0 := blk_frozen BK384.out 0; have hfz53_1 := blk_frozen BK384.out 1) | ((with_reducible refine gate_callee (f := 24) rfl ?_); refine goesL_ (some 52) rfl rfl Tryd.func24 (by kernel_rfl) rfl #[.agg #[.int .i64 t380, .slice Ao25 t394.length co25], .int .i64 1] rfl (by (try simp only [List.map_toArray, List.map_cons, List.map_nil]); first | done | (rw [show t394.length = t381.length from (Kd.R_reads' HO_385001.out).1.symm] <;> rfl) | rfl | (simp only [List.length_drop, List.length_take]; rfl)) ?_; (with_reducible refine (laws_heldIntsResult.calls kj44 t380 _ _ t394 1 t395 _ ?side1 ?side2 A48.out).mono ?_); (case side1 => repeat (first | exact (Kd.R_reads' HO_385001.out).2.2 | (with_reducible refine Kd.C_alloc ?_ _) | (with_reducible refine Kd.C_drewN ?_ _) | (with_reducible refine Kd.C_drew ?_))); (case side2 => rw [show t394.length = t381.length from (Kd.R_reads' HO_385001.out).1.symm]; exact (Kd.R_reads' HO_385001.out).2.1); rintro e w54 ⟨rfl, hb⟩; refine ⟨_, rfl, ?_⟩; have n0_ := ak (Kd.R_below d18_6 hb); have n1_ := ak (Kd.R_below d18_7 hb); have n2_ := ak (blk_below (g := gb376) (o := .cells #[.int .i64 t372, .slice Ao18 t373.length co18] 42 (0, 0)) d18_3 hb); have n3_ := ak (blk_below (g := gb384) (o := .cells #[.int .i64 t380, .slice Ao25 t381.length co25] 42 (0, 0)) d18_4 hb); have n4_ := ak (below_step d18_1 hb); clear HO_377001 HO_385001 BK376 BK384 HB; have HO_377001 := n0_; have HO_385001 := n1_; have BK376 := n2_; have BK384 := n3_; have HB := n4_; clear n0_ n1_ n2_ n3_ n4_; (try clear hb)))
            (try simp only [Act.put, List.setIfInBounds_toArray, List.set_cons_zero, List.set_cons_succ])
            go_cut [] (fun wc => ∃ (kq : Nat), Aside0 (laws_FnExactPartsOf.j5 kq l0 a1 t393 t395 t372 t373 t380 t394 = some r) ∧ Aside0 (kq ≤ kj44) ∧ Aside0 (Kd.R (Kd.int .i64) 2 wc w.heap.size (fun k_ => some k_ ≠ ((.slice Ao25 t381.length co25) : Value).ownBlock) (.slice Ao18 t373.length co18) t373) ∧ Aside0 (Kd.R (Kd.int .i64) 2 wc w.heap.size (fun k_ => some k_ ≠ ((.slice Ao18 t373.length co18) : Value).ownBlock) (.slice Ao25 t381.length co25) t394) ∧ Aside0 (wc.heap[gb376]? = some (.cells #[.int .i64 t372, (.slice Ao18 t373.length co18)] 42 (0, 0))) ∧ Aside0 (wc.heap[gb384]? = some (.cells #[.int .i64 t380, (.slice Ao25 t381.length co25)] 42 (0, 0))) ∧ Aside0 (Below w.heap.size w wc))
            case first =>
             have H := HC49.out
             clear HC49
             by_cases c55 : t395 < 0
             ·rw [if_pos c55] at H
              have c55b0 : decide (t395 < 0) = true := decide_eq_true c55
              clear c55
              (first | rw [c55b0] | (simp only [i64_w, i32_w]; rw [c55b0]) | skip)
              obtain rfl := Option.some.inj H
              go_wp2
              go_ret
              exact ⟨by first | rfl | (simp [errW_none, errW_some] <;> rfl) | (simp [*, errW_none, errW_some] <;> rfl), by repeat (first | (with_reducible first | exact HB.out | apply below_alloc | apply pw_below_drewN | apply below_drew1 | refine below_set ?_ GE376.out | refine below_set ?_ GE384.out) | exact HB.out)⟩
             ·rw [if_neg c55] at H
              have c55b0 : decide (t395 < 0) = false := decide_eq_false c55
              clear c55
              (first | rw [c55b0] | (simp only [i64_w, i32_w]; rw [c55b0]) | skip)
              have H' := ak H
              clear H
              go_wp2
              go_meet
              case rel => exact ⟨_, H', ⟨by have := HJ3.out; have := HJ11.out; have := HJ30.out; have := HJ36.out; have := HJ44.out; first | omega | exact Nat.le_refl _⟩, ⟨by (with_reducible repeat (first | apply Kd.R_alloc | apply Kd.R_drewN | apply Kd.R_drew)); exact HO_377001.out⟩, ⟨by (with_reducible repeat (first | apply Kd.R_alloc | apply Kd.R_drewN | apply Kd.R_drew)); exact HO_385001.out⟩, ⟨by (with_reducible repeat (first | refine blk_drewN ?_ _ | refine blk_drew ?_ | refine blk_alloc ?_ _)); exact BK376.out⟩, ⟨by (with_reducible repeat (first | refine blk_drewN ?_ _ | refine blk_drew ?_ | refine blk_alloc ?_ _)); exact BK384.out⟩, ⟨by repeat (first | (with_reducible first | exact HB.out | apply below_alloc | apply pw_below_drewN | apply below_drew1 | refine below_set ?_ GE376.out | refine below_set ?_ GE384.out) | exact HB.out)⟩⟩
            case rest =>
             clear HC49
             try clear c1
             try clear c2
             try clear p2
             try clear c3
             try clear c4
             try clear c5
             try clear c6
             try clear c6b0
             try clear c16
             try clear c17
             try clear c18
             try clear c19
             try clear c20
             try clear c21
             try clear c22
             try clear c23
             try clear c24
             try clear c28
             try clear c35
             try clear c39
             try clear c39b0
             try clear c41
             try clear c46
             try clear c50
             try clear hcz17_0
             try clear hcz17_1
             try clear hcz24_0
             try clear hcz24_1
             try clear hcz26_0
             try clear hcz26_1
             try clear hcz42_0
             try clear hcz42_1
             try clear hcz43_0
             try clear hcz43_1
             try clear hcz51_0
             try clear hcz51_1
             try clear hcz53_0
             try clear hcz53_1
             try clear hfz17_0
             try clear hfz17_1
             try clear hfz24_0
             try clear hfz24_1
             try clear hfz26_0
             try clear hfz26_1
             try clear hfz42_0
             try clear hfz42_1
             try clear hfz43_0
             try clear hfz43_1
             try clear hfz51_0
             try clear hfz51_1
             try clear hfz53_0
             try clear hfz53_1
             try clear p2
             obtain ⟨kq, HA, HJ48, HO_377001, HO_385001, BK376, BK384, HB⟩ := hcut
             have hl385001_48 := (Kd.R_reads' HO_385001.out).1
             rw [hl385001_48] at HO_385001
             (try simp only [hl385001_48])
             (try simp only [hl385001_48] at BK376)
             (try simp only [hl385001_48] at BK384)
             (try simp only [hl385001_48] at HO_377001)
             cases kq with
             | zero => exact absurd HA.out (by simp [laws_FnExactPartsOf.j5])
             | succ kj48 =>
              have H := HA.out
              clear HA
              simp only [laws_FnExactPartsOf.j5] at H
              have HC56 := ak H
              clear H
              go_upto_if 57 with (fail)
              go_cut [] (fun wc => ∃ (kq : Nat), Aside0 (laws_FnExactPartsOf.j6 kq l0 a1 t393 t372 t373 t380 t394 = some r) ∧ Aside0 (kq ≤ kj48) ∧ Aside0 (Kd.R (Kd.int .i64) 2 wc w.heap.size (fun k_ => some k_ ≠ ((.slice Ao25 t394.length co25) : Value).ownBlock) (.slice Ao18 t373.length co18) t373) ∧ Aside0 (Kd.R (Kd.int .i64) 2 wc w.heap.size (fun k_ => some k_ ≠ ((.slice Ao18 t373.length co18) : Value).ownBlock) (.slice Ao25 t394.length co25) t394) ∧ Aside0 (wc.heap[gb376]? = some (.cells #[.int .i64 t372, (.slice Ao18 t373.length co18)] 42 (0, 0))) ∧ Aside0 (wc.heap[gb384]? = some (.cells #[.int .i64 t380, (.slice Ao25 t394.length co25)] 42 (0, 0))) ∧ Aside0 (Below w.heap.size w wc))
              case first =>
               have H := HC56.out
               clear HC56
               by_cases c57 : t395 = t393
               ·rw [if_pos c57] at H
                have c57b0 : (t395 == t393) = true := beq_iff_eq.mpr c57
                have c57b1 : (t395 != t393) = false := bne_eq_false_iff_eq.mpr c57
                clear c57
                (first | rw [c57b0] | (simp only [i64_w, i32_w]; rw [c57b0]) | skip)
                have H' := ak H
                clear H
                go_wp2
                go_meet
                case rel => exact ⟨_, H', ⟨by have := HJ3.out; have := HJ11.out; have := HJ30.out; have := HJ36.out; have := HJ44.out; have := HJ48.out; first | omega | exact Nat.le_refl _⟩, ⟨by (try simp only [hl385001_48]); (with_reducible repeat (first | apply Kd.R_alloc | apply Kd.R_drewN | apply Kd.R_drew)); exact HO_377001.out⟩, ⟨by (try simp only [hl385001_48]); (with_reducible repeat (first | apply Kd.R_alloc | apply Kd.R_drewN | apply Kd.R_drew)); exact HO_385001.out⟩, ⟨by (try simp only [hl385001_48]); (with_reducible repeat (first | refine blk_drewN ?_ _ | refine blk_drew ?_ | refine blk_alloc ?_ _)); exact BK376.out⟩, ⟨by (try simp only [hl385001_48]); (with_reducible repeat (first | refine blk_drewN ?_ _ | refine blk_drew ?_ | refine blk_alloc ?_ _)); exact BK384.out⟩, ⟨by repeat (first | (with_reducible first | exact HB.out | apply below_alloc | apply pw_below_drewN | apply below_drew1 | refine below_set ?_ GE376.out | refine below_set ?_ GE384.out) | exact HB.out)⟩⟩
               ·rw [if_neg c57] at H
                have c57b0 : (t395 == t393) = false := beq_eq_false_iff_ne.mpr c57
                have c57b1 : (t395 != t393) = true := bne_iff_ne.mpr c57
                (first | rw [c57b0] | (simp only [i64_w, i32_w]; rw [c57b0]) | skip)
                obtain rfl := Option.some.inj H
                go_wp2
                go_ret
                exact ⟨by first | rfl | (simp [errW_none, errW_some] <;> rfl) | (simp [*, errW_none, errW_some] <;> rfl), by repeat (first | (with_reducible first | exact HB.out | apply below_alloc | apply pw_below_drewN | apply below_drew1 | refine below_set ?_ GE376.out | refine below_set ?_ GE384.out) | exact HB.out)⟩
              case rest =>
               clear HC56
               try clear c1
               try clear c2
               try clear p2
               try clear c3
               try clear c4
               try clear c5
               try clear c6
               try clear c6b0
               try clear c16
               try clear c17
               try clear c18
               try clear c19
               try clear c20
               try clear c21
               try clear c22
               try clear c23
               try clear c24
               try clear c28
               try clear c35
               try clear c39
               try clear c39b0
               try clear c41
               try clear c46
               try clear c50
               try clear c55
               try clear c55b0
               try clear hcz17_0
               try clear hcz17_1
               try clear hcz24_0
               try clear hcz24_1
               try clear hcz26_0
               try clear hcz26_1
               try clear hcz42_0
               try clear hcz42_1
               try clear hcz43_0
               try clear hcz43_1
               try clear hcz51_0
               try clear hcz51_1
               try clear hcz53_0
               try clear hcz53_1
               try clear hfz17_0
               try clear hfz17_1
               try clear hfz24_0
               try clear hfz24_1
               try clear hfz26_0
               try clear hfz26_1
               try clear hfz42_0
               try clear hfz42_1
               try clear hfz43_0
               try clear hfz43_1
               try clear hfz51_0
               try clear hfz51_1
               try clear hfz53_0
               try clear hfz53_1
               try clear p2
               obtain ⟨kq, HA, HJ55, HO_377001, HO_385001, BK376, BK384, HB⟩ := hcut
               cases kq with
               | zero => exact absurd HA.out (by simp [laws_FnExactPartsOf.j6])
               | succ kj55 =>
                have H := HA.out
                clear HA
                simp only [laws_FnExactPartsOf.j6] at H
                replace H := Option.bind_eq_some_iff.mp H
                obtain ⟨t396, A580, H⟩ := H
                replace H : ((impl_PartsOf.f kj55 t396 a1).bind fun bt399 => ((laws_eqIntsResult.f kj55 bt399.1 bt399.2 t372 t373).bind fun t404 => (if t404 = true then (laws_FnExactPartsOf.j7 kj55 t393 t380 t394) else (some false)))) = some r := H
                have A58 := ak A580
                clear A580
                replace H := Option.bind_eq_some_iff.mp H
                obtain ⟨⟨t399, t400⟩, A590, H⟩ := H
                replace H : ((laws_eqIntsResult.f kj55 t399 t400 t372 t373).bind fun t404 => (if t404 = true then (laws_FnExactPartsOf.j7 kj55 t393 t380 t394) else (some false))) = some r := H
                have A59 := ak A590
                clear A590
                replace H := Option.bind_eq_some_iff.mp H
                obtain ⟨t404, A600, H⟩ := H
                replace H : (if t404 = true then (laws_FnExactPartsOf.j7 kj55 t393 t380 t394) else (some false)) = some r := H
                have A60 := ak A600
                clear A600
                have HC61 := ak H
                clear H
                go_upto_if 65 with (first | ((with_reducible refine gate_callee (f := 18) rfl ?_); refine goesL_ (some 59) rfl rfl Tryd.func18 (by kernel_rfl) rfl #[.slice A0 l0.length c0] rfl d18_2 ?_; (with_reducible refine (laws_toDatumS.calls kj55 _ _ l0 t396 _ ?side1 ?side2 A58.out).mono ?_); (case side1 => repeat (first | exact (Kd.C_below HR0.out HB.out) | (with_reducible refine Kd.C_alloc ?_ _) | (with_reducible refine Kd.C_drewN ?_ _) | (with_reducible refine Kd.C_drew ?_))); (case side2 => exact HC0.out); rintro e w62 ⟨v397, rfl, ho0, hb⟩; refine ⟨_, rfl, ?_⟩; have n0_ := ak (Kd.R_below d18_6 hb); have n1_ := ak (Kd.R_below d18_7 hb); have n2_ := ak (Kd.R_lower ho0 (below_size d18_1)); have n3_ := ak (blk_below (g := gb376) (o := .cells #[.int .i64 t372, .slice Ao18 t373.length co18] 42 (0, 0)) d18_3 hb); have n4_ := ak (blk_below (g := gb384) (o := .cells #[.int .i64 t380, .slice Ao25 t394.length co25] 42 (0, 0)) d18_4 hb); have n5_ := ak (below_step d18_1 hb); clear HO_377001 HO_385001 BK376 BK384 HB; have HO_377001 := n0_; have HO_385001 := n1_; have HO398 := n2_; have BK376 := n3_; have BK384 := n4_; have HB := n5_; clear n0_ n1_ n2_ n3_ n4_ n5_; (try clear hb); (try clear hk); (try clear ho0); obtain ⟨Ao63, co63, eo63⟩ := Kd.R_slice HO398.out; subst eo63) | ((with_reducible refine gate_callee (f := 19) rfl ?_); refine goesL_ (some 61) rfl rfl Tryd.func19 (by kernel_rfl) rfl #[.slice Ao63 t396.length co63, .int .i64 a1] rfl d18_2 ?_; (with_reducible refine (impl_PartsOf.calls kj55 _ _ t396 a1 t399 t400 _ ?side1 ?side2 A59.out).mono ?_); (case side1 => repeat (first | exact (Kd.R_reads' HO398.out).2.2 | (with_reducible refine Kd.C_alloc ?_ _) | (with_reducible refine Kd.C_drewN ?_ _) | (with_reducible refine Kd.C_drew ?_))); (case side2 => exact (Kd.R_reads' HO398.out).2.1); rintro e w64 ⟨v401, rfl, ho0, hb⟩; refine ⟨_, rfl, ?_⟩; have n0_ := ak (Kd.R_elder' d18_6 (Kd.R_base ho0) hb); have n1_ := ak (Kd.R_elder' d18_7 (Kd.R_base ho0) hb); have n2_ := ak (Kd.R_below (by (with_reducible repeat (first | apply Kd.R_alloc | apply Kd.R_drewN | apply Kd.R_drew)); exact HO398.out) hb); have n3_ := ak (Kd.R_lower (Kd.R_new' (Kd.R_new' ho0 (Kd.R_lt d18_6)) (Kd.R_lt d18_7)) (below_size d18_1)); have n4_ := ak (blk_below (g := gb376) (o := .cells #[.int .i64 t372, .slice Ao18 t373.length co18] 42 (0, 0)) d18_3 hb); have n5_ := ak (blk_below (g := gb384) (o := .cells #[.int .i64 t380, .slice Ao25 t394.length co25] 42 (0, 0)) d18_4 hb); have n6_ := ak (below_step d18_1 hb); clear HO_377001 HO_385001 HO398 BK376 BK384 HB; have HO_377001 := n0_; have HO_385001 := n1_; have HO398 := n2_; have HO402 := n3_; have BK376 := n4_; have BK384 := n5_; have HB := n6_; clear n0_ n1_ n2_ n3_ n4_ n5_ n6_; (try clear hb); (try clear hk); (try clear ho0)) | ((with_reducible refine gate_dst (N := 12) rfl ?_); refine box_event ?hg (N := 12) ?hd (cs := #[.int .i64 0, .slice none 0 0]) (t := 42) ?hr ?_; (case hd => rfl); (case hg => rfl); (case hr => first | (go_simp; done) | (go_simp; rfl)); intro gb403 hg w65 hbox hb; have n0_ := ak (Kd.R_below d18_6 hb); have n1_ := ak (Kd.R_below d18_7 hb); have n2_ := ak (Kd.R_below (by (with_reducible repeat (first | apply Kd.R_alloc | apply Kd.R_drewN | apply Kd.R_drew)); exact HO398.out) hb); have n3_ := ak (Kd.R_below (by (with_reducible repeat (first | apply Kd.R_alloc | apply Kd.R_drewN | apply Kd.R_drew)); exact HO402.out) hb); have n4_ := ak (blk_below (g := gb376) (o := .cells #[.int .i64 t372, .slice Ao18 t373.length co18] 42 (0, 0)) d18_3 hb); have n5_ := ak (blk_below (g := gb384) (o := .cells #[.int .i64 t380, .slice Ao25 t394.length co25] 42 (0, 0)) d18_4 hb); have n6_ := ak (below_step d18_1 hb); have n7_ := ak (hbox); have n8_ := ak ((by rw [hg]; exact (below_size d18_1) : w.heap.size ≤ gb403)); have n9_ := ak ((by rw [hg]; exact (below_size d18_1) : w.heap.size ≤ gb403)); have n10_ := ak ((by rw [hg]; exact Nat.ne_of_lt (blk_lt (g := gb376) (o := .cells #[.int .i64 t372, .slice Ao18 t373.length co18] 42 (0, 0)) d18_3) : gb376 ≠ gb403)); have n11_ := ak ((by rw [hg]; exact Nat.ne_of_gt (blk_lt (g := gb376) (o := .cells #[.int .i64 t372, .slice Ao18 t373.length co18] 42 (0, 0)) d18_3) : gb403 ≠ gb376)); have n12_ := ak ((by rw [hg]; exact Nat.ne_of_lt (blk_lt (g := gb384) (o := .cells #[.int .i64 t380, .slice Ao25 t394.length co25] 42 (0, 0)) d18_4) : gb384 ≠ gb403)); have n13_ := ak ((by rw [hg]; exact Nat.ne_of_gt (blk_lt (g := gb384) (o := .cells #[.int .i64 t380, .slice Ao25 t394.length co25] 42 (0, 0)) d18_4) : gb403 ≠ gb384)); clear HO_377001 HO_385001 HO398 HO402 BK376 BK384 HB; have HO_377001 := n0_; have HO_385001 := n1_; have HO398 := n2_; have HO402 := n3_; have BK376 := n4_; have BK384 := n5_; have HB := n6_; have BK403 := n7_; have GW403 := n8_; have GE403 := n9_; have NB376_403 := n10_; have NB403_376 := n11_; have NB384_403 := n12_; have NB403_384 := n13_; clear n0_ n1_ n2_ n3_ n4_ n5_ n6_ n7_ n8_ n9_ n10_ n11_ n12_ n13_ hb hbox hg; have hnb66 := NB403_376.out; have hnc66 := NB376_403.out; have hnb67 := NB403_384.out; have hnc67 := NB384_403.out; have hcz68_0 : w65.cell? ⟨gb403, 0, none⟩ = some (.int .i64 0) := (blk_cell BK403.out 0).trans rfl; have hcz68_1 : w65.cell? ⟨gb403, 1, none⟩ = some (.slice none 0 0) := (blk_cell BK403.out 1).trans rfl; have hfz68_0 := blk_frozen BK403.out 0; have hfz68_1 := blk_frozen BK403.out 1; obtain ⟨Ao69, co69, eo69⟩ := Kd.R_slice HO402.out; subst eo69; have hnb70 := NB376_384.out; have hnc70 := NB384_376.out; have hcz71_0 : w65.cell? ⟨gb376, 0, none⟩ = some (.int .i64 t372) := (blk_cell BK376.out 0).trans rfl; have hcz71_1 : w65.cell? ⟨gb376, 1, none⟩ = some (.slice Ao18 t373.length co18) := (blk_cell BK376.out 1).trans rfl; have hfz71_0 := blk_frozen BK376.out 0; have hfz71_1 := blk_frozen BK376.out 1) | ((with_reducible refine gate_callee (f := 20) rfl ?_); refine goesL_ (some 64) rfl rfl Tryd.func20 (by kernel_rfl) rfl #[.agg #[.int .i64 t399, .slice Ao69 t400.length co69], .agg #[.int .i64 t372, .slice Ao18 t373.length co18]] rfl d18_2 ?_; (with_reducible refine (laws_eqIntsResult.calls kj55 t399 _ _ t400 t372 _ _ t373 t404 _ ?side1 ?side2 ?side3 ?side4 A60.out).mono ?_); (case side1 => refine (Kd.R_reads' (e := 2) (base := w.heap.size) (ok := fun k_ => ((True ∧ some k_ ≠ (.slice Ao18 t373.length co18 : Value).ownBlock) ∧ some k_ ≠ (.slice Ao25 t394.length co25 : Value).ownBlock)) (n := t400.length) (c := co69) ?_).2.2; exact (by (with_reducible repeat (first | apply Kd.R_alloc | apply Kd.R_drewN | apply Kd.R_drew)); exact (Kd.R_mono (Kd.R_far (p := ⟨gb403, 1, none⟩) (Kd.R_far (p := ⟨gb403, 0, none⟩) (Kd.R_types HO402.out BK403.out (by decide)) (fun _ hk => hk.2) (.int .i64 t399)) (fun _ hk => hk.2) (.slice Ao69 t400.length co69)) (fun _ h_ => h_.1)))); (case side2 => exact (Kd.R_reads' HO402.out).2.1); (case side3 => refine (Kd.R_reads' (e := 2) (base := w.heap.size) (ok := fun k_ => (some k_ ≠ (.slice Ao25 t394.length co25 : Value).ownBlock ∧ some k_ ≠ (.slice Ao69 t400.length co69 : Value).ownBlock)) (n := t373.length) (c := co18) ?_).2.2; exact (by (with_reducible repeat (first | apply Kd.R_alloc | apply Kd.R_drewN | apply Kd.R_drew)); exact (Kd.R_mono (Kd.R_far (p := ⟨gb403, 1, none⟩) (Kd.R_far (p := ⟨gb403, 0, none⟩) (Kd.R_types HO_377001.out BK403.out (by decide)) (fun _ hk => hk.2) (.int .i64 t399)) (fun _ hk => hk.2) (.slice Ao69 t400.length co69)) (fun _ h_ => h_.1)))); (case side4 => exact (Kd.R_reads' HO_377001.out).2.1); rintro e w72 ⟨rfl, hb⟩; refine ⟨_, rfl, ?_⟩; have n0_ := ak (Kd.R_below (by (with_reducible repeat (first | apply Kd.R_alloc | apply Kd.R_drewN | apply Kd.R_drew)); exact (Kd.R_mono (Kd.R_far (p := ⟨gb403, 1, none⟩) (Kd.R_far (p := ⟨gb403, 0, none⟩) (Kd.R_types HO_377001.out BK403.out (by decide)) (fun _ hk => hk.2) (.int .i64 t399)) (fun _ hk => hk.2) (.slice Ao69 t400.length co69)) (fun _ h_ => h_.1))) hb); have n1_ := ak (Kd.R_below (by (with_reducible repeat (first | apply Kd.R_alloc | apply Kd.R_drewN | apply Kd.R_drew)); exact (Kd.R_mono (Kd.R_far (p := ⟨gb403, 1, none⟩) (Kd.R_far (p := ⟨gb403, 0, none⟩) (Kd.R_types HO_385001.out BK403.out (by decide)) (fun _ hk => hk.2) (.int .i64 t399)) (fun _ hk => hk.2) (.slice Ao69 t400.length co69)) (fun _ h_ => h_.1))) hb); have n2_ := ak (Kd.R_below (by (with_reducible repeat (first | apply Kd.R_alloc | apply Kd.R_drewN | apply Kd.R_drew)); exact (Kd.R_mono (Kd.R_far (p := ⟨gb403, 1, none⟩) (Kd.R_far (p := ⟨gb403, 0, none⟩) (Kd.R_types HO398.out BK403.out (by decide)) (fun _ hk => hk.2) (.int .i64 t399)) (fun _ hk => hk.2) (.slice Ao69 t400.length co69)) (fun _ h_ => h_.1))) hb); have n3_ := ak (Kd.R_below (by (with_reducible repeat (first | apply Kd.R_alloc | apply Kd.R_drewN | apply Kd.R_drew)); exact (Kd.R_mono (Kd.R_far (p := ⟨gb403, 1, none⟩) (Kd.R_far (p := ⟨gb403, 0, none⟩) (Kd.R_types HO402.out BK403.out (by decide)) (fun _ hk => hk.2) (.int .i64 t399)) (fun _ hk => hk.2) (.slice Ao69 t400.length co69)) (fun _ h_ => h_.1))) hb); have n4_ := ak (blk_below (g := gb376) (o := .cells #[.int .i64 t372, .slice Ao18 t373.length co18] 42 (0, 0)) (by (with_reducible repeat (first | refine blk_drewN ?_ _ | refine blk_drew ?_ | refine blk_alloc ?_ _)); refine blk_far ?_ NB376_403.out _; (with_reducible repeat (first | refine blk_drewN ?_ _ | refine blk_drew ?_ | refine blk_alloc ?_ _)); refine blk_far ?_ NB376_403.out _; (with_reducible repeat (first | refine blk_drewN ?_ _ | refine blk_drew ?_ | refine blk_alloc ?_ _)); exact BK376.out) hb); have n5_ := ak (blk_below (g := gb384) (o := .cells #[.int .i64 t380, .slice Ao25 t394.length co25] 42 (0, 0)) (by (with_reducible repeat (first | refine blk_drewN ?_ _ | refine blk_drew ?_ | refine blk_alloc ?_ _)); refine blk_far ?_ NB384_403.out _; (with_reducible repeat (first | refine blk_drewN ?_ _ | refine blk_drew ?_ | refine blk_alloc ?_ _)); refine blk_far ?_ NB384_403.out _; (with_reducible repeat (first | refine blk_drewN ?_ _ | refine blk_drew ?_ | refine blk_alloc ?_ _)); exact BK384.out) hb); have n6_ := ak (blk_below (g := gb403) (o := .cells #[.int .i64 t399, .slice Ao69 t400.length co69] 42 (0, 0)) (by (with_reducible repeat (first | refine blk_drewN ?_ _ | refine blk_drew ?_ | refine blk_alloc ?_ _)); refine blk_put (cs := #[.int .i64 t399, .slice none 0 0]) ?_ 1 _ rfl; (with_reducible repeat (first | refine blk_drewN ?_ _ | refine blk_drew ?_ | refine blk_alloc ?_ _)); refine blk_put (cs := #[.int .i64 0, .slice none 0 0]) ?_ 0 _ rfl; (with_reducible repeat (first | refine blk_drewN ?_ _ | refine blk_drew ?_ | refine blk_alloc ?_ _)); exact BK403.out) hb); have n7_ := ak (below_step d18_9 hb); clear HO_377001 HO_385001 HO398 HO402 BK376 BK384 BK403 HB; have HO_377001 := n0_; have HO_385001 := n1_; have HO398 := n2_; have HO402 := n3_; have BK376 := n4_; have BK384 := n5_; have BK403 := n6_; have HB := n7_; clear n0_ n1_ n2_ n3_ n4_ n5_ n6_ n7_; (try clear hb); (try clear hk)))
                (try simp only [Act.put, List.setIfInBounds_toArray, List.set_cons_zero, List.set_cons_succ])
                go_cut [] (fun wc => ∃ (kq : Nat), Aside0 (laws_FnExactPartsOf.j7 kq t393 t380 t394 = some r) ∧ Aside0 (kq ≤ kj55) ∧ Aside0 (Kd.R (Kd.int .i64) 2 wc w.heap.size (fun k_ => some k_ ≠ ((.slice Ao25 t394.length co25) : Value).ownBlock ∧ some k_ ≠ ((.slice Ao69 t400.length co69) : Value).ownBlock) (.slice Ao18 t373.length co18) t373) ∧ Aside0 (Kd.R (Kd.int .i64) 2 wc w.heap.size (fun k_ => some k_ ≠ ((.slice Ao18 t373.length co18) : Value).ownBlock ∧ some k_ ≠ ((.slice Ao69 t400.length co69) : Value).ownBlock) (.slice Ao25 t394.length co25) t394) ∧ Aside0 (Kd.R (Kd.int .i64) 2 wc w.heap.size (fun k_ => some k_ ≠ ((.slice Ao18 t373.length co18) : Value).ownBlock ∧ some k_ ≠ ((.slice Ao25 t394.length co25) : Value).ownBlock) (.slice Ao69 t400.length co69) t400) ∧ Aside0 (wc.heap[gb376]? = some (.cells #[.int .i64 t372, (.slice Ao18 t373.length co18)] 42 (0, 0))) ∧ Aside0 (wc.heap[gb384]? = some (.cells #[.int .i64 t380, (.slice Ao25 t394.length co25)] 42 (0, 0))) ∧ Aside0 (wc.heap[gb403]? = some (.cells #[.int .i64 t399, (.slice Ao69 t400.length co69)] 42 (0, 0))) ∧ Aside0 (Below w.heap.size w wc))
                case first =>
                 have H := HC61.out
                 clear HC61
                 by_cases c73 : t404 = true
                 ·subst c73
                  have H1 : (laws_FnExactPartsOf.j7 kj55 t393 t380 t394) = some r := by rw [if_pos rfl] at H; exact H
                  clear H
                  have H := H1
                  clear H1
                  have H' := ak H
                  clear H
                  go_wp2
                  go_meet
                  case rel => exact ⟨_, H', ⟨by have := HJ3.out; have := HJ11.out; have := HJ30.out; have := HJ36.out; have := HJ44.out; have := HJ48.out; have := HJ55.out; first | omega | exact Nat.le_refl _⟩, ⟨by (try simp only [hl385001_48]); (with_reducible repeat (first | apply Kd.R_alloc | apply Kd.R_drewN | apply Kd.R_drew)); exact HO_377001.out⟩, ⟨by (try simp only [hl385001_48]); (with_reducible repeat (first | apply Kd.R_alloc | apply Kd.R_drewN | apply Kd.R_drew)); exact HO_385001.out⟩, ⟨by (try simp only [hl385001_48]); (with_reducible repeat (first | apply Kd.R_alloc | apply Kd.R_drewN | apply Kd.R_drew)); exact Kd.R_mono HO402.out (fun _ hk => ⟨hk.1.2, hk.2⟩)⟩, ⟨by (try simp only [hl385001_48]); (with_reducible repeat (first | refine blk_drewN ?_ _ | refine blk_drew ?_ | refine blk_alloc ?_ _)); exact BK376.out⟩, ⟨by (try simp only [hl385001_48]); (with_reducible repeat (first | refine blk_drewN ?_ _ | refine blk_drew ?_ | refine blk_alloc ?_ _)); exact BK384.out⟩, ⟨by (try simp only [hl385001_48]); (with_reducible repeat (first | refine blk_drewN ?_ _ | refine blk_drew ?_ | refine blk_alloc ?_ _)); exact BK403.out⟩, ⟨by repeat (first | (with_reducible first | exact HB.out | apply below_alloc | apply pw_below_drewN | apply below_drew1 | refine below_set ?_ GE376.out | refine below_set ?_ GE384.out | refine below_set ?_ GE403.out) | exact HB.out)⟩⟩
                 ·replace c73 := Bool.eq_false_iff.mpr c73
                  subst c73
                  have H1 : (some false) = some r := by rw [if_neg (show ¬ (false = true) by decide)] at H; exact H
                  clear H
                  have H := H1
                  clear H1
                  obtain rfl := Option.some.inj H
                  go_wp2
                  go_ret
                  exact ⟨by first | rfl | (simp [errW_none, errW_some] <;> rfl) | (simp [*, errW_none, errW_some] <;> rfl), by repeat (first | (with_reducible first | exact HB.out | apply below_alloc | apply pw_below_drewN | apply below_drew1 | refine below_set ?_ GE376.out | refine below_set ?_ GE384.out | refine below_set ?_ GE403.out) | exact HB.out)⟩
                case rest =>
                 clear HC61
                 try clear c1
                 try clear c2
                 try clear p2
                 try clear c3
                 try clear c4
                 try clear c5
                 try clear c6
                 try clear c6b0
                 try clear c7
                 try clear c16
                 try clear c17
                 try clear c18
                 try clear c19
                 try clear c20
                 try clear c21
                 try clear c22
                 try clear c23
                 try clear c24
                 try clear c28
                 try clear c35
                 try clear c39
                 try clear c39b0
                 try clear c41
                 try clear c46
                 try clear c50
                 try clear c55
                 try clear c55b0
                 try clear c57
                 try clear c57b0
                 try clear c57b1
                 try clear c66
                 try clear c67
                 try clear c70
                 try clear hcz17_0
                 try clear hcz17_1
                 try clear hcz24_0
                 try clear hcz24_1
                 try clear hcz26_0
                 try clear hcz26_1
                 try clear hcz42_0
                 try clear hcz42_1
                 try clear hcz43_0
                 try clear hcz43_1
                 try clear hcz51_0
                 try clear hcz51_1
                 try clear hcz53_0
                 try clear hcz53_1
                 try clear hcz68_0
                 try clear hcz68_1
                 try clear hcz71_0
                 try clear hcz71_1
                 try clear hfz17_0
                 try clear hfz17_1
                 try clear hfz24_0
                 try clear hfz24_1
                 try clear hfz26_0
                 try clear hfz26_1
                 try clear hfz42_0
                 try clear hfz42_1
                 try clear hfz43_0
                 try clear hfz43_1
                 try clear hfz51_0
                 try clear hfz51_1
                 try clear hfz53_0
                 try clear hfz53_1
                 try clear hfz68_0
                 try clear hfz68_1
                 try clear hfz71_0
                 try clear hfz71_1
                 try clear p2
                 obtain ⟨kq, HA, HJ60, HO_377001, HO_385001, HO_404001, BK376, BK384, BK403, HB⟩ := hcut
                 cases kq with
                 | zero => exact absurd HA.out (by simp [laws_FnExactPartsOf.j7])
                 | succ kj60 =>
                  have H := HA.out
                  clear HA
                  simp only [laws_FnExactPartsOf.j7] at H
                  replace H := Option.bind_eq_some_iff.mp H
                  obtain ⟨t405, A740, H⟩ := H
                  replace H : (if t405 < 0 then (some false) else (if t405 = t393 then (some true) else (some false))) = some r := H
                  have A74 := ak A740
                  clear A740
                  by_cases c75 : t405 < 0
                  ·rw [if_pos c75] at H
                   have c75b0 : decide (t405 < 0) = true := decide_eq_true c75
                   clear c75
                   obtain rfl := Option.some.inj H
                   have hnb76 := NB384_376.out
                   have hnc76 := NB376_384.out
                   have hnb77 := NB384_403.out
                   have hnc77 := NB403_384.out
                   have hcz78_0 : wc.cell? ⟨gb384, 0, none⟩ = some (.int .i64 t380) := (blk_cell BK384.out 0).trans rfl
                   have hcz78_1 : wc.cell? ⟨gb384, 1, none⟩ = some (.slice Ao25 t394.length co25) := (blk_cell BK384.out 1).trans rfl
                   have hfz78_0 := blk_frozen BK384.out 0
                   have hfz78_1 := blk_frozen BK384.out 1
                   go_wp2_with (first | ((with_reducible refine gate_callee (f := 24) rfl ?_); refine goesL_ (some 68) rfl rfl Tryd.func24 (by kernel_rfl) rfl #[.agg #[.int .i64 t380, .slice Ao25 t394.length co25], .int .i64 1] rfl d18_2 ?_; (with_reducible refine (laws_heldIntsResult.calls kj60 t380 _ _ t394 1 t405 _ ?side1 ?side2 A74.out).mono ?_); (case side1 => repeat (first | exact (Kd.R_reads' HO_385001.out).2.2 | (with_reducible refine Kd.C_alloc ?_ _) | (with_reducible refine Kd.C_drewN ?_ _) | (with_reducible refine Kd.C_drew ?_))); (case side2 => exact (Kd.R_reads' HO_385001.out).2.1); rintro e w79 ⟨rfl, hb⟩; refine ⟨_, rfl, ?_⟩; have n0_ := ak (Kd.R_below d18_6 hb); have n1_ := ak (Kd.R_below d18_7 hb); have n2_ := ak (Kd.R_below (by (with_reducible repeat (first | apply Kd.R_alloc | apply Kd.R_drewN | apply Kd.R_drew)); exact HO_404001.out) hb); have n3_ := ak (blk_below (g := gb376) (o := .cells #[.int .i64 t372, .slice Ao18 t373.length co18] 42 (0, 0)) d18_3 hb); have n4_ := ak (blk_below (g := gb384) (o := .cells #[.int .i64 t380, .slice Ao25 t394.length co25] 42 (0, 0)) d18_4 hb); have n5_ := ak (blk_below (g := gb403) (o := .cells #[.int .i64 t399, .slice Ao69 t400.length co69] 42 (0, 0)) (by (with_reducible repeat (first | refine blk_drewN ?_ _ | refine blk_drew ?_ | refine blk_alloc ?_ _)); exact BK403.out) hb); have n6_ := ak (below_step d18_9 hb); clear HO_377001 HO_385001 HO_404001 BK376 BK384 BK403 HB; have HO_377001 := n0_; have HO_385001 := n1_; have HO_404001 := n2_; have BK376 := n3_; have BK384 := n4_; have BK403 := n5_; have HB := n6_; clear n0_ n1_ n2_ n3_ n4_ n5_ n6_; (try clear hb)))
                   go_ret
                   exact ⟨by first | rfl | (simp [errW_none, errW_some] <;> rfl) | (simp [*, errW_none, errW_some] <;> rfl), by repeat (first | (with_reducible first | exact HB.out | apply below_alloc | apply pw_below_drewN | apply below_drew1 | refine below_set ?_ GE376.out | refine below_set ?_ GE384.out | refine below_set ?_ GE403.out) | exact HB.out)⟩
                  ·rw [if_neg c75] at H
                   have c75b0 : decide (t405 < 0) = false := decide_eq_false c75
                   clear c75
                   by_cases c80 : t405 = t393
                   ·rw [if_pos c80] at H
                    have c80b0 : (t405 == t393) = true := beq_iff_eq.mpr c80
                    have c80b1 : (t405 != t393) = false := bne_eq_false_iff_eq.mpr c80
                    clear c80
                    obtain rfl := Option.some.inj H
                    have hnb81 := NB384_376.out
                    have hnc81 := NB376_384.out
                    have hnb82 := NB384_403.out
                    have hnc82 := NB403_384.out
                    have hcz83_0 : wc.cell? ⟨gb384, 0, none⟩ = some (.int .i64 t380) := (blk_cell BK384.out 0).trans rfl
                    have hcz83_1 : wc.cell? ⟨gb384, 1, none⟩ = some (.slice Ao25 t394.length co25) := (blk_cell BK384.out 1).trans rfl
                    have hfz83_0 := blk_frozen BK384.out 0
                    have hfz83_1 := blk_frozen BK384.out 1
                    go_wp2_with (first | ((with_reducible refine gate_callee (f := 24) rfl ?_); refine goesL_ (some 68) rfl rfl Tryd.func24 (by kernel_rfl) rfl #[.agg #[.int .i64 t380, .slice Ao25 t394.length co25], .int .i64 1] rfl d18_2 ?_; (with_reducible refine (laws_heldIntsResult.calls kj60 t380 _ _ t394 1 t405 _ ?side1 ?side2 A74.out).mono ?_); (case side1 => repeat (first | exact (Kd.R_reads' HO_385001.out).2.2 | (with_reducible refine Kd.C_alloc ?_ _) | (with_reducible refine Kd.C_drewN ?_ _) | (with_reducible refine Kd.C_drew ?_))); (case side2 => exact (Kd.R_reads' HO_385001.out).2.1); rintro e w84 ⟨rfl, hb⟩; refine ⟨_, rfl, ?_⟩; have n0_ := ak (Kd.R_below d18_6 hb); have n1_ := ak (Kd.R_below d18_7 hb); have n2_ := ak (Kd.R_below (by (with_reducible repeat (first | apply Kd.R_alloc | apply Kd.R_drewN | apply Kd.R_drew)); exact HO_404001.out) hb); have n3_ := ak (blk_below (g := gb376) (o := .cells #[.int .i64 t372, .slice Ao18 t373.length co18] 42 (0, 0)) d18_3 hb); have n4_ := ak (blk_below (g := gb384) (o := .cells #[.int .i64 t380, .slice Ao25 t394.length co25] 42 (0, 0)) d18_4 hb); have n5_ := ak (blk_below (g := gb403) (o := .cells #[.int .i64 t399, .slice Ao69 t400.length co69] 42 (0, 0)) (by (with_reducible repeat (first | refine blk_drewN ?_ _ | refine blk_drew ?_ | refine blk_alloc ?_ _)); exact BK403.out) hb); have n6_ := ak (below_step d18_9 hb); clear HO_377001 HO_385001 HO_404001 BK376 BK384 BK403 HB; have HO_377001 := n0_; have HO_385001 := n1_; have HO_404001 := n2_; have BK376 := n3_; have BK384 := n4_; have BK403 := n5_; have HB := n6_; clear n0_ n1_ n2_ n3_ n4_ n5_ n6_; (try clear hb)))
                    go_ret
                    exact ⟨by first | rfl | (simp [errW_none, errW_some] <;> rfl) | (simp [*, errW_none, errW_some] <;> rfl), by repeat (first | (with_reducible first | exact HB.out | apply below_alloc | apply pw_below_drewN | apply below_drew1 | refine below_set ?_ GE376.out | refine below_set ?_ GE384.out | refine below_set ?_ GE403.out) | exact HB.out)⟩
                   ·rw [if_neg c80] at H
                    have c80b0 : (t405 == t393) = false := beq_eq_false_iff_ne.mpr c80
                    have c80b1 : (t405 != t393) = true := bne_iff_ne.mpr c80
                    obtain rfl := Option.some.inj H
                    have hnb85 := NB384_376.out
                    have hnc85 := NB376_384.out
                    have hnb86 := NB384_403.out
                    have hnc86 := NB403_384.out
                    have hcz87_0 : wc.cell? ⟨gb384, 0, none⟩ = some (.int .i64 t380) := (blk_cell BK384.out 0).trans rfl
                    have hcz87_1 : wc.cell? ⟨gb384, 1, none⟩ = some (.slice Ao25 t394.length co25) := (blk_cell BK384.out 1).trans rfl
                    have hfz87_0 := blk_frozen BK384.out 0
                    have hfz87_1 := blk_frozen BK384.out 1
                    go_wp2_with (first | ((with_reducible refine gate_callee (f := 24) rfl ?_); refine goesL_ (some 68) rfl rfl Tryd.func24 (by kernel_rfl) rfl #[.agg #[.int .i64 t380, .slice Ao25 t394.length co25], .int .i64 1] rfl d18_2 ?_; (with_reducible refine (laws_heldIntsResult.calls kj60 t380 _ _ t394 1 t405 _ ?side1 ?side2 A74.out).mono ?_); (case side1 => repeat (first | exact (Kd.R_reads' HO_385001.out).2.2 | (with_reducible refine Kd.C_alloc ?_ _) | (with_reducible refine Kd.C_drewN ?_ _) | (with_reducible refine Kd.C_drew ?_))); (case side2 => exact (Kd.R_reads' HO_385001.out).2.1); rintro e w88 ⟨rfl, hb⟩; refine ⟨_, rfl, ?_⟩; have n0_ := ak (Kd.R_below d18_6 hb); have n1_ := ak (Kd.R_below d18_7 hb); have n2_ := ak (Kd.R_below (by (with_reducible repeat (first | apply Kd.R_alloc | apply Kd.R_drewN | apply Kd.R_drew)); exact HO_404001.out) hb); have n3_ := ak (blk_below (g := gb376) (o := .cells #[.int .i64 t372, .slice Ao18 t373.length co18] 42 (0, 0)) d18_3 hb); have n4_ := ak (blk_below (g := gb384) (o := .cells #[.int .i64 t380, .slice Ao25 t394.length co25] 42 (0, 0)) d18_4 hb); have n5_ := ak (blk_below (g := gb403) (o := .cells #[.int .i64 t399, .slice Ao69 t400.length co69] 42 (0, 0)) (by (with_reducible repeat (first | refine blk_drewN ?_ _ | refine blk_drew ?_ | refine blk_alloc ?_ _)); exact BK403.out) hb); have n6_ := ak (below_step d18_9 hb); clear HO_377001 HO_385001 HO_404001 BK376 BK384 BK403 HB; have HO_377001 := n0_; have HO_385001 := n1_; have HO_404001 := n2_; have BK376 := n3_; have BK384 := n4_; have BK403 := n5_; have HB := n6_; clear n0_ n1_ n2_ n3_ n4_ n5_ n6_; (try clear hb)))
                    go_ret
                    exact ⟨by first | rfl | (simp [errW_none, errW_some] <;> rfl) | (simp [*, errW_none, errW_some] <;> rfl), by repeat (first | (with_reducible first | exact HB.out | apply below_alloc | apply pw_below_drewN | apply below_drew1 | refine below_set ?_ GE376.out | refine below_set ?_ GE384.out | refine below_set ?_ GE403.out) | exact HB.out)⟩

end Go.Proofs.YtaeeoljihmndfaaDoor.A
