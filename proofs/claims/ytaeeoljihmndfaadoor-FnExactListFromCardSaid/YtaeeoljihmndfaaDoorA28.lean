/- Walks of the program's functions: each Go function's answer as a plain Lean function, and that the call comes to it. Written by a program. Conditions: those in each theorem's own head. -/
import Derived.Test.YtaeeoljihmndfaaDoorA0
import Derived.Test.YtaeeoljihmndfaaDoorA3
import Derived.Test.YtaeeoljihmndfaaDoorA22
import Derived.Test.YtaeeoljihmndfaaDoorA23
import Derived.Test.YtaeeoljihmndfaaDoorA24
import Derived.Test.YtaeeoljihmndfaaDoorA25
import Derived.Test.YtaeeoljihmndfaaDoorA26
import Derived.Test.YtaeeoljihmndfaaDoorA27
namespace Go.Proofs.YtaeeoljihmndfaaDoor.A
open Go.RowKit Go.Proofs.YtaeeoljihmndfaaDoorW.PrintWords Go.Proofs.YtaeeoljihmndfaaDoorW.PrintLast Go.Proofs.YtaeeoljihmndfaaDoorW.PrintMore
attribute [local go_sem] max2_int min2_int max_two min_two max_three min_three max_four min_four   -- for this text's walks alone
set_option linter.unusedVariables false
set_option linter.unusedSimpArgs false

theorem d28_1 {p : Prop} (h : p := by (with_reducible repeat (first | refine blk_drewN ?_ _ | refine blk_drew ?_ | refine blk_alloc ?_ _)); exact BK606.out) : p := h
theorem d28_2 {p : Prop} (h : p := by (with_reducible repeat (first | refine blk_drewN ?_ _ | refine blk_drew ?_ | refine blk_alloc ?_ _)); exact BK622.out) : p := h
theorem d28_3 {p : Prop} (h : p := by repeat (first | (with_reducible first | exact HB.out | apply below_alloc | apply pw_below_drewN | apply below_drew1 | refine below_set ?_ GE606.out | refine below_set ?_ GE622.out | refine below_set ?_ GE636.out) | exact HB.out)) : p := h
theorem d28_4 {p : Prop} (h : p := by repeat (first | (with_reducible first | exact HB.out | apply below_alloc | apply pw_below_drewN | apply below_drew1 | refine below_set ?_ GE606.out | refine below_set ?_ GE622.out | refine below_set ?_ GE636.out | refine below_set ?_ GE661.out) | exact HB.out)) : p := h
theorem d28_5 {p : Prop} (h : p := by repeat (first | (with_reducible first | exact HB.out | apply below_alloc | apply pw_below_drewN | apply below_drew1 | refine below_set ?_ GE606.out | refine below_set ?_ GE622.out) | exact HB.out)) : p := h
theorem d28_6 {p : Prop} (h : p := by (try simp only [List.map_toArray, List.map_cons, List.map_nil]); first | done | rfl | (simp only [List.length_drop, List.length_take]; rfl)) : p := h
theorem d28_7 {p : Prop} (h : p := by (with_reducible repeat (first | refine blk_drewN ?_ _ | refine blk_drew ?_ | refine blk_alloc ?_ _)); exact BK636.out) : p := h
theorem d28_8 {p : Prop} (h : p := by repeat (first | (with_reducible first | exact HB.out | apply below_alloc | apply pw_below_drewN | apply below_drew1 | refine below_set ?_ GE606.out) | exact HB.out)) : p := h
theorem d28_9 {p : Prop} (h : p := by (with_reducible repeat (first | apply Kd.R_alloc | apply Kd.R_drewN | apply Kd.R_drew)); exact HO_623001.out) : p := h
theorem d28_10 {p : Prop} (h : p := by (with_reducible repeat (first | apply Kd.R_alloc | apply Kd.R_drewN | apply Kd.R_drew)); exact HO_637001.out) : p := h
theorem d28_11 {p : Prop} (h : p := by (with_reducible repeat (first | apply Kd.R_alloc | apply Kd.R_drewN | apply Kd.R_drew)); exact HO611.out) : p := h
theorem d28_12 {p : Prop} (h : p := by (with_reducible repeat (first | refine blk_drewN ?_ _ | refine blk_drew ?_ | refine blk_alloc ?_ _)); exact BK661.out) : p := h
theorem d28_13 {p : Prop} (h : p := by (with_reducible repeat (first | apply Kd.R_alloc | apply Kd.R_drewN | apply Kd.R_drew)); exact HO650.out) : p := h
theorem d28_14 {p : Prop} (h : p := by (with_reducible repeat (first | apply Kd.R_alloc | apply Kd.R_drewN | apply Kd.R_drew)); exact HO618.out) : p := h
theorem d28_15 {p : Prop} (h : p := by simp only [putAll, Act.put, List.setIfInBounds_toArray, List.set_cons_zero, List.set_cons_succ]) : p := h
theorem d28_16 {p : Prop} (h : p := by (with_reducible repeat (first | apply Kd.R_alloc | apply Kd.R_drewN | apply Kd.R_drew)); exact Kd.R_mono HO_623001.out (fun _ hk => ⟨hk.2, hk.1⟩)) : p := h
theorem d28_17 {p : Prop} (h : p := by (with_reducible repeat (first | apply Kd.R_alloc | apply Kd.R_drewN | apply Kd.R_drew)); exact Kd.R_mono HO_637001.out (fun _ hk => ⟨hk.2, hk.1⟩)) : p := h
theorem d28_18 {p : Prop} (h : p := by (with_reducible repeat (first | apply Kd.R_alloc | apply Kd.R_drewN | apply Kd.R_drew)); exact Kd.R_mono HO657.out (fun _ hk => ⟨hk.1.2, hk.2⟩)) : p := h

/-! ### laws_FnExactListFrom: function 6 -/
mutual
def laws_FnExactListFrom.j0 : Nat → List (S108) → Int → Int → Int → ByteArray → Option (Bool)
  | 0, _, _, _, _, _ => none
  | k + 1, x0, x5, x607000, x607001, x607002 => (laws_szValue.f x607000 x607001 x607002 x5).bind fun t608 => (if t608 < 0 then (some true) else (laws_FnExactListFrom.j1 k x0 x607000 x607001 x607002))
def laws_FnExactListFrom.j1 : Nat → List (S108) → Int → Int → ByteArray → Option (Bool)
  | 0, _, _, _, _ => none
  | k + 1, x0, x607000, x607001, x607002 => (laws_toPairS.f k x0).bind fun t609 => ((laws_toValue.f x607000 x607001 x607002).bind fun bt612 => ((spec_ListFrom.f k t609 bt612.1 bt612.2.1 bt612.2.2).bind fun bt615 => ((laws_toPairS.f k x0).bind fun t623 => ((laws_toValue.f x607000 x607001 x607002).bind fun bt626 => ((impl_ListFrom.f k t623 bt626.1 bt626.2.1 bt626.2.2).bind fun bt629 => ((laws_eqValuesResult.f k bt629.1 bt629.2.1 bt629.2.2.1 bt629.2.2.2.1 bt629.2.2.2.2 bt615.1 bt615.2.1 bt615.2.2.1 bt615.2.2.2.1 bt615.2.2.2.2).bind fun t637 => (if t637 = true then (laws_FnExactListFrom.j2 k x0 t623 x607000 x607001 x607002 bt615.1 bt615.2.1 bt615.2.2.1 bt615.2.2.2.1 bt615.2.2.2.2 bt629.1 bt629.2.1 bt629.2.2.1 bt629.2.2.2.1 bt629.2.2.2.2) else (some false))))))))
def laws_FnExactListFrom.j2 : Nat → List (S108) → List (S112) → Int → Int → ByteArray → Int → List (S32) → Int → Int → ByteArray → Int → List (S32) → Int → Int → ByteArray → Option (Bool)
  | 0, _, _, _, _, _, _, _, _, _, _, _, _, _, _, _ => none
  | k + 1, x0, x7, x607000, x607001, x607002, x623000, x623001, x623002, x623003, x623004, x637000, x637001, x637002, x637003, x637004 => (laws_toPairS.f k x0).bind fun t638 => ((laws_eqPairS.f k x7 t638).bind fun t641 => (if t641 = true then (laws_FnExactListFrom.j3 k x0 x7 x607000 x607001 x607002 x623000 x623001 x623002 x623003 x623004 x637000 x637001 x637002 x637003 x637004) else (some false)))
def laws_FnExactListFrom.j3 : Nat → List (S108) → List (S112) → Int → Int → ByteArray → Int → List (S32) → Int → Int → ByteArray → Int → List (S32) → Int → Int → ByteArray → Option (Bool)
  | 0, _, _, _, _, _, _, _, _, _, _, _, _, _, _, _ => none
  | k + 1, x0, x7, x607000, x607001, x607002, x623000, x623001, x623002, x623003, x623004, x637000, x637001, x637002, x637003, x637004 => (laws_markPairS.f k x7 1).bind fun bt642 => (if bt642.1 < 0 then (laws_FnExactListFrom.j4 k x0 true x607000 x607001 x607002 x623000 x623001 x623002 x623003 x623004 x637000 x637001 x637002 x637003 x637004) else ((laws_eqValuesResult.f k x637000 x637001 x637002 x637003 x637004 x623000 x623001 x623002 x623003 x623004).bind fun t644 => (laws_FnExactListFrom.j4 k x0 (!t644) x607000 x607001 x607002 x623000 x623001 x623002 x623003 x623004 x637000 x637001 x637002 x637003 x637004)))
def laws_FnExactListFrom.j4 : Nat → List (S108) → Bool → Int → Int → ByteArray → Int → List (S32) → Int → Int → ByteArray → Int → List (S32) → Int → Int → ByteArray → Option (Bool)
  | 0, _, _, _, _, _, _, _, _, _, _, _, _, _, _, _ => none
  | k + 1, x0, x53, x607000, x607001, x607002, x623000, x623001, x623002, x623003, x623004, x637000, x637001, x637002, x637003, x637004 => if x53 = true then (some false) else (laws_FnExactListFrom.j5 k x0 x607000 x607001 x607002 x623000 x623001 x623002 x623003 x623004 x637000 x637001 x637002 x637003 x637004)
def laws_FnExactListFrom.j5 : Nat → List (S108) → Int → Int → ByteArray → Int → List (S32) → Int → Int → ByteArray → Int → List (S32) → Int → Int → ByteArray → Option (Bool)
  | 0, _, _, _, _, _, _, _, _, _, _, _, _, _, _ => none
  | k + 1, x0, x607000, x607001, x607002, x623000, x623001, x623002, x623003, x623004, x637000, x637001, x637002, x637003, x637004 => (laws_markValuesResult.f k x637000 x637001 x637002 x637003 x637004 1).bind fun bt645 => ((laws_heldValuesResult.f k x637000 bt645.2 x637002 x637003 x637004 1).bind fun t647 => (if t647 < 0 then (some false) else (laws_FnExactListFrom.j6 k x0 bt645.1 t647 x607000 x607001 x607002 x623000 x623001 x623002 x623003 x623004 x637000 bt645.2 x637002 x637003 x637004)))
def laws_FnExactListFrom.j6 : Nat → List (S108) → Int → Int → Int → Int → ByteArray → Int → List (S32) → Int → Int → ByteArray → Int → List (S32) → Int → Int → ByteArray → Option (Bool)
  | 0, _, _, _, _, _, _, _, _, _, _, _, _, _, _, _, _ => none
  | k + 1, x0, x10, x11, x607000, x607001, x607002, x623000, x623001, x623002, x623003, x623004, x637000, x637001, x637002, x637003, x637004 => if x11 = x10 then (laws_FnExactListFrom.j7 k x0 x10 x607000 x607001 x607002 x623000 x623001 x623002 x623003 x623004 x637000 x637001 x637002 x637003 x637004) else (some false)
def laws_FnExactListFrom.j7 : Nat → List (S108) → Int → Int → Int → ByteArray → Int → List (S32) → Int → Int → ByteArray → Int → List (S32) → Int → Int → ByteArray → Option (Bool)
  | 0, _, _, _, _, _, _, _, _, _, _, _, _, _, _, _ => none
  | k + 1, x0, x10, x607000, x607001, x607002, x623000, x623001, x623002, x623003, x623004, x637000, x637001, x637002, x637003, x637004 => (laws_toPairS.f k x0).bind fun t648 => ((laws_toValue.f x607000 x607001 x607002).bind fun bt651 => ((impl_ListFrom.f k t648 bt651.1 bt651.2.1 bt651.2.2).bind fun bt654 => ((laws_eqValuesResult.f k bt654.1 bt654.2.1 bt654.2.2.1 bt654.2.2.2.1 bt654.2.2.2.2 x623000 x623001 x623002 x623003 x623004).bind fun t662 => (if t662 = true then (laws_FnExactListFrom.j8 k x10 x637000 x637001 x637002 x637003 x637004) else (some false)))))
def laws_FnExactListFrom.j8 : Nat → Int → Int → List (S32) → Int → Int → ByteArray → Option (Bool)
  | 0, _, _, _, _, _, _ => none
  | k + 1, x10, x637000, x637001, x637002, x637003, x637004 => (laws_heldValuesResult.f k x637000 x637001 x637002 x637003 x637004 1).bind fun t663 => (if t663 < 0 then (some false) else (if t663 = x10 then (some true) else (some false)))
end
def laws_FnExactListFrom.f (k : Nat) (l0 : List (S108)) (a1_0 : Int) (a1_1 : Int) (a1_2 : ByteArray) : Option (Bool) := (laws_szPairS.f k l0 1048576).bind fun t607 => (if t607 < 0 then (some true) else (laws_FnExactListFrom.j0 k l0 t607 a1_0 a1_1 a1_2))
theorem laws_FnExactListFrom.mono_l : ∀ k, (∀ y0 y1 y2 y3 y4, LeO (laws_FnExactListFrom.j0 k y0 y1 y2 y3 y4) (laws_FnExactListFrom.j0 (k + 1) y0 y1 y2 y3 y4)) ∧ (∀ y0 y1 y2 y3, LeO (laws_FnExactListFrom.j1 k y0 y1 y2 y3) (laws_FnExactListFrom.j1 (k + 1) y0 y1 y2 y3)) ∧ (∀ y0 y1 y2 y3 y4 y5 y6 y7 y8 y9 y10 y11 y12 y13 y14, LeO (laws_FnExactListFrom.j2 k y0 y1 y2 y3 y4 y5 y6 y7 y8 y9 y10 y11 y12 y13 y14) (laws_FnExactListFrom.j2 (k + 1) y0 y1 y2 y3 y4 y5 y6 y7 y8 y9 y10 y11 y12 y13 y14)) ∧ (∀ y0 y1 y2 y3 y4 y5 y6 y7 y8 y9 y10 y11 y12 y13 y14, LeO (laws_FnExactListFrom.j3 k y0 y1 y2 y3 y4 y5 y6 y7 y8 y9 y10 y11 y12 y13 y14) (laws_FnExactListFrom.j3 (k + 1) y0 y1 y2 y3 y4 y5 y6 y7 y8 y9 y10 y11 y12 y13 y14)) ∧ (∀ y0 y1 y2 y3 y4 y5 y6 y7 y8 y9 y10 y11 y12 y13 y14, LeO (laws_FnExactListFrom.j4 k y0 y1 y2 y3 y4 y5 y6 y7 y8 y9 y10 y11 y12 y13 y14) (laws_FnExactListFrom.j4 (k + 1) y0 y1 y2 y3 y4 y5 y6 y7 y8 y9 y10 y11 y12 y13 y14)) ∧ (∀ y0 y1 y2 y3 y4 y5 y6 y7 y8 y9 y10 y11 y12 y13, LeO (laws_FnExactListFrom.j5 k y0 y1 y2 y3 y4 y5 y6 y7 y8 y9 y10 y11 y12 y13) (laws_FnExactListFrom.j5 (k + 1) y0 y1 y2 y3 y4 y5 y6 y7 y8 y9 y10 y11 y12 y13)) ∧ (∀ y0 y1 y2 y3 y4 y5 y6 y7 y8 y9 y10 y11 y12 y13 y14 y15, LeO (laws_FnExactListFrom.j6 k y0 y1 y2 y3 y4 y5 y6 y7 y8 y9 y10 y11 y12 y13 y14 y15) (laws_FnExactListFrom.j6 (k + 1) y0 y1 y2 y3 y4 y5 y6 y7 y8 y9 y10 y11 y12 y13 y14 y15)) ∧ (∀ y0 y1 y2 y3 y4 y5 y6 y7 y8 y9 y10 y11 y12 y13 y14, LeO (laws_FnExactListFrom.j7 k y0 y1 y2 y3 y4 y5 y6 y7 y8 y9 y10 y11 y12 y13 y14) (laws_FnExactListFrom.j7 (k + 1) y0 y1 y2 y3 y4 y5 y6 y7 y8 y9 y10 y11 y12 y13 y14)) ∧ (∀ y0 y1 y2 y3 y4 y5, LeO (laws_FnExactListFrom.j8 k y0 y1 y2 y3 y4 y5) (laws_FnExactListFrom.j8 (k + 1) y0 y1 y2 y3 y4 y5))
  | 0 => ⟨fun _ _ _ _ _ r h => by simp [laws_FnExactListFrom.j0] at h, fun _ _ _ _ r h => by simp [laws_FnExactListFrom.j1] at h, fun _ _ _ _ _ _ _ _ _ _ _ _ _ _ _ r h => by simp [laws_FnExactListFrom.j2] at h, fun _ _ _ _ _ _ _ _ _ _ _ _ _ _ _ r h => by simp [laws_FnExactListFrom.j3] at h, fun _ _ _ _ _ _ _ _ _ _ _ _ _ _ _ r h => by simp [laws_FnExactListFrom.j4] at h, fun _ _ _ _ _ _ _ _ _ _ _ _ _ _ r h => by simp [laws_FnExactListFrom.j5] at h, fun _ _ _ _ _ _ _ _ _ _ _ _ _ _ _ _ r h => by simp [laws_FnExactListFrom.j6] at h, fun _ _ _ _ _ _ _ _ _ _ _ _ _ _ _ r h => by simp [laws_FnExactListFrom.j7] at h, fun _ _ _ _ _ _ r h => by simp [laws_FnExactListFrom.j8] at h⟩
  | k + 1 => by
    obtain ⟨ih0, ih1, ih2, ih3, ih4, ih5, ih6, ih7, ih8⟩ := laws_FnExactListFrom.mono_l k
    refine ⟨?_, ?_, ?_, ?_, ?_, ?_, ?_, ?_, ?_⟩
    · intro y0 y1 y2 y3 y4
      unfold laws_FnExactListFrom.j0
      repeat' first
      | (with_reducible exact ih0 _ _ _ _ _)
      | (with_reducible exact ih1 _ _ _ _)
      | (with_reducible exact ih2 _ _ _ _ _ _ _ _ _ _ _ _ _ _ _)
      | (with_reducible exact ih3 _ _ _ _ _ _ _ _ _ _ _ _ _ _ _)
      | (with_reducible exact ih4 _ _ _ _ _ _ _ _ _ _ _ _ _ _ _)
      | (with_reducible exact ih5 _ _ _ _ _ _ _ _ _ _ _ _ _ _)
      | (with_reducible exact ih6 _ _ _ _ _ _ _ _ _ _ _ _ _ _ _ _)
      | (with_reducible exact ih7 _ _ _ _ _ _ _ _ _ _ _ _ _ _ _)
      | (with_reducible exact ih8 _ _ _ _ _ _)
      | (with_reducible exact impl_ListFrom.mono _ _ _ _ _)
      | (with_reducible exact laws_eqPairS.mono _ _ _)
      | (with_reducible exact laws_eqValuesResult.mono _ _ _ _ _ _ _ _ _ _ _)
      | (with_reducible exact laws_heldValuesResult.mono _ _ _ _ _ _ _)
      | (with_reducible exact laws_markPairS.mono _ _ _)
      | (with_reducible exact laws_markValuesResult.mono _ _ _ _ _ _ _)
      | (with_reducible exact laws_szPairS.mono _ _ _)
      | (with_reducible exact laws_toPairS.mono _ _)
      | (with_reducible exact spec_ListFrom.mono _ _ _ _ _)
      | (with_reducible exact LeO.refl _)
      | (with_reducible exact LeO.none _)
      | (with_reducible refine LeO.ite ?_ ?_)
      | (with_reducible refine LeO.bind ?_ (fun _ => ?_))
      | exact ih0 _ _ _ _ _
      | exact ih1 _ _ _ _
      | exact ih2 _ _ _ _ _ _ _ _ _ _ _ _ _ _ _
      | exact ih3 _ _ _ _ _ _ _ _ _ _ _ _ _ _ _
      | exact ih4 _ _ _ _ _ _ _ _ _ _ _ _ _ _ _
      | exact ih5 _ _ _ _ _ _ _ _ _ _ _ _ _ _
      | exact ih6 _ _ _ _ _ _ _ _ _ _ _ _ _ _ _ _
      | exact ih7 _ _ _ _ _ _ _ _ _ _ _ _ _ _ _
      | exact ih8 _ _ _ _ _ _
      | exact impl_ListFrom.mono _ _ _ _ _
      | exact laws_eqPairS.mono _ _ _
      | exact laws_eqValuesResult.mono _ _ _ _ _ _ _ _ _ _ _
      | exact laws_heldValuesResult.mono _ _ _ _ _ _ _
      | exact laws_markPairS.mono _ _ _
      | exact laws_markValuesResult.mono _ _ _ _ _ _ _
      | exact laws_szPairS.mono _ _ _
      | exact laws_toPairS.mono _ _
      | exact spec_ListFrom.mono _ _ _ _ _
      | exact LeO.none _
      | refine LeO.ite ?_ ?_
      | refine LeO.bind ?_ (fun _ => ?_)
    · intro y0 y1 y2 y3
      unfold laws_FnExactListFrom.j1
      repeat' first
      | (with_reducible exact ih0 _ _ _ _ _)
      | (with_reducible exact ih1 _ _ _ _)
      | (with_reducible exact ih2 _ _ _ _ _ _ _ _ _ _ _ _ _ _ _)
      | (with_reducible exact ih3 _ _ _ _ _ _ _ _ _ _ _ _ _ _ _)
      | (with_reducible exact ih4 _ _ _ _ _ _ _ _ _ _ _ _ _ _ _)
      | (with_reducible exact ih5 _ _ _ _ _ _ _ _ _ _ _ _ _ _)
      | (with_reducible exact ih6 _ _ _ _ _ _ _ _ _ _ _ _ _ _ _ _)
      | (with_reducible exact ih7 _ _ _ _ _ _ _ _ _ _ _ _ _ _ _)
      | (with_reducible exact ih8 _ _ _ _ _ _)
      | (with_reducible exact impl_ListFrom.mono _ _ _ _ _)
      | (with_reducible exact laws_eqPairS.mono _ _ _)
      | (with_reducible exact laws_eqValuesResult.mono _ _ _ _ _ _ _ _ _ _ _)
      | (with_reducible exact laws_heldValuesResult.mono _ _ _ _ _ _ _)
      | (with_reducible exact laws_markPairS.mono _ _ _)
      | (with_reducible exact laws_markValuesResult.mono _ _ _ _ _ _ _)
      | (with_reducible exact laws_szPairS.mono _ _ _)
      | (with_reducible exact laws_toPairS.mono _ _)
      | (with_reducible exact spec_ListFrom.mono _ _ _ _ _)
      | (with_reducible exact LeO.refl _)
      | (with_reducible exact LeO.none _)
      | (with_reducible refine LeO.ite ?_ ?_)
      | (with_reducible refine LeO.bind ?_ (fun _ => ?_))
      | exact ih0 _ _ _ _ _
      | exact ih1 _ _ _ _
      | exact ih2 _ _ _ _ _ _ _ _ _ _ _ _ _ _ _
      | exact ih3 _ _ _ _ _ _ _ _ _ _ _ _ _ _ _
      | exact ih4 _ _ _ _ _ _ _ _ _ _ _ _ _ _ _
      | exact ih5 _ _ _ _ _ _ _ _ _ _ _ _ _ _
      | exact ih6 _ _ _ _ _ _ _ _ _ _ _ _ _ _ _ _
      | exact ih7 _ _ _ _ _ _ _ _ _ _ _ _ _ _ _
      | exact ih8 _ _ _ _ _ _
      | exact impl_ListFrom.mono _ _ _ _ _
      | exact laws_eqPairS.mono _ _ _
      | exact laws_eqValuesResult.mono _ _ _ _ _ _ _ _ _ _ _
      | exact laws_heldValuesResult.mono _ _ _ _ _ _ _
      | exact laws_markPairS.mono _ _ _
      | exact laws_markValuesResult.mono _ _ _ _ _ _ _
      | exact laws_szPairS.mono _ _ _
      | exact laws_toPairS.mono _ _
      | exact spec_ListFrom.mono _ _ _ _ _
      | exact LeO.none _
      | refine LeO.ite ?_ ?_
      | refine LeO.bind ?_ (fun _ => ?_)
    · intro y0 y1 y2 y3 y4 y5 y6 y7 y8 y9 y10 y11 y12 y13 y14
      unfold laws_FnExactListFrom.j2
      repeat' first
      | (with_reducible exact ih0 _ _ _ _ _)
      | (with_reducible exact ih1 _ _ _ _)
      | (with_reducible exact ih2 _ _ _ _ _ _ _ _ _ _ _ _ _ _ _)
      | (with_reducible exact ih3 _ _ _ _ _ _ _ _ _ _ _ _ _ _ _)
      | (with_reducible exact ih4 _ _ _ _ _ _ _ _ _ _ _ _ _ _ _)
      | (with_reducible exact ih5 _ _ _ _ _ _ _ _ _ _ _ _ _ _)
      | (with_reducible exact ih6 _ _ _ _ _ _ _ _ _ _ _ _ _ _ _ _)
      | (with_reducible exact ih7 _ _ _ _ _ _ _ _ _ _ _ _ _ _ _)
      | (with_reducible exact ih8 _ _ _ _ _ _)
      | (with_reducible exact impl_ListFrom.mono _ _ _ _ _)
      | (with_reducible exact laws_eqPairS.mono _ _ _)
      | (with_reducible exact laws_eqValuesResult.mono _ _ _ _ _ _ _ _ _ _ _)
      | (with_reducible exact laws_heldValuesResult.mono _ _ _ _ _ _ _)
      | (with_reducible exact laws_markPairS.mono _ _ _)
      | (with_reducible exact laws_markValuesResult.mono _ _ _ _ _ _ _)
      | (with_reducible exact laws_szPairS.mono _ _ _)
      | (with_reducible exact laws_toPairS.mono _ _)
      | (with_reducible exact spec_ListFrom.mono _ _ _ _ _)
      | (with_reducible exact LeO.refl _)
      | (with_reducible exact LeO.none _)
      | (with_reducible refine LeO.ite ?_ ?_)
      | (with_reducible refine LeO.bind ?_ (fun _ => ?_))
      | exact ih0 _ _ _ _ _
      | exact ih1 _ _ _ _
      | exact ih2 _ _ _ _ _ _ _ _ _ _ _ _ _ _ _
      | exact ih3 _ _ _ _ _ _ _ _ _ _ _ _ _ _ _
      | exact ih4 _ _ _ _ _ _ _ _ _ _ _ _ _ _ _
      | exact ih5 _ _ _ _ _ _ _ _ _ _ _ _ _ _
      | exact ih6 _ _ _ _ _ _ _ _ _ _ _ _ _ _ _ _
      | exact ih7 _ _ _ _ _ _ _ _ _ _ _ _ _ _ _
      | exact ih8 _ _ _ _ _ _
      | exact impl_ListFrom.mono _ _ _ _ _
      | exact laws_eqPairS.mono _ _ _
      | exact laws_eqValuesResult.mono _ _ _ _ _ _ _ _ _ _ _
      | exact laws_heldValuesResult.mono _ _ _ _ _ _ _
      | exact laws_markPairS.mono _ _ _
      | exact laws_markValuesResult.mono _ _ _ _ _ _ _
      | exact laws_szPairS.mono _ _ _
      | exact laws_toPairS.mono _ _
      | exact spec_ListFrom.mono _ _ _ _ _
      | exact LeO.none _
      | refine LeO.ite ?_ ?_
      | refine LeO.bind ?_ (fun _ => ?_)
    · intro y0 y1 y2 y3 y4 y5 y6 y7 y8 y9 y10 y11 y12 y13 y14
      unfold laws_FnExactListFrom.j3
      repeat' first
      | (with_reducible exact ih0 _ _ _ _ _)
      | (with_reducible exact ih1 _ _ _ _)
      | (with_reducible exact ih2 _ _ _ _ _ _ _ _ _ _ _ _ _ _ _)
      | (with_reducible exact ih3 _ _ _ _ _ _ _ _ _ _ _ _ _ _ _)
      | (with_reducible exact ih4 _ _ _ _ _ _ _ _ _ _ _ _ _ _ _)
      | (with_reducible exact ih5 _ _ _ _ _ _ _ _ _ _ _ _ _ _)
      | (with_reducible exact ih6 _ _ _ _ _ _ _ _ _ _ _ _ _ _ _ _)
      | (with_reducible exact ih7 _ _ _ _ _ _ _ _ _ _ _ _ _ _ _)
      | (with_reducible exact ih8 _ _ _ _ _ _)
      | (with_reducible exact impl_ListFrom.mono _ _ _ _ _)
      | (with_reducible exact laws_eqPairS.mono _ _ _)
      | (with_reducible exact laws_eqValuesResult.mono _ _ _ _ _ _ _ _ _ _ _)
      | (with_reducible exact laws_heldValuesResult.mono _ _ _ _ _ _ _)
      | (with_reducible exact laws_markPairS.mono _ _ _)
      | (with_reducible exact laws_markValuesResult.mono _ _ _ _ _ _ _)
      | (with_reducible exact laws_szPairS.mono _ _ _)
      | (with_reducible exact laws_toPairS.mono _ _)
      | (with_reducible exact spec_ListFrom.mono _ _ _ _ _)
      | (with_reducible exact LeO.refl _)
      | (with_reducible exact LeO.none _)
      | (with_reducible refine LeO.ite ?_ ?_)
      | (with_reducible refine LeO.bind ?_ (fun _ => ?_))
      | exact ih0 _ _ _ _ _
      | exact ih1 _ _ _ _
      | exact ih2 _ _ _ _ _ _ _ _ _ _ _ _ _ _ _
      | exact ih3 _ _ _ _ _ _ _ _ _ _ _ _ _ _ _
      | exact ih4 _ _ _ _ _ _ _ _ _ _ _ _ _ _ _
      | exact ih5 _ _ _ _ _ _ _ _ _ _ _ _ _ _
      | exact ih6 _ _ _ _ _ _ _ _ _ _ _ _ _ _ _ _
      | exact ih7 _ _ _ _ _ _ _ _ _ _ _ _ _ _ _
      | exact ih8 _ _ _ _ _ _
      | exact impl_ListFrom.mono _ _ _ _ _
      | exact laws_eqPairS.mono _ _ _
      | exact laws_eqValuesResult.mono _ _ _ _ _ _ _ _ _ _ _
      | exact laws_heldValuesResult.mono _ _ _ _ _ _ _
      | exact laws_markPairS.mono _ _ _
      | exact laws_markValuesResult.mono _ _ _ _ _ _ _
      | exact laws_szPairS.mono _ _ _
      | exact laws_toPairS.mono _ _
      | exact spec_ListFrom.mono _ _ _ _ _
      | exact LeO.none _
      | refine LeO.ite ?_ ?_
      | refine LeO.bind ?_ (fun _ => ?_)
    · intro y0 y1 y2 y3 y4 y5 y6 y7 y8 y9 y10 y11 y12 y13 y14
      unfold laws_FnExactListFrom.j4
      repeat' first
      | (with_reducible exact ih0 _ _ _ _ _)
      | (with_reducible exact ih1 _ _ _ _)
      | (with_reducible exact ih2 _ _ _ _ _ _ _ _ _ _ _ _ _ _ _)
      | (with_reducible exact ih3 _ _ _ _ _ _ _ _ _ _ _ _ _ _ _)
      | (with_reducible exact ih4 _ _ _ _ _ _ _ _ _ _ _ _ _ _ _)
      | (with_reducible exact ih5 _ _ _ _ _ _ _ _ _ _ _ _ _ _)
      | (with_reducible exact ih6 _ _ _ _ _ _ _ _ _ _ _ _ _ _ _ _)
      | (with_reducible exact ih7 _ _ _ _ _ _ _ _ _ _ _ _ _ _ _)
      | (with_reducible exact ih8 _ _ _ _ _ _)
      | (with_reducible exact impl_ListFrom.mono _ _ _ _ _)
      | (with_reducible exact laws_eqPairS.mono _ _ _)
      | (with_reducible exact laws_eqValuesResult.mono _ _ _ _ _ _ _ _ _ _ _)
      | (with_reducible exact laws_heldValuesResult.mono _ _ _ _ _ _ _)
      | (with_reducible exact laws_markPairS.mono _ _ _)
      | (with_reducible exact laws_markValuesResult.mono _ _ _ _ _ _ _)
      | (with_reducible exact laws_szPairS.mono _ _ _)
      | (with_reducible exact laws_toPairS.mono _ _)
      | (with_reducible exact spec_ListFrom.mono _ _ _ _ _)
      | (with_reducible exact LeO.refl _)
      | (with_reducible exact LeO.none _)
      | (with_reducible refine LeO.ite ?_ ?_)
      | (with_reducible refine LeO.bind ?_ (fun _ => ?_))
      | exact ih0 _ _ _ _ _
      | exact ih1 _ _ _ _
      | exact ih2 _ _ _ _ _ _ _ _ _ _ _ _ _ _ _
      | exact ih3 _ _ _ _ _ _ _ _ _ _ _ _ _ _ _
      | exact ih4 _ _ _ _ _ _ _ _ _ _ _ _ _ _ _
      | exact ih5 _ _ _ _ _ _ _ _ _ _ _ _ _ _
      | exact ih6 _ _ _ _ _ _ _ _ _ _ _ _ _ _ _ _
      | exact ih7 _ _ _ _ _ _ _ _ _ _ _ _ _ _ _
      | exact ih8 _ _ _ _ _ _
      | exact impl_ListFrom.mono _ _ _ _ _
      | exact laws_eqPairS.mono _ _ _
      | exact laws_eqValuesResult.mono _ _ _ _ _ _ _ _ _ _ _
      | exact laws_heldValuesResult.mono _ _ _ _ _ _ _
      | exact laws_markPairS.mono _ _ _
      | exact laws_markValuesResult.mono _ _ _ _ _ _ _
      | exact laws_szPairS.mono _ _ _
      | exact laws_toPairS.mono _ _
      | exact spec_ListFrom.mono _ _ _ _ _
      | exact LeO.none _
      | refine LeO.ite ?_ ?_
      | refine LeO.bind ?_ (fun _ => ?_)
    · intro y0 y1 y2 y3 y4 y5 y6 y7 y8 y9 y10 y11 y12 y13
      unfold laws_FnExactListFrom.j5
      repeat' first
      | (with_reducible exact ih0 _ _ _ _ _)
      | (with_reducible exact ih1 _ _ _ _)
      | (with_reducible exact ih2 _ _ _ _ _ _ _ _ _ _ _ _ _ _ _)
      | (with_reducible exact ih3 _ _ _ _ _ _ _ _ _ _ _ _ _ _ _)
      | (with_reducible exact ih4 _ _ _ _ _ _ _ _ _ _ _ _ _ _ _)
      | (with_reducible exact ih5 _ _ _ _ _ _ _ _ _ _ _ _ _ _)
      | (with_reducible exact ih6 _ _ _ _ _ _ _ _ _ _ _ _ _ _ _ _)
      | (with_reducible exact ih7 _ _ _ _ _ _ _ _ _ _ _ _ _ _ _)
      | (with_reducible exact ih8 _ _ _ _ _ _)
      | (with_reducible exact impl_ListFrom.mono _ _ _ _ _)
      | (with_reducible exact laws_eqPairS.mono _ _ _)
      | (with_reducible exact laws_eqValuesResult.mono _ _ _ _ _ _ _ _ _ _ _)
      | (with_reducible exact laws_heldValuesResult.mono _ _ _ _ _ _ _)
      | (with_reducible exact laws_markPairS.mono _ _ _)
      | (with_reducible exact laws_markValuesResult.mono _ _ _ _ _ _ _)
      | (with_reducible exact laws_szPairS.mono _ _ _)
      | (with_reducible exact laws_toPairS.mono _ _)
      | (with_reducible exact spec_ListFrom.mono _ _ _ _ _)
      | (with_reducible exact LeO.refl _)
      | (with_reducible exact LeO.none _)
      | (with_reducible refine LeO.ite ?_ ?_)
      | (with_reducible refine LeO.bind ?_ (fun _ => ?_))
      | exact ih0 _ _ _ _ _
      | exact ih1 _ _ _ _
      | exact ih2 _ _ _ _ _ _ _ _ _ _ _ _ _ _ _
      | exact ih3 _ _ _ _ _ _ _ _ _ _ _ _ _ _ _
      | exact ih4 _ _ _ _ _ _ _ _ _ _ _ _ _ _ _
      | exact ih5 _ _ _ _ _ _ _ _ _ _ _ _ _ _
      | exact ih6 _ _ _ _ _ _ _ _ _ _ _ _ _ _ _ _
      | exact ih7 _ _ _ _ _ _ _ _ _ _ _ _ _ _ _
      | exact ih8 _ _ _ _ _ _
      | exact impl_ListFrom.mono _ _ _ _ _
      | exact laws_eqPairS.mono _ _ _
      | exact laws_eqValuesResult.mono _ _ _ _ _ _ _ _ _ _ _
      | exact laws_heldValuesResult.mono _ _ _ _ _ _ _
      | exact laws_markPairS.mono _ _ _
      | exact laws_markValuesResult.mono _ _ _ _ _ _ _
      | exact laws_szPairS.mono _ _ _
      | exact laws_toPairS.mono _ _
      | exact spec_ListFrom.mono _ _ _ _ _
      | exact LeO.none _
      | refine LeO.ite ?_ ?_
      | refine LeO.bind ?_ (fun _ => ?_)
    · intro y0 y1 y2 y3 y4 y5 y6 y7 y8 y9 y10 y11 y12 y13 y14 y15
      unfold laws_FnExactListFrom.j6
      repeat' first
      | (with_reducible exact ih0 _ _ _ _ _)
      | (with_reducible exact ih1 _ _ _ _)
      | (with_reducible exact ih2 _ _ _ _ _ _ _ _ _ _ _ _ _ _ _)
      | (with_reducible exact ih3 _ _ _ _ _ _ _ _ _ _ _ _ _ _ _)
      | (with_reducible exact ih4 _ _ _ _ _ _ _ _ _ _ _ _ _ _ _)
      | (with_reducible exact ih5 _ _ _ _ _ _ _ _ _ _ _ _ _ _)
      | (with_reducible exact ih6 _ _ _ _ _ _ _ _ _ _ _ _ _ _ _ _)
      | (with_reducible exact ih7 _ _ _ _ _ _ _ _ _ _ _ _ _ _ _)
      | (with_reducible exact ih8 _ _ _ _ _ _)
      | (with_reducible exact impl_ListFrom.mono _ _ _ _ _)
      | (with_reducible exact laws_eqPairS.mono _ _ _)
      | (with_reducible exact laws_eqValuesResult.mono _ _ _ _ _ _ _ _ _ _ _)
      | (with_reducible exact laws_heldValuesResult.mono _ _ _ _ _ _ _)
      | (with_reducible exact laws_markPairS.mono _ _ _)
      | (with_reducible exact laws_markValuesResult.mono _ _ _ _ _ _ _)
      | (with_reducible exact laws_szPairS.mono _ _ _)
      | (with_reducible exact laws_toPairS.mono _ _)
      | (with_reducible exact spec_ListFrom.mono _ _ _ _ _)
      | (with_reducible exact LeO.refl _)
      | (with_reducible exact LeO.none _)
      | (with_reducible refine LeO.ite ?_ ?_)
      | (with_reducible refine LeO.bind ?_ (fun _ => ?_))
      | exact ih0 _ _ _ _ _
      | exact ih1 _ _ _ _
      | exact ih2 _ _ _ _ _ _ _ _ _ _ _ _ _ _ _
      | exact ih3 _ _ _ _ _ _ _ _ _ _ _ _ _ _ _
      | exact ih4 _ _ _ _ _ _ _ _ _ _ _ _ _ _ _
      | exact ih5 _ _ _ _ _ _ _ _ _ _ _ _ _ _
      | exact ih6 _ _ _ _ _ _ _ _ _ _ _ _ _ _ _ _
      | exact ih7 _ _ _ _ _ _ _ _ _ _ _ _ _ _ _
      | exact ih8 _ _ _ _ _ _
      | exact impl_ListFrom.mono _ _ _ _ _
      | exact laws_eqPairS.mono _ _ _
      | exact laws_eqValuesResult.mono _ _ _ _ _ _ _ _ _ _ _
      | exact laws_heldValuesResult.mono _ _ _ _ _ _ _
      | exact laws_markPairS.mono _ _ _
      | exact laws_markValuesResult.mono _ _ _ _ _ _ _
      | exact laws_szPairS.mono _ _ _
      | exact laws_toPairS.mono _ _
      | exact spec_ListFrom.mono _ _ _ _ _
      | exact LeO.none _
      | refine LeO.ite ?_ ?_
      | refine LeO.bind ?_ (fun _ => ?_)
    · intro y0 y1 y2 y3 y4 y5 y6 y7 y8 y9 y10 y11 y12 y13 y14
      unfold laws_FnExactListFrom.j7
      repeat' first
      | (with_reducible exact ih0 _ _ _ _ _)
      | (with_reducible exact ih1 _ _ _ _)
      | (with_reducible exact ih2 _ _ _ _ _ _ _ _ _ _ _ _ _ _ _)
      | (with_reducible exact ih3 _ _ _ _ _ _ _ _ _ _ _ _ _ _ _)
      | (with_reducible exact ih4 _ _ _ _ _ _ _ _ _ _ _ _ _ _ _)
      | (with_reducible exact ih5 _ _ _ _ _ _ _ _ _ _ _ _ _ _)
      | (with_reducible exact ih6 _ _ _ _ _ _ _ _ _ _ _ _ _ _ _ _)
      | (with_reducible exact ih7 _ _ _ _ _ _ _ _ _ _ _ _ _ _ _)
      | (with_reducible exact ih8 _ _ _ _ _ _)
      | (with_reducible exact impl_ListFrom.mono _ _ _ _ _)
      | (with_reducible exact laws_eqPairS.mono _ _ _)
      | (with_reducible exact laws_eqValuesResult.mono _ _ _ _ _ _ _ _ _ _ _)
      | (with_reducible exact laws_heldValuesResult.mono _ _ _ _ _ _ _)
      | (with_reducible exact laws_markPairS.mono _ _ _)
      | (with_reducible exact laws_markValuesResult.mono _ _ _ _ _ _ _)
      | (with_reducible exact laws_szPairS.mono _ _ _)
      | (with_reducible exact laws_toPairS.mono _ _)
      | (with_reducible exact spec_ListFrom.mono _ _ _ _ _)
      | (with_reducible exact LeO.refl _)
      | (with_reducible exact LeO.none _)
      | (with_reducible refine LeO.ite ?_ ?_)
      | (with_reducible refine LeO.bind ?_ (fun _ => ?_))
      | exact ih0 _ _ _ _ _
      | exact ih1 _ _ _ _
      | exact ih2 _ _ _ _ _ _ _ _ _ _ _ _ _ _ _
      | exact ih3 _ _ _ _ _ _ _ _ _ _ _ _ _ _ _
      | exact ih4 _ _ _ _ _ _ _ _ _ _ _ _ _ _ _
      | exact ih5 _ _ _ _ _ _ _ _ _ _ _ _ _ _
      | exact ih6 _ _ _ _ _ _ _ _ _ _ _ _ _ _ _ _
      | exact ih7 _ _ _ _ _ _ _ _ _ _ _ _ _ _ _
      | exact ih8 _ _ _ _ _ _
      | exact impl_ListFrom.mono _ _ _ _ _
      | exact laws_eqPairS.mono _ _ _
      | exact laws_eqValuesResult.mono _ _ _ _ _ _ _ _ _ _ _
      | exact laws_heldValuesResult.mono _ _ _ _ _ _ _
      | exact laws_markPairS.mono _ _ _
      | exact laws_markValuesResult.mono _ _ _ _ _ _ _
      | exact laws_szPairS.mono _ _ _
      | exact laws_toPairS.mono _ _
      | exact spec_ListFrom.mono _ _ _ _ _
      | exact LeO.none _
      | refine LeO.ite ?_ ?_
      | refine LeO.bind ?_ (fun _ => ?_)
    · intro y0 y1 y2 y3 y4 y5
      unfold laws_FnExactListFrom.j8
      repeat' first
      | (with_reducible exact ih0 _ _ _ _ _)
      | (with_reducible exact ih1 _ _ _ _)
      | (with_reducible exact ih2 _ _ _ _ _ _ _ _ _ _ _ _ _ _ _)
      | (with_reducible exact ih3 _ _ _ _ _ _ _ _ _ _ _ _ _ _ _)
      | (with_reducible exact ih4 _ _ _ _ _ _ _ _ _ _ _ _ _ _ _)
      | (with_reducible exact ih5 _ _ _ _ _ _ _ _ _ _ _ _ _ _)
      | (with_reducible exact ih6 _ _ _ _ _ _ _ _ _ _ _ _ _ _ _ _)
      | (with_reducible exact ih7 _ _ _ _ _ _ _ _ _ _ _ _ _ _ _)
      | (with_reducible exact ih8 _ _ _ _ _ _)
      | (with_reducible exact impl_ListFrom.mono _ _ _ _ _)
      | (with_reducible exact laws_eqPairS.mono _ _ _)
      | (with_reducible exact laws_eqValuesResult.mono _ _ _ _ _ _ _ _ _ _ _)
      | (with_reducible exact laws_heldValuesResult.mono _ _ _ _ _ _ _)
      | (with_reducible exact laws_markPairS.mono _ _ _)
      | (with_reducible exact laws_markValuesResult.mono _ _ _ _ _ _ _)
      | (with_reducible exact laws_szPairS.mono _ _ _)
      | (with_reducible exact laws_toPairS.mono _ _)
      | (with_reducible exact spec_ListFrom.mono _ _ _ _ _)
      | (with_reducible exact LeO.refl _)
      | (with_reducible exact LeO.none _)
      | (with_reducible refine LeO.ite ?_ ?_)
      | (with_reducible refine LeO.bind ?_ (fun _ => ?_))
      | exact ih0 _ _ _ _ _
      | exact ih1 _ _ _ _
      | exact ih2 _ _ _ _ _ _ _ _ _ _ _ _ _ _ _
      | exact ih3 _ _ _ _ _ _ _ _ _ _ _ _ _ _ _
      | exact ih4 _ _ _ _ _ _ _ _ _ _ _ _ _ _ _
      | exact ih5 _ _ _ _ _ _ _ _ _ _ _ _ _ _
      | exact ih6 _ _ _ _ _ _ _ _ _ _ _ _ _ _ _ _
      | exact ih7 _ _ _ _ _ _ _ _ _ _ _ _ _ _ _
      | exact ih8 _ _ _ _ _ _
      | exact impl_ListFrom.mono _ _ _ _ _
      | exact laws_eqPairS.mono _ _ _
      | exact laws_eqValuesResult.mono _ _ _ _ _ _ _ _ _ _ _
      | exact laws_heldValuesResult.mono _ _ _ _ _ _ _
      | exact laws_markPairS.mono _ _ _
      | exact laws_markValuesResult.mono _ _ _ _ _ _ _
      | exact laws_szPairS.mono _ _ _
      | exact laws_toPairS.mono _ _
      | exact spec_ListFrom.mono _ _ _ _ _
      | exact LeO.none _
      | refine LeO.ite ?_ ?_
      | refine LeO.bind ?_ (fun _ => ?_)
theorem laws_FnExactListFrom.mono : ∀ a0 a1 a2 a3 k, LeO (laws_FnExactListFrom.f k a0 a1 a2 a3) (laws_FnExactListFrom.f (k + 1) a0 a1 a2 a3) := by
  intro a0 a1 a2 a3 k
  obtain ⟨ih0, ih1, ih2, ih3, ih4, ih5, ih6, ih7, ih8⟩ := laws_FnExactListFrom.mono_l k
  unfold laws_FnExactListFrom.f
  repeat' first
      | (with_reducible exact ih0 _ _ _ _ _)
      | (with_reducible exact ih1 _ _ _ _)
      | (with_reducible exact ih2 _ _ _ _ _ _ _ _ _ _ _ _ _ _ _)
      | (with_reducible exact ih3 _ _ _ _ _ _ _ _ _ _ _ _ _ _ _)
      | (with_reducible exact ih4 _ _ _ _ _ _ _ _ _ _ _ _ _ _ _)
      | (with_reducible exact ih5 _ _ _ _ _ _ _ _ _ _ _ _ _ _)
      | (with_reducible exact ih6 _ _ _ _ _ _ _ _ _ _ _ _ _ _ _ _)
      | (with_reducible exact ih7 _ _ _ _ _ _ _ _ _ _ _ _ _ _ _)
      | (with_reducible exact ih8 _ _ _ _ _ _)
      | (with_reducible exact impl_ListFrom.mono _ _ _ _ _)
      | (with_reducible exact laws_eqPairS.mono _ _ _)
      | (with_reducible exact laws_eqValuesResult.mono _ _ _ _ _ _ _ _ _ _ _)
      | (with_reducible exact laws_heldValuesResult.mono _ _ _ _ _ _ _)
      | (with_reducible exact laws_markPairS.mono _ _ _)
      | (with_reducible exact laws_markValuesResult.mono _ _ _ _ _ _ _)
      | (with_reducible exact laws_szPairS.mono _ _ _)
      | (with_reducible exact laws_toPairS.mono _ _)
      | (with_reducible exact spec_ListFrom.mono _ _ _ _ _)
      | (with_reducible exact LeO.refl _)
      | (with_reducible exact LeO.none _)
      | (with_reducible refine LeO.ite ?_ ?_)
      | (with_reducible refine LeO.bind ?_ (fun _ => ?_))
      | exact ih0 _ _ _ _ _
      | exact ih1 _ _ _ _
      | exact ih2 _ _ _ _ _ _ _ _ _ _ _ _ _ _ _
      | exact ih3 _ _ _ _ _ _ _ _ _ _ _ _ _ _ _
      | exact ih4 _ _ _ _ _ _ _ _ _ _ _ _ _ _ _
      | exact ih5 _ _ _ _ _ _ _ _ _ _ _ _ _ _
      | exact ih6 _ _ _ _ _ _ _ _ _ _ _ _ _ _ _ _
      | exact ih7 _ _ _ _ _ _ _ _ _ _ _ _ _ _ _
      | exact ih8 _ _ _ _ _ _
      | exact impl_ListFrom.mono _ _ _ _ _
      | exact laws_eqPairS.mono _ _ _
      | exact laws_eqValuesResult.mono _ _ _ _ _ _ _ _ _ _ _
      | exact laws_heldValuesResult.mono _ _ _ _ _ _ _
      | exact laws_markPairS.mono _ _ _
      | exact laws_markValuesResult.mono _ _ _ _ _ _ _
      | exact laws_szPairS.mono _ _ _
      | exact laws_toPairS.mono _ _
      | exact spec_ListFrom.mono _ _ _ _ _
      | exact LeO.none _
      | refine LeO.ite ?_ ?_
      | refine LeO.bind ?_ (fun _ => ?_)
set_option maxHeartbeats 8000000 in
set_option maxRecDepth 100000 in
theorem laws_FnExactListFrom.calls (k : Nat) (A0 : Option Addr) (c0 : Nat) (l0 : List (S108)) (a1_0 : Int) (a1_1 : Int) (a1_2 : ByteArray) (r : Bool) (w : World) (hr0 : Kd.C k108 w A0 l0.length l0) (hc0 : l0.length ≤ c0) (h : laws_FnExactListFrom.f k l0 a1_0 a1_1 a1_2 = some r) :
    Calls Tryd.prog 6 #[.slice A0 l0.length c0, .agg #[.int .i64 a1_0, .int .i64 a1_1, .string a1_2]] w fun e w' => e = .returned (.bool r) ∧ Below w.heap.size w w' := by
  have hu24 := Tryd.underlying24
  have hu61 := Tryd.underlying61
  have HR0 := ak hr0
  have HC0 := ak hc0
  clear hr0 hc0
  have HB := ak (Below.refl w.heap.size w)
  have H : ((laws_szPairS.f k l0 1048576).bind fun t607 => (if t607 < 0 then (some true) else (laws_FnExactListFrom.j0 k l0 t607 a1_0 a1_1 a1_2))) = some r := h
  clear h
  replace H := Option.bind_eq_some_iff.mp H
  obtain ⟨t607, A30, H⟩ := H
  replace H : (if t607 < 0 then (some true) else (laws_FnExactListFrom.j0 k l0 t607 a1_0 a1_1 a1_2)) = some r := H
  have A3 := ak A30
  clear A30
  have HC4 := ak H
  clear H
  go_enter Tryd.func6, Tryd.ntmps6
  go_upto_if 17 with (first | ((with_reducible refine gate_dst (N := 3) rfl ?_); refine box_event ?hg (N := 3) ?hd (cs := #[.int .i64 a1_0, .int .i64 a1_1, .string a1_2]) (t := 24) ?hr ?_; (case hd => rfl); (case hg => rfl); (case hr => first | (go_simp; done) | (go_simp; rfl)); intro gb606 hg w5 hbox hb; have n0_ := ak (below_step (by repeat (first | (with_reducible first | exact HB.out | apply below_alloc | apply pw_below_drewN | apply below_drew1) | exact HB.out)) hb); have n1_ := ak (hbox); have n2_ := ak ((by rw [hg]; exact (below_size (by repeat (first | (with_reducible first | exact HB.out | apply below_alloc | apply pw_below_drewN | apply below_drew1) | exact HB.out))) : w.heap.size ≤ gb606)); have n3_ := ak ((by rw [hg]; exact (below_size (by repeat (first | (with_reducible first | exact HB.out | apply below_alloc | apply pw_below_drewN | apply below_drew1) | exact HB.out))) : w.heap.size ≤ gb606)); clear HB; have HB := n0_; have BK606 := n1_; have GW606 := n2_; have GE606 := n3_; clear n0_ n1_ n2_ n3_ hb hbox hg) | ((with_reducible refine gate_callee (f := 30) rfl ?_); refine goesL_ (some 15) rfl rfl Tryd.func30 (by kernel_rfl) rfl #[.slice A0 l0.length c0, .int .i64 1048576] rfl d28_6 ?_; (with_reducible refine (laws_szPairS.calls k _ _ l0 1048576 t607 _ ?side1 ?side2 A3.out).mono ?_); (case side1 => repeat (first | exact (Kd.C_below HR0.out HB.out) | (with_reducible refine Kd.C_alloc ?_ _) | (with_reducible refine Kd.C_drewN ?_ _) | (with_reducible refine Kd.C_drew ?_))); (case side2 => exact HC0.out); rintro e w6 ⟨rfl, hb⟩; refine ⟨_, rfl, ?_⟩; have n0_ := ak (blk_below (g := gb606) (o := .cells #[.int .i64 a1_0, .int .i64 a1_1, .string a1_2] 24 (0, 0)) d28_1 hb); have n1_ := ak (below_step d28_8 hb); clear BK606 HB; have BK606 := n0_; have HB := n1_; clear n0_ n1_; (try clear hb)))
  (try simp only [Act.put, List.setIfInBounds_toArray, List.set_cons_zero, List.set_cons_succ])
  go_cut [] (fun wc => ∃ (kq : Nat), Aside0 (laws_FnExactListFrom.j0 kq l0 t607 a1_0 a1_1 a1_2 = some r) ∧ Aside0 (kq ≤ k) ∧ Aside0 (wc.heap[gb606]? = some (.cells #[.int .i64 a1_0, .int .i64 a1_1, .string a1_2] 24 (0, 0))) ∧ Aside0 (Below w.heap.size w wc))
  case first =>
   have H := HC4.out
   clear HC4
   by_cases c7 : t607 < 0
   ·rw [if_pos c7] at H
    have c7b0 : decide (t607 < 0) = true := decide_eq_true c7
    clear c7
    (first | rw [c7b0] | (simp only [i64_w, i32_w]; rw [c7b0]) | skip)
    obtain rfl := Option.some.inj H
    go_wp2
    go_ret
    exact ⟨by first | rfl | (simp [errW_none, errW_some] <;> rfl) | (simp [*, errW_none, errW_some] <;> rfl), by repeat (first | (with_reducible first | exact HB.out | apply below_alloc | apply pw_below_drewN | apply below_drew1 | refine below_set ?_ GE606.out) | exact HB.out)⟩
   ·rw [if_neg c7] at H
    have c7b0 : decide (t607 < 0) = false := decide_eq_false c7
    clear c7
    (first | rw [c7b0] | (simp only [i64_w, i32_w]; rw [c7b0]) | skip)
    have H' := ak H
    clear H
    go_wp2
    go_meet
    case rel => exact ⟨_, H', ⟨by first | omega | exact Nat.le_refl _⟩, ⟨by (with_reducible repeat (first | refine blk_drewN ?_ _ | refine blk_drew ?_ | refine blk_alloc ?_ _)); exact BK606.out⟩, ⟨by repeat (first | (with_reducible first | exact HB.out | apply below_alloc | apply pw_below_drewN | apply below_drew1 | refine below_set ?_ GE606.out) | exact HB.out)⟩⟩
  case rest =>
   clear HC4
   try clear c3
   try clear c6
   obtain ⟨kq, HA, HJ3, BK606, HB⟩ := hcut
   cases kq with
   | zero => exact absurd HA.out (by simp [laws_FnExactListFrom.j0])
   | succ kj3 =>
    have H := HA.out
    clear HA
    simp only [laws_FnExactListFrom.j0] at H
    replace H := Option.bind_eq_some_iff.mp H
    obtain ⟨t608, A80, H⟩ := H
    replace H : (if t608 < 0 then (some true) else (laws_FnExactListFrom.j1 kj3 l0 a1_0 a1_1 a1_2)) = some r := H
    have A8 := ak A80
    clear A80
    have HC9 := ak H
    clear H
    have hcz10_0 : wc.cell? ⟨gb606, 0, none⟩ = some (.int .i64 a1_0) := (blk_cell BK606.out 0).trans rfl
    have hcz10_1 : wc.cell? ⟨gb606, 1, none⟩ = some (.int .i64 a1_1) := (blk_cell BK606.out 1).trans rfl
    have hcz10_2 : wc.cell? ⟨gb606, 2, none⟩ = some (.string a1_2) := (blk_cell BK606.out 2).trans rfl
    have hfz10_0 := blk_frozen BK606.out 0
    have hfz10_1 := blk_frozen BK606.out 1
    have hfz10_2 := blk_frozen BK606.out 2
    go_upto_if 22 with (first | ((with_reducible refine gate_callee (f := 31) rfl ?_); refine goesL_ (some 20) rfl rfl Tryd.func31 (by kernel_rfl) rfl #[.agg #[.int .i64 a1_0, .int .i64 a1_1, .string a1_2], .int .i64 t607] rfl d28_6 ?_; (with_reducible refine (laws_szValue.calls a1_0 a1_1 a1_2 t607 t608 _ A8.out).mono ?_); rintro e w11 ⟨rfl, hb⟩; refine ⟨_, rfl, ?_⟩; have n0_ := ak (blk_below (g := gb606) (o := .cells #[.int .i64 a1_0, .int .i64 a1_1, .string a1_2] 24 (0, 0)) d28_1 hb); have n1_ := ak (below_step d28_8 hb); clear BK606 HB; have BK606 := n0_; have HB := n1_; clear n0_ n1_; (try clear hb)))
    (try simp only [Act.put, List.setIfInBounds_toArray, List.set_cons_zero, List.set_cons_succ])
    go_cut [] (fun wc => ∃ (kq : Nat), Aside0 (laws_FnExactListFrom.j1 kq l0 a1_0 a1_1 a1_2 = some r) ∧ Aside0 (kq ≤ kj3) ∧ Aside0 (wc.heap[gb606]? = some (.cells #[.int .i64 a1_0, .int .i64 a1_1, .string a1_2] 24 (0, 0))) ∧ Aside0 (Below w.heap.size w wc))
    case first =>
     have H := HC9.out
     clear HC9
     by_cases c12 : t608 < 0
     ·rw [if_pos c12] at H
      have c12b0 : decide (t608 < 0) = true := decide_eq_true c12
      clear c12
      (first | rw [c12b0] | (simp only [i64_w, i32_w]; rw [c12b0]) | skip)
      obtain rfl := Option.some.inj H
      go_wp2
      go_ret
      exact ⟨by first | rfl | (simp [errW_none, errW_some] <;> rfl) | (simp [*, errW_none, errW_some] <;> rfl), by repeat (first | (with_reducible first | exact HB.out | apply below_alloc | apply pw_below_drewN | apply below_drew1 | refine below_set ?_ GE606.out) | exact HB.out)⟩
     ·rw [if_neg c12] at H
      have c12b0 : decide (t608 < 0) = false := decide_eq_false c12
      clear c12
      (first | rw [c12b0] | (simp only [i64_w, i32_w]; rw [c12b0]) | skip)
      have H' := ak H
      clear H
      go_wp2
      go_meet
      case rel => exact ⟨_, H', ⟨by have := HJ3.out; first | omega | exact Nat.le_refl _⟩, ⟨by (with_reducible repeat (first | refine blk_drewN ?_ _ | refine blk_drew ?_ | refine blk_alloc ?_ _)); exact BK606.out⟩, ⟨by repeat (first | (with_reducible first | exact HB.out | apply below_alloc | apply pw_below_drewN | apply below_drew1 | refine below_set ?_ GE606.out) | exact HB.out)⟩⟩
    case rest =>
     clear HC9
     try clear p2
     try clear c3
     try clear c6
     try clear c7
     try clear c7b0
     try clear hcz10_0
     try clear hcz10_1
     try clear hcz10_2
     try clear hfz10_0
     try clear hfz10_1
     try clear hfz10_2
     obtain ⟨kq, HA, HJ8, BK606, HB⟩ := hcut
     cases kq with
     | zero => exact absurd HA.out (by simp [laws_FnExactListFrom.j1])
     | succ kj8 =>
      have H := HA.out
      clear HA
      simp only [laws_FnExactListFrom.j1] at H
      replace H := Option.bind_eq_some_iff.mp H
      obtain ⟨t609, A130, H⟩ := H
      replace H : ((laws_toValue.f a1_0 a1_1 a1_2).bind fun bt612 => ((spec_ListFrom.f kj8 t609 bt612.1 bt612.2.1 bt612.2.2).bind fun bt615 => ((laws_toPairS.f kj8 l0).bind fun t623 => ((laws_toValue.f a1_0 a1_1 a1_2).bind fun bt626 => ((impl_ListFrom.f kj8 t623 bt626.1 bt626.2.1 bt626.2.2).bind fun bt629 => ((laws_eqValuesResult.f kj8 bt629.1 bt629.2.1 bt629.2.2.1 bt629.2.2.2.1 bt629.2.2.2.2 bt615.1 bt615.2.1 bt615.2.2.1 bt615.2.2.2.1 bt615.2.2.2.2).bind fun t637 => (if t637 = true then (laws_FnExactListFrom.j2 kj8 l0 t623 a1_0 a1_1 a1_2 bt615.1 bt615.2.1 bt615.2.2.1 bt615.2.2.2.1 bt615.2.2.2.2 bt629.1 bt629.2.1 bt629.2.2.1 bt629.2.2.2.1 bt629.2.2.2.2) else (some false)))))))) = some r := H
      have A13 := ak A130
      clear A130
      replace H := Option.bind_eq_some_iff.mp H
      obtain ⟨⟨t612, t613, t614⟩, A140, H⟩ := H
      replace H : ((spec_ListFrom.f kj8 t609 t612 t613 t614).bind fun bt615 => ((laws_toPairS.f kj8 l0).bind fun t623 => ((laws_toValue.f a1_0 a1_1 a1_2).bind fun bt626 => ((impl_ListFrom.f kj8 t623 bt626.1 bt626.2.1 bt626.2.2).bind fun bt629 => ((laws_eqValuesResult.f kj8 bt629.1 bt629.2.1 bt629.2.2.1 bt629.2.2.2.1 bt629.2.2.2.2 bt615.1 bt615.2.1 bt615.2.2.1 bt615.2.2.2.1 bt615.2.2.2.2).bind fun t637 => (if t637 = true then (laws_FnExactListFrom.j2 kj8 l0 t623 a1_0 a1_1 a1_2 bt615.1 bt615.2.1 bt615.2.2.1 bt615.2.2.2.1 bt615.2.2.2.2 bt629.1 bt629.2.1 bt629.2.2.1 bt629.2.2.2.1 bt629.2.2.2.2) else (some false))))))) = some r := H
      have A14 := ak A140
      clear A140
      replace H := Option.bind_eq_some_iff.mp H
      obtain ⟨⟨t615, t616, t619, t620, t621⟩, A150, H⟩ := H
      replace H : ((laws_toPairS.f kj8 l0).bind fun t623 => ((laws_toValue.f a1_0 a1_1 a1_2).bind fun bt626 => ((impl_ListFrom.f kj8 t623 bt626.1 bt626.2.1 bt626.2.2).bind fun bt629 => ((laws_eqValuesResult.f kj8 bt629.1 bt629.2.1 bt629.2.2.1 bt629.2.2.2.1 bt629.2.2.2.2 t615 t616 t619 t620 t621).bind fun t637 => (if t637 = true then (laws_FnExactListFrom.j2 kj8 l0 t623 a1_0 a1_1 a1_2 t615 t616 t619 t620 t621 bt629.1 bt629.2.1 bt629.2.2.1 bt629.2.2.2.1 bt629.2.2.2.2) else (some false)))))) = some r := H
      have A15 := ak A150
      clear A150
      replace H := Option.bind_eq_some_iff.mp H
      obtain ⟨t623, A160, H⟩ := H
      replace H : ((laws_toValue.f a1_0 a1_1 a1_2).bind fun bt626 => ((impl_ListFrom.f kj8 t623 bt626.1 bt626.2.1 bt626.2.2).bind fun bt629 => ((laws_eqValuesResult.f kj8 bt629.1 bt629.2.1 bt629.2.2.1 bt629.2.2.2.1 bt629.2.2.2.2 t615 t616 t619 t620 t621).bind fun t637 => (if t637 = true then (laws_FnExactListFrom.j2 kj8 l0 t623 a1_0 a1_1 a1_2 t615 t616 t619 t620 t621 bt629.1 bt629.2.1 bt629.2.2.1 bt629.2.2.2.1 bt629.2.2.2.2) else (some false))))) = some r := H
      have A16 := ak A160
      clear A160
      replace H := Option.bind_eq_some_iff.mp H
      obtain ⟨⟨t626, t627, t628⟩, A170, H⟩ := H
      replace H : ((impl_ListFrom.f kj8 t623 t626 t627 t628).bind fun bt629 => ((laws_eqValuesResult.f kj8 bt629.1 bt629.2.1 bt629.2.2.1 bt629.2.2.2.1 bt629.2.2.2.2 t615 t616 t619 t620 t621).bind fun t637 => (if t637 = true then (laws_FnExactListFrom.j2 kj8 l0 t623 a1_0 a1_1 a1_2 t615 t616 t619 t620 t621 bt629.1 bt629.2.1 bt629.2.2.1 bt629.2.2.2.1 bt629.2.2.2.2) else (some false)))) = some r := H
      have A17 := ak A170
      clear A170
      replace H := Option.bind_eq_some_iff.mp H
      obtain ⟨⟨t629, t630, t633, t634, t635⟩, A180, H⟩ := H
      replace H : ((laws_eqValuesResult.f kj8 t629 t630 t633 t634 t635 t615 t616 t619 t620 t621).bind fun t637 => (if t637 = true then (laws_FnExactListFrom.j2 kj8 l0 t623 a1_0 a1_1 a1_2 t615 t616 t619 t620 t621 t629 t630 t633 t634 t635) else (some false))) = some r := H
      have A18 := ak A180
      clear A180
      replace H := Option.bind_eq_some_iff.mp H
      obtain ⟨t637, A190, H⟩ := H
      replace H : (if t637 = true then (laws_FnExactListFrom.j2 kj8 l0 t623 a1_0 a1_1 a1_2 t615 t616 t619 t620 t621 t629 t630 t633 t634 t635) else (some false)) = some r := H
      have A19 := ak A190
      clear A190
      have HC20 := ak H
      clear H
      try go_wp2
      have n0_ := ak (blk_drew BK606.out)
      have n1_ := ak (below_drew1 HB.out)
      clear BK606
      clear HB
      have BK606 := n0_
      have HB := n1_
      clear n0_ n1_
      refine start_ (n := 7) (S := fun w' => w'.cell? ⟨gb606, 0, none⟩ = some (.int .i64 a1_0) ∧ w'.cell? ⟨gb606, 1, none⟩ = some (.int .i64 a1_1) ∧ w'.cell? ⟨gb606, 2, none⟩ = some (.string a1_2)) (ds := []) #[false, false, false, false, false, false, false] (by kernel_rfl) rfl rfl ⟨(blk_cell BK606.out 0).trans rfl, (blk_cell BK606.out 1).trans rfl, (blk_cell BK606.out 2).trans rfl⟩ (fun hHeld => ?_)
      generalize wc.drew = w21 at BK606 HB hHeld ⊢
      refine pure_ (i := 0) (N := some 23) (v := ?_) (a' := ?_) #[true, false, false, false, false, false, false] rfl rfl (by kernel_rfl) (fun _ _ _ h => h) (Or.inl ⟨by rfl, ?_⟩) ?_ ?_
      rotate_left
      · intro w'
        go_simp
        with_reducible rfl
      rotate_left
      · simp only [Act.put, List.setIfInBounds_toArray, List.set_cons_zero, List.set_cons_succ, i64_w, i32_w]
        rfl
      refine take_ (i := 2) (N := some 25) (v := ?_) (a' := ?_) #[true, false, true, false, false, false, false] rfl rfl (by kernel_rfl) (fun _ _ _ h => h) (Or.inl ⟨by rfl, ?_⟩) hHeld ?_ ?_
      rotate_left
      · rintro w' ⟨s0, s1, s2⟩
        go_simp
        with_reducible rfl
      rotate_left
      · simp only [Act.put, List.setIfInBounds_toArray, List.set_cons_zero, List.set_cons_succ, i64_w, i32_w]
        rfl
      refine join_ (σ := Value × Value × Nat) 1 #[true, true, true, true, true, true, false] (fun s_ => [(24, s_.1), (26, .agg #[.int .i64 t612, .int .i64 t613, .string t614]), (27, .agg #[.int .i64 t615, s_.2.1, .int .i64 t619, .int .i64 t620, .string t621]), (6, .pointer (some ⟨s_.2.2, 0, none⟩))]) (fun s_ w' => (w'.cell? ⟨gb606, 0, none⟩ = some (.int .i64 a1_0) ∧ w'.cell? ⟨gb606, 1, none⟩ = some (.int .i64 a1_1) ∧ w'.cell? ⟨gb606, 2, none⟩ = some (.string a1_2)) ∧ (Kd.R k112 112 w' w.heap.size (fun _ => True) s_.1 t609) ∧ (Kd.R k32 32 w' w.heap.size (fun _ => True) s_.2.1 t616) ∧ (w'.heap[gb606]? = some (.cells #[.int .i64 a1_0, .int .i64 a1_1, .string a1_2] 24 (0, 0))) ∧ (w'.heap[s_.2.2]? = some (.cells #[.int .i64 0, .slice none 0 0, .int .i64 0, .int .i64 0, .string (⟨#[]⟩ : ByteArray)] 61 (0, 0))) ∧ (w.heap.size ≤ s_.2.2) ∧ (w.heap.size ≤ s_.2.2) ∧ (gb606 ≠ s_.2.2) ∧ (s_.2.2 ≠ gb606) ∧ (Below w.heap.size w w')) ?_ ?_
      rotate_left
      · intro hCont
        refine two_ (i := 1) (j := 5) (Ni := some 24) (Nj := some 6) #[true, true, true, false, false, false, false] #[true, false, true, false, false, true, false] rfl rfl rfl rfl (by kernel_rfl) (by decide) (by decide) (fun K hK => ?_) (fun K hK => ?_)
        · skip
          refine goes_ Tryd.func33 (by kernel_rfl) rfl #[.slice A0 l0.length c0] (by rfl) rfl rfl d28_6 ?_
          with_reducible refine (laws_toPairS.calls kj8 _ _ l0 t609 _ ?side1 ?side2 A13.out).mono ?_
          (case side1 => repeat (first | exact (Kd.C_below HR0.out HB.out) | (with_reducible refine Kd.C_alloc ?_ _) | (with_reducible refine Kd.C_drewN ?_ _) | (with_reducible refine Kd.C_drew ?_)))
          (case side2 => exact HC0.out)
          rintro e w22 ⟨v610, rfl, ho0, hb⟩
          refine ⟨_, rfl, ?_⟩
          have n0_ := ak (Kd.R_lower ho0 (below_size d28_8))
          have n1_ := ak (blk_below (g := gb606) (o := .cells #[.int .i64 a1_0, .int .i64 a1_1, .string a1_2] 24 (0, 0)) d28_1 hb)
          have n2_ := ak (below_step d28_8 hb)
          clear BK606
          clear HB
          have HO611 := n0_
          have BK606 := n1_
          have HB := n2_
          clear n0_ n1_ n2_
          (try clear hb)
          (try clear hb2)
          (try clear hk)
          (try clear hi)
          (try clear ho0)
          refine hK.out _ _ ⟨(blk_cell BK606.out 0).trans rfl, (blk_cell BK606.out 1).trans rfl, (blk_cell BK606.out 2).trans rfl⟩ (fun hHeld => ?_)
          clear hK K
          refine norm_ (a' := ?_) ?_ ?_
          rotate_left
          · show Act.put _ (some 24) _ = _
            simp only [Act.put, List.setIfInBounds_toArray, List.set_cons_zero, List.set_cons_succ, i64_w, i32_w]
            rfl
          refine two_ (i := 3) (j := 5) (Ni := some 26) (Nj := some 6) #[true, true, true, true, false, false, false] #[true, true, true, false, false, true, false] rfl rfl rfl rfl (by kernel_rfl) (by decide) (by decide) (fun K hK => ?_) (fun K hK => ?_)
          · skip
            refine goes_ Tryd.func34 (by kernel_rfl) rfl #[.agg #[.int .i64 a1_0, .int .i64 a1_1, .string a1_2]] (by rfl) rfl rfl d28_6 ?_
            with_reducible refine (laws_toValue.calls a1_0 a1_1 a1_2 t612 t613 t614 _ A14.out).mono ?_
            rintro e w23 ⟨rfl, hb⟩
            refine ⟨_, rfl, ?_⟩
            have n0_ := ak (Kd.R_below d28_11 hb)
            have n1_ := ak (blk_below (g := gb606) (o := .cells #[.int .i64 a1_0, .int .i64 a1_1, .string a1_2] 24 (0, 0)) d28_1 hb)
            have n2_ := ak (below_step d28_8 hb)
            clear HO611
            clear BK606
            clear HB
            have HO611 := n0_
            have BK606 := n1_
            have HB := n2_
            clear n0_ n1_ n2_
            (try clear hb)
            (try clear hb2)
            (try clear hk)
            (try clear hi)
            obtain ⟨Ao24, co24, eo24⟩ := Kd.R_slice HO611.out
            (first | subst eo24 | (injection eo24 with f1_ f2_ f3_; have f4_ := f1_.symm; have f5_ := f3_.symm; clear f1_ f2_ f3_; subst f4_; subst f5_))
            refine hK.out _ _ ⟨(blk_cell BK606.out 0).trans rfl, (blk_cell BK606.out 1).trans rfl, (blk_cell BK606.out 2).trans rfl⟩ (fun hHeld => ?_)
            clear hK K
            refine norm_ (a' := ?_) ?_ ?_
            rotate_left
            · show Act.put _ (some 26) _ = _
              simp only [Act.put, List.setIfInBounds_toArray, List.set_cons_zero, List.set_cons_succ, i64_w, i32_w]
              rfl
            refine two_ (i := 4) (j := 5) (Ni := some 27) (Nj := some 6) #[true, true, true, true, true, false, false] #[true, true, true, true, false, true, false] rfl rfl rfl rfl (by kernel_rfl) (by decide) (by decide) (fun K hK => ?_) (fun K hK => ?_)
            · skip
              refine goes_ Tryd.func32 (by kernel_rfl) rfl #[.slice Ao24 t609.length co24, .agg #[.int .i64 t612, .int .i64 t613, .string t614]] (by rfl) rfl rfl d28_6 ?_
              with_reducible refine (spec_ListFrom.calls kj8 _ _ t609 t612 t613 t614 t615 t616 t619 t620 t621 _ ?side1 ?side2 A15.out).mono ?_
              (case side1 => repeat (first | exact (Kd.R_reads' HO611.out).2.2 | (with_reducible refine Kd.C_alloc ?_ _) | (with_reducible refine Kd.C_drewN ?_ _) | (with_reducible refine Kd.C_drew ?_)))
              (case side2 => exact (Kd.R_reads' HO611.out).2.1)
              rintro e w25 ⟨v617, rfl, ho0, hb⟩
              refine ⟨_, rfl, ?_⟩
              have n0_ := ak (Kd.R_below d28_11 hb)
              have n1_ := ak (Kd.R_lower ho0 (below_size d28_8))
              have n2_ := ak (blk_below (g := gb606) (o := .cells #[.int .i64 a1_0, .int .i64 a1_1, .string a1_2] 24 (0, 0)) d28_1 hb)
              have n3_ := ak (below_step d28_8 hb)
              clear HO611
              clear BK606
              clear HB
              have HO611 := n0_
              have HO618 := n1_
              have BK606 := n2_
              have HB := n3_
              clear n0_ n1_ n2_ n3_
              (try clear hb)
              (try clear hb2)
              (try clear hk)
              (try clear hi)
              (try clear ho0)
              refine hK.out _ _ ⟨(blk_cell BK606.out 0).trans rfl, (blk_cell BK606.out 1).trans rfl, (blk_cell BK606.out 2).trans rfl⟩ (fun hHeld => ?_)
              clear hK K
              refine norm_ (a' := ?_) ?_ ?_
              rotate_left
              · show Act.put _ (some 27) _ = _
                simp only [Act.put, List.setIfInBounds_toArray, List.set_cons_zero, List.set_cons_succ, i64_w, i32_w]
                rfl
              refine one_ (i := 5) (N := some 6) #[true, true, true, true, true, true, false] rfl rfl (by kernel_rfl) (by decide) (fun K hK => ?_)
              refine box_step ?hg (N := 6) ?hd (cs := #[.int .i64 0, .slice none 0 0, .int .i64 0, .int .i64 0, .string (⟨#[]⟩ : ByteArray)]) (t := 61) ?hr ?_; (case hd => rfl); (case hg => rfl); (case hr => first | (go_simp; done) | (go_simp; rfl))
              intro gb622 hg w26 hbox hb
              have n0_ := ak (Kd.R_below d28_11 hb)
              have n1_ := ak (Kd.R_below d28_14 hb)
              have n2_ := ak (blk_below (g := gb606) (o := .cells #[.int .i64 a1_0, .int .i64 a1_1, .string a1_2] 24 (0, 0)) d28_1 hb)
              have n3_ := ak (below_step d28_8 hb)
              have n4_ := ak (hbox)
              have n5_ := ak ((by rw [hg]; exact (below_size d28_8) : w.heap.size ≤ gb622))
              have n6_ := ak ((by rw [hg]; exact (below_size d28_8) : w.heap.size ≤ gb622))
              have n7_ := ak ((by rw [hg]; exact Nat.ne_of_lt (blk_lt (g := gb606) (o := .cells #[.int .i64 a1_0, .int .i64 a1_1, .string a1_2] 24 (0, 0)) d28_1) : gb606 ≠ gb622))
              have n8_ := ak ((by rw [hg]; exact Nat.ne_of_gt (blk_lt (g := gb606) (o := .cells #[.int .i64 a1_0, .int .i64 a1_1, .string a1_2] 24 (0, 0)) d28_1) : gb622 ≠ gb606))
              clear HO611
              clear HO618
              clear BK606
              clear HB
              have HO611 := n0_
              have HO618 := n1_
              have BK606 := n2_
              have HB := n3_
              have BK622 := n4_
              have GW622 := n5_
              have GE622 := n6_
              have NB606_622 := n7_
              have NB622_606 := n8_
              clear n0_ n1_ n2_ n3_ n4_ n5_ n6_ n7_ n8_
              clear hb hbox hg
              refine hK.out _ _ ⟨(blk_cell BK606.out 0).trans rfl, (blk_cell BK606.out 1).trans rfl, (blk_cell BK606.out 2).trans rfl⟩ (fun hHeld => ?_)
              clear hK K
              refine norm_ (a' := ?_) ?_ ?_
              rotate_left
              · show Act.put _ (some 6) _ = _
                simp only [Act.put, List.setIfInBounds_toArray, List.set_cons_zero, List.set_cons_succ, i64_w, i32_w]
                rfl
              exact norm_ d28_15 (hCont (.slice Ao24 t609.length co24, v617, gb622) _ ⟨hHeld, d28_11, d28_14, d28_1, d28_2, GW622.out, GE622.out, NB606_622.out, NB622_606.out, d28_5⟩)
            · skip
              refine box_step ?hg (N := 6) ?hd (cs := #[.int .i64 0, .slice none 0 0, .int .i64 0, .int .i64 0, .string (⟨#[]⟩ : ByteArray)]) (t := 61) ?hr ?_; (case hd => rfl); (case hg => rfl); (case hr => first | (go_simp; done) | (go_simp; rfl))
              intro gb622 hg w24 hbox hb
              have n0_ := ak (Kd.R_below d28_11 hb)
              have n1_ := ak (blk_below (g := gb606) (o := .cells #[.int .i64 a1_0, .int .i64 a1_1, .string a1_2] 24 (0, 0)) d28_1 hb)
              have n2_ := ak (below_step d28_8 hb)
              have n3_ := ak (hbox)
              have n4_ := ak ((by rw [hg]; exact (below_size d28_8) : w.heap.size ≤ gb622))
              have n5_ := ak ((by rw [hg]; exact (below_size d28_8) : w.heap.size ≤ gb622))
              have n6_ := ak ((by rw [hg]; exact Nat.ne_of_lt (blk_lt (g := gb606) (o := .cells #[.int .i64 a1_0, .int .i64 a1_1, .string a1_2] 24 (0, 0)) d28_1) : gb606 ≠ gb622))
              have n7_ := ak ((by rw [hg]; exact Nat.ne_of_gt (blk_lt (g := gb606) (o := .cells #[.int .i64 a1_0, .int .i64 a1_1, .string a1_2] 24 (0, 0)) d28_1) : gb622 ≠ gb606))
              clear HO611
              clear BK606
              clear HB
              have HO611 := n0_
              have BK606 := n1_
              have HB := n2_
              have BK622 := n3_
              have GW622 := n4_
              have GE622 := n5_
              have NB606_622 := n6_
              have NB622_606 := n7_
              clear n0_ n1_ n2_ n3_ n4_ n5_ n6_ n7_
              clear hb hbox hg
              obtain ⟨Ao25, co25, eo25⟩ := Kd.R_slice HO611.out
              (first | subst eo25 | (injection eo25 with f1_ f2_ f3_; have f4_ := f1_.symm; have f5_ := f3_.symm; clear f1_ f2_ f3_; subst f4_; subst f5_))
              refine hK.out _ _ ⟨(blk_cell BK606.out 0).trans rfl, (blk_cell BK606.out 1).trans rfl, (blk_cell BK606.out 2).trans rfl⟩ (fun hHeld => ?_)
              clear hK K
              refine norm_ (a' := ?_) ?_ ?_
              rotate_left
              · show Act.put _ (some 6) _ = _
                simp only [Act.put, List.setIfInBounds_toArray, List.set_cons_zero, List.set_cons_succ, i64_w, i32_w]
                rfl
              refine one_ (i := 4) (N := some 27) #[true, true, true, true, true, true, false] rfl rfl (by kernel_rfl) (by decide) (fun K hK => ?_)
              refine goes_ Tryd.func32 (by kernel_rfl) rfl #[.slice Ao25 t609.length co25, .agg #[.int .i64 t612, .int .i64 t613, .string t614]] (by rfl) rfl rfl d28_6 ?_
              with_reducible refine (spec_ListFrom.calls kj8 _ _ t609 t612 t613 t614 t615 t616 t619 t620 t621 _ ?side1 ?side2 A15.out).mono ?_
              (case side1 => repeat (first | exact (Kd.R_reads' HO611.out).2.2 | (with_reducible refine Kd.C_alloc ?_ _) | (with_reducible refine Kd.C_drewN ?_ _) | (with_reducible refine Kd.C_drew ?_)))
              (case side2 => exact (Kd.R_reads' HO611.out).2.1)
              rintro e w26 ⟨v617, rfl, ho0, hb⟩
              refine ⟨_, rfl, ?_⟩
              have n0_ := ak (Kd.R_below d28_11 hb)
              have n1_ := ak (Kd.R_lower ho0 (below_size d28_5))
              have n2_ := ak (blk_below (g := gb606) (o := .cells #[.int .i64 a1_0, .int .i64 a1_1, .string a1_2] 24 (0, 0)) d28_1 hb)
              have n3_ := ak (blk_below (g := gb622) (o := .cells #[.int .i64 0, .slice none 0 0, .int .i64 0, .int .i64 0, .string (⟨#[]⟩ : ByteArray)] 61 (0, 0)) d28_2 hb)
              have n4_ := ak (below_step d28_5 hb)
              clear HO611
              clear BK606
              clear BK622
              clear HB
              have HO611 := n0_
              have HO618 := n1_
              have BK606 := n2_
              have BK622 := n3_
              have HB := n4_
              clear n0_ n1_ n2_ n3_ n4_
              (try clear hb)
              (try clear hb2)
              (try clear hk)
              (try clear hi)
              (try clear ho0)
              refine hK.out _ _ ⟨(blk_cell BK606.out 0).trans rfl, (blk_cell BK606.out 1).trans rfl, (blk_cell BK606.out 2).trans rfl⟩ (fun hHeld => ?_)
              clear hK K
              refine norm_ (a' := ?_) ?_ ?_
              rotate_left
              · show Act.put _ (some 27) _ = _
                simp only [Act.put, List.setIfInBounds_toArray, List.set_cons_zero, List.set_cons_succ, i64_w, i32_w]
                rfl
              exact norm_ d28_15 (hCont (.slice Ao25 t609.length co25, v617, gb622) _ ⟨hHeld, d28_11, d28_14, d28_1, d28_2, GW622.out, GE622.out, NB606_622.out, NB622_606.out, d28_5⟩)
          · skip
            refine box_step ?hg (N := 6) ?hd (cs := #[.int .i64 0, .slice none 0 0, .int .i64 0, .int .i64 0, .string (⟨#[]⟩ : ByteArray)]) (t := 61) ?hr ?_; (case hd => rfl); (case hg => rfl); (case hr => first | (go_simp; done) | (go_simp; rfl))
            intro gb622 hg w23 hbox hb
            have n0_ := ak (Kd.R_below d28_11 hb)
            have n1_ := ak (blk_below (g := gb606) (o := .cells #[.int .i64 a1_0, .int .i64 a1_1, .string a1_2] 24 (0, 0)) d28_1 hb)
            have n2_ := ak (below_step d28_8 hb)
            have n3_ := ak (hbox)
            have n4_ := ak ((by rw [hg]; exact (below_size d28_8) : w.heap.size ≤ gb622))
            have n5_ := ak ((by rw [hg]; exact (below_size d28_8) : w.heap.size ≤ gb622))
            have n6_ := ak ((by rw [hg]; exact Nat.ne_of_lt (blk_lt (g := gb606) (o := .cells #[.int .i64 a1_0, .int .i64 a1_1, .string a1_2] 24 (0, 0)) d28_1) : gb606 ≠ gb622))
            have n7_ := ak ((by rw [hg]; exact Nat.ne_of_gt (blk_lt (g := gb606) (o := .cells #[.int .i64 a1_0, .int .i64 a1_1, .string a1_2] 24 (0, 0)) d28_1) : gb622 ≠ gb606))
            clear HO611
            clear BK606
            clear HB
            have HO611 := n0_
            have BK606 := n1_
            have HB := n2_
            have BK622 := n3_
            have GW622 := n4_
            have GE622 := n5_
            have NB606_622 := n6_
            have NB622_606 := n7_
            clear n0_ n1_ n2_ n3_ n4_ n5_ n6_ n7_
            clear hb hbox hg
            refine hK.out _ _ ⟨(blk_cell BK606.out 0).trans rfl, (blk_cell BK606.out 1).trans rfl, (blk_cell BK606.out 2).trans rfl⟩ (fun hHeld => ?_)
            clear hK K
            refine norm_ (a' := ?_) ?_ ?_
            rotate_left
            · show Act.put _ (some 6) _ = _
              simp only [Act.put, List.setIfInBounds_toArray, List.set_cons_zero, List.set_cons_succ, i64_w, i32_w]
              rfl
            refine one_ (i := 3) (N := some 26) #[true, true, true, true, false, true, false] rfl rfl (by kernel_rfl) (by decide) (fun K hK => ?_)
            refine goes_ Tryd.func34 (by kernel_rfl) rfl #[.agg #[.int .i64 a1_0, .int .i64 a1_1, .string a1_2]] (by rfl) rfl rfl d28_6 ?_
            with_reducible refine (laws_toValue.calls a1_0 a1_1 a1_2 t612 t613 t614 _ A14.out).mono ?_
            rintro e w24 ⟨rfl, hb⟩
            refine ⟨_, rfl, ?_⟩
            have n0_ := ak (Kd.R_below d28_11 hb)
            have n1_ := ak (blk_below (g := gb606) (o := .cells #[.int .i64 a1_0, .int .i64 a1_1, .string a1_2] 24 (0, 0)) d28_1 hb)
            have n2_ := ak (blk_below (g := gb622) (o := .cells #[.int .i64 0, .slice none 0 0, .int .i64 0, .int .i64 0, .string (⟨#[]⟩ : ByteArray)] 61 (0, 0)) d28_2 hb)
            have n3_ := ak (below_step d28_5 hb)
            clear HO611
            clear BK606
            clear BK622
            clear HB
            have HO611 := n0_
            have BK606 := n1_
            have BK622 := n2_
            have HB := n3_
            clear n0_ n1_ n2_ n3_
            (try clear hb)
            (try clear hb2)
            (try clear hk)
            (try clear hi)
            obtain ⟨Ao25, co25, eo25⟩ := Kd.R_slice HO611.out
            (first | subst eo25 | (injection eo25 with f1_ f2_ f3_; have f4_ := f1_.symm; have f5_ := f3_.symm; clear f1_ f2_ f3_; subst f4_; subst f5_))
            refine hK.out _ _ ⟨(blk_cell BK606.out 0).trans rfl, (blk_cell BK606.out 1).trans rfl, (blk_cell BK606.out 2).trans rfl⟩ (fun hHeld => ?_)
            clear hK K
            refine norm_ (a' := ?_) ?_ ?_
            rotate_left
            · show Act.put _ (some 26) _ = _
              simp only [Act.put, List.setIfInBounds_toArray, List.set_cons_zero, List.set_cons_succ, i64_w, i32_w]
              rfl
            refine one_ (i := 4) (N := some 27) #[true, true, true, true, true, true, false] rfl rfl (by kernel_rfl) (by decide) (fun K hK => ?_)
            refine goes_ Tryd.func32 (by kernel_rfl) rfl #[.slice Ao25 t609.length co25, .agg #[.int .i64 t612, .int .i64 t613, .string t614]] (by rfl) rfl rfl d28_6 ?_
            with_reducible refine (spec_ListFrom.calls kj8 _ _ t609 t612 t613 t614 t615 t616 t619 t620 t621 _ ?side1 ?side2 A15.out).mono ?_
            (case side1 => repeat (first | exact (Kd.R_reads' HO611.out).2.2 | (with_reducible refine Kd.C_alloc ?_ _) | (with_reducible refine Kd.C_drewN ?_ _) | (with_reducible refine Kd.C_drew ?_)))
            (case side2 => exact (Kd.R_reads' HO611.out).2.1)
            rintro e w26 ⟨v617, rfl, ho0, hb⟩
            refine ⟨_, rfl, ?_⟩
            have n0_ := ak (Kd.R_below d28_11 hb)
            have n1_ := ak (Kd.R_lower ho0 (below_size d28_5))
            have n2_ := ak (blk_below (g := gb606) (o := .cells #[.int .i64 a1_0, .int .i64 a1_1, .string a1_2] 24 (0, 0)) d28_1 hb)
            have n3_ := ak (blk_below (g := gb622) (o := .cells #[.int .i64 0, .slice none 0 0, .int .i64 0, .int .i64 0, .string (⟨#[]⟩ : ByteArray)] 61 (0, 0)) d28_2 hb)
            have n4_ := ak (below_step d28_5 hb)
            clear HO611
            clear BK606
            clear BK622
            clear HB
            have HO611 := n0_
            have HO618 := n1_
            have BK606 := n2_
            have BK622 := n3_
            have HB := n4_
            clear n0_ n1_ n2_ n3_ n4_
            (try clear hb)
            (try clear hb2)
            (try clear hk)
            (try clear hi)
            (try clear ho0)
            refine hK.out _ _ ⟨(blk_cell BK606.out 0).trans rfl, (blk_cell BK606.out 1).trans rfl, (blk_cell BK606.out 2).trans rfl⟩ (fun hHeld => ?_)
            clear hK K
            refine norm_ (a' := ?_) ?_ ?_
            rotate_left
            · show Act.put _ (some 27) _ = _
              simp only [Act.put, List.setIfInBounds_toArray, List.set_cons_zero, List.set_cons_succ, i64_w, i32_w]
              rfl
            exact norm_ d28_15 (hCont (.slice Ao25 t609.length co25, v617, gb622) _ ⟨hHeld, d28_11, d28_14, d28_1, d28_2, GW622.out, GE622.out, NB606_622.out, NB622_606.out, d28_5⟩)
        · skip
          refine box_step ?hg (N := 6) ?hd (cs := #[.int .i64 0, .slice none 0 0, .int .i64 0, .int .i64 0, .string (⟨#[]⟩ : ByteArray)]) (t := 61) ?hr ?_; (case hd => rfl); (case hg => rfl); (case hr => first | (go_simp; done) | (go_simp; rfl))
          intro gb622 hg w22 hbox hb
          have n0_ := ak (blk_below (g := gb606) (o := .cells #[.int .i64 a1_0, .int .i64 a1_1, .string a1_2] 24 (0, 0)) d28_1 hb)
          have n1_ := ak (below_step d28_8 hb)
          have n2_ := ak (hbox)
          have n3_ := ak ((by rw [hg]; exact (below_size d28_8) : w.heap.size ≤ gb622))
          have n4_ := ak ((by rw [hg]; exact (below_size d28_8) : w.heap.size ≤ gb622))
          have n5_ := ak ((by rw [hg]; exact Nat.ne_of_lt (blk_lt (g := gb606) (o := .cells #[.int .i64 a1_0, .int .i64 a1_1, .string a1_2] 24 (0, 0)) d28_1) : gb606 ≠ gb622))
          have n6_ := ak ((by rw [hg]; exact Nat.ne_of_gt (blk_lt (g := gb606) (o := .cells #[.int .i64 a1_0, .int .i64 a1_1, .string a1_2] 24 (0, 0)) d28_1) : gb622 ≠ gb606))
          clear BK606
          clear HB
          have BK606 := n0_
          have HB := n1_
          have BK622 := n2_
          have GW622 := n3_
          have GE622 := n4_
          have NB606_622 := n5_
          have NB622_606 := n6_
          clear n0_ n1_ n2_ n3_ n4_ n5_ n6_
          clear hb hbox hg
          refine hK.out _ _ ⟨(blk_cell BK606.out 0).trans rfl, (blk_cell BK606.out 1).trans rfl, (blk_cell BK606.out 2).trans rfl⟩ (fun hHeld => ?_)
          clear hK K
          refine norm_ (a' := ?_) ?_ ?_
          rotate_left
          · show Act.put _ (some 6) _ = _
            simp only [Act.put, List.setIfInBounds_toArray, List.set_cons_zero, List.set_cons_succ, i64_w, i32_w]
            rfl
          refine one_ (i := 1) (N := some 24) #[true, true, true, false, false, true, false] rfl rfl (by kernel_rfl) (by decide) (fun K hK => ?_)
          refine goes_ Tryd.func33 (by kernel_rfl) rfl #[.slice A0 l0.length c0] (by rfl) rfl rfl d28_6 ?_
          with_reducible refine (laws_toPairS.calls kj8 _ _ l0 t609 _ ?side1 ?side2 A13.out).mono ?_
          (case side1 => repeat (first | exact (Kd.C_below HR0.out HB.out) | (with_reducible refine Kd.C_alloc ?_ _) | (with_reducible refine Kd.C_drewN ?_ _) | (with_reducible refine Kd.C_drew ?_)))
          (case side2 => exact HC0.out)
          rintro e w23 ⟨v610, rfl, ho0, hb⟩
          refine ⟨_, rfl, ?_⟩
          have n0_ := ak (Kd.R_lower ho0 (below_size d28_5))
          have n1_ := ak (blk_below (g := gb606) (o := .cells #[.int .i64 a1_0, .int .i64 a1_1, .string a1_2] 24 (0, 0)) d28_1 hb)
          have n2_ := ak (blk_below (g := gb622) (o := .cells #[.int .i64 0, .slice none 0 0, .int .i64 0, .int .i64 0, .string (⟨#[]⟩ : ByteArray)] 61 (0, 0)) d28_2 hb)
          have n3_ := ak (below_step d28_5 hb)
          clear BK606
          clear BK622
          clear HB
          have HO611 := n0_
          have BK606 := n1_
          have BK622 := n2_
          have HB := n3_
          clear n0_ n1_ n2_ n3_
          (try clear hb)
          (try clear hb2)
          (try clear hk)
          (try clear hi)
          (try clear ho0)
          refine hK.out _ _ ⟨(blk_cell BK606.out 0).trans rfl, (blk_cell BK606.out 1).trans rfl, (blk_cell BK606.out 2).trans rfl⟩ (fun hHeld => ?_)
          clear hK K
          refine norm_ (a' := ?_) ?_ ?_
          rotate_left
          · show Act.put _ (some 24) _ = _
            simp only [Act.put, List.setIfInBounds_toArray, List.set_cons_zero, List.set_cons_succ, i64_w, i32_w]
            rfl
          refine one_ (i := 3) (N := some 26) #[true, true, true, true, false, true, false] rfl rfl (by kernel_rfl) (by decide) (fun K hK => ?_)
          refine goes_ Tryd.func34 (by kernel_rfl) rfl #[.agg #[.int .i64 a1_0, .int .i64 a1_1, .string a1_2]] (by rfl) rfl rfl d28_6 ?_
          with_reducible refine (laws_toValue.calls a1_0 a1_1 a1_2 t612 t613 t614 _ A14.out).mono ?_
          rintro e w24 ⟨rfl, hb⟩
          refine ⟨_, rfl, ?_⟩
          have n0_ := ak (Kd.R_below d28_11 hb)
          have n1_ := ak (blk_below (g := gb606) (o := .cells #[.int .i64 a1_0, .int .i64 a1_1, .string a1_2] 24 (0, 0)) d28_1 hb)
          have n2_ := ak (blk_below (g := gb622) (o := .cells #[.int .i64 0, .slice none 0 0, .int .i64 0, .int .i64 0, .string (⟨#[]⟩ : ByteArray)] 61 (0, 0)) d28_2 hb)
          have n3_ := ak (below_step d28_5 hb)
          clear HO611
          clear BK606
          clear BK622
          clear HB
          have HO611 := n0_
          have BK606 := n1_
          have BK622 := n2_
          have HB := n3_
          clear n0_ n1_ n2_ n3_
          (try clear hb)
          (try clear hb2)
          (try clear hk)
          (try clear hi)
          obtain ⟨Ao25, co25, eo25⟩ := Kd.R_slice HO611.out
          (first | subst eo25 | (injection eo25 with f1_ f2_ f3_; have f4_ := f1_.symm; have f5_ := f3_.symm; clear f1_ f2_ f3_; subst f4_; subst f5_))
          refine hK.out _ _ ⟨(blk_cell BK606.out 0).trans rfl, (blk_cell BK606.out 1).trans rfl, (blk_cell BK606.out 2).trans rfl⟩ (fun hHeld => ?_)
          clear hK K
          refine norm_ (a' := ?_) ?_ ?_
          rotate_left
          · show Act.put _ (some 26) _ = _
            simp only [Act.put, List.setIfInBounds_toArray, List.set_cons_zero, List.set_cons_succ, i64_w, i32_w]
            rfl
          refine one_ (i := 4) (N := some 27) #[true, true, true, true, true, true, false] rfl rfl (by kernel_rfl) (by decide) (fun K hK => ?_)
          refine goes_ Tryd.func32 (by kernel_rfl) rfl #[.slice Ao25 t609.length co25, .agg #[.int .i64 t612, .int .i64 t613, .string t614]] (by rfl) rfl rfl d28_6 ?_
          with_reducible refine (spec_ListFrom.calls kj8 _ _ t609 t612 t613 t614 t615 t616 t619 t620 t621 _ ?side1 ?side2 A15.out).mono ?_
          (case side1 => repeat (first | exact (Kd.R_reads' HO611.out).2.2 | (with_reducible refine Kd.C_alloc ?_ _) | (with_reducible refine Kd.C_drewN ?_ _) | (with_reducible refine Kd.C_drew ?_)))
          (case side2 => exact (Kd.R_reads' HO611.out).2.1)
          rintro e w26 ⟨v617, rfl, ho0, hb⟩
          refine ⟨_, rfl, ?_⟩
          have n0_ := ak (Kd.R_below d28_11 hb)
          have n1_ := ak (Kd.R_lower ho0 (below_size d28_5))
          have n2_ := ak (blk_below (g := gb606) (o := .cells #[.int .i64 a1_0, .int .i64 a1_1, .string a1_2] 24 (0, 0)) d28_1 hb)
          have n3_ := ak (blk_below (g := gb622) (o := .cells #[.int .i64 0, .slice none 0 0, .int .i64 0, .int .i64 0, .string (⟨#[]⟩ : ByteArray)] 61 (0, 0)) d28_2 hb)
          have n4_ := ak (below_step d28_5 hb)
          clear HO611
          clear BK606
          clear BK622
          clear HB
          have HO611 := n0_
          have HO618 := n1_
          have BK606 := n2_
          have BK622 := n3_
          have HB := n4_
          clear n0_ n1_ n2_ n3_ n4_
          (try clear hb)
          (try clear hb2)
          (try clear hk)
          (try clear hi)
          (try clear ho0)
          refine hK.out _ _ ⟨(blk_cell BK606.out 0).trans rfl, (blk_cell BK606.out 1).trans rfl, (blk_cell BK606.out 2).trans rfl⟩ (fun hHeld => ?_)
          clear hK K
          refine norm_ (a' := ?_) ?_ ?_
          rotate_left
          · show Act.put _ (some 27) _ = _
            simp only [Act.put, List.setIfInBounds_toArray, List.set_cons_zero, List.set_cons_succ, i64_w, i32_w]
            rfl
          exact norm_ d28_15 (hCont (.slice Ao25 t609.length co25, v617, gb622) _ ⟨hHeld, d28_11, d28_14, d28_1, d28_2, GW622.out, GE622.out, NB606_622.out, NB622_606.out, d28_5⟩)
      rintro ⟨v610, v617, gb622⟩ w27 ⟨hS_, h0_, h1_, h2_, h3_, h4_, h5_, h6_, h7_, h8_⟩
      have n0_ : Aside0 (Kd.R k112 112 w27 w.heap.size (fun _ => True) v610 t609) := ⟨h0_⟩
      have n1_ : Aside0 (Kd.R k32 32 w27 w.heap.size (fun _ => True) v617 t616) := ⟨h1_⟩
      have n2_ : Aside0 (w27.heap[gb606]? = some (.cells #[.int .i64 a1_0, .int .i64 a1_1, .string a1_2] 24 (0, 0))) := ⟨h2_⟩
      have n3_ : Aside0 (w27.heap[gb622]? = some (.cells #[.int .i64 0, .slice none 0 0, .int .i64 0, .int .i64 0, .string (⟨#[]⟩ : ByteArray)] 61 (0, 0))) := ⟨h3_⟩
      have n4_ : Aside0 (w.heap.size ≤ gb622) := ⟨h4_⟩
      have n5_ : Aside0 (w.heap.size ≤ gb622) := ⟨h5_⟩
      have n6_ : Aside0 (gb606 ≠ gb622) := ⟨h6_⟩
      have n7_ : Aside0 (gb622 ≠ gb606) := ⟨h7_⟩
      have n8_ : Aside0 (Below w.heap.size w w27) := ⟨h8_⟩
      clear BK606
      clear HB
      clear h0_ h1_ h2_ h3_ h4_ h5_ h6_ h7_ h8_
      have HO611 := n0_
      have HO618 := n1_
      have BK606 := n2_
      have BK622 := n3_
      have GW622 := n4_
      have GE622 := n5_
      have NB606_622 := n6_
      have NB622_606 := n7_
      have HB := n8_
      clear n0_ n1_ n2_ n3_ n4_ n5_ n6_ n7_ n8_
      have hHeld : w27.cell? ⟨gb606, 0, none⟩ = some (.int .i64 a1_0) ∧ w27.cell? ⟨gb606, 1, none⟩ = some (.int .i64 a1_1) ∧ w27.cell? ⟨gb606, 2, none⟩ = some (.string a1_2) := hS_
      obtain ⟨Ao29, co29, eo29⟩ := Kd.R_slice HO618.out
      (first | subst eo29 | (injection eo29 with f1_ f2_ f3_; have f4_ := f1_.symm; have f5_ := f3_.symm; clear f1_ f2_ f3_; subst f4_; subst f5_))
      refine norm_ (a' := ?_) ?_ ?_
      rotate_left
      · simp only [putAll, Act.put, List.setIfInBounds_toArray, List.set_cons_zero, List.set_cons_succ]
        rfl
      refine one_ (i := 6) (N := none) #[true, true, true, true, true, true, true] rfl rfl (by kernel_rfl) (by decide) (fun K hK => ?_)
      have hs28 : w27.cell? ⟨gb622, 0, none⟩ = some (.int .i64 0) := (blk_cell BK622.out 0).trans rfl
      have hfs28 := blk_frozen BK622.out 0
      have hns28_0 := NB606_622.out
      have hms28_0 := NB622_606.out
      have hs30 : w27.cell? ⟨gb622, 1, none⟩ = some (.slice none 0 0) := (blk_cell BK622.out 1).trans rfl
      have hfs30 := blk_frozen BK622.out 1
      have hns30_0 := NB606_622.out
      have hms30_0 := NB622_606.out
      have hs31 : w27.cell? ⟨gb622, 2, none⟩ = some (.int .i64 0) := (blk_cell BK622.out 2).trans rfl
      have hfs31 := blk_frozen BK622.out 2
      have hns31_0 := NB606_622.out
      have hms31_0 := NB622_606.out
      have hs32 : w27.cell? ⟨gb622, 3, none⟩ = some (.int .i64 0) := (blk_cell BK622.out 3).trans rfl
      have hfs32 := blk_frozen BK622.out 3
      have hns32_0 := NB606_622.out
      have hms32_0 := NB622_606.out
      have hs33 : w27.cell? ⟨gb622, 4, none⟩ = some (.string (⟨#[]⟩ : ByteArray)) := (blk_cell BK622.out 4).trans rfl
      have hfs33 := blk_frozen BK622.out 4
      have hns33_0 := NB606_622.out
      have hms33_0 := NB622_606.out
      refine skip_ (w1 := ?_) (by rfl) rfl ?_ ?_
      rotate_left
      · go_simp
        rfl
      refine hK.out _ _ ⟨((cell_far (p := ⟨gb622, _, none⟩) NB606_622.out _).trans (((cell_far (p := ⟨gb622, _, none⟩) NB606_622.out _).trans (((cell_far (p := ⟨gb622, _, none⟩) NB606_622.out _).trans (((cell_far (p := ⟨gb622, _, none⟩) NB606_622.out _).trans (((cell_far (p := ⟨gb622, _, none⟩) NB606_622.out _).trans (hHeld.1)))))))))), ((cell_far (p := ⟨gb622, _, none⟩) NB606_622.out _).trans (((cell_far (p := ⟨gb622, _, none⟩) NB606_622.out _).trans (((cell_far (p := ⟨gb622, _, none⟩) NB606_622.out _).trans (((cell_far (p := ⟨gb622, _, none⟩) NB606_622.out _).trans (((cell_far (p := ⟨gb622, _, none⟩) NB606_622.out _).trans (hHeld.2.1)))))))))), ((cell_far (p := ⟨gb622, _, none⟩) NB606_622.out _).trans (((cell_far (p := ⟨gb622, _, none⟩) NB606_622.out _).trans (((cell_far (p := ⟨gb622, _, none⟩) NB606_622.out _).trans (((cell_far (p := ⟨gb622, _, none⟩) NB606_622.out _).trans (((cell_far (p := ⟨gb622, _, none⟩) NB606_622.out _).trans (hHeld.2.2))))))))))⟩ (fun hHeld => ?_)
      clear hK K
      refine done_ (by kernel_rfl) ?_
      go_upto_if 37 with (first | ((with_reducible refine gate_callee (f := 33) rfl ?_); refine goesL_ (some 29) rfl rfl Tryd.func33 (by kernel_rfl) rfl #[.slice A0 l0.length c0] rfl d28_6 ?_; (with_reducible refine (laws_toPairS.calls kj8 _ _ l0 t623 _ ?side1 ?side2 A16.out).mono ?_); (case side1 => exact Kd.C_below HR0.out d28_5); (case side2 => exact HC0.out); rintro e w34 ⟨v624, rfl, ho0, hb⟩; refine ⟨_, rfl, ?_⟩; have n0_ := ak (Kd.R_elder' (by (with_reducible repeat (first | apply Kd.R_alloc | apply Kd.R_drewN | apply Kd.R_drew)); exact (Kd.R_mono (Kd.R_far (p := ⟨gb622, 4, none⟩) (Kd.R_far (p := ⟨gb622, 3, none⟩) (Kd.R_far (p := ⟨gb622, 2, none⟩) (Kd.R_far (p := ⟨gb622, 1, none⟩) (Kd.R_far (p := ⟨gb622, 0, none⟩) (Kd.R_types HO611.out BK622.out (by decide)) (fun _ hk => hk.2) (.int .i64 t615)) (fun _ hk => hk.2) (.slice Ao29 t616.length co29)) (fun _ hk => hk.2) (.int .i64 t619)) (fun _ hk => hk.2) (.int .i64 t620)) (fun _ hk => hk.2) (.string t621)) (fun _ h_ => h_.1))) (Kd.R_base ho0) hb); have n1_ := ak (Kd.R_below (by (with_reducible repeat (first | apply Kd.R_alloc | apply Kd.R_drewN | apply Kd.R_drew)); exact (Kd.R_mono (Kd.R_far (p := ⟨gb622, 4, none⟩) (Kd.R_far (p := ⟨gb622, 3, none⟩) (Kd.R_far (p := ⟨gb622, 2, none⟩) (Kd.R_far (p := ⟨gb622, 1, none⟩) (Kd.R_far (p := ⟨gb622, 0, none⟩) (Kd.R_types HO618.out BK622.out (by decide)) (fun _ hk => hk.2) (.int .i64 t615)) (fun _ hk => hk.2) (.slice Ao29 t616.length co29)) (fun _ hk => hk.2) (.int .i64 t619)) (fun _ hk => hk.2) (.int .i64 t620)) (fun _ hk => hk.2) (.string t621)) (fun _ h_ => h_.1))) hb); have n2_ := ak (Kd.R_lower (Kd.R_new' ho0 (Kd.R_lt (by (with_reducible repeat (first | apply Kd.R_alloc | apply Kd.R_drewN | apply Kd.R_drew)); exact (Kd.R_mono (Kd.R_far (p := ⟨gb622, 4, none⟩) (Kd.R_far (p := ⟨gb622, 3, none⟩) (Kd.R_far (p := ⟨gb622, 2, none⟩) (Kd.R_far (p := ⟨gb622, 1, none⟩) (Kd.R_far (p := ⟨gb622, 0, none⟩) (Kd.R_types HO611.out BK622.out (by decide)) (fun _ hk => hk.2) (.int .i64 t615)) (fun _ hk => hk.2) (.slice Ao29 t616.length co29)) (fun _ hk => hk.2) (.int .i64 t619)) (fun _ hk => hk.2) (.int .i64 t620)) (fun _ hk => hk.2) (.string t621)) (fun _ h_ => h_.1))))) (below_size d28_5)); have n3_ := ak (blk_below (g := gb606) (o := .cells #[.int .i64 a1_0, .int .i64 a1_1, .string a1_2] 24 (0, 0)) (by (with_reducible repeat (first | refine blk_drewN ?_ _ | refine blk_drew ?_ | refine blk_alloc ?_ _)); refine blk_far ?_ NB606_622.out _; (with_reducible repeat (first | refine blk_drewN ?_ _ | refine blk_drew ?_ | refine blk_alloc ?_ _)); refine blk_far ?_ NB606_622.out _; (with_reducible repeat (first | refine blk_drewN ?_ _ | refine blk_drew ?_ | refine blk_alloc ?_ _)); refine blk_far ?_ NB606_622.out _; (with_reducible repeat (first | refine blk_drewN ?_ _ | refine blk_drew ?_ | refine blk_alloc ?_ _)); refine blk_far ?_ NB606_622.out _; (with_reducible repeat (first | refine blk_drewN ?_ _ | refine blk_drew ?_ | refine blk_alloc ?_ _)); refine blk_far ?_ NB606_622.out _; (with_reducible repeat (first | refine blk_drewN ?_ _ | refine blk_drew ?_ | refine blk_alloc ?_ _)); exact BK606.out) hb); have n4_ := ak (blk_below (g := gb622) (o := .cells #[.int .i64 t615, .slice Ao29 t616.length co29, .int .i64 t619, .int .i64 t620, .string t621] 61 (0, 0)) (by (with_reducible repeat (first | refine blk_drewN ?_ _ | refine blk_drew ?_ | refine blk_alloc ?_ _)); refine blk_put (cs := #[.int .i64 t615, .slice Ao29 t616.length co29, .int .i64 t619, .int .i64 t620, .string (⟨#[]⟩ : ByteArray)]) ?_ 4 _ rfl; (with_reducible repeat (first | refine blk_drewN ?_ _ | refine blk_drew ?_ | refine blk_alloc ?_ _)); refine blk_put (cs := #[.int .i64 t615, .slice Ao29 t616.length co29, .int .i64 t619, .int .i64 0, .string (⟨#[]⟩ : ByteArray)]) ?_ 3 _ rfl; (with_reducible repeat (first | refine blk_drewN ?_ _ | refine blk_drew ?_ | refine blk_alloc ?_ _)); refine blk_put (cs := #[.int .i64 t615, .slice Ao29 t616.length co29, .int .i64 0, .int .i64 0, .string (⟨#[]⟩ : ByteArray)]) ?_ 2 _ rfl; (with_reducible repeat (first | refine blk_drewN ?_ _ | refine blk_drew ?_ | refine blk_alloc ?_ _)); refine blk_put (cs := #[.int .i64 t615, .slice none 0 0, .int .i64 0, .int .i64 0, .string (⟨#[]⟩ : ByteArray)]) ?_ 1 _ rfl; (with_reducible repeat (first | refine blk_drewN ?_ _ | refine blk_drew ?_ | refine blk_alloc ?_ _)); refine blk_put (cs := #[.int .i64 0, .slice none 0 0, .int .i64 0, .int .i64 0, .string (⟨#[]⟩ : ByteArray)]) ?_ 0 _ rfl; (with_reducible repeat (first | refine blk_drewN ?_ _ | refine blk_drew ?_ | refine blk_alloc ?_ _)); exact BK622.out) hb); have n5_ := ak (below_step d28_5 hb); clear HO611 HO618 BK606 BK622 HB; have HO611 := n0_; have HO618 := n1_; have HO625 := n2_; have BK606 := n3_; have BK622 := n4_; have HB := n5_; clear n0_ n1_ n2_ n3_ n4_ n5_; (try clear hb); (try clear hk); (try clear ho0); have hnb35 := NB606_622.out; have hnc35 := NB622_606.out; have hcz36_0 : w34.cell? ⟨gb606, 0, none⟩ = some (.int .i64 a1_0) := (blk_cell BK606.out 0).trans rfl; have hcz36_1 : w34.cell? ⟨gb606, 1, none⟩ = some (.int .i64 a1_1) := (blk_cell BK606.out 1).trans rfl; have hcz36_2 : w34.cell? ⟨gb606, 2, none⟩ = some (.string a1_2) := (blk_cell BK606.out 2).trans rfl; have hfz36_0 := blk_frozen BK606.out 0; have hfz36_1 := blk_frozen BK606.out 1; have hfz36_2 := blk_frozen BK606.out 2) | ((with_reducible refine gate_callee (f := 34) rfl ?_); refine goesL_ (some 32) rfl rfl Tryd.func34 (by kernel_rfl) rfl #[.agg #[.int .i64 a1_0, .int .i64 a1_1, .string a1_2]] rfl d28_6 ?_; (with_reducible refine (laws_toValue.calls a1_0 a1_1 a1_2 t626 t627 t628 _ A17.out).mono ?_); rintro e w37 ⟨rfl, hb⟩; refine ⟨_, rfl, ?_⟩; have n0_ := ak (Kd.R_below d28_11 hb); have n1_ := ak (Kd.R_below d28_14 hb); have n2_ := ak (Kd.R_below (by (with_reducible repeat (first | apply Kd.R_alloc | apply Kd.R_drewN | apply Kd.R_drew)); exact HO625.out) hb); have n3_ := ak (blk_below (g := gb606) (o := .cells #[.int .i64 a1_0, .int .i64 a1_1, .string a1_2] 24 (0, 0)) d28_1 hb); have n4_ := ak (blk_below (g := gb622) (o := .cells #[.int .i64 t615, .slice Ao29 t616.length co29, .int .i64 t619, .int .i64 t620, .string t621] 61 (0, 0)) d28_2 hb); have n5_ := ak (below_step d28_5 hb); clear HO611 HO618 HO625 BK606 BK622 HB; have HO611 := n0_; have HO618 := n1_; have HO625 := n2_; have BK606 := n3_; have BK622 := n4_; have HB := n5_; clear n0_ n1_ n2_ n3_ n4_ n5_; (try clear hb); (try clear hk); obtain ⟨Ao38, co38, eo38⟩ := Kd.R_slice HO625.out; subst eo38) | ((with_reducible refine gate_callee (f := 35) rfl ?_); refine goesL_ (some 33) rfl rfl Tryd.func35 (by kernel_rfl) rfl #[.slice Ao38 t623.length co38, .agg #[.int .i64 t626, .int .i64 t627, .string t628]] rfl d28_6 ?_; (with_reducible refine (impl_ListFrom.calls kj8 _ _ t623 t626 t627 t628 t629 t630 t633 t634 t635 _ ?side1 ?side2 A18.out).mono ?_); (case side1 => repeat (first | exact (Kd.R_reads' HO625.out).2.2 | (with_reducible refine Kd.C_alloc ?_ _) | (with_reducible refine Kd.C_drewN ?_ _) | (with_reducible refine Kd.C_drew ?_))); (case side2 => exact (Kd.R_reads' HO625.out).2.1); rintro e w39 ⟨v631, rfl, ho0, hb⟩; refine ⟨_, rfl, ?_⟩; have n0_ := ak (Kd.R_below d28_11 hb); have n1_ := ak (Kd.R_elder' d28_14 (Kd.R_base ho0) hb); have n2_ := ak (Kd.R_below (by (with_reducible repeat (first | apply Kd.R_alloc | apply Kd.R_drewN | apply Kd.R_drew)); exact HO625.out) hb); have n3_ := ak (Kd.R_lower (Kd.R_new' ho0 (Kd.R_lt d28_14)) (below_size d28_5)); have n4_ := ak (blk_below (g := gb606) (o := .cells #[.int .i64 a1_0, .int .i64 a1_1, .string a1_2] 24 (0, 0)) d28_1 hb); have n5_ := ak (blk_below (g := gb622) (o := .cells #[.int .i64 t615, .slice Ao29 t616.length co29, .int .i64 t619, .int .i64 t620, .string t621] 61 (0, 0)) d28_2 hb); have n6_ := ak (below_step d28_5 hb); clear HO611 HO618 HO625 BK606 BK622 HB; have HO611 := n0_; have HO618 := n1_; have HO625 := n2_; have HO632 := n3_; have BK606 := n4_; have BK622 := n5_; have HB := n6_; clear n0_ n1_ n2_ n3_ n4_ n5_ n6_; (try clear hb); (try clear hk); (try clear ho0)) | ((with_reducible refine gate_dst (N := 8) rfl ?_); refine box_event ?hg (N := 8) ?hd (cs := #[.int .i64 0, .slice none 0 0, .int .i64 0, .int .i64 0, .string (⟨#[]⟩ : ByteArray)]) (t := 61) ?hr ?_; (case hd => rfl); (case hg => rfl); (case hr => first | (go_simp; done) | (go_simp; rfl)); intro gb636 hg w40 hbox hb; have n0_ := ak (Kd.R_below d28_11 hb); have n1_ := ak (Kd.R_below d28_14 hb); have n2_ := ak (Kd.R_below (by (with_reducible repeat (first | apply Kd.R_alloc | apply Kd.R_drewN | apply Kd.R_drew)); exact HO625.out) hb); have n3_ := ak (Kd.R_below (by (with_reducible repeat (first | apply Kd.R_alloc | apply Kd.R_drewN | apply Kd.R_drew)); exact HO632.out) hb); have n4_ := ak (blk_below (g := gb606) (o := .cells #[.int .i64 a1_0, .int .i64 a1_1, .string a1_2] 24 (0, 0)) d28_1 hb); have n5_ := ak (blk_below (g := gb622) (o := .cells #[.int .i64 t615, .slice Ao29 t616.length co29, .int .i64 t619, .int .i64 t620, .string t621] 61 (0, 0)) d28_2 hb); have n6_ := ak (below_step d28_5 hb); have n7_ := ak (hbox); have n8_ := ak ((by rw [hg]; exact (below_size d28_5) : w.heap.size ≤ gb636)); have n9_ := ak ((by rw [hg]; exact (below_size d28_5) : w.heap.size ≤ gb636)); have n10_ := ak ((by rw [hg]; exact Nat.ne_of_lt (blk_lt (g := gb606) (o := .cells #[.int .i64 a1_0, .int .i64 a1_1, .string a1_2] 24 (0, 0)) d28_1) : gb606 ≠ gb636)); have n11_ := ak ((by rw [hg]; exact Nat.ne_of_gt (blk_lt (g := gb606) (o := .cells #[.int .i64 a1_0, .int .i64 a1_1, .string a1_2] 24 (0, 0)) d28_1) : gb636 ≠ gb606)); have n12_ := ak ((by rw [hg]; exact Nat.ne_of_lt (blk_lt (g := gb622) (o := .cells #[.int .i64 t615, .slice Ao29 t616.length co29, .int .i64 t619, .int .i64 t620, .string t621] 61 (0, 0)) d28_2) : gb622 ≠ gb636)); have n13_ := ak ((by rw [hg]; exact Nat.ne_of_gt (blk_lt (g := gb622) (o := .cells #[.int .i64 t615, .slice Ao29 t616.length co29, .int .i64 t619, .int .i64 t620, .string t621] 61 (0, 0)) d28_2) : gb636 ≠ gb622)); clear HO611 HO618 HO625 HO632 BK606 BK622 HB; have HO611 := n0_; have HO618 := n1_; have HO625 := n2_; have HO632 := n3_; have BK606 := n4_; have BK622 := n5_; have HB := n6_; have BK636 := n7_; have GW636 := n8_; have GE636 := n9_; have NB606_636 := n10_; have NB636_606 := n11_; have NB622_636 := n12_; have NB636_622 := n13_; clear n0_ n1_ n2_ n3_ n4_ n5_ n6_ n7_ n8_ n9_ n10_ n11_ n12_ n13_ hb hbox hg; have hnb41 := NB636_606.out; have hnc41 := NB606_636.out; have hnb42 := NB636_622.out; have hnc42 := NB622_636.out; have hcz43_0 : w40.cell? ⟨gb636, 0, none⟩ = some (.int .i64 0) := (blk_cell BK636.out 0).trans rfl; have hcz43_1 : w40.cell? ⟨gb636, 1, none⟩ = some (.slice none 0 0) := (blk_cell BK636.out 1).trans rfl; have hcz43_2 : w40.cell? ⟨gb636, 2, none⟩ = some (.int .i64 0) := (blk_cell BK636.out 2).trans rfl; have hcz43_3 : w40.cell? ⟨gb636, 3, none⟩ = some (.int .i64 0) := (blk_cell BK636.out 3).trans rfl; have hcz43_4 : w40.cell? ⟨gb636, 4, none⟩ = some (.string (⟨#[]⟩ : ByteArray)) := (blk_cell BK636.out 4).trans rfl; have hfz43_0 := blk_frozen BK636.out 0; have hfz43_1 := blk_frozen BK636.out 1; have hfz43_2 := blk_frozen BK636.out 2; have hfz43_3 := blk_frozen BK636.out 3; have hfz43_4 := blk_frozen BK636.out 4; obtain ⟨Ao44, co44, eo44⟩ := Kd.R_slice HO632.out; subst eo44; have hcz45_0 : w40.cell? ⟨gb622, 0, none⟩ = some (.int .i64 t615) := (blk_cell BK622.out 0).trans rfl; have hcz45_1 : w40.cell? ⟨gb622, 1, none⟩ = some (.slice Ao29 t616.length co29) := (blk_cell BK622.out 1).trans rfl; have hcz45_2 : w40.cell? ⟨gb622, 2, none⟩ = some (.int .i64 t619) := (blk_cell BK622.out 2).trans rfl; have hcz45_3 : w40.cell? ⟨gb622, 3, none⟩ = some (.int .i64 t620) := (blk_cell BK622.out 3).trans rfl; have hcz45_4 : w40.cell? ⟨gb622, 4, none⟩ = some (.string t621) := (blk_cell BK622.out 4).trans rfl; have hfz45_0 := blk_frozen BK622.out 0; have hfz45_1 := blk_frozen BK622.out 1; have hfz45_2 := blk_frozen BK622.out 2; have hfz45_3 := blk_frozen BK622.out 3; have hfz45_4 := blk_frozen BK622.out 4) | ((with_reducible refine gate_callee (f := 36) rfl ?_); refine goesL_ (some 36) rfl rfl Tryd.func36 (by kernel_rfl) rfl #[.agg #[.int .i64 t629, .slice Ao44 t630.length co44, .int .i64 t633, .int .i64 t634, .string t635], .agg #[.int .i64 t615, .slice Ao29 t616.length co29, .int .i64 t619, .int .i64 t620, .string t621]] rfl d28_6 ?_; (with_reducible refine (laws_eqValuesResult.calls kj8 t629 _ _ t630 t633 t634 t635 t615 _ _ t616 t619 t620 t621 t637 _ ?side1 ?side2 ?side3 ?side4 A19.out).mono ?_); (case side1 => refine (Kd.R_reads' (e := 32) (base := w.heap.size) (ok := fun k_ => (True ∧ some k_ ≠ (.slice Ao29 t616.length co29 : Value).ownBlock)) (n := t630.length) (c := co44) ?_).2.2; exact (by (with_reducible repeat (first | apply Kd.R_alloc | apply Kd.R_drewN | apply Kd.R_drew)); exact (Kd.R_mono (Kd.R_far (p := ⟨gb636, 4, none⟩) (Kd.R_far (p := ⟨gb636, 3, none⟩) (Kd.R_far (p := ⟨gb636, 2, none⟩) (Kd.R_far (p := ⟨gb636, 1, none⟩) (Kd.R_far (p := ⟨gb636, 0, none⟩) (Kd.R_types HO632.out BK636.out (by decide)) (fun _ hk => hk.2) (.int .i64 t629)) (fun _ hk => hk.2) (.slice Ao44 t630.length co44)) (fun _ hk => hk.2) (.int .i64 t633)) (fun _ hk => hk.2) (.int .i64 t634)) (fun _ hk => hk.2) (.string t635)) (fun _ h_ => h_.1)))); (case side2 => exact (Kd.R_reads' HO632.out).2.1); (case side3 => refine (Kd.R_reads' (e := 32) (base := w.heap.size) (ok := fun k_ => (True ∧ some k_ ≠ (.slice Ao44 t630.length co44 : Value).ownBlock)) (n := t616.length) (c := co29) ?_).2.2; exact (by (with_reducible repeat (first | apply Kd.R_alloc | apply Kd.R_drewN | apply Kd.R_drew)); exact (Kd.R_mono (Kd.R_far (p := ⟨gb636, 4, none⟩) (Kd.R_far (p := ⟨gb636, 3, none⟩) (Kd.R_far (p := ⟨gb636, 2, none⟩) (Kd.R_far (p := ⟨gb636, 1, none⟩) (Kd.R_far (p := ⟨gb636, 0, none⟩) (Kd.R_types HO618.out BK636.out (by decide)) (fun _ hk => hk.2) (.int .i64 t629)) (fun _ hk => hk.2) (.slice Ao44 t630.length co44)) (fun _ hk => hk.2) (.int .i64 t633)) (fun _ hk => hk.2) (.int .i64 t634)) (fun _ hk => hk.2) (.string t635)) (fun _ h_ => h_.1)))); (case side4 => exact (Kd.R_reads' HO618.out).2.1); rintro e w46 ⟨rfl, hb⟩; refine ⟨_, rfl, ?_⟩; have n0_ := ak (Kd.R_below (by (with_reducible repeat (first | apply Kd.R_alloc | apply Kd.R_drewN | apply Kd.R_drew)); exact (Kd.R_mono (Kd.R_far (p := ⟨gb636, 4, none⟩) (Kd.R_far (p := ⟨gb636, 3, none⟩) (Kd.R_far (p := ⟨gb636, 2, none⟩) (Kd.R_far (p := ⟨gb636, 1, none⟩) (Kd.R_far (p := ⟨gb636, 0, none⟩) (Kd.R_types HO611.out BK636.out (by decide)) (fun _ hk => hk.2) (.int .i64 t629)) (fun _ hk => hk.2) (.slice Ao44 t630.length co44)) (fun _ hk => hk.2) (.int .i64 t633)) (fun _ hk => hk.2) (.int .i64 t634)) (fun _ hk => hk.2) (.string t635)) (fun _ h_ => h_.1))) hb); have n1_ := ak (Kd.R_below (by (with_reducible repeat (first | apply Kd.R_alloc | apply Kd.R_drewN | apply Kd.R_drew)); exact (Kd.R_mono (Kd.R_far (p := ⟨gb636, 4, none⟩) (Kd.R_far (p := ⟨gb636, 3, none⟩) (Kd.R_far (p := ⟨gb636, 2, none⟩) (Kd.R_far (p := ⟨gb636, 1, none⟩) (Kd.R_far (p := ⟨gb636, 0, none⟩) (Kd.R_types HO618.out BK636.out (by decide)) (fun _ hk => hk.2) (.int .i64 t629)) (fun _ hk => hk.2) (.slice Ao44 t630.length co44)) (fun _ hk => hk.2) (.int .i64 t633)) (fun _ hk => hk.2) (.int .i64 t634)) (fun _ hk => hk.2) (.string t635)) (fun _ h_ => h_.1))) hb); have n2_ := ak (Kd.R_below (by (with_reducible repeat (first | apply Kd.R_alloc | apply Kd.R_drewN | apply Kd.R_drew)); exact (Kd.R_mono (Kd.R_far (p := ⟨gb636, 4, none⟩) (Kd.R_far (p := ⟨gb636, 3, none⟩) (Kd.R_far (p := ⟨gb636, 2, none⟩) (Kd.R_far (p := ⟨gb636, 1, none⟩) (Kd.R_far (p := ⟨gb636, 0, none⟩) (Kd.R_types HO625.out BK636.out (by decide)) (fun _ hk => hk.2) (.int .i64 t629)) (fun _ hk => hk.2) (.slice Ao44 t630.length co44)) (fun _ hk => hk.2) (.int .i64 t633)) (fun _ hk => hk.2) (.int .i64 t634)) (fun _ hk => hk.2) (.string t635)) (fun _ h_ => h_.1))) hb); have n3_ := ak (Kd.R_below (by (with_reducible repeat (first | apply Kd.R_alloc | apply Kd.R_drewN | apply Kd.R_drew)); exact (Kd.R_mono (Kd.R_far (p := ⟨gb636, 4, none⟩) (Kd.R_far (p := ⟨gb636, 3, none⟩) (Kd.R_far (p := ⟨gb636, 2, none⟩) (Kd.R_far (p := ⟨gb636, 1, none⟩) (Kd.R_far (p := ⟨gb636, 0, none⟩) (Kd.R_types HO632.out BK636.out (by decide)) (fun _ hk => hk.2) (.int .i64 t629)) (fun _ hk => hk.2) (.slice Ao44 t630.length co44)) (fun _ hk => hk.2) (.int .i64 t633)) (fun _ hk => hk.2) (.int .i64 t634)) (fun _ hk => hk.2) (.string t635)) (fun _ h_ => h_.1))) hb); have n4_ := ak (blk_below (g := gb606) (o := .cells #[.int .i64 a1_0, .int .i64 a1_1, .string a1_2] 24 (0, 0)) (by (with_reducible repeat (first | refine blk_drewN ?_ _ | refine blk_drew ?_ | refine blk_alloc ?_ _)); refine blk_far ?_ NB606_636.out _; (with_reducible repeat (first | refine blk_drewN ?_ _ | refine blk_drew ?_ | refine blk_alloc ?_ _)); refine blk_far ?_ NB606_636.out _; (with_reducible repeat (first | refine blk_drewN ?_ _ | refine blk_drew ?_ | refine blk_alloc ?_ _)); refine blk_far ?_ NB606_636.out _; (with_reducible repeat (first | refine blk_drewN ?_ _ | refine blk_drew ?_ | refine blk_alloc ?_ _)); refine blk_far ?_ NB606_636.out _; (with_reducible repeat (first | refine blk_drewN ?_ _ | refine blk_drew ?_ | refine blk_alloc ?_ _)); refine blk_far ?_ NB606_636.out _; (with_reducible repeat (first | refine blk_drewN ?_ _ | refine blk_drew ?_ | refine blk_alloc ?_ _)); exact BK606.out) hb); have n5_ := ak (blk_below (g := gb622) (o := .cells #[.int .i64 t615, .slice Ao29 t616.length co29, .int .i64 t619, .int .i64 t620, .string t621] 61 (0, 0)) (by (with_reducible repeat (first | refine blk_drewN ?_ _ | refine blk_drew ?_ | refine blk_alloc ?_ _)); refine blk_far ?_ NB622_636.out _; (with_reducible repeat (first | refine blk_drewN ?_ _ | refine blk_drew ?_ | refine blk_alloc ?_ _)); refine blk_far ?_ NB622_636.out _; (with_reducible repeat (first | refine blk_drewN ?_ _ | refine blk_drew ?_ | refine blk_alloc ?_ _)); refine blk_far ?_ NB622_636.out _; (with_reducible repeat (first | refine blk_drewN ?_ _ | refine blk_drew ?_ | refine blk_alloc ?_ _)); refine blk_far ?_ NB622_636.out _; (with_reducible repeat (first | refine blk_drewN ?_ _ | refine blk_drew ?_ | refine blk_alloc ?_ _)); refine blk_far ?_ NB622_636.out _; (with_reducible repeat (first | refine blk_drewN ?_ _ | refine blk_drew ?_ | refine blk_alloc ?_ _)); exact BK622.out) hb); have n6_ := ak (blk_below (g := gb636) (o := .cells #[.int .i64 t629, .slice Ao44 t630.length co44, .int .i64 t633, .int .i64 t634, .string t635] 61 (0, 0)) (by (with_reducible repeat (first | refine blk_drewN ?_ _ | refine blk_drew ?_ | refine blk_alloc ?_ _)); refine blk_put (cs := #[.int .i64 t629, .slice Ao44 t630.length co44, .int .i64 t633, .int .i64 t634, .string (⟨#[]⟩ : ByteArray)]) ?_ 4 _ rfl; (with_reducible repeat (first | refine blk_drewN ?_ _ | refine blk_drew ?_ | refine blk_alloc ?_ _)); refine blk_put (cs := #[.int .i64 t629, .slice Ao44 t630.length co44, .int .i64 t633, .int .i64 0, .string (⟨#[]⟩ : ByteArray)]) ?_ 3 _ rfl; (with_reducible repeat (first | refine blk_drewN ?_ _ | refine blk_drew ?_ | refine blk_alloc ?_ _)); refine blk_put (cs := #[.int .i64 t629, .slice Ao44 t630.length co44, .int .i64 0, .int .i64 0, .string (⟨#[]⟩ : ByteArray)]) ?_ 2 _ rfl; (with_reducible repeat (first | refine blk_drewN ?_ _ | refine blk_drew ?_ | refine blk_alloc ?_ _)); refine blk_put (cs := #[.int .i64 t629, .slice none 0 0, .int .i64 0, .int .i64 0, .string (⟨#[]⟩ : ByteArray)]) ?_ 1 _ rfl; (with_reducible repeat (first | refine blk_drewN ?_ _ | refine blk_drew ?_ | refine blk_alloc ?_ _)); refine blk_put (cs := #[.int .i64 0, .slice none 0 0, .int .i64 0, .int .i64 0, .string (⟨#[]⟩ : ByteArray)]) ?_ 0 _ rfl; (with_reducible repeat (first | refine blk_drewN ?_ _ | refine blk_drew ?_ | refine blk_alloc ?_ _)); exact BK636.out) hb); have n7_ := ak (below_step d28_3 hb); clear HO611 HO618 HO625 HO632 BK606 BK622 BK636 HB; have HO611 := n0_; have HO618 := n1_; have HO625 := n2_; have HO632 := n3_; have BK606 := n4_; have BK622 := n5_; have BK636 := n6_; have HB := n7_; clear n0_ n1_ n2_ n3_ n4_ n5_ n6_ n7_; (try clear hb); (try clear hk)))
      (try simp only [Act.put, List.setIfInBounds_toArray, List.set_cons_zero, List.set_cons_succ])
      go_cut [] (fun wc => ∃ (kq : Nat), Aside0 (laws_FnExactListFrom.j2 kq l0 t623 a1_0 a1_1 a1_2 t615 t616 t619 t620 t621 t629 t630 t633 t634 t635 = some r) ∧ Aside0 (kq ≤ kj8) ∧ Aside0 (Kd.R k112 112 wc w.heap.size (fun _ => True) (.slice Ao38 t623.length co38) t623) ∧ Aside0 (Kd.R k32 32 wc w.heap.size (fun k_ => some k_ ≠ ((.slice Ao44 t630.length co44) : Value).ownBlock) (.slice Ao29 t616.length co29) t616) ∧ Aside0 (Kd.R k32 32 wc w.heap.size (fun k_ => some k_ ≠ ((.slice Ao29 t616.length co29) : Value).ownBlock) (.slice Ao44 t630.length co44) t630) ∧ Aside0 (wc.heap[gb606]? = some (.cells #[.int .i64 a1_0, .int .i64 a1_1, .string a1_2] 24 (0, 0))) ∧ Aside0 (wc.heap[gb622]? = some (.cells #[.int .i64 t615, (.slice Ao29 t616.length co29), .int .i64 t619, .int .i64 t620, .string t621] 61 (0, 0))) ∧ Aside0 (wc.heap[gb636]? = some (.cells #[.int .i64 t629, (.slice Ao44 t630.length co44), .int .i64 t633, .int .i64 t634, .string t635] 61 (0, 0))) ∧ Aside0 (Below w.heap.size w wc))
      case first =>
       have H := HC20.out
       clear HC20
       by_cases c47 : t637 = true
       ·subst c47
        have H1 : (laws_FnExactListFrom.j2 kj8 l0 t623 a1_0 a1_1 a1_2 t615 t616 t619 t620 t621 t629 t630 t633 t634 t635) = some r := by rw [if_pos rfl] at H; exact H
        clear H
        have H := H1
        clear H1
        have H' := ak H
        clear H
        go_wp2
        go_meet
        case rel => exact ⟨_, H', ⟨by have := HJ3.out; have := HJ8.out; first | omega | exact Nat.le_refl _⟩, ⟨by (with_reducible repeat (first | apply Kd.R_alloc | apply Kd.R_drewN | apply Kd.R_drew)); exact Kd.R_mono HO625.out (fun _ hk => trivial)⟩, ⟨by (with_reducible repeat (first | apply Kd.R_alloc | apply Kd.R_drewN | apply Kd.R_drew)); exact Kd.R_mono HO618.out (fun _ hk => hk.2)⟩, ⟨by (with_reducible repeat (first | apply Kd.R_alloc | apply Kd.R_drewN | apply Kd.R_drew)); exact Kd.R_mono HO632.out (fun _ hk => hk.2)⟩, ⟨by (with_reducible repeat (first | refine blk_drewN ?_ _ | refine blk_drew ?_ | refine blk_alloc ?_ _)); exact BK606.out⟩, ⟨by (with_reducible repeat (first | refine blk_drewN ?_ _ | refine blk_drew ?_ | refine blk_alloc ?_ _)); exact BK622.out⟩, ⟨by (with_reducible repeat (first | refine blk_drewN ?_ _ | refine blk_drew ?_ | refine blk_alloc ?_ _)); exact BK636.out⟩, ⟨by repeat (first | (with_reducible first | exact HB.out | apply below_alloc | apply pw_below_drewN | apply below_drew1 | refine below_set ?_ GE606.out | refine below_set ?_ GE622.out | refine below_set ?_ GE636.out) | exact HB.out)⟩⟩
       ·replace c47 := Bool.eq_false_iff.mpr c47
        subst c47
        have H1 : (some false) = some r := by rw [if_neg (show ¬ (false = true) by decide)] at H; exact H
        clear H
        have H := H1
        clear H1
        obtain rfl := Option.some.inj H
        go_wp2
        go_ret
        exact ⟨by first | rfl | (simp [errW_none, errW_some] <;> rfl) | (simp [*, errW_none, errW_some] <;> rfl), by repeat (first | (with_reducible first | exact HB.out | apply below_alloc | apply pw_below_drewN | apply below_drew1 | refine below_set ?_ GE606.out | refine below_set ?_ GE622.out | refine below_set ?_ GE636.out) | exact HB.out)⟩
      case rest =>
       clear HC20
       try clear c1
       try clear p2
       try clear c3
       try clear c4
       try clear c6
       try clear c7
       try clear c7b0
       try clear c12
       try clear c12b0
       try clear c31
       try clear c32
       try clear c33
       try clear c34
       try clear c35
       try clear c36
       try clear c41
       try clear c42
       try clear hcz10_0
       try clear hcz10_1
       try clear hcz10_2
       try clear hcz36_0
       try clear hcz36_1
       try clear hcz36_2
       try clear hcz43_0
       try clear hcz43_1
       try clear hcz43_2
       try clear hcz43_3
       try clear hcz43_4
       try clear hcz45_0
       try clear hcz45_1
       try clear hcz45_2
       try clear hcz45_3
       try clear hcz45_4
       try clear hfz10_0
       try clear hfz10_1
       try clear hfz10_2
       try clear hfz36_0
       try clear hfz36_1
       try clear hfz36_2
       try clear hfz43_0
       try clear hfz43_1
       try clear hfz43_2
       try clear hfz43_3
       try clear hfz43_4
       try clear hfz45_0
       try clear hfz45_1
       try clear hfz45_2
       try clear hfz45_3
       try clear hfz45_4
       try clear p2
       obtain ⟨kq, HA, HJ19, HO_7, HO_623001, HO_637001, BK606, BK622, BK636, HB⟩ := hcut
       cases kq with
       | zero => exact absurd HA.out (by simp [laws_FnExactListFrom.j2])
       | succ kj19 =>
        have H := HA.out
        clear HA
        simp only [laws_FnExactListFrom.j2] at H
        replace H := Option.bind_eq_some_iff.mp H
        obtain ⟨t638, A480, H⟩ := H
        replace H : ((laws_eqPairS.f kj19 t623 t638).bind fun t641 => (if t641 = true then (laws_FnExactListFrom.j3 kj19 l0 t623 a1_0 a1_1 a1_2 t615 t616 t619 t620 t621 t629 t630 t633 t634 t635) else (some false))) = some r := H
        have A48 := ak A480
        clear A480
        replace H := Option.bind_eq_some_iff.mp H
        obtain ⟨t641, A490, H⟩ := H
        replace H : (if t641 = true then (laws_FnExactListFrom.j3 kj19 l0 t623 a1_0 a1_1 a1_2 t615 t616 t619 t620 t621 t629 t630 t633 t634 t635) else (some false)) = some r := H
        have A49 := ak A490
        clear A490
        have HC50 := ak H
        clear H
        go_upto_if 42 with (first | ((with_reducible refine gate_callee (f := 33) rfl ?_); refine goesL_ (some 40) rfl rfl Tryd.func33 (by kernel_rfl) rfl #[.slice A0 l0.length c0] rfl d28_6 ?_; (with_reducible refine (laws_toPairS.calls kj19 _ _ l0 t638 _ ?side1 ?side2 A48.out).mono ?_); (case side1 => repeat (first | exact (Kd.C_below HR0.out HB.out) | (with_reducible refine Kd.C_alloc ?_ _) | (with_reducible refine Kd.C_drewN ?_ _) | (with_reducible refine Kd.C_drew ?_))); (case side2 => exact HC0.out); rintro e w51 ⟨v639, rfl, ho0, hb⟩; refine ⟨_, rfl, ?_⟩; have n0_ := ak (Kd.R_elder' (by (with_reducible repeat (first | apply Kd.R_alloc | apply Kd.R_drewN | apply Kd.R_drew)); exact HO_7.out) (Kd.R_base ho0) hb); have n1_ := ak (Kd.R_below d28_9 hb); have n2_ := ak (Kd.R_below d28_10 hb); have n3_ := ak (Kd.R_lower (Kd.R_new' ho0 (Kd.R_lt (by (with_reducible repeat (first | apply Kd.R_alloc | apply Kd.R_drewN | apply Kd.R_drew)); exact HO_7.out))) (below_size d28_3)); have n4_ := ak (blk_below (g := gb606) (o := .cells #[.int .i64 a1_0, .int .i64 a1_1, .string a1_2] 24 (0, 0)) d28_1 hb); have n5_ := ak (blk_below (g := gb622) (o := .cells #[.int .i64 t615, .slice Ao29 t616.length co29, .int .i64 t619, .int .i64 t620, .string t621] 61 (0, 0)) d28_2 hb); have n6_ := ak (blk_below (g := gb636) (o := .cells #[.int .i64 t629, .slice Ao44 t630.length co44, .int .i64 t633, .int .i64 t634, .string t635] 61 (0, 0)) d28_7 hb); have n7_ := ak (below_step d28_3 hb); clear HO_7 HO_623001 HO_637001 BK606 BK622 BK636 HB; have HO_7 := n0_; have HO_623001 := n1_; have HO_637001 := n2_; have HO640 := n3_; have BK606 := n4_; have BK622 := n5_; have BK636 := n6_; have HB := n7_; clear n0_ n1_ n2_ n3_ n4_ n5_ n6_ n7_; (try clear hb); (try clear ho0); obtain ⟨Ao52, co52, eo52⟩ := Kd.R_slice HO640.out; subst eo52) | ((with_reducible refine gate_callee (f := 37) rfl ?_); refine goesL_ (some 41) rfl rfl Tryd.func37 (by kernel_rfl) rfl #[.slice Ao38 t623.length co38, .slice Ao52 t638.length co52] rfl d28_6 ?_; (with_reducible refine (laws_eqPairS.calls kj19 _ _ t623 _ _ t638 t641 _ ?side1 ?side2 ?side3 ?side4 A49.out).mono ?_); (case side1 => repeat (first | exact (Kd.R_reads' HO_7.out).2.2 | (with_reducible refine Kd.C_alloc ?_ _) | (with_reducible refine Kd.C_drewN ?_ _) | (with_reducible refine Kd.C_drew ?_))); (case side2 => exact (Kd.R_reads' HO_7.out).2.1); (case side3 => repeat (first | exact (Kd.R_reads' HO640.out).2.2 | (with_reducible refine Kd.C_alloc ?_ _) | (with_reducible refine Kd.C_drewN ?_ _) | (with_reducible refine Kd.C_drew ?_))); (case side4 => exact (Kd.R_reads' HO640.out).2.1); rintro e w53 ⟨rfl, hb⟩; refine ⟨_, rfl, ?_⟩; have n0_ := ak (Kd.R_below (by (with_reducible repeat (first | apply Kd.R_alloc | apply Kd.R_drewN | apply Kd.R_drew)); exact HO_7.out) hb); have n1_ := ak (Kd.R_below d28_9 hb); have n2_ := ak (Kd.R_below d28_10 hb); have n3_ := ak (Kd.R_below (by (with_reducible repeat (first | apply Kd.R_alloc | apply Kd.R_drewN | apply Kd.R_drew)); exact HO640.out) hb); have n4_ := ak (blk_below (g := gb606) (o := .cells #[.int .i64 a1_0, .int .i64 a1_1, .string a1_2] 24 (0, 0)) d28_1 hb); have n5_ := ak (blk_below (g := gb622) (o := .cells #[.int .i64 t615, .slice Ao29 t616.length co29, .int .i64 t619, .int .i64 t620, .string t621] 61 (0, 0)) d28_2 hb); have n6_ := ak (blk_below (g := gb636) (o := .cells #[.int .i64 t629, .slice Ao44 t630.length co44, .int .i64 t633, .int .i64 t634, .string t635] 61 (0, 0)) d28_7 hb); have n7_ := ak (below_step d28_3 hb); clear HO_7 HO_623001 HO_637001 HO640 BK606 BK622 BK636 HB; have HO_7 := n0_; have HO_623001 := n1_; have HO_637001 := n2_; have HO640 := n3_; have BK606 := n4_; have BK622 := n5_; have BK636 := n6_; have HB := n7_; clear n0_ n1_ n2_ n3_ n4_ n5_ n6_ n7_; (try clear hb)))
        (try simp only [Act.put, List.setIfInBounds_toArray, List.set_cons_zero, List.set_cons_succ])
        go_cut [] (fun wc => ∃ (kq : Nat), Aside0 (laws_FnExactListFrom.j3 kq l0 t623 a1_0 a1_1 a1_2 t615 t616 t619 t620 t621 t629 t630 t633 t634 t635 = some r) ∧ Aside0 (kq ≤ kj19) ∧ Aside0 (Kd.R k112 112 wc w.heap.size (fun _ => True) (.slice Ao38 t623.length co38) t623) ∧ Aside0 (Kd.R k32 32 wc w.heap.size (fun k_ => some k_ ≠ ((.slice Ao44 t630.length co44) : Value).ownBlock) (.slice Ao29 t616.length co29) t616) ∧ Aside0 (Kd.R k32 32 wc w.heap.size (fun k_ => some k_ ≠ ((.slice Ao29 t616.length co29) : Value).ownBlock) (.slice Ao44 t630.length co44) t630) ∧ Aside0 (wc.heap[gb606]? = some (.cells #[.int .i64 a1_0, .int .i64 a1_1, .string a1_2] 24 (0, 0))) ∧ Aside0 (wc.heap[gb622]? = some (.cells #[.int .i64 t615, (.slice Ao29 t616.length co29), .int .i64 t619, .int .i64 t620, .string t621] 61 (0, 0))) ∧ Aside0 (wc.heap[gb636]? = some (.cells #[.int .i64 t629, (.slice Ao44 t630.length co44), .int .i64 t633, .int .i64 t634, .string t635] 61 (0, 0))) ∧ Aside0 (Below w.heap.size w wc))
        case first =>
         have H := HC50.out
         clear HC50
         by_cases c54 : t641 = true
         ·subst c54
          have H1 : (laws_FnExactListFrom.j3 kj19 l0 t623 a1_0 a1_1 a1_2 t615 t616 t619 t620 t621 t629 t630 t633 t634 t635) = some r := by rw [if_pos rfl] at H; exact H
          clear H
          have H := H1
          clear H1
          have H' := ak H
          clear H
          go_wp2
          go_meet
          case rel => exact ⟨_, H', ⟨by have := HJ3.out; have := HJ8.out; have := HJ19.out; first | omega | exact Nat.le_refl _⟩, ⟨by (with_reducible repeat (first | apply Kd.R_alloc | apply Kd.R_drewN | apply Kd.R_drew)); exact Kd.R_mono HO_7.out (fun _ hk => trivial)⟩, ⟨by (with_reducible repeat (first | apply Kd.R_alloc | apply Kd.R_drewN | apply Kd.R_drew)); exact HO_623001.out⟩, ⟨by (with_reducible repeat (first | apply Kd.R_alloc | apply Kd.R_drewN | apply Kd.R_drew)); exact HO_637001.out⟩, ⟨by (with_reducible repeat (first | refine blk_drewN ?_ _ | refine blk_drew ?_ | refine blk_alloc ?_ _)); exact BK606.out⟩, ⟨by (with_reducible repeat (first | refine blk_drewN ?_ _ | refine blk_drew ?_ | refine blk_alloc ?_ _)); exact BK622.out⟩, ⟨by (with_reducible repeat (first | refine blk_drewN ?_ _ | refine blk_drew ?_ | refine blk_alloc ?_ _)); exact BK636.out⟩, ⟨by repeat (first | (with_reducible first | exact HB.out | apply below_alloc | apply pw_below_drewN | apply below_drew1 | refine below_set ?_ GE606.out | refine below_set ?_ GE622.out | refine below_set ?_ GE636.out) | exact HB.out)⟩⟩
         ·replace c54 := Bool.eq_false_iff.mpr c54
          subst c54
          have H1 : (some false) = some r := by rw [if_neg (show ¬ (false = true) by decide)] at H; exact H
          clear H
          have H := H1
          clear H1
          obtain rfl := Option.some.inj H
          go_wp2
          go_ret
          exact ⟨by first | rfl | (simp [errW_none, errW_some] <;> rfl) | (simp [*, errW_none, errW_some] <;> rfl), by repeat (first | (with_reducible first | exact HB.out | apply below_alloc | apply pw_below_drewN | apply below_drew1 | refine below_set ?_ GE606.out | refine below_set ?_ GE622.out | refine below_set ?_ GE636.out) | exact HB.out)⟩
        case rest =>
         clear HC50
         try clear c1
         try clear p2
         try clear c3
         try clear c4
         try clear c6
         try clear c7
         try clear c7b0
         try clear c12
         try clear c12b0
         try clear c31
         try clear c32
         try clear c33
         try clear c34
         try clear c35
         try clear c36
         try clear c37
         try clear c41
         try clear c42
         try clear c47
         try clear hcz10_0
         try clear hcz10_1
         try clear hcz10_2
         try clear hcz36_0
         try clear hcz36_1
         try clear hcz36_2
         try clear hcz43_0
         try clear hcz43_1
         try clear hcz43_2
         try clear hcz43_3
         try clear hcz43_4
         try clear hcz45_0
         try clear hcz45_1
         try clear hcz45_2
         try clear hcz45_3
         try clear hcz45_4
         try clear hfz10_0
         try clear hfz10_1
         try clear hfz10_2
         try clear hfz36_0
         try clear hfz36_1
         try clear hfz36_2
         try clear hfz43_0
         try clear hfz43_1
         try clear hfz43_2
         try clear hfz43_3
         try clear hfz43_4
         try clear hfz45_0
         try clear hfz45_1
         try clear hfz45_2
         try clear hfz45_3
         try clear hfz45_4
         try clear p2
         obtain ⟨kq, HA, HJ49, HO_7, HO_623001, HO_637001, BK606, BK622, BK636, HB⟩ := hcut
         cases kq with
         | zero => exact absurd HA.out (by simp [laws_FnExactListFrom.j3])
         | succ kj49 =>
          have H := HA.out
          clear HA
          simp only [laws_FnExactListFrom.j3] at H
          replace H := Option.bind_eq_some_iff.mp H
          obtain ⟨⟨t642, t643⟩, A550, H⟩ := H
          replace H : (if t642 < 0 then (laws_FnExactListFrom.j4 kj49 l0 true a1_0 a1_1 a1_2 t615 t616 t619 t620 t621 t629 t630 t633 t634 t635) else ((laws_eqValuesResult.f kj49 t629 t630 t633 t634 t635 t615 t616 t619 t620 t621).bind fun t644 => (laws_FnExactListFrom.j4 kj49 l0 (!t644) a1_0 a1_1 a1_2 t615 t616 t619 t620 t621 t629 t630 t633 t634 t635))) = some r := H
          have A55 := ak A550
          clear A550
          have HC56 := ak H
          clear H
          go_upto_region 17 with (first | ((with_reducible refine gate_callee (f := 38) rfl ?_); refine goesL_ (some 45) rfl rfl Tryd.func38 (by kernel_rfl) rfl #[.slice Ao38 t623.length co38, .int .i64 1] rfl d28_6 ?_; (with_reducible refine (laws_markPairS.calls kj49 (fun k_ => some k_ = (.slice Ao38 t623.length co38 : Value).ownBlock) (.slice Ao38 t623.length co38) t623 1 t642 t643 w _ ?side1 ?side2 A55.out).mono ?_); (case side1 => repeat (first | (with_reducible first | exact HB.out | apply below_alloc | apply pw_below_drewN | apply below_drew1 | refine below_set ?_ GE606.out | refine below_set ?_ GE622.out | refine below_set ?_ GE636.out) | exact HB.out)); (case side2 => exact Kd.R_tight rfl HO_7.out); rintro e w57 ⟨rfl, hy0, hb, hkp⟩; refine ⟨_, rfl, ?_⟩; have n0_ := ak (Kd.R_reok rfl hy0 (fun k_ e_ => HO_7.out.1 k_ e_)); have n1_ := ak (Kd.R_mono (ok' := fun k_ => some k_ ≠ (.slice Ao44 t630.length co44 : Value).ownBlock) (Kd.R_keptB ((Kd.R_apart' HO_623001.out (Kd.R_typed HO_7.out) (by decide))) hkp (fun k_ hk_ hs_ => (hk_.2) hs_)) (fun k_ hk_ => hk_.1.1)); have n2_ := ak (Kd.R_mono (ok' := fun k_ => some k_ ≠ (.slice Ao29 t616.length co29 : Value).ownBlock) (Kd.R_keptB ((Kd.R_apart' HO_637001.out (Kd.R_typed HO_7.out) (by decide))) hkp (fun k_ hk_ hs_ => (hk_.2) hs_)) (fun k_ hk_ => hk_.1.1)); have n3_ := ak (blk_kept d28_1 hkp (fun hs_ => (fun e_ => (Kd.R_ne HO_7.out BK606.out (by decide)) e_) hs_)); have n4_ := ak (blk_kept d28_2 hkp (fun hs_ => (fun e_ => (Kd.R_ne HO_7.out BK622.out (by decide)) e_) hs_)); have n5_ := ak (blk_kept d28_7 hkp (fun hs_ => (fun e_ => (Kd.R_ne HO_7.out BK636.out (by decide)) e_) hs_)); have n6_ := ak (hb); clear HO_7 HO_623001 HO_637001 BK606 BK622 BK636 HB; have HO_7 := n0_; have HO_623001 := n1_; have HO_637001 := n2_; have BK606 := n3_; have BK622 := n4_; have BK636 := n5_; have HB := n6_; clear n0_ n1_ n2_ n3_ n4_ n5_ n6_; (try clear hb); (try clear hkp); (try clear hy0)))
          (try simp only [Act.put, List.setIfInBounds_toArray, List.set_cons_zero, List.set_cons_succ])
          go_cut [53] (fun v53 wc => ∃ (kq : Nat) (x53_55 : Bool), v53 = .bool x53_55 ∧ Aside0 (laws_FnExactListFrom.j4 kq l0 x53_55 a1_0 a1_1 a1_2 t615 t616 t619 t620 t621 t629 t630 t633 t634 t635 = some r) ∧ Aside0 (kq ≤ kj49) ∧ Aside0 (Kd.R k32 32 wc w.heap.size (fun k_ => some k_ ≠ ((.slice Ao44 t630.length co44) : Value).ownBlock) (.slice Ao29 t616.length co29) t616) ∧ Aside0 (Kd.R k32 32 wc w.heap.size (fun k_ => some k_ ≠ ((.slice Ao29 t616.length co29) : Value).ownBlock) (.slice Ao44 t630.length co44) t630) ∧ Aside0 (wc.heap[gb606]? = some (.cells #[.int .i64 a1_0, .int .i64 a1_1, .string a1_2] 24 (0, 0))) ∧ Aside0 (wc.heap[gb622]? = some (.cells #[.int .i64 t615, (.slice Ao29 t616.length co29), .int .i64 t619, .int .i64 t620, .string t621] 61 (0, 0))) ∧ Aside0 (wc.heap[gb636]? = some (.cells #[.int .i64 t629, (.slice Ao44 t630.length co44), .int .i64 t633, .int .i64 t634, .string t635] 61 (0, 0))) ∧ Aside0 (Below w.heap.size w wc))
          case first =>
           have H := HC56.out
           clear HC56
           by_cases c58 : t642 < 0
           ·rw [if_pos c58] at H
            have c58b0 : decide (t642 < 0) = true := decide_eq_true c58
            clear c58
            (first | rw [c58b0] | (simp only [i64_w, i32_w]; rw [c58b0]) | skip)
            have H' := ak H
            clear H
            go_wp2
            go_meet
            case rel => exact ⟨_, (true), (by first | rfl | (simp; done) | (simp [*]; done) | (simp [ne_nil_b, eq_nil_b]; done)), H', ⟨by have := HJ3.out; have := HJ8.out; have := HJ19.out; have := HJ49.out; first | omega | exact Nat.le_refl _⟩, ⟨by (with_reducible repeat (first | apply Kd.R_alloc | apply Kd.R_drewN | apply Kd.R_drew)); exact HO_623001.out⟩, ⟨by (with_reducible repeat (first | apply Kd.R_alloc | apply Kd.R_drewN | apply Kd.R_drew)); exact HO_637001.out⟩, ⟨by (with_reducible repeat (first | refine blk_drewN ?_ _ | refine blk_drew ?_ | refine blk_alloc ?_ _)); exact BK606.out⟩, ⟨by (with_reducible repeat (first | refine blk_drewN ?_ _ | refine blk_drew ?_ | refine blk_alloc ?_ _)); exact BK622.out⟩, ⟨by (with_reducible repeat (first | refine blk_drewN ?_ _ | refine blk_drew ?_ | refine blk_alloc ?_ _)); exact BK636.out⟩, ⟨by repeat (first | (with_reducible first | exact HB.out | apply below_alloc | apply pw_below_drewN | apply below_drew1 | refine below_set ?_ GE606.out | refine below_set ?_ GE622.out | refine below_set ?_ GE636.out) | exact HB.out)⟩⟩
           ·rw [if_neg c58] at H
            have c58b0 : decide (t642 < 0) = false := decide_eq_false c58
            clear c58
            (first | rw [c58b0] | (simp only [i64_w, i32_w]; rw [c58b0]) | skip)
            replace H := Option.bind_eq_some_iff.mp H
            obtain ⟨t644, A590, H⟩ := H
            replace H : (laws_FnExactListFrom.j4 kj49 l0 (!t644) a1_0 a1_1 a1_2 t615 t616 t619 t620 t621 t629 t630 t633 t634 t635) = some r := H
            have A59 := ak A590
            clear A590
            have H' := ak H
            clear H
            have hnb60 := NB636_606.out
            have hnc60 := NB606_636.out
            have hnb61 := NB636_622.out
            have hnc61 := NB622_636.out
            have hcz62_0 : w57.cell? ⟨gb636, 0, none⟩ = some (.int .i64 t629) := (blk_cell BK636.out 0).trans rfl
            have hcz62_1 : w57.cell? ⟨gb636, 1, none⟩ = some (.slice Ao44 t630.length co44) := (blk_cell BK636.out 1).trans rfl
            have hcz62_2 : w57.cell? ⟨gb636, 2, none⟩ = some (.int .i64 t633) := (blk_cell BK636.out 2).trans rfl
            have hcz62_3 : w57.cell? ⟨gb636, 3, none⟩ = some (.int .i64 t634) := (blk_cell BK636.out 3).trans rfl
            have hcz62_4 : w57.cell? ⟨gb636, 4, none⟩ = some (.string t635) := (blk_cell BK636.out 4).trans rfl
            have hfz62_0 := blk_frozen BK636.out 0
            have hfz62_1 := blk_frozen BK636.out 1
            have hfz62_2 := blk_frozen BK636.out 2
            have hfz62_3 := blk_frozen BK636.out 3
            have hfz62_4 := blk_frozen BK636.out 4
            have hnb63 := NB622_606.out
            have hnc63 := NB606_622.out
            have hcz64_0 : w57.cell? ⟨gb622, 0, none⟩ = some (.int .i64 t615) := (blk_cell BK622.out 0).trans rfl
            have hcz64_1 : w57.cell? ⟨gb622, 1, none⟩ = some (.slice Ao29 t616.length co29) := (blk_cell BK622.out 1).trans rfl
            have hcz64_2 : w57.cell? ⟨gb622, 2, none⟩ = some (.int .i64 t619) := (blk_cell BK622.out 2).trans rfl
            have hcz64_3 : w57.cell? ⟨gb622, 3, none⟩ = some (.int .i64 t620) := (blk_cell BK622.out 3).trans rfl
            have hcz64_4 : w57.cell? ⟨gb622, 4, none⟩ = some (.string t621) := (blk_cell BK622.out 4).trans rfl
            have hfz64_0 := blk_frozen BK622.out 0
            have hfz64_1 := blk_frozen BK622.out 1
            have hfz64_2 := blk_frozen BK622.out 2
            have hfz64_3 := blk_frozen BK622.out 3
            have hfz64_4 := blk_frozen BK622.out 4
            go_wp2_with (first | (go_at_call 36; (with_reducible refine (laws_eqValuesResult.calls kj49 t629 _ _ t630 t633 t634 t635 t615 _ _ t616 t619 t620 t621 t644 _ ?side1 ?side2 ?side3 ?side4 A59.out).mono ?_); (case side1 => repeat (first | exact (Kd.R_reads' HO_637001.out).2.2 | (with_reducible refine Kd.C_alloc ?_ _) | (with_reducible refine Kd.C_drewN ?_ _) | (with_reducible refine Kd.C_drew ?_))); (case side2 => exact (Kd.R_reads' HO_637001.out).2.1); (case side3 => repeat (first | exact (Kd.R_reads' HO_623001.out).2.2 | (with_reducible refine Kd.C_alloc ?_ _) | (with_reducible refine Kd.C_drewN ?_ _) | (with_reducible refine Kd.C_drew ?_))); (case side4 => exact (Kd.R_reads' HO_623001.out).2.1); rintro e w65 ⟨rfl, hb⟩; have n0_ := ak (Kd.R_below (by (with_reducible repeat (first | apply Kd.R_alloc | apply Kd.R_drewN | apply Kd.R_drew)); exact HO_7.out) hb); have n1_ := ak (Kd.R_below d28_9 hb); have n2_ := ak (Kd.R_below d28_10 hb); have n3_ := ak (blk_below (g := gb606) (o := .cells #[.int .i64 a1_0, .int .i64 a1_1, .string a1_2] 24 (0, 0)) d28_1 hb); have n4_ := ak (blk_below (g := gb622) (o := .cells #[.int .i64 t615, .slice Ao29 t616.length co29, .int .i64 t619, .int .i64 t620, .string t621] 61 (0, 0)) d28_2 hb); have n5_ := ak (blk_below (g := gb636) (o := .cells #[.int .i64 t629, .slice Ao44 t630.length co44, .int .i64 t633, .int .i64 t634, .string t635] 61 (0, 0)) d28_7 hb); have n6_ := ak (below_step d28_3 hb); clear HO_7 HO_623001 HO_637001 BK606 BK622 BK636 HB; have HO_7 := n0_; have HO_623001 := n1_; have HO_637001 := n2_; have BK606 := n3_; have BK622 := n4_; have BK636 := n5_; have HB := n6_; clear n0_ n1_ n2_ n3_ n4_ n5_ n6_; (try clear hb)))
            go_meet
            case rel => exact ⟨_, (!t644), (by first | rfl | (simp; done) | (simp [*]; done) | (simp [ne_nil_b, eq_nil_b]; done)), H', ⟨by have := HJ3.out; have := HJ8.out; have := HJ19.out; have := HJ49.out; first | omega | exact Nat.le_refl _⟩, ⟨by (with_reducible repeat (first | apply Kd.R_alloc | apply Kd.R_drewN | apply Kd.R_drew)); exact HO_623001.out⟩, ⟨by (with_reducible repeat (first | apply Kd.R_alloc | apply Kd.R_drewN | apply Kd.R_drew)); exact HO_637001.out⟩, ⟨by (with_reducible repeat (first | refine blk_drewN ?_ _ | refine blk_drew ?_ | refine blk_alloc ?_ _)); exact BK606.out⟩, ⟨by (with_reducible repeat (first | refine blk_drewN ?_ _ | refine blk_drew ?_ | refine blk_alloc ?_ _)); exact BK622.out⟩, ⟨by (with_reducible repeat (first | refine blk_drewN ?_ _ | refine blk_drew ?_ | refine blk_alloc ?_ _)); exact BK636.out⟩, ⟨by repeat (first | (with_reducible first | exact HB.out | apply below_alloc | apply pw_below_drewN | apply below_drew1 | refine below_set ?_ GE606.out | refine below_set ?_ GE622.out | refine below_set ?_ GE636.out) | exact HB.out)⟩⟩
          case rest =>
           clear HC56
           try clear c1
           try clear p2
           try clear c3
           try clear c4
           try clear c5
           try clear c6
           try clear c7
           try clear c7b0
           try clear c12
           try clear c12b0
           try clear c31
           try clear c32
           try clear c33
           try clear c34
           try clear c35
           try clear c36
           try clear c37
           try clear c38
           try clear c41
           try clear c42
           try clear c47
           try clear c54
           try clear hcz10_0
           try clear hcz10_1
           try clear hcz10_2
           try clear hcz36_0
           try clear hcz36_1
           try clear hcz36_2
           try clear hcz43_0
           try clear hcz43_1
           try clear hcz43_2
           try clear hcz43_3
           try clear hcz43_4
           try clear hcz45_0
           try clear hcz45_1
           try clear hcz45_2
           try clear hcz45_3
           try clear hcz45_4
           try clear hfz10_0
           try clear hfz10_1
           try clear hfz10_2
           try clear hfz36_0
           try clear hfz36_1
           try clear hfz36_2
           try clear hfz43_0
           try clear hfz43_1
           try clear hfz43_2
           try clear hfz43_3
           try clear hfz43_4
           try clear hfz45_0
           try clear hfz45_1
           try clear hfz45_2
           try clear hfz45_3
           try clear hfz45_4
           try clear p2
           obtain ⟨kq, x53_55, rfl, HA, HJ55, HO_623001, HO_637001, BK606, BK622, BK636, HB⟩ := hcut
           cases kq with
           | zero => exact absurd HA.out (by simp [laws_FnExactListFrom.j4])
           | succ kj55 =>
            have H := HA.out
            clear HA
            simp only [laws_FnExactListFrom.j4] at H
            have HC66 := ak H
            clear H
            go_upto_if 53 with (fail)
            go_cut [] (fun wc => ∃ (kq : Nat), Aside0 (laws_FnExactListFrom.j5 kq l0 a1_0 a1_1 a1_2 t615 t616 t619 t620 t621 t629 t630 t633 t634 t635 = some r) ∧ Aside0 (kq ≤ kj55) ∧ Aside0 (Kd.R k32 32 wc w.heap.size (fun k_ => some k_ ≠ ((.slice Ao44 t630.length co44) : Value).ownBlock) (.slice Ao29 t616.length co29) t616) ∧ Aside0 (Kd.R k32 32 wc w.heap.size (fun k_ => some k_ ≠ ((.slice Ao29 t616.length co29) : Value).ownBlock) (.slice Ao44 t630.length co44) t630) ∧ Aside0 (wc.heap[gb606]? = some (.cells #[.int .i64 a1_0, .int .i64 a1_1, .string a1_2] 24 (0, 0))) ∧ Aside0 (wc.heap[gb622]? = some (.cells #[.int .i64 t615, (.slice Ao29 t616.length co29), .int .i64 t619, .int .i64 t620, .string t621] 61 (0, 0))) ∧ Aside0 (wc.heap[gb636]? = some (.cells #[.int .i64 t629, (.slice Ao44 t630.length co44), .int .i64 t633, .int .i64 t634, .string t635] 61 (0, 0))) ∧ Aside0 (Below w.heap.size w wc))
            case first =>
             have H := HC66.out
             clear HC66
             by_cases c67 : x53_55 = true
             ·subst c67
              have H1 : (some false) = some r := by rw [if_pos rfl] at H; exact H
              clear H
              have H := H1
              clear H1
              obtain rfl := Option.some.inj H
              go_wp2
              go_ret
              exact ⟨by first | rfl | (simp [errW_none, errW_some] <;> rfl) | (simp [*, errW_none, errW_some] <;> rfl), by repeat (first | (with_reducible first | exact HB.out | apply below_alloc | apply pw_below_drewN | apply below_drew1 | refine below_set ?_ GE606.out | refine below_set ?_ GE622.out | refine below_set ?_ GE636.out) | exact HB.out)⟩
             ·replace c67 := Bool.eq_false_iff.mpr c67
              subst c67
              have H1 : (laws_FnExactListFrom.j5 kj55 l0 a1_0 a1_1 a1_2 t615 t616 t619 t620 t621 t629 t630 t633 t634 t635) = some r := by rw [if_neg (show ¬ (false = true) by decide)] at H; exact H
              clear H
              have H := H1
              clear H1
              have H' := ak H
              clear H
              go_wp2
              go_meet
              case rel => exact ⟨_, H', ⟨by have := HJ3.out; have := HJ8.out; have := HJ19.out; have := HJ49.out; have := HJ55.out; first | omega | exact Nat.le_refl _⟩, ⟨by (with_reducible repeat (first | apply Kd.R_alloc | apply Kd.R_drewN | apply Kd.R_drew)); exact HO_623001.out⟩, ⟨by (with_reducible repeat (first | apply Kd.R_alloc | apply Kd.R_drewN | apply Kd.R_drew)); exact HO_637001.out⟩, ⟨by (with_reducible repeat (first | refine blk_drewN ?_ _ | refine blk_drew ?_ | refine blk_alloc ?_ _)); exact BK606.out⟩, ⟨by (with_reducible repeat (first | refine blk_drewN ?_ _ | refine blk_drew ?_ | refine blk_alloc ?_ _)); exact BK622.out⟩, ⟨by (with_reducible repeat (first | refine blk_drewN ?_ _ | refine blk_drew ?_ | refine blk_alloc ?_ _)); exact BK636.out⟩, ⟨by repeat (first | (with_reducible first | exact HB.out | apply below_alloc | apply pw_below_drewN | apply below_drew1 | refine below_set ?_ GE606.out | refine below_set ?_ GE622.out | refine below_set ?_ GE636.out) | exact HB.out)⟩⟩
            case rest =>
             clear HC66
             try clear c1
             try clear p2
             try clear c3
             try clear c4
             try clear c5
             try clear c6
             try clear c7
             try clear c7b0
             try clear c12
             try clear c12b0
             try clear c31
             try clear c32
             try clear c33
             try clear c34
             try clear c35
             try clear c36
             try clear c37
             try clear c38
             try clear c41
             try clear c42
             try clear c47
             try clear c54
             try clear c58
             try clear c58b0
             try clear c60
             try clear c61
             try clear c63
             try clear hcz10_0
             try clear hcz10_1
             try clear hcz10_2
             try clear hcz36_0
             try clear hcz36_1
             try clear hcz36_2
             try clear hcz43_0
             try clear hcz43_1
             try clear hcz43_2
             try clear hcz43_3
             try clear hcz43_4
             try clear hcz45_0
             try clear hcz45_1
             try clear hcz45_2
             try clear hcz45_3
             try clear hcz45_4
             try clear hcz62_0
             try clear hcz62_1
             try clear hcz62_2
             try clear hcz62_3
             try clear hcz62_4
             try clear hcz64_0
             try clear hcz64_1
             try clear hcz64_2
             try clear hcz64_3
             try clear hcz64_4
             try clear hfz10_0
             try clear hfz10_1
             try clear hfz10_2
             try clear hfz36_0
             try clear hfz36_1
             try clear hfz36_2
             try clear hfz43_0
             try clear hfz43_1
             try clear hfz43_2
             try clear hfz43_3
             try clear hfz43_4
             try clear hfz45_0
             try clear hfz45_1
             try clear hfz45_2
             try clear hfz45_3
             try clear hfz45_4
             try clear hfz62_0
             try clear hfz62_1
             try clear hfz62_2
             try clear hfz62_3
             try clear hfz62_4
             try clear hfz64_0
             try clear hfz64_1
             try clear hfz64_2
             try clear hfz64_3
             try clear hfz64_4
             try clear p2
             obtain ⟨kq, HA, HJ65, HO_623001, HO_637001, BK606, BK622, BK636, HB⟩ := hcut
             cases kq with
             | zero => exact absurd HA.out (by simp [laws_FnExactListFrom.j5])
             | succ kj65 =>
              have H := HA.out
              clear HA
              simp only [laws_FnExactListFrom.j5] at H
              replace H := Option.bind_eq_some_iff.mp H
              obtain ⟨⟨t645, t646⟩, A680, H⟩ := H
              replace H : ((laws_heldValuesResult.f kj65 t629 t646 t633 t634 t635 1).bind fun t647 => (if t647 < 0 then (some false) else (laws_FnExactListFrom.j6 kj65 l0 t645 t647 a1_0 a1_1 a1_2 t615 t616 t619 t620 t621 t629 t646 t633 t634 t635))) = some r := H
              have A68 := ak A680
              clear A680
              replace H := Option.bind_eq_some_iff.mp H
              obtain ⟨t647, A690, H⟩ := H
              replace H : (if t647 < 0 then (some false) else (laws_FnExactListFrom.j6 kj65 l0 t645 t647 a1_0 a1_1 a1_2 t615 t616 t619 t620 t621 t629 t646 t633 t634 t635)) = some r := H
              have A69 := ak A690
              clear A690
              have HC70 := ak H
              clear H
              have hnb71 := NB636_606.out
              have hnc71 := NB606_636.out
              have hnb72 := NB636_622.out
              have hnc72 := NB622_636.out
              have hcz73_0 : wc.cell? ⟨gb636, 0, none⟩ = some (.int .i64 t629) := (blk_cell BK636.out 0).trans rfl
              have hcz73_1 : wc.cell? ⟨gb636, 1, none⟩ = some (.slice Ao44 t630.length co44) := (blk_cell BK636.out 1).trans rfl
              have hcz73_2 : wc.cell? ⟨gb636, 2, none⟩ = some (.int .i64 t633) := (blk_cell BK636.out 2).trans rfl
              have hcz73_3 : wc.cell? ⟨gb636, 3, none⟩ = some (.int .i64 t634) := (blk_cell BK636.out 3).trans rfl
              have hcz73_4 : wc.cell? ⟨gb636, 4, none⟩ = some (.string t635) := (blk_cell BK636.out 4).trans rfl
              have hfz73_0 := blk_frozen BK636.out 0
              have hfz73_1 := blk_frozen BK636.out 1
              have hfz73_2 := blk_frozen BK636.out 2
              have hfz73_3 := blk_frozen BK636.out 3
              have hfz73_4 := blk_frozen BK636.out 4
              go_upto_if 61 with (first | ((with_reducible refine gate_callee (f := 39) rfl ?_); refine goesL_ (some 56) rfl rfl Tryd.func39 (by kernel_rfl) rfl #[.agg #[.int .i64 t629, .slice Ao44 t630.length co44, .int .i64 t633, .int .i64 t634, .string t635], .int .i64 1] rfl d28_6 ?_; (with_reducible refine (laws_markValuesResult.calls kj65 t629 (fun k_ => some k_ = (.slice Ao44 t630.length co44 : Value).ownBlock) (.slice Ao44 t630.length co44) t630 t633 t634 t635 1 t645 t646 w _ ?side1 ?side2 A68.out).mono ?_); (case side1 => repeat (first | (with_reducible first | exact HB.out | apply below_alloc | apply pw_below_drewN | apply below_drew1 | refine below_set ?_ GE606.out | refine below_set ?_ GE622.out | refine below_set ?_ GE636.out) | exact HB.out)); (case side2 => exact Kd.R_tight rfl HO_637001.out); rintro e w74 ⟨rfl, hy0, hb, hkp⟩; refine ⟨_, rfl, ?_⟩; have n0_ := ak (Kd.R_mono (ok' := fun k_ => some k_ ≠ (.slice Ao44 t630.length co44 : Value).ownBlock) (Kd.R_keptB (HO_623001.out) hkp (fun k_ hk_ hs_ => (hk_) hs_)) (fun k_ hk_ => hk_.1)); have n1_ := ak (Kd.R_reok rfl hy0 (fun k_ e_ => HO_637001.out.1 k_ e_)); have n2_ := ak (blk_kept d28_1 hkp (fun hs_ => (fun e_ => (Kd.R_ne HO_637001.out BK606.out (by decide)) e_) hs_)); have n3_ := ak (blk_kept d28_2 hkp (fun hs_ => (fun e_ => (Kd.R_ne HO_637001.out BK622.out (by decide)) e_) hs_)); have n4_ := ak (blk_kept d28_7 hkp (fun hs_ => (fun e_ => (Kd.R_ne HO_637001.out BK636.out (by decide)) e_) hs_)); have n5_ := ak (hb); clear HO_623001 HO_637001 BK606 BK622 BK636 HB; have HO_623001 := n0_; have HO_637001 := n1_; have BK606 := n2_; have BK622 := n3_; have BK636 := n4_; have HB := n5_; clear n0_ n1_ n2_ n3_ n4_ n5_; (try clear hb); (try clear hkp); (try clear hy0); have hcz75_0 : w74.cell? ⟨gb636, 0, none⟩ = some (.int .i64 t629) := (blk_cell BK636.out 0).trans rfl; have hcz75_1 : w74.cell? ⟨gb636, 1, none⟩ = some (.slice Ao44 t630.length co44) := (blk_cell BK636.out 1).trans rfl; have hcz75_2 : w74.cell? ⟨gb636, 2, none⟩ = some (.int .i64 t633) := (blk_cell BK636.out 2).trans rfl; have hcz75_3 : w74.cell? ⟨gb636, 3, none⟩ = some (.int .i64 t634) := (blk_cell BK636.out 3).trans rfl; have hcz75_4 : w74.cell? ⟨gb636, 4, none⟩ = some (.string t635) := (blk_cell BK636.out 4).trans rfl; have hfz75_0 := blk_frozen BK636.out 0; have hfz75_1 := blk_frozen BK636.out 1; have hfz75_2 := blk_frozen BK636.out 2; have hfz75_3 := blk_frozen BK636.out 3; have hfz75_4 := blk_frozen BK636.out 4) | ((with_reducible refine gate_callee (f := 40) rfl ?_); refine goesL_ (some 59) rfl rfl Tryd.func40 (by kernel_rfl) rfl #[.agg #[.int .i64 t629, .slice Ao44 t646.length co44, .int .i64 t633, .int .i64 t634, .string t635], .int .i64 1] rfl (by (try simp only [List.map_toArray, List.map_cons, List.map_nil]); first | done | (rw [show t646.length = t630.length from (Kd.R_reads' HO_637001.out).1.symm] <;> rfl) | rfl | (simp only [List.length_drop, List.length_take]; rfl)) ?_; (with_reducible refine (laws_heldValuesResult.calls kj65 t629 _ _ t646 t633 t634 t635 1 t647 _ ?side1 ?side2 A69.out).mono ?_); (case side1 => repeat (first | exact (Kd.R_reads' HO_637001.out).2.2 | (with_reducible refine Kd.C_alloc ?_ _) | (with_reducible refine Kd.C_drewN ?_ _) | (with_reducible refine Kd.C_drew ?_))); (case side2 => rw [show t646.length = t630.length from (Kd.R_reads' HO_637001.out).1.symm]; exact (Kd.R_reads' HO_637001.out).2.1); rintro e w76 ⟨rfl, hb⟩; refine ⟨_, rfl, ?_⟩; have n0_ := ak (Kd.R_below d28_9 hb); have n1_ := ak (Kd.R_below d28_10 hb); have n2_ := ak (blk_below (g := gb606) (o := .cells #[.int .i64 a1_0, .int .i64 a1_1, .string a1_2] 24 (0, 0)) d28_1 hb); have n3_ := ak (blk_below (g := gb622) (o := .cells #[.int .i64 t615, .slice Ao29 t616.length co29, .int .i64 t619, .int .i64 t620, .string t621] 61 (0, 0)) d28_2 hb); have n4_ := ak (blk_below (g := gb636) (o := .cells #[.int .i64 t629, .slice Ao44 t630.length co44, .int .i64 t633, .int .i64 t634, .string t635] 61 (0, 0)) d28_7 hb); have n5_ := ak (below_step d28_3 hb); clear HO_623001 HO_637001 BK606 BK622 BK636 HB; have HO_623001 := n0_; have HO_637001 := n1_; have BK606 := n2_; have BK622 := n3_; have BK636 := n4_; have HB := n5_; clear n0_ n1_ n2_ n3_ n4_ n5_; (try clear hb)))
              (try simp only [Act.put, List.setIfInBounds_toArray, List.set_cons_zero, List.set_cons_succ])
              go_cut [] (fun wc => ∃ (kq : Nat), Aside0 (laws_FnExactListFrom.j6 kq l0 t645 t647 a1_0 a1_1 a1_2 t615 t616 t619 t620 t621 t629 t646 t633 t634 t635 = some r) ∧ Aside0 (kq ≤ kj65) ∧ Aside0 (Kd.R k32 32 wc w.heap.size (fun k_ => some k_ ≠ ((.slice Ao44 t630.length co44) : Value).ownBlock) (.slice Ao29 t616.length co29) t616) ∧ Aside0 (Kd.R k32 32 wc w.heap.size (fun k_ => some k_ ≠ ((.slice Ao29 t616.length co29) : Value).ownBlock) (.slice Ao44 t630.length co44) t646) ∧ Aside0 (wc.heap[gb606]? = some (.cells #[.int .i64 a1_0, .int .i64 a1_1, .string a1_2] 24 (0, 0))) ∧ Aside0 (wc.heap[gb622]? = some (.cells #[.int .i64 t615, (.slice Ao29 t616.length co29), .int .i64 t619, .int .i64 t620, .string t621] 61 (0, 0))) ∧ Aside0 (wc.heap[gb636]? = some (.cells #[.int .i64 t629, (.slice Ao44 t630.length co44), .int .i64 t633, .int .i64 t634, .string t635] 61 (0, 0))) ∧ Aside0 (Below w.heap.size w wc))
              case first =>
               have H := HC70.out
               clear HC70
               by_cases c77 : t647 < 0
               ·rw [if_pos c77] at H
                have c77b0 : decide (t647 < 0) = true := decide_eq_true c77
                clear c77
                (first | rw [c77b0] | (simp only [i64_w, i32_w]; rw [c77b0]) | skip)
                obtain rfl := Option.some.inj H
                go_wp2
                go_ret
                exact ⟨by first | rfl | (simp [errW_none, errW_some] <;> rfl) | (simp [*, errW_none, errW_some] <;> rfl), by repeat (first | (with_reducible first | exact HB.out | apply below_alloc | apply pw_below_drewN | apply below_drew1 | refine below_set ?_ GE606.out | refine below_set ?_ GE622.out | refine below_set ?_ GE636.out) | exact HB.out)⟩
               ·rw [if_neg c77] at H
                have c77b0 : decide (t647 < 0) = false := decide_eq_false c77
                clear c77
                (first | rw [c77b0] | (simp only [i64_w, i32_w]; rw [c77b0]) | skip)
                have H' := ak H
                clear H
                go_wp2
                go_meet
                case rel => exact ⟨_, H', ⟨by have := HJ3.out; have := HJ8.out; have := HJ19.out; have := HJ49.out; have := HJ55.out; have := HJ65.out; first | omega | exact Nat.le_refl _⟩, ⟨by (with_reducible repeat (first | apply Kd.R_alloc | apply Kd.R_drewN | apply Kd.R_drew)); exact HO_623001.out⟩, ⟨by (with_reducible repeat (first | apply Kd.R_alloc | apply Kd.R_drewN | apply Kd.R_drew)); exact HO_637001.out⟩, ⟨by (with_reducible repeat (first | refine blk_drewN ?_ _ | refine blk_drew ?_ | refine blk_alloc ?_ _)); exact BK606.out⟩, ⟨by (with_reducible repeat (first | refine blk_drewN ?_ _ | refine blk_drew ?_ | refine blk_alloc ?_ _)); exact BK622.out⟩, ⟨by (with_reducible repeat (first | refine blk_drewN ?_ _ | refine blk_drew ?_ | refine blk_alloc ?_ _)); exact BK636.out⟩, ⟨by repeat (first | (with_reducible first | exact HB.out | apply below_alloc | apply pw_below_drewN | apply below_drew1 | refine below_set ?_ GE606.out | refine below_set ?_ GE622.out | refine below_set ?_ GE636.out) | exact HB.out)⟩⟩
              case rest =>
               clear HC70
               try clear c1
               try clear p2
               try clear c3
               try clear c4
               try clear c5
               try clear c6
               try clear c7
               try clear c7b0
               try clear c12
               try clear c12b0
               try clear c31
               try clear c32
               try clear c33
               try clear c34
               try clear c35
               try clear c36
               try clear c37
               try clear c38
               try clear c39
               try clear c40
               try clear c41
               try clear c42
               try clear c47
               try clear c54
               try clear c58
               try clear c58b0
               try clear c60
               try clear c61
               try clear c63
               try clear c67
               try clear c71
               try clear c72
               try clear hcz10_0
               try clear hcz10_1
               try clear hcz10_2
               try clear hcz36_0
               try clear hcz36_1
               try clear hcz36_2
               try clear hcz43_0
               try clear hcz43_1
               try clear hcz43_2
               try clear hcz43_3
               try clear hcz43_4
               try clear hcz45_0
               try clear hcz45_1
               try clear hcz45_2
               try clear hcz45_3
               try clear hcz45_4
               try clear hcz62_0
               try clear hcz62_1
               try clear hcz62_2
               try clear hcz62_3
               try clear hcz62_4
               try clear hcz64_0
               try clear hcz64_1
               try clear hcz64_2
               try clear hcz64_3
               try clear hcz64_4
               try clear hcz73_0
               try clear hcz73_1
               try clear hcz73_2
               try clear hcz73_3
               try clear hcz73_4
               try clear hcz75_0
               try clear hcz75_1
               try clear hcz75_2
               try clear hcz75_3
               try clear hcz75_4
               try clear hfz10_0
               try clear hfz10_1
               try clear hfz10_2
               try clear hfz36_0
               try clear hfz36_1
               try clear hfz36_2
               try clear hfz43_0
               try clear hfz43_1
               try clear hfz43_2
               try clear hfz43_3
               try clear hfz43_4
               try clear hfz45_0
               try clear hfz45_1
               try clear hfz45_2
               try clear hfz45_3
               try clear hfz45_4
               try clear hfz62_0
               try clear hfz62_1
               try clear hfz62_2
               try clear hfz62_3
               try clear hfz62_4
               try clear hfz64_0
               try clear hfz64_1
               try clear hfz64_2
               try clear hfz64_3
               try clear hfz64_4
               try clear hfz73_0
               try clear hfz73_1
               try clear hfz73_2
               try clear hfz73_3
               try clear hfz73_4
               try clear hfz75_0
               try clear hfz75_1
               try clear hfz75_2
               try clear hfz75_3
               try clear hfz75_4
               try clear p2
               obtain ⟨kq, HA, HJ69, HO_623001, HO_637001, BK606, BK622, BK636, HB⟩ := hcut
               have hl637001_69 := (Kd.R_reads' HO_637001.out).1
               rw [hl637001_69] at HO_637001
               (try simp only [hl637001_69])
               (try simp only [hl637001_69] at BK606)
               (try simp only [hl637001_69] at BK622)
               (try simp only [hl637001_69] at BK636)
               (try simp only [hl637001_69] at HO_623001)
               cases kq with
               | zero => exact absurd HA.out (by simp [laws_FnExactListFrom.j6])
               | succ kj69 =>
                have H := HA.out
                clear HA
                simp only [laws_FnExactListFrom.j6] at H
                have HC78 := ak H
                clear H
                go_upto_if 64 with (fail)
                go_cut [] (fun wc => ∃ (kq : Nat), Aside0 (laws_FnExactListFrom.j7 kq l0 t645 a1_0 a1_1 a1_2 t615 t616 t619 t620 t621 t629 t646 t633 t634 t635 = some r) ∧ Aside0 (kq ≤ kj69) ∧ Aside0 (Kd.R k32 32 wc w.heap.size (fun k_ => some k_ ≠ ((.slice Ao44 t646.length co44) : Value).ownBlock) (.slice Ao29 t616.length co29) t616) ∧ Aside0 (Kd.R k32 32 wc w.heap.size (fun k_ => some k_ ≠ ((.slice Ao29 t616.length co29) : Value).ownBlock) (.slice Ao44 t646.length co44) t646) ∧ Aside0 (wc.heap[gb606]? = some (.cells #[.int .i64 a1_0, .int .i64 a1_1, .string a1_2] 24 (0, 0))) ∧ Aside0 (wc.heap[gb622]? = some (.cells #[.int .i64 t615, (.slice Ao29 t616.length co29), .int .i64 t619, .int .i64 t620, .string t621] 61 (0, 0))) ∧ Aside0 (wc.heap[gb636]? = some (.cells #[.int .i64 t629, (.slice Ao44 t646.length co44), .int .i64 t633, .int .i64 t634, .string t635] 61 (0, 0))) ∧ Aside0 (Below w.heap.size w wc))
                case first =>
                 have H := HC78.out
                 clear HC78
                 by_cases c79 : t647 = t645
                 ·rw [if_pos c79] at H
                  have c79b0 : (t647 == t645) = true := beq_iff_eq.mpr c79
                  have c79b1 : (t647 != t645) = false := bne_eq_false_iff_eq.mpr c79
                  clear c79
                  (first | rw [c79b0] | (simp only [i64_w, i32_w]; rw [c79b0]) | skip)
                  have H' := ak H
                  clear H
                  go_wp2
                  go_meet
                  case rel => exact ⟨_, H', ⟨by have := HJ3.out; have := HJ8.out; have := HJ19.out; have := HJ49.out; have := HJ55.out; have := HJ65.out; have := HJ69.out; first | omega | exact Nat.le_refl _⟩, ⟨by (try simp only [hl637001_69]); (with_reducible repeat (first | apply Kd.R_alloc | apply Kd.R_drewN | apply Kd.R_drew)); exact HO_623001.out⟩, ⟨by (try simp only [hl637001_69]); (with_reducible repeat (first | apply Kd.R_alloc | apply Kd.R_drewN | apply Kd.R_drew)); exact HO_637001.out⟩, ⟨by (try simp only [hl637001_69]); (with_reducible repeat (first | refine blk_drewN ?_ _ | refine blk_drew ?_ | refine blk_alloc ?_ _)); exact BK606.out⟩, ⟨by (try simp only [hl637001_69]); (with_reducible repeat (first | refine blk_drewN ?_ _ | refine blk_drew ?_ | refine blk_alloc ?_ _)); exact BK622.out⟩, ⟨by (try simp only [hl637001_69]); (with_reducible repeat (first | refine blk_drewN ?_ _ | refine blk_drew ?_ | refine blk_alloc ?_ _)); exact BK636.out⟩, ⟨by repeat (first | (with_reducible first | exact HB.out | apply below_alloc | apply pw_below_drewN | apply below_drew1 | refine below_set ?_ GE606.out | refine below_set ?_ GE622.out | refine below_set ?_ GE636.out) | exact HB.out)⟩⟩
                 ·rw [if_neg c79] at H
                  have c79b0 : (t647 == t645) = false := beq_eq_false_iff_ne.mpr c79
                  have c79b1 : (t647 != t645) = true := bne_iff_ne.mpr c79
                  (first | rw [c79b0] | (simp only [i64_w, i32_w]; rw [c79b0]) | skip)
                  obtain rfl := Option.some.inj H
                  go_wp2
                  go_ret
                  exact ⟨by first | rfl | (simp [errW_none, errW_some] <;> rfl) | (simp [*, errW_none, errW_some] <;> rfl), by repeat (first | (with_reducible first | exact HB.out | apply below_alloc | apply pw_below_drewN | apply below_drew1 | refine below_set ?_ GE606.out | refine below_set ?_ GE622.out | refine below_set ?_ GE636.out) | exact HB.out)⟩
                case rest =>
                 clear HC78
                 try clear c1
                 try clear p2
                 try clear c3
                 try clear c4
                 try clear c5
                 try clear c6
                 try clear c7
                 try clear c7b0
                 try clear c12
                 try clear c12b0
                 try clear c31
                 try clear c32
                 try clear c33
                 try clear c34
                 try clear c35
                 try clear c36
                 try clear c37
                 try clear c38
                 try clear c39
                 try clear c40
                 try clear c41
                 try clear c42
                 try clear c47
                 try clear c54
                 try clear c58
                 try clear c58b0
                 try clear c60
                 try clear c61
                 try clear c63
                 try clear c67
                 try clear c71
                 try clear c72
                 try clear c77
                 try clear c77b0
                 try clear hcz10_0
                 try clear hcz10_1
                 try clear hcz10_2
                 try clear hcz36_0
                 try clear hcz36_1
                 try clear hcz36_2
                 try clear hcz43_0
                 try clear hcz43_1
                 try clear hcz43_2
                 try clear hcz43_3
                 try clear hcz43_4
                 try clear hcz45_0
                 try clear hcz45_1
                 try clear hcz45_2
                 try clear hcz45_3
                 try clear hcz45_4
                 try clear hcz62_0
                 try clear hcz62_1
                 try clear hcz62_2
                 try clear hcz62_3
                 try clear hcz62_4
                 try clear hcz64_0
                 try clear hcz64_1
                 try clear hcz64_2
                 try clear hcz64_3
                 try clear hcz64_4
                 try clear hcz73_0
                 try clear hcz73_1
                 try clear hcz73_2
                 try clear hcz73_3
                 try clear hcz73_4
                 try clear hcz75_0
                 try clear hcz75_1
                 try clear hcz75_2
                 try clear hcz75_3
                 try clear hcz75_4
                 try clear hfz10_0
                 try clear hfz10_1
                 try clear hfz10_2
                 try clear hfz36_0
                 try clear hfz36_1
                 try clear hfz36_2
                 try clear hfz43_0
                 try clear hfz43_1
                 try clear hfz43_2
                 try clear hfz43_3
                 try clear hfz43_4
                 try clear hfz45_0
                 try clear hfz45_1
                 try clear hfz45_2
                 try clear hfz45_3
                 try clear hfz45_4
                 try clear hfz62_0
                 try clear hfz62_1
                 try clear hfz62_2
                 try clear hfz62_3
                 try clear hfz62_4
                 try clear hfz64_0
                 try clear hfz64_1
                 try clear hfz64_2
                 try clear hfz64_3
                 try clear hfz64_4
                 try clear hfz73_0
                 try clear hfz73_1
                 try clear hfz73_2
                 try clear hfz73_3
                 try clear hfz73_4
                 try clear hfz75_0
                 try clear hfz75_1
                 try clear hfz75_2
                 try clear hfz75_3
                 try clear hfz75_4
                 try clear p2
                 obtain ⟨kq, HA, HJ77, HO_623001, HO_637001, BK606, BK622, BK636, HB⟩ := hcut
                 cases kq with
                 | zero => exact absurd HA.out (by simp [laws_FnExactListFrom.j7])
                 | succ kj77 =>
                  have H := HA.out
                  clear HA
                  simp only [laws_FnExactListFrom.j7] at H
                  replace H := Option.bind_eq_some_iff.mp H
                  obtain ⟨t648, A800, H⟩ := H
                  replace H : ((laws_toValue.f a1_0 a1_1 a1_2).bind fun bt651 => ((impl_ListFrom.f kj77 t648 bt651.1 bt651.2.1 bt651.2.2).bind fun bt654 => ((laws_eqValuesResult.f kj77 bt654.1 bt654.2.1 bt654.2.2.1 bt654.2.2.2.1 bt654.2.2.2.2 t615 t616 t619 t620 t621).bind fun t662 => (if t662 = true then (laws_FnExactListFrom.j8 kj77 t645 t629 t646 t633 t634 t635) else (some false))))) = some r := H
                  have A80 := ak A800
                  clear A800
                  replace H := Option.bind_eq_some_iff.mp H
                  obtain ⟨⟨t651, t652, t653⟩, A810, H⟩ := H
                  replace H : ((impl_ListFrom.f kj77 t648 t651 t652 t653).bind fun bt654 => ((laws_eqValuesResult.f kj77 bt654.1 bt654.2.1 bt654.2.2.1 bt654.2.2.2.1 bt654.2.2.2.2 t615 t616 t619 t620 t621).bind fun t662 => (if t662 = true then (laws_FnExactListFrom.j8 kj77 t645 t629 t646 t633 t634 t635) else (some false)))) = some r := H
                  have A81 := ak A810
                  clear A810
                  replace H := Option.bind_eq_some_iff.mp H
                  obtain ⟨⟨t654, t655, t658, t659, t660⟩, A820, H⟩ := H
                  replace H : ((laws_eqValuesResult.f kj77 t654 t655 t658 t659 t660 t615 t616 t619 t620 t621).bind fun t662 => (if t662 = true then (laws_FnExactListFrom.j8 kj77 t645 t629 t646 t633 t634 t635) else (some false))) = some r := H
                  have A82 := ak A820
                  clear A820
                  replace H := Option.bind_eq_some_iff.mp H
                  obtain ⟨t662, A830, H⟩ := H
                  replace H : (if t662 = true then (laws_FnExactListFrom.j8 kj77 t645 t629 t646 t633 t634 t635) else (some false)) = some r := H
                  have A83 := ak A830
                  clear A830
                  have HC84 := ak H
                  clear H
                  try go_wp2
                  have n0_ := ak (Kd.R_drew HO_623001.out)
                  have n1_ := ak (Kd.R_drew HO_637001.out)
                  have n2_ := ak (blk_drew BK606.out)
                  have n3_ := ak (blk_drew BK622.out)
                  have n4_ := ak (blk_drew BK636.out)
                  have n5_ := ak (below_drew1 HB.out)
                  clear HO_623001
                  clear HO_637001
                  clear BK606
                  clear BK622
                  clear BK636
                  clear HB
                  have HO_623001 := n0_
                  have HO_637001 := n1_
                  have BK606 := n2_
                  have BK622 := n3_
                  have BK636 := n4_
                  have HB := n5_
                  clear n0_ n1_ n2_ n3_ n4_ n5_
                  refine start_ (n := 7) (S := fun w' => w'.cell? ⟨gb606, 0, none⟩ = some (.int .i64 a1_0) ∧ w'.cell? ⟨gb606, 1, none⟩ = some (.int .i64 a1_1) ∧ w'.cell? ⟨gb606, 2, none⟩ = some (.string a1_2)) (ds := []) #[false, false, false, false, false, false, false] (by kernel_rfl) rfl rfl ⟨(blk_cell BK606.out 0).trans rfl, (blk_cell BK606.out 1).trans rfl, (blk_cell BK606.out 2).trans rfl⟩ (fun hHeld => ?_)
                  generalize wc.drew = w85 at HO_623001 HO_637001 BK606 BK622 BK636 HB hHeld ⊢
                  refine pure_ (i := 0) (N := some 65) (v := ?_) (a' := ?_) #[true, false, false, false, false, false, false] rfl rfl (by kernel_rfl) (fun _ _ _ h => h) (Or.inl ⟨by rfl, ?_⟩) ?_ ?_
                  rotate_left
                  · intro w'
                    go_simp
                    with_reducible rfl
                  rotate_left
                  · simp only [Act.put, List.setIfInBounds_toArray, List.set_cons_zero, List.set_cons_succ, i64_w, i32_w]
                    rfl
                  refine take_ (i := 2) (N := some 67) (v := ?_) (a' := ?_) #[true, false, true, false, false, false, false] rfl rfl (by kernel_rfl) (fun _ _ _ h => h) (Or.inl ⟨by rfl, ?_⟩) hHeld ?_ ?_
                  rotate_left
                  · rintro w' ⟨s0, s1, s2⟩
                    go_simp
                    with_reducible rfl
                  rotate_left
                  · simp only [Act.put, List.setIfInBounds_toArray, List.set_cons_zero, List.set_cons_succ, i64_w, i32_w]
                    rfl
                  refine join_ (σ := Value × Value × Nat) 1 #[true, true, true, true, true, true, false] (fun s_ => [(66, s_.1), (68, .agg #[.int .i64 t651, .int .i64 t652, .string t653]), (69, .agg #[.int .i64 t654, s_.2.1, .int .i64 t658, .int .i64 t659, .string t660]), (12, .pointer (some ⟨s_.2.2, 0, none⟩))]) (fun s_ w' => (w'.cell? ⟨gb606, 0, none⟩ = some (.int .i64 a1_0) ∧ w'.cell? ⟨gb606, 1, none⟩ = some (.int .i64 a1_1) ∧ w'.cell? ⟨gb606, 2, none⟩ = some (.string a1_2)) ∧ (Kd.R k112 112 w' w.heap.size (fun _ => True) s_.1 t648) ∧ (Kd.R k32 32 w' w.heap.size (fun k_ => some k_ ≠ (.slice Ao29 t616.length co29 : Value).ownBlock ∧ some k_ ≠ (.slice Ao44 t646.length co44 : Value).ownBlock) s_.2.1 t655) ∧ (Kd.R k32 32 w' w.heap.size (fun k_ => some k_ ≠ (s_.2.1 : Value).ownBlock ∧ some k_ ≠ (.slice Ao44 t646.length co44 : Value).ownBlock) (.slice Ao29 t616.length co29) t616) ∧ (Kd.R k32 32 w' w.heap.size (fun k_ => some k_ ≠ (s_.2.1 : Value).ownBlock ∧ some k_ ≠ (.slice Ao29 t616.length co29 : Value).ownBlock) (.slice Ao44 t646.length co44) t646) ∧ (w'.heap[gb606]? = some (.cells #[.int .i64 a1_0, .int .i64 a1_1, .string a1_2] 24 (0, 0))) ∧ (w'.heap[gb622]? = some (.cells #[.int .i64 t615, .slice Ao29 t616.length co29, .int .i64 t619, .int .i64 t620, .string t621] 61 (0, 0))) ∧ (w'.heap[gb636]? = some (.cells #[.int .i64 t629, .slice Ao44 t646.length co44, .int .i64 t633, .int .i64 t634, .string t635] 61 (0, 0))) ∧ (w'.heap[s_.2.2]? = some (.cells #[.int .i64 0, .slice none 0 0, .int .i64 0, .int .i64 0, .string (⟨#[]⟩ : ByteArray)] 61 (0, 0))) ∧ (w.heap.size ≤ s_.2.2) ∧ (w.heap.size ≤ s_.2.2) ∧ (gb606 ≠ s_.2.2) ∧ (s_.2.2 ≠ gb606) ∧ (gb622 ≠ s_.2.2) ∧ (s_.2.2 ≠ gb622) ∧ (gb636 ≠ s_.2.2) ∧ (s_.2.2 ≠ gb636) ∧ (Below w.heap.size w w')) ?_ ?_
                  rotate_left
                  · intro hCont
                    refine two_ (i := 1) (j := 5) (Ni := some 66) (Nj := some 12) #[true, true, true, false, false, false, false] #[true, false, true, false, false, true, false] rfl rfl rfl rfl (by kernel_rfl) (by decide) (by decide) (fun K hK => ?_) (fun K hK => ?_)
                    · skip
                      refine goes_ Tryd.func33 (by kernel_rfl) rfl #[.slice A0 l0.length c0] (by rfl) rfl rfl d28_6 ?_
                      with_reducible refine (laws_toPairS.calls kj77 _ _ l0 t648 _ ?side1 ?side2 A80.out).mono ?_
                      (case side1 => repeat (first | exact (Kd.C_below HR0.out HB.out) | (with_reducible refine Kd.C_alloc ?_ _) | (with_reducible refine Kd.C_drewN ?_ _) | (with_reducible refine Kd.C_drew ?_)))
                      (case side2 => exact HC0.out)
                      rintro e w86 ⟨v649, rfl, ho0, hb⟩
                      refine ⟨_, rfl, ?_⟩
                      have n0_ := ak (Kd.R_below d28_9 hb)
                      have n1_ := ak (Kd.R_below d28_10 hb)
                      have n2_ := ak (Kd.R_lower ho0 (below_size d28_3))
                      have n3_ := ak (blk_below (g := gb606) (o := .cells #[.int .i64 a1_0, .int .i64 a1_1, .string a1_2] 24 (0, 0)) d28_1 hb)
                      have n4_ := ak (blk_below (g := gb622) (o := .cells #[.int .i64 t615, .slice Ao29 t616.length co29, .int .i64 t619, .int .i64 t620, .string t621] 61 (0, 0)) d28_2 hb)
                      have n5_ := ak (blk_below (g := gb636) (o := .cells #[.int .i64 t629, .slice Ao44 t646.length co44, .int .i64 t633, .int .i64 t634, .string t635] 61 (0, 0)) d28_7 hb)
                      have n6_ := ak (below_step d28_3 hb)
                      clear HO_623001
                      clear HO_637001
                      clear BK606
                      clear BK622
                      clear BK636
                      clear HB
                      have HO_623001 := n0_
                      have HO_637001 := n1_
                      have HO650 := n2_
                      have BK606 := n3_
                      have BK622 := n4_
                      have BK636 := n5_
                      have HB := n6_
                      clear n0_ n1_ n2_ n3_ n4_ n5_ n6_
                      (try clear hb)
                      (try clear hb2)
                      (try clear hk)
                      (try clear hi)
                      (try clear ho0)
                      refine hK.out _ _ ⟨(blk_cell BK606.out 0).trans rfl, (blk_cell BK606.out 1).trans rfl, (blk_cell BK606.out 2).trans rfl⟩ (fun hHeld => ?_)
                      clear hK K
                      refine norm_ (a' := ?_) ?_ ?_
                      rotate_left
                      · show Act.put _ (some 66) _ = _
                        simp only [Act.put, List.setIfInBounds_toArray, List.set_cons_zero, List.set_cons_succ, i64_w, i32_w]
                        rfl
                      refine two_ (i := 3) (j := 5) (Ni := some 68) (Nj := some 12) #[true, true, true, true, false, false, false] #[true, true, true, false, false, true, false] rfl rfl rfl rfl (by kernel_rfl) (by decide) (by decide) (fun K hK => ?_) (fun K hK => ?_)
                      · skip
                        refine goes_ Tryd.func34 (by kernel_rfl) rfl #[.agg #[.int .i64 a1_0, .int .i64 a1_1, .string a1_2]] (by rfl) rfl rfl d28_6 ?_
                        with_reducible refine (laws_toValue.calls a1_0 a1_1 a1_2 t651 t652 t653 _ A81.out).mono ?_
                        rintro e w87 ⟨rfl, hb⟩
                        refine ⟨_, rfl, ?_⟩
                        have n0_ := ak (Kd.R_below d28_9 hb)
                        have n1_ := ak (Kd.R_below d28_10 hb)
                        have n2_ := ak (Kd.R_below d28_13 hb)
                        have n3_ := ak (blk_below (g := gb606) (o := .cells #[.int .i64 a1_0, .int .i64 a1_1, .string a1_2] 24 (0, 0)) d28_1 hb)
                        have n4_ := ak (blk_below (g := gb622) (o := .cells #[.int .i64 t615, .slice Ao29 t616.length co29, .int .i64 t619, .int .i64 t620, .string t621] 61 (0, 0)) d28_2 hb)
                        have n5_ := ak (blk_below (g := gb636) (o := .cells #[.int .i64 t629, .slice Ao44 t646.length co44, .int .i64 t633, .int .i64 t634, .string t635] 61 (0, 0)) d28_7 hb)
                        have n6_ := ak (below_step d28_3 hb)
                        clear HO_623001
                        clear HO_637001
                        clear HO650
                        clear BK606
                        clear BK622
                        clear BK636
                        clear HB
                        have HO_623001 := n0_
                        have HO_637001 := n1_
                        have HO650 := n2_
                        have BK606 := n3_
                        have BK622 := n4_
                        have BK636 := n5_
                        have HB := n6_
                        clear n0_ n1_ n2_ n3_ n4_ n5_ n6_
                        (try clear hb)
                        (try clear hb2)
                        (try clear hk)
                        (try clear hi)
                        obtain ⟨Ao88, co88, eo88⟩ := Kd.R_slice HO650.out
                        (first | subst eo88 | (injection eo88 with f1_ f2_ f3_; have f4_ := f1_.symm; have f5_ := f3_.symm; clear f1_ f2_ f3_; subst f4_; subst f5_))
                        refine hK.out _ _ ⟨(blk_cell BK606.out 0).trans rfl, (blk_cell BK606.out 1).trans rfl, (blk_cell BK606.out 2).trans rfl⟩ (fun hHeld => ?_)
                        clear hK K
                        refine norm_ (a' := ?_) ?_ ?_
                        rotate_left
                        · show Act.put _ (some 68) _ = _
                          simp only [Act.put, List.setIfInBounds_toArray, List.set_cons_zero, List.set_cons_succ, i64_w, i32_w]
                          rfl
                        refine two_ (i := 4) (j := 5) (Ni := some 69) (Nj := some 12) #[true, true, true, true, true, false, false] #[true, true, true, true, false, true, false] rfl rfl rfl rfl (by kernel_rfl) (by decide) (by decide) (fun K hK => ?_) (fun K hK => ?_)
                        · skip
                          refine goes_ Tryd.func35 (by kernel_rfl) rfl #[.slice Ao88 t648.length co88, .agg #[.int .i64 t651, .int .i64 t652, .string t653]] (by rfl) rfl rfl d28_6 ?_
                          with_reducible refine (impl_ListFrom.calls kj77 _ _ t648 t651 t652 t653 t654 t655 t658 t659 t660 _ ?side1 ?side2 A82.out).mono ?_
                          (case side1 => repeat (first | exact (Kd.R_reads' HO650.out).2.2 | (with_reducible refine Kd.C_alloc ?_ _) | (with_reducible refine Kd.C_drewN ?_ _) | (with_reducible refine Kd.C_drew ?_)))
                          (case side2 => exact (Kd.R_reads' HO650.out).2.1)
                          rintro e w89 ⟨v656, rfl, ho0, hb⟩
                          refine ⟨_, rfl, ?_⟩
                          have n0_ := ak (Kd.R_elder' d28_9 (Kd.R_base ho0) hb)
                          have n1_ := ak (Kd.R_elder' d28_10 (Kd.R_base ho0) hb)
                          have n2_ := ak (Kd.R_below d28_13 hb)
                          have n3_ := ak (Kd.R_lower (Kd.R_new' (Kd.R_new' ho0 (Kd.R_lt d28_9)) (Kd.R_lt d28_10)) (below_size d28_3))
                          have n4_ := ak (blk_below (g := gb606) (o := .cells #[.int .i64 a1_0, .int .i64 a1_1, .string a1_2] 24 (0, 0)) d28_1 hb)
                          have n5_ := ak (blk_below (g := gb622) (o := .cells #[.int .i64 t615, .slice Ao29 t616.length co29, .int .i64 t619, .int .i64 t620, .string t621] 61 (0, 0)) d28_2 hb)
                          have n6_ := ak (blk_below (g := gb636) (o := .cells #[.int .i64 t629, .slice Ao44 t646.length co44, .int .i64 t633, .int .i64 t634, .string t635] 61 (0, 0)) d28_7 hb)
                          have n7_ := ak (below_step d28_3 hb)
                          clear HO_623001
                          clear HO_637001
                          clear HO650
                          clear BK606
                          clear BK622
                          clear BK636
                          clear HB
                          have HO_623001 := n0_
                          have HO_637001 := n1_
                          have HO650 := n2_
                          have HO657 := n3_
                          have BK606 := n4_
                          have BK622 := n5_
                          have BK636 := n6_
                          have HB := n7_
                          clear n0_ n1_ n2_ n3_ n4_ n5_ n6_ n7_
                          (try clear hb)
                          (try clear hb2)
                          (try clear hk)
                          (try clear hi)
                          (try clear ho0)
                          refine hK.out _ _ ⟨(blk_cell BK606.out 0).trans rfl, (blk_cell BK606.out 1).trans rfl, (blk_cell BK606.out 2).trans rfl⟩ (fun hHeld => ?_)
                          clear hK K
                          refine norm_ (a' := ?_) ?_ ?_
                          rotate_left
                          · show Act.put _ (some 69) _ = _
                            simp only [Act.put, List.setIfInBounds_toArray, List.set_cons_zero, List.set_cons_succ, i64_w, i32_w]
                            rfl
                          refine one_ (i := 5) (N := some 12) #[true, true, true, true, true, true, false] rfl rfl (by kernel_rfl) (by decide) (fun K hK => ?_)
                          refine box_step ?hg (N := 12) ?hd (cs := #[.int .i64 0, .slice none 0 0, .int .i64 0, .int .i64 0, .string (⟨#[]⟩ : ByteArray)]) (t := 61) ?hr ?_; (case hd => rfl); (case hg => rfl); (case hr => first | (go_simp; done) | (go_simp; rfl))
                          intro gb661 hg w90 hbox hb
                          have n0_ := ak (Kd.R_below d28_9 hb)
                          have n1_ := ak (Kd.R_below d28_10 hb)
                          have n2_ := ak (Kd.R_below d28_13 hb)
                          have n3_ := ak (Kd.R_below (by (with_reducible repeat (first | apply Kd.R_alloc | apply Kd.R_drewN | apply Kd.R_drew)); exact HO657.out) hb)
                          have n4_ := ak (blk_below (g := gb606) (o := .cells #[.int .i64 a1_0, .int .i64 a1_1, .string a1_2] 24 (0, 0)) d28_1 hb)
                          have n5_ := ak (blk_below (g := gb622) (o := .cells #[.int .i64 t615, .slice Ao29 t616.length co29, .int .i64 t619, .int .i64 t620, .string t621] 61 (0, 0)) d28_2 hb)
                          have n6_ := ak (blk_below (g := gb636) (o := .cells #[.int .i64 t629, .slice Ao44 t646.length co44, .int .i64 t633, .int .i64 t634, .string t635] 61 (0, 0)) d28_7 hb)
                          have n7_ := ak (below_step d28_3 hb)
                          have n8_ := ak (hbox)
                          have n9_ := ak ((by rw [hg]; exact (below_size d28_3) : w.heap.size ≤ gb661))
                          have n10_ := ak ((by rw [hg]; exact (below_size d28_3) : w.heap.size ≤ gb661))
                          have n11_ := ak ((by rw [hg]; exact Nat.ne_of_lt (blk_lt (g := gb606) (o := .cells #[.int .i64 a1_0, .int .i64 a1_1, .string a1_2] 24 (0, 0)) d28_1) : gb606 ≠ gb661))
                          have n12_ := ak ((by rw [hg]; exact Nat.ne_of_gt (blk_lt (g := gb606) (o := .cells #[.int .i64 a1_0, .int .i64 a1_1, .string a1_2] 24 (0, 0)) d28_1) : gb661 ≠ gb606))
                          have n13_ := ak ((by rw [hg]; exact Nat.ne_of_lt (blk_lt (g := gb622) (o := .cells #[.int .i64 t615, .slice Ao29 t616.length co29, .int .i64 t619, .int .i64 t620, .string t621] 61 (0, 0)) d28_2) : gb622 ≠ gb661))
                          have n14_ := ak ((by rw [hg]; exact Nat.ne_of_gt (blk_lt (g := gb622) (o := .cells #[.int .i64 t615, .slice Ao29 t616.length co29, .int .i64 t619, .int .i64 t620, .string t621] 61 (0, 0)) d28_2) : gb661 ≠ gb622))
                          have n15_ := ak ((by rw [hg]; exact Nat.ne_of_lt (blk_lt (g := gb636) (o := .cells #[.int .i64 t629, .slice Ao44 t646.length co44, .int .i64 t633, .int .i64 t634, .string t635] 61 (0, 0)) d28_7) : gb636 ≠ gb661))
                          have n16_ := ak ((by rw [hg]; exact Nat.ne_of_gt (blk_lt (g := gb636) (o := .cells #[.int .i64 t629, .slice Ao44 t646.length co44, .int .i64 t633, .int .i64 t634, .string t635] 61 (0, 0)) d28_7) : gb661 ≠ gb636))
                          clear HO_623001
                          clear HO_637001
                          clear HO650
                          clear HO657
                          clear BK606
                          clear BK622
                          clear BK636
                          clear HB
                          have HO_623001 := n0_
                          have HO_637001 := n1_
                          have HO650 := n2_
                          have HO657 := n3_
                          have BK606 := n4_
                          have BK622 := n5_
                          have BK636 := n6_
                          have HB := n7_
                          have BK661 := n8_
                          have GW661 := n9_
                          have GE661 := n10_
                          have NB606_661 := n11_
                          have NB661_606 := n12_
                          have NB622_661 := n13_
                          have NB661_622 := n14_
                          have NB636_661 := n15_
                          have NB661_636 := n16_
                          clear n0_ n1_ n2_ n3_ n4_ n5_ n6_ n7_ n8_ n9_ n10_ n11_ n12_ n13_ n14_ n15_ n16_
                          clear hb hbox hg
                          refine hK.out _ _ ⟨(blk_cell BK606.out 0).trans rfl, (blk_cell BK606.out 1).trans rfl, (blk_cell BK606.out 2).trans rfl⟩ (fun hHeld => ?_)
                          clear hK K
                          refine norm_ (a' := ?_) ?_ ?_
                          rotate_left
                          · show Act.put _ (some 12) _ = _
                            simp only [Act.put, List.setIfInBounds_toArray, List.set_cons_zero, List.set_cons_succ, i64_w, i32_w]
                            rfl
                          exact norm_ d28_15 (hCont (.slice Ao88 t648.length co88, v656, gb661) _ ⟨hHeld, d28_13, d28_18, d28_16, d28_17, d28_1, d28_2, d28_7, d28_12, GW661.out, GE661.out, NB606_661.out, NB661_606.out, NB622_661.out, NB661_622.out, NB636_661.out, NB661_636.out, d28_4⟩)
                        · skip
                          refine box_step ?hg (N := 12) ?hd (cs := #[.int .i64 0, .slice none 0 0, .int .i64 0, .int .i64 0, .string (⟨#[]⟩ : ByteArray)]) (t := 61) ?hr ?_; (case hd => rfl); (case hg => rfl); (case hr => first | (go_simp; done) | (go_simp; rfl))
                          intro gb661 hg w88 hbox hb
                          have n0_ := ak (Kd.R_below d28_9 hb)
                          have n1_ := ak (Kd.R_below d28_10 hb)
                          have n2_ := ak (Kd.R_below d28_13 hb)
                          have n3_ := ak (blk_below (g := gb606) (o := .cells #[.int .i64 a1_0, .int .i64 a1_1, .string a1_2] 24 (0, 0)) d28_1 hb)
                          have n4_ := ak (blk_below (g := gb622) (o := .cells #[.int .i64 t615, .slice Ao29 t616.length co29, .int .i64 t619, .int .i64 t620, .string t621] 61 (0, 0)) d28_2 hb)
                          have n5_ := ak (blk_below (g := gb636) (o := .cells #[.int .i64 t629, .slice Ao44 t646.length co44, .int .i64 t633, .int .i64 t634, .string t635] 61 (0, 0)) d28_7 hb)
                          have n6_ := ak (below_step d28_3 hb)
                          have n7_ := ak (hbox)
                          have n8_ := ak ((by rw [hg]; exact (below_size d28_3) : w.heap.size ≤ gb661))
                          have n9_ := ak ((by rw [hg]; exact (below_size d28_3) : w.heap.size ≤ gb661))
                          have n10_ := ak ((by rw [hg]; exact Nat.ne_of_lt (blk_lt (g := gb606) (o := .cells #[.int .i64 a1_0, .int .i64 a1_1, .string a1_2] 24 (0, 0)) d28_1) : gb606 ≠ gb661))
                          have n11_ := ak ((by rw [hg]; exact Nat.ne_of_gt (blk_lt (g := gb606) (o := .cells #[.int .i64 a1_0, .int .i64 a1_1, .string a1_2] 24 (0, 0)) d28_1) : gb661 ≠ gb606))
                          have n12_ := ak ((by rw [hg]; exact Nat.ne_of_lt (blk_lt (g := gb622) (o := .cells #[.int .i64 t615, .slice Ao29 t616.length co29, .int .i64 t619, .int .i64 t620, .string t621] 61 (0, 0)) d28_2) : gb622 ≠ gb661))
                          have n13_ := ak ((by rw [hg]; exact Nat.ne_of_gt (blk_lt (g := gb622) (o := .cells #[.int .i64 t615, .slice Ao29 t616.length co29, .int .i64 t619, .int .i64 t620, .string t621] 61 (0, 0)) d28_2) : gb661 ≠ gb622))
                          have n14_ := ak ((by rw [hg]; exact Nat.ne_of_lt (blk_lt (g := gb636) (o := .cells #[.int .i64 t629, .slice Ao44 t646.length co44, .int .i64 t633, .int .i64 t634, .string t635] 61 (0, 0)) d28_7) : gb636 ≠ gb661))
                          have n15_ := ak ((by rw [hg]; exact Nat.ne_of_gt (blk_lt (g := gb636) (o := .cells #[.int .i64 t629, .slice Ao44 t646.length co44, .int .i64 t633, .int .i64 t634, .string t635] 61 (0, 0)) d28_7) : gb661 ≠ gb636))
                          clear HO_623001
                          clear HO_637001
                          clear HO650
                          clear BK606
                          clear BK622
                          clear BK636
                          clear HB
                          have HO_623001 := n0_
                          have HO_637001 := n1_
                          have HO650 := n2_
                          have BK606 := n3_
                          have BK622 := n4_
                          have BK636 := n5_
                          have HB := n6_
                          have BK661 := n7_
                          have GW661 := n8_
                          have GE661 := n9_
                          have NB606_661 := n10_
                          have NB661_606 := n11_
                          have NB622_661 := n12_
                          have NB661_622 := n13_
                          have NB636_661 := n14_
                          have NB661_636 := n15_
                          clear n0_ n1_ n2_ n3_ n4_ n5_ n6_ n7_ n8_ n9_ n10_ n11_ n12_ n13_ n14_ n15_
                          clear hb hbox hg
                          obtain ⟨Ao89, co89, eo89⟩ := Kd.R_slice HO650.out
                          (first | subst eo89 | (injection eo89 with f1_ f2_ f3_; have f4_ := f1_.symm; have f5_ := f3_.symm; clear f1_ f2_ f3_; subst f4_; subst f5_))
                          refine hK.out _ _ ⟨(blk_cell BK606.out 0).trans rfl, (blk_cell BK606.out 1).trans rfl, (blk_cell BK606.out 2).trans rfl⟩ (fun hHeld => ?_)
                          clear hK K
                          refine norm_ (a' := ?_) ?_ ?_
                          rotate_left
                          · show Act.put _ (some 12) _ = _
                            simp only [Act.put, List.setIfInBounds_toArray, List.set_cons_zero, List.set_cons_succ, i64_w, i32_w]
                            rfl
                          refine one_ (i := 4) (N := some 69) #[true, true, true, true, true, true, false] rfl rfl (by kernel_rfl) (by decide) (fun K hK => ?_)
                          refine goes_ Tryd.func35 (by kernel_rfl) rfl #[.slice Ao89 t648.length co89, .agg #[.int .i64 t651, .int .i64 t652, .string t653]] (by rfl) rfl rfl d28_6 ?_
                          with_reducible refine (impl_ListFrom.calls kj77 _ _ t648 t651 t652 t653 t654 t655 t658 t659 t660 _ ?side1 ?side2 A82.out).mono ?_
                          (case side1 => repeat (first | exact (Kd.R_reads' HO650.out).2.2 | (with_reducible refine Kd.C_alloc ?_ _) | (with_reducible refine Kd.C_drewN ?_ _) | (with_reducible refine Kd.C_drew ?_)))
                          (case side2 => exact (Kd.R_reads' HO650.out).2.1)
                          rintro e w90 ⟨v656, rfl, ho0, hb⟩
                          refine ⟨_, rfl, ?_⟩
                          have n0_ := ak (Kd.R_elder' d28_9 (Kd.R_base ho0) hb)
                          have n1_ := ak (Kd.R_elder' d28_10 (Kd.R_base ho0) hb)
                          have n2_ := ak (Kd.R_below d28_13 hb)
                          have n3_ := ak (Kd.R_lower (Kd.R_new' (Kd.R_new' ho0 (Kd.R_lt d28_9)) (Kd.R_lt d28_10)) (below_size d28_4))
                          have n4_ := ak (blk_below (g := gb606) (o := .cells #[.int .i64 a1_0, .int .i64 a1_1, .string a1_2] 24 (0, 0)) d28_1 hb)
                          have n5_ := ak (blk_below (g := gb622) (o := .cells #[.int .i64 t615, .slice Ao29 t616.length co29, .int .i64 t619, .int .i64 t620, .string t621] 61 (0, 0)) d28_2 hb)
                          have n6_ := ak (blk_below (g := gb636) (o := .cells #[.int .i64 t629, .slice Ao44 t646.length co44, .int .i64 t633, .int .i64 t634, .string t635] 61 (0, 0)) d28_7 hb)
                          have n7_ := ak (blk_below (g := gb661) (o := .cells #[.int .i64 0, .slice none 0 0, .int .i64 0, .int .i64 0, .string (⟨#[]⟩ : ByteArray)] 61 (0, 0)) d28_12 hb)
                          have n8_ := ak (below_step d28_4 hb)
                          clear HO_623001
                          clear HO_637001
                          clear HO650
                          clear BK606
                          clear BK622
                          clear BK636
                          clear BK661
                          clear HB
                          have HO_623001 := n0_
                          have HO_637001 := n1_
                          have HO650 := n2_
                          have HO657 := n3_
                          have BK606 := n4_
                          have BK622 := n5_
                          have BK636 := n6_
                          have BK661 := n7_
                          have HB := n8_
                          clear n0_ n1_ n2_ n3_ n4_ n5_ n6_ n7_ n8_
                          (try clear hb)
                          (try clear hb2)
                          (try clear hk)
                          (try clear hi)
                          (try clear ho0)
                          refine hK.out _ _ ⟨(blk_cell BK606.out 0).trans rfl, (blk_cell BK606.out 1).trans rfl, (blk_cell BK606.out 2).trans rfl⟩ (fun hHeld => ?_)
                          clear hK K
                          refine norm_ (a' := ?_) ?_ ?_
                          rotate_left
                          · show Act.put _ (some 69) _ = _
                            simp only [Act.put, List.setIfInBounds_toArray, List.set_cons_zero, List.set_cons_succ, i64_w, i32_w]
                            rfl
                          exact norm_ d28_15 (hCont (.slice Ao89 t648.length co89, v656, gb661) _ ⟨hHeld, d28_13, d28_18, d28_16, d28_17, d28_1, d28_2, d28_7, d28_12, GW661.out, GE661.out, NB606_661.out, NB661_606.out, NB622_661.out, NB661_622.out, NB636_661.out, NB661_636.out, d28_4⟩)
                      · skip
                        refine box_step ?hg (N := 12) ?hd (cs := #[.int .i64 0, .slice none 0 0, .int .i64 0, .int .i64 0, .string (⟨#[]⟩ : ByteArray)]) (t := 61) ?hr ?_; (case hd => rfl); (case hg => rfl); (case hr => first | (go_simp; done) | (go_simp; rfl))
                        intro gb661 hg w87 hbox hb
                        have n0_ := ak (Kd.R_below d28_9 hb)
                        have n1_ := ak (Kd.R_below d28_10 hb)
                        have n2_ := ak (Kd.R_below d28_13 hb)
                        have n3_ := ak (blk_below (g := gb606) (o := .cells #[.int .i64 a1_0, .int .i64 a1_1, .string a1_2] 24 (0, 0)) d28_1 hb)
                        have n4_ := ak (blk_below (g := gb622) (o := .cells #[.int .i64 t615, .slice Ao29 t616.length co29, .int .i64 t619, .int .i64 t620, .string t621] 61 (0, 0)) d28_2 hb)
                        have n5_ := ak (blk_below (g := gb636) (o := .cells #[.int .i64 t629, .slice Ao44 t646.length co44, .int .i64 t633, .int .i64 t634, .string t635] 61 (0, 0)) d28_7 hb)
                        have n6_ := ak (below_step d28_3 hb)
                        have n7_ := ak (hbox)
                        have n8_ := ak ((by rw [hg]; exact (below_size d28_3) : w.heap.size ≤ gb661))
                        have n9_ := ak ((by rw [hg]; exact (below_size d28_3) : w.heap.size ≤ gb661))
                        have n10_ := ak ((by rw [hg]; exact Nat.ne_of_lt (blk_lt (g := gb606) (o := .cells #[.int .i64 a1_0, .int .i64 a1_1, .string a1_2] 24 (0, 0)) d28_1) : gb606 ≠ gb661))
                        have n11_ := ak ((by rw [hg]; exact Nat.ne_of_gt (blk_lt (g := gb606) (o := .cells #[.int .i64 a1_0, .int .i64 a1_1, .string a1_2] 24 (0, 0)) d28_1) : gb661 ≠ gb606))
                        have n12_ := ak ((by rw [hg]; exact Nat.ne_of_lt (blk_lt (g := gb622) (o := .cells #[.int .i64 t615, .slice Ao29 t616.length co29, .int .i64 t619, .int .i64 t620, .string t621] 61 (0, 0)) d28_2) : gb622 ≠ gb661))
                        have n13_ := ak ((by rw [hg]; exact Nat.ne_of_gt (blk_lt (g := gb622) (o := .cells #[.int .i64 t615, .slice Ao29 t616.length co29, .int .i64 t619, .int .i64 t620, .string t621] 61 (0, 0)) d28_2) : gb661 ≠ gb622))
                        have n14_ := ak ((by rw [hg]; exact Nat.ne_of_lt (blk_lt (g := gb636) (o := .cells #[.int .i64 t629, .slice Ao44 t646.length co44, .int .i64 t633, .int .i64 t634, .string t635] 61 (0, 0)) d28_7) : gb636 ≠ gb661))
                        have n15_ := ak ((by rw [hg]; exact Nat.ne_of_gt (blk_lt (g := gb636) (o := .cells #[.int .i64 t629, .slice Ao44 t646.length co44, .int .i64 t633, .int .i64 t634, .string t635] 61 (0, 0)) d28_7) : gb661 ≠ gb636))
                        clear HO_623001
                        clear HO_637001
                        clear HO650
                        clear BK606
                        clear BK622
                        clear BK636
                        clear HB
                        have HO_623001 := n0_
                        have HO_637001 := n1_
                        have HO650 := n2_
                        have BK606 := n3_
                        have BK622 := n4_
                        have BK636 := n5_
                        have HB := n6_
                        have BK661 := n7_
                        have GW661 := n8_
                        have GE661 := n9_
                        have NB606_661 := n10_
                        have NB661_606 := n11_
                        have NB622_661 := n12_
                        have NB661_622 := n13_
                        have NB636_661 := n14_
                        have NB661_636 := n15_
                        clear n0_ n1_ n2_ n3_ n4_ n5_ n6_ n7_ n8_ n9_ n10_ n11_ n12_ n13_ n14_ n15_
                        clear hb hbox hg
                        refine hK.out _ _ ⟨(blk_cell BK606.out 0).trans rfl, (blk_cell BK606.out 1).trans rfl, (blk_cell BK606.out 2).trans rfl⟩ (fun hHeld => ?_)
                        clear hK K
                        refine norm_ (a' := ?_) ?_ ?_
                        rotate_left
                        · show Act.put _ (some 12) _ = _
                          simp only [Act.put, List.setIfInBounds_toArray, List.set_cons_zero, List.set_cons_succ, i64_w, i32_w]
                          rfl
                        refine one_ (i := 3) (N := some 68) #[true, true, true, true, false, true, false] rfl rfl (by kernel_rfl) (by decide) (fun K hK => ?_)
                        refine goes_ Tryd.func34 (by kernel_rfl) rfl #[.agg #[.int .i64 a1_0, .int .i64 a1_1, .string a1_2]] (by rfl) rfl rfl d28_6 ?_
                        with_reducible refine (laws_toValue.calls a1_0 a1_1 a1_2 t651 t652 t653 _ A81.out).mono ?_
                        rintro e w88 ⟨rfl, hb⟩
                        refine ⟨_, rfl, ?_⟩
                        have n0_ := ak (Kd.R_below d28_9 hb)
                        have n1_ := ak (Kd.R_below d28_10 hb)
                        have n2_ := ak (Kd.R_below d28_13 hb)
                        have n3_ := ak (blk_below (g := gb606) (o := .cells #[.int .i64 a1_0, .int .i64 a1_1, .string a1_2] 24 (0, 0)) d28_1 hb)
                        have n4_ := ak (blk_below (g := gb622) (o := .cells #[.int .i64 t615, .slice Ao29 t616.length co29, .int .i64 t619, .int .i64 t620, .string t621] 61 (0, 0)) d28_2 hb)
                        have n5_ := ak (blk_below (g := gb636) (o := .cells #[.int .i64 t629, .slice Ao44 t646.length co44, .int .i64 t633, .int .i64 t634, .string t635] 61 (0, 0)) d28_7 hb)
                        have n6_ := ak (blk_below (g := gb661) (o := .cells #[.int .i64 0, .slice none 0 0, .int .i64 0, .int .i64 0, .string (⟨#[]⟩ : ByteArray)] 61 (0, 0)) d28_12 hb)
                        have n7_ := ak (below_step d28_4 hb)
                        clear HO_623001
                        clear HO_637001
                        clear HO650
                        clear BK606
                        clear BK622
                        clear BK636
                        clear BK661
                        clear HB
                        have HO_623001 := n0_
                        have HO_637001 := n1_
                        have HO650 := n2_
                        have BK606 := n3_
                        have BK622 := n4_
                        have BK636 := n5_
                        have BK661 := n6_
                        have HB := n7_
                        clear n0_ n1_ n2_ n3_ n4_ n5_ n6_ n7_
                        (try clear hb)
                        (try clear hb2)
                        (try clear hk)
                        (try clear hi)
                        obtain ⟨Ao89, co89, eo89⟩ := Kd.R_slice HO650.out
                        (first | subst eo89 | (injection eo89 with f1_ f2_ f3_; have f4_ := f1_.symm; have f5_ := f3_.symm; clear f1_ f2_ f3_; subst f4_; subst f5_))
                        refine hK.out _ _ ⟨(blk_cell BK606.out 0).trans rfl, (blk_cell BK606.out 1).trans rfl, (blk_cell BK606.out 2).trans rfl⟩ (fun hHeld => ?_)
                        clear hK K
                        refine norm_ (a' := ?_) ?_ ?_
                        rotate_left
                        · show Act.put _ (some 68) _ = _
                          simp only [Act.put, List.setIfInBounds_toArray, List.set_cons_zero, List.set_cons_succ, i64_w, i32_w]
                          rfl
                        refine one_ (i := 4) (N := some 69) #[true, true, true, true, true, true, false] rfl rfl (by kernel_rfl) (by decide) (fun K hK => ?_)
                        refine goes_ Tryd.func35 (by kernel_rfl) rfl #[.slice Ao89 t648.length co89, .agg #[.int .i64 t651, .int .i64 t652, .string t653]] (by rfl) rfl rfl d28_6 ?_
                        with_reducible refine (impl_ListFrom.calls kj77 _ _ t648 t651 t652 t653 t654 t655 t658 t659 t660 _ ?side1 ?side2 A82.out).mono ?_
                        (case side1 => repeat (first | exact (Kd.R_reads' HO650.out).2.2 | (with_reducible refine Kd.C_alloc ?_ _) | (with_reducible refine Kd.C_drewN ?_ _) | (with_reducible refine Kd.C_drew ?_)))
                        (case side2 => exact (Kd.R_reads' HO650.out).2.1)
                        rintro e w90 ⟨v656, rfl, ho0, hb⟩
                        refine ⟨_, rfl, ?_⟩
                        have n0_ := ak (Kd.R_elder' d28_9 (Kd.R_base ho0) hb)
                        have n1_ := ak (Kd.R_elder' d28_10 (Kd.R_base ho0) hb)
                        have n2_ := ak (Kd.R_below d28_13 hb)
                        have n3_ := ak (Kd.R_lower (Kd.R_new' (Kd.R_new' ho0 (Kd.R_lt d28_9)) (Kd.R_lt d28_10)) (below_size d28_4))
                        have n4_ := ak (blk_below (g := gb606) (o := .cells #[.int .i64 a1_0, .int .i64 a1_1, .string a1_2] 24 (0, 0)) d28_1 hb)
                        have n5_ := ak (blk_below (g := gb622) (o := .cells #[.int .i64 t615, .slice Ao29 t616.length co29, .int .i64 t619, .int .i64 t620, .string t621] 61 (0, 0)) d28_2 hb)
                        have n6_ := ak (blk_below (g := gb636) (o := .cells #[.int .i64 t629, .slice Ao44 t646.length co44, .int .i64 t633, .int .i64 t634, .string t635] 61 (0, 0)) d28_7 hb)
                        have n7_ := ak (blk_below (g := gb661) (o := .cells #[.int .i64 0, .slice none 0 0, .int .i64 0, .int .i64 0, .string (⟨#[]⟩ : ByteArray)] 61 (0, 0)) d28_12 hb)
                        have n8_ := ak (below_step d28_4 hb)
                        clear HO_623001
                        clear HO_637001
                        clear HO650
                        clear BK606
                        clear BK622
                        clear BK636
                        clear BK661
                        clear HB
                        have HO_623001 := n0_
                        have HO_637001 := n1_
                        have HO650 := n2_
                        have HO657 := n3_
                        have BK606 := n4_
                        have BK622 := n5_
                        have BK636 := n6_
                        have BK661 := n7_
                        have HB := n8_
                        clear n0_ n1_ n2_ n3_ n4_ n5_ n6_ n7_ n8_
                        (try clear hb)
                        (try clear hb2)
                        (try clear hk)
                        (try clear hi)
                        (try clear ho0)
                        refine hK.out _ _ ⟨(blk_cell BK606.out 0).trans rfl, (blk_cell BK606.out 1).trans rfl, (blk_cell BK606.out 2).trans rfl⟩ (fun hHeld => ?_)
                        clear hK K
                        refine norm_ (a' := ?_) ?_ ?_
                        rotate_left
                        · show Act.put _ (some 69) _ = _
                          simp only [Act.put, List.setIfInBounds_toArray, List.set_cons_zero, List.set_cons_succ, i64_w, i32_w]
                          rfl
                        exact norm_ d28_15 (hCont (.slice Ao89 t648.length co89, v656, gb661) _ ⟨hHeld, d28_13, d28_18, d28_16, d28_17, d28_1, d28_2, d28_7, d28_12, GW661.out, GE661.out, NB606_661.out, NB661_606.out, NB622_661.out, NB661_622.out, NB636_661.out, NB661_636.out, d28_4⟩)
                    · skip
                      refine box_step ?hg (N := 12) ?hd (cs := #[.int .i64 0, .slice none 0 0, .int .i64 0, .int .i64 0, .string (⟨#[]⟩ : ByteArray)]) (t := 61) ?hr ?_; (case hd => rfl); (case hg => rfl); (case hr => first | (go_simp; done) | (go_simp; rfl))
                      intro gb661 hg w86 hbox hb
                      have n0_ := ak (Kd.R_below d28_9 hb)
                      have n1_ := ak (Kd.R_below d28_10 hb)
                      have n2_ := ak (blk_below (g := gb606) (o := .cells #[.int .i64 a1_0, .int .i64 a1_1, .string a1_2] 24 (0, 0)) d28_1 hb)
                      have n3_ := ak (blk_below (g := gb622) (o := .cells #[.int .i64 t615, .slice Ao29 t616.length co29, .int .i64 t619, .int .i64 t620, .string t621] 61 (0, 0)) d28_2 hb)
                      have n4_ := ak (blk_below (g := gb636) (o := .cells #[.int .i64 t629, .slice Ao44 t646.length co44, .int .i64 t633, .int .i64 t634, .string t635] 61 (0, 0)) d28_7 hb)
                      have n5_ := ak (below_step d28_3 hb)
                      have n6_ := ak (hbox)
                      have n7_ := ak ((by rw [hg]; exact (below_size d28_3) : w.heap.size ≤ gb661))
                      have n8_ := ak ((by rw [hg]; exact (below_size d28_3) : w.heap.size ≤ gb661))
                      have n9_ := ak ((by rw [hg]; exact Nat.ne_of_lt (blk_lt (g := gb606) (o := .cells #[.int .i64 a1_0, .int .i64 a1_1, .string a1_2] 24 (0, 0)) d28_1) : gb606 ≠ gb661))
                      have n10_ := ak ((by rw [hg]; exact Nat.ne_of_gt (blk_lt (g := gb606) (o := .cells #[.int .i64 a1_0, .int .i64 a1_1, .string a1_2] 24 (0, 0)) d28_1) : gb661 ≠ gb606))
                      have n11_ := ak ((by rw [hg]; exact Nat.ne_of_lt (blk_lt (g := gb622) (o := .cells #[.int .i64 t615, .slice Ao29 t616.length co29, .int .i64 t619, .int .i64 t620, .string t621] 61 (0, 0)) d28_2) : gb622 ≠ gb661))
                      have n12_ := ak ((by rw [hg]; exact Nat.ne_of_gt (blk_lt (g := gb622) (o := .cells #[.int .i64 t615, .slice Ao29 t616.length co29, .int .i64 t619, .int .i64 t620, .string t621] 61 (0, 0)) d28_2) : gb661 ≠ gb622))
                      have n13_ := ak ((by rw [hg]; exact Nat.ne_of_lt (blk_lt (g := gb636) (o := .cells #[.int .i64 t629, .slice Ao44 t646.length co44, .int .i64 t633, .int .i64 t634, .string t635] 61 (0, 0)) d28_7) : gb636 ≠ gb661))
                      have n14_ := ak ((by rw [hg]; exact Nat.ne_of_gt (blk_lt (g := gb636) (o := .cells #[.int .i64 t629, .slice Ao44 t646.length co44, .int .i64 t633, .int .i64 t634, .string t635] 61 (0, 0)) d28_7) : gb661 ≠ gb636))
                      clear HO_623001
                      clear HO_637001
                      clear BK606
                      clear BK622
                      clear BK636
                      clear HB
                      have HO_623001 := n0_
                      have HO_637001 := n1_
                      have BK606 := n2_
                      have BK622 := n3_
                      have BK636 := n4_
                      have HB := n5_
                      have BK661 := n6_
                      have GW661 := n7_
                      have GE661 := n8_
                      have NB606_661 := n9_
                      have NB661_606 := n10_
                      have NB622_661 := n11_
                      have NB661_622 := n12_
                      have NB636_661 := n13_
                      have NB661_636 := n14_
                      clear n0_ n1_ n2_ n3_ n4_ n5_ n6_ n7_ n8_ n9_ n10_ n11_ n12_ n13_ n14_
                      clear hb hbox hg
                      refine hK.out _ _ ⟨(blk_cell BK606.out 0).trans rfl, (blk_cell BK606.out 1).trans rfl, (blk_cell BK606.out 2).trans rfl⟩ (fun hHeld => ?_)
                      clear hK K
                      refine norm_ (a' := ?_) ?_ ?_
                      rotate_left
                      · show Act.put _ (some 12) _ = _
                        simp only [Act.put, List.setIfInBounds_toArray, List.set_cons_zero, List.set_cons_succ, i64_w, i32_w]
                        rfl
                      refine one_ (i := 1) (N := some 66) #[true, true, true, false, false, true, false] rfl rfl (by kernel_rfl) (by decide) (fun K hK => ?_)
                      refine goes_ Tryd.func33 (by kernel_rfl) rfl #[.slice A0 l0.length c0] (by rfl) rfl rfl d28_6 ?_
                      with_reducible refine (laws_toPairS.calls kj77 _ _ l0 t648 _ ?side1 ?side2 A80.out).mono ?_
                      (case side1 => repeat (first | exact (Kd.C_below HR0.out HB.out) | (with_reducible refine Kd.C_alloc ?_ _) | (with_reducible refine Kd.C_drewN ?_ _) | (with_reducible refine Kd.C_drew ?_)))
                      (case side2 => exact HC0.out)
                      rintro e w87 ⟨v649, rfl, ho0, hb⟩
                      refine ⟨_, rfl, ?_⟩
                      have n0_ := ak (Kd.R_below d28_9 hb)
                      have n1_ := ak (Kd.R_below d28_10 hb)
                      have n2_ := ak (Kd.R_lower ho0 (below_size d28_4))
                      have n3_ := ak (blk_below (g := gb606) (o := .cells #[.int .i64 a1_0, .int .i64 a1_1, .string a1_2] 24 (0, 0)) d28_1 hb)
                      have n4_ := ak (blk_below (g := gb622) (o := .cells #[.int .i64 t615, .slice Ao29 t616.length co29, .int .i64 t619, .int .i64 t620, .string t621] 61 (0, 0)) d28_2 hb)
                      have n5_ := ak (blk_below (g := gb636) (o := .cells #[.int .i64 t629, .slice Ao44 t646.length co44, .int .i64 t633, .int .i64 t634, .string t635] 61 (0, 0)) d28_7 hb)
                      have n6_ := ak (blk_below (g := gb661) (o := .cells #[.int .i64 0, .slice none 0 0, .int .i64 0, .int .i64 0, .string (⟨#[]⟩ : ByteArray)] 61 (0, 0)) d28_12 hb)
                      have n7_ := ak (below_step d28_4 hb)
                      clear HO_623001
                      clear HO_637001
                      clear BK606
                      clear BK622
                      clear BK636
                      clear BK661
                      clear HB
                      have HO_623001 := n0_
                      have HO_637001 := n1_
                      have HO650 := n2_
                      have BK606 := n3_
                      have BK622 := n4_
                      have BK636 := n5_
                      have BK661 := n6_
                      have HB := n7_
                      clear n0_ n1_ n2_ n3_ n4_ n5_ n6_ n7_
                      (try clear hb)
                      (try clear hb2)
                      (try clear hk)
                      (try clear hi)
                      (try clear ho0)
                      refine hK.out _ _ ⟨(blk_cell BK606.out 0).trans rfl, (blk_cell BK606.out 1).trans rfl, (blk_cell BK606.out 2).trans rfl⟩ (fun hHeld => ?_)
                      clear hK K
                      refine norm_ (a' := ?_) ?_ ?_
                      rotate_left
                      · show Act.put _ (some 66) _ = _
                        simp only [Act.put, List.setIfInBounds_toArray, List.set_cons_zero, List.set_cons_succ, i64_w, i32_w]
                        rfl
                      refine one_ (i := 3) (N := some 68) #[true, true, true, true, false, true, false] rfl rfl (by kernel_rfl) (by decide) (fun K hK => ?_)
                      refine goes_ Tryd.func34 (by kernel_rfl) rfl #[.agg #[.int .i64 a1_0, .int .i64 a1_1, .string a1_2]] (by rfl) rfl rfl d28_6 ?_
                      with_reducible refine (laws_toValue.calls a1_0 a1_1 a1_2 t651 t652 t653 _ A81.out).mono ?_
                      rintro e w88 ⟨rfl, hb⟩
                      refine ⟨_, rfl, ?_⟩
                      have n0_ := ak (Kd.R_below d28_9 hb)
                      have n1_ := ak (Kd.R_below d28_10 hb)
                      have n2_ := ak (Kd.R_below d28_13 hb)
                      have n3_ := ak (blk_below (g := gb606) (o := .cells #[.int .i64 a1_0, .int .i64 a1_1, .string a1_2] 24 (0, 0)) d28_1 hb)
                      have n4_ := ak (blk_below (g := gb622) (o := .cells #[.int .i64 t615, .slice Ao29 t616.length co29, .int .i64 t619, .int .i64 t620, .string t621] 61 (0, 0)) d28_2 hb)
                      have n5_ := ak (blk_below (g := gb636) (o := .cells #[.int .i64 t629, .slice Ao44 t646.length co44, .int .i64 t633, .int .i64 t634, .string t635] 61 (0, 0)) d28_7 hb)
                      have n6_ := ak (blk_below (g := gb661) (o := .cells #[.int .i64 0, .slice none 0 0, .int .i64 0, .int .i64 0, .string (⟨#[]⟩ : ByteArray)] 61 (0, 0)) d28_12 hb)
                      have n7_ := ak (below_step d28_4 hb)
                      clear HO_623001
                      clear HO_637001
                      clear HO650
                      clear BK606
                      clear BK622
                      clear BK636
                      clear BK661
                      clear HB
                      have HO_623001 := n0_
                      have HO_637001 := n1_
                      have HO650 := n2_
                      have BK606 := n3_
                      have BK622 := n4_
                      have BK636 := n5_
                      have BK661 := n6_
                      have HB := n7_
                      clear n0_ n1_ n2_ n3_ n4_ n5_ n6_ n7_
                      (try clear hb)
                      (try clear hb2)
                      (try clear hk)
                      (try clear hi)
                      obtain ⟨Ao89, co89, eo89⟩ := Kd.R_slice HO650.out
                      (first | subst eo89 | (injection eo89 with f1_ f2_ f3_; have f4_ := f1_.symm; have f5_ := f3_.symm; clear f1_ f2_ f3_; subst f4_; subst f5_))
                      refine hK.out _ _ ⟨(blk_cell BK606.out 0).trans rfl, (blk_cell BK606.out 1).trans rfl, (blk_cell BK606.out 2).trans rfl⟩ (fun hHeld => ?_)
                      clear hK K
                      refine norm_ (a' := ?_) ?_ ?_
                      rotate_left
                      · show Act.put _ (some 68) _ = _
                        simp only [Act.put, List.setIfInBounds_toArray, List.set_cons_zero, List.set_cons_succ, i64_w, i32_w]
                        rfl
                      refine one_ (i := 4) (N := some 69) #[true, true, true, true, true, true, false] rfl rfl (by kernel_rfl) (by decide) (fun K hK => ?_)
                      refine goes_ Tryd.func35 (by kernel_rfl) rfl #[.slice Ao89 t648.length co89, .agg #[.int .i64 t651, .int .i64 t652, .string t653]] (by rfl) rfl rfl d28_6 ?_
                      with_reducible refine (impl_ListFrom.calls kj77 _ _ t648 t651 t652 t653 t654 t655 t658 t659 t660 _ ?side1 ?side2 A82.out).mono ?_
                      (case side1 => repeat (first | exact (Kd.R_reads' HO650.out).2.2 | (with_reducible refine Kd.C_alloc ?_ _) | (with_reducible refine Kd.C_drewN ?_ _) | (with_reducible refine Kd.C_drew ?_)))
                      (case side2 => exact (Kd.R_reads' HO650.out).2.1)
                      rintro e w90 ⟨v656, rfl, ho0, hb⟩
                      refine ⟨_, rfl, ?_⟩
                      have n0_ := ak (Kd.R_elder' d28_9 (Kd.R_base ho0) hb)
                      have n1_ := ak (Kd.R_elder' d28_10 (Kd.R_base ho0) hb)
                      have n2_ := ak (Kd.R_below d28_13 hb)
                      have n3_ := ak (Kd.R_lower (Kd.R_new' (Kd.R_new' ho0 (Kd.R_lt d28_9)) (Kd.R_lt d28_10)) (below_size d28_4))
                      have n4_ := ak (blk_below (g := gb606) (o := .cells #[.int .i64 a1_0, .int .i64 a1_1, .string a1_2] 24 (0, 0)) d28_1 hb)
                      have n5_ := ak (blk_below (g := gb622) (o := .cells #[.int .i64 t615, .slice Ao29 t616.length co29, .int .i64 t619, .int .i64 t620, .string t621] 61 (0, 0)) d28_2 hb)
                      have n6_ := ak (blk_below (g := gb636) (o := .cells #[.int .i64 t629, .slice Ao44 t646.length co44, .int .i64 t633, .int .i64 t634, .string t635] 61 (0, 0)) d28_7 hb)
                      have n7_ := ak (blk_below (g := gb661) (o := .cells #[.int .i64 0, .slice none 0 0, .int .i64 0, .int .i64 0, .string (⟨#[]⟩ : ByteArray)] 61 (0, 0)) d28_12 hb)
                      have n8_ := ak (below_step d28_4 hb)
                      clear HO_623001
                      clear HO_637001
                      clear HO650
                      clear BK606
                      clear BK622
                      clear BK636
                      clear BK661
                      clear HB
                      have HO_623001 := n0_
                      have HO_637001 := n1_
                      have HO650 := n2_
                      have HO657 := n3_
                      have BK606 := n4_
                      have BK622 := n5_
                      have BK636 := n6_
                      have BK661 := n7_
                      have HB := n8_
                      clear n0_ n1_ n2_ n3_ n4_ n5_ n6_ n7_ n8_
                      (try clear hb)
                      (try clear hb2)
                      (try clear hk)
                      (try clear hi)
                      (try clear ho0)
                      refine hK.out _ _ ⟨(blk_cell BK606.out 0).trans rfl, (blk_cell BK606.out 1).trans rfl, (blk_cell BK606.out 2).trans rfl⟩ (fun hHeld => ?_)
                      clear hK K
                      refine norm_ (a' := ?_) ?_ ?_
                      rotate_left
                      · show Act.put _ (some 69) _ = _
                        simp only [Act.put, List.setIfInBounds_toArray, List.set_cons_zero, List.set_cons_succ, i64_w, i32_w]
                        rfl
                      exact norm_ d28_15 (hCont (.slice Ao89 t648.length co89, v656, gb661) _ ⟨hHeld, d28_13, d28_18, d28_16, d28_17, d28_1, d28_2, d28_7, d28_12, GW661.out, GE661.out, NB606_661.out, NB661_606.out, NB622_661.out, NB661_622.out, NB636_661.out, NB661_636.out, d28_4⟩)
                  rintro ⟨v649, v656, gb661⟩ w91 ⟨hS_, h0_, h1_, h2_, h3_, h4_, h5_, h6_, h7_, h8_, h9_, h10_, h11_, h12_, h13_, h14_, h15_, h16_⟩
                  have n0_ : Aside0 (Kd.R k112 112 w91 w.heap.size (fun _ => True) v649 t648) := ⟨h0_⟩
                  have n1_ : Aside0 (Kd.R k32 32 w91 w.heap.size (fun k_ => some k_ ≠ (.slice Ao29 t616.length co29 : Value).ownBlock ∧ some k_ ≠ (.slice Ao44 t646.length co44 : Value).ownBlock) v656 t655) := ⟨h1_⟩
                  have n2_ : Aside0 (Kd.R k32 32 w91 w.heap.size (fun k_ => some k_ ≠ (v656 : Value).ownBlock ∧ some k_ ≠ (.slice Ao44 t646.length co44 : Value).ownBlock) (.slice Ao29 t616.length co29) t616) := ⟨h2_⟩
                  have n3_ : Aside0 (Kd.R k32 32 w91 w.heap.size (fun k_ => some k_ ≠ (v656 : Value).ownBlock ∧ some k_ ≠ (.slice Ao29 t616.length co29 : Value).ownBlock) (.slice Ao44 t646.length co44) t646) := ⟨h3_⟩
                  have n4_ : Aside0 (w91.heap[gb606]? = some (.cells #[.int .i64 a1_0, .int .i64 a1_1, .string a1_2] 24 (0, 0))) := ⟨h4_⟩
                  have n5_ : Aside0 (w91.heap[gb622]? = some (.cells #[.int .i64 t615, .slice Ao29 t616.length co29, .int .i64 t619, .int .i64 t620, .string t621] 61 (0, 0))) := ⟨h5_⟩
                  have n6_ : Aside0 (w91.heap[gb636]? = some (.cells #[.int .i64 t629, .slice Ao44 t646.length co44, .int .i64 t633, .int .i64 t634, .string t635] 61 (0, 0))) := ⟨h6_⟩
                  have n7_ : Aside0 (w91.heap[gb661]? = some (.cells #[.int .i64 0, .slice none 0 0, .int .i64 0, .int .i64 0, .string (⟨#[]⟩ : ByteArray)] 61 (0, 0))) := ⟨h7_⟩
                  have n8_ : Aside0 (w.heap.size ≤ gb661) := ⟨h8_⟩
                  have n9_ : Aside0 (w.heap.size ≤ gb661) := ⟨h9_⟩
                  have n10_ : Aside0 (gb606 ≠ gb661) := ⟨h10_⟩
                  have n11_ : Aside0 (gb661 ≠ gb606) := ⟨h11_⟩
                  have n12_ : Aside0 (gb622 ≠ gb661) := ⟨h12_⟩
                  have n13_ : Aside0 (gb661 ≠ gb622) := ⟨h13_⟩
                  have n14_ : Aside0 (gb636 ≠ gb661) := ⟨h14_⟩
                  have n15_ : Aside0 (gb661 ≠ gb636) := ⟨h15_⟩
                  have n16_ : Aside0 (Below w.heap.size w w91) := ⟨h16_⟩
                  clear HO_623001
                  clear HO_637001
                  clear BK606
                  clear BK622
                  clear BK636
                  clear HB
                  clear h0_ h1_ h2_ h3_ h4_ h5_ h6_ h7_ h8_ h9_ h10_ h11_ h12_ h13_ h14_ h15_ h16_
                  have HO650 := n0_
                  have HO657 := n1_
                  have HO_623001 := n2_
                  have HO_637001 := n3_
                  have BK606 := n4_
                  have BK622 := n5_
                  have BK636 := n6_
                  have BK661 := n7_
                  have GW661 := n8_
                  have GE661 := n9_
                  have NB606_661 := n10_
                  have NB661_606 := n11_
                  have NB622_661 := n12_
                  have NB661_622 := n13_
                  have NB636_661 := n14_
                  have NB661_636 := n15_
                  have HB := n16_
                  clear n0_ n1_ n2_ n3_ n4_ n5_ n6_ n7_ n8_ n9_ n10_ n11_ n12_ n13_ n14_ n15_ n16_
                  have hHeld : w91.cell? ⟨gb606, 0, none⟩ = some (.int .i64 a1_0) ∧ w91.cell? ⟨gb606, 1, none⟩ = some (.int .i64 a1_1) ∧ w91.cell? ⟨gb606, 2, none⟩ = some (.string a1_2) := hS_
                  obtain ⟨Ao93, co93, eo93⟩ := Kd.R_slice HO657.out
                  (first | subst eo93 | (injection eo93 with f1_ f2_ f3_; have f4_ := f1_.symm; have f5_ := f3_.symm; clear f1_ f2_ f3_; subst f4_; subst f5_))
                  refine norm_ (a' := ?_) ?_ ?_
                  rotate_left
                  · simp only [putAll, Act.put, List.setIfInBounds_toArray, List.set_cons_zero, List.set_cons_succ]
                    rfl
                  refine one_ (i := 6) (N := none) #[true, true, true, true, true, true, true] rfl rfl (by kernel_rfl) (by decide) (fun K hK => ?_)
                  have hs92 : w91.cell? ⟨gb661, 0, none⟩ = some (.int .i64 0) := (blk_cell BK661.out 0).trans rfl
                  have hfs92 := blk_frozen BK661.out 0
                  have hns92_0 := NB606_661.out
                  have hns92_1 := NB622_661.out
                  have hns92_2 := NB636_661.out
                  have hms92_0 := NB661_606.out
                  have hms92_1 := NB661_622.out
                  have hms92_2 := NB661_636.out
                  have hs94 : w91.cell? ⟨gb661, 1, none⟩ = some (.slice none 0 0) := (blk_cell BK661.out 1).trans rfl
                  have hfs94 := blk_frozen BK661.out 1
                  have hns94_0 := NB606_661.out
                  have hns94_1 := NB622_661.out
                  have hns94_2 := NB636_661.out
                  have hms94_0 := NB661_606.out
                  have hms94_1 := NB661_622.out
                  have hms94_2 := NB661_636.out
                  have hs95 : w91.cell? ⟨gb661, 2, none⟩ = some (.int .i64 0) := (blk_cell BK661.out 2).trans rfl
                  have hfs95 := blk_frozen BK661.out 2
                  have hns95_0 := NB606_661.out
                  have hns95_1 := NB622_661.out
                  have hns95_2 := NB636_661.out
                  have hms95_0 := NB661_606.out
                  have hms95_1 := NB661_622.out
                  have hms95_2 := NB661_636.out
                  have hs96 : w91.cell? ⟨gb661, 3, none⟩ = some (.int .i64 0) := (blk_cell BK661.out 3).trans rfl
                  have hfs96 := blk_frozen BK661.out 3
                  have hns96_0 := NB606_661.out
                  have hns96_1 := NB622_661.out
                  have hns96_2 := NB636_661.out
                  have hms96_0 := NB661_606.out
                  have hms96_1 := NB661_622.out
                  have hms96_2 := NB661_636.out
                  have hs97 : w91.cell? ⟨gb661, 4, none⟩ = some (.string (⟨#[]⟩ : ByteArray)) := (blk_cell BK661.out 4).trans rfl
                  have hfs97 := blk_frozen BK661.out 4
                  have hns97_0 := NB606_661.out
                  have hns97_1 := NB622_661.out
                  have hns97_2 := NB636_661.out
                  have hms97_0 := NB661_606.out
                  have hms97_1 := NB661_622.out
                  have hms97_2 := NB661_636.out
                  refine skip_ (w1 := ?_) (by rfl) rfl ?_ ?_
                  rotate_left
                  · go_simp
                    rfl
                  refine hK.out _ _ ⟨((cell_far (p := ⟨gb661, _, none⟩) NB606_661.out _).trans (((cell_far (p := ⟨gb661, _, none⟩) NB606_661.out _).trans (((cell_far (p := ⟨gb661, _, none⟩) NB606_661.out _).trans (((cell_far (p := ⟨gb661, _, none⟩) NB606_661.out _).trans (((cell_far (p := ⟨gb661, _, none⟩) NB606_661.out _).trans (hHeld.1)))))))))), ((cell_far (p := ⟨gb661, _, none⟩) NB606_661.out _).trans (((cell_far (p := ⟨gb661, _, none⟩) NB606_661.out _).trans (((cell_far (p := ⟨gb661, _, none⟩) NB606_661.out _).trans (((cell_far (p := ⟨gb661, _, none⟩) NB606_661.out _).trans (((cell_far (p := ⟨gb661, _, none⟩) NB606_661.out _).trans (hHeld.2.1)))))))))), ((cell_far (p := ⟨gb661, _, none⟩) NB606_661.out _).trans (((cell_far (p := ⟨gb661, _, none⟩) NB606_661.out _).trans (((cell_far (p := ⟨gb661, _, none⟩) NB606_661.out _).trans (((cell_far (p := ⟨gb661, _, none⟩) NB606_661.out _).trans (((cell_far (p := ⟨gb661, _, none⟩) NB606_661.out _).trans (hHeld.2.2))))))))))⟩ (fun hHeld => ?_)
                  clear hK K
                  refine done_ (by kernel_rfl) ?_
                  have hnb98 := NB661_606.out
                  have hnc98 := NB606_661.out
                  have hnb99 := NB661_622.out
                  have hnc99 := NB622_661.out
                  have hnb100 := NB661_636.out
                  have hnc100 := NB636_661.out
                  have hcz101_0 : w91.cell? ⟨gb661, 0, none⟩ = some (.int .i64 0) := (blk_cell BK661.out 0).trans rfl
                  have hcz101_1 : w91.cell? ⟨gb661, 1, none⟩ = some (.slice none 0 0) := (blk_cell BK661.out 1).trans rfl
                  have hcz101_2 : w91.cell? ⟨gb661, 2, none⟩ = some (.int .i64 0) := (blk_cell BK661.out 2).trans rfl
                  have hcz101_3 : w91.cell? ⟨gb661, 3, none⟩ = some (.int .i64 0) := (blk_cell BK661.out 3).trans rfl
                  have hcz101_4 : w91.cell? ⟨gb661, 4, none⟩ = some (.string (⟨#[]⟩ : ByteArray)) := (blk_cell BK661.out 4).trans rfl
                  have hfz101_0 := blk_frozen BK661.out 0
                  have hfz101_1 := blk_frozen BK661.out 1
                  have hfz101_2 := blk_frozen BK661.out 2
                  have hfz101_3 := blk_frozen BK661.out 3
                  have hfz101_4 := blk_frozen BK661.out 4
                  have hnb102 := NB622_606.out
                  have hnc102 := NB606_622.out
                  have hnb103 := NB622_636.out
                  have hnc103 := NB636_622.out
                  have hcz104_0 : w91.cell? ⟨gb622, 0, none⟩ = some (.int .i64 t615) := (blk_cell BK622.out 0).trans rfl
                  have hcz104_1 : w91.cell? ⟨gb622, 1, none⟩ = some (.slice Ao29 t616.length co29) := (blk_cell BK622.out 1).trans rfl
                  have hcz104_2 : w91.cell? ⟨gb622, 2, none⟩ = some (.int .i64 t619) := (blk_cell BK622.out 2).trans rfl
                  have hcz104_3 : w91.cell? ⟨gb622, 3, none⟩ = some (.int .i64 t620) := (blk_cell BK622.out 3).trans rfl
                  have hcz104_4 : w91.cell? ⟨gb622, 4, none⟩ = some (.string t621) := (blk_cell BK622.out 4).trans rfl
                  have hfz104_0 := blk_frozen BK622.out 0
                  have hfz104_1 := blk_frozen BK622.out 1
                  have hfz104_2 := blk_frozen BK622.out 2
                  have hfz104_3 := blk_frozen BK622.out 3
                  have hfz104_4 := blk_frozen BK622.out 4
                  go_upto_if 73 with (first | ((with_reducible refine gate_callee (f := 36) rfl ?_); refine goesL_ (some 72) rfl rfl Tryd.func36 (by kernel_rfl) rfl #[.agg #[.int .i64 t654, .slice Ao93 t655.length co93, .int .i64 t658, .int .i64 t659, .string t660], .agg #[.int .i64 t615, .slice Ao29 t616.length co29, .int .i64 t619, .int .i64 t620, .string t621]] rfl d28_6 ?_; (with_reducible refine (laws_eqValuesResult.calls kj77 t654 _ _ t655 t658 t659 t660 t615 _ _ t616 t619 t620 t621 t662 _ ?side1 ?side2 ?side3 ?side4 A83.out).mono ?_); (case side1 => refine (Kd.R_reads' (e := 32) (base := w.heap.size) (ok := fun k_ => (some k_ ≠ (.slice Ao29 t616.length co29 : Value).ownBlock ∧ some k_ ≠ (.slice Ao44 t646.length co44 : Value).ownBlock)) (n := t655.length) (c := co93) ?_).2.2; exact (by (with_reducible repeat (first | apply Kd.R_alloc | apply Kd.R_drewN | apply Kd.R_drew)); exact (Kd.R_mono (Kd.R_far (p := ⟨gb661, 4, none⟩) (Kd.R_far (p := ⟨gb661, 3, none⟩) (Kd.R_far (p := ⟨gb661, 2, none⟩) (Kd.R_far (p := ⟨gb661, 1, none⟩) (Kd.R_far (p := ⟨gb661, 0, none⟩) (Kd.R_types HO657.out BK661.out (by decide)) (fun _ hk => hk.2) (.int .i64 t654)) (fun _ hk => hk.2) (.slice Ao93 t655.length co93)) (fun _ hk => hk.2) (.int .i64 t658)) (fun _ hk => hk.2) (.int .i64 t659)) (fun _ hk => hk.2) (.string t660)) (fun _ h_ => h_.1)))); (case side2 => exact (Kd.R_reads' HO657.out).2.1); (case side3 => refine (Kd.R_reads' (e := 32) (base := w.heap.size) (ok := fun k_ => (some k_ ≠ (.slice Ao93 t655.length co93 : Value).ownBlock ∧ some k_ ≠ (.slice Ao44 t646.length co44 : Value).ownBlock)) (n := t616.length) (c := co29) ?_).2.2; exact (by (with_reducible repeat (first | apply Kd.R_alloc | apply Kd.R_drewN | apply Kd.R_drew)); exact (Kd.R_mono (Kd.R_far (p := ⟨gb661, 4, none⟩) (Kd.R_far (p := ⟨gb661, 3, none⟩) (Kd.R_far (p := ⟨gb661, 2, none⟩) (Kd.R_far (p := ⟨gb661, 1, none⟩) (Kd.R_far (p := ⟨gb661, 0, none⟩) (Kd.R_types HO_623001.out BK661.out (by decide)) (fun _ hk => hk.2) (.int .i64 t654)) (fun _ hk => hk.2) (.slice Ao93 t655.length co93)) (fun _ hk => hk.2) (.int .i64 t658)) (fun _ hk => hk.2) (.int .i64 t659)) (fun _ hk => hk.2) (.string t660)) (fun _ h_ => h_.1)))); (case side4 => exact (Kd.R_reads' HO_623001.out).2.1); rintro e w105 ⟨rfl, hb⟩; refine ⟨_, rfl, ?_⟩; have n0_ := ak (Kd.R_below (by (with_reducible repeat (first | apply Kd.R_alloc | apply Kd.R_drewN | apply Kd.R_drew)); exact (Kd.R_mono (Kd.R_far (p := ⟨gb661, 4, none⟩) (Kd.R_far (p := ⟨gb661, 3, none⟩) (Kd.R_far (p := ⟨gb661, 2, none⟩) (Kd.R_far (p := ⟨gb661, 1, none⟩) (Kd.R_far (p := ⟨gb661, 0, none⟩) (Kd.R_types HO_623001.out BK661.out (by decide)) (fun _ hk => hk.2) (.int .i64 t654)) (fun _ hk => hk.2) (.slice Ao93 t655.length co93)) (fun _ hk => hk.2) (.int .i64 t658)) (fun _ hk => hk.2) (.int .i64 t659)) (fun _ hk => hk.2) (.string t660)) (fun _ h_ => h_.1))) hb); have n1_ := ak (Kd.R_below (by (with_reducible repeat (first | apply Kd.R_alloc | apply Kd.R_drewN | apply Kd.R_drew)); exact (Kd.R_mono (Kd.R_far (p := ⟨gb661, 4, none⟩) (Kd.R_far (p := ⟨gb661, 3, none⟩) (Kd.R_far (p := ⟨gb661, 2, none⟩) (Kd.R_far (p := ⟨gb661, 1, none⟩) (Kd.R_far (p := ⟨gb661, 0, none⟩) (Kd.R_types HO_637001.out BK661.out (by decide)) (fun _ hk => hk.2) (.int .i64 t654)) (fun _ hk => hk.2) (.slice Ao93 t655.length co93)) (fun _ hk => hk.2) (.int .i64 t658)) (fun _ hk => hk.2) (.int .i64 t659)) (fun _ hk => hk.2) (.string t660)) (fun _ h_ => h_.1))) hb); have n2_ := ak (Kd.R_below (by (with_reducible repeat (first | apply Kd.R_alloc | apply Kd.R_drewN | apply Kd.R_drew)); exact (Kd.R_mono (Kd.R_far (p := ⟨gb661, 4, none⟩) (Kd.R_far (p := ⟨gb661, 3, none⟩) (Kd.R_far (p := ⟨gb661, 2, none⟩) (Kd.R_far (p := ⟨gb661, 1, none⟩) (Kd.R_far (p := ⟨gb661, 0, none⟩) (Kd.R_types HO650.out BK661.out (by decide)) (fun _ hk => hk.2) (.int .i64 t654)) (fun _ hk => hk.2) (.slice Ao93 t655.length co93)) (fun _ hk => hk.2) (.int .i64 t658)) (fun _ hk => hk.2) (.int .i64 t659)) (fun _ hk => hk.2) (.string t660)) (fun _ h_ => h_.1))) hb); have n3_ := ak (Kd.R_below (by (with_reducible repeat (first | apply Kd.R_alloc | apply Kd.R_drewN | apply Kd.R_drew)); exact (Kd.R_mono (Kd.R_far (p := ⟨gb661, 4, none⟩) (Kd.R_far (p := ⟨gb661, 3, none⟩) (Kd.R_far (p := ⟨gb661, 2, none⟩) (Kd.R_far (p := ⟨gb661, 1, none⟩) (Kd.R_far (p := ⟨gb661, 0, none⟩) (Kd.R_types HO657.out BK661.out (by decide)) (fun _ hk => hk.2) (.int .i64 t654)) (fun _ hk => hk.2) (.slice Ao93 t655.length co93)) (fun _ hk => hk.2) (.int .i64 t658)) (fun _ hk => hk.2) (.int .i64 t659)) (fun _ hk => hk.2) (.string t660)) (fun _ h_ => h_.1))) hb); have n4_ := ak (blk_below (g := gb606) (o := .cells #[.int .i64 a1_0, .int .i64 a1_1, .string a1_2] 24 (0, 0)) (by (with_reducible repeat (first | refine blk_drewN ?_ _ | refine blk_drew ?_ | refine blk_alloc ?_ _)); refine blk_far ?_ NB606_661.out _; (with_reducible repeat (first | refine blk_drewN ?_ _ | refine blk_drew ?_ | refine blk_alloc ?_ _)); refine blk_far ?_ NB606_661.out _; (with_reducible repeat (first | refine blk_drewN ?_ _ | refine blk_drew ?_ | refine blk_alloc ?_ _)); refine blk_far ?_ NB606_661.out _; (with_reducible repeat (first | refine blk_drewN ?_ _ | refine blk_drew ?_ | refine blk_alloc ?_ _)); refine blk_far ?_ NB606_661.out _; (with_reducible repeat (first | refine blk_drewN ?_ _ | refine blk_drew ?_ | refine blk_alloc ?_ _)); refine blk_far ?_ NB606_661.out _; (with_reducible repeat (first | refine blk_drewN ?_ _ | refine blk_drew ?_ | refine blk_alloc ?_ _)); exact BK606.out) hb); have n5_ := ak (blk_below (g := gb622) (o := .cells #[.int .i64 t615, .slice Ao29 t616.length co29, .int .i64 t619, .int .i64 t620, .string t621] 61 (0, 0)) (by (with_reducible repeat (first | refine blk_drewN ?_ _ | refine blk_drew ?_ | refine blk_alloc ?_ _)); refine blk_far ?_ NB622_661.out _; (with_reducible repeat (first | refine blk_drewN ?_ _ | refine blk_drew ?_ | refine blk_alloc ?_ _)); refine blk_far ?_ NB622_661.out _; (with_reducible repeat (first | refine blk_drewN ?_ _ | refine blk_drew ?_ | refine blk_alloc ?_ _)); refine blk_far ?_ NB622_661.out _; (with_reducible repeat (first | refine blk_drewN ?_ _ | refine blk_drew ?_ | refine blk_alloc ?_ _)); refine blk_far ?_ NB622_661.out _; (with_reducible repeat (first | refine blk_drewN ?_ _ | refine blk_drew ?_ | refine blk_alloc ?_ _)); refine blk_far ?_ NB622_661.out _; (with_reducible repeat (first | refine blk_drewN ?_ _ | refine blk_drew ?_ | refine blk_alloc ?_ _)); exact BK622.out) hb); have n6_ := ak (blk_below (g := gb636) (o := .cells #[.int .i64 t629, .slice Ao44 t646.length co44, .int .i64 t633, .int .i64 t634, .string t635] 61 (0, 0)) (by (with_reducible repeat (first | refine blk_drewN ?_ _ | refine blk_drew ?_ | refine blk_alloc ?_ _)); refine blk_far ?_ NB636_661.out _; (with_reducible repeat (first | refine blk_drewN ?_ _ | refine blk_drew ?_ | refine blk_alloc ?_ _)); refine blk_far ?_ NB636_661.out _; (with_reducible repeat (first | refine blk_drewN ?_ _ | refine blk_drew ?_ | refine blk_alloc ?_ _)); refine blk_far ?_ NB636_661.out _; (with_reducible repeat (first | refine blk_drewN ?_ _ | refine blk_drew ?_ | refine blk_alloc ?_ _)); refine blk_far ?_ NB636_661.out _; (with_reducible repeat (first | refine blk_drewN ?_ _ | refine blk_drew ?_ | refine blk_alloc ?_ _)); refine blk_far ?_ NB636_661.out _; (with_reducible repeat (first | refine blk_drewN ?_ _ | refine blk_drew ?_ | refine blk_alloc ?_ _)); exact BK636.out) hb); have n7_ := ak (blk_below (g := gb661) (o := .cells #[.int .i64 t654, .slice Ao93 t655.length co93, .int .i64 t658, .int .i64 t659, .string t660] 61 (0, 0)) (by (with_reducible repeat (first | refine blk_drewN ?_ _ | refine blk_drew ?_ | refine blk_alloc ?_ _)); refine blk_put (cs := #[.int .i64 t654, .slice Ao93 t655.length co93, .int .i64 t658, .int .i64 t659, .string (⟨#[]⟩ : ByteArray)]) ?_ 4 _ rfl; (with_reducible repeat (first | refine blk_drewN ?_ _ | refine blk_drew ?_ | refine blk_alloc ?_ _)); refine blk_put (cs := #[.int .i64 t654, .slice Ao93 t655.length co93, .int .i64 t658, .int .i64 0, .string (⟨#[]⟩ : ByteArray)]) ?_ 3 _ rfl; (with_reducible repeat (first | refine blk_drewN ?_ _ | refine blk_drew ?_ | refine blk_alloc ?_ _)); refine blk_put (cs := #[.int .i64 t654, .slice Ao93 t655.length co93, .int .i64 0, .int .i64 0, .string (⟨#[]⟩ : ByteArray)]) ?_ 2 _ rfl; (with_reducible repeat (first | refine blk_drewN ?_ _ | refine blk_drew ?_ | refine blk_alloc ?_ _)); refine blk_put (cs := #[.int .i64 t654, .slice none 0 0, .int .i64 0, .int .i64 0, .string (⟨#[]⟩ : ByteArray)]) ?_ 1 _ rfl; (with_reducible repeat (first | refine blk_drewN ?_ _ | refine blk_drew ?_ | refine blk_alloc ?_ _)); refine blk_put (cs := #[.int .i64 0, .slice none 0 0, .int .i64 0, .int .i64 0, .string (⟨#[]⟩ : ByteArray)]) ?_ 0 _ rfl; (with_reducible repeat (first | refine blk_drewN ?_ _ | refine blk_drew ?_ | refine blk_alloc ?_ _)); exact BK661.out) hb); have n8_ := ak (below_step d28_4 hb); clear HO_623001 HO_637001 HO650 HO657 BK606 BK622 BK636 BK661 HB; have HO_623001 := n0_; have HO_637001 := n1_; have HO650 := n2_; have HO657 := n3_; have BK606 := n4_; have BK622 := n5_; have BK636 := n6_; have BK661 := n7_; have HB := n8_; clear n0_ n1_ n2_ n3_ n4_ n5_ n6_ n7_ n8_; (try clear hb); (try clear hk)))
                  (try simp only [Act.put, List.setIfInBounds_toArray, List.set_cons_zero, List.set_cons_succ])
                  go_cut [] (fun wc => ∃ (kq : Nat), Aside0 (laws_FnExactListFrom.j8 kq t645 t629 t646 t633 t634 t635 = some r) ∧ Aside0 (kq ≤ kj77) ∧ Aside0 (Kd.R k32 32 wc w.heap.size (fun k_ => some k_ ≠ ((.slice Ao44 t646.length co44) : Value).ownBlock ∧ some k_ ≠ ((.slice Ao93 t655.length co93) : Value).ownBlock) (.slice Ao29 t616.length co29) t616) ∧ Aside0 (Kd.R k32 32 wc w.heap.size (fun k_ => some k_ ≠ ((.slice Ao29 t616.length co29) : Value).ownBlock ∧ some k_ ≠ ((.slice Ao93 t655.length co93) : Value).ownBlock) (.slice Ao44 t646.length co44) t646) ∧ Aside0 (Kd.R k32 32 wc w.heap.size (fun k_ => some k_ ≠ ((.slice Ao29 t616.length co29) : Value).ownBlock ∧ some k_ ≠ ((.slice Ao44 t646.length co44) : Value).ownBlock) (.slice Ao93 t655.length co93) t655) ∧ Aside0 (wc.heap[gb606]? = some (.cells #[.int .i64 a1_0, .int .i64 a1_1, .string a1_2] 24 (0, 0))) ∧ Aside0 (wc.heap[gb622]? = some (.cells #[.int .i64 t615, (.slice Ao29 t616.length co29), .int .i64 t619, .int .i64 t620, .string t621] 61 (0, 0))) ∧ Aside0 (wc.heap[gb636]? = some (.cells #[.int .i64 t629, (.slice Ao44 t646.length co44), .int .i64 t633, .int .i64 t634, .string t635] 61 (0, 0))) ∧ Aside0 (wc.heap[gb661]? = some (.cells #[.int .i64 t654, (.slice Ao93 t655.length co93), .int .i64 t658, .int .i64 t659, .string t660] 61 (0, 0))) ∧ Aside0 (Below w.heap.size w wc))
                  case first =>
                   have H := HC84.out
                   clear HC84
                   by_cases c106 : t662 = true
                   ·subst c106
                    have H1 : (laws_FnExactListFrom.j8 kj77 t645 t629 t646 t633 t634 t635) = some r := by rw [if_pos rfl] at H; exact H
                    clear H
                    have H := H1
                    clear H1
                    have H' := ak H
                    clear H
                    go_wp2
                    go_meet
                    case rel => exact ⟨_, H', ⟨by have := HJ3.out; have := HJ8.out; have := HJ19.out; have := HJ49.out; have := HJ55.out; have := HJ65.out; have := HJ69.out; have := HJ77.out; first | omega | exact Nat.le_refl _⟩, ⟨by (try simp only [hl637001_69]); (with_reducible repeat (first | apply Kd.R_alloc | apply Kd.R_drewN | apply Kd.R_drew)); exact Kd.R_mono HO_623001.out (fun _ hk => ⟨hk.2, hk.1⟩)⟩, ⟨by (try simp only [hl637001_69]); (with_reducible repeat (first | apply Kd.R_alloc | apply Kd.R_drewN | apply Kd.R_drew)); exact Kd.R_mono HO_637001.out (fun _ hk => ⟨hk.2, hk.1⟩)⟩, ⟨by (try simp only [hl637001_69]); (with_reducible repeat (first | apply Kd.R_alloc | apply Kd.R_drewN | apply Kd.R_drew)); exact HO657.out⟩, ⟨by (try simp only [hl637001_69]); (with_reducible repeat (first | refine blk_drewN ?_ _ | refine blk_drew ?_ | refine blk_alloc ?_ _)); exact BK606.out⟩, ⟨by (try simp only [hl637001_69]); (with_reducible repeat (first | refine blk_drewN ?_ _ | refine blk_drew ?_ | refine blk_alloc ?_ _)); exact BK622.out⟩, ⟨by (try simp only [hl637001_69]); (with_reducible repeat (first | refine blk_drewN ?_ _ | refine blk_drew ?_ | refine blk_alloc ?_ _)); exact BK636.out⟩, ⟨by (try simp only [hl637001_69]); (with_reducible repeat (first | refine blk_drewN ?_ _ | refine blk_drew ?_ | refine blk_alloc ?_ _)); exact BK661.out⟩, ⟨by repeat (first | (with_reducible first | exact HB.out | apply below_alloc | apply pw_below_drewN | apply below_drew1 | refine below_set ?_ GE606.out | refine below_set ?_ GE622.out | refine below_set ?_ GE636.out | refine below_set ?_ GE661.out) | exact HB.out)⟩⟩
                   ·replace c106 := Bool.eq_false_iff.mpr c106
                    subst c106
                    have H1 : (some false) = some r := by rw [if_neg (show ¬ (false = true) by decide)] at H; exact H
                    clear H
                    have H := H1
                    clear H1
                    obtain rfl := Option.some.inj H
                    go_wp2
                    go_ret
                    exact ⟨by first | rfl | (simp [errW_none, errW_some] <;> rfl) | (simp [*, errW_none, errW_some] <;> rfl), by repeat (first | (with_reducible first | exact HB.out | apply below_alloc | apply pw_below_drewN | apply below_drew1 | refine below_set ?_ GE606.out | refine below_set ?_ GE622.out | refine below_set ?_ GE636.out | refine below_set ?_ GE661.out) | exact HB.out)⟩
                  case rest =>
                   clear HC84
                   try clear c1
                   try clear c3
                   try clear c9
                   try clear c10
                   try clear c33
                   try clear c34
                   try clear c35
                   try clear c36
                   try clear c98
                   try clear c99
                   try clear c100
                   try clear c102
                   try clear c103
                   try clear hcz101_0
                   try clear hcz101_1
                   try clear hcz101_2
                   try clear hcz101_3
                   try clear hcz101_4
                   try clear hcz104_0
                   try clear hcz104_1
                   try clear hcz104_2
                   try clear hcz104_3
                   try clear hcz104_4
                   try clear hfz101_0
                   try clear hfz101_1
                   try clear hfz101_2
                   try clear hfz101_3
                   try clear hfz101_4
                   try clear hfz104_0
                   try clear hfz104_1
                   try clear hfz104_2
                   try clear hfz104_3
                   try clear hfz104_4
                   obtain ⟨kq, HA, HJ83, HO_623001, HO_637001, HO_662001, BK606, BK622, BK636, BK661, HB⟩ := hcut
                   cases kq with
                   | zero => exact absurd HA.out (by simp [laws_FnExactListFrom.j8])
                   | succ kj83 =>
                    have H := HA.out
                    clear HA
                    simp only [laws_FnExactListFrom.j8] at H
                    replace H := Option.bind_eq_some_iff.mp H
                    obtain ⟨t663, A1070, H⟩ := H
                    replace H : (if t663 < 0 then (some false) else (if t663 = t645 then (some true) else (some false))) = some r := H
                    have A107 := ak A1070
                    clear A1070
                    by_cases c108 : t663 < 0
                    ·rw [if_pos c108] at H
                     have c108b0 : decide (t663 < 0) = true := decide_eq_true c108
                     clear c108
                     obtain rfl := Option.some.inj H
                     have hnb109 := NB636_606.out
                     have hnc109 := NB606_636.out
                     have hnb110 := NB636_622.out
                     have hnc110 := NB622_636.out
                     have hnb111 := NB636_661.out
                     have hnc111 := NB661_636.out
                     have hcz112_0 : wc.cell? ⟨gb636, 0, none⟩ = some (.int .i64 t629) := (blk_cell BK636.out 0).trans rfl
                     have hcz112_1 : wc.cell? ⟨gb636, 1, none⟩ = some (.slice Ao44 t646.length co44) := (blk_cell BK636.out 1).trans rfl
                     have hcz112_2 : wc.cell? ⟨gb636, 2, none⟩ = some (.int .i64 t633) := (blk_cell BK636.out 2).trans rfl
                     have hcz112_3 : wc.cell? ⟨gb636, 3, none⟩ = some (.int .i64 t634) := (blk_cell BK636.out 3).trans rfl
                     have hcz112_4 : wc.cell? ⟨gb636, 4, none⟩ = some (.string t635) := (blk_cell BK636.out 4).trans rfl
                     have hfz112_0 := blk_frozen BK636.out 0
                     have hfz112_1 := blk_frozen BK636.out 1
                     have hfz112_2 := blk_frozen BK636.out 2
                     have hfz112_3 := blk_frozen BK636.out 3
                     have hfz112_4 := blk_frozen BK636.out 4
                     go_wp2_with (first | ((with_reducible refine gate_callee (f := 40) rfl ?_); refine goesL_ (some 76) rfl rfl Tryd.func40 (by kernel_rfl) rfl #[.agg #[.int .i64 t629, .slice Ao44 t646.length co44, .int .i64 t633, .int .i64 t634, .string t635], .int .i64 1] rfl d28_6 ?_; (with_reducible refine (laws_heldValuesResult.calls kj83 t629 _ _ t646 t633 t634 t635 1 t663 _ ?side1 ?side2 A107.out).mono ?_); (case side1 => repeat (first | exact (Kd.R_reads' HO_637001.out).2.2 | (with_reducible refine Kd.C_alloc ?_ _) | (with_reducible refine Kd.C_drewN ?_ _) | (with_reducible refine Kd.C_drew ?_))); (case side2 => exact (Kd.R_reads' HO_637001.out).2.1); rintro e w113 ⟨rfl, hb⟩; refine ⟨_, rfl, ?_⟩; have n0_ := ak (Kd.R_below d28_9 hb); have n1_ := ak (Kd.R_below d28_10 hb); have n2_ := ak (Kd.R_below (by (with_reducible repeat (first | apply Kd.R_alloc | apply Kd.R_drewN | apply Kd.R_drew)); exact HO_662001.out) hb); have n3_ := ak (blk_below (g := gb606) (o := .cells #[.int .i64 a1_0, .int .i64 a1_1, .string a1_2] 24 (0, 0)) d28_1 hb); have n4_ := ak (blk_below (g := gb622) (o := .cells #[.int .i64 t615, .slice Ao29 t616.length co29, .int .i64 t619, .int .i64 t620, .string t621] 61 (0, 0)) d28_2 hb); have n5_ := ak (blk_below (g := gb636) (o := .cells #[.int .i64 t629, .slice Ao44 t646.length co44, .int .i64 t633, .int .i64 t634, .string t635] 61 (0, 0)) d28_7 hb); have n6_ := ak (blk_below (g := gb661) (o := .cells #[.int .i64 t654, .slice Ao93 t655.length co93, .int .i64 t658, .int .i64 t659, .string t660] 61 (0, 0)) d28_12 hb); have n7_ := ak (below_step d28_4 hb); clear HO_623001 HO_637001 HO_662001 BK606 BK622 BK636 BK661 HB; have HO_623001 := n0_; have HO_637001 := n1_; have HO_662001 := n2_; have BK606 := n3_; have BK622 := n4_; have BK636 := n5_; have BK661 := n6_; have HB := n7_; clear n0_ n1_ n2_ n3_ n4_ n5_ n6_ n7_; (try clear hb)))
                     go_ret
                     exact ⟨by first | rfl | (simp [errW_none, errW_some] <;> rfl) | (simp [*, errW_none, errW_some] <;> rfl), by repeat (first | (with_reducible first | exact HB.out | apply below_alloc | apply pw_below_drewN | apply below_drew1 | refine below_set ?_ GE606.out | refine below_set ?_ GE622.out | refine below_set ?_ GE636.out | refine below_set ?_ GE661.out) | exact HB.out)⟩
                    ·rw [if_neg c108] at H
                     have c108b0 : decide (t663 < 0) = false := decide_eq_false c108
                     clear c108
                     by_cases c114 : t663 = t645
                     ·rw [if_pos c114] at H
                      have c114b0 : (t663 == t645) = true := beq_iff_eq.mpr c114
                      have c114b1 : (t663 != t645) = false := bne_eq_false_iff_eq.mpr c114
                      clear c114
                      obtain rfl := Option.some.inj H
                      have hnb115 := NB636_606.out
                      have hnc115 := NB606_636.out
                      have hnb116 := NB636_622.out
                      have hnc116 := NB622_636.out
                      have hnb117 := NB636_661.out
                      have hnc117 := NB661_636.out
                      have hcz118_0 : wc.cell? ⟨gb636, 0, none⟩ = some (.int .i64 t629) := (blk_cell BK636.out 0).trans rfl
                      have hcz118_1 : wc.cell? ⟨gb636, 1, none⟩ = some (.slice Ao44 t646.length co44) := (blk_cell BK636.out 1).trans rfl
                      have hcz118_2 : wc.cell? ⟨gb636, 2, none⟩ = some (.int .i64 t633) := (blk_cell BK636.out 2).trans rfl
                      have hcz118_3 : wc.cell? ⟨gb636, 3, none⟩ = some (.int .i64 t634) := (blk_cell BK636.out 3).trans rfl
                      have hcz118_4 : wc.cell? ⟨gb636, 4, none⟩ = some (.string t635) := (blk_cell BK636.out 4).trans rfl
                      have hfz118_0 := blk_frozen BK636.out 0
                      have hfz118_1 := blk_frozen BK636.out 1
                      have hfz118_2 := blk_frozen BK636.out 2
                      have hfz118_3 := blk_frozen BK636.out 3
                      have hfz118_4 := blk_frozen BK636.out 4
                      go_wp2_with (first | ((with_reducible refine gate_callee (f := 40) rfl ?_); refine goesL_ (some 76) rfl rfl Tryd.func40 (by kernel_rfl) rfl #[.agg #[.int .i64 t629, .slice Ao44 t646.length co44, .int .i64 t633, .int .i64 t634, .string t635], .int .i64 1] rfl d28_6 ?_; (with_reducible refine (laws_heldValuesResult.calls kj83 t629 _ _ t646 t633 t634 t635 1 t663 _ ?side1 ?side2 A107.out).mono ?_); (case side1 => repeat (first | exact (Kd.R_reads' HO_637001.out).2.2 | (with_reducible refine Kd.C_alloc ?_ _) | (with_reducible refine Kd.C_drewN ?_ _) | (with_reducible refine Kd.C_drew ?_))); (case side2 => exact (Kd.R_reads' HO_637001.out).2.1); rintro e w119 ⟨rfl, hb⟩; refine ⟨_, rfl, ?_⟩; have n0_ := ak (Kd.R_below d28_9 hb); have n1_ := ak (Kd.R_below d28_10 hb); have n2_ := ak (Kd.R_below (by (with_reducible repeat (first | apply Kd.R_alloc | apply Kd.R_drewN | apply Kd.R_drew)); exact HO_662001.out) hb); have n3_ := ak (blk_below (g := gb606) (o := .cells #[.int .i64 a1_0, .int .i64 a1_1, .string a1_2] 24 (0, 0)) d28_1 hb); have n4_ := ak (blk_below (g := gb622) (o := .cells #[.int .i64 t615, .slice Ao29 t616.length co29, .int .i64 t619, .int .i64 t620, .string t621] 61 (0, 0)) d28_2 hb); have n5_ := ak (blk_below (g := gb636) (o := .cells #[.int .i64 t629, .slice Ao44 t646.length co44, .int .i64 t633, .int .i64 t634, .string t635] 61 (0, 0)) d28_7 hb); have n6_ := ak (blk_below (g := gb661) (o := .cells #[.int .i64 t654, .slice Ao93 t655.length co93, .int .i64 t658, .int .i64 t659, .string t660] 61 (0, 0)) d28_12 hb); have n7_ := ak (below_step d28_4 hb); clear HO_623001 HO_637001 HO_662001 BK606 BK622 BK636 BK661 HB; have HO_623001 := n0_; have HO_637001 := n1_; have HO_662001 := n2_; have BK606 := n3_; have BK622 := n4_; have BK636 := n5_; have BK661 := n6_; have HB := n7_; clear n0_ n1_ n2_ n3_ n4_ n5_ n6_ n7_; (try clear hb)))
                      go_ret
                      exact ⟨by first | rfl | (simp [errW_none, errW_some] <;> rfl) | (simp [*, errW_none, errW_some] <;> rfl), by repeat (first | (with_reducible first | exact HB.out | apply below_alloc | apply pw_below_drewN | apply below_drew1 | refine below_set ?_ GE606.out | refine below_set ?_ GE622.out | refine below_set ?_ GE636.out | refine below_set ?_ GE661.out) | exact HB.out)⟩
                     ·rw [if_neg c114] at H
                      have c114b0 : (t663 == t645) = false := beq_eq_false_iff_ne.mpr c114
                      have c114b1 : (t663 != t645) = true := bne_iff_ne.mpr c114
                      obtain rfl := Option.some.inj H
                      have hnb120 := NB636_606.out
                      have hnc120 := NB606_636.out
                      have hnb121 := NB636_622.out
                      have hnc121 := NB622_636.out
                      have hnb122 := NB636_661.out
                      have hnc122 := NB661_636.out
                      have hcz123_0 : wc.cell? ⟨gb636, 0, none⟩ = some (.int .i64 t629) := (blk_cell BK636.out 0).trans rfl
                      have hcz123_1 : wc.cell? ⟨gb636, 1, none⟩ = some (.slice Ao44 t646.length co44) := (blk_cell BK636.out 1).trans rfl
                      have hcz123_2 : wc.cell? ⟨gb636, 2, none⟩ = some (.int .i64 t633) := (blk_cell BK636.out 2).trans rfl
                      have hcz123_3 : wc.cell? ⟨gb636, 3, none⟩ = some (.int .i64 t634) := (blk_cell BK636.out 3).trans rfl
                      have hcz123_4 : wc.cell? ⟨gb636, 4, none⟩ = some (.string t635) := (blk_cell BK636.out 4).trans rfl
                      have hfz123_0 := blk_frozen BK636.out 0
                      have hfz123_1 := blk_frozen BK636.out 1
                      have hfz123_2 := blk_frozen BK636.out 2
                      have hfz123_3 := blk_frozen BK636.out 3
                      have hfz123_4 := blk_frozen BK636.out 4
                      go_wp2_with (first | ((with_reducible refine gate_callee (f := 40) rfl ?_); refine goesL_ (some 76) rfl rfl Tryd.func40 (by kernel_rfl) rfl #[.agg #[.int .i64 t629, .slice Ao44 t646.length co44, .int .i64 t633, .int .i64 t634, .string t635], .int .i64 1] rfl d28_6 ?_; (with_reducible refine (laws_heldValuesResult.calls kj83 t629 _ _ t646 t633 t634 t635 1 t663 _ ?side1 ?side2 A107.out).mono ?_); (case side1 => repeat (first | exact (Kd.R_reads' HO_637001.out).2.2 | (with_reducible refine Kd.C_alloc ?_ _) | (with_reducible refine Kd.C_drewN ?_ _) | (with_reducible refine Kd.C_drew ?_))); (case side2 => exact (Kd.R_reads' HO_637001.out).2.1); rintro e w124 ⟨rfl, hb⟩; refine ⟨_, rfl, ?_⟩; have n0_ := ak (Kd.R_below d28_9 hb); have n1_ := ak (Kd.R_below d28_10 hb); have n2_ := ak (Kd.R_below (by (with_reducible repeat (first | apply Kd.R_alloc | apply Kd.R_drewN | apply Kd.R_drew)); exact HO_662001.out) hb); have n3_ := ak (blk_below (g := gb606) (o := .cells #[.int .i64 a1_0, .int .i64 a1_1, .string a1_2] 24 (0, 0)) d28_1 hb); have n4_ := ak (blk_below (g := gb622) (o := .cells #[.int .i64 t615, .slice Ao29 t616.length co29, .int .i64 t619, .int .i64 t620, .string t621] 61 (0, 0)) d28_2 hb); have n5_ := ak (blk_below (g := gb636) (o := .cells #[.int .i64 t629, .slice Ao44 t646.length co44, .int .i64 t633, .int .i64 t634, .string t635] 61 (0, 0)) d28_7 hb); have n6_ := ak (blk_below (g := gb661) (o := .cells #[.int .i64 t654, .slice Ao93 t655.length co93, .int .i64 t658, .int .i64 t659, .string t660] 61 (0, 0)) d28_12 hb); have n7_ := ak (below_step d28_4 hb); clear HO_623001 HO_637001 HO_662001 BK606 BK622 BK636 BK661 HB; have HO_623001 := n0_; have HO_637001 := n1_; have HO_662001 := n2_; have BK606 := n3_; have BK622 := n4_; have BK636 := n5_; have BK661 := n6_; have HB := n7_; clear n0_ n1_ n2_ n3_ n4_ n5_ n6_ n7_; (try clear hb)))
                      go_ret
                      exact ⟨by first | rfl | (simp [errW_none, errW_some] <;> rfl) | (simp [*, errW_none, errW_some] <;> rfl), by repeat (first | (with_reducible first | exact HB.out | apply below_alloc | apply pw_below_drewN | apply below_drew1 | refine below_set ?_ GE606.out | refine below_set ?_ GE622.out | refine below_set ?_ GE636.out | refine below_set ?_ GE661.out) | exact HB.out)⟩

end Go.Proofs.YtaeeoljihmndfaaDoor.A
