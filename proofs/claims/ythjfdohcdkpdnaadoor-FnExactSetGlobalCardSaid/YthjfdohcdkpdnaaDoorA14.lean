/- Walks of the program's functions: each Go function's answer as a plain Lean function, and that the call comes to it. Written by a program. Conditions: those in each theorem's own head. -/
import Derived.Test.YthjfdohcdkpdnaaDoorA0
import Derived.Test.YthjfdohcdkpdnaaDoorA2
import Derived.Test.YthjfdohcdkpdnaaDoorA4
import Derived.Test.YthjfdohcdkpdnaaDoorA8
import Derived.Test.YthjfdohcdkpdnaaDoorA10
import Derived.Test.YthjfdohcdkpdnaaDoorA13
namespace Go.Proofs.YthjfdohcdkpdnaaDoor.A
open Go.RowKit Go.Proofs.YthjfdohcdkpdnaaDoorW.PrintWords Go.Proofs.YthjfdohcdkpdnaaDoorW.PrintLast Go.Proofs.YthjfdohcdkpdnaaDoorW.PrintMore
attribute [local go_sem] max2_int min2_int max_two min_two max_three min_three max_four min_four   -- for this text's walks alone
set_option linter.unusedVariables false
set_option linter.unusedSimpArgs false

theorem d14_1 {p : Prop} (h : p := by (with_reducible repeat (first | refine blk_drewN ?_ _ | refine blk_drew ?_ | refine blk_alloc ?_ _)); exact BK493.out) : p := h
theorem d14_2 {p : Prop} (h : p := by (with_reducible repeat (first | refine blk_drewN ?_ _ | refine blk_drew ?_ | refine blk_alloc ?_ _)); exact BK506.out) : p := h
theorem d14_3 {p : Prop} (h : p := by repeat (first | (with_reducible first | exact HB.out | apply below_alloc | apply pw_below_drewN | apply below_drew1 | refine below_set ?_ GE493.out | refine below_set ?_ GE506.out | refine below_set ?_ GE517.out) | exact HB.out)) : p := h
theorem d14_4 {p : Prop} (h : p := by repeat (first | (with_reducible first | exact HB.out | apply below_alloc | apply pw_below_drewN | apply below_drew1 | refine below_set ?_ GE493.out | refine below_set ?_ GE506.out | refine below_set ?_ GE517.out | refine below_set ?_ GE539.out) | exact HB.out)) : p := h
theorem d14_5 {p : Prop} (h : p := by repeat (first | (with_reducible first | exact HB.out | apply below_alloc | apply pw_below_drewN | apply below_drew1 | refine below_set ?_ GE493.out | refine below_set ?_ GE506.out) | exact HB.out)) : p := h
theorem d14_6 {p : Prop} (h : p := by (try simp only [List.map_toArray, List.map_cons, List.map_nil]); first | done | rfl | (simp only [List.length_drop, List.length_take]; rfl)) : p := h
theorem d14_7 {p : Prop} (h : p := by (with_reducible repeat (first | refine blk_drewN ?_ _ | refine blk_drew ?_ | refine blk_alloc ?_ _)); exact BK517.out) : p := h
theorem d14_8 {p : Prop} (h : p := by repeat (first | (with_reducible first | exact HB.out | apply below_alloc | apply pw_below_drewN | apply below_drew1 | refine below_set ?_ GE493.out) | exact HB.out)) : p := h
theorem d14_9 {p : Prop} (h : p := by (with_reducible repeat (first | apply Kd.R_alloc | apply Kd.R_drewN | apply Kd.R_drew)); exact HO_507001.out) : p := h
theorem d14_10 {p : Prop} (h : p := by (with_reducible repeat (first | apply Kd.R_alloc | apply Kd.R_drewN | apply Kd.R_drew)); exact HO_518001.out) : p := h
theorem d14_11 {p : Prop} (h : p := by (with_reducible repeat (first | apply Kd.R_alloc | apply Kd.R_drewN | apply Kd.R_drew)); exact HO498.out) : p := h
theorem d14_12 {p : Prop} (h : p := by (with_reducible repeat (first | refine blk_drewN ?_ _ | refine blk_drew ?_ | refine blk_alloc ?_ _)); exact BK539.out) : p := h
theorem d14_13 {p : Prop} (h : p := by (with_reducible repeat (first | apply Kd.R_alloc | apply Kd.R_drewN | apply Kd.R_drew)); exact HO531.out) : p := h
theorem d14_14 {p : Prop} (h : p := by simp only [putAll, Act.put, List.setIfInBounds_toArray, List.set_cons_zero, List.set_cons_succ]) : p := h
theorem d14_15 {p : Prop} (h : p := by (with_reducible repeat (first | apply Kd.R_alloc | apply Kd.R_drewN | apply Kd.R_drew)); exact Kd.R_mono HO_507001.out (fun _ hk => ⟨hk.1.2, ⟨hk.2, hk.1.1⟩⟩)) : p := h
theorem d14_16 {p : Prop} (h : p := by (with_reducible repeat (first | apply Kd.R_alloc | apply Kd.R_drewN | apply Kd.R_drew)); exact Kd.R_mono HO_518001.out (fun _ hk => ⟨hk.1.2, ⟨hk.2, hk.1.1⟩⟩)) : p := h
theorem d14_17 {p : Prop} (h : p := by (with_reducible repeat (first | apply Kd.R_alloc | apply Kd.R_drewN | apply Kd.R_drew)); exact Kd.R_mono HO531.out (fun _ hk => ⟨hk.2, ⟨hk.1.1.2, hk.1.2⟩⟩)) : p := h
theorem d14_18 {p : Prop} (h : p := by (with_reducible repeat (first | apply Kd.R_alloc | apply Kd.R_drewN | apply Kd.R_drew)); exact Kd.R_mono HO538.out (fun _ hk => ⟨hk.2, ⟨hk.1.1.2, hk.1.2⟩⟩)) : p := h
theorem d14_19 {p : Prop} (h : p := by (with_reducible repeat (first | apply Kd.R_alloc | apply Kd.R_drewN | apply Kd.R_drew)); exact HO505.out) : p := h
theorem d14_20 {p : Prop} (h : p := by (with_reducible repeat (first | apply Kd.R_alloc | apply Kd.R_drewN | apply Kd.R_drew)); exact Kd.R_mono HO498.out (fun _ hk => hk.2)) : p := h
theorem d14_21 {p : Prop} (h : p := by (with_reducible repeat (first | apply Kd.R_alloc | apply Kd.R_drewN | apply Kd.R_drew)); exact Kd.R_mono HO505.out (fun _ hk => hk.2)) : p := h
theorem d14_22 {p : Prop} (h : p := by (with_reducible repeat (first | apply Kd.R_alloc | apply Kd.R_drewN | apply Kd.R_drew)); exact HO509.out) : p := h

/-! ### laws_FnExactSetGlobal: function 8 -/
mutual
def laws_FnExactSetGlobal.j0 : Nat → List (S91) → ByteArray → Int → Int → ByteArray → Option (Bool)
  | 0, _, _, _, _, _ => none
  | k + 1, x0, x1, x494000, x494001, x494002 => (laws_szGlobalS.f k x0 1048576).bind fun t494 => (if t494 < 0 then (some true) else (laws_FnExactSetGlobal.j1 k x0 x1 t494 x494000 x494001 x494002))
def laws_FnExactSetGlobal.j1 : Nat → List (S91) → ByteArray → Int → Int → Int → ByteArray → Option (Bool)
  | 0, _, _, _, _, _, _ => none
  | k + 1, x0, x1, x7, x494000, x494001, x494002 => (laws_szValue.f x494000 x494001 x494002 x7).bind fun t495 => (if t495 < 0 then (some true) else (laws_FnExactSetGlobal.j2 k x0 x1 x494000 x494001 x494002))
def laws_FnExactSetGlobal.j2 : Nat → List (S91) → ByteArray → Int → Int → ByteArray → Option (Bool)
  | 0, _, _, _, _, _ => none
  | k + 1, x0, x1, x494000, x494001, x494002 => (laws_toGlobalS.f k x0).bind fun t496 => ((laws_toValue.f x494000 x494001 x494002).bind fun bt499 => ((spec_SetGlobal.f k t496 x1 bt499.1 bt499.2.1 bt499.2.2).bind fun bt502 => ((laws_toGlobalS.f k x0).bind fun t507 => ((laws_toValue.f x494000 x494001 x494002).bind fun bt510 => ((impl_SetGlobal.f k t507 x1 bt510.1 bt510.2.1 bt510.2.2).bind fun bt513 => ((laws_eqGlobalsResult.f k bt513.1 bt513.2 bt502.1 bt502.2).bind fun t518 => (if t518 = true then (laws_FnExactSetGlobal.j3 k x0 x1 t507 x494000 x494001 x494002 bt502.1 bt502.2 bt513.1 bt513.2) else (some false))))))))
def laws_FnExactSetGlobal.j3 : Nat → List (S91) → ByteArray → List (S98) → Int → Int → ByteArray → Int → List (S98) → Int → List (S98) → Option (Bool)
  | 0, _, _, _, _, _, _, _, _, _, _ => none
  | k + 1, x0, x1, x9, x494000, x494001, x494002, x507000, x507001, x518000, x518001 => (laws_toGlobalS.f k x0).bind fun t519 => ((laws_eqGlobalS.f k x9 t519).bind fun t522 => (if t522 = true then (laws_FnExactSetGlobal.j4 k x0 x1 x9 x494000 x494001 x494002 x507000 x507001 x518000 x518001) else (some false)))
def laws_FnExactSetGlobal.j4 : Nat → List (S91) → ByteArray → List (S98) → Int → Int → ByteArray → Int → List (S98) → Int → List (S98) → Option (Bool)
  | 0, _, _, _, _, _, _, _, _, _, _ => none
  | k + 1, x0, x1, x9, x494000, x494001, x494002, x507000, x507001, x518000, x518001 => (laws_markGlobalS.f k x9 1).bind fun bt523 => (if bt523.1 < 0 then (laws_FnExactSetGlobal.j5 k x0 x1 true x494000 x494001 x494002 x507000 x507001 x518000 x518001) else ((laws_eqGlobalsResult.f k x518000 x518001 x507000 x507001).bind fun t525 => (laws_FnExactSetGlobal.j5 k x0 x1 (!t525) x494000 x494001 x494002 x507000 x507001 x518000 x518001)))
def laws_FnExactSetGlobal.j5 : Nat → List (S91) → ByteArray → Bool → Int → Int → ByteArray → Int → List (S98) → Int → List (S98) → Option (Bool)
  | 0, _, _, _, _, _, _, _, _, _, _ => none
  | k + 1, x0, x1, x60, x494000, x494001, x494002, x507000, x507001, x518000, x518001 => if x60 = true then (some false) else (laws_FnExactSetGlobal.j6 k x0 x1 x494000 x494001 x494002 x507000 x507001 x518000 x518001)
def laws_FnExactSetGlobal.j6 : Nat → List (S91) → ByteArray → Int → Int → ByteArray → Int → List (S98) → Int → List (S98) → Option (Bool)
  | 0, _, _, _, _, _, _, _, _, _ => none
  | k + 1, x0, x1, x494000, x494001, x494002, x507000, x507001, x518000, x518001 => (laws_markGlobalsResult.f k x518000 x518001 1).bind fun bt526 => ((laws_heldGlobalsResult.f k x518000 bt526.2 1).bind fun t528 => (if t528 < 0 then (some false) else (laws_FnExactSetGlobal.j7 k x0 x1 bt526.1 t528 x494000 x494001 x494002 x507000 x507001 x518000 bt526.2)))
def laws_FnExactSetGlobal.j7 : Nat → List (S91) → ByteArray → Int → Int → Int → Int → ByteArray → Int → List (S98) → Int → List (S98) → Option (Bool)
  | 0, _, _, _, _, _, _, _, _, _, _, _ => none
  | k + 1, x0, x1, x12, x13, x494000, x494001, x494002, x507000, x507001, x518000, x518001 => if x13 = x12 then (laws_FnExactSetGlobal.j8 k x0 x1 x12 x494000 x494001 x494002 x507000 x507001 x518000 x518001) else (some false)
def laws_FnExactSetGlobal.j8 : Nat → List (S91) → ByteArray → Int → Int → Int → ByteArray → Int → List (S98) → Int → List (S98) → Option (Bool)
  | 0, _, _, _, _, _, _, _, _, _, _ => none
  | k + 1, x0, x1, x12, x494000, x494001, x494002, x507000, x507001, x518000, x518001 => (laws_toGlobalS.f k x0).bind fun t529 => ((laws_toValue.f x494000 x494001 x494002).bind fun bt532 => ((impl_SetGlobal.f k t529 x1 bt532.1 bt532.2.1 bt532.2.2).bind fun bt535 => ((laws_eqGlobalsResult.f k bt535.1 bt535.2 x507000 x507001).bind fun t540 => (if t540 = true then (laws_FnExactSetGlobal.j9 k x12 x518000 x518001) else (some false)))))
def laws_FnExactSetGlobal.j9 : Nat → Int → Int → List (S98) → Option (Bool)
  | 0, _, _, _ => none
  | k + 1, x12, x518000, x518001 => (laws_heldGlobalsResult.f k x518000 x518001 1).bind fun t541 => (if t541 < 0 then (some false) else (if t541 = x12 then (some true) else (some false)))
end
def laws_FnExactSetGlobal.f (k : Nat) (l0 : List (S91)) (a1 : ByteArray) (a2_0 : Int) (a2_1 : Int) (a2_2 : ByteArray) : Option (Bool) := if (a1.size : Int) > 1048576 then (some true) else (laws_FnExactSetGlobal.j0 k l0 a1 a2_0 a2_1 a2_2)
theorem laws_FnExactSetGlobal.mono_l : ∀ k, (∀ y0 y1 y2 y3 y4, LeO (laws_FnExactSetGlobal.j0 k y0 y1 y2 y3 y4) (laws_FnExactSetGlobal.j0 (k + 1) y0 y1 y2 y3 y4)) ∧ (∀ y0 y1 y2 y3 y4 y5, LeO (laws_FnExactSetGlobal.j1 k y0 y1 y2 y3 y4 y5) (laws_FnExactSetGlobal.j1 (k + 1) y0 y1 y2 y3 y4 y5)) ∧ (∀ y0 y1 y2 y3 y4, LeO (laws_FnExactSetGlobal.j2 k y0 y1 y2 y3 y4) (laws_FnExactSetGlobal.j2 (k + 1) y0 y1 y2 y3 y4)) ∧ (∀ y0 y1 y2 y3 y4 y5 y6 y7 y8 y9, LeO (laws_FnExactSetGlobal.j3 k y0 y1 y2 y3 y4 y5 y6 y7 y8 y9) (laws_FnExactSetGlobal.j3 (k + 1) y0 y1 y2 y3 y4 y5 y6 y7 y8 y9)) ∧ (∀ y0 y1 y2 y3 y4 y5 y6 y7 y8 y9, LeO (laws_FnExactSetGlobal.j4 k y0 y1 y2 y3 y4 y5 y6 y7 y8 y9) (laws_FnExactSetGlobal.j4 (k + 1) y0 y1 y2 y3 y4 y5 y6 y7 y8 y9)) ∧ (∀ y0 y1 y2 y3 y4 y5 y6 y7 y8 y9, LeO (laws_FnExactSetGlobal.j5 k y0 y1 y2 y3 y4 y5 y6 y7 y8 y9) (laws_FnExactSetGlobal.j5 (k + 1) y0 y1 y2 y3 y4 y5 y6 y7 y8 y9)) ∧ (∀ y0 y1 y2 y3 y4 y5 y6 y7 y8, LeO (laws_FnExactSetGlobal.j6 k y0 y1 y2 y3 y4 y5 y6 y7 y8) (laws_FnExactSetGlobal.j6 (k + 1) y0 y1 y2 y3 y4 y5 y6 y7 y8)) ∧ (∀ y0 y1 y2 y3 y4 y5 y6 y7 y8 y9 y10, LeO (laws_FnExactSetGlobal.j7 k y0 y1 y2 y3 y4 y5 y6 y7 y8 y9 y10) (laws_FnExactSetGlobal.j7 (k + 1) y0 y1 y2 y3 y4 y5 y6 y7 y8 y9 y10)) ∧ (∀ y0 y1 y2 y3 y4 y5 y6 y7 y8 y9, LeO (laws_FnExactSetGlobal.j8 k y0 y1 y2 y3 y4 y5 y6 y7 y8 y9) (laws_FnExactSetGlobal.j8 (k + 1) y0 y1 y2 y3 y4 y5 y6 y7 y8 y9)) ∧ (∀ y0 y1 y2, LeO (laws_FnExactSetGlobal.j9 k y0 y1 y2) (laws_FnExactSetGlobal.j9 (k + 1) y0 y1 y2))
  | 0 => ⟨fun _ _ _ _ _ r h => by simp [laws_FnExactSetGlobal.j0] at h, fun _ _ _ _ _ _ r h => by simp [laws_FnExactSetGlobal.j1] at h, fun _ _ _ _ _ r h => by simp [laws_FnExactSetGlobal.j2] at h, fun _ _ _ _ _ _ _ _ _ _ r h => by simp [laws_FnExactSetGlobal.j3] at h, fun _ _ _ _ _ _ _ _ _ _ r h => by simp [laws_FnExactSetGlobal.j4] at h, fun _ _ _ _ _ _ _ _ _ _ r h => by simp [laws_FnExactSetGlobal.j5] at h, fun _ _ _ _ _ _ _ _ _ r h => by simp [laws_FnExactSetGlobal.j6] at h, fun _ _ _ _ _ _ _ _ _ _ _ r h => by simp [laws_FnExactSetGlobal.j7] at h, fun _ _ _ _ _ _ _ _ _ _ r h => by simp [laws_FnExactSetGlobal.j8] at h, fun _ _ _ r h => by simp [laws_FnExactSetGlobal.j9] at h⟩
  | k + 1 => by
    obtain ⟨ih0, ih1, ih2, ih3, ih4, ih5, ih6, ih7, ih8, ih9⟩ := laws_FnExactSetGlobal.mono_l k
    refine ⟨?_, ?_, ?_, ?_, ?_, ?_, ?_, ?_, ?_, ?_⟩
    · intro y0 y1 y2 y3 y4
      unfold laws_FnExactSetGlobal.j0
      repeat' first
      | (with_reducible exact ih0 _ _ _ _ _)
      | (with_reducible exact ih1 _ _ _ _ _ _)
      | (with_reducible exact ih2 _ _ _ _ _)
      | (with_reducible exact ih3 _ _ _ _ _ _ _ _ _ _)
      | (with_reducible exact ih4 _ _ _ _ _ _ _ _ _ _)
      | (with_reducible exact ih5 _ _ _ _ _ _ _ _ _ _)
      | (with_reducible exact ih6 _ _ _ _ _ _ _ _ _)
      | (with_reducible exact ih7 _ _ _ _ _ _ _ _ _ _ _)
      | (with_reducible exact ih8 _ _ _ _ _ _ _ _ _ _)
      | (with_reducible exact ih9 _ _ _)
      | (with_reducible exact impl_SetGlobal.mono _ _ _ _ _ _)
      | (with_reducible exact laws_eqGlobalS.mono _ _ _)
      | (with_reducible exact laws_eqGlobalsResult.mono _ _ _ _ _)
      | (with_reducible exact laws_heldGlobalsResult.mono _ _ _ _)
      | (with_reducible exact laws_markGlobalS.mono _ _ _)
      | (with_reducible exact laws_markGlobalsResult.mono _ _ _ _)
      | (with_reducible exact laws_szGlobalS.mono _ _ _)
      | (with_reducible exact laws_toGlobalS.mono _ _)
      | (with_reducible exact spec_SetGlobal.mono _ _ _ _ _ _)
      | (with_reducible exact LeO.refl _)
      | (with_reducible exact LeO.none _)
      | (with_reducible refine LeO.ite ?_ ?_)
      | (with_reducible refine LeO.bind ?_ (fun _ => ?_))
      | exact ih0 _ _ _ _ _
      | exact ih1 _ _ _ _ _ _
      | exact ih2 _ _ _ _ _
      | exact ih3 _ _ _ _ _ _ _ _ _ _
      | exact ih4 _ _ _ _ _ _ _ _ _ _
      | exact ih5 _ _ _ _ _ _ _ _ _ _
      | exact ih6 _ _ _ _ _ _ _ _ _
      | exact ih7 _ _ _ _ _ _ _ _ _ _ _
      | exact ih8 _ _ _ _ _ _ _ _ _ _
      | exact ih9 _ _ _
      | exact impl_SetGlobal.mono _ _ _ _ _ _
      | exact laws_eqGlobalS.mono _ _ _
      | exact laws_eqGlobalsResult.mono _ _ _ _ _
      | exact laws_heldGlobalsResult.mono _ _ _ _
      | exact laws_markGlobalS.mono _ _ _
      | exact laws_markGlobalsResult.mono _ _ _ _
      | exact laws_szGlobalS.mono _ _ _
      | exact laws_toGlobalS.mono _ _
      | exact spec_SetGlobal.mono _ _ _ _ _ _
      | exact LeO.none _
      | refine LeO.ite ?_ ?_
      | refine LeO.bind ?_ (fun _ => ?_)
    · intro y0 y1 y2 y3 y4 y5
      unfold laws_FnExactSetGlobal.j1
      repeat' first
      | (with_reducible exact ih0 _ _ _ _ _)
      | (with_reducible exact ih1 _ _ _ _ _ _)
      | (with_reducible exact ih2 _ _ _ _ _)
      | (with_reducible exact ih3 _ _ _ _ _ _ _ _ _ _)
      | (with_reducible exact ih4 _ _ _ _ _ _ _ _ _ _)
      | (with_reducible exact ih5 _ _ _ _ _ _ _ _ _ _)
      | (with_reducible exact ih6 _ _ _ _ _ _ _ _ _)
      | (with_reducible exact ih7 _ _ _ _ _ _ _ _ _ _ _)
      | (with_reducible exact ih8 _ _ _ _ _ _ _ _ _ _)
      | (with_reducible exact ih9 _ _ _)
      | (with_reducible exact impl_SetGlobal.mono _ _ _ _ _ _)
      | (with_reducible exact laws_eqGlobalS.mono _ _ _)
      | (with_reducible exact laws_eqGlobalsResult.mono _ _ _ _ _)
      | (with_reducible exact laws_heldGlobalsResult.mono _ _ _ _)
      | (with_reducible exact laws_markGlobalS.mono _ _ _)
      | (with_reducible exact laws_markGlobalsResult.mono _ _ _ _)
      | (with_reducible exact laws_szGlobalS.mono _ _ _)
      | (with_reducible exact laws_toGlobalS.mono _ _)
      | (with_reducible exact spec_SetGlobal.mono _ _ _ _ _ _)
      | (with_reducible exact LeO.refl _)
      | (with_reducible exact LeO.none _)
      | (with_reducible refine LeO.ite ?_ ?_)
      | (with_reducible refine LeO.bind ?_ (fun _ => ?_))
      | exact ih0 _ _ _ _ _
      | exact ih1 _ _ _ _ _ _
      | exact ih2 _ _ _ _ _
      | exact ih3 _ _ _ _ _ _ _ _ _ _
      | exact ih4 _ _ _ _ _ _ _ _ _ _
      | exact ih5 _ _ _ _ _ _ _ _ _ _
      | exact ih6 _ _ _ _ _ _ _ _ _
      | exact ih7 _ _ _ _ _ _ _ _ _ _ _
      | exact ih8 _ _ _ _ _ _ _ _ _ _
      | exact ih9 _ _ _
      | exact impl_SetGlobal.mono _ _ _ _ _ _
      | exact laws_eqGlobalS.mono _ _ _
      | exact laws_eqGlobalsResult.mono _ _ _ _ _
      | exact laws_heldGlobalsResult.mono _ _ _ _
      | exact laws_markGlobalS.mono _ _ _
      | exact laws_markGlobalsResult.mono _ _ _ _
      | exact laws_szGlobalS.mono _ _ _
      | exact laws_toGlobalS.mono _ _
      | exact spec_SetGlobal.mono _ _ _ _ _ _
      | exact LeO.none _
      | refine LeO.ite ?_ ?_
      | refine LeO.bind ?_ (fun _ => ?_)
    · intro y0 y1 y2 y3 y4
      unfold laws_FnExactSetGlobal.j2
      repeat' first
      | (with_reducible exact ih0 _ _ _ _ _)
      | (with_reducible exact ih1 _ _ _ _ _ _)
      | (with_reducible exact ih2 _ _ _ _ _)
      | (with_reducible exact ih3 _ _ _ _ _ _ _ _ _ _)
      | (with_reducible exact ih4 _ _ _ _ _ _ _ _ _ _)
      | (with_reducible exact ih5 _ _ _ _ _ _ _ _ _ _)
      | (with_reducible exact ih6 _ _ _ _ _ _ _ _ _)
      | (with_reducible exact ih7 _ _ _ _ _ _ _ _ _ _ _)
      | (with_reducible exact ih8 _ _ _ _ _ _ _ _ _ _)
      | (with_reducible exact ih9 _ _ _)
      | (with_reducible exact impl_SetGlobal.mono _ _ _ _ _ _)
      | (with_reducible exact laws_eqGlobalS.mono _ _ _)
      | (with_reducible exact laws_eqGlobalsResult.mono _ _ _ _ _)
      | (with_reducible exact laws_heldGlobalsResult.mono _ _ _ _)
      | (with_reducible exact laws_markGlobalS.mono _ _ _)
      | (with_reducible exact laws_markGlobalsResult.mono _ _ _ _)
      | (with_reducible exact laws_szGlobalS.mono _ _ _)
      | (with_reducible exact laws_toGlobalS.mono _ _)
      | (with_reducible exact spec_SetGlobal.mono _ _ _ _ _ _)
      | (with_reducible exact LeO.refl _)
      | (with_reducible exact LeO.none _)
      | (with_reducible refine LeO.ite ?_ ?_)
      | (with_reducible refine LeO.bind ?_ (fun _ => ?_))
      | exact ih0 _ _ _ _ _
      | exact ih1 _ _ _ _ _ _
      | exact ih2 _ _ _ _ _
      | exact ih3 _ _ _ _ _ _ _ _ _ _
      | exact ih4 _ _ _ _ _ _ _ _ _ _
      | exact ih5 _ _ _ _ _ _ _ _ _ _
      | exact ih6 _ _ _ _ _ _ _ _ _
      | exact ih7 _ _ _ _ _ _ _ _ _ _ _
      | exact ih8 _ _ _ _ _ _ _ _ _ _
      | exact ih9 _ _ _
      | exact impl_SetGlobal.mono _ _ _ _ _ _
      | exact laws_eqGlobalS.mono _ _ _
      | exact laws_eqGlobalsResult.mono _ _ _ _ _
      | exact laws_heldGlobalsResult.mono _ _ _ _
      | exact laws_markGlobalS.mono _ _ _
      | exact laws_markGlobalsResult.mono _ _ _ _
      | exact laws_szGlobalS.mono _ _ _
      | exact laws_toGlobalS.mono _ _
      | exact spec_SetGlobal.mono _ _ _ _ _ _
      | exact LeO.none _
      | refine LeO.ite ?_ ?_
      | refine LeO.bind ?_ (fun _ => ?_)
    · intro y0 y1 y2 y3 y4 y5 y6 y7 y8 y9
      unfold laws_FnExactSetGlobal.j3
      repeat' first
      | (with_reducible exact ih0 _ _ _ _ _)
      | (with_reducible exact ih1 _ _ _ _ _ _)
      | (with_reducible exact ih2 _ _ _ _ _)
      | (with_reducible exact ih3 _ _ _ _ _ _ _ _ _ _)
      | (with_reducible exact ih4 _ _ _ _ _ _ _ _ _ _)
      | (with_reducible exact ih5 _ _ _ _ _ _ _ _ _ _)
      | (with_reducible exact ih6 _ _ _ _ _ _ _ _ _)
      | (with_reducible exact ih7 _ _ _ _ _ _ _ _ _ _ _)
      | (with_reducible exact ih8 _ _ _ _ _ _ _ _ _ _)
      | (with_reducible exact ih9 _ _ _)
      | (with_reducible exact impl_SetGlobal.mono _ _ _ _ _ _)
      | (with_reducible exact laws_eqGlobalS.mono _ _ _)
      | (with_reducible exact laws_eqGlobalsResult.mono _ _ _ _ _)
      | (with_reducible exact laws_heldGlobalsResult.mono _ _ _ _)
      | (with_reducible exact laws_markGlobalS.mono _ _ _)
      | (with_reducible exact laws_markGlobalsResult.mono _ _ _ _)
      | (with_reducible exact laws_szGlobalS.mono _ _ _)
      | (with_reducible exact laws_toGlobalS.mono _ _)
      | (with_reducible exact spec_SetGlobal.mono _ _ _ _ _ _)
      | (with_reducible exact LeO.refl _)
      | (with_reducible exact LeO.none _)
      | (with_reducible refine LeO.ite ?_ ?_)
      | (with_reducible refine LeO.bind ?_ (fun _ => ?_))
      | exact ih0 _ _ _ _ _
      | exact ih1 _ _ _ _ _ _
      | exact ih2 _ _ _ _ _
      | exact ih3 _ _ _ _ _ _ _ _ _ _
      | exact ih4 _ _ _ _ _ _ _ _ _ _
      | exact ih5 _ _ _ _ _ _ _ _ _ _
      | exact ih6 _ _ _ _ _ _ _ _ _
      | exact ih7 _ _ _ _ _ _ _ _ _ _ _
      | exact ih8 _ _ _ _ _ _ _ _ _ _
      | exact ih9 _ _ _
      | exact impl_SetGlobal.mono _ _ _ _ _ _
      | exact laws_eqGlobalS.mono _ _ _
      | exact laws_eqGlobalsResult.mono _ _ _ _ _
      | exact laws_heldGlobalsResult.mono _ _ _ _
      | exact laws_markGlobalS.mono _ _ _
      | exact laws_markGlobalsResult.mono _ _ _ _
      | exact laws_szGlobalS.mono _ _ _
      | exact laws_toGlobalS.mono _ _
      | exact spec_SetGlobal.mono _ _ _ _ _ _
      | exact LeO.none _
      | refine LeO.ite ?_ ?_
      | refine LeO.bind ?_ (fun _ => ?_)
    · intro y0 y1 y2 y3 y4 y5 y6 y7 y8 y9
      unfold laws_FnExactSetGlobal.j4
      repeat' first
      | (with_reducible exact ih0 _ _ _ _ _)
      | (with_reducible exact ih1 _ _ _ _ _ _)
      | (with_reducible exact ih2 _ _ _ _ _)
      | (with_reducible exact ih3 _ _ _ _ _ _ _ _ _ _)
      | (with_reducible exact ih4 _ _ _ _ _ _ _ _ _ _)
      | (with_reducible exact ih5 _ _ _ _ _ _ _ _ _ _)
      | (with_reducible exact ih6 _ _ _ _ _ _ _ _ _)
      | (with_reducible exact ih7 _ _ _ _ _ _ _ _ _ _ _)
      | (with_reducible exact ih8 _ _ _ _ _ _ _ _ _ _)
      | (with_reducible exact ih9 _ _ _)
      | (with_reducible exact impl_SetGlobal.mono _ _ _ _ _ _)
      | (with_reducible exact laws_eqGlobalS.mono _ _ _)
      | (with_reducible exact laws_eqGlobalsResult.mono _ _ _ _ _)
      | (with_reducible exact laws_heldGlobalsResult.mono _ _ _ _)
      | (with_reducible exact laws_markGlobalS.mono _ _ _)
      | (with_reducible exact laws_markGlobalsResult.mono _ _ _ _)
      | (with_reducible exact laws_szGlobalS.mono _ _ _)
      | (with_reducible exact laws_toGlobalS.mono _ _)
      | (with_reducible exact spec_SetGlobal.mono _ _ _ _ _ _)
      | (with_reducible exact LeO.refl _)
      | (with_reducible exact LeO.none _)
      | (with_reducible refine LeO.ite ?_ ?_)
      | (with_reducible refine LeO.bind ?_ (fun _ => ?_))
      | exact ih0 _ _ _ _ _
      | exact ih1 _ _ _ _ _ _
      | exact ih2 _ _ _ _ _
      | exact ih3 _ _ _ _ _ _ _ _ _ _
      | exact ih4 _ _ _ _ _ _ _ _ _ _
      | exact ih5 _ _ _ _ _ _ _ _ _ _
      | exact ih6 _ _ _ _ _ _ _ _ _
      | exact ih7 _ _ _ _ _ _ _ _ _ _ _
      | exact ih8 _ _ _ _ _ _ _ _ _ _
      | exact ih9 _ _ _
      | exact impl_SetGlobal.mono _ _ _ _ _ _
      | exact laws_eqGlobalS.mono _ _ _
      | exact laws_eqGlobalsResult.mono _ _ _ _ _
      | exact laws_heldGlobalsResult.mono _ _ _ _
      | exact laws_markGlobalS.mono _ _ _
      | exact laws_markGlobalsResult.mono _ _ _ _
      | exact laws_szGlobalS.mono _ _ _
      | exact laws_toGlobalS.mono _ _
      | exact spec_SetGlobal.mono _ _ _ _ _ _
      | exact LeO.none _
      | refine LeO.ite ?_ ?_
      | refine LeO.bind ?_ (fun _ => ?_)
    · intro y0 y1 y2 y3 y4 y5 y6 y7 y8 y9
      unfold laws_FnExactSetGlobal.j5
      repeat' first
      | (with_reducible exact ih0 _ _ _ _ _)
      | (with_reducible exact ih1 _ _ _ _ _ _)
      | (with_reducible exact ih2 _ _ _ _ _)
      | (with_reducible exact ih3 _ _ _ _ _ _ _ _ _ _)
      | (with_reducible exact ih4 _ _ _ _ _ _ _ _ _ _)
      | (with_reducible exact ih5 _ _ _ _ _ _ _ _ _ _)
      | (with_reducible exact ih6 _ _ _ _ _ _ _ _ _)
      | (with_reducible exact ih7 _ _ _ _ _ _ _ _ _ _ _)
      | (with_reducible exact ih8 _ _ _ _ _ _ _ _ _ _)
      | (with_reducible exact ih9 _ _ _)
      | (with_reducible exact impl_SetGlobal.mono _ _ _ _ _ _)
      | (with_reducible exact laws_eqGlobalS.mono _ _ _)
      | (with_reducible exact laws_eqGlobalsResult.mono _ _ _ _ _)
      | (with_reducible exact laws_heldGlobalsResult.mono _ _ _ _)
      | (with_reducible exact laws_markGlobalS.mono _ _ _)
      | (with_reducible exact laws_markGlobalsResult.mono _ _ _ _)
      | (with_reducible exact laws_szGlobalS.mono _ _ _)
      | (with_reducible exact laws_toGlobalS.mono _ _)
      | (with_reducible exact spec_SetGlobal.mono _ _ _ _ _ _)
      | (with_reducible exact LeO.refl _)
      | (with_reducible exact LeO.none _)
      | (with_reducible refine LeO.ite ?_ ?_)
      | (with_reducible refine LeO.bind ?_ (fun _ => ?_))
      | exact ih0 _ _ _ _ _
      | exact ih1 _ _ _ _ _ _
      | exact ih2 _ _ _ _ _
      | exact ih3 _ _ _ _ _ _ _ _ _ _
      | exact ih4 _ _ _ _ _ _ _ _ _ _
      | exact ih5 _ _ _ _ _ _ _ _ _ _
      | exact ih6 _ _ _ _ _ _ _ _ _
      | exact ih7 _ _ _ _ _ _ _ _ _ _ _
      | exact ih8 _ _ _ _ _ _ _ _ _ _
      | exact ih9 _ _ _
      | exact impl_SetGlobal.mono _ _ _ _ _ _
      | exact laws_eqGlobalS.mono _ _ _
      | exact laws_eqGlobalsResult.mono _ _ _ _ _
      | exact laws_heldGlobalsResult.mono _ _ _ _
      | exact laws_markGlobalS.mono _ _ _
      | exact laws_markGlobalsResult.mono _ _ _ _
      | exact laws_szGlobalS.mono _ _ _
      | exact laws_toGlobalS.mono _ _
      | exact spec_SetGlobal.mono _ _ _ _ _ _
      | exact LeO.none _
      | refine LeO.ite ?_ ?_
      | refine LeO.bind ?_ (fun _ => ?_)
    · intro y0 y1 y2 y3 y4 y5 y6 y7 y8
      unfold laws_FnExactSetGlobal.j6
      repeat' first
      | (with_reducible exact ih0 _ _ _ _ _)
      | (with_reducible exact ih1 _ _ _ _ _ _)
      | (with_reducible exact ih2 _ _ _ _ _)
      | (with_reducible exact ih3 _ _ _ _ _ _ _ _ _ _)
      | (with_reducible exact ih4 _ _ _ _ _ _ _ _ _ _)
      | (with_reducible exact ih5 _ _ _ _ _ _ _ _ _ _)
      | (with_reducible exact ih6 _ _ _ _ _ _ _ _ _)
      | (with_reducible exact ih7 _ _ _ _ _ _ _ _ _ _ _)
      | (with_reducible exact ih8 _ _ _ _ _ _ _ _ _ _)
      | (with_reducible exact ih9 _ _ _)
      | (with_reducible exact impl_SetGlobal.mono _ _ _ _ _ _)
      | (with_reducible exact laws_eqGlobalS.mono _ _ _)
      | (with_reducible exact laws_eqGlobalsResult.mono _ _ _ _ _)
      | (with_reducible exact laws_heldGlobalsResult.mono _ _ _ _)
      | (with_reducible exact laws_markGlobalS.mono _ _ _)
      | (with_reducible exact laws_markGlobalsResult.mono _ _ _ _)
      | (with_reducible exact laws_szGlobalS.mono _ _ _)
      | (with_reducible exact laws_toGlobalS.mono _ _)
      | (with_reducible exact spec_SetGlobal.mono _ _ _ _ _ _)
      | (with_reducible exact LeO.refl _)
      | (with_reducible exact LeO.none _)
      | (with_reducible refine LeO.ite ?_ ?_)
      | (with_reducible refine LeO.bind ?_ (fun _ => ?_))
      | exact ih0 _ _ _ _ _
      | exact ih1 _ _ _ _ _ _
      | exact ih2 _ _ _ _ _
      | exact ih3 _ _ _ _ _ _ _ _ _ _
      | exact ih4 _ _ _ _ _ _ _ _ _ _
      | exact ih5 _ _ _ _ _ _ _ _ _ _
      | exact ih6 _ _ _ _ _ _ _ _ _
      | exact ih7 _ _ _ _ _ _ _ _ _ _ _
      | exact ih8 _ _ _ _ _ _ _ _ _ _
      | exact ih9 _ _ _
      | exact impl_SetGlobal.mono _ _ _ _ _ _
      | exact laws_eqGlobalS.mono _ _ _
      | exact laws_eqGlobalsResult.mono _ _ _ _ _
      | exact laws_heldGlobalsResult.mono _ _ _ _
      | exact laws_markGlobalS.mono _ _ _
      | exact laws_markGlobalsResult.mono _ _ _ _
      | exact laws_szGlobalS.mono _ _ _
      | exact laws_toGlobalS.mono _ _
      | exact spec_SetGlobal.mono _ _ _ _ _ _
      | exact LeO.none _
      | refine LeO.ite ?_ ?_
      | refine LeO.bind ?_ (fun _ => ?_)
    · intro y0 y1 y2 y3 y4 y5 y6 y7 y8 y9 y10
      unfold laws_FnExactSetGlobal.j7
      repeat' first
      | (with_reducible exact ih0 _ _ _ _ _)
      | (with_reducible exact ih1 _ _ _ _ _ _)
      | (with_reducible exact ih2 _ _ _ _ _)
      | (with_reducible exact ih3 _ _ _ _ _ _ _ _ _ _)
      | (with_reducible exact ih4 _ _ _ _ _ _ _ _ _ _)
      | (with_reducible exact ih5 _ _ _ _ _ _ _ _ _ _)
      | (with_reducible exact ih6 _ _ _ _ _ _ _ _ _)
      | (with_reducible exact ih7 _ _ _ _ _ _ _ _ _ _ _)
      | (with_reducible exact ih8 _ _ _ _ _ _ _ _ _ _)
      | (with_reducible exact ih9 _ _ _)
      | (with_reducible exact impl_SetGlobal.mono _ _ _ _ _ _)
      | (with_reducible exact laws_eqGlobalS.mono _ _ _)
      | (with_reducible exact laws_eqGlobalsResult.mono _ _ _ _ _)
      | (with_reducible exact laws_heldGlobalsResult.mono _ _ _ _)
      | (with_reducible exact laws_markGlobalS.mono _ _ _)
      | (with_reducible exact laws_markGlobalsResult.mono _ _ _ _)
      | (with_reducible exact laws_szGlobalS.mono _ _ _)
      | (with_reducible exact laws_toGlobalS.mono _ _)
      | (with_reducible exact spec_SetGlobal.mono _ _ _ _ _ _)
      | (with_reducible exact LeO.refl _)
      | (with_reducible exact LeO.none _)
      | (with_reducible refine LeO.ite ?_ ?_)
      | (with_reducible refine LeO.bind ?_ (fun _ => ?_))
      | exact ih0 _ _ _ _ _
      | exact ih1 _ _ _ _ _ _
      | exact ih2 _ _ _ _ _
      | exact ih3 _ _ _ _ _ _ _ _ _ _
      | exact ih4 _ _ _ _ _ _ _ _ _ _
      | exact ih5 _ _ _ _ _ _ _ _ _ _
      | exact ih6 _ _ _ _ _ _ _ _ _
      | exact ih7 _ _ _ _ _ _ _ _ _ _ _
      | exact ih8 _ _ _ _ _ _ _ _ _ _
      | exact ih9 _ _ _
      | exact impl_SetGlobal.mono _ _ _ _ _ _
      | exact laws_eqGlobalS.mono _ _ _
      | exact laws_eqGlobalsResult.mono _ _ _ _ _
      | exact laws_heldGlobalsResult.mono _ _ _ _
      | exact laws_markGlobalS.mono _ _ _
      | exact laws_markGlobalsResult.mono _ _ _ _
      | exact laws_szGlobalS.mono _ _ _
      | exact laws_toGlobalS.mono _ _
      | exact spec_SetGlobal.mono _ _ _ _ _ _
      | exact LeO.none _
      | refine LeO.ite ?_ ?_
      | refine LeO.bind ?_ (fun _ => ?_)
    · intro y0 y1 y2 y3 y4 y5 y6 y7 y8 y9
      unfold laws_FnExactSetGlobal.j8
      repeat' first
      | (with_reducible exact ih0 _ _ _ _ _)
      | (with_reducible exact ih1 _ _ _ _ _ _)
      | (with_reducible exact ih2 _ _ _ _ _)
      | (with_reducible exact ih3 _ _ _ _ _ _ _ _ _ _)
      | (with_reducible exact ih4 _ _ _ _ _ _ _ _ _ _)
      | (with_reducible exact ih5 _ _ _ _ _ _ _ _ _ _)
      | (with_reducible exact ih6 _ _ _ _ _ _ _ _ _)
      | (with_reducible exact ih7 _ _ _ _ _ _ _ _ _ _ _)
      | (with_reducible exact ih8 _ _ _ _ _ _ _ _ _ _)
      | (with_reducible exact ih9 _ _ _)
      | (with_reducible exact impl_SetGlobal.mono _ _ _ _ _ _)
      | (with_reducible exact laws_eqGlobalS.mono _ _ _)
      | (with_reducible exact laws_eqGlobalsResult.mono _ _ _ _ _)
      | (with_reducible exact laws_heldGlobalsResult.mono _ _ _ _)
      | (with_reducible exact laws_markGlobalS.mono _ _ _)
      | (with_reducible exact laws_markGlobalsResult.mono _ _ _ _)
      | (with_reducible exact laws_szGlobalS.mono _ _ _)
      | (with_reducible exact laws_toGlobalS.mono _ _)
      | (with_reducible exact spec_SetGlobal.mono _ _ _ _ _ _)
      | (with_reducible exact LeO.refl _)
      | (with_reducible exact LeO.none _)
      | (with_reducible refine LeO.ite ?_ ?_)
      | (with_reducible refine LeO.bind ?_ (fun _ => ?_))
      | exact ih0 _ _ _ _ _
      | exact ih1 _ _ _ _ _ _
      | exact ih2 _ _ _ _ _
      | exact ih3 _ _ _ _ _ _ _ _ _ _
      | exact ih4 _ _ _ _ _ _ _ _ _ _
      | exact ih5 _ _ _ _ _ _ _ _ _ _
      | exact ih6 _ _ _ _ _ _ _ _ _
      | exact ih7 _ _ _ _ _ _ _ _ _ _ _
      | exact ih8 _ _ _ _ _ _ _ _ _ _
      | exact ih9 _ _ _
      | exact impl_SetGlobal.mono _ _ _ _ _ _
      | exact laws_eqGlobalS.mono _ _ _
      | exact laws_eqGlobalsResult.mono _ _ _ _ _
      | exact laws_heldGlobalsResult.mono _ _ _ _
      | exact laws_markGlobalS.mono _ _ _
      | exact laws_markGlobalsResult.mono _ _ _ _
      | exact laws_szGlobalS.mono _ _ _
      | exact laws_toGlobalS.mono _ _
      | exact spec_SetGlobal.mono _ _ _ _ _ _
      | exact LeO.none _
      | refine LeO.ite ?_ ?_
      | refine LeO.bind ?_ (fun _ => ?_)
    · intro y0 y1 y2
      unfold laws_FnExactSetGlobal.j9
      repeat' first
      | (with_reducible exact ih0 _ _ _ _ _)
      | (with_reducible exact ih1 _ _ _ _ _ _)
      | (with_reducible exact ih2 _ _ _ _ _)
      | (with_reducible exact ih3 _ _ _ _ _ _ _ _ _ _)
      | (with_reducible exact ih4 _ _ _ _ _ _ _ _ _ _)
      | (with_reducible exact ih5 _ _ _ _ _ _ _ _ _ _)
      | (with_reducible exact ih6 _ _ _ _ _ _ _ _ _)
      | (with_reducible exact ih7 _ _ _ _ _ _ _ _ _ _ _)
      | (with_reducible exact ih8 _ _ _ _ _ _ _ _ _ _)
      | (with_reducible exact ih9 _ _ _)
      | (with_reducible exact impl_SetGlobal.mono _ _ _ _ _ _)
      | (with_reducible exact laws_eqGlobalS.mono _ _ _)
      | (with_reducible exact laws_eqGlobalsResult.mono _ _ _ _ _)
      | (with_reducible exact laws_heldGlobalsResult.mono _ _ _ _)
      | (with_reducible exact laws_markGlobalS.mono _ _ _)
      | (with_reducible exact laws_markGlobalsResult.mono _ _ _ _)
      | (with_reducible exact laws_szGlobalS.mono _ _ _)
      | (with_reducible exact laws_toGlobalS.mono _ _)
      | (with_reducible exact spec_SetGlobal.mono _ _ _ _ _ _)
      | (with_reducible exact LeO.refl _)
      | (with_reducible exact LeO.none _)
      | (with_reducible refine LeO.ite ?_ ?_)
      | (with_reducible refine LeO.bind ?_ (fun _ => ?_))
      | exact ih0 _ _ _ _ _
      | exact ih1 _ _ _ _ _ _
      | exact ih2 _ _ _ _ _
      | exact ih3 _ _ _ _ _ _ _ _ _ _
      | exact ih4 _ _ _ _ _ _ _ _ _ _
      | exact ih5 _ _ _ _ _ _ _ _ _ _
      | exact ih6 _ _ _ _ _ _ _ _ _
      | exact ih7 _ _ _ _ _ _ _ _ _ _ _
      | exact ih8 _ _ _ _ _ _ _ _ _ _
      | exact ih9 _ _ _
      | exact impl_SetGlobal.mono _ _ _ _ _ _
      | exact laws_eqGlobalS.mono _ _ _
      | exact laws_eqGlobalsResult.mono _ _ _ _ _
      | exact laws_heldGlobalsResult.mono _ _ _ _
      | exact laws_markGlobalS.mono _ _ _
      | exact laws_markGlobalsResult.mono _ _ _ _
      | exact laws_szGlobalS.mono _ _ _
      | exact laws_toGlobalS.mono _ _
      | exact spec_SetGlobal.mono _ _ _ _ _ _
      | exact LeO.none _
      | refine LeO.ite ?_ ?_
      | refine LeO.bind ?_ (fun _ => ?_)
theorem laws_FnExactSetGlobal.mono : ∀ a0 a1 a2 a3 a4 k, LeO (laws_FnExactSetGlobal.f k a0 a1 a2 a3 a4) (laws_FnExactSetGlobal.f (k + 1) a0 a1 a2 a3 a4) := by
  intro a0 a1 a2 a3 a4 k
  obtain ⟨ih0, ih1, ih2, ih3, ih4, ih5, ih6, ih7, ih8, ih9⟩ := laws_FnExactSetGlobal.mono_l k
  unfold laws_FnExactSetGlobal.f
  repeat' first
      | (with_reducible exact ih0 _ _ _ _ _)
      | (with_reducible exact ih1 _ _ _ _ _ _)
      | (with_reducible exact ih2 _ _ _ _ _)
      | (with_reducible exact ih3 _ _ _ _ _ _ _ _ _ _)
      | (with_reducible exact ih4 _ _ _ _ _ _ _ _ _ _)
      | (with_reducible exact ih5 _ _ _ _ _ _ _ _ _ _)
      | (with_reducible exact ih6 _ _ _ _ _ _ _ _ _)
      | (with_reducible exact ih7 _ _ _ _ _ _ _ _ _ _ _)
      | (with_reducible exact ih8 _ _ _ _ _ _ _ _ _ _)
      | (with_reducible exact ih9 _ _ _)
      | (with_reducible exact impl_SetGlobal.mono _ _ _ _ _ _)
      | (with_reducible exact laws_eqGlobalS.mono _ _ _)
      | (with_reducible exact laws_eqGlobalsResult.mono _ _ _ _ _)
      | (with_reducible exact laws_heldGlobalsResult.mono _ _ _ _)
      | (with_reducible exact laws_markGlobalS.mono _ _ _)
      | (with_reducible exact laws_markGlobalsResult.mono _ _ _ _)
      | (with_reducible exact laws_szGlobalS.mono _ _ _)
      | (with_reducible exact laws_toGlobalS.mono _ _)
      | (with_reducible exact spec_SetGlobal.mono _ _ _ _ _ _)
      | (with_reducible exact LeO.refl _)
      | (with_reducible exact LeO.none _)
      | (with_reducible refine LeO.ite ?_ ?_)
      | (with_reducible refine LeO.bind ?_ (fun _ => ?_))
      | exact ih0 _ _ _ _ _
      | exact ih1 _ _ _ _ _ _
      | exact ih2 _ _ _ _ _
      | exact ih3 _ _ _ _ _ _ _ _ _ _
      | exact ih4 _ _ _ _ _ _ _ _ _ _
      | exact ih5 _ _ _ _ _ _ _ _ _ _
      | exact ih6 _ _ _ _ _ _ _ _ _
      | exact ih7 _ _ _ _ _ _ _ _ _ _ _
      | exact ih8 _ _ _ _ _ _ _ _ _ _
      | exact ih9 _ _ _
      | exact impl_SetGlobal.mono _ _ _ _ _ _
      | exact laws_eqGlobalS.mono _ _ _
      | exact laws_eqGlobalsResult.mono _ _ _ _ _
      | exact laws_heldGlobalsResult.mono _ _ _ _
      | exact laws_markGlobalS.mono _ _ _
      | exact laws_markGlobalsResult.mono _ _ _ _
      | exact laws_szGlobalS.mono _ _ _
      | exact laws_toGlobalS.mono _ _
      | exact spec_SetGlobal.mono _ _ _ _ _ _
      | exact LeO.none _
      | refine LeO.ite ?_ ?_
      | refine LeO.bind ?_ (fun _ => ?_)
def laws_FnExactSetGlobal.T10 : Bool × List (List Nat × List Nat) := (true, [([], []), ([0], [0]), ([], []), ([], []), ([3, 1], [3]), ([1, 2, 4, 4], [1, 2, 4]), ([], []), ([6, 5, 5, 0, 1, 2, 3, 4, 5, 6], [5, 6])])
def laws_FnExactSetGlobal.B10 : List Nat := [0, 1, 0, 0, 11, 31, 0, 127]
theorem laws_FnExactSetGlobal.tab10 : rtab .any (opsOf Tryd.f8 10) = laws_FnExactSetGlobal.T10 := by kernel_rfl
theorem laws_FnExactSetGlobal.bits10 : waitsOk laws_FnExactSetGlobal.T10.2 laws_FnExactSetGlobal.B10 = true := by kernel_rfl
def laws_FnExactSetGlobal.T29 : Bool × List (List Nat × List Nat) := (true, [([], []), ([0], [0]), ([], []), ([], []), ([3, 1], [3]), ([1, 2, 4, 4], [1, 2, 4]), ([], []), ([6, 5, 5, 0, 1, 2, 3, 4, 5, 6], [5, 6])])
def laws_FnExactSetGlobal.B29 : List Nat := [0, 1, 0, 0, 11, 31, 0, 127]
theorem laws_FnExactSetGlobal.tab29 : rtab .any (opsOf Tryd.f8 29) = laws_FnExactSetGlobal.T29 := by kernel_rfl
theorem laws_FnExactSetGlobal.bits29 : waitsOk laws_FnExactSetGlobal.T29.2 laws_FnExactSetGlobal.B29 = true := by kernel_rfl
set_option maxHeartbeats 8000000 in
set_option maxRecDepth 100000 in
theorem laws_FnExactSetGlobal.calls (k : Nat) (A0 : Option Addr) (c0 : Nat) (l0 : List (S91)) (a1 : ByteArray) (a2_0 : Int) (a2_1 : Int) (a2_2 : ByteArray) (r : Bool) (w : World) (hr0 : Kd.C k91 w A0 l0.length l0) (hc0 : l0.length ≤ c0) (h : laws_FnExactSetGlobal.f k l0 a1 a2_0 a2_1 a2_2 = some r) :
    Calls Tryd.prog 8 #[.slice A0 l0.length c0, .string a1, .agg #[.int .i64 a2_0, .int .i64 a2_1, .string a2_2]] w fun e w' => e = .returned (.bool r) ∧ Below w.heap.size w w' := by
  have hu47 := Tryd.underlying47
  have hu52 := Tryd.underlying52
  have HR0 := ak hr0
  have HC0 := ak hc0
  clear hr0 hc0
  have HB := ak (Below.refl w.heap.size w)
  have H : (if (a1.size : Int) > 1048576 then (some true) else (laws_FnExactSetGlobal.j0 k l0 a1 a2_0 a2_1 a2_2)) = some r := h
  clear h
  have HC4 := ak H
  clear H
  go_enter Tryd.func8, Tryd.ntmps8
  go_upto_if 17 with (first | ((with_reducible refine gate_dst (N := 5) rfl ?_); refine box_event ?hg (N := 5) ?hd (cs := #[.int .i64 a2_0, .int .i64 a2_1, .string a2_2]) (t := 47) ?hr ?_; (case hd => rfl); (case hg => rfl); (case hr => first | (go_simp; done) | (go_simp; rfl)); intro gb493 hg w5 hbox hb; have n0_ := ak (below_step (by repeat (first | (with_reducible first | exact HB.out | apply below_alloc | apply pw_below_drewN | apply below_drew1) | exact HB.out)) hb); have n1_ := ak (hbox); have n2_ := ak ((by rw [hg]; exact (below_size (by repeat (first | (with_reducible first | exact HB.out | apply below_alloc | apply pw_below_drewN | apply below_drew1) | exact HB.out))) : w.heap.size ≤ gb493)); have n3_ := ak ((by rw [hg]; exact (below_size (by repeat (first | (with_reducible first | exact HB.out | apply below_alloc | apply pw_below_drewN | apply below_drew1) | exact HB.out))) : w.heap.size ≤ gb493)); clear HB; have HB := n0_; have BK493 := n1_; have GW493 := n2_; have GE493 := n3_; clear n0_ n1_ n2_ n3_ hb hbox hg))
  (try simp only [Act.put, List.setIfInBounds_toArray, List.set_cons_zero, List.set_cons_succ])
  go_cut [] (fun wc => ∃ (kq : Nat), Aside0 (laws_FnExactSetGlobal.j0 kq l0 a1 a2_0 a2_1 a2_2 = some r) ∧ Aside0 (kq ≤ k) ∧ Aside0 (wc.heap[gb493]? = some (.cells #[.int .i64 a2_0, .int .i64 a2_1, .string a2_2] 47 (0, 0))) ∧ Aside0 (Below w.heap.size w wc))
  case first =>
   have H := HC4.out
   clear HC4
   by_cases c6 : (a1.size : Int) > 1048576
   ·rw [if_pos c6] at H
    have c6b0 : decide (1048576 < (a1.size : Int)) = true := decide_eq_true c6
    have c6b1 : decide (1048576 < a1.size) = true := decide_eq_true (by omega)
    clear c6
    (first | rw [c6b0] | (simp only [i64_w, i32_w]; rw [c6b0]) | skip)
    obtain rfl := Option.some.inj H
    go_wp2
    go_ret
    exact ⟨by first | rfl | (simp [errW_none, errW_some] <;> rfl) | (simp [*, errW_none, errW_some] <;> rfl), by repeat (first | (with_reducible first | exact HB.out | apply below_alloc | apply pw_below_drewN | apply below_drew1 | refine below_set ?_ GE493.out) | exact HB.out)⟩
   ·rw [if_neg c6] at H
    have c6b0 : decide (1048576 < (a1.size : Int)) = false := decide_eq_false c6
    have c6b1 : decide (1048576 < a1.size) = false := decide_eq_false (by omega)
    clear c6
    (first | rw [c6b0] | (simp only [i64_w, i32_w]; rw [c6b0]) | skip)
    have H' := ak H
    clear H
    go_wp2
    go_meet
    case rel => exact ⟨_, H', ⟨by first | omega | exact Nat.le_refl _⟩, ⟨by (with_reducible repeat (first | refine blk_drewN ?_ _ | refine blk_drew ?_ | refine blk_alloc ?_ _)); exact BK493.out⟩, ⟨by repeat (first | (with_reducible first | exact HB.out | apply below_alloc | apply pw_below_drewN | apply below_drew1 | refine below_set ?_ GE493.out) | exact HB.out)⟩⟩
  case rest =>
   clear HC4
   obtain ⟨kq, HA, HJ3, BK493, HB⟩ := hcut
   cases kq with
   | zero => exact absurd HA.out (by simp [laws_FnExactSetGlobal.j0])
   | succ kj3 =>
    have H := HA.out
    clear HA
    simp only [laws_FnExactSetGlobal.j0] at H
    replace H := Option.bind_eq_some_iff.mp H
    obtain ⟨t494, A70, H⟩ := H
    replace H : (if t494 < 0 then (some true) else (laws_FnExactSetGlobal.j1 kj3 l0 a1 t494 a2_0 a2_1 a2_2)) = some r := H
    have A7 := ak A70
    clear A70
    have HC8 := ak H
    clear H
    go_upto_if 22 with (first | ((with_reducible refine gate_callee (f := 25) rfl ?_); refine goesL_ (some 20) rfl rfl Tryd.func25 (by kernel_rfl) rfl #[.slice A0 l0.length c0, .int .i64 1048576] rfl d14_6 ?_; (with_reducible refine (laws_szGlobalS.calls kj3 _ _ l0 1048576 t494 _ ?side1 ?side2 A7.out).mono ?_); (case side1 => repeat (first | exact (Kd.C_below HR0.out HB.out) | (with_reducible refine Kd.C_alloc ?_ _) | (with_reducible refine Kd.C_drewN ?_ _) | (with_reducible refine Kd.C_drew ?_))); (case side2 => exact HC0.out); rintro e w9 ⟨rfl, hb⟩; refine ⟨_, rfl, ?_⟩; have n0_ := ak (blk_below (g := gb493) (o := .cells #[.int .i64 a2_0, .int .i64 a2_1, .string a2_2] 47 (0, 0)) d14_1 hb); have n1_ := ak (below_step d14_8 hb); clear BK493 HB; have BK493 := n0_; have HB := n1_; clear n0_ n1_; (try clear hb)))
    (try simp only [Act.put, List.setIfInBounds_toArray, List.set_cons_zero, List.set_cons_succ])
    go_cut [] (fun wc => ∃ (kq : Nat), Aside0 (laws_FnExactSetGlobal.j1 kq l0 a1 t494 a2_0 a2_1 a2_2 = some r) ∧ Aside0 (kq ≤ kj3) ∧ Aside0 (wc.heap[gb493]? = some (.cells #[.int .i64 a2_0, .int .i64 a2_1, .string a2_2] 47 (0, 0))) ∧ Aside0 (Below w.heap.size w wc))
    case first =>
     have H := HC8.out
     clear HC8
     by_cases c10 : t494 < 0
     ·rw [if_pos c10] at H
      have c10b0 : decide (t494 < 0) = true := decide_eq_true c10
      clear c10
      (first | rw [c10b0] | (simp only [i64_w, i32_w]; rw [c10b0]) | skip)
      obtain rfl := Option.some.inj H
      go_wp2
      go_ret
      exact ⟨by first | rfl | (simp [errW_none, errW_some] <;> rfl) | (simp [*, errW_none, errW_some] <;> rfl), by repeat (first | (with_reducible first | exact HB.out | apply below_alloc | apply pw_below_drewN | apply below_drew1 | refine below_set ?_ GE493.out) | exact HB.out)⟩
     ·rw [if_neg c10] at H
      have c10b0 : decide (t494 < 0) = false := decide_eq_false c10
      clear c10
      (first | rw [c10b0] | (simp only [i64_w, i32_w]; rw [c10b0]) | skip)
      have H' := ak H
      clear H
      go_wp2
      go_meet
      case rel => exact ⟨_, H', ⟨by have := HJ3.out; first | omega | exact Nat.le_refl _⟩, ⟨by (with_reducible repeat (first | refine blk_drewN ?_ _ | refine blk_drew ?_ | refine blk_alloc ?_ _)); exact BK493.out⟩, ⟨by repeat (first | (with_reducible first | exact HB.out | apply below_alloc | apply pw_below_drewN | apply below_drew1 | refine below_set ?_ GE493.out) | exact HB.out)⟩⟩
    case rest =>
     clear HC8
     try clear c2
     try clear p2
     try clear c6
     try clear c6b0
     try clear c6b1
     try clear c8
     obtain ⟨kq, HA, HJ7, BK493, HB⟩ := hcut
     cases kq with
     | zero => exact absurd HA.out (by simp [laws_FnExactSetGlobal.j1])
     | succ kj7 =>
      have H := HA.out
      clear HA
      simp only [laws_FnExactSetGlobal.j1] at H
      replace H := Option.bind_eq_some_iff.mp H
      obtain ⟨t495, A110, H⟩ := H
      replace H : (if t495 < 0 then (some true) else (laws_FnExactSetGlobal.j2 kj7 l0 a1 a2_0 a2_1 a2_2)) = some r := H
      have A11 := ak A110
      clear A110
      have HC12 := ak H
      clear H
      have hcz13_0 : wc.cell? ⟨gb493, 0, none⟩ = some (.int .i64 a2_0) := (blk_cell BK493.out 0).trans rfl
      have hcz13_1 : wc.cell? ⟨gb493, 1, none⟩ = some (.int .i64 a2_1) := (blk_cell BK493.out 1).trans rfl
      have hcz13_2 : wc.cell? ⟨gb493, 2, none⟩ = some (.string a2_2) := (blk_cell BK493.out 2).trans rfl
      have hfz13_0 := blk_frozen BK493.out 0
      have hfz13_1 := blk_frozen BK493.out 1
      have hfz13_2 := blk_frozen BK493.out 2
      go_upto_if 27 with (first | ((with_reducible refine gate_callee (f := 26) rfl ?_); refine goesL_ (some 25) rfl rfl Tryd.func26 (by kernel_rfl) rfl #[.agg #[.int .i64 a2_0, .int .i64 a2_1, .string a2_2], .int .i64 t494] rfl d14_6 ?_; (with_reducible refine (laws_szValue.calls a2_0 a2_1 a2_2 t494 t495 _ A11.out).mono ?_); rintro e w14 ⟨rfl, hb⟩; refine ⟨_, rfl, ?_⟩; have n0_ := ak (blk_below (g := gb493) (o := .cells #[.int .i64 a2_0, .int .i64 a2_1, .string a2_2] 47 (0, 0)) d14_1 hb); have n1_ := ak (below_step d14_8 hb); clear BK493 HB; have BK493 := n0_; have HB := n1_; clear n0_ n1_; (try clear hb)))
      (try simp only [Act.put, List.setIfInBounds_toArray, List.set_cons_zero, List.set_cons_succ])
      go_cut [] (fun wc => ∃ (kq : Nat), Aside0 (laws_FnExactSetGlobal.j2 kq l0 a1 a2_0 a2_1 a2_2 = some r) ∧ Aside0 (kq ≤ kj7) ∧ Aside0 (wc.heap[gb493]? = some (.cells #[.int .i64 a2_0, .int .i64 a2_1, .string a2_2] 47 (0, 0))) ∧ Aside0 (Below w.heap.size w wc))
      case first =>
       have H := HC12.out
       clear HC12
       by_cases c15 : t495 < 0
       ·rw [if_pos c15] at H
        have c15b0 : decide (t495 < 0) = true := decide_eq_true c15
        clear c15
        (first | rw [c15b0] | (simp only [i64_w, i32_w]; rw [c15b0]) | skip)
        obtain rfl := Option.some.inj H
        go_wp2
        go_ret
        exact ⟨by first | rfl | (simp [errW_none, errW_some] <;> rfl) | (simp [*, errW_none, errW_some] <;> rfl), by repeat (first | (with_reducible first | exact HB.out | apply below_alloc | apply pw_below_drewN | apply below_drew1 | refine below_set ?_ GE493.out) | exact HB.out)⟩
       ·rw [if_neg c15] at H
        have c15b0 : decide (t495 < 0) = false := decide_eq_false c15
        clear c15
        (first | rw [c15b0] | (simp only [i64_w, i32_w]; rw [c15b0]) | skip)
        have H' := ak H
        clear H
        go_wp2
        go_meet
        case rel => exact ⟨_, H', ⟨by have := HJ3.out; have := HJ7.out; first | omega | exact Nat.le_refl _⟩, ⟨by (with_reducible repeat (first | refine blk_drewN ?_ _ | refine blk_drew ?_ | refine blk_alloc ?_ _)); exact BK493.out⟩, ⟨by repeat (first | (with_reducible first | exact HB.out | apply below_alloc | apply pw_below_drewN | apply below_drew1 | refine below_set ?_ GE493.out) | exact HB.out)⟩⟩
      case rest =>
       clear HC12
       try clear c1
       try clear c2
       try clear p2
       try clear c6
       try clear c6b0
       try clear c6b1
       try clear c8
       try clear c10
       try clear c10b0
       try clear hcz13_0
       try clear hcz13_1
       try clear hcz13_2
       try clear hfz13_0
       try clear hfz13_1
       try clear hfz13_2
       try clear p2
       obtain ⟨kq, HA, HJ11, BK493, HB⟩ := hcut
       cases kq with
       | zero => exact absurd HA.out (by simp [laws_FnExactSetGlobal.j2])
       | succ kj11 =>
        have H := HA.out
        clear HA
        simp only [laws_FnExactSetGlobal.j2] at H
        replace H := Option.bind_eq_some_iff.mp H
        obtain ⟨t496, A160, H⟩ := H
        replace H : ((laws_toValue.f a2_0 a2_1 a2_2).bind fun bt499 => ((spec_SetGlobal.f kj11 t496 a1 bt499.1 bt499.2.1 bt499.2.2).bind fun bt502 => ((laws_toGlobalS.f kj11 l0).bind fun t507 => ((laws_toValue.f a2_0 a2_1 a2_2).bind fun bt510 => ((impl_SetGlobal.f kj11 t507 a1 bt510.1 bt510.2.1 bt510.2.2).bind fun bt513 => ((laws_eqGlobalsResult.f kj11 bt513.1 bt513.2 bt502.1 bt502.2).bind fun t518 => (if t518 = true then (laws_FnExactSetGlobal.j3 kj11 l0 a1 t507 a2_0 a2_1 a2_2 bt502.1 bt502.2 bt513.1 bt513.2) else (some false)))))))) = some r := H
        have A16 := ak A160
        clear A160
        replace H := Option.bind_eq_some_iff.mp H
        obtain ⟨⟨t499, t500, t501⟩, A170, H⟩ := H
        replace H : ((spec_SetGlobal.f kj11 t496 a1 t499 t500 t501).bind fun bt502 => ((laws_toGlobalS.f kj11 l0).bind fun t507 => ((laws_toValue.f a2_0 a2_1 a2_2).bind fun bt510 => ((impl_SetGlobal.f kj11 t507 a1 bt510.1 bt510.2.1 bt510.2.2).bind fun bt513 => ((laws_eqGlobalsResult.f kj11 bt513.1 bt513.2 bt502.1 bt502.2).bind fun t518 => (if t518 = true then (laws_FnExactSetGlobal.j3 kj11 l0 a1 t507 a2_0 a2_1 a2_2 bt502.1 bt502.2 bt513.1 bt513.2) else (some false))))))) = some r := H
        have A17 := ak A170
        clear A170
        replace H := Option.bind_eq_some_iff.mp H
        obtain ⟨⟨t502, t503⟩, A180, H⟩ := H
        replace H : ((laws_toGlobalS.f kj11 l0).bind fun t507 => ((laws_toValue.f a2_0 a2_1 a2_2).bind fun bt510 => ((impl_SetGlobal.f kj11 t507 a1 bt510.1 bt510.2.1 bt510.2.2).bind fun bt513 => ((laws_eqGlobalsResult.f kj11 bt513.1 bt513.2 t502 t503).bind fun t518 => (if t518 = true then (laws_FnExactSetGlobal.j3 kj11 l0 a1 t507 a2_0 a2_1 a2_2 t502 t503 bt513.1 bt513.2) else (some false)))))) = some r := H
        have A18 := ak A180
        clear A180
        replace H := Option.bind_eq_some_iff.mp H
        obtain ⟨t507, A190, H⟩ := H
        replace H : ((laws_toValue.f a2_0 a2_1 a2_2).bind fun bt510 => ((impl_SetGlobal.f kj11 t507 a1 bt510.1 bt510.2.1 bt510.2.2).bind fun bt513 => ((laws_eqGlobalsResult.f kj11 bt513.1 bt513.2 t502 t503).bind fun t518 => (if t518 = true then (laws_FnExactSetGlobal.j3 kj11 l0 a1 t507 a2_0 a2_1 a2_2 t502 t503 bt513.1 bt513.2) else (some false))))) = some r := H
        have A19 := ak A190
        clear A190
        replace H := Option.bind_eq_some_iff.mp H
        obtain ⟨⟨t510, t511, t512⟩, A200, H⟩ := H
        replace H : ((impl_SetGlobal.f kj11 t507 a1 t510 t511 t512).bind fun bt513 => ((laws_eqGlobalsResult.f kj11 bt513.1 bt513.2 t502 t503).bind fun t518 => (if t518 = true then (laws_FnExactSetGlobal.j3 kj11 l0 a1 t507 a2_0 a2_1 a2_2 t502 t503 bt513.1 bt513.2) else (some false)))) = some r := H
        have A20 := ak A200
        clear A200
        replace H := Option.bind_eq_some_iff.mp H
        obtain ⟨⟨t513, t514⟩, A210, H⟩ := H
        replace H : ((laws_eqGlobalsResult.f kj11 t513 t514 t502 t503).bind fun t518 => (if t518 = true then (laws_FnExactSetGlobal.j3 kj11 l0 a1 t507 a2_0 a2_1 a2_2 t502 t503 t513 t514) else (some false))) = some r := H
        have A21 := ak A210
        clear A210
        replace H := Option.bind_eq_some_iff.mp H
        obtain ⟨t518, A220, H⟩ := H
        replace H : (if t518 = true then (laws_FnExactSetGlobal.j3 kj11 l0 a1 t507 a2_0 a2_1 a2_2 t502 t503 t513 t514) else (some false)) = some r := H
        have A22 := ak A220
        clear A220
        have HC23 := ak H
        clear H
        try go_wp2
        have n0_ := ak (blk_drew BK493.out)
        have n1_ := ak (below_drew1 HB.out)
        clear BK493
        clear HB
        have BK493 := n0_
        have HB := n1_
        clear n0_ n1_
        refine start_ (n := 8) (S := fun w' => w'.cell? ⟨gb493, 0, none⟩ = some (.int .i64 a2_0) ∧ w'.cell? ⟨gb493, 1, none⟩ = some (.int .i64 a2_1) ∧ w'.cell? ⟨gb493, 2, none⟩ = some (.string a2_2)) (ds := []) #[false, false, false, false, false, false, false, false] (by kernel_rfl) rfl rfl ⟨(blk_cell BK493.out 0).trans rfl, (blk_cell BK493.out 1).trans rfl, (blk_cell BK493.out 2).trans rfl⟩ (fun hHeld => ?_); refine with_tabW laws_FnExactSetGlobal.tab10 laws_FnExactSetGlobal.bits10 (fun HT_ HW_ => ?_)
        generalize wc.drew = w24 at BK493 HB hHeld ⊢
        refine pure_ (i := 0) (N := some 28) (v := ?_) (a' := ?_) #[true, false, false, false, false, false, false, false] rfl rfl (any_of HT_.out (by kernel_rfl)) (fun _ _ _ h => h) (Or.inl ⟨by rfl, ?_⟩) ?_ ?_
        rotate_left
        · intro w'
          go_simp
          with_reducible rfl
        rotate_left
        · simp only [Act.put, List.setIfInBounds_toArray, List.set_cons_zero, List.set_cons_succ, i64_w, i32_w]
          rfl
        refine pure_ (i := 2) (N := some 30) (v := ?_) (a' := ?_) #[true, false, true, false, false, false, false, false] rfl rfl (any_of HT_.out (by kernel_rfl)) (fun _ _ _ h => h) (Or.inl ⟨by rfl, ?_⟩) ?_ ?_
        rotate_left
        · intro w'
          go_simp
          with_reducible rfl
        rotate_left
        · simp only [Act.put, List.setIfInBounds_toArray, List.set_cons_zero, List.set_cons_succ, i64_w, i32_w]
          rfl
        refine take_ (i := 3) (N := some 31) (v := ?_) (a' := ?_) #[true, false, true, true, false, false, false, false] rfl rfl (take_ofW HT_.out HW_.out (by kernel_rfl)) (fun _ _ _ h => h) (Or.inl ⟨by rfl, ?_⟩) hHeld ?_ ?_
        rotate_left
        · rintro w' ⟨s0, s1, s2⟩
          go_simp
          with_reducible rfl
        rotate_left
        · simp only [Act.put, List.setIfInBounds_toArray, List.set_cons_zero, List.set_cons_succ, i64_w, i32_w]
          rfl
        refine join_ (σ := Value × Value × Nat) 1 #[true, true, true, true, true, true, true, false] (fun s_ => [(29, s_.1), (32, .agg #[.int .i64 t499, .int .i64 t500, .string t501]), (33, .agg #[.int .i64 t502, s_.2.1]), (8, .pointer (some ⟨s_.2.2, 0, none⟩))]) (fun s_ w' => (w'.cell? ⟨gb493, 0, none⟩ = some (.int .i64 a2_0) ∧ w'.cell? ⟨gb493, 1, none⟩ = some (.int .i64 a2_1) ∧ w'.cell? ⟨gb493, 2, none⟩ = some (.string a2_2)) ∧ (Kd.R k98 98 w' w.heap.size (fun k_ => some k_ ≠ (s_.2.1 : Value).ownBlock) s_.1 t496) ∧ (Kd.R k98 98 w' w.heap.size (fun k_ => some k_ ≠ (s_.1 : Value).ownBlock) s_.2.1 t503) ∧ (w'.heap[gb493]? = some (.cells #[.int .i64 a2_0, .int .i64 a2_1, .string a2_2] 47 (0, 0))) ∧ (w'.heap[s_.2.2]? = some (.cells #[.int .i64 0, .slice none 0 0] 52 (0, 0))) ∧ (w.heap.size ≤ s_.2.2) ∧ (w.heap.size ≤ s_.2.2) ∧ (gb493 ≠ s_.2.2) ∧ (s_.2.2 ≠ gb493) ∧ (Below w.heap.size w w')) ?_ ?_
        rotate_left
        · intro hCont
          refine two_ (i := 1) (j := 6) (Ni := some 29) (Nj := some 8) #[true, true, true, true, false, false, false, false] #[true, false, true, true, false, false, true, false] rfl rfl rfl rfl (two_of HT_.out (by kernel_rfl)) (by decide) (by decide) (fun K hK => ?_) (fun K hK => ?_)
          · skip
            refine goes_ Tryd.func28 (by kernel_rfl) rfl #[.slice A0 l0.length c0] (by rfl) rfl rfl d14_6 ?_
            with_reducible refine (laws_toGlobalS.calls kj11 _ _ l0 t496 _ ?side1 ?side2 A16.out).mono ?_
            (case side1 => repeat (first | exact (Kd.C_below HR0.out HB.out) | (with_reducible refine Kd.C_alloc ?_ _) | (with_reducible refine Kd.C_drewN ?_ _) | (with_reducible refine Kd.C_drew ?_)))
            (case side2 => exact HC0.out)
            rintro e w25 ⟨v497, rfl, ho0, hb⟩
            refine ⟨_, rfl, ?_⟩
            have n0_ := ak (Kd.R_lower ho0 (below_size d14_8))
            have n1_ := ak (blk_below (g := gb493) (o := .cells #[.int .i64 a2_0, .int .i64 a2_1, .string a2_2] 47 (0, 0)) d14_1 hb)
            have n2_ := ak (below_step d14_8 hb)
            clear BK493
            clear HB
            have HO498 := n0_
            have BK493 := n1_
            have HB := n2_
            clear n0_ n1_ n2_
            (try clear hb)
            (try clear hb2)
            (try clear hk)
            (try clear hi)
            (try clear ho0)
            refine hK.out _ _ ⟨(blk_cell BK493.out 0).trans rfl, (blk_cell BK493.out 1).trans rfl, (blk_cell BK493.out 2).trans rfl⟩ (fun hHeld => ?_)
            clear hK K
            refine norm_ (a' := ?_) ?_ ?_
            rotate_left
            · show Act.put _ (some 29) _ = _
              simp only [Act.put, List.setIfInBounds_toArray, List.set_cons_zero, List.set_cons_succ, i64_w, i32_w]
              rfl
            refine two_ (i := 4) (j := 6) (Ni := some 32) (Nj := some 8) #[true, true, true, true, true, false, false, false] #[true, true, true, true, false, false, true, false] rfl rfl rfl rfl (two_of HT_.out (by kernel_rfl)) (by decide) (by decide) (fun K hK => ?_) (fun K hK => ?_)
            · skip
              refine goes_ Tryd.func29 (by kernel_rfl) rfl #[.agg #[.int .i64 a2_0, .int .i64 a2_1, .string a2_2]] (by rfl) rfl rfl d14_6 ?_
              with_reducible refine (laws_toValue.calls a2_0 a2_1 a2_2 t499 t500 t501 _ A17.out).mono ?_
              rintro e w26 ⟨rfl, hb⟩
              refine ⟨_, rfl, ?_⟩
              have n0_ := ak (Kd.R_below d14_11 hb)
              have n1_ := ak (blk_below (g := gb493) (o := .cells #[.int .i64 a2_0, .int .i64 a2_1, .string a2_2] 47 (0, 0)) d14_1 hb)
              have n2_ := ak (below_step d14_8 hb)
              clear HO498
              clear BK493
              clear HB
              have HO498 := n0_
              have BK493 := n1_
              have HB := n2_
              clear n0_ n1_ n2_
              (try clear hb)
              (try clear hb2)
              (try clear hk)
              (try clear hi)
              obtain ⟨Ao27, co27, eo27⟩ := Kd.R_slice HO498.out
              (first | subst eo27 | (injection eo27 with f1_ f2_ f3_; have f4_ := f1_.symm; have f5_ := f3_.symm; clear f1_ f2_ f3_; subst f4_; subst f5_))
              refine hK.out _ _ ⟨(blk_cell BK493.out 0).trans rfl, (blk_cell BK493.out 1).trans rfl, (blk_cell BK493.out 2).trans rfl⟩ (fun hHeld => ?_)
              clear hK K
              refine norm_ (a' := ?_) ?_ ?_
              rotate_left
              · show Act.put _ (some 32) _ = _
                simp only [Act.put, List.setIfInBounds_toArray, List.set_cons_zero, List.set_cons_succ, i64_w, i32_w]
                rfl
              refine two_ (i := 5) (j := 6) (Ni := some 33) (Nj := some 8) #[true, true, true, true, true, true, false, false] #[true, true, true, true, true, false, true, false] rfl rfl rfl rfl (two_of HT_.out (by kernel_rfl)) (by decide) (by decide) (fun K hK => ?_) (fun K hK => ?_)
              · skip
                refine goes_ Tryd.func36 (by kernel_rfl) rfl #[.slice Ao27 t496.length co27, .string a1, .agg #[.int .i64 t499, .int .i64 t500, .string t501]] (by rfl) rfl rfl d14_6 ?_
                with_reducible refine (spec_SetGlobal.calls kj11 _ _ t496 a1 t499 t500 t501 t502 t503 _ ?side1 ?side2 A18.out).mono ?_
                (case side1 => repeat (first | exact (Kd.R_reads' HO498.out).2.2 | (with_reducible refine Kd.C_alloc ?_ _) | (with_reducible refine Kd.C_drewN ?_ _) | (with_reducible refine Kd.C_drew ?_)))
                (case side2 => exact (Kd.R_reads' HO498.out).2.1)
                rintro e w28 ⟨v504, rfl, ho0, hb⟩
                refine ⟨_, rfl, ?_⟩
                have n0_ := ak (Kd.R_elder' d14_11 (Kd.R_base ho0) hb)
                have n1_ := ak (Kd.R_lower (Kd.R_new' ho0 (Kd.R_lt d14_11)) (below_size d14_8))
                have n2_ := ak (blk_below (g := gb493) (o := .cells #[.int .i64 a2_0, .int .i64 a2_1, .string a2_2] 47 (0, 0)) d14_1 hb)
                have n3_ := ak (below_step d14_8 hb)
                clear HO498
                clear BK493
                clear HB
                have HO498 := n0_
                have HO505 := n1_
                have BK493 := n2_
                have HB := n3_
                clear n0_ n1_ n2_ n3_
                (try clear hb)
                (try clear hb2)
                (try clear hk)
                (try clear hi)
                (try clear ho0)
                refine hK.out _ _ ⟨(blk_cell BK493.out 0).trans rfl, (blk_cell BK493.out 1).trans rfl, (blk_cell BK493.out 2).trans rfl⟩ (fun hHeld => ?_)
                clear hK K
                refine norm_ (a' := ?_) ?_ ?_
                rotate_left
                · show Act.put _ (some 33) _ = _
                  simp only [Act.put, List.setIfInBounds_toArray, List.set_cons_zero, List.set_cons_succ, i64_w, i32_w]
                  rfl
                refine one_ (i := 6) (N := some 8) #[true, true, true, true, true, true, true, false] rfl rfl (one_of HT_.out (by kernel_rfl)) (by decide) (fun K hK => ?_)
                refine box_step ?hg (N := 8) ?hd (cs := #[.int .i64 0, .slice none 0 0]) (t := 52) ?hr ?_; (case hd => rfl); (case hg => rfl); (case hr => first | (go_simp; done) | (go_simp; rfl))
                intro gb506 hg w29 hbox hb
                have n0_ := ak (Kd.R_below d14_11 hb)
                have n1_ := ak (Kd.R_below d14_19 hb)
                have n2_ := ak (blk_below (g := gb493) (o := .cells #[.int .i64 a2_0, .int .i64 a2_1, .string a2_2] 47 (0, 0)) d14_1 hb)
                have n3_ := ak (below_step d14_8 hb)
                have n4_ := ak (hbox)
                have n5_ := ak ((by rw [hg]; exact (below_size d14_8) : w.heap.size ≤ gb506))
                have n6_ := ak ((by rw [hg]; exact (below_size d14_8) : w.heap.size ≤ gb506))
                have n7_ := ak ((by rw [hg]; exact Nat.ne_of_lt (blk_lt (g := gb493) (o := .cells #[.int .i64 a2_0, .int .i64 a2_1, .string a2_2] 47 (0, 0)) d14_1) : gb493 ≠ gb506))
                have n8_ := ak ((by rw [hg]; exact Nat.ne_of_gt (blk_lt (g := gb493) (o := .cells #[.int .i64 a2_0, .int .i64 a2_1, .string a2_2] 47 (0, 0)) d14_1) : gb506 ≠ gb493))
                clear HO498
                clear HO505
                clear BK493
                clear HB
                have HO498 := n0_
                have HO505 := n1_
                have BK493 := n2_
                have HB := n3_
                have BK506 := n4_
                have GW506 := n5_
                have GE506 := n6_
                have NB493_506 := n7_
                have NB506_493 := n8_
                clear n0_ n1_ n2_ n3_ n4_ n5_ n6_ n7_ n8_
                clear hb hbox hg
                refine hK.out _ _ ⟨(blk_cell BK493.out 0).trans rfl, (blk_cell BK493.out 1).trans rfl, (blk_cell BK493.out 2).trans rfl⟩ (fun hHeld => ?_)
                clear hK K
                refine norm_ (a' := ?_) ?_ ?_
                rotate_left
                · show Act.put _ (some 8) _ = _
                  simp only [Act.put, List.setIfInBounds_toArray, List.set_cons_zero, List.set_cons_succ, i64_w, i32_w]
                  rfl
                exact norm_ d14_14 (hCont (.slice Ao27 t496.length co27, v504, gb506) _ ⟨hHeld, d14_20, d14_21, d14_1, d14_2, GW506.out, GE506.out, NB493_506.out, NB506_493.out, d14_5⟩)
              · skip
                refine box_step ?hg (N := 8) ?hd (cs := #[.int .i64 0, .slice none 0 0]) (t := 52) ?hr ?_; (case hd => rfl); (case hg => rfl); (case hr => first | (go_simp; done) | (go_simp; rfl))
                intro gb506 hg w27 hbox hb
                have n0_ := ak (Kd.R_below d14_11 hb)
                have n1_ := ak (blk_below (g := gb493) (o := .cells #[.int .i64 a2_0, .int .i64 a2_1, .string a2_2] 47 (0, 0)) d14_1 hb)
                have n2_ := ak (below_step d14_8 hb)
                have n3_ := ak (hbox)
                have n4_ := ak ((by rw [hg]; exact (below_size d14_8) : w.heap.size ≤ gb506))
                have n5_ := ak ((by rw [hg]; exact (below_size d14_8) : w.heap.size ≤ gb506))
                have n6_ := ak ((by rw [hg]; exact Nat.ne_of_lt (blk_lt (g := gb493) (o := .cells #[.int .i64 a2_0, .int .i64 a2_1, .string a2_2] 47 (0, 0)) d14_1) : gb493 ≠ gb506))
                have n7_ := ak ((by rw [hg]; exact Nat.ne_of_gt (blk_lt (g := gb493) (o := .cells #[.int .i64 a2_0, .int .i64 a2_1, .string a2_2] 47 (0, 0)) d14_1) : gb506 ≠ gb493))
                clear HO498
                clear BK493
                clear HB
                have HO498 := n0_
                have BK493 := n1_
                have HB := n2_
                have BK506 := n3_
                have GW506 := n4_
                have GE506 := n5_
                have NB493_506 := n6_
                have NB506_493 := n7_
                clear n0_ n1_ n2_ n3_ n4_ n5_ n6_ n7_
                clear hb hbox hg
                obtain ⟨Ao28, co28, eo28⟩ := Kd.R_slice HO498.out
                (first | subst eo28 | (injection eo28 with f1_ f2_ f3_; have f4_ := f1_.symm; have f5_ := f3_.symm; clear f1_ f2_ f3_; subst f4_; subst f5_))
                refine hK.out _ _ ⟨(blk_cell BK493.out 0).trans rfl, (blk_cell BK493.out 1).trans rfl, (blk_cell BK493.out 2).trans rfl⟩ (fun hHeld => ?_)
                clear hK K
                refine norm_ (a' := ?_) ?_ ?_
                rotate_left
                · show Act.put _ (some 8) _ = _
                  simp only [Act.put, List.setIfInBounds_toArray, List.set_cons_zero, List.set_cons_succ, i64_w, i32_w]
                  rfl
                refine one_ (i := 5) (N := some 33) #[true, true, true, true, true, true, true, false] rfl rfl (one_of HT_.out (by kernel_rfl)) (by decide) (fun K hK => ?_)
                refine goes_ Tryd.func36 (by kernel_rfl) rfl #[.slice Ao28 t496.length co28, .string a1, .agg #[.int .i64 t499, .int .i64 t500, .string t501]] (by rfl) rfl rfl d14_6 ?_
                with_reducible refine (spec_SetGlobal.calls kj11 _ _ t496 a1 t499 t500 t501 t502 t503 _ ?side1 ?side2 A18.out).mono ?_
                (case side1 => repeat (first | exact (Kd.R_reads' HO498.out).2.2 | (with_reducible refine Kd.C_alloc ?_ _) | (with_reducible refine Kd.C_drewN ?_ _) | (with_reducible refine Kd.C_drew ?_)))
                (case side2 => exact (Kd.R_reads' HO498.out).2.1)
                rintro e w29 ⟨v504, rfl, ho0, hb⟩
                refine ⟨_, rfl, ?_⟩
                have n0_ := ak (Kd.R_elder' d14_11 (Kd.R_base ho0) hb)
                have n1_ := ak (Kd.R_lower (Kd.R_new' ho0 (Kd.R_lt d14_11)) (below_size d14_5))
                have n2_ := ak (blk_below (g := gb493) (o := .cells #[.int .i64 a2_0, .int .i64 a2_1, .string a2_2] 47 (0, 0)) d14_1 hb)
                have n3_ := ak (blk_below (g := gb506) (o := .cells #[.int .i64 0, .slice none 0 0] 52 (0, 0)) d14_2 hb)
                have n4_ := ak (below_step d14_5 hb)
                clear HO498
                clear BK493
                clear BK506
                clear HB
                have HO498 := n0_
                have HO505 := n1_
                have BK493 := n2_
                have BK506 := n3_
                have HB := n4_
                clear n0_ n1_ n2_ n3_ n4_
                (try clear hb)
                (try clear hb2)
                (try clear hk)
                (try clear hi)
                (try clear ho0)
                refine hK.out _ _ ⟨(blk_cell BK493.out 0).trans rfl, (blk_cell BK493.out 1).trans rfl, (blk_cell BK493.out 2).trans rfl⟩ (fun hHeld => ?_)
                clear hK K
                refine norm_ (a' := ?_) ?_ ?_
                rotate_left
                · show Act.put _ (some 33) _ = _
                  simp only [Act.put, List.setIfInBounds_toArray, List.set_cons_zero, List.set_cons_succ, i64_w, i32_w]
                  rfl
                exact norm_ d14_14 (hCont (.slice Ao28 t496.length co28, v504, gb506) _ ⟨hHeld, d14_20, d14_21, d14_1, d14_2, GW506.out, GE506.out, NB493_506.out, NB506_493.out, d14_5⟩)
            · skip
              refine box_step ?hg (N := 8) ?hd (cs := #[.int .i64 0, .slice none 0 0]) (t := 52) ?hr ?_; (case hd => rfl); (case hg => rfl); (case hr => first | (go_simp; done) | (go_simp; rfl))
              intro gb506 hg w26 hbox hb
              have n0_ := ak (Kd.R_below d14_11 hb)
              have n1_ := ak (blk_below (g := gb493) (o := .cells #[.int .i64 a2_0, .int .i64 a2_1, .string a2_2] 47 (0, 0)) d14_1 hb)
              have n2_ := ak (below_step d14_8 hb)
              have n3_ := ak (hbox)
              have n4_ := ak ((by rw [hg]; exact (below_size d14_8) : w.heap.size ≤ gb506))
              have n5_ := ak ((by rw [hg]; exact (below_size d14_8) : w.heap.size ≤ gb506))
              have n6_ := ak ((by rw [hg]; exact Nat.ne_of_lt (blk_lt (g := gb493) (o := .cells #[.int .i64 a2_0, .int .i64 a2_1, .string a2_2] 47 (0, 0)) d14_1) : gb493 ≠ gb506))
              have n7_ := ak ((by rw [hg]; exact Nat.ne_of_gt (blk_lt (g := gb493) (o := .cells #[.int .i64 a2_0, .int .i64 a2_1, .string a2_2] 47 (0, 0)) d14_1) : gb506 ≠ gb493))
              clear HO498
              clear BK493
              clear HB
              have HO498 := n0_
              have BK493 := n1_
              have HB := n2_
              have BK506 := n3_
              have GW506 := n4_
              have GE506 := n5_
              have NB493_506 := n6_
              have NB506_493 := n7_
              clear n0_ n1_ n2_ n3_ n4_ n5_ n6_ n7_
              clear hb hbox hg
              refine hK.out _ _ ⟨(blk_cell BK493.out 0).trans rfl, (blk_cell BK493.out 1).trans rfl, (blk_cell BK493.out 2).trans rfl⟩ (fun hHeld => ?_)
              clear hK K
              refine norm_ (a' := ?_) ?_ ?_
              rotate_left
              · show Act.put _ (some 8) _ = _
                simp only [Act.put, List.setIfInBounds_toArray, List.set_cons_zero, List.set_cons_succ, i64_w, i32_w]
                rfl
              refine one_ (i := 4) (N := some 32) #[true, true, true, true, true, false, true, false] rfl rfl (one_of HT_.out (by kernel_rfl)) (by decide) (fun K hK => ?_)
              refine goes_ Tryd.func29 (by kernel_rfl) rfl #[.agg #[.int .i64 a2_0, .int .i64 a2_1, .string a2_2]] (by rfl) rfl rfl d14_6 ?_
              with_reducible refine (laws_toValue.calls a2_0 a2_1 a2_2 t499 t500 t501 _ A17.out).mono ?_
              rintro e w27 ⟨rfl, hb⟩
              refine ⟨_, rfl, ?_⟩
              have n0_ := ak (Kd.R_below d14_11 hb)
              have n1_ := ak (blk_below (g := gb493) (o := .cells #[.int .i64 a2_0, .int .i64 a2_1, .string a2_2] 47 (0, 0)) d14_1 hb)
              have n2_ := ak (blk_below (g := gb506) (o := .cells #[.int .i64 0, .slice none 0 0] 52 (0, 0)) d14_2 hb)
              have n3_ := ak (below_step d14_5 hb)
              clear HO498
              clear BK493
              clear BK506
              clear HB
              have HO498 := n0_
              have BK493 := n1_
              have BK506 := n2_
              have HB := n3_
              clear n0_ n1_ n2_ n3_
              (try clear hb)
              (try clear hb2)
              (try clear hk)
              (try clear hi)
              obtain ⟨Ao28, co28, eo28⟩ := Kd.R_slice HO498.out
              (first | subst eo28 | (injection eo28 with f1_ f2_ f3_; have f4_ := f1_.symm; have f5_ := f3_.symm; clear f1_ f2_ f3_; subst f4_; subst f5_))
              refine hK.out _ _ ⟨(blk_cell BK493.out 0).trans rfl, (blk_cell BK493.out 1).trans rfl, (blk_cell BK493.out 2).trans rfl⟩ (fun hHeld => ?_)
              clear hK K
              refine norm_ (a' := ?_) ?_ ?_
              rotate_left
              · show Act.put _ (some 32) _ = _
                simp only [Act.put, List.setIfInBounds_toArray, List.set_cons_zero, List.set_cons_succ, i64_w, i32_w]
                rfl
              refine one_ (i := 5) (N := some 33) #[true, true, true, true, true, true, true, false] rfl rfl (one_of HT_.out (by kernel_rfl)) (by decide) (fun K hK => ?_)
              refine goes_ Tryd.func36 (by kernel_rfl) rfl #[.slice Ao28 t496.length co28, .string a1, .agg #[.int .i64 t499, .int .i64 t500, .string t501]] (by rfl) rfl rfl d14_6 ?_
              with_reducible refine (spec_SetGlobal.calls kj11 _ _ t496 a1 t499 t500 t501 t502 t503 _ ?side1 ?side2 A18.out).mono ?_
              (case side1 => repeat (first | exact (Kd.R_reads' HO498.out).2.2 | (with_reducible refine Kd.C_alloc ?_ _) | (with_reducible refine Kd.C_drewN ?_ _) | (with_reducible refine Kd.C_drew ?_)))
              (case side2 => exact (Kd.R_reads' HO498.out).2.1)
              rintro e w29 ⟨v504, rfl, ho0, hb⟩
              refine ⟨_, rfl, ?_⟩
              have n0_ := ak (Kd.R_elder' d14_11 (Kd.R_base ho0) hb)
              have n1_ := ak (Kd.R_lower (Kd.R_new' ho0 (Kd.R_lt d14_11)) (below_size d14_5))
              have n2_ := ak (blk_below (g := gb493) (o := .cells #[.int .i64 a2_0, .int .i64 a2_1, .string a2_2] 47 (0, 0)) d14_1 hb)
              have n3_ := ak (blk_below (g := gb506) (o := .cells #[.int .i64 0, .slice none 0 0] 52 (0, 0)) d14_2 hb)
              have n4_ := ak (below_step d14_5 hb)
              clear HO498
              clear BK493
              clear BK506
              clear HB
              have HO498 := n0_
              have HO505 := n1_
              have BK493 := n2_
              have BK506 := n3_
              have HB := n4_
              clear n0_ n1_ n2_ n3_ n4_
              (try clear hb)
              (try clear hb2)
              (try clear hk)
              (try clear hi)
              (try clear ho0)
              refine hK.out _ _ ⟨(blk_cell BK493.out 0).trans rfl, (blk_cell BK493.out 1).trans rfl, (blk_cell BK493.out 2).trans rfl⟩ (fun hHeld => ?_)
              clear hK K
              refine norm_ (a' := ?_) ?_ ?_
              rotate_left
              · show Act.put _ (some 33) _ = _
                simp only [Act.put, List.setIfInBounds_toArray, List.set_cons_zero, List.set_cons_succ, i64_w, i32_w]
                rfl
              exact norm_ d14_14 (hCont (.slice Ao28 t496.length co28, v504, gb506) _ ⟨hHeld, d14_20, d14_21, d14_1, d14_2, GW506.out, GE506.out, NB493_506.out, NB506_493.out, d14_5⟩)
          · skip
            refine box_step ?hg (N := 8) ?hd (cs := #[.int .i64 0, .slice none 0 0]) (t := 52) ?hr ?_; (case hd => rfl); (case hg => rfl); (case hr => first | (go_simp; done) | (go_simp; rfl))
            intro gb506 hg w25 hbox hb
            have n0_ := ak (blk_below (g := gb493) (o := .cells #[.int .i64 a2_0, .int .i64 a2_1, .string a2_2] 47 (0, 0)) d14_1 hb)
            have n1_ := ak (below_step d14_8 hb)
            have n2_ := ak (hbox)
            have n3_ := ak ((by rw [hg]; exact (below_size d14_8) : w.heap.size ≤ gb506))
            have n4_ := ak ((by rw [hg]; exact (below_size d14_8) : w.heap.size ≤ gb506))
            have n5_ := ak ((by rw [hg]; exact Nat.ne_of_lt (blk_lt (g := gb493) (o := .cells #[.int .i64 a2_0, .int .i64 a2_1, .string a2_2] 47 (0, 0)) d14_1) : gb493 ≠ gb506))
            have n6_ := ak ((by rw [hg]; exact Nat.ne_of_gt (blk_lt (g := gb493) (o := .cells #[.int .i64 a2_0, .int .i64 a2_1, .string a2_2] 47 (0, 0)) d14_1) : gb506 ≠ gb493))
            clear BK493
            clear HB
            have BK493 := n0_
            have HB := n1_
            have BK506 := n2_
            have GW506 := n3_
            have GE506 := n4_
            have NB493_506 := n5_
            have NB506_493 := n6_
            clear n0_ n1_ n2_ n3_ n4_ n5_ n6_
            clear hb hbox hg
            refine hK.out _ _ ⟨(blk_cell BK493.out 0).trans rfl, (blk_cell BK493.out 1).trans rfl, (blk_cell BK493.out 2).trans rfl⟩ (fun hHeld => ?_)
            clear hK K
            refine norm_ (a' := ?_) ?_ ?_
            rotate_left
            · show Act.put _ (some 8) _ = _
              simp only [Act.put, List.setIfInBounds_toArray, List.set_cons_zero, List.set_cons_succ, i64_w, i32_w]
              rfl
            refine one_ (i := 1) (N := some 29) #[true, true, true, true, false, false, true, false] rfl rfl (one_of HT_.out (by kernel_rfl)) (by decide) (fun K hK => ?_)
            refine goes_ Tryd.func28 (by kernel_rfl) rfl #[.slice A0 l0.length c0] (by rfl) rfl rfl d14_6 ?_
            with_reducible refine (laws_toGlobalS.calls kj11 _ _ l0 t496 _ ?side1 ?side2 A16.out).mono ?_
            (case side1 => repeat (first | exact (Kd.C_below HR0.out HB.out) | (with_reducible refine Kd.C_alloc ?_ _) | (with_reducible refine Kd.C_drewN ?_ _) | (with_reducible refine Kd.C_drew ?_)))
            (case side2 => exact HC0.out)
            rintro e w26 ⟨v497, rfl, ho0, hb⟩
            refine ⟨_, rfl, ?_⟩
            have n0_ := ak (Kd.R_lower ho0 (below_size d14_5))
            have n1_ := ak (blk_below (g := gb493) (o := .cells #[.int .i64 a2_0, .int .i64 a2_1, .string a2_2] 47 (0, 0)) d14_1 hb)
            have n2_ := ak (blk_below (g := gb506) (o := .cells #[.int .i64 0, .slice none 0 0] 52 (0, 0)) d14_2 hb)
            have n3_ := ak (below_step d14_5 hb)
            clear BK493
            clear BK506
            clear HB
            have HO498 := n0_
            have BK493 := n1_
            have BK506 := n2_
            have HB := n3_
            clear n0_ n1_ n2_ n3_
            (try clear hb)
            (try clear hb2)
            (try clear hk)
            (try clear hi)
            (try clear ho0)
            refine hK.out _ _ ⟨(blk_cell BK493.out 0).trans rfl, (blk_cell BK493.out 1).trans rfl, (blk_cell BK493.out 2).trans rfl⟩ (fun hHeld => ?_)
            clear hK K
            refine norm_ (a' := ?_) ?_ ?_
            rotate_left
            · show Act.put _ (some 29) _ = _
              simp only [Act.put, List.setIfInBounds_toArray, List.set_cons_zero, List.set_cons_succ, i64_w, i32_w]
              rfl
            refine one_ (i := 4) (N := some 32) #[true, true, true, true, true, false, true, false] rfl rfl (one_of HT_.out (by kernel_rfl)) (by decide) (fun K hK => ?_)
            refine goes_ Tryd.func29 (by kernel_rfl) rfl #[.agg #[.int .i64 a2_0, .int .i64 a2_1, .string a2_2]] (by rfl) rfl rfl d14_6 ?_
            with_reducible refine (laws_toValue.calls a2_0 a2_1 a2_2 t499 t500 t501 _ A17.out).mono ?_
            rintro e w27 ⟨rfl, hb⟩
            refine ⟨_, rfl, ?_⟩
            have n0_ := ak (Kd.R_below d14_11 hb)
            have n1_ := ak (blk_below (g := gb493) (o := .cells #[.int .i64 a2_0, .int .i64 a2_1, .string a2_2] 47 (0, 0)) d14_1 hb)
            have n2_ := ak (blk_below (g := gb506) (o := .cells #[.int .i64 0, .slice none 0 0] 52 (0, 0)) d14_2 hb)
            have n3_ := ak (below_step d14_5 hb)
            clear HO498
            clear BK493
            clear BK506
            clear HB
            have HO498 := n0_
            have BK493 := n1_
            have BK506 := n2_
            have HB := n3_
            clear n0_ n1_ n2_ n3_
            (try clear hb)
            (try clear hb2)
            (try clear hk)
            (try clear hi)
            obtain ⟨Ao28, co28, eo28⟩ := Kd.R_slice HO498.out
            (first | subst eo28 | (injection eo28 with f1_ f2_ f3_; have f4_ := f1_.symm; have f5_ := f3_.symm; clear f1_ f2_ f3_; subst f4_; subst f5_))
            refine hK.out _ _ ⟨(blk_cell BK493.out 0).trans rfl, (blk_cell BK493.out 1).trans rfl, (blk_cell BK493.out 2).trans rfl⟩ (fun hHeld => ?_)
            clear hK K
            refine norm_ (a' := ?_) ?_ ?_
            rotate_left
            · show Act.put _ (some 32) _ = _
              simp only [Act.put, List.setIfInBounds_toArray, List.set_cons_zero, List.set_cons_succ, i64_w, i32_w]
              rfl
            refine one_ (i := 5) (N := some 33) #[true, true, true, true, true, true, true, false] rfl rfl (one_of HT_.out (by kernel_rfl)) (by decide) (fun K hK => ?_)
            refine goes_ Tryd.func36 (by kernel_rfl) rfl #[.slice Ao28 t496.length co28, .string a1, .agg #[.int .i64 t499, .int .i64 t500, .string t501]] (by rfl) rfl rfl d14_6 ?_
            with_reducible refine (spec_SetGlobal.calls kj11 _ _ t496 a1 t499 t500 t501 t502 t503 _ ?side1 ?side2 A18.out).mono ?_
            (case side1 => repeat (first | exact (Kd.R_reads' HO498.out).2.2 | (with_reducible refine Kd.C_alloc ?_ _) | (with_reducible refine Kd.C_drewN ?_ _) | (with_reducible refine Kd.C_drew ?_)))
            (case side2 => exact (Kd.R_reads' HO498.out).2.1)
            rintro e w29 ⟨v504, rfl, ho0, hb⟩
            refine ⟨_, rfl, ?_⟩
            have n0_ := ak (Kd.R_elder' d14_11 (Kd.R_base ho0) hb)
            have n1_ := ak (Kd.R_lower (Kd.R_new' ho0 (Kd.R_lt d14_11)) (below_size d14_5))
            have n2_ := ak (blk_below (g := gb493) (o := .cells #[.int .i64 a2_0, .int .i64 a2_1, .string a2_2] 47 (0, 0)) d14_1 hb)
            have n3_ := ak (blk_below (g := gb506) (o := .cells #[.int .i64 0, .slice none 0 0] 52 (0, 0)) d14_2 hb)
            have n4_ := ak (below_step d14_5 hb)
            clear HO498
            clear BK493
            clear BK506
            clear HB
            have HO498 := n0_
            have HO505 := n1_
            have BK493 := n2_
            have BK506 := n3_
            have HB := n4_
            clear n0_ n1_ n2_ n3_ n4_
            (try clear hb)
            (try clear hb2)
            (try clear hk)
            (try clear hi)
            (try clear ho0)
            refine hK.out _ _ ⟨(blk_cell BK493.out 0).trans rfl, (blk_cell BK493.out 1).trans rfl, (blk_cell BK493.out 2).trans rfl⟩ (fun hHeld => ?_)
            clear hK K
            refine norm_ (a' := ?_) ?_ ?_
            rotate_left
            · show Act.put _ (some 33) _ = _
              simp only [Act.put, List.setIfInBounds_toArray, List.set_cons_zero, List.set_cons_succ, i64_w, i32_w]
              rfl
            exact norm_ d14_14 (hCont (.slice Ao28 t496.length co28, v504, gb506) _ ⟨hHeld, d14_20, d14_21, d14_1, d14_2, GW506.out, GE506.out, NB493_506.out, NB506_493.out, d14_5⟩)
        rintro ⟨v497, v504, gb506⟩ w30 ⟨hS_, h0_, h1_, h2_, h3_, h4_, h5_, h6_, h7_, h8_⟩
        have n0_ : Aside0 (Kd.R k98 98 w30 w.heap.size (fun k_ => some k_ ≠ (v504 : Value).ownBlock) v497 t496) := ⟨h0_⟩
        have n1_ : Aside0 (Kd.R k98 98 w30 w.heap.size (fun k_ => some k_ ≠ (v497 : Value).ownBlock) v504 t503) := ⟨h1_⟩
        have n2_ : Aside0 (w30.heap[gb493]? = some (.cells #[.int .i64 a2_0, .int .i64 a2_1, .string a2_2] 47 (0, 0))) := ⟨h2_⟩
        have n3_ : Aside0 (w30.heap[gb506]? = some (.cells #[.int .i64 0, .slice none 0 0] 52 (0, 0))) := ⟨h3_⟩
        have n4_ : Aside0 (w.heap.size ≤ gb506) := ⟨h4_⟩
        have n5_ : Aside0 (w.heap.size ≤ gb506) := ⟨h5_⟩
        have n6_ : Aside0 (gb493 ≠ gb506) := ⟨h6_⟩
        have n7_ : Aside0 (gb506 ≠ gb493) := ⟨h7_⟩
        have n8_ : Aside0 (Below w.heap.size w w30) := ⟨h8_⟩
        clear BK493
        clear HB
        clear h0_ h1_ h2_ h3_ h4_ h5_ h6_ h7_ h8_
        have HO498 := n0_
        have HO505 := n1_
        have BK493 := n2_
        have BK506 := n3_
        have GW506 := n4_
        have GE506 := n5_
        have NB493_506 := n6_
        have NB506_493 := n7_
        have HB := n8_
        clear n0_ n1_ n2_ n3_ n4_ n5_ n6_ n7_ n8_
        have hHeld : w30.cell? ⟨gb493, 0, none⟩ = some (.int .i64 a2_0) ∧ w30.cell? ⟨gb493, 1, none⟩ = some (.int .i64 a2_1) ∧ w30.cell? ⟨gb493, 2, none⟩ = some (.string a2_2) := hS_
        obtain ⟨Ao32, co32, eo32⟩ := Kd.R_slice HO505.out
        (first | subst eo32 | (injection eo32 with f1_ f2_ f3_; have f4_ := f1_.symm; have f5_ := f3_.symm; clear f1_ f2_ f3_; subst f4_; subst f5_))
        refine norm_ (a' := ?_) ?_ ?_
        rotate_left
        · simp only [putAll, Act.put, List.setIfInBounds_toArray, List.set_cons_zero, List.set_cons_succ]
          rfl
        refine one_ (i := 7) (N := none) #[true, true, true, true, true, true, true, true] rfl rfl (one_of HT_.out (by kernel_rfl)) (by decide) (fun K hK => ?_)
        have hs31 : w30.cell? ⟨gb506, 0, none⟩ = some (.int .i64 0) := (blk_cell BK506.out 0).trans rfl
        have hfs31 := blk_frozen BK506.out 0
        have hns31_0 := NB493_506.out
        have hms31_0 := NB506_493.out
        have hs33 : w30.cell? ⟨gb506, 1, none⟩ = some (.slice none 0 0) := (blk_cell BK506.out 1).trans rfl
        have hfs33 := blk_frozen BK506.out 1
        have hns33_0 := NB493_506.out
        have hms33_0 := NB506_493.out
        refine skip_ (w1 := ?_) (by rfl) rfl ?_ ?_
        rotate_left
        · go_simp
          rfl
        refine hK.out _ _ ⟨((cell_far (p := ⟨gb506, _, none⟩) NB493_506.out _).trans (((cell_far (p := ⟨gb506, _, none⟩) NB493_506.out _).trans (hHeld.1)))), ((cell_far (p := ⟨gb506, _, none⟩) NB493_506.out _).trans (((cell_far (p := ⟨gb506, _, none⟩) NB493_506.out _).trans (hHeld.2.1)))), ((cell_far (p := ⟨gb506, _, none⟩) NB493_506.out _).trans (((cell_far (p := ⟨gb506, _, none⟩) NB493_506.out _).trans (hHeld.2.2))))⟩ (fun hHeld => ?_)
        clear hK K
        refine done_ (done_of HT_.out (by kernel_rfl)) ?_
        go_upto_if 44 with (first | ((with_reducible refine gate_callee (f := 28) rfl ?_); refine goesL_ (some 35) rfl rfl Tryd.func28 (by kernel_rfl) rfl #[.slice A0 l0.length c0] rfl d14_6 ?_; (with_reducible refine (laws_toGlobalS.calls kj11 _ _ l0 t507 _ ?side1 ?side2 A19.out).mono ?_); (case side1 => exact Kd.C_below HR0.out d14_5); (case side2 => exact HC0.out); rintro e w34 ⟨v508, rfl, ho0, hb⟩; refine ⟨_, rfl, ?_⟩; have n0_ := ak (Kd.R_elder' (by (with_reducible repeat (first | apply Kd.R_alloc | apply Kd.R_drewN | apply Kd.R_drew)); exact (Kd.R_mono (Kd.R_far (p := ⟨gb506, 1, none⟩) (Kd.R_far (p := ⟨gb506, 0, none⟩) (Kd.R_types HO498.out BK506.out (by decide)) (fun _ hk => hk.2) (.int .i64 t502)) (fun _ hk => hk.2) (.slice Ao32 t503.length co32)) (fun _ h_ => h_.1))) (Kd.R_base ho0) hb); have n1_ := ak (Kd.R_elder' (by (with_reducible repeat (first | apply Kd.R_alloc | apply Kd.R_drewN | apply Kd.R_drew)); exact (Kd.R_mono (Kd.R_far (p := ⟨gb506, 1, none⟩) (Kd.R_far (p := ⟨gb506, 0, none⟩) (Kd.R_types HO505.out BK506.out (by decide)) (fun _ hk => hk.2) (.int .i64 t502)) (fun _ hk => hk.2) (.slice Ao32 t503.length co32)) (fun _ h_ => h_.1))) (Kd.R_base ho0) hb); have n2_ := ak (Kd.R_lower (Kd.R_new' (Kd.R_new' ho0 (Kd.R_lt (by (with_reducible repeat (first | apply Kd.R_alloc | apply Kd.R_drewN | apply Kd.R_drew)); exact (Kd.R_mono (Kd.R_far (p := ⟨gb506, 1, none⟩) (Kd.R_far (p := ⟨gb506, 0, none⟩) (Kd.R_types HO498.out BK506.out (by decide)) (fun _ hk => hk.2) (.int .i64 t502)) (fun _ hk => hk.2) (.slice Ao32 t503.length co32)) (fun _ h_ => h_.1))))) (Kd.R_lt (by (with_reducible repeat (first | apply Kd.R_alloc | apply Kd.R_drewN | apply Kd.R_drew)); exact (Kd.R_mono (Kd.R_far (p := ⟨gb506, 1, none⟩) (Kd.R_far (p := ⟨gb506, 0, none⟩) (Kd.R_types HO505.out BK506.out (by decide)) (fun _ hk => hk.2) (.int .i64 t502)) (fun _ hk => hk.2) (.slice Ao32 t503.length co32)) (fun _ h_ => h_.1))))) (below_size d14_5)); have n3_ := ak (blk_below (g := gb493) (o := .cells #[.int .i64 a2_0, .int .i64 a2_1, .string a2_2] 47 (0, 0)) (by (with_reducible repeat (first | refine blk_drewN ?_ _ | refine blk_drew ?_ | refine blk_alloc ?_ _)); refine blk_far ?_ NB493_506.out _; (with_reducible repeat (first | refine blk_drewN ?_ _ | refine blk_drew ?_ | refine blk_alloc ?_ _)); refine blk_far ?_ NB493_506.out _; (with_reducible repeat (first | refine blk_drewN ?_ _ | refine blk_drew ?_ | refine blk_alloc ?_ _)); exact BK493.out) hb); have n4_ := ak (blk_below (g := gb506) (o := .cells #[.int .i64 t502, .slice Ao32 t503.length co32] 52 (0, 0)) (by (with_reducible repeat (first | refine blk_drewN ?_ _ | refine blk_drew ?_ | refine blk_alloc ?_ _)); refine blk_put (cs := #[.int .i64 t502, .slice none 0 0]) ?_ 1 _ rfl; (with_reducible repeat (first | refine blk_drewN ?_ _ | refine blk_drew ?_ | refine blk_alloc ?_ _)); refine blk_put (cs := #[.int .i64 0, .slice none 0 0]) ?_ 0 _ rfl; (with_reducible repeat (first | refine blk_drewN ?_ _ | refine blk_drew ?_ | refine blk_alloc ?_ _)); exact BK506.out) hb); have n5_ := ak (below_step d14_5 hb); clear HO498 HO505 BK493 BK506 HB; have HO498 := n0_; have HO505 := n1_; have HO509 := n2_; have BK493 := n3_; have BK506 := n4_; have HB := n5_; clear n0_ n1_ n2_ n3_ n4_ n5_; (try clear hb); (try clear hk); (try clear ho0); have hnb35 := NB493_506.out; have hnc35 := NB506_493.out; have hcz36_0 : w34.cell? ⟨gb493, 0, none⟩ = some (.int .i64 a2_0) := (blk_cell BK493.out 0).trans rfl; have hcz36_1 : w34.cell? ⟨gb493, 1, none⟩ = some (.int .i64 a2_1) := (blk_cell BK493.out 1).trans rfl; have hcz36_2 : w34.cell? ⟨gb493, 2, none⟩ = some (.string a2_2) := (blk_cell BK493.out 2).trans rfl; have hfz36_0 := blk_frozen BK493.out 0; have hfz36_1 := blk_frozen BK493.out 1; have hfz36_2 := blk_frozen BK493.out 2) | ((with_reducible refine gate_callee (f := 29) rfl ?_); refine goesL_ (some 39) rfl rfl Tryd.func29 (by kernel_rfl) rfl #[.agg #[.int .i64 a2_0, .int .i64 a2_1, .string a2_2]] rfl d14_6 ?_; (with_reducible refine (laws_toValue.calls a2_0 a2_1 a2_2 t510 t511 t512 _ A20.out).mono ?_); rintro e w37 ⟨rfl, hb⟩; refine ⟨_, rfl, ?_⟩; have n0_ := ak (Kd.R_below d14_11 hb); have n1_ := ak (Kd.R_below d14_19 hb); have n2_ := ak (Kd.R_below d14_22 hb); have n3_ := ak (blk_below (g := gb493) (o := .cells #[.int .i64 a2_0, .int .i64 a2_1, .string a2_2] 47 (0, 0)) d14_1 hb); have n4_ := ak (blk_below (g := gb506) (o := .cells #[.int .i64 t502, .slice Ao32 t503.length co32] 52 (0, 0)) d14_2 hb); have n5_ := ak (below_step d14_5 hb); clear HO498 HO505 HO509 BK493 BK506 HB; have HO498 := n0_; have HO505 := n1_; have HO509 := n2_; have BK493 := n3_; have BK506 := n4_; have HB := n5_; clear n0_ n1_ n2_ n3_ n4_ n5_; (try clear hb); (try clear hk); obtain ⟨Ao38, co38, eo38⟩ := Kd.R_slice HO509.out; subst eo38) | ((with_reducible refine gate_callee (f := 37) rfl ?_); refine goesL_ (some 40) rfl rfl Tryd.func37 (by kernel_rfl) rfl #[.slice Ao38 t507.length co38, .string a1, .agg #[.int .i64 t510, .int .i64 t511, .string t512]] rfl d14_6 ?_; (with_reducible refine (impl_SetGlobal.calls kj11 _ _ t507 a1 t510 t511 t512 t513 t514 _ ?side1 ?side2 A21.out).mono ?_); (case side1 => repeat (first | exact (Kd.R_reads' HO509.out).2.2 | (with_reducible refine Kd.C_alloc ?_ _) | (with_reducible refine Kd.C_drewN ?_ _) | (with_reducible refine Kd.C_drew ?_))); (case side2 => exact (Kd.R_reads' HO509.out).2.1); rintro e w39 ⟨v515, rfl, ho0, hb⟩; refine ⟨_, rfl, ?_⟩; have n0_ := ak (Kd.R_elder' d14_11 (Kd.R_base ho0) hb); have n1_ := ak (Kd.R_elder' d14_19 (Kd.R_base ho0) hb); have n2_ := ak (Kd.R_elder' d14_22 (Kd.R_base ho0) hb); have n3_ := ak (Kd.R_lower (Kd.R_new' (Kd.R_new' (Kd.R_new' ho0 (Kd.R_lt d14_11)) (Kd.R_lt d14_19)) (Kd.R_lt d14_22)) (below_size d14_5)); have n4_ := ak (blk_below (g := gb493) (o := .cells #[.int .i64 a2_0, .int .i64 a2_1, .string a2_2] 47 (0, 0)) d14_1 hb); have n5_ := ak (blk_below (g := gb506) (o := .cells #[.int .i64 t502, .slice Ao32 t503.length co32] 52 (0, 0)) d14_2 hb); have n6_ := ak (below_step d14_5 hb); clear HO498 HO505 HO509 BK493 BK506 HB; have HO498 := n0_; have HO505 := n1_; have HO509 := n2_; have HO516 := n3_; have BK493 := n4_; have BK506 := n5_; have HB := n6_; clear n0_ n1_ n2_ n3_ n4_ n5_ n6_; (try clear hb); (try clear hk); (try clear ho0)) | ((with_reducible refine gate_dst (N := 10) rfl ?_); refine box_event ?hg (N := 10) ?hd (cs := #[.int .i64 0, .slice none 0 0]) (t := 52) ?hr ?_; (case hd => rfl); (case hg => rfl); (case hr => first | (go_simp; done) | (go_simp; rfl)); intro gb517 hg w40 hbox hb; have n0_ := ak (Kd.R_below d14_11 hb); have n1_ := ak (Kd.R_below d14_19 hb); have n2_ := ak (Kd.R_below d14_22 hb); have n3_ := ak (Kd.R_below (by (with_reducible repeat (first | apply Kd.R_alloc | apply Kd.R_drewN | apply Kd.R_drew)); exact HO516.out) hb); have n4_ := ak (blk_below (g := gb493) (o := .cells #[.int .i64 a2_0, .int .i64 a2_1, .string a2_2] 47 (0, 0)) d14_1 hb); have n5_ := ak (blk_below (g := gb506) (o := .cells #[.int .i64 t502, .slice Ao32 t503.length co32] 52 (0, 0)) d14_2 hb); have n6_ := ak (below_step d14_5 hb); have n7_ := ak (hbox); have n8_ := ak ((by rw [hg]; exact (below_size d14_5) : w.heap.size ≤ gb517)); have n9_ := ak ((by rw [hg]; exact (below_size d14_5) : w.heap.size ≤ gb517)); have n10_ := ak ((by rw [hg]; exact Nat.ne_of_lt (blk_lt (g := gb493) (o := .cells #[.int .i64 a2_0, .int .i64 a2_1, .string a2_2] 47 (0, 0)) d14_1) : gb493 ≠ gb517)); have n11_ := ak ((by rw [hg]; exact Nat.ne_of_gt (blk_lt (g := gb493) (o := .cells #[.int .i64 a2_0, .int .i64 a2_1, .string a2_2] 47 (0, 0)) d14_1) : gb517 ≠ gb493)); have n12_ := ak ((by rw [hg]; exact Nat.ne_of_lt (blk_lt (g := gb506) (o := .cells #[.int .i64 t502, .slice Ao32 t503.length co32] 52 (0, 0)) d14_2) : gb506 ≠ gb517)); have n13_ := ak ((by rw [hg]; exact Nat.ne_of_gt (blk_lt (g := gb506) (o := .cells #[.int .i64 t502, .slice Ao32 t503.length co32] 52 (0, 0)) d14_2) : gb517 ≠ gb506)); clear HO498 HO505 HO509 HO516 BK493 BK506 HB; have HO498 := n0_; have HO505 := n1_; have HO509 := n2_; have HO516 := n3_; have BK493 := n4_; have BK506 := n5_; have HB := n6_; have BK517 := n7_; have GW517 := n8_; have GE517 := n9_; have NB493_517 := n10_; have NB517_493 := n11_; have NB506_517 := n12_; have NB517_506 := n13_; clear n0_ n1_ n2_ n3_ n4_ n5_ n6_ n7_ n8_ n9_ n10_ n11_ n12_ n13_ hb hbox hg; have hnb41 := NB517_493.out; have hnc41 := NB493_517.out; have hnb42 := NB517_506.out; have hnc42 := NB506_517.out; have hcz43_0 : w40.cell? ⟨gb517, 0, none⟩ = some (.int .i64 0) := (blk_cell BK517.out 0).trans rfl; have hcz43_1 : w40.cell? ⟨gb517, 1, none⟩ = some (.slice none 0 0) := (blk_cell BK517.out 1).trans rfl; have hfz43_0 := blk_frozen BK517.out 0; have hfz43_1 := blk_frozen BK517.out 1; obtain ⟨Ao44, co44, eo44⟩ := Kd.R_slice HO516.out; subst eo44; have hcz45_0 : w40.cell? ⟨gb506, 0, none⟩ = some (.int .i64 t502) := (blk_cell BK506.out 0).trans rfl; have hcz45_1 : w40.cell? ⟨gb506, 1, none⟩ = some (.slice Ao32 t503.length co32) := (blk_cell BK506.out 1).trans rfl; have hfz45_0 := blk_frozen BK506.out 0; have hfz45_1 := blk_frozen BK506.out 1) | ((with_reducible refine gate_callee (f := 31) rfl ?_); refine goesL_ (some 43) rfl rfl Tryd.func31 (by kernel_rfl) rfl #[.agg #[.int .i64 t513, .slice Ao44 t514.length co44], .agg #[.int .i64 t502, .slice Ao32 t503.length co32]] rfl d14_6 ?_; (with_reducible refine (laws_eqGlobalsResult.calls kj11 t513 _ _ t514 t502 _ _ t503 t518 _ ?side1 ?side2 ?side3 ?side4 A22.out).mono ?_); (case side1 => refine (Kd.R_reads' (e := 98) (base := w.heap.size) (ok := fun k_ => (((True ∧ some k_ ≠ (v497 : Value).ownBlock) ∧ some k_ ≠ (.slice Ao32 t503.length co32 : Value).ownBlock) ∧ some k_ ≠ (.slice Ao38 t507.length co38 : Value).ownBlock)) (n := t514.length) (c := co44) ?_).2.2; exact (by (with_reducible repeat (first | apply Kd.R_alloc | apply Kd.R_drewN | apply Kd.R_drew)); exact (Kd.R_mono (Kd.R_far (p := ⟨gb517, 1, none⟩) (Kd.R_far (p := ⟨gb517, 0, none⟩) (Kd.R_types HO516.out BK517.out (by decide)) (fun _ hk => hk.2) (.int .i64 t513)) (fun _ hk => hk.2) (.slice Ao44 t514.length co44)) (fun _ h_ => h_.1)))); (case side2 => exact (Kd.R_reads' HO516.out).2.1); (case side3 => refine (Kd.R_reads' (e := 98) (base := w.heap.size) (ok := fun k_ => ((some k_ ≠ (v497 : Value).ownBlock ∧ some k_ ≠ (.slice Ao38 t507.length co38 : Value).ownBlock) ∧ some k_ ≠ (.slice Ao44 t514.length co44 : Value).ownBlock)) (n := t503.length) (c := co32) ?_).2.2; exact (by (with_reducible repeat (first | apply Kd.R_alloc | apply Kd.R_drewN | apply Kd.R_drew)); exact (Kd.R_mono (Kd.R_far (p := ⟨gb517, 1, none⟩) (Kd.R_far (p := ⟨gb517, 0, none⟩) (Kd.R_types HO505.out BK517.out (by decide)) (fun _ hk => hk.2) (.int .i64 t513)) (fun _ hk => hk.2) (.slice Ao44 t514.length co44)) (fun _ h_ => h_.1)))); (case side4 => exact (Kd.R_reads' HO505.out).2.1); rintro e w46 ⟨rfl, hb⟩; refine ⟨_, rfl, ?_⟩; have n0_ := ak (Kd.R_below (by (with_reducible repeat (first | apply Kd.R_alloc | apply Kd.R_drewN | apply Kd.R_drew)); exact (Kd.R_mono (Kd.R_far (p := ⟨gb517, 1, none⟩) (Kd.R_far (p := ⟨gb517, 0, none⟩) (Kd.R_types HO498.out BK517.out (by decide)) (fun _ hk => hk.2) (.int .i64 t513)) (fun _ hk => hk.2) (.slice Ao44 t514.length co44)) (fun _ h_ => h_.1))) hb); have n1_ := ak (Kd.R_below (by (with_reducible repeat (first | apply Kd.R_alloc | apply Kd.R_drewN | apply Kd.R_drew)); exact (Kd.R_mono (Kd.R_far (p := ⟨gb517, 1, none⟩) (Kd.R_far (p := ⟨gb517, 0, none⟩) (Kd.R_types HO505.out BK517.out (by decide)) (fun _ hk => hk.2) (.int .i64 t513)) (fun _ hk => hk.2) (.slice Ao44 t514.length co44)) (fun _ h_ => h_.1))) hb); have n2_ := ak (Kd.R_below (by (with_reducible repeat (first | apply Kd.R_alloc | apply Kd.R_drewN | apply Kd.R_drew)); exact (Kd.R_mono (Kd.R_far (p := ⟨gb517, 1, none⟩) (Kd.R_far (p := ⟨gb517, 0, none⟩) (Kd.R_types HO509.out BK517.out (by decide)) (fun _ hk => hk.2) (.int .i64 t513)) (fun _ hk => hk.2) (.slice Ao44 t514.length co44)) (fun _ h_ => h_.1))) hb); have n3_ := ak (Kd.R_below (by (with_reducible repeat (first | apply Kd.R_alloc | apply Kd.R_drewN | apply Kd.R_drew)); exact (Kd.R_mono (Kd.R_far (p := ⟨gb517, 1, none⟩) (Kd.R_far (p := ⟨gb517, 0, none⟩) (Kd.R_types HO516.out BK517.out (by decide)) (fun _ hk => hk.2) (.int .i64 t513)) (fun _ hk => hk.2) (.slice Ao44 t514.length co44)) (fun _ h_ => h_.1))) hb); have n4_ := ak (blk_below (g := gb493) (o := .cells #[.int .i64 a2_0, .int .i64 a2_1, .string a2_2] 47 (0, 0)) (by (with_reducible repeat (first | refine blk_drewN ?_ _ | refine blk_drew ?_ | refine blk_alloc ?_ _)); refine blk_far ?_ NB493_517.out _; (with_reducible repeat (first | refine blk_drewN ?_ _ | refine blk_drew ?_ | refine blk_alloc ?_ _)); refine blk_far ?_ NB493_517.out _; (with_reducible repeat (first | refine blk_drewN ?_ _ | refine blk_drew ?_ | refine blk_alloc ?_ _)); exact BK493.out) hb); have n5_ := ak (blk_below (g := gb506) (o := .cells #[.int .i64 t502, .slice Ao32 t503.length co32] 52 (0, 0)) (by (with_reducible repeat (first | refine blk_drewN ?_ _ | refine blk_drew ?_ | refine blk_alloc ?_ _)); refine blk_far ?_ NB506_517.out _; (with_reducible repeat (first | refine blk_drewN ?_ _ | refine blk_drew ?_ | refine blk_alloc ?_ _)); refine blk_far ?_ NB506_517.out _; (with_reducible repeat (first | refine blk_drewN ?_ _ | refine blk_drew ?_ | refine blk_alloc ?_ _)); exact BK506.out) hb); have n6_ := ak (blk_below (g := gb517) (o := .cells #[.int .i64 t513, .slice Ao44 t514.length co44] 52 (0, 0)) (by (with_reducible repeat (first | refine blk_drewN ?_ _ | refine blk_drew ?_ | refine blk_alloc ?_ _)); refine blk_put (cs := #[.int .i64 t513, .slice none 0 0]) ?_ 1 _ rfl; (with_reducible repeat (first | refine blk_drewN ?_ _ | refine blk_drew ?_ | refine blk_alloc ?_ _)); refine blk_put (cs := #[.int .i64 0, .slice none 0 0]) ?_ 0 _ rfl; (with_reducible repeat (first | refine blk_drewN ?_ _ | refine blk_drew ?_ | refine blk_alloc ?_ _)); exact BK517.out) hb); have n7_ := ak (below_step d14_3 hb); clear HO498 HO505 HO509 HO516 BK493 BK506 BK517 HB; have HO498 := n0_; have HO505 := n1_; have HO509 := n2_; have HO516 := n3_; have BK493 := n4_; have BK506 := n5_; have BK517 := n6_; have HB := n7_; clear n0_ n1_ n2_ n3_ n4_ n5_ n6_ n7_; (try clear hb); (try clear hk)))
        (try simp only [Act.put, List.setIfInBounds_toArray, List.set_cons_zero, List.set_cons_succ])
        go_cut [] (fun wc => ∃ (kq : Nat), Aside0 (laws_FnExactSetGlobal.j3 kq l0 a1 t507 a2_0 a2_1 a2_2 t502 t503 t513 t514 = some r) ∧ Aside0 (kq ≤ kj11) ∧ Aside0 (Kd.R k98 98 wc w.heap.size (fun k_ => some k_ ≠ ((.slice Ao32 t503.length co32) : Value).ownBlock ∧ some k_ ≠ ((.slice Ao44 t514.length co44) : Value).ownBlock) (.slice Ao38 t507.length co38) t507) ∧ Aside0 (Kd.R k98 98 wc w.heap.size (fun k_ => some k_ ≠ ((.slice Ao38 t507.length co38) : Value).ownBlock ∧ some k_ ≠ ((.slice Ao44 t514.length co44) : Value).ownBlock) (.slice Ao32 t503.length co32) t503) ∧ Aside0 (Kd.R k98 98 wc w.heap.size (fun k_ => some k_ ≠ ((.slice Ao38 t507.length co38) : Value).ownBlock ∧ some k_ ≠ ((.slice Ao32 t503.length co32) : Value).ownBlock) (.slice Ao44 t514.length co44) t514) ∧ Aside0 (wc.heap[gb493]? = some (.cells #[.int .i64 a2_0, .int .i64 a2_1, .string a2_2] 47 (0, 0))) ∧ Aside0 (wc.heap[gb506]? = some (.cells #[.int .i64 t502, (.slice Ao32 t503.length co32)] 52 (0, 0))) ∧ Aside0 (wc.heap[gb517]? = some (.cells #[.int .i64 t513, (.slice Ao44 t514.length co44)] 52 (0, 0))) ∧ Aside0 (Below w.heap.size w wc))
        case first =>
         have H := HC23.out
         clear HC23
         by_cases c47 : t518 = true
         ·subst c47
          have H1 : (laws_FnExactSetGlobal.j3 kj11 l0 a1 t507 a2_0 a2_1 a2_2 t502 t503 t513 t514) = some r := by rw [if_pos rfl] at H; exact H
          clear H
          have H := H1
          clear H1
          have H' := ak H
          clear H
          go_wp2
          go_meet
          case rel => exact ⟨_, H', ⟨by have := HJ3.out; have := HJ7.out; have := HJ11.out; first | omega | exact Nat.le_refl _⟩, ⟨by (with_reducible repeat (first | apply Kd.R_alloc | apply Kd.R_drewN | apply Kd.R_drew)); exact Kd.R_mono HO509.out (fun _ hk => ⟨hk.1.2, hk.2⟩)⟩, ⟨by (with_reducible repeat (first | apply Kd.R_alloc | apply Kd.R_drewN | apply Kd.R_drew)); exact Kd.R_mono HO505.out (fun _ hk => ⟨hk.1.2, hk.2⟩)⟩, ⟨by (with_reducible repeat (first | apply Kd.R_alloc | apply Kd.R_drewN | apply Kd.R_drew)); exact Kd.R_mono HO516.out (fun _ hk => ⟨hk.2, hk.1.2⟩)⟩, ⟨by (with_reducible repeat (first | refine blk_drewN ?_ _ | refine blk_drew ?_ | refine blk_alloc ?_ _)); exact BK493.out⟩, ⟨by (with_reducible repeat (first | refine blk_drewN ?_ _ | refine blk_drew ?_ | refine blk_alloc ?_ _)); exact BK506.out⟩, ⟨by (with_reducible repeat (first | refine blk_drewN ?_ _ | refine blk_drew ?_ | refine blk_alloc ?_ _)); exact BK517.out⟩, ⟨by repeat (first | (with_reducible first | exact HB.out | apply below_alloc | apply pw_below_drewN | apply below_drew1 | refine below_set ?_ GE493.out | refine below_set ?_ GE506.out | refine below_set ?_ GE517.out) | exact HB.out)⟩⟩
         ·replace c47 := Bool.eq_false_iff.mpr c47
          subst c47
          have H1 : (some false) = some r := by rw [if_neg (show ¬ (false = true) by decide)] at H; exact H
          clear H
          have H := H1
          clear H1
          obtain rfl := Option.some.inj H
          go_wp2
          go_ret
          exact ⟨by first | rfl | (simp [errW_none, errW_some] <;> rfl) | (simp [*, errW_none, errW_some] <;> rfl), by repeat (first | (with_reducible first | exact HB.out | apply below_alloc | apply pw_below_drewN | apply below_drew1 | refine below_set ?_ GE493.out | refine below_set ?_ GE506.out | refine below_set ?_ GE517.out) | exact HB.out)⟩
        case rest =>
         clear HC23
         try clear c1
         try clear c2
         try clear p2
         try clear c3
         try clear c4
         try clear c6
         try clear c6b0
         try clear c6b1
         try clear c8
         try clear c10
         try clear c10b0
         try clear c15
         try clear c15b0
         try clear c26
         try clear c28
         try clear c29
         try clear c31
         try clear c35
         try clear c36
         try clear c37
         try clear c41
         try clear c42
         try clear hcz13_0
         try clear hcz13_1
         try clear hcz13_2
         try clear hcz36_0
         try clear hcz36_1
         try clear hcz36_2
         try clear hcz43_0
         try clear hcz43_1
         try clear hcz45_0
         try clear hcz45_1
         try clear hfz13_0
         try clear hfz13_1
         try clear hfz13_2
         try clear hfz36_0
         try clear hfz36_1
         try clear hfz36_2
         try clear hfz43_0
         try clear hfz43_1
         try clear hfz45_0
         try clear hfz45_1
         try clear p2
         obtain ⟨kq, HA, HJ22, HO_9, HO_507001, HO_518001, BK493, BK506, BK517, HB⟩ := hcut
         cases kq with
         | zero => exact absurd HA.out (by simp [laws_FnExactSetGlobal.j3])
         | succ kj22 =>
          have H := HA.out
          clear HA
          simp only [laws_FnExactSetGlobal.j3] at H
          replace H := Option.bind_eq_some_iff.mp H
          obtain ⟨t519, A480, H⟩ := H
          replace H : ((laws_eqGlobalS.f kj22 t507 t519).bind fun t522 => (if t522 = true then (laws_FnExactSetGlobal.j4 kj22 l0 a1 t507 a2_0 a2_1 a2_2 t502 t503 t513 t514) else (some false))) = some r := H
          have A48 := ak A480
          clear A480
          replace H := Option.bind_eq_some_iff.mp H
          obtain ⟨t522, A490, H⟩ := H
          replace H : (if t522 = true then (laws_FnExactSetGlobal.j4 kj22 l0 a1 t507 a2_0 a2_1 a2_2 t502 t503 t513 t514) else (some false)) = some r := H
          have A49 := ak A490
          clear A490
          have HC50 := ak H
          clear H
          go_upto_if 49 with (first | ((with_reducible refine gate_callee (f := 28) rfl ?_); refine goesL_ (some 47) rfl rfl Tryd.func28 (by kernel_rfl) rfl #[.slice A0 l0.length c0] rfl d14_6 ?_; (with_reducible refine (laws_toGlobalS.calls kj22 _ _ l0 t519 _ ?side1 ?side2 A48.out).mono ?_); (case side1 => repeat (first | exact (Kd.C_below HR0.out HB.out) | (with_reducible refine Kd.C_alloc ?_ _) | (with_reducible refine Kd.C_drewN ?_ _) | (with_reducible refine Kd.C_drew ?_))); (case side2 => exact HC0.out); rintro e w51 ⟨v520, rfl, ho0, hb⟩; refine ⟨_, rfl, ?_⟩; have n0_ := ak (Kd.R_elder' (by (with_reducible repeat (first | apply Kd.R_alloc | apply Kd.R_drewN | apply Kd.R_drew)); exact HO_9.out) (Kd.R_base ho0) hb); have n1_ := ak (Kd.R_elder' d14_9 (Kd.R_base ho0) hb); have n2_ := ak (Kd.R_elder' d14_10 (Kd.R_base ho0) hb); have n3_ := ak (Kd.R_lower (Kd.R_new' (Kd.R_new' (Kd.R_new' ho0 (Kd.R_lt (by (with_reducible repeat (first | apply Kd.R_alloc | apply Kd.R_drewN | apply Kd.R_drew)); exact HO_9.out))) (Kd.R_lt d14_9)) (Kd.R_lt d14_10)) (below_size d14_3)); have n4_ := ak (blk_below (g := gb493) (o := .cells #[.int .i64 a2_0, .int .i64 a2_1, .string a2_2] 47 (0, 0)) d14_1 hb); have n5_ := ak (blk_below (g := gb506) (o := .cells #[.int .i64 t502, .slice Ao32 t503.length co32] 52 (0, 0)) d14_2 hb); have n6_ := ak (blk_below (g := gb517) (o := .cells #[.int .i64 t513, .slice Ao44 t514.length co44] 52 (0, 0)) d14_7 hb); have n7_ := ak (below_step d14_3 hb); clear HO_9 HO_507001 HO_518001 BK493 BK506 BK517 HB; have HO_9 := n0_; have HO_507001 := n1_; have HO_518001 := n2_; have HO521 := n3_; have BK493 := n4_; have BK506 := n5_; have BK517 := n6_; have HB := n7_; clear n0_ n1_ n2_ n3_ n4_ n5_ n6_ n7_; (try clear hb); (try clear ho0); obtain ⟨Ao52, co52, eo52⟩ := Kd.R_slice HO521.out; subst eo52) | ((with_reducible refine gate_callee (f := 32) rfl ?_); refine goesL_ (some 48) rfl rfl Tryd.func32 (by kernel_rfl) rfl #[.slice Ao38 t507.length co38, .slice Ao52 t519.length co52] rfl d14_6 ?_; (with_reducible refine (laws_eqGlobalS.calls kj22 _ _ t507 _ _ t519 t522 _ ?side1 ?side2 ?side3 ?side4 A49.out).mono ?_); (case side1 => repeat (first | exact (Kd.R_reads' HO_9.out).2.2 | (with_reducible refine Kd.C_alloc ?_ _) | (with_reducible refine Kd.C_drewN ?_ _) | (with_reducible refine Kd.C_drew ?_))); (case side2 => exact (Kd.R_reads' HO_9.out).2.1); (case side3 => repeat (first | exact (Kd.R_reads' HO521.out).2.2 | (with_reducible refine Kd.C_alloc ?_ _) | (with_reducible refine Kd.C_drewN ?_ _) | (with_reducible refine Kd.C_drew ?_))); (case side4 => exact (Kd.R_reads' HO521.out).2.1); rintro e w53 ⟨rfl, hb⟩; refine ⟨_, rfl, ?_⟩; have n0_ := ak (Kd.R_below (by (with_reducible repeat (first | apply Kd.R_alloc | apply Kd.R_drewN | apply Kd.R_drew)); exact HO_9.out) hb); have n1_ := ak (Kd.R_below d14_9 hb); have n2_ := ak (Kd.R_below d14_10 hb); have n3_ := ak (Kd.R_below (by (with_reducible repeat (first | apply Kd.R_alloc | apply Kd.R_drewN | apply Kd.R_drew)); exact HO521.out) hb); have n4_ := ak (blk_below (g := gb493) (o := .cells #[.int .i64 a2_0, .int .i64 a2_1, .string a2_2] 47 (0, 0)) d14_1 hb); have n5_ := ak (blk_below (g := gb506) (o := .cells #[.int .i64 t502, .slice Ao32 t503.length co32] 52 (0, 0)) d14_2 hb); have n6_ := ak (blk_below (g := gb517) (o := .cells #[.int .i64 t513, .slice Ao44 t514.length co44] 52 (0, 0)) d14_7 hb); have n7_ := ak (below_step d14_3 hb); clear HO_9 HO_507001 HO_518001 HO521 BK493 BK506 BK517 HB; have HO_9 := n0_; have HO_507001 := n1_; have HO_518001 := n2_; have HO521 := n3_; have BK493 := n4_; have BK506 := n5_; have BK517 := n6_; have HB := n7_; clear n0_ n1_ n2_ n3_ n4_ n5_ n6_ n7_; (try clear hb)))
          (try simp only [Act.put, List.setIfInBounds_toArray, List.set_cons_zero, List.set_cons_succ])
          go_cut [] (fun wc => ∃ (kq : Nat), Aside0 (laws_FnExactSetGlobal.j4 kq l0 a1 t507 a2_0 a2_1 a2_2 t502 t503 t513 t514 = some r) ∧ Aside0 (kq ≤ kj22) ∧ Aside0 (Kd.R k98 98 wc w.heap.size (fun k_ => some k_ ≠ ((.slice Ao32 t503.length co32) : Value).ownBlock ∧ some k_ ≠ ((.slice Ao44 t514.length co44) : Value).ownBlock) (.slice Ao38 t507.length co38) t507) ∧ Aside0 (Kd.R k98 98 wc w.heap.size (fun k_ => some k_ ≠ ((.slice Ao38 t507.length co38) : Value).ownBlock ∧ some k_ ≠ ((.slice Ao44 t514.length co44) : Value).ownBlock) (.slice Ao32 t503.length co32) t503) ∧ Aside0 (Kd.R k98 98 wc w.heap.size (fun k_ => some k_ ≠ ((.slice Ao38 t507.length co38) : Value).ownBlock ∧ some k_ ≠ ((.slice Ao32 t503.length co32) : Value).ownBlock) (.slice Ao44 t514.length co44) t514) ∧ Aside0 (wc.heap[gb493]? = some (.cells #[.int .i64 a2_0, .int .i64 a2_1, .string a2_2] 47 (0, 0))) ∧ Aside0 (wc.heap[gb506]? = some (.cells #[.int .i64 t502, (.slice Ao32 t503.length co32)] 52 (0, 0))) ∧ Aside0 (wc.heap[gb517]? = some (.cells #[.int .i64 t513, (.slice Ao44 t514.length co44)] 52 (0, 0))) ∧ Aside0 (Below w.heap.size w wc))
          case first =>
           have H := HC50.out
           clear HC50
           by_cases c54 : t522 = true
           ·subst c54
            have H1 : (laws_FnExactSetGlobal.j4 kj22 l0 a1 t507 a2_0 a2_1 a2_2 t502 t503 t513 t514) = some r := by rw [if_pos rfl] at H; exact H
            clear H
            have H := H1
            clear H1
            have H' := ak H
            clear H
            go_wp2
            go_meet
            case rel => exact ⟨_, H', ⟨by have := HJ3.out; have := HJ7.out; have := HJ11.out; have := HJ22.out; first | omega | exact Nat.le_refl _⟩, ⟨by (with_reducible repeat (first | apply Kd.R_alloc | apply Kd.R_drewN | apply Kd.R_drew)); exact Kd.R_mono HO_9.out (fun _ hk => ⟨hk.1.1, hk.1.2⟩)⟩, ⟨by (with_reducible repeat (first | apply Kd.R_alloc | apply Kd.R_drewN | apply Kd.R_drew)); exact Kd.R_mono HO_507001.out (fun _ hk => ⟨hk.1.1, hk.1.2⟩)⟩, ⟨by (with_reducible repeat (first | apply Kd.R_alloc | apply Kd.R_drewN | apply Kd.R_drew)); exact Kd.R_mono HO_518001.out (fun _ hk => ⟨hk.1.1, hk.1.2⟩)⟩, ⟨by (with_reducible repeat (first | refine blk_drewN ?_ _ | refine blk_drew ?_ | refine blk_alloc ?_ _)); exact BK493.out⟩, ⟨by (with_reducible repeat (first | refine blk_drewN ?_ _ | refine blk_drew ?_ | refine blk_alloc ?_ _)); exact BK506.out⟩, ⟨by (with_reducible repeat (first | refine blk_drewN ?_ _ | refine blk_drew ?_ | refine blk_alloc ?_ _)); exact BK517.out⟩, ⟨by repeat (first | (with_reducible first | exact HB.out | apply below_alloc | apply pw_below_drewN | apply below_drew1 | refine below_set ?_ GE493.out | refine below_set ?_ GE506.out | refine below_set ?_ GE517.out) | exact HB.out)⟩⟩
           ·replace c54 := Bool.eq_false_iff.mpr c54
            subst c54
            have H1 : (some false) = some r := by rw [if_neg (show ¬ (false = true) by decide)] at H; exact H
            clear H
            have H := H1
            clear H1
            obtain rfl := Option.some.inj H
            go_wp2
            go_ret
            exact ⟨by first | rfl | (simp [errW_none, errW_some] <;> rfl) | (simp [*, errW_none, errW_some] <;> rfl), by repeat (first | (with_reducible first | exact HB.out | apply below_alloc | apply pw_below_drewN | apply below_drew1 | refine below_set ?_ GE493.out | refine below_set ?_ GE506.out | refine below_set ?_ GE517.out) | exact HB.out)⟩
          case rest =>
           clear HC50
           try clear c1
           try clear c2
           try clear p2
           try clear c3
           try clear c4
           try clear c6
           try clear c6b0
           try clear c6b1
           try clear c8
           try clear c10
           try clear c10b0
           try clear c15
           try clear c15b0
           try clear c26
           try clear c28
           try clear c29
           try clear c31
           try clear c32
           try clear c35
           try clear c36
           try clear c37
           try clear c41
           try clear c42
           try clear c47
           try clear hcz13_0
           try clear hcz13_1
           try clear hcz13_2
           try clear hcz36_0
           try clear hcz36_1
           try clear hcz36_2
           try clear hcz43_0
           try clear hcz43_1
           try clear hcz45_0
           try clear hcz45_1
           try clear hfz13_0
           try clear hfz13_1
           try clear hfz13_2
           try clear hfz36_0
           try clear hfz36_1
           try clear hfz36_2
           try clear hfz43_0
           try clear hfz43_1
           try clear hfz45_0
           try clear hfz45_1
           try clear p2
           obtain ⟨kq, HA, HJ49, HO_9, HO_507001, HO_518001, BK493, BK506, BK517, HB⟩ := hcut
           cases kq with
           | zero => exact absurd HA.out (by simp [laws_FnExactSetGlobal.j4])
           | succ kj49 =>
            have H := HA.out
            clear HA
            simp only [laws_FnExactSetGlobal.j4] at H
            replace H := Option.bind_eq_some_iff.mp H
            obtain ⟨⟨t523, t524⟩, A550, H⟩ := H
            replace H : (if t523 < 0 then (laws_FnExactSetGlobal.j5 kj49 l0 a1 true a2_0 a2_1 a2_2 t502 t503 t513 t514) else ((laws_eqGlobalsResult.f kj49 t513 t514 t502 t503).bind fun t525 => (laws_FnExactSetGlobal.j5 kj49 l0 a1 (!t525) a2_0 a2_1 a2_2 t502 t503 t513 t514))) = some r := H
            have A55 := ak A550
            clear A550
            have HC56 := ak H
            clear H
            go_upto_region 19 with (first | ((with_reducible refine gate_callee (f := 33) rfl ?_); refine goesL_ (some 52) rfl rfl Tryd.func33 (by kernel_rfl) rfl #[.slice Ao38 t507.length co38, .int .i64 1] rfl d14_6 ?_; (with_reducible refine (laws_markGlobalS.calls kj49 (fun k_ => some k_ = (.slice Ao38 t507.length co38 : Value).ownBlock) (.slice Ao38 t507.length co38) t507 1 t523 t524 w _ ?side1 ?side2 A55.out).mono ?_); (case side1 => repeat (first | (with_reducible first | exact HB.out | apply below_alloc | apply pw_below_drewN | apply below_drew1 | refine below_set ?_ GE493.out | refine below_set ?_ GE506.out | refine below_set ?_ GE517.out) | exact HB.out)); (case side2 => exact Kd.R_tight rfl HO_9.out); rintro e w57 ⟨rfl, hy0, hb, hkp⟩; refine ⟨_, rfl, ?_⟩; have n0_ := ak (Kd.R_reok rfl hy0 (fun k_ e_ => HO_9.out.1 k_ e_)); have n1_ := ak (Kd.R_mono (ok' := fun k_ => some k_ ≠ (.slice Ao38 t507.length co38 : Value).ownBlock ∧ some k_ ≠ (.slice Ao44 t514.length co44 : Value).ownBlock) (Kd.R_keptB (HO_507001.out) hkp (fun k_ hk_ hs_ => (hk_.1) hs_)) (fun k_ hk_ => ⟨hk_.1.1, hk_.1.2⟩)); have n2_ := ak (Kd.R_mono (ok' := fun k_ => some k_ ≠ (.slice Ao38 t507.length co38 : Value).ownBlock ∧ some k_ ≠ (.slice Ao32 t503.length co32 : Value).ownBlock) (Kd.R_keptB (HO_518001.out) hkp (fun k_ hk_ hs_ => (hk_.1) hs_)) (fun k_ hk_ => ⟨hk_.1.1, hk_.1.2⟩)); have n3_ := ak (blk_kept d14_1 hkp (fun hs_ => (fun e_ => (Kd.R_ne HO_9.out BK493.out (by decide)) e_) hs_)); have n4_ := ak (blk_kept d14_2 hkp (fun hs_ => (fun e_ => (Kd.R_ne HO_9.out BK506.out (by decide)) e_) hs_)); have n5_ := ak (blk_kept d14_7 hkp (fun hs_ => (fun e_ => (Kd.R_ne HO_9.out BK517.out (by decide)) e_) hs_)); have n6_ := ak (hb); clear HO_9 HO_507001 HO_518001 BK493 BK506 BK517 HB; have HO_9 := n0_; have HO_507001 := n1_; have HO_518001 := n2_; have BK493 := n3_; have BK506 := n4_; have BK517 := n5_; have HB := n6_; clear n0_ n1_ n2_ n3_ n4_ n5_ n6_; (try clear hb); (try clear hkp); (try clear hy0)))
            (try simp only [Act.put, List.setIfInBounds_toArray, List.set_cons_zero, List.set_cons_succ])
            go_cut [60] (fun v60 wc => ∃ (kq : Nat) (x60_55 : Bool), v60 = .bool x60_55 ∧ Aside0 (laws_FnExactSetGlobal.j5 kq l0 a1 x60_55 a2_0 a2_1 a2_2 t502 t503 t513 t514 = some r) ∧ Aside0 (kq ≤ kj49) ∧ Aside0 (Kd.R k98 98 wc w.heap.size (fun k_ => some k_ ≠ ((.slice Ao44 t514.length co44) : Value).ownBlock) (.slice Ao32 t503.length co32) t503) ∧ Aside0 (Kd.R k98 98 wc w.heap.size (fun k_ => some k_ ≠ ((.slice Ao32 t503.length co32) : Value).ownBlock) (.slice Ao44 t514.length co44) t514) ∧ Aside0 (wc.heap[gb493]? = some (.cells #[.int .i64 a2_0, .int .i64 a2_1, .string a2_2] 47 (0, 0))) ∧ Aside0 (wc.heap[gb506]? = some (.cells #[.int .i64 t502, (.slice Ao32 t503.length co32)] 52 (0, 0))) ∧ Aside0 (wc.heap[gb517]? = some (.cells #[.int .i64 t513, (.slice Ao44 t514.length co44)] 52 (0, 0))) ∧ Aside0 (Below w.heap.size w wc))
            case first =>
             have H := HC56.out
             clear HC56
             by_cases c58 : t523 < 0
             ·rw [if_pos c58] at H
              have c58b0 : decide (t523 < 0) = true := decide_eq_true c58
              clear c58
              (first | rw [c58b0] | (simp only [i64_w, i32_w]; rw [c58b0]) | skip)
              have H' := ak H
              clear H
              go_wp2
              go_meet
              case rel => exact ⟨_, (true), (by first | rfl | (simp; done) | (simp [*]; done) | (simp [ne_nil_b, eq_nil_b]; done)), H', ⟨by have := HJ3.out; have := HJ7.out; have := HJ11.out; have := HJ22.out; have := HJ49.out; first | omega | exact Nat.le_refl _⟩, ⟨by (with_reducible repeat (first | apply Kd.R_alloc | apply Kd.R_drewN | apply Kd.R_drew)); exact Kd.R_mono HO_507001.out (fun _ hk => hk.2)⟩, ⟨by (with_reducible repeat (first | apply Kd.R_alloc | apply Kd.R_drewN | apply Kd.R_drew)); exact Kd.R_mono HO_518001.out (fun _ hk => hk.2)⟩, ⟨by (with_reducible repeat (first | refine blk_drewN ?_ _ | refine blk_drew ?_ | refine blk_alloc ?_ _)); exact BK493.out⟩, ⟨by (with_reducible repeat (first | refine blk_drewN ?_ _ | refine blk_drew ?_ | refine blk_alloc ?_ _)); exact BK506.out⟩, ⟨by (with_reducible repeat (first | refine blk_drewN ?_ _ | refine blk_drew ?_ | refine blk_alloc ?_ _)); exact BK517.out⟩, ⟨by repeat (first | (with_reducible first | exact HB.out | apply below_alloc | apply pw_below_drewN | apply below_drew1 | refine below_set ?_ GE493.out | refine below_set ?_ GE506.out | refine below_set ?_ GE517.out) | exact HB.out)⟩⟩
             ·rw [if_neg c58] at H
              have c58b0 : decide (t523 < 0) = false := decide_eq_false c58
              clear c58
              (first | rw [c58b0] | (simp only [i64_w, i32_w]; rw [c58b0]) | skip)
              replace H := Option.bind_eq_some_iff.mp H
              obtain ⟨t525, A590, H⟩ := H
              replace H : (laws_FnExactSetGlobal.j5 kj49 l0 a1 (!t525) a2_0 a2_1 a2_2 t502 t503 t513 t514) = some r := H
              have A59 := ak A590
              clear A590
              have H' := ak H
              clear H
              have hnb60 := NB517_493.out
              have hnc60 := NB493_517.out
              have hnb61 := NB517_506.out
              have hnc61 := NB506_517.out
              have hcz62_0 : w57.cell? ⟨gb517, 0, none⟩ = some (.int .i64 t513) := (blk_cell BK517.out 0).trans rfl
              have hcz62_1 : w57.cell? ⟨gb517, 1, none⟩ = some (.slice Ao44 t514.length co44) := (blk_cell BK517.out 1).trans rfl
              have hfz62_0 := blk_frozen BK517.out 0
              have hfz62_1 := blk_frozen BK517.out 1
              have hnb63 := NB506_493.out
              have hnc63 := NB493_506.out
              have hcz64_0 : w57.cell? ⟨gb506, 0, none⟩ = some (.int .i64 t502) := (blk_cell BK506.out 0).trans rfl
              have hcz64_1 : w57.cell? ⟨gb506, 1, none⟩ = some (.slice Ao32 t503.length co32) := (blk_cell BK506.out 1).trans rfl
              have hfz64_0 := blk_frozen BK506.out 0
              have hfz64_1 := blk_frozen BK506.out 1
              go_wp2_with (first | (go_at_call 31; (with_reducible refine (laws_eqGlobalsResult.calls kj49 t513 _ _ t514 t502 _ _ t503 t525 _ ?side1 ?side2 ?side3 ?side4 A59.out).mono ?_); (case side1 => repeat (first | exact (Kd.R_reads' HO_518001.out).2.2 | (with_reducible refine Kd.C_alloc ?_ _) | (with_reducible refine Kd.C_drewN ?_ _) | (with_reducible refine Kd.C_drew ?_))); (case side2 => exact (Kd.R_reads' HO_518001.out).2.1); (case side3 => repeat (first | exact (Kd.R_reads' HO_507001.out).2.2 | (with_reducible refine Kd.C_alloc ?_ _) | (with_reducible refine Kd.C_drewN ?_ _) | (with_reducible refine Kd.C_drew ?_))); (case side4 => exact (Kd.R_reads' HO_507001.out).2.1); rintro e w65 ⟨rfl, hb⟩; have n0_ := ak (Kd.R_below (by (with_reducible repeat (first | apply Kd.R_alloc | apply Kd.R_drewN | apply Kd.R_drew)); exact HO_9.out) hb); have n1_ := ak (Kd.R_below d14_9 hb); have n2_ := ak (Kd.R_below d14_10 hb); have n3_ := ak (blk_below (g := gb493) (o := .cells #[.int .i64 a2_0, .int .i64 a2_1, .string a2_2] 47 (0, 0)) d14_1 hb); have n4_ := ak (blk_below (g := gb506) (o := .cells #[.int .i64 t502, .slice Ao32 t503.length co32] 52 (0, 0)) d14_2 hb); have n5_ := ak (blk_below (g := gb517) (o := .cells #[.int .i64 t513, .slice Ao44 t514.length co44] 52 (0, 0)) d14_7 hb); have n6_ := ak (below_step d14_3 hb); clear HO_9 HO_507001 HO_518001 BK493 BK506 BK517 HB; have HO_9 := n0_; have HO_507001 := n1_; have HO_518001 := n2_; have BK493 := n3_; have BK506 := n4_; have BK517 := n5_; have HB := n6_; clear n0_ n1_ n2_ n3_ n4_ n5_ n6_; (try clear hb)))
              go_meet
              case rel => exact ⟨_, (!t525), (by first | rfl | (simp; done) | (simp [*]; done) | (simp [ne_nil_b, eq_nil_b]; done)), H', ⟨by have := HJ3.out; have := HJ7.out; have := HJ11.out; have := HJ22.out; have := HJ49.out; first | omega | exact Nat.le_refl _⟩, ⟨by (with_reducible repeat (first | apply Kd.R_alloc | apply Kd.R_drewN | apply Kd.R_drew)); exact Kd.R_mono HO_507001.out (fun _ hk => hk.2)⟩, ⟨by (with_reducible repeat (first | apply Kd.R_alloc | apply Kd.R_drewN | apply Kd.R_drew)); exact Kd.R_mono HO_518001.out (fun _ hk => hk.2)⟩, ⟨by (with_reducible repeat (first | refine blk_drewN ?_ _ | refine blk_drew ?_ | refine blk_alloc ?_ _)); exact BK493.out⟩, ⟨by (with_reducible repeat (first | refine blk_drewN ?_ _ | refine blk_drew ?_ | refine blk_alloc ?_ _)); exact BK506.out⟩, ⟨by (with_reducible repeat (first | refine blk_drewN ?_ _ | refine blk_drew ?_ | refine blk_alloc ?_ _)); exact BK517.out⟩, ⟨by repeat (first | (with_reducible first | exact HB.out | apply below_alloc | apply pw_below_drewN | apply below_drew1 | refine below_set ?_ GE493.out | refine below_set ?_ GE506.out | refine below_set ?_ GE517.out) | exact HB.out)⟩⟩
            case rest =>
             clear HC56
             try clear c1
             try clear c2
             try clear p2
             try clear c3
             try clear c4
             try clear c5
             try clear c6
             try clear c6b0
             try clear c6b1
             try clear c8
             try clear c10
             try clear c10b0
             try clear c15
             try clear c15b0
             try clear c26
             try clear c28
             try clear c29
             try clear c31
             try clear c32
             try clear c33
             try clear c35
             try clear c36
             try clear c37
             try clear c41
             try clear c42
             try clear c47
             try clear c54
             try clear hcz13_0
             try clear hcz13_1
             try clear hcz13_2
             try clear hcz36_0
             try clear hcz36_1
             try clear hcz36_2
             try clear hcz43_0
             try clear hcz43_1
             try clear hcz45_0
             try clear hcz45_1
             try clear hfz13_0
             try clear hfz13_1
             try clear hfz13_2
             try clear hfz36_0
             try clear hfz36_1
             try clear hfz36_2
             try clear hfz43_0
             try clear hfz43_1
             try clear hfz45_0
             try clear hfz45_1
             try clear p2
             obtain ⟨kq, x60_55, rfl, HA, HJ55, HO_507001, HO_518001, BK493, BK506, BK517, HB⟩ := hcut
             cases kq with
             | zero => exact absurd HA.out (by simp [laws_FnExactSetGlobal.j5])
             | succ kj55 =>
              have H := HA.out
              clear HA
              simp only [laws_FnExactSetGlobal.j5] at H
              have HC66 := ak H
              clear H
              go_upto_if 60 with (fail)
              go_cut [] (fun wc => ∃ (kq : Nat), Aside0 (laws_FnExactSetGlobal.j6 kq l0 a1 a2_0 a2_1 a2_2 t502 t503 t513 t514 = some r) ∧ Aside0 (kq ≤ kj55) ∧ Aside0 (Kd.R k98 98 wc w.heap.size (fun k_ => some k_ ≠ ((.slice Ao44 t514.length co44) : Value).ownBlock) (.slice Ao32 t503.length co32) t503) ∧ Aside0 (Kd.R k98 98 wc w.heap.size (fun k_ => some k_ ≠ ((.slice Ao32 t503.length co32) : Value).ownBlock) (.slice Ao44 t514.length co44) t514) ∧ Aside0 (wc.heap[gb493]? = some (.cells #[.int .i64 a2_0, .int .i64 a2_1, .string a2_2] 47 (0, 0))) ∧ Aside0 (wc.heap[gb506]? = some (.cells #[.int .i64 t502, (.slice Ao32 t503.length co32)] 52 (0, 0))) ∧ Aside0 (wc.heap[gb517]? = some (.cells #[.int .i64 t513, (.slice Ao44 t514.length co44)] 52 (0, 0))) ∧ Aside0 (Below w.heap.size w wc))
              case first =>
               have H := HC66.out
               clear HC66
               by_cases c67 : x60_55 = true
               ·subst c67
                have H1 : (some false) = some r := by rw [if_pos rfl] at H; exact H
                clear H
                have H := H1
                clear H1
                obtain rfl := Option.some.inj H
                go_wp2
                go_ret
                exact ⟨by first | rfl | (simp [errW_none, errW_some] <;> rfl) | (simp [*, errW_none, errW_some] <;> rfl), by repeat (first | (with_reducible first | exact HB.out | apply below_alloc | apply pw_below_drewN | apply below_drew1 | refine below_set ?_ GE493.out | refine below_set ?_ GE506.out | refine below_set ?_ GE517.out) | exact HB.out)⟩
               ·replace c67 := Bool.eq_false_iff.mpr c67
                subst c67
                have H1 : (laws_FnExactSetGlobal.j6 kj55 l0 a1 a2_0 a2_1 a2_2 t502 t503 t513 t514) = some r := by rw [if_neg (show ¬ (false = true) by decide)] at H; exact H
                clear H
                have H := H1
                clear H1
                have H' := ak H
                clear H
                go_wp2
                go_meet
                case rel => exact ⟨_, H', ⟨by have := HJ3.out; have := HJ7.out; have := HJ11.out; have := HJ22.out; have := HJ49.out; have := HJ55.out; first | omega | exact Nat.le_refl _⟩, ⟨by (with_reducible repeat (first | apply Kd.R_alloc | apply Kd.R_drewN | apply Kd.R_drew)); exact HO_507001.out⟩, ⟨by (with_reducible repeat (first | apply Kd.R_alloc | apply Kd.R_drewN | apply Kd.R_drew)); exact HO_518001.out⟩, ⟨by (with_reducible repeat (first | refine blk_drewN ?_ _ | refine blk_drew ?_ | refine blk_alloc ?_ _)); exact BK493.out⟩, ⟨by (with_reducible repeat (first | refine blk_drewN ?_ _ | refine blk_drew ?_ | refine blk_alloc ?_ _)); exact BK506.out⟩, ⟨by (with_reducible repeat (first | refine blk_drewN ?_ _ | refine blk_drew ?_ | refine blk_alloc ?_ _)); exact BK517.out⟩, ⟨by repeat (first | (with_reducible first | exact HB.out | apply below_alloc | apply pw_below_drewN | apply below_drew1 | refine below_set ?_ GE493.out | refine below_set ?_ GE506.out | refine below_set ?_ GE517.out) | exact HB.out)⟩⟩
              case rest =>
               clear HC66
               try clear c1
               try clear c2
               try clear p2
               try clear c3
               try clear c4
               try clear c5
               try clear c6
               try clear c6b0
               try clear c6b1
               try clear c8
               try clear c10
               try clear c10b0
               try clear c15
               try clear c15b0
               try clear c26
               try clear c28
               try clear c29
               try clear c31
               try clear c32
               try clear c33
               try clear c35
               try clear c36
               try clear c37
               try clear c41
               try clear c42
               try clear c47
               try clear c54
               try clear c58
               try clear c58b0
               try clear c60
               try clear c61
               try clear c63
               try clear hcz13_0
               try clear hcz13_1
               try clear hcz13_2
               try clear hcz36_0
               try clear hcz36_1
               try clear hcz36_2
               try clear hcz43_0
               try clear hcz43_1
               try clear hcz45_0
               try clear hcz45_1
               try clear hcz62_0
               try clear hcz62_1
               try clear hcz64_0
               try clear hcz64_1
               try clear hfz13_0
               try clear hfz13_1
               try clear hfz13_2
               try clear hfz36_0
               try clear hfz36_1
               try clear hfz36_2
               try clear hfz43_0
               try clear hfz43_1
               try clear hfz45_0
               try clear hfz45_1
               try clear hfz62_0
               try clear hfz62_1
               try clear hfz64_0
               try clear hfz64_1
               try clear p2
               obtain ⟨kq, HA, HJ65, HO_507001, HO_518001, BK493, BK506, BK517, HB⟩ := hcut
               cases kq with
               | zero => exact absurd HA.out (by simp [laws_FnExactSetGlobal.j6])
               | succ kj65 =>
                have H := HA.out
                clear HA
                simp only [laws_FnExactSetGlobal.j6] at H
                replace H := Option.bind_eq_some_iff.mp H
                obtain ⟨⟨t526, t527⟩, A680, H⟩ := H
                replace H : ((laws_heldGlobalsResult.f kj65 t513 t527 1).bind fun t528 => (if t528 < 0 then (some false) else (laws_FnExactSetGlobal.j7 kj65 l0 a1 t526 t528 a2_0 a2_1 a2_2 t502 t503 t513 t527))) = some r := H
                have A68 := ak A680
                clear A680
                replace H := Option.bind_eq_some_iff.mp H
                obtain ⟨t528, A690, H⟩ := H
                replace H : (if t528 < 0 then (some false) else (laws_FnExactSetGlobal.j7 kj65 l0 a1 t526 t528 a2_0 a2_1 a2_2 t502 t503 t513 t527)) = some r := H
                have A69 := ak A690
                clear A690
                have HC70 := ak H
                clear H
                have hnb71 := NB517_493.out
                have hnc71 := NB493_517.out
                have hnb72 := NB517_506.out
                have hnc72 := NB506_517.out
                have hcz73_0 : wc.cell? ⟨gb517, 0, none⟩ = some (.int .i64 t513) := (blk_cell BK517.out 0).trans rfl
                have hcz73_1 : wc.cell? ⟨gb517, 1, none⟩ = some (.slice Ao44 t514.length co44) := (blk_cell BK517.out 1).trans rfl
                have hfz73_0 := blk_frozen BK517.out 0
                have hfz73_1 := blk_frozen BK517.out 1
                go_upto_if 68 with (first | ((with_reducible refine gate_callee (f := 34) rfl ?_); refine goesL_ (some 63) rfl rfl Tryd.func34 (by kernel_rfl) rfl #[.agg #[.int .i64 t513, .slice Ao44 t514.length co44], .int .i64 1] rfl d14_6 ?_; (with_reducible refine (laws_markGlobalsResult.calls kj65 t513 (fun k_ => some k_ = (.slice Ao44 t514.length co44 : Value).ownBlock) (.slice Ao44 t514.length co44) t514 1 t526 t527 w _ ?side1 ?side2 A68.out).mono ?_); (case side1 => repeat (first | (with_reducible first | exact HB.out | apply below_alloc | apply pw_below_drewN | apply below_drew1 | refine below_set ?_ GE493.out | refine below_set ?_ GE506.out | refine below_set ?_ GE517.out) | exact HB.out)); (case side2 => exact Kd.R_tight rfl HO_518001.out); rintro e w74 ⟨rfl, hy0, hb, hkp⟩; refine ⟨_, rfl, ?_⟩; have n0_ := ak (Kd.R_mono (ok' := fun k_ => some k_ ≠ (.slice Ao44 t514.length co44 : Value).ownBlock) (Kd.R_keptB (HO_507001.out) hkp (fun k_ hk_ hs_ => (hk_) hs_)) (fun k_ hk_ => hk_.1)); have n1_ := ak (Kd.R_reok rfl hy0 (fun k_ e_ => HO_518001.out.1 k_ e_)); have n2_ := ak (blk_kept d14_1 hkp (fun hs_ => (fun e_ => (Kd.R_ne HO_518001.out BK493.out (by decide)) e_) hs_)); have n3_ := ak (blk_kept d14_2 hkp (fun hs_ => (fun e_ => (Kd.R_ne HO_518001.out BK506.out (by decide)) e_) hs_)); have n4_ := ak (blk_kept d14_7 hkp (fun hs_ => (fun e_ => (Kd.R_ne HO_518001.out BK517.out (by decide)) e_) hs_)); have n5_ := ak (hb); clear HO_507001 HO_518001 BK493 BK506 BK517 HB; have HO_507001 := n0_; have HO_518001 := n1_; have BK493 := n2_; have BK506 := n3_; have BK517 := n4_; have HB := n5_; clear n0_ n1_ n2_ n3_ n4_ n5_; (try clear hb); (try clear hkp); (try clear hy0); have hcz75_0 : w74.cell? ⟨gb517, 0, none⟩ = some (.int .i64 t513) := (blk_cell BK517.out 0).trans rfl; have hcz75_1 : w74.cell? ⟨gb517, 1, none⟩ = some (.slice Ao44 t514.length co44) := (blk_cell BK517.out 1).trans rfl; have hfz75_0 := blk_frozen BK517.out 0; have hfz75_1 := blk_frozen BK517.out 1) | ((with_reducible refine gate_callee (f := 35) rfl ?_); refine goesL_ (some 66) rfl rfl Tryd.func35 (by kernel_rfl) rfl #[.agg #[.int .i64 t513, .slice Ao44 t527.length co44], .int .i64 1] rfl (by (try simp only [List.map_toArray, List.map_cons, List.map_nil]); first | done | (rw [show t527.length = t514.length from (Kd.R_reads' HO_518001.out).1.symm] <;> rfl) | rfl | (simp only [List.length_drop, List.length_take]; rfl)) ?_; (with_reducible refine (laws_heldGlobalsResult.calls kj65 t513 _ _ t527 1 t528 _ ?side1 ?side2 A69.out).mono ?_); (case side1 => repeat (first | exact (Kd.R_reads' HO_518001.out).2.2 | (with_reducible refine Kd.C_alloc ?_ _) | (with_reducible refine Kd.C_drewN ?_ _) | (with_reducible refine Kd.C_drew ?_))); (case side2 => rw [show t527.length = t514.length from (Kd.R_reads' HO_518001.out).1.symm]; exact (Kd.R_reads' HO_518001.out).2.1); rintro e w76 ⟨rfl, hb⟩; refine ⟨_, rfl, ?_⟩; have n0_ := ak (Kd.R_below d14_9 hb); have n1_ := ak (Kd.R_below d14_10 hb); have n2_ := ak (blk_below (g := gb493) (o := .cells #[.int .i64 a2_0, .int .i64 a2_1, .string a2_2] 47 (0, 0)) d14_1 hb); have n3_ := ak (blk_below (g := gb506) (o := .cells #[.int .i64 t502, .slice Ao32 t503.length co32] 52 (0, 0)) d14_2 hb); have n4_ := ak (blk_below (g := gb517) (o := .cells #[.int .i64 t513, .slice Ao44 t514.length co44] 52 (0, 0)) d14_7 hb); have n5_ := ak (below_step d14_3 hb); clear HO_507001 HO_518001 BK493 BK506 BK517 HB; have HO_507001 := n0_; have HO_518001 := n1_; have BK493 := n2_; have BK506 := n3_; have BK517 := n4_; have HB := n5_; clear n0_ n1_ n2_ n3_ n4_ n5_; (try clear hb)))
                (try simp only [Act.put, List.setIfInBounds_toArray, List.set_cons_zero, List.set_cons_succ])
                go_cut [] (fun wc => ∃ (kq : Nat), Aside0 (laws_FnExactSetGlobal.j7 kq l0 a1 t526 t528 a2_0 a2_1 a2_2 t502 t503 t513 t527 = some r) ∧ Aside0 (kq ≤ kj65) ∧ Aside0 (Kd.R k98 98 wc w.heap.size (fun k_ => some k_ ≠ ((.slice Ao44 t514.length co44) : Value).ownBlock) (.slice Ao32 t503.length co32) t503) ∧ Aside0 (Kd.R k98 98 wc w.heap.size (fun k_ => some k_ ≠ ((.slice Ao32 t503.length co32) : Value).ownBlock) (.slice Ao44 t514.length co44) t527) ∧ Aside0 (wc.heap[gb493]? = some (.cells #[.int .i64 a2_0, .int .i64 a2_1, .string a2_2] 47 (0, 0))) ∧ Aside0 (wc.heap[gb506]? = some (.cells #[.int .i64 t502, (.slice Ao32 t503.length co32)] 52 (0, 0))) ∧ Aside0 (wc.heap[gb517]? = some (.cells #[.int .i64 t513, (.slice Ao44 t514.length co44)] 52 (0, 0))) ∧ Aside0 (Below w.heap.size w wc))
                case first =>
                 have H := HC70.out
                 clear HC70
                 by_cases c77 : t528 < 0
                 ·rw [if_pos c77] at H
                  have c77b0 : decide (t528 < 0) = true := decide_eq_true c77
                  clear c77
                  (first | rw [c77b0] | (simp only [i64_w, i32_w]; rw [c77b0]) | skip)
                  obtain rfl := Option.some.inj H
                  go_wp2
                  go_ret
                  exact ⟨by first | rfl | (simp [errW_none, errW_some] <;> rfl) | (simp [*, errW_none, errW_some] <;> rfl), by repeat (first | (with_reducible first | exact HB.out | apply below_alloc | apply pw_below_drewN | apply below_drew1 | refine below_set ?_ GE493.out | refine below_set ?_ GE506.out | refine below_set ?_ GE517.out) | exact HB.out)⟩
                 ·rw [if_neg c77] at H
                  have c77b0 : decide (t528 < 0) = false := decide_eq_false c77
                  clear c77
                  (first | rw [c77b0] | (simp only [i64_w, i32_w]; rw [c77b0]) | skip)
                  have H' := ak H
                  clear H
                  go_wp2
                  go_meet
                  case rel => exact ⟨_, H', ⟨by have := HJ3.out; have := HJ7.out; have := HJ11.out; have := HJ22.out; have := HJ49.out; have := HJ55.out; have := HJ65.out; first | omega | exact Nat.le_refl _⟩, ⟨by (with_reducible repeat (first | apply Kd.R_alloc | apply Kd.R_drewN | apply Kd.R_drew)); exact HO_507001.out⟩, ⟨by (with_reducible repeat (first | apply Kd.R_alloc | apply Kd.R_drewN | apply Kd.R_drew)); exact HO_518001.out⟩, ⟨by (with_reducible repeat (first | refine blk_drewN ?_ _ | refine blk_drew ?_ | refine blk_alloc ?_ _)); exact BK493.out⟩, ⟨by (with_reducible repeat (first | refine blk_drewN ?_ _ | refine blk_drew ?_ | refine blk_alloc ?_ _)); exact BK506.out⟩, ⟨by (with_reducible repeat (first | refine blk_drewN ?_ _ | refine blk_drew ?_ | refine blk_alloc ?_ _)); exact BK517.out⟩, ⟨by repeat (first | (with_reducible first | exact HB.out | apply below_alloc | apply pw_below_drewN | apply below_drew1 | refine below_set ?_ GE493.out | refine below_set ?_ GE506.out | refine below_set ?_ GE517.out) | exact HB.out)⟩⟩
                case rest =>
                 clear HC70
                 try clear c1
                 try clear c2
                 try clear p2
                 try clear c3
                 try clear c4
                 try clear c5
                 try clear c6
                 try clear c6b0
                 try clear c6b1
                 try clear c7
                 try clear c8
                 try clear c10
                 try clear c10b0
                 try clear c15
                 try clear c15b0
                 try clear c26
                 try clear c28
                 try clear c29
                 try clear c31
                 try clear c32
                 try clear c33
                 try clear c34
                 try clear c35
                 try clear c36
                 try clear c37
                 try clear c41
                 try clear c42
                 try clear c47
                 try clear c54
                 try clear c58
                 try clear c58b0
                 try clear c60
                 try clear c61
                 try clear c63
                 try clear c67
                 try clear c71
                 try clear c72
                 try clear hcz13_0
                 try clear hcz13_1
                 try clear hcz13_2
                 try clear hcz36_0
                 try clear hcz36_1
                 try clear hcz36_2
                 try clear hcz43_0
                 try clear hcz43_1
                 try clear hcz45_0
                 try clear hcz45_1
                 try clear hcz62_0
                 try clear hcz62_1
                 try clear hcz64_0
                 try clear hcz64_1
                 try clear hcz73_0
                 try clear hcz73_1
                 try clear hcz75_0
                 try clear hcz75_1
                 try clear hfz13_0
                 try clear hfz13_1
                 try clear hfz13_2
                 try clear hfz36_0
                 try clear hfz36_1
                 try clear hfz36_2
                 try clear hfz43_0
                 try clear hfz43_1
                 try clear hfz45_0
                 try clear hfz45_1
                 try clear hfz62_0
                 try clear hfz62_1
                 try clear hfz64_0
                 try clear hfz64_1
                 try clear hfz73_0
                 try clear hfz73_1
                 try clear hfz75_0
                 try clear hfz75_1
                 try clear p2
                 obtain ⟨kq, HA, HJ69, HO_507001, HO_518001, BK493, BK506, BK517, HB⟩ := hcut
                 have hl518001_69 := (Kd.R_reads' HO_518001.out).1
                 rw [hl518001_69] at HO_518001
                 (try simp only [hl518001_69])
                 (try simp only [hl518001_69] at BK493)
                 (try simp only [hl518001_69] at BK506)
                 (try simp only [hl518001_69] at BK517)
                 (try simp only [hl518001_69] at HO_507001)
                 cases kq with
                 | zero => exact absurd HA.out (by simp [laws_FnExactSetGlobal.j7])
                 | succ kj69 =>
                  have H := HA.out
                  clear HA
                  simp only [laws_FnExactSetGlobal.j7] at H
                  have HC78 := ak H
                  clear H
                  go_upto_if 71 with (fail)
                  go_cut [] (fun wc => ∃ (kq : Nat), Aside0 (laws_FnExactSetGlobal.j8 kq l0 a1 t526 a2_0 a2_1 a2_2 t502 t503 t513 t527 = some r) ∧ Aside0 (kq ≤ kj69) ∧ Aside0 (Kd.R k98 98 wc w.heap.size (fun k_ => some k_ ≠ ((.slice Ao44 t527.length co44) : Value).ownBlock) (.slice Ao32 t503.length co32) t503) ∧ Aside0 (Kd.R k98 98 wc w.heap.size (fun k_ => some k_ ≠ ((.slice Ao32 t503.length co32) : Value).ownBlock) (.slice Ao44 t527.length co44) t527) ∧ Aside0 (wc.heap[gb493]? = some (.cells #[.int .i64 a2_0, .int .i64 a2_1, .string a2_2] 47 (0, 0))) ∧ Aside0 (wc.heap[gb506]? = some (.cells #[.int .i64 t502, (.slice Ao32 t503.length co32)] 52 (0, 0))) ∧ Aside0 (wc.heap[gb517]? = some (.cells #[.int .i64 t513, (.slice Ao44 t527.length co44)] 52 (0, 0))) ∧ Aside0 (Below w.heap.size w wc))
                  case first =>
                   have H := HC78.out
                   clear HC78
                   by_cases c79 : t528 = t526
                   ·rw [if_pos c79] at H
                    have c79b0 : (t528 == t526) = true := beq_iff_eq.mpr c79
                    have c79b1 : (t528 != t526) = false := bne_eq_false_iff_eq.mpr c79
                    clear c79
                    (first | rw [c79b0] | (simp only [i64_w, i32_w]; rw [c79b0]) | skip)
                    have H' := ak H
                    clear H
                    go_wp2
                    go_meet
                    case rel => exact ⟨_, H', ⟨by have := HJ3.out; have := HJ7.out; have := HJ11.out; have := HJ22.out; have := HJ49.out; have := HJ55.out; have := HJ65.out; have := HJ69.out; first | omega | exact Nat.le_refl _⟩, ⟨by (try simp only [hl518001_69]); (with_reducible repeat (first | apply Kd.R_alloc | apply Kd.R_drewN | apply Kd.R_drew)); exact HO_507001.out⟩, ⟨by (try simp only [hl518001_69]); (with_reducible repeat (first | apply Kd.R_alloc | apply Kd.R_drewN | apply Kd.R_drew)); exact HO_518001.out⟩, ⟨by (try simp only [hl518001_69]); (with_reducible repeat (first | refine blk_drewN ?_ _ | refine blk_drew ?_ | refine blk_alloc ?_ _)); exact BK493.out⟩, ⟨by (try simp only [hl518001_69]); (with_reducible repeat (first | refine blk_drewN ?_ _ | refine blk_drew ?_ | refine blk_alloc ?_ _)); exact BK506.out⟩, ⟨by (try simp only [hl518001_69]); (with_reducible repeat (first | refine blk_drewN ?_ _ | refine blk_drew ?_ | refine blk_alloc ?_ _)); exact BK517.out⟩, ⟨by repeat (first | (with_reducible first | exact HB.out | apply below_alloc | apply pw_below_drewN | apply below_drew1 | refine below_set ?_ GE493.out | refine below_set ?_ GE506.out | refine below_set ?_ GE517.out) | exact HB.out)⟩⟩
                   ·rw [if_neg c79] at H
                    have c79b0 : (t528 == t526) = false := beq_eq_false_iff_ne.mpr c79
                    have c79b1 : (t528 != t526) = true := bne_iff_ne.mpr c79
                    (first | rw [c79b0] | (simp only [i64_w, i32_w]; rw [c79b0]) | skip)
                    obtain rfl := Option.some.inj H
                    go_wp2
                    go_ret
                    exact ⟨by first | rfl | (simp [errW_none, errW_some] <;> rfl) | (simp [*, errW_none, errW_some] <;> rfl), by repeat (first | (with_reducible first | exact HB.out | apply below_alloc | apply pw_below_drewN | apply below_drew1 | refine below_set ?_ GE493.out | refine below_set ?_ GE506.out | refine below_set ?_ GE517.out) | exact HB.out)⟩
                  case rest =>
                   clear HC78
                   try clear c1
                   try clear c2
                   try clear p2
                   try clear c3
                   try clear c4
                   try clear c5
                   try clear c6
                   try clear c6b0
                   try clear c6b1
                   try clear c7
                   try clear c8
                   try clear c10
                   try clear c10b0
                   try clear c15
                   try clear c15b0
                   try clear c26
                   try clear c28
                   try clear c29
                   try clear c31
                   try clear c32
                   try clear c33
                   try clear c34
                   try clear c35
                   try clear c36
                   try clear c37
                   try clear c41
                   try clear c42
                   try clear c47
                   try clear c54
                   try clear c58
                   try clear c58b0
                   try clear c60
                   try clear c61
                   try clear c63
                   try clear c67
                   try clear c71
                   try clear c72
                   try clear c77
                   try clear c77b0
                   try clear hcz13_0
                   try clear hcz13_1
                   try clear hcz13_2
                   try clear hcz36_0
                   try clear hcz36_1
                   try clear hcz36_2
                   try clear hcz43_0
                   try clear hcz43_1
                   try clear hcz45_0
                   try clear hcz45_1
                   try clear hcz62_0
                   try clear hcz62_1
                   try clear hcz64_0
                   try clear hcz64_1
                   try clear hcz73_0
                   try clear hcz73_1
                   try clear hcz75_0
                   try clear hcz75_1
                   try clear hfz13_0
                   try clear hfz13_1
                   try clear hfz13_2
                   try clear hfz36_0
                   try clear hfz36_1
                   try clear hfz36_2
                   try clear hfz43_0
                   try clear hfz43_1
                   try clear hfz45_0
                   try clear hfz45_1
                   try clear hfz62_0
                   try clear hfz62_1
                   try clear hfz64_0
                   try clear hfz64_1
                   try clear hfz73_0
                   try clear hfz73_1
                   try clear hfz75_0
                   try clear hfz75_1
                   try clear p2
                   obtain ⟨kq, HA, HJ77, HO_507001, HO_518001, BK493, BK506, BK517, HB⟩ := hcut
                   cases kq with
                   | zero => exact absurd HA.out (by simp [laws_FnExactSetGlobal.j8])
                   | succ kj77 =>
                    have H := HA.out
                    clear HA
                    simp only [laws_FnExactSetGlobal.j8] at H
                    replace H := Option.bind_eq_some_iff.mp H
                    obtain ⟨t529, A800, H⟩ := H
                    replace H : ((laws_toValue.f a2_0 a2_1 a2_2).bind fun bt532 => ((impl_SetGlobal.f kj77 t529 a1 bt532.1 bt532.2.1 bt532.2.2).bind fun bt535 => ((laws_eqGlobalsResult.f kj77 bt535.1 bt535.2 t502 t503).bind fun t540 => (if t540 = true then (laws_FnExactSetGlobal.j9 kj77 t526 t513 t527) else (some false))))) = some r := H
                    have A80 := ak A800
                    clear A800
                    replace H := Option.bind_eq_some_iff.mp H
                    obtain ⟨⟨t532, t533, t534⟩, A810, H⟩ := H
                    replace H : ((impl_SetGlobal.f kj77 t529 a1 t532 t533 t534).bind fun bt535 => ((laws_eqGlobalsResult.f kj77 bt535.1 bt535.2 t502 t503).bind fun t540 => (if t540 = true then (laws_FnExactSetGlobal.j9 kj77 t526 t513 t527) else (some false)))) = some r := H
                    have A81 := ak A810
                    clear A810
                    replace H := Option.bind_eq_some_iff.mp H
                    obtain ⟨⟨t535, t536⟩, A820, H⟩ := H
                    replace H : ((laws_eqGlobalsResult.f kj77 t535 t536 t502 t503).bind fun t540 => (if t540 = true then (laws_FnExactSetGlobal.j9 kj77 t526 t513 t527) else (some false))) = some r := H
                    have A82 := ak A820
                    clear A820
                    replace H := Option.bind_eq_some_iff.mp H
                    obtain ⟨t540, A830, H⟩ := H
                    replace H : (if t540 = true then (laws_FnExactSetGlobal.j9 kj77 t526 t513 t527) else (some false)) = some r := H
                    have A83 := ak A830
                    clear A830
                    have HC84 := ak H
                    clear H
                    try go_wp2
                    have n0_ := ak (Kd.R_drew HO_507001.out)
                    have n1_ := ak (Kd.R_drew HO_518001.out)
                    have n2_ := ak (blk_drew BK493.out)
                    have n3_ := ak (blk_drew BK506.out)
                    have n4_ := ak (blk_drew BK517.out)
                    have n5_ := ak (below_drew1 HB.out)
                    clear HO_507001
                    clear HO_518001
                    clear BK493
                    clear BK506
                    clear BK517
                    clear HB
                    have HO_507001 := n0_
                    have HO_518001 := n1_
                    have BK493 := n2_
                    have BK506 := n3_
                    have BK517 := n4_
                    have HB := n5_
                    clear n0_ n1_ n2_ n3_ n4_ n5_
                    refine start_ (n := 8) (S := fun w' => w'.cell? ⟨gb493, 0, none⟩ = some (.int .i64 a2_0) ∧ w'.cell? ⟨gb493, 1, none⟩ = some (.int .i64 a2_1) ∧ w'.cell? ⟨gb493, 2, none⟩ = some (.string a2_2)) (ds := []) #[false, false, false, false, false, false, false, false] (by kernel_rfl) rfl rfl ⟨(blk_cell BK493.out 0).trans rfl, (blk_cell BK493.out 1).trans rfl, (blk_cell BK493.out 2).trans rfl⟩ (fun hHeld => ?_); refine with_tabW laws_FnExactSetGlobal.tab29 laws_FnExactSetGlobal.bits29 (fun HT_ HW_ => ?_)
                    generalize wc.drew = w85 at HO_507001 HO_518001 BK493 BK506 BK517 HB hHeld ⊢
                    refine pure_ (i := 0) (N := some 72) (v := ?_) (a' := ?_) #[true, false, false, false, false, false, false, false] rfl rfl (any_of HT_.out (by kernel_rfl)) (fun _ _ _ h => h) (Or.inl ⟨by rfl, ?_⟩) ?_ ?_
                    rotate_left
                    · intro w'
                      go_simp
                      with_reducible rfl
                    rotate_left
                    · simp only [Act.put, List.setIfInBounds_toArray, List.set_cons_zero, List.set_cons_succ, i64_w, i32_w]
                      rfl
                    refine pure_ (i := 2) (N := some 74) (v := ?_) (a' := ?_) #[true, false, true, false, false, false, false, false] rfl rfl (any_of HT_.out (by kernel_rfl)) (fun _ _ _ h => h) (Or.inl ⟨by rfl, ?_⟩) ?_ ?_
                    rotate_left
                    · intro w'
                      go_simp
                      with_reducible rfl
                    rotate_left
                    · simp only [Act.put, List.setIfInBounds_toArray, List.set_cons_zero, List.set_cons_succ, i64_w, i32_w]
                      rfl
                    refine take_ (i := 3) (N := some 75) (v := ?_) (a' := ?_) #[true, false, true, true, false, false, false, false] rfl rfl (take_ofW HT_.out HW_.out (by kernel_rfl)) (fun _ _ _ h => h) (Or.inl ⟨by rfl, ?_⟩) hHeld ?_ ?_
                    rotate_left
                    · rintro w' ⟨s0, s1, s2⟩
                      go_simp
                      with_reducible rfl
                    rotate_left
                    · simp only [Act.put, List.setIfInBounds_toArray, List.set_cons_zero, List.set_cons_succ, i64_w, i32_w]
                      rfl
                    refine join_ (σ := Value × Value × Nat) 1 #[true, true, true, true, true, true, true, false] (fun s_ => [(73, s_.1), (76, .agg #[.int .i64 t532, .int .i64 t533, .string t534]), (77, .agg #[.int .i64 t535, s_.2.1]), (14, .pointer (some ⟨s_.2.2, 0, none⟩))]) (fun s_ w' => (w'.cell? ⟨gb493, 0, none⟩ = some (.int .i64 a2_0) ∧ w'.cell? ⟨gb493, 1, none⟩ = some (.int .i64 a2_1) ∧ w'.cell? ⟨gb493, 2, none⟩ = some (.string a2_2)) ∧ (Kd.R k98 98 w' w.heap.size (fun k_ => some k_ ≠ (s_.2.1 : Value).ownBlock ∧ some k_ ≠ (.slice Ao32 t503.length co32 : Value).ownBlock ∧ some k_ ≠ (.slice Ao44 t527.length co44 : Value).ownBlock) s_.1 t529) ∧ (Kd.R k98 98 w' w.heap.size (fun k_ => some k_ ≠ (s_.1 : Value).ownBlock ∧ some k_ ≠ (.slice Ao32 t503.length co32 : Value).ownBlock ∧ some k_ ≠ (.slice Ao44 t527.length co44 : Value).ownBlock) s_.2.1 t536) ∧ (Kd.R k98 98 w' w.heap.size (fun k_ => some k_ ≠ (s_.1 : Value).ownBlock ∧ some k_ ≠ (s_.2.1 : Value).ownBlock ∧ some k_ ≠ (.slice Ao44 t527.length co44 : Value).ownBlock) (.slice Ao32 t503.length co32) t503) ∧ (Kd.R k98 98 w' w.heap.size (fun k_ => some k_ ≠ (s_.1 : Value).ownBlock ∧ some k_ ≠ (s_.2.1 : Value).ownBlock ∧ some k_ ≠ (.slice Ao32 t503.length co32 : Value).ownBlock) (.slice Ao44 t527.length co44) t527) ∧ (w'.heap[gb493]? = some (.cells #[.int .i64 a2_0, .int .i64 a2_1, .string a2_2] 47 (0, 0))) ∧ (w'.heap[gb506]? = some (.cells #[.int .i64 t502, .slice Ao32 t503.length co32] 52 (0, 0))) ∧ (w'.heap[gb517]? = some (.cells #[.int .i64 t513, .slice Ao44 t527.length co44] 52 (0, 0))) ∧ (w'.heap[s_.2.2]? = some (.cells #[.int .i64 0, .slice none 0 0] 52 (0, 0))) ∧ (w.heap.size ≤ s_.2.2) ∧ (w.heap.size ≤ s_.2.2) ∧ (gb493 ≠ s_.2.2) ∧ (s_.2.2 ≠ gb493) ∧ (gb506 ≠ s_.2.2) ∧ (s_.2.2 ≠ gb506) ∧ (gb517 ≠ s_.2.2) ∧ (s_.2.2 ≠ gb517) ∧ (Below w.heap.size w w')) ?_ ?_
                    rotate_left
                    · intro hCont
                      refine two_ (i := 1) (j := 6) (Ni := some 73) (Nj := some 14) #[true, true, true, true, false, false, false, false] #[true, false, true, true, false, false, true, false] rfl rfl rfl rfl (two_of HT_.out (by kernel_rfl)) (by decide) (by decide) (fun K hK => ?_) (fun K hK => ?_)
                      · skip
                        refine goes_ Tryd.func28 (by kernel_rfl) rfl #[.slice A0 l0.length c0] (by rfl) rfl rfl d14_6 ?_
                        with_reducible refine (laws_toGlobalS.calls kj77 _ _ l0 t529 _ ?side1 ?side2 A80.out).mono ?_
                        (case side1 => repeat (first | exact (Kd.C_below HR0.out HB.out) | (with_reducible refine Kd.C_alloc ?_ _) | (with_reducible refine Kd.C_drewN ?_ _) | (with_reducible refine Kd.C_drew ?_)))
                        (case side2 => exact HC0.out)
                        rintro e w86 ⟨v530, rfl, ho0, hb⟩
                        refine ⟨_, rfl, ?_⟩
                        have n0_ := ak (Kd.R_elder' d14_9 (Kd.R_base ho0) hb)
                        have n1_ := ak (Kd.R_elder' d14_10 (Kd.R_base ho0) hb)
                        have n2_ := ak (Kd.R_lower (Kd.R_new' (Kd.R_new' ho0 (Kd.R_lt d14_9)) (Kd.R_lt d14_10)) (below_size d14_3))
                        have n3_ := ak (blk_below (g := gb493) (o := .cells #[.int .i64 a2_0, .int .i64 a2_1, .string a2_2] 47 (0, 0)) d14_1 hb)
                        have n4_ := ak (blk_below (g := gb506) (o := .cells #[.int .i64 t502, .slice Ao32 t503.length co32] 52 (0, 0)) d14_2 hb)
                        have n5_ := ak (blk_below (g := gb517) (o := .cells #[.int .i64 t513, .slice Ao44 t527.length co44] 52 (0, 0)) d14_7 hb)
                        have n6_ := ak (below_step d14_3 hb)
                        clear HO_507001
                        clear HO_518001
                        clear BK493
                        clear BK506
                        clear BK517
                        clear HB
                        have HO_507001 := n0_
                        have HO_518001 := n1_
                        have HO531 := n2_
                        have BK493 := n3_
                        have BK506 := n4_
                        have BK517 := n5_
                        have HB := n6_
                        clear n0_ n1_ n2_ n3_ n4_ n5_ n6_
                        (try clear hb)
                        (try clear hb2)
                        (try clear hk)
                        (try clear hi)
                        (try clear ho0)
                        refine hK.out _ _ ⟨(blk_cell BK493.out 0).trans rfl, (blk_cell BK493.out 1).trans rfl, (blk_cell BK493.out 2).trans rfl⟩ (fun hHeld => ?_)
                        clear hK K
                        refine norm_ (a' := ?_) ?_ ?_
                        rotate_left
                        · show Act.put _ (some 73) _ = _
                          simp only [Act.put, List.setIfInBounds_toArray, List.set_cons_zero, List.set_cons_succ, i64_w, i32_w]
                          rfl
                        refine two_ (i := 4) (j := 6) (Ni := some 76) (Nj := some 14) #[true, true, true, true, true, false, false, false] #[true, true, true, true, false, false, true, false] rfl rfl rfl rfl (two_of HT_.out (by kernel_rfl)) (by decide) (by decide) (fun K hK => ?_) (fun K hK => ?_)
                        · skip
                          refine goes_ Tryd.func29 (by kernel_rfl) rfl #[.agg #[.int .i64 a2_0, .int .i64 a2_1, .string a2_2]] (by rfl) rfl rfl d14_6 ?_
                          with_reducible refine (laws_toValue.calls a2_0 a2_1 a2_2 t532 t533 t534 _ A81.out).mono ?_
                          rintro e w87 ⟨rfl, hb⟩
                          refine ⟨_, rfl, ?_⟩
                          have n0_ := ak (Kd.R_below d14_9 hb)
                          have n1_ := ak (Kd.R_below d14_10 hb)
                          have n2_ := ak (Kd.R_below d14_13 hb)
                          have n3_ := ak (blk_below (g := gb493) (o := .cells #[.int .i64 a2_0, .int .i64 a2_1, .string a2_2] 47 (0, 0)) d14_1 hb)
                          have n4_ := ak (blk_below (g := gb506) (o := .cells #[.int .i64 t502, .slice Ao32 t503.length co32] 52 (0, 0)) d14_2 hb)
                          have n5_ := ak (blk_below (g := gb517) (o := .cells #[.int .i64 t513, .slice Ao44 t527.length co44] 52 (0, 0)) d14_7 hb)
                          have n6_ := ak (below_step d14_3 hb)
                          clear HO_507001
                          clear HO_518001
                          clear HO531
                          clear BK493
                          clear BK506
                          clear BK517
                          clear HB
                          have HO_507001 := n0_
                          have HO_518001 := n1_
                          have HO531 := n2_
                          have BK493 := n3_
                          have BK506 := n4_
                          have BK517 := n5_
                          have HB := n6_
                          clear n0_ n1_ n2_ n3_ n4_ n5_ n6_
                          (try clear hb)
                          (try clear hb2)
                          (try clear hk)
                          (try clear hi)
                          obtain ⟨Ao88, co88, eo88⟩ := Kd.R_slice HO531.out
                          (first | subst eo88 | (injection eo88 with f1_ f2_ f3_; have f4_ := f1_.symm; have f5_ := f3_.symm; clear f1_ f2_ f3_; subst f4_; subst f5_))
                          refine hK.out _ _ ⟨(blk_cell BK493.out 0).trans rfl, (blk_cell BK493.out 1).trans rfl, (blk_cell BK493.out 2).trans rfl⟩ (fun hHeld => ?_)
                          clear hK K
                          refine norm_ (a' := ?_) ?_ ?_
                          rotate_left
                          · show Act.put _ (some 76) _ = _
                            simp only [Act.put, List.setIfInBounds_toArray, List.set_cons_zero, List.set_cons_succ, i64_w, i32_w]
                            rfl
                          refine two_ (i := 5) (j := 6) (Ni := some 77) (Nj := some 14) #[true, true, true, true, true, true, false, false] #[true, true, true, true, true, false, true, false] rfl rfl rfl rfl (two_of HT_.out (by kernel_rfl)) (by decide) (by decide) (fun K hK => ?_) (fun K hK => ?_)
                          · skip
                            refine goes_ Tryd.func37 (by kernel_rfl) rfl #[.slice Ao88 t529.length co88, .string a1, .agg #[.int .i64 t532, .int .i64 t533, .string t534]] (by rfl) rfl rfl d14_6 ?_
                            with_reducible refine (impl_SetGlobal.calls kj77 _ _ t529 a1 t532 t533 t534 t535 t536 _ ?side1 ?side2 A82.out).mono ?_
                            (case side1 => repeat (first | exact (Kd.R_reads' HO531.out).2.2 | (with_reducible refine Kd.C_alloc ?_ _) | (with_reducible refine Kd.C_drewN ?_ _) | (with_reducible refine Kd.C_drew ?_)))
                            (case side2 => exact (Kd.R_reads' HO531.out).2.1)
                            rintro e w89 ⟨v537, rfl, ho0, hb⟩
                            refine ⟨_, rfl, ?_⟩
                            have n0_ := ak (Kd.R_elder' d14_9 (Kd.R_base ho0) hb)
                            have n1_ := ak (Kd.R_elder' d14_10 (Kd.R_base ho0) hb)
                            have n2_ := ak (Kd.R_elder' d14_13 (Kd.R_base ho0) hb)
                            have n3_ := ak (Kd.R_lower (Kd.R_new' (Kd.R_new' (Kd.R_new' ho0 (Kd.R_lt d14_9)) (Kd.R_lt d14_10)) (Kd.R_lt d14_13)) (below_size d14_3))
                            have n4_ := ak (blk_below (g := gb493) (o := .cells #[.int .i64 a2_0, .int .i64 a2_1, .string a2_2] 47 (0, 0)) d14_1 hb)
                            have n5_ := ak (blk_below (g := gb506) (o := .cells #[.int .i64 t502, .slice Ao32 t503.length co32] 52 (0, 0)) d14_2 hb)
                            have n6_ := ak (blk_below (g := gb517) (o := .cells #[.int .i64 t513, .slice Ao44 t527.length co44] 52 (0, 0)) d14_7 hb)
                            have n7_ := ak (below_step d14_3 hb)
                            clear HO_507001
                            clear HO_518001
                            clear HO531
                            clear BK493
                            clear BK506
                            clear BK517
                            clear HB
                            have HO_507001 := n0_
                            have HO_518001 := n1_
                            have HO531 := n2_
                            have HO538 := n3_
                            have BK493 := n4_
                            have BK506 := n5_
                            have BK517 := n6_
                            have HB := n7_
                            clear n0_ n1_ n2_ n3_ n4_ n5_ n6_ n7_
                            (try clear hb)
                            (try clear hb2)
                            (try clear hk)
                            (try clear hi)
                            (try clear ho0)
                            refine hK.out _ _ ⟨(blk_cell BK493.out 0).trans rfl, (blk_cell BK493.out 1).trans rfl, (blk_cell BK493.out 2).trans rfl⟩ (fun hHeld => ?_)
                            clear hK K
                            refine norm_ (a' := ?_) ?_ ?_
                            rotate_left
                            · show Act.put _ (some 77) _ = _
                              simp only [Act.put, List.setIfInBounds_toArray, List.set_cons_zero, List.set_cons_succ, i64_w, i32_w]
                              rfl
                            refine one_ (i := 6) (N := some 14) #[true, true, true, true, true, true, true, false] rfl rfl (one_of HT_.out (by kernel_rfl)) (by decide) (fun K hK => ?_)
                            refine box_step ?hg (N := 14) ?hd (cs := #[.int .i64 0, .slice none 0 0]) (t := 52) ?hr ?_; (case hd => rfl); (case hg => rfl); (case hr => first | (go_simp; done) | (go_simp; rfl))
                            intro gb539 hg w90 hbox hb
                            have n0_ := ak (Kd.R_below d14_9 hb)
                            have n1_ := ak (Kd.R_below d14_10 hb)
                            have n2_ := ak (Kd.R_below d14_13 hb)
                            have n3_ := ak (Kd.R_below (by (with_reducible repeat (first | apply Kd.R_alloc | apply Kd.R_drewN | apply Kd.R_drew)); exact HO538.out) hb)
                            have n4_ := ak (blk_below (g := gb493) (o := .cells #[.int .i64 a2_0, .int .i64 a2_1, .string a2_2] 47 (0, 0)) d14_1 hb)
                            have n5_ := ak (blk_below (g := gb506) (o := .cells #[.int .i64 t502, .slice Ao32 t503.length co32] 52 (0, 0)) d14_2 hb)
                            have n6_ := ak (blk_below (g := gb517) (o := .cells #[.int .i64 t513, .slice Ao44 t527.length co44] 52 (0, 0)) d14_7 hb)
                            have n7_ := ak (below_step d14_3 hb)
                            have n8_ := ak (hbox)
                            have n9_ := ak ((by rw [hg]; exact (below_size d14_3) : w.heap.size ≤ gb539))
                            have n10_ := ak ((by rw [hg]; exact (below_size d14_3) : w.heap.size ≤ gb539))
                            have n11_ := ak ((by rw [hg]; exact Nat.ne_of_lt (blk_lt (g := gb493) (o := .cells #[.int .i64 a2_0, .int .i64 a2_1, .string a2_2] 47 (0, 0)) d14_1) : gb493 ≠ gb539))
                            have n12_ := ak ((by rw [hg]; exact Nat.ne_of_gt (blk_lt (g := gb493) (o := .cells #[.int .i64 a2_0, .int .i64 a2_1, .string a2_2] 47 (0, 0)) d14_1) : gb539 ≠ gb493))
                            have n13_ := ak ((by rw [hg]; exact Nat.ne_of_lt (blk_lt (g := gb506) (o := .cells #[.int .i64 t502, .slice Ao32 t503.length co32] 52 (0, 0)) d14_2) : gb506 ≠ gb539))
                            have n14_ := ak ((by rw [hg]; exact Nat.ne_of_gt (blk_lt (g := gb506) (o := .cells #[.int .i64 t502, .slice Ao32 t503.length co32] 52 (0, 0)) d14_2) : gb539 ≠ gb506))
                            have n15_ := ak ((by rw [hg]; exact Nat.ne_of_lt (blk_lt (g := gb517) (o := .cells #[.int .i64 t513, .slice Ao44 t527.length co44] 52 (0, 0)) d14_7) : gb517 ≠ gb539))
                            have n16_ := ak ((by rw [hg]; exact Nat.ne_of_gt (blk_lt (g := gb517) (o := .cells #[.int .i64 t513, .slice Ao44 t527.length co44] 52 (0, 0)) d14_7) : gb539 ≠ gb517))
                            clear HO_507001
                            clear HO_518001
                            clear HO531
                            clear HO538
                            clear BK493
                            clear BK506
                            clear BK517
                            clear HB
                            have HO_507001 := n0_
                            have HO_518001 := n1_
                            have HO531 := n2_
                            have HO538 := n3_
                            have BK493 := n4_
                            have BK506 := n5_
                            have BK517 := n6_
                            have HB := n7_
                            have BK539 := n8_
                            have GW539 := n9_
                            have GE539 := n10_
                            have NB493_539 := n11_
                            have NB539_493 := n12_
                            have NB506_539 := n13_
                            have NB539_506 := n14_
                            have NB517_539 := n15_
                            have NB539_517 := n16_
                            clear n0_ n1_ n2_ n3_ n4_ n5_ n6_ n7_ n8_ n9_ n10_ n11_ n12_ n13_ n14_ n15_ n16_
                            clear hb hbox hg
                            refine hK.out _ _ ⟨(blk_cell BK493.out 0).trans rfl, (blk_cell BK493.out 1).trans rfl, (blk_cell BK493.out 2).trans rfl⟩ (fun hHeld => ?_)
                            clear hK K
                            refine norm_ (a' := ?_) ?_ ?_
                            rotate_left
                            · show Act.put _ (some 14) _ = _
                              simp only [Act.put, List.setIfInBounds_toArray, List.set_cons_zero, List.set_cons_succ, i64_w, i32_w]
                              rfl
                            exact norm_ d14_14 (hCont (.slice Ao88 t529.length co88, v537, gb539) _ ⟨hHeld, d14_17, d14_18, d14_15, d14_16, d14_1, d14_2, d14_7, d14_12, GW539.out, GE539.out, NB493_539.out, NB539_493.out, NB506_539.out, NB539_506.out, NB517_539.out, NB539_517.out, d14_4⟩)
                          · skip
                            refine box_step ?hg (N := 14) ?hd (cs := #[.int .i64 0, .slice none 0 0]) (t := 52) ?hr ?_; (case hd => rfl); (case hg => rfl); (case hr => first | (go_simp; done) | (go_simp; rfl))
                            intro gb539 hg w88 hbox hb
                            have n0_ := ak (Kd.R_below d14_9 hb)
                            have n1_ := ak (Kd.R_below d14_10 hb)
                            have n2_ := ak (Kd.R_below d14_13 hb)
                            have n3_ := ak (blk_below (g := gb493) (o := .cells #[.int .i64 a2_0, .int .i64 a2_1, .string a2_2] 47 (0, 0)) d14_1 hb)
                            have n4_ := ak (blk_below (g := gb506) (o := .cells #[.int .i64 t502, .slice Ao32 t503.length co32] 52 (0, 0)) d14_2 hb)
                            have n5_ := ak (blk_below (g := gb517) (o := .cells #[.int .i64 t513, .slice Ao44 t527.length co44] 52 (0, 0)) d14_7 hb)
                            have n6_ := ak (below_step d14_3 hb)
                            have n7_ := ak (hbox)
                            have n8_ := ak ((by rw [hg]; exact (below_size d14_3) : w.heap.size ≤ gb539))
                            have n9_ := ak ((by rw [hg]; exact (below_size d14_3) : w.heap.size ≤ gb539))
                            have n10_ := ak ((by rw [hg]; exact Nat.ne_of_lt (blk_lt (g := gb493) (o := .cells #[.int .i64 a2_0, .int .i64 a2_1, .string a2_2] 47 (0, 0)) d14_1) : gb493 ≠ gb539))
                            have n11_ := ak ((by rw [hg]; exact Nat.ne_of_gt (blk_lt (g := gb493) (o := .cells #[.int .i64 a2_0, .int .i64 a2_1, .string a2_2] 47 (0, 0)) d14_1) : gb539 ≠ gb493))
                            have n12_ := ak ((by rw [hg]; exact Nat.ne_of_lt (blk_lt (g := gb506) (o := .cells #[.int .i64 t502, .slice Ao32 t503.length co32] 52 (0, 0)) d14_2) : gb506 ≠ gb539))
                            have n13_ := ak ((by rw [hg]; exact Nat.ne_of_gt (blk_lt (g := gb506) (o := .cells #[.int .i64 t502, .slice Ao32 t503.length co32] 52 (0, 0)) d14_2) : gb539 ≠ gb506))
                            have n14_ := ak ((by rw [hg]; exact Nat.ne_of_lt (blk_lt (g := gb517) (o := .cells #[.int .i64 t513, .slice Ao44 t527.length co44] 52 (0, 0)) d14_7) : gb517 ≠ gb539))
                            have n15_ := ak ((by rw [hg]; exact Nat.ne_of_gt (blk_lt (g := gb517) (o := .cells #[.int .i64 t513, .slice Ao44 t527.length co44] 52 (0, 0)) d14_7) : gb539 ≠ gb517))
                            clear HO_507001
                            clear HO_518001
                            clear HO531
                            clear BK493
                            clear BK506
                            clear BK517
                            clear HB
                            have HO_507001 := n0_
                            have HO_518001 := n1_
                            have HO531 := n2_
                            have BK493 := n3_
                            have BK506 := n4_
                            have BK517 := n5_
                            have HB := n6_
                            have BK539 := n7_
                            have GW539 := n8_
                            have GE539 := n9_
                            have NB493_539 := n10_
                            have NB539_493 := n11_
                            have NB506_539 := n12_
                            have NB539_506 := n13_
                            have NB517_539 := n14_
                            have NB539_517 := n15_
                            clear n0_ n1_ n2_ n3_ n4_ n5_ n6_ n7_ n8_ n9_ n10_ n11_ n12_ n13_ n14_ n15_
                            clear hb hbox hg
                            obtain ⟨Ao89, co89, eo89⟩ := Kd.R_slice HO531.out
                            (first | subst eo89 | (injection eo89 with f1_ f2_ f3_; have f4_ := f1_.symm; have f5_ := f3_.symm; clear f1_ f2_ f3_; subst f4_; subst f5_))
                            refine hK.out _ _ ⟨(blk_cell BK493.out 0).trans rfl, (blk_cell BK493.out 1).trans rfl, (blk_cell BK493.out 2).trans rfl⟩ (fun hHeld => ?_)
                            clear hK K
                            refine norm_ (a' := ?_) ?_ ?_
                            rotate_left
                            · show Act.put _ (some 14) _ = _
                              simp only [Act.put, List.setIfInBounds_toArray, List.set_cons_zero, List.set_cons_succ, i64_w, i32_w]
                              rfl
                            refine one_ (i := 5) (N := some 77) #[true, true, true, true, true, true, true, false] rfl rfl (one_of HT_.out (by kernel_rfl)) (by decide) (fun K hK => ?_)
                            refine goes_ Tryd.func37 (by kernel_rfl) rfl #[.slice Ao89 t529.length co89, .string a1, .agg #[.int .i64 t532, .int .i64 t533, .string t534]] (by rfl) rfl rfl d14_6 ?_
                            with_reducible refine (impl_SetGlobal.calls kj77 _ _ t529 a1 t532 t533 t534 t535 t536 _ ?side1 ?side2 A82.out).mono ?_
                            (case side1 => repeat (first | exact (Kd.R_reads' HO531.out).2.2 | (with_reducible refine Kd.C_alloc ?_ _) | (with_reducible refine Kd.C_drewN ?_ _) | (with_reducible refine Kd.C_drew ?_)))
                            (case side2 => exact (Kd.R_reads' HO531.out).2.1)
                            rintro e w90 ⟨v537, rfl, ho0, hb⟩
                            refine ⟨_, rfl, ?_⟩
                            have n0_ := ak (Kd.R_elder' d14_9 (Kd.R_base ho0) hb)
                            have n1_ := ak (Kd.R_elder' d14_10 (Kd.R_base ho0) hb)
                            have n2_ := ak (Kd.R_elder' d14_13 (Kd.R_base ho0) hb)
                            have n3_ := ak (Kd.R_lower (Kd.R_new' (Kd.R_new' (Kd.R_new' ho0 (Kd.R_lt d14_9)) (Kd.R_lt d14_10)) (Kd.R_lt d14_13)) (below_size d14_4))
                            have n4_ := ak (blk_below (g := gb493) (o := .cells #[.int .i64 a2_0, .int .i64 a2_1, .string a2_2] 47 (0, 0)) d14_1 hb)
                            have n5_ := ak (blk_below (g := gb506) (o := .cells #[.int .i64 t502, .slice Ao32 t503.length co32] 52 (0, 0)) d14_2 hb)
                            have n6_ := ak (blk_below (g := gb517) (o := .cells #[.int .i64 t513, .slice Ao44 t527.length co44] 52 (0, 0)) d14_7 hb)
                            have n7_ := ak (blk_below (g := gb539) (o := .cells #[.int .i64 0, .slice none 0 0] 52 (0, 0)) d14_12 hb)
                            have n8_ := ak (below_step d14_4 hb)
                            clear HO_507001
                            clear HO_518001
                            clear HO531
                            clear BK493
                            clear BK506
                            clear BK517
                            clear BK539
                            clear HB
                            have HO_507001 := n0_
                            have HO_518001 := n1_
                            have HO531 := n2_
                            have HO538 := n3_
                            have BK493 := n4_
                            have BK506 := n5_
                            have BK517 := n6_
                            have BK539 := n7_
                            have HB := n8_
                            clear n0_ n1_ n2_ n3_ n4_ n5_ n6_ n7_ n8_
                            (try clear hb)
                            (try clear hb2)
                            (try clear hk)
                            (try clear hi)
                            (try clear ho0)
                            refine hK.out _ _ ⟨(blk_cell BK493.out 0).trans rfl, (blk_cell BK493.out 1).trans rfl, (blk_cell BK493.out 2).trans rfl⟩ (fun hHeld => ?_)
                            clear hK K
                            refine norm_ (a' := ?_) ?_ ?_
                            rotate_left
                            · show Act.put _ (some 77) _ = _
                              simp only [Act.put, List.setIfInBounds_toArray, List.set_cons_zero, List.set_cons_succ, i64_w, i32_w]
                              rfl
                            exact norm_ d14_14 (hCont (.slice Ao89 t529.length co89, v537, gb539) _ ⟨hHeld, d14_17, d14_18, d14_15, d14_16, d14_1, d14_2, d14_7, d14_12, GW539.out, GE539.out, NB493_539.out, NB539_493.out, NB506_539.out, NB539_506.out, NB517_539.out, NB539_517.out, d14_4⟩)
                        · skip
                          refine box_step ?hg (N := 14) ?hd (cs := #[.int .i64 0, .slice none 0 0]) (t := 52) ?hr ?_; (case hd => rfl); (case hg => rfl); (case hr => first | (go_simp; done) | (go_simp; rfl))
                          intro gb539 hg w87 hbox hb
                          have n0_ := ak (Kd.R_below d14_9 hb)
                          have n1_ := ak (Kd.R_below d14_10 hb)
                          have n2_ := ak (Kd.R_below d14_13 hb)
                          have n3_ := ak (blk_below (g := gb493) (o := .cells #[.int .i64 a2_0, .int .i64 a2_1, .string a2_2] 47 (0, 0)) d14_1 hb)
                          have n4_ := ak (blk_below (g := gb506) (o := .cells #[.int .i64 t502, .slice Ao32 t503.length co32] 52 (0, 0)) d14_2 hb)
                          have n5_ := ak (blk_below (g := gb517) (o := .cells #[.int .i64 t513, .slice Ao44 t527.length co44] 52 (0, 0)) d14_7 hb)
                          have n6_ := ak (below_step d14_3 hb)
                          have n7_ := ak (hbox)
                          have n8_ := ak ((by rw [hg]; exact (below_size d14_3) : w.heap.size ≤ gb539))
                          have n9_ := ak ((by rw [hg]; exact (below_size d14_3) : w.heap.size ≤ gb539))
                          have n10_ := ak ((by rw [hg]; exact Nat.ne_of_lt (blk_lt (g := gb493) (o := .cells #[.int .i64 a2_0, .int .i64 a2_1, .string a2_2] 47 (0, 0)) d14_1) : gb493 ≠ gb539))
                          have n11_ := ak ((by rw [hg]; exact Nat.ne_of_gt (blk_lt (g := gb493) (o := .cells #[.int .i64 a2_0, .int .i64 a2_1, .string a2_2] 47 (0, 0)) d14_1) : gb539 ≠ gb493))
                          have n12_ := ak ((by rw [hg]; exact Nat.ne_of_lt (blk_lt (g := gb506) (o := .cells #[.int .i64 t502, .slice Ao32 t503.length co32] 52 (0, 0)) d14_2) : gb506 ≠ gb539))
                          have n13_ := ak ((by rw [hg]; exact Nat.ne_of_gt (blk_lt (g := gb506) (o := .cells #[.int .i64 t502, .slice Ao32 t503.length co32] 52 (0, 0)) d14_2) : gb539 ≠ gb506))
                          have n14_ := ak ((by rw [hg]; exact Nat.ne_of_lt (blk_lt (g := gb517) (o := .cells #[.int .i64 t513, .slice Ao44 t527.length co44] 52 (0, 0)) d14_7) : gb517 ≠ gb539))
                          have n15_ := ak ((by rw [hg]; exact Nat.ne_of_gt (blk_lt (g := gb517) (o := .cells #[.int .i64 t513, .slice Ao44 t527.length co44] 52 (0, 0)) d14_7) : gb539 ≠ gb517))
                          clear HO_507001
                          clear HO_518001
                          clear HO531
                          clear BK493
                          clear BK506
                          clear BK517
                          clear HB
                          have HO_507001 := n0_
                          have HO_518001 := n1_
                          have HO531 := n2_
                          have BK493 := n3_
                          have BK506 := n4_
                          have BK517 := n5_
                          have HB := n6_
                          have BK539 := n7_
                          have GW539 := n8_
                          have GE539 := n9_
                          have NB493_539 := n10_
                          have NB539_493 := n11_
                          have NB506_539 := n12_
                          have NB539_506 := n13_
                          have NB517_539 := n14_
                          have NB539_517 := n15_
                          clear n0_ n1_ n2_ n3_ n4_ n5_ n6_ n7_ n8_ n9_ n10_ n11_ n12_ n13_ n14_ n15_
                          clear hb hbox hg
                          refine hK.out _ _ ⟨(blk_cell BK493.out 0).trans rfl, (blk_cell BK493.out 1).trans rfl, (blk_cell BK493.out 2).trans rfl⟩ (fun hHeld => ?_)
                          clear hK K
                          refine norm_ (a' := ?_) ?_ ?_
                          rotate_left
                          · show Act.put _ (some 14) _ = _
                            simp only [Act.put, List.setIfInBounds_toArray, List.set_cons_zero, List.set_cons_succ, i64_w, i32_w]
                            rfl
                          refine one_ (i := 4) (N := some 76) #[true, true, true, true, true, false, true, false] rfl rfl (one_of HT_.out (by kernel_rfl)) (by decide) (fun K hK => ?_)
                          refine goes_ Tryd.func29 (by kernel_rfl) rfl #[.agg #[.int .i64 a2_0, .int .i64 a2_1, .string a2_2]] (by rfl) rfl rfl d14_6 ?_
                          with_reducible refine (laws_toValue.calls a2_0 a2_1 a2_2 t532 t533 t534 _ A81.out).mono ?_
                          rintro e w88 ⟨rfl, hb⟩
                          refine ⟨_, rfl, ?_⟩
                          have n0_ := ak (Kd.R_below d14_9 hb)
                          have n1_ := ak (Kd.R_below d14_10 hb)
                          have n2_ := ak (Kd.R_below d14_13 hb)
                          have n3_ := ak (blk_below (g := gb493) (o := .cells #[.int .i64 a2_0, .int .i64 a2_1, .string a2_2] 47 (0, 0)) d14_1 hb)
                          have n4_ := ak (blk_below (g := gb506) (o := .cells #[.int .i64 t502, .slice Ao32 t503.length co32] 52 (0, 0)) d14_2 hb)
                          have n5_ := ak (blk_below (g := gb517) (o := .cells #[.int .i64 t513, .slice Ao44 t527.length co44] 52 (0, 0)) d14_7 hb)
                          have n6_ := ak (blk_below (g := gb539) (o := .cells #[.int .i64 0, .slice none 0 0] 52 (0, 0)) d14_12 hb)
                          have n7_ := ak (below_step d14_4 hb)
                          clear HO_507001
                          clear HO_518001
                          clear HO531
                          clear BK493
                          clear BK506
                          clear BK517
                          clear BK539
                          clear HB
                          have HO_507001 := n0_
                          have HO_518001 := n1_
                          have HO531 := n2_
                          have BK493 := n3_
                          have BK506 := n4_
                          have BK517 := n5_
                          have BK539 := n6_
                          have HB := n7_
                          clear n0_ n1_ n2_ n3_ n4_ n5_ n6_ n7_
                          (try clear hb)
                          (try clear hb2)
                          (try clear hk)
                          (try clear hi)
                          obtain ⟨Ao89, co89, eo89⟩ := Kd.R_slice HO531.out
                          (first | subst eo89 | (injection eo89 with f1_ f2_ f3_; have f4_ := f1_.symm; have f5_ := f3_.symm; clear f1_ f2_ f3_; subst f4_; subst f5_))
                          refine hK.out _ _ ⟨(blk_cell BK493.out 0).trans rfl, (blk_cell BK493.out 1).trans rfl, (blk_cell BK493.out 2).trans rfl⟩ (fun hHeld => ?_)
                          clear hK K
                          refine norm_ (a' := ?_) ?_ ?_
                          rotate_left
                          · show Act.put _ (some 76) _ = _
                            simp only [Act.put, List.setIfInBounds_toArray, List.set_cons_zero, List.set_cons_succ, i64_w, i32_w]
                            rfl
                          refine one_ (i := 5) (N := some 77) #[true, true, true, true, true, true, true, false] rfl rfl (one_of HT_.out (by kernel_rfl)) (by decide) (fun K hK => ?_)
                          refine goes_ Tryd.func37 (by kernel_rfl) rfl #[.slice Ao89 t529.length co89, .string a1, .agg #[.int .i64 t532, .int .i64 t533, .string t534]] (by rfl) rfl rfl d14_6 ?_
                          with_reducible refine (impl_SetGlobal.calls kj77 _ _ t529 a1 t532 t533 t534 t535 t536 _ ?side1 ?side2 A82.out).mono ?_
                          (case side1 => repeat (first | exact (Kd.R_reads' HO531.out).2.2 | (with_reducible refine Kd.C_alloc ?_ _) | (with_reducible refine Kd.C_drewN ?_ _) | (with_reducible refine Kd.C_drew ?_)))
                          (case side2 => exact (Kd.R_reads' HO531.out).2.1)
                          rintro e w90 ⟨v537, rfl, ho0, hb⟩
                          refine ⟨_, rfl, ?_⟩
                          have n0_ := ak (Kd.R_elder' d14_9 (Kd.R_base ho0) hb)
                          have n1_ := ak (Kd.R_elder' d14_10 (Kd.R_base ho0) hb)
                          have n2_ := ak (Kd.R_elder' d14_13 (Kd.R_base ho0) hb)
                          have n3_ := ak (Kd.R_lower (Kd.R_new' (Kd.R_new' (Kd.R_new' ho0 (Kd.R_lt d14_9)) (Kd.R_lt d14_10)) (Kd.R_lt d14_13)) (below_size d14_4))
                          have n4_ := ak (blk_below (g := gb493) (o := .cells #[.int .i64 a2_0, .int .i64 a2_1, .string a2_2] 47 (0, 0)) d14_1 hb)
                          have n5_ := ak (blk_below (g := gb506) (o := .cells #[.int .i64 t502, .slice Ao32 t503.length co32] 52 (0, 0)) d14_2 hb)
                          have n6_ := ak (blk_below (g := gb517) (o := .cells #[.int .i64 t513, .slice Ao44 t527.length co44] 52 (0, 0)) d14_7 hb)
                          have n7_ := ak (blk_below (g := gb539) (o := .cells #[.int .i64 0, .slice none 0 0] 52 (0, 0)) d14_12 hb)
                          have n8_ := ak (below_step d14_4 hb)
                          clear HO_507001
                          clear HO_518001
                          clear HO531
                          clear BK493
                          clear BK506
                          clear BK517
                          clear BK539
                          clear HB
                          have HO_507001 := n0_
                          have HO_518001 := n1_
                          have HO531 := n2_
                          have HO538 := n3_
                          have BK493 := n4_
                          have BK506 := n5_
                          have BK517 := n6_
                          have BK539 := n7_
                          have HB := n8_
                          clear n0_ n1_ n2_ n3_ n4_ n5_ n6_ n7_ n8_
                          (try clear hb)
                          (try clear hb2)
                          (try clear hk)
                          (try clear hi)
                          (try clear ho0)
                          refine hK.out _ _ ⟨(blk_cell BK493.out 0).trans rfl, (blk_cell BK493.out 1).trans rfl, (blk_cell BK493.out 2).trans rfl⟩ (fun hHeld => ?_)
                          clear hK K
                          refine norm_ (a' := ?_) ?_ ?_
                          rotate_left
                          · show Act.put _ (some 77) _ = _
                            simp only [Act.put, List.setIfInBounds_toArray, List.set_cons_zero, List.set_cons_succ, i64_w, i32_w]
                            rfl
                          exact norm_ d14_14 (hCont (.slice Ao89 t529.length co89, v537, gb539) _ ⟨hHeld, d14_17, d14_18, d14_15, d14_16, d14_1, d14_2, d14_7, d14_12, GW539.out, GE539.out, NB493_539.out, NB539_493.out, NB506_539.out, NB539_506.out, NB517_539.out, NB539_517.out, d14_4⟩)
                      · skip
                        refine box_step ?hg (N := 14) ?hd (cs := #[.int .i64 0, .slice none 0 0]) (t := 52) ?hr ?_; (case hd => rfl); (case hg => rfl); (case hr => first | (go_simp; done) | (go_simp; rfl))
                        intro gb539 hg w86 hbox hb
                        have n0_ := ak (Kd.R_below d14_9 hb)
                        have n1_ := ak (Kd.R_below d14_10 hb)
                        have n2_ := ak (blk_below (g := gb493) (o := .cells #[.int .i64 a2_0, .int .i64 a2_1, .string a2_2] 47 (0, 0)) d14_1 hb)
                        have n3_ := ak (blk_below (g := gb506) (o := .cells #[.int .i64 t502, .slice Ao32 t503.length co32] 52 (0, 0)) d14_2 hb)
                        have n4_ := ak (blk_below (g := gb517) (o := .cells #[.int .i64 t513, .slice Ao44 t527.length co44] 52 (0, 0)) d14_7 hb)
                        have n5_ := ak (below_step d14_3 hb)
                        have n6_ := ak (hbox)
                        have n7_ := ak ((by rw [hg]; exact (below_size d14_3) : w.heap.size ≤ gb539))
                        have n8_ := ak ((by rw [hg]; exact (below_size d14_3) : w.heap.size ≤ gb539))
                        have n9_ := ak ((by rw [hg]; exact Nat.ne_of_lt (blk_lt (g := gb493) (o := .cells #[.int .i64 a2_0, .int .i64 a2_1, .string a2_2] 47 (0, 0)) d14_1) : gb493 ≠ gb539))
                        have n10_ := ak ((by rw [hg]; exact Nat.ne_of_gt (blk_lt (g := gb493) (o := .cells #[.int .i64 a2_0, .int .i64 a2_1, .string a2_2] 47 (0, 0)) d14_1) : gb539 ≠ gb493))
                        have n11_ := ak ((by rw [hg]; exact Nat.ne_of_lt (blk_lt (g := gb506) (o := .cells #[.int .i64 t502, .slice Ao32 t503.length co32] 52 (0, 0)) d14_2) : gb506 ≠ gb539))
                        have n12_ := ak ((by rw [hg]; exact Nat.ne_of_gt (blk_lt (g := gb506) (o := .cells #[.int .i64 t502, .slice Ao32 t503.length co32] 52 (0, 0)) d14_2) : gb539 ≠ gb506))
                        have n13_ := ak ((by rw [hg]; exact Nat.ne_of_lt (blk_lt (g := gb517) (o := .cells #[.int .i64 t513, .slice Ao44 t527.length co44] 52 (0, 0)) d14_7) : gb517 ≠ gb539))
                        have n14_ := ak ((by rw [hg]; exact Nat.ne_of_gt (blk_lt (g := gb517) (o := .cells #[.int .i64 t513, .slice Ao44 t527.length co44] 52 (0, 0)) d14_7) : gb539 ≠ gb517))
                        clear HO_507001
                        clear HO_518001
                        clear BK493
                        clear BK506
                        clear BK517
                        clear HB
                        have HO_507001 := n0_
                        have HO_518001 := n1_
                        have BK493 := n2_
                        have BK506 := n3_
                        have BK517 := n4_
                        have HB := n5_
                        have BK539 := n6_
                        have GW539 := n7_
                        have GE539 := n8_
                        have NB493_539 := n9_
                        have NB539_493 := n10_
                        have NB506_539 := n11_
                        have NB539_506 := n12_
                        have NB517_539 := n13_
                        have NB539_517 := n14_
                        clear n0_ n1_ n2_ n3_ n4_ n5_ n6_ n7_ n8_ n9_ n10_ n11_ n12_ n13_ n14_
                        clear hb hbox hg
                        refine hK.out _ _ ⟨(blk_cell BK493.out 0).trans rfl, (blk_cell BK493.out 1).trans rfl, (blk_cell BK493.out 2).trans rfl⟩ (fun hHeld => ?_)
                        clear hK K
                        refine norm_ (a' := ?_) ?_ ?_
                        rotate_left
                        · show Act.put _ (some 14) _ = _
                          simp only [Act.put, List.setIfInBounds_toArray, List.set_cons_zero, List.set_cons_succ, i64_w, i32_w]
                          rfl
                        refine one_ (i := 1) (N := some 73) #[true, true, true, true, false, false, true, false] rfl rfl (one_of HT_.out (by kernel_rfl)) (by decide) (fun K hK => ?_)
                        refine goes_ Tryd.func28 (by kernel_rfl) rfl #[.slice A0 l0.length c0] (by rfl) rfl rfl d14_6 ?_
                        with_reducible refine (laws_toGlobalS.calls kj77 _ _ l0 t529 _ ?side1 ?side2 A80.out).mono ?_
                        (case side1 => repeat (first | exact (Kd.C_below HR0.out HB.out) | (with_reducible refine Kd.C_alloc ?_ _) | (with_reducible refine Kd.C_drewN ?_ _) | (with_reducible refine Kd.C_drew ?_)))
                        (case side2 => exact HC0.out)
                        rintro e w87 ⟨v530, rfl, ho0, hb⟩
                        refine ⟨_, rfl, ?_⟩
                        have n0_ := ak (Kd.R_elder' d14_9 (Kd.R_base ho0) hb)
                        have n1_ := ak (Kd.R_elder' d14_10 (Kd.R_base ho0) hb)
                        have n2_ := ak (Kd.R_lower (Kd.R_new' (Kd.R_new' ho0 (Kd.R_lt d14_9)) (Kd.R_lt d14_10)) (below_size d14_4))
                        have n3_ := ak (blk_below (g := gb493) (o := .cells #[.int .i64 a2_0, .int .i64 a2_1, .string a2_2] 47 (0, 0)) d14_1 hb)
                        have n4_ := ak (blk_below (g := gb506) (o := .cells #[.int .i64 t502, .slice Ao32 t503.length co32] 52 (0, 0)) d14_2 hb)
                        have n5_ := ak (blk_below (g := gb517) (o := .cells #[.int .i64 t513, .slice Ao44 t527.length co44] 52 (0, 0)) d14_7 hb)
                        have n6_ := ak (blk_below (g := gb539) (o := .cells #[.int .i64 0, .slice none 0 0] 52 (0, 0)) d14_12 hb)
                        have n7_ := ak (below_step d14_4 hb)
                        clear HO_507001
                        clear HO_518001
                        clear BK493
                        clear BK506
                        clear BK517
                        clear BK539
                        clear HB
                        have HO_507001 := n0_
                        have HO_518001 := n1_
                        have HO531 := n2_
                        have BK493 := n3_
                        have BK506 := n4_
                        have BK517 := n5_
                        have BK539 := n6_
                        have HB := n7_
                        clear n0_ n1_ n2_ n3_ n4_ n5_ n6_ n7_
                        (try clear hb)
                        (try clear hb2)
                        (try clear hk)
                        (try clear hi)
                        (try clear ho0)
                        refine hK.out _ _ ⟨(blk_cell BK493.out 0).trans rfl, (blk_cell BK493.out 1).trans rfl, (blk_cell BK493.out 2).trans rfl⟩ (fun hHeld => ?_)
                        clear hK K
                        refine norm_ (a' := ?_) ?_ ?_
                        rotate_left
                        · show Act.put _ (some 73) _ = _
                          simp only [Act.put, List.setIfInBounds_toArray, List.set_cons_zero, List.set_cons_succ, i64_w, i32_w]
                          rfl
                        refine one_ (i := 4) (N := some 76) #[true, true, true, true, true, false, true, false] rfl rfl (one_of HT_.out (by kernel_rfl)) (by decide) (fun K hK => ?_)
                        refine goes_ Tryd.func29 (by kernel_rfl) rfl #[.agg #[.int .i64 a2_0, .int .i64 a2_1, .string a2_2]] (by rfl) rfl rfl d14_6 ?_
                        with_reducible refine (laws_toValue.calls a2_0 a2_1 a2_2 t532 t533 t534 _ A81.out).mono ?_
                        rintro e w88 ⟨rfl, hb⟩
                        refine ⟨_, rfl, ?_⟩
                        have n0_ := ak (Kd.R_below d14_9 hb)
                        have n1_ := ak (Kd.R_below d14_10 hb)
                        have n2_ := ak (Kd.R_below d14_13 hb)
                        have n3_ := ak (blk_below (g := gb493) (o := .cells #[.int .i64 a2_0, .int .i64 a2_1, .string a2_2] 47 (0, 0)) d14_1 hb)
                        have n4_ := ak (blk_below (g := gb506) (o := .cells #[.int .i64 t502, .slice Ao32 t503.length co32] 52 (0, 0)) d14_2 hb)
                        have n5_ := ak (blk_below (g := gb517) (o := .cells #[.int .i64 t513, .slice Ao44 t527.length co44] 52 (0, 0)) d14_7 hb)
                        have n6_ := ak (blk_below (g := gb539) (o := .cells #[.int .i64 0, .slice none 0 0] 52 (0, 0)) d14_12 hb)
                        have n7_ := ak (below_step d14_4 hb)
                        clear HO_507001
                        clear HO_518001
                        clear HO531
                        clear BK493
                        clear BK506
                        clear BK517
                        clear BK539
                        clear HB
                        have HO_507001 := n0_
                        have HO_518001 := n1_
                        have HO531 := n2_
                        have BK493 := n3_
                        have BK506 := n4_
                        have BK517 := n5_
                        have BK539 := n6_
                        have HB := n7_
                        clear n0_ n1_ n2_ n3_ n4_ n5_ n6_ n7_
                        (try clear hb)
                        (try clear hb2)
                        (try clear hk)
                        (try clear hi)
                        obtain ⟨Ao89, co89, eo89⟩ := Kd.R_slice HO531.out
                        (first | subst eo89 | (injection eo89 with f1_ f2_ f3_; have f4_ := f1_.symm; have f5_ := f3_.symm; clear f1_ f2_ f3_; subst f4_; subst f5_))
                        refine hK.out _ _ ⟨(blk_cell BK493.out 0).trans rfl, (blk_cell BK493.out 1).trans rfl, (blk_cell BK493.out 2).trans rfl⟩ (fun hHeld => ?_)
                        clear hK K
                        refine norm_ (a' := ?_) ?_ ?_
                        rotate_left
                        · show Act.put _ (some 76) _ = _
                          simp only [Act.put, List.setIfInBounds_toArray, List.set_cons_zero, List.set_cons_succ, i64_w, i32_w]
                          rfl
                        refine one_ (i := 5) (N := some 77) #[true, true, true, true, true, true, true, false] rfl rfl (one_of HT_.out (by kernel_rfl)) (by decide) (fun K hK => ?_)
                        refine goes_ Tryd.func37 (by kernel_rfl) rfl #[.slice Ao89 t529.length co89, .string a1, .agg #[.int .i64 t532, .int .i64 t533, .string t534]] (by rfl) rfl rfl d14_6 ?_
                        with_reducible refine (impl_SetGlobal.calls kj77 _ _ t529 a1 t532 t533 t534 t535 t536 _ ?side1 ?side2 A82.out).mono ?_
                        (case side1 => repeat (first | exact (Kd.R_reads' HO531.out).2.2 | (with_reducible refine Kd.C_alloc ?_ _) | (with_reducible refine Kd.C_drewN ?_ _) | (with_reducible refine Kd.C_drew ?_)))
                        (case side2 => exact (Kd.R_reads' HO531.out).2.1)
                        rintro e w90 ⟨v537, rfl, ho0, hb⟩
                        refine ⟨_, rfl, ?_⟩
                        have n0_ := ak (Kd.R_elder' d14_9 (Kd.R_base ho0) hb)
                        have n1_ := ak (Kd.R_elder' d14_10 (Kd.R_base ho0) hb)
                        have n2_ := ak (Kd.R_elder' d14_13 (Kd.R_base ho0) hb)
                        have n3_ := ak (Kd.R_lower (Kd.R_new' (Kd.R_new' (Kd.R_new' ho0 (Kd.R_lt d14_9)) (Kd.R_lt d14_10)) (Kd.R_lt d14_13)) (below_size d14_4))
                        have n4_ := ak (blk_below (g := gb493) (o := .cells #[.int .i64 a2_0, .int .i64 a2_1, .string a2_2] 47 (0, 0)) d14_1 hb)
                        have n5_ := ak (blk_below (g := gb506) (o := .cells #[.int .i64 t502, .slice Ao32 t503.length co32] 52 (0, 0)) d14_2 hb)
                        have n6_ := ak (blk_below (g := gb517) (o := .cells #[.int .i64 t513, .slice Ao44 t527.length co44] 52 (0, 0)) d14_7 hb)
                        have n7_ := ak (blk_below (g := gb539) (o := .cells #[.int .i64 0, .slice none 0 0] 52 (0, 0)) d14_12 hb)
                        have n8_ := ak (below_step d14_4 hb)
                        clear HO_507001
                        clear HO_518001
                        clear HO531
                        clear BK493
                        clear BK506
                        clear BK517
                        clear BK539
                        clear HB
                        have HO_507001 := n0_
                        have HO_518001 := n1_
                        have HO531 := n2_
                        have HO538 := n3_
                        have BK493 := n4_
                        have BK506 := n5_
                        have BK517 := n6_
                        have BK539 := n7_
                        have HB := n8_
                        clear n0_ n1_ n2_ n3_ n4_ n5_ n6_ n7_ n8_
                        (try clear hb)
                        (try clear hb2)
                        (try clear hk)
                        (try clear hi)
                        (try clear ho0)
                        refine hK.out _ _ ⟨(blk_cell BK493.out 0).trans rfl, (blk_cell BK493.out 1).trans rfl, (blk_cell BK493.out 2).trans rfl⟩ (fun hHeld => ?_)
                        clear hK K
                        refine norm_ (a' := ?_) ?_ ?_
                        rotate_left
                        · show Act.put _ (some 77) _ = _
                          simp only [Act.put, List.setIfInBounds_toArray, List.set_cons_zero, List.set_cons_succ, i64_w, i32_w]
                          rfl
                        exact norm_ d14_14 (hCont (.slice Ao89 t529.length co89, v537, gb539) _ ⟨hHeld, d14_17, d14_18, d14_15, d14_16, d14_1, d14_2, d14_7, d14_12, GW539.out, GE539.out, NB493_539.out, NB539_493.out, NB506_539.out, NB539_506.out, NB517_539.out, NB539_517.out, d14_4⟩)
                    rintro ⟨v530, v537, gb539⟩ w91 ⟨hS_, h0_, h1_, h2_, h3_, h4_, h5_, h6_, h7_, h8_, h9_, h10_, h11_, h12_, h13_, h14_, h15_, h16_⟩
                    have n0_ : Aside0 (Kd.R k98 98 w91 w.heap.size (fun k_ => some k_ ≠ (v537 : Value).ownBlock ∧ some k_ ≠ (.slice Ao32 t503.length co32 : Value).ownBlock ∧ some k_ ≠ (.slice Ao44 t527.length co44 : Value).ownBlock) v530 t529) := ⟨h0_⟩
                    have n1_ : Aside0 (Kd.R k98 98 w91 w.heap.size (fun k_ => some k_ ≠ (v530 : Value).ownBlock ∧ some k_ ≠ (.slice Ao32 t503.length co32 : Value).ownBlock ∧ some k_ ≠ (.slice Ao44 t527.length co44 : Value).ownBlock) v537 t536) := ⟨h1_⟩
                    have n2_ : Aside0 (Kd.R k98 98 w91 w.heap.size (fun k_ => some k_ ≠ (v530 : Value).ownBlock ∧ some k_ ≠ (v537 : Value).ownBlock ∧ some k_ ≠ (.slice Ao44 t527.length co44 : Value).ownBlock) (.slice Ao32 t503.length co32) t503) := ⟨h2_⟩
                    have n3_ : Aside0 (Kd.R k98 98 w91 w.heap.size (fun k_ => some k_ ≠ (v530 : Value).ownBlock ∧ some k_ ≠ (v537 : Value).ownBlock ∧ some k_ ≠ (.slice Ao32 t503.length co32 : Value).ownBlock) (.slice Ao44 t527.length co44) t527) := ⟨h3_⟩
                    have n4_ : Aside0 (w91.heap[gb493]? = some (.cells #[.int .i64 a2_0, .int .i64 a2_1, .string a2_2] 47 (0, 0))) := ⟨h4_⟩
                    have n5_ : Aside0 (w91.heap[gb506]? = some (.cells #[.int .i64 t502, .slice Ao32 t503.length co32] 52 (0, 0))) := ⟨h5_⟩
                    have n6_ : Aside0 (w91.heap[gb517]? = some (.cells #[.int .i64 t513, .slice Ao44 t527.length co44] 52 (0, 0))) := ⟨h6_⟩
                    have n7_ : Aside0 (w91.heap[gb539]? = some (.cells #[.int .i64 0, .slice none 0 0] 52 (0, 0))) := ⟨h7_⟩
                    have n8_ : Aside0 (w.heap.size ≤ gb539) := ⟨h8_⟩
                    have n9_ : Aside0 (w.heap.size ≤ gb539) := ⟨h9_⟩
                    have n10_ : Aside0 (gb493 ≠ gb539) := ⟨h10_⟩
                    have n11_ : Aside0 (gb539 ≠ gb493) := ⟨h11_⟩
                    have n12_ : Aside0 (gb506 ≠ gb539) := ⟨h12_⟩
                    have n13_ : Aside0 (gb539 ≠ gb506) := ⟨h13_⟩
                    have n14_ : Aside0 (gb517 ≠ gb539) := ⟨h14_⟩
                    have n15_ : Aside0 (gb539 ≠ gb517) := ⟨h15_⟩
                    have n16_ : Aside0 (Below w.heap.size w w91) := ⟨h16_⟩
                    clear HO_507001
                    clear HO_518001
                    clear BK493
                    clear BK506
                    clear BK517
                    clear HB
                    clear h0_ h1_ h2_ h3_ h4_ h5_ h6_ h7_ h8_ h9_ h10_ h11_ h12_ h13_ h14_ h15_ h16_
                    have HO531 := n0_
                    have HO538 := n1_
                    have HO_507001 := n2_
                    have HO_518001 := n3_
                    have BK493 := n4_
                    have BK506 := n5_
                    have BK517 := n6_
                    have BK539 := n7_
                    have GW539 := n8_
                    have GE539 := n9_
                    have NB493_539 := n10_
                    have NB539_493 := n11_
                    have NB506_539 := n12_
                    have NB539_506 := n13_
                    have NB517_539 := n14_
                    have NB539_517 := n15_
                    have HB := n16_
                    clear n0_ n1_ n2_ n3_ n4_ n5_ n6_ n7_ n8_ n9_ n10_ n11_ n12_ n13_ n14_ n15_ n16_
                    have hHeld : w91.cell? ⟨gb493, 0, none⟩ = some (.int .i64 a2_0) ∧ w91.cell? ⟨gb493, 1, none⟩ = some (.int .i64 a2_1) ∧ w91.cell? ⟨gb493, 2, none⟩ = some (.string a2_2) := hS_
                    obtain ⟨Ao93, co93, eo93⟩ := Kd.R_slice HO538.out
                    (first | subst eo93 | (injection eo93 with f1_ f2_ f3_; have f4_ := f1_.symm; have f5_ := f3_.symm; clear f1_ f2_ f3_; subst f4_; subst f5_))
                    refine norm_ (a' := ?_) ?_ ?_
                    rotate_left
                    · simp only [putAll, Act.put, List.setIfInBounds_toArray, List.set_cons_zero, List.set_cons_succ]
                      rfl
                    refine one_ (i := 7) (N := none) #[true, true, true, true, true, true, true, true] rfl rfl (one_of HT_.out (by kernel_rfl)) (by decide) (fun K hK => ?_)
                    have hs92 : w91.cell? ⟨gb539, 0, none⟩ = some (.int .i64 0) := (blk_cell BK539.out 0).trans rfl
                    have hfs92 := blk_frozen BK539.out 0
                    have hns92_0 := NB493_539.out
                    have hns92_1 := NB506_539.out
                    have hns92_2 := NB517_539.out
                    have hms92_0 := NB539_493.out
                    have hms92_1 := NB539_506.out
                    have hms92_2 := NB539_517.out
                    have hs94 : w91.cell? ⟨gb539, 1, none⟩ = some (.slice none 0 0) := (blk_cell BK539.out 1).trans rfl
                    have hfs94 := blk_frozen BK539.out 1
                    have hns94_0 := NB493_539.out
                    have hns94_1 := NB506_539.out
                    have hns94_2 := NB517_539.out
                    have hms94_0 := NB539_493.out
                    have hms94_1 := NB539_506.out
                    have hms94_2 := NB539_517.out
                    refine skip_ (w1 := ?_) (by rfl) rfl ?_ ?_
                    rotate_left
                    · go_simp
                      rfl
                    refine hK.out _ _ ⟨((cell_far (p := ⟨gb539, _, none⟩) NB493_539.out _).trans (((cell_far (p := ⟨gb539, _, none⟩) NB493_539.out _).trans (hHeld.1)))), ((cell_far (p := ⟨gb539, _, none⟩) NB493_539.out _).trans (((cell_far (p := ⟨gb539, _, none⟩) NB493_539.out _).trans (hHeld.2.1)))), ((cell_far (p := ⟨gb539, _, none⟩) NB493_539.out _).trans (((cell_far (p := ⟨gb539, _, none⟩) NB493_539.out _).trans (hHeld.2.2))))⟩ (fun hHeld => ?_)
                    clear hK K
                    refine done_ (done_of HT_.out (by kernel_rfl)) ?_
                    have hnb95 := NB539_493.out
                    have hnc95 := NB493_539.out
                    have hnb96 := NB539_506.out
                    have hnc96 := NB506_539.out
                    have hnb97 := NB539_517.out
                    have hnc97 := NB517_539.out
                    have hcz98_0 : w91.cell? ⟨gb539, 0, none⟩ = some (.int .i64 0) := (blk_cell BK539.out 0).trans rfl
                    have hcz98_1 : w91.cell? ⟨gb539, 1, none⟩ = some (.slice none 0 0) := (blk_cell BK539.out 1).trans rfl
                    have hfz98_0 := blk_frozen BK539.out 0
                    have hfz98_1 := blk_frozen BK539.out 1
                    have hnb99 := NB506_493.out
                    have hnc99 := NB493_506.out
                    have hnb100 := NB506_517.out
                    have hnc100 := NB517_506.out
                    have hcz101_0 : w91.cell? ⟨gb506, 0, none⟩ = some (.int .i64 t502) := (blk_cell BK506.out 0).trans rfl
                    have hcz101_1 : w91.cell? ⟨gb506, 1, none⟩ = some (.slice Ao32 t503.length co32) := (blk_cell BK506.out 1).trans rfl
                    have hfz101_0 := blk_frozen BK506.out 0
                    have hfz101_1 := blk_frozen BK506.out 1
                    go_upto_if 81 with (first | ((with_reducible refine gate_callee (f := 31) rfl ?_); refine goesL_ (some 80) rfl rfl Tryd.func31 (by kernel_rfl) rfl #[.agg #[.int .i64 t535, .slice Ao93 t536.length co93], .agg #[.int .i64 t502, .slice Ao32 t503.length co32]] rfl d14_6 ?_; (with_reducible refine (laws_eqGlobalsResult.calls kj77 t535 _ _ t536 t502 _ _ t503 t540 _ ?side1 ?side2 ?side3 ?side4 A83.out).mono ?_); (case side1 => refine (Kd.R_reads' (e := 98) (base := w.heap.size) (ok := fun k_ => (some k_ ≠ (v530 : Value).ownBlock ∧ (some k_ ≠ (.slice Ao32 t503.length co32 : Value).ownBlock ∧ some k_ ≠ (.slice Ao44 t527.length co44 : Value).ownBlock))) (n := t536.length) (c := co93) ?_).2.2; exact (by (with_reducible repeat (first | apply Kd.R_alloc | apply Kd.R_drewN | apply Kd.R_drew)); exact (Kd.R_mono (Kd.R_far (p := ⟨gb539, 1, none⟩) (Kd.R_far (p := ⟨gb539, 0, none⟩) (Kd.R_types HO538.out BK539.out (by decide)) (fun _ hk => hk.2) (.int .i64 t535)) (fun _ hk => hk.2) (.slice Ao93 t536.length co93)) (fun _ h_ => h_.1)))); (case side2 => exact (Kd.R_reads' HO538.out).2.1); (case side3 => refine (Kd.R_reads' (e := 98) (base := w.heap.size) (ok := fun k_ => (some k_ ≠ (v530 : Value).ownBlock ∧ (some k_ ≠ (.slice Ao93 t536.length co93 : Value).ownBlock ∧ some k_ ≠ (.slice Ao44 t527.length co44 : Value).ownBlock))) (n := t503.length) (c := co32) ?_).2.2; exact (by (with_reducible repeat (first | apply Kd.R_alloc | apply Kd.R_drewN | apply Kd.R_drew)); exact (Kd.R_mono (Kd.R_far (p := ⟨gb539, 1, none⟩) (Kd.R_far (p := ⟨gb539, 0, none⟩) (Kd.R_types HO_507001.out BK539.out (by decide)) (fun _ hk => hk.2) (.int .i64 t535)) (fun _ hk => hk.2) (.slice Ao93 t536.length co93)) (fun _ h_ => h_.1)))); (case side4 => exact (Kd.R_reads' HO_507001.out).2.1); rintro e w102 ⟨rfl, hb⟩; refine ⟨_, rfl, ?_⟩; have n0_ := ak (Kd.R_below (by (with_reducible repeat (first | apply Kd.R_alloc | apply Kd.R_drewN | apply Kd.R_drew)); exact (Kd.R_mono (Kd.R_far (p := ⟨gb539, 1, none⟩) (Kd.R_far (p := ⟨gb539, 0, none⟩) (Kd.R_types HO_507001.out BK539.out (by decide)) (fun _ hk => hk.2) (.int .i64 t535)) (fun _ hk => hk.2) (.slice Ao93 t536.length co93)) (fun _ h_ => h_.1))) hb); have n1_ := ak (Kd.R_below (by (with_reducible repeat (first | apply Kd.R_alloc | apply Kd.R_drewN | apply Kd.R_drew)); exact (Kd.R_mono (Kd.R_far (p := ⟨gb539, 1, none⟩) (Kd.R_far (p := ⟨gb539, 0, none⟩) (Kd.R_types HO_518001.out BK539.out (by decide)) (fun _ hk => hk.2) (.int .i64 t535)) (fun _ hk => hk.2) (.slice Ao93 t536.length co93)) (fun _ h_ => h_.1))) hb); have n2_ := ak (Kd.R_below (by (with_reducible repeat (first | apply Kd.R_alloc | apply Kd.R_drewN | apply Kd.R_drew)); exact (Kd.R_mono (Kd.R_far (p := ⟨gb539, 1, none⟩) (Kd.R_far (p := ⟨gb539, 0, none⟩) (Kd.R_types HO531.out BK539.out (by decide)) (fun _ hk => hk.2) (.int .i64 t535)) (fun _ hk => hk.2) (.slice Ao93 t536.length co93)) (fun _ h_ => h_.1))) hb); have n3_ := ak (Kd.R_below (by (with_reducible repeat (first | apply Kd.R_alloc | apply Kd.R_drewN | apply Kd.R_drew)); exact (Kd.R_mono (Kd.R_far (p := ⟨gb539, 1, none⟩) (Kd.R_far (p := ⟨gb539, 0, none⟩) (Kd.R_types HO538.out BK539.out (by decide)) (fun _ hk => hk.2) (.int .i64 t535)) (fun _ hk => hk.2) (.slice Ao93 t536.length co93)) (fun _ h_ => h_.1))) hb); have n4_ := ak (blk_below (g := gb493) (o := .cells #[.int .i64 a2_0, .int .i64 a2_1, .string a2_2] 47 (0, 0)) (by (with_reducible repeat (first | refine blk_drewN ?_ _ | refine blk_drew ?_ | refine blk_alloc ?_ _)); refine blk_far ?_ NB493_539.out _; (with_reducible repeat (first | refine blk_drewN ?_ _ | refine blk_drew ?_ | refine blk_alloc ?_ _)); refine blk_far ?_ NB493_539.out _; (with_reducible repeat (first | refine blk_drewN ?_ _ | refine blk_drew ?_ | refine blk_alloc ?_ _)); exact BK493.out) hb); have n5_ := ak (blk_below (g := gb506) (o := .cells #[.int .i64 t502, .slice Ao32 t503.length co32] 52 (0, 0)) (by (with_reducible repeat (first | refine blk_drewN ?_ _ | refine blk_drew ?_ | refine blk_alloc ?_ _)); refine blk_far ?_ NB506_539.out _; (with_reducible repeat (first | refine blk_drewN ?_ _ | refine blk_drew ?_ | refine blk_alloc ?_ _)); refine blk_far ?_ NB506_539.out _; (with_reducible repeat (first | refine blk_drewN ?_ _ | refine blk_drew ?_ | refine blk_alloc ?_ _)); exact BK506.out) hb); have n6_ := ak (blk_below (g := gb517) (o := .cells #[.int .i64 t513, .slice Ao44 t527.length co44] 52 (0, 0)) (by (with_reducible repeat (first | refine blk_drewN ?_ _ | refine blk_drew ?_ | refine blk_alloc ?_ _)); refine blk_far ?_ NB517_539.out _; (with_reducible repeat (first | refine blk_drewN ?_ _ | refine blk_drew ?_ | refine blk_alloc ?_ _)); refine blk_far ?_ NB517_539.out _; (with_reducible repeat (first | refine blk_drewN ?_ _ | refine blk_drew ?_ | refine blk_alloc ?_ _)); exact BK517.out) hb); have n7_ := ak (blk_below (g := gb539) (o := .cells #[.int .i64 t535, .slice Ao93 t536.length co93] 52 (0, 0)) (by (with_reducible repeat (first | refine blk_drewN ?_ _ | refine blk_drew ?_ | refine blk_alloc ?_ _)); refine blk_put (cs := #[.int .i64 t535, .slice none 0 0]) ?_ 1 _ rfl; (with_reducible repeat (first | refine blk_drewN ?_ _ | refine blk_drew ?_ | refine blk_alloc ?_ _)); refine blk_put (cs := #[.int .i64 0, .slice none 0 0]) ?_ 0 _ rfl; (with_reducible repeat (first | refine blk_drewN ?_ _ | refine blk_drew ?_ | refine blk_alloc ?_ _)); exact BK539.out) hb); have n8_ := ak (below_step d14_4 hb); clear HO_507001 HO_518001 HO531 HO538 BK493 BK506 BK517 BK539 HB; have HO_507001 := n0_; have HO_518001 := n1_; have HO531 := n2_; have HO538 := n3_; have BK493 := n4_; have BK506 := n5_; have BK517 := n6_; have BK539 := n7_; have HB := n8_; clear n0_ n1_ n2_ n3_ n4_ n5_ n6_ n7_ n8_; (try clear hb); (try clear hk)))
                    (try simp only [Act.put, List.setIfInBounds_toArray, List.set_cons_zero, List.set_cons_succ])
                    go_cut [] (fun wc => ∃ (kq : Nat), Aside0 (laws_FnExactSetGlobal.j9 kq t526 t513 t527 = some r) ∧ Aside0 (kq ≤ kj77) ∧ Aside0 (Kd.R k98 98 wc w.heap.size (fun k_ => some k_ ≠ ((.slice Ao44 t527.length co44) : Value).ownBlock ∧ some k_ ≠ ((.slice Ao93 t536.length co93) : Value).ownBlock) (.slice Ao32 t503.length co32) t503) ∧ Aside0 (Kd.R k98 98 wc w.heap.size (fun k_ => some k_ ≠ ((.slice Ao32 t503.length co32) : Value).ownBlock ∧ some k_ ≠ ((.slice Ao93 t536.length co93) : Value).ownBlock) (.slice Ao44 t527.length co44) t527) ∧ Aside0 (Kd.R k98 98 wc w.heap.size (fun k_ => some k_ ≠ ((.slice Ao32 t503.length co32) : Value).ownBlock ∧ some k_ ≠ ((.slice Ao44 t527.length co44) : Value).ownBlock) (.slice Ao93 t536.length co93) t536) ∧ Aside0 (wc.heap[gb493]? = some (.cells #[.int .i64 a2_0, .int .i64 a2_1, .string a2_2] 47 (0, 0))) ∧ Aside0 (wc.heap[gb506]? = some (.cells #[.int .i64 t502, (.slice Ao32 t503.length co32)] 52 (0, 0))) ∧ Aside0 (wc.heap[gb517]? = some (.cells #[.int .i64 t513, (.slice Ao44 t527.length co44)] 52 (0, 0))) ∧ Aside0 (wc.heap[gb539]? = some (.cells #[.int .i64 t535, (.slice Ao93 t536.length co93)] 52 (0, 0))) ∧ Aside0 (Below w.heap.size w wc))
                    case first =>
                     have H := HC84.out
                     clear HC84
                     by_cases c103 : t540 = true
                     ·subst c103
                      have H1 : (laws_FnExactSetGlobal.j9 kj77 t526 t513 t527) = some r := by rw [if_pos rfl] at H; exact H
                      clear H
                      have H := H1
                      clear H1
                      have H' := ak H
                      clear H
                      go_wp2
                      go_meet
                      case rel => exact ⟨_, H', ⟨by have := HJ3.out; have := HJ7.out; have := HJ11.out; have := HJ22.out; have := HJ49.out; have := HJ55.out; have := HJ65.out; have := HJ69.out; have := HJ77.out; first | omega | exact Nat.le_refl _⟩, ⟨by (try simp only [hl518001_69]); (with_reducible repeat (first | apply Kd.R_alloc | apply Kd.R_drewN | apply Kd.R_drew)); exact Kd.R_mono HO_507001.out (fun _ hk => ⟨hk.2.2, hk.2.1⟩)⟩, ⟨by (try simp only [hl518001_69]); (with_reducible repeat (first | apply Kd.R_alloc | apply Kd.R_drewN | apply Kd.R_drew)); exact Kd.R_mono HO_518001.out (fun _ hk => ⟨hk.2.2, hk.2.1⟩)⟩, ⟨by (try simp only [hl518001_69]); (with_reducible repeat (first | apply Kd.R_alloc | apply Kd.R_drewN | apply Kd.R_drew)); exact Kd.R_mono HO538.out (fun _ hk => ⟨hk.2.1, hk.2.2⟩)⟩, ⟨by (try simp only [hl518001_69]); (with_reducible repeat (first | refine blk_drewN ?_ _ | refine blk_drew ?_ | refine blk_alloc ?_ _)); exact BK493.out⟩, ⟨by (try simp only [hl518001_69]); (with_reducible repeat (first | refine blk_drewN ?_ _ | refine blk_drew ?_ | refine blk_alloc ?_ _)); exact BK506.out⟩, ⟨by (try simp only [hl518001_69]); (with_reducible repeat (first | refine blk_drewN ?_ _ | refine blk_drew ?_ | refine blk_alloc ?_ _)); exact BK517.out⟩, ⟨by (try simp only [hl518001_69]); (with_reducible repeat (first | refine blk_drewN ?_ _ | refine blk_drew ?_ | refine blk_alloc ?_ _)); exact BK539.out⟩, ⟨by repeat (first | (with_reducible first | exact HB.out | apply below_alloc | apply pw_below_drewN | apply below_drew1 | refine below_set ?_ GE493.out | refine below_set ?_ GE506.out | refine below_set ?_ GE517.out | refine below_set ?_ GE539.out) | exact HB.out)⟩⟩
                     ·replace c103 := Bool.eq_false_iff.mpr c103
                      subst c103
                      have H1 : (some false) = some r := by rw [if_neg (show ¬ (false = true) by decide)] at H; exact H
                      clear H
                      have H := H1
                      clear H1
                      obtain rfl := Option.some.inj H
                      go_wp2
                      go_ret
                      exact ⟨by first | rfl | (simp [errW_none, errW_some] <;> rfl) | (simp [*, errW_none, errW_some] <;> rfl), by repeat (first | (with_reducible first | exact HB.out | apply below_alloc | apply pw_below_drewN | apply below_drew1 | refine below_set ?_ GE493.out | refine below_set ?_ GE506.out | refine below_set ?_ GE517.out | refine below_set ?_ GE539.out) | exact HB.out)⟩
                    case rest =>
                     clear HC84
                     try clear c1
                     try clear c2
                     try clear c3
                     try clear c9
                     try clear c10
                     try clear c28
                     try clear c29
                     try clear c31
                     try clear c37
                     try clear c95
                     try clear c96
                     try clear c97
                     try clear c99
                     try clear c100
                     try clear hcz101_0
                     try clear hcz101_1
                     try clear hcz98_0
                     try clear hcz98_1
                     try clear hfz101_0
                     try clear hfz101_1
                     try clear hfz98_0
                     try clear hfz98_1
                     obtain ⟨kq, HA, HJ83, HO_507001, HO_518001, HO_540001, BK493, BK506, BK517, BK539, HB⟩ := hcut
                     cases kq with
                     | zero => exact absurd HA.out (by simp [laws_FnExactSetGlobal.j9])
                     | succ kj83 =>
                      have H := HA.out
                      clear HA
                      simp only [laws_FnExactSetGlobal.j9] at H
                      replace H := Option.bind_eq_some_iff.mp H
                      obtain ⟨t541, A1040, H⟩ := H
                      replace H : (if t541 < 0 then (some false) else (if t541 = t526 then (some true) else (some false))) = some r := H
                      have A104 := ak A1040
                      clear A1040
                      by_cases c105 : t541 < 0
                      ·rw [if_pos c105] at H
                       have c105b0 : decide (t541 < 0) = true := decide_eq_true c105
                       clear c105
                       obtain rfl := Option.some.inj H
                       have hnb106 := NB517_493.out
                       have hnc106 := NB493_517.out
                       have hnb107 := NB517_506.out
                       have hnc107 := NB506_517.out
                       have hnb108 := NB517_539.out
                       have hnc108 := NB539_517.out
                       have hcz109_0 : wc.cell? ⟨gb517, 0, none⟩ = some (.int .i64 t513) := (blk_cell BK517.out 0).trans rfl
                       have hcz109_1 : wc.cell? ⟨gb517, 1, none⟩ = some (.slice Ao44 t527.length co44) := (blk_cell BK517.out 1).trans rfl
                       have hfz109_0 := blk_frozen BK517.out 0
                       have hfz109_1 := blk_frozen BK517.out 1
                       go_wp2_with (first | ((with_reducible refine gate_callee (f := 35) rfl ?_); refine goesL_ (some 84) rfl rfl Tryd.func35 (by kernel_rfl) rfl #[.agg #[.int .i64 t513, .slice Ao44 t527.length co44], .int .i64 1] rfl d14_6 ?_; (with_reducible refine (laws_heldGlobalsResult.calls kj83 t513 _ _ t527 1 t541 _ ?side1 ?side2 A104.out).mono ?_); (case side1 => repeat (first | exact (Kd.R_reads' HO_518001.out).2.2 | (with_reducible refine Kd.C_alloc ?_ _) | (with_reducible refine Kd.C_drewN ?_ _) | (with_reducible refine Kd.C_drew ?_))); (case side2 => exact (Kd.R_reads' HO_518001.out).2.1); rintro e w110 ⟨rfl, hb⟩; refine ⟨_, rfl, ?_⟩; have n0_ := ak (Kd.R_below d14_9 hb); have n1_ := ak (Kd.R_below d14_10 hb); have n2_ := ak (Kd.R_below (by (with_reducible repeat (first | apply Kd.R_alloc | apply Kd.R_drewN | apply Kd.R_drew)); exact HO_540001.out) hb); have n3_ := ak (blk_below (g := gb493) (o := .cells #[.int .i64 a2_0, .int .i64 a2_1, .string a2_2] 47 (0, 0)) d14_1 hb); have n4_ := ak (blk_below (g := gb506) (o := .cells #[.int .i64 t502, .slice Ao32 t503.length co32] 52 (0, 0)) d14_2 hb); have n5_ := ak (blk_below (g := gb517) (o := .cells #[.int .i64 t513, .slice Ao44 t527.length co44] 52 (0, 0)) d14_7 hb); have n6_ := ak (blk_below (g := gb539) (o := .cells #[.int .i64 t535, .slice Ao93 t536.length co93] 52 (0, 0)) d14_12 hb); have n7_ := ak (below_step d14_4 hb); clear HO_507001 HO_518001 HO_540001 BK493 BK506 BK517 BK539 HB; have HO_507001 := n0_; have HO_518001 := n1_; have HO_540001 := n2_; have BK493 := n3_; have BK506 := n4_; have BK517 := n5_; have BK539 := n6_; have HB := n7_; clear n0_ n1_ n2_ n3_ n4_ n5_ n6_ n7_; (try clear hb)))
                       go_ret
                       exact ⟨by first | rfl | (simp [errW_none, errW_some] <;> rfl) | (simp [*, errW_none, errW_some] <;> rfl), by repeat (first | (with_reducible first | exact HB.out | apply below_alloc | apply pw_below_drewN | apply below_drew1 | refine below_set ?_ GE493.out | refine below_set ?_ GE506.out | refine below_set ?_ GE517.out | refine below_set ?_ GE539.out) | exact HB.out)⟩
                      ·rw [if_neg c105] at H
                       have c105b0 : decide (t541 < 0) = false := decide_eq_false c105
                       clear c105
                       by_cases c111 : t541 = t526
                       ·rw [if_pos c111] at H
                        have c111b0 : (t541 == t526) = true := beq_iff_eq.mpr c111
                        have c111b1 : (t541 != t526) = false := bne_eq_false_iff_eq.mpr c111
                        clear c111
                        obtain rfl := Option.some.inj H
                        have hnb112 := NB517_493.out
                        have hnc112 := NB493_517.out
                        have hnb113 := NB517_506.out
                        have hnc113 := NB506_517.out
                        have hnb114 := NB517_539.out
                        have hnc114 := NB539_517.out
                        have hcz115_0 : wc.cell? ⟨gb517, 0, none⟩ = some (.int .i64 t513) := (blk_cell BK517.out 0).trans rfl
                        have hcz115_1 : wc.cell? ⟨gb517, 1, none⟩ = some (.slice Ao44 t527.length co44) := (blk_cell BK517.out 1).trans rfl
                        have hfz115_0 := blk_frozen BK517.out 0
                        have hfz115_1 := blk_frozen BK517.out 1
                        go_wp2_with (first | ((with_reducible refine gate_callee (f := 35) rfl ?_); refine goesL_ (some 84) rfl rfl Tryd.func35 (by kernel_rfl) rfl #[.agg #[.int .i64 t513, .slice Ao44 t527.length co44], .int .i64 1] rfl d14_6 ?_; (with_reducible refine (laws_heldGlobalsResult.calls kj83 t513 _ _ t527 1 t541 _ ?side1 ?side2 A104.out).mono ?_); (case side1 => repeat (first | exact (Kd.R_reads' HO_518001.out).2.2 | (with_reducible refine Kd.C_alloc ?_ _) | (with_reducible refine Kd.C_drewN ?_ _) | (with_reducible refine Kd.C_drew ?_))); (case side2 => exact (Kd.R_reads' HO_518001.out).2.1); rintro e w116 ⟨rfl, hb⟩; refine ⟨_, rfl, ?_⟩; have n0_ := ak (Kd.R_below d14_9 hb); have n1_ := ak (Kd.R_below d14_10 hb); have n2_ := ak (Kd.R_below (by (with_reducible repeat (first | apply Kd.R_alloc | apply Kd.R_drewN | apply Kd.R_drew)); exact HO_540001.out) hb); have n3_ := ak (blk_below (g := gb493) (o := .cells #[.int .i64 a2_0, .int .i64 a2_1, .string a2_2] 47 (0, 0)) d14_1 hb); have n4_ := ak (blk_below (g := gb506) (o := .cells #[.int .i64 t502, .slice Ao32 t503.length co32] 52 (0, 0)) d14_2 hb); have n5_ := ak (blk_below (g := gb517) (o := .cells #[.int .i64 t513, .slice Ao44 t527.length co44] 52 (0, 0)) d14_7 hb); have n6_ := ak (blk_below (g := gb539) (o := .cells #[.int .i64 t535, .slice Ao93 t536.length co93] 52 (0, 0)) d14_12 hb); have n7_ := ak (below_step d14_4 hb); clear HO_507001 HO_518001 HO_540001 BK493 BK506 BK517 BK539 HB; have HO_507001 := n0_; have HO_518001 := n1_; have HO_540001 := n2_; have BK493 := n3_; have BK506 := n4_; have BK517 := n5_; have BK539 := n6_; have HB := n7_; clear n0_ n1_ n2_ n3_ n4_ n5_ n6_ n7_; (try clear hb)))
                        go_ret
                        exact ⟨by first | rfl | (simp [errW_none, errW_some] <;> rfl) | (simp [*, errW_none, errW_some] <;> rfl), by repeat (first | (with_reducible first | exact HB.out | apply below_alloc | apply pw_below_drewN | apply below_drew1 | refine below_set ?_ GE493.out | refine below_set ?_ GE506.out | refine below_set ?_ GE517.out | refine below_set ?_ GE539.out) | exact HB.out)⟩
                       ·rw [if_neg c111] at H
                        have c111b0 : (t541 == t526) = false := beq_eq_false_iff_ne.mpr c111
                        have c111b1 : (t541 != t526) = true := bne_iff_ne.mpr c111
                        obtain rfl := Option.some.inj H
                        have hnb117 := NB517_493.out
                        have hnc117 := NB493_517.out
                        have hnb118 := NB517_506.out
                        have hnc118 := NB506_517.out
                        have hnb119 := NB517_539.out
                        have hnc119 := NB539_517.out
                        have hcz120_0 : wc.cell? ⟨gb517, 0, none⟩ = some (.int .i64 t513) := (blk_cell BK517.out 0).trans rfl
                        have hcz120_1 : wc.cell? ⟨gb517, 1, none⟩ = some (.slice Ao44 t527.length co44) := (blk_cell BK517.out 1).trans rfl
                        have hfz120_0 := blk_frozen BK517.out 0
                        have hfz120_1 := blk_frozen BK517.out 1
                        go_wp2_with (first | ((with_reducible refine gate_callee (f := 35) rfl ?_); refine goesL_ (some 84) rfl rfl Tryd.func35 (by kernel_rfl) rfl #[.agg #[.int .i64 t513, .slice Ao44 t527.length co44], .int .i64 1] rfl d14_6 ?_; (with_reducible refine (laws_heldGlobalsResult.calls kj83 t513 _ _ t527 1 t541 _ ?side1 ?side2 A104.out).mono ?_); (case side1 => repeat (first | exact (Kd.R_reads' HO_518001.out).2.2 | (with_reducible refine Kd.C_alloc ?_ _) | (with_reducible refine Kd.C_drewN ?_ _) | (with_reducible refine Kd.C_drew ?_))); (case side2 => exact (Kd.R_reads' HO_518001.out).2.1); rintro e w121 ⟨rfl, hb⟩; refine ⟨_, rfl, ?_⟩; have n0_ := ak (Kd.R_below d14_9 hb); have n1_ := ak (Kd.R_below d14_10 hb); have n2_ := ak (Kd.R_below (by (with_reducible repeat (first | apply Kd.R_alloc | apply Kd.R_drewN | apply Kd.R_drew)); exact HO_540001.out) hb); have n3_ := ak (blk_below (g := gb493) (o := .cells #[.int .i64 a2_0, .int .i64 a2_1, .string a2_2] 47 (0, 0)) d14_1 hb); have n4_ := ak (blk_below (g := gb506) (o := .cells #[.int .i64 t502, .slice Ao32 t503.length co32] 52 (0, 0)) d14_2 hb); have n5_ := ak (blk_below (g := gb517) (o := .cells #[.int .i64 t513, .slice Ao44 t527.length co44] 52 (0, 0)) d14_7 hb); have n6_ := ak (blk_below (g := gb539) (o := .cells #[.int .i64 t535, .slice Ao93 t536.length co93] 52 (0, 0)) d14_12 hb); have n7_ := ak (below_step d14_4 hb); clear HO_507001 HO_518001 HO_540001 BK493 BK506 BK517 BK539 HB; have HO_507001 := n0_; have HO_518001 := n1_; have HO_540001 := n2_; have BK493 := n3_; have BK506 := n4_; have BK517 := n5_; have BK539 := n6_; have HB := n7_; clear n0_ n1_ n2_ n3_ n4_ n5_ n6_ n7_; (try clear hb)))
                        go_ret
                        exact ⟨by first | rfl | (simp [errW_none, errW_some] <;> rfl) | (simp [*, errW_none, errW_some] <;> rfl), by repeat (first | (with_reducible first | exact HB.out | apply below_alloc | apply pw_below_drewN | apply below_drew1 | refine below_set ?_ GE493.out | refine below_set ?_ GE506.out | refine below_set ?_ GE517.out | refine below_set ?_ GE539.out) | exact HB.out)⟩

end Go.Proofs.YthjfdohcdkpdnaaDoor.A
