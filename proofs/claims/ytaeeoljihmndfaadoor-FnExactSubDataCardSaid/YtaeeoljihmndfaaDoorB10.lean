/- Walks of the program's functions: each Go function's answer as a plain Lean function, and that the call comes to it. Written by a program. Conditions: those in each theorem's own head. -/
import Derived.Test.YtaeeoljihmndfaaDoorB0
import Derived.Test.YtaeeoljihmndfaaDoorB1
import Derived.Test.YtaeeoljihmndfaaDoorB2
import Derived.Test.YtaeeoljihmndfaaDoorB5
import Derived.Test.YtaeeoljihmndfaaDoorB8
import Derived.Test.YtaeeoljihmndfaaDoorB9
namespace Go.Proofs.YtaeeoljihmndfaaDoor.B
open Go.RowKit Go.Proofs.YtaeeoljihmndfaaDoorW.PrintWords Go.Proofs.YtaeeoljihmndfaaDoorW.PrintLast Go.Proofs.YtaeeoljihmndfaaDoorW.PrintMore
attribute [local go_sem] max2_int min2_int max_two min_two max_three min_three max_four min_four   -- for this text's walks alone
set_option linter.unusedVariables false
set_option linter.unusedSimpArgs false

theorem d10_1 {p : Prop} (h : p := by repeat (first | (with_reducible first | exact HB.out | apply below_alloc | apply pw_below_drewN | apply below_drew1 | refine below_set ?_ GE241.out | refine below_set ?_ GE250.out) | exact HB.out)) : p := h
theorem d10_2 {p : Prop} (h : p := by (try simp only [List.map_toArray, List.map_cons, List.map_nil]); first | done | rfl | (simp only [List.length_drop, List.length_take]; rfl)) : p := h
theorem d10_3 {p : Prop} (h : p := by (with_reducible repeat (first | refine blk_drewN ?_ _ | refine blk_drew ?_ | refine blk_alloc ?_ _)); exact BK241.out) : p := h
theorem d10_4 {p : Prop} (h : p := by (with_reducible repeat (first | refine blk_drewN ?_ _ | refine blk_drew ?_ | refine blk_alloc ?_ _)); exact BK250.out) : p := h
theorem d10_5 {p : Prop} (h : p := by (with_reducible repeat (first | apply Kd.R_alloc | apply Kd.R_drewN | apply Kd.R_drew)); exact HO_242002.out) : p := h
theorem d10_6 {p : Prop} (h : p := by (with_reducible repeat (first | apply Kd.R_alloc | apply Kd.R_drewN | apply Kd.R_drew)); exact HO_251002.out) : p := h
theorem d10_7 {p : Prop} (h : p := by repeat (first | (with_reducible first | exact HB.out | apply below_alloc | apply pw_below_drewN | apply below_drew1 | refine below_set ?_ GE241.out) | exact HB.out)) : p := h
theorem d10_8 {p : Prop} (h : p := by repeat (first | (with_reducible first | exact HB.out | apply below_alloc | apply pw_below_drewN | apply below_drew1) | exact HB.out)) : p := h
theorem d10_9 {p : Prop} (h : p := by repeat (first | (with_reducible first | exact HB.out | apply below_alloc | apply pw_below_drewN | apply below_drew1 | refine below_set ?_ GE241.out | refine below_set ?_ GE250.out | refine below_set ?_ GE270.out) | exact HB.out)) : p := h
theorem d10_10 {p : Prop} (h : p := by (with_reducible repeat (first | apply Kd.R_alloc | apply Kd.R_drewN | apply Kd.R_drew)); exact HO235.out) : p := h
theorem d10_11 {p : Prop} (h : p := by (with_reducible repeat (first | apply Kd.R_alloc | apply Kd.R_drewN | apply Kd.R_drew)); exact HO240.out) : p := h

/-! ### laws_FnExactSubData: function 5 -/
mutual
def laws_FnExactSubData.j0 : Nat → List (S96) → Int → Option (Bool)
  | 0, _, _ => none
  | k + 1, x0, x1 => (laws_toDatumS.f k x0).bind fun t233 => ((spec_SubData.f k t233 x1).bind fun bt236 => ((laws_toDatumS.f k x0).bind fun t242 => ((impl_SubData.f k t242 x1).bind fun bt245 => ((laws_eqDataResult.f k bt245.1 bt245.2.1 bt245.2.2 bt236.1 bt236.2.1 bt236.2.2).bind fun t251 => (if t251 = true then (laws_FnExactSubData.j1 k x0 x1 t242 bt236.1 bt236.2.1 bt236.2.2 bt245.1 bt245.2.1 bt245.2.2) else (some false))))))
def laws_FnExactSubData.j1 : Nat → List (S96) → Int → List (S99) → Int → Int → List (S99) → Int → Int → List (S99) → Option (Bool)
  | 0, _, _, _, _, _, _, _, _, _ => none
  | k + 1, x0, x1, x7, x242000, x242001, x242002, x251000, x251001, x251002 => (laws_toDatumS.f k x0).bind fun t252 => ((laws_eqDatumS.f k x7 t252).bind fun t255 => (if t255 = true then (laws_FnExactSubData.j2 k x0 x1 x7 x242000 x242001 x242002 x251000 x251001 x251002) else (some false)))
def laws_FnExactSubData.j2 : Nat → List (S96) → Int → List (S99) → Int → Int → List (S99) → Int → Int → List (S99) → Option (Bool)
  | 0, _, _, _, _, _, _, _, _, _ => none
  | k + 1, x0, x1, x7, x242000, x242001, x242002, x251000, x251001, x251002 => (laws_markDatumS.f k x7 1).bind fun bt256 => (if bt256.1 < 0 then (laws_FnExactSubData.j3 k x0 x1 true x242000 x242001 x242002 x251000 x251001 x251002) else ((laws_eqDataResult.f k x251000 x251001 x251002 x242000 x242001 x242002).bind fun t258 => (laws_FnExactSubData.j3 k x0 x1 (!t258) x242000 x242001 x242002 x251000 x251001 x251002)))
def laws_FnExactSubData.j3 : Nat → List (S96) → Int → Bool → Int → Int → List (S99) → Int → Int → List (S99) → Option (Bool)
  | 0, _, _, _, _, _, _, _, _, _ => none
  | k + 1, x0, x1, x46, x242000, x242001, x242002, x251000, x251001, x251002 => if x46 = true then (some false) else (laws_FnExactSubData.j4 k x0 x1 x242000 x242001 x242002 x251000 x251001 x251002)
def laws_FnExactSubData.j4 : Nat → List (S96) → Int → Int → Int → List (S99) → Int → Int → List (S99) → Option (Bool)
  | 0, _, _, _, _, _, _, _, _ => none
  | k + 1, x0, x1, x242000, x242001, x242002, x251000, x251001, x251002 => (laws_markDataResult.f k x251000 x251001 x251002 1).bind fun bt259 => ((laws_heldDataResult.f k x251000 x251001 bt259.2 1).bind fun t261 => (if t261 < 0 then (some false) else (laws_FnExactSubData.j5 k x0 x1 bt259.1 t261 x242000 x242001 x242002 x251000 x251001 bt259.2)))
def laws_FnExactSubData.j5 : Nat → List (S96) → Int → Int → Int → Int → Int → List (S99) → Int → Int → List (S99) → Option (Bool)
  | 0, _, _, _, _, _, _, _, _, _, _ => none
  | k + 1, x0, x1, x10, x11, x242000, x242001, x242002, x251000, x251001, x251002 => if x11 = x10 then (laws_FnExactSubData.j6 k x0 x1 x10 x242000 x242001 x242002 x251000 x251001 x251002) else (some false)
def laws_FnExactSubData.j6 : Nat → List (S96) → Int → Int → Int → Int → List (S99) → Int → Int → List (S99) → Option (Bool)
  | 0, _, _, _, _, _, _, _, _, _ => none
  | k + 1, x0, x1, x10, x242000, x242001, x242002, x251000, x251001, x251002 => (laws_toDatumS.f k x0).bind fun t262 => ((impl_SubData.f k t262 x1).bind fun bt265 => ((laws_eqDataResult.f k bt265.1 bt265.2.1 bt265.2.2 x242000 x242001 x242002).bind fun t271 => (if t271 = true then (laws_FnExactSubData.j7 k x10 x251000 x251001 x251002) else (some false))))
def laws_FnExactSubData.j7 : Nat → Int → Int → Int → List (S99) → Option (Bool)
  | 0, _, _, _, _ => none
  | k + 1, x10, x251000, x251001, x251002 => (laws_heldDataResult.f k x251000 x251001 x251002 1).bind fun t272 => (if t272 < 0 then (some false) else (if t272 = x10 then (some true) else (some false)))
end
def laws_FnExactSubData.f (k : Nat) (l0 : List (S96)) (a1 : Int) : Option (Bool) := (laws_szDatumS.f k l0 1048576).bind fun t232 => (if t232 < 0 then (some true) else (laws_FnExactSubData.j0 k l0 a1))
theorem laws_FnExactSubData.mono_l : ∀ k, (∀ y0 y1, LeO (laws_FnExactSubData.j0 k y0 y1) (laws_FnExactSubData.j0 (k + 1) y0 y1)) ∧ (∀ y0 y1 y2 y3 y4 y5 y6 y7 y8, LeO (laws_FnExactSubData.j1 k y0 y1 y2 y3 y4 y5 y6 y7 y8) (laws_FnExactSubData.j1 (k + 1) y0 y1 y2 y3 y4 y5 y6 y7 y8)) ∧ (∀ y0 y1 y2 y3 y4 y5 y6 y7 y8, LeO (laws_FnExactSubData.j2 k y0 y1 y2 y3 y4 y5 y6 y7 y8) (laws_FnExactSubData.j2 (k + 1) y0 y1 y2 y3 y4 y5 y6 y7 y8)) ∧ (∀ y0 y1 y2 y3 y4 y5 y6 y7 y8, LeO (laws_FnExactSubData.j3 k y0 y1 y2 y3 y4 y5 y6 y7 y8) (laws_FnExactSubData.j3 (k + 1) y0 y1 y2 y3 y4 y5 y6 y7 y8)) ∧ (∀ y0 y1 y2 y3 y4 y5 y6 y7, LeO (laws_FnExactSubData.j4 k y0 y1 y2 y3 y4 y5 y6 y7) (laws_FnExactSubData.j4 (k + 1) y0 y1 y2 y3 y4 y5 y6 y7)) ∧ (∀ y0 y1 y2 y3 y4 y5 y6 y7 y8 y9, LeO (laws_FnExactSubData.j5 k y0 y1 y2 y3 y4 y5 y6 y7 y8 y9) (laws_FnExactSubData.j5 (k + 1) y0 y1 y2 y3 y4 y5 y6 y7 y8 y9)) ∧ (∀ y0 y1 y2 y3 y4 y5 y6 y7 y8, LeO (laws_FnExactSubData.j6 k y0 y1 y2 y3 y4 y5 y6 y7 y8) (laws_FnExactSubData.j6 (k + 1) y0 y1 y2 y3 y4 y5 y6 y7 y8)) ∧ (∀ y0 y1 y2 y3, LeO (laws_FnExactSubData.j7 k y0 y1 y2 y3) (laws_FnExactSubData.j7 (k + 1) y0 y1 y2 y3))
  | 0 => ⟨fun _ _ r h => by simp [laws_FnExactSubData.j0] at h, fun _ _ _ _ _ _ _ _ _ r h => by simp [laws_FnExactSubData.j1] at h, fun _ _ _ _ _ _ _ _ _ r h => by simp [laws_FnExactSubData.j2] at h, fun _ _ _ _ _ _ _ _ _ r h => by simp [laws_FnExactSubData.j3] at h, fun _ _ _ _ _ _ _ _ r h => by simp [laws_FnExactSubData.j4] at h, fun _ _ _ _ _ _ _ _ _ _ r h => by simp [laws_FnExactSubData.j5] at h, fun _ _ _ _ _ _ _ _ _ r h => by simp [laws_FnExactSubData.j6] at h, fun _ _ _ _ r h => by simp [laws_FnExactSubData.j7] at h⟩
  | k + 1 => by
    obtain ⟨ih0, ih1, ih2, ih3, ih4, ih5, ih6, ih7⟩ := laws_FnExactSubData.mono_l k
    refine ⟨?_, ?_, ?_, ?_, ?_, ?_, ?_, ?_⟩
    · intro y0 y1
      unfold laws_FnExactSubData.j0
      repeat' first
      | (with_reducible exact ih0 _ _)
      | (with_reducible exact ih1 _ _ _ _ _ _ _ _ _)
      | (with_reducible exact ih2 _ _ _ _ _ _ _ _ _)
      | (with_reducible exact ih3 _ _ _ _ _ _ _ _ _)
      | (with_reducible exact ih4 _ _ _ _ _ _ _ _)
      | (with_reducible exact ih5 _ _ _ _ _ _ _ _ _ _)
      | (with_reducible exact ih6 _ _ _ _ _ _ _ _ _)
      | (with_reducible exact ih7 _ _ _ _)
      | (with_reducible exact impl_SubData.mono _ _ _)
      | (with_reducible exact laws_eqDataResult.mono _ _ _ _ _ _ _)
      | (with_reducible exact laws_eqDatumS.mono _ _ _)
      | (with_reducible exact laws_heldDataResult.mono _ _ _ _ _)
      | (with_reducible exact laws_markDataResult.mono _ _ _ _ _)
      | (with_reducible exact laws_markDatumS.mono _ _ _)
      | (with_reducible exact laws_szDatumS.mono _ _ _)
      | (with_reducible exact laws_toDatumS.mono _ _)
      | (with_reducible exact spec_SubData.mono _ _ _)
      | (with_reducible exact LeO.refl _)
      | (with_reducible exact LeO.none _)
      | (with_reducible refine LeO.ite ?_ ?_)
      | (with_reducible refine LeO.bind ?_ (fun _ => ?_))
      | exact ih0 _ _
      | exact ih1 _ _ _ _ _ _ _ _ _
      | exact ih2 _ _ _ _ _ _ _ _ _
      | exact ih3 _ _ _ _ _ _ _ _ _
      | exact ih4 _ _ _ _ _ _ _ _
      | exact ih5 _ _ _ _ _ _ _ _ _ _
      | exact ih6 _ _ _ _ _ _ _ _ _
      | exact ih7 _ _ _ _
      | exact impl_SubData.mono _ _ _
      | exact laws_eqDataResult.mono _ _ _ _ _ _ _
      | exact laws_eqDatumS.mono _ _ _
      | exact laws_heldDataResult.mono _ _ _ _ _
      | exact laws_markDataResult.mono _ _ _ _ _
      | exact laws_markDatumS.mono _ _ _
      | exact laws_szDatumS.mono _ _ _
      | exact laws_toDatumS.mono _ _
      | exact spec_SubData.mono _ _ _
      | exact LeO.none _
      | refine LeO.ite ?_ ?_
      | refine LeO.bind ?_ (fun _ => ?_)
    · intro y0 y1 y2 y3 y4 y5 y6 y7 y8
      unfold laws_FnExactSubData.j1
      repeat' first
      | (with_reducible exact ih0 _ _)
      | (with_reducible exact ih1 _ _ _ _ _ _ _ _ _)
      | (with_reducible exact ih2 _ _ _ _ _ _ _ _ _)
      | (with_reducible exact ih3 _ _ _ _ _ _ _ _ _)
      | (with_reducible exact ih4 _ _ _ _ _ _ _ _)
      | (with_reducible exact ih5 _ _ _ _ _ _ _ _ _ _)
      | (with_reducible exact ih6 _ _ _ _ _ _ _ _ _)
      | (with_reducible exact ih7 _ _ _ _)
      | (with_reducible exact impl_SubData.mono _ _ _)
      | (with_reducible exact laws_eqDataResult.mono _ _ _ _ _ _ _)
      | (with_reducible exact laws_eqDatumS.mono _ _ _)
      | (with_reducible exact laws_heldDataResult.mono _ _ _ _ _)
      | (with_reducible exact laws_markDataResult.mono _ _ _ _ _)
      | (with_reducible exact laws_markDatumS.mono _ _ _)
      | (with_reducible exact laws_szDatumS.mono _ _ _)
      | (with_reducible exact laws_toDatumS.mono _ _)
      | (with_reducible exact spec_SubData.mono _ _ _)
      | (with_reducible exact LeO.refl _)
      | (with_reducible exact LeO.none _)
      | (with_reducible refine LeO.ite ?_ ?_)
      | (with_reducible refine LeO.bind ?_ (fun _ => ?_))
      | exact ih0 _ _
      | exact ih1 _ _ _ _ _ _ _ _ _
      | exact ih2 _ _ _ _ _ _ _ _ _
      | exact ih3 _ _ _ _ _ _ _ _ _
      | exact ih4 _ _ _ _ _ _ _ _
      | exact ih5 _ _ _ _ _ _ _ _ _ _
      | exact ih6 _ _ _ _ _ _ _ _ _
      | exact ih7 _ _ _ _
      | exact impl_SubData.mono _ _ _
      | exact laws_eqDataResult.mono _ _ _ _ _ _ _
      | exact laws_eqDatumS.mono _ _ _
      | exact laws_heldDataResult.mono _ _ _ _ _
      | exact laws_markDataResult.mono _ _ _ _ _
      | exact laws_markDatumS.mono _ _ _
      | exact laws_szDatumS.mono _ _ _
      | exact laws_toDatumS.mono _ _
      | exact spec_SubData.mono _ _ _
      | exact LeO.none _
      | refine LeO.ite ?_ ?_
      | refine LeO.bind ?_ (fun _ => ?_)
    · intro y0 y1 y2 y3 y4 y5 y6 y7 y8
      unfold laws_FnExactSubData.j2
      repeat' first
      | (with_reducible exact ih0 _ _)
      | (with_reducible exact ih1 _ _ _ _ _ _ _ _ _)
      | (with_reducible exact ih2 _ _ _ _ _ _ _ _ _)
      | (with_reducible exact ih3 _ _ _ _ _ _ _ _ _)
      | (with_reducible exact ih4 _ _ _ _ _ _ _ _)
      | (with_reducible exact ih5 _ _ _ _ _ _ _ _ _ _)
      | (with_reducible exact ih6 _ _ _ _ _ _ _ _ _)
      | (with_reducible exact ih7 _ _ _ _)
      | (with_reducible exact impl_SubData.mono _ _ _)
      | (with_reducible exact laws_eqDataResult.mono _ _ _ _ _ _ _)
      | (with_reducible exact laws_eqDatumS.mono _ _ _)
      | (with_reducible exact laws_heldDataResult.mono _ _ _ _ _)
      | (with_reducible exact laws_markDataResult.mono _ _ _ _ _)
      | (with_reducible exact laws_markDatumS.mono _ _ _)
      | (with_reducible exact laws_szDatumS.mono _ _ _)
      | (with_reducible exact laws_toDatumS.mono _ _)
      | (with_reducible exact spec_SubData.mono _ _ _)
      | (with_reducible exact LeO.refl _)
      | (with_reducible exact LeO.none _)
      | (with_reducible refine LeO.ite ?_ ?_)
      | (with_reducible refine LeO.bind ?_ (fun _ => ?_))
      | exact ih0 _ _
      | exact ih1 _ _ _ _ _ _ _ _ _
      | exact ih2 _ _ _ _ _ _ _ _ _
      | exact ih3 _ _ _ _ _ _ _ _ _
      | exact ih4 _ _ _ _ _ _ _ _
      | exact ih5 _ _ _ _ _ _ _ _ _ _
      | exact ih6 _ _ _ _ _ _ _ _ _
      | exact ih7 _ _ _ _
      | exact impl_SubData.mono _ _ _
      | exact laws_eqDataResult.mono _ _ _ _ _ _ _
      | exact laws_eqDatumS.mono _ _ _
      | exact laws_heldDataResult.mono _ _ _ _ _
      | exact laws_markDataResult.mono _ _ _ _ _
      | exact laws_markDatumS.mono _ _ _
      | exact laws_szDatumS.mono _ _ _
      | exact laws_toDatumS.mono _ _
      | exact spec_SubData.mono _ _ _
      | exact LeO.none _
      | refine LeO.ite ?_ ?_
      | refine LeO.bind ?_ (fun _ => ?_)
    · intro y0 y1 y2 y3 y4 y5 y6 y7 y8
      unfold laws_FnExactSubData.j3
      repeat' first
      | (with_reducible exact ih0 _ _)
      | (with_reducible exact ih1 _ _ _ _ _ _ _ _ _)
      | (with_reducible exact ih2 _ _ _ _ _ _ _ _ _)
      | (with_reducible exact ih3 _ _ _ _ _ _ _ _ _)
      | (with_reducible exact ih4 _ _ _ _ _ _ _ _)
      | (with_reducible exact ih5 _ _ _ _ _ _ _ _ _ _)
      | (with_reducible exact ih6 _ _ _ _ _ _ _ _ _)
      | (with_reducible exact ih7 _ _ _ _)
      | (with_reducible exact impl_SubData.mono _ _ _)
      | (with_reducible exact laws_eqDataResult.mono _ _ _ _ _ _ _)
      | (with_reducible exact laws_eqDatumS.mono _ _ _)
      | (with_reducible exact laws_heldDataResult.mono _ _ _ _ _)
      | (with_reducible exact laws_markDataResult.mono _ _ _ _ _)
      | (with_reducible exact laws_markDatumS.mono _ _ _)
      | (with_reducible exact laws_szDatumS.mono _ _ _)
      | (with_reducible exact laws_toDatumS.mono _ _)
      | (with_reducible exact spec_SubData.mono _ _ _)
      | (with_reducible exact LeO.refl _)
      | (with_reducible exact LeO.none _)
      | (with_reducible refine LeO.ite ?_ ?_)
      | (with_reducible refine LeO.bind ?_ (fun _ => ?_))
      | exact ih0 _ _
      | exact ih1 _ _ _ _ _ _ _ _ _
      | exact ih2 _ _ _ _ _ _ _ _ _
      | exact ih3 _ _ _ _ _ _ _ _ _
      | exact ih4 _ _ _ _ _ _ _ _
      | exact ih5 _ _ _ _ _ _ _ _ _ _
      | exact ih6 _ _ _ _ _ _ _ _ _
      | exact ih7 _ _ _ _
      | exact impl_SubData.mono _ _ _
      | exact laws_eqDataResult.mono _ _ _ _ _ _ _
      | exact laws_eqDatumS.mono _ _ _
      | exact laws_heldDataResult.mono _ _ _ _ _
      | exact laws_markDataResult.mono _ _ _ _ _
      | exact laws_markDatumS.mono _ _ _
      | exact laws_szDatumS.mono _ _ _
      | exact laws_toDatumS.mono _ _
      | exact spec_SubData.mono _ _ _
      | exact LeO.none _
      | refine LeO.ite ?_ ?_
      | refine LeO.bind ?_ (fun _ => ?_)
    · intro y0 y1 y2 y3 y4 y5 y6 y7
      unfold laws_FnExactSubData.j4
      repeat' first
      | (with_reducible exact ih0 _ _)
      | (with_reducible exact ih1 _ _ _ _ _ _ _ _ _)
      | (with_reducible exact ih2 _ _ _ _ _ _ _ _ _)
      | (with_reducible exact ih3 _ _ _ _ _ _ _ _ _)
      | (with_reducible exact ih4 _ _ _ _ _ _ _ _)
      | (with_reducible exact ih5 _ _ _ _ _ _ _ _ _ _)
      | (with_reducible exact ih6 _ _ _ _ _ _ _ _ _)
      | (with_reducible exact ih7 _ _ _ _)
      | (with_reducible exact impl_SubData.mono _ _ _)
      | (with_reducible exact laws_eqDataResult.mono _ _ _ _ _ _ _)
      | (with_reducible exact laws_eqDatumS.mono _ _ _)
      | (with_reducible exact laws_heldDataResult.mono _ _ _ _ _)
      | (with_reducible exact laws_markDataResult.mono _ _ _ _ _)
      | (with_reducible exact laws_markDatumS.mono _ _ _)
      | (with_reducible exact laws_szDatumS.mono _ _ _)
      | (with_reducible exact laws_toDatumS.mono _ _)
      | (with_reducible exact spec_SubData.mono _ _ _)
      | (with_reducible exact LeO.refl _)
      | (with_reducible exact LeO.none _)
      | (with_reducible refine LeO.ite ?_ ?_)
      | (with_reducible refine LeO.bind ?_ (fun _ => ?_))
      | exact ih0 _ _
      | exact ih1 _ _ _ _ _ _ _ _ _
      | exact ih2 _ _ _ _ _ _ _ _ _
      | exact ih3 _ _ _ _ _ _ _ _ _
      | exact ih4 _ _ _ _ _ _ _ _
      | exact ih5 _ _ _ _ _ _ _ _ _ _
      | exact ih6 _ _ _ _ _ _ _ _ _
      | exact ih7 _ _ _ _
      | exact impl_SubData.mono _ _ _
      | exact laws_eqDataResult.mono _ _ _ _ _ _ _
      | exact laws_eqDatumS.mono _ _ _
      | exact laws_heldDataResult.mono _ _ _ _ _
      | exact laws_markDataResult.mono _ _ _ _ _
      | exact laws_markDatumS.mono _ _ _
      | exact laws_szDatumS.mono _ _ _
      | exact laws_toDatumS.mono _ _
      | exact spec_SubData.mono _ _ _
      | exact LeO.none _
      | refine LeO.ite ?_ ?_
      | refine LeO.bind ?_ (fun _ => ?_)
    · intro y0 y1 y2 y3 y4 y5 y6 y7 y8 y9
      unfold laws_FnExactSubData.j5
      repeat' first
      | (with_reducible exact ih0 _ _)
      | (with_reducible exact ih1 _ _ _ _ _ _ _ _ _)
      | (with_reducible exact ih2 _ _ _ _ _ _ _ _ _)
      | (with_reducible exact ih3 _ _ _ _ _ _ _ _ _)
      | (with_reducible exact ih4 _ _ _ _ _ _ _ _)
      | (with_reducible exact ih5 _ _ _ _ _ _ _ _ _ _)
      | (with_reducible exact ih6 _ _ _ _ _ _ _ _ _)
      | (with_reducible exact ih7 _ _ _ _)
      | (with_reducible exact impl_SubData.mono _ _ _)
      | (with_reducible exact laws_eqDataResult.mono _ _ _ _ _ _ _)
      | (with_reducible exact laws_eqDatumS.mono _ _ _)
      | (with_reducible exact laws_heldDataResult.mono _ _ _ _ _)
      | (with_reducible exact laws_markDataResult.mono _ _ _ _ _)
      | (with_reducible exact laws_markDatumS.mono _ _ _)
      | (with_reducible exact laws_szDatumS.mono _ _ _)
      | (with_reducible exact laws_toDatumS.mono _ _)
      | (with_reducible exact spec_SubData.mono _ _ _)
      | (with_reducible exact LeO.refl _)
      | (with_reducible exact LeO.none _)
      | (with_reducible refine LeO.ite ?_ ?_)
      | (with_reducible refine LeO.bind ?_ (fun _ => ?_))
      | exact ih0 _ _
      | exact ih1 _ _ _ _ _ _ _ _ _
      | exact ih2 _ _ _ _ _ _ _ _ _
      | exact ih3 _ _ _ _ _ _ _ _ _
      | exact ih4 _ _ _ _ _ _ _ _
      | exact ih5 _ _ _ _ _ _ _ _ _ _
      | exact ih6 _ _ _ _ _ _ _ _ _
      | exact ih7 _ _ _ _
      | exact impl_SubData.mono _ _ _
      | exact laws_eqDataResult.mono _ _ _ _ _ _ _
      | exact laws_eqDatumS.mono _ _ _
      | exact laws_heldDataResult.mono _ _ _ _ _
      | exact laws_markDataResult.mono _ _ _ _ _
      | exact laws_markDatumS.mono _ _ _
      | exact laws_szDatumS.mono _ _ _
      | exact laws_toDatumS.mono _ _
      | exact spec_SubData.mono _ _ _
      | exact LeO.none _
      | refine LeO.ite ?_ ?_
      | refine LeO.bind ?_ (fun _ => ?_)
    · intro y0 y1 y2 y3 y4 y5 y6 y7 y8
      unfold laws_FnExactSubData.j6
      repeat' first
      | (with_reducible exact ih0 _ _)
      | (with_reducible exact ih1 _ _ _ _ _ _ _ _ _)
      | (with_reducible exact ih2 _ _ _ _ _ _ _ _ _)
      | (with_reducible exact ih3 _ _ _ _ _ _ _ _ _)
      | (with_reducible exact ih4 _ _ _ _ _ _ _ _)
      | (with_reducible exact ih5 _ _ _ _ _ _ _ _ _ _)
      | (with_reducible exact ih6 _ _ _ _ _ _ _ _ _)
      | (with_reducible exact ih7 _ _ _ _)
      | (with_reducible exact impl_SubData.mono _ _ _)
      | (with_reducible exact laws_eqDataResult.mono _ _ _ _ _ _ _)
      | (with_reducible exact laws_eqDatumS.mono _ _ _)
      | (with_reducible exact laws_heldDataResult.mono _ _ _ _ _)
      | (with_reducible exact laws_markDataResult.mono _ _ _ _ _)
      | (with_reducible exact laws_markDatumS.mono _ _ _)
      | (with_reducible exact laws_szDatumS.mono _ _ _)
      | (with_reducible exact laws_toDatumS.mono _ _)
      | (with_reducible exact spec_SubData.mono _ _ _)
      | (with_reducible exact LeO.refl _)
      | (with_reducible exact LeO.none _)
      | (with_reducible refine LeO.ite ?_ ?_)
      | (with_reducible refine LeO.bind ?_ (fun _ => ?_))
      | exact ih0 _ _
      | exact ih1 _ _ _ _ _ _ _ _ _
      | exact ih2 _ _ _ _ _ _ _ _ _
      | exact ih3 _ _ _ _ _ _ _ _ _
      | exact ih4 _ _ _ _ _ _ _ _
      | exact ih5 _ _ _ _ _ _ _ _ _ _
      | exact ih6 _ _ _ _ _ _ _ _ _
      | exact ih7 _ _ _ _
      | exact impl_SubData.mono _ _ _
      | exact laws_eqDataResult.mono _ _ _ _ _ _ _
      | exact laws_eqDatumS.mono _ _ _
      | exact laws_heldDataResult.mono _ _ _ _ _
      | exact laws_markDataResult.mono _ _ _ _ _
      | exact laws_markDatumS.mono _ _ _
      | exact laws_szDatumS.mono _ _ _
      | exact laws_toDatumS.mono _ _
      | exact spec_SubData.mono _ _ _
      | exact LeO.none _
      | refine LeO.ite ?_ ?_
      | refine LeO.bind ?_ (fun _ => ?_)
    · intro y0 y1 y2 y3
      unfold laws_FnExactSubData.j7
      repeat' first
      | (with_reducible exact ih0 _ _)
      | (with_reducible exact ih1 _ _ _ _ _ _ _ _ _)
      | (with_reducible exact ih2 _ _ _ _ _ _ _ _ _)
      | (with_reducible exact ih3 _ _ _ _ _ _ _ _ _)
      | (with_reducible exact ih4 _ _ _ _ _ _ _ _)
      | (with_reducible exact ih5 _ _ _ _ _ _ _ _ _ _)
      | (with_reducible exact ih6 _ _ _ _ _ _ _ _ _)
      | (with_reducible exact ih7 _ _ _ _)
      | (with_reducible exact impl_SubData.mono _ _ _)
      | (with_reducible exact laws_eqDataResult.mono _ _ _ _ _ _ _)
      | (with_reducible exact laws_eqDatumS.mono _ _ _)
      | (with_reducible exact laws_heldDataResult.mono _ _ _ _ _)
      | (with_reducible exact laws_markDataResult.mono _ _ _ _ _)
      | (with_reducible exact laws_markDatumS.mono _ _ _)
      | (with_reducible exact laws_szDatumS.mono _ _ _)
      | (with_reducible exact laws_toDatumS.mono _ _)
      | (with_reducible exact spec_SubData.mono _ _ _)
      | (with_reducible exact LeO.refl _)
      | (with_reducible exact LeO.none _)
      | (with_reducible refine LeO.ite ?_ ?_)
      | (with_reducible refine LeO.bind ?_ (fun _ => ?_))
      | exact ih0 _ _
      | exact ih1 _ _ _ _ _ _ _ _ _
      | exact ih2 _ _ _ _ _ _ _ _ _
      | exact ih3 _ _ _ _ _ _ _ _ _
      | exact ih4 _ _ _ _ _ _ _ _
      | exact ih5 _ _ _ _ _ _ _ _ _ _
      | exact ih6 _ _ _ _ _ _ _ _ _
      | exact ih7 _ _ _ _
      | exact impl_SubData.mono _ _ _
      | exact laws_eqDataResult.mono _ _ _ _ _ _ _
      | exact laws_eqDatumS.mono _ _ _
      | exact laws_heldDataResult.mono _ _ _ _ _
      | exact laws_markDataResult.mono _ _ _ _ _
      | exact laws_markDatumS.mono _ _ _
      | exact laws_szDatumS.mono _ _ _
      | exact laws_toDatumS.mono _ _
      | exact spec_SubData.mono _ _ _
      | exact LeO.none _
      | refine LeO.ite ?_ ?_
      | refine LeO.bind ?_ (fun _ => ?_)
theorem laws_FnExactSubData.mono : ∀ a0 a1 k, LeO (laws_FnExactSubData.f k a0 a1) (laws_FnExactSubData.f (k + 1) a0 a1) := by
  intro a0 a1 k
  obtain ⟨ih0, ih1, ih2, ih3, ih4, ih5, ih6, ih7⟩ := laws_FnExactSubData.mono_l k
  unfold laws_FnExactSubData.f
  repeat' first
      | (with_reducible exact ih0 _ _)
      | (with_reducible exact ih1 _ _ _ _ _ _ _ _ _)
      | (with_reducible exact ih2 _ _ _ _ _ _ _ _ _)
      | (with_reducible exact ih3 _ _ _ _ _ _ _ _ _)
      | (with_reducible exact ih4 _ _ _ _ _ _ _ _)
      | (with_reducible exact ih5 _ _ _ _ _ _ _ _ _ _)
      | (with_reducible exact ih6 _ _ _ _ _ _ _ _ _)
      | (with_reducible exact ih7 _ _ _ _)
      | (with_reducible exact impl_SubData.mono _ _ _)
      | (with_reducible exact laws_eqDataResult.mono _ _ _ _ _ _ _)
      | (with_reducible exact laws_eqDatumS.mono _ _ _)
      | (with_reducible exact laws_heldDataResult.mono _ _ _ _ _)
      | (with_reducible exact laws_markDataResult.mono _ _ _ _ _)
      | (with_reducible exact laws_markDatumS.mono _ _ _)
      | (with_reducible exact laws_szDatumS.mono _ _ _)
      | (with_reducible exact laws_toDatumS.mono _ _)
      | (with_reducible exact spec_SubData.mono _ _ _)
      | (with_reducible exact LeO.refl _)
      | (with_reducible exact LeO.none _)
      | (with_reducible refine LeO.ite ?_ ?_)
      | (with_reducible refine LeO.bind ?_ (fun _ => ?_))
      | exact ih0 _ _
      | exact ih1 _ _ _ _ _ _ _ _ _
      | exact ih2 _ _ _ _ _ _ _ _ _
      | exact ih3 _ _ _ _ _ _ _ _ _
      | exact ih4 _ _ _ _ _ _ _ _
      | exact ih5 _ _ _ _ _ _ _ _ _ _
      | exact ih6 _ _ _ _ _ _ _ _ _
      | exact ih7 _ _ _ _
      | exact impl_SubData.mono _ _ _
      | exact laws_eqDataResult.mono _ _ _ _ _ _ _
      | exact laws_eqDatumS.mono _ _ _
      | exact laws_heldDataResult.mono _ _ _ _ _
      | exact laws_markDataResult.mono _ _ _ _ _
      | exact laws_markDatumS.mono _ _ _
      | exact laws_szDatumS.mono _ _ _
      | exact laws_toDatumS.mono _ _
      | exact spec_SubData.mono _ _ _
      | exact LeO.none _
      | refine LeO.ite ?_ ?_
      | refine LeO.bind ?_ (fun _ => ?_)
set_option maxHeartbeats 8000000 in
set_option maxRecDepth 100000 in
theorem laws_FnExactSubData.calls (k : Nat) (A0 : Option Addr) (c0 : Nat) (l0 : List (S96)) (a1 : Int) (r : Bool) (w : World) (hr0 : Kd.C k96 w A0 l0.length l0) (hc0 : l0.length ≤ c0) (h : laws_FnExactSubData.f k l0 a1 = some r) :
    Calls Tryd.prog 5 #[.slice A0 l0.length c0, .int .i64 a1] w fun e w' => e = .returned (.bool r) ∧ Below w.heap.size w w' := by
  have hu52 := Tryd.underlying52
  have HR0 := ak hr0
  have HC0 := ak hc0
  clear hr0 hc0
  have HB := ak (Below.refl w.heap.size w)
  have H : ((laws_szDatumS.f k l0 1048576).bind fun t232 => (if t232 < 0 then (some true) else (laws_FnExactSubData.j0 k l0 a1))) = some r := h
  clear h
  replace H := Option.bind_eq_some_iff.mp H
  obtain ⟨t232, A30, H⟩ := H
  replace H : (if t232 < 0 then (some true) else (laws_FnExactSubData.j0 k l0 a1)) = some r := H
  have A3 := ak A30
  clear A30
  have HC4 := ak H
  clear H
  go_enter Tryd.func5, Tryd.ntmps5
  go_upto_if 17 with (first | ((with_reducible refine gate_callee (f := 16) rfl ?_); refine goesL_ (some 15) rfl rfl Tryd.func16 (by kernel_rfl) rfl #[.slice A0 l0.length c0, .int .i64 1048576] rfl d10_2 ?_; (with_reducible refine (laws_szDatumS.calls k _ _ l0 1048576 t232 _ ?side1 ?side2 A3.out).mono ?_); (case side1 => repeat (first | exact HR0.out | (with_reducible refine Kd.C_alloc ?_ _) | (with_reducible refine Kd.C_drewN ?_ _) | (with_reducible refine Kd.C_drew ?_))); (case side2 => exact HC0.out); rintro e w5 ⟨rfl, hb⟩; refine ⟨_, rfl, ?_⟩; have n0_ := ak (below_step d10_8 hb); clear HB; have HB := n0_; clear n0_; (try clear hb)))
  (try simp only [Act.put, List.setIfInBounds_toArray, List.set_cons_zero, List.set_cons_succ])
  go_cut [] (fun wc => ∃ (kq : Nat), Aside0 (laws_FnExactSubData.j0 kq l0 a1 = some r) ∧ Aside0 (kq ≤ k) ∧ Aside0 (Below w.heap.size w wc))
  case first =>
   have H := HC4.out
   clear HC4
   by_cases c6 : t232 < 0
   ·rw [if_pos c6] at H
    have c6b0 : decide (t232 < 0) = true := decide_eq_true c6
    clear c6
    (first | rw [c6b0] | (simp only [i64_w, i32_w]; rw [c6b0]) | skip)
    obtain rfl := Option.some.inj H
    go_wp2
    go_ret
    exact ⟨by first | rfl | (simp [errW_none, errW_some] <;> rfl) | (simp [*, errW_none, errW_some] <;> rfl), by repeat (first | (with_reducible first | exact HB.out | apply below_alloc | apply pw_below_drewN | apply below_drew1) | exact HB.out)⟩
   ·rw [if_neg c6] at H
    have c6b0 : decide (t232 < 0) = false := decide_eq_false c6
    clear c6
    (first | rw [c6b0] | (simp only [i64_w, i32_w]; rw [c6b0]) | skip)
    have H' := ak H
    clear H
    go_wp2
    go_meet
    case rel => exact ⟨_, H', ⟨by first | omega | exact Nat.le_refl _⟩, ⟨by repeat (first | (with_reducible first | exact HB.out | apply below_alloc | apply pw_below_drewN | apply below_drew1) | exact HB.out)⟩⟩
  case rest =>
   clear HC4
   try clear c1
   try clear c5
   obtain ⟨kq, HA, HJ3, HB⟩ := hcut
   cases kq with
   | zero => exact absurd HA.out (by simp [laws_FnExactSubData.j0])
   | succ kj3 =>
    have H := HA.out
    clear HA
    simp only [laws_FnExactSubData.j0] at H
    replace H := Option.bind_eq_some_iff.mp H
    obtain ⟨t233, A70, H⟩ := H
    replace H : ((spec_SubData.f kj3 t233 a1).bind fun bt236 => ((laws_toDatumS.f kj3 l0).bind fun t242 => ((impl_SubData.f kj3 t242 a1).bind fun bt245 => ((laws_eqDataResult.f kj3 bt245.1 bt245.2.1 bt245.2.2 bt236.1 bt236.2.1 bt236.2.2).bind fun t251 => (if t251 = true then (laws_FnExactSubData.j1 kj3 l0 a1 t242 bt236.1 bt236.2.1 bt236.2.2 bt245.1 bt245.2.1 bt245.2.2) else (some false)))))) = some r := H
    have A7 := ak A70
    clear A70
    replace H := Option.bind_eq_some_iff.mp H
    obtain ⟨⟨t236, t237, t238⟩, A80, H⟩ := H
    replace H : ((laws_toDatumS.f kj3 l0).bind fun t242 => ((impl_SubData.f kj3 t242 a1).bind fun bt245 => ((laws_eqDataResult.f kj3 bt245.1 bt245.2.1 bt245.2.2 t236 t237 t238).bind fun t251 => (if t251 = true then (laws_FnExactSubData.j1 kj3 l0 a1 t242 t236 t237 t238 bt245.1 bt245.2.1 bt245.2.2) else (some false))))) = some r := H
    have A8 := ak A80
    clear A80
    replace H := Option.bind_eq_some_iff.mp H
    obtain ⟨t242, A90, H⟩ := H
    replace H : ((impl_SubData.f kj3 t242 a1).bind fun bt245 => ((laws_eqDataResult.f kj3 bt245.1 bt245.2.1 bt245.2.2 t236 t237 t238).bind fun t251 => (if t251 = true then (laws_FnExactSubData.j1 kj3 l0 a1 t242 t236 t237 t238 bt245.1 bt245.2.1 bt245.2.2) else (some false)))) = some r := H
    have A9 := ak A90
    clear A90
    replace H := Option.bind_eq_some_iff.mp H
    obtain ⟨⟨t245, t246, t247⟩, A100, H⟩ := H
    replace H : ((laws_eqDataResult.f kj3 t245 t246 t247 t236 t237 t238).bind fun t251 => (if t251 = true then (laws_FnExactSubData.j1 kj3 l0 a1 t242 t236 t237 t238 t245 t246 t247) else (some false))) = some r := H
    have A10 := ak A100
    clear A100
    replace H := Option.bind_eq_some_iff.mp H
    obtain ⟨t251, A110, H⟩ := H
    replace H : (if t251 = true then (laws_FnExactSubData.j1 kj3 l0 a1 t242 t236 t237 t238 t245 t246 t247) else (some false)) = some r := H
    have A11 := ak A110
    clear A110
    have HC12 := ak H
    clear H
    go_upto_if 30 with (first | ((with_reducible refine gate_callee (f := 18) rfl ?_); refine goesL_ (some 19) rfl rfl Tryd.func18 (by kernel_rfl) rfl #[.slice A0 l0.length c0] rfl d10_2 ?_; (with_reducible refine (laws_toDatumS.calls kj3 _ _ l0 t233 _ ?side1 ?side2 A7.out).mono ?_); (case side1 => repeat (first | exact (Kd.C_below HR0.out HB.out) | (with_reducible refine Kd.C_alloc ?_ _) | (with_reducible refine Kd.C_drewN ?_ _) | (with_reducible refine Kd.C_drew ?_))); (case side2 => exact HC0.out); rintro e w13 ⟨v234, rfl, ho0, hb⟩; refine ⟨_, rfl, ?_⟩; have n0_ := ak (Kd.R_lower ho0 (below_size d10_8)); have n1_ := ak (below_step d10_8 hb); clear HB; have HO235 := n0_; have HB := n1_; clear n0_ n1_; (try clear hb); (try clear hk); (try clear ho0); obtain ⟨Ao14, co14, eo14⟩ := Kd.R_slice HO235.out; subst eo14) | ((with_reducible refine gate_callee (f := 25) rfl ?_); refine goesL_ (some 21) rfl rfl Tryd.func25 (by kernel_rfl) rfl #[.slice Ao14 t233.length co14, .int .i64 a1] rfl d10_2 ?_; (with_reducible refine (spec_SubData.calls kj3 _ _ t233 a1 t236 t237 t238 _ ?side1 ?side2 A8.out).mono ?_); (case side1 => repeat (first | exact (Kd.R_reads' HO235.out).2.2 | (with_reducible refine Kd.C_alloc ?_ _) | (with_reducible refine Kd.C_drewN ?_ _) | (with_reducible refine Kd.C_drew ?_))); (case side2 => exact (Kd.R_reads' HO235.out).2.1); rintro e w15 ⟨v239, rfl, ho0, hb⟩; refine ⟨_, rfl, ?_⟩; have n0_ := ak (Kd.R_elder' d10_10 (Kd.R_base ho0) hb); have n1_ := ak (Kd.R_lower (Kd.R_new' ho0 (Kd.R_lt d10_10)) (below_size d10_8)); have n2_ := ak (below_step d10_8 hb); clear HO235 HB; have HO235 := n0_; have HO240 := n1_; have HB := n2_; clear n0_ n1_ n2_; (try clear hb); (try clear hk); (try clear ho0)) | ((with_reducible refine gate_dst (N := 6) rfl ?_); refine box_event ?hg (N := 6) ?hd (cs := #[.int .i64 0, .int .i64 0, .slice none 0 0]) (t := 52) ?hr ?_; (case hd => rfl); (case hg => rfl); (case hr => first | (go_simp; done) | (go_simp; rfl)); intro gb241 hg w16 hbox hb; have n0_ := ak (Kd.R_below d10_10 hb); have n1_ := ak (Kd.R_below d10_11 hb); have n2_ := ak (below_step d10_8 hb); have n3_ := ak (hbox); have n4_ := ak ((by rw [hg]; exact (below_size d10_8) : w.heap.size ≤ gb241)); have n5_ := ak ((by rw [hg]; exact (below_size d10_8) : w.heap.size ≤ gb241)); clear HO235 HO240 HB; have HO235 := n0_; have HO240 := n1_; have HB := n2_; have BK241 := n3_; have GW241 := n4_; have GE241 := n5_; clear n0_ n1_ n2_ n3_ n4_ n5_ hb hbox hg; have hcz17_0 : w16.cell? ⟨gb241, 0, none⟩ = some (.int .i64 0) := (blk_cell BK241.out 0).trans rfl; have hcz17_1 : w16.cell? ⟨gb241, 1, none⟩ = some (.int .i64 0) := (blk_cell BK241.out 1).trans rfl; have hcz17_2 : w16.cell? ⟨gb241, 2, none⟩ = some (.slice none 0 0) := (blk_cell BK241.out 2).trans rfl; have hfz17_0 := blk_frozen BK241.out 0; have hfz17_1 := blk_frozen BK241.out 1; have hfz17_2 := blk_frozen BK241.out 2; obtain ⟨Ao18, co18, eo18⟩ := Kd.R_slice HO240.out; subst eo18) | ((with_reducible refine gate_callee (f := 18) rfl ?_); refine goesL_ (some 23) rfl rfl Tryd.func18 (by kernel_rfl) rfl #[.slice A0 l0.length c0] rfl d10_2 ?_; (with_reducible refine (laws_toDatumS.calls kj3 _ _ l0 t242 _ ?side1 ?side2 A9.out).mono ?_); (case side1 => exact Kd.C_below HR0.out d10_7); (case side2 => exact HC0.out); rintro e w19 ⟨v243, rfl, ho0, hb⟩; refine ⟨_, rfl, ?_⟩; have n0_ := ak (Kd.R_elder' (by (with_reducible repeat (first | apply Kd.R_alloc | apply Kd.R_drewN | apply Kd.R_drew)); exact (Kd.R_mono (Kd.R_far (p := ⟨gb241, 2, none⟩) (Kd.R_far (p := ⟨gb241, 1, none⟩) (Kd.R_far (p := ⟨gb241, 0, none⟩) (Kd.R_types HO235.out BK241.out (by decide)) (fun _ hk => hk.2) (.int .i64 t236)) (fun _ hk => hk.2) (.int .i64 t237)) (fun _ hk => hk.2) (.slice Ao18 t238.length co18)) (fun _ h_ => h_.1))) (Kd.R_base ho0) hb); have n1_ := ak (Kd.R_elder' (by (with_reducible repeat (first | apply Kd.R_alloc | apply Kd.R_drewN | apply Kd.R_drew)); exact (Kd.R_mono (Kd.R_far (p := ⟨gb241, 2, none⟩) (Kd.R_far (p := ⟨gb241, 1, none⟩) (Kd.R_far (p := ⟨gb241, 0, none⟩) (Kd.R_types HO240.out BK241.out (by decide)) (fun _ hk => hk.2) (.int .i64 t236)) (fun _ hk => hk.2) (.int .i64 t237)) (fun _ hk => hk.2) (.slice Ao18 t238.length co18)) (fun _ h_ => h_.1))) (Kd.R_base ho0) hb); have n2_ := ak (Kd.R_lower (Kd.R_new' (Kd.R_new' ho0 (Kd.R_lt (by (with_reducible repeat (first | apply Kd.R_alloc | apply Kd.R_drewN | apply Kd.R_drew)); exact (Kd.R_mono (Kd.R_far (p := ⟨gb241, 2, none⟩) (Kd.R_far (p := ⟨gb241, 1, none⟩) (Kd.R_far (p := ⟨gb241, 0, none⟩) (Kd.R_types HO235.out BK241.out (by decide)) (fun _ hk => hk.2) (.int .i64 t236)) (fun _ hk => hk.2) (.int .i64 t237)) (fun _ hk => hk.2) (.slice Ao18 t238.length co18)) (fun _ h_ => h_.1))))) (Kd.R_lt (by (with_reducible repeat (first | apply Kd.R_alloc | apply Kd.R_drewN | apply Kd.R_drew)); exact (Kd.R_mono (Kd.R_far (p := ⟨gb241, 2, none⟩) (Kd.R_far (p := ⟨gb241, 1, none⟩) (Kd.R_far (p := ⟨gb241, 0, none⟩) (Kd.R_types HO240.out BK241.out (by decide)) (fun _ hk => hk.2) (.int .i64 t236)) (fun _ hk => hk.2) (.int .i64 t237)) (fun _ hk => hk.2) (.slice Ao18 t238.length co18)) (fun _ h_ => h_.1))))) (below_size d10_7)); have n3_ := ak (blk_below (g := gb241) (o := .cells #[.int .i64 t236, .int .i64 t237, .slice Ao18 t238.length co18] 52 (0, 0)) (by (with_reducible repeat (first | refine blk_drewN ?_ _ | refine blk_drew ?_ | refine blk_alloc ?_ _)); refine blk_put (cs := #[.int .i64 t236, .int .i64 t237, .slice none 0 0]) ?_ 2 _ rfl; (with_reducible repeat (first | refine blk_drewN ?_ _ | refine blk_drew ?_ | refine blk_alloc ?_ _)); refine blk_put (cs := #[.int .i64 t236, .int .i64 0, .slice none 0 0]) ?_ 1 _ rfl; (with_reducible repeat (first | refine blk_drewN ?_ _ | refine blk_drew ?_ | refine blk_alloc ?_ _)); refine blk_put (cs := #[.int .i64 0, .int .i64 0, .slice none 0 0]) ?_ 0 _ rfl; (with_reducible repeat (first | refine blk_drewN ?_ _ | refine blk_drew ?_ | refine blk_alloc ?_ _)); exact BK241.out) hb); have n4_ := ak (below_step d10_7 hb); clear HO235 HO240 BK241 HB; have HO235 := n0_; have HO240 := n1_; have HO244 := n2_; have BK241 := n3_; have HB := n4_; clear n0_ n1_ n2_ n3_ n4_; (try clear hb); (try clear hk); (try clear ho0); obtain ⟨Ao20, co20, eo20⟩ := Kd.R_slice HO244.out; subst eo20) | ((with_reducible refine gate_callee (f := 26) rfl ?_); refine goesL_ (some 26) rfl rfl Tryd.func26 (by kernel_rfl) rfl #[.slice Ao20 t242.length co20, .int .i64 a1] rfl d10_2 ?_; (with_reducible refine (impl_SubData.calls kj3 _ _ t242 a1 t245 t246 t247 _ ?side1 ?side2 A10.out).mono ?_); (case side1 => repeat (first | exact (Kd.R_reads' HO244.out).2.2 | (with_reducible refine Kd.C_alloc ?_ _) | (with_reducible refine Kd.C_drewN ?_ _) | (with_reducible refine Kd.C_drew ?_))); (case side2 => exact (Kd.R_reads' HO244.out).2.1); rintro e w21 ⟨v248, rfl, ho0, hb⟩; refine ⟨_, rfl, ?_⟩; have n0_ := ak (Kd.R_elder' d10_10 (Kd.R_base ho0) hb); have n1_ := ak (Kd.R_elder' d10_11 (Kd.R_base ho0) hb); have n2_ := ak (Kd.R_elder' (by (with_reducible repeat (first | apply Kd.R_alloc | apply Kd.R_drewN | apply Kd.R_drew)); exact HO244.out) (Kd.R_base ho0) hb); have n3_ := ak (Kd.R_lower (Kd.R_new' (Kd.R_new' (Kd.R_new' ho0 (Kd.R_lt d10_10)) (Kd.R_lt d10_11)) (Kd.R_lt (by (with_reducible repeat (first | apply Kd.R_alloc | apply Kd.R_drewN | apply Kd.R_drew)); exact HO244.out))) (below_size d10_7)); have n4_ := ak (blk_below (g := gb241) (o := .cells #[.int .i64 t236, .int .i64 t237, .slice Ao18 t238.length co18] 52 (0, 0)) d10_3 hb); have n5_ := ak (below_step d10_7 hb); clear HO235 HO240 HO244 BK241 HB; have HO235 := n0_; have HO240 := n1_; have HO244 := n2_; have HO249 := n3_; have BK241 := n4_; have HB := n5_; clear n0_ n1_ n2_ n3_ n4_ n5_; (try clear hb); (try clear hk); (try clear ho0)) | ((with_reducible refine gate_dst (N := 8) rfl ?_); refine box_event ?hg (N := 8) ?hd (cs := #[.int .i64 0, .int .i64 0, .slice none 0 0]) (t := 52) ?hr ?_; (case hd => rfl); (case hg => rfl); (case hr => first | (go_simp; done) | (go_simp; rfl)); intro gb250 hg w22 hbox hb; have n0_ := ak (Kd.R_below d10_10 hb); have n1_ := ak (Kd.R_below d10_11 hb); have n2_ := ak (Kd.R_below (by (with_reducible repeat (first | apply Kd.R_alloc | apply Kd.R_drewN | apply Kd.R_drew)); exact HO244.out) hb); have n3_ := ak (Kd.R_below (by (with_reducible repeat (first | apply Kd.R_alloc | apply Kd.R_drewN | apply Kd.R_drew)); exact HO249.out) hb); have n4_ := ak (blk_below (g := gb241) (o := .cells #[.int .i64 t236, .int .i64 t237, .slice Ao18 t238.length co18] 52 (0, 0)) d10_3 hb); have n5_ := ak (below_step d10_7 hb); have n6_ := ak (hbox); have n7_ := ak ((by rw [hg]; exact (below_size d10_7) : w.heap.size ≤ gb250)); have n8_ := ak ((by rw [hg]; exact (below_size d10_7) : w.heap.size ≤ gb250)); have n9_ := ak ((by rw [hg]; exact Nat.ne_of_lt (blk_lt (g := gb241) (o := .cells #[.int .i64 t236, .int .i64 t237, .slice Ao18 t238.length co18] 52 (0, 0)) d10_3) : gb241 ≠ gb250)); have n10_ := ak ((by rw [hg]; exact Nat.ne_of_gt (blk_lt (g := gb241) (o := .cells #[.int .i64 t236, .int .i64 t237, .slice Ao18 t238.length co18] 52 (0, 0)) d10_3) : gb250 ≠ gb241)); clear HO235 HO240 HO244 HO249 BK241 HB; have HO235 := n0_; have HO240 := n1_; have HO244 := n2_; have HO249 := n3_; have BK241 := n4_; have HB := n5_; have BK250 := n6_; have GW250 := n7_; have GE250 := n8_; have NB241_250 := n9_; have NB250_241 := n10_; clear n0_ n1_ n2_ n3_ n4_ n5_ n6_ n7_ n8_ n9_ n10_ hb hbox hg; have hnb23 := NB250_241.out; have hnc23 := NB241_250.out; have hcz24_0 : w22.cell? ⟨gb250, 0, none⟩ = some (.int .i64 0) := (blk_cell BK250.out 0).trans rfl; have hcz24_1 : w22.cell? ⟨gb250, 1, none⟩ = some (.int .i64 0) := (blk_cell BK250.out 1).trans rfl; have hcz24_2 : w22.cell? ⟨gb250, 2, none⟩ = some (.slice none 0 0) := (blk_cell BK250.out 2).trans rfl; have hfz24_0 := blk_frozen BK250.out 0; have hfz24_1 := blk_frozen BK250.out 1; have hfz24_2 := blk_frozen BK250.out 2; obtain ⟨Ao25, co25, eo25⟩ := Kd.R_slice HO249.out; subst eo25; have hcz26_0 : w22.cell? ⟨gb241, 0, none⟩ = some (.int .i64 t236) := (blk_cell BK241.out 0).trans rfl; have hcz26_1 : w22.cell? ⟨gb241, 1, none⟩ = some (.int .i64 t237) := (blk_cell BK241.out 1).trans rfl; have hcz26_2 : w22.cell? ⟨gb241, 2, none⟩ = some (.slice Ao18 t238.length co18) := (blk_cell BK241.out 2).trans rfl; have hfz26_0 := blk_frozen BK241.out 0; have hfz26_1 := blk_frozen BK241.out 1; have hfz26_2 := blk_frozen BK241.out 2) | ((with_reducible refine gate_callee (f := 27) rfl ?_); refine goesL_ (some 29) rfl rfl Tryd.func27 (by kernel_rfl) rfl #[.agg #[.int .i64 t245, .int .i64 t246, .slice Ao25 t247.length co25], .agg #[.int .i64 t236, .int .i64 t237, .slice Ao18 t238.length co18]] rfl d10_2 ?_; (with_reducible refine (laws_eqDataResult.calls kj3 t245 t246 _ _ t247 t236 t237 _ _ t238 t251 _ ?side1 ?side2 ?side3 ?side4 A11.out).mono ?_); (case side1 => refine (Kd.R_reads' (e := 99) (base := w.heap.size) (ok := fun k_ => (((True ∧ some k_ ≠ (.slice Ao14 t233.length co14 : Value).ownBlock) ∧ some k_ ≠ (.slice Ao18 t238.length co18 : Value).ownBlock) ∧ some k_ ≠ (.slice Ao20 t242.length co20 : Value).ownBlock)) (n := t247.length) (c := co25) ?_).2.2; exact (by (with_reducible repeat (first | apply Kd.R_alloc | apply Kd.R_drewN | apply Kd.R_drew)); exact (Kd.R_mono (Kd.R_far (p := ⟨gb250, 2, none⟩) (Kd.R_far (p := ⟨gb250, 1, none⟩) (Kd.R_far (p := ⟨gb250, 0, none⟩) (Kd.R_types HO249.out BK250.out (by decide)) (fun _ hk => hk.2) (.int .i64 t245)) (fun _ hk => hk.2) (.int .i64 t246)) (fun _ hk => hk.2) (.slice Ao25 t247.length co25)) (fun _ h_ => h_.1)))); (case side2 => exact (Kd.R_reads' HO249.out).2.1); (case side3 => refine (Kd.R_reads' (e := 99) (base := w.heap.size) (ok := fun k_ => (((True ∧ some k_ ≠ (.slice Ao14 t233.length co14 : Value).ownBlock) ∧ some k_ ≠ (.slice Ao20 t242.length co20 : Value).ownBlock) ∧ some k_ ≠ (.slice Ao25 t247.length co25 : Value).ownBlock)) (n := t238.length) (c := co18) ?_).2.2; exact (by (with_reducible repeat (first | apply Kd.R_alloc | apply Kd.R_drewN | apply Kd.R_drew)); exact (Kd.R_mono (Kd.R_far (p := ⟨gb250, 2, none⟩) (Kd.R_far (p := ⟨gb250, 1, none⟩) (Kd.R_far (p := ⟨gb250, 0, none⟩) (Kd.R_types HO240.out BK250.out (by decide)) (fun _ hk => hk.2) (.int .i64 t245)) (fun _ hk => hk.2) (.int .i64 t246)) (fun _ hk => hk.2) (.slice Ao25 t247.length co25)) (fun _ h_ => h_.1)))); (case side4 => exact (Kd.R_reads' HO240.out).2.1); rintro e w27 ⟨rfl, hb⟩; refine ⟨_, rfl, ?_⟩; have n0_ := ak (Kd.R_below (by (with_reducible repeat (first | apply Kd.R_alloc | apply Kd.R_drewN | apply Kd.R_drew)); exact (Kd.R_mono (Kd.R_far (p := ⟨gb250, 2, none⟩) (Kd.R_far (p := ⟨gb250, 1, none⟩) (Kd.R_far (p := ⟨gb250, 0, none⟩) (Kd.R_types HO235.out BK250.out (by decide)) (fun _ hk => hk.2) (.int .i64 t245)) (fun _ hk => hk.2) (.int .i64 t246)) (fun _ hk => hk.2) (.slice Ao25 t247.length co25)) (fun _ h_ => h_.1))) hb); have n1_ := ak (Kd.R_below (by (with_reducible repeat (first | apply Kd.R_alloc | apply Kd.R_drewN | apply Kd.R_drew)); exact (Kd.R_mono (Kd.R_far (p := ⟨gb250, 2, none⟩) (Kd.R_far (p := ⟨gb250, 1, none⟩) (Kd.R_far (p := ⟨gb250, 0, none⟩) (Kd.R_types HO240.out BK250.out (by decide)) (fun _ hk => hk.2) (.int .i64 t245)) (fun _ hk => hk.2) (.int .i64 t246)) (fun _ hk => hk.2) (.slice Ao25 t247.length co25)) (fun _ h_ => h_.1))) hb); have n2_ := ak (Kd.R_below (by (with_reducible repeat (first | apply Kd.R_alloc | apply Kd.R_drewN | apply Kd.R_drew)); exact (Kd.R_mono (Kd.R_far (p := ⟨gb250, 2, none⟩) (Kd.R_far (p := ⟨gb250, 1, none⟩) (Kd.R_far (p := ⟨gb250, 0, none⟩) (Kd.R_types HO244.out BK250.out (by decide)) (fun _ hk => hk.2) (.int .i64 t245)) (fun _ hk => hk.2) (.int .i64 t246)) (fun _ hk => hk.2) (.slice Ao25 t247.length co25)) (fun _ h_ => h_.1))) hb); have n3_ := ak (Kd.R_below (by (with_reducible repeat (first | apply Kd.R_alloc | apply Kd.R_drewN | apply Kd.R_drew)); exact (Kd.R_mono (Kd.R_far (p := ⟨gb250, 2, none⟩) (Kd.R_far (p := ⟨gb250, 1, none⟩) (Kd.R_far (p := ⟨gb250, 0, none⟩) (Kd.R_types HO249.out BK250.out (by decide)) (fun _ hk => hk.2) (.int .i64 t245)) (fun _ hk => hk.2) (.int .i64 t246)) (fun _ hk => hk.2) (.slice Ao25 t247.length co25)) (fun _ h_ => h_.1))) hb); have n4_ := ak (blk_below (g := gb241) (o := .cells #[.int .i64 t236, .int .i64 t237, .slice Ao18 t238.length co18] 52 (0, 0)) (by (with_reducible repeat (first | refine blk_drewN ?_ _ | refine blk_drew ?_ | refine blk_alloc ?_ _)); refine blk_far ?_ NB241_250.out _; (with_reducible repeat (first | refine blk_drewN ?_ _ | refine blk_drew ?_ | refine blk_alloc ?_ _)); refine blk_far ?_ NB241_250.out _; (with_reducible repeat (first | refine blk_drewN ?_ _ | refine blk_drew ?_ | refine blk_alloc ?_ _)); refine blk_far ?_ NB241_250.out _; (with_reducible repeat (first | refine blk_drewN ?_ _ | refine blk_drew ?_ | refine blk_alloc ?_ _)); exact BK241.out) hb); have n5_ := ak (blk_below (g := gb250) (o := .cells #[.int .i64 t245, .int .i64 t246, .slice Ao25 t247.length co25] 52 (0, 0)) (by (with_reducible repeat (first | refine blk_drewN ?_ _ | refine blk_drew ?_ | refine blk_alloc ?_ _)); refine blk_put (cs := #[.int .i64 t245, .int .i64 t246, .slice none 0 0]) ?_ 2 _ rfl; (with_reducible repeat (first | refine blk_drewN ?_ _ | refine blk_drew ?_ | refine blk_alloc ?_ _)); refine blk_put (cs := #[.int .i64 t245, .int .i64 0, .slice none 0 0]) ?_ 1 _ rfl; (with_reducible repeat (first | refine blk_drewN ?_ _ | refine blk_drew ?_ | refine blk_alloc ?_ _)); refine blk_put (cs := #[.int .i64 0, .int .i64 0, .slice none 0 0]) ?_ 0 _ rfl; (with_reducible repeat (first | refine blk_drewN ?_ _ | refine blk_drew ?_ | refine blk_alloc ?_ _)); exact BK250.out) hb); have n6_ := ak (below_step d10_1 hb); clear HO235 HO240 HO244 HO249 BK241 BK250 HB; have HO235 := n0_; have HO240 := n1_; have HO244 := n2_; have HO249 := n3_; have BK241 := n4_; have BK250 := n5_; have HB := n6_; clear n0_ n1_ n2_ n3_ n4_ n5_ n6_; (try clear hb); (try clear hk)))
    (try simp only [Act.put, List.setIfInBounds_toArray, List.set_cons_zero, List.set_cons_succ])
    go_cut [] (fun wc => ∃ (kq : Nat), Aside0 (laws_FnExactSubData.j1 kq l0 a1 t242 t236 t237 t238 t245 t246 t247 = some r) ∧ Aside0 (kq ≤ kj3) ∧ Aside0 (Kd.R k99 99 wc w.heap.size (fun k_ => some k_ ≠ ((.slice Ao18 t238.length co18) : Value).ownBlock ∧ some k_ ≠ ((.slice Ao25 t247.length co25) : Value).ownBlock) (.slice Ao20 t242.length co20) t242) ∧ Aside0 (Kd.R k99 99 wc w.heap.size (fun k_ => some k_ ≠ ((.slice Ao20 t242.length co20) : Value).ownBlock ∧ some k_ ≠ ((.slice Ao25 t247.length co25) : Value).ownBlock) (.slice Ao18 t238.length co18) t238) ∧ Aside0 (Kd.R k99 99 wc w.heap.size (fun k_ => some k_ ≠ ((.slice Ao20 t242.length co20) : Value).ownBlock ∧ some k_ ≠ ((.slice Ao18 t238.length co18) : Value).ownBlock) (.slice Ao25 t247.length co25) t247) ∧ Aside0 (wc.heap[gb241]? = some (.cells #[.int .i64 t236, .int .i64 t237, (.slice Ao18 t238.length co18)] 52 (0, 0))) ∧ Aside0 (wc.heap[gb250]? = some (.cells #[.int .i64 t245, .int .i64 t246, (.slice Ao25 t247.length co25)] 52 (0, 0))) ∧ Aside0 (Below w.heap.size w wc))
    case first =>
     have H := HC12.out
     clear HC12
     by_cases c28 : t251 = true
     ·subst c28
      have H1 : (laws_FnExactSubData.j1 kj3 l0 a1 t242 t236 t237 t238 t245 t246 t247) = some r := by rw [if_pos rfl] at H; exact H
      clear H
      have H := H1
      clear H1
      have H' := ak H
      clear H
      go_wp2
      go_meet
      case rel => exact ⟨_, H', ⟨by have := HJ3.out; first | omega | exact Nat.le_refl _⟩, ⟨by (with_reducible repeat (first | apply Kd.R_alloc | apply Kd.R_drewN | apply Kd.R_drew)); exact Kd.R_mono HO244.out (fun _ hk => ⟨hk.1.2, hk.2⟩)⟩, ⟨by (with_reducible repeat (first | apply Kd.R_alloc | apply Kd.R_drewN | apply Kd.R_drew)); exact Kd.R_mono HO240.out (fun _ hk => ⟨hk.1.2, hk.2⟩)⟩, ⟨by (with_reducible repeat (first | apply Kd.R_alloc | apply Kd.R_drewN | apply Kd.R_drew)); exact Kd.R_mono HO249.out (fun _ hk => ⟨hk.2, hk.1.2⟩)⟩, ⟨by (with_reducible repeat (first | refine blk_drewN ?_ _ | refine blk_drew ?_ | refine blk_alloc ?_ _)); exact BK241.out⟩, ⟨by (with_reducible repeat (first | refine blk_drewN ?_ _ | refine blk_drew ?_ | refine blk_alloc ?_ _)); exact BK250.out⟩, ⟨by repeat (first | (with_reducible first | exact HB.out | apply below_alloc | apply pw_below_drewN | apply below_drew1 | refine below_set ?_ GE241.out | refine below_set ?_ GE250.out) | exact HB.out)⟩⟩
     ·replace c28 := Bool.eq_false_iff.mpr c28
      subst c28
      have H1 : (some false) = some r := by rw [if_neg (show ¬ (false = true) by decide)] at H; exact H
      clear H
      have H := H1
      clear H1
      obtain rfl := Option.some.inj H
      go_wp2
      go_ret
      exact ⟨by first | rfl | (simp [errW_none, errW_some] <;> rfl) | (simp [*, errW_none, errW_some] <;> rfl), by repeat (first | (with_reducible first | exact HB.out | apply below_alloc | apply pw_below_drewN | apply below_drew1 | refine below_set ?_ GE241.out | refine below_set ?_ GE250.out) | exact HB.out)⟩
    case rest =>
     clear HC12
     try clear c1
     try clear c2
     try clear p2
     try clear c5
     try clear c6
     try clear c6b0
     try clear c16
     try clear c18
     try clear c23
     try clear c25
     try clear c26
     try clear c27
     try clear hcz17_0
     try clear hcz17_1
     try clear hcz17_2
     try clear hcz24_0
     try clear hcz24_1
     try clear hcz24_2
     try clear hcz26_0
     try clear hcz26_1
     try clear hcz26_2
     try clear hfz17_0
     try clear hfz17_1
     try clear hfz17_2
     try clear hfz24_0
     try clear hfz24_1
     try clear hfz24_2
     try clear hfz26_0
     try clear hfz26_1
     try clear hfz26_2
     obtain ⟨kq, HA, HJ11, HO_7, HO_242002, HO_251002, BK241, BK250, HB⟩ := hcut
     cases kq with
     | zero => exact absurd HA.out (by simp [laws_FnExactSubData.j1])
     | succ kj11 =>
      have H := HA.out
      clear HA
      simp only [laws_FnExactSubData.j1] at H
      replace H := Option.bind_eq_some_iff.mp H
      obtain ⟨t252, A290, H⟩ := H
      replace H : ((laws_eqDatumS.f kj11 t242 t252).bind fun t255 => (if t255 = true then (laws_FnExactSubData.j2 kj11 l0 a1 t242 t236 t237 t238 t245 t246 t247) else (some false))) = some r := H
      have A29 := ak A290
      clear A290
      replace H := Option.bind_eq_some_iff.mp H
      obtain ⟨t255, A300, H⟩ := H
      replace H : (if t255 = true then (laws_FnExactSubData.j2 kj11 l0 a1 t242 t236 t237 t238 t245 t246 t247) else (some false)) = some r := H
      have A30 := ak A300
      clear A300
      have HC31 := ak H
      clear H
      go_upto_if 35 with (first | ((with_reducible refine gate_callee (f := 18) rfl ?_); refine goesL_ (some 33) rfl rfl Tryd.func18 (by kernel_rfl) rfl #[.slice A0 l0.length c0] rfl d10_2 ?_; (with_reducible refine (laws_toDatumS.calls kj11 _ _ l0 t252 _ ?side1 ?side2 A29.out).mono ?_); (case side1 => repeat (first | exact (Kd.C_below HR0.out HB.out) | (with_reducible refine Kd.C_alloc ?_ _) | (with_reducible refine Kd.C_drewN ?_ _) | (with_reducible refine Kd.C_drew ?_))); (case side2 => exact HC0.out); rintro e w32 ⟨v253, rfl, ho0, hb⟩; refine ⟨_, rfl, ?_⟩; have n0_ := ak (Kd.R_elder' (by (with_reducible repeat (first | apply Kd.R_alloc | apply Kd.R_drewN | apply Kd.R_drew)); exact HO_7.out) (Kd.R_base ho0) hb); have n1_ := ak (Kd.R_elder' d10_5 (Kd.R_base ho0) hb); have n2_ := ak (Kd.R_elder' d10_6 (Kd.R_base ho0) hb); have n3_ := ak (Kd.R_lower (Kd.R_new' (Kd.R_new' (Kd.R_new' ho0 (Kd.R_lt (by (with_reducible repeat (first | apply Kd.R_alloc | apply Kd.R_drewN | apply Kd.R_drew)); exact HO_7.out))) (Kd.R_lt d10_5)) (Kd.R_lt d10_6)) (below_size d10_1)); have n4_ := ak (blk_below (g := gb241) (o := .cells #[.int .i64 t236, .int .i64 t237, .slice Ao18 t238.length co18] 52 (0, 0)) d10_3 hb); have n5_ := ak (blk_below (g := gb250) (o := .cells #[.int .i64 t245, .int .i64 t246, .slice Ao25 t247.length co25] 52 (0, 0)) d10_4 hb); have n6_ := ak (below_step d10_1 hb); clear HO_7 HO_242002 HO_251002 BK241 BK250 HB; have HO_7 := n0_; have HO_242002 := n1_; have HO_251002 := n2_; have HO254 := n3_; have BK241 := n4_; have BK250 := n5_; have HB := n6_; clear n0_ n1_ n2_ n3_ n4_ n5_ n6_; (try clear hb); (try clear ho0); obtain ⟨Ao33, co33, eo33⟩ := Kd.R_slice HO254.out; subst eo33) | ((with_reducible refine gate_callee (f := 21) rfl ?_); refine goesL_ (some 34) rfl rfl Tryd.func21 (by kernel_rfl) rfl #[.slice Ao20 t242.length co20, .slice Ao33 t252.length co33] rfl d10_2 ?_; (with_reducible refine (laws_eqDatumS.calls kj11 _ _ t242 _ _ t252 t255 _ ?side1 ?side2 ?side3 ?side4 A30.out).mono ?_); (case side1 => repeat (first | exact (Kd.R_reads' HO_7.out).2.2 | (with_reducible refine Kd.C_alloc ?_ _) | (with_reducible refine Kd.C_drewN ?_ _) | (with_reducible refine Kd.C_drew ?_))); (case side2 => exact (Kd.R_reads' HO_7.out).2.1); (case side3 => repeat (first | exact (Kd.R_reads' HO254.out).2.2 | (with_reducible refine Kd.C_alloc ?_ _) | (with_reducible refine Kd.C_drewN ?_ _) | (with_reducible refine Kd.C_drew ?_))); (case side4 => exact (Kd.R_reads' HO254.out).2.1); rintro e w34 ⟨rfl, hb⟩; refine ⟨_, rfl, ?_⟩; have n0_ := ak (Kd.R_below (by (with_reducible repeat (first | apply Kd.R_alloc | apply Kd.R_drewN | apply Kd.R_drew)); exact HO_7.out) hb); have n1_ := ak (Kd.R_below d10_5 hb); have n2_ := ak (Kd.R_below d10_6 hb); have n3_ := ak (Kd.R_below (by (with_reducible repeat (first | apply Kd.R_alloc | apply Kd.R_drewN | apply Kd.R_drew)); exact HO254.out) hb); have n4_ := ak (blk_below (g := gb241) (o := .cells #[.int .i64 t236, .int .i64 t237, .slice Ao18 t238.length co18] 52 (0, 0)) d10_3 hb); have n5_ := ak (blk_below (g := gb250) (o := .cells #[.int .i64 t245, .int .i64 t246, .slice Ao25 t247.length co25] 52 (0, 0)) d10_4 hb); have n6_ := ak (below_step d10_1 hb); clear HO_7 HO_242002 HO_251002 HO254 BK241 BK250 HB; have HO_7 := n0_; have HO_242002 := n1_; have HO_251002 := n2_; have HO254 := n3_; have BK241 := n4_; have BK250 := n5_; have HB := n6_; clear n0_ n1_ n2_ n3_ n4_ n5_ n6_; (try clear hb)))
      (try simp only [Act.put, List.setIfInBounds_toArray, List.set_cons_zero, List.set_cons_succ])
      go_cut [] (fun wc => ∃ (kq : Nat), Aside0 (laws_FnExactSubData.j2 kq l0 a1 t242 t236 t237 t238 t245 t246 t247 = some r) ∧ Aside0 (kq ≤ kj11) ∧ Aside0 (Kd.R k99 99 wc w.heap.size (fun k_ => some k_ ≠ ((.slice Ao18 t238.length co18) : Value).ownBlock ∧ some k_ ≠ ((.slice Ao25 t247.length co25) : Value).ownBlock) (.slice Ao20 t242.length co20) t242) ∧ Aside0 (Kd.R k99 99 wc w.heap.size (fun k_ => some k_ ≠ ((.slice Ao20 t242.length co20) : Value).ownBlock ∧ some k_ ≠ ((.slice Ao25 t247.length co25) : Value).ownBlock) (.slice Ao18 t238.length co18) t238) ∧ Aside0 (Kd.R k99 99 wc w.heap.size (fun k_ => some k_ ≠ ((.slice Ao20 t242.length co20) : Value).ownBlock ∧ some k_ ≠ ((.slice Ao18 t238.length co18) : Value).ownBlock) (.slice Ao25 t247.length co25) t247) ∧ Aside0 (wc.heap[gb241]? = some (.cells #[.int .i64 t236, .int .i64 t237, (.slice Ao18 t238.length co18)] 52 (0, 0))) ∧ Aside0 (wc.heap[gb250]? = some (.cells #[.int .i64 t245, .int .i64 t246, (.slice Ao25 t247.length co25)] 52 (0, 0))) ∧ Aside0 (Below w.heap.size w wc))
      case first =>
       have H := HC31.out
       clear HC31
       by_cases c35 : t255 = true
       ·subst c35
        have H1 : (laws_FnExactSubData.j2 kj11 l0 a1 t242 t236 t237 t238 t245 t246 t247) = some r := by rw [if_pos rfl] at H; exact H
        clear H
        have H := H1
        clear H1
        have H' := ak H
        clear H
        go_wp2
        go_meet
        case rel => exact ⟨_, H', ⟨by have := HJ3.out; have := HJ11.out; first | omega | exact Nat.le_refl _⟩, ⟨by (with_reducible repeat (first | apply Kd.R_alloc | apply Kd.R_drewN | apply Kd.R_drew)); exact Kd.R_mono HO_7.out (fun _ hk => ⟨hk.1.1, hk.1.2⟩)⟩, ⟨by (with_reducible repeat (first | apply Kd.R_alloc | apply Kd.R_drewN | apply Kd.R_drew)); exact Kd.R_mono HO_242002.out (fun _ hk => ⟨hk.1.1, hk.1.2⟩)⟩, ⟨by (with_reducible repeat (first | apply Kd.R_alloc | apply Kd.R_drewN | apply Kd.R_drew)); exact Kd.R_mono HO_251002.out (fun _ hk => ⟨hk.1.1, hk.1.2⟩)⟩, ⟨by (with_reducible repeat (first | refine blk_drewN ?_ _ | refine blk_drew ?_ | refine blk_alloc ?_ _)); exact BK241.out⟩, ⟨by (with_reducible repeat (first | refine blk_drewN ?_ _ | refine blk_drew ?_ | refine blk_alloc ?_ _)); exact BK250.out⟩, ⟨by repeat (first | (with_reducible first | exact HB.out | apply below_alloc | apply pw_below_drewN | apply below_drew1 | refine below_set ?_ GE241.out | refine below_set ?_ GE250.out) | exact HB.out)⟩⟩
       ·replace c35 := Bool.eq_false_iff.mpr c35
        subst c35
        have H1 : (some false) = some r := by rw [if_neg (show ¬ (false = true) by decide)] at H; exact H
        clear H
        have H := H1
        clear H1
        obtain rfl := Option.some.inj H
        go_wp2
        go_ret
        exact ⟨by first | rfl | (simp [errW_none, errW_some] <;> rfl) | (simp [*, errW_none, errW_some] <;> rfl), by repeat (first | (with_reducible first | exact HB.out | apply below_alloc | apply pw_below_drewN | apply below_drew1 | refine below_set ?_ GE241.out | refine below_set ?_ GE250.out) | exact HB.out)⟩
      case rest =>
       clear HC31
       try clear c1
       try clear c2
       try clear p2
       try clear c5
       try clear c6
       try clear c6b0
       try clear c16
       try clear c18
       try clear c21
       try clear c23
       try clear c25
       try clear c26
       try clear c27
       try clear c28
       try clear hcz17_0
       try clear hcz17_1
       try clear hcz17_2
       try clear hcz24_0
       try clear hcz24_1
       try clear hcz24_2
       try clear hcz26_0
       try clear hcz26_1
       try clear hcz26_2
       try clear hfz17_0
       try clear hfz17_1
       try clear hfz17_2
       try clear hfz24_0
       try clear hfz24_1
       try clear hfz24_2
       try clear hfz26_0
       try clear hfz26_1
       try clear hfz26_2
       try clear p2
       obtain ⟨kq, HA, HJ30, HO_7, HO_242002, HO_251002, BK241, BK250, HB⟩ := hcut
       cases kq with
       | zero => exact absurd HA.out (by simp [laws_FnExactSubData.j2])
       | succ kj30 =>
        have H := HA.out
        clear HA
        simp only [laws_FnExactSubData.j2] at H
        replace H := Option.bind_eq_some_iff.mp H
        obtain ⟨⟨t256, t257⟩, A360, H⟩ := H
        replace H : (if t256 < 0 then (laws_FnExactSubData.j3 kj30 l0 a1 true t236 t237 t238 t245 t246 t247) else ((laws_eqDataResult.f kj30 t245 t246 t247 t236 t237 t238).bind fun t258 => (laws_FnExactSubData.j3 kj30 l0 a1 (!t258) t236 t237 t238 t245 t246 t247))) = some r := H
        have A36 := ak A360
        clear A360
        have HC37 := ak H
        clear H
        go_upto_region 14 with (first | ((with_reducible refine gate_callee (f := 22) rfl ?_); refine goesL_ (some 38) rfl rfl Tryd.func22 (by kernel_rfl) rfl #[.slice Ao20 t242.length co20, .int .i64 1] rfl d10_2 ?_; (with_reducible refine (laws_markDatumS.calls kj30 (fun k_ => some k_ = (.slice Ao20 t242.length co20 : Value).ownBlock) (.slice Ao20 t242.length co20) t242 1 t256 t257 w _ ?side1 ?side2 A36.out).mono ?_); (case side1 => repeat (first | (with_reducible first | exact HB.out | apply below_alloc | apply pw_below_drewN | apply below_drew1 | refine below_set ?_ GE241.out | refine below_set ?_ GE250.out) | exact HB.out)); (case side2 => exact Kd.R_tight rfl HO_7.out); rintro e w38 ⟨rfl, hy0, hb, hkp⟩; refine ⟨_, rfl, ?_⟩; have n0_ := ak (Kd.R_reok rfl hy0 (fun k_ e_ => HO_7.out.1 k_ e_)); have n1_ := ak (Kd.R_mono (ok' := fun k_ => some k_ ≠ (.slice Ao20 t242.length co20 : Value).ownBlock ∧ some k_ ≠ (.slice Ao25 t247.length co25 : Value).ownBlock) (Kd.R_keptB (HO_242002.out) hkp (fun k_ hk_ hs_ => (hk_.1) hs_)) (fun k_ hk_ => ⟨hk_.1.1, hk_.1.2⟩)); have n2_ := ak (Kd.R_mono (ok' := fun k_ => some k_ ≠ (.slice Ao20 t242.length co20 : Value).ownBlock ∧ some k_ ≠ (.slice Ao18 t238.length co18 : Value).ownBlock) (Kd.R_keptB (HO_251002.out) hkp (fun k_ hk_ hs_ => (hk_.1) hs_)) (fun k_ hk_ => ⟨hk_.1.1, hk_.1.2⟩)); have n3_ := ak (blk_kept d10_3 hkp (fun hs_ => (fun e_ => (Kd.R_ne HO_7.out BK241.out (by decide)) e_) hs_)); have n4_ := ak (blk_kept d10_4 hkp (fun hs_ => (fun e_ => (Kd.R_ne HO_7.out BK250.out (by decide)) e_) hs_)); have n5_ := ak (hb); clear HO_7 HO_242002 HO_251002 BK241 BK250 HB; have HO_7 := n0_; have HO_242002 := n1_; have HO_251002 := n2_; have BK241 := n3_; have BK250 := n4_; have HB := n5_; clear n0_ n1_ n2_ n3_ n4_ n5_; (try clear hb); (try clear hkp); (try clear hy0)))
        (try simp only [Act.put, List.setIfInBounds_toArray, List.set_cons_zero, List.set_cons_succ])
        go_cut [46] (fun v46 wc => ∃ (kq : Nat) (x46_36 : Bool), v46 = .bool x46_36 ∧ Aside0 (laws_FnExactSubData.j3 kq l0 a1 x46_36 t236 t237 t238 t245 t246 t247 = some r) ∧ Aside0 (kq ≤ kj30) ∧ Aside0 (Kd.R k99 99 wc w.heap.size (fun k_ => some k_ ≠ ((.slice Ao25 t247.length co25) : Value).ownBlock) (.slice Ao18 t238.length co18) t238) ∧ Aside0 (Kd.R k99 99 wc w.heap.size (fun k_ => some k_ ≠ ((.slice Ao18 t238.length co18) : Value).ownBlock) (.slice Ao25 t247.length co25) t247) ∧ Aside0 (wc.heap[gb241]? = some (.cells #[.int .i64 t236, .int .i64 t237, (.slice Ao18 t238.length co18)] 52 (0, 0))) ∧ Aside0 (wc.heap[gb250]? = some (.cells #[.int .i64 t245, .int .i64 t246, (.slice Ao25 t247.length co25)] 52 (0, 0))) ∧ Aside0 (Below w.heap.size w wc))
        case first =>
         have H := HC37.out
         clear HC37
         by_cases c39 : t256 < 0
         ·rw [if_pos c39] at H
          have c39b0 : decide (t256 < 0) = true := decide_eq_true c39
          clear c39
          (first | rw [c39b0] | (simp only [i64_w, i32_w]; rw [c39b0]) | skip)
          have H' := ak H
          clear H
          go_wp2
          go_meet
          case rel => exact ⟨_, (true), (by first | rfl | (simp; done) | (simp [*]; done) | (simp [ne_nil_b, eq_nil_b]; done)), H', ⟨by have := HJ3.out; have := HJ11.out; have := HJ30.out; first | omega | exact Nat.le_refl _⟩, ⟨by (with_reducible repeat (first | apply Kd.R_alloc | apply Kd.R_drewN | apply Kd.R_drew)); exact Kd.R_mono HO_242002.out (fun _ hk => hk.2)⟩, ⟨by (with_reducible repeat (first | apply Kd.R_alloc | apply Kd.R_drewN | apply Kd.R_drew)); exact Kd.R_mono HO_251002.out (fun _ hk => hk.2)⟩, ⟨by (with_reducible repeat (first | refine blk_drewN ?_ _ | refine blk_drew ?_ | refine blk_alloc ?_ _)); exact BK241.out⟩, ⟨by (with_reducible repeat (first | refine blk_drewN ?_ _ | refine blk_drew ?_ | refine blk_alloc ?_ _)); exact BK250.out⟩, ⟨by repeat (first | (with_reducible first | exact HB.out | apply below_alloc | apply pw_below_drewN | apply below_drew1 | refine below_set ?_ GE241.out | refine below_set ?_ GE250.out) | exact HB.out)⟩⟩
         ·rw [if_neg c39] at H
          have c39b0 : decide (t256 < 0) = false := decide_eq_false c39
          clear c39
          (first | rw [c39b0] | (simp only [i64_w, i32_w]; rw [c39b0]) | skip)
          replace H := Option.bind_eq_some_iff.mp H
          obtain ⟨t258, A400, H⟩ := H
          replace H : (laws_FnExactSubData.j3 kj30 l0 a1 (!t258) t236 t237 t238 t245 t246 t247) = some r := H
          have A40 := ak A400
          clear A400
          have H' := ak H
          clear H
          have hnb41 := NB250_241.out
          have hnc41 := NB241_250.out
          have hcz42_0 : w38.cell? ⟨gb250, 0, none⟩ = some (.int .i64 t245) := (blk_cell BK250.out 0).trans rfl
          have hcz42_1 : w38.cell? ⟨gb250, 1, none⟩ = some (.int .i64 t246) := (blk_cell BK250.out 1).trans rfl
          have hcz42_2 : w38.cell? ⟨gb250, 2, none⟩ = some (.slice Ao25 t247.length co25) := (blk_cell BK250.out 2).trans rfl
          have hfz42_0 := blk_frozen BK250.out 0
          have hfz42_1 := blk_frozen BK250.out 1
          have hfz42_2 := blk_frozen BK250.out 2
          have hcz43_0 : w38.cell? ⟨gb241, 0, none⟩ = some (.int .i64 t236) := (blk_cell BK241.out 0).trans rfl
          have hcz43_1 : w38.cell? ⟨gb241, 1, none⟩ = some (.int .i64 t237) := (blk_cell BK241.out 1).trans rfl
          have hcz43_2 : w38.cell? ⟨gb241, 2, none⟩ = some (.slice Ao18 t238.length co18) := (blk_cell BK241.out 2).trans rfl
          have hfz43_0 := blk_frozen BK241.out 0
          have hfz43_1 := blk_frozen BK241.out 1
          have hfz43_2 := blk_frozen BK241.out 2
          go_wp2_with (first | (go_at_call 27; (with_reducible refine (laws_eqDataResult.calls kj30 t245 t246 _ _ t247 t236 t237 _ _ t238 t258 _ ?side1 ?side2 ?side3 ?side4 A40.out).mono ?_); (case side1 => repeat (first | exact (Kd.R_reads' HO_251002.out).2.2 | (with_reducible refine Kd.C_alloc ?_ _) | (with_reducible refine Kd.C_drewN ?_ _) | (with_reducible refine Kd.C_drew ?_))); (case side2 => exact (Kd.R_reads' HO_251002.out).2.1); (case side3 => repeat (first | exact (Kd.R_reads' HO_242002.out).2.2 | (with_reducible refine Kd.C_alloc ?_ _) | (with_reducible refine Kd.C_drewN ?_ _) | (with_reducible refine Kd.C_drew ?_))); (case side4 => exact (Kd.R_reads' HO_242002.out).2.1); rintro e w44 ⟨rfl, hb⟩; have n0_ := ak (Kd.R_below (by (with_reducible repeat (first | apply Kd.R_alloc | apply Kd.R_drewN | apply Kd.R_drew)); exact HO_7.out) hb); have n1_ := ak (Kd.R_below d10_5 hb); have n2_ := ak (Kd.R_below d10_6 hb); have n3_ := ak (blk_below (g := gb241) (o := .cells #[.int .i64 t236, .int .i64 t237, .slice Ao18 t238.length co18] 52 (0, 0)) d10_3 hb); have n4_ := ak (blk_below (g := gb250) (o := .cells #[.int .i64 t245, .int .i64 t246, .slice Ao25 t247.length co25] 52 (0, 0)) d10_4 hb); have n5_ := ak (below_step d10_1 hb); clear HO_7 HO_242002 HO_251002 BK241 BK250 HB; have HO_7 := n0_; have HO_242002 := n1_; have HO_251002 := n2_; have BK241 := n3_; have BK250 := n4_; have HB := n5_; clear n0_ n1_ n2_ n3_ n4_ n5_; (try clear hb)))
          go_meet
          case rel => exact ⟨_, (!t258), (by first | rfl | (simp; done) | (simp [*]; done) | (simp [ne_nil_b, eq_nil_b]; done)), H', ⟨by have := HJ3.out; have := HJ11.out; have := HJ30.out; first | omega | exact Nat.le_refl _⟩, ⟨by (with_reducible repeat (first | apply Kd.R_alloc | apply Kd.R_drewN | apply Kd.R_drew)); exact Kd.R_mono HO_242002.out (fun _ hk => hk.2)⟩, ⟨by (with_reducible repeat (first | apply Kd.R_alloc | apply Kd.R_drewN | apply Kd.R_drew)); exact Kd.R_mono HO_251002.out (fun _ hk => hk.2)⟩, ⟨by (with_reducible repeat (first | refine blk_drewN ?_ _ | refine blk_drew ?_ | refine blk_alloc ?_ _)); exact BK241.out⟩, ⟨by (with_reducible repeat (first | refine blk_drewN ?_ _ | refine blk_drew ?_ | refine blk_alloc ?_ _)); exact BK250.out⟩, ⟨by repeat (first | (with_reducible first | exact HB.out | apply below_alloc | apply pw_below_drewN | apply below_drew1 | refine below_set ?_ GE241.out | refine below_set ?_ GE250.out) | exact HB.out)⟩⟩
        case rest =>
         clear HC37
         try clear c1
         try clear c2
         try clear p2
         try clear c3
         try clear c5
         try clear c6
         try clear c6b0
         try clear c16
         try clear c18
         try clear c21
         try clear c22
         try clear c23
         try clear c25
         try clear c26
         try clear c27
         try clear c28
         try clear c35
         try clear hcz17_0
         try clear hcz17_1
         try clear hcz17_2
         try clear hcz24_0
         try clear hcz24_1
         try clear hcz24_2
         try clear hcz26_0
         try clear hcz26_1
         try clear hcz26_2
         try clear hfz17_0
         try clear hfz17_1
         try clear hfz17_2
         try clear hfz24_0
         try clear hfz24_1
         try clear hfz24_2
         try clear hfz26_0
         try clear hfz26_1
         try clear hfz26_2
         try clear p2
         obtain ⟨kq, x46_36, rfl, HA, HJ36, HO_242002, HO_251002, BK241, BK250, HB⟩ := hcut
         cases kq with
         | zero => exact absurd HA.out (by simp [laws_FnExactSubData.j3])
         | succ kj36 =>
          have H := HA.out
          clear HA
          simp only [laws_FnExactSubData.j3] at H
          have HC45 := ak H
          clear H
          go_upto_if 46 with (fail)
          go_cut [] (fun wc => ∃ (kq : Nat), Aside0 (laws_FnExactSubData.j4 kq l0 a1 t236 t237 t238 t245 t246 t247 = some r) ∧ Aside0 (kq ≤ kj36) ∧ Aside0 (Kd.R k99 99 wc w.heap.size (fun k_ => some k_ ≠ ((.slice Ao25 t247.length co25) : Value).ownBlock) (.slice Ao18 t238.length co18) t238) ∧ Aside0 (Kd.R k99 99 wc w.heap.size (fun k_ => some k_ ≠ ((.slice Ao18 t238.length co18) : Value).ownBlock) (.slice Ao25 t247.length co25) t247) ∧ Aside0 (wc.heap[gb241]? = some (.cells #[.int .i64 t236, .int .i64 t237, (.slice Ao18 t238.length co18)] 52 (0, 0))) ∧ Aside0 (wc.heap[gb250]? = some (.cells #[.int .i64 t245, .int .i64 t246, (.slice Ao25 t247.length co25)] 52 (0, 0))) ∧ Aside0 (Below w.heap.size w wc))
          case first =>
           have H := HC45.out
           clear HC45
           by_cases c46 : x46_36 = true
           ·subst c46
            have H1 : (some false) = some r := by rw [if_pos rfl] at H; exact H
            clear H
            have H := H1
            clear H1
            obtain rfl := Option.some.inj H
            go_wp2
            go_ret
            exact ⟨by first | rfl | (simp [errW_none, errW_some] <;> rfl) | (simp [*, errW_none, errW_some] <;> rfl), by repeat (first | (with_reducible first | exact HB.out | apply below_alloc | apply pw_below_drewN | apply below_drew1 | refine below_set ?_ GE241.out | refine below_set ?_ GE250.out) | exact HB.out)⟩
           ·replace c46 := Bool.eq_false_iff.mpr c46
            subst c46
            have H1 : (laws_FnExactSubData.j4 kj36 l0 a1 t236 t237 t238 t245 t246 t247) = some r := by rw [if_neg (show ¬ (false = true) by decide)] at H; exact H
            clear H
            have H := H1
            clear H1
            have H' := ak H
            clear H
            go_wp2
            go_meet
            case rel => exact ⟨_, H', ⟨by have := HJ3.out; have := HJ11.out; have := HJ30.out; have := HJ36.out; first | omega | exact Nat.le_refl _⟩, ⟨by (with_reducible repeat (first | apply Kd.R_alloc | apply Kd.R_drewN | apply Kd.R_drew)); exact HO_242002.out⟩, ⟨by (with_reducible repeat (first | apply Kd.R_alloc | apply Kd.R_drewN | apply Kd.R_drew)); exact HO_251002.out⟩, ⟨by (with_reducible repeat (first | refine blk_drewN ?_ _ | refine blk_drew ?_ | refine blk_alloc ?_ _)); exact BK241.out⟩, ⟨by (with_reducible repeat (first | refine blk_drewN ?_ _ | refine blk_drew ?_ | refine blk_alloc ?_ _)); exact BK250.out⟩, ⟨by repeat (first | (with_reducible first | exact HB.out | apply below_alloc | apply pw_below_drewN | apply below_drew1 | refine below_set ?_ GE241.out | refine below_set ?_ GE250.out) | exact HB.out)⟩⟩
          case rest =>
           clear HC45
           try clear c1
           try clear c2
           try clear p2
           try clear c3
           try clear c4
           try clear c5
           try clear c6
           try clear c6b0
           try clear c16
           try clear c18
           try clear c21
           try clear c22
           try clear c23
           try clear c25
           try clear c26
           try clear c27
           try clear c28
           try clear c35
           try clear c39
           try clear c39b0
           try clear c41
           try clear hcz17_0
           try clear hcz17_1
           try clear hcz17_2
           try clear hcz24_0
           try clear hcz24_1
           try clear hcz24_2
           try clear hcz26_0
           try clear hcz26_1
           try clear hcz26_2
           try clear hcz42_0
           try clear hcz42_1
           try clear hcz42_2
           try clear hcz43_0
           try clear hcz43_1
           try clear hcz43_2
           try clear hfz17_0
           try clear hfz17_1
           try clear hfz17_2
           try clear hfz24_0
           try clear hfz24_1
           try clear hfz24_2
           try clear hfz26_0
           try clear hfz26_1
           try clear hfz26_2
           try clear hfz42_0
           try clear hfz42_1
           try clear hfz42_2
           try clear hfz43_0
           try clear hfz43_1
           try clear hfz43_2
           try clear p2
           obtain ⟨kq, HA, HJ44, HO_242002, HO_251002, BK241, BK250, HB⟩ := hcut
           cases kq with
           | zero => exact absurd HA.out (by simp [laws_FnExactSubData.j4])
           | succ kj44 =>
            have H := HA.out
            clear HA
            simp only [laws_FnExactSubData.j4] at H
            replace H := Option.bind_eq_some_iff.mp H
            obtain ⟨⟨t259, t260⟩, A470, H⟩ := H
            replace H : ((laws_heldDataResult.f kj44 t245 t246 t260 1).bind fun t261 => (if t261 < 0 then (some false) else (laws_FnExactSubData.j5 kj44 l0 a1 t259 t261 t236 t237 t238 t245 t246 t260))) = some r := H
            have A47 := ak A470
            clear A470
            replace H := Option.bind_eq_some_iff.mp H
            obtain ⟨t261, A480, H⟩ := H
            replace H : (if t261 < 0 then (some false) else (laws_FnExactSubData.j5 kj44 l0 a1 t259 t261 t236 t237 t238 t245 t246 t260)) = some r := H
            have A48 := ak A480
            clear A480
            have HC49 := ak H
            clear H
            have hnb50 := NB250_241.out
            have hnc50 := NB241_250.out
            have hcz51_0 : wc.cell? ⟨gb250, 0, none⟩ = some (.int .i64 t245) := (blk_cell BK250.out 0).trans rfl
            have hcz51_1 : wc.cell? ⟨gb250, 1, none⟩ = some (.int .i64 t246) := (blk_cell BK250.out 1).trans rfl
            have hcz51_2 : wc.cell? ⟨gb250, 2, none⟩ = some (.slice Ao25 t247.length co25) := (blk_cell BK250.out 2).trans rfl
            have hfz51_0 := blk_frozen BK250.out 0
            have hfz51_1 := blk_frozen BK250.out 1
            have hfz51_2 := blk_frozen BK250.out 2
            go_upto_if 54 with (first | ((with_reducible refine gate_callee (f := 28) rfl ?_); refine goesL_ (some 49) rfl rfl Tryd.func28 (by kernel_rfl) rfl #[.agg #[.int .i64 t245, .int .i64 t246, .slice Ao25 t247.length co25], .int .i64 1] rfl d10_2 ?_; (with_reducible refine (laws_markDataResult.calls kj44 t245 t246 (fun k_ => some k_ = (.slice Ao25 t247.length co25 : Value).ownBlock) (.slice Ao25 t247.length co25) t247 1 t259 t260 w _ ?side1 ?side2 A47.out).mono ?_); (case side1 => repeat (first | (with_reducible first | exact HB.out | apply below_alloc | apply pw_below_drewN | apply below_drew1 | refine below_set ?_ GE241.out | refine below_set ?_ GE250.out) | exact HB.out)); (case side2 => exact Kd.R_tight rfl HO_251002.out); rintro e w52 ⟨rfl, hy0, hb, hkp⟩; refine ⟨_, rfl, ?_⟩; have n0_ := ak (Kd.R_mono (ok' := fun k_ => some k_ ≠ (.slice Ao25 t247.length co25 : Value).ownBlock) (Kd.R_keptB (HO_242002.out) hkp (fun k_ hk_ hs_ => (hk_) hs_)) (fun k_ hk_ => hk_.1)); have n1_ := ak (Kd.R_reok rfl hy0 (fun k_ e_ => HO_251002.out.1 k_ e_)); have n2_ := ak (blk_kept d10_3 hkp (fun hs_ => (fun e_ => (Kd.R_ne HO_251002.out BK241.out (by decide)) e_) hs_)); have n3_ := ak (blk_kept d10_4 hkp (fun hs_ => (fun e_ => (Kd.R_ne HO_251002.out BK250.out (by decide)) e_) hs_)); have n4_ := ak (hb); clear HO_242002 HO_251002 BK241 BK250 HB; have HO_242002 := n0_; have HO_251002 := n1_; have BK241 := n2_; have BK250 := n3_; have HB := n4_; clear n0_ n1_ n2_ n3_ n4_; (try clear hb); (try clear hkp); (try clear hy0); have hcz53_0 : w52.cell? ⟨gb250, 0, none⟩ = some (.int .i64 t245) := (blk_cell BK250.out 0).trans rfl; have hcz53_1 : w52.cell? ⟨gb250, 1, none⟩ = some (.int .i64 t246) := (blk_cell BK250.out 1).trans rfl; have hcz53_2 : w52.cell? ⟨gb250, 2, none⟩ = some (.slice Ao25 t247.length co25) := (blk_cell BK250.out 2).trans rfl; have hfz53_0 := blk_frozen BK250.out 0; have hfz53_1 := blk_frozen BK250.out 1; have hfz53_2 := blk_frozen BK250.out 2) | ((with_reducible refine gate_callee (f := 29) rfl ?_); refine goesL_ (some 52) rfl rfl Tryd.func29 (by kernel_rfl) rfl #[.agg #[.int .i64 t245, .int .i64 t246, .slice Ao25 t260.length co25], .int .i64 1] rfl (by (try simp only [List.map_toArray, List.map_cons, List.map_nil]); first | done | (rw [show t260.length = t247.length from (Kd.R_reads' HO_251002.out).1.symm] <;> rfl) | rfl | (simp only [List.length_drop, List.length_take]; rfl)) ?_; (with_reducible refine (laws_heldDataResult.calls kj44 t245 t246 _ _ t260 1 t261 _ ?side1 ?side2 A48.out).mono ?_); (case side1 => repeat (first | exact (Kd.R_reads' HO_251002.out).2.2 | (with_reducible refine Kd.C_alloc ?_ _) | (with_reducible refine Kd.C_drewN ?_ _) | (with_reducible refine Kd.C_drew ?_))); (case side2 => rw [show t260.length = t247.length from (Kd.R_reads' HO_251002.out).1.symm]; exact (Kd.R_reads' HO_251002.out).2.1); rintro e w54 ⟨rfl, hb⟩; refine ⟨_, rfl, ?_⟩; have n0_ := ak (Kd.R_below d10_5 hb); have n1_ := ak (Kd.R_below d10_6 hb); have n2_ := ak (blk_below (g := gb241) (o := .cells #[.int .i64 t236, .int .i64 t237, .slice Ao18 t238.length co18] 52 (0, 0)) d10_3 hb); have n3_ := ak (blk_below (g := gb250) (o := .cells #[.int .i64 t245, .int .i64 t246, .slice Ao25 t247.length co25] 52 (0, 0)) d10_4 hb); have n4_ := ak (below_step d10_1 hb); clear HO_242002 HO_251002 BK241 BK250 HB; have HO_242002 := n0_; have HO_251002 := n1_; have BK241 := n2_; have BK250 := n3_; have HB := n4_; clear n0_ n1_ n2_ n3_ n4_; (try clear hb)))
            (try simp only [Act.put, List.setIfInBounds_toArray, List.set_cons_zero, List.set_cons_succ])
            go_cut [] (fun wc => ∃ (kq : Nat), Aside0 (laws_FnExactSubData.j5 kq l0 a1 t259 t261 t236 t237 t238 t245 t246 t260 = some r) ∧ Aside0 (kq ≤ kj44) ∧ Aside0 (Kd.R k99 99 wc w.heap.size (fun k_ => some k_ ≠ ((.slice Ao25 t247.length co25) : Value).ownBlock) (.slice Ao18 t238.length co18) t238) ∧ Aside0 (Kd.R k99 99 wc w.heap.size (fun k_ => some k_ ≠ ((.slice Ao18 t238.length co18) : Value).ownBlock) (.slice Ao25 t247.length co25) t260) ∧ Aside0 (wc.heap[gb241]? = some (.cells #[.int .i64 t236, .int .i64 t237, (.slice Ao18 t238.length co18)] 52 (0, 0))) ∧ Aside0 (wc.heap[gb250]? = some (.cells #[.int .i64 t245, .int .i64 t246, (.slice Ao25 t247.length co25)] 52 (0, 0))) ∧ Aside0 (Below w.heap.size w wc))
            case first =>
             have H := HC49.out
             clear HC49
             by_cases c55 : t261 < 0
             ·rw [if_pos c55] at H
              have c55b0 : decide (t261 < 0) = true := decide_eq_true c55
              clear c55
              (first | rw [c55b0] | (simp only [i64_w, i32_w]; rw [c55b0]) | skip)
              obtain rfl := Option.some.inj H
              go_wp2
              go_ret
              exact ⟨by first | rfl | (simp [errW_none, errW_some] <;> rfl) | (simp [*, errW_none, errW_some] <;> rfl), by repeat (first | (with_reducible first | exact HB.out | apply below_alloc | apply pw_below_drewN | apply below_drew1 | refine below_set ?_ GE241.out | refine below_set ?_ GE250.out) | exact HB.out)⟩
             ·rw [if_neg c55] at H
              have c55b0 : decide (t261 < 0) = false := decide_eq_false c55
              clear c55
              (first | rw [c55b0] | (simp only [i64_w, i32_w]; rw [c55b0]) | skip)
              have H' := ak H
              clear H
              go_wp2
              go_meet
              case rel => exact ⟨_, H', ⟨by have := HJ3.out; have := HJ11.out; have := HJ30.out; have := HJ36.out; have := HJ44.out; first | omega | exact Nat.le_refl _⟩, ⟨by (with_reducible repeat (first | apply Kd.R_alloc | apply Kd.R_drewN | apply Kd.R_drew)); exact HO_242002.out⟩, ⟨by (with_reducible repeat (first | apply Kd.R_alloc | apply Kd.R_drewN | apply Kd.R_drew)); exact HO_251002.out⟩, ⟨by (with_reducible repeat (first | refine blk_drewN ?_ _ | refine blk_drew ?_ | refine blk_alloc ?_ _)); exact BK241.out⟩, ⟨by (with_reducible repeat (first | refine blk_drewN ?_ _ | refine blk_drew ?_ | refine blk_alloc ?_ _)); exact BK250.out⟩, ⟨by repeat (first | (with_reducible first | exact HB.out | apply below_alloc | apply pw_below_drewN | apply below_drew1 | refine below_set ?_ GE241.out | refine below_set ?_ GE250.out) | exact HB.out)⟩⟩
            case rest =>
             clear HC49
             try clear c1
             try clear c2
             try clear p2
             try clear c3
             try clear c4
             try clear c5
             try clear c6
             try clear c6b0
             try clear c16
             try clear c18
             try clear c21
             try clear c22
             try clear c23
             try clear c25
             try clear c26
             try clear c27
             try clear c28
             try clear c29
             try clear c35
             try clear c39
             try clear c39b0
             try clear c41
             try clear c46
             try clear c50
             try clear hcz17_0
             try clear hcz17_1
             try clear hcz17_2
             try clear hcz24_0
             try clear hcz24_1
             try clear hcz24_2
             try clear hcz26_0
             try clear hcz26_1
             try clear hcz26_2
             try clear hcz42_0
             try clear hcz42_1
             try clear hcz42_2
             try clear hcz43_0
             try clear hcz43_1
             try clear hcz43_2
             try clear hcz51_0
             try clear hcz51_1
             try clear hcz51_2
             try clear hcz53_0
             try clear hcz53_1
             try clear hcz53_2
             try clear hfz17_0
             try clear hfz17_1
             try clear hfz17_2
             try clear hfz24_0
             try clear hfz24_1
             try clear hfz24_2
             try clear hfz26_0
             try clear hfz26_1
             try clear hfz26_2
             try clear hfz42_0
             try clear hfz42_1
             try clear hfz42_2
             try clear hfz43_0
             try clear hfz43_1
             try clear hfz43_2
             try clear hfz51_0
             try clear hfz51_1
             try clear hfz51_2
             try clear hfz53_0
             try clear hfz53_1
             try clear hfz53_2
             try clear p2
             obtain ⟨kq, HA, HJ48, HO_242002, HO_251002, BK241, BK250, HB⟩ := hcut
             have hl251002_48 := (Kd.R_reads' HO_251002.out).1
             rw [hl251002_48] at HO_251002
             (try simp only [hl251002_48])
             (try simp only [hl251002_48] at BK241)
             (try simp only [hl251002_48] at BK250)
             (try simp only [hl251002_48] at HO_242002)
             cases kq with
             | zero => exact absurd HA.out (by simp [laws_FnExactSubData.j5])
             | succ kj48 =>
              have H := HA.out
              clear HA
              simp only [laws_FnExactSubData.j5] at H
              have HC56 := ak H
              clear H
              go_upto_if 57 with (fail)
              go_cut [] (fun wc => ∃ (kq : Nat), Aside0 (laws_FnExactSubData.j6 kq l0 a1 t259 t236 t237 t238 t245 t246 t260 = some r) ∧ Aside0 (kq ≤ kj48) ∧ Aside0 (Kd.R k99 99 wc w.heap.size (fun k_ => some k_ ≠ ((.slice Ao25 t260.length co25) : Value).ownBlock) (.slice Ao18 t238.length co18) t238) ∧ Aside0 (Kd.R k99 99 wc w.heap.size (fun k_ => some k_ ≠ ((.slice Ao18 t238.length co18) : Value).ownBlock) (.slice Ao25 t260.length co25) t260) ∧ Aside0 (wc.heap[gb241]? = some (.cells #[.int .i64 t236, .int .i64 t237, (.slice Ao18 t238.length co18)] 52 (0, 0))) ∧ Aside0 (wc.heap[gb250]? = some (.cells #[.int .i64 t245, .int .i64 t246, (.slice Ao25 t260.length co25)] 52 (0, 0))) ∧ Aside0 (Below w.heap.size w wc))
              case first =>
               have H := HC56.out
               clear HC56
               by_cases c57 : t261 = t259
               ·rw [if_pos c57] at H
                have c57b0 : (t261 == t259) = true := beq_iff_eq.mpr c57
                have c57b1 : (t261 != t259) = false := bne_eq_false_iff_eq.mpr c57
                clear c57
                (first | rw [c57b0] | (simp only [i64_w, i32_w]; rw [c57b0]) | skip)
                have H' := ak H
                clear H
                go_wp2
                go_meet
                case rel => exact ⟨_, H', ⟨by have := HJ3.out; have := HJ11.out; have := HJ30.out; have := HJ36.out; have := HJ44.out; have := HJ48.out; first | omega | exact Nat.le_refl _⟩, ⟨by (try simp only [hl251002_48]); (with_reducible repeat (first | apply Kd.R_alloc | apply Kd.R_drewN | apply Kd.R_drew)); exact HO_242002.out⟩, ⟨by (try simp only [hl251002_48]); (with_reducible repeat (first | apply Kd.R_alloc | apply Kd.R_drewN | apply Kd.R_drew)); exact HO_251002.out⟩, ⟨by (try simp only [hl251002_48]); (with_reducible repeat (first | refine blk_drewN ?_ _ | refine blk_drew ?_ | refine blk_alloc ?_ _)); exact BK241.out⟩, ⟨by (try simp only [hl251002_48]); (with_reducible repeat (first | refine blk_drewN ?_ _ | refine blk_drew ?_ | refine blk_alloc ?_ _)); exact BK250.out⟩, ⟨by repeat (first | (with_reducible first | exact HB.out | apply below_alloc | apply pw_below_drewN | apply below_drew1 | refine below_set ?_ GE241.out | refine below_set ?_ GE250.out) | exact HB.out)⟩⟩
               ·rw [if_neg c57] at H
                have c57b0 : (t261 == t259) = false := beq_eq_false_iff_ne.mpr c57
                have c57b1 : (t261 != t259) = true := bne_iff_ne.mpr c57
                (first | rw [c57b0] | (simp only [i64_w, i32_w]; rw [c57b0]) | skip)
                obtain rfl := Option.some.inj H
                go_wp2
                go_ret
                exact ⟨by first | rfl | (simp [errW_none, errW_some] <;> rfl) | (simp [*, errW_none, errW_some] <;> rfl), by repeat (first | (with_reducible first | exact HB.out | apply below_alloc | apply pw_below_drewN | apply below_drew1 | refine below_set ?_ GE241.out | refine below_set ?_ GE250.out) | exact HB.out)⟩
              case rest =>
               clear HC56
               try clear c1
               try clear c2
               try clear p2
               try clear c3
               try clear c4
               try clear c5
               try clear c6
               try clear c6b0
               try clear c16
               try clear c18
               try clear c21
               try clear c22
               try clear c23
               try clear c25
               try clear c26
               try clear c27
               try clear c28
               try clear c29
               try clear c35
               try clear c39
               try clear c39b0
               try clear c41
               try clear c46
               try clear c50
               try clear c55
               try clear c55b0
               try clear hcz17_0
               try clear hcz17_1
               try clear hcz17_2
               try clear hcz24_0
               try clear hcz24_1
               try clear hcz24_2
               try clear hcz26_0
               try clear hcz26_1
               try clear hcz26_2
               try clear hcz42_0
               try clear hcz42_1
               try clear hcz42_2
               try clear hcz43_0
               try clear hcz43_1
               try clear hcz43_2
               try clear hcz51_0
               try clear hcz51_1
               try clear hcz51_2
               try clear hcz53_0
               try clear hcz53_1
               try clear hcz53_2
               try clear hfz17_0
               try clear hfz17_1
               try clear hfz17_2
               try clear hfz24_0
               try clear hfz24_1
               try clear hfz24_2
               try clear hfz26_0
               try clear hfz26_1
               try clear hfz26_2
               try clear hfz42_0
               try clear hfz42_1
               try clear hfz42_2
               try clear hfz43_0
               try clear hfz43_1
               try clear hfz43_2
               try clear hfz51_0
               try clear hfz51_1
               try clear hfz51_2
               try clear hfz53_0
               try clear hfz53_1
               try clear hfz53_2
               try clear p2
               obtain ⟨kq, HA, HJ55, HO_242002, HO_251002, BK241, BK250, HB⟩ := hcut
               cases kq with
               | zero => exact absurd HA.out (by simp [laws_FnExactSubData.j6])
               | succ kj55 =>
                have H := HA.out
                clear HA
                simp only [laws_FnExactSubData.j6] at H
                replace H := Option.bind_eq_some_iff.mp H
                obtain ⟨t262, A580, H⟩ := H
                replace H : ((impl_SubData.f kj55 t262 a1).bind fun bt265 => ((laws_eqDataResult.f kj55 bt265.1 bt265.2.1 bt265.2.2 t236 t237 t238).bind fun t271 => (if t271 = true then (laws_FnExactSubData.j7 kj55 t259 t245 t246 t260) else (some false)))) = some r := H
                have A58 := ak A580
                clear A580
                replace H := Option.bind_eq_some_iff.mp H
                obtain ⟨⟨t265, t266, t267⟩, A590, H⟩ := H
                replace H : ((laws_eqDataResult.f kj55 t265 t266 t267 t236 t237 t238).bind fun t271 => (if t271 = true then (laws_FnExactSubData.j7 kj55 t259 t245 t246 t260) else (some false))) = some r := H
                have A59 := ak A590
                clear A590
                replace H := Option.bind_eq_some_iff.mp H
                obtain ⟨t271, A600, H⟩ := H
                replace H : (if t271 = true then (laws_FnExactSubData.j7 kj55 t259 t245 t246 t260) else (some false)) = some r := H
                have A60 := ak A600
                clear A600
                have HC61 := ak H
                clear H
                go_upto_if 65 with (first | ((with_reducible refine gate_callee (f := 18) rfl ?_); refine goesL_ (some 59) rfl rfl Tryd.func18 (by kernel_rfl) rfl #[.slice A0 l0.length c0] rfl d10_2 ?_; (with_reducible refine (laws_toDatumS.calls kj55 _ _ l0 t262 _ ?side1 ?side2 A58.out).mono ?_); (case side1 => repeat (first | exact (Kd.C_below HR0.out HB.out) | (with_reducible refine Kd.C_alloc ?_ _) | (with_reducible refine Kd.C_drewN ?_ _) | (with_reducible refine Kd.C_drew ?_))); (case side2 => exact HC0.out); rintro e w62 ⟨v263, rfl, ho0, hb⟩; refine ⟨_, rfl, ?_⟩; have n0_ := ak (Kd.R_elder' d10_5 (Kd.R_base ho0) hb); have n1_ := ak (Kd.R_elder' d10_6 (Kd.R_base ho0) hb); have n2_ := ak (Kd.R_lower (Kd.R_new' (Kd.R_new' ho0 (Kd.R_lt d10_5)) (Kd.R_lt d10_6)) (below_size d10_1)); have n3_ := ak (blk_below (g := gb241) (o := .cells #[.int .i64 t236, .int .i64 t237, .slice Ao18 t238.length co18] 52 (0, 0)) d10_3 hb); have n4_ := ak (blk_below (g := gb250) (o := .cells #[.int .i64 t245, .int .i64 t246, .slice Ao25 t260.length co25] 52 (0, 0)) d10_4 hb); have n5_ := ak (below_step d10_1 hb); clear HO_242002 HO_251002 BK241 BK250 HB; have HO_242002 := n0_; have HO_251002 := n1_; have HO264 := n2_; have BK241 := n3_; have BK250 := n4_; have HB := n5_; clear n0_ n1_ n2_ n3_ n4_ n5_; (try clear hb); (try clear hk); (try clear ho0); obtain ⟨Ao63, co63, eo63⟩ := Kd.R_slice HO264.out; subst eo63) | ((with_reducible refine gate_callee (f := 26) rfl ?_); refine goesL_ (some 61) rfl rfl Tryd.func26 (by kernel_rfl) rfl #[.slice Ao63 t262.length co63, .int .i64 a1] rfl d10_2 ?_; (with_reducible refine (impl_SubData.calls kj55 _ _ t262 a1 t265 t266 t267 _ ?side1 ?side2 A59.out).mono ?_); (case side1 => repeat (first | exact (Kd.R_reads' HO264.out).2.2 | (with_reducible refine Kd.C_alloc ?_ _) | (with_reducible refine Kd.C_drewN ?_ _) | (with_reducible refine Kd.C_drew ?_))); (case side2 => exact (Kd.R_reads' HO264.out).2.1); rintro e w64 ⟨v268, rfl, ho0, hb⟩; refine ⟨_, rfl, ?_⟩; have n0_ := ak (Kd.R_elder' d10_5 (Kd.R_base ho0) hb); have n1_ := ak (Kd.R_elder' d10_6 (Kd.R_base ho0) hb); have n2_ := ak (Kd.R_elder' (by (with_reducible repeat (first | apply Kd.R_alloc | apply Kd.R_drewN | apply Kd.R_drew)); exact HO264.out) (Kd.R_base ho0) hb); have n3_ := ak (Kd.R_lower (Kd.R_new' (Kd.R_new' (Kd.R_new' ho0 (Kd.R_lt d10_5)) (Kd.R_lt d10_6)) (Kd.R_lt (by (with_reducible repeat (first | apply Kd.R_alloc | apply Kd.R_drewN | apply Kd.R_drew)); exact HO264.out))) (below_size d10_1)); have n4_ := ak (blk_below (g := gb241) (o := .cells #[.int .i64 t236, .int .i64 t237, .slice Ao18 t238.length co18] 52 (0, 0)) d10_3 hb); have n5_ := ak (blk_below (g := gb250) (o := .cells #[.int .i64 t245, .int .i64 t246, .slice Ao25 t260.length co25] 52 (0, 0)) d10_4 hb); have n6_ := ak (below_step d10_1 hb); clear HO_242002 HO_251002 HO264 BK241 BK250 HB; have HO_242002 := n0_; have HO_251002 := n1_; have HO264 := n2_; have HO269 := n3_; have BK241 := n4_; have BK250 := n5_; have HB := n6_; clear n0_ n1_ n2_ n3_ n4_ n5_ n6_; (try clear hb); (try clear hk); (try clear ho0)) | ((with_reducible refine gate_dst (N := 12) rfl ?_); refine box_event ?hg (N := 12) ?hd (cs := #[.int .i64 0, .int .i64 0, .slice none 0 0]) (t := 52) ?hr ?_; (case hd => rfl); (case hg => rfl); (case hr => first | (go_simp; done) | (go_simp; rfl)); intro gb270 hg w65 hbox hb; have n0_ := ak (Kd.R_below d10_5 hb); have n1_ := ak (Kd.R_below d10_6 hb); have n2_ := ak (Kd.R_below (by (with_reducible repeat (first | apply Kd.R_alloc | apply Kd.R_drewN | apply Kd.R_drew)); exact HO264.out) hb); have n3_ := ak (Kd.R_below (by (with_reducible repeat (first | apply Kd.R_alloc | apply Kd.R_drewN | apply Kd.R_drew)); exact HO269.out) hb); have n4_ := ak (blk_below (g := gb241) (o := .cells #[.int .i64 t236, .int .i64 t237, .slice Ao18 t238.length co18] 52 (0, 0)) d10_3 hb); have n5_ := ak (blk_below (g := gb250) (o := .cells #[.int .i64 t245, .int .i64 t246, .slice Ao25 t260.length co25] 52 (0, 0)) d10_4 hb); have n6_ := ak (below_step d10_1 hb); have n7_ := ak (hbox); have n8_ := ak ((by rw [hg]; exact (below_size d10_1) : w.heap.size ≤ gb270)); have n9_ := ak ((by rw [hg]; exact (below_size d10_1) : w.heap.size ≤ gb270)); have n10_ := ak ((by rw [hg]; exact Nat.ne_of_lt (blk_lt (g := gb241) (o := .cells #[.int .i64 t236, .int .i64 t237, .slice Ao18 t238.length co18] 52 (0, 0)) d10_3) : gb241 ≠ gb270)); have n11_ := ak ((by rw [hg]; exact Nat.ne_of_gt (blk_lt (g := gb241) (o := .cells #[.int .i64 t236, .int .i64 t237, .slice Ao18 t238.length co18] 52 (0, 0)) d10_3) : gb270 ≠ gb241)); have n12_ := ak ((by rw [hg]; exact Nat.ne_of_lt (blk_lt (g := gb250) (o := .cells #[.int .i64 t245, .int .i64 t246, .slice Ao25 t260.length co25] 52 (0, 0)) d10_4) : gb250 ≠ gb270)); have n13_ := ak ((by rw [hg]; exact Nat.ne_of_gt (blk_lt (g := gb250) (o := .cells #[.int .i64 t245, .int .i64 t246, .slice Ao25 t260.length co25] 52 (0, 0)) d10_4) : gb270 ≠ gb250)); clear HO_242002 HO_251002 HO264 HO269 BK241 BK250 HB; have HO_242002 := n0_; have HO_251002 := n1_; have HO264 := n2_; have HO269 := n3_; have BK241 := n4_; have BK250 := n5_; have HB := n6_; have BK270 := n7_; have GW270 := n8_; have GE270 := n9_; have NB241_270 := n10_; have NB270_241 := n11_; have NB250_270 := n12_; have NB270_250 := n13_; clear n0_ n1_ n2_ n3_ n4_ n5_ n6_ n7_ n8_ n9_ n10_ n11_ n12_ n13_ hb hbox hg; have hnb66 := NB270_241.out; have hnc66 := NB241_270.out; have hnb67 := NB270_250.out; have hnc67 := NB250_270.out; have hcz68_0 : w65.cell? ⟨gb270, 0, none⟩ = some (.int .i64 0) := (blk_cell BK270.out 0).trans rfl; have hcz68_1 : w65.cell? ⟨gb270, 1, none⟩ = some (.int .i64 0) := (blk_cell BK270.out 1).trans rfl; have hcz68_2 : w65.cell? ⟨gb270, 2, none⟩ = some (.slice none 0 0) := (blk_cell BK270.out 2).trans rfl; have hfz68_0 := blk_frozen BK270.out 0; have hfz68_1 := blk_frozen BK270.out 1; have hfz68_2 := blk_frozen BK270.out 2; obtain ⟨Ao69, co69, eo69⟩ := Kd.R_slice HO269.out; subst eo69; have hnb70 := NB241_250.out; have hnc70 := NB250_241.out; have hcz71_0 : w65.cell? ⟨gb241, 0, none⟩ = some (.int .i64 t236) := (blk_cell BK241.out 0).trans rfl; have hcz71_1 : w65.cell? ⟨gb241, 1, none⟩ = some (.int .i64 t237) := (blk_cell BK241.out 1).trans rfl; have hcz71_2 : w65.cell? ⟨gb241, 2, none⟩ = some (.slice Ao18 t238.length co18) := (blk_cell BK241.out 2).trans rfl; have hfz71_0 := blk_frozen BK241.out 0; have hfz71_1 := blk_frozen BK241.out 1; have hfz71_2 := blk_frozen BK241.out 2) | ((with_reducible refine gate_callee (f := 27) rfl ?_); refine goesL_ (some 64) rfl rfl Tryd.func27 (by kernel_rfl) rfl #[.agg #[.int .i64 t265, .int .i64 t266, .slice Ao69 t267.length co69], .agg #[.int .i64 t236, .int .i64 t237, .slice Ao18 t238.length co18]] rfl d10_2 ?_; (with_reducible refine (laws_eqDataResult.calls kj55 t265 t266 _ _ t267 t236 t237 _ _ t238 t271 _ ?side1 ?side2 ?side3 ?side4 A60.out).mono ?_); (case side1 => refine (Kd.R_reads' (e := 99) (base := w.heap.size) (ok := fun k_ => (((True ∧ some k_ ≠ (.slice Ao18 t238.length co18 : Value).ownBlock) ∧ some k_ ≠ (.slice Ao25 t260.length co25 : Value).ownBlock) ∧ some k_ ≠ (.slice Ao63 t262.length co63 : Value).ownBlock)) (n := t267.length) (c := co69) ?_).2.2; exact (by (with_reducible repeat (first | apply Kd.R_alloc | apply Kd.R_drewN | apply Kd.R_drew)); exact (Kd.R_mono (Kd.R_far (p := ⟨gb270, 2, none⟩) (Kd.R_far (p := ⟨gb270, 1, none⟩) (Kd.R_far (p := ⟨gb270, 0, none⟩) (Kd.R_types HO269.out BK270.out (by decide)) (fun _ hk => hk.2) (.int .i64 t265)) (fun _ hk => hk.2) (.int .i64 t266)) (fun _ hk => hk.2) (.slice Ao69 t267.length co69)) (fun _ h_ => h_.1)))); (case side2 => exact (Kd.R_reads' HO269.out).2.1); (case side3 => refine (Kd.R_reads' (e := 99) (base := w.heap.size) (ok := fun k_ => ((some k_ ≠ (.slice Ao25 t260.length co25 : Value).ownBlock ∧ some k_ ≠ (.slice Ao63 t262.length co63 : Value).ownBlock) ∧ some k_ ≠ (.slice Ao69 t267.length co69 : Value).ownBlock)) (n := t238.length) (c := co18) ?_).2.2; exact (by (with_reducible repeat (first | apply Kd.R_alloc | apply Kd.R_drewN | apply Kd.R_drew)); exact (Kd.R_mono (Kd.R_far (p := ⟨gb270, 2, none⟩) (Kd.R_far (p := ⟨gb270, 1, none⟩) (Kd.R_far (p := ⟨gb270, 0, none⟩) (Kd.R_types HO_242002.out BK270.out (by decide)) (fun _ hk => hk.2) (.int .i64 t265)) (fun _ hk => hk.2) (.int .i64 t266)) (fun _ hk => hk.2) (.slice Ao69 t267.length co69)) (fun _ h_ => h_.1)))); (case side4 => exact (Kd.R_reads' HO_242002.out).2.1); rintro e w72 ⟨rfl, hb⟩; refine ⟨_, rfl, ?_⟩; have n0_ := ak (Kd.R_below (by (with_reducible repeat (first | apply Kd.R_alloc | apply Kd.R_drewN | apply Kd.R_drew)); exact (Kd.R_mono (Kd.R_far (p := ⟨gb270, 2, none⟩) (Kd.R_far (p := ⟨gb270, 1, none⟩) (Kd.R_far (p := ⟨gb270, 0, none⟩) (Kd.R_types HO_242002.out BK270.out (by decide)) (fun _ hk => hk.2) (.int .i64 t265)) (fun _ hk => hk.2) (.int .i64 t266)) (fun _ hk => hk.2) (.slice Ao69 t267.length co69)) (fun _ h_ => h_.1))) hb); have n1_ := ak (Kd.R_below (by (with_reducible repeat (first | apply Kd.R_alloc | apply Kd.R_drewN | apply Kd.R_drew)); exact (Kd.R_mono (Kd.R_far (p := ⟨gb270, 2, none⟩) (Kd.R_far (p := ⟨gb270, 1, none⟩) (Kd.R_far (p := ⟨gb270, 0, none⟩) (Kd.R_types HO_251002.out BK270.out (by decide)) (fun _ hk => hk.2) (.int .i64 t265)) (fun _ hk => hk.2) (.int .i64 t266)) (fun _ hk => hk.2) (.slice Ao69 t267.length co69)) (fun _ h_ => h_.1))) hb); have n2_ := ak (Kd.R_below (by (with_reducible repeat (first | apply Kd.R_alloc | apply Kd.R_drewN | apply Kd.R_drew)); exact (Kd.R_mono (Kd.R_far (p := ⟨gb270, 2, none⟩) (Kd.R_far (p := ⟨gb270, 1, none⟩) (Kd.R_far (p := ⟨gb270, 0, none⟩) (Kd.R_types HO264.out BK270.out (by decide)) (fun _ hk => hk.2) (.int .i64 t265)) (fun _ hk => hk.2) (.int .i64 t266)) (fun _ hk => hk.2) (.slice Ao69 t267.length co69)) (fun _ h_ => h_.1))) hb); have n3_ := ak (Kd.R_below (by (with_reducible repeat (first | apply Kd.R_alloc | apply Kd.R_drewN | apply Kd.R_drew)); exact (Kd.R_mono (Kd.R_far (p := ⟨gb270, 2, none⟩) (Kd.R_far (p := ⟨gb270, 1, none⟩) (Kd.R_far (p := ⟨gb270, 0, none⟩) (Kd.R_types HO269.out BK270.out (by decide)) (fun _ hk => hk.2) (.int .i64 t265)) (fun _ hk => hk.2) (.int .i64 t266)) (fun _ hk => hk.2) (.slice Ao69 t267.length co69)) (fun _ h_ => h_.1))) hb); have n4_ := ak (blk_below (g := gb241) (o := .cells #[.int .i64 t236, .int .i64 t237, .slice Ao18 t238.length co18] 52 (0, 0)) (by (with_reducible repeat (first | refine blk_drewN ?_ _ | refine blk_drew ?_ | refine blk_alloc ?_ _)); refine blk_far ?_ NB241_270.out _; (with_reducible repeat (first | refine blk_drewN ?_ _ | refine blk_drew ?_ | refine blk_alloc ?_ _)); refine blk_far ?_ NB241_270.out _; (with_reducible repeat (first | refine blk_drewN ?_ _ | refine blk_drew ?_ | refine blk_alloc ?_ _)); refine blk_far ?_ NB241_270.out _; (with_reducible repeat (first | refine blk_drewN ?_ _ | refine blk_drew ?_ | refine blk_alloc ?_ _)); exact BK241.out) hb); have n5_ := ak (blk_below (g := gb250) (o := .cells #[.int .i64 t245, .int .i64 t246, .slice Ao25 t260.length co25] 52 (0, 0)) (by (with_reducible repeat (first | refine blk_drewN ?_ _ | refine blk_drew ?_ | refine blk_alloc ?_ _)); refine blk_far ?_ NB250_270.out _; (with_reducible repeat (first | refine blk_drewN ?_ _ | refine blk_drew ?_ | refine blk_alloc ?_ _)); refine blk_far ?_ NB250_270.out _; (with_reducible repeat (first | refine blk_drewN ?_ _ | refine blk_drew ?_ | refine blk_alloc ?_ _)); refine blk_far ?_ NB250_270.out _; (with_reducible repeat (first | refine blk_drewN ?_ _ | refine blk_drew ?_ | refine blk_alloc ?_ _)); exact BK250.out) hb); have n6_ := ak (blk_below (g := gb270) (o := .cells #[.int .i64 t265, .int .i64 t266, .slice Ao69 t267.length co69] 52 (0, 0)) (by (with_reducible repeat (first | refine blk_drewN ?_ _ | refine blk_drew ?_ | refine blk_alloc ?_ _)); refine blk_put (cs := #[.int .i64 t265, .int .i64 t266, .slice none 0 0]) ?_ 2 _ rfl; (with_reducible repeat (first | refine blk_drewN ?_ _ | refine blk_drew ?_ | refine blk_alloc ?_ _)); refine blk_put (cs := #[.int .i64 t265, .int .i64 0, .slice none 0 0]) ?_ 1 _ rfl; (with_reducible repeat (first | refine blk_drewN ?_ _ | refine blk_drew ?_ | refine blk_alloc ?_ _)); refine blk_put (cs := #[.int .i64 0, .int .i64 0, .slice none 0 0]) ?_ 0 _ rfl; (with_reducible repeat (first | refine blk_drewN ?_ _ | refine blk_drew ?_ | refine blk_alloc ?_ _)); exact BK270.out) hb); have n7_ := ak (below_step d10_9 hb); clear HO_242002 HO_251002 HO264 HO269 BK241 BK250 BK270 HB; have HO_242002 := n0_; have HO_251002 := n1_; have HO264 := n2_; have HO269 := n3_; have BK241 := n4_; have BK250 := n5_; have BK270 := n6_; have HB := n7_; clear n0_ n1_ n2_ n3_ n4_ n5_ n6_ n7_; (try clear hb); (try clear hk)))
                (try simp only [Act.put, List.setIfInBounds_toArray, List.set_cons_zero, List.set_cons_succ])
                go_cut [] (fun wc => ∃ (kq : Nat), Aside0 (laws_FnExactSubData.j7 kq t259 t245 t246 t260 = some r) ∧ Aside0 (kq ≤ kj55) ∧ Aside0 (Kd.R k99 99 wc w.heap.size (fun k_ => some k_ ≠ ((.slice Ao25 t260.length co25) : Value).ownBlock ∧ some k_ ≠ ((.slice Ao69 t267.length co69) : Value).ownBlock) (.slice Ao18 t238.length co18) t238) ∧ Aside0 (Kd.R k99 99 wc w.heap.size (fun k_ => some k_ ≠ ((.slice Ao18 t238.length co18) : Value).ownBlock ∧ some k_ ≠ ((.slice Ao69 t267.length co69) : Value).ownBlock) (.slice Ao25 t260.length co25) t260) ∧ Aside0 (Kd.R k99 99 wc w.heap.size (fun k_ => some k_ ≠ ((.slice Ao18 t238.length co18) : Value).ownBlock ∧ some k_ ≠ ((.slice Ao25 t260.length co25) : Value).ownBlock) (.slice Ao69 t267.length co69) t267) ∧ Aside0 (wc.heap[gb241]? = some (.cells #[.int .i64 t236, .int .i64 t237, (.slice Ao18 t238.length co18)] 52 (0, 0))) ∧ Aside0 (wc.heap[gb250]? = some (.cells #[.int .i64 t245, .int .i64 t246, (.slice Ao25 t260.length co25)] 52 (0, 0))) ∧ Aside0 (wc.heap[gb270]? = some (.cells #[.int .i64 t265, .int .i64 t266, (.slice Ao69 t267.length co69)] 52 (0, 0))) ∧ Aside0 (Below w.heap.size w wc))
                case first =>
                 have H := HC61.out
                 clear HC61
                 by_cases c73 : t271 = true
                 ·subst c73
                  have H1 : (laws_FnExactSubData.j7 kj55 t259 t245 t246 t260) = some r := by rw [if_pos rfl] at H; exact H
                  clear H
                  have H := H1
                  clear H1
                  have H' := ak H
                  clear H
                  go_wp2
                  go_meet
                  case rel => exact ⟨_, H', ⟨by have := HJ3.out; have := HJ11.out; have := HJ30.out; have := HJ36.out; have := HJ44.out; have := HJ48.out; have := HJ55.out; first | omega | exact Nat.le_refl _⟩, ⟨by (try simp only [hl251002_48]); (with_reducible repeat (first | apply Kd.R_alloc | apply Kd.R_drewN | apply Kd.R_drew)); exact Kd.R_mono HO_242002.out (fun _ hk => ⟨hk.1.1, hk.2⟩)⟩, ⟨by (try simp only [hl251002_48]); (with_reducible repeat (first | apply Kd.R_alloc | apply Kd.R_drewN | apply Kd.R_drew)); exact Kd.R_mono HO_251002.out (fun _ hk => ⟨hk.1.1, hk.2⟩)⟩, ⟨by (try simp only [hl251002_48]); (with_reducible repeat (first | apply Kd.R_alloc | apply Kd.R_drewN | apply Kd.R_drew)); exact Kd.R_mono HO269.out (fun _ hk => ⟨hk.1.1.2, hk.1.2⟩)⟩, ⟨by (try simp only [hl251002_48]); (with_reducible repeat (first | refine blk_drewN ?_ _ | refine blk_drew ?_ | refine blk_alloc ?_ _)); exact BK241.out⟩, ⟨by (try simp only [hl251002_48]); (with_reducible repeat (first | refine blk_drewN ?_ _ | refine blk_drew ?_ | refine blk_alloc ?_ _)); exact BK250.out⟩, ⟨by (try simp only [hl251002_48]); (with_reducible repeat (first | refine blk_drewN ?_ _ | refine blk_drew ?_ | refine blk_alloc ?_ _)); exact BK270.out⟩, ⟨by repeat (first | (with_reducible first | exact HB.out | apply below_alloc | apply pw_below_drewN | apply below_drew1 | refine below_set ?_ GE241.out | refine below_set ?_ GE250.out | refine below_set ?_ GE270.out) | exact HB.out)⟩⟩
                 ·replace c73 := Bool.eq_false_iff.mpr c73
                  subst c73
                  have H1 : (some false) = some r := by rw [if_neg (show ¬ (false = true) by decide)] at H; exact H
                  clear H
                  have H := H1
                  clear H1
                  obtain rfl := Option.some.inj H
                  go_wp2
                  go_ret
                  exact ⟨by first | rfl | (simp [errW_none, errW_some] <;> rfl) | (simp [*, errW_none, errW_some] <;> rfl), by repeat (first | (with_reducible first | exact HB.out | apply below_alloc | apply pw_below_drewN | apply below_drew1 | refine below_set ?_ GE241.out | refine below_set ?_ GE250.out | refine below_set ?_ GE270.out) | exact HB.out)⟩
                case rest =>
                 clear HC61
                 try clear c1
                 try clear c2
                 try clear p2
                 try clear c3
                 try clear c4
                 try clear c5
                 try clear c6
                 try clear c6b0
                 try clear c7
                 try clear c16
                 try clear c18
                 try clear c21
                 try clear c22
                 try clear c23
                 try clear c25
                 try clear c26
                 try clear c27
                 try clear c28
                 try clear c29
                 try clear c35
                 try clear c39
                 try clear c39b0
                 try clear c41
                 try clear c46
                 try clear c50
                 try clear c55
                 try clear c55b0
                 try clear c57
                 try clear c57b0
                 try clear c57b1
                 try clear c66
                 try clear c67
                 try clear c70
                 try clear hcz17_0
                 try clear hcz17_1
                 try clear hcz17_2
                 try clear hcz24_0
                 try clear hcz24_1
                 try clear hcz24_2
                 try clear hcz26_0
                 try clear hcz26_1
                 try clear hcz26_2
                 try clear hcz42_0
                 try clear hcz42_1
                 try clear hcz42_2
                 try clear hcz43_0
                 try clear hcz43_1
                 try clear hcz43_2
                 try clear hcz51_0
                 try clear hcz51_1
                 try clear hcz51_2
                 try clear hcz53_0
                 try clear hcz53_1
                 try clear hcz53_2
                 try clear hcz68_0
                 try clear hcz68_1
                 try clear hcz68_2
                 try clear hcz71_0
                 try clear hcz71_1
                 try clear hcz71_2
                 try clear hfz17_0
                 try clear hfz17_1
                 try clear hfz17_2
                 try clear hfz24_0
                 try clear hfz24_1
                 try clear hfz24_2
                 try clear hfz26_0
                 try clear hfz26_1
                 try clear hfz26_2
                 try clear hfz42_0
                 try clear hfz42_1
                 try clear hfz42_2
                 try clear hfz43_0
                 try clear hfz43_1
                 try clear hfz43_2
                 try clear hfz51_0
                 try clear hfz51_1
                 try clear hfz51_2
                 try clear hfz53_0
                 try clear hfz53_1
                 try clear hfz53_2
                 try clear hfz68_0
                 try clear hfz68_1
                 try clear hfz68_2
                 try clear hfz71_0
                 try clear hfz71_1
                 try clear hfz71_2
                 try clear p2
                 obtain ⟨kq, HA, HJ60, HO_242002, HO_251002, HO_271002, BK241, BK250, BK270, HB⟩ := hcut
                 cases kq with
                 | zero => exact absurd HA.out (by simp [laws_FnExactSubData.j7])
                 | succ kj60 =>
                  have H := HA.out
                  clear HA
                  simp only [laws_FnExactSubData.j7] at H
                  replace H := Option.bind_eq_some_iff.mp H
                  obtain ⟨t272, A740, H⟩ := H
                  replace H : (if t272 < 0 then (some false) else (if t272 = t259 then (some true) else (some false))) = some r := H
                  have A74 := ak A740
                  clear A740
                  by_cases c75 : t272 < 0
                  ·rw [if_pos c75] at H
                   have c75b0 : decide (t272 < 0) = true := decide_eq_true c75
                   clear c75
                   obtain rfl := Option.some.inj H
                   have hnb76 := NB250_241.out
                   have hnc76 := NB241_250.out
                   have hnb77 := NB250_270.out
                   have hnc77 := NB270_250.out
                   have hcz78_0 : wc.cell? ⟨gb250, 0, none⟩ = some (.int .i64 t245) := (blk_cell BK250.out 0).trans rfl
                   have hcz78_1 : wc.cell? ⟨gb250, 1, none⟩ = some (.int .i64 t246) := (blk_cell BK250.out 1).trans rfl
                   have hcz78_2 : wc.cell? ⟨gb250, 2, none⟩ = some (.slice Ao25 t260.length co25) := (blk_cell BK250.out 2).trans rfl
                   have hfz78_0 := blk_frozen BK250.out 0
                   have hfz78_1 := blk_frozen BK250.out 1
                   have hfz78_2 := blk_frozen BK250.out 2
                   go_wp2_with (first | ((with_reducible refine gate_callee (f := 29) rfl ?_); refine goesL_ (some 68) rfl rfl Tryd.func29 (by kernel_rfl) rfl #[.agg #[.int .i64 t245, .int .i64 t246, .slice Ao25 t260.length co25], .int .i64 1] rfl d10_2 ?_; (with_reducible refine (laws_heldDataResult.calls kj60 t245 t246 _ _ t260 1 t272 _ ?side1 ?side2 A74.out).mono ?_); (case side1 => repeat (first | exact (Kd.R_reads' HO_251002.out).2.2 | (with_reducible refine Kd.C_alloc ?_ _) | (with_reducible refine Kd.C_drewN ?_ _) | (with_reducible refine Kd.C_drew ?_))); (case side2 => exact (Kd.R_reads' HO_251002.out).2.1); rintro e w79 ⟨rfl, hb⟩; refine ⟨_, rfl, ?_⟩; have n0_ := ak (Kd.R_below d10_5 hb); have n1_ := ak (Kd.R_below d10_6 hb); have n2_ := ak (Kd.R_below (by (with_reducible repeat (first | apply Kd.R_alloc | apply Kd.R_drewN | apply Kd.R_drew)); exact HO_271002.out) hb); have n3_ := ak (blk_below (g := gb241) (o := .cells #[.int .i64 t236, .int .i64 t237, .slice Ao18 t238.length co18] 52 (0, 0)) d10_3 hb); have n4_ := ak (blk_below (g := gb250) (o := .cells #[.int .i64 t245, .int .i64 t246, .slice Ao25 t260.length co25] 52 (0, 0)) d10_4 hb); have n5_ := ak (blk_below (g := gb270) (o := .cells #[.int .i64 t265, .int .i64 t266, .slice Ao69 t267.length co69] 52 (0, 0)) (by (with_reducible repeat (first | refine blk_drewN ?_ _ | refine blk_drew ?_ | refine blk_alloc ?_ _)); exact BK270.out) hb); have n6_ := ak (below_step d10_9 hb); clear HO_242002 HO_251002 HO_271002 BK241 BK250 BK270 HB; have HO_242002 := n0_; have HO_251002 := n1_; have HO_271002 := n2_; have BK241 := n3_; have BK250 := n4_; have BK270 := n5_; have HB := n6_; clear n0_ n1_ n2_ n3_ n4_ n5_ n6_; (try clear hb)))
                   go_ret
                   exact ⟨by first | rfl | (simp [errW_none, errW_some] <;> rfl) | (simp [*, errW_none, errW_some] <;> rfl), by repeat (first | (with_reducible first | exact HB.out | apply below_alloc | apply pw_below_drewN | apply below_drew1 | refine below_set ?_ GE241.out | refine below_set ?_ GE250.out | refine below_set ?_ GE270.out) | exact HB.out)⟩
                  ·rw [if_neg c75] at H
                   have c75b0 : decide (t272 < 0) = false := decide_eq_false c75
                   clear c75
                   by_cases c80 : t272 = t259
                   ·rw [if_pos c80] at H
                    have c80b0 : (t272 == t259) = true := beq_iff_eq.mpr c80
                    have c80b1 : (t272 != t259) = false := bne_eq_false_iff_eq.mpr c80
                    clear c80
                    obtain rfl := Option.some.inj H
                    have hnb81 := NB250_241.out
                    have hnc81 := NB241_250.out
                    have hnb82 := NB250_270.out
                    have hnc82 := NB270_250.out
                    have hcz83_0 : wc.cell? ⟨gb250, 0, none⟩ = some (.int .i64 t245) := (blk_cell BK250.out 0).trans rfl
                    have hcz83_1 : wc.cell? ⟨gb250, 1, none⟩ = some (.int .i64 t246) := (blk_cell BK250.out 1).trans rfl
                    have hcz83_2 : wc.cell? ⟨gb250, 2, none⟩ = some (.slice Ao25 t260.length co25) := (blk_cell BK250.out 2).trans rfl
                    have hfz83_0 := blk_frozen BK250.out 0
                    have hfz83_1 := blk_frozen BK250.out 1
                    have hfz83_2 := blk_frozen BK250.out 2
                    go_wp2_with (first | ((with_reducible refine gate_callee (f := 29) rfl ?_); refine goesL_ (some 68) rfl rfl Tryd.func29 (by kernel_rfl) rfl #[.agg #[.int .i64 t245, .int .i64 t246, .slice Ao25 t260.length co25], .int .i64 1] rfl d10_2 ?_; (with_reducible refine (laws_heldDataResult.calls kj60 t245 t246 _ _ t260 1 t272 _ ?side1 ?side2 A74.out).mono ?_); (case side1 => repeat (first | exact (Kd.R_reads' HO_251002.out).2.2 | (with_reducible refine Kd.C_alloc ?_ _) | (with_reducible refine Kd.C_drewN ?_ _) | (with_reducible refine Kd.C_drew ?_))); (case side2 => exact (Kd.R_reads' HO_251002.out).2.1); rintro e w84 ⟨rfl, hb⟩; refine ⟨_, rfl, ?_⟩; have n0_ := ak (Kd.R_below d10_5 hb); have n1_ := ak (Kd.R_below d10_6 hb); have n2_ := ak (Kd.R_below (by (with_reducible repeat (first | apply Kd.R_alloc | apply Kd.R_drewN | apply Kd.R_drew)); exact HO_271002.out) hb); have n3_ := ak (blk_below (g := gb241) (o := .cells #[.int .i64 t236, .int .i64 t237, .slice Ao18 t238.length co18] 52 (0, 0)) d10_3 hb); have n4_ := ak (blk_below (g := gb250) (o := .cells #[.int .i64 t245, .int .i64 t246, .slice Ao25 t260.length co25] 52 (0, 0)) d10_4 hb); have n5_ := ak (blk_below (g := gb270) (o := .cells #[.int .i64 t265, .int .i64 t266, .slice Ao69 t267.length co69] 52 (0, 0)) (by (with_reducible repeat (first | refine blk_drewN ?_ _ | refine blk_drew ?_ | refine blk_alloc ?_ _)); exact BK270.out) hb); have n6_ := ak (below_step d10_9 hb); clear HO_242002 HO_251002 HO_271002 BK241 BK250 BK270 HB; have HO_242002 := n0_; have HO_251002 := n1_; have HO_271002 := n2_; have BK241 := n3_; have BK250 := n4_; have BK270 := n5_; have HB := n6_; clear n0_ n1_ n2_ n3_ n4_ n5_ n6_; (try clear hb)))
                    go_ret
                    exact ⟨by first | rfl | (simp [errW_none, errW_some] <;> rfl) | (simp [*, errW_none, errW_some] <;> rfl), by repeat (first | (with_reducible first | exact HB.out | apply below_alloc | apply pw_below_drewN | apply below_drew1 | refine below_set ?_ GE241.out | refine below_set ?_ GE250.out | refine below_set ?_ GE270.out) | exact HB.out)⟩
                   ·rw [if_neg c80] at H
                    have c80b0 : (t272 == t259) = false := beq_eq_false_iff_ne.mpr c80
                    have c80b1 : (t272 != t259) = true := bne_iff_ne.mpr c80
                    obtain rfl := Option.some.inj H
                    have hnb85 := NB250_241.out
                    have hnc85 := NB241_250.out
                    have hnb86 := NB250_270.out
                    have hnc86 := NB270_250.out
                    have hcz87_0 : wc.cell? ⟨gb250, 0, none⟩ = some (.int .i64 t245) := (blk_cell BK250.out 0).trans rfl
                    have hcz87_1 : wc.cell? ⟨gb250, 1, none⟩ = some (.int .i64 t246) := (blk_cell BK250.out 1).trans rfl
                    have hcz87_2 : wc.cell? ⟨gb250, 2, none⟩ = some (.slice Ao25 t260.length co25) := (blk_cell BK250.out 2).trans rfl
                    have hfz87_0 := blk_frozen BK250.out 0
                    have hfz87_1 := blk_frozen BK250.out 1
                    have hfz87_2 := blk_frozen BK250.out 2
                    go_wp2_with (first | ((with_reducible refine gate_callee (f := 29) rfl ?_); refine goesL_ (some 68) rfl rfl Tryd.func29 (by kernel_rfl) rfl #[.agg #[.int .i64 t245, .int .i64 t246, .slice Ao25 t260.length co25], .int .i64 1] rfl d10_2 ?_; (with_reducible refine (laws_heldDataResult.calls kj60 t245 t246 _ _ t260 1 t272 _ ?side1 ?side2 A74.out).mono ?_); (case side1 => repeat (first | exact (Kd.R_reads' HO_251002.out).2.2 | (with_reducible refine Kd.C_alloc ?_ _) | (with_reducible refine Kd.C_drewN ?_ _) | (with_reducible refine Kd.C_drew ?_))); (case side2 => exact (Kd.R_reads' HO_251002.out).2.1); rintro e w88 ⟨rfl, hb⟩; refine ⟨_, rfl, ?_⟩; have n0_ := ak (Kd.R_below d10_5 hb); have n1_ := ak (Kd.R_below d10_6 hb); have n2_ := ak (Kd.R_below (by (with_reducible repeat (first | apply Kd.R_alloc | apply Kd.R_drewN | apply Kd.R_drew)); exact HO_271002.out) hb); have n3_ := ak (blk_below (g := gb241) (o := .cells #[.int .i64 t236, .int .i64 t237, .slice Ao18 t238.length co18] 52 (0, 0)) d10_3 hb); have n4_ := ak (blk_below (g := gb250) (o := .cells #[.int .i64 t245, .int .i64 t246, .slice Ao25 t260.length co25] 52 (0, 0)) d10_4 hb); have n5_ := ak (blk_below (g := gb270) (o := .cells #[.int .i64 t265, .int .i64 t266, .slice Ao69 t267.length co69] 52 (0, 0)) (by (with_reducible repeat (first | refine blk_drewN ?_ _ | refine blk_drew ?_ | refine blk_alloc ?_ _)); exact BK270.out) hb); have n6_ := ak (below_step d10_9 hb); clear HO_242002 HO_251002 HO_271002 BK241 BK250 BK270 HB; have HO_242002 := n0_; have HO_251002 := n1_; have HO_271002 := n2_; have BK241 := n3_; have BK250 := n4_; have BK270 := n5_; have HB := n6_; clear n0_ n1_ n2_ n3_ n4_ n5_ n6_; (try clear hb)))
                    go_ret
                    exact ⟨by first | rfl | (simp [errW_none, errW_some] <;> rfl) | (simp [*, errW_none, errW_some] <;> rfl), by repeat (first | (with_reducible first | exact HB.out | apply below_alloc | apply pw_below_drewN | apply below_drew1 | refine below_set ?_ GE241.out | refine below_set ?_ GE250.out | refine below_set ?_ GE270.out) | exact HB.out)⟩

end Go.Proofs.YtaeeoljihmndfaaDoor.B
