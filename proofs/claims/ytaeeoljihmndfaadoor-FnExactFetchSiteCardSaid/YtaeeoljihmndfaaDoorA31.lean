/- Walks of the program's functions: each Go function's answer as a plain Lean function, and that the call comes to it. Written by a program. Conditions: those in each theorem's own head. -/
import Derived.Test.YtaeeoljihmndfaaDoorA0
import Derived.Test.YtaeeoljihmndfaaDoorA6
import Derived.Test.YtaeeoljihmndfaaDoorA7
import Derived.Test.YtaeeoljihmndfaaDoorA9
import Derived.Test.YtaeeoljihmndfaaDoorA29
import Derived.Test.YtaeeoljihmndfaaDoorA30
namespace Go.Proofs.YtaeeoljihmndfaaDoor.A
open Go.RowKit Go.Proofs.YtaeeoljihmndfaaDoorW.PrintWords Go.Proofs.YtaeeoljihmndfaaDoorW.PrintLast Go.Proofs.YtaeeoljihmndfaaDoorW.PrintMore
attribute [local go_sem] max2_int min2_int max_two min_two max_three min_three max_four min_four   -- for this text's walks alone
set_option linter.unusedVariables false
set_option linter.unusedSimpArgs false

theorem d31_1 {p : Prop} (h : p := by (with_reducible repeat (first | refine blk_drewN ?_ _ | refine blk_drew ?_ | refine blk_alloc ?_ _)); exact BK763.out) : p := h
theorem d31_2 {p : Prop} (h : p := by repeat (first | (with_reducible first | exact HB.out | apply below_alloc | apply pw_below_drewN | apply below_drew1 | refine below_set ?_ GE763.out | refine below_set ?_ GE782.out) | exact HB.out)) : p := h
theorem d31_3 {p : Prop} (h : p := by repeat (first | (with_reducible first | exact HB.out | apply below_alloc | apply pw_below_drewN | apply below_drew1 | refine below_set ?_ GE763.out) | exact HB.out)) : p := h
theorem d31_4 {p : Prop} (h : p := by (try simp only [List.map_toArray, List.map_cons, List.map_nil]); first | done | rfl | (simp only [List.length_drop, List.length_take]; rfl)) : p := h
theorem d31_5 {p : Prop} (h : p := by (with_reducible repeat (first | refine blk_drewN ?_ _ | refine blk_drew ?_ | refine blk_alloc ?_ _)); exact BK782.out) : p := h
theorem d31_6 {p : Prop} (h : p := by (with_reducible repeat (first | apply Kd.R_alloc | apply Kd.R_drewN | apply Kd.R_drew)); exact HO768.out) : p := h
theorem d31_7 {p : Prop} (h : p := by repeat (first | (with_reducible first | exact HB.out | apply below_alloc | apply pw_below_drewN | apply below_drew1 | refine below_set ?_ GE763.out | refine below_set ?_ GE782.out | refine below_set ?_ GE799.out) | exact HB.out)) : p := h
theorem d31_8 {p : Prop} (h : p := by (with_reducible repeat (first | apply Kd.R_alloc | apply Kd.R_drewN | apply Kd.R_drew)); exact HO_9.out) : p := h
theorem d31_9 {p : Prop} (h : p := by (with_reducible repeat (first | refine blk_drewN ?_ _ | refine blk_drew ?_ | refine blk_alloc ?_ _)); exact BK799.out) : p := h

/-! ### laws_FnExactFetchSite: function 8 -/
mutual
def laws_FnExactFetchSite.j0 : Nat → List (S83) → ByteArray → Int → Int → Int → ByteArray → Option (Bool)
  | 0, _, _, _, _, _, _ => none
  | k + 1, x0, x1, x764000, x764001, x764002, x764003 => (laws_szGlobalS.f k x0 1048576).bind fun t764 => (if t764 < 0 then (some true) else (laws_FnExactFetchSite.j1 k x0 x1 t764 x764000 x764001 x764002 x764003))
def laws_FnExactFetchSite.j1 : Nat → List (S83) → ByteArray → Int → Int → Int → Int → ByteArray → Option (Bool)
  | 0, _, _, _, _, _, _, _ => none
  | k + 1, x0, x1, x7, x764000, x764001, x764002, x764003 => (laws_szSite.f x764000 x764001 x764002 x764003 x7).bind fun t765 => (if t765 < 0 then (some true) else (laws_FnExactFetchSite.j2 k x0 x1 x764000 x764001 x764002 x764003))
def laws_FnExactFetchSite.j2 : Nat → List (S83) → ByteArray → Int → Int → Int → ByteArray → Option (Bool)
  | 0, _, _, _, _, _, _ => none
  | k + 1, x0, x1, x764000, x764001, x764002, x764003 => (laws_toGlobalS.f k x0).bind fun t766 => ((laws_toSite.f x764000 x764001 x764002 x764003).bind fun bt769 => ((spec_FetchSite.f k t766 x1 bt769.1 bt769.2.1 bt769.2.2.1 bt769.2.2.2).bind fun bt773 => ((laws_toGlobalS.f k x0).bind fun t783 => ((laws_toSite.f x764000 x764001 x764002 x764003).bind fun bt786 => ((impl_FetchSite.f k t783 x1 bt786.1 bt786.2.1 bt786.2.2.1 bt786.2.2.2).bind fun bt790 => ((laws_eqFetchResult.f bt790.1 bt790.2.1 bt790.2.2.1 bt790.2.2.2.1 bt790.2.2.2.2.1 bt790.2.2.2.2.2.1 bt790.2.2.2.2.2.2.1 bt790.2.2.2.2.2.2.2.1 bt790.2.2.2.2.2.2.2.2 bt773.1 bt773.2.1 bt773.2.2.1 bt773.2.2.2.1 bt773.2.2.2.2.1 bt773.2.2.2.2.2.1 bt773.2.2.2.2.2.2.1 bt773.2.2.2.2.2.2.2.1 bt773.2.2.2.2.2.2.2.2).bind fun t800 => (if t800 = true then (laws_FnExactFetchSite.j3 k x0 t783) else (some false))))))))
def laws_FnExactFetchSite.j3 : Nat → List (S83) → List (S88) → Option (Bool)
  | 0, _, _ => none
  | k + 1, x0, x9 => (laws_toGlobalS.f k x0).bind fun t801 => ((laws_eqGlobalS.f k x9 t801).bind fun t804 => (if t804 = true then (some true) else (some false)))
end
def laws_FnExactFetchSite.f (k : Nat) (l0 : List (S83)) (a1 : ByteArray) (a2_0 : Int) (a2_1 : Int) (a2_2 : Int) (a2_3 : ByteArray) : Option (Bool) := if (a1.size : Int) > 1048576 then (some true) else (laws_FnExactFetchSite.j0 k l0 a1 a2_0 a2_1 a2_2 a2_3)
theorem laws_FnExactFetchSite.mono_l : ∀ k, (∀ y0 y1 y2 y3 y4 y5, LeO (laws_FnExactFetchSite.j0 k y0 y1 y2 y3 y4 y5) (laws_FnExactFetchSite.j0 (k + 1) y0 y1 y2 y3 y4 y5)) ∧ (∀ y0 y1 y2 y3 y4 y5 y6, LeO (laws_FnExactFetchSite.j1 k y0 y1 y2 y3 y4 y5 y6) (laws_FnExactFetchSite.j1 (k + 1) y0 y1 y2 y3 y4 y5 y6)) ∧ (∀ y0 y1 y2 y3 y4 y5, LeO (laws_FnExactFetchSite.j2 k y0 y1 y2 y3 y4 y5) (laws_FnExactFetchSite.j2 (k + 1) y0 y1 y2 y3 y4 y5)) ∧ (∀ y0 y1, LeO (laws_FnExactFetchSite.j3 k y0 y1) (laws_FnExactFetchSite.j3 (k + 1) y0 y1))
  | 0 => ⟨fun _ _ _ _ _ _ r h => by simp [laws_FnExactFetchSite.j0] at h, fun _ _ _ _ _ _ _ r h => by simp [laws_FnExactFetchSite.j1] at h, fun _ _ _ _ _ _ r h => by simp [laws_FnExactFetchSite.j2] at h, fun _ _ r h => by simp [laws_FnExactFetchSite.j3] at h⟩
  | k + 1 => by
    obtain ⟨ih0, ih1, ih2, ih3⟩ := laws_FnExactFetchSite.mono_l k
    refine ⟨?_, ?_, ?_, ?_⟩
    · intro y0 y1 y2 y3 y4 y5
      unfold laws_FnExactFetchSite.j0
      repeat' first
      | (with_reducible exact ih0 _ _ _ _ _ _)
      | (with_reducible exact ih1 _ _ _ _ _ _ _)
      | (with_reducible exact ih2 _ _ _ _ _ _)
      | (with_reducible exact ih3 _ _)
      | (with_reducible exact impl_FetchSite.mono _ _ _ _ _ _ _)
      | (with_reducible exact laws_eqGlobalS.mono _ _ _)
      | (with_reducible exact laws_szGlobalS.mono _ _ _)
      | (with_reducible exact laws_toGlobalS.mono _ _)
      | (with_reducible exact spec_FetchSite.mono _ _ _ _ _ _ _)
      | (with_reducible exact LeO.refl _)
      | (with_reducible exact LeO.none _)
      | (with_reducible refine LeO.ite ?_ ?_)
      | (with_reducible refine LeO.bind ?_ (fun _ => ?_))
      | exact ih0 _ _ _ _ _ _
      | exact ih1 _ _ _ _ _ _ _
      | exact ih2 _ _ _ _ _ _
      | exact ih3 _ _
      | exact impl_FetchSite.mono _ _ _ _ _ _ _
      | exact laws_eqGlobalS.mono _ _ _
      | exact laws_szGlobalS.mono _ _ _
      | exact laws_toGlobalS.mono _ _
      | exact spec_FetchSite.mono _ _ _ _ _ _ _
      | exact LeO.none _
      | refine LeO.ite ?_ ?_
      | refine LeO.bind ?_ (fun _ => ?_)
    · intro y0 y1 y2 y3 y4 y5 y6
      unfold laws_FnExactFetchSite.j1
      repeat' first
      | (with_reducible exact ih0 _ _ _ _ _ _)
      | (with_reducible exact ih1 _ _ _ _ _ _ _)
      | (with_reducible exact ih2 _ _ _ _ _ _)
      | (with_reducible exact ih3 _ _)
      | (with_reducible exact impl_FetchSite.mono _ _ _ _ _ _ _)
      | (with_reducible exact laws_eqGlobalS.mono _ _ _)
      | (with_reducible exact laws_szGlobalS.mono _ _ _)
      | (with_reducible exact laws_toGlobalS.mono _ _)
      | (with_reducible exact spec_FetchSite.mono _ _ _ _ _ _ _)
      | (with_reducible exact LeO.refl _)
      | (with_reducible exact LeO.none _)
      | (with_reducible refine LeO.ite ?_ ?_)
      | (with_reducible refine LeO.bind ?_ (fun _ => ?_))
      | exact ih0 _ _ _ _ _ _
      | exact ih1 _ _ _ _ _ _ _
      | exact ih2 _ _ _ _ _ _
      | exact ih3 _ _
      | exact impl_FetchSite.mono _ _ _ _ _ _ _
      | exact laws_eqGlobalS.mono _ _ _
      | exact laws_szGlobalS.mono _ _ _
      | exact laws_toGlobalS.mono _ _
      | exact spec_FetchSite.mono _ _ _ _ _ _ _
      | exact LeO.none _
      | refine LeO.ite ?_ ?_
      | refine LeO.bind ?_ (fun _ => ?_)
    · intro y0 y1 y2 y3 y4 y5
      unfold laws_FnExactFetchSite.j2
      repeat' first
      | (with_reducible exact ih0 _ _ _ _ _ _)
      | (with_reducible exact ih1 _ _ _ _ _ _ _)
      | (with_reducible exact ih2 _ _ _ _ _ _)
      | (with_reducible exact ih3 _ _)
      | (with_reducible exact impl_FetchSite.mono _ _ _ _ _ _ _)
      | (with_reducible exact laws_eqGlobalS.mono _ _ _)
      | (with_reducible exact laws_szGlobalS.mono _ _ _)
      | (with_reducible exact laws_toGlobalS.mono _ _)
      | (with_reducible exact spec_FetchSite.mono _ _ _ _ _ _ _)
      | (with_reducible exact LeO.refl _)
      | (with_reducible exact LeO.none _)
      | (with_reducible refine LeO.ite ?_ ?_)
      | (with_reducible refine LeO.bind ?_ (fun _ => ?_))
      | exact ih0 _ _ _ _ _ _
      | exact ih1 _ _ _ _ _ _ _
      | exact ih2 _ _ _ _ _ _
      | exact ih3 _ _
      | exact impl_FetchSite.mono _ _ _ _ _ _ _
      | exact laws_eqGlobalS.mono _ _ _
      | exact laws_szGlobalS.mono _ _ _
      | exact laws_toGlobalS.mono _ _
      | exact spec_FetchSite.mono _ _ _ _ _ _ _
      | exact LeO.none _
      | refine LeO.ite ?_ ?_
      | refine LeO.bind ?_ (fun _ => ?_)
    · intro y0 y1
      unfold laws_FnExactFetchSite.j3
      repeat' first
      | (with_reducible exact ih0 _ _ _ _ _ _)
      | (with_reducible exact ih1 _ _ _ _ _ _ _)
      | (with_reducible exact ih2 _ _ _ _ _ _)
      | (with_reducible exact ih3 _ _)
      | (with_reducible exact impl_FetchSite.mono _ _ _ _ _ _ _)
      | (with_reducible exact laws_eqGlobalS.mono _ _ _)
      | (with_reducible exact laws_szGlobalS.mono _ _ _)
      | (with_reducible exact laws_toGlobalS.mono _ _)
      | (with_reducible exact spec_FetchSite.mono _ _ _ _ _ _ _)
      | (with_reducible exact LeO.refl _)
      | (with_reducible exact LeO.none _)
      | (with_reducible refine LeO.ite ?_ ?_)
      | (with_reducible refine LeO.bind ?_ (fun _ => ?_))
      | exact ih0 _ _ _ _ _ _
      | exact ih1 _ _ _ _ _ _ _
      | exact ih2 _ _ _ _ _ _
      | exact ih3 _ _
      | exact impl_FetchSite.mono _ _ _ _ _ _ _
      | exact laws_eqGlobalS.mono _ _ _
      | exact laws_szGlobalS.mono _ _ _
      | exact laws_toGlobalS.mono _ _
      | exact spec_FetchSite.mono _ _ _ _ _ _ _
      | exact LeO.none _
      | refine LeO.ite ?_ ?_
      | refine LeO.bind ?_ (fun _ => ?_)
theorem laws_FnExactFetchSite.mono : ∀ a0 a1 a2 a3 a4 a5 k, LeO (laws_FnExactFetchSite.f k a0 a1 a2 a3 a4 a5) (laws_FnExactFetchSite.f (k + 1) a0 a1 a2 a3 a4 a5) := by
  intro a0 a1 a2 a3 a4 a5 k
  obtain ⟨ih0, ih1, ih2, ih3⟩ := laws_FnExactFetchSite.mono_l k
  unfold laws_FnExactFetchSite.f
  repeat' first
      | (with_reducible exact ih0 _ _ _ _ _ _)
      | (with_reducible exact ih1 _ _ _ _ _ _ _)
      | (with_reducible exact ih2 _ _ _ _ _ _)
      | (with_reducible exact ih3 _ _)
      | (with_reducible exact impl_FetchSite.mono _ _ _ _ _ _ _)
      | (with_reducible exact laws_eqGlobalS.mono _ _ _)
      | (with_reducible exact laws_szGlobalS.mono _ _ _)
      | (with_reducible exact laws_toGlobalS.mono _ _)
      | (with_reducible exact spec_FetchSite.mono _ _ _ _ _ _ _)
      | (with_reducible exact LeO.refl _)
      | (with_reducible exact LeO.none _)
      | (with_reducible refine LeO.ite ?_ ?_)
      | (with_reducible refine LeO.bind ?_ (fun _ => ?_))
      | exact ih0 _ _ _ _ _ _
      | exact ih1 _ _ _ _ _ _ _
      | exact ih2 _ _ _ _ _ _
      | exact ih3 _ _
      | exact impl_FetchSite.mono _ _ _ _ _ _ _
      | exact laws_eqGlobalS.mono _ _ _
      | exact laws_szGlobalS.mono _ _ _
      | exact laws_toGlobalS.mono _ _
      | exact spec_FetchSite.mono _ _ _ _ _ _ _
      | exact LeO.none _
      | refine LeO.ite ?_ ?_
      | refine LeO.bind ?_ (fun _ => ?_)
def laws_FnExactFetchSite.T10 : Bool × List (List Nat × List Nat) := (true, [([], []), ([0], [0]), ([], []), ([], []), ([3, 1], [3]), ([1, 2, 4, 4], [1, 2, 4]), ([], []), ([6, 5, 5, 0, 1, 2, 3, 4, 5, 6], [5, 6])])
def laws_FnExactFetchSite.B10 : List Nat := [0, 1, 0, 0, 11, 31, 0, 127]
theorem laws_FnExactFetchSite.tab10 : rtab .any (opsOf Tryd.f8 10) = laws_FnExactFetchSite.T10 := by kernel_rfl
theorem laws_FnExactFetchSite.bits10 : waitsOk laws_FnExactFetchSite.T10.2 laws_FnExactFetchSite.B10 = true := by kernel_rfl
set_option maxHeartbeats 8000000 in
set_option maxRecDepth 100000 in
theorem laws_FnExactFetchSite.calls (k : Nat) (A0 : Option Addr) (c0 : Nat) (l0 : List (S83)) (a1 : ByteArray) (a2_0 : Int) (a2_1 : Int) (a2_2 : Int) (a2_3 : ByteArray) (r : Bool) (w : World) (hr0 : Kd.C k83 w A0 l0.length l0) (hc0 : l0.length ≤ c0) (h : laws_FnExactFetchSite.f k l0 a1 a2_0 a2_1 a2_2 a2_3 = some r) :
    Calls Tryd.prog 8 #[.slice A0 l0.length c0, .string a1, .agg #[.int .i64 a2_0, .int .i64 a2_1, .int .i64 a2_2, .string a2_3]] w fun e w' => e = .returned (.bool r) ∧ Below w.heap.size w w' := by
  have hu26 := Tryd.underlying26
  have hu78 := Tryd.underlying78
  have HR0 := ak hr0
  have HC0 := ak hc0
  clear hr0 hc0
  have HB := ak (Below.refl w.heap.size w)
  have H : (if (a1.size : Int) > 1048576 then (some true) else (laws_FnExactFetchSite.j0 k l0 a1 a2_0 a2_1 a2_2 a2_3)) = some r := h
  clear h
  have HC4 := ak H
  clear H
  go_enter Tryd.func8, Tryd.ntmps8
  go_upto_if 13 with (first | ((with_reducible refine gate_dst (N := 5) rfl ?_); refine box_event ?hg (N := 5) ?hd (cs := #[.int .i64 a2_0, .int .i64 a2_1, .int .i64 a2_2, .string a2_3]) (t := 26) ?hr ?_; (case hd => rfl); (case hg => rfl); (case hr => first | (go_simp; done) | (go_simp; rfl)); intro gb763 hg w5 hbox hb; have n0_ := ak (below_step (by repeat (first | (with_reducible first | exact HB.out | apply below_alloc | apply pw_below_drewN | apply below_drew1) | exact HB.out)) hb); have n1_ := ak (hbox); have n2_ := ak ((by rw [hg]; exact (below_size (by repeat (first | (with_reducible first | exact HB.out | apply below_alloc | apply pw_below_drewN | apply below_drew1) | exact HB.out))) : w.heap.size ≤ gb763)); have n3_ := ak ((by rw [hg]; exact (below_size (by repeat (first | (with_reducible first | exact HB.out | apply below_alloc | apply pw_below_drewN | apply below_drew1) | exact HB.out))) : w.heap.size ≤ gb763)); clear HB; have HB := n0_; have BK763 := n1_; have GW763 := n2_; have GE763 := n3_; clear n0_ n1_ n2_ n3_ hb hbox hg))
  (try simp only [Act.put, List.setIfInBounds_toArray, List.set_cons_zero, List.set_cons_succ])
  go_cut [] (fun wc => ∃ (kq : Nat), Aside0 (laws_FnExactFetchSite.j0 kq l0 a1 a2_0 a2_1 a2_2 a2_3 = some r) ∧ Aside0 (kq ≤ k) ∧ Aside0 (wc.heap[gb763]? = some (.cells #[.int .i64 a2_0, .int .i64 a2_1, .int .i64 a2_2, .string a2_3] 26 (0, 0))) ∧ Aside0 (Below w.heap.size w wc))
  case first =>
   have H := HC4.out
   clear HC4
   by_cases c6 : (a1.size : Int) > 1048576
   ·rw [if_pos c6] at H
    have c6b0 : decide (1048576 < (a1.size : Int)) = true := decide_eq_true c6
    have c6b1 : decide (1048576 < a1.size) = true := decide_eq_true (by omega)
    clear c6
    (first | rw [c6b0] | (simp only [i64_w, i32_w]; rw [c6b0]) | skip)
    obtain rfl := Option.some.inj H
    go_wp2
    go_ret
    exact ⟨by first | rfl | (simp [errW_none, errW_some] <;> rfl) | (simp [*, errW_none, errW_some] <;> rfl), by repeat (first | (with_reducible first | exact HB.out | apply below_alloc | apply pw_below_drewN | apply below_drew1 | refine below_set ?_ GE763.out) | exact HB.out)⟩
   ·rw [if_neg c6] at H
    have c6b0 : decide (1048576 < (a1.size : Int)) = false := decide_eq_false c6
    have c6b1 : decide (1048576 < a1.size) = false := decide_eq_false (by omega)
    clear c6
    (first | rw [c6b0] | (simp only [i64_w, i32_w]; rw [c6b0]) | skip)
    have H' := ak H
    clear H
    go_wp2
    go_meet
    case rel => exact ⟨_, H', ⟨by first | omega | exact Nat.le_refl _⟩, ⟨by (with_reducible repeat (first | refine blk_drewN ?_ _ | refine blk_drew ?_ | refine blk_alloc ?_ _)); exact BK763.out⟩, ⟨by repeat (first | (with_reducible first | exact HB.out | apply below_alloc | apply pw_below_drewN | apply below_drew1 | refine below_set ?_ GE763.out) | exact HB.out)⟩⟩
  case rest =>
   clear HC4
   obtain ⟨kq, HA, HJ3, BK763, HB⟩ := hcut
   cases kq with
   | zero => exact absurd HA.out (by simp [laws_FnExactFetchSite.j0])
   | succ kj3 =>
    have H := HA.out
    clear HA
    simp only [laws_FnExactFetchSite.j0] at H
    replace H := Option.bind_eq_some_iff.mp H
    obtain ⟨t764, A70, H⟩ := H
    replace H : (if t764 < 0 then (some true) else (laws_FnExactFetchSite.j1 kj3 l0 a1 t764 a2_0 a2_1 a2_2 a2_3)) = some r := H
    have A7 := ak A70
    clear A70
    have HC8 := ak H
    clear H
    go_upto_if 18 with (first | ((with_reducible refine gate_callee (f := 9) rfl ?_); refine goesL_ (some 16) rfl rfl Tryd.func9 (by kernel_rfl) rfl #[.slice A0 l0.length c0, .int .i64 1048576] rfl d31_4 ?_; (with_reducible refine (laws_szGlobalS.calls kj3 _ _ l0 1048576 t764 _ ?side1 ?side2 A7.out).mono ?_); (case side1 => repeat (first | exact (Kd.C_below HR0.out HB.out) | (with_reducible refine Kd.C_alloc ?_ _) | (with_reducible refine Kd.C_drewN ?_ _) | (with_reducible refine Kd.C_drew ?_))); (case side2 => exact HC0.out); rintro e w9 ⟨rfl, hb⟩; refine ⟨_, rfl, ?_⟩; have n0_ := ak (blk_below (g := gb763) (o := .cells #[.int .i64 a2_0, .int .i64 a2_1, .int .i64 a2_2, .string a2_3] 26 (0, 0)) d31_1 hb); have n1_ := ak (below_step d31_3 hb); clear BK763 HB; have BK763 := n0_; have HB := n1_; clear n0_ n1_; (try clear hb)))
    (try simp only [Act.put, List.setIfInBounds_toArray, List.set_cons_zero, List.set_cons_succ])
    go_cut [] (fun wc => ∃ (kq : Nat), Aside0 (laws_FnExactFetchSite.j1 kq l0 a1 t764 a2_0 a2_1 a2_2 a2_3 = some r) ∧ Aside0 (kq ≤ kj3) ∧ Aside0 (wc.heap[gb763]? = some (.cells #[.int .i64 a2_0, .int .i64 a2_1, .int .i64 a2_2, .string a2_3] 26 (0, 0))) ∧ Aside0 (Below w.heap.size w wc))
    case first =>
     have H := HC8.out
     clear HC8
     by_cases c10 : t764 < 0
     ·rw [if_pos c10] at H
      have c10b0 : decide (t764 < 0) = true := decide_eq_true c10
      clear c10
      (first | rw [c10b0] | (simp only [i64_w, i32_w]; rw [c10b0]) | skip)
      obtain rfl := Option.some.inj H
      go_wp2
      go_ret
      exact ⟨by first | rfl | (simp [errW_none, errW_some] <;> rfl) | (simp [*, errW_none, errW_some] <;> rfl), by repeat (first | (with_reducible first | exact HB.out | apply below_alloc | apply pw_below_drewN | apply below_drew1 | refine below_set ?_ GE763.out) | exact HB.out)⟩
     ·rw [if_neg c10] at H
      have c10b0 : decide (t764 < 0) = false := decide_eq_false c10
      clear c10
      (first | rw [c10b0] | (simp only [i64_w, i32_w]; rw [c10b0]) | skip)
      have H' := ak H
      clear H
      go_wp2
      go_meet
      case rel => exact ⟨_, H', ⟨by have := HJ3.out; first | omega | exact Nat.le_refl _⟩, ⟨by (with_reducible repeat (first | refine blk_drewN ?_ _ | refine blk_drew ?_ | refine blk_alloc ?_ _)); exact BK763.out⟩, ⟨by repeat (first | (with_reducible first | exact HB.out | apply below_alloc | apply pw_below_drewN | apply below_drew1 | refine below_set ?_ GE763.out) | exact HB.out)⟩⟩
    case rest =>
     clear HC8
     try clear p2
     try clear c6
     try clear c6b0
     try clear c6b1
     try clear c8
     try clear c9
     obtain ⟨kq, HA, HJ7, BK763, HB⟩ := hcut
     cases kq with
     | zero => exact absurd HA.out (by simp [laws_FnExactFetchSite.j1])
     | succ kj7 =>
      have H := HA.out
      clear HA
      simp only [laws_FnExactFetchSite.j1] at H
      replace H := Option.bind_eq_some_iff.mp H
      obtain ⟨t765, A110, H⟩ := H
      replace H : (if t765 < 0 then (some true) else (laws_FnExactFetchSite.j2 kj7 l0 a1 a2_0 a2_1 a2_2 a2_3)) = some r := H
      have A11 := ak A110
      clear A110
      have HC12 := ak H
      clear H
      have hcz13_0 : wc.cell? ⟨gb763, 0, none⟩ = some (.int .i64 a2_0) := (blk_cell BK763.out 0).trans rfl
      have hcz13_1 : wc.cell? ⟨gb763, 1, none⟩ = some (.int .i64 a2_1) := (blk_cell BK763.out 1).trans rfl
      have hcz13_2 : wc.cell? ⟨gb763, 2, none⟩ = some (.int .i64 a2_2) := (blk_cell BK763.out 2).trans rfl
      have hcz13_3 : wc.cell? ⟨gb763, 3, none⟩ = some (.string a2_3) := (blk_cell BK763.out 3).trans rfl
      have hfz13_0 := blk_frozen BK763.out 0
      have hfz13_1 := blk_frozen BK763.out 1
      have hfz13_2 := blk_frozen BK763.out 2
      have hfz13_3 := blk_frozen BK763.out 3
      go_upto_if 23 with (first | ((with_reducible refine gate_callee (f := 10) rfl ?_); refine goesL_ (some 21) rfl rfl Tryd.func10 (by kernel_rfl) rfl #[.agg #[.int .i64 a2_0, .int .i64 a2_1, .int .i64 a2_2, .string a2_3], .int .i64 t764] rfl d31_4 ?_; (with_reducible refine (laws_szSite.calls a2_0 a2_1 a2_2 a2_3 t764 t765 _ A11.out).mono ?_); rintro e w14 ⟨rfl, hb⟩; refine ⟨_, rfl, ?_⟩; have n0_ := ak (blk_below (g := gb763) (o := .cells #[.int .i64 a2_0, .int .i64 a2_1, .int .i64 a2_2, .string a2_3] 26 (0, 0)) d31_1 hb); have n1_ := ak (below_step d31_3 hb); clear BK763 HB; have BK763 := n0_; have HB := n1_; clear n0_ n1_; (try clear hb)))
      (try simp only [Act.put, List.setIfInBounds_toArray, List.set_cons_zero, List.set_cons_succ])
      go_cut [] (fun wc => ∃ (kq : Nat), Aside0 (laws_FnExactFetchSite.j2 kq l0 a1 a2_0 a2_1 a2_2 a2_3 = some r) ∧ Aside0 (kq ≤ kj7) ∧ Aside0 (wc.heap[gb763]? = some (.cells #[.int .i64 a2_0, .int .i64 a2_1, .int .i64 a2_2, .string a2_3] 26 (0, 0))) ∧ Aside0 (Below w.heap.size w wc))
      case first =>
       have H := HC12.out
       clear HC12
       by_cases c15 : t765 < 0
       ·rw [if_pos c15] at H
        have c15b0 : decide (t765 < 0) = true := decide_eq_true c15
        clear c15
        (first | rw [c15b0] | (simp only [i64_w, i32_w]; rw [c15b0]) | skip)
        obtain rfl := Option.some.inj H
        go_wp2
        go_ret
        exact ⟨by first | rfl | (simp [errW_none, errW_some] <;> rfl) | (simp [*, errW_none, errW_some] <;> rfl), by repeat (first | (with_reducible first | exact HB.out | apply below_alloc | apply pw_below_drewN | apply below_drew1 | refine below_set ?_ GE763.out) | exact HB.out)⟩
       ·rw [if_neg c15] at H
        have c15b0 : decide (t765 < 0) = false := decide_eq_false c15
        clear c15
        (first | rw [c15b0] | (simp only [i64_w, i32_w]; rw [c15b0]) | skip)
        have H' := ak H
        clear H
        go_wp2
        go_meet
        case rel => exact ⟨_, H', ⟨by have := HJ3.out; have := HJ7.out; first | omega | exact Nat.le_refl _⟩, ⟨by (with_reducible repeat (first | refine blk_drewN ?_ _ | refine blk_drew ?_ | refine blk_alloc ?_ _)); exact BK763.out⟩, ⟨by repeat (first | (with_reducible first | exact HB.out | apply below_alloc | apply pw_below_drewN | apply below_drew1 | refine below_set ?_ GE763.out) | exact HB.out)⟩⟩
      case rest =>
       clear HC12
       try clear c1
       try clear p2
       try clear c6
       try clear c6b0
       try clear c6b1
       try clear c8
       try clear c9
       try clear c10
       try clear c10b0
       try clear hcz13_0
       try clear hcz13_1
       try clear hcz13_2
       try clear hcz13_3
       try clear hfz13_0
       try clear hfz13_1
       try clear hfz13_2
       try clear hfz13_3
       try clear p2
       obtain ⟨kq, HA, HJ11, BK763, HB⟩ := hcut
       cases kq with
       | zero => exact absurd HA.out (by simp [laws_FnExactFetchSite.j2])
       | succ kj11 =>
        have H := HA.out
        clear HA
        simp only [laws_FnExactFetchSite.j2] at H
        replace H := Option.bind_eq_some_iff.mp H
        obtain ⟨t766, A160, H⟩ := H
        replace H : ((laws_toSite.f a2_0 a2_1 a2_2 a2_3).bind fun bt769 => ((spec_FetchSite.f kj11 t766 a1 bt769.1 bt769.2.1 bt769.2.2.1 bt769.2.2.2).bind fun bt773 => ((laws_toGlobalS.f kj11 l0).bind fun t783 => ((laws_toSite.f a2_0 a2_1 a2_2 a2_3).bind fun bt786 => ((impl_FetchSite.f kj11 t783 a1 bt786.1 bt786.2.1 bt786.2.2.1 bt786.2.2.2).bind fun bt790 => ((laws_eqFetchResult.f bt790.1 bt790.2.1 bt790.2.2.1 bt790.2.2.2.1 bt790.2.2.2.2.1 bt790.2.2.2.2.2.1 bt790.2.2.2.2.2.2.1 bt790.2.2.2.2.2.2.2.1 bt790.2.2.2.2.2.2.2.2 bt773.1 bt773.2.1 bt773.2.2.1 bt773.2.2.2.1 bt773.2.2.2.2.1 bt773.2.2.2.2.2.1 bt773.2.2.2.2.2.2.1 bt773.2.2.2.2.2.2.2.1 bt773.2.2.2.2.2.2.2.2).bind fun t800 => (if t800 = true then (laws_FnExactFetchSite.j3 kj11 l0 t783) else (some false)))))))) = some r := H
        have A16 := ak A160
        clear A160
        replace H := Option.bind_eq_some_iff.mp H
        obtain ⟨⟨t769, t770, t771, t772⟩, A170, H⟩ := H
        replace H : ((spec_FetchSite.f kj11 t766 a1 t769 t770 t771 t772).bind fun bt773 => ((laws_toGlobalS.f kj11 l0).bind fun t783 => ((laws_toSite.f a2_0 a2_1 a2_2 a2_3).bind fun bt786 => ((impl_FetchSite.f kj11 t783 a1 bt786.1 bt786.2.1 bt786.2.2.1 bt786.2.2.2).bind fun bt790 => ((laws_eqFetchResult.f bt790.1 bt790.2.1 bt790.2.2.1 bt790.2.2.2.1 bt790.2.2.2.2.1 bt790.2.2.2.2.2.1 bt790.2.2.2.2.2.2.1 bt790.2.2.2.2.2.2.2.1 bt790.2.2.2.2.2.2.2.2 bt773.1 bt773.2.1 bt773.2.2.1 bt773.2.2.2.1 bt773.2.2.2.2.1 bt773.2.2.2.2.2.1 bt773.2.2.2.2.2.2.1 bt773.2.2.2.2.2.2.2.1 bt773.2.2.2.2.2.2.2.2).bind fun t800 => (if t800 = true then (laws_FnExactFetchSite.j3 kj11 l0 t783) else (some false))))))) = some r := H
        have A17 := ak A170
        clear A170
        replace H := Option.bind_eq_some_iff.mp H
        obtain ⟨⟨t773, t774, t775, t776, t777, t778, t779, t780, t781⟩, A180, H⟩ := H
        replace H : ((laws_toGlobalS.f kj11 l0).bind fun t783 => ((laws_toSite.f a2_0 a2_1 a2_2 a2_3).bind fun bt786 => ((impl_FetchSite.f kj11 t783 a1 bt786.1 bt786.2.1 bt786.2.2.1 bt786.2.2.2).bind fun bt790 => ((laws_eqFetchResult.f bt790.1 bt790.2.1 bt790.2.2.1 bt790.2.2.2.1 bt790.2.2.2.2.1 bt790.2.2.2.2.2.1 bt790.2.2.2.2.2.2.1 bt790.2.2.2.2.2.2.2.1 bt790.2.2.2.2.2.2.2.2 t773 t774 t775 t776 t777 t778 t779 t780 t781).bind fun t800 => (if t800 = true then (laws_FnExactFetchSite.j3 kj11 l0 t783) else (some false)))))) = some r := H
        have A18 := ak A180
        clear A180
        replace H := Option.bind_eq_some_iff.mp H
        obtain ⟨t783, A190, H⟩ := H
        replace H : ((laws_toSite.f a2_0 a2_1 a2_2 a2_3).bind fun bt786 => ((impl_FetchSite.f kj11 t783 a1 bt786.1 bt786.2.1 bt786.2.2.1 bt786.2.2.2).bind fun bt790 => ((laws_eqFetchResult.f bt790.1 bt790.2.1 bt790.2.2.1 bt790.2.2.2.1 bt790.2.2.2.2.1 bt790.2.2.2.2.2.1 bt790.2.2.2.2.2.2.1 bt790.2.2.2.2.2.2.2.1 bt790.2.2.2.2.2.2.2.2 t773 t774 t775 t776 t777 t778 t779 t780 t781).bind fun t800 => (if t800 = true then (laws_FnExactFetchSite.j3 kj11 l0 t783) else (some false))))) = some r := H
        have A19 := ak A190
        clear A190
        replace H := Option.bind_eq_some_iff.mp H
        obtain ⟨⟨t786, t787, t788, t789⟩, A200, H⟩ := H
        replace H : ((impl_FetchSite.f kj11 t783 a1 t786 t787 t788 t789).bind fun bt790 => ((laws_eqFetchResult.f bt790.1 bt790.2.1 bt790.2.2.1 bt790.2.2.2.1 bt790.2.2.2.2.1 bt790.2.2.2.2.2.1 bt790.2.2.2.2.2.2.1 bt790.2.2.2.2.2.2.2.1 bt790.2.2.2.2.2.2.2.2 t773 t774 t775 t776 t777 t778 t779 t780 t781).bind fun t800 => (if t800 = true then (laws_FnExactFetchSite.j3 kj11 l0 t783) else (some false)))) = some r := H
        have A20 := ak A200
        clear A200
        replace H := Option.bind_eq_some_iff.mp H
        obtain ⟨⟨t790, t791, t792, t793, t794, t795, t796, t797, t798⟩, A210, H⟩ := H
        replace H : ((laws_eqFetchResult.f t790 t791 t792 t793 t794 t795 t796 t797 t798 t773 t774 t775 t776 t777 t778 t779 t780 t781).bind fun t800 => (if t800 = true then (laws_FnExactFetchSite.j3 kj11 l0 t783) else (some false))) = some r := H
        have A21 := ak A210
        clear A210
        replace H := Option.bind_eq_some_iff.mp H
        obtain ⟨t800, A220, H⟩ := H
        replace H : (if t800 = true then (laws_FnExactFetchSite.j3 kj11 l0 t783) else (some false)) = some r := H
        have A22 := ak A220
        clear A220
        have HC23 := ak H
        clear H
        try go_wp2
        have n0_ := ak (blk_drew BK763.out)
        have n1_ := ak (below_drew1 HB.out)
        clear BK763
        clear HB
        have BK763 := n0_
        have HB := n1_
        clear n0_ n1_
        refine start_ (n := 8) (S := fun w' => w'.cell? ⟨gb763, 0, none⟩ = some (.int .i64 a2_0) ∧ w'.cell? ⟨gb763, 1, none⟩ = some (.int .i64 a2_1) ∧ w'.cell? ⟨gb763, 2, none⟩ = some (.int .i64 a2_2) ∧ w'.cell? ⟨gb763, 3, none⟩ = some (.string a2_3)) (ds := []) #[false, false, false, false, false, false, false, false] (by kernel_rfl) rfl rfl ⟨(blk_cell BK763.out 0).trans rfl, (blk_cell BK763.out 1).trans rfl, (blk_cell BK763.out 2).trans rfl, (blk_cell BK763.out 3).trans rfl⟩ (fun hHeld => ?_); refine with_tabW laws_FnExactFetchSite.tab10 laws_FnExactFetchSite.bits10 (fun HT_ HW_ => ?_)
        generalize wc.drew = w24 at BK763 HB hHeld ⊢
        refine pure_ (i := 0) (N := some 24) (v := ?_) (a' := ?_) #[true, false, false, false, false, false, false, false] rfl rfl (any_of HT_.out (by kernel_rfl)) (fun _ _ _ h => h) (Or.inl ⟨by rfl, ?_⟩) ?_ ?_
        rotate_left
        · intro w'
          go_simp
          with_reducible rfl
        rotate_left
        · simp only [Act.put, List.setIfInBounds_toArray, List.set_cons_zero, List.set_cons_succ, i64_w, i32_w]
          rfl
        refine pure_ (i := 2) (N := some 26) (v := ?_) (a' := ?_) #[true, false, true, false, false, false, false, false] rfl rfl (any_of HT_.out (by kernel_rfl)) (fun _ _ _ h => h) (Or.inl ⟨by rfl, ?_⟩) ?_ ?_
        rotate_left
        · intro w'
          go_simp
          with_reducible rfl
        rotate_left
        · simp only [Act.put, List.setIfInBounds_toArray, List.set_cons_zero, List.set_cons_succ, i64_w, i32_w]
          rfl
        refine take_ (i := 3) (N := some 27) (v := ?_) (a' := ?_) #[true, false, true, true, false, false, false, false] rfl rfl (take_ofW HT_.out HW_.out (by kernel_rfl)) (fun _ _ _ h => h) (Or.inl ⟨by rfl, ?_⟩) hHeld ?_ ?_
        rotate_left
        · rintro w' ⟨s0, s1, s2, s3⟩
          go_simp
          with_reducible rfl
        rotate_left
        · simp only [Act.put, List.setIfInBounds_toArray, List.set_cons_zero, List.set_cons_succ, i64_w, i32_w]
          rfl
        refine join_ (σ := Value × Nat) 1 #[true, true, true, true, true, true, true, false] (fun s_ => [(25, s_.1), (28, .agg #[.int .i64 t769, .int .i64 t770, .int .i64 t771, .string t772]), (29, .agg #[.int .i64 t773, .bool t774, .int .i64 t775, .int .i64 t776, .string t777, .int .i64 t778, .int .i64 t779, .int .i64 t780, .string t781]), (8, .pointer (some ⟨s_.2, 0, none⟩))]) (fun s_ w' => (w'.cell? ⟨gb763, 0, none⟩ = some (.int .i64 a2_0) ∧ w'.cell? ⟨gb763, 1, none⟩ = some (.int .i64 a2_1) ∧ w'.cell? ⟨gb763, 2, none⟩ = some (.int .i64 a2_2) ∧ w'.cell? ⟨gb763, 3, none⟩ = some (.string a2_3)) ∧ (Kd.R k88 88 w' w.heap.size (fun _ => True) s_.1 t766) ∧ (w'.heap[gb763]? = some (.cells #[.int .i64 a2_0, .int .i64 a2_1, .int .i64 a2_2, .string a2_3] 26 (0, 0))) ∧ (w'.heap[s_.2]? = some (.cells #[.int .i64 0, .bool false, .int .i64 0, .int .i64 0, .string (⟨#[]⟩ : ByteArray), .int .i64 0, .int .i64 0, .int .i64 0, .string (⟨#[]⟩ : ByteArray)] 78 (0, 0))) ∧ (w.heap.size ≤ s_.2) ∧ (w.heap.size ≤ s_.2) ∧ (gb763 ≠ s_.2) ∧ (s_.2 ≠ gb763) ∧ (Below w.heap.size w w')) ?_ ?_
        rotate_left
        · intro hCont
          refine two_ (i := 1) (j := 6) (Ni := some 25) (Nj := some 8) #[true, true, true, true, false, false, false, false] #[true, false, true, true, false, false, true, false] rfl rfl rfl rfl (two_of HT_.out (by kernel_rfl)) (by decide) (by decide) (fun K hK => ?_) (fun K hK => ?_)
          · skip
            refine goes_ Tryd.func12 (by kernel_rfl) rfl #[.slice A0 l0.length c0] (by rfl) rfl rfl d31_4 ?_
            with_reducible refine (laws_toGlobalS.calls kj11 _ _ l0 t766 _ ?side1 ?side2 A16.out).mono ?_
            (case side1 => repeat (first | exact (Kd.C_below HR0.out HB.out) | (with_reducible refine Kd.C_alloc ?_ _) | (with_reducible refine Kd.C_drewN ?_ _) | (with_reducible refine Kd.C_drew ?_)))
            (case side2 => exact HC0.out)
            rintro e w25 ⟨v767, rfl, ho0, hb⟩
            refine ⟨_, rfl, ?_⟩
            have n0_ := ak (Kd.R_lower ho0 (below_size d31_3))
            have n1_ := ak (blk_below (g := gb763) (o := .cells #[.int .i64 a2_0, .int .i64 a2_1, .int .i64 a2_2, .string a2_3] 26 (0, 0)) d31_1 hb)
            have n2_ := ak (below_step d31_3 hb)
            clear BK763
            clear HB
            have HO768 := n0_
            have BK763 := n1_
            have HB := n2_
            clear n0_ n1_ n2_
            (try clear hb)
            (try clear hb2)
            (try clear hk)
            (try clear hi)
            (try clear ho0)
            refine hK.out _ _ ⟨(blk_cell BK763.out 0).trans rfl, (blk_cell BK763.out 1).trans rfl, (blk_cell BK763.out 2).trans rfl, (blk_cell BK763.out 3).trans rfl⟩ (fun hHeld => ?_)
            clear hK K
            refine norm_ (a' := ?_) ?_ ?_
            rotate_left
            · show Act.put _ (some 25) _ = _
              simp only [Act.put, List.setIfInBounds_toArray, List.set_cons_zero, List.set_cons_succ, i64_w, i32_w]
              rfl
            refine two_ (i := 4) (j := 6) (Ni := some 28) (Nj := some 8) #[true, true, true, true, true, false, false, false] #[true, true, true, true, false, false, true, false] rfl rfl rfl rfl (two_of HT_.out (by kernel_rfl)) (by decide) (by decide) (fun K hK => ?_) (fun K hK => ?_)
            · skip
              refine goes_ Tryd.func13 (by kernel_rfl) rfl #[.agg #[.int .i64 a2_0, .int .i64 a2_1, .int .i64 a2_2, .string a2_3]] (by rfl) rfl rfl d31_4 ?_
              with_reducible refine (laws_toSite.calls a2_0 a2_1 a2_2 a2_3 t769 t770 t771 t772 _ A17.out).mono ?_
              rintro e w26 ⟨rfl, hb⟩
              refine ⟨_, rfl, ?_⟩
              have n0_ := ak (Kd.R_below d31_6 hb)
              have n1_ := ak (blk_below (g := gb763) (o := .cells #[.int .i64 a2_0, .int .i64 a2_1, .int .i64 a2_2, .string a2_3] 26 (0, 0)) d31_1 hb)
              have n2_ := ak (below_step d31_3 hb)
              clear HO768
              clear BK763
              clear HB
              have HO768 := n0_
              have BK763 := n1_
              have HB := n2_
              clear n0_ n1_ n2_
              (try clear hb)
              (try clear hb2)
              (try clear hk)
              (try clear hi)
              obtain ⟨Ao27, co27, eo27⟩ := Kd.R_slice HO768.out
              (first | subst eo27 | (injection eo27 with f1_ f2_ f3_; have f4_ := f1_.symm; have f5_ := f3_.symm; clear f1_ f2_ f3_; subst f4_; subst f5_))
              refine hK.out _ _ ⟨(blk_cell BK763.out 0).trans rfl, (blk_cell BK763.out 1).trans rfl, (blk_cell BK763.out 2).trans rfl, (blk_cell BK763.out 3).trans rfl⟩ (fun hHeld => ?_)
              clear hK K
              refine norm_ (a' := ?_) ?_ ?_
              rotate_left
              · show Act.put _ (some 28) _ = _
                simp only [Act.put, List.setIfInBounds_toArray, List.set_cons_zero, List.set_cons_succ, i64_w, i32_w]
                rfl
              refine two_ (i := 5) (j := 6) (Ni := some 29) (Nj := some 8) #[true, true, true, true, true, true, false, false] #[true, true, true, true, true, false, true, false] rfl rfl rfl rfl (two_of HT_.out (by kernel_rfl)) (by decide) (by decide) (fun K hK => ?_) (fun K hK => ?_)
              · skip
                refine goes_ Tryd.func46 (by kernel_rfl) rfl #[.slice Ao27 t766.length co27, .string a1, .agg #[.int .i64 t769, .int .i64 t770, .int .i64 t771, .string t772]] (by rfl) rfl rfl d31_4 ?_
                with_reducible refine (spec_FetchSite.calls kj11 _ _ t766 a1 t769 t770 t771 t772 t773 t774 t775 t776 t777 t778 t779 t780 t781 _ ?side1 ?side2 A18.out).mono ?_
                (case side1 => repeat (first | exact (Kd.R_reads' HO768.out).2.2 | (with_reducible refine Kd.C_alloc ?_ _) | (with_reducible refine Kd.C_drewN ?_ _) | (with_reducible refine Kd.C_drew ?_)))
                (case side2 => exact (Kd.R_reads' HO768.out).2.1)
                rintro e w28 ⟨rfl, hb⟩
                refine ⟨_, rfl, ?_⟩
                have n0_ := ak (Kd.R_below d31_6 hb)
                have n1_ := ak (blk_below (g := gb763) (o := .cells #[.int .i64 a2_0, .int .i64 a2_1, .int .i64 a2_2, .string a2_3] 26 (0, 0)) d31_1 hb)
                have n2_ := ak (below_step d31_3 hb)
                clear HO768
                clear BK763
                clear HB
                have HO768 := n0_
                have BK763 := n1_
                have HB := n2_
                clear n0_ n1_ n2_
                (try clear hb)
                (try clear hb2)
                (try clear hk)
                (try clear hi)
                refine hK.out _ _ ⟨(blk_cell BK763.out 0).trans rfl, (blk_cell BK763.out 1).trans rfl, (blk_cell BK763.out 2).trans rfl, (blk_cell BK763.out 3).trans rfl⟩ (fun hHeld => ?_)
                clear hK K
                refine norm_ (a' := ?_) ?_ ?_
                rotate_left
                · show Act.put _ (some 29) _ = _
                  simp only [Act.put, List.setIfInBounds_toArray, List.set_cons_zero, List.set_cons_succ, i64_w, i32_w]
                  rfl
                refine one_ (i := 6) (N := some 8) #[true, true, true, true, true, true, true, false] rfl rfl (one_of HT_.out (by kernel_rfl)) (by decide) (fun K hK => ?_)
                refine box_step ?hg (N := 8) ?hd (cs := #[.int .i64 0, .bool false, .int .i64 0, .int .i64 0, .string (⟨#[]⟩ : ByteArray), .int .i64 0, .int .i64 0, .int .i64 0, .string (⟨#[]⟩ : ByteArray)]) (t := 78) ?hr ?_; (case hd => rfl); (case hg => rfl); (case hr => first | (go_simp; done) | (go_simp; rfl))
                intro gb782 hg w29 hbox hb
                have n0_ := ak (Kd.R_below d31_6 hb)
                have n1_ := ak (blk_below (g := gb763) (o := .cells #[.int .i64 a2_0, .int .i64 a2_1, .int .i64 a2_2, .string a2_3] 26 (0, 0)) d31_1 hb)
                have n2_ := ak (below_step d31_3 hb)
                have n3_ := ak (hbox)
                have n4_ := ak ((by rw [hg]; exact (below_size d31_3) : w.heap.size ≤ gb782))
                have n5_ := ak ((by rw [hg]; exact (below_size d31_3) : w.heap.size ≤ gb782))
                have n6_ := ak ((by rw [hg]; exact Nat.ne_of_lt (blk_lt (g := gb763) (o := .cells #[.int .i64 a2_0, .int .i64 a2_1, .int .i64 a2_2, .string a2_3] 26 (0, 0)) d31_1) : gb763 ≠ gb782))
                have n7_ := ak ((by rw [hg]; exact Nat.ne_of_gt (blk_lt (g := gb763) (o := .cells #[.int .i64 a2_0, .int .i64 a2_1, .int .i64 a2_2, .string a2_3] 26 (0, 0)) d31_1) : gb782 ≠ gb763))
                clear HO768
                clear BK763
                clear HB
                have HO768 := n0_
                have BK763 := n1_
                have HB := n2_
                have BK782 := n3_
                have GW782 := n4_
                have GE782 := n5_
                have NB763_782 := n6_
                have NB782_763 := n7_
                clear n0_ n1_ n2_ n3_ n4_ n5_ n6_ n7_
                clear hb hbox hg
                refine hK.out _ _ ⟨(blk_cell BK763.out 0).trans rfl, (blk_cell BK763.out 1).trans rfl, (blk_cell BK763.out 2).trans rfl, (blk_cell BK763.out 3).trans rfl⟩ (fun hHeld => ?_)
                clear hK K
                refine norm_ (a' := ?_) ?_ ?_
                rotate_left
                · show Act.put _ (some 8) _ = _
                  simp only [Act.put, List.setIfInBounds_toArray, List.set_cons_zero, List.set_cons_succ, i64_w, i32_w]
                  rfl
                exact norm_ (by simp only [putAll, Act.put, List.setIfInBounds_toArray, List.set_cons_zero, List.set_cons_succ]) (hCont (.slice Ao27 t766.length co27, gb782) _ ⟨hHeld, d31_6, d31_1, d31_5, GW782.out, GE782.out, NB763_782.out, NB782_763.out, d31_2⟩)
              · skip
                refine box_step ?hg (N := 8) ?hd (cs := #[.int .i64 0, .bool false, .int .i64 0, .int .i64 0, .string (⟨#[]⟩ : ByteArray), .int .i64 0, .int .i64 0, .int .i64 0, .string (⟨#[]⟩ : ByteArray)]) (t := 78) ?hr ?_; (case hd => rfl); (case hg => rfl); (case hr => first | (go_simp; done) | (go_simp; rfl))
                intro gb782 hg w27 hbox hb
                have n0_ := ak (Kd.R_below d31_6 hb)
                have n1_ := ak (blk_below (g := gb763) (o := .cells #[.int .i64 a2_0, .int .i64 a2_1, .int .i64 a2_2, .string a2_3] 26 (0, 0)) d31_1 hb)
                have n2_ := ak (below_step d31_3 hb)
                have n3_ := ak (hbox)
                have n4_ := ak ((by rw [hg]; exact (below_size d31_3) : w.heap.size ≤ gb782))
                have n5_ := ak ((by rw [hg]; exact (below_size d31_3) : w.heap.size ≤ gb782))
                have n6_ := ak ((by rw [hg]; exact Nat.ne_of_lt (blk_lt (g := gb763) (o := .cells #[.int .i64 a2_0, .int .i64 a2_1, .int .i64 a2_2, .string a2_3] 26 (0, 0)) d31_1) : gb763 ≠ gb782))
                have n7_ := ak ((by rw [hg]; exact Nat.ne_of_gt (blk_lt (g := gb763) (o := .cells #[.int .i64 a2_0, .int .i64 a2_1, .int .i64 a2_2, .string a2_3] 26 (0, 0)) d31_1) : gb782 ≠ gb763))
                clear HO768
                clear BK763
                clear HB
                have HO768 := n0_
                have BK763 := n1_
                have HB := n2_
                have BK782 := n3_
                have GW782 := n4_
                have GE782 := n5_
                have NB763_782 := n6_
                have NB782_763 := n7_
                clear n0_ n1_ n2_ n3_ n4_ n5_ n6_ n7_
                clear hb hbox hg
                obtain ⟨Ao28, co28, eo28⟩ := Kd.R_slice HO768.out
                (first | subst eo28 | (injection eo28 with f1_ f2_ f3_; have f4_ := f1_.symm; have f5_ := f3_.symm; clear f1_ f2_ f3_; subst f4_; subst f5_))
                refine hK.out _ _ ⟨(blk_cell BK763.out 0).trans rfl, (blk_cell BK763.out 1).trans rfl, (blk_cell BK763.out 2).trans rfl, (blk_cell BK763.out 3).trans rfl⟩ (fun hHeld => ?_)
                clear hK K
                refine norm_ (a' := ?_) ?_ ?_
                rotate_left
                · show Act.put _ (some 8) _ = _
                  simp only [Act.put, List.setIfInBounds_toArray, List.set_cons_zero, List.set_cons_succ, i64_w, i32_w]
                  rfl
                refine one_ (i := 5) (N := some 29) #[true, true, true, true, true, true, true, false] rfl rfl (one_of HT_.out (by kernel_rfl)) (by decide) (fun K hK => ?_)
                refine goes_ Tryd.func46 (by kernel_rfl) rfl #[.slice Ao28 t766.length co28, .string a1, .agg #[.int .i64 t769, .int .i64 t770, .int .i64 t771, .string t772]] (by rfl) rfl rfl d31_4 ?_
                with_reducible refine (spec_FetchSite.calls kj11 _ _ t766 a1 t769 t770 t771 t772 t773 t774 t775 t776 t777 t778 t779 t780 t781 _ ?side1 ?side2 A18.out).mono ?_
                (case side1 => repeat (first | exact (Kd.R_reads' HO768.out).2.2 | (with_reducible refine Kd.C_alloc ?_ _) | (with_reducible refine Kd.C_drewN ?_ _) | (with_reducible refine Kd.C_drew ?_)))
                (case side2 => exact (Kd.R_reads' HO768.out).2.1)
                rintro e w29 ⟨rfl, hb⟩
                refine ⟨_, rfl, ?_⟩
                have n0_ := ak (Kd.R_below d31_6 hb)
                have n1_ := ak (blk_below (g := gb763) (o := .cells #[.int .i64 a2_0, .int .i64 a2_1, .int .i64 a2_2, .string a2_3] 26 (0, 0)) d31_1 hb)
                have n2_ := ak (blk_below (g := gb782) (o := .cells #[.int .i64 0, .bool false, .int .i64 0, .int .i64 0, .string (⟨#[]⟩ : ByteArray), .int .i64 0, .int .i64 0, .int .i64 0, .string (⟨#[]⟩ : ByteArray)] 78 (0, 0)) d31_5 hb)
                have n3_ := ak (below_step d31_2 hb)
                clear HO768
                clear BK763
                clear BK782
                clear HB
                have HO768 := n0_
                have BK763 := n1_
                have BK782 := n2_
                have HB := n3_
                clear n0_ n1_ n2_ n3_
                (try clear hb)
                (try clear hb2)
                (try clear hk)
                (try clear hi)
                refine hK.out _ _ ⟨(blk_cell BK763.out 0).trans rfl, (blk_cell BK763.out 1).trans rfl, (blk_cell BK763.out 2).trans rfl, (blk_cell BK763.out 3).trans rfl⟩ (fun hHeld => ?_)
                clear hK K
                refine norm_ (a' := ?_) ?_ ?_
                rotate_left
                · show Act.put _ (some 29) _ = _
                  simp only [Act.put, List.setIfInBounds_toArray, List.set_cons_zero, List.set_cons_succ, i64_w, i32_w]
                  rfl
                exact norm_ (by simp only [putAll, Act.put, List.setIfInBounds_toArray, List.set_cons_zero, List.set_cons_succ]) (hCont (.slice Ao28 t766.length co28, gb782) _ ⟨hHeld, d31_6, d31_1, d31_5, GW782.out, GE782.out, NB763_782.out, NB782_763.out, d31_2⟩)
            · skip
              refine box_step ?hg (N := 8) ?hd (cs := #[.int .i64 0, .bool false, .int .i64 0, .int .i64 0, .string (⟨#[]⟩ : ByteArray), .int .i64 0, .int .i64 0, .int .i64 0, .string (⟨#[]⟩ : ByteArray)]) (t := 78) ?hr ?_; (case hd => rfl); (case hg => rfl); (case hr => first | (go_simp; done) | (go_simp; rfl))
              intro gb782 hg w26 hbox hb
              have n0_ := ak (Kd.R_below d31_6 hb)
              have n1_ := ak (blk_below (g := gb763) (o := .cells #[.int .i64 a2_0, .int .i64 a2_1, .int .i64 a2_2, .string a2_3] 26 (0, 0)) d31_1 hb)
              have n2_ := ak (below_step d31_3 hb)
              have n3_ := ak (hbox)
              have n4_ := ak ((by rw [hg]; exact (below_size d31_3) : w.heap.size ≤ gb782))
              have n5_ := ak ((by rw [hg]; exact (below_size d31_3) : w.heap.size ≤ gb782))
              have n6_ := ak ((by rw [hg]; exact Nat.ne_of_lt (blk_lt (g := gb763) (o := .cells #[.int .i64 a2_0, .int .i64 a2_1, .int .i64 a2_2, .string a2_3] 26 (0, 0)) d31_1) : gb763 ≠ gb782))
              have n7_ := ak ((by rw [hg]; exact Nat.ne_of_gt (blk_lt (g := gb763) (o := .cells #[.int .i64 a2_0, .int .i64 a2_1, .int .i64 a2_2, .string a2_3] 26 (0, 0)) d31_1) : gb782 ≠ gb763))
              clear HO768
              clear BK763
              clear HB
              have HO768 := n0_
              have BK763 := n1_
              have HB := n2_
              have BK782 := n3_
              have GW782 := n4_
              have GE782 := n5_
              have NB763_782 := n6_
              have NB782_763 := n7_
              clear n0_ n1_ n2_ n3_ n4_ n5_ n6_ n7_
              clear hb hbox hg
              refine hK.out _ _ ⟨(blk_cell BK763.out 0).trans rfl, (blk_cell BK763.out 1).trans rfl, (blk_cell BK763.out 2).trans rfl, (blk_cell BK763.out 3).trans rfl⟩ (fun hHeld => ?_)
              clear hK K
              refine norm_ (a' := ?_) ?_ ?_
              rotate_left
              · show Act.put _ (some 8) _ = _
                simp only [Act.put, List.setIfInBounds_toArray, List.set_cons_zero, List.set_cons_succ, i64_w, i32_w]
                rfl
              refine one_ (i := 4) (N := some 28) #[true, true, true, true, true, false, true, false] rfl rfl (one_of HT_.out (by kernel_rfl)) (by decide) (fun K hK => ?_)
              refine goes_ Tryd.func13 (by kernel_rfl) rfl #[.agg #[.int .i64 a2_0, .int .i64 a2_1, .int .i64 a2_2, .string a2_3]] (by rfl) rfl rfl d31_4 ?_
              with_reducible refine (laws_toSite.calls a2_0 a2_1 a2_2 a2_3 t769 t770 t771 t772 _ A17.out).mono ?_
              rintro e w27 ⟨rfl, hb⟩
              refine ⟨_, rfl, ?_⟩
              have n0_ := ak (Kd.R_below d31_6 hb)
              have n1_ := ak (blk_below (g := gb763) (o := .cells #[.int .i64 a2_0, .int .i64 a2_1, .int .i64 a2_2, .string a2_3] 26 (0, 0)) d31_1 hb)
              have n2_ := ak (blk_below (g := gb782) (o := .cells #[.int .i64 0, .bool false, .int .i64 0, .int .i64 0, .string (⟨#[]⟩ : ByteArray), .int .i64 0, .int .i64 0, .int .i64 0, .string (⟨#[]⟩ : ByteArray)] 78 (0, 0)) d31_5 hb)
              have n3_ := ak (below_step d31_2 hb)
              clear HO768
              clear BK763
              clear BK782
              clear HB
              have HO768 := n0_
              have BK763 := n1_
              have BK782 := n2_
              have HB := n3_
              clear n0_ n1_ n2_ n3_
              (try clear hb)
              (try clear hb2)
              (try clear hk)
              (try clear hi)
              obtain ⟨Ao28, co28, eo28⟩ := Kd.R_slice HO768.out
              (first | subst eo28 | (injection eo28 with f1_ f2_ f3_; have f4_ := f1_.symm; have f5_ := f3_.symm; clear f1_ f2_ f3_; subst f4_; subst f5_))
              refine hK.out _ _ ⟨(blk_cell BK763.out 0).trans rfl, (blk_cell BK763.out 1).trans rfl, (blk_cell BK763.out 2).trans rfl, (blk_cell BK763.out 3).trans rfl⟩ (fun hHeld => ?_)
              clear hK K
              refine norm_ (a' := ?_) ?_ ?_
              rotate_left
              · show Act.put _ (some 28) _ = _
                simp only [Act.put, List.setIfInBounds_toArray, List.set_cons_zero, List.set_cons_succ, i64_w, i32_w]
                rfl
              refine one_ (i := 5) (N := some 29) #[true, true, true, true, true, true, true, false] rfl rfl (one_of HT_.out (by kernel_rfl)) (by decide) (fun K hK => ?_)
              refine goes_ Tryd.func46 (by kernel_rfl) rfl #[.slice Ao28 t766.length co28, .string a1, .agg #[.int .i64 t769, .int .i64 t770, .int .i64 t771, .string t772]] (by rfl) rfl rfl d31_4 ?_
              with_reducible refine (spec_FetchSite.calls kj11 _ _ t766 a1 t769 t770 t771 t772 t773 t774 t775 t776 t777 t778 t779 t780 t781 _ ?side1 ?side2 A18.out).mono ?_
              (case side1 => repeat (first | exact (Kd.R_reads' HO768.out).2.2 | (with_reducible refine Kd.C_alloc ?_ _) | (with_reducible refine Kd.C_drewN ?_ _) | (with_reducible refine Kd.C_drew ?_)))
              (case side2 => exact (Kd.R_reads' HO768.out).2.1)
              rintro e w29 ⟨rfl, hb⟩
              refine ⟨_, rfl, ?_⟩
              have n0_ := ak (Kd.R_below d31_6 hb)
              have n1_ := ak (blk_below (g := gb763) (o := .cells #[.int .i64 a2_0, .int .i64 a2_1, .int .i64 a2_2, .string a2_3] 26 (0, 0)) d31_1 hb)
              have n2_ := ak (blk_below (g := gb782) (o := .cells #[.int .i64 0, .bool false, .int .i64 0, .int .i64 0, .string (⟨#[]⟩ : ByteArray), .int .i64 0, .int .i64 0, .int .i64 0, .string (⟨#[]⟩ : ByteArray)] 78 (0, 0)) d31_5 hb)
              have n3_ := ak (below_step d31_2 hb)
              clear HO768
              clear BK763
              clear BK782
              clear HB
              have HO768 := n0_
              have BK763 := n1_
              have BK782 := n2_
              have HB := n3_
              clear n0_ n1_ n2_ n3_
              (try clear hb)
              (try clear hb2)
              (try clear hk)
              (try clear hi)
              refine hK.out _ _ ⟨(blk_cell BK763.out 0).trans rfl, (blk_cell BK763.out 1).trans rfl, (blk_cell BK763.out 2).trans rfl, (blk_cell BK763.out 3).trans rfl⟩ (fun hHeld => ?_)
              clear hK K
              refine norm_ (a' := ?_) ?_ ?_
              rotate_left
              · show Act.put _ (some 29) _ = _
                simp only [Act.put, List.setIfInBounds_toArray, List.set_cons_zero, List.set_cons_succ, i64_w, i32_w]
                rfl
              exact norm_ (by simp only [putAll, Act.put, List.setIfInBounds_toArray, List.set_cons_zero, List.set_cons_succ]) (hCont (.slice Ao28 t766.length co28, gb782) _ ⟨hHeld, d31_6, d31_1, d31_5, GW782.out, GE782.out, NB763_782.out, NB782_763.out, d31_2⟩)
          · skip
            refine box_step ?hg (N := 8) ?hd (cs := #[.int .i64 0, .bool false, .int .i64 0, .int .i64 0, .string (⟨#[]⟩ : ByteArray), .int .i64 0, .int .i64 0, .int .i64 0, .string (⟨#[]⟩ : ByteArray)]) (t := 78) ?hr ?_; (case hd => rfl); (case hg => rfl); (case hr => first | (go_simp; done) | (go_simp; rfl))
            intro gb782 hg w25 hbox hb
            have n0_ := ak (blk_below (g := gb763) (o := .cells #[.int .i64 a2_0, .int .i64 a2_1, .int .i64 a2_2, .string a2_3] 26 (0, 0)) d31_1 hb)
            have n1_ := ak (below_step d31_3 hb)
            have n2_ := ak (hbox)
            have n3_ := ak ((by rw [hg]; exact (below_size d31_3) : w.heap.size ≤ gb782))
            have n4_ := ak ((by rw [hg]; exact (below_size d31_3) : w.heap.size ≤ gb782))
            have n5_ := ak ((by rw [hg]; exact Nat.ne_of_lt (blk_lt (g := gb763) (o := .cells #[.int .i64 a2_0, .int .i64 a2_1, .int .i64 a2_2, .string a2_3] 26 (0, 0)) d31_1) : gb763 ≠ gb782))
            have n6_ := ak ((by rw [hg]; exact Nat.ne_of_gt (blk_lt (g := gb763) (o := .cells #[.int .i64 a2_0, .int .i64 a2_1, .int .i64 a2_2, .string a2_3] 26 (0, 0)) d31_1) : gb782 ≠ gb763))
            clear BK763
            clear HB
            have BK763 := n0_
            have HB := n1_
            have BK782 := n2_
            have GW782 := n3_
            have GE782 := n4_
            have NB763_782 := n5_
            have NB782_763 := n6_
            clear n0_ n1_ n2_ n3_ n4_ n5_ n6_
            clear hb hbox hg
            refine hK.out _ _ ⟨(blk_cell BK763.out 0).trans rfl, (blk_cell BK763.out 1).trans rfl, (blk_cell BK763.out 2).trans rfl, (blk_cell BK763.out 3).trans rfl⟩ (fun hHeld => ?_)
            clear hK K
            refine norm_ (a' := ?_) ?_ ?_
            rotate_left
            · show Act.put _ (some 8) _ = _
              simp only [Act.put, List.setIfInBounds_toArray, List.set_cons_zero, List.set_cons_succ, i64_w, i32_w]
              rfl
            refine one_ (i := 1) (N := some 25) #[true, true, true, true, false, false, true, false] rfl rfl (one_of HT_.out (by kernel_rfl)) (by decide) (fun K hK => ?_)
            refine goes_ Tryd.func12 (by kernel_rfl) rfl #[.slice A0 l0.length c0] (by rfl) rfl rfl d31_4 ?_
            with_reducible refine (laws_toGlobalS.calls kj11 _ _ l0 t766 _ ?side1 ?side2 A16.out).mono ?_
            (case side1 => repeat (first | exact (Kd.C_below HR0.out HB.out) | (with_reducible refine Kd.C_alloc ?_ _) | (with_reducible refine Kd.C_drewN ?_ _) | (with_reducible refine Kd.C_drew ?_)))
            (case side2 => exact HC0.out)
            rintro e w26 ⟨v767, rfl, ho0, hb⟩
            refine ⟨_, rfl, ?_⟩
            have n0_ := ak (Kd.R_lower ho0 (below_size d31_2))
            have n1_ := ak (blk_below (g := gb763) (o := .cells #[.int .i64 a2_0, .int .i64 a2_1, .int .i64 a2_2, .string a2_3] 26 (0, 0)) d31_1 hb)
            have n2_ := ak (blk_below (g := gb782) (o := .cells #[.int .i64 0, .bool false, .int .i64 0, .int .i64 0, .string (⟨#[]⟩ : ByteArray), .int .i64 0, .int .i64 0, .int .i64 0, .string (⟨#[]⟩ : ByteArray)] 78 (0, 0)) d31_5 hb)
            have n3_ := ak (below_step d31_2 hb)
            clear BK763
            clear BK782
            clear HB
            have HO768 := n0_
            have BK763 := n1_
            have BK782 := n2_
            have HB := n3_
            clear n0_ n1_ n2_ n3_
            (try clear hb)
            (try clear hb2)
            (try clear hk)
            (try clear hi)
            (try clear ho0)
            refine hK.out _ _ ⟨(blk_cell BK763.out 0).trans rfl, (blk_cell BK763.out 1).trans rfl, (blk_cell BK763.out 2).trans rfl, (blk_cell BK763.out 3).trans rfl⟩ (fun hHeld => ?_)
            clear hK K
            refine norm_ (a' := ?_) ?_ ?_
            rotate_left
            · show Act.put _ (some 25) _ = _
              simp only [Act.put, List.setIfInBounds_toArray, List.set_cons_zero, List.set_cons_succ, i64_w, i32_w]
              rfl
            refine one_ (i := 4) (N := some 28) #[true, true, true, true, true, false, true, false] rfl rfl (one_of HT_.out (by kernel_rfl)) (by decide) (fun K hK => ?_)
            refine goes_ Tryd.func13 (by kernel_rfl) rfl #[.agg #[.int .i64 a2_0, .int .i64 a2_1, .int .i64 a2_2, .string a2_3]] (by rfl) rfl rfl d31_4 ?_
            with_reducible refine (laws_toSite.calls a2_0 a2_1 a2_2 a2_3 t769 t770 t771 t772 _ A17.out).mono ?_
            rintro e w27 ⟨rfl, hb⟩
            refine ⟨_, rfl, ?_⟩
            have n0_ := ak (Kd.R_below d31_6 hb)
            have n1_ := ak (blk_below (g := gb763) (o := .cells #[.int .i64 a2_0, .int .i64 a2_1, .int .i64 a2_2, .string a2_3] 26 (0, 0)) d31_1 hb)
            have n2_ := ak (blk_below (g := gb782) (o := .cells #[.int .i64 0, .bool false, .int .i64 0, .int .i64 0, .string (⟨#[]⟩ : ByteArray), .int .i64 0, .int .i64 0, .int .i64 0, .string (⟨#[]⟩ : ByteArray)] 78 (0, 0)) d31_5 hb)
            have n3_ := ak (below_step d31_2 hb)
            clear HO768
            clear BK763
            clear BK782
            clear HB
            have HO768 := n0_
            have BK763 := n1_
            have BK782 := n2_
            have HB := n3_
            clear n0_ n1_ n2_ n3_
            (try clear hb)
            (try clear hb2)
            (try clear hk)
            (try clear hi)
            obtain ⟨Ao28, co28, eo28⟩ := Kd.R_slice HO768.out
            (first | subst eo28 | (injection eo28 with f1_ f2_ f3_; have f4_ := f1_.symm; have f5_ := f3_.symm; clear f1_ f2_ f3_; subst f4_; subst f5_))
            refine hK.out _ _ ⟨(blk_cell BK763.out 0).trans rfl, (blk_cell BK763.out 1).trans rfl, (blk_cell BK763.out 2).trans rfl, (blk_cell BK763.out 3).trans rfl⟩ (fun hHeld => ?_)
            clear hK K
            refine norm_ (a' := ?_) ?_ ?_
            rotate_left
            · show Act.put _ (some 28) _ = _
              simp only [Act.put, List.setIfInBounds_toArray, List.set_cons_zero, List.set_cons_succ, i64_w, i32_w]
              rfl
            refine one_ (i := 5) (N := some 29) #[true, true, true, true, true, true, true, false] rfl rfl (one_of HT_.out (by kernel_rfl)) (by decide) (fun K hK => ?_)
            refine goes_ Tryd.func46 (by kernel_rfl) rfl #[.slice Ao28 t766.length co28, .string a1, .agg #[.int .i64 t769, .int .i64 t770, .int .i64 t771, .string t772]] (by rfl) rfl rfl d31_4 ?_
            with_reducible refine (spec_FetchSite.calls kj11 _ _ t766 a1 t769 t770 t771 t772 t773 t774 t775 t776 t777 t778 t779 t780 t781 _ ?side1 ?side2 A18.out).mono ?_
            (case side1 => repeat (first | exact (Kd.R_reads' HO768.out).2.2 | (with_reducible refine Kd.C_alloc ?_ _) | (with_reducible refine Kd.C_drewN ?_ _) | (with_reducible refine Kd.C_drew ?_)))
            (case side2 => exact (Kd.R_reads' HO768.out).2.1)
            rintro e w29 ⟨rfl, hb⟩
            refine ⟨_, rfl, ?_⟩
            have n0_ := ak (Kd.R_below d31_6 hb)
            have n1_ := ak (blk_below (g := gb763) (o := .cells #[.int .i64 a2_0, .int .i64 a2_1, .int .i64 a2_2, .string a2_3] 26 (0, 0)) d31_1 hb)
            have n2_ := ak (blk_below (g := gb782) (o := .cells #[.int .i64 0, .bool false, .int .i64 0, .int .i64 0, .string (⟨#[]⟩ : ByteArray), .int .i64 0, .int .i64 0, .int .i64 0, .string (⟨#[]⟩ : ByteArray)] 78 (0, 0)) d31_5 hb)
            have n3_ := ak (below_step d31_2 hb)
            clear HO768
            clear BK763
            clear BK782
            clear HB
            have HO768 := n0_
            have BK763 := n1_
            have BK782 := n2_
            have HB := n3_
            clear n0_ n1_ n2_ n3_
            (try clear hb)
            (try clear hb2)
            (try clear hk)
            (try clear hi)
            refine hK.out _ _ ⟨(blk_cell BK763.out 0).trans rfl, (blk_cell BK763.out 1).trans rfl, (blk_cell BK763.out 2).trans rfl, (blk_cell BK763.out 3).trans rfl⟩ (fun hHeld => ?_)
            clear hK K
            refine norm_ (a' := ?_) ?_ ?_
            rotate_left
            · show Act.put _ (some 29) _ = _
              simp only [Act.put, List.setIfInBounds_toArray, List.set_cons_zero, List.set_cons_succ, i64_w, i32_w]
              rfl
            exact norm_ (by simp only [putAll, Act.put, List.setIfInBounds_toArray, List.set_cons_zero, List.set_cons_succ]) (hCont (.slice Ao28 t766.length co28, gb782) _ ⟨hHeld, d31_6, d31_1, d31_5, GW782.out, GE782.out, NB763_782.out, NB782_763.out, d31_2⟩)
        rintro ⟨v767, gb782⟩ w30 ⟨hS_, h0_, h1_, h2_, h3_, h4_, h5_, h6_, h7_⟩
        have n0_ : Aside0 (Kd.R k88 88 w30 w.heap.size (fun _ => True) v767 t766) := ⟨h0_⟩
        have n1_ : Aside0 (w30.heap[gb763]? = some (.cells #[.int .i64 a2_0, .int .i64 a2_1, .int .i64 a2_2, .string a2_3] 26 (0, 0))) := ⟨h1_⟩
        have n2_ : Aside0 (w30.heap[gb782]? = some (.cells #[.int .i64 0, .bool false, .int .i64 0, .int .i64 0, .string (⟨#[]⟩ : ByteArray), .int .i64 0, .int .i64 0, .int .i64 0, .string (⟨#[]⟩ : ByteArray)] 78 (0, 0))) := ⟨h2_⟩
        have n3_ : Aside0 (w.heap.size ≤ gb782) := ⟨h3_⟩
        have n4_ : Aside0 (w.heap.size ≤ gb782) := ⟨h4_⟩
        have n5_ : Aside0 (gb763 ≠ gb782) := ⟨h5_⟩
        have n6_ : Aside0 (gb782 ≠ gb763) := ⟨h6_⟩
        have n7_ : Aside0 (Below w.heap.size w w30) := ⟨h7_⟩
        clear BK763
        clear HB
        clear h0_ h1_ h2_ h3_ h4_ h5_ h6_ h7_
        have HO768 := n0_
        have BK763 := n1_
        have BK782 := n2_
        have GW782 := n3_
        have GE782 := n4_
        have NB763_782 := n5_
        have NB782_763 := n6_
        have HB := n7_
        clear n0_ n1_ n2_ n3_ n4_ n5_ n6_ n7_
        have hHeld : w30.cell? ⟨gb763, 0, none⟩ = some (.int .i64 a2_0) ∧ w30.cell? ⟨gb763, 1, none⟩ = some (.int .i64 a2_1) ∧ w30.cell? ⟨gb763, 2, none⟩ = some (.int .i64 a2_2) ∧ w30.cell? ⟨gb763, 3, none⟩ = some (.string a2_3) := hS_
        refine norm_ (a' := ?_) ?_ ?_
        rotate_left
        · simp only [putAll, Act.put, List.setIfInBounds_toArray, List.set_cons_zero, List.set_cons_succ]
          rfl
        refine one_ (i := 7) (N := none) #[true, true, true, true, true, true, true, true] rfl rfl (one_of HT_.out (by kernel_rfl)) (by decide) (fun K hK => ?_)
        have hs31 : w30.cell? ⟨gb782, 0, none⟩ = some (.int .i64 0) := (blk_cell BK782.out 0).trans rfl
        have hfs31 := blk_frozen BK782.out 0
        have hns31_0 := NB763_782.out
        have hms31_0 := NB782_763.out
        have hs32 : w30.cell? ⟨gb782, 1, none⟩ = some (.bool false) := (blk_cell BK782.out 1).trans rfl
        have hfs32 := blk_frozen BK782.out 1
        have hns32_0 := NB763_782.out
        have hms32_0 := NB782_763.out
        have hs33 : w30.cell? ⟨gb782, 2, none⟩ = some (.int .i64 0) := (blk_cell BK782.out 2).trans rfl
        have hfs33 := blk_frozen BK782.out 2
        have hns33_0 := NB763_782.out
        have hms33_0 := NB782_763.out
        have hs34 : w30.cell? ⟨gb782, 3, none⟩ = some (.int .i64 0) := (blk_cell BK782.out 3).trans rfl
        have hfs34 := blk_frozen BK782.out 3
        have hns34_0 := NB763_782.out
        have hms34_0 := NB782_763.out
        have hs35 : w30.cell? ⟨gb782, 4, none⟩ = some (.string (⟨#[]⟩ : ByteArray)) := (blk_cell BK782.out 4).trans rfl
        have hfs35 := blk_frozen BK782.out 4
        have hns35_0 := NB763_782.out
        have hms35_0 := NB782_763.out
        have hs36 : w30.cell? ⟨gb782, 5, none⟩ = some (.int .i64 0) := (blk_cell BK782.out 5).trans rfl
        have hfs36 := blk_frozen BK782.out 5
        have hns36_0 := NB763_782.out
        have hms36_0 := NB782_763.out
        have hs37 : w30.cell? ⟨gb782, 6, none⟩ = some (.int .i64 0) := (blk_cell BK782.out 6).trans rfl
        have hfs37 := blk_frozen BK782.out 6
        have hns37_0 := NB763_782.out
        have hms37_0 := NB782_763.out
        have hs38 : w30.cell? ⟨gb782, 7, none⟩ = some (.int .i64 0) := (blk_cell BK782.out 7).trans rfl
        have hfs38 := blk_frozen BK782.out 7
        have hns38_0 := NB763_782.out
        have hms38_0 := NB782_763.out
        have hs39 : w30.cell? ⟨gb782, 8, none⟩ = some (.string (⟨#[]⟩ : ByteArray)) := (blk_cell BK782.out 8).trans rfl
        have hfs39 := blk_frozen BK782.out 8
        have hns39_0 := NB763_782.out
        have hms39_0 := NB782_763.out
        refine skip_ (w1 := ?_) (by rfl) rfl ?_ ?_
        rotate_left
        · go_simp
          rfl
        refine hK.out _ _ ⟨((cell_far (p := ⟨gb782, _, none⟩) NB763_782.out _).trans (((cell_far (p := ⟨gb782, _, none⟩) NB763_782.out _).trans (((cell_far (p := ⟨gb782, _, none⟩) NB763_782.out _).trans (((cell_far (p := ⟨gb782, _, none⟩) NB763_782.out _).trans (((cell_far (p := ⟨gb782, _, none⟩) NB763_782.out _).trans (((cell_far (p := ⟨gb782, _, none⟩) NB763_782.out _).trans (((cell_far (p := ⟨gb782, _, none⟩) NB763_782.out _).trans (((cell_far (p := ⟨gb782, _, none⟩) NB763_782.out _).trans (((cell_far (p := ⟨gb782, _, none⟩) NB763_782.out _).trans (hHeld.1)))))))))))))))))), ((cell_far (p := ⟨gb782, _, none⟩) NB763_782.out _).trans (((cell_far (p := ⟨gb782, _, none⟩) NB763_782.out _).trans (((cell_far (p := ⟨gb782, _, none⟩) NB763_782.out _).trans (((cell_far (p := ⟨gb782, _, none⟩) NB763_782.out _).trans (((cell_far (p := ⟨gb782, _, none⟩) NB763_782.out _).trans (((cell_far (p := ⟨gb782, _, none⟩) NB763_782.out _).trans (((cell_far (p := ⟨gb782, _, none⟩) NB763_782.out _).trans (((cell_far (p := ⟨gb782, _, none⟩) NB763_782.out _).trans (((cell_far (p := ⟨gb782, _, none⟩) NB763_782.out _).trans (hHeld.2.1)))))))))))))))))), ((cell_far (p := ⟨gb782, _, none⟩) NB763_782.out _).trans (((cell_far (p := ⟨gb782, _, none⟩) NB763_782.out _).trans (((cell_far (p := ⟨gb782, _, none⟩) NB763_782.out _).trans (((cell_far (p := ⟨gb782, _, none⟩) NB763_782.out _).trans (((cell_far (p := ⟨gb782, _, none⟩) NB763_782.out _).trans (((cell_far (p := ⟨gb782, _, none⟩) NB763_782.out _).trans (((cell_far (p := ⟨gb782, _, none⟩) NB763_782.out _).trans (((cell_far (p := ⟨gb782, _, none⟩) NB763_782.out _).trans (((cell_far (p := ⟨gb782, _, none⟩) NB763_782.out _).trans (hHeld.2.2.1)))))))))))))))))), ((cell_far (p := ⟨gb782, _, none⟩) NB763_782.out _).trans (((cell_far (p := ⟨gb782, _, none⟩) NB763_782.out _).trans (((cell_far (p := ⟨gb782, _, none⟩) NB763_782.out _).trans (((cell_far (p := ⟨gb782, _, none⟩) NB763_782.out _).trans (((cell_far (p := ⟨gb782, _, none⟩) NB763_782.out _).trans (((cell_far (p := ⟨gb782, _, none⟩) NB763_782.out _).trans (((cell_far (p := ⟨gb782, _, none⟩) NB763_782.out _).trans (((cell_far (p := ⟨gb782, _, none⟩) NB763_782.out _).trans (((cell_far (p := ⟨gb782, _, none⟩) NB763_782.out _).trans (hHeld.2.2.2))))))))))))))))))⟩ (fun hHeld => ?_)
        clear hK K
        refine done_ (done_of HT_.out (by kernel_rfl)) ?_
        go_upto_if 40 with (first | ((with_reducible refine gate_callee (f := 12) rfl ?_); refine goesL_ (some 31) rfl rfl Tryd.func12 (by kernel_rfl) rfl #[.slice A0 l0.length c0] rfl d31_4 ?_; (with_reducible refine (laws_toGlobalS.calls kj11 _ _ l0 t783 _ ?side1 ?side2 A19.out).mono ?_); (case side1 => exact Kd.C_below HR0.out d31_2); (case side2 => exact HC0.out); rintro e w40 ⟨v784, rfl, ho0, hb⟩; refine ⟨_, rfl, ?_⟩; have n0_ := ak (Kd.R_elder' (by (with_reducible repeat (first | apply Kd.R_alloc | apply Kd.R_drewN | apply Kd.R_drew)); exact (Kd.R_mono (Kd.R_far (p := ⟨gb782, 8, none⟩) (Kd.R_far (p := ⟨gb782, 7, none⟩) (Kd.R_far (p := ⟨gb782, 6, none⟩) (Kd.R_far (p := ⟨gb782, 5, none⟩) (Kd.R_far (p := ⟨gb782, 4, none⟩) (Kd.R_far (p := ⟨gb782, 3, none⟩) (Kd.R_far (p := ⟨gb782, 2, none⟩) (Kd.R_far (p := ⟨gb782, 1, none⟩) (Kd.R_far (p := ⟨gb782, 0, none⟩) (Kd.R_types HO768.out BK782.out (by decide)) (fun _ hk => hk.2) (.int .i64 t773)) (fun _ hk => hk.2) (.bool t774)) (fun _ hk => hk.2) (.int .i64 t775)) (fun _ hk => hk.2) (.int .i64 t776)) (fun _ hk => hk.2) (.string t777)) (fun _ hk => hk.2) (.int .i64 t778)) (fun _ hk => hk.2) (.int .i64 t779)) (fun _ hk => hk.2) (.int .i64 t780)) (fun _ hk => hk.2) (.string t781)) (fun _ h_ => h_.1))) (Kd.R_base ho0) hb); have n1_ := ak (Kd.R_lower (Kd.R_new' ho0 (Kd.R_lt (by (with_reducible repeat (first | apply Kd.R_alloc | apply Kd.R_drewN | apply Kd.R_drew)); exact (Kd.R_mono (Kd.R_far (p := ⟨gb782, 8, none⟩) (Kd.R_far (p := ⟨gb782, 7, none⟩) (Kd.R_far (p := ⟨gb782, 6, none⟩) (Kd.R_far (p := ⟨gb782, 5, none⟩) (Kd.R_far (p := ⟨gb782, 4, none⟩) (Kd.R_far (p := ⟨gb782, 3, none⟩) (Kd.R_far (p := ⟨gb782, 2, none⟩) (Kd.R_far (p := ⟨gb782, 1, none⟩) (Kd.R_far (p := ⟨gb782, 0, none⟩) (Kd.R_types HO768.out BK782.out (by decide)) (fun _ hk => hk.2) (.int .i64 t773)) (fun _ hk => hk.2) (.bool t774)) (fun _ hk => hk.2) (.int .i64 t775)) (fun _ hk => hk.2) (.int .i64 t776)) (fun _ hk => hk.2) (.string t777)) (fun _ hk => hk.2) (.int .i64 t778)) (fun _ hk => hk.2) (.int .i64 t779)) (fun _ hk => hk.2) (.int .i64 t780)) (fun _ hk => hk.2) (.string t781)) (fun _ h_ => h_.1))))) (below_size d31_2)); have n2_ := ak (blk_below (g := gb763) (o := .cells #[.int .i64 a2_0, .int .i64 a2_1, .int .i64 a2_2, .string a2_3] 26 (0, 0)) (by (with_reducible repeat (first | refine blk_drewN ?_ _ | refine blk_drew ?_ | refine blk_alloc ?_ _)); refine blk_far ?_ NB763_782.out _; (with_reducible repeat (first | refine blk_drewN ?_ _ | refine blk_drew ?_ | refine blk_alloc ?_ _)); refine blk_far ?_ NB763_782.out _; (with_reducible repeat (first | refine blk_drewN ?_ _ | refine blk_drew ?_ | refine blk_alloc ?_ _)); refine blk_far ?_ NB763_782.out _; (with_reducible repeat (first | refine blk_drewN ?_ _ | refine blk_drew ?_ | refine blk_alloc ?_ _)); refine blk_far ?_ NB763_782.out _; (with_reducible repeat (first | refine blk_drewN ?_ _ | refine blk_drew ?_ | refine blk_alloc ?_ _)); refine blk_far ?_ NB763_782.out _; (with_reducible repeat (first | refine blk_drewN ?_ _ | refine blk_drew ?_ | refine blk_alloc ?_ _)); refine blk_far ?_ NB763_782.out _; (with_reducible repeat (first | refine blk_drewN ?_ _ | refine blk_drew ?_ | refine blk_alloc ?_ _)); refine blk_far ?_ NB763_782.out _; (with_reducible repeat (first | refine blk_drewN ?_ _ | refine blk_drew ?_ | refine blk_alloc ?_ _)); refine blk_far ?_ NB763_782.out _; (with_reducible repeat (first | refine blk_drewN ?_ _ | refine blk_drew ?_ | refine blk_alloc ?_ _)); refine blk_far ?_ NB763_782.out _; (with_reducible repeat (first | refine blk_drewN ?_ _ | refine blk_drew ?_ | refine blk_alloc ?_ _)); exact BK763.out) hb); have n3_ := ak (blk_below (g := gb782) (o := .cells #[.int .i64 t773, .bool t774, .int .i64 t775, .int .i64 t776, .string t777, .int .i64 t778, .int .i64 t779, .int .i64 t780, .string t781] 78 (0, 0)) (by (with_reducible repeat (first | refine blk_drewN ?_ _ | refine blk_drew ?_ | refine blk_alloc ?_ _)); refine blk_put (cs := #[.int .i64 t773, .bool t774, .int .i64 t775, .int .i64 t776, .string t777, .int .i64 t778, .int .i64 t779, .int .i64 t780, .string (⟨#[]⟩ : ByteArray)]) ?_ 8 _ rfl; (with_reducible repeat (first | refine blk_drewN ?_ _ | refine blk_drew ?_ | refine blk_alloc ?_ _)); refine blk_put (cs := #[.int .i64 t773, .bool t774, .int .i64 t775, .int .i64 t776, .string t777, .int .i64 t778, .int .i64 t779, .int .i64 0, .string (⟨#[]⟩ : ByteArray)]) ?_ 7 _ rfl; (with_reducible repeat (first | refine blk_drewN ?_ _ | refine blk_drew ?_ | refine blk_alloc ?_ _)); refine blk_put (cs := #[.int .i64 t773, .bool t774, .int .i64 t775, .int .i64 t776, .string t777, .int .i64 t778, .int .i64 0, .int .i64 0, .string (⟨#[]⟩ : ByteArray)]) ?_ 6 _ rfl; (with_reducible repeat (first | refine blk_drewN ?_ _ | refine blk_drew ?_ | refine blk_alloc ?_ _)); refine blk_put (cs := #[.int .i64 t773, .bool t774, .int .i64 t775, .int .i64 t776, .string t777, .int .i64 0, .int .i64 0, .int .i64 0, .string (⟨#[]⟩ : ByteArray)]) ?_ 5 _ rfl; (with_reducible repeat (first | refine blk_drewN ?_ _ | refine blk_drew ?_ | refine blk_alloc ?_ _)); refine blk_put (cs := #[.int .i64 t773, .bool t774, .int .i64 t775, .int .i64 t776, .string (⟨#[]⟩ : ByteArray), .int .i64 0, .int .i64 0, .int .i64 0, .string (⟨#[]⟩ : ByteArray)]) ?_ 4 _ rfl; (with_reducible repeat (first | refine blk_drewN ?_ _ | refine blk_drew ?_ | refine blk_alloc ?_ _)); refine blk_put (cs := #[.int .i64 t773, .bool t774, .int .i64 t775, .int .i64 0, .string (⟨#[]⟩ : ByteArray), .int .i64 0, .int .i64 0, .int .i64 0, .string (⟨#[]⟩ : ByteArray)]) ?_ 3 _ rfl; (with_reducible repeat (first | refine blk_drewN ?_ _ | refine blk_drew ?_ | refine blk_alloc ?_ _)); refine blk_put (cs := #[.int .i64 t773, .bool t774, .int .i64 0, .int .i64 0, .string (⟨#[]⟩ : ByteArray), .int .i64 0, .int .i64 0, .int .i64 0, .string (⟨#[]⟩ : ByteArray)]) ?_ 2 _ rfl; (with_reducible repeat (first | refine blk_drewN ?_ _ | refine blk_drew ?_ | refine blk_alloc ?_ _)); refine blk_put (cs := #[.int .i64 t773, .bool false, .int .i64 0, .int .i64 0, .string (⟨#[]⟩ : ByteArray), .int .i64 0, .int .i64 0, .int .i64 0, .string (⟨#[]⟩ : ByteArray)]) ?_ 1 _ rfl; (with_reducible repeat (first | refine blk_drewN ?_ _ | refine blk_drew ?_ | refine blk_alloc ?_ _)); refine blk_put (cs := #[.int .i64 0, .bool false, .int .i64 0, .int .i64 0, .string (⟨#[]⟩ : ByteArray), .int .i64 0, .int .i64 0, .int .i64 0, .string (⟨#[]⟩ : ByteArray)]) ?_ 0 _ rfl; (with_reducible repeat (first | refine blk_drewN ?_ _ | refine blk_drew ?_ | refine blk_alloc ?_ _)); exact BK782.out) hb); have n4_ := ak (below_step d31_2 hb); clear HO768 BK763 BK782 HB; have HO768 := n0_; have HO785 := n1_; have BK763 := n2_; have BK782 := n3_; have HB := n4_; clear n0_ n1_ n2_ n3_ n4_; (try clear hb); (try clear hk); (try clear ho0); have hnb41 := NB763_782.out; have hnc41 := NB782_763.out; have hcz42_0 : w40.cell? ⟨gb763, 0, none⟩ = some (.int .i64 a2_0) := (blk_cell BK763.out 0).trans rfl; have hcz42_1 : w40.cell? ⟨gb763, 1, none⟩ = some (.int .i64 a2_1) := (blk_cell BK763.out 1).trans rfl; have hcz42_2 : w40.cell? ⟨gb763, 2, none⟩ = some (.int .i64 a2_2) := (blk_cell BK763.out 2).trans rfl; have hcz42_3 : w40.cell? ⟨gb763, 3, none⟩ = some (.string a2_3) := (blk_cell BK763.out 3).trans rfl; have hfz42_0 := blk_frozen BK763.out 0; have hfz42_1 := blk_frozen BK763.out 1; have hfz42_2 := blk_frozen BK763.out 2; have hfz42_3 := blk_frozen BK763.out 3) | ((with_reducible refine gate_callee (f := 13) rfl ?_); refine goesL_ (some 35) rfl rfl Tryd.func13 (by kernel_rfl) rfl #[.agg #[.int .i64 a2_0, .int .i64 a2_1, .int .i64 a2_2, .string a2_3]] rfl d31_4 ?_; (with_reducible refine (laws_toSite.calls a2_0 a2_1 a2_2 a2_3 t786 t787 t788 t789 _ A20.out).mono ?_); rintro e w43 ⟨rfl, hb⟩; refine ⟨_, rfl, ?_⟩; have n0_ := ak (Kd.R_below d31_6 hb); have n1_ := ak (Kd.R_below (by (with_reducible repeat (first | apply Kd.R_alloc | apply Kd.R_drewN | apply Kd.R_drew)); exact HO785.out) hb); have n2_ := ak (blk_below (g := gb763) (o := .cells #[.int .i64 a2_0, .int .i64 a2_1, .int .i64 a2_2, .string a2_3] 26 (0, 0)) d31_1 hb); have n3_ := ak (blk_below (g := gb782) (o := .cells #[.int .i64 t773, .bool t774, .int .i64 t775, .int .i64 t776, .string t777, .int .i64 t778, .int .i64 t779, .int .i64 t780, .string t781] 78 (0, 0)) d31_5 hb); have n4_ := ak (below_step d31_2 hb); clear HO768 HO785 BK763 BK782 HB; have HO768 := n0_; have HO785 := n1_; have BK763 := n2_; have BK782 := n3_; have HB := n4_; clear n0_ n1_ n2_ n3_ n4_; (try clear hb); (try clear hk); obtain ⟨Ao44, co44, eo44⟩ := Kd.R_slice HO785.out; subst eo44) | ((with_reducible refine gate_callee (f := 47) rfl ?_); refine goesL_ (some 36) rfl rfl Tryd.func47 (by kernel_rfl) rfl #[.slice Ao44 t783.length co44, .string a1, .agg #[.int .i64 t786, .int .i64 t787, .int .i64 t788, .string t789]] rfl d31_4 ?_; (with_reducible refine (impl_FetchSite.calls kj11 _ _ t783 a1 t786 t787 t788 t789 t790 t791 t792 t793 t794 t795 t796 t797 t798 _ ?side1 ?side2 A21.out).mono ?_); (case side1 => repeat (first | exact (Kd.R_reads' HO785.out).2.2 | (with_reducible refine Kd.C_alloc ?_ _) | (with_reducible refine Kd.C_drewN ?_ _) | (with_reducible refine Kd.C_drew ?_))); (case side2 => exact (Kd.R_reads' HO785.out).2.1); rintro e w45 ⟨rfl, hb⟩; refine ⟨_, rfl, ?_⟩; have n0_ := ak (Kd.R_below d31_6 hb); have n1_ := ak (Kd.R_below (by (with_reducible repeat (first | apply Kd.R_alloc | apply Kd.R_drewN | apply Kd.R_drew)); exact HO785.out) hb); have n2_ := ak (blk_below (g := gb763) (o := .cells #[.int .i64 a2_0, .int .i64 a2_1, .int .i64 a2_2, .string a2_3] 26 (0, 0)) d31_1 hb); have n3_ := ak (blk_below (g := gb782) (o := .cells #[.int .i64 t773, .bool t774, .int .i64 t775, .int .i64 t776, .string t777, .int .i64 t778, .int .i64 t779, .int .i64 t780, .string t781] 78 (0, 0)) d31_5 hb); have n4_ := ak (below_step d31_2 hb); clear HO768 HO785 BK763 BK782 HB; have HO768 := n0_; have HO785 := n1_; have BK763 := n2_; have BK782 := n3_; have HB := n4_; clear n0_ n1_ n2_ n3_ n4_; (try clear hb); (try clear hk)) | ((with_reducible refine gate_dst (N := 10) rfl ?_); refine box_event ?hg (N := 10) ?hd (cs := #[.int .i64 0, .bool false, .int .i64 0, .int .i64 0, .string (⟨#[]⟩ : ByteArray), .int .i64 0, .int .i64 0, .int .i64 0, .string (⟨#[]⟩ : ByteArray)]) (t := 78) ?hr ?_; (case hd => rfl); (case hg => rfl); (case hr => first | (go_simp; done) | (go_simp; rfl)); intro gb799 hg w46 hbox hb; have n0_ := ak (Kd.R_below d31_6 hb); have n1_ := ak (Kd.R_below (by (with_reducible repeat (first | apply Kd.R_alloc | apply Kd.R_drewN | apply Kd.R_drew)); exact HO785.out) hb); have n2_ := ak (blk_below (g := gb763) (o := .cells #[.int .i64 a2_0, .int .i64 a2_1, .int .i64 a2_2, .string a2_3] 26 (0, 0)) d31_1 hb); have n3_ := ak (blk_below (g := gb782) (o := .cells #[.int .i64 t773, .bool t774, .int .i64 t775, .int .i64 t776, .string t777, .int .i64 t778, .int .i64 t779, .int .i64 t780, .string t781] 78 (0, 0)) d31_5 hb); have n4_ := ak (below_step d31_2 hb); have n5_ := ak (hbox); have n6_ := ak ((by rw [hg]; exact (below_size d31_2) : w.heap.size ≤ gb799)); have n7_ := ak ((by rw [hg]; exact (below_size d31_2) : w.heap.size ≤ gb799)); have n8_ := ak ((by rw [hg]; exact Nat.ne_of_lt (blk_lt (g := gb763) (o := .cells #[.int .i64 a2_0, .int .i64 a2_1, .int .i64 a2_2, .string a2_3] 26 (0, 0)) d31_1) : gb763 ≠ gb799)); have n9_ := ak ((by rw [hg]; exact Nat.ne_of_gt (blk_lt (g := gb763) (o := .cells #[.int .i64 a2_0, .int .i64 a2_1, .int .i64 a2_2, .string a2_3] 26 (0, 0)) d31_1) : gb799 ≠ gb763)); have n10_ := ak ((by rw [hg]; exact Nat.ne_of_lt (blk_lt (g := gb782) (o := .cells #[.int .i64 t773, .bool t774, .int .i64 t775, .int .i64 t776, .string t777, .int .i64 t778, .int .i64 t779, .int .i64 t780, .string t781] 78 (0, 0)) d31_5) : gb782 ≠ gb799)); have n11_ := ak ((by rw [hg]; exact Nat.ne_of_gt (blk_lt (g := gb782) (o := .cells #[.int .i64 t773, .bool t774, .int .i64 t775, .int .i64 t776, .string t777, .int .i64 t778, .int .i64 t779, .int .i64 t780, .string t781] 78 (0, 0)) d31_5) : gb799 ≠ gb782)); clear HO768 HO785 BK763 BK782 HB; have HO768 := n0_; have HO785 := n1_; have BK763 := n2_; have BK782 := n3_; have HB := n4_; have BK799 := n5_; have GW799 := n6_; have GE799 := n7_; have NB763_799 := n8_; have NB799_763 := n9_; have NB782_799 := n10_; have NB799_782 := n11_; clear n0_ n1_ n2_ n3_ n4_ n5_ n6_ n7_ n8_ n9_ n10_ n11_ hb hbox hg; have hnb47 := NB799_763.out; have hnc47 := NB763_799.out; have hnb48 := NB799_782.out; have hnc48 := NB782_799.out; have hcz49_0 : w46.cell? ⟨gb799, 0, none⟩ = some (.int .i64 0) := (blk_cell BK799.out 0).trans rfl; have hcz49_1 : w46.cell? ⟨gb799, 1, none⟩ = some (.bool false) := (blk_cell BK799.out 1).trans rfl; have hcz49_2 : w46.cell? ⟨gb799, 2, none⟩ = some (.int .i64 0) := (blk_cell BK799.out 2).trans rfl; have hcz49_3 : w46.cell? ⟨gb799, 3, none⟩ = some (.int .i64 0) := (blk_cell BK799.out 3).trans rfl; have hcz49_4 : w46.cell? ⟨gb799, 4, none⟩ = some (.string (⟨#[]⟩ : ByteArray)) := (blk_cell BK799.out 4).trans rfl; have hcz49_5 : w46.cell? ⟨gb799, 5, none⟩ = some (.int .i64 0) := (blk_cell BK799.out 5).trans rfl; have hcz49_6 : w46.cell? ⟨gb799, 6, none⟩ = some (.int .i64 0) := (blk_cell BK799.out 6).trans rfl; have hcz49_7 : w46.cell? ⟨gb799, 7, none⟩ = some (.int .i64 0) := (blk_cell BK799.out 7).trans rfl; have hcz49_8 : w46.cell? ⟨gb799, 8, none⟩ = some (.string (⟨#[]⟩ : ByteArray)) := (blk_cell BK799.out 8).trans rfl; have hfz49_0 := blk_frozen BK799.out 0; have hfz49_1 := blk_frozen BK799.out 1; have hfz49_2 := blk_frozen BK799.out 2; have hfz49_3 := blk_frozen BK799.out 3; have hfz49_4 := blk_frozen BK799.out 4; have hfz49_5 := blk_frozen BK799.out 5; have hfz49_6 := blk_frozen BK799.out 6; have hfz49_7 := blk_frozen BK799.out 7; have hfz49_8 := blk_frozen BK799.out 8; have hcz50_0 : w46.cell? ⟨gb782, 0, none⟩ = some (.int .i64 t773) := (blk_cell BK782.out 0).trans rfl; have hcz50_1 : w46.cell? ⟨gb782, 1, none⟩ = some (.bool t774) := (blk_cell BK782.out 1).trans rfl; have hcz50_2 : w46.cell? ⟨gb782, 2, none⟩ = some (.int .i64 t775) := (blk_cell BK782.out 2).trans rfl; have hcz50_3 : w46.cell? ⟨gb782, 3, none⟩ = some (.int .i64 t776) := (blk_cell BK782.out 3).trans rfl; have hcz50_4 : w46.cell? ⟨gb782, 4, none⟩ = some (.string t777) := (blk_cell BK782.out 4).trans rfl; have hcz50_5 : w46.cell? ⟨gb782, 5, none⟩ = some (.int .i64 t778) := (blk_cell BK782.out 5).trans rfl; have hcz50_6 : w46.cell? ⟨gb782, 6, none⟩ = some (.int .i64 t779) := (blk_cell BK782.out 6).trans rfl; have hcz50_7 : w46.cell? ⟨gb782, 7, none⟩ = some (.int .i64 t780) := (blk_cell BK782.out 7).trans rfl; have hcz50_8 : w46.cell? ⟨gb782, 8, none⟩ = some (.string t781) := (blk_cell BK782.out 8).trans rfl; have hfz50_0 := blk_frozen BK782.out 0; have hfz50_1 := blk_frozen BK782.out 1; have hfz50_2 := blk_frozen BK782.out 2; have hfz50_3 := blk_frozen BK782.out 3; have hfz50_4 := blk_frozen BK782.out 4; have hfz50_5 := blk_frozen BK782.out 5; have hfz50_6 := blk_frozen BK782.out 6; have hfz50_7 := blk_frozen BK782.out 7; have hfz50_8 := blk_frozen BK782.out 8) | ((with_reducible refine gate_callee (f := 48) rfl ?_); refine goesL_ (some 39) rfl rfl Tryd.func48 (by kernel_rfl) rfl #[.agg #[.int .i64 t790, .bool t791, .int .i64 t792, .int .i64 t793, .string t794, .int .i64 t795, .int .i64 t796, .int .i64 t797, .string t798], .agg #[.int .i64 t773, .bool t774, .int .i64 t775, .int .i64 t776, .string t777, .int .i64 t778, .int .i64 t779, .int .i64 t780, .string t781]] rfl d31_4 ?_; (with_reducible refine (laws_eqFetchResult.calls t790 t791 t792 t793 t794 t795 t796 t797 t798 t773 t774 t775 t776 t777 t778 t779 t780 t781 t800 _ A22.out).mono ?_); rintro e w51 ⟨rfl, hb⟩; refine ⟨_, rfl, ?_⟩; have n0_ := ak (Kd.R_below (by (with_reducible repeat (first | apply Kd.R_alloc | apply Kd.R_drewN | apply Kd.R_drew)); exact (Kd.R_mono (Kd.R_far (p := ⟨gb799, 8, none⟩) (Kd.R_far (p := ⟨gb799, 7, none⟩) (Kd.R_far (p := ⟨gb799, 6, none⟩) (Kd.R_far (p := ⟨gb799, 5, none⟩) (Kd.R_far (p := ⟨gb799, 4, none⟩) (Kd.R_far (p := ⟨gb799, 3, none⟩) (Kd.R_far (p := ⟨gb799, 2, none⟩) (Kd.R_far (p := ⟨gb799, 1, none⟩) (Kd.R_far (p := ⟨gb799, 0, none⟩) (Kd.R_types HO768.out BK799.out (by decide)) (fun _ hk => hk.2) (.int .i64 t790)) (fun _ hk => hk.2) (.bool t791)) (fun _ hk => hk.2) (.int .i64 t792)) (fun _ hk => hk.2) (.int .i64 t793)) (fun _ hk => hk.2) (.string t794)) (fun _ hk => hk.2) (.int .i64 t795)) (fun _ hk => hk.2) (.int .i64 t796)) (fun _ hk => hk.2) (.int .i64 t797)) (fun _ hk => hk.2) (.string t798)) (fun _ h_ => h_.1))) hb); have n1_ := ak (Kd.R_below (by (with_reducible repeat (first | apply Kd.R_alloc | apply Kd.R_drewN | apply Kd.R_drew)); exact (Kd.R_mono (Kd.R_far (p := ⟨gb799, 8, none⟩) (Kd.R_far (p := ⟨gb799, 7, none⟩) (Kd.R_far (p := ⟨gb799, 6, none⟩) (Kd.R_far (p := ⟨gb799, 5, none⟩) (Kd.R_far (p := ⟨gb799, 4, none⟩) (Kd.R_far (p := ⟨gb799, 3, none⟩) (Kd.R_far (p := ⟨gb799, 2, none⟩) (Kd.R_far (p := ⟨gb799, 1, none⟩) (Kd.R_far (p := ⟨gb799, 0, none⟩) (Kd.R_types HO785.out BK799.out (by decide)) (fun _ hk => hk.2) (.int .i64 t790)) (fun _ hk => hk.2) (.bool t791)) (fun _ hk => hk.2) (.int .i64 t792)) (fun _ hk => hk.2) (.int .i64 t793)) (fun _ hk => hk.2) (.string t794)) (fun _ hk => hk.2) (.int .i64 t795)) (fun _ hk => hk.2) (.int .i64 t796)) (fun _ hk => hk.2) (.int .i64 t797)) (fun _ hk => hk.2) (.string t798)) (fun _ h_ => h_.1))) hb); have n2_ := ak (blk_below (g := gb763) (o := .cells #[.int .i64 a2_0, .int .i64 a2_1, .int .i64 a2_2, .string a2_3] 26 (0, 0)) (by (with_reducible repeat (first | refine blk_drewN ?_ _ | refine blk_drew ?_ | refine blk_alloc ?_ _)); refine blk_far ?_ NB763_799.out _; (with_reducible repeat (first | refine blk_drewN ?_ _ | refine blk_drew ?_ | refine blk_alloc ?_ _)); refine blk_far ?_ NB763_799.out _; (with_reducible repeat (first | refine blk_drewN ?_ _ | refine blk_drew ?_ | refine blk_alloc ?_ _)); refine blk_far ?_ NB763_799.out _; (with_reducible repeat (first | refine blk_drewN ?_ _ | refine blk_drew ?_ | refine blk_alloc ?_ _)); refine blk_far ?_ NB763_799.out _; (with_reducible repeat (first | refine blk_drewN ?_ _ | refine blk_drew ?_ | refine blk_alloc ?_ _)); refine blk_far ?_ NB763_799.out _; (with_reducible repeat (first | refine blk_drewN ?_ _ | refine blk_drew ?_ | refine blk_alloc ?_ _)); refine blk_far ?_ NB763_799.out _; (with_reducible repeat (first | refine blk_drewN ?_ _ | refine blk_drew ?_ | refine blk_alloc ?_ _)); refine blk_far ?_ NB763_799.out _; (with_reducible repeat (first | refine blk_drewN ?_ _ | refine blk_drew ?_ | refine blk_alloc ?_ _)); refine blk_far ?_ NB763_799.out _; (with_reducible repeat (first | refine blk_drewN ?_ _ | refine blk_drew ?_ | refine blk_alloc ?_ _)); refine blk_far ?_ NB763_799.out _; (with_reducible repeat (first | refine blk_drewN ?_ _ | refine blk_drew ?_ | refine blk_alloc ?_ _)); exact BK763.out) hb); have n3_ := ak (blk_below (g := gb782) (o := .cells #[.int .i64 t773, .bool t774, .int .i64 t775, .int .i64 t776, .string t777, .int .i64 t778, .int .i64 t779, .int .i64 t780, .string t781] 78 (0, 0)) (by (with_reducible repeat (first | refine blk_drewN ?_ _ | refine blk_drew ?_ | refine blk_alloc ?_ _)); refine blk_far ?_ NB782_799.out _; (with_reducible repeat (first | refine blk_drewN ?_ _ | refine blk_drew ?_ | refine blk_alloc ?_ _)); refine blk_far ?_ NB782_799.out _; (with_reducible repeat (first | refine blk_drewN ?_ _ | refine blk_drew ?_ | refine blk_alloc ?_ _)); refine blk_far ?_ NB782_799.out _; (with_reducible repeat (first | refine blk_drewN ?_ _ | refine blk_drew ?_ | refine blk_alloc ?_ _)); refine blk_far ?_ NB782_799.out _; (with_reducible repeat (first | refine blk_drewN ?_ _ | refine blk_drew ?_ | refine blk_alloc ?_ _)); refine blk_far ?_ NB782_799.out _; (with_reducible repeat (first | refine blk_drewN ?_ _ | refine blk_drew ?_ | refine blk_alloc ?_ _)); refine blk_far ?_ NB782_799.out _; (with_reducible repeat (first | refine blk_drewN ?_ _ | refine blk_drew ?_ | refine blk_alloc ?_ _)); refine blk_far ?_ NB782_799.out _; (with_reducible repeat (first | refine blk_drewN ?_ _ | refine blk_drew ?_ | refine blk_alloc ?_ _)); refine blk_far ?_ NB782_799.out _; (with_reducible repeat (first | refine blk_drewN ?_ _ | refine blk_drew ?_ | refine blk_alloc ?_ _)); refine blk_far ?_ NB782_799.out _; (with_reducible repeat (first | refine blk_drewN ?_ _ | refine blk_drew ?_ | refine blk_alloc ?_ _)); exact BK782.out) hb); have n4_ := ak (blk_below (g := gb799) (o := .cells #[.int .i64 t790, .bool t791, .int .i64 t792, .int .i64 t793, .string t794, .int .i64 t795, .int .i64 t796, .int .i64 t797, .string t798] 78 (0, 0)) (by (with_reducible repeat (first | refine blk_drewN ?_ _ | refine blk_drew ?_ | refine blk_alloc ?_ _)); refine blk_put (cs := #[.int .i64 t790, .bool t791, .int .i64 t792, .int .i64 t793, .string t794, .int .i64 t795, .int .i64 t796, .int .i64 t797, .string (⟨#[]⟩ : ByteArray)]) ?_ 8 _ rfl; (with_reducible repeat (first | refine blk_drewN ?_ _ | refine blk_drew ?_ | refine blk_alloc ?_ _)); refine blk_put (cs := #[.int .i64 t790, .bool t791, .int .i64 t792, .int .i64 t793, .string t794, .int .i64 t795, .int .i64 t796, .int .i64 0, .string (⟨#[]⟩ : ByteArray)]) ?_ 7 _ rfl; (with_reducible repeat (first | refine blk_drewN ?_ _ | refine blk_drew ?_ | refine blk_alloc ?_ _)); refine blk_put (cs := #[.int .i64 t790, .bool t791, .int .i64 t792, .int .i64 t793, .string t794, .int .i64 t795, .int .i64 0, .int .i64 0, .string (⟨#[]⟩ : ByteArray)]) ?_ 6 _ rfl; (with_reducible repeat (first | refine blk_drewN ?_ _ | refine blk_drew ?_ | refine blk_alloc ?_ _)); refine blk_put (cs := #[.int .i64 t790, .bool t791, .int .i64 t792, .int .i64 t793, .string t794, .int .i64 0, .int .i64 0, .int .i64 0, .string (⟨#[]⟩ : ByteArray)]) ?_ 5 _ rfl; (with_reducible repeat (first | refine blk_drewN ?_ _ | refine blk_drew ?_ | refine blk_alloc ?_ _)); refine blk_put (cs := #[.int .i64 t790, .bool t791, .int .i64 t792, .int .i64 t793, .string (⟨#[]⟩ : ByteArray), .int .i64 0, .int .i64 0, .int .i64 0, .string (⟨#[]⟩ : ByteArray)]) ?_ 4 _ rfl; (with_reducible repeat (first | refine blk_drewN ?_ _ | refine blk_drew ?_ | refine blk_alloc ?_ _)); refine blk_put (cs := #[.int .i64 t790, .bool t791, .int .i64 t792, .int .i64 0, .string (⟨#[]⟩ : ByteArray), .int .i64 0, .int .i64 0, .int .i64 0, .string (⟨#[]⟩ : ByteArray)]) ?_ 3 _ rfl; (with_reducible repeat (first | refine blk_drewN ?_ _ | refine blk_drew ?_ | refine blk_alloc ?_ _)); refine blk_put (cs := #[.int .i64 t790, .bool t791, .int .i64 0, .int .i64 0, .string (⟨#[]⟩ : ByteArray), .int .i64 0, .int .i64 0, .int .i64 0, .string (⟨#[]⟩ : ByteArray)]) ?_ 2 _ rfl; (with_reducible repeat (first | refine blk_drewN ?_ _ | refine blk_drew ?_ | refine blk_alloc ?_ _)); refine blk_put (cs := #[.int .i64 t790, .bool false, .int .i64 0, .int .i64 0, .string (⟨#[]⟩ : ByteArray), .int .i64 0, .int .i64 0, .int .i64 0, .string (⟨#[]⟩ : ByteArray)]) ?_ 1 _ rfl; (with_reducible repeat (first | refine blk_drewN ?_ _ | refine blk_drew ?_ | refine blk_alloc ?_ _)); refine blk_put (cs := #[.int .i64 0, .bool false, .int .i64 0, .int .i64 0, .string (⟨#[]⟩ : ByteArray), .int .i64 0, .int .i64 0, .int .i64 0, .string (⟨#[]⟩ : ByteArray)]) ?_ 0 _ rfl; (with_reducible repeat (first | refine blk_drewN ?_ _ | refine blk_drew ?_ | refine blk_alloc ?_ _)); exact BK799.out) hb); have n5_ := ak (below_step d31_7 hb); clear HO768 HO785 BK763 BK782 BK799 HB; have HO768 := n0_; have HO785 := n1_; have BK763 := n2_; have BK782 := n3_; have BK799 := n4_; have HB := n5_; clear n0_ n1_ n2_ n3_ n4_ n5_; (try clear hb); (try clear hk)))
        (try simp only [Act.put, List.setIfInBounds_toArray, List.set_cons_zero, List.set_cons_succ])
        go_cut [] (fun wc => ∃ (kq : Nat), Aside0 (laws_FnExactFetchSite.j3 kq l0 t783 = some r) ∧ Aside0 (kq ≤ kj11) ∧ Aside0 (Kd.R k88 88 wc w.heap.size (fun _ => True) (.slice Ao44 t783.length co44) t783) ∧ Aside0 (wc.heap[gb763]? = some (.cells #[.int .i64 a2_0, .int .i64 a2_1, .int .i64 a2_2, .string a2_3] 26 (0, 0))) ∧ Aside0 (wc.heap[gb782]? = some (.cells #[.int .i64 t773, .bool t774, .int .i64 t775, .int .i64 t776, .string t777, .int .i64 t778, .int .i64 t779, .int .i64 t780, .string t781] 78 (0, 0))) ∧ Aside0 (wc.heap[gb799]? = some (.cells #[.int .i64 t790, .bool t791, .int .i64 t792, .int .i64 t793, .string t794, .int .i64 t795, .int .i64 t796, .int .i64 t797, .string t798] 78 (0, 0))) ∧ Aside0 (Below w.heap.size w wc))
        case first =>
         have H := HC23.out
         clear HC23
         by_cases c52 : t800 = true
         ·subst c52
          have H1 : (laws_FnExactFetchSite.j3 kj11 l0 t783) = some r := by rw [if_pos rfl] at H; exact H
          clear H
          have H := H1
          clear H1
          have H' := ak H
          clear H
          go_wp2
          go_meet
          case rel => exact ⟨_, H', ⟨by have := HJ3.out; have := HJ7.out; have := HJ11.out; first | omega | exact Nat.le_refl _⟩, ⟨by (with_reducible repeat (first | apply Kd.R_alloc | apply Kd.R_drewN | apply Kd.R_drew)); exact Kd.R_mono HO785.out (fun _ hk => trivial)⟩, ⟨by (with_reducible repeat (first | refine blk_drewN ?_ _ | refine blk_drew ?_ | refine blk_alloc ?_ _)); exact BK763.out⟩, ⟨by (with_reducible repeat (first | refine blk_drewN ?_ _ | refine blk_drew ?_ | refine blk_alloc ?_ _)); exact BK782.out⟩, ⟨by (with_reducible repeat (first | refine blk_drewN ?_ _ | refine blk_drew ?_ | refine blk_alloc ?_ _)); exact BK799.out⟩, ⟨by repeat (first | (with_reducible first | exact HB.out | apply below_alloc | apply pw_below_drewN | apply below_drew1 | refine below_set ?_ GE763.out | refine below_set ?_ GE782.out | refine below_set ?_ GE799.out) | exact HB.out)⟩⟩
         ·replace c52 := Bool.eq_false_iff.mpr c52
          subst c52
          have H1 : (some false) = some r := by rw [if_neg (show ¬ (false = true) by decide)] at H; exact H
          clear H
          have H := H1
          clear H1
          obtain rfl := Option.some.inj H
          go_wp2
          go_ret
          exact ⟨by first | rfl | (simp [errW_none, errW_some] <;> rfl) | (simp [*, errW_none, errW_some] <;> rfl), by repeat (first | (with_reducible first | exact HB.out | apply below_alloc | apply pw_below_drewN | apply below_drew1 | refine below_set ?_ GE763.out | refine below_set ?_ GE782.out | refine below_set ?_ GE799.out) | exact HB.out)⟩
        case rest =>
         clear HC23
         try clear c1
         try clear p2
         try clear c4
         try clear c6
         try clear c6b0
         try clear c6b1
         try clear c8
         try clear c9
         try clear c10
         try clear c10b0
         try clear c12
         try clear c13
         try clear c15
         try clear c15b0
         try clear c41
         try clear c46
         try clear c47
         try clear c48
         try clear hcz13_0
         try clear hcz13_1
         try clear hcz13_2
         try clear hcz13_3
         try clear hcz42_0
         try clear hcz42_1
         try clear hcz42_2
         try clear hcz42_3
         try clear hcz49_0
         try clear hcz49_1
         try clear hcz49_2
         try clear hcz49_3
         try clear hcz49_4
         try clear hcz49_5
         try clear hcz49_6
         try clear hcz49_7
         try clear hcz49_8
         try clear hcz50_0
         try clear hcz50_1
         try clear hcz50_2
         try clear hcz50_3
         try clear hcz50_4
         try clear hcz50_5
         try clear hcz50_6
         try clear hcz50_7
         try clear hcz50_8
         try clear hfz13_0
         try clear hfz13_1
         try clear hfz13_2
         try clear hfz13_3
         try clear hfz42_0
         try clear hfz42_1
         try clear hfz42_2
         try clear hfz42_3
         try clear hfz49_0
         try clear hfz49_1
         try clear hfz49_2
         try clear hfz49_3
         try clear hfz49_4
         try clear hfz49_5
         try clear hfz49_6
         try clear hfz49_7
         try clear hfz49_8
         try clear hfz50_0
         try clear hfz50_1
         try clear hfz50_2
         try clear hfz50_3
         try clear hfz50_4
         try clear hfz50_5
         try clear hfz50_6
         try clear hfz50_7
         try clear hfz50_8
         try clear p2
         obtain ⟨kq, HA, HJ22, HO_9, BK763, BK782, BK799, HB⟩ := hcut
         cases kq with
         | zero => exact absurd HA.out (by simp [laws_FnExactFetchSite.j3])
         | succ kj22 =>
          have H := HA.out
          clear HA
          simp only [laws_FnExactFetchSite.j3] at H
          replace H := Option.bind_eq_some_iff.mp H
          obtain ⟨t801, A530, H⟩ := H
          replace H : ((laws_eqGlobalS.f kj22 t783 t801).bind fun t804 => (if t804 = true then (some true) else (some false))) = some r := H
          have A53 := ak A530
          clear A530
          replace H := Option.bind_eq_some_iff.mp H
          obtain ⟨t804, A540, H⟩ := H
          replace H : (if t804 = true then (some true) else (some false)) = some r := H
          have A54 := ak A540
          clear A540
          by_cases c55 : t804 = true
          ·subst c55
           have H1 : (some true) = some r := by rw [if_pos rfl] at H; exact H
           clear H
           have H := H1
           clear H1
           obtain rfl := Option.some.inj H
           go_wp2_with (first | ((with_reducible refine gate_callee (f := 12) rfl ?_); refine goesL_ (some 43) rfl rfl Tryd.func12 (by kernel_rfl) rfl #[.slice A0 l0.length c0] rfl d31_4 ?_; (with_reducible refine (laws_toGlobalS.calls kj22 _ _ l0 t801 _ ?side1 ?side2 A53.out).mono ?_); (case side1 => repeat (first | exact (Kd.C_below HR0.out HB.out) | (with_reducible refine Kd.C_alloc ?_ _) | (with_reducible refine Kd.C_drewN ?_ _) | (with_reducible refine Kd.C_drew ?_))); (case side2 => exact HC0.out); rintro e w56 ⟨v802, rfl, ho0, hb⟩; refine ⟨_, rfl, ?_⟩; have n0_ := ak (Kd.R_elder' d31_8 (Kd.R_base ho0) hb); have n1_ := ak (Kd.R_lower (Kd.R_new' ho0 (Kd.R_lt d31_8)) (below_size d31_7)); have n2_ := ak (blk_below (g := gb763) (o := .cells #[.int .i64 a2_0, .int .i64 a2_1, .int .i64 a2_2, .string a2_3] 26 (0, 0)) d31_1 hb); have n3_ := ak (blk_below (g := gb782) (o := .cells #[.int .i64 t773, .bool t774, .int .i64 t775, .int .i64 t776, .string t777, .int .i64 t778, .int .i64 t779, .int .i64 t780, .string t781] 78 (0, 0)) d31_5 hb); have n4_ := ak (blk_below (g := gb799) (o := .cells #[.int .i64 t790, .bool t791, .int .i64 t792, .int .i64 t793, .string t794, .int .i64 t795, .int .i64 t796, .int .i64 t797, .string t798] 78 (0, 0)) d31_9 hb); have n5_ := ak (below_step d31_7 hb); clear HO_9 BK763 BK782 BK799 HB; have HO_9 := n0_; have HO803 := n1_; have BK763 := n2_; have BK782 := n3_; have BK799 := n4_; have HB := n5_; clear n0_ n1_ n2_ n3_ n4_ n5_; (try clear hb); (try clear ho0); obtain ⟨Ao57, co57, eo57⟩ := Kd.R_slice HO803.out; subst eo57) | ((with_reducible refine gate_callee (f := 15) rfl ?_); refine goesL_ (some 44) rfl rfl Tryd.func15 (by kernel_rfl) rfl #[.slice Ao44 t783.length co44, .slice Ao57 t801.length co57] rfl d31_4 ?_; (with_reducible refine (laws_eqGlobalS.calls kj22 _ _ t783 _ _ t801 true _ ?side1 ?side2 ?side3 ?side4 A54.out).mono ?_); (case side1 => repeat (first | exact (Kd.R_reads' HO_9.out).2.2 | (with_reducible refine Kd.C_alloc ?_ _) | (with_reducible refine Kd.C_drewN ?_ _) | (with_reducible refine Kd.C_drew ?_))); (case side2 => exact (Kd.R_reads' HO_9.out).2.1); (case side3 => repeat (first | exact (Kd.R_reads' HO803.out).2.2 | (with_reducible refine Kd.C_alloc ?_ _) | (with_reducible refine Kd.C_drewN ?_ _) | (with_reducible refine Kd.C_drew ?_))); (case side4 => exact (Kd.R_reads' HO803.out).2.1); rintro e w58 ⟨rfl, hb⟩; refine ⟨_, rfl, ?_⟩; have n0_ := ak (Kd.R_below d31_8 hb); have n1_ := ak (Kd.R_below (by (with_reducible repeat (first | apply Kd.R_alloc | apply Kd.R_drewN | apply Kd.R_drew)); exact HO803.out) hb); have n2_ := ak (blk_below (g := gb763) (o := .cells #[.int .i64 a2_0, .int .i64 a2_1, .int .i64 a2_2, .string a2_3] 26 (0, 0)) d31_1 hb); have n3_ := ak (blk_below (g := gb782) (o := .cells #[.int .i64 t773, .bool t774, .int .i64 t775, .int .i64 t776, .string t777, .int .i64 t778, .int .i64 t779, .int .i64 t780, .string t781] 78 (0, 0)) d31_5 hb); have n4_ := ak (blk_below (g := gb799) (o := .cells #[.int .i64 t790, .bool t791, .int .i64 t792, .int .i64 t793, .string t794, .int .i64 t795, .int .i64 t796, .int .i64 t797, .string t798] 78 (0, 0)) d31_9 hb); have n5_ := ak (below_step d31_7 hb); clear HO_9 HO803 BK763 BK782 BK799 HB; have HO_9 := n0_; have HO803 := n1_; have BK763 := n2_; have BK782 := n3_; have BK799 := n4_; have HB := n5_; clear n0_ n1_ n2_ n3_ n4_ n5_; (try clear hb)))
           go_ret
           exact ⟨by first | rfl | (simp [errW_none, errW_some] <;> rfl) | (simp [*, errW_none, errW_some] <;> rfl), by repeat (first | (with_reducible first | exact HB.out | apply below_alloc | apply pw_below_drewN | apply below_drew1 | refine below_set ?_ GE763.out | refine below_set ?_ GE782.out | refine below_set ?_ GE799.out) | exact HB.out)⟩
          ·replace c55 := Bool.eq_false_iff.mpr c55
           subst c55
           have H1 : (some false) = some r := by rw [if_neg (show ¬ (false = true) by decide)] at H; exact H
           clear H
           have H := H1
           clear H1
           obtain rfl := Option.some.inj H
           go_wp2_with (first | ((with_reducible refine gate_callee (f := 12) rfl ?_); refine goesL_ (some 43) rfl rfl Tryd.func12 (by kernel_rfl) rfl #[.slice A0 l0.length c0] rfl d31_4 ?_; (with_reducible refine (laws_toGlobalS.calls kj22 _ _ l0 t801 _ ?side1 ?side2 A53.out).mono ?_); (case side1 => repeat (first | exact (Kd.C_below HR0.out HB.out) | (with_reducible refine Kd.C_alloc ?_ _) | (with_reducible refine Kd.C_drewN ?_ _) | (with_reducible refine Kd.C_drew ?_))); (case side2 => exact HC0.out); rintro e w59 ⟨v802, rfl, ho0, hb⟩; refine ⟨_, rfl, ?_⟩; have n0_ := ak (Kd.R_elder' d31_8 (Kd.R_base ho0) hb); have n1_ := ak (Kd.R_lower (Kd.R_new' ho0 (Kd.R_lt d31_8)) (below_size d31_7)); have n2_ := ak (blk_below (g := gb763) (o := .cells #[.int .i64 a2_0, .int .i64 a2_1, .int .i64 a2_2, .string a2_3] 26 (0, 0)) d31_1 hb); have n3_ := ak (blk_below (g := gb782) (o := .cells #[.int .i64 t773, .bool t774, .int .i64 t775, .int .i64 t776, .string t777, .int .i64 t778, .int .i64 t779, .int .i64 t780, .string t781] 78 (0, 0)) d31_5 hb); have n4_ := ak (blk_below (g := gb799) (o := .cells #[.int .i64 t790, .bool t791, .int .i64 t792, .int .i64 t793, .string t794, .int .i64 t795, .int .i64 t796, .int .i64 t797, .string t798] 78 (0, 0)) d31_9 hb); have n5_ := ak (below_step d31_7 hb); clear HO_9 BK763 BK782 BK799 HB; have HO_9 := n0_; have HO803 := n1_; have BK763 := n2_; have BK782 := n3_; have BK799 := n4_; have HB := n5_; clear n0_ n1_ n2_ n3_ n4_ n5_; (try clear hb); (try clear ho0); obtain ⟨Ao60, co60, eo60⟩ := Kd.R_slice HO803.out; subst eo60) | ((with_reducible refine gate_callee (f := 15) rfl ?_); refine goesL_ (some 44) rfl rfl Tryd.func15 (by kernel_rfl) rfl #[.slice Ao44 t783.length co44, .slice Ao60 t801.length co60] rfl d31_4 ?_; (with_reducible refine (laws_eqGlobalS.calls kj22 _ _ t783 _ _ t801 false _ ?side1 ?side2 ?side3 ?side4 A54.out).mono ?_); (case side1 => repeat (first | exact (Kd.R_reads' HO_9.out).2.2 | (with_reducible refine Kd.C_alloc ?_ _) | (with_reducible refine Kd.C_drewN ?_ _) | (with_reducible refine Kd.C_drew ?_))); (case side2 => exact (Kd.R_reads' HO_9.out).2.1); (case side3 => repeat (first | exact (Kd.R_reads' HO803.out).2.2 | (with_reducible refine Kd.C_alloc ?_ _) | (with_reducible refine Kd.C_drewN ?_ _) | (with_reducible refine Kd.C_drew ?_))); (case side4 => exact (Kd.R_reads' HO803.out).2.1); rintro e w61 ⟨rfl, hb⟩; refine ⟨_, rfl, ?_⟩; have n0_ := ak (Kd.R_below d31_8 hb); have n1_ := ak (Kd.R_below (by (with_reducible repeat (first | apply Kd.R_alloc | apply Kd.R_drewN | apply Kd.R_drew)); exact HO803.out) hb); have n2_ := ak (blk_below (g := gb763) (o := .cells #[.int .i64 a2_0, .int .i64 a2_1, .int .i64 a2_2, .string a2_3] 26 (0, 0)) d31_1 hb); have n3_ := ak (blk_below (g := gb782) (o := .cells #[.int .i64 t773, .bool t774, .int .i64 t775, .int .i64 t776, .string t777, .int .i64 t778, .int .i64 t779, .int .i64 t780, .string t781] 78 (0, 0)) d31_5 hb); have n4_ := ak (blk_below (g := gb799) (o := .cells #[.int .i64 t790, .bool t791, .int .i64 t792, .int .i64 t793, .string t794, .int .i64 t795, .int .i64 t796, .int .i64 t797, .string t798] 78 (0, 0)) d31_9 hb); have n5_ := ak (below_step d31_7 hb); clear HO_9 HO803 BK763 BK782 BK799 HB; have HO_9 := n0_; have HO803 := n1_; have BK763 := n2_; have BK782 := n3_; have BK799 := n4_; have HB := n5_; clear n0_ n1_ n2_ n3_ n4_ n5_; (try clear hb)))
           go_ret
           exact ⟨by first | rfl | (simp [errW_none, errW_some] <;> rfl) | (simp [*, errW_none, errW_some] <;> rfl), by repeat (first | (with_reducible first | exact HB.out | apply below_alloc | apply pw_below_drewN | apply below_drew1 | refine below_set ?_ GE763.out | refine below_set ?_ GE782.out | refine below_set ?_ GE799.out) | exact HB.out)⟩

end Go.Proofs.YtaeeoljihmndfaaDoor.A
