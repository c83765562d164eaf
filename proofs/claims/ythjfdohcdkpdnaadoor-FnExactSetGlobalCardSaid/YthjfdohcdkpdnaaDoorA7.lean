/- Walks of the program's functions: each Go function's answer as a plain Lean function, and that the call comes to it. Written by a program. Conditions: those in each theorem's own head. -/
import Derived.Test.YthjfdohcdkpdnaaDoorA0
import Derived.Test.YthjfdohcdkpdnaaDoorA5
import Derived.Test.YthjfdohcdkpdnaaDoorA6
namespace Go.Proofs.YthjfdohcdkpdnaaDoor.A
open Go.RowKit Go.Proofs.YthjfdohcdkpdnaaDoorW.PrintWords Go.Proofs.YthjfdohcdkpdnaaDoorW.PrintLast Go.Proofs.YthjfdohcdkpdnaaDoorW.PrintMore
attribute [local go_sem] max2_int min2_int max_two min_two max_three min_three max_four min_four   -- for this text's walks alone
set_option linter.unusedVariables false
set_option linter.unusedSimpArgs false

theorem d7_1 {p : Prop} (h : p := by repeat (first | (with_reducible first | exact HB.out | apply below_alloc | apply pw_below_drewN | apply below_drew1) | exact HB.out)) : p := h
theorem d7_2 {p : Prop} (h : p := by repeat (first | (with_reducible first | exact HB.out | apply below_alloc | apply pw_below_drewN | apply below_drew1 | refine below_set ?_ GE396.out) | exact HB.out)) : p := h
theorem d7_3 {p : Prop} (h : p := by repeat (first | (with_reducible first | exact HB.out | apply below_alloc | apply pw_below_drewN | apply below_drew1 | refine below_set ?_ GE398.out) | exact HB.out)) : p := h
theorem d7_4 {p : Prop} (h : p := by (with_reducible repeat (first | refine blk_drewN ?_ _ | refine blk_drew ?_ | refine blk_alloc ?_ _)); exact BK382.out) : p := h
theorem d7_5 {p : Prop} (h : p := by (with_reducible repeat (first | refine blk_drewN ?_ _ | refine blk_drew ?_ | refine blk_alloc ?_ _)); exact BK398.out) : p := h
theorem d7_6 {p : Prop} (h : p := by (try simp only [List.map_toArray, List.map_cons, List.map_nil]); first | done | rfl | (simp only [List.length_drop, List.length_take]; rfl)) : p := h
theorem d7_7 {p : Prop} (h : p := by repeat (first | (with_reducible first | exact HB.out | apply below_alloc | apply pw_below_drewN | apply below_drew1 | refine below_set ?_ GE382.out) | exact HB.out)) : p := h
theorem d7_8 {p : Prop} (h : p := by (with_reducible repeat (first | refine blk_drewN ?_ _ | refine blk_drew ?_ | refine blk_alloc ?_ _)); exact BK396.out) : p := h
theorem d7_9 {p : Prop} (h : p := by repeat (first | (with_reducible first | exact HB.out | apply below_alloc | apply pw_below_drewN | apply below_drew1 | refine below_set ?_ GE382.out | refine below_set ?_ GE383.out) | exact HB.out)) : p := h
theorem d7_10 {p : Prop} (h : p := by first | (with_reducible assumption) | assumption) : p := h
theorem d7_11 {p : Prop} (h : p := by repeat (first | (with_reducible first | exact HB.out | apply below_alloc | apply pw_below_drewN | apply below_drew1 | refine below_set ?_ GE370.out) | exact HB.out)) : p := h
theorem d7_12 {p : Prop} (h : p := by (with_reducible repeat (first | refine blk_drewN ?_ _ | refine blk_drew ?_ | refine blk_alloc ?_ _)); exact BK383.out) : p := h
theorem d7_13 {p : Prop} (h : p := by repeat (first | (with_reducible first | exact HB.out | apply below_alloc | apply pw_below_drewN | apply below_drew1 | refine below_set ?_ GE398.out | refine below_set ?_ GE399.out) | exact HB.out)) : p := h
theorem d7_14 {p : Prop} (h : p := by rw [hg]; exact (below_size d7_1)) : p := h

/-! ### impl_defined: function 92 -/
mutual
def impl_defined.j0 : Nat → List (S98) → ByteArray → Int → List (S98) → Bool → Int → Int → ByteArray → Option ((List (S98)) × Int)
  | 0, _, _, _, _, _, _, _, _ => none
  | k + 1, x0, x1, x10, x11, x17, x371000, x371001, x371002 => if x17 = true then (some (([] : List (S98)), 4)) else (if x10 < 0 then (impl_defined.j1 k x0 x1 x10 x11 ((x0.length : Int) == 60) x371000 x371001 x371002) else (impl_defined.j1 k x0 x1 x10 x11 false x371000 x371001 x371002))
def impl_defined.j1 : Nat → List (S98) → ByteArray → Int → List (S98) → Bool → Int → Int → ByteArray → Option ((List (S98)) × Int)
  | 0, _, _, _, _, _, _, _, _ => none
  | k + 1, x0, x1, x10, x11, x23, x371000, x371001, x371002 => if x23 = true then (some (([] : List (S98)), 2)) else (if x10 < 0 then (if x11.length < 2513169434916 then (some ((x11 ++ [(⟨x1, (⟨x371000, x371001, x371002⟩ : S55), 1⟩ : S98)]), 0)) else (none)) else (if 0 ≤ x10 then (if x10 < (x0.length : Int) then (if ((rd_T98 x0 x10).f2) = 99999 then (some (([] : List (S98)), 3)) else (if x10 < (x11.length : Int) then ((some (x11.set (x10 : Int).toNat (⟨(rd_T98 x11 x10).f0, (⟨x371000, x371001, x371002⟩ : S55), (rd_T98 x11 x10).f2⟩ : S98) : List (S98))).bind fun y380 => (some ((y380.set (x10 : Int).toNat (⟨(rd_T98 y380 x10).f0, (⟨(rd_T98 y380 x10).f1.f0, (rd_T98 y380 x10).f1.f1, (rd_T98 y380 x10).f1.f2⟩ : S55), wrap64 (((rd_T98 x0 x10).f2) + 1)⟩ : S98)), 0))) else (none))) else (none)) else (none)))
end
def impl_defined.f (k : Nat) (l0 : List (S98)) (a1 : ByteArray) (a2_0 : Int) (a2_1 : Int) (a2_2 : ByteArray) (a3 : Bool) : Option ((List (S98)) × Int) := (impl_globalAt.f k l0 a1).bind fun t371 => ((impl_Global_118.f l0).bind fun t372 => (if t371 < 0 then (impl_defined.j0 k l0 a1 t371 t372 a3 a2_0 a2_1 a2_2) else (impl_defined.j0 k l0 a1 t371 t372 false a2_0 a2_1 a2_2)))
theorem impl_defined.mono_l : ∀ k, (∀ y0 y1 y2 y3 y4 y5 y6 y7, LeO (impl_defined.j0 k y0 y1 y2 y3 y4 y5 y6 y7) (impl_defined.j0 (k + 1) y0 y1 y2 y3 y4 y5 y6 y7)) ∧ (∀ y0 y1 y2 y3 y4 y5 y6 y7, LeO (impl_defined.j1 k y0 y1 y2 y3 y4 y5 y6 y7) (impl_defined.j1 (k + 1) y0 y1 y2 y3 y4 y5 y6 y7))
  | 0 => ⟨fun _ _ _ _ _ _ _ _ r h => by simp [impl_defined.j0] at h, fun _ _ _ _ _ _ _ _ r h => by simp [impl_defined.j1] at h⟩
  | k + 1 => by
    obtain ⟨ih0, ih1⟩ := impl_defined.mono_l k
    refine ⟨?_, ?_⟩
    · intro y0 y1 y2 y3 y4 y5 y6 y7
      unfold impl_defined.j0
      repeat' first
      | (with_reducible exact ih0 _ _ _ _ _ _ _ _)
      | (with_reducible exact ih1 _ _ _ _ _ _ _ _)
      | (with_reducible exact impl_globalAt.mono _ _ _)
      | (with_reducible exact LeO.refl _)
      | (with_reducible exact LeO.none _)
      | (with_reducible refine LeO.ite ?_ ?_)
      | (with_reducible refine LeO.bind ?_ (fun _ => ?_))
      | exact ih0 _ _ _ _ _ _ _ _
      | exact ih1 _ _ _ _ _ _ _ _
      | exact impl_globalAt.mono _ _ _
      | exact LeO.none _
      | refine LeO.ite ?_ ?_
      | refine LeO.bind ?_ (fun _ => ?_)
    · intro y0 y1 y2 y3 y4 y5 y6 y7
      unfold impl_defined.j1
      repeat' first
      | (with_reducible exact ih0 _ _ _ _ _ _ _ _)
      | (with_reducible exact ih1 _ _ _ _ _ _ _ _)
      | (with_reducible exact impl_globalAt.mono _ _ _)
      | (with_reducible exact LeO.refl _)
      | (with_reducible exact LeO.none _)
      | (with_reducible refine LeO.ite ?_ ?_)
      | (with_reducible refine LeO.bind ?_ (fun _ => ?_))
      | exact ih0 _ _ _ _ _ _ _ _
      | exact ih1 _ _ _ _ _ _ _ _
      | exact impl_globalAt.mono _ _ _
      | exact LeO.none _
      | refine LeO.ite ?_ ?_
      | refine LeO.bind ?_ (fun _ => ?_)
theorem impl_defined.mono : ∀ a0 a1 a2 a3 a4 a5 k, LeO (impl_defined.f k a0 a1 a2 a3 a4 a5) (impl_defined.f (k + 1) a0 a1 a2 a3 a4 a5) := by
  intro a0 a1 a2 a3 a4 a5 k
  obtain ⟨ih0, ih1⟩ := impl_defined.mono_l k
  unfold impl_defined.f
  repeat' first
      | (with_reducible exact ih0 _ _ _ _ _ _ _ _)
      | (with_reducible exact ih1 _ _ _ _ _ _ _ _)
      | (with_reducible exact impl_globalAt.mono _ _ _)
      | (with_reducible exact LeO.refl _)
      | (with_reducible exact LeO.none _)
      | (with_reducible refine LeO.ite ?_ ?_)
      | (with_reducible refine LeO.bind ?_ (fun _ => ?_))
      | exact ih0 _ _ _ _ _ _ _ _
      | exact ih1 _ _ _ _ _ _ _ _
      | exact impl_globalAt.mono _ _ _
      | exact LeO.none _
      | refine LeO.ite ?_ ?_
      | refine LeO.bind ?_ (fun _ => ?_)
def impl_defined.T10 : Bool × List (List Nat × List Nat) := (true, [([], []), ([], []), ([], []), ([], []), ([], []), ([], []), ([], []), ([5, 6], [5, 6]), ([7], [7]), ([8], [8]), ([9], [9]), ([0, 1, 0, 1, 4, 9], [0, 1]), ([11, 0, 1, 4, 9], [11]), ([12, 4, 0, 1, 4, 9], [4, 12]), ([2, 3, 0, 1, 2, 3, 4, 5, 6, 7, 8, 9, 10, 11, 12, 13], [2, 3]), ([14, 0, 1, 2, 3, 4, 5, 6, 7, 8, 9, 10, 11, 12, 13], [14]), ([15, 10, 13, 0, 1, 2, 3, 4, 5, 6, 7, 8, 9, 10, 11, 12, 13], [10, 15])])
def impl_defined.B10 : List Nat := [0, 0, 0, 0, 0, 0, 0, 96, 224, 480, 992, 1011, 3059, 7155, 16383, 32767, 65535]
theorem impl_defined.tab10 : rtab .any (opsOf Tryd.f92 10) = impl_defined.T10 := by kernel_rfl
theorem impl_defined.bits10 : waitsOk impl_defined.T10.2 impl_defined.B10 = true := by kernel_rfl
set_option maxHeartbeats 8000000 in
set_option maxRecDepth 100000 in
theorem impl_defined.calls (k : Nat) (A0 : Option Addr) (c0 : Nat) (l0 : List (S98)) (a1 : ByteArray) (a2_0 : Int) (a2_1 : Int) (a2_2 : ByteArray) (a3 : Bool) (r1 : List (S98)) (r2 : Int) (w : World) (hr0 : Kd.C k98 w A0 l0.length l0) (hc0 : l0.length ≤ c0) (h : impl_defined.f k l0 a1 a2_0 a2_1 a2_2 a3 = some (r1, r2)) :
    Calls Tryd.prog 92 #[.slice A0 l0.length c0, .string a1, .agg #[.int .i64 a2_0, .int .i64 a2_1, .string a2_2], .bool a3] w fun e w' => ∃ v0_ : Value, e = .returned (.tuple #[v0_, .int .i64 r2]) ∧ Kd.R k98 98 w' w.heap.size (fun _ => True) v0_ r1 ∧ Below w.heap.size w w' := by
  have hu55 := Tryd.underlying55
  have hu98 := Tryd.underlying98
  have HR0 := ak hr0
  have HC0 := ak hc0
  clear hr0 hc0
  have HB := ak (Below.refl w.heap.size w)
  have H : ((impl_globalAt.f k l0 a1).bind fun t371 => ((impl_Global_118.f l0).bind fun t372 => (if t371 < 0 then (impl_defined.j0 k l0 a1 t371 t372 a3 a2_0 a2_1 a2_2) else (impl_defined.j0 k l0 a1 t371 t372 false a2_0 a2_1 a2_2)))) = some (r1, r2) := h
  clear h
  replace H := Option.bind_eq_some_iff.mp H
  obtain ⟨t371, A50, H⟩ := H
  replace H : ((impl_Global_118.f l0).bind fun t372 => (if t371 < 0 then (impl_defined.j0 k l0 a1 t371 t372 a3 a2_0 a2_1 a2_2) else (impl_defined.j0 k l0 a1 t371 t372 false a2_0 a2_1 a2_2))) = some (r1, r2) := H
  have A5 := ak A50
  clear A50
  replace H := Option.bind_eq_some_iff.mp H
  obtain ⟨t372, A60, H⟩ := H
  replace H : (if t371 < 0 then (impl_defined.j0 k l0 a1 t371 t372 a3 a2_0 a2_1 a2_2) else (impl_defined.j0 k l0 a1 t371 t372 false a2_0 a2_1 a2_2)) = some (r1, r2) := H
  have A6 := ak A60
  clear A60
  have HC7 := ak H
  clear H
  go_enter Tryd.func92, Tryd.ntmps92
  go_upto_region 2 with (first | ((with_reducible refine gate_dst (N := 6) rfl ?_); refine box_event ?hg (N := 6) ?hd (cs := #[.int .i64 a2_0, .int .i64 a2_1, .string a2_2]) (t := 55) ?hr ?_; (case hd => rfl); (case hg => rfl); (case hr => first | (go_simp; done) | (go_simp; rfl)); intro gb370 hg w8 hbox hb; have n0_ := ak (below_step d7_1 hb); have n1_ := ak (hbox); have n2_ := ak ((d7_14 : w.heap.size ≤ gb370)); have n3_ := ak ((d7_14 : w.heap.size ≤ gb370)); clear HB; have HB := n0_; have BK370 := n1_; have GW370 := n2_; have GE370 := n3_; clear n0_ n1_ n2_ n3_ hb hbox hg) | ((with_reducible refine gate_callee (f := 117) rfl ?_); refine goesL_ (some 14) rfl rfl Tryd.func117 (by kernel_rfl) rfl #[.slice A0 l0.length c0, .string a1] rfl d7_6 ?_; (with_reducible refine (impl_globalAt.calls k _ _ l0 a1 t371 _ ?side1 ?side2 A5.out).mono ?_); (case side1 => repeat (first | exact (Kd.C_below HR0.out HB.out) | (with_reducible refine Kd.C_alloc ?_ _) | (with_reducible refine Kd.C_drewN ?_ _) | (with_reducible refine Kd.C_drew ?_))); (case side2 => exact HC0.out); rintro e w9 ⟨rfl, hb⟩; refine ⟨_, rfl, ?_⟩; have n0_ := ak (blk_below (g := gb370) (o := .cells #[.int .i64 a2_0, .int .i64 a2_1, .string a2_2] 55 (0, 0)) (by (with_reducible repeat (first | refine blk_drewN ?_ _ | refine blk_drew ?_ | refine blk_alloc ?_ _)); exact BK370.out) hb); have n1_ := ak (below_step d7_11 hb); clear BK370 HB; have BK370 := n0_; have HB := n1_; clear n0_ n1_; (try clear hb)) | ((with_reducible refine gate_callee (f := 118) rfl ?_); refine goesL_ (some 16) rfl rfl Tryd.func118 (by kernel_rfl) rfl #[.slice A0 l0.length c0] rfl d7_6 ?_; (with_reducible refine (impl_Global_118.calls _ _ l0 t372 _ ?side1 ?side2 A6.out).mono ?_); (case side1 => repeat (first | exact (Kd.C_below HR0.out HB.out) | (with_reducible refine Kd.C_alloc ?_ _) | (with_reducible refine Kd.C_drewN ?_ _) | (with_reducible refine Kd.C_drew ?_))); (case side2 => exact HC0.out); rintro e w10 ⟨v373, rfl, ho0, hb⟩; refine ⟨_, rfl, ?_⟩; have n0_ := ak (Kd.R_lower ho0 (below_size d7_11)); have n1_ := ak (blk_below (g := gb370) (o := .cells #[.int .i64 a2_0, .int .i64 a2_1, .string a2_2] 55 (0, 0)) (by (with_reducible repeat (first | refine blk_drewN ?_ _ | refine blk_drew ?_ | refine blk_alloc ?_ _)); exact BK370.out) hb); have n2_ := ak (below_step d7_11 hb); clear BK370 HB; have HO374 := n0_; have BK370 := n1_; have HB := n2_; clear n0_ n1_ n2_; (try clear hb); (try clear ho0)))
  (try simp only [Act.put, List.setIfInBounds_toArray, List.set_cons_zero, List.set_cons_succ])
  go_cut [17] (fun v17 wc => ∃ (kq : Nat) (x17_6 : Bool), v17 = .bool x17_6 ∧ Aside0 (impl_defined.j0 kq l0 a1 t371 t372 x17_6 a2_0 a2_1 a2_2 = some (r1, r2)) ∧ Aside0 (kq ≤ k) ∧ Aside0 (Kd.R k98 98 wc w.heap.size (fun _ => True) v373 t372) ∧ Aside0 (wc.heap[gb370]? = some (.cells #[.int .i64 a2_0, .int .i64 a2_1, .string a2_2] 55 (0, 0))) ∧ Aside0 (Below w.heap.size w wc))
  case first =>
   have H := HC7.out
   clear HC7
   by_cases c11 : t371 < 0
   ·rw [if_pos c11] at H
    have c11b0 : decide (t371 < 0) = true := decide_eq_true c11
    clear c11
    (first | rw [c11b0] | (simp only [i64_w, i32_w]; rw [c11b0]) | skip)
    have H' := ak H
    clear H
    go_wp2
    go_meet
    case rel => exact ⟨_, (a3), (by first | rfl | (simp; done) | (simp [*]; done) | (simp [ne_nil_b, eq_nil_b]; done)), H', ⟨by first | omega | exact Nat.le_refl _⟩, ⟨by (with_reducible repeat (first | apply Kd.R_alloc | apply Kd.R_drewN | apply Kd.R_drew)); exact HO374.out⟩, ⟨by (with_reducible repeat (first | refine blk_drewN ?_ _ | refine blk_drew ?_ | refine blk_alloc ?_ _)); exact BK370.out⟩, ⟨by repeat (first | (with_reducible first | exact HB.out | apply below_alloc | apply pw_below_drewN | apply below_drew1 | refine below_set ?_ GE370.out) | exact HB.out)⟩⟩
   ·rw [if_neg c11] at H
    have c11b0 : decide (t371 < 0) = false := decide_eq_false c11
    clear c11
    (first | rw [c11b0] | (simp only [i64_w, i32_w]; rw [c11b0]) | skip)
    have H' := ak H
    clear H
    go_wp2
    go_meet
    case rel => exact ⟨_, (false), (by first | rfl | (simp; done) | (simp [*]; done) | (simp [ne_nil_b, eq_nil_b]; done)), H', ⟨by first | omega | exact Nat.le_refl _⟩, ⟨by (with_reducible repeat (first | apply Kd.R_alloc | apply Kd.R_drewN | apply Kd.R_drew)); exact HO374.out⟩, ⟨by (with_reducible repeat (first | refine blk_drewN ?_ _ | refine blk_drew ?_ | refine blk_alloc ?_ _)); exact BK370.out⟩, ⟨by repeat (first | (with_reducible first | exact HB.out | apply below_alloc | apply pw_below_drewN | apply below_drew1 | refine below_set ?_ GE370.out) | exact HB.out)⟩⟩
  case rest =>
   clear HC7
   try clear c1
   try clear c9
   try clear c11
   obtain ⟨kq, x17_6, rfl, HA, HJ6, HO_11, BK370, HB⟩ := hcut
   cases kq with
   | zero => exact absurd HA.out (by simp [impl_defined.j0])
   | succ kj6 =>
    have H := HA.out
    clear HA
    simp only [impl_defined.j0] at H
    by_cases c12 : x17_6 = true
    ·subst c12
     have H1 : (some (([] : List (S98)), 4)) = some (r1, r2) := by rw [if_pos rfl] at H; exact H
     clear H
     have H := H1
     clear H1
     simp only [Option.some.injEq, Prod.mk.injEq] at H
     obtain ⟨rfl, rfl⟩ := H
     go_wp2
     go_ret2
     exact ⟨_, by first | rfl | (simp [errW_none, errW_some] <;> rfl) | (simp [*, errW_none, errW_some] <;> rfl), by first | exact Kd.R_nil _ _ _ _ _ | exact Kd.N_nil _ _ _ _ _ | exact Kd.V_nil _ _ _ _ _ | exact Kd.Q_nil _ _ _ _ _ | exact Kd.S_nil _ _ _ _ _, by repeat (first | (with_reducible first | exact HB.out | apply below_alloc | apply pw_below_drewN | apply below_drew1 | refine below_set ?_ GE370.out) | exact HB.out)⟩
    ·replace c12 := Bool.eq_false_iff.mpr c12
     subst c12
     have H1 : (if t371 < 0 then (impl_defined.j1 kj6 l0 a1 t371 t372 ((l0.length : Int) == 60) a2_0 a2_1 a2_2) else (impl_defined.j1 kj6 l0 a1 t371 t372 false a2_0 a2_1 a2_2)) = some (r1, r2) := by rw [if_neg (show ¬ (false = true) by decide)] at H; exact H
     clear H
     have H := H1
     clear H1
     have HC13 := ak H
     clear H
     go_upto_region 4 with (fail)
     go_cut [23] (fun v23 wc => ∃ (kq : Nat) (x23_12 : Bool), v23 = .bool x23_12 ∧ Aside0 (impl_defined.j1 kq l0 a1 t371 t372 x23_12 a2_0 a2_1 a2_2 = some (r1, r2)) ∧ Aside0 (kq ≤ kj6) ∧ Aside0 (Kd.R k98 98 wc w.heap.size (fun _ => True) v373 t372) ∧ Aside0 (wc.heap[gb370]? = some (.cells #[.int .i64 a2_0, .int .i64 a2_1, .string a2_2] 55 (0, 0))) ∧ Aside0 (Below w.heap.size w wc))
     case first =>
      have H := HC13.out
      clear HC13
      by_cases c14 : t371 < 0
      ·rw [if_pos c14] at H
       have c14b0 : decide (t371 < 0) = true := decide_eq_true c14
       clear c14
       (first | rw [c14b0] | (simp only [i64_w, i32_w]; rw [c14b0]) | skip)
       have H' := ak H
       clear H
       go_wp2
       go_meet
       case rel => exact ⟨_, (((l0.length : Int) == 60)), (by first | rfl | (simp; done) | (simp [*]; done) | (simp [ne_nil_b, eq_nil_b]; done)), H', ⟨by have := HJ6.out; first | omega | exact Nat.le_refl _⟩, ⟨by (with_reducible repeat (first | apply Kd.R_alloc | apply Kd.R_drewN | apply Kd.R_drew)); exact HO_11.out⟩, ⟨by (with_reducible repeat (first | refine blk_drewN ?_ _ | refine blk_drew ?_ | refine blk_alloc ?_ _)); exact BK370.out⟩, ⟨by repeat (first | (with_reducible first | exact HB.out | apply below_alloc | apply pw_below_drewN | apply below_drew1 | refine below_set ?_ GE370.out) | exact HB.out)⟩⟩
      ·rw [if_neg c14] at H
       have c14b0 : decide (t371 < 0) = false := decide_eq_false c14
       clear c14
       (first | rw [c14b0] | (simp only [i64_w, i32_w]; rw [c14b0]) | skip)
       have H' := ak H
       clear H
       go_wp2
       go_meet
       case rel => exact ⟨_, (false), (by first | rfl | (simp; done) | (simp [*]; done) | (simp [ne_nil_b, eq_nil_b]; done)), H', ⟨by have := HJ6.out; first | omega | exact Nat.le_refl _⟩, ⟨by (with_reducible repeat (first | apply Kd.R_alloc | apply Kd.R_drewN | apply Kd.R_drew)); exact HO_11.out⟩, ⟨by (with_reducible repeat (first | refine blk_drewN ?_ _ | refine blk_drew ?_ | refine blk_alloc ?_ _)); exact BK370.out⟩, ⟨by repeat (first | (with_reducible first | exact HB.out | apply below_alloc | apply pw_below_drewN | apply below_drew1 | refine below_set ?_ GE370.out) | exact HB.out)⟩⟩
     case rest =>
      clear HC13
      try clear c1
      try clear p2
      try clear c9
      try clear c11
      try clear c11b0
      try clear c12
      obtain ⟨kq, x23_12, rfl, HA, HJ12, HO_11, BK370, HB⟩ := hcut
      cases kq with
      | zero => exact absurd HA.out (by simp [impl_defined.j1])
      | succ kj12 =>
       have H := HA.out
       clear HA
       simp only [impl_defined.j1] at H
       by_cases c15 : x23_12 = true
       ·subst c15
        have H1 : (some (([] : List (S98)), 2)) = some (r1, r2) := by rw [if_pos rfl] at H; exact H
        clear H
        have H := H1
        clear H1
        simp only [Option.some.injEq, Prod.mk.injEq] at H
        obtain ⟨rfl, rfl⟩ := H
        go_wp2
        go_ret2
        exact ⟨_, by first | rfl | (simp [errW_none, errW_some] <;> rfl) | (simp [*, errW_none, errW_some] <;> rfl), by first | exact Kd.R_nil _ _ _ _ _ | exact Kd.N_nil _ _ _ _ _ | exact Kd.V_nil _ _ _ _ _ | exact Kd.Q_nil _ _ _ _ _ | exact Kd.S_nil _ _ _ _ _, by repeat (first | (with_reducible first | exact HB.out | apply below_alloc | apply pw_below_drewN | apply below_drew1 | refine below_set ?_ GE370.out) | exact HB.out)⟩
       ·replace c15 := Bool.eq_false_iff.mpr c15
        subst c15
        have H1 : (if t371 < 0 then (if t372.length < 2513169434916 then (some ((t372 ++ [(⟨a1, (⟨a2_0, a2_1, a2_2⟩ : S55), 1⟩ : S98)]), 0)) else (none)) else (if 0 ≤ t371 then (if t371 < (l0.length : Int) then (if ((rd_T98 l0 t371).f2) = 99999 then (some (([] : List (S98)), 3)) else (if t371 < (t372.length : Int) then ((some (t372.set (t371 : Int).toNat (⟨(rd_T98 t372 t371).f0, (⟨a2_0, a2_1, a2_2⟩ : S55), (rd_T98 t372 t371).f2⟩ : S98) : List (S98))).bind fun y380 => (some ((y380.set (t371 : Int).toNat (⟨(rd_T98 y380 t371).f0, (⟨(rd_T98 y380 t371).f1.f0, (rd_T98 y380 t371).f1.f1, (rd_T98 y380 t371).f1.f2⟩ : S55), wrap64 (((rd_T98 l0 t371).f2) + 1)⟩ : S98)), 0))) else (none))) else (none)) else (none))) = some (r1, r2) := by rw [if_neg (show ¬ (false = true) by decide)] at H; exact H
        clear H
        have H := H1
        clear H1
        by_cases c16 : t371 < 0
        ·rw [if_pos c16] at H
         have c16b0 : decide (t371 < 0) = true := decide_eq_true c16
         clear c16
         by_cases c17 : t372.length < 2513169434916
         ·rw [if_pos c17] at H
          have LMc17 := ak c17
          clear c17
          obtain ⟨y375, hy375⟩ : ∃ y_ : List (S98), y_ = (t372 ++ [(⟨a1, (⟨a2_0, a2_1, a2_2⟩ : S55), 1⟩ : S98)]) := ⟨_, rfl⟩
          replace H : (some (y375, 0)) = some (r1, r2) := by first | (rw [hy375]; with_reducible exact H) | (have H2_ := (Option.bind_some _ _).symm.trans H; rw [hy375]; with_reducible exact H2_) | (have H2_ := (Option.bind_some _ _).symm.trans H; with_reducible exact H2_) | with_reducible exact H | (rw [hy375]; exact H) | exact H
          have Ny375 := ak hy375
          clear hy375
          simp only [Option.some.injEq, Prod.mk.injEq] at H
          obtain ⟨rfl, rfl⟩ := H
          have hcz18_0 : wc.cell? ⟨gb370, 0, none⟩ = some (.int .i64 a2_0) := (blk_cell BK370.out 0).trans rfl
          have hcz18_1 : wc.cell? ⟨gb370, 1, none⟩ = some (.int .i64 a2_1) := (blk_cell BK370.out 1).trans rfl
          have hcz18_2 : wc.cell? ⟨gb370, 2, none⟩ = some (.string a2_2) := (blk_cell BK370.out 2).trans rfl
          have hfz18_0 := blk_frozen BK370.out 0
          have hfz18_1 := blk_frozen BK370.out 1
          have hfz18_2 := blk_frozen BK370.out 2
          go_wp2_with (first | ((with_reducible refine gate_builtin (b := .append) (xs := #[.tmp 34, .tmp 38]) rfl ?_); at_builtin; refine Kd.R_append k98 (w0 := w) w.heap.size rfl (.tmp 34) (.tmp 38) 50 98 (.agg #[(.string ⟨#[]⟩), (.int .i64 0), (.int .i64 0), (.string ⟨#[]⟩), (.int .i64 0)]) 56 rfl Tryd.underlying50 info98 rfl (by decide) (by omega) v373 t372 (⟨a1, (⟨a2_0, a2_1, a2_2⟩ : S55), 1⟩ : S98) [.string a1, .int .i64 a2_0, .int .i64 a2_1, .string a2_2, .int .i64 1] (fun _ => True) (fun _ => False) rfl rfl ?aP (fun _ hk => hk.elim) ?aF ?aO ?aB ?aS ?aL ?_; (case aP => exact k98_mkM _ _ _ (⟨a1, (⟨a2_0, a2_1, a2_2⟩ : S55), 1⟩ : S98)); (case aB => exact d7_11); (case aF => exact (fun _ _ => trivial)); (case aO => exact (by (with_reducible repeat (first | apply Kd.R_alloc | apply Kd.R_drewN | apply Kd.R_drew)); exact HO_11.out)); (case aS => exact (below_size d7_11)); (case aL => have := LMc17.out; omega); intro v376 w19 ho hb hg hat; rw [← Ny375.out] at ho; have n0_ := ak (blk_grown (g := gb370) (o := .cells #[.int .i64 a2_0, .int .i64 a2_1, .string a2_2] 55 (0, 0)) (by (with_reducible repeat (first | refine blk_drewN ?_ _ | refine blk_drew ?_ | refine blk_alloc ?_ _)); exact BK370.out) hg (Kd.R_ne HO_11.out BK370.out (by decide))); have n1_ := ak (hb); have n2_ := ak (ho); clear BK370 HB HO_11; have BK370 := n0_; have HB := n1_; have HO377 := n2_; clear n0_ n1_ n2_ ho hb hg hat))
          go_ret2
          exact ⟨_, by first | rfl | (simp [errW_none, errW_some] <;> rfl) | (simp [*, errW_none, errW_some] <;> rfl), by (with_reducible repeat (first | apply Kd.R_alloc | apply Kd.R_drewN | apply Kd.R_drew)); exact HO377.out, by repeat (first | (with_reducible first | exact HB.out | apply below_alloc | apply pw_below_drewN | apply below_drew1 | refine below_set ?_ GE370.out) | exact HB.out)⟩
         ·rw [if_neg c17] at H
          exact absurd H (by simp)
        ·rw [if_neg c16] at H
         have c16b0 : decide (t371 < 0) = false := decide_eq_false c16
         clear c16
         by_cases c20 : 0 ≤ t371
         ·rw [if_pos c20] at H
          have c20b0 : decide (0 ≤ t371) = true := decide_eq_true c20
          clear c20
          by_cases c21 : t371 < (l0.length : Int)
          ·rw [if_pos c21] at H
           have c21b0 : decide (t371 < (l0.length : Int)) = true := decide_eq_true c21
           clear c21
           by_cases c22 : ((rd_T98 l0 t371).f2) = 99999
           ·rw [if_pos c22] at H
            have c22b0 : (((rd_T98 l0 t371).f2) == 99999) = true := beq_iff_eq.mpr c22
            have c22b1 : (((rd_T98 l0 t371).f2) != 99999) = false := bne_eq_false_iff_eq.mpr c22
            clear c22
            simp only [Option.some.injEq, Prod.mk.injEq] at H
            obtain ⟨rfl, rfl⟩ := H
            have p378 : 0 ≤ (t371 : Int) := of_decide_eq_true d7_10
            have q378 : t371 < (l0.length : Int) := of_decide_eq_true d7_10
            obtain ⟨ad378, e378, hx378_0, hx378_1, hx378_2, hx378_3, hx378_4⟩ := at_T98 HR0.out t371 p378 q378
            cases e378
            replace hx378_0 := (HB.out.cell (World.block_lt_of_cell? w _ hx378_0)).trans hx378_0
            replace hx378_1 := (HB.out.cell (World.block_lt_of_cell? w _ hx378_1)).trans hx378_1
            replace hx378_2 := (HB.out.cell (World.block_lt_of_cell? w _ hx378_2)).trans hx378_2
            replace hx378_3 := (HB.out.cell (World.block_lt_of_cell? w _ hx378_3)).trans hx378_3
            replace hx378_4 := (HB.out.cell (World.block_lt_of_cell? w _ hx378_4)).trans hx378_4
            replace p378 := eq_true p378
            replace q378 := eq_true q378
            go_wp2
            go_ret2
            exact ⟨_, by first | rfl | (simp [errW_none, errW_some] <;> rfl) | (simp [*, errW_none, errW_some] <;> rfl), by first | exact Kd.R_nil _ _ _ _ _ | exact Kd.N_nil _ _ _ _ _ | exact Kd.V_nil _ _ _ _ _ | exact Kd.Q_nil _ _ _ _ _ | exact Kd.S_nil _ _ _ _ _, by repeat (first | (with_reducible first | exact HB.out | apply below_alloc | apply pw_below_drewN | apply below_drew1 | refine below_set ?_ GE370.out) | exact HB.out)⟩
           ·rw [if_neg c22] at H
            have c22b0 : (((rd_T98 l0 t371).f2) == 99999) = false := beq_eq_false_iff_ne.mpr c22
            have c22b1 : (((rd_T98 l0 t371).f2) != 99999) = true := bne_iff_ne.mpr c22
            by_cases c23 : t371 < (t372.length : Int)
            ·rw [if_pos c23] at H
             have c23b0 : decide (t371 < (t372.length : Int)) = true := decide_eq_true c23
             clear c23
             obtain ⟨y380, hy380⟩ : ∃ y_ : List (S98), y_ = (t372.set (t371 : Int).toNat (⟨(rd_T98 t372 t371).f0, (⟨a2_0, a2_1, a2_2⟩ : S55), (rd_T98 t372 t371).f2⟩ : S98)) := ⟨_, rfl⟩
             replace H : (some ((y380.set (t371 : Int).toNat (⟨(rd_T98 y380 t371).f0, (⟨(rd_T98 y380 t371).f1.f0, (rd_T98 y380 t371).f1.f1, (rd_T98 y380 t371).f1.f2⟩ : S55), wrap64 (((rd_T98 l0 t371).f2) + 1)⟩ : S98)), 0)) = some (r1, r2) := by first | (rw [hy380]; with_reducible exact H) | (have H2_ := (Option.bind_some _ _).symm.trans H; rw [hy380]; with_reducible exact H2_) | (have H2_ := (Option.bind_some _ _).symm.trans H; with_reducible exact H2_) | with_reducible exact H | (rw [hy380]; exact H) | exact H
             have Ny380 := ak hy380
             clear hy380
             obtain ⟨y381, hy381⟩ : ∃ y_ : List (S98), y_ = (y380.set (t371 : Int).toNat (⟨(rd_T98 y380 t371).f0, (⟨(rd_T98 y380 t371).f1.f0, (rd_T98 y380 t371).f1.f1, (rd_T98 y380 t371).f1.f2⟩ : S55), wrap64 (((rd_T98 l0 t371).f2) + 1)⟩ : S98)) := ⟨_, rfl⟩
             replace H : (some (y381, 0)) = some (r1, r2) := by first | (rw [hy381]; with_reducible exact H) | (have H2_ := (Option.bind_some _ _).symm.trans H; rw [hy381]; with_reducible exact H2_) | (have H2_ := (Option.bind_some _ _).symm.trans H; with_reducible exact H2_) | with_reducible exact H | (rw [hy381]; exact H) | exact H
             have Ny381 := ak hy381
             clear hy381
             simp only [Option.some.injEq, Prod.mk.injEq] at H
             obtain ⟨rfl, rfl⟩ := H
             have p378 : 0 ≤ (t371 : Int) := of_decide_eq_true d7_10
             have q378 : t371 < (l0.length : Int) := of_decide_eq_true d7_10
             obtain ⟨ad378, e378, hx378_0, hx378_1, hx378_2, hx378_3, hx378_4⟩ := at_T98 HR0.out t371 p378 q378
             cases e378
             replace hx378_0 := (HB.out.cell (World.block_lt_of_cell? w _ hx378_0)).trans hx378_0
             replace hx378_1 := (HB.out.cell (World.block_lt_of_cell? w _ hx378_1)).trans hx378_1
             replace hx378_2 := (HB.out.cell (World.block_lt_of_cell? w _ hx378_2)).trans hx378_2
             replace hx378_3 := (HB.out.cell (World.block_lt_of_cell? w _ hx378_3)).trans hx378_3
             replace hx378_4 := (HB.out.cell (World.block_lt_of_cell? w _ hx378_4)).trans hx378_4
             replace p378 := eq_true p378
             replace q378 := eq_true q378
             try go_wp2
             have n0_ := ak (Kd.R_drew HO_11.out)
             have n1_ := ak (blk_drew BK370.out)
             have n2_ := ak (below_drew1 HB.out)
             clear HO_11
             clear BK370
             clear HB
             have HO_11 := n0_
             have BK370 := n1_
             have HB := n2_
             clear n0_ n1_ n2_
             have p379 : 0 ≤ (t371 : Int) := of_decide_eq_true d7_10
             have q379 : t371 < (l0.length : Int) := of_decide_eq_true d7_10
             obtain ⟨ad379, e379, hx379_0, hx379_1, hx379_2, hx379_3, hx379_4⟩ := at_T98 HR0.out t371 p379 q379
             have hw379_4 := hx379_4
             have hw379_3 := hx379_3
             have hw379_2 := hx379_2
             have hw379_1 := hx379_1
             have hw379_0 := hx379_0
             obtain rfl : ad378 = ad379 := (by injection e379)
             replace hx379_0 := (HB.out.cell (World.block_lt_of_cell? w _ hx379_0)).trans hx379_0
             replace hx379_1 := (HB.out.cell (World.block_lt_of_cell? w _ hx379_1)).trans hx379_1
             replace hx379_2 := (HB.out.cell (World.block_lt_of_cell? w _ hx379_2)).trans hx379_2
             replace hx379_3 := (HB.out.cell (World.block_lt_of_cell? w _ hx379_3)).trans hx379_3
             replace hx379_4 := (HB.out.cell (World.block_lt_of_cell? w _ hx379_4)).trans hx379_4
             replace p379 := eq_true p379
             replace q379 := eq_true q379
             have p24 : 0 ≤ (t371 : Int) := of_decide_eq_true d7_10
             have q24 : (t371 : Int) < ((t372.length : Int) : Int) := of_decide_eq_true d7_10
             obtain ⟨go24, co24, eo24, gb24, gl24, cl24, HG24⟩ := Kd.R_form HO_11.out (by omega)
             (first | cases eo24 | (injection eo24 with ea_ en_ ec_; (first | subst ea_ | (injection ea_ with ea_; subst ea_)); subst ec_; clear en_))
             have GB24 := ak gb24
             have GG24 := ak HG24
             clear gb24 gl24 HG24
             obtain ⟨ce24, hcl24, hM24, hcc24, hfr24⟩ := Kd.R_elem HO_11.out z98 (t371 : Int) p24 q24
             obtain rfl := k98_openM hM24
             have hx24_0 : World.cell? _ ⟨go24, (t371 : Int).toNat * 5, none⟩ = some (.string ((rd_T98 t372 t371).f0)) := hcc24 0 _ rfl
             have hx24_1 : World.cell? _ ⟨go24, (t371 : Int).toNat * 5 + 1, none⟩ = some (.int .i64 ((rd_T98 t372 t371).f1.f0)) := hcc24 1 _ rfl
             have hx24_2 : World.cell? _ ⟨go24, (t371 : Int).toNat * 5 + 2, none⟩ = some (.int .i64 ((rd_T98 t372 t371).f1.f1)) := hcc24 2 _ rfl
             have hx24_3 : World.cell? _ ⟨go24, (t371 : Int).toNat * 5 + 3, none⟩ = some (.string ((rd_T98 t372 t371).f1.f2)) := hcc24 3 _ rfl
             have hx24_4 : World.cell? _ ⟨go24, (t371 : Int).toNat * 5 + 4, none⟩ = some (.int .i64 ((rd_T98 t372 t371).f2)) := hcc24 4 _ rfl
             have hf24_0 : World.frozen? _ ⟨go24, (t371 : Int).toNat * 5, none⟩ = false := hfr24 0
             have hf24_1 : World.frozen? _ ⟨go24, (t371 : Int).toNat * 5 + 1, none⟩ = false := hfr24 1
             have hf24_2 : World.frozen? _ ⟨go24, (t371 : Int).toNat * 5 + 2, none⟩ = false := hfr24 2
             have hf24_3 : World.frozen? _ ⟨go24, (t371 : Int).toNat * 5 + 3, none⟩ = false := hfr24 3
             have hf24_4 : World.frozen? _ ⟨go24, (t371 : Int).toNat * 5 + 4, none⟩ = false := hfr24 4
             clear hcl24 hcc24 hfr24 hM24
             replace p24 := eq_true p24
             replace q24 := eq_true q24
             obtain ⟨ce27, hcl27, hM27, hcc27, hfr27⟩ := Kd.R_elem HO_11.out z98 (t371 : Int) (of_decide_eq_true d7_10) (by have h_ : (t371 : Int) < ((t372.length : Int) : Int) := of_decide_eq_true d7_10; first | exact h_ | (have e_ := (Kd.R_reads' HO_11.out).1; omega) | simpa using h_)
             obtain rfl := k98_openM hM27
             have HP27 := (Kd.R_seg HO_11.out (t371 : Int) (of_decide_eq_true d7_10) (by have h_ : (t371 : Int) < ((t372.length : Int) : Int) := of_decide_eq_true d7_10; first | exact h_ | (have e_ := (Kd.R_reads' HO_11.out).1; omega) | simpa using h_) (seg := [.int .i64 a2_0, .int .i64 a2_1, .string a2_2]) (j := 1) hcl27 hcc27 (show 4 ≤ 5 from by decide) (x' := (⟨(rd_T98 t372 t371).f0, (⟨a2_0, a2_1, a2_2⟩ : S55), (rd_T98 t372 t371).f2⟩ : S98)) (k98_mkM _ _ _ (⟨(rd_T98 t372 t371).f0, (⟨a2_0, a2_1, a2_2⟩ : S55), (rd_T98 t372 t371).f2⟩ : S98) ) (fun _ hk => hk)).1
             rw [← Ny380.out] at HP27
             have HQ27 := ak HP27
             clear hcl27 hcc27 hfr27 hM27 HP27
             have p25 : 0 ≤ (t371 : Int) := of_decide_eq_true d7_10
             have q25 : (t371 : Int) < ((t372.length : Int) : Int) := of_decide_eq_true d7_10
             replace p25 := eq_true p25
             replace q25 := eq_true q25
             obtain ⟨ce28, hcl28, hM28, hcc28, hfr28⟩ := Kd.R_elem HQ27.out z98 (t371 : Int) (of_decide_eq_true d7_10) (by have h_ : (t371 : Int) < ((t372.length : Int) : Int) := of_decide_eq_true d7_10; first | exact h_ | (have e_ := (Kd.R_reads' HO_11.out).1; omega) | simpa using h_)
             obtain rfl := k98_openM hM28
             have HP28 := (Kd.R_seg HQ27.out (t371 : Int) (of_decide_eq_true d7_10) (by have h_ : (t371 : Int) < ((t372.length : Int) : Int) := of_decide_eq_true d7_10; first | exact h_ | (have e_ := (Kd.R_reads' HO_11.out).1; omega) | simpa using h_) (seg := [.int .i64 (wrap64 (((rd_T98 l0 t371).f2) + 1))]) (j := 4) hcl28 hcc28 (show 5 ≤ 5 from by decide) (x' := (⟨(rd_T98 y380 t371).f0, (⟨(rd_T98 y380 t371).f1.f0, (rd_T98 y380 t371).f1.f1, (rd_T98 y380 t371).f1.f2⟩ : S55), wrap64 (((rd_T98 l0 t371).f2) + 1)⟩ : S98)) (k98_mkM _ _ _ (⟨(rd_T98 y380 t371).f0, (⟨(rd_T98 y380 t371).f1.f0, (rd_T98 y380 t371).f1.f1, (rd_T98 y380 t371).f1.f2⟩ : S55), wrap64 (((rd_T98 l0 t371).f2) + 1)⟩ : S98) ) (fun _ hk => hk)).1
             rw [← Ny381.out] at HP28
             have HQ28 := ak HP28
             clear hcl28 hcc28 hfr28 hM28 HP28
             refine start_ (n := 17) (S := fun w' => w'.cell? ⟨gb370, 0, none⟩ = some (.int .i64 a2_0) ∧ w'.cell? ⟨gb370, 1, none⟩ = some (.int .i64 a2_1) ∧ w'.cell? ⟨gb370, 2, none⟩ = some (.string a2_2) ∧ w'.cell? (ad378.add ((t371).toNat * 5)) = some (.string ((rd_T98 l0 t371).f0)) ∧ w'.cell? ⟨(ad378.add ((t371).toNat * 5)).block, (ad378.add ((t371).toNat * 5)).off + 1, none⟩ = some (.int .i64 ((rd_T98 l0 t371).f1.f0)) ∧ w'.cell? ⟨(ad378.add ((t371).toNat * 5)).block, (ad378.add ((t371).toNat * 5)).off + 2, none⟩ = some (.int .i64 ((rd_T98 l0 t371).f1.f1)) ∧ w'.cell? ⟨(ad378.add ((t371).toNat * 5)).block, (ad378.add ((t371).toNat * 5)).off + 3, none⟩ = some (.string ((rd_T98 l0 t371).f1.f2)) ∧ w'.cell? ⟨(ad378.add ((t371).toNat * 5)).block, (ad378.add ((t371).toNat * 5)).off + 4, none⟩ = some (.int .i64 ((rd_T98 l0 t371).f2))) (ds := [13, 16]) #[false, false, false, false, false, false, false, false, false, false, false, false, false, false, false, false, false] (by kernel_rfl) rfl rfl ⟨(blk_cell BK370.out 0).trans rfl, (blk_cell BK370.out 1).trans rfl, (blk_cell BK370.out 2).trans rfl, ((HB.out.cell (World.block_lt_of_cell? w _ hw379_0)).trans hw379_0), ((HB.out.cell (World.block_lt_of_cell? w _ hw379_1)).trans hw379_1), ((HB.out.cell (World.block_lt_of_cell? w _ hw379_2)).trans hw379_2), ((HB.out.cell (World.block_lt_of_cell? w _ hw379_3)).trans hw379_3), ((HB.out.cell (World.block_lt_of_cell? w _ hw379_4)).trans hw379_4)⟩ (fun hHeld => ?_); refine with_tabW impl_defined.tab10 impl_defined.bits10 (fun HT_ HW_ => ?_)
             generalize wc.drew = w26 at HO_11 BK370 HB GG24 HQ27 HQ28 hf24_0 hf24_1 hf24_2 hf24_3 hf24_4 hx24_0 hx24_1 hx24_2 hx24_3 hx24_4 hx379_0 hx379_1 hx379_2 hx379_3 hx379_4 hHeld ⊢
             refine pure_ (i := 0) (N := some 47) (v := ?_) (a' := ?_) #[true, false, false, false, false, false, false, false, false, false, false, false, false, false, false, false, false] rfl rfl (any_of HT_.out (by kernel_rfl)) (fun _ _ _ h => h) (Or.inl ⟨by rfl, ?_⟩) ?_ ?_
             rotate_left
             · intro w'
               go_simp
               with_reducible rfl
             rotate_left
             · simp only [Act.put, List.setIfInBounds_toArray, List.set_cons_zero, List.set_cons_succ, i64_w, i32_w]
               rfl
             refine pure_ (i := 1) (N := some 48) (v := ?_) (a' := ?_) #[true, true, false, false, false, false, false, false, false, false, false, false, false, false, false, false, false] rfl rfl (any_of HT_.out (by kernel_rfl)) (fun _ _ _ h => h) (Or.inl ⟨by rfl, ?_⟩) ?_ ?_
             rotate_left
             · intro w'
               go_simp
               with_reducible rfl
             rotate_left
             · simp only [Act.put, List.setIfInBounds_toArray, List.set_cons_zero, List.set_cons_succ, i64_w, i32_w]
               rfl
             refine pure_ (i := 2) (N := some 49) (v := ?_) (a' := ?_) #[true, true, true, false, false, false, false, false, false, false, false, false, false, false, false, false, false] rfl rfl (any_of HT_.out (by kernel_rfl)) (fun _ _ _ h => h) (Or.inl ⟨by rfl, ?_⟩) ?_ ?_
             rotate_left
             · intro w'
               go_simp
               with_reducible rfl
             rotate_left
             · simp only [Act.put, List.setIfInBounds_toArray, List.set_cons_zero, List.set_cons_succ, i64_w, i32_w]
               rfl
             refine pure_ (i := 3) (N := some 50) (v := ?_) (a' := ?_) #[true, true, true, true, false, false, false, false, false, false, false, false, false, false, false, false, false] rfl rfl (any_of HT_.out (by kernel_rfl)) (fun _ _ _ h => h) (Or.inl ⟨by rfl, ?_⟩) ?_ ?_
             rotate_left
             · intro w'
               go_simp
               with_reducible rfl
             rotate_left
             · simp only [Act.put, List.setIfInBounds_toArray, List.set_cons_zero, List.set_cons_succ, i64_w, i32_w]
               rfl
             refine pure_ (i := 5) (N := some 52) (v := ?_) (a' := ?_) #[true, true, true, true, false, true, false, false, false, false, false, false, false, false, false, false, false] rfl rfl (any_of HT_.out (by kernel_rfl)) (fun _ _ _ h => h) (Or.inl ⟨by rfl, ?_⟩) ?_ ?_
             rotate_left
             · intro w'
               go_simp
               with_reducible rfl
             rotate_left
             · simp only [Act.put, List.setIfInBounds_toArray, List.set_cons_zero, List.set_cons_succ, i64_w, i32_w]
               rfl
             refine pure_ (i := 6) (N := some 53) (v := ?_) (a' := ?_) #[true, true, true, true, false, true, true, false, false, false, false, false, false, false, false, false, false] rfl rfl (any_of HT_.out (by kernel_rfl)) (fun _ _ _ h => h) (Or.inl ⟨by rfl, ?_⟩) ?_ ?_
             rotate_left
             · intro w'
               go_simp
               with_reducible rfl
             rotate_left
             · simp only [Act.put, List.setIfInBounds_toArray, List.set_cons_zero, List.set_cons_succ, i64_w, i32_w]
               rfl
             refine pure_ (i := 7) (N := some 54) (v := ?_) (a' := ?_) #[true, true, true, true, false, true, true, true, false, false, false, false, false, false, false, false, false] rfl rfl (any_of HT_.out (by kernel_rfl)) (fun _ _ _ h => h) (Or.inl ⟨by rfl, ?_⟩) ?_ ?_
             rotate_left
             · intro w'
               go_simp
               with_reducible rfl
             rotate_left
             · simp only [Act.put, List.setIfInBounds_toArray, List.set_cons_zero, List.set_cons_succ, i64_w, i32_w]
               rfl
             refine pure_ (i := 8) (N := some 55) (v := ?_) (a' := ?_) #[true, true, true, true, false, true, true, true, true, false, false, false, false, false, false, false, false] rfl rfl (any_of HT_.out (by kernel_rfl)) (fun _ _ _ h => h) (Or.inl ⟨by rfl, ?_⟩) ?_ ?_
             rotate_left
             · intro w'
               go_simp
               with_reducible rfl
             rotate_left
             · simp only [Act.put, List.setIfInBounds_toArray, List.set_cons_zero, List.set_cons_succ, i64_w, i32_w]
               rfl
             refine take_ (i := 4) (N := some 51) (v := ?_) (a' := ?_) #[true, true, true, true, true, true, true, true, true, false, false, false, false, false, false, false, false] rfl rfl (take_ofW HT_.out HW_.out (by kernel_rfl)) (fun _ _ _ h => h) (Or.inl ⟨by rfl, ?_⟩) hHeld ?_ ?_
             rotate_left
             · rintro w' ⟨s0, s1, s2, s3, s4, s5, s6, s7⟩
               go_simp
               with_reducible rfl
             rotate_left
             · simp only [Act.put, List.setIfInBounds_toArray, List.set_cons_zero, List.set_cons_succ, i64_w, i32_w]
               rfl
             refine take_ (i := 9) (N := some 56) (v := ?_) (a' := ?_) #[true, true, true, true, true, true, true, true, true, true, false, false, false, false, false, false, false] rfl rfl (take_ofW HT_.out HW_.out (by kernel_rfl)) (fun _ _ _ h => h) (Or.inl ⟨by rfl, ?_⟩) hHeld ?_ ?_
             rotate_left
             · rintro w' ⟨s0, s1, s2, s3, s4, s5, s6, s7⟩
               go_simp
               with_reducible rfl
             rotate_left
             · simp only [Act.put, List.setIfInBounds_toArray, List.set_cons_zero, List.set_cons_succ, i64_w, i32_w]
               rfl
             refine pure_ (i := 10) (N := some 57) (v := ?_) (a' := ?_) #[true, true, true, true, true, true, true, true, true, true, true, false, false, false, false, false, false] rfl rfl (any_of HT_.out (by kernel_rfl)) (fun _ _ _ h => h) (Or.inl ⟨by rfl, ?_⟩) ?_ ?_
             rotate_left
             · intro w'
               go_simp
               with_reducible rfl
             rotate_left
             · simp only [Act.put, List.setIfInBounds_toArray, List.set_cons_zero, List.set_cons_succ, i64_w, i32_w]
               rfl
             refine pure_ (i := 11) (N := some 58) (v := ?_) (a' := ?_) #[true, true, true, true, true, true, true, true, true, true, true, true, false, false, false, false, false] rfl rfl (any_of HT_.out (by kernel_rfl)) (fun _ _ _ h => h) (Or.inl ⟨by rfl, ?_⟩) ?_ ?_
             rotate_left
             · intro w'
               go_simp
               with_reducible rfl
             rotate_left
             · simp only [Act.put, List.setIfInBounds_toArray, List.set_cons_zero, List.set_cons_succ, i64_w, i32_w]
               rfl
             refine pure_ (i := 12) (N := some 59) (v := ?_) (a' := ?_) #[true, true, true, true, true, true, true, true, true, true, true, true, true, false, false, false, false] rfl rfl (any_of HT_.out (by kernel_rfl)) (fun _ _ _ h => h) (Or.inl ⟨by rfl, ?_⟩) ?_ ?_
             rotate_left
             · intro w'
               go_simp
               with_reducible rfl
             rotate_left
             · simp only [Act.put, List.setIfInBounds_toArray, List.set_cons_zero, List.set_cons_succ, i64_w, i32_w]
               rfl
             refine last_ (i := 13) (N := none) #[true, true, true, true, true, true, true, true, true, true, true, true, true, true, false, false, false] rfl rfl (one_of HT_.out (by kernel_rfl)) (by decide) (fun K hK => ?_)
             refine skip_ (w1 := ?_) (by rfl) rfl ?_ ?_
             rotate_left
             · go_simp
               rfl
             refine hK.out _ _ ?_
             clear hK K
             refine pure_ (i := 14) (N := some 60) (v := ?_) (a' := ?_) #[true, true, true, true, true, true, true, true, true, true, true, true, true, true, true, false, false] rfl rfl (any_of HT_.out (by kernel_rfl)) (fun _ _ _ h => h) (Or.inl ⟨by rfl, ?_⟩) ?_ ?_
             rotate_left
             · intro w'
               go_simp
               with_reducible rfl
             rotate_left
             · simp only [Act.put, List.setIfInBounds_toArray, List.set_cons_zero, List.set_cons_succ, i64_w, i32_w]
               rfl
             refine pure_ (i := 15) (N := some 61) (v := ?_) (a' := ?_) #[true, true, true, true, true, true, true, true, true, true, true, true, true, true, true, true, false] rfl rfl (any_of HT_.out (by kernel_rfl)) (fun _ _ _ h => h) (Or.inl ⟨by rfl, ?_⟩) ?_ ?_
             rotate_left
             · intro w'
               go_simp
               with_reducible rfl
             rotate_left
             · simp only [Act.put, List.setIfInBounds_toArray, List.set_cons_zero, List.set_cons_succ, i64_w, i32_w]
               rfl
             refine last_ (i := 16) (N := none) #[true, true, true, true, true, true, true, true, true, true, true, true, true, true, true, true, true] rfl rfl (one_of HT_.out (by kernel_rfl)) (by decide) (fun K hK => ?_)
             refine skip_ (w1 := ?_) (by rfl) rfl ?_ ?_
             rotate_left
             · go_simp
               rfl
             refine hK.out _ _ ?_
             clear hK K
             refine done_ (done_of HT_.out (by kernel_rfl)) ?_
             try go_wp2
             go_ret2
             exact ⟨_, by first | rfl | (simp [errW_none, errW_some] <;> rfl) | (simp [*, errW_none, errW_some] <;> rfl), by (with_reducible repeat (first | apply Kd.R_alloc | apply Kd.R_drewN | apply Kd.R_drew)); exact HQ28.out, by repeat (first | (with_reducible first | exact HB.out | apply below_alloc | apply pw_below_drewN | apply below_drew1 | refine below_set ?_ GB24.out | refine below_set ?_ GB24.out | refine below_set ?_ GB24.out | refine below_set ?_ GB24.out | refine below_set ?_ GE370.out) | exact HB.out)⟩
            ·rw [if_neg c23] at H
             exact absurd H (by simp)
          ·rw [if_neg c21] at H
           exact absurd H (by simp)
         ·rw [if_neg c20] at H
          exact absurd H (by simp)

/-! ### impl_turnGlobal: function 61 -/
def impl_turnGlobal.f (k : Nat) (l0 : List (S98)) (a1 : ByteArray) (a2_0 : Int) (a2_1 : Int) (a2_2 : ByteArray) (a3 : Bool) : Option (Int × (List (S98))) := (impl_nameFault.f k l0 a1).bind fun t384 => (if t384 = 0 then ((impl_ValueFault.f k a2_0 a2_1 a2_2).bind fun t385 => (if t385 = 0 then ((impl_defined.f k l0 a1 a2_0 a2_1 a2_2 a3).bind fun bt386 => (some (bt386.2, bt386.1))) else (some (t385, ([] : List (S98)))))) else (some (t384, ([] : List (S98)))))
theorem impl_turnGlobal.mono : ∀ a0 a1 a2 a3 a4 a5 k, LeO (impl_turnGlobal.f k a0 a1 a2 a3 a4 a5) (impl_turnGlobal.f (k + 1) a0 a1 a2 a3 a4 a5) := by
  intro a0 a1 a2 a3 a4 a5 k
  unfold impl_turnGlobal.f
  repeat' first
      | (with_reducible exact impl_ValueFault.mono _ _ _ _)
      | (with_reducible exact impl_defined.mono _ _ _ _ _ _ _)
      | (with_reducible exact impl_nameFault.mono _ _ _)
      | (with_reducible exact LeO.refl _)
      | (with_reducible exact LeO.none _)
      | (with_reducible refine LeO.ite ?_ ?_)
      | (with_reducible refine LeO.bind ?_ (fun _ => ?_))
      | exact impl_ValueFault.mono _ _ _ _
      | exact impl_defined.mono _ _ _ _ _ _ _
      | exact impl_nameFault.mono _ _ _
      | exact LeO.none _
      | refine LeO.ite ?_ ?_
      | refine LeO.bind ?_ (fun _ => ?_)
set_option maxHeartbeats 8000000 in
set_option maxRecDepth 100000 in
theorem impl_turnGlobal.calls (k : Nat) (A0 : Option Addr) (c0 : Nat) (l0 : List (S98)) (a1 : ByteArray) (a2_0 : Int) (a2_1 : Int) (a2_2 : ByteArray) (a3 : Bool) (r1 : Int) (r2 : List (S98)) (w : World) (hr0 : Kd.C k98 w A0 l0.length l0) (hc0 : l0.length ≤ c0) (h : impl_turnGlobal.f k l0 a1 a2_0 a2_1 a2_2 a3 = some (r1, r2)) :
    Calls Tryd.prog 61 #[.slice A0 l0.length c0, .string a1, .agg #[.int .i64 a2_0, .int .i64 a2_1, .string a2_2], .bool a3] w fun e w' => ∃ v1_ : Value, e = .returned (.agg #[.int .i64 r1, v1_]) ∧ Kd.R k98 98 w' w.heap.size (fun _ => True) v1_ r2 ∧ Below w.heap.size w w' := by
  have hu55 := Tryd.underlying55
  have hu52 := Tryd.underlying52
  have HR0 := ak hr0
  have HC0 := ak hc0
  clear hr0 hc0
  have HB := ak (Below.refl w.heap.size w)
  have H : ((impl_nameFault.f k l0 a1).bind fun t384 => (if t384 = 0 then ((impl_ValueFault.f k a2_0 a2_1 a2_2).bind fun t385 => (if t385 = 0 then ((impl_defined.f k l0 a1 a2_0 a2_1 a2_2 a3).bind fun bt386 => (some (bt386.2, bt386.1))) else (some (t385, ([] : List (S98)))))) else (some (t384, ([] : List (S98)))))) = some (r1, r2) := h
  clear h
  replace H := Option.bind_eq_some_iff.mp H
  obtain ⟨t384, A50, H⟩ := H
  replace H : (if t384 = 0 then ((impl_ValueFault.f k a2_0 a2_1 a2_2).bind fun t385 => (if t385 = 0 then ((impl_defined.f k l0 a1 a2_0 a2_1 a2_2 a3).bind fun bt386 => (some (bt386.2, bt386.1))) else (some (t385, ([] : List (S98)))))) else (some (t384, ([] : List (S98))))) = some (r1, r2) := H
  have A5 := ak A50
  clear A50
  by_cases c6 : t384 = 0
  ·rw [if_pos c6] at H
   have c6b0 : (t384 == 0) = true := beq_iff_eq.mpr c6
   have c6b1 : (t384 != 0) = false := bne_eq_false_iff_eq.mpr c6
   clear c6
   replace H := Option.bind_eq_some_iff.mp H
   obtain ⟨t385, A70, H⟩ := H
   replace H : (if t385 = 0 then ((impl_defined.f k l0 a1 a2_0 a2_1 a2_2 a3).bind fun bt386 => (some (bt386.2, bt386.1))) else (some (t385, ([] : List (S98))))) = some (r1, r2) := H
   have A7 := ak A70
   clear A70
   by_cases c8 : t385 = 0
   ·rw [if_pos c8] at H
    have c8b0 : (t385 == 0) = true := beq_iff_eq.mpr c8
    have c8b1 : (t385 != 0) = false := bne_eq_false_iff_eq.mpr c8
    clear c8
    replace H := Option.bind_eq_some_iff.mp H
    obtain ⟨⟨t386, t389⟩, A90, H⟩ := H
    replace H : (some (t389, t386)) = some (r1, r2) := H
    have A9 := ak A90
    clear A90
    simp only [Option.some.injEq, Prod.mk.injEq] at H
    obtain ⟨rfl, rfl⟩ := H
    go_enter Tryd.func61, Tryd.ntmps61
    go_wp2_with (first | ((with_reducible refine gate_dst (N := 6) rfl ?_); refine box_event ?hg (N := 6) ?hd (cs := #[.int .i64 a2_0, .int .i64 a2_1, .string a2_2]) (t := 55) ?hr ?_; (case hd => rfl); (case hg => rfl); (case hr => first | (go_simp; done) | (go_simp; rfl)); intro gb382 hg w10 hbox hb; have n0_ := ak (below_step d7_1 hb); have n1_ := ak (hbox); have n2_ := ak ((d7_14 : w.heap.size ≤ gb382)); have n3_ := ak ((d7_14 : w.heap.size ≤ gb382)); clear HB; have HB := n0_; have BK382 := n1_; have GW382 := n2_; have GE382 := n3_; clear n0_ n1_ n2_ n3_ hb hbox hg) | ((with_reducible refine gate_dst (N := 8) rfl ?_); refine box_event ?hg (N := 8) ?hd (cs := #[.int .i64 0, .slice none 0 0]) (t := 52) ?hr ?_; (case hd => rfl); (case hg => rfl); (case hr => first | (go_simp; done) | (go_simp; rfl)); intro gb383 hg w11 hbox hb; have n0_ := ak (blk_below (g := gb382) (o := .cells #[.int .i64 a2_0, .int .i64 a2_1, .string a2_2] 55 (0, 0)) d7_4 hb); have n1_ := ak (below_step d7_7 hb); have n2_ := ak (hbox); have n3_ := ak ((by rw [hg]; exact (below_size d7_7) : w.heap.size ≤ gb383)); have n4_ := ak ((by rw [hg]; exact (below_size d7_7) : w.heap.size ≤ gb383)); have n5_ := ak ((by rw [hg]; exact Nat.ne_of_lt (blk_lt (g := gb382) (o := .cells #[.int .i64 a2_0, .int .i64 a2_1, .string a2_2] 55 (0, 0)) d7_4) : gb382 ≠ gb383)); have n6_ := ak ((by rw [hg]; exact Nat.ne_of_gt (blk_lt (g := gb382) (o := .cells #[.int .i64 a2_0, .int .i64 a2_1, .string a2_2] 55 (0, 0)) d7_4) : gb383 ≠ gb382)); clear BK382 HB; have BK382 := n0_; have HB := n1_; have BK383 := n2_; have GW383 := n3_; have GE383 := n4_; have NB382_383 := n5_; have NB383_382 := n6_; clear n0_ n1_ n2_ n3_ n4_ n5_ n6_ hb hbox hg) | ((with_reducible refine gate_callee (f := 90) rfl ?_); refine goesL_ (some 15) rfl rfl Tryd.func90 (by kernel_rfl) rfl #[.slice A0 l0.length c0, .string a1] rfl d7_6 ?_; (with_reducible refine (impl_nameFault.calls k _ _ l0 a1 t384 _ ?side1 ?side2 A5.out).mono ?_); (case side1 => repeat (first | exact (Kd.C_below HR0.out HB.out) | (with_reducible refine Kd.C_alloc ?_ _) | (with_reducible refine Kd.C_drewN ?_ _) | (with_reducible refine Kd.C_drew ?_))); (case side2 => exact HC0.out); rintro e w12 ⟨rfl, hb⟩; refine ⟨_, rfl, ?_⟩; have n0_ := ak (blk_below (g := gb382) (o := .cells #[.int .i64 a2_0, .int .i64 a2_1, .string a2_2] 55 (0, 0)) d7_4 hb); have n1_ := ak (blk_below (g := gb383) (o := .cells #[.int .i64 0, .slice none 0 0] 52 (0, 0)) d7_12 hb); have n2_ := ak (below_step d7_9 hb); clear BK382 BK383 HB; have BK382 := n0_; have BK383 := n1_; have HB := n2_; clear n0_ n1_ n2_; (try clear hb); have hnb13 := NB382_383.out; have hnc13 := NB383_382.out; have hcz14_0 : w12.cell? ⟨gb382, 0, none⟩ = some (.int .i64 a2_0) := (blk_cell BK382.out 0).trans rfl; have hcz14_1 : w12.cell? ⟨gb382, 1, none⟩ = some (.int .i64 a2_1) := (blk_cell BK382.out 1).trans rfl; have hcz14_2 : w12.cell? ⟨gb382, 2, none⟩ = some (.string a2_2) := (blk_cell BK382.out 2).trans rfl; have hfz14_0 := blk_frozen BK382.out 0; have hfz14_1 := blk_frozen BK382.out 1; have hfz14_2 := blk_frozen BK382.out 2) | ((with_reducible refine gate_callee (f := 91) rfl ?_); refine goesL_ (some 21) rfl rfl Tryd.func91 (by kernel_rfl) rfl #[.agg #[.int .i64 a2_0, .int .i64 a2_1, .string a2_2]] rfl d7_6 ?_; (with_reducible refine (impl_ValueFault.calls k a2_0 a2_1 a2_2 t385 _ A7.out).mono ?_); rintro e w15 ⟨rfl, hb⟩; refine ⟨_, rfl, ?_⟩; have n0_ := ak (blk_below (g := gb382) (o := .cells #[.int .i64 a2_0, .int .i64 a2_1, .string a2_2] 55 (0, 0)) d7_4 hb); have n1_ := ak (blk_below (g := gb383) (o := .cells #[.int .i64 0, .slice none 0 0] 52 (0, 0)) d7_12 hb); have n2_ := ak (below_step d7_9 hb); clear BK382 BK383 HB; have BK382 := n0_; have BK383 := n1_; have HB := n2_; clear n0_ n1_ n2_; (try clear hb); have hcz16_0 : w15.cell? ⟨gb382, 0, none⟩ = some (.int .i64 a2_0) := (blk_cell BK382.out 0).trans rfl; have hcz16_1 : w15.cell? ⟨gb382, 1, none⟩ = some (.int .i64 a2_1) := (blk_cell BK382.out 1).trans rfl; have hcz16_2 : w15.cell? ⟨gb382, 2, none⟩ = some (.string a2_2) := (blk_cell BK382.out 2).trans rfl; have hfz16_0 := blk_frozen BK382.out 0; have hfz16_1 := blk_frozen BK382.out 1; have hfz16_2 := blk_frozen BK382.out 2) | ((with_reducible refine gate_callee (f := 92) rfl ?_); refine goesL_ (some 31) rfl rfl Tryd.func92 (by kernel_rfl) rfl #[.slice A0 l0.length c0, .string a1, .agg #[.int .i64 a2_0, .int .i64 a2_1, .string a2_2], .bool a3] rfl d7_6 ?_; (with_reducible refine (impl_defined.calls k _ _ l0 a1 a2_0 a2_1 a2_2 a3 t386 t389 _ ?side1 ?side2 A9.out).mono ?_); (case side1 => repeat (first | exact (Kd.C_below HR0.out HB.out) | (with_reducible refine Kd.C_alloc ?_ _) | (with_reducible refine Kd.C_drewN ?_ _) | (with_reducible refine Kd.C_drew ?_))); (case side2 => exact HC0.out); rintro e w17 ⟨v387, rfl, ho0, hb⟩; refine ⟨_, rfl, ?_⟩; have n0_ := ak (Kd.R_lower ho0 (below_size d7_9)); have n1_ := ak (blk_below (g := gb382) (o := .cells #[.int .i64 a2_0, .int .i64 a2_1, .string a2_2] 55 (0, 0)) d7_4 hb); have n2_ := ak (blk_below (g := gb383) (o := .cells #[.int .i64 0, .slice none 0 0] 52 (0, 0)) d7_12 hb); have n3_ := ak (below_step d7_9 hb); clear BK382 BK383 HB; have HO388 := n0_; have BK382 := n1_; have BK383 := n2_; have HB := n3_; clear n0_ n1_ n2_ n3_; (try clear hb); (try clear ho0); obtain ⟨Ao18, co18, eo18⟩ := Kd.R_slice HO388.out; subst eo18; have hcz19_0 : w17.cell? ⟨gb383, 0, none⟩ = some (.int .i64 0) := (blk_cell BK383.out 0).trans rfl; have hcz19_1 : w17.cell? ⟨gb383, 1, none⟩ = some (.slice none 0 0) := (blk_cell BK383.out 1).trans rfl; have hfz19_0 := blk_frozen BK383.out 0; have hfz19_1 := blk_frozen BK383.out 1))
    refine bodyPost_ret (results_cell_row rfl _ _ gb383 52 #[.int .i64 t389, .slice Ao18 t386.length co18] (0, 0) _ rfl (by (with_reducible repeat (first | refine blk_drewN ?_ _ | refine blk_drew ?_ | refine blk_alloc ?_ _)); refine blk_put (cs := #[.int .i64 t389, .slice none 0 0]) ?_ 1 _ rfl; (with_reducible repeat (first | refine blk_drewN ?_ _ | refine blk_drew ?_ | refine blk_alloc ?_ _)); refine blk_put (cs := #[.int .i64 0, .slice none 0 0]) ?_ 0 _ rfl; (with_reducible repeat (first | refine blk_drewN ?_ _ | refine blk_drew ?_ | refine blk_alloc ?_ _)); exact BK383.out) Tryd.underlying52 rfl (by kernel_rfl)) rfl ?_
    exact ⟨_, by first | rfl | (simp [errW_none, errW_some] <;> rfl) | (simp [*, errW_none, errW_some] <;> rfl), by (with_reducible repeat (first | apply Kd.R_alloc | apply Kd.R_drewN | apply Kd.R_drew)); exact Kd.R_mono (Kd.R_far (p := ⟨gb383, 1, none⟩) (Kd.R_far (p := ⟨gb383, 0, none⟩) (Kd.R_types HO388.out BK383.out (by decide)) (fun _ hk => hk.2) (.int .i64 t389)) (fun _ hk => hk.2) (.slice Ao18 t386.length co18)) (fun _ hk => trivial), by repeat (first | (with_reducible first | exact HB.out | apply below_alloc | apply pw_below_drewN | apply below_drew1 | refine below_set ?_ GE382.out | refine below_set ?_ GE383.out) | exact HB.out)⟩
   ·rw [if_neg c8] at H
    have c8b0 : (t385 == 0) = false := beq_eq_false_iff_ne.mpr c8
    have c8b1 : (t385 != 0) = true := bne_iff_ne.mpr c8
    simp only [Option.some.injEq, Prod.mk.injEq] at H
    obtain ⟨rfl, rfl⟩ := H
    go_enter Tryd.func61, Tryd.ntmps61
    go_wp2_with (first | ((with_reducible refine gate_dst (N := 6) rfl ?_); refine box_event ?hg (N := 6) ?hd (cs := #[.int .i64 a2_0, .int .i64 a2_1, .string a2_2]) (t := 55) ?hr ?_; (case hd => rfl); (case hg => rfl); (case hr => first | (go_simp; done) | (go_simp; rfl)); intro gb382 hg w20 hbox hb; have n0_ := ak (below_step d7_1 hb); have n1_ := ak (hbox); have n2_ := ak ((d7_14 : w.heap.size ≤ gb382)); have n3_ := ak ((d7_14 : w.heap.size ≤ gb382)); clear HB; have HB := n0_; have BK382 := n1_; have GW382 := n2_; have GE382 := n3_; clear n0_ n1_ n2_ n3_ hb hbox hg) | ((with_reducible refine gate_dst (N := 8) rfl ?_); refine box_event ?hg (N := 8) ?hd (cs := #[.int .i64 0, .slice none 0 0]) (t := 52) ?hr ?_; (case hd => rfl); (case hg => rfl); (case hr => first | (go_simp; done) | (go_simp; rfl)); intro gb383 hg w21 hbox hb; have n0_ := ak (blk_below (g := gb382) (o := .cells #[.int .i64 a2_0, .int .i64 a2_1, .string a2_2] 55 (0, 0)) d7_4 hb); have n1_ := ak (below_step d7_7 hb); have n2_ := ak (hbox); have n3_ := ak ((by rw [hg]; exact (below_size d7_7) : w.heap.size ≤ gb383)); have n4_ := ak ((by rw [hg]; exact (below_size d7_7) : w.heap.size ≤ gb383)); have n5_ := ak ((by rw [hg]; exact Nat.ne_of_lt (blk_lt (g := gb382) (o := .cells #[.int .i64 a2_0, .int .i64 a2_1, .string a2_2] 55 (0, 0)) d7_4) : gb382 ≠ gb383)); have n6_ := ak ((by rw [hg]; exact Nat.ne_of_gt (blk_lt (g := gb382) (o := .cells #[.int .i64 a2_0, .int .i64 a2_1, .string a2_2] 55 (0, 0)) d7_4) : gb383 ≠ gb382)); clear BK382 HB; have BK382 := n0_; have HB := n1_; have BK383 := n2_; have GW383 := n3_; have GE383 := n4_; have NB382_383 := n5_; have NB383_382 := n6_; clear n0_ n1_ n2_ n3_ n4_ n5_ n6_ hb hbox hg) | ((with_reducible refine gate_callee (f := 90) rfl ?_); refine goesL_ (some 15) rfl rfl Tryd.func90 (by kernel_rfl) rfl #[.slice A0 l0.length c0, .string a1] rfl d7_6 ?_; (with_reducible refine (impl_nameFault.calls k _ _ l0 a1 t384 _ ?side1 ?side2 A5.out).mono ?_); (case side1 => repeat (first | exact (Kd.C_below HR0.out HB.out) | (with_reducible refine Kd.C_alloc ?_ _) | (with_reducible refine Kd.C_drewN ?_ _) | (with_reducible refine Kd.C_drew ?_))); (case side2 => exact HC0.out); rintro e w22 ⟨rfl, hb⟩; refine ⟨_, rfl, ?_⟩; have n0_ := ak (blk_below (g := gb382) (o := .cells #[.int .i64 a2_0, .int .i64 a2_1, .string a2_2] 55 (0, 0)) d7_4 hb); have n1_ := ak (blk_below (g := gb383) (o := .cells #[.int .i64 0, .slice none 0 0] 52 (0, 0)) d7_12 hb); have n2_ := ak (below_step d7_9 hb); clear BK382 BK383 HB; have BK382 := n0_; have BK383 := n1_; have HB := n2_; clear n0_ n1_ n2_; (try clear hb); have hnb23 := NB382_383.out; have hnc23 := NB383_382.out; have hcz24_0 : w22.cell? ⟨gb382, 0, none⟩ = some (.int .i64 a2_0) := (blk_cell BK382.out 0).trans rfl; have hcz24_1 : w22.cell? ⟨gb382, 1, none⟩ = some (.int .i64 a2_1) := (blk_cell BK382.out 1).trans rfl; have hcz24_2 : w22.cell? ⟨gb382, 2, none⟩ = some (.string a2_2) := (blk_cell BK382.out 2).trans rfl; have hfz24_0 := blk_frozen BK382.out 0; have hfz24_1 := blk_frozen BK382.out 1; have hfz24_2 := blk_frozen BK382.out 2) | ((with_reducible refine gate_callee (f := 91) rfl ?_); refine goesL_ (some 21) rfl rfl Tryd.func91 (by kernel_rfl) rfl #[.agg #[.int .i64 a2_0, .int .i64 a2_1, .string a2_2]] rfl d7_6 ?_; (with_reducible refine (impl_ValueFault.calls k a2_0 a2_1 a2_2 t385 _ A7.out).mono ?_); rintro e w25 ⟨rfl, hb⟩; refine ⟨_, rfl, ?_⟩; have n0_ := ak (blk_below (g := gb382) (o := .cells #[.int .i64 a2_0, .int .i64 a2_1, .string a2_2] 55 (0, 0)) d7_4 hb); have n1_ := ak (blk_below (g := gb383) (o := .cells #[.int .i64 0, .slice none 0 0] 52 (0, 0)) d7_12 hb); have n2_ := ak (below_step d7_9 hb); clear BK382 BK383 HB; have BK382 := n0_; have BK383 := n1_; have HB := n2_; clear n0_ n1_ n2_; (try clear hb); have hcz26_0 : w25.cell? ⟨gb383, 0, none⟩ = some (.int .i64 0) := (blk_cell BK383.out 0).trans rfl; have hcz26_1 : w25.cell? ⟨gb383, 1, none⟩ = some (.slice none 0 0) := (blk_cell BK383.out 1).trans rfl; have hfz26_0 := blk_frozen BK383.out 0; have hfz26_1 := blk_frozen BK383.out 1))
    refine bodyPost_ret (results_cell_row rfl _ _ gb383 52 #[.int .i64 t385, .slice none 0 0] (0, 0) _ rfl (by (with_reducible repeat (first | refine blk_drewN ?_ _ | refine blk_drew ?_ | refine blk_alloc ?_ _)); refine blk_put (cs := #[.int .i64 t385, .slice none 0 0]) ?_ 1 _ rfl; (with_reducible repeat (first | refine blk_drewN ?_ _ | refine blk_drew ?_ | refine blk_alloc ?_ _)); refine blk_put (cs := #[.int .i64 0, .slice none 0 0]) ?_ 0 _ rfl; (with_reducible repeat (first | refine blk_drewN ?_ _ | refine blk_drew ?_ | refine blk_alloc ?_ _)); exact BK383.out) Tryd.underlying52 rfl (by kernel_rfl)) rfl ?_
    exact ⟨_, by first | rfl | (simp [errW_none, errW_some] <;> rfl) | (simp [*, errW_none, errW_some] <;> rfl), by first | exact Kd.R_nil _ _ _ _ _ | exact Kd.N_nil _ _ _ _ _ | exact Kd.V_nil _ _ _ _ _ | exact Kd.Q_nil _ _ _ _ _ | exact Kd.S_nil _ _ _ _ _, by repeat (first | (with_reducible first | exact HB.out | apply below_alloc | apply pw_below_drewN | apply below_drew1 | refine below_set ?_ GE382.out | refine below_set ?_ GE383.out) | exact HB.out)⟩
  ·rw [if_neg c6] at H
   have c6b0 : (t384 == 0) = false := beq_eq_false_iff_ne.mpr c6
   have c6b1 : (t384 != 0) = true := bne_iff_ne.mpr c6
   simp only [Option.some.injEq, Prod.mk.injEq] at H
   obtain ⟨rfl, rfl⟩ := H
   go_enter Tryd.func61, Tryd.ntmps61
   go_wp2_with (first | ((with_reducible refine gate_dst (N := 6) rfl ?_); refine box_event ?hg (N := 6) ?hd (cs := #[.int .i64 a2_0, .int .i64 a2_1, .string a2_2]) (t := 55) ?hr ?_; (case hd => rfl); (case hg => rfl); (case hr => first | (go_simp; done) | (go_simp; rfl)); intro gb382 hg w27 hbox hb; have n0_ := ak (below_step d7_1 hb); have n1_ := ak (hbox); have n2_ := ak ((d7_14 : w.heap.size ≤ gb382)); have n3_ := ak ((d7_14 : w.heap.size ≤ gb382)); clear HB; have HB := n0_; have BK382 := n1_; have GW382 := n2_; have GE382 := n3_; clear n0_ n1_ n2_ n3_ hb hbox hg) | ((with_reducible refine gate_dst (N := 8) rfl ?_); refine box_event ?hg (N := 8) ?hd (cs := #[.int .i64 0, .slice none 0 0]) (t := 52) ?hr ?_; (case hd => rfl); (case hg => rfl); (case hr => first | (go_simp; done) | (go_simp; rfl)); intro gb383 hg w28 hbox hb; have n0_ := ak (blk_below (g := gb382) (o := .cells #[.int .i64 a2_0, .int .i64 a2_1, .string a2_2] 55 (0, 0)) d7_4 hb); have n1_ := ak (below_step d7_7 hb); have n2_ := ak (hbox); have n3_ := ak ((by rw [hg]; exact (below_size d7_7) : w.heap.size ≤ gb383)); have n4_ := ak ((by rw [hg]; exact (below_size d7_7) : w.heap.size ≤ gb383)); have n5_ := ak ((by rw [hg]; exact Nat.ne_of_lt (blk_lt (g := gb382) (o := .cells #[.int .i64 a2_0, .int .i64 a2_1, .string a2_2] 55 (0, 0)) d7_4) : gb382 ≠ gb383)); have n6_ := ak ((by rw [hg]; exact Nat.ne_of_gt (blk_lt (g := gb382) (o := .cells #[.int .i64 a2_0, .int .i64 a2_1, .string a2_2] 55 (0, 0)) d7_4) : gb383 ≠ gb382)); clear BK382 HB; have BK382 := n0_; have HB := n1_; have BK383 := n2_; have GW383 := n3_; have GE383 := n4_; have NB382_383 := n5_; have NB383_382 := n6_; clear n0_ n1_ n2_ n3_ n4_ n5_ n6_ hb hbox hg) | ((with_reducible refine gate_callee (f := 90) rfl ?_); refine goesL_ (some 15) rfl rfl Tryd.func90 (by kernel_rfl) rfl #[.slice A0 l0.length c0, .string a1] rfl d7_6 ?_; (with_reducible refine (impl_nameFault.calls k _ _ l0 a1 t384 _ ?side1 ?side2 A5.out).mono ?_); (case side1 => repeat (first | exact (Kd.C_below HR0.out HB.out) | (with_reducible refine Kd.C_alloc ?_ _) | (with_reducible refine Kd.C_drewN ?_ _) | (with_reducible refine Kd.C_drew ?_))); (case side2 => exact HC0.out); rintro e w29 ⟨rfl, hb⟩; refine ⟨_, rfl, ?_⟩; have n0_ := ak (blk_below (g := gb382) (o := .cells #[.int .i64 a2_0, .int .i64 a2_1, .string a2_2] 55 (0, 0)) d7_4 hb); have n1_ := ak (blk_below (g := gb383) (o := .cells #[.int .i64 0, .slice none 0 0] 52 (0, 0)) d7_12 hb); have n2_ := ak (below_step d7_9 hb); clear BK382 BK383 HB; have BK382 := n0_; have BK383 := n1_; have HB := n2_; clear n0_ n1_ n2_; (try clear hb); have hnb30 := NB383_382.out; have hnc30 := NB382_383.out; have hcz31_0 : w29.cell? ⟨gb383, 0, none⟩ = some (.int .i64 0) := (blk_cell BK383.out 0).trans rfl; have hcz31_1 : w29.cell? ⟨gb383, 1, none⟩ = some (.slice none 0 0) := (blk_cell BK383.out 1).trans rfl; have hfz31_0 := blk_frozen BK383.out 0; have hfz31_1 := blk_frozen BK383.out 1))
   refine bodyPost_ret (results_cell_row rfl _ _ gb383 52 #[.int .i64 t384, .slice none 0 0] (0, 0) _ rfl (by (with_reducible repeat (first | refine blk_drewN ?_ _ | refine blk_drew ?_ | refine blk_alloc ?_ _)); refine blk_put (cs := #[.int .i64 t384, .slice none 0 0]) ?_ 1 _ rfl; (with_reducible repeat (first | refine blk_drewN ?_ _ | refine blk_drew ?_ | refine blk_alloc ?_ _)); refine blk_put (cs := #[.int .i64 0, .slice none 0 0]) ?_ 0 _ rfl; (with_reducible repeat (first | refine blk_drewN ?_ _ | refine blk_drew ?_ | refine blk_alloc ?_ _)); exact BK383.out) Tryd.underlying52 rfl (by kernel_rfl)) rfl ?_
   exact ⟨_, by first | rfl | (simp [errW_none, errW_some] <;> rfl) | (simp [*, errW_none, errW_some] <;> rfl), by first | exact Kd.R_nil _ _ _ _ _ | exact Kd.N_nil _ _ _ _ _ | exact Kd.V_nil _ _ _ _ _ | exact Kd.Q_nil _ _ _ _ _ | exact Kd.S_nil _ _ _ _ _, by repeat (first | (with_reducible first | exact HB.out | apply below_alloc | apply pw_below_drewN | apply below_drew1 | refine below_set ?_ GE382.out | refine below_set ?_ GE383.out) | exact HB.out)⟩

/-! ### laws_eqValue: function 93 -/
def laws_eqValue.f (a0_0 : Int) (a0_1 : Int) (a0_2 : ByteArray) (a1_0 : Int) (a1_1 : Int) (a1_2 : ByteArray) : Option (Bool) := if a0_0 = a1_0 then (if a0_1 = a1_1 then (if a0_2.toList = a1_2.toList then (some true) else (some false)) else (some false)) else (some false)
set_option maxHeartbeats 8000000 in
set_option maxRecDepth 100000 in
theorem laws_eqValue.calls (a0_0 : Int) (a0_1 : Int) (a0_2 : ByteArray) (a1_0 : Int) (a1_1 : Int) (a1_2 : ByteArray) (r : Bool) (w : World) (h : laws_eqValue.f a0_0 a0_1 a0_2 a1_0 a1_1 a1_2 = some r) :
    Calls Tryd.prog 93 #[.agg #[.int .i64 a0_0, .int .i64 a0_1, .string a0_2], .agg #[.int .i64 a1_0, .int .i64 a1_1, .string a1_2]] w fun e w' => e = .returned (.bool r) ∧ Below w.heap.size w w' := by
  have hu55 := Tryd.underlying55
  have HB := ak (Below.refl w.heap.size w)
  have H : (if a0_0 = a1_0 then (if a0_1 = a1_1 then (if a0_2.toList = a1_2.toList then (some true) else (some false)) else (some false)) else (some false)) = some r := h
  clear h
  by_cases c3 : a0_0 = a1_0
  ·rw [if_pos c3] at H
   have c3b0 : (a0_0 == a1_0) = true := beq_iff_eq.mpr c3
   have c3b1 : (a0_0 != a1_0) = false := bne_eq_false_iff_eq.mpr c3
   clear c3
   by_cases c4 : a0_1 = a1_1
   ·rw [if_pos c4] at H
    have c4b0 : (a0_1 == a1_1) = true := beq_iff_eq.mpr c4
    have c4b1 : (a0_1 != a1_1) = false := bne_eq_false_iff_eq.mpr c4
    clear c4
    by_cases c5 : a0_2.toList = a1_2.toList
    ·rw [if_pos c5] at H
     have c5b0 : (a0_2.toList == a1_2.toList) = true := beq_iff_eq.mpr c5
     have c5b1 : (a0_2.toList != a1_2.toList) = false := bne_eq_false_iff_eq.mpr c5
     clear c5
     obtain rfl := Option.some.inj H
     go_enter Tryd.func93, Tryd.ntmps93
     go_wp2_with (first | ((with_reducible refine gate_dst (N := 2) rfl ?_); refine box_event ?hg (N := 2) ?hd (cs := #[.int .i64 a0_0, .int .i64 a0_1, .string a0_2]) (t := 55) ?hr ?_; (case hd => rfl); (case hg => rfl); (case hr => first | (go_simp; done) | (go_simp; rfl)); intro gb396 hg w6 hbox hb; have n0_ := ak (below_step d7_1 hb); have n1_ := ak (hbox); have n2_ := ak ((d7_14 : w.heap.size ≤ gb396)); have n3_ := ak ((d7_14 : w.heap.size ≤ gb396)); clear HB; have HB := n0_; have BK396 := n1_; have GW396 := n2_; have GE396 := n3_; clear n0_ n1_ n2_ n3_ hb hbox hg) | ((with_reducible refine gate_dst (N := 3) rfl ?_); refine box_event ?hg (N := 3) ?hd (cs := #[.int .i64 a1_0, .int .i64 a1_1, .string a1_2]) (t := 55) ?hr ?_; (case hd => rfl); (case hg => rfl); (case hr => first | (go_simp; done) | (go_simp; rfl)); intro gb397 hg w7 hbox hb; have n0_ := ak (blk_below (g := gb396) (o := .cells #[.int .i64 a0_0, .int .i64 a0_1, .string a0_2] 55 (0, 0)) d7_8 hb); have n1_ := ak (below_step d7_2 hb); have n2_ := ak (hbox); have n3_ := ak ((by rw [hg]; exact (below_size d7_2) : w.heap.size ≤ gb397)); have n4_ := ak ((by rw [hg]; exact (below_size d7_2) : w.heap.size ≤ gb397)); have n5_ := ak ((by rw [hg]; exact Nat.ne_of_lt (blk_lt (g := gb396) (o := .cells #[.int .i64 a0_0, .int .i64 a0_1, .string a0_2] 55 (0, 0)) d7_8) : gb396 ≠ gb397)); have n6_ := ak ((by rw [hg]; exact Nat.ne_of_gt (blk_lt (g := gb396) (o := .cells #[.int .i64 a0_0, .int .i64 a0_1, .string a0_2] 55 (0, 0)) d7_8) : gb397 ≠ gb396)); clear BK396 HB; have BK396 := n0_; have HB := n1_; have BK397 := n2_; have GW397 := n3_; have GE397 := n4_; have NB396_397 := n5_; have NB397_396 := n6_; clear n0_ n1_ n2_ n3_ n4_ n5_ n6_ hb hbox hg; have hnb8 := NB396_397.out; have hnc8 := NB397_396.out; have hcz9_0 : w7.cell? ⟨gb396, 0, none⟩ = some (.int .i64 a0_0) := (blk_cell BK396.out 0).trans rfl; have hcz9_1 : w7.cell? ⟨gb396, 1, none⟩ = some (.int .i64 a0_1) := (blk_cell BK396.out 1).trans rfl; have hcz9_2 : w7.cell? ⟨gb396, 2, none⟩ = some (.string a0_2) := (blk_cell BK396.out 2).trans rfl; have hfz9_0 := blk_frozen BK396.out 0; have hfz9_1 := blk_frozen BK396.out 1; have hfz9_2 := blk_frozen BK396.out 2; have hcz10_0 : w7.cell? ⟨gb397, 0, none⟩ = some (.int .i64 a1_0) := (blk_cell BK397.out 0).trans rfl; have hcz10_1 : w7.cell? ⟨gb397, 1, none⟩ = some (.int .i64 a1_1) := (blk_cell BK397.out 1).trans rfl; have hcz10_2 : w7.cell? ⟨gb397, 2, none⟩ = some (.string a1_2) := (blk_cell BK397.out 2).trans rfl; have hfz10_0 := blk_frozen BK397.out 0; have hfz10_1 := blk_frozen BK397.out 1; have hfz10_2 := blk_frozen BK397.out 2))
     go_ret
     exact ⟨by first | rfl | (simp [errW_none, errW_some] <;> rfl) | (simp [*, errW_none, errW_some] <;> rfl), by repeat (first | (with_reducible first | exact HB.out | apply below_alloc | apply pw_below_drewN | apply below_drew1 | refine below_set ?_ GE396.out | refine below_set ?_ GE397.out) | exact HB.out)⟩
    ·rw [if_neg c5] at H
     have c5b0 : (a0_2.toList == a1_2.toList) = false := beq_eq_false_iff_ne.mpr c5
     have c5b1 : (a0_2.toList != a1_2.toList) = true := bne_iff_ne.mpr c5
     obtain rfl := Option.some.inj H
     go_enter Tryd.func93, Tryd.ntmps93
     go_wp2_with (first | ((with_reducible refine gate_dst (N := 2) rfl ?_); refine box_event ?hg (N := 2) ?hd (cs := #[.int .i64 a0_0, .int .i64 a0_1, .string a0_2]) (t := 55) ?hr ?_; (case hd => rfl); (case hg => rfl); (case hr => first | (go_simp; done) | (go_simp; rfl)); intro gb396 hg w11 hbox hb; have n0_ := ak (below_step d7_1 hb); have n1_ := ak (hbox); have n2_ := ak ((d7_14 : w.heap.size ≤ gb396)); have n3_ := ak ((d7_14 : w.heap.size ≤ gb396)); clear HB; have HB := n0_; have BK396 := n1_; have GW396 := n2_; have GE396 := n3_; clear n0_ n1_ n2_ n3_ hb hbox hg) | ((with_reducible refine gate_dst (N := 3) rfl ?_); refine box_event ?hg (N := 3) ?hd (cs := #[.int .i64 a1_0, .int .i64 a1_1, .string a1_2]) (t := 55) ?hr ?_; (case hd => rfl); (case hg => rfl); (case hr => first | (go_simp; done) | (go_simp; rfl)); intro gb397 hg w12 hbox hb; have n0_ := ak (blk_below (g := gb396) (o := .cells #[.int .i64 a0_0, .int .i64 a0_1, .string a0_2] 55 (0, 0)) d7_8 hb); have n1_ := ak (below_step d7_2 hb); have n2_ := ak (hbox); have n3_ := ak ((by rw [hg]; exact (below_size d7_2) : w.heap.size ≤ gb397)); have n4_ := ak ((by rw [hg]; exact (below_size d7_2) : w.heap.size ≤ gb397)); have n5_ := ak ((by rw [hg]; exact Nat.ne_of_lt (blk_lt (g := gb396) (o := .cells #[.int .i64 a0_0, .int .i64 a0_1, .string a0_2] 55 (0, 0)) d7_8) : gb396 ≠ gb397)); have n6_ := ak ((by rw [hg]; exact Nat.ne_of_gt (blk_lt (g := gb396) (o := .cells #[.int .i64 a0_0, .int .i64 a0_1, .string a0_2] 55 (0, 0)) d7_8) : gb397 ≠ gb396)); clear BK396 HB; have BK396 := n0_; have HB := n1_; have BK397 := n2_; have GW397 := n3_; have GE397 := n4_; have NB396_397 := n5_; have NB397_396 := n6_; clear n0_ n1_ n2_ n3_ n4_ n5_ n6_ hb hbox hg; have hnb13 := NB396_397.out; have hnc13 := NB397_396.out; have hcz14_0 : w12.cell? ⟨gb396, 0, none⟩ = some (.int .i64 a0_0) := (blk_cell BK396.out 0).trans rfl; have hcz14_1 : w12.cell? ⟨gb396, 1, none⟩ = some (.int .i64 a0_1) := (blk_cell BK396.out 1).trans rfl; have hcz14_2 : w12.cell? ⟨gb396, 2, none⟩ = some (.string a0_2) := (blk_cell BK396.out 2).trans rfl; have hfz14_0 := blk_frozen BK396.out 0; have hfz14_1 := blk_frozen BK396.out 1; have hfz14_2 := blk_frozen BK396.out 2; have hcz15_0 : w12.cell? ⟨gb397, 0, none⟩ = some (.int .i64 a1_0) := (blk_cell BK397.out 0).trans rfl; have hcz15_1 : w12.cell? ⟨gb397, 1, none⟩ = some (.int .i64 a1_1) := (blk_cell BK397.out 1).trans rfl; have hcz15_2 : w12.cell? ⟨gb397, 2, none⟩ = some (.string a1_2) := (blk_cell BK397.out 2).trans rfl; have hfz15_0 := blk_frozen BK397.out 0; have hfz15_1 := blk_frozen BK397.out 1; have hfz15_2 := blk_frozen BK397.out 2))
     go_ret
     exact ⟨by first | rfl | (simp [errW_none, errW_some] <;> rfl) | (simp [*, errW_none, errW_some] <;> rfl), by repeat (first | (with_reducible first | exact HB.out | apply below_alloc | apply pw_below_drewN | apply below_drew1 | refine below_set ?_ GE396.out | refine below_set ?_ GE397.out) | exact HB.out)⟩
   ·rw [if_neg c4] at H
    have c4b0 : (a0_1 == a1_1) = false := beq_eq_false_iff_ne.mpr c4
    have c4b1 : (a0_1 != a1_1) = true := bne_iff_ne.mpr c4
    obtain rfl := Option.some.inj H
    go_enter Tryd.func93, Tryd.ntmps93
    go_wp2_with (first | ((with_reducible refine gate_dst (N := 2) rfl ?_); refine box_event ?hg (N := 2) ?hd (cs := #[.int .i64 a0_0, .int .i64 a0_1, .string a0_2]) (t := 55) ?hr ?_; (case hd => rfl); (case hg => rfl); (case hr => first | (go_simp; done) | (go_simp; rfl)); intro gb396 hg w16 hbox hb; have n0_ := ak (below_step d7_1 hb); have n1_ := ak (hbox); have n2_ := ak ((d7_14 : w.heap.size ≤ gb396)); have n3_ := ak ((d7_14 : w.heap.size ≤ gb396)); clear HB; have HB := n0_; have BK396 := n1_; have GW396 := n2_; have GE396 := n3_; clear n0_ n1_ n2_ n3_ hb hbox hg) | ((with_reducible refine gate_dst (N := 3) rfl ?_); refine box_event ?hg (N := 3) ?hd (cs := #[.int .i64 a1_0, .int .i64 a1_1, .string a1_2]) (t := 55) ?hr ?_; (case hd => rfl); (case hg => rfl); (case hr => first | (go_simp; done) | (go_simp; rfl)); intro gb397 hg w17 hbox hb; have n0_ := ak (blk_below (g := gb396) (o := .cells #[.int .i64 a0_0, .int .i64 a0_1, .string a0_2] 55 (0, 0)) d7_8 hb); have n1_ := ak (below_step d7_2 hb); have n2_ := ak (hbox); have n3_ := ak ((by rw [hg]; exact (below_size d7_2) : w.heap.size ≤ gb397)); have n4_ := ak ((by rw [hg]; exact (below_size d7_2) : w.heap.size ≤ gb397)); have n5_ := ak ((by rw [hg]; exact Nat.ne_of_lt (blk_lt (g := gb396) (o := .cells #[.int .i64 a0_0, .int .i64 a0_1, .string a0_2] 55 (0, 0)) d7_8) : gb396 ≠ gb397)); have n6_ := ak ((by rw [hg]; exact Nat.ne_of_gt (blk_lt (g := gb396) (o := .cells #[.int .i64 a0_0, .int .i64 a0_1, .string a0_2] 55 (0, 0)) d7_8) : gb397 ≠ gb396)); clear BK396 HB; have BK396 := n0_; have HB := n1_; have BK397 := n2_; have GW397 := n3_; have GE397 := n4_; have NB396_397 := n5_; have NB397_396 := n6_; clear n0_ n1_ n2_ n3_ n4_ n5_ n6_ hb hbox hg; have hnb18 := NB396_397.out; have hnc18 := NB397_396.out; have hcz19_0 : w17.cell? ⟨gb396, 0, none⟩ = some (.int .i64 a0_0) := (blk_cell BK396.out 0).trans rfl; have hcz19_1 : w17.cell? ⟨gb396, 1, none⟩ = some (.int .i64 a0_1) := (blk_cell BK396.out 1).trans rfl; have hcz19_2 : w17.cell? ⟨gb396, 2, none⟩ = some (.string a0_2) := (blk_cell BK396.out 2).trans rfl; have hfz19_0 := blk_frozen BK396.out 0; have hfz19_1 := blk_frozen BK396.out 1; have hfz19_2 := blk_frozen BK396.out 2; have hcz20_0 : w17.cell? ⟨gb397, 0, none⟩ = some (.int .i64 a1_0) := (blk_cell BK397.out 0).trans rfl; have hcz20_1 : w17.cell? ⟨gb397, 1, none⟩ = some (.int .i64 a1_1) := (blk_cell BK397.out 1).trans rfl; have hcz20_2 : w17.cell? ⟨gb397, 2, none⟩ = some (.string a1_2) := (blk_cell BK397.out 2).trans rfl; have hfz20_0 := blk_frozen BK397.out 0; have hfz20_1 := blk_frozen BK397.out 1; have hfz20_2 := blk_frozen BK397.out 2))
    go_ret
    exact ⟨by first | rfl | (simp [errW_none, errW_some] <;> rfl) | (simp [*, errW_none, errW_some] <;> rfl), by repeat (first | (with_reducible first | exact HB.out | apply below_alloc | apply pw_below_drewN | apply below_drew1 | refine below_set ?_ GE396.out | refine below_set ?_ GE397.out) | exact HB.out)⟩
  ·rw [if_neg c3] at H
   have c3b0 : (a0_0 == a1_0) = false := beq_eq_false_iff_ne.mpr c3
   have c3b1 : (a0_0 != a1_0) = true := bne_iff_ne.mpr c3
   obtain rfl := Option.some.inj H
   go_enter Tryd.func93, Tryd.ntmps93
   go_wp2_with (first | ((with_reducible refine gate_dst (N := 2) rfl ?_); refine box_event ?hg (N := 2) ?hd (cs := #[.int .i64 a0_0, .int .i64 a0_1, .string a0_2]) (t := 55) ?hr ?_; (case hd => rfl); (case hg => rfl); (case hr => first | (go_simp; done) | (go_simp; rfl)); intro gb396 hg w21 hbox hb; have n0_ := ak (below_step d7_1 hb); have n1_ := ak (hbox); have n2_ := ak ((d7_14 : w.heap.size ≤ gb396)); have n3_ := ak ((d7_14 : w.heap.size ≤ gb396)); clear HB; have HB := n0_; have BK396 := n1_; have GW396 := n2_; have GE396 := n3_; clear n0_ n1_ n2_ n3_ hb hbox hg) | ((with_reducible refine gate_dst (N := 3) rfl ?_); refine box_event ?hg (N := 3) ?hd (cs := #[.int .i64 a1_0, .int .i64 a1_1, .string a1_2]) (t := 55) ?hr ?_; (case hd => rfl); (case hg => rfl); (case hr => first | (go_simp; done) | (go_simp; rfl)); intro gb397 hg w22 hbox hb; have n0_ := ak (blk_below (g := gb396) (o := .cells #[.int .i64 a0_0, .int .i64 a0_1, .string a0_2] 55 (0, 0)) d7_8 hb); have n1_ := ak (below_step d7_2 hb); have n2_ := ak (hbox); have n3_ := ak ((by rw [hg]; exact (below_size d7_2) : w.heap.size ≤ gb397)); have n4_ := ak ((by rw [hg]; exact (below_size d7_2) : w.heap.size ≤ gb397)); have n5_ := ak ((by rw [hg]; exact Nat.ne_of_lt (blk_lt (g := gb396) (o := .cells #[.int .i64 a0_0, .int .i64 a0_1, .string a0_2] 55 (0, 0)) d7_8) : gb396 ≠ gb397)); have n6_ := ak ((by rw [hg]; exact Nat.ne_of_gt (blk_lt (g := gb396) (o := .cells #[.int .i64 a0_0, .int .i64 a0_1, .string a0_2] 55 (0, 0)) d7_8) : gb397 ≠ gb396)); clear BK396 HB; have BK396 := n0_; have HB := n1_; have BK397 := n2_; have GW397 := n3_; have GE397 := n4_; have NB396_397 := n5_; have NB397_396 := n6_; clear n0_ n1_ n2_ n3_ n4_ n5_ n6_ hb hbox hg; have hnb23 := NB396_397.out; have hnc23 := NB397_396.out; have hcz24_0 : w22.cell? ⟨gb396, 0, none⟩ = some (.int .i64 a0_0) := (blk_cell BK396.out 0).trans rfl; have hcz24_1 : w22.cell? ⟨gb396, 1, none⟩ = some (.int .i64 a0_1) := (blk_cell BK396.out 1).trans rfl; have hcz24_2 : w22.cell? ⟨gb396, 2, none⟩ = some (.string a0_2) := (blk_cell BK396.out 2).trans rfl; have hfz24_0 := blk_frozen BK396.out 0; have hfz24_1 := blk_frozen BK396.out 1; have hfz24_2 := blk_frozen BK396.out 2; have hcz25_0 : w22.cell? ⟨gb397, 0, none⟩ = some (.int .i64 a1_0) := (blk_cell BK397.out 0).trans rfl; have hcz25_1 : w22.cell? ⟨gb397, 1, none⟩ = some (.int .i64 a1_1) := (blk_cell BK397.out 1).trans rfl; have hcz25_2 : w22.cell? ⟨gb397, 2, none⟩ = some (.string a1_2) := (blk_cell BK397.out 2).trans rfl; have hfz25_0 := blk_frozen BK397.out 0; have hfz25_1 := blk_frozen BK397.out 1; have hfz25_2 := blk_frozen BK397.out 2))
   go_ret
   exact ⟨by first | rfl | (simp [errW_none, errW_some] <;> rfl) | (simp [*, errW_none, errW_some] <;> rfl), by repeat (first | (with_reducible first | exact HB.out | apply below_alloc | apply pw_below_drewN | apply below_drew1 | refine below_set ?_ GE396.out | refine below_set ?_ GE397.out) | exact HB.out)⟩

/-! ### laws_eqGlobal: function 62 -/
def laws_eqGlobal.f (a0_0 : ByteArray) (a0_1 : Int) (a0_2 : Int) (a0_3 : ByteArray) (a0_4 : Int) (a1_0 : ByteArray) (a1_1 : Int) (a1_2 : Int) (a1_3 : ByteArray) (a1_4 : Int) : Option (Bool) := if a0_0.toList = a1_0.toList then ((laws_eqValue.f a0_1 a0_2 a0_3 a1_1 a1_2 a1_3).bind fun t400 => (if t400 = true then (if a0_4 = a1_4 then (some true) else (some false)) else (some false))) else (some false)
set_option maxHeartbeats 8000000 in
set_option maxRecDepth 100000 in
theorem laws_eqGlobal.calls (a0_0 : ByteArray) (a0_1 : Int) (a0_2 : Int) (a0_3 : ByteArray) (a0_4 : Int) (a1_0 : ByteArray) (a1_1 : Int) (a1_2 : Int) (a1_3 : ByteArray) (a1_4 : Int) (r : Bool) (w : World) (h : laws_eqGlobal.f a0_0 a0_1 a0_2 a0_3 a0_4 a1_0 a1_1 a1_2 a1_3 a1_4 = some r) :
    Calls Tryd.prog 62 #[.agg #[.string a0_0, .int .i64 a0_1, .int .i64 a0_2, .string a0_3, .int .i64 a0_4], .agg #[.string a1_0, .int .i64 a1_1, .int .i64 a1_2, .string a1_3, .int .i64 a1_4]] w fun e w' => e = .returned (.bool r) ∧ Below w.heap.size w w' := by
  have hu98 := Tryd.underlying98
  have hu55 := Tryd.underlying55
  have HB := ak (Below.refl w.heap.size w)
  have H : (if a0_0.toList = a1_0.toList then ((laws_eqValue.f a0_1 a0_2 a0_3 a1_1 a1_2 a1_3).bind fun t400 => (if t400 = true then (if a0_4 = a1_4 then (some true) else (some false)) else (some false))) else (some false)) = some r := h
  clear h
  by_cases c3 : a0_0.toList = a1_0.toList
  ·rw [if_pos c3] at H
   have c3b0 : (a0_0.toList == a1_0.toList) = true := beq_iff_eq.mpr c3
   have c3b1 : (a0_0.toList != a1_0.toList) = false := bne_eq_false_iff_eq.mpr c3
   clear c3
   replace H := Option.bind_eq_some_iff.mp H
   obtain ⟨t400, A40, H⟩ := H
   replace H : (if t400 = true then (if a0_4 = a1_4 then (some true) else (some false)) else (some false)) = some r := H
   have A4 := ak A40
   clear A40
   by_cases c5 : t400 = true
   ·subst c5
    have H1 : (if a0_4 = a1_4 then (some true) else (some false)) = some r := by rw [if_pos rfl] at H; exact H
    clear H
    have H := H1
    clear H1
    by_cases c6 : a0_4 = a1_4
    ·rw [if_pos c6] at H
     have c6b0 : (a0_4 == a1_4) = true := beq_iff_eq.mpr c6
     have c6b1 : (a0_4 != a1_4) = false := bne_eq_false_iff_eq.mpr c6
     clear c6
     obtain rfl := Option.some.inj H
     go_enter Tryd.func62, Tryd.ntmps62
     go_wp2_with (first | ((with_reducible refine gate_dst (N := 2) rfl ?_); refine box_event ?hg (N := 2) ?hd (cs := #[.string a0_0, .int .i64 a0_1, .int .i64 a0_2, .string a0_3, .int .i64 a0_4]) (t := 98) ?hr ?_; (case hd => rfl); (case hg => rfl); (case hr => first | (go_simp; done) | (go_simp; rfl)); intro gb398 hg w7 hbox hb; have n0_ := ak (below_step d7_1 hb); have n1_ := ak (hbox); have n2_ := ak ((d7_14 : w.heap.size ≤ gb398)); have n3_ := ak ((d7_14 : w.heap.size ≤ gb398)); clear HB; have HB := n0_; have BK398 := n1_; have GW398 := n2_; have GE398 := n3_; clear n0_ n1_ n2_ n3_ hb hbox hg) | ((with_reducible refine gate_dst (N := 3) rfl ?_); refine box_event ?hg (N := 3) ?hd (cs := #[.string a1_0, .int .i64 a1_1, .int .i64 a1_2, .string a1_3, .int .i64 a1_4]) (t := 98) ?hr ?_; (case hd => rfl); (case hg => rfl); (case hr => first | (go_simp; done) | (go_simp; rfl)); intro gb399 hg w8 hbox hb; have n0_ := ak (blk_below (g := gb398) (o := .cells #[.string a0_0, .int .i64 a0_1, .int .i64 a0_2, .string a0_3, .int .i64 a0_4] 98 (0, 0)) d7_5 hb); have n1_ := ak (below_step d7_3 hb); have n2_ := ak (hbox); have n3_ := ak ((by rw [hg]; exact (below_size d7_3) : w.heap.size ≤ gb399)); have n4_ := ak ((by rw [hg]; exact (below_size d7_3) : w.heap.size ≤ gb399)); have n5_ := ak ((by rw [hg]; exact Nat.ne_of_lt (blk_lt (g := gb398) (o := .cells #[.string a0_0, .int .i64 a0_1, .int .i64 a0_2, .string a0_3, .int .i64 a0_4] 98 (0, 0)) d7_5) : gb398 ≠ gb399)); have n6_ := ak ((by rw [hg]; exact Nat.ne_of_gt (blk_lt (g := gb398) (o := .cells #[.string a0_0, .int .i64 a0_1, .int .i64 a0_2, .string a0_3, .int .i64 a0_4] 98 (0, 0)) d7_5) : gb399 ≠ gb398)); clear BK398 HB; have BK398 := n0_; have HB := n1_; have BK399 := n2_; have GW399 := n3_; have GE399 := n4_; have NB398_399 := n5_; have NB399_398 := n6_; clear n0_ n1_ n2_ n3_ n4_ n5_ n6_ hb hbox hg; have hnb9 := NB398_399.out; have hnc9 := NB399_398.out; have hcz10_0 : w8.cell? ⟨gb398, 0, none⟩ = some (.string a0_0) := (blk_cell BK398.out 0).trans rfl; have hcz10_1 : w8.cell? ⟨gb398, 1, none⟩ = some (.int .i64 a0_1) := (blk_cell BK398.out 1).trans rfl; have hcz10_2 : w8.cell? ⟨gb398, 2, none⟩ = some (.int .i64 a0_2) := (blk_cell BK398.out 2).trans rfl; have hcz10_3 : w8.cell? ⟨gb398, 3, none⟩ = some (.string a0_3) := (blk_cell BK398.out 3).trans rfl; have hcz10_4 : w8.cell? ⟨gb398, 4, none⟩ = some (.int .i64 a0_4) := (blk_cell BK398.out 4).trans rfl; have hfz10_0 := blk_frozen BK398.out 0; have hfz10_1 := blk_frozen BK398.out 1; have hfz10_2 := blk_frozen BK398.out 2; have hfz10_3 := blk_frozen BK398.out 3; have hfz10_4 := blk_frozen BK398.out 4; have hcz11_0 : w8.cell? ⟨gb399, 0, none⟩ = some (.string a1_0) := (blk_cell BK399.out 0).trans rfl; have hcz11_1 : w8.cell? ⟨gb399, 1, none⟩ = some (.int .i64 a1_1) := (blk_cell BK399.out 1).trans rfl; have hcz11_2 : w8.cell? ⟨gb399, 2, none⟩ = some (.int .i64 a1_2) := (blk_cell BK399.out 2).trans rfl; have hcz11_3 : w8.cell? ⟨gb399, 3, none⟩ = some (.string a1_3) := (blk_cell BK399.out 3).trans rfl; have hcz11_4 : w8.cell? ⟨gb399, 4, none⟩ = some (.int .i64 a1_4) := (blk_cell BK399.out 4).trans rfl; have hfz11_0 := blk_frozen BK399.out 0; have hfz11_1 := blk_frozen BK399.out 1; have hfz11_2 := blk_frozen BK399.out 2; have hfz11_3 := blk_frozen BK399.out 3; have hfz11_4 := blk_frozen BK399.out 4) | ((with_reducible refine gate_callee (f := 93) rfl ?_); refine goesL_ (some 14) rfl rfl Tryd.func93 (by kernel_rfl) rfl #[.agg #[.int .i64 a0_1, .int .i64 a0_2, .string a0_3], .agg #[.int .i64 a1_1, .int .i64 a1_2, .string a1_3]] rfl d7_6 ?_; (with_reducible refine (laws_eqValue.calls a0_1 a0_2 a0_3 a1_1 a1_2 a1_3 true _ A4.out).mono ?_); rintro e w12 ⟨rfl, hb⟩; refine ⟨_, rfl, ?_⟩; have n0_ := ak (blk_below (g := gb398) (o := .cells #[.string a0_0, .int .i64 a0_1, .int .i64 a0_2, .string a0_3, .int .i64 a0_4] 98 (0, 0)) d7_5 hb); have n1_ := ak (blk_below (g := gb399) (o := .cells #[.string a1_0, .int .i64 a1_1, .int .i64 a1_2, .string a1_3, .int .i64 a1_4] 98 (0, 0)) (by (with_reducible repeat (first | refine blk_drewN ?_ _ | refine blk_drew ?_ | refine blk_alloc ?_ _)); exact BK399.out) hb); have n2_ := ak (below_step d7_13 hb); clear BK398 BK399 HB; have BK398 := n0_; have BK399 := n1_; have HB := n2_; clear n0_ n1_ n2_; (try clear hb); have hcz13_0 : w12.cell? ⟨gb398, 0, none⟩ = some (.string a0_0) := (blk_cell BK398.out 0).trans rfl; have hcz13_1 : w12.cell? ⟨gb398, 1, none⟩ = some (.int .i64 a0_1) := (blk_cell BK398.out 1).trans rfl; have hcz13_2 : w12.cell? ⟨gb398, 2, none⟩ = some (.int .i64 a0_2) := (blk_cell BK398.out 2).trans rfl; have hcz13_3 : w12.cell? ⟨gb398, 3, none⟩ = some (.string a0_3) := (blk_cell BK398.out 3).trans rfl; have hcz13_4 : w12.cell? ⟨gb398, 4, none⟩ = some (.int .i64 a0_4) := (blk_cell BK398.out 4).trans rfl; have hfz13_0 := blk_frozen BK398.out 0; have hfz13_1 := blk_frozen BK398.out 1; have hfz13_2 := blk_frozen BK398.out 2; have hfz13_3 := blk_frozen BK398.out 3; have hfz13_4 := blk_frozen BK398.out 4; have hcz14_0 : w12.cell? ⟨gb399, 0, none⟩ = some (.string a1_0) := (blk_cell BK399.out 0).trans rfl; have hcz14_1 : w12.cell? ⟨gb399, 1, none⟩ = some (.int .i64 a1_1) := (blk_cell BK399.out 1).trans rfl; have hcz14_2 : w12.cell? ⟨gb399, 2, none⟩ = some (.int .i64 a1_2) := (blk_cell BK399.out 2).trans rfl; have hcz14_3 : w12.cell? ⟨gb399, 3, none⟩ = some (.string a1_3) := (blk_cell BK399.out 3).trans rfl; have hcz14_4 : w12.cell? ⟨gb399, 4, none⟩ = some (.int .i64 a1_4) := (blk_cell BK399.out 4).trans rfl; have hfz14_0 := blk_frozen BK399.out 0; have hfz14_1 := blk_frozen BK399.out 1; have hfz14_2 := blk_frozen BK399.out 2; have hfz14_3 := blk_frozen BK399.out 3; have hfz14_4 := blk_frozen BK399.out 4))
     go_ret
     exact ⟨by first | rfl | (simp [errW_none, errW_some] <;> rfl) | (simp [*, errW_none, errW_some] <;> rfl), by repeat (first | (with_reducible first | exact HB.out | apply below_alloc | apply pw_below_drewN | apply below_drew1 | refine below_set ?_ GE398.out | refine below_set ?_ GE399.out) | exact HB.out)⟩
    ·rw [if_neg c6] at H
     have c6b0 : (a0_4 == a1_4) = false := beq_eq_false_iff_ne.mpr c6
     have c6b1 : (a0_4 != a1_4) = true := bne_iff_ne.mpr c6
     obtain rfl := Option.some.inj H
     go_enter Tryd.func62, Tryd.ntmps62
     go_wp2_with (first | ((with_reducible refine gate_dst (N := 2) rfl ?_); refine box_event ?hg (N := 2) ?hd (cs := #[.string a0_0, .int .i64 a0_1, .int .i64 a0_2, .string a0_3, .int .i64 a0_4]) (t := 98) ?hr ?_; (case hd => rfl); (case hg => rfl); (case hr => first | (go_simp; done) | (go_simp; rfl)); intro gb398 hg w15 hbox hb; have n0_ := ak (below_step d7_1 hb); have n1_ := ak (hbox); have n2_ := ak ((d7_14 : w.heap.size ≤ gb398)); have n3_ := ak ((d7_14 : w.heap.size ≤ gb398)); clear HB; have HB := n0_; have BK398 := n1_; have GW398 := n2_; have GE398 := n3_; clear n0_ n1_ n2_ n3_ hb hbox hg) | ((with_reducible refine gate_dst (N := 3) rfl ?_); refine box_event ?hg (N := 3) ?hd (cs := #[.string a1_0, .int .i64 a1_1, .int .i64 a1_2, .string a1_3, .int .i64 a1_4]) (t := 98) ?hr ?_; (case hd => rfl); (case hg => rfl); (case hr => first | (go_simp; done) | (go_simp; rfl)); intro gb399 hg w16 hbox hb; have n0_ := ak (blk_below (g := gb398) (o := .cells #[.string a0_0, .int .i64 a0_1, .int .i64 a0_2, .string a0_3, .int .i64 a0_4] 98 (0, 0)) d7_5 hb); have n1_ := ak (below_step d7_3 hb); have n2_ := ak (hbox); have n3_ := ak ((by rw [hg]; exact (below_size d7_3) : w.heap.size ≤ gb399)); have n4_ := ak ((by rw [hg]; exact (below_size d7_3) : w.heap.size ≤ gb399)); have n5_ := ak ((by rw [hg]; exact Nat.ne_of_lt (blk_lt (g := gb398) (o := .cells #[.string a0_0, .int .i64 a0_1, .int .i64 a0_2, .string a0_3, .int .i64 a0_4] 98 (0, 0)) d7_5) : gb398 ≠ gb399)); have n6_ := ak ((by rw [hg]; exact Nat.ne_of_gt (blk_lt (g := gb398) (o := .cells #[.string a0_0, .int .i64 a0_1, .int .i64 a0_2, .string a0_3, .int .i64 a0_4] 98 (0, 0)) d7_5) : gb399 ≠ gb398)); clear BK398 HB; have BK398 := n0_; have HB := n1_; have BK399 := n2_; have GW399 := n3_; have GE399 := n4_; have NB398_399 := n5_; have NB399_398 := n6_; clear n0_ n1_ n2_ n3_ n4_ n5_ n6_ hb hbox hg; have hnb17 := NB398_399.out; have hnc17 := NB399_398.out; have hcz18_0 : w16.cell? ⟨gb398, 0, none⟩ = some (.string a0_0) := (blk_cell BK398.out 0).trans rfl; have hcz18_1 : w16.cell? ⟨gb398, 1, none⟩ = some (.int .i64 a0_1) := (blk_cell BK398.out 1).trans rfl; have hcz18_2 : w16.cell? ⟨gb398, 2, none⟩ = some (.int .i64 a0_2) := (blk_cell BK398.out 2).trans rfl; have hcz18_3 : w16.cell? ⟨gb398, 3, none⟩ = some (.string a0_3) := (blk_cell BK398.out 3).trans rfl; have hcz18_4 : w16.cell? ⟨gb398, 4, none⟩ = some (.int .i64 a0_4) := (blk_cell BK398.out 4).trans rfl; have hfz18_0 := blk_frozen BK398.out 0; have hfz18_1 := blk_frozen BK398.out 1; have hfz18_2 := blk_frozen BK398.out 2; have hfz18_3 := blk_frozen BK398.out 3; have hfz18_4 := blk_frozen BK398.out 4; have hcz19_0 : w16.cell? ⟨gb399, 0, none⟩ = some (.string a1_0) := (blk_cell BK399.out 0).trans rfl; have hcz19_1 : w16.cell? ⟨gb399, 1, none⟩ = some (.int .i64 a1_1) := (blk_cell BK399.out 1).trans rfl; have hcz19_2 : w16.cell? ⟨gb399, 2, none⟩ = some (.int .i64 a1_2) := (blk_cell BK399.out 2).trans rfl; have hcz19_3 : w16.cell? ⟨gb399, 3, none⟩ = some (.string a1_3) := (blk_cell BK399.out 3).trans rfl; have hcz19_4 : w16.cell? ⟨gb399, 4, none⟩ = some (.int .i64 a1_4) := (blk_cell BK399.out 4).trans rfl; have hfz19_0 := blk_frozen BK399.out 0; have hfz19_1 := blk_frozen BK399.out 1; have hfz19_2 := blk_frozen BK399.out 2; have hfz19_3 := blk_frozen BK399.out 3; have hfz19_4 := blk_frozen BK399.out 4) | ((with_reducible refine gate_callee (f := 93) rfl ?_); refine goesL_ (some 14) rfl rfl Tryd.func93 (by kernel_rfl) rfl #[.agg #[.int .i64 a0_1, .int .i64 a0_2, .string a0_3], .agg #[.int .i64 a1_1, .int .i64 a1_2, .string a1_3]] rfl d7_6 ?_; (with_reducible refine (laws_eqValue.calls a0_1 a0_2 a0_3 a1_1 a1_2 a1_3 true _ A4.out).mono ?_); rintro e w20 ⟨rfl, hb⟩; refine ⟨_, rfl, ?_⟩; have n0_ := ak (blk_below (g := gb398) (o := .cells #[.string a0_0, .int .i64 a0_1, .int .i64 a0_2, .string a0_3, .int .i64 a0_4] 98 (0, 0)) d7_5 hb); have n1_ := ak (blk_below (g := gb399) (o := .cells #[.string a1_0, .int .i64 a1_1, .int .i64 a1_2, .string a1_3, .int .i64 a1_4] 98 (0, 0)) (by (with_reducible repeat (first | refine blk_drewN ?_ _ | refine blk_drew ?_ | refine blk_alloc ?_ _)); exact BK399.out) hb); have n2_ := ak (below_step d7_13 hb); clear BK398 BK399 HB; have BK398 := n0_; have BK399 := n1_; have HB := n2_; clear n0_ n1_ n2_; (try clear hb); have hcz21_0 : w20.cell? ⟨gb398, 0, none⟩ = some (.string a0_0) := (blk_cell BK398.out 0).trans rfl; have hcz21_1 : w20.cell? ⟨gb398, 1, none⟩ = some (.int .i64 a0_1) := (blk_cell BK398.out 1).trans rfl; have hcz21_2 : w20.cell? ⟨gb398, 2, none⟩ = some (.int .i64 a0_2) := (blk_cell BK398.out 2).trans rfl; have hcz21_3 : w20.cell? ⟨gb398, 3, none⟩ = some (.string a0_3) := (blk_cell BK398.out 3).trans rfl; have hcz21_4 : w20.cell? ⟨gb398, 4, none⟩ = some (.int .i64 a0_4) := (blk_cell BK398.out 4).trans rfl; have hfz21_0 := blk_frozen BK398.out 0; have hfz21_1 := blk_frozen BK398.out 1; have hfz21_2 := blk_frozen BK398.out 2; have hfz21_3 := blk_frozen BK398.out 3; have hfz21_4 := blk_frozen BK398.out 4; have hcz22_0 : w20.cell? ⟨gb399, 0, none⟩ = some (.string a1_0) := (blk_cell BK399.out 0).trans rfl; have hcz22_1 : w20.cell? ⟨gb399, 1, none⟩ = some (.int .i64 a1_1) := (blk_cell BK399.out 1).trans rfl; have hcz22_2 : w20.cell? ⟨gb399, 2, none⟩ = some (.int .i64 a1_2) := (blk_cell BK399.out 2).trans rfl; have hcz22_3 : w20.cell? ⟨gb399, 3, none⟩ = some (.string a1_3) := (blk_cell BK399.out 3).trans rfl; have hcz22_4 : w20.cell? ⟨gb399, 4, none⟩ = some (.int .i64 a1_4) := (blk_cell BK399.out 4).trans rfl; have hfz22_0 := blk_frozen BK399.out 0; have hfz22_1 := blk_frozen BK399.out 1; have hfz22_2 := blk_frozen BK399.out 2; have hfz22_3 := blk_frozen BK399.out 3; have hfz22_4 := blk_frozen BK399.out 4))
     go_ret
     exact ⟨by first | rfl | (simp [errW_none, errW_some] <;> rfl) | (simp [*, errW_none, errW_some] <;> rfl), by repeat (first | (with_reducible first | exact HB.out | apply below_alloc | apply pw_below_drewN | apply below_drew1 | refine below_set ?_ GE398.out | refine below_set ?_ GE399.out) | exact HB.out)⟩
   ·replace c5 := Bool.eq_false_iff.mpr c5
    subst c5
    have H1 : (some false) = some r := by rw [if_neg (show ¬ (false = true) by decide)] at H; exact H
    clear H
    have H := H1
    clear H1
    obtain rfl := Option.some.inj H
    go_enter Tryd.func62, Tryd.ntmps62
    go_wp2_with (first | ((with_reducible refine gate_dst (N := 2) rfl ?_); refine box_event ?hg (N := 2) ?hd (cs := #[.string a0_0, .int .i64 a0_1, .int .i64 a0_2, .string a0_3, .int .i64 a0_4]) (t := 98) ?hr ?_; (case hd => rfl); (case hg => rfl); (case hr => first | (go_simp; done) | (go_simp; rfl)); intro gb398 hg w23 hbox hb; have n0_ := ak (below_step d7_1 hb); have n1_ := ak (hbox); have n2_ := ak ((d7_14 : w.heap.size ≤ gb398)); have n3_ := ak ((d7_14 : w.heap.size ≤ gb398)); clear HB; have HB := n0_; have BK398 := n1_; have GW398 := n2_; have GE398 := n3_; clear n0_ n1_ n2_ n3_ hb hbox hg) | ((with_reducible refine gate_dst (N := 3) rfl ?_); refine box_event ?hg (N := 3) ?hd (cs := #[.string a1_0, .int .i64 a1_1, .int .i64 a1_2, .string a1_3, .int .i64 a1_4]) (t := 98) ?hr ?_; (case hd => rfl); (case hg => rfl); (case hr => first | (go_simp; done) | (go_simp; rfl)); intro gb399 hg w24 hbox hb; have n0_ := ak (blk_below (g := gb398) (o := .cells #[.string a0_0, .int .i64 a0_1, .int .i64 a0_2, .string a0_3, .int .i64 a0_4] 98 (0, 0)) d7_5 hb); have n1_ := ak (below_step d7_3 hb); have n2_ := ak (hbox); have n3_ := ak ((by rw [hg]; exact (below_size d7_3) : w.heap.size ≤ gb399)); have n4_ := ak ((by rw [hg]; exact (below_size d7_3) : w.heap.size ≤ gb399)); have n5_ := ak ((by rw [hg]; exact Nat.ne_of_lt (blk_lt (g := gb398) (o := .cells #[.string a0_0, .int .i64 a0_1, .int .i64 a0_2, .string a0_3, .int .i64 a0_4] 98 (0, 0)) d7_5) : gb398 ≠ gb399)); have n6_ := ak ((by rw [hg]; exact Nat.ne_of_gt (blk_lt (g := gb398) (o := .cells #[.string a0_0, .int .i64 a0_1, .int .i64 a0_2, .string a0_3, .int .i64 a0_4] 98 (0, 0)) d7_5) : gb399 ≠ gb398)); clear BK398 HB; have BK398 := n0_; have HB := n1_; have BK399 := n2_; have GW399 := n3_; have GE399 := n4_; have NB398_399 := n5_; have NB399_398 := n6_; clear n0_ n1_ n2_ n3_ n4_ n5_ n6_ hb hbox hg; have hnb25 := NB398_399.out; have hnc25 := NB399_398.out; have hcz26_0 : w24.cell? ⟨gb398, 0, none⟩ = some (.string a0_0) := (blk_cell BK398.out 0).trans rfl; have hcz26_1 : w24.cell? ⟨gb398, 1, none⟩ = some (.int .i64 a0_1) := (blk_cell BK398.out 1).trans rfl; have hcz26_2 : w24.cell? ⟨gb398, 2, none⟩ = some (.int .i64 a0_2) := (blk_cell BK398.out 2).trans rfl; have hcz26_3 : w24.cell? ⟨gb398, 3, none⟩ = some (.string a0_3) := (blk_cell BK398.out 3).trans rfl; have hcz26_4 : w24.cell? ⟨gb398, 4, none⟩ = some (.int .i64 a0_4) := (blk_cell BK398.out 4).trans rfl; have hfz26_0 := blk_frozen BK398.out 0; have hfz26_1 := blk_frozen BK398.out 1; have hfz26_2 := blk_frozen BK398.out 2; have hfz26_3 := blk_frozen BK398.out 3; have hfz26_4 := blk_frozen BK398.out 4; have hcz27_0 : w24.cell? ⟨gb399, 0, none⟩ = some (.string a1_0) := (blk_cell BK399.out 0).trans rfl; have hcz27_1 : w24.cell? ⟨gb399, 1, none⟩ = some (.int .i64 a1_1) := (blk_cell BK399.out 1).trans rfl; have hcz27_2 : w24.cell? ⟨gb399, 2, none⟩ = some (.int .i64 a1_2) := (blk_cell BK399.out 2).trans rfl; have hcz27_3 : w24.cell? ⟨gb399, 3, none⟩ = some (.string a1_3) := (blk_cell BK399.out 3).trans rfl; have hcz27_4 : w24.cell? ⟨gb399, 4, none⟩ = some (.int .i64 a1_4) := (blk_cell BK399.out 4).trans rfl; have hfz27_0 := blk_frozen BK399.out 0; have hfz27_1 := blk_frozen BK399.out 1; have hfz27_2 := blk_frozen BK399.out 2; have hfz27_3 := blk_frozen BK399.out 3; have hfz27_4 := blk_frozen BK399.out 4) | ((with_reducible refine gate_callee (f := 93) rfl ?_); refine goesL_ (some 14) rfl rfl Tryd.func93 (by kernel_rfl) rfl #[.agg #[.int .i64 a0_1, .int .i64 a0_2, .string a0_3], .agg #[.int .i64 a1_1, .int .i64 a1_2, .string a1_3]] rfl d7_6 ?_; (with_reducible refine (laws_eqValue.calls a0_1 a0_2 a0_3 a1_1 a1_2 a1_3 false _ A4.out).mono ?_); rintro e w28 ⟨rfl, hb⟩; refine ⟨_, rfl, ?_⟩; have n0_ := ak (blk_below (g := gb398) (o := .cells #[.string a0_0, .int .i64 a0_1, .int .i64 a0_2, .string a0_3, .int .i64 a0_4] 98 (0, 0)) d7_5 hb); have n1_ := ak (blk_below (g := gb399) (o := .cells #[.string a1_0, .int .i64 a1_1, .int .i64 a1_2, .string a1_3, .int .i64 a1_4] 98 (0, 0)) (by (with_reducible repeat (first | refine blk_drewN ?_ _ | refine blk_drew ?_ | refine blk_alloc ?_ _)); exact BK399.out) hb); have n2_ := ak (below_step d7_13 hb); clear BK398 BK399 HB; have BK398 := n0_; have BK399 := n1_; have HB := n2_; clear n0_ n1_ n2_; (try clear hb)))
    go_ret
    exact ⟨by first | rfl | (simp [errW_none, errW_some] <;> rfl) | (simp [*, errW_none, errW_some] <;> rfl), by repeat (first | (with_reducible first | exact HB.out | apply below_alloc | apply pw_below_drewN | apply below_drew1 | refine below_set ?_ GE398.out | refine below_set ?_ GE399.out) | exact HB.out)⟩
  ·rw [if_neg c3] at H
   have c3b0 : (a0_0.toList == a1_0.toList) = false := beq_eq_false_iff_ne.mpr c3
   have c3b1 : (a0_0.toList != a1_0.toList) = true := bne_iff_ne.mpr c3
   obtain rfl := Option.some.inj H
   go_enter Tryd.func62, Tryd.ntmps62
   go_wp2_with (first | ((with_reducible refine gate_dst (N := 2) rfl ?_); refine box_event ?hg (N := 2) ?hd (cs := #[.string a0_0, .int .i64 a0_1, .int .i64 a0_2, .string a0_3, .int .i64 a0_4]) (t := 98) ?hr ?_; (case hd => rfl); (case hg => rfl); (case hr => first | (go_simp; done) | (go_simp; rfl)); intro gb398 hg w29 hbox hb; have n0_ := ak (below_step d7_1 hb); have n1_ := ak (hbox); have n2_ := ak ((d7_14 : w.heap.size ≤ gb398)); have n3_ := ak ((d7_14 : w.heap.size ≤ gb398)); clear HB; have HB := n0_; have BK398 := n1_; have GW398 := n2_; have GE398 := n3_; clear n0_ n1_ n2_ n3_ hb hbox hg) | ((with_reducible refine gate_dst (N := 3) rfl ?_); refine box_event ?hg (N := 3) ?hd (cs := #[.string a1_0, .int .i64 a1_1, .int .i64 a1_2, .string a1_3, .int .i64 a1_4]) (t := 98) ?hr ?_; (case hd => rfl); (case hg => rfl); (case hr => first | (go_simp; done) | (go_simp; rfl)); intro gb399 hg w30 hbox hb; have n0_ := ak (blk_below (g := gb398) (o := .cells #[.string a0_0, .int .i64 a0_1, .int .i64 a0_2, .string a0_3, .int .i64 a0_4] 98 (0, 0)) d7_5 hb); have n1_ := ak (below_step d7_3 hb); have n2_ := ak (hbox); have n3_ := ak ((by rw [hg]; exact (below_size d7_3) : w.heap.size ≤ gb399)); have n4_ := ak ((by rw [hg]; exact (below_size d7_3) : w.heap.size ≤ gb399)); have n5_ := ak ((by rw [hg]; exact Nat.ne_of_lt (blk_lt (g := gb398) (o := .cells #[.string a0_0, .int .i64 a0_1, .int .i64 a0_2, .string a0_3, .int .i64 a0_4] 98 (0, 0)) d7_5) : gb398 ≠ gb399)); have n6_ := ak ((by rw [hg]; exact Nat.ne_of_gt (blk_lt (g := gb398) (o := .cells #[.string a0_0, .int .i64 a0_1, .int .i64 a0_2, .string a0_3, .int .i64 a0_4] 98 (0, 0)) d7_5) : gb399 ≠ gb398)); clear BK398 HB; have BK398 := n0_; have HB := n1_; have BK399 := n2_; have GW399 := n3_; have GE399 := n4_; have NB398_399 := n5_; have NB399_398 := n6_; clear n0_ n1_ n2_ n3_ n4_ n5_ n6_ hb hbox hg; have hnb31 := NB398_399.out; have hnc31 := NB399_398.out; have hcz32_0 : w30.cell? ⟨gb398, 0, none⟩ = some (.string a0_0) := (blk_cell BK398.out 0).trans rfl; have hcz32_1 : w30.cell? ⟨gb398, 1, none⟩ = some (.int .i64 a0_1) := (blk_cell BK398.out 1).trans rfl; have hcz32_2 : w30.cell? ⟨gb398, 2, none⟩ = some (.int .i64 a0_2) := (blk_cell BK398.out 2).trans rfl; have hcz32_3 : w30.cell? ⟨gb398, 3, none⟩ = some (.string a0_3) := (blk_cell BK398.out 3).trans rfl; have hcz32_4 : w30.cell? ⟨gb398, 4, none⟩ = some (.int .i64 a0_4) := (blk_cell BK398.out 4).trans rfl; have hfz32_0 := blk_frozen BK398.out 0; have hfz32_1 := blk_frozen BK398.out 1; have hfz32_2 := blk_frozen BK398.out 2; have hfz32_3 := blk_frozen BK398.out 3; have hfz32_4 := blk_frozen BK398.out 4; have hcz33_0 : w30.cell? ⟨gb399, 0, none⟩ = some (.string a1_0) := (blk_cell BK399.out 0).trans rfl; have hcz33_1 : w30.cell? ⟨gb399, 1, none⟩ = some (.int .i64 a1_1) := (blk_cell BK399.out 1).trans rfl; have hcz33_2 : w30.cell? ⟨gb399, 2, none⟩ = some (.int .i64 a1_2) := (blk_cell BK399.out 2).trans rfl; have hcz33_3 : w30.cell? ⟨gb399, 3, none⟩ = some (.string a1_3) := (blk_cell BK399.out 3).trans rfl; have hcz33_4 : w30.cell? ⟨gb399, 4, none⟩ = some (.int .i64 a1_4) := (blk_cell BK399.out 4).trans rfl; have hfz33_0 := blk_frozen BK399.out 0; have hfz33_1 := blk_frozen BK399.out 1; have hfz33_2 := blk_frozen BK399.out 2; have hfz33_3 := blk_frozen BK399.out 3; have hfz33_4 := blk_frozen BK399.out 4))
   go_ret
   exact ⟨by first | rfl | (simp [errW_none, errW_some] <;> rfl) | (simp [*, errW_none, errW_some] <;> rfl), by repeat (first | (with_reducible first | exact HB.out | apply below_alloc | apply pw_below_drewN | apply below_drew1 | refine below_set ?_ GE398.out | refine below_set ?_ GE399.out) | exact HB.out)⟩

end Go.Proofs.YthjfdohcdkpdnaaDoor.A
