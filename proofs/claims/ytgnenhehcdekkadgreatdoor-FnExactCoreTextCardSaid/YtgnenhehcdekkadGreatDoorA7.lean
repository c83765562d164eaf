/- Walks of the program's functions: each Go function's answer as a plain Lean function, and that the call comes to it. Written by a program. Conditions: those in each theorem's own head. -/
import Derived.Test.YtgnenhehcdekkadGreatDoorA0
import Derived.Test.YtgnenhehcdekkadGreatDoorA6
namespace Go.Proofs.YtgnenhehcdekkadGreatDoor.A
open Go.RowKit Go.Proofs.YtgnenhehcdekkadGreatDoorW.PrintWords Go.Proofs.YtgnenhehcdekkadGreatDoorW.PrintLast Go.Proofs.YtgnenhehcdekkadGreatDoorW.PrintMore
attribute [local go_sem] max2_int min2_int max_two min_two max_three min_three max_four min_four   -- for this text's walks alone
set_option linter.unusedVariables false
set_option linter.unusedSimpArgs false

theorem d7_1 {p : Prop} (h : p := by repeat (first | (with_reducible first | exact HB.out | apply below_alloc | apply pw_below_drewN | apply below_drew1) | exact HB.out)) : p := h
theorem d7_2 {p : Prop} (h : p := by first | rfl | (simp; done) | (simp [*]; done) | (simp [ne_nil_b, eq_nil_b]; done)) : p := h
theorem d7_3 {p : Prop} (h : p := by (try simp only [List.map_toArray, List.map_cons, List.map_nil]); first | done | rfl | (simp only [List.length_drop, List.length_take]; rfl)) : p := h
theorem d7_4 {p : Prop} (h : p := by first | (with_reducible assumption) | assumption) : p := h
theorem c7_1 {p : Prop} (h : p := by repeat (first | (with_reducible first | exact HB.out | apply below_alloc | apply pw_below_drewN | apply below_drew1) | exact HB.out)) : p := h
theorem c7_2 {p : Prop} (h : p := by repeat (first | exact (Kd.C_below HR0.out HB.out) | (with_reducible refine Kd.C_alloc ?_ _) | (with_reducible refine Kd.C_drewN ?_ _) | (with_reducible refine Kd.C_drew ?_))) : p := h
theorem c7_3 {p : Prop} (h : p := by repeat (first | exact Drawn0.refl _ | apply Drawn0.step)) : p := h
theorem c7_4 {p : Prop} (h : p := by first | rfl | (simp; done) | (simp [*]; done) | (simp [ne_nil_b, eq_nil_b]; done)) : p := h
theorem c7_5 {p : Prop} (h : p := by first | rfl | (simp [errW_none, errW_some] <;> rfl) | (simp [*, errW_none, errW_some] <;> rfl)) : p := h
set_option maxHeartbeats 8000000
set_option maxRecDepth 100000

/-! ### spec_l4Many: function 20 -/
def spec_l4Many.j0 : Nat → Int → Int → Bool → Option (Bool)
  | 0, _, _, _ => none
  | k + 1, x1, x5, x10 => if x10 = true then (some (x1 == 1)) else (if x5 = 6 then (some (decide (x1 ≥ 1))) else (if x5 = 9 then (if x1 ≥ 1 then (some (decide (x1 ≤ 4))) else (some false)) else (some (x1 == 0))))
def spec_l4Many.f (k : Nat) (a0 : Int) (a1 : Int) : Option (Bool) := if a0 = 4 then (some (a1 == 3)) else (if a0 = 5 then (spec_l4Many.j0 k a1 a0 (a0 == 5)) else (if a0 = 7 then (spec_l4Many.j0 k a1 a0 (a0 == 7)) else (spec_l4Many.j0 k a1 a0 (a0 == 8))))
theorem spec_l4Many.mono_l : ∀ k, (∀ y0 y1 y2, LeO (spec_l4Many.j0 k y0 y1 y2) (spec_l4Many.j0 (k + 1) y0 y1 y2))
  | 0 => fun _ _ _ r h => by simp [spec_l4Many.j0] at h
  | k + 1 => by
    have ih0 := spec_l4Many.mono_l k
    · intro y0 y1 y2
      unfold spec_l4Many.j0
      repeat' first | (with_reducible first | apply ih0 | exact LeO.refl _ | exact LeO.none _ | refine LeO.ite ?_ ?_ | refine LeO.bind ?_ (fun _ => ?_)) | apply ih0 | exact LeO.none _ | refine LeO.ite ?_ ?_ | refine LeO.bind ?_ (fun _ => ?_)
theorem spec_l4Many.mono : ∀ a0 a1 k, LeO (spec_l4Many.f k a0 a1) (spec_l4Many.f (k + 1) a0 a1) := by
  intro a0 a1 k; have ih0 := spec_l4Many.mono_l k; unfold spec_l4Many.f
  repeat' first | (with_reducible first | apply ih0 | exact LeO.refl _ | exact LeO.none _ | refine LeO.ite ?_ ?_ | refine LeO.bind ?_ (fun _ => ?_)) | apply ih0 | exact LeO.none _ | refine LeO.ite ?_ ?_ | refine LeO.bind ?_ (fun _ => ?_)
theorem spec_l4Many.calls (k : Nat) (a0 : Int) (a1 : Int) (r : Bool) (w : World) (h : spec_l4Many.f k a0 a1 = some r) :
    Calls Tryz.prog 20 #[.int .i64 a0, .int .i64 a1] w fun e w' => e = .returned (.bool r) ∧ Drawn0 w w' := by
  have H := h; clear h; unfold spec_l4Many.f at H; by_cases c3 : a0 = 4
  ·rw [if_pos c3] at H
   have c3b0 : (a0 == 4) = true := beq_iff_eq.mpr c3; have c3b1 : (a0 != 4) = false := bne_eq_false_iff_eq.mpr c3; clear c3; obtain rfl := Option.some.inj H; go_enter Tryz.func20, Tryz.ntmps20; go_wp2; go_ret; exact ⟨c7_4, c7_3⟩
  ·rw [if_neg c3] at H
   have c3b0 : (a0 == 4) = false := beq_eq_false_iff_ne.mpr c3; have c3b1 : (a0 != 4) = true := bne_iff_ne.mpr c3; have HC4 := ak H; clear H; go_enter Tryz.func20, Tryz.ntmps20; go_upto_if 10 with (fail); go_cut [10] (fun v10 wc => ∃ (kq : Nat) (x10_3 : Bool), v10 = .bool x10_3 ∧ Aside0 (spec_l4Many.j0 kq a1 a0 x10_3 = some r) ∧ Aside0 (kq ≤ k) ∧ Drawn0 w wc)
   case first =>
    have H := HC4.out; clear HC4; by_cases c5 : a0 = 5
    ·rw [if_pos c5] at H
     have c5b0 : (a0 == 5) = true := beq_iff_eq.mpr c5; have c5b1 : (a0 != 5) = false := bne_eq_false_iff_eq.mpr c5; clear c5
     (first | rw [c5b0] | (simp only [i64_w, i32_w]; rw [c5b0]) | skip)
     have H' := ak H; clear H; go_wp2; go_meet
     case rel => exact ⟨_, ((a0 == 5)), d7_2, H', ⟨by first | omega | exact Nat.le_refl _⟩, c7_3⟩
    ·rw [if_neg c5] at H
     have c5b0 : (a0 == 5) = false := beq_eq_false_iff_ne.mpr c5; have c5b1 : (a0 != 5) = true := bne_iff_ne.mpr c5
     (first | rw [c5b0] | (simp only [i64_w, i32_w]; rw [c5b0]) | skip)
     by_cases c6 : a0 = 7
     ·rw [if_pos c6] at H
      have c6b0 : (a0 == 7) = true := beq_iff_eq.mpr c6; have c6b1 : (a0 != 7) = false := bne_eq_false_iff_eq.mpr c6; clear c6; have H' := ak H; clear H; go_wp2; go_meet
      case rel => exact ⟨_, ((a0 == 7)), d7_2, H', ⟨by first | omega | exact Nat.le_refl _⟩, c7_3⟩
     ·rw [if_neg c6] at H
      have c6b0 : (a0 == 7) = false := beq_eq_false_iff_ne.mpr c6; have c6b1 : (a0 != 7) = true := bne_iff_ne.mpr c6; have H' := ak H; clear H; go_wp2; go_meet
      case rel => exact ⟨_, ((a0 == 8)), d7_2, H', ⟨by first | omega | exact Nat.le_refl _⟩, c7_3⟩
   case rest =>
    clear HC4
    (try clear c2); (try clear p2); (try clear c3); (try clear c3b0); (try clear c3b1)
    obtain ⟨kq, x10_3, rfl, HA, HJ3, ⟨mc3, rfl⟩⟩ := hcut
    cases kq with
    | zero => exact absurd HA.out (by simp [spec_l4Many.j0])
    | succ kj3 =>
     have H := HA.out; clear HA; simp only [spec_l4Many.j0] at H; by_cases c7 : x10_3 = true
     ·subst c7
      rw [if_pos rfl] at H; obtain rfl := Option.some.inj H; go_wp2; go_ret; exact ⟨c7_4, c7_3⟩
     ·replace c7 := Bool.eq_false_iff.mpr c7
      subst c7
      rw [if_neg (show ¬ (false = true) by decide)] at H; by_cases c8 : a0 = 6
      ·rw [if_pos c8] at H
       have c8b0 : (a0 == 6) = true := beq_iff_eq.mpr c8; have c8b1 : (a0 != 6) = false := bne_eq_false_iff_eq.mpr c8; clear c8; obtain rfl := Option.some.inj H; go_wp2; go_ret; exact ⟨c7_4, c7_3⟩
      ·rw [if_neg c8] at H
       have c8b0 : (a0 == 6) = false := beq_eq_false_iff_ne.mpr c8; have c8b1 : (a0 != 6) = true := bne_iff_ne.mpr c8; by_cases c9 : a0 = 9
       ·rw [if_pos c9] at H
        have c9b0 : (a0 == 9) = true := beq_iff_eq.mpr c9; have c9b1 : (a0 != 9) = false := bne_eq_false_iff_eq.mpr c9; clear c9; by_cases c10 : a1 ≥ 1
        ·rw [if_pos c10] at H
         have c10b0 : decide (1 ≤ a1) = true := decide_eq_true c10; clear c10; obtain rfl := Option.some.inj H; go_wp2; go_ret; exact ⟨c7_4, c7_3⟩
        ·rw [if_neg c10] at H
         have c10b0 : decide (1 ≤ a1) = false := decide_eq_false c10; clear c10; obtain rfl := Option.some.inj H; go_wp2; go_ret; exact ⟨c7_4, c7_3⟩
       ·rw [if_neg c9] at H
        have c9b0 : (a0 == 9) = false := beq_eq_false_iff_ne.mpr c9; have c9b1 : (a0 != 9) = true := bne_iff_ne.mpr c9; obtain rfl := Option.some.inj H; go_wp2; go_ret; exact ⟨c7_4, c7_3⟩

/-! ### spec_l4Kids: function 21 -/
def spec_l4Kids.l0 : Nat → List (S40) → Int → List Int → Int → Option (List Int)
  | 0, _, _, _, _ => none
  | k + 1, x0, x1, x5, x6 => if x6 < (x0.length : Int) then (if 0 ≤ x6 then (if ((rd_T40 x0 x6).f1) = x1 then (if x5.length < 17592186044416 then (spec_l4Kids.l0 k x0 x1 (x5 ++ [x6]) (wrap64 (x6 + 1))) else (none)) else (spec_l4Kids.l0 k x0 x1 x5 (wrap64 (x6 + 1)))) else (none)) else (some x5)
def spec_l4Kids.f (k : Nat) (l0 : List (S40)) (a1 : Int) : Option (List Int) := spec_l4Kids.l0 k l0 a1 (([] : List Int)) 0
theorem spec_l4Kids.mono_l : ∀ k, (∀ y0 y1 y2 y3, LeO (spec_l4Kids.l0 k y0 y1 y2 y3) (spec_l4Kids.l0 (k + 1) y0 y1 y2 y3))
  | 0 => fun _ _ _ _ r h => by simp [spec_l4Kids.l0] at h
  | k + 1 => by
    have ih0 := spec_l4Kids.mono_l k
    · intro y0 y1 y2 y3
      unfold spec_l4Kids.l0
      repeat' first | (with_reducible first | apply ih0 | exact LeO.refl _ | exact LeO.none _ | refine LeO.ite ?_ ?_ | refine LeO.bind ?_ (fun _ => ?_)) | apply ih0 | exact LeO.none _ | refine LeO.ite ?_ ?_ | refine LeO.bind ?_ (fun _ => ?_)
theorem spec_l4Kids.mono : ∀ a0 a1 k, LeO (spec_l4Kids.f k a0 a1) (spec_l4Kids.f (k + 1) a0 a1) := by
  intro a0 a1 k; have ih0 := spec_l4Kids.mono_l k; unfold spec_l4Kids.f
  repeat' first | (with_reducible first | apply ih0 | exact LeO.refl _ | exact LeO.none _ | refine LeO.ite ?_ ?_ | refine LeO.bind ?_ (fun _ => ?_)) | apply ih0 | exact LeO.none _ | refine LeO.ite ?_ ?_ | refine LeO.bind ?_ (fun _ => ?_)
theorem spec_l4Kids.calls (k : Nat) (A0 : Option Addr) (c0 : Nat) (l0 : List (S40)) (a1 : Int) (r : List Int) (w : World) (hr0 : Kd.C k40 w A0 l0.length l0) (hc0 : l0.length ≤ c0) (h : spec_l4Kids.f k l0 a1 = some r) :
    Calls Tryz.prog 21 #[.slice A0 l0.length c0, .int .i64 a1] w fun e w' => ∃ v0_ : Value, e = .returned (v0_) ∧ Kd.R (Kd.int .i64) 2 w' w.heap.size (fun _ => True) v0_ r ∧ Below w.heap.size w w' := by
  have HR0 := ak hr0; have HC0 := ak hc0; clear hr0 hc0; have HB := ak (Below.refl w.heap.size w); have H := h; clear h; unfold spec_l4Kids.f at H; obtain ⟨y167, hy167⟩ : ∃ y_ : List Int, y_ = (([] : List Int)) := ⟨_, rfl⟩
  replace H : (spec_l4Kids.l0 k l0 a1 y167 0) = some r := by first | (rw [hy167]; with_reducible exact H) | (have H2_ := (Option.bind_some _ _).symm.trans H; rw [hy167]; with_reducible exact H2_) | (have H2_ := (Option.bind_some _ _).symm.trans H; with_reducible exact H2_) | with_reducible exact H | (rw [hy167]; exact H) | exact H
  have Ny167 := ak hy167; clear hy167; have H' := ak H; clear H; go_enter Tryz.func21, Tryz.ntmps21; go_wp2_with (first | ((with_reducible refine gate_dst (N := 7) rfl ?_); refine Kd.R_lit (Kd.int .i64) _ 2 ?hg (N := 7) ?hd (xs := ([] : List Int)) (inner := []) (ok := fun _ => True) (okp := fun _ => True) ?hr ?hp (fun _ hk => hk) trivial (Below.refl _ _) (Nat.le_refl _) (by simp) ?_; (case hd => rfl); (case hg => rfl); (case hr => first | (go_simp; done) | (go_simp; rfl)); (case hp => exact (Reps.none _ _)); intro v168 w3 ho4 hb hg_ hnew_; clear hg_ hnew_; (first | rw [← Ny167.out] at ho4 | (simp only [Int.reduceToNat] at ho4; rw [← Ny167.out] at ho4)); have n0_ := ak (Kd.R_lower ho4 (below_size d7_1)); have n1_ := ak (below_step d7_1 hb); clear HB; have HO169 := n0_; have HB := n1_; clear n0_ n1_ hb ho4)); go_loopg [5, 6] k (fun kq v5 v6 w' => ∃ (x5_1 : List Int) (x6_1 : Int), v6 = .int .i64 x6_1 ∧ Aside0 (spec_l4Kids.l0 kq l0 a1 x5_1 x6_1 = some r) ∧ Aside0 (kq ≤ k) ∧ Aside0 (Kd.R (Kd.int .i64) 2 w' w.heap.size (fun _ => True) v5 x5_1) ∧ Aside0 (Below w.heap.size w w'))
  case atStart => exact ⟨(y167), (0), d7_2, H', ⟨Nat.le_refl _⟩, ⟨by (with_reducible repeat (first | apply Kd.R_alloc | apply Kd.R_drewN | apply Kd.R_drew)); exact HO169.out⟩, ⟨c7_1⟩⟩
  case round =>
   clear H'
   (try clear c2); (try clear p2)
   obtain ⟨x5_1, x6_1, rfl, HA, HK1, HO_5, HB⟩ := hrel
   cases gk with
   | zero => exact absurd HA.out (by simp [spec_l4Kids.l0])
   | succ k1 =>
    have H := HA.out; clear HA; simp only [spec_l4Kids.l0] at H; by_cases c5 : x6_1 < (l0.length : Int)
    ·rw [if_pos c5] at H
     have c5b0 : decide (x6_1 < (l0.length : Int)) = true := decide_eq_true c5; clear c5; by_cases c6 : 0 ≤ x6_1
     ·rw [if_pos c6] at H
      have c6b0 : decide (0 ≤ x6_1) = true := decide_eq_true c6; clear c6; by_cases c7 : ((rd_T40 l0 x6_1).f1) = a1
      ·rw [if_pos c7] at H
       have c7b0 : (((rd_T40 l0 x6_1).f1) == a1) = true := beq_iff_eq.mpr c7; have c7b1 : (((rd_T40 l0 x6_1).f1) != a1) = false := bne_eq_false_iff_eq.mpr c7; clear c7; by_cases c8 : x5_1.length < 17592186044416
       ·rw [if_pos c8] at H
        have LMc8 := ak c8; clear c8; obtain ⟨y171, hy171⟩ : ∃ y_ : List Int, y_ = (x5_1 ++ [x6_1]) := ⟨_, rfl⟩
        replace H : (spec_l4Kids.l0 k1 l0 a1 y171 (wrap64 (x6_1 + 1))) = some r := by first | (rw [hy171]; with_reducible exact H) | (have H2_ := (Option.bind_some _ _).symm.trans H; rw [hy171]; with_reducible exact H2_) | (have H2_ := (Option.bind_some _ _).symm.trans H; with_reducible exact H2_) | with_reducible exact H | (rw [hy171]; exact H) | exact H
        have Ny171 := ak hy171; clear hy171; have H' := ak H; clear H; have p170 : 0 ≤ (x6_1 : Int) := of_decide_eq_true d7_4; have q170 : x6_1 < (l0.length : Int) := of_decide_eq_true d7_4; obtain ⟨ad170, A170_5, c170_5, e170, hx170_0, hx170_1, hx170_2, hx170_3, hx170_4, hx170_5, hl170_5, hi170_5⟩ := at_T40 HR0.out x6_1 p170 q170
        cases e170
        replace hx170_0 := (HB.out.cell (World.block_lt_of_cell? w _ hx170_0)).trans hx170_0; replace hx170_1 := (HB.out.cell (World.block_lt_of_cell? w _ hx170_1)).trans hx170_1; replace hx170_2 := (HB.out.cell (World.block_lt_of_cell? w _ hx170_2)).trans hx170_2; replace hx170_3 := (HB.out.cell (World.block_lt_of_cell? w _ hx170_3)).trans hx170_3; replace hx170_4 := (HB.out.cell (World.block_lt_of_cell? w _ hx170_4)).trans hx170_4; replace hx170_5 := (HB.out.cell (World.block_lt_of_cell? w _ hx170_5)).trans hx170_5; have HR170_5 := ak hi170_5; have HC170_5 := ak hl170_5; clear hi170_5 hl170_5; replace p170 := eq_true p170; replace q170 := eq_true q170
        go_wp2_with (first | ((with_reducible refine gate_builtin (b := .append) (xs := #[.tmp 21, .tmp 23]) rfl ?_); at_builtin; refine Kd.R_append (Kd.int .i64) (w0 := w) w.heap.size rfl (.tmp 21) (.tmp 23) 49 2 (.int .i64 0) 8 rfl Tryz.underlying49 info2 rfl (by decide) (by omega) u5 x5_1 x6_1 [.int .i64 x6_1] (fun _ => True) (fun _ => False) rfl rfl ?aP (fun _ hk => hk.elim) ?aF ?aO ?aB ?aS ?aL ?_; (case aP => exact rfl); (case aB => exact d7_1); (case aF => exact (fun _ _ => trivial)); (case aO => exact (by (with_reducible repeat (first | apply Kd.R_alloc | apply Kd.R_drewN | apply Kd.R_drew)); exact HO_5.out)); (case aS => exact (below_size d7_1)); (case aL => have := LMc8.out; omega); intro v172 w9 ho hb hg hat; rw [← Ny171.out] at ho; have n0_ := ak (hb); have n1_ := ak (ho); clear HB HO_5; have HB := n0_; have HO173 := n1_; clear n0_ n1_ ho hb hg hat)); go_roundg k1
        case measure => have := HK1.out; omega
        case rel => exact ⟨(y171), (wrap64 (x6_1 + 1)), d7_2, H', ⟨by have := HK1.out; omega⟩, ⟨by (with_reducible repeat (first | apply Kd.R_alloc | apply Kd.R_drewN | apply Kd.R_drew)); exact HO173.out⟩, ⟨c7_1⟩⟩
       ·rw [if_neg c8] at H
        exact absurd H (by simp)
      ·rw [if_neg c7] at H
       have c7b0 : (((rd_T40 l0 x6_1).f1) == a1) = false := beq_eq_false_iff_ne.mpr c7; have c7b1 : (((rd_T40 l0 x6_1).f1) != a1) = true := bne_iff_ne.mpr c7; have H' := ak H; clear H; have p170 : 0 ≤ (x6_1 : Int) := of_decide_eq_true d7_4; have q170 : x6_1 < (l0.length : Int) := of_decide_eq_true d7_4; obtain ⟨ad170, A170_5, c170_5, e170, hx170_0, hx170_1, hx170_2, hx170_3, hx170_4, hx170_5, hl170_5, hi170_5⟩ := at_T40 HR0.out x6_1 p170 q170
       cases e170
       replace hx170_0 := (HB.out.cell (World.block_lt_of_cell? w _ hx170_0)).trans hx170_0; replace hx170_1 := (HB.out.cell (World.block_lt_of_cell? w _ hx170_1)).trans hx170_1; replace hx170_2 := (HB.out.cell (World.block_lt_of_cell? w _ hx170_2)).trans hx170_2; replace hx170_3 := (HB.out.cell (World.block_lt_of_cell? w _ hx170_3)).trans hx170_3; replace hx170_4 := (HB.out.cell (World.block_lt_of_cell? w _ hx170_4)).trans hx170_4; replace hx170_5 := (HB.out.cell (World.block_lt_of_cell? w _ hx170_5)).trans hx170_5; have HR170_5 := ak hi170_5; have HC170_5 := ak hl170_5; clear hi170_5 hl170_5; replace p170 := eq_true p170; replace q170 := eq_true q170; go_wp2; go_roundg k1
       case measure => have := HK1.out; omega
       case rel => exact ⟨(x5_1), (wrap64 (x6_1 + 1)), d7_2, H', ⟨by have := HK1.out; omega⟩, ⟨by (with_reducible repeat (first | apply Kd.R_alloc | apply Kd.R_drewN | apply Kd.R_drew)); exact HO_5.out⟩, ⟨c7_1⟩⟩
     ·rw [if_neg c6] at H
      exact absurd H (by simp)
    ·rw [if_neg c5] at H
     have c5b0 : decide (x6_1 < (l0.length : Int)) = false := decide_eq_false c5; clear c5; obtain rfl := Option.some.inj H; go_wp2; go_ret; exact ⟨_, c7_5, by (with_reducible repeat (first | apply Kd.R_alloc | apply Kd.R_drewN | apply Kd.R_drew)); exact HO_5.out, c7_1⟩

/-! ### spec_l4Fault: function 11 -/
mutual
def spec_l4Fault.j0 : Nat → List (S40) → Bool → Option (Int)
  | 0, _, _ => none
  | k + 1, x0, x13 => if x13 = true then (some 2) else (spec_l4Fault.l0 k x0 0)
def spec_l4Fault.l0 : Nat → List (S40) → Int → Option (Int)
  | 0, _, _ => none
  | k + 1, x0, x3 => if x3 < (x0.length : Int) then ((spec_l4One.f k x0 x3).bind fun t174 => (if t174 = 0 then (spec_l4Fault.l0 k x0 (wrap64 (x3 + 1))) else (some t174))) else (spec_l4Fault.l1 k x0 0)
def spec_l4Fault.l1 : Nat → List (S40) → Int → Option (Int)
  | 0, _, _ => none
  | k + 1, x0, x5 => if x5 < (x0.length : Int) then (if 0 ≤ x5 then ((spec_l4Kids.f k x0 x5).bind fun t176 => ((spec_l4Many.f k ((rd_T40 x0 x5).f0) (t176.length : Int)).bind fun t179 => (if t179 = true then (spec_l4Fault.l1 k x0 (wrap64 (x5 + 1))) else (some 1)))) else (none)) else (some 0)
end
def spec_l4Fault.f (k : Nat) (l0 : List (S40)) : Option (Int) := if (l0.length : Int) < 1 then (spec_l4Fault.j0 k l0 true) else (spec_l4Fault.j0 k l0 (decide ((l0.length : Int) > 160)))
theorem spec_l4Fault.mono_l : ∀ k, (∀ y0 y1, LeO (spec_l4Fault.j0 k y0 y1) (spec_l4Fault.j0 (k + 1) y0 y1)) ∧ (∀ y0 y1, LeO (spec_l4Fault.l0 k y0 y1) (spec_l4Fault.l0 (k + 1) y0 y1)) ∧ (∀ y0 y1, LeO (spec_l4Fault.l1 k y0 y1) (spec_l4Fault.l1 (k + 1) y0 y1))
  | 0 => ⟨fun _ _ r h => by simp [spec_l4Fault.j0] at h, fun _ _ r h => by simp [spec_l4Fault.l0] at h, fun _ _ r h => by simp [spec_l4Fault.l1] at h⟩
  | k + 1 => by
    obtain ⟨ih0, ih1, ih2⟩ := spec_l4Fault.mono_l k; refine ⟨?_, ?_, ?_⟩
    · intro y0 y1
      unfold spec_l4Fault.j0
      repeat' first | (with_reducible first | apply ih0 | apply ih1 | apply ih2 | apply spec_l4Kids.mono | apply spec_l4Many.mono | apply spec_l4One.mono | exact LeO.refl _ | exact LeO.none _ | refine LeO.ite ?_ ?_ | refine LeO.bind ?_ (fun _ => ?_)) | apply ih0 | apply ih1 | apply ih2 | apply spec_l4Kids.mono | apply spec_l4Many.mono | apply spec_l4One.mono | exact LeO.none _ | refine LeO.ite ?_ ?_ | refine LeO.bind ?_ (fun _ => ?_)
    · intro y0 y1
      unfold spec_l4Fault.l0
      repeat' first | (with_reducible first | apply ih0 | apply ih1 | apply ih2 | apply spec_l4Kids.mono | apply spec_l4Many.mono | apply spec_l4One.mono | exact LeO.refl _ | exact LeO.none _ | refine LeO.ite ?_ ?_ | refine LeO.bind ?_ (fun _ => ?_)) | apply ih0 | apply ih1 | apply ih2 | apply spec_l4Kids.mono | apply spec_l4Many.mono | apply spec_l4One.mono | exact LeO.none _ | refine LeO.ite ?_ ?_ | refine LeO.bind ?_ (fun _ => ?_)
    · intro y0 y1
      unfold spec_l4Fault.l1
      repeat' first | (with_reducible first | apply ih0 | apply ih1 | apply ih2 | apply spec_l4Kids.mono | apply spec_l4Many.mono | apply spec_l4One.mono | exact LeO.refl _ | exact LeO.none _ | refine LeO.ite ?_ ?_ | refine LeO.bind ?_ (fun _ => ?_)) | apply ih0 | apply ih1 | apply ih2 | apply spec_l4Kids.mono | apply spec_l4Many.mono | apply spec_l4One.mono | exact LeO.none _ | refine LeO.ite ?_ ?_ | refine LeO.bind ?_ (fun _ => ?_)
theorem spec_l4Fault.mono : ∀ a0 k, LeO (spec_l4Fault.f k a0) (spec_l4Fault.f (k + 1) a0) := by
  intro a0 k; obtain ⟨ih0, ih1, ih2⟩ := spec_l4Fault.mono_l k; unfold spec_l4Fault.f
  repeat' first | (with_reducible first | apply ih0 | apply ih1 | apply ih2 | apply spec_l4Kids.mono | apply spec_l4Many.mono | apply spec_l4One.mono | exact LeO.refl _ | exact LeO.none _ | refine LeO.ite ?_ ?_ | refine LeO.bind ?_ (fun _ => ?_)) | apply ih0 | apply ih1 | apply ih2 | apply spec_l4Kids.mono | apply spec_l4Many.mono | apply spec_l4One.mono | exact LeO.none _ | refine LeO.ite ?_ ?_ | refine LeO.bind ?_ (fun _ => ?_)
def spec_l4Fault.T12 : Bool × List (List Nat × List Nat) := (true, [([], []), ([], []), ([0, 1], [0, 1]), ([2], [2]), ([3], [3]), ([], []), ([], []), ([5, 6], [5, 6]), ([7], [7]), ([4, 8, 7], [4, 8]), ([9], [9])])
def spec_l4Fault.B12 : List Nat := [0, 0, 3, 7, 15, 0, 0, 96, 224, 511, 1023]
theorem spec_l4Fault.tab12 : rtab .any (opsOf Tryz.f11 12) = spec_l4Fault.T12 := by kernel_rfl
theorem spec_l4Fault.bits12 : waitsOk spec_l4Fault.T12.2 spec_l4Fault.B12 = true := by kernel_rfl
theorem spec_l4Fault.calls (k : Nat) (A0 : Option Addr) (c0 : Nat) (l0 : List (S40)) (r : Int) (w : World) (hr0 : Kd.C k40 w A0 l0.length l0) (hc0 : l0.length ≤ c0) (h : spec_l4Fault.f k l0 = some r) :
    Calls Tryz.prog 11 #[.slice A0 l0.length c0] w fun e w' => e = .returned (.int .i64 r) ∧ Below w.heap.size w w' := by
  have HR0 := ak hr0; have HC0 := ak hc0; clear hr0 hc0; have HB := ak (Below.refl w.heap.size w); have H := h; clear h; unfold spec_l4Fault.f at H; have HC2 := ak H; clear H; go_enter Tryz.func11, Tryz.ntmps11; go_upto_region 1 with (fail); go_cut [13] (fun v13 wc => ∃ (kq : Nat) (x13_1 : Bool), v13 = .bool x13_1 ∧ Aside0 (spec_l4Fault.j0 kq l0 x13_1 = some r) ∧ Aside0 (kq ≤ k) ∧ Aside0 (Below w.heap.size w wc))
  case first =>
   have H := HC2.out; clear HC2; by_cases c3 : (l0.length : Int) < 1
   ·rw [if_pos c3] at H
    have c3b0 : decide ((l0.length : Int) < 1) = true := decide_eq_true c3; have c3b1 : decide (l0.length < 1) = true := decide_eq_true (by omega); clear c3
    (first | rw [c3b0] | (simp only [i64_w, i32_w]; rw [c3b0]) | skip)
    have H' := ak H; clear H; go_wp2; go_meet
    case rel => exact ⟨_, (true), d7_2, H', ⟨by first | omega | exact Nat.le_refl _⟩, ⟨c7_1⟩⟩
   ·rw [if_neg c3] at H
    have c3b0 : decide ((l0.length : Int) < 1) = false := decide_eq_false c3; have c3b1 : decide (l0.length < 1) = false := decide_eq_false (by omega); clear c3
    (first | rw [c3b0] | (simp only [i64_w, i32_w]; rw [c3b0]) | skip)
    have H' := ak H; clear H; go_wp2; go_meet
    case rel => exact ⟨_, (decide ((l0.length : Int) > 160)), d7_2, H', ⟨by first | omega | exact Nat.le_refl _⟩, ⟨c7_1⟩⟩
  case rest =>
   clear HC2
   try clear c1
   obtain ⟨kq, x13_1, rfl, HA, HJ1, HB⟩ := hcut
   cases kq with
   | zero => exact absurd HA.out (by simp [spec_l4Fault.j0])
   | succ kj1 =>
    have H := HA.out; clear HA; simp only [spec_l4Fault.j0] at H; by_cases c4 : x13_1 = true
    ·subst c4
     rw [if_pos rfl] at H; obtain rfl := Option.some.inj H; go_wp2; go_ret; exact ⟨c7_5, c7_1⟩
    ·replace c4 := Bool.eq_false_iff.mpr c4
     subst c4
     rw [if_neg (show ¬ (false = true) by decide)] at H; have H' := ak H; clear H; go_wp2; go_loopg [3] kj1 (fun kq v3 w' => ∃ (x3_2 : Int), v3 = .int .i64 x3_2 ∧ Aside0 (spec_l4Fault.l0 kq l0 x3_2 = some r) ∧ Aside0 (kq ≤ kj1) ∧ Aside0 (Below w.heap.size w w'))
     case atStart => exact ⟨(0), d7_2, H', ⟨Nat.le_refl _⟩, ⟨c7_1⟩⟩
     case round =>
      clear H'
      (try clear c1); (try clear p2); (try clear c3); (try clear c3b0); (try clear c3b1); (try clear c4)
      obtain ⟨x3_2, rfl, HA, HK2, HB⟩ := hrel
      cases gk with
      | zero => exact absurd HA.out (by simp [spec_l4Fault.l0])
      | succ k2 =>
       have H := HA.out; clear HA; simp only [spec_l4Fault.l0] at H; by_cases c5 : x3_2 < (l0.length : Int)
       ·rw [if_pos c5] at H
        have c5b0 : decide (x3_2 < (l0.length : Int)) = true := decide_eq_true c5; clear c5; replace H := Option.bind_eq_some_iff.mp H; obtain ⟨t174, A60, H⟩ := H; (try dsimp -simprocs only at H); have A6 := ak A60; clear A60; by_cases c7 : t174 = 0
        ·rw [if_pos c7] at H
         have c7b0 : (t174 == 0) = true := beq_iff_eq.mpr c7; have c7b1 : (t174 != 0) = false := bne_eq_false_iff_eq.mpr c7; clear c7; have H' := ak H; clear H; go_wp2_with (first | ((with_reducible refine gate_callee (f := 19) rfl ?_); refine goesL_ (some 22) rfl rfl Tryz.func19 (by kernel_rfl) rfl #[.slice A0 l0.length c0, .int .i64 x3_2] rfl d7_3 ?_; (with_reducible refine (spec_l4One.calls k2 _ _ l0 x3_2 t174 _ ?side1 ?side2 A6.out).mono ?_); (case side1 => exact c7_2); (case side2 => exact HC0.out); rintro e w8 ⟨rfl, hb⟩; refine ⟨_, rfl, ?_⟩; have n0_ := ak (below_step d7_1 hb); clear HB; have HB := n0_; clear n0_; (try clear hb))); go_roundg k2
         case measure => have := HJ1.out; have := HK2.out; omega
         case rel => exact ⟨(wrap64 (x3_2 + 1)), d7_2, H', ⟨by have := HJ1.out; have := HK2.out; omega⟩, ⟨c7_1⟩⟩
        ·rw [if_neg c7] at H
         have c7b0 : (t174 == 0) = false := beq_eq_false_iff_ne.mpr c7; have c7b1 : (t174 != 0) = true := bne_iff_ne.mpr c7; obtain rfl := Option.some.inj H; go_wp2_with (first | ((with_reducible refine gate_callee (f := 19) rfl ?_); refine goesL_ (some 22) rfl rfl Tryz.func19 (by kernel_rfl) rfl #[.slice A0 l0.length c0, .int .i64 x3_2] rfl d7_3 ?_; (with_reducible refine (spec_l4One.calls k2 _ _ l0 x3_2 t174 _ ?side1 ?side2 A6.out).mono ?_); (case side1 => exact c7_2); (case side2 => exact HC0.out); rintro e w9 ⟨rfl, hb⟩; refine ⟨_, rfl, ?_⟩; have n0_ := ak (below_step d7_1 hb); clear HB; have HB := n0_; clear n0_; (try clear hb))); go_ret; exact ⟨c7_5, c7_1⟩
       ·rw [if_neg c5] at H
        have c5b0 : decide (x3_2 < (l0.length : Int)) = false := decide_eq_false c5; clear c5; have H' := ak H; clear H; go_wp2; go_loopg [5] k2 (fun kq v5 w' => ∃ (x5_3 : Int), v5 = .int .i64 x5_3 ∧ Aside0 (spec_l4Fault.l1 kq l0 x5_3 = some r) ∧ Aside0 (kq ≤ k2) ∧ Aside0 (Below w.heap.size w w'))
        case atStart => exact ⟨(0), d7_2, H', ⟨Nat.le_refl _⟩, ⟨c7_1⟩⟩
        case round =>
         clear H'
         (try clear c1); (try clear p2); (try clear c3); (try clear c3b0); (try clear c3b1); (try clear c4); (try clear c5); (try clear c5b0); (try clear p6); (try clear c7); (try clear c7b0); (try clear c7b1); (try clear p2)
         obtain ⟨x5_3, rfl, HA, HK3, HB⟩ := hrel
         cases gk with
         | zero => exact absurd HA.out (by simp [spec_l4Fault.l1])
         | succ k3 =>
          have H := HA.out; clear HA; simp only [spec_l4Fault.l1] at H; by_cases c10 : x5_3 < (l0.length : Int)
          ·rw [if_pos c10] at H
           have c10b0 : decide (x5_3 < (l0.length : Int)) = true := decide_eq_true c10; clear c10; by_cases c11 : 0 ≤ x5_3
           ·rw [if_pos c11] at H
            have c11b0 : decide (0 ≤ x5_3) = true := decide_eq_true c11; clear c11; replace H := Option.bind_eq_some_iff.mp H; obtain ⟨t176, A120, H⟩ := H; (try dsimp -simprocs only at H); have A12 := ak A120; clear A120; replace H := Option.bind_eq_some_iff.mp H; obtain ⟨t179, A130, H⟩ := H; (try dsimp -simprocs only at H); have A13 := ak A130; clear A130; by_cases c14 : t179 = true
            ·subst c14
             rw [if_pos rfl] at H; have H' := ak H; clear H
             try go_wp2
             have n0_ := ak (below_drew1 HB.out); clear HB; have HB := n0_; clear n0_; have p175 : 0 ≤ (x5_3 : Int) := of_decide_eq_true d7_4; have q175 : x5_3 < (l0.length : Int) := of_decide_eq_true d7_4; obtain ⟨ad175, A175_5, c175_5, e175, hx175_0, hx175_1, hx175_2, hx175_3, hx175_4, hx175_5, hl175_5, hi175_5⟩ := at_T40 HR0.out x5_3 p175 q175; have hw175_5 := hx175_5; have hw175_4 := hx175_4; have hw175_3 := hx175_3; have hw175_2 := hx175_2; have hw175_1 := hx175_1; have hw175_0 := hx175_0
             cases e175
             replace hx175_0 := (HB.out.cell (World.block_lt_of_cell? w _ hx175_0)).trans hx175_0; replace hx175_1 := (HB.out.cell (World.block_lt_of_cell? w _ hx175_1)).trans hx175_1; replace hx175_2 := (HB.out.cell (World.block_lt_of_cell? w _ hx175_2)).trans hx175_2; replace hx175_3 := (HB.out.cell (World.block_lt_of_cell? w _ hx175_3)).trans hx175_3; replace hx175_4 := (HB.out.cell (World.block_lt_of_cell? w _ hx175_4)).trans hx175_4; replace hx175_5 := (HB.out.cell (World.block_lt_of_cell? w _ hx175_5)).trans hx175_5; have HR175_5 := ak hi175_5; have HC175_5 := ak hl175_5; clear hi175_5 hl175_5; replace p175 := eq_true p175; replace q175 := eq_true q175
             refine start_ (n := 11) (S := fun w' => w'.cell? (ad175.add ((x5_3).toNat * 6)) = some (.int .i64 ((rd_T40 l0 x5_3).f0)) ∧ w'.cell? ⟨(ad175.add ((x5_3).toNat * 6)).block, (ad175.add ((x5_3).toNat * 6)).off + 1, none⟩ = some (.int .i64 ((rd_T40 l0 x5_3).f1)) ∧ w'.cell? ⟨(ad175.add ((x5_3).toNat * 6)).block, (ad175.add ((x5_3).toNat * 6)).off + 2, none⟩ = some (.int .i64 ((rd_T40 l0 x5_3).f2)) ∧ w'.cell? ⟨(ad175.add ((x5_3).toNat * 6)).block, (ad175.add ((x5_3).toNat * 6)).off + 3, none⟩ = some (.int .i64 ((rd_T40 l0 x5_3).f3)) ∧ w'.cell? ⟨(ad175.add ((x5_3).toNat * 6)).block, (ad175.add ((x5_3).toNat * 6)).off + 4, none⟩ = some (.string ((rd_T40 l0 x5_3).f4)) ∧ w'.cell? ⟨(ad175.add ((x5_3).toNat * 6)).block, (ad175.add ((x5_3).toNat * 6)).off + 5, none⟩ = some (.slice A175_5 ((rd_T40 l0 x5_3).f5).length c175_5)) (ds := []) #[false, false, false, false, false, false, false, false, false, false, false] (by kernel_rfl) rfl rfl ⟨((HB.out.cell (World.block_lt_of_cell? w _ hw175_0)).trans hw175_0), ((HB.out.cell (World.block_lt_of_cell? w _ hw175_1)).trans hw175_1), ((HB.out.cell (World.block_lt_of_cell? w _ hw175_2)).trans hw175_2), ((HB.out.cell (World.block_lt_of_cell? w _ hw175_3)).trans hw175_3), ((HB.out.cell (World.block_lt_of_cell? w _ hw175_4)).trans hw175_4), ((HB.out.cell (World.block_lt_of_cell? w _ hw175_5)).trans hw175_5)⟩ (fun hHeld => ?_); refine with_tabW spec_l4Fault.tab12 spec_l4Fault.bits12 (fun HT_ HW_ => ?_)
             generalize wr.drew = w15 at HB HR175_5 hx175_0 hx175_1 hx175_2 hx175_3 hx175_4 hx175_5 hHeld ⊢; refine pure_ (i := 0) (N := some 32) (v := ?_) (a' := ?_) #[true, false, false, false, false, false, false, false, false, false, false] rfl rfl (any_of HT_.out (by kernel_rfl)) (fun _ _ _ h => h) (Or.inl ⟨by rfl, ?_⟩) ?_ ?_; rotate_left
             · intro w'
               go_simp; (with_reducible rfl)
             rotate_left
             · simp only [Act.put, List.setIfInBounds_toArray, List.set_cons_zero, List.set_cons_succ, i64_w, i32_w]
               rfl
             refine pure_ (i := 1) (N := some 33) (v := ?_) (a' := ?_) #[true, true, false, false, false, false, false, false, false, false, false] rfl rfl (any_of HT_.out (by kernel_rfl)) (fun _ _ _ h => h) (Or.inl ⟨by rfl, ?_⟩) ?_ ?_; rotate_left
             · intro w'
               go_simp; (with_reducible rfl)
             rotate_left
             · simp only [Act.put, List.setIfInBounds_toArray, List.set_cons_zero, List.set_cons_succ, i64_w, i32_w]
               rfl
             refine pure_ (i := 2) (N := some 34) (v := ?_) (a' := ?_) #[true, true, true, false, false, false, false, false, false, false, false] rfl rfl (any_of HT_.out (by kernel_rfl)) (fun _ _ _ h => h) (Or.inl ⟨by rfl, ?_⟩) ?_ ?_; rotate_left
             · intro w'
               go_simp; (with_reducible rfl)
             rotate_left
             · simp only [Act.put, List.setIfInBounds_toArray, List.set_cons_zero, List.set_cons_succ, i64_w, i32_w]
               rfl
             refine pure_ (i := 3) (N := some 35) (v := ?_) (a' := ?_) #[true, true, true, true, false, false, false, false, false, false, false] rfl rfl (any_of HT_.out (by kernel_rfl)) (fun _ _ _ h => h) (Or.inl ⟨by rfl, ?_⟩) ?_ ?_; rotate_left
             · intro w'
               go_simp; (with_reducible rfl)
             rotate_left
             · simp only [Act.put, List.setIfInBounds_toArray, List.set_cons_zero, List.set_cons_succ, i64_w, i32_w]
               rfl
             refine pure_ (i := 5) (N := some 37) (v := ?_) (a' := ?_) #[true, true, true, true, false, true, false, false, false, false, false] rfl rfl (any_of HT_.out (by kernel_rfl)) (fun _ _ _ h => h) (Or.inl ⟨by rfl, ?_⟩) ?_ ?_; rotate_left
             · intro w'
               go_simp; (with_reducible rfl)
             rotate_left
             · simp only [Act.put, List.setIfInBounds_toArray, List.set_cons_zero, List.set_cons_succ, i64_w, i32_w]
               rfl
             refine pure_ (i := 6) (N := some 38) (v := ?_) (a' := ?_) #[true, true, true, true, false, true, true, false, false, false, false] rfl rfl (any_of HT_.out (by kernel_rfl)) (fun _ _ _ h => h) (Or.inl ⟨by rfl, ?_⟩) ?_ ?_; rotate_left
             · intro w'
               go_simp; (with_reducible rfl)
             rotate_left
             · simp only [Act.put, List.setIfInBounds_toArray, List.set_cons_zero, List.set_cons_succ, i64_w, i32_w]
               rfl
             refine take_ (i := 4) (N := some 36) (v := ?_) (a' := ?_) #[true, true, true, true, true, true, true, false, false, false, false] rfl rfl (take_ofW HT_.out HW_.out (by kernel_rfl)) (fun _ _ _ h => h) (Or.inl ⟨by rfl, ?_⟩) hHeld ?_ ?_; rotate_left
             · rintro w' ⟨s0, s1, s2, s3, s4, s5⟩
               go_simp; (with_reducible rfl)
             rotate_left
             · simp only [Act.put, List.setIfInBounds_toArray, List.set_cons_zero, List.set_cons_succ, i64_w, i32_w]
               rfl
             refine one_ (i := 7) (N := some 39) #[true, true, true, true, true, true, true, true, false, false, false] rfl rfl (one_of HT_.out (by kernel_rfl)) (by decide) (fun K hK => ?_); refine goes_ Tryz.func21 (by kernel_rfl) rfl #[.slice (some ad175) l0.length c0, .int .i64 x5_3] (by rfl) rfl rfl d7_3 ?_; (with_reducible refine (spec_l4Kids.calls k3 _ _ l0 x5_3 t176 _ ?side1 ?side2 A12.out).mono ?_)
             (case side1 => exact c7_2)
             (case side2 => exact HC0.out)
             rintro e w16 ⟨v177, rfl, ho0, hb⟩; refine ⟨_, rfl, ?_⟩; have n0_ := ak (Kd.R_lower ho0 (below_size d7_1)); have n1_ := ak (below_step d7_1 hb); clear HB; have HO178 := n0_; have HB := n1_; clear n0_ n1_
             (try clear hb)
             (try clear hb2)
             (try clear hk)
             (try clear hi)
             (try clear ho0)
             obtain ⟨Ao17, co17, eo17⟩ := Kd.R_slice HO178.out
             (first | subst eo17 | (injection eo17 with f1_ f2_ f3_; have f4_ := f1_.symm; have f5_ := f3_.symm; clear f1_ f2_ f3_; subst f4_; subst f5_))
             refine hK.out _ _ ⟨((HB.out.cell (World.block_lt_of_cell? w _ hw175_0)).trans hw175_0), ((HB.out.cell (World.block_lt_of_cell? w _ hw175_1)).trans hw175_1), ((HB.out.cell (World.block_lt_of_cell? w _ hw175_2)).trans hw175_2), ((HB.out.cell (World.block_lt_of_cell? w _ hw175_3)).trans hw175_3), ((HB.out.cell (World.block_lt_of_cell? w _ hw175_4)).trans hw175_4), ((HB.out.cell (World.block_lt_of_cell? w _ hw175_5)).trans hw175_5)⟩ (fun hHeld => ?_); clear hK K; refine norm_ (a' := ?_) ?_ ?_; rotate_left
             · show Act.put _ (some 39) _ = _
               simp only [Act.put, List.setIfInBounds_toArray, List.set_cons_zero, List.set_cons_succ, i64_w, i32_w]; rfl
             refine pure_ (i := 8) (N := some 40) (v := ?_) (a' := ?_) #[true, true, true, true, true, true, true, true, true, false, false] rfl rfl (any_of HT_.out (by kernel_rfl)) (fun _ _ _ h => h) (Or.inl ⟨by rfl, ?_⟩) ?_ ?_; rotate_left
             · intro w'
               go_simp; (with_reducible rfl)
             rotate_left
             · simp only [Act.put, List.setIfInBounds_toArray, List.set_cons_zero, List.set_cons_succ, i64_w, i32_w]
               rfl
             refine one_ (i := 9) (N := some 41) #[true, true, true, true, true, true, true, true, true, true, false] rfl rfl (one_of HT_.out (by kernel_rfl)) (by decide) (fun K hK => ?_); refine goes_ Tryz.func20 (by kernel_rfl) rfl #[.int .i64 ((rd_T40 l0 x5_3).f0), .int .i64 (t176.length : Int)] (by rfl) rfl rfl d7_3 ?_; (with_reducible refine (spec_l4Many.calls k3 ((rd_T40 l0 x5_3).f0) (t176.length : Int) true _ A13.out).mono ?_); rintro e w' ⟨rfl, ⟨nd, rfl⟩⟩; refine ⟨_, rfl, ?_⟩; refine hK.out _ _ ⟨((HB.out.cell (World.block_lt_of_cell? w _ hw175_0)).trans hw175_0), ((HB.out.cell (World.block_lt_of_cell? w _ hw175_1)).trans hw175_1), ((HB.out.cell (World.block_lt_of_cell? w _ hw175_2)).trans hw175_2), ((HB.out.cell (World.block_lt_of_cell? w _ hw175_3)).trans hw175_3), ((HB.out.cell (World.block_lt_of_cell? w _ hw175_4)).trans hw175_4), ((HB.out.cell (World.block_lt_of_cell? w _ hw175_5)).trans hw175_5)⟩ (fun hHeld => ?_); clear hK K; refine norm_ (a' := ?_) ?_ ?_; rotate_left
             · show Act.put _ (some 41) _ = _
               simp only [Act.put, List.setIfInBounds_toArray, List.set_cons_zero, List.set_cons_succ, i64_w, i32_w]; rfl
             refine pure_ (i := 10) (N := some 42) (v := ?_) (a' := ?_) #[true, true, true, true, true, true, true, true, true, true, true] rfl rfl (any_of HT_.out (by kernel_rfl)) (fun _ _ _ h => h) (Or.inl ⟨by rfl, ?_⟩) ?_ ?_; rotate_left
             · intro w'
               go_simp; (with_reducible rfl)
             rotate_left
             · simp only [Act.put, List.setIfInBounds_toArray, List.set_cons_zero, List.set_cons_succ, i64_w, i32_w]
               rfl
             refine done_ (done_of HT_.out (by kernel_rfl)) ?_
             try go_wp2
             go_roundg k3
             case measure => have := HJ1.out; have := HK2.out; have := HK3.out; omega
             case rel => exact ⟨(wrap64 (x5_3 + 1)), d7_2, H', ⟨by have := HJ1.out; have := HK2.out; have := HK3.out; omega⟩, ⟨c7_1⟩⟩
            ·replace c14 := Bool.eq_false_iff.mpr c14
             subst c14
             rw [if_neg (show ¬ (false = true) by decide)] at H; obtain rfl := Option.some.inj H
             try go_wp2
             have n0_ := ak (below_drew1 HB.out); clear HB; have HB := n0_; clear n0_; have p175 : 0 ≤ (x5_3 : Int) := of_decide_eq_true d7_4; have q175 : x5_3 < (l0.length : Int) := of_decide_eq_true d7_4; obtain ⟨ad175, A175_5, c175_5, e175, hx175_0, hx175_1, hx175_2, hx175_3, hx175_4, hx175_5, hl175_5, hi175_5⟩ := at_T40 HR0.out x5_3 p175 q175; have hw175_5 := hx175_5; have hw175_4 := hx175_4; have hw175_3 := hx175_3; have hw175_2 := hx175_2; have hw175_1 := hx175_1; have hw175_0 := hx175_0
             cases e175
             replace hx175_0 := (HB.out.cell (World.block_lt_of_cell? w _ hx175_0)).trans hx175_0; replace hx175_1 := (HB.out.cell (World.block_lt_of_cell? w _ hx175_1)).trans hx175_1; replace hx175_2 := (HB.out.cell (World.block_lt_of_cell? w _ hx175_2)).trans hx175_2; replace hx175_3 := (HB.out.cell (World.block_lt_of_cell? w _ hx175_3)).trans hx175_3; replace hx175_4 := (HB.out.cell (World.block_lt_of_cell? w _ hx175_4)).trans hx175_4; replace hx175_5 := (HB.out.cell (World.block_lt_of_cell? w _ hx175_5)).trans hx175_5; have HR175_5 := ak hi175_5; have HC175_5 := ak hl175_5; clear hi175_5 hl175_5; replace p175 := eq_true p175; replace q175 := eq_true q175
             refine start_ (n := 11) (S := fun w' => w'.cell? (ad175.add ((x5_3).toNat * 6)) = some (.int .i64 ((rd_T40 l0 x5_3).f0)) ∧ w'.cell? ⟨(ad175.add ((x5_3).toNat * 6)).block, (ad175.add ((x5_3).toNat * 6)).off + 1, none⟩ = some (.int .i64 ((rd_T40 l0 x5_3).f1)) ∧ w'.cell? ⟨(ad175.add ((x5_3).toNat * 6)).block, (ad175.add ((x5_3).toNat * 6)).off + 2, none⟩ = some (.int .i64 ((rd_T40 l0 x5_3).f2)) ∧ w'.cell? ⟨(ad175.add ((x5_3).toNat * 6)).block, (ad175.add ((x5_3).toNat * 6)).off + 3, none⟩ = some (.int .i64 ((rd_T40 l0 x5_3).f3)) ∧ w'.cell? ⟨(ad175.add ((x5_3).toNat * 6)).block, (ad175.add ((x5_3).toNat * 6)).off + 4, none⟩ = some (.string ((rd_T40 l0 x5_3).f4)) ∧ w'.cell? ⟨(ad175.add ((x5_3).toNat * 6)).block, (ad175.add ((x5_3).toNat * 6)).off + 5, none⟩ = some (.slice A175_5 ((rd_T40 l0 x5_3).f5).length c175_5)) (ds := []) #[false, false, false, false, false, false, false, false, false, false, false] (by kernel_rfl) rfl rfl ⟨((HB.out.cell (World.block_lt_of_cell? w _ hw175_0)).trans hw175_0), ((HB.out.cell (World.block_lt_of_cell? w _ hw175_1)).trans hw175_1), ((HB.out.cell (World.block_lt_of_cell? w _ hw175_2)).trans hw175_2), ((HB.out.cell (World.block_lt_of_cell? w _ hw175_3)).trans hw175_3), ((HB.out.cell (World.block_lt_of_cell? w _ hw175_4)).trans hw175_4), ((HB.out.cell (World.block_lt_of_cell? w _ hw175_5)).trans hw175_5)⟩ (fun hHeld => ?_); refine with_tabW spec_l4Fault.tab12 spec_l4Fault.bits12 (fun HT_ HW_ => ?_)
             generalize wr.drew = w18 at HB HR175_5 hx175_0 hx175_1 hx175_2 hx175_3 hx175_4 hx175_5 hHeld ⊢; refine pure_ (i := 0) (N := some 32) (v := ?_) (a' := ?_) #[true, false, false, false, false, false, false, false, false, false, false] rfl rfl (any_of HT_.out (by kernel_rfl)) (fun _ _ _ h => h) (Or.inl ⟨by rfl, ?_⟩) ?_ ?_; rotate_left
             · intro w'
               go_simp; (with_reducible rfl)
             rotate_left
             · simp only [Act.put, List.setIfInBounds_toArray, List.set_cons_zero, List.set_cons_succ, i64_w, i32_w]
               rfl
             refine pure_ (i := 1) (N := some 33) (v := ?_) (a' := ?_) #[true, true, false, false, false, false, false, false, false, false, false] rfl rfl (any_of HT_.out (by kernel_rfl)) (fun _ _ _ h => h) (Or.inl ⟨by rfl, ?_⟩) ?_ ?_; rotate_left
             · intro w'
               go_simp; (with_reducible rfl)
             rotate_left
             · simp only [Act.put, List.setIfInBounds_toArray, List.set_cons_zero, List.set_cons_succ, i64_w, i32_w]
               rfl
             refine pure_ (i := 2) (N := some 34) (v := ?_) (a' := ?_) #[true, true, true, false, false, false, false, false, false, false, false] rfl rfl (any_of HT_.out (by kernel_rfl)) (fun _ _ _ h => h) (Or.inl ⟨by rfl, ?_⟩) ?_ ?_; rotate_left
             · intro w'
               go_simp; (with_reducible rfl)
             rotate_left
             · simp only [Act.put, List.setIfInBounds_toArray, List.set_cons_zero, List.set_cons_succ, i64_w, i32_w]
               rfl
             refine pure_ (i := 3) (N := some 35) (v := ?_) (a' := ?_) #[true, true, true, true, false, false, false, false, false, false, false] rfl rfl (any_of HT_.out (by kernel_rfl)) (fun _ _ _ h => h) (Or.inl ⟨by rfl, ?_⟩) ?_ ?_; rotate_left
             · intro w'
               go_simp; (with_reducible rfl)
             rotate_left
             · simp only [Act.put, List.setIfInBounds_toArray, List.set_cons_zero, List.set_cons_succ, i64_w, i32_w]
               rfl
             refine pure_ (i := 5) (N := some 37) (v := ?_) (a' := ?_) #[true, true, true, true, false, true, false, false, false, false, false] rfl rfl (any_of HT_.out (by kernel_rfl)) (fun _ _ _ h => h) (Or.inl ⟨by rfl, ?_⟩) ?_ ?_; rotate_left
             · intro w'
               go_simp; (with_reducible rfl)
             rotate_left
             · simp only [Act.put, List.setIfInBounds_toArray, List.set_cons_zero, List.set_cons_succ, i64_w, i32_w]
               rfl
             refine pure_ (i := 6) (N := some 38) (v := ?_) (a' := ?_) #[true, true, true, true, false, true, true, false, false, false, false] rfl rfl (any_of HT_.out (by kernel_rfl)) (fun _ _ _ h => h) (Or.inl ⟨by rfl, ?_⟩) ?_ ?_; rotate_left
             · intro w'
               go_simp; (with_reducible rfl)
             rotate_left
             · simp only [Act.put, List.setIfInBounds_toArray, List.set_cons_zero, List.set_cons_succ, i64_w, i32_w]
               rfl
             refine take_ (i := 4) (N := some 36) (v := ?_) (a' := ?_) #[true, true, true, true, true, true, true, false, false, false, false] rfl rfl (take_ofW HT_.out HW_.out (by kernel_rfl)) (fun _ _ _ h => h) (Or.inl ⟨by rfl, ?_⟩) hHeld ?_ ?_; rotate_left
             · rintro w' ⟨s0, s1, s2, s3, s4, s5⟩
               go_simp; (with_reducible rfl)
             rotate_left
             · simp only [Act.put, List.setIfInBounds_toArray, List.set_cons_zero, List.set_cons_succ, i64_w, i32_w]
               rfl
             refine one_ (i := 7) (N := some 39) #[true, true, true, true, true, true, true, true, false, false, false] rfl rfl (one_of HT_.out (by kernel_rfl)) (by decide) (fun K hK => ?_); refine goes_ Tryz.func21 (by kernel_rfl) rfl #[.slice (some ad175) l0.length c0, .int .i64 x5_3] (by rfl) rfl rfl d7_3 ?_; (with_reducible refine (spec_l4Kids.calls k3 _ _ l0 x5_3 t176 _ ?side1 ?side2 A12.out).mono ?_)
             (case side1 => exact c7_2)
             (case side2 => exact HC0.out)
             rintro e w19 ⟨v177, rfl, ho0, hb⟩; refine ⟨_, rfl, ?_⟩; have n0_ := ak (Kd.R_lower ho0 (below_size d7_1)); have n1_ := ak (below_step d7_1 hb); clear HB; have HO178 := n0_; have HB := n1_; clear n0_ n1_
             (try clear hb)
             (try clear hb2)
             (try clear hk)
             (try clear hi)
             (try clear ho0)
             obtain ⟨Ao20, co20, eo20⟩ := Kd.R_slice HO178.out
             (first | subst eo20 | (injection eo20 with f1_ f2_ f3_; have f4_ := f1_.symm; have f5_ := f3_.symm; clear f1_ f2_ f3_; subst f4_; subst f5_))
             refine hK.out _ _ ⟨((HB.out.cell (World.block_lt_of_cell? w _ hw175_0)).trans hw175_0), ((HB.out.cell (World.block_lt_of_cell? w _ hw175_1)).trans hw175_1), ((HB.out.cell (World.block_lt_of_cell? w _ hw175_2)).trans hw175_2), ((HB.out.cell (World.block_lt_of_cell? w _ hw175_3)).trans hw175_3), ((HB.out.cell (World.block_lt_of_cell? w _ hw175_4)).trans hw175_4), ((HB.out.cell (World.block_lt_of_cell? w _ hw175_5)).trans hw175_5)⟩ (fun hHeld => ?_); clear hK K; refine norm_ (a' := ?_) ?_ ?_; rotate_left
             · show Act.put _ (some 39) _ = _
               simp only [Act.put, List.setIfInBounds_toArray, List.set_cons_zero, List.set_cons_succ, i64_w, i32_w]; rfl
             refine pure_ (i := 8) (N := some 40) (v := ?_) (a' := ?_) #[true, true, true, true, true, true, true, true, true, false, false] rfl rfl (any_of HT_.out (by kernel_rfl)) (fun _ _ _ h => h) (Or.inl ⟨by rfl, ?_⟩) ?_ ?_; rotate_left
             · intro w'
               go_simp; (with_reducible rfl)
             rotate_left
             · simp only [Act.put, List.setIfInBounds_toArray, List.set_cons_zero, List.set_cons_succ, i64_w, i32_w]
               rfl
             refine one_ (i := 9) (N := some 41) #[true, true, true, true, true, true, true, true, true, true, false] rfl rfl (one_of HT_.out (by kernel_rfl)) (by decide) (fun K hK => ?_); refine goes_ Tryz.func20 (by kernel_rfl) rfl #[.int .i64 ((rd_T40 l0 x5_3).f0), .int .i64 (t176.length : Int)] (by rfl) rfl rfl d7_3 ?_; (with_reducible refine (spec_l4Many.calls k3 ((rd_T40 l0 x5_3).f0) (t176.length : Int) false _ A13.out).mono ?_); rintro e w' ⟨rfl, ⟨nd, rfl⟩⟩; refine ⟨_, rfl, ?_⟩; refine hK.out _ _ ⟨((HB.out.cell (World.block_lt_of_cell? w _ hw175_0)).trans hw175_0), ((HB.out.cell (World.block_lt_of_cell? w _ hw175_1)).trans hw175_1), ((HB.out.cell (World.block_lt_of_cell? w _ hw175_2)).trans hw175_2), ((HB.out.cell (World.block_lt_of_cell? w _ hw175_3)).trans hw175_3), ((HB.out.cell (World.block_lt_of_cell? w _ hw175_4)).trans hw175_4), ((HB.out.cell (World.block_lt_of_cell? w _ hw175_5)).trans hw175_5)⟩ (fun hHeld => ?_); clear hK K; refine norm_ (a' := ?_) ?_ ?_; rotate_left
             · show Act.put _ (some 41) _ = _
               simp only [Act.put, List.setIfInBounds_toArray, List.set_cons_zero, List.set_cons_succ, i64_w, i32_w]; rfl
             refine pure_ (i := 10) (N := some 42) (v := ?_) (a' := ?_) #[true, true, true, true, true, true, true, true, true, true, true] rfl rfl (any_of HT_.out (by kernel_rfl)) (fun _ _ _ h => h) (Or.inl ⟨by rfl, ?_⟩) ?_ ?_; rotate_left
             · intro w'
               go_simp; (with_reducible rfl)
             rotate_left
             · simp only [Act.put, List.setIfInBounds_toArray, List.set_cons_zero, List.set_cons_succ, i64_w, i32_w]
               rfl
             refine done_ (done_of HT_.out (by kernel_rfl)) ?_
             try go_wp2
             go_ret; exact ⟨c7_5, c7_1⟩
           ·rw [if_neg c11] at H
            exact absurd H (by simp)
          ·rw [if_neg c10] at H
           have c10b0 : decide (x5_3 < (l0.length : Int)) = false := decide_eq_false c10; clear c10; obtain rfl := Option.some.inj H; go_wp2; go_ret; exact ⟨c7_5, c7_1⟩

end Go.Proofs.YtgnenhehcdekkadGreatDoor.A
