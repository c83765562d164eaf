/- Walks of the program's functions: each Go function's answer as a plain Lean function, and that the call comes to it. Written by a program. Conditions: those in each theorem's own head. -/
import Derived.Test.YtcliaceiijaafaaDoorC0
import Derived.Test.YtcliaceiijaafaaDoorC8
import Derived.Test.YtcliaceiijaafaaDoorC12
namespace Go.Proofs.YtcliaceiijaafaaDoor.C
open Go.RowKit Go.Proofs.YtcliaceiijaafaaDoorW.PrintWords Go.Proofs.YtcliaceiijaafaaDoorW.PrintLast Go.Proofs.YtcliaceiijaafaaDoorW.PrintMore
attribute [local go_sem] max2_int min2_int max_two min_two max_three min_three max_four min_four   -- for this text's walks alone
set_option linter.unusedVariables false
set_option linter.unusedSimpArgs false

theorem d13_1 {p : Prop} (h : p := by repeat (first | (with_reducible first | exact HB.out | apply below_alloc | apply pw_below_drewN | apply below_drew1) | exact HB.out)) : p := h
theorem d13_2 {p : Prop} (h : p := by first | (with_reducible assumption) | assumption) : p := h
theorem d13_3 {p : Prop} (h : p := by (try simp only [List.map_toArray, List.map_cons, List.map_nil]); first | done | rfl | (simp only [List.length_drop, List.length_take]; rfl)) : p := h
theorem d13_4 {p : Prop} (h : p := by first | rfl | (simp; done) | (simp [*]; done) | (simp [ne_nil_b, eq_nil_b]; done)) : p := h

/-! ### impl_kids: function 62 -/
def impl_kids.l0 : Nat → List (List Int) → List (S93) → Int → Int → Option ((List (List Int)))
  | 0, _, _, _, _ => none
  | k + 1, x3, x9, x10, x11 => if x11 < x10 then (if 0 ≤ x11 then (if x11 < (x9.length : Int) then (if ((rd_T93 x9 x11).f1) ≥ 0 then (if 0 ≤ ((rd_T93 x9 x11).f1) then (if ((rd_T93 x9 x11).f1) < (x3.length : Int) then (if (rd_L8 x3 ((rd_T93 x9 x11).f1)).length < 17592186044416 then (impl_kids.l0 k (x3.set (((rd_T93 x9 x11).f1) : Int).toNat ((rd_L8 x3 ((rd_T93 x9 x11).f1)) ++ [x11])) x9 x10 (wrap64 (x11 + 1))) else (none)) else (none)) else (none)) else (impl_kids.l0 k x3 x9 x10 (wrap64 (x11 + 1)))) else (none)) else (none)) else (some x3)
def impl_kids.f (k : Nat) (l0 : List (S93)) : Option ((List (List Int))) := if 0 ≤ (l0.length : Int) then (if ((l0.length : Int) : Int).toNat ≤ 11728124029610 then (impl_kids.l0 k (List.replicate ((l0.length : Int) : Int).toNat []) l0 (l0.length : Int) 0) else (none)) else (none)
theorem impl_kids.mono_l : ∀ k, (∀ y0 y1 y2 y3, LeO (impl_kids.l0 k y0 y1 y2 y3) (impl_kids.l0 (k + 1) y0 y1 y2 y3))
  | 0 => fun _ _ _ _ r h => by simp [impl_kids.l0] at h
  | k + 1 => by
    have ih0 := impl_kids.mono_l k
    · intro y0 y1 y2 y3
      unfold impl_kids.l0
      repeat' first
      | (with_reducible exact ih0 _ _ _ _)
      | (with_reducible exact LeO.refl _)
      | (with_reducible exact LeO.none _)
      | (with_reducible refine LeO.ite ?_ ?_)
      | (with_reducible refine LeO.bind ?_ (fun _ => ?_))
      | exact ih0 _ _ _ _
      | exact LeO.none _
      | refine LeO.ite ?_ ?_
      | refine LeO.bind ?_ (fun _ => ?_)
theorem impl_kids.mono : ∀ a0 k, LeO (impl_kids.f k a0) (impl_kids.f (k + 1) a0) := by
  intro a0 k
  have ih0 := impl_kids.mono_l k
  unfold impl_kids.f
  repeat' first
      | (with_reducible exact ih0 _ _ _ _)
      | (with_reducible exact LeO.refl _)
      | (with_reducible exact LeO.none _)
      | (with_reducible refine LeO.ite ?_ ?_)
      | (with_reducible refine LeO.bind ?_ (fun _ => ?_))
      | exact ih0 _ _ _ _
      | exact LeO.none _
      | refine LeO.ite ?_ ?_
      | refine LeO.bind ?_ (fun _ => ?_)
def impl_kids.T6 : Bool × List (List Nat × List Nat) := (true, [([], []), ([], []), ([1], [1]), ([], []), ([], []), ([4], [4]), ([3, 5], [3, 5]), ([6], [6]), ([], []), ([8], [8]), ([7, 9], [7, 9]), ([0, 2, 0, 1, 2, 3, 4, 5, 6, 7, 8, 9, 10], [0, 2]), ([11, 10, 10, 0, 1, 2, 3, 4, 5, 6, 7, 8, 9, 10], [10, 11])])
def impl_kids.B6 : List Nat := [0, 0, 2, 0, 0, 16, 56, 120, 0, 256, 1016, 2047, 4095]
theorem impl_kids.tab6 : rtab .any (opsOf Tryd.f62 6) = impl_kids.T6 := by kernel_rfl
theorem impl_kids.bits6 : waitsOk impl_kids.T6.2 impl_kids.B6 = true := by kernel_rfl
set_option maxHeartbeats 8000000 in
set_option maxRecDepth 100000 in
theorem impl_kids.calls (k : Nat) (A0 : Option Addr) (c0 : Nat) (l0 : List (S93)) (r : List (List Int)) (w : World) (hr0 : Kd.C k93 w A0 l0.length l0) (hc0 : l0.length ≤ c0) (h : impl_kids.f k l0 = some r) :
    Calls Tryd.prog 62 #[.slice A0 l0.length c0] w fun e w' => ∃ v0_ : Value, e = .returned (v0_) ∧ Kd.S (Kd.slice 2 (Kd.int .i64)) 98 w' w.heap.size (fun _ => True) v0_ r ∧ Below w.heap.size w w' := by
  have hu93 := Tryd.underlying93
  have HR0 := ak hr0
  have HC0 := ak hc0
  clear hr0 hc0
  have HB := ak (Below.refl w.heap.size w)
  have H : (if 0 ≤ (l0.length : Int) then (if ((l0.length : Int) : Int).toNat ≤ 11728124029610 then (impl_kids.l0 k (List.replicate ((l0.length : Int) : Int).toNat []) l0 (l0.length : Int) 0) else (none)) else (none)) = some r := h
  clear h
  by_cases c2 : 0 ≤ (l0.length : Int)
  ·rw [if_pos c2] at H
   have c2b0 := eq_true c2
   have c2b1 : decide (0 ≤ (l0.length : Int)) = true := decide_eq_true c2
   clear c2
   by_cases c3 : ((l0.length : Int) : Int).toNat ≤ 11728124029610
   ·rw [if_pos c3] at H
    have c3b0 := eq_true c3
    have c3b1 : decide (((l0.length : Int) : Int).toNat ≤ 11728124029610) = true := decide_eq_true c3
    clear c3
    obtain ⟨y294, hy294⟩ : ∃ y_ : List (List Int), y_ = (List.replicate ((l0.length : Int) : Int).toNat []) := ⟨_, rfl⟩
    replace H : (impl_kids.l0 k y294 l0 (l0.length : Int) 0) = some r := by first | (rw [hy294]; with_reducible exact H) | (have H2_ := (Option.bind_some _ _).symm.trans H; rw [hy294]; with_reducible exact H2_) | (have H2_ := (Option.bind_some _ _).symm.trans H; with_reducible exact H2_) | with_reducible exact H | (rw [hy294]; exact H) | exact H
    have Ny294 := ak hy294
    clear hy294
    have H' := ak H
    clear H
    go_enter Tryd.func62, Tryd.ntmps62
    go_wp2_with (first | ((with_reducible refine gate_dst (N := 8) rfl ?_); refine Kd.S_make (Kd.slice 2 (Kd.int .i64)) _ 98 rfl (N := 8) rfl 96 _ _ rfl (l0.length : Int) rfl rfl Tryd.underlying96 (.slice none 0 0) 24 info98 rfl (by decide) (by omega) [] (ok := fun _ => True) (okp := fun _ => True) ⟨_, rfl, Kd.R_nil _ _ _ _ _⟩ (fun _ hk => hk) trivial (of_decide_eq_true d13_2) (Nat.le_trans (Nat.mul_le_mul_right _ (of_decide_eq_true d13_2 : (l0.length : Int).toNat ≤ 11728124029610)) (by omega)) (Below.refl _ _) (Nat.le_refl _) ?_; intro v295 w4 ho5 hb hg_ hnew_; clear hg_ hnew_; (first | rw [← Ny294.out] at ho5 | (simp only [Int.reduceToNat] at ho5; rw [← Ny294.out] at ho5)); have n0_ := ak (Kd.S_lower ho5 (below_size d13_1)); have n1_ := ak (below_step d13_1 hb); clear HB; have HO296 := n0_; have HB := n1_; clear n0_ n1_ hb ho5))
    go_loopg [11] k (fun kq v11 w' => ∃ (x3_1 : List (List Int)) (x11_1 : Int), v11 = .int .i64 x11_1 ∧ Aside0 (impl_kids.l0 kq x3_1 l0 (l0.length : Int) x11_1 = some r) ∧ Aside0 (kq ≤ k) ∧ Aside0 (Kd.S (Kd.slice 2 (Kd.int .i64)) 98 w' w.heap.size (fun _ => True) v295 x3_1) ∧ Aside0 (Below w.heap.size w w'))
    case atStart => exact ⟨(y294), (0), d13_4, H', ⟨Nat.le_refl _⟩, ⟨by (with_reducible repeat (first | apply Kd.S_alloc | apply Kd.S_drewN | apply Kd.S_drew)); exact HO296.out⟩, ⟨by repeat (first | (with_reducible first | exact HB.out | apply below_alloc | apply pw_below_drewN | apply below_drew1) | exact HB.out)⟩⟩
    case round =>
     clear H'
     try clear c2
     try clear c2b0
     try clear c2b1
     try clear p2
     try clear c3
     try clear c3b0
     try clear c3b1
     obtain ⟨x3_1, x11_1, rfl, HA, HK1, HO_3, HB⟩ := hrel
     cases gk with
     | zero => exact absurd HA.out (by simp [impl_kids.l0])
     | succ k1 =>
      have H := HA.out
      clear HA
      simp only [impl_kids.l0] at H
      by_cases c6 : x11_1 < (l0.length : Int)
      ·rw [if_pos c6] at H
       have c6b0 : decide (x11_1 < (l0.length : Int)) = true := decide_eq_true c6
       clear c6
       by_cases c7 : 0 ≤ x11_1
       ·rw [if_pos c7] at H
        have c7b0 : decide (0 ≤ x11_1) = true := decide_eq_true c7
        clear c7
        by_cases c8 : x11_1 < (l0.length : Int)
        ·rw [if_pos c8] at H
         have c8b0 : decide (x11_1 < (l0.length : Int)) = true := decide_eq_true c8
         clear c8
         by_cases c9 : ((rd_T93 l0 x11_1).f1) ≥ 0
         ·rw [if_pos c9] at H
          have c9b0 : decide (0 ≤ ((rd_T93 l0 x11_1).f1)) = true := decide_eq_true c9
          clear c9
          by_cases c10 : 0 ≤ ((rd_T93 l0 x11_1).f1)
          ·rw [if_pos c10] at H
           have c10b0 : decide (0 ≤ ((rd_T93 l0 x11_1).f1)) = true := decide_eq_true c10
           clear c10
           by_cases c11 : ((rd_T93 l0 x11_1).f1) < (x3_1.length : Int)
           ·rw [if_pos c11] at H
            have c11b0 : decide (((rd_T93 l0 x11_1).f1) < (x3_1.length : Int)) = true := decide_eq_true c11
            clear c11
            by_cases c12 : (rd_L8 x3_1 ((rd_T93 l0 x11_1).f1)).length < 17592186044416
            ·rw [if_pos c12] at H
             have LMc12 := ak c12
             clear c12
             obtain ⟨y300, hy300⟩ : ∃ y_ : List Int, y_ = ((rd_L8 x3_1 ((rd_T93 l0 x11_1).f1)) ++ [x11_1]) := ⟨_, rfl⟩
             replace H : (impl_kids.l0 k1 (x3_1.set (((rd_T93 l0 x11_1).f1) : Int).toNat y300) l0 (l0.length : Int) (wrap64 (x11_1 + 1))) = some r := by first | (rw [hy300]; with_reducible exact H) | (have H2_ := (Option.bind_some _ _).symm.trans H; rw [hy300]; with_reducible exact H2_) | (have H2_ := (Option.bind_some _ _).symm.trans H; with_reducible exact H2_) | with_reducible exact H | (rw [hy300]; exact H) | exact H
             have Ny300 := ak hy300
             clear hy300
             obtain ⟨y303, hy303⟩ : ∃ y_ : List (List Int), y_ = (x3_1.set (((rd_T93 l0 x11_1).f1) : Int).toNat y300) := ⟨_, rfl⟩
             replace H : (impl_kids.l0 k1 y303 l0 (l0.length : Int) (wrap64 (x11_1 + 1))) = some r := by first | (rw [hy303]; with_reducible exact H) | (have H2_ := (Option.bind_some _ _).symm.trans H; rw [hy303]; with_reducible exact H2_) | (have H2_ := (Option.bind_some _ _).symm.trans H; with_reducible exact H2_) | with_reducible exact H | (rw [hy303]; exact H) | exact H
             have Ny303 := ak hy303
             clear hy303
             have H' := ak H
             clear H
             have p297 : 0 ≤ (x11_1 : Int) := of_decide_eq_true d13_2
             have q297 : x11_1 < (l0.length : Int) := of_decide_eq_true d13_2
             obtain ⟨ad297, A297_5, c297_5, e297, hx297_0, hx297_1, hx297_2, hx297_3, hx297_4, hx297_5, hl297_5, hi297_5⟩ := at_T93 HR0.out x11_1 p297 q297
             cases e297
             replace hx297_0 := (HB.out.cell (World.block_lt_of_cell? w _ hx297_0)).trans hx297_0
             replace hx297_1 := (HB.out.cell (World.block_lt_of_cell? w _ hx297_1)).trans hx297_1
             replace hx297_2 := (HB.out.cell (World.block_lt_of_cell? w _ hx297_2)).trans hx297_2
             replace hx297_3 := (HB.out.cell (World.block_lt_of_cell? w _ hx297_3)).trans hx297_3
             replace hx297_4 := (HB.out.cell (World.block_lt_of_cell? w _ hx297_4)).trans hx297_4
             replace hx297_5 := (HB.out.cell (World.block_lt_of_cell? w _ hx297_5)).trans hx297_5
             have HR297_5 := ak hi297_5
             have HC297_5 := ak hl297_5
             clear hi297_5 hl297_5
             replace p297 := eq_true p297
             replace q297 := eq_true q297
             try go_wp2_with (first | ((with_reducible refine gate_dst (N := 5) rfl ?_); refine box_event ?hg (N := 5) ?hd (cs := #[.int .i64 0, .int .i64 0, .int .i64 0, .int .i64 0, .string (⟨#[]⟩ : ByteArray), .slice none 0 0]) (t := 93) ?hr ?_; (case hd => rfl); (case hg => rfl); (case hr => first | (go_simp; done) | (go_simp; rfl)); intro gb298 hg w14 hbox hb; have n0_ := ak (Kd.S_below (by (with_reducible repeat (first | apply Kd.S_alloc | apply Kd.S_drewN | apply Kd.S_drew)); exact HO_3.out) hb); have n1_ := ak (below_step d13_1 hb); have n2_ := ak (hbox); have n3_ := ak ((by rw [hg]; exact (below_size d13_1) : w.heap.size ≤ gb298)); have n4_ := ak ((by rw [hg]; exact (below_size d13_1) : w.heap.size ≤ gb298)); clear HO_3 HB; have HO_3 := n0_; have HB := n1_; have BK298 := n2_; have GW298 := n3_; have GE298 := n4_; clear n0_ n1_ n2_ n3_ n4_ hb hbox hg; have hcz15_0 : w14.cell? ⟨gb298, 0, none⟩ = some (.int .i64 0) := (blk_cell BK298.out 0).trans rfl; have hcz15_1 : w14.cell? ⟨gb298, 1, none⟩ = some (.int .i64 0) := (blk_cell BK298.out 1).trans rfl; have hcz15_2 : w14.cell? ⟨gb298, 2, none⟩ = some (.int .i64 0) := (blk_cell BK298.out 2).trans rfl; have hcz15_3 : w14.cell? ⟨gb298, 3, none⟩ = some (.int .i64 0) := (blk_cell BK298.out 3).trans rfl; have hcz15_4 : w14.cell? ⟨gb298, 4, none⟩ = some (.string (⟨#[]⟩ : ByteArray)) := (blk_cell BK298.out 4).trans rfl; have hcz15_5 : w14.cell? ⟨gb298, 5, none⟩ = some (.slice none 0 0) := (blk_cell BK298.out 5).trans rfl; have hfz15_0 := blk_frozen BK298.out 0; have hfz15_1 := blk_frozen BK298.out 1; have hfz15_2 := blk_frozen BK298.out 2; have hfz15_3 := blk_frozen BK298.out 3; have hfz15_4 := blk_frozen BK298.out 4; have hfz15_5 := blk_frozen BK298.out 5))
             have n0_ : Aside0 (Kd.S (Kd.slice 2 (Kd.int .i64)) 98 ((((((w14.setCell ⟨gb298, 0, none⟩ (.int .i64 ((rd_T93 l0 x11_1).f0))).setCell ⟨gb298, 1, none⟩ (.int .i64 ((rd_T93 l0 x11_1).f1))).setCell ⟨gb298, 2, none⟩ (.int .i64 ((rd_T93 l0 x11_1).f2))).setCell ⟨gb298, 3, none⟩ (.int .i64 ((rd_T93 l0 x11_1).f3))).setCell ⟨gb298, 4, none⟩ (.string ((rd_T93 l0 x11_1).f4))).setCell ⟨gb298, 5, none⟩ (.slice A297_5 ((rd_T93 l0 x11_1).f5).length c297_5)) w.heap.size (fun _ => True) v295 x3_1) := ⟨by (with_reducible repeat (first | apply Kd.S_alloc | apply Kd.S_drewN | apply Kd.S_drew)); exact Kd.S_mono (Kd.S_far (p := ⟨gb298, 5, none⟩) (Kd.S_far (p := ⟨gb298, 4, none⟩) (Kd.S_far (p := ⟨gb298, 3, none⟩) (Kd.S_far (p := ⟨gb298, 2, none⟩) (Kd.S_far (p := ⟨gb298, 1, none⟩) (Kd.S_far (p := ⟨gb298, 0, none⟩) (Kd.S_types HO_3.out BK298.out (by decide)) (fun _ hk => hk.2) (.int .i64 ((rd_T93 l0 x11_1).f0))) (fun _ hk => hk.2) (.int .i64 ((rd_T93 l0 x11_1).f1))) (fun _ hk => hk.2) (.int .i64 ((rd_T93 l0 x11_1).f2))) (fun _ hk => hk.2) (.int .i64 ((rd_T93 l0 x11_1).f3))) (fun _ hk => hk.2) (.string ((rd_T93 l0 x11_1).f4))) (fun _ hk => hk.2) (.slice A297_5 ((rd_T93 l0 x11_1).f5).length c297_5)) (fun _ hk => trivial)⟩
             have n1_ : Aside0 (((((((w14.setCell ⟨gb298, 0, none⟩ (.int .i64 ((rd_T93 l0 x11_1).f0))).setCell ⟨gb298, 1, none⟩ (.int .i64 ((rd_T93 l0 x11_1).f1))).setCell ⟨gb298, 2, none⟩ (.int .i64 ((rd_T93 l0 x11_1).f2))).setCell ⟨gb298, 3, none⟩ (.int .i64 ((rd_T93 l0 x11_1).f3))).setCell ⟨gb298, 4, none⟩ (.string ((rd_T93 l0 x11_1).f4))).setCell ⟨gb298, 5, none⟩ (.slice A297_5 ((rd_T93 l0 x11_1).f5).length c297_5)).heap[gb298]? = some (.cells #[.int .i64 ((rd_T93 l0 x11_1).f0), .int .i64 ((rd_T93 l0 x11_1).f1), .int .i64 ((rd_T93 l0 x11_1).f2), .int .i64 ((rd_T93 l0 x11_1).f3), .string ((rd_T93 l0 x11_1).f4), .slice A297_5 ((rd_T93 l0 x11_1).f5).length c297_5] 93 (0, 0))) := ⟨by (with_reducible repeat (first | refine blk_drewN ?_ _ | refine blk_drew ?_ | refine blk_alloc ?_ _)); refine blk_put (cs := #[.int .i64 ((rd_T93 l0 x11_1).f0), .int .i64 ((rd_T93 l0 x11_1).f1), .int .i64 ((rd_T93 l0 x11_1).f2), .int .i64 ((rd_T93 l0 x11_1).f3), .string ((rd_T93 l0 x11_1).f4), .slice none 0 0]) ?_ 5 _ rfl; (with_reducible repeat (first | refine blk_drewN ?_ _ | refine blk_drew ?_ | refine blk_alloc ?_ _)); refine blk_put (cs := #[.int .i64 ((rd_T93 l0 x11_1).f0), .int .i64 ((rd_T93 l0 x11_1).f1), .int .i64 ((rd_T93 l0 x11_1).f2), .int .i64 ((rd_T93 l0 x11_1).f3), .string (⟨#[]⟩ : ByteArray), .slice none 0 0]) ?_ 4 _ rfl; (with_reducible repeat (first | refine blk_drewN ?_ _ | refine blk_drew ?_ | refine blk_alloc ?_ _)); refine blk_put (cs := #[.int .i64 ((rd_T93 l0 x11_1).f0), .int .i64 ((rd_T93 l0 x11_1).f1), .int .i64 ((rd_T93 l0 x11_1).f2), .int .i64 0, .string (⟨#[]⟩ : ByteArray), .slice none 0 0]) ?_ 3 _ rfl; (with_reducible repeat (first | refine blk_drewN ?_ _ | refine blk_drew ?_ | refine blk_alloc ?_ _)); refine blk_put (cs := #[.int .i64 ((rd_T93 l0 x11_1).f0), .int .i64 ((rd_T93 l0 x11_1).f1), .int .i64 0, .int .i64 0, .string (⟨#[]⟩ : ByteArray), .slice none 0 0]) ?_ 2 _ rfl; (with_reducible repeat (first | refine blk_drewN ?_ _ | refine blk_drew ?_ | refine blk_alloc ?_ _)); refine blk_put (cs := #[.int .i64 ((rd_T93 l0 x11_1).f0), .int .i64 0, .int .i64 0, .int .i64 0, .string (⟨#[]⟩ : ByteArray), .slice none 0 0]) ?_ 1 _ rfl; (with_reducible repeat (first | refine blk_drewN ?_ _ | refine blk_drew ?_ | refine blk_alloc ?_ _)); refine blk_put (cs := #[.int .i64 0, .int .i64 0, .int .i64 0, .int .i64 0, .string (⟨#[]⟩ : ByteArray), .slice none 0 0]) ?_ 0 _ rfl; (with_reducible repeat (first | refine blk_drewN ?_ _ | refine blk_drew ?_ | refine blk_alloc ?_ _)); exact BK298.out⟩
             have n2_ : Aside0 (Below w.heap.size w ((((((w14.setCell ⟨gb298, 0, none⟩ (.int .i64 ((rd_T93 l0 x11_1).f0))).setCell ⟨gb298, 1, none⟩ (.int .i64 ((rd_T93 l0 x11_1).f1))).setCell ⟨gb298, 2, none⟩ (.int .i64 ((rd_T93 l0 x11_1).f2))).setCell ⟨gb298, 3, none⟩ (.int .i64 ((rd_T93 l0 x11_1).f3))).setCell ⟨gb298, 4, none⟩ (.string ((rd_T93 l0 x11_1).f4))).setCell ⟨gb298, 5, none⟩ (.slice A297_5 ((rd_T93 l0 x11_1).f5).length c297_5))) := ⟨by repeat (first | (with_reducible first | exact HB.out | apply below_alloc | apply pw_below_drewN | apply below_drew1 | refine below_set ?_ GE298.out) | exact HB.out)⟩
             (try clear HO_3)
             (try clear BK298)
             (try clear HB)
             generalize ((((((w14.setCell ⟨gb298, 0, none⟩ (.int .i64 ((rd_T93 l0 x11_1).f0))).setCell ⟨gb298, 1, none⟩ (.int .i64 ((rd_T93 l0 x11_1).f1))).setCell ⟨gb298, 2, none⟩ (.int .i64 ((rd_T93 l0 x11_1).f2))).setCell ⟨gb298, 3, none⟩ (.int .i64 ((rd_T93 l0 x11_1).f3))).setCell ⟨gb298, 4, none⟩ (.string ((rd_T93 l0 x11_1).f4))).setCell ⟨gb298, 5, none⟩ (.slice A297_5 ((rd_T93 l0 x11_1).f5).length c297_5)) = w16 at n0_ n1_ n2_ ⊢
             have HO_3 := n0_
             have BK298 := n1_
             have HB := n2_
             clear n0_ n1_ n2_
             have n0_ := ak (Kd.S_drew HO_3.out)
             have n1_ := ak (blk_drew BK298.out)
             have n2_ := ak (below_drew1 HB.out)
             clear HO_3
             clear BK298
             clear HB
             have HO_3 := n0_
             have BK298 := n1_
             have HB := n2_
             clear n0_ n1_ n2_
             obtain ⟨Ao18, co18, eo18⟩ := Kd.S_slice HO_3.out
             (first | subst eo18 | (injection eo18 with f1_ f2_ f3_; have f4_ := f1_.symm; have f5_ := f3_.symm; clear f1_ f2_ f3_; subst f4_; subst f5_))
             have p299 : 0 ≤ (((rd_T93 l0 x11_1).f1) : Int) := of_decide_eq_true d13_2
             have q299 : ((rd_T93 l0 x11_1).f1) < (x3_1.length : Int) := of_decide_eq_true d13_2
             obtain ⟨ad299, A299_0, c299_0, e299, hx299_0, hl299_0, hi299_0⟩ := at_L8 (Kd.S_reads' HO_3.out).2.2 ((rd_T93 l0 x11_1).f1) p299 q299
             cases e299
             obtain ⟨ce299, hce299, hMe299, hcc299⟩ := Kd.S_get HO_3.out [] ((rd_T93 l0 x11_1).f1) p299 (by first | exact q299 | exact of_decide_eq_true d13_2 | (have e_ := (Kd.S_reads' HO_3.out).1; omega))
             obtain ⟨ve299_0, rfl, ge299_0⟩ := hMe299
             have hv299_0 := hcc299 0 _ rfl
             rw [Nat.add_zero, show ((Kd.slice 2 (Kd.int .i64))).sz = 1 from rfl, Nat.mul_one] at hv299_0
             replace hv299_0 := Option.some.inj (hv299_0.symm.trans hx299_0)
             rw [hv299_0] at ge299_0
             have HL299_0 := ak (show Kd.R (Kd.int .i64) 2 _ _ _ _ (rd_L8 x3_1 ((rd_T93 l0 x11_1).f1)) from ge299_0)
             clear hv299_0 ge299_0
             have HX299_0 := ak hx299_0
             clear hcc299 hce299
             have HR299_0 := ak hi299_0
             have HC299_0 := ak hl299_0
             clear hi299_0 hl299_0
             replace p299 := eq_true p299
             replace q299 := eq_true q299
             obtain ⟨go19, co19, eo19, gb19, gl19, cl19, HG19⟩ := Kd.S_form HO_3.out (by have h_ : (((rd_T93 l0 x11_1).f1) : Int) < ((x3_1.length : Int) : Int) := of_decide_eq_true d13_2; have h2_ : 0 ≤ (((rd_T93 l0 x11_1).f1) : Int) := (of_decide_eq_true d13_2); omega)
             (first | cases eo19 | (injection eo19 with ea_ en_ ec_; (first | subst ea_ | (injection ea_ with ea_; subst ea_)); subst ec_; clear en_))
             have GB19 := ak gb19
             have GG19 := ak HG19
             clear gb19 gl19 HG19
             (first | simp only [add_plain] at hx299_0 | skip)
             obtain ⟨oki19, ce19, hcl19, hM19, hcc19, _, _, hH19⟩ := Kd.S_elem HO_3.out [] (((rd_T93 l0 x11_1).f1) : Int) (of_decide_eq_true d13_2) (by have h_ : (((rd_T93 l0 x11_1).f1) : Int) < ((x3_1.length : Int) : Int) := of_decide_eq_true d13_2; first | exact h_ | (have e_ := (Kd.S_reads' HO_3.out).1; omega) | simpa using h_)
             obtain ⟨ve19_0, rfl, ge19_0⟩ := hM19
             have hv19 := hcc19 0 _ rfl
             have hX19 := HX299_0.out
             (try simp only [add_plain] at hX19)
             (try simp only [Nat.add_zero] at hv19)
             (try rw [show ((Kd.slice 2 (Kd.int .i64))).sz = 1 from rfl, Nat.mul_one] at hv19)
             replace hv19 := Option.some.inj (hv19.symm.trans hX19)
             subst hv19
             clear hX19 hcc19 hcl19
             have UU19 := ak (show Kd.R (Kd.int .i64) 2 _ w.heap.size oki19 (.slice A299_0 (rd_L8 x3_1 ((rd_T93 l0 x11_1).f1)).length c299_0) (rd_L8 x3_1 ((rd_T93 l0 x11_1).f1)) from ge19_0)
             have HH19 := ak hH19
             have HN19 := ak (Kd.S_reads' HO_3.out).1
             clear hH19 ge19_0
             refine start_ (n := 13) (S := fun w' => w'.cell? ⟨gb298, 0, none⟩ = some (.int .i64 ((rd_T93 l0 x11_1).f0)) ∧ w'.cell? ⟨gb298, 1, none⟩ = some (.int .i64 ((rd_T93 l0 x11_1).f1)) ∧ w'.cell? ⟨gb298, 2, none⟩ = some (.int .i64 ((rd_T93 l0 x11_1).f2)) ∧ w'.cell? ⟨gb298, 3, none⟩ = some (.int .i64 ((rd_T93 l0 x11_1).f3)) ∧ w'.cell? ⟨gb298, 4, none⟩ = some (.string ((rd_T93 l0 x11_1).f4)) ∧ w'.cell? ⟨gb298, 5, none⟩ = some (.slice A297_5 ((rd_T93 l0 x11_1).f5).length c297_5) ∧ w'.cell? ⟨go19, (((rd_T93 l0 x11_1).f1)).toNat, none⟩ = some (.slice A299_0 (rd_L8 x3_1 ((rd_T93 l0 x11_1).f1)).length c299_0)) (ds := [12]) #[false, false, false, false, false, false, false, false, false, false, false, false, false] (by kernel_rfl) rfl rfl ⟨(blk_cell BK298.out 0).trans rfl, (blk_cell BK298.out 1).trans rfl, (blk_cell BK298.out 2).trans rfl, (blk_cell BK298.out 3).trans rfl, (blk_cell BK298.out 4).trans rfl, (blk_cell BK298.out 5).trans rfl, hx299_0⟩ (fun hHeld => ?_); refine with_tabW impl_kids.tab6 impl_kids.bits6 (fun HT_ HW_ => ?_)
             generalize w16.drew = w17 at HO_3 BK298 HB GG19 HH19 HL299_0 HR299_0 HX299_0 UU19 hx299_0 hHeld ⊢
             refine pure_ (i := 0) (N := some 19) (v := ?_) (a' := ?_) #[true, false, false, false, false, false, false, false, false, false, false, false, false] rfl rfl (any_of HT_.out (by kernel_rfl)) (fun _ _ _ h => h) (Or.inl ⟨by rfl, ?_⟩) ?_ ?_
             rotate_left
             · intro w'
               go_simp
               with_reducible rfl
             rotate_left
             · simp only [Act.put, List.setIfInBounds_toArray, List.set_cons_zero, List.set_cons_succ, i64_w, i32_w]
               rfl
             refine pure_ (i := 1) (N := some 20) (v := ?_) (a' := ?_) #[true, true, false, false, false, false, false, false, false, false, false, false, false] rfl rfl (any_of HT_.out (by kernel_rfl)) (fun _ _ _ h => h) (Or.inl ⟨by rfl, ?_⟩) ?_ ?_
             rotate_left
             · intro w'
               go_simp
               with_reducible rfl
             rotate_left
             · simp only [Act.put, List.setIfInBounds_toArray, List.set_cons_zero, List.set_cons_succ, i64_w, i32_w]
               rfl
             refine pure_ (i := 3) (N := some 22) (v := ?_) (a' := ?_) #[true, true, false, true, false, false, false, false, false, false, false, false, false] rfl rfl (any_of HT_.out (by kernel_rfl)) (fun _ _ _ h => h) (Or.inl ⟨by rfl, ?_⟩) ?_ ?_
             rotate_left
             · intro w'
               go_simp
               with_reducible rfl
             rotate_left
             · simp only [Act.put, List.setIfInBounds_toArray, List.set_cons_zero, List.set_cons_succ, i64_w, i32_w]
               rfl
             refine pure_ (i := 4) (N := some 23) (v := ?_) (a' := ?_) #[true, true, false, true, true, false, false, false, false, false, false, false, false] rfl rfl (any_of HT_.out (by kernel_rfl)) (fun _ _ _ h => h) (Or.inl ⟨by rfl, ?_⟩) ?_ ?_
             rotate_left
             · intro w'
               go_simp
               with_reducible rfl
             rotate_left
             · simp only [Act.put, List.setIfInBounds_toArray, List.set_cons_zero, List.set_cons_succ, i64_w, i32_w]
               rfl
             refine pure_ (i := 8) (N := some 27) (v := ?_) (a' := ?_) #[true, true, false, true, true, false, false, false, true, false, false, false, false] rfl rfl (any_of HT_.out (by kernel_rfl)) (fun _ _ _ h => h) (Or.inl ⟨by rfl, ?_⟩) ?_ ?_
             rotate_left
             · intro w'
               go_simp
               with_reducible rfl
             rotate_left
             · simp only [Act.put, List.setIfInBounds_toArray, List.set_cons_zero, List.set_cons_succ, i64_w, i32_w]
               rfl
             refine take_ (i := 2) (N := some 21) (v := ?_) (a' := ?_) #[true, true, true, true, true, false, false, false, true, false, false, false, false] rfl rfl (take_ofW HT_.out HW_.out (by kernel_rfl)) (fun _ _ _ h => h) (Or.inl ⟨by rfl, ?_⟩) hHeld ?_ ?_
             rotate_left
             · rintro w' ⟨s0, s1, s2, s3, s4, s5, s6⟩
               go_simp
               with_reducible rfl
             rotate_left
             · simp only [Act.put, List.setIfInBounds_toArray, List.set_cons_zero, List.set_cons_succ, i64_w, i32_w]
               rfl
             refine take_ (i := 5) (N := some 24) (v := ?_) (a' := ?_) #[true, true, true, true, true, true, false, false, true, false, false, false, false] rfl rfl (take_ofW HT_.out HW_.out (by kernel_rfl)) (fun _ _ _ h => h) (Or.inl ⟨by rfl, ?_⟩) hHeld ?_ ?_
             rotate_left
             · rintro w' ⟨s0, s1, s2, s3, s4, s5, s6⟩
               go_simp
               with_reducible rfl
             rotate_left
             · simp only [Act.put, List.setIfInBounds_toArray, List.set_cons_zero, List.set_cons_succ, i64_w, i32_w]
               rfl
             refine pure_ (i := 6) (N := some 25) (v := ?_) (a' := ?_) #[true, true, true, true, true, true, true, false, true, false, false, false, false] rfl rfl (any_of HT_.out (by kernel_rfl)) (fun _ _ _ h => h) (Or.inl ⟨by rfl, ?_⟩) ?_ ?_
             rotate_left
             · intro w'
               go_simp
               with_reducible rfl
             rotate_left
             · simp only [Act.put, List.setIfInBounds_toArray, List.set_cons_zero, List.set_cons_succ, i64_w, i32_w]
               rfl
             refine take_ (i := 7) (N := some 26) (v := ?_) (a' := ?_) #[true, true, true, true, true, true, true, true, true, false, false, false, false] rfl rfl (take_ofW HT_.out HW_.out (by kernel_rfl)) (fun _ _ _ h => h) (Or.inl ⟨by rfl, ?_⟩) hHeld ?_ ?_
             rotate_left
             · rintro w' ⟨s0, s1, s2, s3, s4, s5, s6⟩
               go_simp
               with_reducible rfl
             rotate_left
             · simp only [Act.put, List.setIfInBounds_toArray, List.set_cons_zero, List.set_cons_succ, i64_w, i32_w]
               rfl
             refine one_ (i := 9) (N := some 28) #[true, true, true, true, true, true, true, true, true, true, false, false, false] rfl rfl (one_of HT_.out (by kernel_rfl)) (by decide) (fun K hK => ?_)
             refine value_ (w1 := ?_) (v := ?_) (by rfl) rfl ?_ ?_
             rotate_left 2
             · go_simp
               constructor
               · rfl
               · rfl
             refine hK.out _ _ ⟨(blk_cell (blk_alloc BK298.out _) 0).trans rfl, (blk_cell (blk_alloc BK298.out _) 1).trans rfl, (blk_cell (blk_alloc BK298.out _) 2).trans rfl, (blk_cell (blk_alloc BK298.out _) 3).trans rfl, (blk_cell (blk_alloc BK298.out _) 4).trans rfl, (blk_cell (blk_alloc BK298.out _) 5).trans rfl, (World.cell?_alloc_lt _ _ _ (World.block_lt_of_cell? _ _ (hHeld.2.2.2.2.2.2))).trans (hHeld.2.2.2.2.2.2)⟩ (fun hHeld => ?_)
             clear hK K
             refine norm_ (a' := ?_) ?_ ?_
             rotate_left
             · show Act.put _ (some 28) _ = _
               simp only [Act.put, List.setIfInBounds_toArray, List.set_cons_zero, List.set_cons_succ, i64_w, i32_w]
               rfl
             refine one_ (i := 10) (N := some 29) #[true, true, true, true, true, true, true, true, true, true, true, false, false] rfl rfl (one_of HT_.out (by kernel_rfl)) (by decide) (fun K hK => ?_)
             refine Kd.R_append_step (Kd.int .i64) (w0 := w) w.heap.size (by rfl) (.tmp 26) (.tmp 28) 98 2 (.int .i64 0) 8 rfl Tryd.underlying98 info2 rfl (by decide) (by omega) (.slice A299_0 (rd_L8 x3_1 ((rd_T93 l0 x11_1).f1)).length c299_0) (rd_L8 x3_1 ((rd_T93 l0 x11_1).f1)) x11_1 [.int .i64 x11_1] (fun k_ => oki19 k_ ∨ ((fun _ => True)) k_ ∧ w17.heap.size ≤ k_) (fun _ => False) rfl rfl ?aP (fun _ hk => hk.elim) ?aF ?aO ?aB ?aS ?aL ?_
             (case aP => exact rfl)
             (case aB => exact (by repeat (first | (with_reducible first | exact HB.out | apply below_alloc | apply pw_below_drewN | apply below_drew1 | refine below_set ?_ GE298.out) | exact HB.out)))
             (case aF => exact (fun k_ hk => .inr ⟨trivial, hk⟩))
             (case aO => exact (by (with_reducible repeat (first | apply Kd.R_alloc | apply Kd.R_drewN | apply Kd.R_drew)); exact Kd.R_mono UU19.out (fun _ hk => .inl hk)))
             (case aS => exact (below_size (by repeat (first | (with_reducible first | exact HB.out | apply below_alloc | apply pw_below_drewN | apply below_drew1 | refine below_set ?_ GE298.out) | exact HB.out))))
             (case aL => have := LMc12.out; omega)
             intro v301 w20 ho hb hg hat
             (first | have HS6_ := cell_grown hg (hHeld.2.2.2.2.2.2) (by first | (rw [add_block]; exact (fun e_ => ((HL299_0.out.1 _ e_.symm).2) rfl)) | (show some (Addr.add _ _).block ≠ _; rw [add_block]; exact (fun e_ => ((HL299_0.out.1 _ e_.symm).2) rfl)) | exact (fun e_ => ((HL299_0.out.1 _ e_.symm).2) rfl)) | have HS6_ := cell_grown hg (cell_unalloc (hHeld.2.2.2.2.2.2) (by first | (rw [add_block]; exact Kd.S_lt HO_3.out _ rfl) | (show (Addr.add _ _).block < _; rw [add_block]; exact Kd.S_lt HO_3.out _ rfl) | exact Kd.S_lt HO_3.out _ rfl)) (by first | (rw [add_block]; exact (fun e_ => ((HL299_0.out.1 _ e_.symm).2) rfl)) | (show some (Addr.add _ _).block ≠ _; rw [add_block]; exact (fun e_ => ((HL299_0.out.1 _ e_.symm).2) rfl)) | exact (fun e_ => ((HL299_0.out.1 _ e_.symm).2) rfl)))
             rw [← Ny300.out] at ho
             have n0_ := ak (blk_grown (g := gb298) (o := .cells #[.int .i64 ((rd_T93 l0 x11_1).f0), .int .i64 ((rd_T93 l0 x11_1).f1), .int .i64 ((rd_T93 l0 x11_1).f2), .int .i64 ((rd_T93 l0 x11_1).f3), .string ((rd_T93 l0 x11_1).f4), .slice A297_5 ((rd_T93 l0 x11_1).f5).length c297_5] 93 (0, 0)) (by (with_reducible repeat (first | refine blk_drewN ?_ _ | refine blk_drew ?_ | refine blk_alloc ?_ _)); exact BK298.out) hg (Kd.R_ne HL299_0.out BK298.out (by decide)))
             have n1_ := ak (hb)
             have n2_ := ak (Kd.H_grown (Kd.H_widen (by repeat (first | exact HH19.out | refine Kd.H_alloc ?_ _ | refine Kd.H_drewN ?_ _ | refine Kd.H_drew ?_))) hg (fun k_ e_ => .inl (UU19.out.1 k_ e_)))
             have n3_ := ak (ho)
             clear BK298
             clear HB
             clear HH19
             clear HO_3
             clear UU19
             clear HL299_0
             have BK298 := n0_
             have HB := n1_
             have HH19 := n2_
             have HO302 := n3_
             clear n0_ n1_ n2_ n3_
             clear ho hb hg hat
             have p13 : 0 ≤ (((rd_T93 l0 x11_1).f1) : Int) := of_decide_eq_true d13_2
             have q13 : (((rd_T93 l0 x11_1).f1) : Int) < ((x3_1.length : Int) : Int) := of_decide_eq_true d13_2
             replace p13 := eq_true p13
             replace q13 := eq_true q13
             obtain ⟨Ao23, co23, eo23⟩ := Kd.R_slice HO302.out
             (first | subst eo23 | (injection eo23 with f1_ f2_ f3_; have f4_ := f1_.symm; have f5_ := f3_.symm; clear f1_ f2_ f3_; subst f4_; subst f5_))
             obtain ⟨_, _, hraw21, _, _, hcc21, _⟩ := Kd.H_raw HH19.out (of_decide_eq_true d13_2) (by have h_ : (((rd_T93 l0 x11_1).f1) : Int) < ((x3_1.length : Int) : Int) := of_decide_eq_true d13_2; first | exact h_ | (have e_ := (HN19.out); omega) | simpa using h_)
             obtain ⟨_, hfr21⟩ := Kd.H_at HH19.out (of_decide_eq_true d13_2) (by have h_ : (((rd_T93 l0 x11_1).f1) : Int) < ((x3_1.length : Int) : Int) := of_decide_eq_true d13_2; first | exact h_ | (have e_ := (HN19.out); omega) | simpa using h_)
             have hx21_0 := hcc21 0 _ rfl
             have hf21_0 := hfr21 0
             (try simp only [Nat.add_zero] at hx21_0 hf21_0)
             (try rw [show ((Kd.slice 2 (Kd.int .i64))).sz = 1 from rfl, Nat.mul_one] at hx21_0)
             (try rw [show ((Kd.slice 2 (Kd.int .i64))).sz = 1 from rfl, Nat.mul_one] at hf21_0)
             have HP21 := Kd.S_seg0 HH19.out (of_decide_eq_true d13_2) (by have h_ : (((rd_T93 l0 x11_1).f1) : Int) < ((x3_1.length : Int) : Int) := of_decide_eq_true d13_2; first | exact h_ | (have e_ := (HN19.out); omega) | simpa using h_) (seg := [.slice Ao23 y300.length co23]) (j := 0) (show 1 ≤ 1 from by decide) (x' := y300) (Kd.M_row HO302.out) (fun _ hk => hk)
             (try simp only [show ((Kd.slice 2 (Kd.int .i64))).sz = 1 from rfl, Nat.mul_one, Nat.add_zero] at HP21)
             clear hcc21 hfr21
             have HNB298_go19 := ak (show gb298 ≠ go19 from by have h_ := Kd.R_ne hraw21 BK298.out (by decide); intro e_; exact h_ (by rw [e_]; rfl))
             have HS21 := HP21.1
             rw [← Ny303.out] at HS21
             have HQ21 := ak HS21
             obtain ⟨_, hgg21⟩ := Kd.R_typed hraw21 go19 rfl
             have GG21_ := ak hgg21
             clear HP21 HS21 hgg21
             refine hK.out _ _ ⟨(blk_cell BK298.out 0).trans rfl, (blk_cell BK298.out 1).trans rfl, (blk_cell BK298.out 2).trans rfl, (blk_cell BK298.out 3).trans rfl, (blk_cell BK298.out 4).trans rfl, (blk_cell BK298.out 5).trans rfl, HS6_⟩ (fun hHeld => ?_)
             clear hK K
             refine norm_ (a' := ?_) ?_ ?_
             rotate_left
             · show Act.put _ (some 29) _ = _
               simp only [Act.put, List.setIfInBounds_toArray, List.set_cons_zero, List.set_cons_succ, i64_w, i32_w]
               rfl
             refine pure_ (i := 11) (N := some 30) (v := ?_) (a' := ?_) #[true, true, true, true, true, true, true, true, true, true, true, true, false] rfl rfl (any_of HT_.out (by kernel_rfl)) (fun _ _ _ h => h) (Or.inl ⟨by rfl, ?_⟩) ?_ ?_
             rotate_left
             · intro w'
               go_simp
               with_reducible rfl
             rotate_left
             · simp only [Act.put, List.setIfInBounds_toArray, List.set_cons_zero, List.set_cons_succ, i64_w, i32_w]
               rfl
             refine last_ (i := 12) (N := none) #[true, true, true, true, true, true, true, true, true, true, true, true, true] rfl rfl (one_of HT_.out (by kernel_rfl)) (by decide) (fun K hK => ?_)
             refine skip_ (w1 := ?_) (by rfl) rfl ?_ ?_
             rotate_left
             · go_simp
               rfl
             refine hK.out _ _ ?_
             clear hK K
             refine done_ (done_of HT_.out (by kernel_rfl)) ?_
             try go_wp2
             go_roundg k1
             case measure => have := HK1.out; omega
             case rel => exact ⟨(y303), (wrap64 (x11_1 + 1)), d13_4, H', ⟨by have := HK1.out; omega⟩, ⟨by (with_reducible repeat (first | apply Kd.S_alloc | apply Kd.S_drewN | apply Kd.S_drew)); exact HQ21.out⟩, ⟨by repeat (first | (with_reducible first | exact HB.out | apply below_alloc | apply pw_below_drewN | apply below_drew1 | refine below_set ?_ GB19.out | refine below_set ?_ GE298.out) | exact HB.out)⟩⟩
            ·rw [if_neg c12] at H
             exact absurd H (by simp)
           ·rw [if_neg c11] at H
            exact absurd H (by simp)
          ·rw [if_neg c10] at H
           exact absurd H (by simp)
         ·rw [if_neg c9] at H
          have c9b0 : decide (0 ≤ ((rd_T93 l0 x11_1).f1)) = false := decide_eq_false c9
          clear c9
          have H' := ak H
          clear H
          have p297 : 0 ≤ (x11_1 : Int) := of_decide_eq_true d13_2
          have q297 : x11_1 < (l0.length : Int) := of_decide_eq_true d13_2
          obtain ⟨ad297, A297_5, c297_5, e297, hx297_0, hx297_1, hx297_2, hx297_3, hx297_4, hx297_5, hl297_5, hi297_5⟩ := at_T93 HR0.out x11_1 p297 q297
          cases e297
          replace hx297_0 := (HB.out.cell (World.block_lt_of_cell? w _ hx297_0)).trans hx297_0
          replace hx297_1 := (HB.out.cell (World.block_lt_of_cell? w _ hx297_1)).trans hx297_1
          replace hx297_2 := (HB.out.cell (World.block_lt_of_cell? w _ hx297_2)).trans hx297_2
          replace hx297_3 := (HB.out.cell (World.block_lt_of_cell? w _ hx297_3)).trans hx297_3
          replace hx297_4 := (HB.out.cell (World.block_lt_of_cell? w _ hx297_4)).trans hx297_4
          replace hx297_5 := (HB.out.cell (World.block_lt_of_cell? w _ hx297_5)).trans hx297_5
          have HR297_5 := ak hi297_5
          have HC297_5 := ak hl297_5
          clear hi297_5 hl297_5
          replace p297 := eq_true p297
          replace q297 := eq_true q297
          go_wp2_with (first | ((with_reducible refine gate_dst (N := 5) rfl ?_); refine box_event ?hg (N := 5) ?hd (cs := #[.int .i64 0, .int .i64 0, .int .i64 0, .int .i64 0, .string (⟨#[]⟩ : ByteArray), .slice none 0 0]) (t := 93) ?hr ?_; (case hd => rfl); (case hg => rfl); (case hr => first | (go_simp; done) | (go_simp; rfl)); intro gb298 hg w24 hbox hb; have n0_ := ak (Kd.S_below (by (with_reducible repeat (first | apply Kd.S_alloc | apply Kd.S_drewN | apply Kd.S_drew)); exact HO_3.out) hb); have n1_ := ak (below_step d13_1 hb); have n2_ := ak (hbox); have n3_ := ak ((by rw [hg]; exact (below_size d13_1) : w.heap.size ≤ gb298)); have n4_ := ak ((by rw [hg]; exact (below_size d13_1) : w.heap.size ≤ gb298)); clear HO_3 HB; have HO_3 := n0_; have HB := n1_; have BK298 := n2_; have GW298 := n3_; have GE298 := n4_; clear n0_ n1_ n2_ n3_ n4_ hb hbox hg; have hcz25_0 : w24.cell? ⟨gb298, 0, none⟩ = some (.int .i64 0) := (blk_cell BK298.out 0).trans rfl; have hcz25_1 : w24.cell? ⟨gb298, 1, none⟩ = some (.int .i64 0) := (blk_cell BK298.out 1).trans rfl; have hcz25_2 : w24.cell? ⟨gb298, 2, none⟩ = some (.int .i64 0) := (blk_cell BK298.out 2).trans rfl; have hcz25_3 : w24.cell? ⟨gb298, 3, none⟩ = some (.int .i64 0) := (blk_cell BK298.out 3).trans rfl; have hcz25_4 : w24.cell? ⟨gb298, 4, none⟩ = some (.string (⟨#[]⟩ : ByteArray)) := (blk_cell BK298.out 4).trans rfl; have hcz25_5 : w24.cell? ⟨gb298, 5, none⟩ = some (.slice none 0 0) := (blk_cell BK298.out 5).trans rfl; have hfz25_0 := blk_frozen BK298.out 0; have hfz25_1 := blk_frozen BK298.out 1; have hfz25_2 := blk_frozen BK298.out 2; have hfz25_3 := blk_frozen BK298.out 3; have hfz25_4 := blk_frozen BK298.out 4; have hfz25_5 := blk_frozen BK298.out 5))
          go_roundg k1
          case measure => have := HK1.out; omega
          case rel => exact ⟨(x3_1), (wrap64 (x11_1 + 1)), d13_4, H', ⟨by have := HK1.out; omega⟩, ⟨by (with_reducible repeat (first | apply Kd.S_alloc | apply Kd.S_drewN | apply Kd.S_drew)); exact Kd.S_mono (Kd.S_far (p := ⟨gb298, 5, none⟩) (Kd.S_far (p := ⟨gb298, 4, none⟩) (Kd.S_far (p := ⟨gb298, 3, none⟩) (Kd.S_far (p := ⟨gb298, 2, none⟩) (Kd.S_far (p := ⟨gb298, 1, none⟩) (Kd.S_far (p := ⟨gb298, 0, none⟩) (Kd.S_types HO_3.out BK298.out (by decide)) (fun _ hk => hk.2) (.int .i64 ((rd_T93 l0 x11_1).f0))) (fun _ hk => hk.2) (.int .i64 ((rd_T93 l0 x11_1).f1))) (fun _ hk => hk.2) (.int .i64 ((rd_T93 l0 x11_1).f2))) (fun _ hk => hk.2) (.int .i64 ((rd_T93 l0 x11_1).f3))) (fun _ hk => hk.2) (.string ((rd_T93 l0 x11_1).f4))) (fun _ hk => hk.2) (.slice A297_5 ((rd_T93 l0 x11_1).f5).length c297_5)) (fun _ hk => trivial)⟩, ⟨by repeat (first | (with_reducible first | exact HB.out | apply below_alloc | apply pw_below_drewN | apply below_drew1 | refine below_set ?_ GE298.out) | exact HB.out)⟩⟩
        ·rw [if_neg c8] at H
         exact absurd H (by simp)
       ·rw [if_neg c7] at H
        exact absurd H (by simp)
      ·rw [if_neg c6] at H
       have c6b0 : decide (x11_1 < (l0.length : Int)) = false := decide_eq_false c6
       clear c6
       obtain rfl := Option.some.inj H
       go_wp2
       go_ret
       exact ⟨_, by first | rfl | (simp [errW_none, errW_some] <;> rfl) | (simp [*, errW_none, errW_some] <;> rfl), by (with_reducible repeat (first | apply Kd.S_alloc | apply Kd.S_drewN | apply Kd.S_drew)); exact HO_3.out, by repeat (first | (with_reducible first | exact HB.out | apply below_alloc | apply pw_below_drewN | apply below_drew1) | exact HB.out)⟩
   ·rw [if_neg c3] at H
    exact absurd H (by simp)
  ·rw [if_neg c2] at H
   exact absurd H (by simp)

/-! ### impl_hasKids: function 63 -/
def impl_hasKids.j0 : Nat → Int → Int → Bool → Option (Bool)
  | 0, _, _, _ => none
  | k + 1, x1, x5, x10 => if x10 = true then (some (x1 == 1)) else (if x5 = 6 then (some (decide (x1 ≥ 1))) else (if x5 = 9 then ((impl_in.f x1 1 4).bind fun t304 => (some t304)) else (some (x1 == 0))))
def impl_hasKids.f (k : Nat) (a0 : Int) (a1 : Int) : Option (Bool) := if a0 = 4 then (some (a1 == 3)) else (if a0 = 5 then (impl_hasKids.j0 k a1 a0 (a0 == 5)) else (if a0 = 7 then (impl_hasKids.j0 k a1 a0 (a0 == 7)) else (impl_hasKids.j0 k a1 a0 (a0 == 8))))
theorem impl_hasKids.mono_l : ∀ k, (∀ y0 y1 y2, LeO (impl_hasKids.j0 k y0 y1 y2) (impl_hasKids.j0 (k + 1) y0 y1 y2))
  | 0 => fun _ _ _ r h => by simp [impl_hasKids.j0] at h
  | k + 1 => by
    have ih0 := impl_hasKids.mono_l k
    · intro y0 y1 y2
      unfold impl_hasKids.j0
      repeat' first
      | (with_reducible exact ih0 _ _ _)
      | (with_reducible exact LeO.refl _)
      | (with_reducible exact LeO.none _)
      | (with_reducible refine LeO.ite ?_ ?_)
      | (with_reducible refine LeO.bind ?_ (fun _ => ?_))
      | exact ih0 _ _ _
      | exact LeO.none _
      | refine LeO.ite ?_ ?_
      | refine LeO.bind ?_ (fun _ => ?_)
theorem impl_hasKids.mono : ∀ a0 a1 k, LeO (impl_hasKids.f k a0 a1) (impl_hasKids.f (k + 1) a0 a1) := by
  intro a0 a1 k
  have ih0 := impl_hasKids.mono_l k
  unfold impl_hasKids.f
  repeat' first
      | (with_reducible exact ih0 _ _ _)
      | (with_reducible exact LeO.refl _)
      | (with_reducible exact LeO.none _)
      | (with_reducible refine LeO.ite ?_ ?_)
      | (with_reducible refine LeO.bind ?_ (fun _ => ?_))
      | exact ih0 _ _ _
      | exact LeO.none _
      | refine LeO.ite ?_ ?_
      | refine LeO.bind ?_ (fun _ => ?_)
set_option maxHeartbeats 8000000 in
set_option maxRecDepth 100000 in
theorem impl_hasKids.calls (k : Nat) (a0 : Int) (a1 : Int) (r : Bool) (w : World) (h : impl_hasKids.f k a0 a1 = some r) :
    Calls Tryd.prog 63 #[.int .i64 a0, .int .i64 a1] w fun e w' => e = .returned (.bool r) ∧ Drawn0 w w' := by
  have H : (if a0 = 4 then (some (a1 == 3)) else (if a0 = 5 then (impl_hasKids.j0 k a1 a0 (a0 == 5)) else (if a0 = 7 then (impl_hasKids.j0 k a1 a0 (a0 == 7)) else (impl_hasKids.j0 k a1 a0 (a0 == 8))))) = some r := h
  clear h
  by_cases c3 : a0 = 4
  ·rw [if_pos c3] at H
   have c3b0 : (a0 == 4) = true := beq_iff_eq.mpr c3
   have c3b1 : (a0 != 4) = false := bne_eq_false_iff_eq.mpr c3
   clear c3
   obtain rfl := Option.some.inj H
   go_enter Tryd.func63, Tryd.ntmps63
   go_wp2
   go_ret
   exact ⟨by first | rfl | (simp; done) | (simp [*]; done) | (simp [ne_nil_b, eq_nil_b]; done), by repeat (first | exact Drawn0.refl _ | apply Drawn0.step)⟩
  ·rw [if_neg c3] at H
   have c3b0 : (a0 == 4) = false := beq_eq_false_iff_ne.mpr c3
   have c3b1 : (a0 != 4) = true := bne_iff_ne.mpr c3
   have HC4 := ak H
   clear H
   go_enter Tryd.func63, Tryd.ntmps63
   go_upto_if 10 with (fail)
   go_cut [10] (fun v10 wc => ∃ (kq : Nat) (x10_3 : Bool), v10 = .bool x10_3 ∧ Aside0 (impl_hasKids.j0 kq a1 a0 x10_3 = some r) ∧ Aside0 (kq ≤ k) ∧ Drawn0 w wc)
   case first =>
    have H := HC4.out
    clear HC4
    by_cases c5 : a0 = 5
    ·rw [if_pos c5] at H
     have c5b0 : (a0 == 5) = true := beq_iff_eq.mpr c5
     have c5b1 : (a0 != 5) = false := bne_eq_false_iff_eq.mpr c5
     clear c5
     (first | rw [c5b0] | (simp only [i64_w, i32_w]; rw [c5b0]) | skip)
     have H' := ak H
     clear H
     go_wp2
     go_meet
     case rel => exact ⟨_, ((a0 == 5)), d13_4, H', ⟨by first | omega | exact Nat.le_refl _⟩, by repeat (first | exact Drawn0.refl _ | apply Drawn0.step)⟩
    ·rw [if_neg c5] at H
     have c5b0 : (a0 == 5) = false := beq_eq_false_iff_ne.mpr c5
     have c5b1 : (a0 != 5) = true := bne_iff_ne.mpr c5
     (first | rw [c5b0] | (simp only [i64_w, i32_w]; rw [c5b0]) | skip)
     by_cases c6 : a0 = 7
     ·rw [if_pos c6] at H
      have c6b0 : (a0 == 7) = true := beq_iff_eq.mpr c6
      have c6b1 : (a0 != 7) = false := bne_eq_false_iff_eq.mpr c6
      clear c6
      have H' := ak H
      clear H
      go_wp2
      go_meet
      case rel => exact ⟨_, ((a0 == 7)), d13_4, H', ⟨by first | omega | exact Nat.le_refl _⟩, by repeat (first | exact Drawn0.refl _ | apply Drawn0.step)⟩
     ·rw [if_neg c6] at H
      have c6b0 : (a0 == 7) = false := beq_eq_false_iff_ne.mpr c6
      have c6b1 : (a0 != 7) = true := bne_iff_ne.mpr c6
      have H' := ak H
      clear H
      go_wp2
      go_meet
      case rel => exact ⟨_, ((a0 == 8)), d13_4, H', ⟨by first | omega | exact Nat.le_refl _⟩, by repeat (first | exact Drawn0.refl _ | apply Drawn0.step)⟩
   case rest =>
    clear HC4
    try clear p2
    try clear c3
    try clear c3b0
    try clear c3b1
    try clear c6
    obtain ⟨kq, x10_3, rfl, HA, HJ3, ⟨mc3, rfl⟩⟩ := hcut
    cases kq with
    | zero => exact absurd HA.out (by simp [impl_hasKids.j0])
    | succ kj3 =>
     have H := HA.out
     clear HA
     simp only [impl_hasKids.j0] at H
     by_cases c7 : x10_3 = true
     ·subst c7
      have H1 : (some (a1 == 1)) = some r := by rw [if_pos rfl] at H; exact H
      clear H
      have H := H1
      clear H1
      obtain rfl := Option.some.inj H
      go_wp2
      go_ret
      exact ⟨by first | rfl | (simp; done) | (simp [*]; done) | (simp [ne_nil_b, eq_nil_b]; done), by repeat (first | exact Drawn0.refl _ | apply Drawn0.step)⟩
     ·replace c7 := Bool.eq_false_iff.mpr c7
      subst c7
      have H1 : (if a0 = 6 then (some (decide (a1 ≥ 1))) else (if a0 = 9 then ((impl_in.f a1 1 4).bind fun t304 => (some t304)) else (some (a1 == 0)))) = some r := by rw [if_neg (show ¬ (false = true) by decide)] at H; exact H
      clear H
      have H := H1
      clear H1
      by_cases c8 : a0 = 6
      ·rw [if_pos c8] at H
       have c8b0 : (a0 == 6) = true := beq_iff_eq.mpr c8
       have c8b1 : (a0 != 6) = false := bne_eq_false_iff_eq.mpr c8
       clear c8
       obtain rfl := Option.some.inj H
       go_wp2
       go_ret
       exact ⟨by first | rfl | (simp; done) | (simp [*]; done) | (simp [ne_nil_b, eq_nil_b]; done), by repeat (first | exact Drawn0.refl _ | apply Drawn0.step)⟩
      ·rw [if_neg c8] at H
       have c8b0 : (a0 == 6) = false := beq_eq_false_iff_ne.mpr c8
       have c8b1 : (a0 != 6) = true := bne_iff_ne.mpr c8
       by_cases c9 : a0 = 9
       ·rw [if_pos c9] at H
        have c9b0 : (a0 == 9) = true := beq_iff_eq.mpr c9
        have c9b1 : (a0 != 9) = false := bne_eq_false_iff_eq.mpr c9
        clear c9
        replace H := Option.bind_eq_some_iff.mp H
        obtain ⟨t304, A100, H⟩ := H
        replace H : (some t304) = some r := H
        have A10 := ak A100
        clear A100
        obtain rfl := Option.some.inj H
        go_wp2_with (first | ((with_reducible refine gate_callee (f := 37) rfl ?_); refine goesL_ (some 23) rfl rfl Tryd.func37 (by kernel_rfl) rfl #[.int .i64 a1, .int .i64 1, .int .i64 4] rfl d13_3 ?_; (with_reducible refine (impl_in.calls a1 1 4 t304 _ A10.out).mono ?_); rintro e w' ⟨rfl, ⟨nd, rfl⟩⟩; refine ⟨_, rfl, ?_⟩))
        go_ret
        exact ⟨by first | rfl | (simp; done) | (simp [*]; done) | (simp [ne_nil_b, eq_nil_b]; done), by repeat (first | exact Drawn0.refl _ | apply Drawn0.step)⟩
       ·rw [if_neg c9] at H
        have c9b0 : (a0 == 9) = false := beq_eq_false_iff_ne.mpr c9
        have c9b1 : (a0 != 9) = true := bne_iff_ne.mpr c9
        obtain rfl := Option.some.inj H
        go_wp2
        go_ret
        exact ⟨by first | rfl | (simp; done) | (simp [*]; done) | (simp [ne_nil_b, eq_nil_b]; done), by repeat (first | exact Drawn0.refl _ | apply Drawn0.step)⟩

/-! ### impl_CoreFault: function 27 -/
mutual
def impl_CoreFault.l0 : Nat → List (S93) → Int → Int → Option (Int)
  | 0, _, _, _ => none
  | k + 1, x0, x12, x13 => if x13 < x12 then ((impl_oneCoreFault.f k x0 x13).bind fun t306 => (if t306 = 0 then (impl_CoreFault.l0 k x0 x12 (wrap64 (x13 + 1))) else (some t306))) else ((impl_kids.f k x0).bind fun t307 => (impl_CoreFault.l1 k x0 t307 (t307.length : Int) 0))
def impl_CoreFault.l1 : Nat → List (S93) → List (List Int) → Int → Int → Option (Int)
  | 0, _, _, _, _ => none
  | k + 1, x0, x24, x25, x26 => if x26 < x25 then (if 0 ≤ x26 then (if x26 < (x24.length : Int) then (if x26 < (x0.length : Int) then ((impl_hasKids.f k ((rd_T93 x0 x26).f0) ((rd_L8 x24 x26).length : Int)).bind fun t312 => (if t312 = true then (impl_CoreFault.l1 k x0 x24 x25 (wrap64 (x26 + 1))) else (some 1))) else (none)) else (none)) else (none)) else (some 0)
end
def impl_CoreFault.f (k : Nat) (l0 : List (S93)) : Option (Int) := (impl_in.f (l0.length : Int) 1 160).bind fun t305 => (if t305 = true then (impl_CoreFault.l0 k l0 (l0.length : Int) 0) else (some 2))
theorem impl_CoreFault.mono_l : ∀ k, (∀ y0 y1 y2, LeO (impl_CoreFault.l0 k y0 y1 y2) (impl_CoreFault.l0 (k + 1) y0 y1 y2)) ∧ (∀ y0 y1 y2 y3, LeO (impl_CoreFault.l1 k y0 y1 y2 y3) (impl_CoreFault.l1 (k + 1) y0 y1 y2 y3))
  | 0 => ⟨fun _ _ _ r h => by simp [impl_CoreFault.l0] at h, fun _ _ _ _ r h => by simp [impl_CoreFault.l1] at h⟩
  | k + 1 => by
    obtain ⟨ih0, ih1⟩ := impl_CoreFault.mono_l k
    refine ⟨?_, ?_⟩
    · intro y0 y1 y2
      unfold impl_CoreFault.l0
      repeat' first
      | (with_reducible exact ih0 _ _ _)
      | (with_reducible exact ih1 _ _ _ _)
      | (with_reducible exact impl_hasKids.mono _ _ _)
      | (with_reducible exact impl_kids.mono _ _)
      | (with_reducible exact impl_oneCoreFault.mono _ _ _)
      | (with_reducible exact LeO.refl _)
      | (with_reducible exact LeO.none _)
      | (with_reducible refine LeO.ite ?_ ?_)
      | (with_reducible refine LeO.bind ?_ (fun _ => ?_))
      | exact ih0 _ _ _
      | exact ih1 _ _ _ _
      | exact impl_hasKids.mono _ _ _
      | exact impl_kids.mono _ _
      | exact impl_oneCoreFault.mono _ _ _
      | exact LeO.none _
      | refine LeO.ite ?_ ?_
      | refine LeO.bind ?_ (fun _ => ?_)
    · intro y0 y1 y2 y3
      unfold impl_CoreFault.l1
      repeat' first
      | (with_reducible exact ih0 _ _ _)
      | (with_reducible exact ih1 _ _ _ _)
      | (with_reducible exact impl_hasKids.mono _ _ _)
      | (with_reducible exact impl_kids.mono _ _)
      | (with_reducible exact impl_oneCoreFault.mono _ _ _)
      | (with_reducible exact LeO.refl _)
      | (with_reducible exact LeO.none _)
      | (with_reducible refine LeO.ite ?_ ?_)
      | (with_reducible refine LeO.bind ?_ (fun _ => ?_))
      | exact ih0 _ _ _
      | exact ih1 _ _ _ _
      | exact impl_hasKids.mono _ _ _
      | exact impl_kids.mono _ _
      | exact impl_oneCoreFault.mono _ _ _
      | exact LeO.none _
      | refine LeO.ite ?_ ?_
      | refine LeO.bind ?_ (fun _ => ?_)
theorem impl_CoreFault.mono : ∀ a0 k, LeO (impl_CoreFault.f k a0) (impl_CoreFault.f (k + 1) a0) := by
  intro a0 k
  obtain ⟨ih0, ih1⟩ := impl_CoreFault.mono_l k
  unfold impl_CoreFault.f
  repeat' first
      | (with_reducible exact ih0 _ _ _)
      | (with_reducible exact ih1 _ _ _ _)
      | (with_reducible exact impl_hasKids.mono _ _ _)
      | (with_reducible exact impl_kids.mono _ _)
      | (with_reducible exact impl_oneCoreFault.mono _ _ _)
      | (with_reducible exact LeO.refl _)
      | (with_reducible exact LeO.none _)
      | (with_reducible refine LeO.ite ?_ ?_)
      | (with_reducible refine LeO.bind ?_ (fun _ => ?_))
      | exact ih0 _ _ _
      | exact ih1 _ _ _ _
      | exact impl_hasKids.mono _ _ _
      | exact impl_kids.mono _ _
      | exact impl_oneCoreFault.mono _ _ _
      | exact LeO.none _
      | refine LeO.ite ?_ ?_
      | refine LeO.bind ?_ (fun _ => ?_)
set_option maxHeartbeats 8000000 in
set_option maxRecDepth 100000 in
theorem impl_CoreFault.calls (k : Nat) (A0 : Option Addr) (c0 : Nat) (l0 : List (S93)) (r : Int) (w : World) (hr0 : Kd.C k93 w A0 l0.length l0) (hc0 : l0.length ≤ c0) (h : impl_CoreFault.f k l0 = some r) :
    Calls Tryd.prog 27 #[.slice A0 l0.length c0] w fun e w' => e = .returned (.int .i64 r) ∧ Below w.heap.size w w' := by
  have HR0 := ak hr0
  have HC0 := ak hc0
  clear hr0 hc0
  have HB := ak (Below.refl w.heap.size w)
  have H : ((impl_in.f (l0.length : Int) 1 160).bind fun t305 => (if t305 = true then (impl_CoreFault.l0 k l0 (l0.length : Int) 0) else (some 2))) = some r := h
  clear h
  replace H := Option.bind_eq_some_iff.mp H
  obtain ⟨t305, A20, H⟩ := H
  replace H : (if t305 = true then (impl_CoreFault.l0 k l0 (l0.length : Int) 0) else (some 2)) = some r := H
  have A2 := ak A20
  clear A20
  by_cases c3 : t305 = true
  ·subst c3
   have H1 : (impl_CoreFault.l0 k l0 (l0.length : Int) 0) = some r := by rw [if_pos rfl] at H; exact H
   clear H
   have H := H1
   clear H1
   have H' := ak H
   clear H
   go_enter Tryd.func27, Tryd.ntmps27
   go_wp2_with (first | ((with_reducible refine gate_callee (f := 37) rfl ?_); refine goesL_ (some 9) rfl rfl Tryd.func37 (by kernel_rfl) rfl #[.int .i64 (l0.length : Int), .int .i64 1, .int .i64 160] rfl d13_3 ?_; (with_reducible refine (impl_in.calls (l0.length : Int) 1 160 true _ A2.out).mono ?_); rintro e w' ⟨rfl, ⟨nd, rfl⟩⟩; refine ⟨_, rfl, ?_⟩))
   go_loopg [13] k (fun kq v13 w' => ∃ (x13_1 : Int), v13 = .int .i64 x13_1 ∧ Aside0 (impl_CoreFault.l0 kq l0 (l0.length : Int) x13_1 = some r) ∧ Aside0 (kq ≤ k) ∧ Aside0 (Below w.heap.size w w'))
   case atStart => exact ⟨(0), d13_4, H', ⟨Nat.le_refl _⟩, ⟨by repeat (first | (with_reducible first | exact HB.out | apply below_alloc | apply pw_below_drewN | apply below_drew1) | exact HB.out)⟩⟩
   case round =>
    clear H'
    try clear c2
    try clear p2
    try clear c3
    obtain ⟨x13_1, rfl, HA, HK1, HB⟩ := hrel
    cases gk with
    | zero => exact absurd HA.out (by simp [impl_CoreFault.l0])
    | succ k1 =>
     have H := HA.out
     clear HA
     simp only [impl_CoreFault.l0] at H
     by_cases c4 : x13_1 < (l0.length : Int)
     ·rw [if_pos c4] at H
      have c4b0 : decide (x13_1 < (l0.length : Int)) = true := decide_eq_true c4
      clear c4
      replace H := Option.bind_eq_some_iff.mp H
      obtain ⟨t306, A50, H⟩ := H
      replace H : (if t306 = 0 then (impl_CoreFault.l0 k1 l0 (l0.length : Int) (wrap64 (x13_1 + 1))) else (some t306)) = some r := H
      have A5 := ak A50
      clear A50
      by_cases c6 : t306 = 0
      ·rw [if_pos c6] at H
       have c6b0 : (t306 == 0) = true := beq_iff_eq.mpr c6
       have c6b1 : (t306 != 0) = false := bne_eq_false_iff_eq.mpr c6
       clear c6
       have H' := ak H
       clear H
       go_wp2_with (first | ((with_reducible refine gate_callee (f := 61) rfl ?_); refine goesL_ (some 18) rfl rfl Tryd.func61 (by kernel_rfl) rfl #[.slice A0 l0.length c0, .int .i64 x13_1] rfl d13_3 ?_; (with_reducible refine (impl_oneCoreFault.calls k1 _ _ l0 x13_1 t306 _ ?side1 ?side2 A5.out).mono ?_); (case side1 => repeat (first | exact (Kd.C_below HR0.out HB.out) | (with_reducible refine Kd.C_alloc ?_ _) | (with_reducible refine Kd.C_drewN ?_ _) | (with_reducible refine Kd.C_drew ?_))); (case side2 => exact HC0.out); rintro e w7 ⟨rfl, hb⟩; refine ⟨_, rfl, ?_⟩; have n0_ := ak (below_step d13_1 hb); clear HB; have HB := n0_; clear n0_; (try clear hb)))
       go_roundg k1
       case measure => have := HK1.out; omega
       case rel => exact ⟨(wrap64 (x13_1 + 1)), d13_4, H', ⟨by have := HK1.out; omega⟩, ⟨by repeat (first | (with_reducible first | exact HB.out | apply below_alloc | apply pw_below_drewN | apply below_drew1) | exact HB.out)⟩⟩
      ·rw [if_neg c6] at H
       have c6b0 : (t306 == 0) = false := beq_eq_false_iff_ne.mpr c6
       have c6b1 : (t306 != 0) = true := bne_iff_ne.mpr c6
       obtain rfl := Option.some.inj H
       go_wp2_with (first | ((with_reducible refine gate_callee (f := 61) rfl ?_); refine goesL_ (some 18) rfl rfl Tryd.func61 (by kernel_rfl) rfl #[.slice A0 l0.length c0, .int .i64 x13_1] rfl d13_3 ?_; (with_reducible refine (impl_oneCoreFault.calls k1 _ _ l0 x13_1 t306 _ ?side1 ?side2 A5.out).mono ?_); (case side1 => repeat (first | exact (Kd.C_below HR0.out HB.out) | (with_reducible refine Kd.C_alloc ?_ _) | (with_reducible refine Kd.C_drewN ?_ _) | (with_reducible refine Kd.C_drew ?_))); (case side2 => exact HC0.out); rintro e w8 ⟨rfl, hb⟩; refine ⟨_, rfl, ?_⟩; have n0_ := ak (below_step d13_1 hb); clear HB; have HB := n0_; clear n0_; (try clear hb)))
       go_ret
       exact ⟨by first | rfl | (simp [errW_none, errW_some] <;> rfl) | (simp [*, errW_none, errW_some] <;> rfl), by repeat (first | (with_reducible first | exact HB.out | apply below_alloc | apply pw_below_drewN | apply below_drew1) | exact HB.out)⟩
     ·rw [if_neg c4] at H
      have c4b0 : decide (x13_1 < (l0.length : Int)) = false := decide_eq_false c4
      clear c4
      replace H := Option.bind_eq_some_iff.mp H
      obtain ⟨t307, A90, H⟩ := H
      replace H : (impl_CoreFault.l1 k1 l0 t307 (t307.length : Int) 0) = some r := H
      have A9 := ak A90
      clear A90
      have H' := ak H
      clear H
      go_wp2_with (first | ((with_reducible refine gate_callee (f := 62) rfl ?_); refine goesL_ (some 24) rfl rfl Tryd.func62 (by kernel_rfl) rfl #[.slice A0 l0.length c0] rfl d13_3 ?_; (with_reducible refine (impl_kids.calls k1 _ _ l0 t307 _ ?side1 ?side2 A9.out).mono ?_); (case side1 => repeat (first | exact (Kd.C_below HR0.out HB.out) | (with_reducible refine Kd.C_alloc ?_ _) | (with_reducible refine Kd.C_drewN ?_ _) | (with_reducible refine Kd.C_drew ?_))); (case side2 => exact HC0.out); rintro e w10 ⟨v308, rfl, ho0, hb⟩; refine ⟨_, rfl, ?_⟩; have n0_ := ak (Kd.S_lower ho0 (below_size d13_1)); have n1_ := ak (below_step d13_1 hb); clear HB; have HO309 := n0_; have HB := n1_; clear n0_ n1_; (try clear hb); (try clear ho0); obtain ⟨Ao11, co11, eo11⟩ := Kd.S_slice HO309.out; subst eo11))
      go_loopg [26] k1 (fun kq v26 w' => ∃ (x26_2 : Int), v26 = .int .i64 x26_2 ∧ Aside0 (impl_CoreFault.l1 kq l0 t307 (t307.length : Int) x26_2 = some r) ∧ Aside0 (kq ≤ k1) ∧ Aside0 (Kd.S (Kd.slice 2 (Kd.int .i64)) 98 w' w.heap.size (fun _ => True) (.slice Ao11 t307.length co11) t307) ∧ Aside0 (Below w.heap.size w w'))
      case atStart => exact ⟨(0), d13_4, H', ⟨Nat.le_refl _⟩, ⟨by (with_reducible repeat (first | apply Kd.S_alloc | apply Kd.S_drewN | apply Kd.S_drew)); exact HO309.out⟩, ⟨by repeat (first | (with_reducible first | exact HB.out | apply below_alloc | apply pw_below_drewN | apply below_drew1) | exact HB.out)⟩⟩
      case round =>
       clear H'
       try clear c2
       try clear p2
       try clear c3
       try clear c4
       try clear c4b0
       try clear c6
       try clear c6b0
       try clear c6b1
       try clear p6
       try clear p2
       obtain ⟨x26_2, rfl, HA, HK2, HO_24, HB⟩ := hrel
       cases gk with
       | zero => exact absurd HA.out (by simp [impl_CoreFault.l1])
       | succ k2 =>
        have H := HA.out
        clear HA
        simp only [impl_CoreFault.l1] at H
        by_cases c12 : x26_2 < (t307.length : Int)
        ·rw [if_pos c12] at H
         have c12b0 : decide (x26_2 < (t307.length : Int)) = true := decide_eq_true c12
         clear c12
         by_cases c13 : 0 ≤ x26_2
         ·rw [if_pos c13] at H
          have c13b0 : decide (0 ≤ x26_2) = true := decide_eq_true c13
          clear c13
          by_cases c14 : x26_2 < (t307.length : Int)
          ·rw [if_pos c14] at H
           have c14b0 : decide (x26_2 < (t307.length : Int)) = true := decide_eq_true c14
           clear c14
           by_cases c15 : x26_2 < (l0.length : Int)
           ·rw [if_pos c15] at H
            have c15b0 : decide (x26_2 < (l0.length : Int)) = true := decide_eq_true c15
            clear c15
            replace H := Option.bind_eq_some_iff.mp H
            obtain ⟨t312, A160, H⟩ := H
            replace H : (if t312 = true then (impl_CoreFault.l1 k2 l0 t307 (t307.length : Int) (wrap64 (x26_2 + 1))) else (some 1)) = some r := H
            have A16 := ak A160
            clear A160
            by_cases c17 : t312 = true
            ·subst c17
             have H1 : (impl_CoreFault.l1 k2 l0 t307 (t307.length : Int) (wrap64 (x26_2 + 1))) = some r := by rw [if_pos rfl] at H; exact H
             clear H
             have H := H1
             clear H1
             have H' := ak H
             clear H
             have p310 : 0 ≤ (x26_2 : Int) := of_decide_eq_true d13_2
             have q310 : x26_2 < (t307.length : Int) := of_decide_eq_true d13_2
             obtain ⟨ad310, A310_0, c310_0, e310, hx310_0, hl310_0, hi310_0⟩ := at_L8 (Kd.S_reads' HO_24.out).2.2 x26_2 p310 q310
             cases e310
             obtain ⟨ce310, hce310, hMe310, hcc310⟩ := Kd.S_get HO_24.out [] x26_2 p310 (by first | exact q310 | exact of_decide_eq_true d13_2 | (have e_ := (Kd.S_reads' HO_24.out).1; omega))
             obtain ⟨ve310_0, rfl, ge310_0⟩ := hMe310
             have hv310_0 := hcc310 0 _ rfl
             rw [Nat.add_zero, show ((Kd.slice 2 (Kd.int .i64))).sz = 1 from rfl, Nat.mul_one] at hv310_0
             replace hv310_0 := Option.some.inj (hv310_0.symm.trans hx310_0)
             rw [hv310_0] at ge310_0
             have HL310_0 := ak (show Kd.R (Kd.int .i64) 2 _ _ _ _ (rd_L8 t307 x26_2) from ge310_0)
             clear hv310_0 ge310_0
             clear hcc310 hce310
             have HR310_0 := ak hi310_0
             have HC310_0 := ak hl310_0
             clear hi310_0 hl310_0
             replace p310 := eq_true p310
             replace q310 := eq_true q310
             have p311 : 0 ≤ (x26_2 : Int) := of_decide_eq_true d13_2
             have q311 : x26_2 < (l0.length : Int) := of_decide_eq_true d13_2
             obtain ⟨ad311, A311_5, c311_5, e311, hx311_0, hx311_1, hx311_2, hx311_3, hx311_4, hx311_5, hl311_5, hi311_5⟩ := at_T93 HR0.out x26_2 p311 q311
             cases e311
             replace hx311_0 := (HB.out.cell (World.block_lt_of_cell? w _ hx311_0)).trans hx311_0
             replace hx311_1 := (HB.out.cell (World.block_lt_of_cell? w _ hx311_1)).trans hx311_1
             replace hx311_2 := (HB.out.cell (World.block_lt_of_cell? w _ hx311_2)).trans hx311_2
             replace hx311_3 := (HB.out.cell (World.block_lt_of_cell? w _ hx311_3)).trans hx311_3
             replace hx311_4 := (HB.out.cell (World.block_lt_of_cell? w _ hx311_4)).trans hx311_4
             replace hx311_5 := (HB.out.cell (World.block_lt_of_cell? w _ hx311_5)).trans hx311_5
             have HR311_5 := ak hi311_5
             have HC311_5 := ak hl311_5
             clear hi311_5 hl311_5
             replace p311 := eq_true p311
             replace q311 := eq_true q311
             go_wp2_with (first | ((with_reducible refine gate_callee (f := 63) rfl ?_); refine goesL_ (some 38) rfl rfl Tryd.func63 (by kernel_rfl) rfl #[.int .i64 ((rd_T93 l0 x26_2).f0), .int .i64 ((rd_L8 t307 x26_2).length : Int)] rfl d13_3 ?_; (with_reducible refine (impl_hasKids.calls k2 ((rd_T93 l0 x26_2).f0) ((rd_L8 t307 x26_2).length : Int) true _ A16.out).mono ?_); rintro e w' ⟨rfl, ⟨nd, rfl⟩⟩; refine ⟨_, rfl, ?_⟩))
             go_roundg k2
             case measure => have := HK1.out; have := HK2.out; omega
             case rel => exact ⟨(wrap64 (x26_2 + 1)), d13_4, H', ⟨by have := HK1.out; have := HK2.out; omega⟩, ⟨by (with_reducible repeat (first | apply Kd.S_alloc | apply Kd.S_drewN | apply Kd.S_drew)); exact HO_24.out⟩, ⟨by repeat (first | (with_reducible first | exact HB.out | apply below_alloc | apply pw_below_drewN | apply below_drew1) | exact HB.out)⟩⟩
            ·replace c17 := Bool.eq_false_iff.mpr c17
             subst c17
             have H1 : (some 1) = some r := by rw [if_neg (show ¬ (false = true) by decide)] at H; exact H
             clear H
             have H := H1
             clear H1
             obtain rfl := Option.some.inj H
             have p310 : 0 ≤ (x26_2 : Int) := of_decide_eq_true d13_2
             have q310 : x26_2 < (t307.length : Int) := of_decide_eq_true d13_2
             obtain ⟨ad310, A310_0, c310_0, e310, hx310_0, hl310_0, hi310_0⟩ := at_L8 (Kd.S_reads' HO_24.out).2.2 x26_2 p310 q310
             cases e310
             obtain ⟨ce310, hce310, hMe310, hcc310⟩ := Kd.S_get HO_24.out [] x26_2 p310 (by first | exact q310 | exact of_decide_eq_true d13_2 | (have e_ := (Kd.S_reads' HO_24.out).1; omega))
             obtain ⟨ve310_0, rfl, ge310_0⟩ := hMe310
             have hv310_0 := hcc310 0 _ rfl
             rw [Nat.add_zero, show ((Kd.slice 2 (Kd.int .i64))).sz = 1 from rfl, Nat.mul_one] at hv310_0
             replace hv310_0 := Option.some.inj (hv310_0.symm.trans hx310_0)
             rw [hv310_0] at ge310_0
             have HL310_0 := ak (show Kd.R (Kd.int .i64) 2 _ _ _ _ (rd_L8 t307 x26_2) from ge310_0)
             clear hv310_0 ge310_0
             clear hcc310 hce310
             have HR310_0 := ak hi310_0
             have HC310_0 := ak hl310_0
             clear hi310_0 hl310_0
             replace p310 := eq_true p310
             replace q310 := eq_true q310
             have p311 : 0 ≤ (x26_2 : Int) := of_decide_eq_true d13_2
             have q311 : x26_2 < (l0.length : Int) := of_decide_eq_true d13_2
             obtain ⟨ad311, A311_5, c311_5, e311, hx311_0, hx311_1, hx311_2, hx311_3, hx311_4, hx311_5, hl311_5, hi311_5⟩ := at_T93 HR0.out x26_2 p311 q311
             cases e311
             replace hx311_0 := (HB.out.cell (World.block_lt_of_cell? w _ hx311_0)).trans hx311_0
             replace hx311_1 := (HB.out.cell (World.block_lt_of_cell? w _ hx311_1)).trans hx311_1
             replace hx311_2 := (HB.out.cell (World.block_lt_of_cell? w _ hx311_2)).trans hx311_2
             replace hx311_3 := (HB.out.cell (World.block_lt_of_cell? w _ hx311_3)).trans hx311_3
             replace hx311_4 := (HB.out.cell (World.block_lt_of_cell? w _ hx311_4)).trans hx311_4
             replace hx311_5 := (HB.out.cell (World.block_lt_of_cell? w _ hx311_5)).trans hx311_5
             have HR311_5 := ak hi311_5
             have HC311_5 := ak hl311_5
             clear hi311_5 hl311_5
             replace p311 := eq_true p311
             replace q311 := eq_true q311
             go_wp2_with (first | ((with_reducible refine gate_callee (f := 63) rfl ?_); refine goesL_ (some 38) rfl rfl Tryd.func63 (by kernel_rfl) rfl #[.int .i64 ((rd_T93 l0 x26_2).f0), .int .i64 ((rd_L8 t307 x26_2).length : Int)] rfl d13_3 ?_; (with_reducible refine (impl_hasKids.calls k2 ((rd_T93 l0 x26_2).f0) ((rd_L8 t307 x26_2).length : Int) false _ A16.out).mono ?_); rintro e w' ⟨rfl, ⟨nd, rfl⟩⟩; refine ⟨_, rfl, ?_⟩))
             go_ret
             exact ⟨by first | rfl | (simp [errW_none, errW_some] <;> rfl) | (simp [*, errW_none, errW_some] <;> rfl), by repeat (first | (with_reducible first | exact HB.out | apply below_alloc | apply pw_below_drewN | apply below_drew1) | exact HB.out)⟩
           ·rw [if_neg c15] at H
            exact absurd H (by simp)
          ·rw [if_neg c14] at H
           exact absurd H (by simp)
         ·rw [if_neg c13] at H
          exact absurd H (by simp)
        ·rw [if_neg c12] at H
         have c12b0 : decide (x26_2 < (t307.length : Int)) = false := decide_eq_false c12
         clear c12
         obtain rfl := Option.some.inj H
         go_wp2
         go_ret
         exact ⟨by first | rfl | (simp [errW_none, errW_some] <;> rfl) | (simp [*, errW_none, errW_some] <;> rfl), by repeat (first | (with_reducible first | exact HB.out | apply below_alloc | apply pw_below_drewN | apply below_drew1) | exact HB.out)⟩
  ·replace c3 := Bool.eq_false_iff.mpr c3
   subst c3
   have H1 : (some 2) = some r := by rw [if_neg (show ¬ (false = true) by decide)] at H; exact H
   clear H
   have H := H1
   clear H1
   obtain rfl := Option.some.inj H
   go_enter Tryd.func27, Tryd.ntmps27
   go_wp2_with (first | ((with_reducible refine gate_callee (f := 37) rfl ?_); refine goesL_ (some 9) rfl rfl Tryd.func37 (by kernel_rfl) rfl #[.int .i64 (l0.length : Int), .int .i64 1, .int .i64 160] rfl d13_3 ?_; (with_reducible refine (impl_in.calls (l0.length : Int) 1 160 false _ A2.out).mono ?_); rintro e w' ⟨rfl, ⟨nd, rfl⟩⟩; refine ⟨_, rfl, ?_⟩))
   go_ret
   exact ⟨by first | rfl | (simp [errW_none, errW_some] <;> rfl) | (simp [*, errW_none, errW_some] <;> rfl), by repeat (first | (with_reducible first | exact HB.out | apply below_alloc | apply pw_below_drewN | apply below_drew1) | exact HB.out)⟩

end Go.Proofs.YtcliaceiijaafaaDoor.C
