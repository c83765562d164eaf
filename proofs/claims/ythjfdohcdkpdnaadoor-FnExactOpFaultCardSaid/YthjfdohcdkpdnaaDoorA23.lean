/- Walks of the program's functions: each Go function's answer as a plain Lean function, and that the call comes to it. Written by a program. Conditions: those in each theorem's own head. -/
import Derived.Test.YthjfdohcdkpdnaaDoorA0
import Derived.Test.YthjfdohcdkpdnaaDoorA15
import Derived.Test.YthjfdohcdkpdnaaDoorA19
import Derived.Test.YthjfdohcdkpdnaaDoorA22
namespace Go.Proofs.YthjfdohcdkpdnaaDoor.A
open Go.RowKit Go.Proofs.YthjfdohcdkpdnaaDoorW.PrintWords Go.Proofs.YthjfdohcdkpdnaaDoorW.PrintLast Go.Proofs.YthjfdohcdkpdnaaDoorW.PrintMore
attribute [local go_sem] max2_int min2_int max_two min_two max_three min_three max_four min_four   -- for this text's walks alone
set_option linter.unusedVariables false
set_option linter.unusedSimpArgs false

theorem d23_1 {p : Prop} (h : p := by repeat (first | (with_reducible first | exact HB.out | apply below_alloc | apply pw_below_drewN | apply below_drew1) | exact HB.out)) : p := h
theorem d23_2 {p : Prop} (h : p := by repeat (first | (with_reducible first | exact HB.out | apply below_alloc | apply pw_below_drewN | apply below_drew1 | refine below_set ?_ GE695.out) | exact HB.out)) : p := h
theorem d23_3 {p : Prop} (h : p := by repeat (first | (with_reducible first | exact HB.out | apply below_alloc | apply pw_below_drewN | apply below_drew1 | refine below_set ?_ GE692.out) | exact HB.out)) : p := h
theorem d23_4 {p : Prop} (h : p := by (try simp only [List.map_toArray, List.map_cons, List.map_nil]); first | done | rfl | (simp only [List.length_drop, List.length_take]; rfl)) : p := h
theorem d23_5 {p : Prop} (h : p := by (with_reducible repeat (first | refine blk_drewN ?_ _ | refine blk_drew ?_ | refine blk_alloc ?_ _)); exact BK692.out) : p := h
theorem d23_6 {p : Prop} (h : p := by (with_reducible repeat (first | refine blk_drewN ?_ _ | refine blk_drew ?_ | refine blk_alloc ?_ _)); exact BK695.out) : p := h
theorem d23_7 {p : Prop} (h : p := by (with_reducible repeat (first | refine blk_drewN ?_ _ | refine blk_drew ?_ | refine blk_alloc ?_ _)); refine blk_far ?_ NB695_716.out _; (with_reducible repeat (first | refine blk_drewN ?_ _ | refine blk_drew ?_ | refine blk_alloc ?_ _)); refine blk_far ?_ NB695_716.out _; (with_reducible repeat (first | refine blk_drewN ?_ _ | refine blk_drew ?_ | refine blk_alloc ?_ _)); refine blk_far ?_ NB695_716.out _; (with_reducible repeat (first | refine blk_drewN ?_ _ | refine blk_drew ?_ | refine blk_alloc ?_ _)); refine blk_far ?_ NB695_716.out _; (with_reducible repeat (first | refine blk_drewN ?_ _ | refine blk_drew ?_ | refine blk_alloc ?_ _)); refine blk_far ?_ NB695_716.out _; (with_reducible repeat (first | refine blk_drewN ?_ _ | refine blk_drew ?_ | refine blk_alloc ?_ _)); refine blk_far ?_ NB695_716.out _; (with_reducible repeat (first | refine blk_drewN ?_ _ | refine blk_drew ?_ | refine blk_alloc ?_ _)); refine blk_far ?_ NB695_716.out _; (with_reducible repeat (first | refine blk_drewN ?_ _ | refine blk_drew ?_ | refine blk_alloc ?_ _)); exact BK695.out) : p := h
theorem d23_8 {p : Prop} (h : p := by (with_reducible repeat (first | apply Kd.R_alloc | apply Kd.R_drewN | apply Kd.R_drew)); exact HO705.out) : p := h
theorem d23_9 {p : Prop} (h : p := by repeat (first | (with_reducible first | exact HB.out | apply below_alloc | apply pw_below_drewN | apply below_drew1 | refine below_set ?_ GE695.out | refine below_set ?_ GE716.out) | exact HB.out)) : p := h
theorem d23_10 {p : Prop} (h : p := by (with_reducible repeat (first | apply Kd.R_alloc | apply Kd.R_drewN | apply Kd.R_drew)); exact HO715.out) : p := h
theorem d23_11 {p : Prop} (h : p := by (with_reducible repeat (first | refine blk_drewN ?_ _ | refine blk_drew ?_ | refine blk_alloc ?_ _)); exact BK716.out) : p := h
theorem d23_12 {p : Prop} (h : p := by first | (with_reducible assumption) | assumption) : p := h
theorem d23_13 {p : Prop} (h : p := by rw [hg]; exact (below_size d23_1)) : p := h
theorem d23_14 {p : Prop} (h : p := by rw [hg]; exact (below_size d23_3)) : p := h

/-! ### laws_eqDatumS: function 77 -/
def laws_eqDatumS.l0 : Nat → List (S132) → List (S132) → Int → Option (Bool)
  | 0, _, _, _ => none
  | k + 1, x0, x1, x5 => if x5 < (x0.length : Int) then (if 0 ≤ x5 then (if x5 < (x1.length : Int) then ((laws_eqDatum.f ((rd_T132 x0 x5).f0) ((rd_T132 x0 x5).f1) ((rd_T132 x0 x5).f2) ((rd_T132 x0 x5).f3) ((rd_T132 x1 x5).f0) ((rd_T132 x1 x5).f1) ((rd_T132 x1 x5).f2) ((rd_T132 x1 x5).f3)).bind fun t691 => (if t691 = true then (laws_eqDatumS.l0 k x0 x1 (wrap64 (x5 + 1))) else (some false))) else (none)) else (none)) else (some true)
def laws_eqDatumS.f (k : Nat) (l0 : List (S132)) (l1 : List (S132)) : Option (Bool) := if (l0.length : Int) = (l1.length : Int) then (laws_eqDatumS.l0 k l0 l1 0) else (some false)
theorem laws_eqDatumS.mono_l : ∀ k, (∀ y0 y1 y2, LeO (laws_eqDatumS.l0 k y0 y1 y2) (laws_eqDatumS.l0 (k + 1) y0 y1 y2))
  | 0 => fun _ _ _ r h => by simp [laws_eqDatumS.l0] at h
  | k + 1 => by
    have ih0 := laws_eqDatumS.mono_l k
    · intro y0 y1 y2
      unfold laws_eqDatumS.l0
      repeat' first
      | (with_reducible exact ih0 _ _ _)
      | (with_reducible exact LeO.refl _)
      | (with_reducible exact LeO.none _)
      | (with_reducible refine LeO.ite ?_ ?_)
      | (with_reducible refine LeO.bind ?_ (fun _ => ?_))
      | exact ih0 _ _ _
      | exact LeO.none _
      | refine LeO.ite ?_ ?_
      | refine LeO.bind ?_ (fun _ => ?_)
theorem laws_eqDatumS.mono : ∀ a0 a1 k, LeO (laws_eqDatumS.f k a0 a1) (laws_eqDatumS.f (k + 1) a0 a1) := by
  intro a0 a1 k
  have ih0 := laws_eqDatumS.mono_l k
  unfold laws_eqDatumS.f
  repeat' first
      | (with_reducible exact ih0 _ _ _)
      | (with_reducible exact LeO.refl _)
      | (with_reducible exact LeO.none _)
      | (with_reducible refine LeO.ite ?_ ?_)
      | (with_reducible refine LeO.bind ?_ (fun _ => ?_))
      | exact ih0 _ _ _
      | exact LeO.none _
      | refine LeO.ite ?_ ?_
      | refine LeO.bind ?_ (fun _ => ?_)
def laws_eqDatumS.T6 : Bool × List (List Nat × List Nat) := (true, [([], []), ([], []), ([0, 1], [0, 1]), ([2], [2]), ([], []), ([], []), ([4, 5], [4, 5]), ([6], [6]), ([3, 7], [3, 7]), ([8], [8])])
def laws_eqDatumS.B6 : List Nat := [0, 0, 3, 7, 0, 0, 48, 112, 255, 511]
theorem laws_eqDatumS.tab6 : rtab .any (opsOf Tryd.f77 6) = laws_eqDatumS.T6 := by kernel_rfl
theorem laws_eqDatumS.bits6 : waitsOk laws_eqDatumS.T6.2 laws_eqDatumS.B6 = true := by kernel_rfl
set_option maxHeartbeats 8000000 in
set_option maxRecDepth 100000 in
theorem laws_eqDatumS.calls (k : Nat) (A0 : Option Addr) (c0 : Nat) (l0 : List (S132)) (A1 : Option Addr) (c1 : Nat) (l1 : List (S132)) (r : Bool) (w : World) (hr0 : Kd.C k132 w A0 l0.length l0) (hc0 : l0.length ≤ c0) (hr1 : Kd.C k132 w A1 l1.length l1) (hc1 : l1.length ≤ c1) (h : laws_eqDatumS.f k l0 l1 = some r) :
    Calls Tryd.prog 77 #[.slice A0 l0.length c0, .slice A1 l1.length c1] w fun e w' => e = .returned (.bool r) ∧ Below w.heap.size w w' := by
  have hu132 := Tryd.underlying132
  have HR0 := ak hr0
  have HC0 := ak hc0
  clear hr0 hc0
  have HR1 := ak hr1
  have HC1 := ak hc1
  clear hr1 hc1
  have HB := ak (Below.refl w.heap.size w)
  have H : (if (l0.length : Int) = (l1.length : Int) then (laws_eqDatumS.l0 k l0 l1 0) else (some false)) = some r := h
  clear h
  by_cases c3 : (l0.length : Int) = (l1.length : Int)
  ·rw [if_pos c3] at H
   have c3b0 : ((l0.length : Int) == (l1.length : Int)) = true := beq_iff_eq.mpr c3
   have c3b1 : ((l0.length : Int) != (l1.length : Int)) = false := bne_eq_false_iff_eq.mpr c3
   have c3b2 : (l0.length == l1.length) = true := by first | simpa using c3 | (simp at c3 ⊢; omega)
   clear c3
   have H' := ak H
   clear H
   go_enter Tryd.func77, Tryd.ntmps77
   go_wp2
   go_loopg [5] k (fun kq v5 w' => ∃ (x5_1 : Int), v5 = .int .i64 x5_1 ∧ Aside0 (laws_eqDatumS.l0 kq l0 l1 x5_1 = some r) ∧ Aside0 (kq ≤ k) ∧ Aside0 (Below w.heap.size w w'))
   case atStart => exact ⟨(0), (by first | rfl | (simp; done) | (simp [*]; done) | (simp [ne_nil_b, eq_nil_b]; done)), H', ⟨Nat.le_refl _⟩, ⟨by repeat (first | (with_reducible first | exact HB.out | apply below_alloc | apply pw_below_drewN | apply below_drew1) | exact HB.out)⟩⟩
   case round =>
    clear H'
    try clear c1
    try clear p2
    try clear c3
    try clear c3b0
    try clear c3b1
    try clear c3b2
    obtain ⟨x5_1, rfl, HA, HK1, HB⟩ := hrel
    cases gk with
    | zero => exact absurd HA.out (by simp [laws_eqDatumS.l0])
    | succ k1 =>
     have H := HA.out
     clear HA
     simp only [laws_eqDatumS.l0] at H
     by_cases c4 : x5_1 < (l0.length : Int)
     ·rw [if_pos c4] at H
      have c4b0 : decide (x5_1 < (l0.length : Int)) = true := decide_eq_true c4
      clear c4
      by_cases c5 : 0 ≤ x5_1
      ·rw [if_pos c5] at H
       have c5b0 : decide (0 ≤ x5_1) = true := decide_eq_true c5
       clear c5
       by_cases c6 : x5_1 < (l1.length : Int)
       ·rw [if_pos c6] at H
        have c6b0 : decide (x5_1 < (l1.length : Int)) = true := decide_eq_true c6
        clear c6
        replace H := Option.bind_eq_some_iff.mp H
        obtain ⟨t691, A70, H⟩ := H
        replace H : (if t691 = true then (laws_eqDatumS.l0 k1 l0 l1 (wrap64 (x5_1 + 1))) else (some false)) = some r := H
        have A7 := ak A70
        clear A70
        by_cases c8 : t691 = true
        ·subst c8
         have H1 : (laws_eqDatumS.l0 k1 l0 l1 (wrap64 (x5_1 + 1))) = some r := by rw [if_pos rfl] at H; exact H
         clear H
         have H := H1
         clear H1
         have H' := ak H
         clear H
         try go_wp2
         have n0_ := ak (below_drew1 HB.out)
         clear HB
         have HB := n0_
         clear n0_
         have p689 : 0 ≤ (x5_1 : Int) := of_decide_eq_true d23_12
         have q689 : x5_1 < (l0.length : Int) := of_decide_eq_true d23_12
         obtain ⟨ad689, e689, hx689_0, hx689_1, hx689_2, hx689_3⟩ := at_T132 HR0.out x5_1 p689 q689
         have hw689_3 := hx689_3
         have hw689_2 := hx689_2
         have hw689_1 := hx689_1
         have hw689_0 := hx689_0
         cases e689
         replace hx689_0 := (HB.out.cell (World.block_lt_of_cell? w _ hx689_0)).trans hx689_0
         replace hx689_1 := (HB.out.cell (World.block_lt_of_cell? w _ hx689_1)).trans hx689_1
         replace hx689_2 := (HB.out.cell (World.block_lt_of_cell? w _ hx689_2)).trans hx689_2
         replace hx689_3 := (HB.out.cell (World.block_lt_of_cell? w _ hx689_3)).trans hx689_3
         replace p689 := eq_true p689
         replace q689 := eq_true q689
         have p690 : 0 ≤ (x5_1 : Int) := of_decide_eq_true d23_12
         have q690 : x5_1 < (l1.length : Int) := of_decide_eq_true d23_12
         obtain ⟨ad690, e690, hx690_0, hx690_1, hx690_2, hx690_3⟩ := at_T132 HR1.out x5_1 p690 q690
         have hw690_3 := hx690_3
         have hw690_2 := hx690_2
         have hw690_1 := hx690_1
         have hw690_0 := hx690_0
         cases e690
         replace hx690_0 := (HB.out.cell (World.block_lt_of_cell? w _ hx690_0)).trans hx690_0
         replace hx690_1 := (HB.out.cell (World.block_lt_of_cell? w _ hx690_1)).trans hx690_1
         replace hx690_2 := (HB.out.cell (World.block_lt_of_cell? w _ hx690_2)).trans hx690_2
         replace hx690_3 := (HB.out.cell (World.block_lt_of_cell? w _ hx690_3)).trans hx690_3
         replace p690 := eq_true p690
         replace q690 := eq_true q690
         refine start_ (n := 10) (S := fun w' => w'.cell? (ad689.add ((x5_1).toNat * 4)) = some (.int .i64 ((rd_T132 l0 x5_1).f0)) ∧ w'.cell? ⟨(ad689.add ((x5_1).toNat * 4)).block, (ad689.add ((x5_1).toNat * 4)).off + 1, none⟩ = some (.int .i64 ((rd_T132 l0 x5_1).f1)) ∧ w'.cell? ⟨(ad689.add ((x5_1).toNat * 4)).block, (ad689.add ((x5_1).toNat * 4)).off + 2, none⟩ = some (.int .i64 ((rd_T132 l0 x5_1).f2)) ∧ w'.cell? ⟨(ad689.add ((x5_1).toNat * 4)).block, (ad689.add ((x5_1).toNat * 4)).off + 3, none⟩ = some (.string ((rd_T132 l0 x5_1).f3)) ∧ w'.cell? (ad690.add ((x5_1).toNat * 4)) = some (.int .i64 ((rd_T132 l1 x5_1).f0)) ∧ w'.cell? ⟨(ad690.add ((x5_1).toNat * 4)).block, (ad690.add ((x5_1).toNat * 4)).off + 1, none⟩ = some (.int .i64 ((rd_T132 l1 x5_1).f1)) ∧ w'.cell? ⟨(ad690.add ((x5_1).toNat * 4)).block, (ad690.add ((x5_1).toNat * 4)).off + 2, none⟩ = some (.int .i64 ((rd_T132 l1 x5_1).f2)) ∧ w'.cell? ⟨(ad690.add ((x5_1).toNat * 4)).block, (ad690.add ((x5_1).toNat * 4)).off + 3, none⟩ = some (.string ((rd_T132 l1 x5_1).f3))) (ds := []) #[false, false, false, false, false, false, false, false, false, false] (by kernel_rfl) rfl rfl ⟨((HB.out.cell (World.block_lt_of_cell? w _ hw689_0)).trans hw689_0), ((HB.out.cell (World.block_lt_of_cell? w _ hw689_1)).trans hw689_1), ((HB.out.cell (World.block_lt_of_cell? w _ hw689_2)).trans hw689_2), ((HB.out.cell (World.block_lt_of_cell? w _ hw689_3)).trans hw689_3), ((HB.out.cell (World.block_lt_of_cell? w _ hw690_0)).trans hw690_0), ((HB.out.cell (World.block_lt_of_cell? w _ hw690_1)).trans hw690_1), ((HB.out.cell (World.block_lt_of_cell? w _ hw690_2)).trans hw690_2), ((HB.out.cell (World.block_lt_of_cell? w _ hw690_3)).trans hw690_3)⟩ (fun hHeld => ?_); refine with_tabW laws_eqDatumS.tab6 laws_eqDatumS.bits6 (fun HT_ HW_ => ?_)
         generalize wr.drew = w9 at HB hx689_0 hx689_1 hx689_2 hx689_3 hx690_0 hx690_1 hx690_2 hx690_3 hHeld ⊢
         refine pure_ (i := 0) (N := some 17) (v := ?_) (a' := ?_) #[true, false, false, false, false, false, false, false, false, false] rfl rfl (any_of HT_.out (by kernel_rfl)) (fun _ _ _ h => h) (Or.inl ⟨by rfl, ?_⟩) ?_ ?_
         rotate_left
         · intro w'
           go_simp
           with_reducible rfl
         rotate_left
         · simp only [Act.put, List.setIfInBounds_toArray, List.set_cons_zero, List.set_cons_succ, i64_w, i32_w]
           rfl
         refine pure_ (i := 1) (N := some 18) (v := ?_) (a' := ?_) #[true, true, false, false, false, false, false, false, false, false] rfl rfl (any_of HT_.out (by kernel_rfl)) (fun _ _ _ h => h) (Or.inl ⟨by rfl, ?_⟩) ?_ ?_
         rotate_left
         · intro w'
           go_simp
           with_reducible rfl
         rotate_left
         · simp only [Act.put, List.setIfInBounds_toArray, List.set_cons_zero, List.set_cons_succ, i64_w, i32_w]
           rfl
         refine pure_ (i := 2) (N := some 19) (v := ?_) (a' := ?_) #[true, true, true, false, false, false, false, false, false, false] rfl rfl (any_of HT_.out (by kernel_rfl)) (fun _ _ _ h => h) (Or.inl ⟨by rfl, ?_⟩) ?_ ?_
         rotate_left
         · intro w'
           go_simp
           with_reducible rfl
         rotate_left
         · simp only [Act.put, List.setIfInBounds_toArray, List.set_cons_zero, List.set_cons_succ, i64_w, i32_w]
           rfl
         refine pure_ (i := 4) (N := some 21) (v := ?_) (a' := ?_) #[true, true, true, false, true, false, false, false, false, false] rfl rfl (any_of HT_.out (by kernel_rfl)) (fun _ _ _ h => h) (Or.inl ⟨by rfl, ?_⟩) ?_ ?_
         rotate_left
         · intro w'
           go_simp
           with_reducible rfl
         rotate_left
         · simp only [Act.put, List.setIfInBounds_toArray, List.set_cons_zero, List.set_cons_succ, i64_w, i32_w]
           rfl
         refine pure_ (i := 5) (N := some 22) (v := ?_) (a' := ?_) #[true, true, true, false, true, true, false, false, false, false] rfl rfl (any_of HT_.out (by kernel_rfl)) (fun _ _ _ h => h) (Or.inl ⟨by rfl, ?_⟩) ?_ ?_
         rotate_left
         · intro w'
           go_simp
           with_reducible rfl
         rotate_left
         · simp only [Act.put, List.setIfInBounds_toArray, List.set_cons_zero, List.set_cons_succ, i64_w, i32_w]
           rfl
         refine pure_ (i := 6) (N := some 23) (v := ?_) (a' := ?_) #[true, true, true, false, true, true, true, false, false, false] rfl rfl (any_of HT_.out (by kernel_rfl)) (fun _ _ _ h => h) (Or.inl ⟨by rfl, ?_⟩) ?_ ?_
         rotate_left
         · intro w'
           go_simp
           with_reducible rfl
         rotate_left
         · simp only [Act.put, List.setIfInBounds_toArray, List.set_cons_zero, List.set_cons_succ, i64_w, i32_w]
           rfl
         refine take_ (i := 3) (N := some 20) (v := ?_) (a' := ?_) #[true, true, true, true, true, true, true, false, false, false] rfl rfl (take_ofW HT_.out HW_.out (by kernel_rfl)) (fun _ _ _ h => h) (Or.inl ⟨by rfl, ?_⟩) hHeld ?_ ?_
         rotate_left
         · rintro w' ⟨s0, s1, s2, s3, s4, s5, s6, s7⟩
           go_simp
           with_reducible rfl
         rotate_left
         · simp only [Act.put, List.setIfInBounds_toArray, List.set_cons_zero, List.set_cons_succ, i64_w, i32_w]
           rfl
         refine take_ (i := 7) (N := some 24) (v := ?_) (a' := ?_) #[true, true, true, true, true, true, true, true, false, false] rfl rfl (take_ofW HT_.out HW_.out (by kernel_rfl)) (fun _ _ _ h => h) (Or.inl ⟨by rfl, ?_⟩) hHeld ?_ ?_
         rotate_left
         · rintro w' ⟨s0, s1, s2, s3, s4, s5, s6, s7⟩
           go_simp
           with_reducible rfl
         rotate_left
         · simp only [Act.put, List.setIfInBounds_toArray, List.set_cons_zero, List.set_cons_succ, i64_w, i32_w]
           rfl
         refine one_ (i := 8) (N := some 25) #[true, true, true, true, true, true, true, true, true, false] rfl rfl (one_of HT_.out (by kernel_rfl)) (by decide) (fun K hK => ?_)
         refine goes_ Tryd.func104 (by kernel_rfl) rfl #[.agg #[.int .i64 ((rd_T132 l0 x5_1).f0), .int .i64 ((rd_T132 l0 x5_1).f1), .int .i64 ((rd_T132 l0 x5_1).f2), .string ((rd_T132 l0 x5_1).f3)], .agg #[.int .i64 ((rd_T132 l1 x5_1).f0), .int .i64 ((rd_T132 l1 x5_1).f1), .int .i64 ((rd_T132 l1 x5_1).f2), .string ((rd_T132 l1 x5_1).f3)]] (by rfl) rfl rfl d23_4 ?_
         with_reducible refine (laws_eqDatum.calls ((rd_T132 l0 x5_1).f0) ((rd_T132 l0 x5_1).f1) ((rd_T132 l0 x5_1).f2) ((rd_T132 l0 x5_1).f3) ((rd_T132 l1 x5_1).f0) ((rd_T132 l1 x5_1).f1) ((rd_T132 l1 x5_1).f2) ((rd_T132 l1 x5_1).f3) true _ A7.out).mono ?_
         rintro e w10 ⟨rfl, hb⟩
         refine ⟨_, rfl, ?_⟩
         have n0_ := ak (below_step d23_1 hb)
         clear HB
         have HB := n0_
         clear n0_
         (try clear hb)
         (try clear hb2)
         (try clear hk)
         (try clear hi)
         refine hK.out _ _ ⟨((HB.out.cell (World.block_lt_of_cell? w _ hw689_0)).trans hw689_0), ((HB.out.cell (World.block_lt_of_cell? w _ hw689_1)).trans hw689_1), ((HB.out.cell (World.block_lt_of_cell? w _ hw689_2)).trans hw689_2), ((HB.out.cell (World.block_lt_of_cell? w _ hw689_3)).trans hw689_3), ((HB.out.cell (World.block_lt_of_cell? w _ hw690_0)).trans hw690_0), ((HB.out.cell (World.block_lt_of_cell? w _ hw690_1)).trans hw690_1), ((HB.out.cell (World.block_lt_of_cell? w _ hw690_2)).trans hw690_2), ((HB.out.cell (World.block_lt_of_cell? w _ hw690_3)).trans hw690_3)⟩ (fun hHeld => ?_)
         clear hK K
         refine norm_ (a' := ?_) ?_ ?_
         rotate_left
         · show Act.put _ (some 25) _ = _
           simp only [Act.put, List.setIfInBounds_toArray, List.set_cons_zero, List.set_cons_succ, i64_w, i32_w]
           rfl
         refine pure_ (i := 9) (N := some 26) (v := ?_) (a' := ?_) #[true, true, true, true, true, true, true, true, true, true] rfl rfl (any_of HT_.out (by kernel_rfl)) (fun _ _ _ h => h) (Or.inl ⟨by rfl, ?_⟩) ?_ ?_
         rotate_left
         · intro w'
           go_simp
           with_reducible rfl
         rotate_left
         · simp only [Act.put, List.setIfInBounds_toArray, List.set_cons_zero, List.set_cons_succ, i64_w, i32_w]
           rfl
         refine done_ (done_of HT_.out (by kernel_rfl)) ?_
         try go_wp2
         go_roundg k1
         case measure => have := HK1.out; omega
         case rel => exact ⟨(wrap64 (x5_1 + 1)), (by first | rfl | (simp; done) | (simp [*]; done) | (simp [ne_nil_b, eq_nil_b]; done)), H', ⟨by have := HK1.out; omega⟩, ⟨by repeat (first | (with_reducible first | exact HB.out | apply below_alloc | apply pw_below_drewN | apply below_drew1) | exact HB.out)⟩⟩
        ·replace c8 := Bool.eq_false_iff.mpr c8
         subst c8
         have H1 : (some false) = some r := by rw [if_neg (show ¬ (false = true) by decide)] at H; exact H
         clear H
         have H := H1
         clear H1
         obtain rfl := Option.some.inj H
         try go_wp2
         have n0_ := ak (below_drew1 HB.out)
         clear HB
         have HB := n0_
         clear n0_
         have p689 : 0 ≤ (x5_1 : Int) := of_decide_eq_true d23_12
         have q689 : x5_1 < (l0.length : Int) := of_decide_eq_true d23_12
         obtain ⟨ad689, e689, hx689_0, hx689_1, hx689_2, hx689_3⟩ := at_T132 HR0.out x5_1 p689 q689
         have hw689_3 := hx689_3
         have hw689_2 := hx689_2
         have hw689_1 := hx689_1
         have hw689_0 := hx689_0
         cases e689
         replace hx689_0 := (HB.out.cell (World.block_lt_of_cell? w _ hx689_0)).trans hx689_0
         replace hx689_1 := (HB.out.cell (World.block_lt_of_cell? w _ hx689_1)).trans hx689_1
         replace hx689_2 := (HB.out.cell (World.block_lt_of_cell? w _ hx689_2)).trans hx689_2
         replace hx689_3 := (HB.out.cell (World.block_lt_of_cell? w _ hx689_3)).trans hx689_3
         replace p689 := eq_true p689
         replace q689 := eq_true q689
         have p690 : 0 ≤ (x5_1 : Int) := of_decide_eq_true d23_12
         have q690 : x5_1 < (l1.length : Int) := of_decide_eq_true d23_12
         obtain ⟨ad690, e690, hx690_0, hx690_1, hx690_2, hx690_3⟩ := at_T132 HR1.out x5_1 p690 q690
         have hw690_3 := hx690_3
         have hw690_2 := hx690_2
         have hw690_1 := hx690_1
         have hw690_0 := hx690_0
         cases e690
         replace hx690_0 := (HB.out.cell (World.block_lt_of_cell? w _ hx690_0)).trans hx690_0
         replace hx690_1 := (HB.out.cell (World.block_lt_of_cell? w _ hx690_1)).trans hx690_1
         replace hx690_2 := (HB.out.cell (World.block_lt_of_cell? w _ hx690_2)).trans hx690_2
         replace hx690_3 := (HB.out.cell (World.block_lt_of_cell? w _ hx690_3)).trans hx690_3
         replace p690 := eq_true p690
         replace q690 := eq_true q690
         refine start_ (n := 10) (S := fun w' => w'.cell? (ad689.add ((x5_1).toNat * 4)) = some (.int .i64 ((rd_T132 l0 x5_1).f0)) ∧ w'.cell? ⟨(ad689.add ((x5_1).toNat * 4)).block, (ad689.add ((x5_1).toNat * 4)).off + 1, none⟩ = some (.int .i64 ((rd_T132 l0 x5_1).f1)) ∧ w'.cell? ⟨(ad689.add ((x5_1).toNat * 4)).block, (ad689.add ((x5_1).toNat * 4)).off + 2, none⟩ = some (.int .i64 ((rd_T132 l0 x5_1).f2)) ∧ w'.cell? ⟨(ad689.add ((x5_1).toNat * 4)).block, (ad689.add ((x5_1).toNat * 4)).off + 3, none⟩ = some (.string ((rd_T132 l0 x5_1).f3)) ∧ w'.cell? (ad690.add ((x5_1).toNat * 4)) = some (.int .i64 ((rd_T132 l1 x5_1).f0)) ∧ w'.cell? ⟨(ad690.add ((x5_1).toNat * 4)).block, (ad690.add ((x5_1).toNat * 4)).off + 1, none⟩ = some (.int .i64 ((rd_T132 l1 x5_1).f1)) ∧ w'.cell? ⟨(ad690.add ((x5_1).toNat * 4)).block, (ad690.add ((x5_1).toNat * 4)).off + 2, none⟩ = some (.int .i64 ((rd_T132 l1 x5_1).f2)) ∧ w'.cell? ⟨(ad690.add ((x5_1).toNat * 4)).block, (ad690.add ((x5_1).toNat * 4)).off + 3, none⟩ = some (.string ((rd_T132 l1 x5_1).f3))) (ds := []) #[false, false, false, false, false, false, false, false, false, false] (by kernel_rfl) rfl rfl ⟨((HB.out.cell (World.block_lt_of_cell? w _ hw689_0)).trans hw689_0), ((HB.out.cell (World.block_lt_of_cell? w _ hw689_1)).trans hw689_1), ((HB.out.cell (World.block_lt_of_cell? w _ hw689_2)).trans hw689_2), ((HB.out.cell (World.block_lt_of_cell? w _ hw689_3)).trans hw689_3), ((HB.out.cell (World.block_lt_of_cell? w _ hw690_0)).trans hw690_0), ((HB.out.cell (World.block_lt_of_cell? w _ hw690_1)).trans hw690_1), ((HB.out.cell (World.block_lt_of_cell? w _ hw690_2)).trans hw690_2), ((HB.out.cell (World.block_lt_of_cell? w _ hw690_3)).trans hw690_3)⟩ (fun hHeld => ?_); refine with_tabW laws_eqDatumS.tab6 laws_eqDatumS.bits6 (fun HT_ HW_ => ?_)
         generalize wr.drew = w11 at HB hx689_0 hx689_1 hx689_2 hx689_3 hx690_0 hx690_1 hx690_2 hx690_3 hHeld ⊢
         refine pure_ (i := 0) (N := some 17) (v := ?_) (a' := ?_) #[true, false, false, false, false, false, false, false, false, false] rfl rfl (any_of HT_.out (by kernel_rfl)) (fun _ _ _ h => h) (Or.inl ⟨by rfl, ?_⟩) ?_ ?_
         rotate_left
         · intro w'
           go_simp
           with_reducible rfl
         rotate_left
         · simp only [Act.put, List.setIfInBounds_toArray, List.set_cons_zero, List.set_cons_succ, i64_w, i32_w]
           rfl
         refine pure_ (i := 1) (N := some 18) (v := ?_) (a' := ?_) #[true, true, false, false, false, false, false, false, false, false] rfl rfl (any_of HT_.out (by kernel_rfl)) (fun _ _ _ h => h) (Or.inl ⟨by rfl, ?_⟩) ?_ ?_
         rotate_left
         · intro w'
           go_simp
           with_reducible rfl
         rotate_left
         · simp only [Act.put, List.setIfInBounds_toArray, List.set_cons_zero, List.set_cons_succ, i64_w, i32_w]
           rfl
         refine pure_ (i := 2) (N := some 19) (v := ?_) (a' := ?_) #[true, true, true, false, false, false, false, false, false, false] rfl rfl (any_of HT_.out (by kernel_rfl)) (fun _ _ _ h => h) (Or.inl ⟨by rfl, ?_⟩) ?_ ?_
         rotate_left
         · intro w'
           go_simp
           with_reducible rfl
         rotate_left
         · simp only [Act.put, List.setIfInBounds_toArray, List.set_cons_zero, List.set_cons_succ, i64_w, i32_w]
           rfl
         refine pure_ (i := 4) (N := some 21) (v := ?_) (a' := ?_) #[true, true, true, false, true, false, false, false, false, false] rfl rfl (any_of HT_.out (by kernel_rfl)) (fun _ _ _ h => h) (Or.inl ⟨by rfl, ?_⟩) ?_ ?_
         rotate_left
         · intro w'
           go_simp
           with_reducible rfl
         rotate_left
         · simp only [Act.put, List.setIfInBounds_toArray, List.set_cons_zero, List.set_cons_succ, i64_w, i32_w]
           rfl
         refine pure_ (i := 5) (N := some 22) (v := ?_) (a' := ?_) #[true, true, true, false, true, true, false, false, false, false] rfl rfl (any_of HT_.out (by kernel_rfl)) (fun _ _ _ h => h) (Or.inl ⟨by rfl, ?_⟩) ?_ ?_
         rotate_left
         · intro w'
           go_simp
           with_reducible rfl
         rotate_left
         · simp only [Act.put, List.setIfInBounds_toArray, List.set_cons_zero, List.set_cons_succ, i64_w, i32_w]
           rfl
         refine pure_ (i := 6) (N := some 23) (v := ?_) (a' := ?_) #[true, true, true, false, true, true, true, false, false, false] rfl rfl (any_of HT_.out (by kernel_rfl)) (fun _ _ _ h => h) (Or.inl ⟨by rfl, ?_⟩) ?_ ?_
         rotate_left
         · intro w'
           go_simp
           with_reducible rfl
         rotate_left
         · simp only [Act.put, List.setIfInBounds_toArray, List.set_cons_zero, List.set_cons_succ, i64_w, i32_w]
           rfl
         refine take_ (i := 3) (N := some 20) (v := ?_) (a' := ?_) #[true, true, true, true, true, true, true, false, false, false] rfl rfl (take_ofW HT_.out HW_.out (by kernel_rfl)) (fun _ _ _ h => h) (Or.inl ⟨by rfl, ?_⟩) hHeld ?_ ?_
         rotate_left
         · rintro w' ⟨s0, s1, s2, s3, s4, s5, s6, s7⟩
           go_simp
           with_reducible rfl
         rotate_left
         · simp only [Act.put, List.setIfInBounds_toArray, List.set_cons_zero, List.set_cons_succ, i64_w, i32_w]
           rfl
         refine take_ (i := 7) (N := some 24) (v := ?_) (a' := ?_) #[true, true, true, true, true, true, true, true, false, false] rfl rfl (take_ofW HT_.out HW_.out (by kernel_rfl)) (fun _ _ _ h => h) (Or.inl ⟨by rfl, ?_⟩) hHeld ?_ ?_
         rotate_left
         · rintro w' ⟨s0, s1, s2, s3, s4, s5, s6, s7⟩
           go_simp
           with_reducible rfl
         rotate_left
         · simp only [Act.put, List.setIfInBounds_toArray, List.set_cons_zero, List.set_cons_succ, i64_w, i32_w]
           rfl
         refine one_ (i := 8) (N := some 25) #[true, true, true, true, true, true, true, true, true, false] rfl rfl (one_of HT_.out (by kernel_rfl)) (by decide) (fun K hK => ?_)
         refine goes_ Tryd.func104 (by kernel_rfl) rfl #[.agg #[.int .i64 ((rd_T132 l0 x5_1).f0), .int .i64 ((rd_T132 l0 x5_1).f1), .int .i64 ((rd_T132 l0 x5_1).f2), .string ((rd_T132 l0 x5_1).f3)], .agg #[.int .i64 ((rd_T132 l1 x5_1).f0), .int .i64 ((rd_T132 l1 x5_1).f1), .int .i64 ((rd_T132 l1 x5_1).f2), .string ((rd_T132 l1 x5_1).f3)]] (by rfl) rfl rfl d23_4 ?_
         with_reducible refine (laws_eqDatum.calls ((rd_T132 l0 x5_1).f0) ((rd_T132 l0 x5_1).f1) ((rd_T132 l0 x5_1).f2) ((rd_T132 l0 x5_1).f3) ((rd_T132 l1 x5_1).f0) ((rd_T132 l1 x5_1).f1) ((rd_T132 l1 x5_1).f2) ((rd_T132 l1 x5_1).f3) false _ A7.out).mono ?_
         rintro e w12 ⟨rfl, hb⟩
         refine ⟨_, rfl, ?_⟩
         have n0_ := ak (below_step d23_1 hb)
         clear HB
         have HB := n0_
         clear n0_
         (try clear hb)
         (try clear hb2)
         (try clear hk)
         (try clear hi)
         refine hK.out _ _ ⟨((HB.out.cell (World.block_lt_of_cell? w _ hw689_0)).trans hw689_0), ((HB.out.cell (World.block_lt_of_cell? w _ hw689_1)).trans hw689_1), ((HB.out.cell (World.block_lt_of_cell? w _ hw689_2)).trans hw689_2), ((HB.out.cell (World.block_lt_of_cell? w _ hw689_3)).trans hw689_3), ((HB.out.cell (World.block_lt_of_cell? w _ hw690_0)).trans hw690_0), ((HB.out.cell (World.block_lt_of_cell? w _ hw690_1)).trans hw690_1), ((HB.out.cell (World.block_lt_of_cell? w _ hw690_2)).trans hw690_2), ((HB.out.cell (World.block_lt_of_cell? w _ hw690_3)).trans hw690_3)⟩ (fun hHeld => ?_)
         clear hK K
         refine norm_ (a' := ?_) ?_ ?_
         rotate_left
         · show Act.put _ (some 25) _ = _
           simp only [Act.put, List.setIfInBounds_toArray, List.set_cons_zero, List.set_cons_succ, i64_w, i32_w]
           rfl
         refine pure_ (i := 9) (N := some 26) (v := ?_) (a' := ?_) #[true, true, true, true, true, true, true, true, true, true] rfl rfl (any_of HT_.out (by kernel_rfl)) (fun _ _ _ h => h) (Or.inl ⟨by rfl, ?_⟩) ?_ ?_
         rotate_left
         · intro w'
           go_simp
           with_reducible rfl
         rotate_left
         · simp only [Act.put, List.setIfInBounds_toArray, List.set_cons_zero, List.set_cons_succ, i64_w, i32_w]
           rfl
         refine done_ (done_of HT_.out (by kernel_rfl)) ?_
         try go_wp2
         go_ret
         exact ⟨by first | rfl | (simp [errW_none, errW_some] <;> rfl) | (simp [*, errW_none, errW_some] <;> rfl), by repeat (first | (with_reducible first | exact HB.out | apply below_alloc | apply pw_below_drewN | apply below_drew1) | exact HB.out)⟩
       ·rw [if_neg c6] at H
        exact absurd H (by simp)
      ·rw [if_neg c5] at H
       exact absurd H (by simp)
     ·rw [if_neg c4] at H
      have c4b0 : decide (x5_1 < (l0.length : Int)) = false := decide_eq_false c4
      clear c4
      obtain rfl := Option.some.inj H
      go_wp2
      go_ret
      exact ⟨by first | rfl | (simp [errW_none, errW_some] <;> rfl) | (simp [*, errW_none, errW_some] <;> rfl), by repeat (first | (with_reducible first | exact HB.out | apply below_alloc | apply pw_below_drewN | apply below_drew1) | exact HB.out)⟩
  ·rw [if_neg c3] at H
   have c3b0 : ((l0.length : Int) == (l1.length : Int)) = false := beq_eq_false_iff_ne.mpr c3
   have c3b1 : ((l0.length : Int) != (l1.length : Int)) = true := bne_iff_ne.mpr c3
   have c3b2 : (l0.length == l1.length) = false := by first | simpa using c3 | (simp at c3 ⊢; omega)
   obtain rfl := Option.some.inj H
   go_enter Tryd.func77, Tryd.ntmps77
   go_wp2
   go_ret
   exact ⟨by first | rfl | (simp [errW_none, errW_some] <;> rfl) | (simp [*, errW_none, errW_some] <;> rfl), by repeat (first | (with_reducible first | exact HB.out | apply below_alloc | apply pw_below_drewN | apply below_drew1) | exact HB.out)⟩

/-! ### laws_eqOp: function 42 -/
def laws_eqOp.f (k : Nat) (a0_0 : Int) (a0_1 : Int) (a0_2 : Int) (a0_3 : Int) (a0_4 : Int) (a0_5 : ByteArray) (l0_6 : List (S132)) (a1_0 : Int) (a1_1 : Int) (a1_2 : Int) (a1_3 : Int) (a1_4 : Int) (a1_5 : ByteArray) (l1_6 : List (S132)) : Option (Bool) := if a0_0 = a1_0 then (if a0_1 = a1_1 then (if a0_2 = a1_2 then (if a0_3 = a1_3 then (if a0_4 = a1_4 then (if a0_5.toList = a1_5.toList then ((laws_eqDatumS.f k l0_6 l1_6).bind fun t694 => (if t694 = true then (some true) else (some false))) else (some false)) else (some false)) else (some false)) else (some false)) else (some false)) else (some false)
theorem laws_eqOp.mono : ∀ a0 a1 a2 a3 a4 a5 a6 a7 a8 a9 a10 a11 a12 a13 k, LeO (laws_eqOp.f k a0 a1 a2 a3 a4 a5 a6 a7 a8 a9 a10 a11 a12 a13) (laws_eqOp.f (k + 1) a0 a1 a2 a3 a4 a5 a6 a7 a8 a9 a10 a11 a12 a13) := by
  intro a0 a1 a2 a3 a4 a5 a6 a7 a8 a9 a10 a11 a12 a13 k
  unfold laws_eqOp.f
  repeat' first
      | (with_reducible exact laws_eqDatumS.mono _ _ _)
      | (with_reducible exact LeO.refl _)
      | (with_reducible exact LeO.none _)
      | (with_reducible refine LeO.ite ?_ ?_)
      | (with_reducible refine LeO.bind ?_ (fun _ => ?_))
      | exact laws_eqDatumS.mono _ _ _
      | exact LeO.none _
      | refine LeO.ite ?_ ?_
      | refine LeO.bind ?_ (fun _ => ?_)
set_option maxHeartbeats 8000000 in
set_option maxRecDepth 100000 in
theorem laws_eqOp.calls (k : Nat) (a0_0 : Int) (a0_1 : Int) (a0_2 : Int) (a0_3 : Int) (a0_4 : Int) (a0_5 : ByteArray) (A0_6 : Option Addr) (c0_6 : Nat) (l0_6 : List (S132)) (a1_0 : Int) (a1_1 : Int) (a1_2 : Int) (a1_3 : Int) (a1_4 : Int) (a1_5 : ByteArray) (A1_6 : Option Addr) (c1_6 : Nat) (l1_6 : List (S132)) (r : Bool) (w : World) (hr0_6 : Kd.C k132 w A0_6 l0_6.length l0_6) (hc0_6 : l0_6.length ≤ c0_6) (hr1_6 : Kd.C k132 w A1_6 l1_6.length l1_6) (hc1_6 : l1_6.length ≤ c1_6) (h : laws_eqOp.f k a0_0 a0_1 a0_2 a0_3 a0_4 a0_5 l0_6 a1_0 a1_1 a1_2 a1_3 a1_4 a1_5 l1_6 = some r) :
    Calls Tryd.prog 42 #[.agg #[.int .i64 a0_0, .int .i64 a0_1, .int .i64 a0_2, .int .i64 a0_3, .int .i64 a0_4, .string a0_5, .slice A0_6 l0_6.length c0_6], .agg #[.int .i64 a1_0, .int .i64 a1_1, .int .i64 a1_2, .int .i64 a1_3, .int .i64 a1_4, .string a1_5, .slice A1_6 l1_6.length c1_6]] w fun e w' => e = .returned (.bool r) ∧ Below w.heap.size w w' := by
  have hu69 := Tryd.underlying69
  have HR0_6 := ak hr0_6
  have HC0_6 := ak hc0_6
  clear hr0_6 hc0_6
  have HR1_6 := ak hr1_6
  have HC1_6 := ak hc1_6
  clear hr1_6 hc1_6
  have HB := ak (Below.refl w.heap.size w)
  have H : (if a0_0 = a1_0 then (if a0_1 = a1_1 then (if a0_2 = a1_2 then (if a0_3 = a1_3 then (if a0_4 = a1_4 then (if a0_5.toList = a1_5.toList then ((laws_eqDatumS.f k l0_6 l1_6).bind fun t694 => (if t694 = true then (some true) else (some false))) else (some false)) else (some false)) else (some false)) else (some false)) else (some false)) else (some false)) = some r := h
  clear h
  by_cases c3 : a0_0 = a1_0
  ·rw [if_pos c3] at H
   have c3b0 : (a0_0 == a1_0) = true := beq_iff_eq.mpr c3
   have c3b1 : (a0_0 != a1_0) = false := bne_eq_false_iff_eq.mpr c3
   clear c3
   by_cases c4 : a0_1 = a1_1
   ·rw [if_pos c4] at H
    have c4b0 : (a0_1 == a1_1) = true := beq_iff_eq.mpr c4
    have c4b1 : (a0_1 != a1_1) = false := bne_eq_false_iff_eq.mpr c4
    clear c4
    by_cases c5 : a0_2 = a1_2
    ·rw [if_pos c5] at H
     have c5b0 : (a0_2 == a1_2) = true := beq_iff_eq.mpr c5
     have c5b1 : (a0_2 != a1_2) = false := bne_eq_false_iff_eq.mpr c5
     clear c5
     by_cases c6 : a0_3 = a1_3
     ·rw [if_pos c6] at H
      have c6b0 : (a0_3 == a1_3) = true := beq_iff_eq.mpr c6
      have c6b1 : (a0_3 != a1_3) = false := bne_eq_false_iff_eq.mpr c6
      clear c6
      by_cases c7 : a0_4 = a1_4
      ·rw [if_pos c7] at H
       have c7b0 : (a0_4 == a1_4) = true := beq_iff_eq.mpr c7
       have c7b1 : (a0_4 != a1_4) = false := bne_eq_false_iff_eq.mpr c7
       clear c7
       by_cases c8 : a0_5.toList = a1_5.toList
       ·rw [if_pos c8] at H
        have c8b0 : (a0_5.toList == a1_5.toList) = true := beq_iff_eq.mpr c8
        have c8b1 : (a0_5.toList != a1_5.toList) = false := bne_eq_false_iff_eq.mpr c8
        clear c8
        replace H := Option.bind_eq_some_iff.mp H
        obtain ⟨t694, A90, H⟩ := H
        replace H : (if t694 = true then (some true) else (some false)) = some r := H
        have A9 := ak A90
        clear A90
        by_cases c10 : t694 = true
        ·subst c10
         have H1 : (some true) = some r := by rw [if_pos rfl] at H; exact H
         clear H
         have H := H1
         clear H1
         obtain rfl := Option.some.inj H
         go_enter Tryd.func42, Tryd.ntmps42
         go_wp2_with (first | ((with_reducible refine gate_dst (N := 2) rfl ?_); refine box_event ?hg (N := 2) ?hd (cs := #[.int .i64 a0_0, .int .i64 a0_1, .int .i64 a0_2, .int .i64 a0_3, .int .i64 a0_4, .string a0_5, .slice A0_6 l0_6.length c0_6]) (t := 69) ?hr ?_; (case hd => rfl); (case hg => rfl); (case hr => first | (go_simp; done) | (go_simp; rfl)); intro gb692 hg w11 hbox hb; have n0_ := ak (below_step d23_1 hb); have n1_ := ak (hbox); have n2_ := ak ((d23_13 : w.heap.size ≤ gb692)); have n3_ := ak ((d23_13 : w.heap.size ≤ gb692)); clear HB; have HB := n0_; have BK692 := n1_; have GW692 := n2_; have GE692 := n3_; clear n0_ n1_ n2_ n3_ hb hbox hg) | ((with_reducible refine gate_dst (N := 3) rfl ?_); refine box_event ?hg (N := 3) ?hd (cs := #[.int .i64 a1_0, .int .i64 a1_1, .int .i64 a1_2, .int .i64 a1_3, .int .i64 a1_4, .string a1_5, .slice A1_6 l1_6.length c1_6]) (t := 69) ?hr ?_; (case hd => rfl); (case hg => rfl); (case hr => first | (go_simp; done) | (go_simp; rfl)); intro gb693 hg w12 hbox hb; have n0_ := ak (blk_below (g := gb692) (o := .cells #[.int .i64 a0_0, .int .i64 a0_1, .int .i64 a0_2, .int .i64 a0_3, .int .i64 a0_4, .string a0_5, .slice A0_6 l0_6.length c0_6] 69 (0, 0)) d23_5 hb); have n1_ := ak (below_step d23_3 hb); have n2_ := ak (hbox); have n3_ := ak ((d23_14 : w.heap.size ≤ gb693)); have n4_ := ak ((d23_14 : w.heap.size ≤ gb693)); have n5_ := ak ((by rw [hg]; exact Nat.ne_of_lt (blk_lt (g := gb692) (o := .cells #[.int .i64 a0_0, .int .i64 a0_1, .int .i64 a0_2, .int .i64 a0_3, .int .i64 a0_4, .string a0_5, .slice A0_6 l0_6.length c0_6] 69 (0, 0)) d23_5) : gb692 ≠ gb693)); have n6_ := ak ((by rw [hg]; exact Nat.ne_of_gt (blk_lt (g := gb692) (o := .cells #[.int .i64 a0_0, .int .i64 a0_1, .int .i64 a0_2, .int .i64 a0_3, .int .i64 a0_4, .string a0_5, .slice A0_6 l0_6.length c0_6] 69 (0, 0)) d23_5) : gb693 ≠ gb692)); clear BK692 HB; have BK692 := n0_; have HB := n1_; have BK693 := n2_; have GW693 := n3_; have GE693 := n4_; have NB692_693 := n5_; have NB693_692 := n6_; clear n0_ n1_ n2_ n3_ n4_ n5_ n6_ hb hbox hg; have hnb13 := NB692_693.out; have hnc13 := NB693_692.out; have hcz14_0 : w12.cell? ⟨gb692, 0, none⟩ = some (.int .i64 a0_0) := (blk_cell BK692.out 0).trans rfl; have hcz14_1 : w12.cell? ⟨gb692, 1, none⟩ = some (.int .i64 a0_1) := (blk_cell BK692.out 1).trans rfl; have hcz14_2 : w12.cell? ⟨gb692, 2, none⟩ = some (.int .i64 a0_2) := (blk_cell BK692.out 2).trans rfl; have hcz14_3 : w12.cell? ⟨gb692, 3, none⟩ = some (.int .i64 a0_3) := (blk_cell BK692.out 3).trans rfl; have hcz14_4 : w12.cell? ⟨gb692, 4, none⟩ = some (.int .i64 a0_4) := (blk_cell BK692.out 4).trans rfl; have hcz14_5 : w12.cell? ⟨gb692, 5, none⟩ = some (.string a0_5) := (blk_cell BK692.out 5).trans rfl; have hcz14_6 : w12.cell? ⟨gb692, 6, none⟩ = some (.slice A0_6 l0_6.length c0_6) := (blk_cell BK692.out 6).trans rfl; have hfz14_0 := blk_frozen BK692.out 0; have hfz14_1 := blk_frozen BK692.out 1; have hfz14_2 := blk_frozen BK692.out 2; have hfz14_3 := blk_frozen BK692.out 3; have hfz14_4 := blk_frozen BK692.out 4; have hfz14_5 := blk_frozen BK692.out 5; have hfz14_6 := blk_frozen BK692.out 6; have hcz15_0 : w12.cell? ⟨gb693, 0, none⟩ = some (.int .i64 a1_0) := (blk_cell BK693.out 0).trans rfl; have hcz15_1 : w12.cell? ⟨gb693, 1, none⟩ = some (.int .i64 a1_1) := (blk_cell BK693.out 1).trans rfl; have hcz15_2 : w12.cell? ⟨gb693, 2, none⟩ = some (.int .i64 a1_2) := (blk_cell BK693.out 2).trans rfl; have hcz15_3 : w12.cell? ⟨gb693, 3, none⟩ = some (.int .i64 a1_3) := (blk_cell BK693.out 3).trans rfl; have hcz15_4 : w12.cell? ⟨gb693, 4, none⟩ = some (.int .i64 a1_4) := (blk_cell BK693.out 4).trans rfl; have hcz15_5 : w12.cell? ⟨gb693, 5, none⟩ = some (.string a1_5) := (blk_cell BK693.out 5).trans rfl; have hcz15_6 : w12.cell? ⟨gb693, 6, none⟩ = some (.slice A1_6 l1_6.length c1_6) := (blk_cell BK693.out 6).trans rfl; have hfz15_0 := blk_frozen BK693.out 0; have hfz15_1 := blk_frozen BK693.out 1; have hfz15_2 := blk_frozen BK693.out 2; have hfz15_3 := blk_frozen BK693.out 3; have hfz15_4 := blk_frozen BK693.out 4; have hfz15_5 := blk_frozen BK693.out 5; have hfz15_6 := blk_frozen BK693.out 6) | ((with_reducible refine gate_callee (f := 77) rfl ?_); refine goesL_ (some 39) rfl rfl Tryd.func77 (by kernel_rfl) rfl #[.slice A0_6 l0_6.length c0_6, .slice A1_6 l1_6.length c1_6] rfl d23_4 ?_; (with_reducible refine (laws_eqDatumS.calls k _ _ l0_6 _ _ l1_6 true _ ?side1 ?side2 ?side3 ?side4 A9.out).mono ?_); (case side1 => repeat (first | exact (Kd.C_below HR0_6.out HB.out) | (with_reducible refine Kd.C_alloc ?_ _) | (with_reducible refine Kd.C_drewN ?_ _) | (with_reducible refine Kd.C_drew ?_))); (case side2 => exact HC0_6.out); (case side3 => repeat (first | exact (Kd.C_below HR1_6.out HB.out) | (with_reducible refine Kd.C_alloc ?_ _) | (with_reducible refine Kd.C_drewN ?_ _) | (with_reducible refine Kd.C_drew ?_))); (case side4 => exact HC1_6.out); rintro e w16 ⟨rfl, hb⟩; refine ⟨_, rfl, ?_⟩; have n0_ := ak (blk_below (g := gb692) (o := .cells #[.int .i64 a0_0, .int .i64 a0_1, .int .i64 a0_2, .int .i64 a0_3, .int .i64 a0_4, .string a0_5, .slice A0_6 l0_6.length c0_6] 69 (0, 0)) d23_5 hb); have n1_ := ak (blk_below (g := gb693) (o := .cells #[.int .i64 a1_0, .int .i64 a1_1, .int .i64 a1_2, .int .i64 a1_3, .int .i64 a1_4, .string a1_5, .slice A1_6 l1_6.length c1_6] 69 (0, 0)) (by (with_reducible repeat (first | refine blk_drewN ?_ _ | refine blk_drew ?_ | refine blk_alloc ?_ _)); exact BK693.out) hb); have n2_ := ak (below_step (by repeat (first | (with_reducible first | exact HB.out | apply below_alloc | apply pw_below_drewN | apply below_drew1 | refine below_set ?_ GE692.out | refine below_set ?_ GE693.out) | exact HB.out)) hb); clear BK692 BK693 HB; have BK692 := n0_; have BK693 := n1_; have HB := n2_; clear n0_ n1_ n2_; (try clear hb)))
         go_ret
         exact ⟨by first | rfl | (simp [errW_none, errW_some] <;> rfl) | (simp [*, errW_none, errW_some] <;> rfl), by repeat (first | (with_reducible first | exact HB.out | apply below_alloc | apply pw_below_drewN | apply below_drew1 | refine below_set ?_ GE692.out | refine below_set ?_ GE693.out) | exact HB.out)⟩
        ·replace c10 := Bool.eq_false_iff.mpr c10
         subst c10
         have H1 : (some false) = some r := by rw [if_neg (show ¬ (false = true) by decide)] at H; exact H
         clear H
         have H := H1
         clear H1
         obtain rfl := Option.some.inj H
         go_enter Tryd.func42, Tryd.ntmps42
         go_wp2_with (first | ((with_reducible refine gate_dst (N := 2) rfl ?_); refine box_event ?hg (N := 2) ?hd (cs := #[.int .i64 a0_0, .int .i64 a0_1, .int .i64 a0_2, .int .i64 a0_3, .int .i64 a0_4, .string a0_5, .slice A0_6 l0_6.length c0_6]) (t := 69) ?hr ?_; (case hd => rfl); (case hg => rfl); (case hr => first | (go_simp; done) | (go_simp; rfl)); intro gb692 hg w17 hbox hb; have n0_ := ak (below_step d23_1 hb); have n1_ := ak (hbox); have n2_ := ak ((d23_13 : w.heap.size ≤ gb692)); have n3_ := ak ((d23_13 : w.heap.size ≤ gb692)); clear HB; have HB := n0_; have BK692 := n1_; have GW692 := n2_; have GE692 := n3_; clear n0_ n1_ n2_ n3_ hb hbox hg) | ((with_reducible refine gate_dst (N := 3) rfl ?_); refine box_event ?hg (N := 3) ?hd (cs := #[.int .i64 a1_0, .int .i64 a1_1, .int .i64 a1_2, .int .i64 a1_3, .int .i64 a1_4, .string a1_5, .slice A1_6 l1_6.length c1_6]) (t := 69) ?hr ?_; (case hd => rfl); (case hg => rfl); (case hr => first | (go_simp; done) | (go_simp; rfl)); intro gb693 hg w18 hbox hb; have n0_ := ak (blk_below (g := gb692) (o := .cells #[.int .i64 a0_0, .int .i64 a0_1, .int .i64 a0_2, .int .i64 a0_3, .int .i64 a0_4, .string a0_5, .slice A0_6 l0_6.length c0_6] 69 (0, 0)) d23_5 hb); have n1_ := ak (below_step d23_3 hb); have n2_ := ak (hbox); have n3_ := ak ((d23_14 : w.heap.size ≤ gb693)); have n4_ := ak ((d23_14 : w.heap.size ≤ gb693)); have n5_ := ak ((by rw [hg]; exact Nat.ne_of_lt (blk_lt (g := gb692) (o := .cells #[.int .i64 a0_0, .int .i64 a0_1, .int .i64 a0_2, .int .i64 a0_3, .int .i64 a0_4, .string a0_5, .slice A0_6 l0_6.length c0_6] 69 (0, 0)) d23_5) : gb692 ≠ gb693)); have n6_ := ak ((by rw [hg]; exact Nat.ne_of_gt (blk_lt (g := gb692) (o := .cells #[.int .i64 a0_0, .int .i64 a0_1, .int .i64 a0_2, .int .i64 a0_3, .int .i64 a0_4, .string a0_5, .slice A0_6 l0_6.length c0_6] 69 (0, 0)) d23_5) : gb693 ≠ gb692)); clear BK692 HB; have BK692 := n0_; have HB := n1_; have BK693 := n2_; have GW693 := n3_; have GE693 := n4_; have NB692_693 := n5_; have NB693_692 := n6_; clear n0_ n1_ n2_ n3_ n4_ n5_ n6_ hb hbox hg; have hnb19 := NB692_693.out; have hnc19 := NB693_692.out; have hcz20_0 : w18.cell? ⟨gb692, 0, none⟩ = some (.int .i64 a0_0) := (blk_cell BK692.out 0).trans rfl; have hcz20_1 : w18.cell? ⟨gb692, 1, none⟩ = some (.int .i64 a0_1) := (blk_cell BK692.out 1).trans rfl; have hcz20_2 : w18.cell? ⟨gb692, 2, none⟩ = some (.int .i64 a0_2) := (blk_cell BK692.out 2).trans rfl; have hcz20_3 : w18.cell? ⟨gb692, 3, none⟩ = some (.int .i64 a0_3) := (blk_cell BK692.out 3).trans rfl; have hcz20_4 : w18.cell? ⟨gb692, 4, none⟩ = some (.int .i64 a0_4) := (blk_cell BK692.out 4).trans rfl; have hcz20_5 : w18.cell? ⟨gb692, 5, none⟩ = some (.string a0_5) := (blk_cell BK692.out 5).trans rfl; have hcz20_6 : w18.cell? ⟨gb692, 6, none⟩ = some (.slice A0_6 l0_6.length c0_6) := (blk_cell BK692.out 6).trans rfl; have hfz20_0 := blk_frozen BK692.out 0; have hfz20_1 := blk_frozen BK692.out 1; have hfz20_2 := blk_frozen BK692.out 2; have hfz20_3 := blk_frozen BK692.out 3; have hfz20_4 := blk_frozen BK692.out 4; have hfz20_5 := blk_frozen BK692.out 5; have hfz20_6 := blk_frozen BK692.out 6; have hcz21_0 : w18.cell? ⟨gb693, 0, none⟩ = some (.int .i64 a1_0) := (blk_cell BK693.out 0).trans rfl; have hcz21_1 : w18.cell? ⟨gb693, 1, none⟩ = some (.int .i64 a1_1) := (blk_cell BK693.out 1).trans rfl; have hcz21_2 : w18.cell? ⟨gb693, 2, none⟩ = some (.int .i64 a1_2) := (blk_cell BK693.out 2).trans rfl; have hcz21_3 : w18.cell? ⟨gb693, 3, none⟩ = some (.int .i64 a1_3) := (blk_cell BK693.out 3).trans rfl; have hcz21_4 : w18.cell? ⟨gb693, 4, none⟩ = some (.int .i64 a1_4) := (blk_cell BK693.out 4).trans rfl; have hcz21_5 : w18.cell? ⟨gb693, 5, none⟩ = some (.string a1_5) := (blk_cell BK693.out 5).trans rfl; have hcz21_6 : w18.cell? ⟨gb693, 6, none⟩ = some (.slice A1_6 l1_6.length c1_6) := (blk_cell BK693.out 6).trans rfl; have hfz21_0 := blk_frozen BK693.out 0; have hfz21_1 := blk_frozen BK693.out 1; have hfz21_2 := blk_frozen BK693.out 2; have hfz21_3 := blk_frozen BK693.out 3; have hfz21_4 := blk_frozen BK693.out 4; have hfz21_5 := blk_frozen BK693.out 5; have hfz21_6 := blk_frozen BK693.out 6) | ((with_reducible refine gate_callee (f := 77) rfl ?_); refine goesL_ (some 39) rfl rfl Tryd.func77 (by kernel_rfl) rfl #[.slice A0_6 l0_6.length c0_6, .slice A1_6 l1_6.length c1_6] rfl d23_4 ?_; (with_reducible refine (laws_eqDatumS.calls k _ _ l0_6 _ _ l1_6 false _ ?side1 ?side2 ?side3 ?side4 A9.out).mono ?_); (case side1 => repeat (first | exact (Kd.C_below HR0_6.out HB.out) | (with_reducible refine Kd.C_alloc ?_ _) | (with_reducible refine Kd.C_drewN ?_ _) | (with_reducible refine Kd.C_drew ?_))); (case side2 => exact HC0_6.out); (case side3 => repeat (first | exact (Kd.C_below HR1_6.out HB.out) | (with_reducible refine Kd.C_alloc ?_ _) | (with_reducible refine Kd.C_drewN ?_ _) | (with_reducible refine Kd.C_drew ?_))); (case side4 => exact HC1_6.out); rintro e w22 ⟨rfl, hb⟩; refine ⟨_, rfl, ?_⟩; have n0_ := ak (blk_below (g := gb692) (o := .cells #[.int .i64 a0_0, .int .i64 a0_1, .int .i64 a0_2, .int .i64 a0_3, .int .i64 a0_4, .string a0_5, .slice A0_6 l0_6.length c0_6] 69 (0, 0)) d23_5 hb); have n1_ := ak (blk_below (g := gb693) (o := .cells #[.int .i64 a1_0, .int .i64 a1_1, .int .i64 a1_2, .int .i64 a1_3, .int .i64 a1_4, .string a1_5, .slice A1_6 l1_6.length c1_6] 69 (0, 0)) (by (with_reducible repeat (first | refine blk_drewN ?_ _ | refine blk_drew ?_ | refine blk_alloc ?_ _)); exact BK693.out) hb); have n2_ := ak (below_step (by repeat (first | (with_reducible first | exact HB.out | apply below_alloc | apply pw_below_drewN | apply below_drew1 | refine below_set ?_ GE692.out | refine below_set ?_ GE693.out) | exact HB.out)) hb); clear BK692 BK693 HB; have BK692 := n0_; have BK693 := n1_; have HB := n2_; clear n0_ n1_ n2_; (try clear hb)))
         go_ret
         exact ⟨by first | rfl | (simp [errW_none, errW_some] <;> rfl) | (simp [*, errW_none, errW_some] <;> rfl), by repeat (first | (with_reducible first | exact HB.out | apply below_alloc | apply pw_below_drewN | apply below_drew1 | refine below_set ?_ GE692.out | refine below_set ?_ GE693.out) | exact HB.out)⟩
       ·rw [if_neg c8] at H
        have c8b0 : (a0_5.toList == a1_5.toList) = false := beq_eq_false_iff_ne.mpr c8
        have c8b1 : (a0_5.toList != a1_5.toList) = true := bne_iff_ne.mpr c8
        obtain rfl := Option.some.inj H
        go_enter Tryd.func42, Tryd.ntmps42
        go_wp2_with (first | ((with_reducible refine gate_dst (N := 2) rfl ?_); refine box_event ?hg (N := 2) ?hd (cs := #[.int .i64 a0_0, .int .i64 a0_1, .int .i64 a0_2, .int .i64 a0_3, .int .i64 a0_4, .string a0_5, .slice A0_6 l0_6.length c0_6]) (t := 69) ?hr ?_; (case hd => rfl); (case hg => rfl); (case hr => first | (go_simp; done) | (go_simp; rfl)); intro gb692 hg w23 hbox hb; have n0_ := ak (below_step d23_1 hb); have n1_ := ak (hbox); have n2_ := ak ((d23_13 : w.heap.size ≤ gb692)); have n3_ := ak ((d23_13 : w.heap.size ≤ gb692)); clear HB; have HB := n0_; have BK692 := n1_; have GW692 := n2_; have GE692 := n3_; clear n0_ n1_ n2_ n3_ hb hbox hg) | ((with_reducible refine gate_dst (N := 3) rfl ?_); refine box_event ?hg (N := 3) ?hd (cs := #[.int .i64 a1_0, .int .i64 a1_1, .int .i64 a1_2, .int .i64 a1_3, .int .i64 a1_4, .string a1_5, .slice A1_6 l1_6.length c1_6]) (t := 69) ?hr ?_; (case hd => rfl); (case hg => rfl); (case hr => first | (go_simp; done) | (go_simp; rfl)); intro gb693 hg w24 hbox hb; have n0_ := ak (blk_below (g := gb692) (o := .cells #[.int .i64 a0_0, .int .i64 a0_1, .int .i64 a0_2, .int .i64 a0_3, .int .i64 a0_4, .string a0_5, .slice A0_6 l0_6.length c0_6] 69 (0, 0)) d23_5 hb); have n1_ := ak (below_step d23_3 hb); have n2_ := ak (hbox); have n3_ := ak ((d23_14 : w.heap.size ≤ gb693)); have n4_ := ak ((d23_14 : w.heap.size ≤ gb693)); have n5_ := ak ((by rw [hg]; exact Nat.ne_of_lt (blk_lt (g := gb692) (o := .cells #[.int .i64 a0_0, .int .i64 a0_1, .int .i64 a0_2, .int .i64 a0_3, .int .i64 a0_4, .string a0_5, .slice A0_6 l0_6.length c0_6] 69 (0, 0)) d23_5) : gb692 ≠ gb693)); have n6_ := ak ((by rw [hg]; exact Nat.ne_of_gt (blk_lt (g := gb692) (o := .cells #[.int .i64 a0_0, .int .i64 a0_1, .int .i64 a0_2, .int .i64 a0_3, .int .i64 a0_4, .string a0_5, .slice A0_6 l0_6.length c0_6] 69 (0, 0)) d23_5) : gb693 ≠ gb692)); clear BK692 HB; have BK692 := n0_; have HB := n1_; have BK693 := n2_; have GW693 := n3_; have GE693 := n4_; have NB692_693 := n5_; have NB693_692 := n6_; clear n0_ n1_ n2_ n3_ n4_ n5_ n6_ hb hbox hg; have hnb25 := NB692_693.out; have hnc25 := NB693_692.out; have hcz26_0 : w24.cell? ⟨gb692, 0, none⟩ = some (.int .i64 a0_0) := (blk_cell BK692.out 0).trans rfl; have hcz26_1 : w24.cell? ⟨gb692, 1, none⟩ = some (.int .i64 a0_1) := (blk_cell BK692.out 1).trans rfl; have hcz26_2 : w24.cell? ⟨gb692, 2, none⟩ = some (.int .i64 a0_2) := (blk_cell BK692.out 2).trans rfl; have hcz26_3 : w24.cell? ⟨gb692, 3, none⟩ = some (.int .i64 a0_3) := (blk_cell BK692.out 3).trans rfl; have hcz26_4 : w24.cell? ⟨gb692, 4, none⟩ = some (.int .i64 a0_4) := (blk_cell BK692.out 4).trans rfl; have hcz26_5 : w24.cell? ⟨gb692, 5, none⟩ = some (.string a0_5) := (blk_cell BK692.out 5).trans rfl; have hcz26_6 : w24.cell? ⟨gb692, 6, none⟩ = some (.slice A0_6 l0_6.length c0_6) := (blk_cell BK692.out 6).trans rfl; have hfz26_0 := blk_frozen BK692.out 0; have hfz26_1 := blk_frozen BK692.out 1; have hfz26_2 := blk_frozen BK692.out 2; have hfz26_3 := blk_frozen BK692.out 3; have hfz26_4 := blk_frozen BK692.out 4; have hfz26_5 := blk_frozen BK692.out 5; have hfz26_6 := blk_frozen BK692.out 6; have hcz27_0 : w24.cell? ⟨gb693, 0, none⟩ = some (.int .i64 a1_0) := (blk_cell BK693.out 0).trans rfl; have hcz27_1 : w24.cell? ⟨gb693, 1, none⟩ = some (.int .i64 a1_1) := (blk_cell BK693.out 1).trans rfl; have hcz27_2 : w24.cell? ⟨gb693, 2, none⟩ = some (.int .i64 a1_2) := (blk_cell BK693.out 2).trans rfl; have hcz27_3 : w24.cell? ⟨gb693, 3, none⟩ = some (.int .i64 a1_3) := (blk_cell BK693.out 3).trans rfl; have hcz27_4 : w24.cell? ⟨gb693, 4, none⟩ = some (.int .i64 a1_4) := (blk_cell BK693.out 4).trans rfl; have hcz27_5 : w24.cell? ⟨gb693, 5, none⟩ = some (.string a1_5) := (blk_cell BK693.out 5).trans rfl; have hcz27_6 : w24.cell? ⟨gb693, 6, none⟩ = some (.slice A1_6 l1_6.length c1_6) := (blk_cell BK693.out 6).trans rfl; have hfz27_0 := blk_frozen BK693.out 0; have hfz27_1 := blk_frozen BK693.out 1; have hfz27_2 := blk_frozen BK693.out 2; have hfz27_3 := blk_frozen BK693.out 3; have hfz27_4 := blk_frozen BK693.out 4; have hfz27_5 := blk_frozen BK693.out 5; have hfz27_6 := blk_frozen BK693.out 6))
        go_ret
        exact ⟨by first | rfl | (simp [errW_none, errW_some] <;> rfl) | (simp [*, errW_none, errW_some] <;> rfl), by repeat (first | (with_reducible first | exact HB.out | apply below_alloc | apply pw_below_drewN | apply below_drew1 | refine below_set ?_ GE692.out | refine below_set ?_ GE693.out) | exact HB.out)⟩
      ·rw [if_neg c7] at H
       have c7b0 : (a0_4 == a1_4) = false := beq_eq_false_iff_ne.mpr c7
       have c7b1 : (a0_4 != a1_4) = true := bne_iff_ne.mpr c7
       obtain rfl := Option.some.inj H
       go_enter Tryd.func42, Tryd.ntmps42
       go_wp2_with (first | ((with_reducible refine gate_dst (N := 2) rfl ?_); refine box_event ?hg (N := 2) ?hd (cs := #[.int .i64 a0_0, .int .i64 a0_1, .int .i64 a0_2, .int .i64 a0_3, .int .i64 a0_4, .string a0_5, .slice A0_6 l0_6.length c0_6]) (t := 69) ?hr ?_; (case hd => rfl); (case hg => rfl); (case hr => first | (go_simp; done) | (go_simp; rfl)); intro gb692 hg w28 hbox hb; have n0_ := ak (below_step d23_1 hb); have n1_ := ak (hbox); have n2_ := ak ((d23_13 : w.heap.size ≤ gb692)); have n3_ := ak ((d23_13 : w.heap.size ≤ gb692)); clear HB; have HB := n0_; have BK692 := n1_; have GW692 := n2_; have GE692 := n3_; clear n0_ n1_ n2_ n3_ hb hbox hg) | ((with_reducible refine gate_dst (N := 3) rfl ?_); refine box_event ?hg (N := 3) ?hd (cs := #[.int .i64 a1_0, .int .i64 a1_1, .int .i64 a1_2, .int .i64 a1_3, .int .i64 a1_4, .string a1_5, .slice A1_6 l1_6.length c1_6]) (t := 69) ?hr ?_; (case hd => rfl); (case hg => rfl); (case hr => first | (go_simp; done) | (go_simp; rfl)); intro gb693 hg w29 hbox hb; have n0_ := ak (blk_below (g := gb692) (o := .cells #[.int .i64 a0_0, .int .i64 a0_1, .int .i64 a0_2, .int .i64 a0_3, .int .i64 a0_4, .string a0_5, .slice A0_6 l0_6.length c0_6] 69 (0, 0)) d23_5 hb); have n1_ := ak (below_step d23_3 hb); have n2_ := ak (hbox); have n3_ := ak ((d23_14 : w.heap.size ≤ gb693)); have n4_ := ak ((d23_14 : w.heap.size ≤ gb693)); have n5_ := ak ((by rw [hg]; exact Nat.ne_of_lt (blk_lt (g := gb692) (o := .cells #[.int .i64 a0_0, .int .i64 a0_1, .int .i64 a0_2, .int .i64 a0_3, .int .i64 a0_4, .string a0_5, .slice A0_6 l0_6.length c0_6] 69 (0, 0)) d23_5) : gb692 ≠ gb693)); have n6_ := ak ((by rw [hg]; exact Nat.ne_of_gt (blk_lt (g := gb692) (o := .cells #[.int .i64 a0_0, .int .i64 a0_1, .int .i64 a0_2, .int .i64 a0_3, .int .i64 a0_4, .string a0_5, .slice A0_6 l0_6.length c0_6] 69 (0, 0)) d23_5) : gb693 ≠ gb692)); clear BK692 HB; have BK692 := n0_; have HB := n1_; have BK693 := n2_; have GW693 := n3_; have GE693 := n4_; have NB692_693 := n5_; have NB693_692 := n6_; clear n0_ n1_ n2_ n3_ n4_ n5_ n6_ hb hbox hg; have hnb30 := NB692_693.out; have hnc30 := NB693_692.out; have hcz31_0 : w29.cell? ⟨gb692, 0, none⟩ = some (.int .i64 a0_0) := (blk_cell BK692.out 0).trans rfl; have hcz31_1 : w29.cell? ⟨gb692, 1, none⟩ = some (.int .i64 a0_1) := (blk_cell BK692.out 1).trans rfl; have hcz31_2 : w29.cell? ⟨gb692, 2, none⟩ = some (.int .i64 a0_2) := (blk_cell BK692.out 2).trans rfl; have hcz31_3 : w29.cell? ⟨gb692, 3, none⟩ = some (.int .i64 a0_3) := (blk_cell BK692.out 3).trans rfl; have hcz31_4 : w29.cell? ⟨gb692, 4, none⟩ = some (.int .i64 a0_4) := (blk_cell BK692.out 4).trans rfl; have hcz31_5 : w29.cell? ⟨gb692, 5, none⟩ = some (.string a0_5) := (blk_cell BK692.out 5).trans rfl; have hcz31_6 : w29.cell? ⟨gb692, 6, none⟩ = some (.slice A0_6 l0_6.length c0_6) := (blk_cell BK692.out 6).trans rfl; have hfz31_0 := blk_frozen BK692.out 0; have hfz31_1 := blk_frozen BK692.out 1; have hfz31_2 := blk_frozen BK692.out 2; have hfz31_3 := blk_frozen BK692.out 3; have hfz31_4 := blk_frozen BK692.out 4; have hfz31_5 := blk_frozen BK692.out 5; have hfz31_6 := blk_frozen BK692.out 6; have hcz32_0 : w29.cell? ⟨gb693, 0, none⟩ = some (.int .i64 a1_0) := (blk_cell BK693.out 0).trans rfl; have hcz32_1 : w29.cell? ⟨gb693, 1, none⟩ = some (.int .i64 a1_1) := (blk_cell BK693.out 1).trans rfl; have hcz32_2 : w29.cell? ⟨gb693, 2, none⟩ = some (.int .i64 a1_2) := (blk_cell BK693.out 2).trans rfl; have hcz32_3 : w29.cell? ⟨gb693, 3, none⟩ = some (.int .i64 a1_3) := (blk_cell BK693.out 3).trans rfl; have hcz32_4 : w29.cell? ⟨gb693, 4, none⟩ = some (.int .i64 a1_4) := (blk_cell BK693.out 4).trans rfl; have hcz32_5 : w29.cell? ⟨gb693, 5, none⟩ = some (.string a1_5) := (blk_cell BK693.out 5).trans rfl; have hcz32_6 : w29.cell? ⟨gb693, 6, none⟩ = some (.slice A1_6 l1_6.length c1_6) := (blk_cell BK693.out 6).trans rfl; have hfz32_0 := blk_frozen BK693.out 0; have hfz32_1 := blk_frozen BK693.out 1; have hfz32_2 := blk_frozen BK693.out 2; have hfz32_3 := blk_frozen BK693.out 3; have hfz32_4 := blk_frozen BK693.out 4; have hfz32_5 := blk_frozen BK693.out 5; have hfz32_6 := blk_frozen BK693.out 6))
       go_ret
       exact ⟨by first | rfl | (simp [errW_none, errW_some] <;> rfl) | (simp [*, errW_none, errW_some] <;> rfl), by repeat (first | (with_reducible first | exact HB.out | apply below_alloc | apply pw_below_drewN | apply below_drew1 | refine below_set ?_ GE692.out | refine below_set ?_ GE693.out) | exact HB.out)⟩
     ·rw [if_neg c6] at H
      have c6b0 : (a0_3 == a1_3) = false := beq_eq_false_iff_ne.mpr c6
      have c6b1 : (a0_3 != a1_3) = true := bne_iff_ne.mpr c6
      obtain rfl := Option.some.inj H
      go_enter Tryd.func42, Tryd.ntmps42
      go_wp2_with (first | ((with_reducible refine gate_dst (N := 2) rfl ?_); refine box_event ?hg (N := 2) ?hd (cs := #[.int .i64 a0_0, .int .i64 a0_1, .int .i64 a0_2, .int .i64 a0_3, .int .i64 a0_4, .string a0_5, .slice A0_6 l0_6.length c0_6]) (t := 69) ?hr ?_; (case hd => rfl); (case hg => rfl); (case hr => first | (go_simp; done) | (go_simp; rfl)); intro gb692 hg w33 hbox hb; have n0_ := ak (below_step d23_1 hb); have n1_ := ak (hbox); have n2_ := ak ((d23_13 : w.heap.size ≤ gb692)); have n3_ := ak ((d23_13 : w.heap.size ≤ gb692)); clear HB; have HB := n0_; have BK692 := n1_; have GW692 := n2_; have GE692 := n3_; clear n0_ n1_ n2_ n3_ hb hbox hg) | ((with_reducible refine gate_dst (N := 3) rfl ?_); refine box_event ?hg (N := 3) ?hd (cs := #[.int .i64 a1_0, .int .i64 a1_1, .int .i64 a1_2, .int .i64 a1_3, .int .i64 a1_4, .string a1_5, .slice A1_6 l1_6.length c1_6]) (t := 69) ?hr ?_; (case hd => rfl); (case hg => rfl); (case hr => first | (go_simp; done) | (go_simp; rfl)); intro gb693 hg w34 hbox hb; have n0_ := ak (blk_below (g := gb692) (o := .cells #[.int .i64 a0_0, .int .i64 a0_1, .int .i64 a0_2, .int .i64 a0_3, .int .i64 a0_4, .string a0_5, .slice A0_6 l0_6.length c0_6] 69 (0, 0)) d23_5 hb); have n1_ := ak (below_step d23_3 hb); have n2_ := ak (hbox); have n3_ := ak ((d23_14 : w.heap.size ≤ gb693)); have n4_ := ak ((d23_14 : w.heap.size ≤ gb693)); have n5_ := ak ((by rw [hg]; exact Nat.ne_of_lt (blk_lt (g := gb692) (o := .cells #[.int .i64 a0_0, .int .i64 a0_1, .int .i64 a0_2, .int .i64 a0_3, .int .i64 a0_4, .string a0_5, .slice A0_6 l0_6.length c0_6] 69 (0, 0)) d23_5) : gb692 ≠ gb693)); have n6_ := ak ((by rw [hg]; exact Nat.ne_of_gt (blk_lt (g := gb692) (o := .cells #[.int .i64 a0_0, .int .i64 a0_1, .int .i64 a0_2, .int .i64 a0_3, .int .i64 a0_4, .string a0_5, .slice A0_6 l0_6.length c0_6] 69 (0, 0)) d23_5) : gb693 ≠ gb692)); clear BK692 HB; have BK692 := n0_; have HB := n1_; have BK693 := n2_; have GW693 := n3_; have GE693 := n4_; have NB692_693 := n5_; have NB693_692 := n6_; clear n0_ n1_ n2_ n3_ n4_ n5_ n6_ hb hbox hg; have hnb35 := NB692_693.out; have hnc35 := NB693_692.out; have hcz36_0 : w34.cell? ⟨gb692, 0, none⟩ = some (.int .i64 a0_0) := (blk_cell BK692.out 0).trans rfl; have hcz36_1 : w34.cell? ⟨gb692, 1, none⟩ = some (.int .i64 a0_1) := (blk_cell BK692.out 1).trans rfl; have hcz36_2 : w34.cell? ⟨gb692, 2, none⟩ = some (.int .i64 a0_2) := (blk_cell BK692.out 2).trans rfl; have hcz36_3 : w34.cell? ⟨gb692, 3, none⟩ = some (.int .i64 a0_3) := (blk_cell BK692.out 3).trans rfl; have hcz36_4 : w34.cell? ⟨gb692, 4, none⟩ = some (.int .i64 a0_4) := (blk_cell BK692.out 4).trans rfl; have hcz36_5 : w34.cell? ⟨gb692, 5, none⟩ = some (.string a0_5) := (blk_cell BK692.out 5).trans rfl; have hcz36_6 : w34.cell? ⟨gb692, 6, none⟩ = some (.slice A0_6 l0_6.length c0_6) := (blk_cell BK692.out 6).trans rfl; have hfz36_0 := blk_frozen BK692.out 0; have hfz36_1 := blk_frozen BK692.out 1; have hfz36_2 := blk_frozen BK692.out 2; have hfz36_3 := blk_frozen BK692.out 3; have hfz36_4 := blk_frozen BK692.out 4; have hfz36_5 := blk_frozen BK692.out 5; have hfz36_6 := blk_frozen BK692.out 6; have hcz37_0 : w34.cell? ⟨gb693, 0, none⟩ = some (.int .i64 a1_0) := (blk_cell BK693.out 0).trans rfl; have hcz37_1 : w34.cell? ⟨gb693, 1, none⟩ = some (.int .i64 a1_1) := (blk_cell BK693.out 1).trans rfl; have hcz37_2 : w34.cell? ⟨gb693, 2, none⟩ = some (.int .i64 a1_2) := (blk_cell BK693.out 2).trans rfl; have hcz37_3 : w34.cell? ⟨gb693, 3, none⟩ = some (.int .i64 a1_3) := (blk_cell BK693.out 3).trans rfl; have hcz37_4 : w34.cell? ⟨gb693, 4, none⟩ = some (.int .i64 a1_4) := (blk_cell BK693.out 4).trans rfl; have hcz37_5 : w34.cell? ⟨gb693, 5, none⟩ = some (.string a1_5) := (blk_cell BK693.out 5).trans rfl; have hcz37_6 : w34.cell? ⟨gb693, 6, none⟩ = some (.slice A1_6 l1_6.length c1_6) := (blk_cell BK693.out 6).trans rfl; have hfz37_0 := blk_frozen BK693.out 0; have hfz37_1 := blk_frozen BK693.out 1; have hfz37_2 := blk_frozen BK693.out 2; have hfz37_3 := blk_frozen BK693.out 3; have hfz37_4 := blk_frozen BK693.out 4; have hfz37_5 := blk_frozen BK693.out 5; have hfz37_6 := blk_frozen BK693.out 6))
      go_ret
      exact ⟨by first | rfl | (simp [errW_none, errW_some] <;> rfl) | (simp [*, errW_none, errW_some] <;> rfl), by repeat (first | (with_reducible first | exact HB.out | apply below_alloc | apply pw_below_drewN | apply below_drew1 | refine below_set ?_ GE692.out | refine below_set ?_ GE693.out) | exact HB.out)⟩
    ·rw [if_neg c5] at H
     have c5b0 : (a0_2 == a1_2) = false := beq_eq_false_iff_ne.mpr c5
     have c5b1 : (a0_2 != a1_2) = true := bne_iff_ne.mpr c5
     obtain rfl := Option.some.inj H
     go_enter Tryd.func42, Tryd.ntmps42
     go_wp2_with (first | ((with_reducible refine gate_dst (N := 2) rfl ?_); refine box_event ?hg (N := 2) ?hd (cs := #[.int .i64 a0_0, .int .i64 a0_1, .int .i64 a0_2, .int .i64 a0_3, .int .i64 a0_4, .string a0_5, .slice A0_6 l0_6.length c0_6]) (t := 69) ?hr ?_; (case hd => rfl); (case hg => rfl); (case hr => first | (go_simp; done) | (go_simp; rfl)); intro gb692 hg w38 hbox hb; have n0_ := ak (below_step d23_1 hb); have n1_ := ak (hbox); have n2_ := ak ((d23_13 : w.heap.size ≤ gb692)); have n3_ := ak ((d23_13 : w.heap.size ≤ gb692)); clear HB; have HB := n0_; have BK692 := n1_; have GW692 := n2_; have GE692 := n3_; clear n0_ n1_ n2_ n3_ hb hbox hg) | ((with_reducible refine gate_dst (N := 3) rfl ?_); refine box_event ?hg (N := 3) ?hd (cs := #[.int .i64 a1_0, .int .i64 a1_1, .int .i64 a1_2, .int .i64 a1_3, .int .i64 a1_4, .string a1_5, .slice A1_6 l1_6.length c1_6]) (t := 69) ?hr ?_; (case hd => rfl); (case hg => rfl); (case hr => first | (go_simp; done) | (go_simp; rfl)); intro gb693 hg w39 hbox hb; have n0_ := ak (blk_below (g := gb692) (o := .cells #[.int .i64 a0_0, .int .i64 a0_1, .int .i64 a0_2, .int .i64 a0_3, .int .i64 a0_4, .string a0_5, .slice A0_6 l0_6.length c0_6] 69 (0, 0)) d23_5 hb); have n1_ := ak (below_step d23_3 hb); have n2_ := ak (hbox); have n3_ := ak ((d23_14 : w.heap.size ≤ gb693)); have n4_ := ak ((d23_14 : w.heap.size ≤ gb693)); have n5_ := ak ((by rw [hg]; exact Nat.ne_of_lt (blk_lt (g := gb692) (o := .cells #[.int .i64 a0_0, .int .i64 a0_1, .int .i64 a0_2, .int .i64 a0_3, .int .i64 a0_4, .string a0_5, .slice A0_6 l0_6.length c0_6] 69 (0, 0)) d23_5) : gb692 ≠ gb693)); have n6_ := ak ((by rw [hg]; exact Nat.ne_of_gt (blk_lt (g := gb692) (o := .cells #[.int .i64 a0_0, .int .i64 a0_1, .int .i64 a0_2, .int .i64 a0_3, .int .i64 a0_4, .string a0_5, .slice A0_6 l0_6.length c0_6] 69 (0, 0)) d23_5) : gb693 ≠ gb692)); clear BK692 HB; have BK692 := n0_; have HB := n1_; have BK693 := n2_; have GW693 := n3_; have GE693 := n4_; have NB692_693 := n5_; have NB693_692 := n6_; clear n0_ n1_ n2_ n3_ n4_ n5_ n6_ hb hbox hg; have hnb40 := NB692_693.out; have hnc40 := NB693_692.out; have hcz41_0 : w39.cell? ⟨gb692, 0, none⟩ = some (.int .i64 a0_0) := (blk_cell BK692.out 0).trans rfl; have hcz41_1 : w39.cell? ⟨gb692, 1, none⟩ = some (.int .i64 a0_1) := (blk_cell BK692.out 1).trans rfl; have hcz41_2 : w39.cell? ⟨gb692, 2, none⟩ = some (.int .i64 a0_2) := (blk_cell BK692.out 2).trans rfl; have hcz41_3 : w39.cell? ⟨gb692, 3, none⟩ = some (.int .i64 a0_3) := (blk_cell BK692.out 3).trans rfl; have hcz41_4 : w39.cell? ⟨gb692, 4, none⟩ = some (.int .i64 a0_4) := (blk_cell BK692.out 4).trans rfl; have hcz41_5 : w39.cell? ⟨gb692, 5, none⟩ = some (.string a0_5) := (blk_cell BK692.out 5).trans rfl; have hcz41_6 : w39.cell? ⟨gb692, 6, none⟩ = some (.slice A0_6 l0_6.length c0_6) := (blk_cell BK692.out 6).trans rfl; have hfz41_0 := blk_frozen BK692.out 0; have hfz41_1 := blk_frozen BK692.out 1; have hfz41_2 := blk_frozen BK692.out 2; have hfz41_3 := blk_frozen BK692.out 3; have hfz41_4 := blk_frozen BK692.out 4; have hfz41_5 := blk_frozen BK692.out 5; have hfz41_6 := blk_frozen BK692.out 6; have hcz42_0 : w39.cell? ⟨gb693, 0, none⟩ = some (.int .i64 a1_0) := (blk_cell BK693.out 0).trans rfl; have hcz42_1 : w39.cell? ⟨gb693, 1, none⟩ = some (.int .i64 a1_1) := (blk_cell BK693.out 1).trans rfl; have hcz42_2 : w39.cell? ⟨gb693, 2, none⟩ = some (.int .i64 a1_2) := (blk_cell BK693.out 2).trans rfl; have hcz42_3 : w39.cell? ⟨gb693, 3, none⟩ = some (.int .i64 a1_3) := (blk_cell BK693.out 3).trans rfl; have hcz42_4 : w39.cell? ⟨gb693, 4, none⟩ = some (.int .i64 a1_4) := (blk_cell BK693.out 4).trans rfl; have hcz42_5 : w39.cell? ⟨gb693, 5, none⟩ = some (.string a1_5) := (blk_cell BK693.out 5).trans rfl; have hcz42_6 : w39.cell? ⟨gb693, 6, none⟩ = some (.slice A1_6 l1_6.length c1_6) := (blk_cell BK693.out 6).trans rfl; have hfz42_0 := blk_frozen BK693.out 0; have hfz42_1 := blk_frozen BK693.out 1; have hfz42_2 := blk_frozen BK693.out 2; have hfz42_3 := blk_frozen BK693.out 3; have hfz42_4 := blk_frozen BK693.out 4; have hfz42_5 := blk_frozen BK693.out 5; have hfz42_6 := blk_frozen BK693.out 6))
     go_ret
     exact ⟨by first | rfl | (simp [errW_none, errW_some] <;> rfl) | (simp [*, errW_none, errW_some] <;> rfl), by repeat (first | (with_reducible first | exact HB.out | apply below_alloc | apply pw_below_drewN | apply below_drew1 | refine below_set ?_ GE692.out | refine below_set ?_ GE693.out) | exact HB.out)⟩
   ·rw [if_neg c4] at H
    have c4b0 : (a0_1 == a1_1) = false := beq_eq_false_iff_ne.mpr c4
    have c4b1 : (a0_1 != a1_1) = true := bne_iff_ne.mpr c4
    obtain rfl := Option.some.inj H
    go_enter Tryd.func42, Tryd.ntmps42
    go_wp2_with (first | ((with_reducible refine gate_dst (N := 2) rfl ?_); refine box_event ?hg (N := 2) ?hd (cs := #[.int .i64 a0_0, .int .i64 a0_1, .int .i64 a0_2, .int .i64 a0_3, .int .i64 a0_4, .string a0_5, .slice A0_6 l0_6.length c0_6]) (t := 69) ?hr ?_; (case hd => rfl); (case hg => rfl); (case hr => first | (go_simp; done) | (go_simp; rfl)); intro gb692 hg w43 hbox hb; have n0_ := ak (below_step d23_1 hb); have n1_ := ak (hbox); have n2_ := ak ((d23_13 : w.heap.size ≤ gb692)); have n3_ := ak ((d23_13 : w.heap.size ≤ gb692)); clear HB; have HB := n0_; have BK692 := n1_; have GW692 := n2_; have GE692 := n3_; clear n0_ n1_ n2_ n3_ hb hbox hg) | ((with_reducible refine gate_dst (N := 3) rfl ?_); refine box_event ?hg (N := 3) ?hd (cs := #[.int .i64 a1_0, .int .i64 a1_1, .int .i64 a1_2, .int .i64 a1_3, .int .i64 a1_4, .string a1_5, .slice A1_6 l1_6.length c1_6]) (t := 69) ?hr ?_; (case hd => rfl); (case hg => rfl); (case hr => first | (go_simp; done) | (go_simp; rfl)); intro gb693 hg w44 hbox hb; have n0_ := ak (blk_below (g := gb692) (o := .cells #[.int .i64 a0_0, .int .i64 a0_1, .int .i64 a0_2, .int .i64 a0_3, .int .i64 a0_4, .string a0_5, .slice A0_6 l0_6.length c0_6] 69 (0, 0)) d23_5 hb); have n1_ := ak (below_step d23_3 hb); have n2_ := ak (hbox); have n3_ := ak ((d23_14 : w.heap.size ≤ gb693)); have n4_ := ak ((d23_14 : w.heap.size ≤ gb693)); have n5_ := ak ((by rw [hg]; exact Nat.ne_of_lt (blk_lt (g := gb692) (o := .cells #[.int .i64 a0_0, .int .i64 a0_1, .int .i64 a0_2, .int .i64 a0_3, .int .i64 a0_4, .string a0_5, .slice A0_6 l0_6.length c0_6] 69 (0, 0)) d23_5) : gb692 ≠ gb693)); have n6_ := ak ((by rw [hg]; exact Nat.ne_of_gt (blk_lt (g := gb692) (o := .cells #[.int .i64 a0_0, .int .i64 a0_1, .int .i64 a0_2, .int .i64 a0_3, .int .i64 a0_4, .string a0_5, .slice A0_6 l0_6.length c0_6] 69 (0, 0)) d23_5) : gb693 ≠ gb692)); clear BK692 HB; have BK692 := n0_; have HB := n1_; have BK693 := n2_; have GW693 := n3_; have GE693 := n4_; have NB692_693 := n5_; have NB693_692 := n6_; clear n0_ n1_ n2_ n3_ n4_ n5_ n6_ hb hbox hg; have hnb45 := NB692_693.out; have hnc45 := NB693_692.out; have hcz46_0 : w44.cell? ⟨gb692, 0, none⟩ = some (.int .i64 a0_0) := (blk_cell BK692.out 0).trans rfl; have hcz46_1 : w44.cell? ⟨gb692, 1, none⟩ = some (.int .i64 a0_1) := (blk_cell BK692.out 1).trans rfl; have hcz46_2 : w44.cell? ⟨gb692, 2, none⟩ = some (.int .i64 a0_2) := (blk_cell BK692.out 2).trans rfl; have hcz46_3 : w44.cell? ⟨gb692, 3, none⟩ = some (.int .i64 a0_3) := (blk_cell BK692.out 3).trans rfl; have hcz46_4 : w44.cell? ⟨gb692, 4, none⟩ = some (.int .i64 a0_4) := (blk_cell BK692.out 4).trans rfl; have hcz46_5 : w44.cell? ⟨gb692, 5, none⟩ = some (.string a0_5) := (blk_cell BK692.out 5).trans rfl; have hcz46_6 : w44.cell? ⟨gb692, 6, none⟩ = some (.slice A0_6 l0_6.length c0_6) := (blk_cell BK692.out 6).trans rfl; have hfz46_0 := blk_frozen BK692.out 0; have hfz46_1 := blk_frozen BK692.out 1; have hfz46_2 := blk_frozen BK692.out 2; have hfz46_3 := blk_frozen BK692.out 3; have hfz46_4 := blk_frozen BK692.out 4; have hfz46_5 := blk_frozen BK692.out 5; have hfz46_6 := blk_frozen BK692.out 6; have hcz47_0 : w44.cell? ⟨gb693, 0, none⟩ = some (.int .i64 a1_0) := (blk_cell BK693.out 0).trans rfl; have hcz47_1 : w44.cell? ⟨gb693, 1, none⟩ = some (.int .i64 a1_1) := (blk_cell BK693.out 1).trans rfl; have hcz47_2 : w44.cell? ⟨gb693, 2, none⟩ = some (.int .i64 a1_2) := (blk_cell BK693.out 2).trans rfl; have hcz47_3 : w44.cell? ⟨gb693, 3, none⟩ = some (.int .i64 a1_3) := (blk_cell BK693.out 3).trans rfl; have hcz47_4 : w44.cell? ⟨gb693, 4, none⟩ = some (.int .i64 a1_4) := (blk_cell BK693.out 4).trans rfl; have hcz47_5 : w44.cell? ⟨gb693, 5, none⟩ = some (.string a1_5) := (blk_cell BK693.out 5).trans rfl; have hcz47_6 : w44.cell? ⟨gb693, 6, none⟩ = some (.slice A1_6 l1_6.length c1_6) := (blk_cell BK693.out 6).trans rfl; have hfz47_0 := blk_frozen BK693.out 0; have hfz47_1 := blk_frozen BK693.out 1; have hfz47_2 := blk_frozen BK693.out 2; have hfz47_3 := blk_frozen BK693.out 3; have hfz47_4 := blk_frozen BK693.out 4; have hfz47_5 := blk_frozen BK693.out 5; have hfz47_6 := blk_frozen BK693.out 6))
    go_ret
    exact ⟨by first | rfl | (simp [errW_none, errW_some] <;> rfl) | (simp [*, errW_none, errW_some] <;> rfl), by repeat (first | (with_reducible first | exact HB.out | apply below_alloc | apply pw_below_drewN | apply below_drew1 | refine below_set ?_ GE692.out | refine below_set ?_ GE693.out) | exact HB.out)⟩
  ·rw [if_neg c3] at H
   have c3b0 : (a0_0 == a1_0) = false := beq_eq_false_iff_ne.mpr c3
   have c3b1 : (a0_0 != a1_0) = true := bne_iff_ne.mpr c3
   obtain rfl := Option.some.inj H
   go_enter Tryd.func42, Tryd.ntmps42
   go_wp2_with (first | ((with_reducible refine gate_dst (N := 2) rfl ?_); refine box_event ?hg (N := 2) ?hd (cs := #[.int .i64 a0_0, .int .i64 a0_1, .int .i64 a0_2, .int .i64 a0_3, .int .i64 a0_4, .string a0_5, .slice A0_6 l0_6.length c0_6]) (t := 69) ?hr ?_; (case hd => rfl); (case hg => rfl); (case hr => first | (go_simp; done) | (go_simp; rfl)); intro gb692 hg w48 hbox hb; have n0_ := ak (below_step d23_1 hb); have n1_ := ak (hbox); have n2_ := ak ((d23_13 : w.heap.size ≤ gb692)); have n3_ := ak ((d23_13 : w.heap.size ≤ gb692)); clear HB; have HB := n0_; have BK692 := n1_; have GW692 := n2_; have GE692 := n3_; clear n0_ n1_ n2_ n3_ hb hbox hg) | ((with_reducible refine gate_dst (N := 3) rfl ?_); refine box_event ?hg (N := 3) ?hd (cs := #[.int .i64 a1_0, .int .i64 a1_1, .int .i64 a1_2, .int .i64 a1_3, .int .i64 a1_4, .string a1_5, .slice A1_6 l1_6.length c1_6]) (t := 69) ?hr ?_; (case hd => rfl); (case hg => rfl); (case hr => first | (go_simp; done) | (go_simp; rfl)); intro gb693 hg w49 hbox hb; have n0_ := ak (blk_below (g := gb692) (o := .cells #[.int .i64 a0_0, .int .i64 a0_1, .int .i64 a0_2, .int .i64 a0_3, .int .i64 a0_4, .string a0_5, .slice A0_6 l0_6.length c0_6] 69 (0, 0)) d23_5 hb); have n1_ := ak (below_step d23_3 hb); have n2_ := ak (hbox); have n3_ := ak ((d23_14 : w.heap.size ≤ gb693)); have n4_ := ak ((d23_14 : w.heap.size ≤ gb693)); have n5_ := ak ((by rw [hg]; exact Nat.ne_of_lt (blk_lt (g := gb692) (o := .cells #[.int .i64 a0_0, .int .i64 a0_1, .int .i64 a0_2, .int .i64 a0_3, .int .i64 a0_4, .string a0_5, .slice A0_6 l0_6.length c0_6] 69 (0, 0)) d23_5) : gb692 ≠ gb693)); have n6_ := ak ((by rw [hg]; exact Nat.ne_of_gt (blk_lt (g := gb692) (o := .cells #[.int .i64 a0_0, .int .i64 a0_1, .int .i64 a0_2, .int .i64 a0_3, .int .i64 a0_4, .string a0_5, .slice A0_6 l0_6.length c0_6] 69 (0, 0)) d23_5) : gb693 ≠ gb692)); clear BK692 HB; have BK692 := n0_; have HB := n1_; have BK693 := n2_; have GW693 := n3_; have GE693 := n4_; have NB692_693 := n5_; have NB693_692 := n6_; clear n0_ n1_ n2_ n3_ n4_ n5_ n6_ hb hbox hg; have hnb50 := NB692_693.out; have hnc50 := NB693_692.out; have hcz51_0 : w49.cell? ⟨gb692, 0, none⟩ = some (.int .i64 a0_0) := (blk_cell BK692.out 0).trans rfl; have hcz51_1 : w49.cell? ⟨gb692, 1, none⟩ = some (.int .i64 a0_1) := (blk_cell BK692.out 1).trans rfl; have hcz51_2 : w49.cell? ⟨gb692, 2, none⟩ = some (.int .i64 a0_2) := (blk_cell BK692.out 2).trans rfl; have hcz51_3 : w49.cell? ⟨gb692, 3, none⟩ = some (.int .i64 a0_3) := (blk_cell BK692.out 3).trans rfl; have hcz51_4 : w49.cell? ⟨gb692, 4, none⟩ = some (.int .i64 a0_4) := (blk_cell BK692.out 4).trans rfl; have hcz51_5 : w49.cell? ⟨gb692, 5, none⟩ = some (.string a0_5) := (blk_cell BK692.out 5).trans rfl; have hcz51_6 : w49.cell? ⟨gb692, 6, none⟩ = some (.slice A0_6 l0_6.length c0_6) := (blk_cell BK692.out 6).trans rfl; have hfz51_0 := blk_frozen BK692.out 0; have hfz51_1 := blk_frozen BK692.out 1; have hfz51_2 := blk_frozen BK692.out 2; have hfz51_3 := blk_frozen BK692.out 3; have hfz51_4 := blk_frozen BK692.out 4; have hfz51_5 := blk_frozen BK692.out 5; have hfz51_6 := blk_frozen BK692.out 6; have hcz52_0 : w49.cell? ⟨gb693, 0, none⟩ = some (.int .i64 a1_0) := (blk_cell BK693.out 0).trans rfl; have hcz52_1 : w49.cell? ⟨gb693, 1, none⟩ = some (.int .i64 a1_1) := (blk_cell BK693.out 1).trans rfl; have hcz52_2 : w49.cell? ⟨gb693, 2, none⟩ = some (.int .i64 a1_2) := (blk_cell BK693.out 2).trans rfl; have hcz52_3 : w49.cell? ⟨gb693, 3, none⟩ = some (.int .i64 a1_3) := (blk_cell BK693.out 3).trans rfl; have hcz52_4 : w49.cell? ⟨gb693, 4, none⟩ = some (.int .i64 a1_4) := (blk_cell BK693.out 4).trans rfl; have hcz52_5 : w49.cell? ⟨gb693, 5, none⟩ = some (.string a1_5) := (blk_cell BK693.out 5).trans rfl; have hcz52_6 : w49.cell? ⟨gb693, 6, none⟩ = some (.slice A1_6 l1_6.length c1_6) := (blk_cell BK693.out 6).trans rfl; have hfz52_0 := blk_frozen BK693.out 0; have hfz52_1 := blk_frozen BK693.out 1; have hfz52_2 := blk_frozen BK693.out 2; have hfz52_3 := blk_frozen BK693.out 3; have hfz52_4 := blk_frozen BK693.out 4; have hfz52_5 := blk_frozen BK693.out 5; have hfz52_6 := blk_frozen BK693.out 6))
   go_ret
   exact ⟨by first | rfl | (simp [errW_none, errW_some] <;> rfl) | (simp [*, errW_none, errW_some] <;> rfl), by repeat (first | (with_reducible first | exact HB.out | apply below_alloc | apply pw_below_drewN | apply below_drew1 | refine below_set ?_ GE692.out | refine below_set ?_ GE693.out) | exact HB.out)⟩

/-! ### laws_FnExactOpFault: function 9 -/
def laws_FnExactOpFault.f (k : Nat) (a0_0 : Int) (a0_1 : Int) (a0_2 : Int) (a0_3 : Int) (a0_4 : Int) (a0_5 : ByteArray) (l0_6 : List (S130)) : Option (Bool) := (laws_szOp.f k a0_0 a0_1 a0_2 a0_3 a0_4 a0_5 l0_6 1048576).bind fun t696 => (if t696 < 0 then (some true) else ((laws_toOp.f k a0_0 a0_1 a0_2 a0_3 a0_4 a0_5 l0_6).bind fun bt697 => ((spec_OpFault.f k bt697.1 bt697.2.1 bt697.2.2.1 bt697.2.2.2.1 bt697.2.2.2.2.1 bt697.2.2.2.2.2.1 bt697.2.2.2.2.2.2).bind fun t706 => ((laws_toOp.f k a0_0 a0_1 a0_2 a0_3 a0_4 a0_5 l0_6).bind fun bt707 => ((impl_OpFault.f k bt707.1 bt707.2.1 bt707.2.2.1 bt707.2.2.2.1 bt707.2.2.2.2.1 bt707.2.2.2.2.2.1 bt707.2.2.2.2.2.2).bind fun t717 => (if t717 = t706 then ((laws_toOp.f k a0_0 a0_1 a0_2 a0_3 a0_4 a0_5 l0_6).bind fun bt718 => ((laws_eqOp.f k bt707.1 bt707.2.1 bt707.2.2.1 bt707.2.2.2.1 bt707.2.2.2.2.1 bt707.2.2.2.2.2.1 bt707.2.2.2.2.2.2 bt718.1 bt718.2.1 bt718.2.2.1 bt718.2.2.2.1 bt718.2.2.2.2.1 bt718.2.2.2.2.2.1 bt718.2.2.2.2.2.2).bind fun t727 => (if t727 = true then (some true) else (some false)))) else (some false)))))))
theorem laws_FnExactOpFault.mono : ∀ a0 a1 a2 a3 a4 a5 a6 k, LeO (laws_FnExactOpFault.f k a0 a1 a2 a3 a4 a5 a6) (laws_FnExactOpFault.f (k + 1) a0 a1 a2 a3 a4 a5 a6) := by
  intro a0 a1 a2 a3 a4 a5 a6 k
  unfold laws_FnExactOpFault.f
  repeat' first
      | (with_reducible exact impl_OpFault.mono _ _ _ _ _ _ _ _)
      | (with_reducible exact laws_eqOp.mono _ _ _ _ _ _ _ _ _ _ _ _ _ _ _)
      | (with_reducible exact laws_szOp.mono _ _ _ _ _ _ _ _ _)
      | (with_reducible exact laws_toOp.mono _ _ _ _ _ _ _ _)
      | (with_reducible exact spec_OpFault.mono _ _ _ _ _ _ _ _)
      | (with_reducible exact LeO.refl _)
      | (with_reducible exact LeO.none _)
      | (with_reducible refine LeO.ite ?_ ?_)
      | (with_reducible refine LeO.bind ?_ (fun _ => ?_))
      | exact impl_OpFault.mono _ _ _ _ _ _ _ _
      | exact laws_eqOp.mono _ _ _ _ _ _ _ _ _ _ _ _ _ _ _
      | exact laws_szOp.mono _ _ _ _ _ _ _ _ _
      | exact laws_toOp.mono _ _ _ _ _ _ _ _
      | exact spec_OpFault.mono _ _ _ _ _ _ _ _
      | exact LeO.none _
      | refine LeO.ite ?_ ?_
      | refine LeO.bind ?_ (fun _ => ?_)
set_option maxHeartbeats 8000000 in
set_option maxRecDepth 100000 in
theorem laws_FnExactOpFault.calls (k : Nat) (a0_0 : Int) (a0_1 : Int) (a0_2 : Int) (a0_3 : Int) (a0_4 : Int) (a0_5 : ByteArray) (A0_6 : Option Addr) (c0_6 : Nat) (l0_6 : List (S130)) (r : Bool) (w : World) (hr0_6 : Kd.C k130 w A0_6 l0_6.length l0_6) (hc0_6 : l0_6.length ≤ c0_6) (h : laws_FnExactOpFault.f k a0_0 a0_1 a0_2 a0_3 a0_4 a0_5 l0_6 = some r) :
    Calls Tryd.prog 9 #[.agg #[.int .i64 a0_0, .int .i64 a0_1, .int .i64 a0_2, .int .i64 a0_3, .int .i64 a0_4, .string a0_5, .slice A0_6 l0_6.length c0_6]] w fun e w' => e = .returned (.bool r) ∧ Below w.heap.size w w' := by
  have hu64 := Tryd.underlying64
  have hu69 := Tryd.underlying69
  have HR0_6 := ak hr0_6
  have HC0_6 := ak hc0_6
  clear hr0_6 hc0_6
  have HB := ak (Below.refl w.heap.size w)
  have H : ((laws_szOp.f k a0_0 a0_1 a0_2 a0_3 a0_4 a0_5 l0_6 1048576).bind fun t696 => (if t696 < 0 then (some true) else ((laws_toOp.f k a0_0 a0_1 a0_2 a0_3 a0_4 a0_5 l0_6).bind fun bt697 => ((spec_OpFault.f k bt697.1 bt697.2.1 bt697.2.2.1 bt697.2.2.2.1 bt697.2.2.2.2.1 bt697.2.2.2.2.2.1 bt697.2.2.2.2.2.2).bind fun t706 => ((laws_toOp.f k a0_0 a0_1 a0_2 a0_3 a0_4 a0_5 l0_6).bind fun bt707 => ((impl_OpFault.f k bt707.1 bt707.2.1 bt707.2.2.1 bt707.2.2.2.1 bt707.2.2.2.2.1 bt707.2.2.2.2.2.1 bt707.2.2.2.2.2.2).bind fun t717 => (if t717 = t706 then ((laws_toOp.f k a0_0 a0_1 a0_2 a0_3 a0_4 a0_5 l0_6).bind fun bt718 => ((laws_eqOp.f k bt707.1 bt707.2.1 bt707.2.2.1 bt707.2.2.2.1 bt707.2.2.2.2.1 bt707.2.2.2.2.2.1 bt707.2.2.2.2.2.2 bt718.1 bt718.2.1 bt718.2.2.1 bt718.2.2.2.1 bt718.2.2.2.2.1 bt718.2.2.2.2.2.1 bt718.2.2.2.2.2.2).bind fun t727 => (if t727 = true then (some true) else (some false)))) else (some false)))))))) = some r := h
  clear h
  replace H := Option.bind_eq_some_iff.mp H
  obtain ⟨t696, A20, H⟩ := H
  replace H : (if t696 < 0 then (some true) else ((laws_toOp.f k a0_0 a0_1 a0_2 a0_3 a0_4 a0_5 l0_6).bind fun bt697 => ((spec_OpFault.f k bt697.1 bt697.2.1 bt697.2.2.1 bt697.2.2.2.1 bt697.2.2.2.2.1 bt697.2.2.2.2.2.1 bt697.2.2.2.2.2.2).bind fun t706 => ((laws_toOp.f k a0_0 a0_1 a0_2 a0_3 a0_4 a0_5 l0_6).bind fun bt707 => ((impl_OpFault.f k bt707.1 bt707.2.1 bt707.2.2.1 bt707.2.2.2.1 bt707.2.2.2.2.1 bt707.2.2.2.2.2.1 bt707.2.2.2.2.2.2).bind fun t717 => (if t717 = t706 then ((laws_toOp.f k a0_0 a0_1 a0_2 a0_3 a0_4 a0_5 l0_6).bind fun bt718 => ((laws_eqOp.f k bt707.1 bt707.2.1 bt707.2.2.1 bt707.2.2.2.1 bt707.2.2.2.2.1 bt707.2.2.2.2.2.1 bt707.2.2.2.2.2.2 bt718.1 bt718.2.1 bt718.2.2.1 bt718.2.2.2.1 bt718.2.2.2.2.1 bt718.2.2.2.2.2.1 bt718.2.2.2.2.2.2).bind fun t727 => (if t727 = true then (some true) else (some false)))) else (some false))))))) = some r := H
  have A2 := ak A20
  clear A20
  by_cases c3 : t696 < 0
  ·rw [if_pos c3] at H
   have c3b0 : decide (t696 < 0) = true := decide_eq_true c3
   clear c3
   obtain rfl := Option.some.inj H
   go_enter Tryd.func9, Tryd.ntmps9
   go_wp2_with (first | ((with_reducible refine gate_dst (N := 1) rfl ?_); refine box_event ?hg (N := 1) ?hd (cs := #[.int .i64 a0_0, .int .i64 a0_1, .int .i64 a0_2, .int .i64 a0_3, .int .i64 a0_4, .string a0_5, .slice A0_6 l0_6.length c0_6]) (t := 64) ?hr ?_; (case hd => rfl); (case hg => rfl); (case hr => first | (go_simp; done) | (go_simp; rfl)); intro gb695 hg w4 hbox hb; have n0_ := ak (below_step d23_1 hb); have n1_ := ak (hbox); have n2_ := ak ((d23_13 : w.heap.size ≤ gb695)); have n3_ := ak ((d23_13 : w.heap.size ≤ gb695)); clear HB; have HB := n0_; have BK695 := n1_; have GW695 := n2_; have GE695 := n3_; clear n0_ n1_ n2_ n3_ hb hbox hg; have hcz5_0 : w4.cell? ⟨gb695, 0, none⟩ = some (.int .i64 a0_0) := (blk_cell BK695.out 0).trans rfl; have hcz5_1 : w4.cell? ⟨gb695, 1, none⟩ = some (.int .i64 a0_1) := (blk_cell BK695.out 1).trans rfl; have hcz5_2 : w4.cell? ⟨gb695, 2, none⟩ = some (.int .i64 a0_2) := (blk_cell BK695.out 2).trans rfl; have hcz5_3 : w4.cell? ⟨gb695, 3, none⟩ = some (.int .i64 a0_3) := (blk_cell BK695.out 3).trans rfl; have hcz5_4 : w4.cell? ⟨gb695, 4, none⟩ = some (.int .i64 a0_4) := (blk_cell BK695.out 4).trans rfl; have hcz5_5 : w4.cell? ⟨gb695, 5, none⟩ = some (.string a0_5) := (blk_cell BK695.out 5).trans rfl; have hcz5_6 : w4.cell? ⟨gb695, 6, none⟩ = some (.slice A0_6 l0_6.length c0_6) := (blk_cell BK695.out 6).trans rfl; have hfz5_0 := blk_frozen BK695.out 0; have hfz5_1 := blk_frozen BK695.out 1; have hfz5_2 := blk_frozen BK695.out 2; have hfz5_3 := blk_frozen BK695.out 3; have hfz5_4 := blk_frozen BK695.out 4; have hfz5_5 := blk_frozen BK695.out 5; have hfz5_6 := blk_frozen BK695.out 6) | ((with_reducible refine gate_callee (f := 38) rfl ?_); refine goesL_ (some 9) rfl rfl Tryd.func38 (by kernel_rfl) rfl #[.agg #[.int .i64 a0_0, .int .i64 a0_1, .int .i64 a0_2, .int .i64 a0_3, .int .i64 a0_4, .string a0_5, .slice A0_6 l0_6.length c0_6], .int .i64 1048576] rfl d23_4 ?_; (with_reducible refine (laws_szOp.calls k a0_0 a0_1 a0_2 a0_3 a0_4 a0_5 _ _ l0_6 1048576 t696 _ ?side1 ?side2 A2.out).mono ?_); (case side1 => repeat (first | exact (Kd.C_below HR0_6.out HB.out) | (with_reducible refine Kd.C_alloc ?_ _) | (with_reducible refine Kd.C_drewN ?_ _) | (with_reducible refine Kd.C_drew ?_))); (case side2 => exact HC0_6.out); rintro e w6 ⟨rfl, hb⟩; refine ⟨_, rfl, ?_⟩; have n0_ := ak (blk_below (g := gb695) (o := .cells #[.int .i64 a0_0, .int .i64 a0_1, .int .i64 a0_2, .int .i64 a0_3, .int .i64 a0_4, .string a0_5, .slice A0_6 l0_6.length c0_6] 64 (0, 0)) d23_6 hb); have n1_ := ak (below_step d23_2 hb); clear BK695 HB; have BK695 := n0_; have HB := n1_; clear n0_ n1_; (try clear hb)))
   go_ret
   exact ⟨by first | rfl | (simp [errW_none, errW_some] <;> rfl) | (simp [*, errW_none, errW_some] <;> rfl), by repeat (first | (with_reducible first | exact HB.out | apply below_alloc | apply pw_below_drewN | apply below_drew1 | refine below_set ?_ GE695.out) | exact HB.out)⟩
  ·rw [if_neg c3] at H
   have c3b0 : decide (t696 < 0) = false := decide_eq_false c3
   clear c3
   replace H := Option.bind_eq_some_iff.mp H
   obtain ⟨⟨t697, t698, t699, t700, t701, t702, t703⟩, A70, H⟩ := H
   replace H : ((spec_OpFault.f k t697 t698 t699 t700 t701 t702 t703).bind fun t706 => ((laws_toOp.f k a0_0 a0_1 a0_2 a0_3 a0_4 a0_5 l0_6).bind fun bt707 => ((impl_OpFault.f k bt707.1 bt707.2.1 bt707.2.2.1 bt707.2.2.2.1 bt707.2.2.2.2.1 bt707.2.2.2.2.2.1 bt707.2.2.2.2.2.2).bind fun t717 => (if t717 = t706 then ((laws_toOp.f k a0_0 a0_1 a0_2 a0_3 a0_4 a0_5 l0_6).bind fun bt718 => ((laws_eqOp.f k bt707.1 bt707.2.1 bt707.2.2.1 bt707.2.2.2.1 bt707.2.2.2.2.1 bt707.2.2.2.2.2.1 bt707.2.2.2.2.2.2 bt718.1 bt718.2.1 bt718.2.2.1 bt718.2.2.2.1 bt718.2.2.2.2.1 bt718.2.2.2.2.2.1 bt718.2.2.2.2.2.2).bind fun t727 => (if t727 = true then (some true) else (some false)))) else (some false))))) = some r := H
   have A7 := ak A70
   clear A70
   replace H := Option.bind_eq_some_iff.mp H
   obtain ⟨t706, A80, H⟩ := H
   replace H : ((laws_toOp.f k a0_0 a0_1 a0_2 a0_3 a0_4 a0_5 l0_6).bind fun bt707 => ((impl_OpFault.f k bt707.1 bt707.2.1 bt707.2.2.1 bt707.2.2.2.1 bt707.2.2.2.2.1 bt707.2.2.2.2.2.1 bt707.2.2.2.2.2.2).bind fun t717 => (if t717 = t706 then ((laws_toOp.f k a0_0 a0_1 a0_2 a0_3 a0_4 a0_5 l0_6).bind fun bt718 => ((laws_eqOp.f k bt707.1 bt707.2.1 bt707.2.2.1 bt707.2.2.2.1 bt707.2.2.2.2.1 bt707.2.2.2.2.2.1 bt707.2.2.2.2.2.2 bt718.1 bt718.2.1 bt718.2.2.1 bt718.2.2.2.1 bt718.2.2.2.2.1 bt718.2.2.2.2.2.1 bt718.2.2.2.2.2.2).bind fun t727 => (if t727 = true then (some true) else (some false)))) else (some false)))) = some r := H
   have A8 := ak A80
   clear A80
   replace H := Option.bind_eq_some_iff.mp H
   obtain ⟨⟨t707, t708, t709, t710, t711, t712, t713⟩, A90, H⟩ := H
   replace H : ((impl_OpFault.f k t707 t708 t709 t710 t711 t712 t713).bind fun t717 => (if t717 = t706 then ((laws_toOp.f k a0_0 a0_1 a0_2 a0_3 a0_4 a0_5 l0_6).bind fun bt718 => ((laws_eqOp.f k t707 t708 t709 t710 t711 t712 t713 bt718.1 bt718.2.1 bt718.2.2.1 bt718.2.2.2.1 bt718.2.2.2.2.1 bt718.2.2.2.2.2.1 bt718.2.2.2.2.2.2).bind fun t727 => (if t727 = true then (some true) else (some false)))) else (some false))) = some r := H
   have A9 := ak A90
   clear A90
   replace H := Option.bind_eq_some_iff.mp H
   obtain ⟨t717, A100, H⟩ := H
   replace H : (if t717 = t706 then ((laws_toOp.f k a0_0 a0_1 a0_2 a0_3 a0_4 a0_5 l0_6).bind fun bt718 => ((laws_eqOp.f k t707 t708 t709 t710 t711 t712 t713 bt718.1 bt718.2.1 bt718.2.2.1 bt718.2.2.2.1 bt718.2.2.2.2.1 bt718.2.2.2.2.2.1 bt718.2.2.2.2.2.2).bind fun t727 => (if t727 = true then (some true) else (some false)))) else (some false)) = some r := H
   have A10 := ak A100
   clear A100
   by_cases c11 : t717 = t706
   ·rw [if_pos c11] at H
    have c11b0 : (t717 == t706) = true := beq_iff_eq.mpr c11
    have c11b1 : (t717 != t706) = false := bne_eq_false_iff_eq.mpr c11
    clear c11
    replace H := Option.bind_eq_some_iff.mp H
    obtain ⟨⟨t718, t719, t720, t721, t722, t723, t724⟩, A120, H⟩ := H
    replace H : ((laws_eqOp.f k t707 t708 t709 t710 t711 t712 t713 t718 t719 t720 t721 t722 t723 t724).bind fun t727 => (if t727 = true then (some true) else (some false))) = some r := H
    have A12 := ak A120
    clear A120
    replace H := Option.bind_eq_some_iff.mp H
    obtain ⟨t727, A130, H⟩ := H
    replace H : (if t727 = true then (some true) else (some false)) = some r := H
    have A13 := ak A130
    clear A130
    by_cases c14 : t727 = true
    ·subst c14
     have H1 : (some true) = some r := by rw [if_pos rfl] at H; exact H
     clear H
     have H := H1
     clear H1
     obtain rfl := Option.some.inj H
     go_enter Tryd.func9, Tryd.ntmps9
     try go_wp2_with (first | ((with_reducible refine gate_dst (N := 1) rfl ?_); refine box_event ?hg (N := 1) ?hd (cs := #[.int .i64 a0_0, .int .i64 a0_1, .int .i64 a0_2, .int .i64 a0_3, .int .i64 a0_4, .string a0_5, .slice A0_6 l0_6.length c0_6]) (t := 64) ?hr ?_; (case hd => rfl); (case hg => rfl); (case hr => first | (go_simp; done) | (go_simp; rfl)); intro gb695 hg w15 hbox hb; have n0_ := ak (below_step d23_1 hb); have n1_ := ak (hbox); have n2_ := ak ((d23_13 : w.heap.size ≤ gb695)); have n3_ := ak ((d23_13 : w.heap.size ≤ gb695)); clear HB; have HB := n0_; have BK695 := n1_; have GW695 := n2_; have GE695 := n3_; clear n0_ n1_ n2_ n3_ hb hbox hg; have hcz16_0 : w15.cell? ⟨gb695, 0, none⟩ = some (.int .i64 a0_0) := (blk_cell BK695.out 0).trans rfl; have hcz16_1 : w15.cell? ⟨gb695, 1, none⟩ = some (.int .i64 a0_1) := (blk_cell BK695.out 1).trans rfl; have hcz16_2 : w15.cell? ⟨gb695, 2, none⟩ = some (.int .i64 a0_2) := (blk_cell BK695.out 2).trans rfl; have hcz16_3 : w15.cell? ⟨gb695, 3, none⟩ = some (.int .i64 a0_3) := (blk_cell BK695.out 3).trans rfl; have hcz16_4 : w15.cell? ⟨gb695, 4, none⟩ = some (.int .i64 a0_4) := (blk_cell BK695.out 4).trans rfl; have hcz16_5 : w15.cell? ⟨gb695, 5, none⟩ = some (.string a0_5) := (blk_cell BK695.out 5).trans rfl; have hcz16_6 : w15.cell? ⟨gb695, 6, none⟩ = some (.slice A0_6 l0_6.length c0_6) := (blk_cell BK695.out 6).trans rfl; have hfz16_0 := blk_frozen BK695.out 0; have hfz16_1 := blk_frozen BK695.out 1; have hfz16_2 := blk_frozen BK695.out 2; have hfz16_3 := blk_frozen BK695.out 3; have hfz16_4 := blk_frozen BK695.out 4; have hfz16_5 := blk_frozen BK695.out 5; have hfz16_6 := blk_frozen BK695.out 6) | ((with_reducible refine gate_callee (f := 38) rfl ?_); refine goesL_ (some 9) rfl rfl Tryd.func38 (by kernel_rfl) rfl #[.agg #[.int .i64 a0_0, .int .i64 a0_1, .int .i64 a0_2, .int .i64 a0_3, .int .i64 a0_4, .string a0_5, .slice A0_6 l0_6.length c0_6], .int .i64 1048576] rfl d23_4 ?_; (with_reducible refine (laws_szOp.calls k a0_0 a0_1 a0_2 a0_3 a0_4 a0_5 _ _ l0_6 1048576 t696 _ ?side1 ?side2 A2.out).mono ?_); (case side1 => repeat (first | exact (Kd.C_below HR0_6.out HB.out) | (with_reducible refine Kd.C_alloc ?_ _) | (with_reducible refine Kd.C_drewN ?_ _) | (with_reducible refine Kd.C_drew ?_))); (case side2 => exact HC0_6.out); rintro e w17 ⟨rfl, hb⟩; refine ⟨_, rfl, ?_⟩; have n0_ := ak (blk_below (g := gb695) (o := .cells #[.int .i64 a0_0, .int .i64 a0_1, .int .i64 a0_2, .int .i64 a0_3, .int .i64 a0_4, .string a0_5, .slice A0_6 l0_6.length c0_6] 64 (0, 0)) d23_6 hb); have n1_ := ak (below_step d23_2 hb); clear BK695 HB; have BK695 := n0_; have HB := n1_; clear n0_ n1_; (try clear hb); (try clear hk); have hcz18_0 : w17.cell? ⟨gb695, 0, none⟩ = some (.int .i64 a0_0) := (blk_cell BK695.out 0).trans rfl; have hcz18_1 : w17.cell? ⟨gb695, 1, none⟩ = some (.int .i64 a0_1) := (blk_cell BK695.out 1).trans rfl; have hcz18_2 : w17.cell? ⟨gb695, 2, none⟩ = some (.int .i64 a0_2) := (blk_cell BK695.out 2).trans rfl; have hcz18_3 : w17.cell? ⟨gb695, 3, none⟩ = some (.int .i64 a0_3) := (blk_cell BK695.out 3).trans rfl; have hcz18_4 : w17.cell? ⟨gb695, 4, none⟩ = some (.int .i64 a0_4) := (blk_cell BK695.out 4).trans rfl; have hcz18_5 : w17.cell? ⟨gb695, 5, none⟩ = some (.string a0_5) := (blk_cell BK695.out 5).trans rfl; have hcz18_6 : w17.cell? ⟨gb695, 6, none⟩ = some (.slice A0_6 l0_6.length c0_6) := (blk_cell BK695.out 6).trans rfl; have hfz18_0 := blk_frozen BK695.out 0; have hfz18_1 := blk_frozen BK695.out 1; have hfz18_2 := blk_frozen BK695.out 2; have hfz18_3 := blk_frozen BK695.out 3; have hfz18_4 := blk_frozen BK695.out 4; have hfz18_5 := blk_frozen BK695.out 5; have hfz18_6 := blk_frozen BK695.out 6) | ((with_reducible refine gate_callee (f := 40) rfl ?_); refine goesL_ (some 13) rfl rfl Tryd.func40 (by kernel_rfl) rfl #[.agg #[.int .i64 a0_0, .int .i64 a0_1, .int .i64 a0_2, .int .i64 a0_3, .int .i64 a0_4, .string a0_5, .slice A0_6 l0_6.length c0_6]] rfl d23_4 ?_; (with_reducible refine (laws_toOp.calls k a0_0 a0_1 a0_2 a0_3 a0_4 a0_5 _ _ l0_6 t697 t698 t699 t700 t701 t702 t703 _ ?side1 ?side2 A7.out).mono ?_); (case side1 => repeat (first | exact (Kd.C_below HR0_6.out HB.out) | (with_reducible refine Kd.C_alloc ?_ _) | (with_reducible refine Kd.C_drewN ?_ _) | (with_reducible refine Kd.C_drew ?_))); (case side2 => exact HC0_6.out); rintro e w19 ⟨v704, rfl, ho0, hb⟩; refine ⟨_, rfl, ?_⟩; have n0_ := ak (Kd.R_lower ho0 (below_size d23_2)); have n1_ := ak (blk_below (g := gb695) (o := .cells #[.int .i64 a0_0, .int .i64 a0_1, .int .i64 a0_2, .int .i64 a0_3, .int .i64 a0_4, .string a0_5, .slice A0_6 l0_6.length c0_6] 64 (0, 0)) d23_6 hb); have n2_ := ak (below_step d23_2 hb); clear BK695 HB; have HO705 := n0_; have BK695 := n1_; have HB := n2_; clear n0_ n1_ n2_; (try clear hb); (try clear hk); (try clear ho0); obtain ⟨Ao20, co20, eo20⟩ := Kd.R_slice HO705.out; subst eo20) | ((with_reducible refine gate_callee (f := 39) rfl ?_); refine goesL_ (some 14) rfl rfl Tryd.func39 (by kernel_rfl) rfl #[.agg #[.int .i64 t697, .int .i64 t698, .int .i64 t699, .int .i64 t700, .int .i64 t701, .string t702, .slice Ao20 t703.length co20]] rfl d23_4 ?_; (with_reducible refine (spec_OpFault.calls k t697 t698 t699 t700 t701 t702 _ _ t703 t706 _ ?side1 ?side2 A8.out).mono ?_); (case side1 => repeat (first | exact (Kd.R_reads' HO705.out).2.2 | (with_reducible refine Kd.C_alloc ?_ _) | (with_reducible refine Kd.C_drewN ?_ _) | (with_reducible refine Kd.C_drew ?_))); (case side2 => exact (Kd.R_reads' HO705.out).2.1); rintro e w21 ⟨rfl, hb⟩; refine ⟨_, rfl, ?_⟩; have n0_ := ak (Kd.R_below d23_8 hb); have n1_ := ak (blk_below (g := gb695) (o := .cells #[.int .i64 a0_0, .int .i64 a0_1, .int .i64 a0_2, .int .i64 a0_3, .int .i64 a0_4, .string a0_5, .slice A0_6 l0_6.length c0_6] 64 (0, 0)) d23_6 hb); have n2_ := ak (below_step d23_2 hb); clear HO705 BK695 HB; have HO705 := n0_; have BK695 := n1_; have HB := n2_; clear n0_ n1_ n2_; (try clear hb); (try clear hk); have hcz22_0 : w21.cell? ⟨gb695, 0, none⟩ = some (.int .i64 a0_0) := (blk_cell BK695.out 0).trans rfl; have hcz22_1 : w21.cell? ⟨gb695, 1, none⟩ = some (.int .i64 a0_1) := (blk_cell BK695.out 1).trans rfl; have hcz22_2 : w21.cell? ⟨gb695, 2, none⟩ = some (.int .i64 a0_2) := (blk_cell BK695.out 2).trans rfl; have hcz22_3 : w21.cell? ⟨gb695, 3, none⟩ = some (.int .i64 a0_3) := (blk_cell BK695.out 3).trans rfl; have hcz22_4 : w21.cell? ⟨gb695, 4, none⟩ = some (.int .i64 a0_4) := (blk_cell BK695.out 4).trans rfl; have hcz22_5 : w21.cell? ⟨gb695, 5, none⟩ = some (.string a0_5) := (blk_cell BK695.out 5).trans rfl; have hcz22_6 : w21.cell? ⟨gb695, 6, none⟩ = some (.slice A0_6 l0_6.length c0_6) := (blk_cell BK695.out 6).trans rfl; have hfz22_0 := blk_frozen BK695.out 0; have hfz22_1 := blk_frozen BK695.out 1; have hfz22_2 := blk_frozen BK695.out 2; have hfz22_3 := blk_frozen BK695.out 3; have hfz22_4 := blk_frozen BK695.out 4; have hfz22_5 := blk_frozen BK695.out 5; have hfz22_6 := blk_frozen BK695.out 6) | ((with_reducible refine gate_callee (f := 40) rfl ?_); refine goesL_ (some 16) rfl rfl Tryd.func40 (by kernel_rfl) rfl #[.agg #[.int .i64 a0_0, .int .i64 a0_1, .int .i64 a0_2, .int .i64 a0_3, .int .i64 a0_4, .string a0_5, .slice A0_6 l0_6.length c0_6]] rfl d23_4 ?_; (with_reducible refine (laws_toOp.calls k a0_0 a0_1 a0_2 a0_3 a0_4 a0_5 _ _ l0_6 t707 t708 t709 t710 t711 t712 t713 _ ?side1 ?side2 A9.out).mono ?_); (case side1 => repeat (first | exact (Kd.C_below HR0_6.out HB.out) | (with_reducible refine Kd.C_alloc ?_ _) | (with_reducible refine Kd.C_drewN ?_ _) | (with_reducible refine Kd.C_drew ?_))); (case side2 => exact HC0_6.out); rintro e w23 ⟨v714, rfl, ho0, hb⟩; refine ⟨_, rfl, ?_⟩; have n0_ := ak (Kd.R_elder' d23_8 (Kd.R_base ho0) hb); have n1_ := ak (Kd.R_lower (Kd.R_new' ho0 (Kd.R_lt d23_8)) (below_size d23_2)); have n2_ := ak (blk_below (g := gb695) (o := .cells #[.int .i64 a0_0, .int .i64 a0_1, .int .i64 a0_2, .int .i64 a0_3, .int .i64 a0_4, .string a0_5, .slice A0_6 l0_6.length c0_6] 64 (0, 0)) d23_6 hb); have n3_ := ak (below_step d23_2 hb); clear HO705 BK695 HB; have HO705 := n0_; have HO715 := n1_; have BK695 := n2_; have HB := n3_; clear n0_ n1_ n2_ n3_; (try clear hb); (try clear hk); (try clear ho0)) | ((with_reducible refine gate_dst (N := 5) rfl ?_); refine box_event ?hg (N := 5) ?hd (cs := #[.int .i64 0, .int .i64 0, .int .i64 0, .int .i64 0, .int .i64 0, .string (⟨#[]⟩ : ByteArray), .slice none 0 0]) (t := 69) ?hr ?_; (case hd => rfl); (case hg => rfl); (case hr => first | (go_simp; done) | (go_simp; rfl)); intro gb716 hg w24 hbox hb; have n0_ := ak (Kd.R_below d23_8 hb); have n1_ := ak (Kd.R_below d23_10 hb); have n2_ := ak (blk_below (g := gb695) (o := .cells #[.int .i64 a0_0, .int .i64 a0_1, .int .i64 a0_2, .int .i64 a0_3, .int .i64 a0_4, .string a0_5, .slice A0_6 l0_6.length c0_6] 64 (0, 0)) d23_6 hb); have n3_ := ak (below_step d23_2 hb); have n4_ := ak (hbox); have n5_ := ak ((by rw [hg]; exact (below_size d23_2) : w.heap.size ≤ gb716)); have n6_ := ak ((by rw [hg]; exact (below_size d23_2) : w.heap.size ≤ gb716)); have n7_ := ak ((by rw [hg]; exact Nat.ne_of_lt (blk_lt (g := gb695) (o := .cells #[.int .i64 a0_0, .int .i64 a0_1, .int .i64 a0_2, .int .i64 a0_3, .int .i64 a0_4, .string a0_5, .slice A0_6 l0_6.length c0_6] 64 (0, 0)) d23_6) : gb695 ≠ gb716)); have n8_ := ak ((by rw [hg]; exact Nat.ne_of_gt (blk_lt (g := gb695) (o := .cells #[.int .i64 a0_0, .int .i64 a0_1, .int .i64 a0_2, .int .i64 a0_3, .int .i64 a0_4, .string a0_5, .slice A0_6 l0_6.length c0_6] 64 (0, 0)) d23_6) : gb716 ≠ gb695)); clear HO705 HO715 BK695 HB; have HO705 := n0_; have HO715 := n1_; have BK695 := n2_; have HB := n3_; have BK716 := n4_; have GW716 := n5_; have GE716 := n6_; have NB695_716 := n7_; have NB716_695 := n8_; clear n0_ n1_ n2_ n3_ n4_ n5_ n6_ n7_ n8_ hb hbox hg; have hnb25 := NB716_695.out; have hnc25 := NB695_716.out; have hcz26_0 : w24.cell? ⟨gb716, 0, none⟩ = some (.int .i64 0) := (blk_cell BK716.out 0).trans rfl; have hcz26_1 : w24.cell? ⟨gb716, 1, none⟩ = some (.int .i64 0) := (blk_cell BK716.out 1).trans rfl; have hcz26_2 : w24.cell? ⟨gb716, 2, none⟩ = some (.int .i64 0) := (blk_cell BK716.out 2).trans rfl; have hcz26_3 : w24.cell? ⟨gb716, 3, none⟩ = some (.int .i64 0) := (blk_cell BK716.out 3).trans rfl; have hcz26_4 : w24.cell? ⟨gb716, 4, none⟩ = some (.int .i64 0) := (blk_cell BK716.out 4).trans rfl; have hcz26_5 : w24.cell? ⟨gb716, 5, none⟩ = some (.string (⟨#[]⟩ : ByteArray)) := (blk_cell BK716.out 5).trans rfl; have hcz26_6 : w24.cell? ⟨gb716, 6, none⟩ = some (.slice none 0 0) := (blk_cell BK716.out 6).trans rfl; have hfz26_0 := blk_frozen BK716.out 0; have hfz26_1 := blk_frozen BK716.out 1; have hfz26_2 := blk_frozen BK716.out 2; have hfz26_3 := blk_frozen BK716.out 3; have hfz26_4 := blk_frozen BK716.out 4; have hfz26_5 := blk_frozen BK716.out 5; have hfz26_6 := blk_frozen BK716.out 6; obtain ⟨Ao27, co27, eo27⟩ := Kd.R_slice HO715.out; subst eo27) | ((with_reducible refine gate_callee (f := 41) rfl ?_); refine goesL_ (some 18) rfl rfl Tryd.func41 (by kernel_rfl) rfl #[.agg #[.int .i64 t707, .int .i64 t708, .int .i64 t709, .int .i64 t710, .int .i64 t711, .string t712, .slice Ao27 t713.length co27]] rfl d23_4 ?_; (with_reducible refine (impl_OpFault.calls k t707 t708 t709 t710 t711 t712 _ _ t713 t717 _ ?side1 ?side2 A10.out).mono ?_); (case side1 => refine (Kd.R_reads' (e := 132) (base := w.heap.size) (ok := fun k_ => (True ∧ some k_ ≠ (.slice Ao20 t703.length co20 : Value).ownBlock)) (n := t713.length) (c := co27) ?_).2.2; exact (by (with_reducible repeat (first | apply Kd.R_alloc | apply Kd.R_drewN | apply Kd.R_drew)); exact (Kd.R_mono (Kd.R_far (p := ⟨gb716, 6, none⟩) (Kd.R_far (p := ⟨gb716, 5, none⟩) (Kd.R_far (p := ⟨gb716, 4, none⟩) (Kd.R_far (p := ⟨gb716, 3, none⟩) (Kd.R_far (p := ⟨gb716, 2, none⟩) (Kd.R_far (p := ⟨gb716, 1, none⟩) (Kd.R_far (p := ⟨gb716, 0, none⟩) (Kd.R_types HO715.out BK716.out (by decide)) (fun _ hk => hk.2) (.int .i64 t707)) (fun _ hk => hk.2) (.int .i64 t708)) (fun _ hk => hk.2) (.int .i64 t709)) (fun _ hk => hk.2) (.int .i64 t710)) (fun _ hk => hk.2) (.int .i64 t711)) (fun _ hk => hk.2) (.string t712)) (fun _ hk => hk.2) (.slice Ao27 t713.length co27)) (fun _ h_ => h_.1)))); (case side2 => exact (Kd.R_reads' HO715.out).2.1); rintro e w28 ⟨rfl, hb⟩; refine ⟨_, rfl, ?_⟩; have n0_ := ak (Kd.R_below (by (with_reducible repeat (first | apply Kd.R_alloc | apply Kd.R_drewN | apply Kd.R_drew)); exact (Kd.R_mono (Kd.R_far (p := ⟨gb716, 6, none⟩) (Kd.R_far (p := ⟨gb716, 5, none⟩) (Kd.R_far (p := ⟨gb716, 4, none⟩) (Kd.R_far (p := ⟨gb716, 3, none⟩) (Kd.R_far (p := ⟨gb716, 2, none⟩) (Kd.R_far (p := ⟨gb716, 1, none⟩) (Kd.R_far (p := ⟨gb716, 0, none⟩) (Kd.R_types HO705.out BK716.out (by decide)) (fun _ hk => hk.2) (.int .i64 t707)) (fun _ hk => hk.2) (.int .i64 t708)) (fun _ hk => hk.2) (.int .i64 t709)) (fun _ hk => hk.2) (.int .i64 t710)) (fun _ hk => hk.2) (.int .i64 t711)) (fun _ hk => hk.2) (.string t712)) (fun _ hk => hk.2) (.slice Ao27 t713.length co27)) (fun _ h_ => h_.1))) hb); have n1_ := ak (Kd.R_below (by (with_reducible repeat (first | apply Kd.R_alloc | apply Kd.R_drewN | apply Kd.R_drew)); exact (Kd.R_mono (Kd.R_far (p := ⟨gb716, 6, none⟩) (Kd.R_far (p := ⟨gb716, 5, none⟩) (Kd.R_far (p := ⟨gb716, 4, none⟩) (Kd.R_far (p := ⟨gb716, 3, none⟩) (Kd.R_far (p := ⟨gb716, 2, none⟩) (Kd.R_far (p := ⟨gb716, 1, none⟩) (Kd.R_far (p := ⟨gb716, 0, none⟩) (Kd.R_types HO715.out BK716.out (by decide)) (fun _ hk => hk.2) (.int .i64 t707)) (fun _ hk => hk.2) (.int .i64 t708)) (fun _ hk => hk.2) (.int .i64 t709)) (fun _ hk => hk.2) (.int .i64 t710)) (fun _ hk => hk.2) (.int .i64 t711)) (fun _ hk => hk.2) (.string t712)) (fun _ hk => hk.2) (.slice Ao27 t713.length co27)) (fun _ h_ => h_.1))) hb); have n2_ := ak (blk_below (g := gb695) (o := .cells #[.int .i64 a0_0, .int .i64 a0_1, .int .i64 a0_2, .int .i64 a0_3, .int .i64 a0_4, .string a0_5, .slice A0_6 l0_6.length c0_6] 64 (0, 0)) d23_7 hb); have n3_ := ak (blk_below (g := gb716) (o := .cells #[.int .i64 t707, .int .i64 t708, .int .i64 t709, .int .i64 t710, .int .i64 t711, .string t712, .slice Ao27 t713.length co27] 69 (0, 0)) (by (with_reducible repeat (first | refine blk_drewN ?_ _ | refine blk_drew ?_ | refine blk_alloc ?_ _)); refine blk_put (cs := #[.int .i64 t707, .int .i64 t708, .int .i64 t709, .int .i64 t710, .int .i64 t711, .string t712, .slice none 0 0]) ?_ 6 _ rfl; (with_reducible repeat (first | refine blk_drewN ?_ _ | refine blk_drew ?_ | refine blk_alloc ?_ _)); refine blk_put (cs := #[.int .i64 t707, .int .i64 t708, .int .i64 t709, .int .i64 t710, .int .i64 t711, .string (⟨#[]⟩ : ByteArray), .slice none 0 0]) ?_ 5 _ rfl; (with_reducible repeat (first | refine blk_drewN ?_ _ | refine blk_drew ?_ | refine blk_alloc ?_ _)); refine blk_put (cs := #[.int .i64 t707, .int .i64 t708, .int .i64 t709, .int .i64 t710, .int .i64 0, .string (⟨#[]⟩ : ByteArray), .slice none 0 0]) ?_ 4 _ rfl; (with_reducible repeat (first | refine blk_drewN ?_ _ | refine blk_drew ?_ | refine blk_alloc ?_ _)); refine blk_put (cs := #[.int .i64 t707, .int .i64 t708, .int .i64 t709, .int .i64 0, .int .i64 0, .string (⟨#[]⟩ : ByteArray), .slice none 0 0]) ?_ 3 _ rfl; (with_reducible repeat (first | refine blk_drewN ?_ _ | refine blk_drew ?_ | refine blk_alloc ?_ _)); refine blk_put (cs := #[.int .i64 t707, .int .i64 t708, .int .i64 0, .int .i64 0, .int .i64 0, .string (⟨#[]⟩ : ByteArray), .slice none 0 0]) ?_ 2 _ rfl; (with_reducible repeat (first | refine blk_drewN ?_ _ | refine blk_drew ?_ | refine blk_alloc ?_ _)); refine blk_put (cs := #[.int .i64 t707, .int .i64 0, .int .i64 0, .int .i64 0, .int .i64 0, .string (⟨#[]⟩ : ByteArray), .slice none 0 0]) ?_ 1 _ rfl; (with_reducible repeat (first | refine blk_drewN ?_ _ | refine blk_drew ?_ | refine blk_alloc ?_ _)); refine blk_put (cs := #[.int .i64 0, .int .i64 0, .int .i64 0, .int .i64 0, .int .i64 0, .string (⟨#[]⟩ : ByteArray), .slice none 0 0]) ?_ 0 _ rfl; (with_reducible repeat (first | refine blk_drewN ?_ _ | refine blk_drew ?_ | refine blk_alloc ?_ _)); exact BK716.out) hb); have n4_ := ak (below_step d23_9 hb); clear HO705 HO715 BK695 BK716 HB; have HO705 := n0_; have HO715 := n1_; have BK695 := n2_; have BK716 := n3_; have HB := n4_; clear n0_ n1_ n2_ n3_ n4_; (try clear hb); (try clear hk)))
     have n0_ := ak (Kd.R_drew HO705.out)
     have n1_ := ak (Kd.R_drew HO715.out)
     have n2_ := ak (blk_drew BK695.out)
     have n3_ := ak (blk_drew BK716.out)
     have n4_ := ak (below_drew1 HB.out)
     clear HO705
     clear HO715
     clear BK695
     clear BK716
     clear HB
     have HO705 := n0_
     have HO715 := n1_
     have BK695 := n2_
     have BK716 := n3_
     have HB := n4_
     clear n0_ n1_ n2_ n3_ n4_
     refine start_ (n := 5) (S := fun w' => w'.cell? ⟨gb716, 0, none⟩ = some (.int .i64 t707) ∧ w'.cell? ⟨gb716, 1, none⟩ = some (.int .i64 t708) ∧ w'.cell? ⟨gb716, 2, none⟩ = some (.int .i64 t709) ∧ w'.cell? ⟨gb716, 3, none⟩ = some (.int .i64 t710) ∧ w'.cell? ⟨gb716, 4, none⟩ = some (.int .i64 t711) ∧ w'.cell? ⟨gb716, 5, none⟩ = some (.string t712) ∧ w'.cell? ⟨gb716, 6, none⟩ = some (.slice Ao27 t713.length co27) ∧ w'.cell? ⟨gb695, 0, none⟩ = some (.int .i64 a0_0) ∧ w'.cell? ⟨gb695, 1, none⟩ = some (.int .i64 a0_1) ∧ w'.cell? ⟨gb695, 2, none⟩ = some (.int .i64 a0_2) ∧ w'.cell? ⟨gb695, 3, none⟩ = some (.int .i64 a0_3) ∧ w'.cell? ⟨gb695, 4, none⟩ = some (.int .i64 a0_4) ∧ w'.cell? ⟨gb695, 5, none⟩ = some (.string a0_5) ∧ w'.cell? ⟨gb695, 6, none⟩ = some (.slice A0_6 l0_6.length c0_6)) (ds := []) #[false, false, false, false, false] (by kernel_rfl) rfl rfl ⟨(blk_cell BK716.out 0).trans rfl, (blk_cell BK716.out 1).trans rfl, (blk_cell BK716.out 2).trans rfl, (blk_cell BK716.out 3).trans rfl, (blk_cell BK716.out 4).trans rfl, (blk_cell BK716.out 5).trans rfl, (blk_cell BK716.out 6).trans rfl, (blk_cell BK695.out 0).trans rfl, (blk_cell BK695.out 1).trans rfl, (blk_cell BK695.out 2).trans rfl, (blk_cell BK695.out 3).trans rfl, (blk_cell BK695.out 4).trans rfl, (blk_cell BK695.out 5).trans rfl, (blk_cell BK695.out 6).trans rfl⟩ (fun hHeld => ?_)
     generalize w28.drew = w29 at HO705 HO715 BK695 BK716 HB hHeld ⊢
     refine take_ (i := 0) (N := some 22) (v := ?_) (a' := ?_) #[true, false, false, false, false] rfl rfl (by kernel_rfl) (fun _ _ _ h => h) (Or.inl ⟨by rfl, ?_⟩) hHeld ?_ ?_
     rotate_left
     · rintro w' ⟨s0, s1, s2, s3, s4, s5, s6, s7, s8, s9, s10, s11, s12, s13⟩
       go_simp
       with_reducible rfl
     rotate_left
     · simp only [Act.put, List.setIfInBounds_toArray, List.set_cons_zero, List.set_cons_succ, i64_w, i32_w]
       rfl
     refine take_ (i := 1) (N := some 23) (v := ?_) (a' := ?_) #[true, true, false, false, false] rfl rfl (by kernel_rfl) (fun _ _ _ h => h) (Or.inl ⟨by rfl, ?_⟩) hHeld ?_ ?_
     rotate_left
     · rintro w' ⟨s0, s1, s2, s3, s4, s5, s6, s7, s8, s9, s10, s11, s12, s13⟩
       go_simp
       with_reducible rfl
     rotate_left
     · simp only [Act.put, List.setIfInBounds_toArray, List.set_cons_zero, List.set_cons_succ, i64_w, i32_w]
       rfl
     refine one_ (i := 2) (N := some 24) #[true, true, true, false, false] rfl rfl (by kernel_rfl) (by decide) (fun K hK => ?_)
     refine goes_ Tryd.func40 (by kernel_rfl) rfl #[.agg #[.int .i64 a0_0, .int .i64 a0_1, .int .i64 a0_2, .int .i64 a0_3, .int .i64 a0_4, .string a0_5, .slice A0_6 l0_6.length c0_6]] (by rfl) rfl rfl d23_4 ?_
     with_reducible refine (laws_toOp.calls k a0_0 a0_1 a0_2 a0_3 a0_4 a0_5 _ _ l0_6 t718 t719 t720 t721 t722 t723 t724 _ ?side1 ?side2 A12.out).mono ?_
     (case side1 => repeat (first | exact (Kd.C_below HR0_6.out HB.out) | (with_reducible refine Kd.C_alloc ?_ _) | (with_reducible refine Kd.C_drewN ?_ _) | (with_reducible refine Kd.C_drew ?_)))
     (case side2 => exact HC0_6.out)
     rintro e w30 ⟨v725, rfl, ho0, hb⟩
     refine ⟨_, rfl, ?_⟩
     have n0_ := ak (Kd.R_elder' d23_8 (Kd.R_base ho0) hb)
     have n1_ := ak (Kd.R_elder' d23_10 (Kd.R_base ho0) hb)
     have n2_ := ak (Kd.R_lower (Kd.R_new' (Kd.R_new' ho0 (Kd.R_lt d23_8)) (Kd.R_lt d23_10)) (below_size d23_9))
     have n3_ := ak (blk_below (g := gb695) (o := .cells #[.int .i64 a0_0, .int .i64 a0_1, .int .i64 a0_2, .int .i64 a0_3, .int .i64 a0_4, .string a0_5, .slice A0_6 l0_6.length c0_6] 64 (0, 0)) d23_6 hb)
     have n4_ := ak (blk_below (g := gb716) (o := .cells #[.int .i64 t707, .int .i64 t708, .int .i64 t709, .int .i64 t710, .int .i64 t711, .string t712, .slice Ao27 t713.length co27] 69 (0, 0)) d23_11 hb)
     have n5_ := ak (below_step d23_9 hb)
     clear HO705
     clear HO715
     clear BK695
     clear BK716
     clear HB
     have HO705 := n0_
     have HO715 := n1_
     have HO726 := n2_
     have BK695 := n3_
     have BK716 := n4_
     have HB := n5_
     clear n0_ n1_ n2_ n3_ n4_ n5_
     (try clear hb)
     (try clear hb2)
     (try clear hk)
     (try clear hi)
     (try clear ho0)
     obtain ⟨Ao31, co31, eo31⟩ := Kd.R_slice HO726.out
     (first | subst eo31 | (injection eo31 with f1_ f2_ f3_; have f4_ := f1_.symm; have f5_ := f3_.symm; clear f1_ f2_ f3_; subst f4_; subst f5_))
     refine hK.out _ _ ⟨(blk_cell BK716.out 0).trans rfl, (blk_cell BK716.out 1).trans rfl, (blk_cell BK716.out 2).trans rfl, (blk_cell BK716.out 3).trans rfl, (blk_cell BK716.out 4).trans rfl, (blk_cell BK716.out 5).trans rfl, (blk_cell BK716.out 6).trans rfl, (blk_cell BK695.out 0).trans rfl, (blk_cell BK695.out 1).trans rfl, (blk_cell BK695.out 2).trans rfl, (blk_cell BK695.out 3).trans rfl, (blk_cell BK695.out 4).trans rfl, (blk_cell BK695.out 5).trans rfl, (blk_cell BK695.out 6).trans rfl⟩ (fun hHeld => ?_)
     clear hK K
     refine norm_ (a' := ?_) ?_ ?_
     rotate_left
     · show Act.put _ (some 24) _ = _
       simp only [Act.put, List.setIfInBounds_toArray, List.set_cons_zero, List.set_cons_succ, i64_w, i32_w]
       rfl
     refine one_ (i := 3) (N := some 25) #[true, true, true, true, false] rfl rfl (by kernel_rfl) (by decide) (fun K hK => ?_)
     refine goes_ Tryd.func42 (by kernel_rfl) rfl #[.agg #[.int .i64 t707, .int .i64 t708, .int .i64 t709, .int .i64 t710, .int .i64 t711, .string t712, .slice Ao27 t713.length co27], .agg #[.int .i64 t718, .int .i64 t719, .int .i64 t720, .int .i64 t721, .int .i64 t722, .string t723, .slice Ao31 t724.length co31]] (by rfl) rfl rfl d23_4 ?_
     with_reducible refine (laws_eqOp.calls k t707 t708 t709 t710 t711 t712 _ _ t713 t718 t719 t720 t721 t722 t723 _ _ t724 true _ ?side1 ?side2 ?side3 ?side4 A13.out).mono ?_
     (case side1 => repeat (first | exact (Kd.R_reads' HO715.out).2.2 | (with_reducible refine Kd.C_alloc ?_ _) | (with_reducible refine Kd.C_drewN ?_ _) | (with_reducible refine Kd.C_drew ?_)))
     (case side2 => exact (Kd.R_reads' HO715.out).2.1)
     (case side3 => repeat (first | exact (Kd.R_reads' HO726.out).2.2 | (with_reducible refine Kd.C_alloc ?_ _) | (with_reducible refine Kd.C_drewN ?_ _) | (with_reducible refine Kd.C_drew ?_)))
     (case side4 => exact (Kd.R_reads' HO726.out).2.1)
     rintro e w32 ⟨rfl, hb⟩
     refine ⟨_, rfl, ?_⟩
     have n0_ := ak (Kd.R_below d23_8 hb)
     have n1_ := ak (Kd.R_below d23_10 hb)
     have n2_ := ak (Kd.R_below (by (with_reducible repeat (first | apply Kd.R_alloc | apply Kd.R_drewN | apply Kd.R_drew)); exact HO726.out) hb)
     have n3_ := ak (blk_below (g := gb695) (o := .cells #[.int .i64 a0_0, .int .i64 a0_1, .int .i64 a0_2, .int .i64 a0_3, .int .i64 a0_4, .string a0_5, .slice A0_6 l0_6.length c0_6] 64 (0, 0)) d23_6 hb)
     have n4_ := ak (blk_below (g := gb716) (o := .cells #[.int .i64 t707, .int .i64 t708, .int .i64 t709, .int .i64 t710, .int .i64 t711, .string t712, .slice Ao27 t713.length co27] 69 (0, 0)) d23_11 hb)
     have n5_ := ak (below_step d23_9 hb)
     clear HO705
     clear HO715
     clear HO726
     clear BK695
     clear BK716
     clear HB
     have HO705 := n0_
     have HO715 := n1_
     have HO726 := n2_
     have BK695 := n3_
     have BK716 := n4_
     have HB := n5_
     clear n0_ n1_ n2_ n3_ n4_ n5_
     (try clear hb)
     (try clear hb2)
     (try clear hk)
     (try clear hi)
     refine hK.out _ _ ⟨(blk_cell BK716.out 0).trans rfl, (blk_cell BK716.out 1).trans rfl, (blk_cell BK716.out 2).trans rfl, (blk_cell BK716.out 3).trans rfl, (blk_cell BK716.out 4).trans rfl, (blk_cell BK716.out 5).trans rfl, (blk_cell BK716.out 6).trans rfl, (blk_cell BK695.out 0).trans rfl, (blk_cell BK695.out 1).trans rfl, (blk_cell BK695.out 2).trans rfl, (blk_cell BK695.out 3).trans rfl, (blk_cell BK695.out 4).trans rfl, (blk_cell BK695.out 5).trans rfl, (blk_cell BK695.out 6).trans rfl⟩ (fun hHeld => ?_)
     clear hK K
     refine norm_ (a' := ?_) ?_ ?_
     rotate_left
     · show Act.put _ (some 25) _ = _
       simp only [Act.put, List.setIfInBounds_toArray, List.set_cons_zero, List.set_cons_succ, i64_w, i32_w]
       rfl
     refine pure_ (i := 4) (N := some 26) (v := ?_) (a' := ?_) #[true, true, true, true, true] rfl rfl (by kernel_rfl) (fun _ _ _ h => h) (Or.inl ⟨by rfl, ?_⟩) ?_ ?_
     rotate_left
     · intro w'
       go_simp
       with_reducible rfl
     rotate_left
     · simp only [Act.put, List.setIfInBounds_toArray, List.set_cons_zero, List.set_cons_succ, i64_w, i32_w]
       rfl
     refine done_ (by kernel_rfl) ?_
     try go_wp2
     go_ret
     exact ⟨by first | rfl | (simp [errW_none, errW_some] <;> rfl) | (simp [*, errW_none, errW_some] <;> rfl), by repeat (first | (with_reducible first | exact HB.out | apply below_alloc | apply pw_below_drewN | apply below_drew1 | refine below_set ?_ GE695.out | refine below_set ?_ GE716.out) | exact HB.out)⟩
    ·replace c14 := Bool.eq_false_iff.mpr c14
     subst c14
     have H1 : (some false) = some r := by rw [if_neg (show ¬ (false = true) by decide)] at H; exact H
     clear H
     have H := H1
     clear H1
     obtain rfl := Option.some.inj H
     go_enter Tryd.func9, Tryd.ntmps9
     try go_wp2_with (first | ((with_reducible refine gate_dst (N := 1) rfl ?_); refine box_event ?hg (N := 1) ?hd (cs := #[.int .i64 a0_0, .int .i64 a0_1, .int .i64 a0_2, .int .i64 a0_3, .int .i64 a0_4, .string a0_5, .slice A0_6 l0_6.length c0_6]) (t := 64) ?hr ?_; (case hd => rfl); (case hg => rfl); (case hr => first | (go_simp; done) | (go_simp; rfl)); intro gb695 hg w33 hbox hb; have n0_ := ak (below_step d23_1 hb); have n1_ := ak (hbox); have n2_ := ak ((d23_13 : w.heap.size ≤ gb695)); have n3_ := ak ((d23_13 : w.heap.size ≤ gb695)); clear HB; have HB := n0_; have BK695 := n1_; have GW695 := n2_; have GE695 := n3_; clear n0_ n1_ n2_ n3_ hb hbox hg; have hcz34_0 : w33.cell? ⟨gb695, 0, none⟩ = some (.int .i64 a0_0) := (blk_cell BK695.out 0).trans rfl; have hcz34_1 : w33.cell? ⟨gb695, 1, none⟩ = some (.int .i64 a0_1) := (blk_cell BK695.out 1).trans rfl; have hcz34_2 : w33.cell? ⟨gb695, 2, none⟩ = some (.int .i64 a0_2) := (blk_cell BK695.out 2).trans rfl; have hcz34_3 : w33.cell? ⟨gb695, 3, none⟩ = some (.int .i64 a0_3) := (blk_cell BK695.out 3).trans rfl; have hcz34_4 : w33.cell? ⟨gb695, 4, none⟩ = some (.int .i64 a0_4) := (blk_cell BK695.out 4).trans rfl; have hcz34_5 : w33.cell? ⟨gb695, 5, none⟩ = some (.string a0_5) := (blk_cell BK695.out 5).trans rfl; have hcz34_6 : w33.cell? ⟨gb695, 6, none⟩ = some (.slice A0_6 l0_6.length c0_6) := (blk_cell BK695.out 6).trans rfl; have hfz34_0 := blk_frozen BK695.out 0; have hfz34_1 := blk_frozen BK695.out 1; have hfz34_2 := blk_frozen BK695.out 2; have hfz34_3 := blk_frozen BK695.out 3; have hfz34_4 := blk_frozen BK695.out 4; have hfz34_5 := blk_frozen BK695.out 5; have hfz34_6 := blk_frozen BK695.out 6) | ((with_reducible refine gate_callee (f := 38) rfl ?_); refine goesL_ (some 9) rfl rfl Tryd.func38 (by kernel_rfl) rfl #[.agg #[.int .i64 a0_0, .int .i64 a0_1, .int .i64 a0_2, .int .i64 a0_3, .int .i64 a0_4, .string a0_5, .slice A0_6 l0_6.length c0_6], .int .i64 1048576] rfl d23_4 ?_; (with_reducible refine (laws_szOp.calls k a0_0 a0_1 a0_2 a0_3 a0_4 a0_5 _ _ l0_6 1048576 t696 _ ?side1 ?side2 A2.out).mono ?_); (case side1 => repeat (first | exact (Kd.C_below HR0_6.out HB.out) | (with_reducible refine Kd.C_alloc ?_ _) | (with_reducible refine Kd.C_drewN ?_ _) | (with_reducible refine Kd.C_drew ?_))); (case side2 => exact HC0_6.out); rintro e w35 ⟨rfl, hb⟩; refine ⟨_, rfl, ?_⟩; have n0_ := ak (blk_below (g := gb695) (o := .cells #[.int .i64 a0_0, .int .i64 a0_1, .int .i64 a0_2, .int .i64 a0_3, .int .i64 a0_4, .string a0_5, .slice A0_6 l0_6.length c0_6] 64 (0, 0)) d23_6 hb); have n1_ := ak (below_step d23_2 hb); clear BK695 HB; have BK695 := n0_; have HB := n1_; clear n0_ n1_; (try clear hb); (try clear hk); have hcz36_0 : w35.cell? ⟨gb695, 0, none⟩ = some (.int .i64 a0_0) := (blk_cell BK695.out 0).trans rfl; have hcz36_1 : w35.cell? ⟨gb695, 1, none⟩ = some (.int .i64 a0_1) := (blk_cell BK695.out 1).trans rfl; have hcz36_2 : w35.cell? ⟨gb695, 2, none⟩ = some (.int .i64 a0_2) := (blk_cell BK695.out 2).trans rfl; have hcz36_3 : w35.cell? ⟨gb695, 3, none⟩ = some (.int .i64 a0_3) := (blk_cell BK695.out 3).trans rfl; have hcz36_4 : w35.cell? ⟨gb695, 4, none⟩ = some (.int .i64 a0_4) := (blk_cell BK695.out 4).trans rfl; have hcz36_5 : w35.cell? ⟨gb695, 5, none⟩ = some (.string a0_5) := (blk_cell BK695.out 5).trans rfl; have hcz36_6 : w35.cell? ⟨gb695, 6, none⟩ = some (.slice A0_6 l0_6.length c0_6) := (blk_cell BK695.out 6).trans rfl; have hfz36_0 := blk_frozen BK695.out 0; have hfz36_1 := blk_frozen BK695.out 1; have hfz36_2 := blk_frozen BK695.out 2; have hfz36_3 := blk_frozen BK695.out 3; have hfz36_4 := blk_frozen BK695.out 4; have hfz36_5 := blk_frozen BK695.out 5; have hfz36_6 := blk_frozen BK695.out 6) | ((with_reducible refine gate_callee (f := 40) rfl ?_); refine goesL_ (some 13) rfl rfl Tryd.func40 (by kernel_rfl) rfl #[.agg #[.int .i64 a0_0, .int .i64 a0_1, .int .i64 a0_2, .int .i64 a0_3, .int .i64 a0_4, .string a0_5, .slice A0_6 l0_6.length c0_6]] rfl d23_4 ?_; (with_reducible refine (laws_toOp.calls k a0_0 a0_1 a0_2 a0_3 a0_4 a0_5 _ _ l0_6 t697 t698 t699 t700 t701 t702 t703 _ ?side1 ?side2 A7.out).mono ?_); (case side1 => repeat (first | exact (Kd.C_below HR0_6.out HB.out) | (with_reducible refine Kd.C_alloc ?_ _) | (with_reducible refine Kd.C_drewN ?_ _) | (with_reducible refine Kd.C_drew ?_))); (case side2 => exact HC0_6.out); rintro e w37 ⟨v704, rfl, ho0, hb⟩; refine ⟨_, rfl, ?_⟩; have n0_ := ak (Kd.R_lower ho0 (below_size d23_2)); have n1_ := ak (blk_below (g := gb695) (o := .cells #[.int .i64 a0_0, .int .i64 a0_1, .int .i64 a0_2, .int .i64 a0_3, .int .i64 a0_4, .string a0_5, .slice A0_6 l0_6.length c0_6] 64 (0, 0)) d23_6 hb); have n2_ := ak (below_step d23_2 hb); clear BK695 HB; have HO705 := n0_; have BK695 := n1_; have HB := n2_; clear n0_ n1_ n2_; (try clear hb); (try clear hk); (try clear ho0); obtain ⟨Ao38, co38, eo38⟩ := Kd.R_slice HO705.out; subst eo38) | ((with_reducible refine gate_callee (f := 39) rfl ?_); refine goesL_ (some 14) rfl rfl Tryd.func39 (by kernel_rfl) rfl #[.agg #[.int .i64 t697, .int .i64 t698, .int .i64 t699, .int .i64 t700, .int .i64 t701, .string t702, .slice Ao38 t703.length co38]] rfl d23_4 ?_; (with_reducible refine (spec_OpFault.calls k t697 t698 t699 t700 t701 t702 _ _ t703 t706 _ ?side1 ?side2 A8.out).mono ?_); (case side1 => repeat (first | exact (Kd.R_reads' HO705.out).2.2 | (with_reducible refine Kd.C_alloc ?_ _) | (with_reducible refine Kd.C_drewN ?_ _) | (with_reducible refine Kd.C_drew ?_))); (case side2 => exact (Kd.R_reads' HO705.out).2.1); rintro e w39 ⟨rfl, hb⟩; refine ⟨_, rfl, ?_⟩; have n0_ := ak (Kd.R_below d23_8 hb); have n1_ := ak (blk_below (g := gb695) (o := .cells #[.int .i64 a0_0, .int .i64 a0_1, .int .i64 a0_2, .int .i64 a0_3, .int .i64 a0_4, .string a0_5, .slice A0_6 l0_6.length c0_6] 64 (0, 0)) d23_6 hb); have n2_ := ak (below_step d23_2 hb); clear HO705 BK695 HB; have HO705 := n0_; have BK695 := n1_; have HB := n2_; clear n0_ n1_ n2_; (try clear hb); (try clear hk); have hcz40_0 : w39.cell? ⟨gb695, 0, none⟩ = some (.int .i64 a0_0) := (blk_cell BK695.out 0).trans rfl; have hcz40_1 : w39.cell? ⟨gb695, 1, none⟩ = some (.int .i64 a0_1) := (blk_cell BK695.out 1).trans rfl; have hcz40_2 : w39.cell? ⟨gb695, 2, none⟩ = some (.int .i64 a0_2) := (blk_cell BK695.out 2).trans rfl; have hcz40_3 : w39.cell? ⟨gb695, 3, none⟩ = some (.int .i64 a0_3) := (blk_cell BK695.out 3).trans rfl; have hcz40_4 : w39.cell? ⟨gb695, 4, none⟩ = some (.int .i64 a0_4) := (blk_cell BK695.out 4).trans rfl; have hcz40_5 : w39.cell? ⟨gb695, 5, none⟩ = some (.string a0_5) := (blk_cell BK695.out 5).trans rfl; have hcz40_6 : w39.cell? ⟨gb695, 6, none⟩ = some (.slice A0_6 l0_6.length c0_6) := (blk_cell BK695.out 6).trans rfl; have hfz40_0 := blk_frozen BK695.out 0; have hfz40_1 := blk_frozen BK695.out 1; have hfz40_2 := blk_frozen BK695.out 2; have hfz40_3 := blk_frozen BK695.out 3; have hfz40_4 := blk_frozen BK695.out 4; have hfz40_5 := blk_frozen BK695.out 5; have hfz40_6 := blk_frozen BK695.out 6) | ((with_reducible refine gate_callee (f := 40) rfl ?_); refine goesL_ (some 16) rfl rfl Tryd.func40 (by kernel_rfl) rfl #[.agg #[.int .i64 a0_0, .int .i64 a0_1, .int .i64 a0_2, .int .i64 a0_3, .int .i64 a0_4, .string a0_5, .slice A0_6 l0_6.length c0_6]] rfl d23_4 ?_; (with_reducible refine (laws_toOp.calls k a0_0 a0_1 a0_2 a0_3 a0_4 a0_5 _ _ l0_6 t707 t708 t709 t710 t711 t712 t713 _ ?side1 ?side2 A9.out).mono ?_); (case side1 => repeat (first | exact (Kd.C_below HR0_6.out HB.out) | (with_reducible refine Kd.C_alloc ?_ _) | (with_reducible refine Kd.C_drewN ?_ _) | (with_reducible refine Kd.C_drew ?_))); (case side2 => exact HC0_6.out); rintro e w41 ⟨v714, rfl, ho0, hb⟩; refine ⟨_, rfl, ?_⟩; have n0_ := ak (Kd.R_elder' d23_8 (Kd.R_base ho0) hb); have n1_ := ak (Kd.R_lower (Kd.R_new' ho0 (Kd.R_lt d23_8)) (below_size d23_2)); have n2_ := ak (blk_below (g := gb695) (o := .cells #[.int .i64 a0_0, .int .i64 a0_1, .int .i64 a0_2, .int .i64 a0_3, .int .i64 a0_4, .string a0_5, .slice A0_6 l0_6.length c0_6] 64 (0, 0)) d23_6 hb); have n3_ := ak (below_step d23_2 hb); clear HO705 BK695 HB; have HO705 := n0_; have HO715 := n1_; have BK695 := n2_; have HB := n3_; clear n0_ n1_ n2_ n3_; (try clear hb); (try clear hk); (try clear ho0)) | ((with_reducible refine gate_dst (N := 5) rfl ?_); refine box_event ?hg (N := 5) ?hd (cs := #[.int .i64 0, .int .i64 0, .int .i64 0, .int .i64 0, .int .i64 0, .string (⟨#[]⟩ : ByteArray), .slice none 0 0]) (t := 69) ?hr ?_; (case hd => rfl); (case hg => rfl); (case hr => first | (go_simp; done) | (go_simp; rfl)); intro gb716 hg w42 hbox hb; have n0_ := ak (Kd.R_below d23_8 hb); have n1_ := ak (Kd.R_below d23_10 hb); have n2_ := ak (blk_below (g := gb695) (o := .cells #[.int .i64 a0_0, .int .i64 a0_1, .int .i64 a0_2, .int .i64 a0_3, .int .i64 a0_4, .string a0_5, .slice A0_6 l0_6.length c0_6] 64 (0, 0)) d23_6 hb); have n3_ := ak (below_step d23_2 hb); have n4_ := ak (hbox); have n5_ := ak ((by rw [hg]; exact (below_size d23_2) : w.heap.size ≤ gb716)); have n6_ := ak ((by rw [hg]; exact (below_size d23_2) : w.heap.size ≤ gb716)); have n7_ := ak ((by rw [hg]; exact Nat.ne_of_lt (blk_lt (g := gb695) (o := .cells #[.int .i64 a0_0, .int .i64 a0_1, .int .i64 a0_2, .int .i64 a0_3, .int .i64 a0_4, .string a0_5, .slice A0_6 l0_6.length c0_6] 64 (0, 0)) d23_6) : gb695 ≠ gb716)); have n8_ := ak ((by rw [hg]; exact Nat.ne_of_gt (blk_lt (g := gb695) (o := .cells #[.int .i64 a0_0, .int .i64 a0_1, .int .i64 a0_2, .int .i64 a0_3, .int .i64 a0_4, .string a0_5, .slice A0_6 l0_6.length c0_6] 64 (0, 0)) d23_6) : gb716 ≠ gb695)); clear HO705 HO715 BK695 HB; have HO705 := n0_; have HO715 := n1_; have BK695 := n2_; have HB := n3_; have BK716 := n4_; have GW716 := n5_; have GE716 := n6_; have NB695_716 := n7_; have NB716_695 := n8_; clear n0_ n1_ n2_ n3_ n4_ n5_ n6_ n7_ n8_ hb hbox hg; have hnb43 := NB716_695.out; have hnc43 := NB695_716.out; have hcz44_0 : w42.cell? ⟨gb716, 0, none⟩ = some (.int .i64 0) := (blk_cell BK716.out 0).trans rfl; have hcz44_1 : w42.cell? ⟨gb716, 1, none⟩ = some (.int .i64 0) := (blk_cell BK716.out 1).trans rfl; have hcz44_2 : w42.cell? ⟨gb716, 2, none⟩ = some (.int .i64 0) := (blk_cell BK716.out 2).trans rfl; have hcz44_3 : w42.cell? ⟨gb716, 3, none⟩ = some (.int .i64 0) := (blk_cell BK716.out 3).trans rfl; have hcz44_4 : w42.cell? ⟨gb716, 4, none⟩ = some (.int .i64 0) := (blk_cell BK716.out 4).trans rfl; have hcz44_5 : w42.cell? ⟨gb716, 5, none⟩ = some (.string (⟨#[]⟩ : ByteArray)) := (blk_cell BK716.out 5).trans rfl; have hcz44_6 : w42.cell? ⟨gb716, 6, none⟩ = some (.slice none 0 0) := (blk_cell BK716.out 6).trans rfl; have hfz44_0 := blk_frozen BK716.out 0; have hfz44_1 := blk_frozen BK716.out 1; have hfz44_2 := blk_frozen BK716.out 2; have hfz44_3 := blk_frozen BK716.out 3; have hfz44_4 := blk_frozen BK716.out 4; have hfz44_5 := blk_frozen BK716.out 5; have hfz44_6 := blk_frozen BK716.out 6; obtain ⟨Ao45, co45, eo45⟩ := Kd.R_slice HO715.out; subst eo45) | ((with_reducible refine gate_callee (f := 41) rfl ?_); refine goesL_ (some 18) rfl rfl Tryd.func41 (by kernel_rfl) rfl #[.agg #[.int .i64 t707, .int .i64 t708, .int .i64 t709, .int .i64 t710, .int .i64 t711, .string t712, .slice Ao45 t713.length co45]] rfl d23_4 ?_; (with_reducible refine (impl_OpFault.calls k t707 t708 t709 t710 t711 t712 _ _ t713 t717 _ ?side1 ?side2 A10.out).mono ?_); (case side1 => refine (Kd.R_reads' (e := 132) (base := w.heap.size) (ok := fun k_ => (True ∧ some k_ ≠ (.slice Ao38 t703.length co38 : Value).ownBlock)) (n := t713.length) (c := co45) ?_).2.2; exact (by (with_reducible repeat (first | apply Kd.R_alloc | apply Kd.R_drewN | apply Kd.R_drew)); exact (Kd.R_mono (Kd.R_far (p := ⟨gb716, 6, none⟩) (Kd.R_far (p := ⟨gb716, 5, none⟩) (Kd.R_far (p := ⟨gb716, 4, none⟩) (Kd.R_far (p := ⟨gb716, 3, none⟩) (Kd.R_far (p := ⟨gb716, 2, none⟩) (Kd.R_far (p := ⟨gb716, 1, none⟩) (Kd.R_far (p := ⟨gb716, 0, none⟩) (Kd.R_types HO715.out BK716.out (by decide)) (fun _ hk => hk.2) (.int .i64 t707)) (fun _ hk => hk.2) (.int .i64 t708)) (fun _ hk => hk.2) (.int .i64 t709)) (fun _ hk => hk.2) (.int .i64 t710)) (fun _ hk => hk.2) (.int .i64 t711)) (fun _ hk => hk.2) (.string t712)) (fun _ hk => hk.2) (.slice Ao45 t713.length co45)) (fun _ h_ => h_.1)))); (case side2 => exact (Kd.R_reads' HO715.out).2.1); rintro e w46 ⟨rfl, hb⟩; refine ⟨_, rfl, ?_⟩; have n0_ := ak (Kd.R_below (by (with_reducible repeat (first | apply Kd.R_alloc | apply Kd.R_drewN | apply Kd.R_drew)); exact (Kd.R_mono (Kd.R_far (p := ⟨gb716, 6, none⟩) (Kd.R_far (p := ⟨gb716, 5, none⟩) (Kd.R_far (p := ⟨gb716, 4, none⟩) (Kd.R_far (p := ⟨gb716, 3, none⟩) (Kd.R_far (p := ⟨gb716, 2, none⟩) (Kd.R_far (p := ⟨gb716, 1, none⟩) (Kd.R_far (p := ⟨gb716, 0, none⟩) (Kd.R_types HO705.out BK716.out (by decide)) (fun _ hk => hk.2) (.int .i64 t707)) (fun _ hk => hk.2) (.int .i64 t708)) (fun _ hk => hk.2) (.int .i64 t709)) (fun _ hk => hk.2) (.int .i64 t710)) (fun _ hk => hk.2) (.int .i64 t711)) (fun _ hk => hk.2) (.string t712)) (fun _ hk => hk.2) (.slice Ao45 t713.length co45)) (fun _ h_ => h_.1))) hb); have n1_ := ak (Kd.R_below (by (with_reducible repeat (first | apply Kd.R_alloc | apply Kd.R_drewN | apply Kd.R_drew)); exact (Kd.R_mono (Kd.R_far (p := ⟨gb716, 6, none⟩) (Kd.R_far (p := ⟨gb716, 5, none⟩) (Kd.R_far (p := ⟨gb716, 4, none⟩) (Kd.R_far (p := ⟨gb716, 3, none⟩) (Kd.R_far (p := ⟨gb716, 2, none⟩) (Kd.R_far (p := ⟨gb716, 1, none⟩) (Kd.R_far (p := ⟨gb716, 0, none⟩) (Kd.R_types HO715.out BK716.out (by decide)) (fun _ hk => hk.2) (.int .i64 t707)) (fun _ hk => hk.2) (.int .i64 t708)) (fun _ hk => hk.2) (.int .i64 t709)) (fun _ hk => hk.2) (.int .i64 t710)) (fun _ hk => hk.2) (.int .i64 t711)) (fun _ hk => hk.2) (.string t712)) (fun _ hk => hk.2) (.slice Ao45 t713.length co45)) (fun _ h_ => h_.1))) hb); have n2_ := ak (blk_below (g := gb695) (o := .cells #[.int .i64 a0_0, .int .i64 a0_1, .int .i64 a0_2, .int .i64 a0_3, .int .i64 a0_4, .string a0_5, .slice A0_6 l0_6.length c0_6] 64 (0, 0)) d23_7 hb); have n3_ := ak (blk_below (g := gb716) (o := .cells #[.int .i64 t707, .int .i64 t708, .int .i64 t709, .int .i64 t710, .int .i64 t711, .string t712, .slice Ao45 t713.length co45] 69 (0, 0)) (by (with_reducible repeat (first | refine blk_drewN ?_ _ | refine blk_drew ?_ | refine blk_alloc ?_ _)); refine blk_put (cs := #[.int .i64 t707, .int .i64 t708, .int .i64 t709, .int .i64 t710, .int .i64 t711, .string t712, .slice none 0 0]) ?_ 6 _ rfl; (with_reducible repeat (first | refine blk_drewN ?_ _ | refine blk_drew ?_ | refine blk_alloc ?_ _)); refine blk_put (cs := #[.int .i64 t707, .int .i64 t708, .int .i64 t709, .int .i64 t710, .int .i64 t711, .string (⟨#[]⟩ : ByteArray), .slice none 0 0]) ?_ 5 _ rfl; (with_reducible repeat (first | refine blk_drewN ?_ _ | refine blk_drew ?_ | refine blk_alloc ?_ _)); refine blk_put (cs := #[.int .i64 t707, .int .i64 t708, .int .i64 t709, .int .i64 t710, .int .i64 0, .string (⟨#[]⟩ : ByteArray), .slice none 0 0]) ?_ 4 _ rfl; (with_reducible repeat (first | refine blk_drewN ?_ _ | refine blk_drew ?_ | refine blk_alloc ?_ _)); refine blk_put (cs := #[.int .i64 t707, .int .i64 t708, .int .i64 t709, .int .i64 0, .int .i64 0, .string (⟨#[]⟩ : ByteArray), .slice none 0 0]) ?_ 3 _ rfl; (with_reducible repeat (first | refine blk_drewN ?_ _ | refine blk_drew ?_ | refine blk_alloc ?_ _)); refine blk_put (cs := #[.int .i64 t707, .int .i64 t708, .int .i64 0, .int .i64 0, .int .i64 0, .string (⟨#[]⟩ : ByteArray), .slice none 0 0]) ?_ 2 _ rfl; (with_reducible repeat (first | refine blk_drewN ?_ _ | refine blk_drew ?_ | refine blk_alloc ?_ _)); refine blk_put (cs := #[.int .i64 t707, .int .i64 0, .int .i64 0, .int .i64 0, .int .i64 0, .string (⟨#[]⟩ : ByteArray), .slice none 0 0]) ?_ 1 _ rfl; (with_reducible repeat (first | refine blk_drewN ?_ _ | refine blk_drew ?_ | refine blk_alloc ?_ _)); refine blk_put (cs := #[.int .i64 0, .int .i64 0, .int .i64 0, .int .i64 0, .int .i64 0, .string (⟨#[]⟩ : ByteArray), .slice none 0 0]) ?_ 0 _ rfl; (with_reducible repeat (first | refine blk_drewN ?_ _ | refine blk_drew ?_ | refine blk_alloc ?_ _)); exact BK716.out) hb); have n4_ := ak (below_step d23_9 hb); clear HO705 HO715 BK695 BK716 HB; have HO705 := n0_; have HO715 := n1_; have BK695 := n2_; have BK716 := n3_; have HB := n4_; clear n0_ n1_ n2_ n3_ n4_; (try clear hb); (try clear hk)))
     have n0_ := ak (Kd.R_drew HO705.out)
     have n1_ := ak (Kd.R_drew HO715.out)
     have n2_ := ak (blk_drew BK695.out)
     have n3_ := ak (blk_drew BK716.out)
     have n4_ := ak (below_drew1 HB.out)
     clear HO705
     clear HO715
     clear BK695
     clear BK716
     clear HB
     have HO705 := n0_
     have HO715 := n1_
     have BK695 := n2_
     have BK716 := n3_
     have HB := n4_
     clear n0_ n1_ n2_ n3_ n4_
     refine start_ (n := 5) (S := fun w' => w'.cell? ⟨gb716, 0, none⟩ = some (.int .i64 t707) ∧ w'.cell? ⟨gb716, 1, none⟩ = some (.int .i64 t708) ∧ w'.cell? ⟨gb716, 2, none⟩ = some (.int .i64 t709) ∧ w'.cell? ⟨gb716, 3, none⟩ = some (.int .i64 t710) ∧ w'.cell? ⟨gb716, 4, none⟩ = some (.int .i64 t711) ∧ w'.cell? ⟨gb716, 5, none⟩ = some (.string t712) ∧ w'.cell? ⟨gb716, 6, none⟩ = some (.slice Ao45 t713.length co45) ∧ w'.cell? ⟨gb695, 0, none⟩ = some (.int .i64 a0_0) ∧ w'.cell? ⟨gb695, 1, none⟩ = some (.int .i64 a0_1) ∧ w'.cell? ⟨gb695, 2, none⟩ = some (.int .i64 a0_2) ∧ w'.cell? ⟨gb695, 3, none⟩ = some (.int .i64 a0_3) ∧ w'.cell? ⟨gb695, 4, none⟩ = some (.int .i64 a0_4) ∧ w'.cell? ⟨gb695, 5, none⟩ = some (.string a0_5) ∧ w'.cell? ⟨gb695, 6, none⟩ = some (.slice A0_6 l0_6.length c0_6)) (ds := []) #[false, false, false, false, false] (by kernel_rfl) rfl rfl ⟨(blk_cell BK716.out 0).trans rfl, (blk_cell BK716.out 1).trans rfl, (blk_cell BK716.out 2).trans rfl, (blk_cell BK716.out 3).trans rfl, (blk_cell BK716.out 4).trans rfl, (blk_cell BK716.out 5).trans rfl, (blk_cell BK716.out 6).trans rfl, (blk_cell BK695.out 0).trans rfl, (blk_cell BK695.out 1).trans rfl, (blk_cell BK695.out 2).trans rfl, (blk_cell BK695.out 3).trans rfl, (blk_cell BK695.out 4).trans rfl, (blk_cell BK695.out 5).trans rfl, (blk_cell BK695.out 6).trans rfl⟩ (fun hHeld => ?_)
     generalize w46.drew = w47 at HO705 HO715 BK695 BK716 HB hHeld ⊢
     refine take_ (i := 0) (N := some 22) (v := ?_) (a' := ?_) #[true, false, false, false, false] rfl rfl (by kernel_rfl) (fun _ _ _ h => h) (Or.inl ⟨by rfl, ?_⟩) hHeld ?_ ?_
     rotate_left
     · rintro w' ⟨s0, s1, s2, s3, s4, s5, s6, s7, s8, s9, s10, s11, s12, s13⟩
       go_simp
       with_reducible rfl
     rotate_left
     · simp only [Act.put, List.setIfInBounds_toArray, List.set_cons_zero, List.set_cons_succ, i64_w, i32_w]
       rfl
     refine take_ (i := 1) (N := some 23) (v := ?_) (a' := ?_) #[true, true, false, false, false] rfl rfl (by kernel_rfl) (fun _ _ _ h => h) (Or.inl ⟨by rfl, ?_⟩) hHeld ?_ ?_
     rotate_left
     · rintro w' ⟨s0, s1, s2, s3, s4, s5, s6, s7, s8, s9, s10, s11, s12, s13⟩
       go_simp
       with_reducible rfl
     rotate_left
     · simp only [Act.put, List.setIfInBounds_toArray, List.set_cons_zero, List.set_cons_succ, i64_w, i32_w]
       rfl
     refine one_ (i := 2) (N := some 24) #[true, true, true, false, false] rfl rfl (by kernel_rfl) (by decide) (fun K hK => ?_)
     refine goes_ Tryd.func40 (by kernel_rfl) rfl #[.agg #[.int .i64 a0_0, .int .i64 a0_1, .int .i64 a0_2, .int .i64 a0_3, .int .i64 a0_4, .string a0_5, .slice A0_6 l0_6.length c0_6]] (by rfl) rfl rfl d23_4 ?_
     with_reducible refine (laws_toOp.calls k a0_0 a0_1 a0_2 a0_3 a0_4 a0_5 _ _ l0_6 t718 t719 t720 t721 t722 t723 t724 _ ?side1 ?side2 A12.out).mono ?_
     (case side1 => repeat (first | exact (Kd.C_below HR0_6.out HB.out) | (with_reducible refine Kd.C_alloc ?_ _) | (with_reducible refine Kd.C_drewN ?_ _) | (with_reducible refine Kd.C_drew ?_)))
     (case side2 => exact HC0_6.out)
     rintro e w48 ⟨v725, rfl, ho0, hb⟩
     refine ⟨_, rfl, ?_⟩
     have n0_ := ak (Kd.R_elder' d23_8 (Kd.R_base ho0) hb)
     have n1_ := ak (Kd.R_elder' d23_10 (Kd.R_base ho0) hb)
     have n2_ := ak (Kd.R_lower (Kd.R_new' (Kd.R_new' ho0 (Kd.R_lt d23_8)) (Kd.R_lt d23_10)) (below_size d23_9))
     have n3_ := ak (blk_below (g := gb695) (o := .cells #[.int .i64 a0_0, .int .i64 a0_1, .int .i64 a0_2, .int .i64 a0_3, .int .i64 a0_4, .string a0_5, .slice A0_6 l0_6.length c0_6] 64 (0, 0)) d23_6 hb)
     have n4_ := ak (blk_below (g := gb716) (o := .cells #[.int .i64 t707, .int .i64 t708, .int .i64 t709, .int .i64 t710, .int .i64 t711, .string t712, .slice Ao45 t713.length co45] 69 (0, 0)) d23_11 hb)
     have n5_ := ak (below_step d23_9 hb)
     clear HO705
     clear HO715
     clear BK695
     clear BK716
     clear HB
     have HO705 := n0_
     have HO715 := n1_
     have HO726 := n2_
     have BK695 := n3_
     have BK716 := n4_
     have HB := n5_
     clear n0_ n1_ n2_ n3_ n4_ n5_
     (try clear hb)
     (try clear hb2)
     (try clear hk)
     (try clear hi)
     (try clear ho0)
     obtain ⟨Ao49, co49, eo49⟩ := Kd.R_slice HO726.out
     (first | subst eo49 | (injection eo49 with f1_ f2_ f3_; have f4_ := f1_.symm; have f5_ := f3_.symm; clear f1_ f2_ f3_; subst f4_; subst f5_))
     refine hK.out _ _ ⟨(blk_cell BK716.out 0).trans rfl, (blk_cell BK716.out 1).trans rfl, (blk_cell BK716.out 2).trans rfl, (blk_cell BK716.out 3).trans rfl, (blk_cell BK716.out 4).trans rfl, (blk_cell BK716.out 5).trans rfl, (blk_cell BK716.out 6).trans rfl, (blk_cell BK695.out 0).trans rfl, (blk_cell BK695.out 1).trans rfl, (blk_cell BK695.out 2).trans rfl, (blk_cell BK695.out 3).trans rfl, (blk_cell BK695.out 4).trans rfl, (blk_cell BK695.out 5).trans rfl, (blk_cell BK695.out 6).trans rfl⟩ (fun hHeld => ?_)
     clear hK K
     refine norm_ (a' := ?_) ?_ ?_
     rotate_left
     · show Act.put _ (some 24) _ = _
       simp only [Act.put, List.setIfInBounds_toArray, List.set_cons_zero, List.set_cons_succ, i64_w, i32_w]
       rfl
     refine one_ (i := 3) (N := some 25) #[true, true, true, true, false] rfl rfl (by kernel_rfl) (by decide) (fun K hK => ?_)
     refine goes_ Tryd.func42 (by kernel_rfl) rfl #[.agg #[.int .i64 t707, .int .i64 t708, .int .i64 t709, .int .i64 t710, .int .i64 t711, .string t712, .slice Ao45 t713.length co45], .agg #[.int .i64 t718, .int .i64 t719, .int .i64 t720, .int .i64 t721, .int .i64 t722, .string t723, .slice Ao49 t724.length co49]] (by rfl) rfl rfl d23_4 ?_
     with_reducible refine (laws_eqOp.calls k t707 t708 t709 t710 t711 t712 _ _ t713 t718 t719 t720 t721 t722 t723 _ _ t724 false _ ?side1 ?side2 ?side3 ?side4 A13.out).mono ?_
     (case side1 => repeat (first | exact (Kd.R_reads' HO715.out).2.2 | (with_reducible refine Kd.C_alloc ?_ _) | (with_reducible refine Kd.C_drewN ?_ _) | (with_reducible refine Kd.C_drew ?_)))
     (case side2 => exact (Kd.R_reads' HO715.out).2.1)
     (case side3 => repeat (first | exact (Kd.R_reads' HO726.out).2.2 | (with_reducible refine Kd.C_alloc ?_ _) | (with_reducible refine Kd.C_drewN ?_ _) | (with_reducible refine Kd.C_drew ?_)))
     (case side4 => exact (Kd.R_reads' HO726.out).2.1)
     rintro e w50 ⟨rfl, hb⟩
     refine ⟨_, rfl, ?_⟩
     have n0_ := ak (Kd.R_below d23_8 hb)
     have n1_ := ak (Kd.R_below d23_10 hb)
     have n2_ := ak (Kd.R_below (by (with_reducible repeat (first | apply Kd.R_alloc | apply Kd.R_drewN | apply Kd.R_drew)); exact HO726.out) hb)
     have n3_ := ak (blk_below (g := gb695) (o := .cells #[.int .i64 a0_0, .int .i64 a0_1, .int .i64 a0_2, .int .i64 a0_3, .int .i64 a0_4, .string a0_5, .slice A0_6 l0_6.length c0_6] 64 (0, 0)) d23_6 hb)
     have n4_ := ak (blk_below (g := gb716) (o := .cells #[.int .i64 t707, .int .i64 t708, .int .i64 t709, .int .i64 t710, .int .i64 t711, .string t712, .slice Ao45 t713.length co45] 69 (0, 0)) d23_11 hb)
     have n5_ := ak (below_step d23_9 hb)
     clear HO705
     clear HO715
     clear HO726
     clear BK695
     clear BK716
     clear HB
     have HO705 := n0_
     have HO715 := n1_
     have HO726 := n2_
     have BK695 := n3_
     have BK716 := n4_
     have HB := n5_
     clear n0_ n1_ n2_ n3_ n4_ n5_
     (try clear hb)
     (try clear hb2)
     (try clear hk)
     (try clear hi)
     refine hK.out _ _ ⟨(blk_cell BK716.out 0).trans rfl, (blk_cell BK716.out 1).trans rfl, (blk_cell BK716.out 2).trans rfl, (blk_cell BK716.out 3).trans rfl, (blk_cell BK716.out 4).trans rfl, (blk_cell BK716.out 5).trans rfl, (blk_cell BK716.out 6).trans rfl, (blk_cell BK695.out 0).trans rfl, (blk_cell BK695.out 1).trans rfl, (blk_cell BK695.out 2).trans rfl, (blk_cell BK695.out 3).trans rfl, (blk_cell BK695.out 4).trans rfl, (blk_cell BK695.out 5).trans rfl, (blk_cell BK695.out 6).trans rfl⟩ (fun hHeld => ?_)
     clear hK K
     refine norm_ (a' := ?_) ?_ ?_
     rotate_left
     · show Act.put _ (some 25) _ = _
       simp only [Act.put, List.setIfInBounds_toArray, List.set_cons_zero, List.set_cons_succ, i64_w, i32_w]
       rfl
     refine pure_ (i := 4) (N := some 26) (v := ?_) (a' := ?_) #[true, true, true, true, true] rfl rfl (by kernel_rfl) (fun _ _ _ h => h) (Or.inl ⟨by rfl, ?_⟩) ?_ ?_
     rotate_left
     · intro w'
       go_simp
       with_reducible rfl
     rotate_left
     · simp only [Act.put, List.setIfInBounds_toArray, List.set_cons_zero, List.set_cons_succ, i64_w, i32_w]
       rfl
     refine done_ (by kernel_rfl) ?_
     try go_wp2
     go_ret
     exact ⟨by first | rfl | (simp [errW_none, errW_some] <;> rfl) | (simp [*, errW_none, errW_some] <;> rfl), by repeat (first | (with_reducible first | exact HB.out | apply below_alloc | apply pw_below_drewN | apply below_drew1 | refine below_set ?_ GE695.out | refine below_set ?_ GE716.out) | exact HB.out)⟩
   ·rw [if_neg c11] at H
    have c11b0 : (t717 == t706) = false := beq_eq_false_iff_ne.mpr c11
    have c11b1 : (t717 != t706) = true := bne_iff_ne.mpr c11
    obtain rfl := Option.some.inj H
    go_enter Tryd.func9, Tryd.ntmps9
    go_wp2_with (first | ((with_reducible refine gate_dst (N := 1) rfl ?_); refine box_event ?hg (N := 1) ?hd (cs := #[.int .i64 a0_0, .int .i64 a0_1, .int .i64 a0_2, .int .i64 a0_3, .int .i64 a0_4, .string a0_5, .slice A0_6 l0_6.length c0_6]) (t := 64) ?hr ?_; (case hd => rfl); (case hg => rfl); (case hr => first | (go_simp; done) | (go_simp; rfl)); intro gb695 hg w51 hbox hb; have n0_ := ak (below_step d23_1 hb); have n1_ := ak (hbox); have n2_ := ak ((d23_13 : w.heap.size ≤ gb695)); have n3_ := ak ((d23_13 : w.heap.size ≤ gb695)); clear HB; have HB := n0_; have BK695 := n1_; have GW695 := n2_; have GE695 := n3_; clear n0_ n1_ n2_ n3_ hb hbox hg; have hcz52_0 : w51.cell? ⟨gb695, 0, none⟩ = some (.int .i64 a0_0) := (blk_cell BK695.out 0).trans rfl; have hcz52_1 : w51.cell? ⟨gb695, 1, none⟩ = some (.int .i64 a0_1) := (blk_cell BK695.out 1).trans rfl; have hcz52_2 : w51.cell? ⟨gb695, 2, none⟩ = some (.int .i64 a0_2) := (blk_cell BK695.out 2).trans rfl; have hcz52_3 : w51.cell? ⟨gb695, 3, none⟩ = some (.int .i64 a0_3) := (blk_cell BK695.out 3).trans rfl; have hcz52_4 : w51.cell? ⟨gb695, 4, none⟩ = some (.int .i64 a0_4) := (blk_cell BK695.out 4).trans rfl; have hcz52_5 : w51.cell? ⟨gb695, 5, none⟩ = some (.string a0_5) := (blk_cell BK695.out 5).trans rfl; have hcz52_6 : w51.cell? ⟨gb695, 6, none⟩ = some (.slice A0_6 l0_6.length c0_6) := (blk_cell BK695.out 6).trans rfl; have hfz52_0 := blk_frozen BK695.out 0; have hfz52_1 := blk_frozen BK695.out 1; have hfz52_2 := blk_frozen BK695.out 2; have hfz52_3 := blk_frozen BK695.out 3; have hfz52_4 := blk_frozen BK695.out 4; have hfz52_5 := blk_frozen BK695.out 5; have hfz52_6 := blk_frozen BK695.out 6) | ((with_reducible refine gate_callee (f := 38) rfl ?_); refine goesL_ (some 9) rfl rfl Tryd.func38 (by kernel_rfl) rfl #[.agg #[.int .i64 a0_0, .int .i64 a0_1, .int .i64 a0_2, .int .i64 a0_3, .int .i64 a0_4, .string a0_5, .slice A0_6 l0_6.length c0_6], .int .i64 1048576] rfl d23_4 ?_; (with_reducible refine (laws_szOp.calls k a0_0 a0_1 a0_2 a0_3 a0_4 a0_5 _ _ l0_6 1048576 t696 _ ?side1 ?side2 A2.out).mono ?_); (case side1 => repeat (first | exact (Kd.C_below HR0_6.out HB.out) | (with_reducible refine Kd.C_alloc ?_ _) | (with_reducible refine Kd.C_drewN ?_ _) | (with_reducible refine Kd.C_drew ?_))); (case side2 => exact HC0_6.out); rintro e w53 ⟨rfl, hb⟩; refine ⟨_, rfl, ?_⟩; have n0_ := ak (blk_below (g := gb695) (o := .cells #[.int .i64 a0_0, .int .i64 a0_1, .int .i64 a0_2, .int .i64 a0_3, .int .i64 a0_4, .string a0_5, .slice A0_6 l0_6.length c0_6] 64 (0, 0)) d23_6 hb); have n1_ := ak (below_step d23_2 hb); clear BK695 HB; have BK695 := n0_; have HB := n1_; clear n0_ n1_; (try clear hb); (try clear hk); have hcz54_0 : w53.cell? ⟨gb695, 0, none⟩ = some (.int .i64 a0_0) := (blk_cell BK695.out 0).trans rfl; have hcz54_1 : w53.cell? ⟨gb695, 1, none⟩ = some (.int .i64 a0_1) := (blk_cell BK695.out 1).trans rfl; have hcz54_2 : w53.cell? ⟨gb695, 2, none⟩ = some (.int .i64 a0_2) := (blk_cell BK695.out 2).trans rfl; have hcz54_3 : w53.cell? ⟨gb695, 3, none⟩ = some (.int .i64 a0_3) := (blk_cell BK695.out 3).trans rfl; have hcz54_4 : w53.cell? ⟨gb695, 4, none⟩ = some (.int .i64 a0_4) := (blk_cell BK695.out 4).trans rfl; have hcz54_5 : w53.cell? ⟨gb695, 5, none⟩ = some (.string a0_5) := (blk_cell BK695.out 5).trans rfl; have hcz54_6 : w53.cell? ⟨gb695, 6, none⟩ = some (.slice A0_6 l0_6.length c0_6) := (blk_cell BK695.out 6).trans rfl; have hfz54_0 := blk_frozen BK695.out 0; have hfz54_1 := blk_frozen BK695.out 1; have hfz54_2 := blk_frozen BK695.out 2; have hfz54_3 := blk_frozen BK695.out 3; have hfz54_4 := blk_frozen BK695.out 4; have hfz54_5 := blk_frozen BK695.out 5; have hfz54_6 := blk_frozen BK695.out 6) | ((with_reducible refine gate_callee (f := 40) rfl ?_); refine goesL_ (some 13) rfl rfl Tryd.func40 (by kernel_rfl) rfl #[.agg #[.int .i64 a0_0, .int .i64 a0_1, .int .i64 a0_2, .int .i64 a0_3, .int .i64 a0_4, .string a0_5, .slice A0_6 l0_6.length c0_6]] rfl d23_4 ?_; (with_reducible refine (laws_toOp.calls k a0_0 a0_1 a0_2 a0_3 a0_4 a0_5 _ _ l0_6 t697 t698 t699 t700 t701 t702 t703 _ ?side1 ?side2 A7.out).mono ?_); (case side1 => repeat (first | exact (Kd.C_below HR0_6.out HB.out) | (with_reducible refine Kd.C_alloc ?_ _) | (with_reducible refine Kd.C_drewN ?_ _) | (with_reducible refine Kd.C_drew ?_))); (case side2 => exact HC0_6.out); rintro e w55 ⟨v704, rfl, ho0, hb⟩; refine ⟨_, rfl, ?_⟩; have n0_ := ak (Kd.R_lower ho0 (below_size d23_2)); have n1_ := ak (blk_below (g := gb695) (o := .cells #[.int .i64 a0_0, .int .i64 a0_1, .int .i64 a0_2, .int .i64 a0_3, .int .i64 a0_4, .string a0_5, .slice A0_6 l0_6.length c0_6] 64 (0, 0)) d23_6 hb); have n2_ := ak (below_step d23_2 hb); clear BK695 HB; have HO705 := n0_; have BK695 := n1_; have HB := n2_; clear n0_ n1_ n2_; (try clear hb); (try clear hk); (try clear ho0); obtain ⟨Ao56, co56, eo56⟩ := Kd.R_slice HO705.out; subst eo56) | ((with_reducible refine gate_callee (f := 39) rfl ?_); refine goesL_ (some 14) rfl rfl Tryd.func39 (by kernel_rfl) rfl #[.agg #[.int .i64 t697, .int .i64 t698, .int .i64 t699, .int .i64 t700, .int .i64 t701, .string t702, .slice Ao56 t703.length co56]] rfl d23_4 ?_; (with_reducible refine (spec_OpFault.calls k t697 t698 t699 t700 t701 t702 _ _ t703 t706 _ ?side1 ?side2 A8.out).mono ?_); (case side1 => repeat (first | exact (Kd.R_reads' HO705.out).2.2 | (with_reducible refine Kd.C_alloc ?_ _) | (with_reducible refine Kd.C_drewN ?_ _) | (with_reducible refine Kd.C_drew ?_))); (case side2 => exact (Kd.R_reads' HO705.out).2.1); rintro e w57 ⟨rfl, hb⟩; refine ⟨_, rfl, ?_⟩; have n0_ := ak (Kd.R_below d23_8 hb); have n1_ := ak (blk_below (g := gb695) (o := .cells #[.int .i64 a0_0, .int .i64 a0_1, .int .i64 a0_2, .int .i64 a0_3, .int .i64 a0_4, .string a0_5, .slice A0_6 l0_6.length c0_6] 64 (0, 0)) d23_6 hb); have n2_ := ak (below_step d23_2 hb); clear HO705 BK695 HB; have HO705 := n0_; have BK695 := n1_; have HB := n2_; clear n0_ n1_ n2_; (try clear hb); (try clear hk); have hcz58_0 : w57.cell? ⟨gb695, 0, none⟩ = some (.int .i64 a0_0) := (blk_cell BK695.out 0).trans rfl; have hcz58_1 : w57.cell? ⟨gb695, 1, none⟩ = some (.int .i64 a0_1) := (blk_cell BK695.out 1).trans rfl; have hcz58_2 : w57.cell? ⟨gb695, 2, none⟩ = some (.int .i64 a0_2) := (blk_cell BK695.out 2).trans rfl; have hcz58_3 : w57.cell? ⟨gb695, 3, none⟩ = some (.int .i64 a0_3) := (blk_cell BK695.out 3).trans rfl; have hcz58_4 : w57.cell? ⟨gb695, 4, none⟩ = some (.int .i64 a0_4) := (blk_cell BK695.out 4).trans rfl; have hcz58_5 : w57.cell? ⟨gb695, 5, none⟩ = some (.string a0_5) := (blk_cell BK695.out 5).trans rfl; have hcz58_6 : w57.cell? ⟨gb695, 6, none⟩ = some (.slice A0_6 l0_6.length c0_6) := (blk_cell BK695.out 6).trans rfl; have hfz58_0 := blk_frozen BK695.out 0; have hfz58_1 := blk_frozen BK695.out 1; have hfz58_2 := blk_frozen BK695.out 2; have hfz58_3 := blk_frozen BK695.out 3; have hfz58_4 := blk_frozen BK695.out 4; have hfz58_5 := blk_frozen BK695.out 5; have hfz58_6 := blk_frozen BK695.out 6) | ((with_reducible refine gate_callee (f := 40) rfl ?_); refine goesL_ (some 16) rfl rfl Tryd.func40 (by kernel_rfl) rfl #[.agg #[.int .i64 a0_0, .int .i64 a0_1, .int .i64 a0_2, .int .i64 a0_3, .int .i64 a0_4, .string a0_5, .slice A0_6 l0_6.length c0_6]] rfl d23_4 ?_; (with_reducible refine (laws_toOp.calls k a0_0 a0_1 a0_2 a0_3 a0_4 a0_5 _ _ l0_6 t707 t708 t709 t710 t711 t712 t713 _ ?side1 ?side2 A9.out).mono ?_); (case side1 => repeat (first | exact (Kd.C_below HR0_6.out HB.out) | (with_reducible refine Kd.C_alloc ?_ _) | (with_reducible refine Kd.C_drewN ?_ _) | (with_reducible refine Kd.C_drew ?_))); (case side2 => exact HC0_6.out); rintro e w59 ⟨v714, rfl, ho0, hb⟩; refine ⟨_, rfl, ?_⟩; have n0_ := ak (Kd.R_elder' d23_8 (Kd.R_base ho0) hb); have n1_ := ak (Kd.R_lower (Kd.R_new' ho0 (Kd.R_lt d23_8)) (below_size d23_2)); have n2_ := ak (blk_below (g := gb695) (o := .cells #[.int .i64 a0_0, .int .i64 a0_1, .int .i64 a0_2, .int .i64 a0_3, .int .i64 a0_4, .string a0_5, .slice A0_6 l0_6.length c0_6] 64 (0, 0)) d23_6 hb); have n3_ := ak (below_step d23_2 hb); clear HO705 BK695 HB; have HO705 := n0_; have HO715 := n1_; have BK695 := n2_; have HB := n3_; clear n0_ n1_ n2_ n3_; (try clear hb); (try clear hk); (try clear ho0)) | ((with_reducible refine gate_dst (N := 5) rfl ?_); refine box_event ?hg (N := 5) ?hd (cs := #[.int .i64 0, .int .i64 0, .int .i64 0, .int .i64 0, .int .i64 0, .string (⟨#[]⟩ : ByteArray), .slice none 0 0]) (t := 69) ?hr ?_; (case hd => rfl); (case hg => rfl); (case hr => first | (go_simp; done) | (go_simp; rfl)); intro gb716 hg w60 hbox hb; have n0_ := ak (Kd.R_below d23_8 hb); have n1_ := ak (Kd.R_below d23_10 hb); have n2_ := ak (blk_below (g := gb695) (o := .cells #[.int .i64 a0_0, .int .i64 a0_1, .int .i64 a0_2, .int .i64 a0_3, .int .i64 a0_4, .string a0_5, .slice A0_6 l0_6.length c0_6] 64 (0, 0)) d23_6 hb); have n3_ := ak (below_step d23_2 hb); have n4_ := ak (hbox); have n5_ := ak ((by rw [hg]; exact (below_size d23_2) : w.heap.size ≤ gb716)); have n6_ := ak ((by rw [hg]; exact (below_size d23_2) : w.heap.size ≤ gb716)); have n7_ := ak ((by rw [hg]; exact Nat.ne_of_lt (blk_lt (g := gb695) (o := .cells #[.int .i64 a0_0, .int .i64 a0_1, .int .i64 a0_2, .int .i64 a0_3, .int .i64 a0_4, .string a0_5, .slice A0_6 l0_6.length c0_6] 64 (0, 0)) d23_6) : gb695 ≠ gb716)); have n8_ := ak ((by rw [hg]; exact Nat.ne_of_gt (blk_lt (g := gb695) (o := .cells #[.int .i64 a0_0, .int .i64 a0_1, .int .i64 a0_2, .int .i64 a0_3, .int .i64 a0_4, .string a0_5, .slice A0_6 l0_6.length c0_6] 64 (0, 0)) d23_6) : gb716 ≠ gb695)); clear HO705 HO715 BK695 HB; have HO705 := n0_; have HO715 := n1_; have BK695 := n2_; have HB := n3_; have BK716 := n4_; have GW716 := n5_; have GE716 := n6_; have NB695_716 := n7_; have NB716_695 := n8_; clear n0_ n1_ n2_ n3_ n4_ n5_ n6_ n7_ n8_ hb hbox hg; have hnb61 := NB716_695.out; have hnc61 := NB695_716.out; have hcz62_0 : w60.cell? ⟨gb716, 0, none⟩ = some (.int .i64 0) := (blk_cell BK716.out 0).trans rfl; have hcz62_1 : w60.cell? ⟨gb716, 1, none⟩ = some (.int .i64 0) := (blk_cell BK716.out 1).trans rfl; have hcz62_2 : w60.cell? ⟨gb716, 2, none⟩ = some (.int .i64 0) := (blk_cell BK716.out 2).trans rfl; have hcz62_3 : w60.cell? ⟨gb716, 3, none⟩ = some (.int .i64 0) := (blk_cell BK716.out 3).trans rfl; have hcz62_4 : w60.cell? ⟨gb716, 4, none⟩ = some (.int .i64 0) := (blk_cell BK716.out 4).trans rfl; have hcz62_5 : w60.cell? ⟨gb716, 5, none⟩ = some (.string (⟨#[]⟩ : ByteArray)) := (blk_cell BK716.out 5).trans rfl; have hcz62_6 : w60.cell? ⟨gb716, 6, none⟩ = some (.slice none 0 0) := (blk_cell BK716.out 6).trans rfl; have hfz62_0 := blk_frozen BK716.out 0; have hfz62_1 := blk_frozen BK716.out 1; have hfz62_2 := blk_frozen BK716.out 2; have hfz62_3 := blk_frozen BK716.out 3; have hfz62_4 := blk_frozen BK716.out 4; have hfz62_5 := blk_frozen BK716.out 5; have hfz62_6 := blk_frozen BK716.out 6; obtain ⟨Ao63, co63, eo63⟩ := Kd.R_slice HO715.out; subst eo63) | ((with_reducible refine gate_callee (f := 41) rfl ?_); refine goesL_ (some 18) rfl rfl Tryd.func41 (by kernel_rfl) rfl #[.agg #[.int .i64 t707, .int .i64 t708, .int .i64 t709, .int .i64 t710, .int .i64 t711, .string t712, .slice Ao63 t713.length co63]] rfl d23_4 ?_; (with_reducible refine (impl_OpFault.calls k t707 t708 t709 t710 t711 t712 _ _ t713 t717 _ ?side1 ?side2 A10.out).mono ?_); (case side1 => refine (Kd.R_reads' (e := 132) (base := w.heap.size) (ok := fun k_ => (True ∧ some k_ ≠ (.slice Ao56 t703.length co56 : Value).ownBlock)) (n := t713.length) (c := co63) ?_).2.2; exact (by (with_reducible repeat (first | apply Kd.R_alloc | apply Kd.R_drewN | apply Kd.R_drew)); exact (Kd.R_mono (Kd.R_far (p := ⟨gb716, 6, none⟩) (Kd.R_far (p := ⟨gb716, 5, none⟩) (Kd.R_far (p := ⟨gb716, 4, none⟩) (Kd.R_far (p := ⟨gb716, 3, none⟩) (Kd.R_far (p := ⟨gb716, 2, none⟩) (Kd.R_far (p := ⟨gb716, 1, none⟩) (Kd.R_far (p := ⟨gb716, 0, none⟩) (Kd.R_types HO715.out BK716.out (by decide)) (fun _ hk => hk.2) (.int .i64 t707)) (fun _ hk => hk.2) (.int .i64 t708)) (fun _ hk => hk.2) (.int .i64 t709)) (fun _ hk => hk.2) (.int .i64 t710)) (fun _ hk => hk.2) (.int .i64 t711)) (fun _ hk => hk.2) (.string t712)) (fun _ hk => hk.2) (.slice Ao63 t713.length co63)) (fun _ h_ => h_.1)))); (case side2 => exact (Kd.R_reads' HO715.out).2.1); rintro e w64 ⟨rfl, hb⟩; refine ⟨_, rfl, ?_⟩; have n0_ := ak (Kd.R_below (by (with_reducible repeat (first | apply Kd.R_alloc | apply Kd.R_drewN | apply Kd.R_drew)); exact (Kd.R_mono (Kd.R_far (p := ⟨gb716, 6, none⟩) (Kd.R_far (p := ⟨gb716, 5, none⟩) (Kd.R_far (p := ⟨gb716, 4, none⟩) (Kd.R_far (p := ⟨gb716, 3, none⟩) (Kd.R_far (p := ⟨gb716, 2, none⟩) (Kd.R_far (p := ⟨gb716, 1, none⟩) (Kd.R_far (p := ⟨gb716, 0, none⟩) (Kd.R_types HO705.out BK716.out (by decide)) (fun _ hk => hk.2) (.int .i64 t707)) (fun _ hk => hk.2) (.int .i64 t708)) (fun _ hk => hk.2) (.int .i64 t709)) (fun _ hk => hk.2) (.int .i64 t710)) (fun _ hk => hk.2) (.int .i64 t711)) (fun _ hk => hk.2) (.string t712)) (fun _ hk => hk.2) (.slice Ao63 t713.length co63)) (fun _ h_ => h_.1))) hb); have n1_ := ak (Kd.R_below (by (with_reducible repeat (first | apply Kd.R_alloc | apply Kd.R_drewN | apply Kd.R_drew)); exact (Kd.R_mono (Kd.R_far (p := ⟨gb716, 6, none⟩) (Kd.R_far (p := ⟨gb716, 5, none⟩) (Kd.R_far (p := ⟨gb716, 4, none⟩) (Kd.R_far (p := ⟨gb716, 3, none⟩) (Kd.R_far (p := ⟨gb716, 2, none⟩) (Kd.R_far (p := ⟨gb716, 1, none⟩) (Kd.R_far (p := ⟨gb716, 0, none⟩) (Kd.R_types HO715.out BK716.out (by decide)) (fun _ hk => hk.2) (.int .i64 t707)) (fun _ hk => hk.2) (.int .i64 t708)) (fun _ hk => hk.2) (.int .i64 t709)) (fun _ hk => hk.2) (.int .i64 t710)) (fun _ hk => hk.2) (.int .i64 t711)) (fun _ hk => hk.2) (.string t712)) (fun _ hk => hk.2) (.slice Ao63 t713.length co63)) (fun _ h_ => h_.1))) hb); have n2_ := ak (blk_below (g := gb695) (o := .cells #[.int .i64 a0_0, .int .i64 a0_1, .int .i64 a0_2, .int .i64 a0_3, .int .i64 a0_4, .string a0_5, .slice A0_6 l0_6.length c0_6] 64 (0, 0)) d23_7 hb); have n3_ := ak (blk_below (g := gb716) (o := .cells #[.int .i64 t707, .int .i64 t708, .int .i64 t709, .int .i64 t710, .int .i64 t711, .string t712, .slice Ao63 t713.length co63] 69 (0, 0)) (by (with_reducible repeat (first | refine blk_drewN ?_ _ | refine blk_drew ?_ | refine blk_alloc ?_ _)); refine blk_put (cs := #[.int .i64 t707, .int .i64 t708, .int .i64 t709, .int .i64 t710, .int .i64 t711, .string t712, .slice none 0 0]) ?_ 6 _ rfl; (with_reducible repeat (first | refine blk_drewN ?_ _ | refine blk_drew ?_ | refine blk_alloc ?_ _)); refine blk_put (cs := #[.int .i64 t707, .int .i64 t708, .int .i64 t709, .int .i64 t710, .int .i64 t711, .string (⟨#[]⟩ : ByteArray), .slice none 0 0]) ?_ 5 _ rfl; (with_reducible repeat (first | refine blk_drewN ?_ _ | refine blk_drew ?_ | refine blk_alloc ?_ _)); refine blk_put (cs := #[.int .i64 t707, .int .i64 t708, .int .i64 t709, .int .i64 t710, .int .i64 0, .string (⟨#[]⟩ : ByteArray), .slice none 0 0]) ?_ 4 _ rfl; (with_reducible repeat (first | refine blk_drewN ?_ _ | refine blk_drew ?_ | refine blk_alloc ?_ _)); refine blk_put (cs := #[.int .i64 t707, .int .i64 t708, .int .i64 t709, .int .i64 0, .int .i64 0, .string (⟨#[]⟩ : ByteArray), .slice none 0 0]) ?_ 3 _ rfl; (with_reducible repeat (first | refine blk_drewN ?_ _ | refine blk_drew ?_ | refine blk_alloc ?_ _)); refine blk_put (cs := #[.int .i64 t707, .int .i64 t708, .int .i64 0, .int .i64 0, .int .i64 0, .string (⟨#[]⟩ : ByteArray), .slice none 0 0]) ?_ 2 _ rfl; (with_reducible repeat (first | refine blk_drewN ?_ _ | refine blk_drew ?_ | refine blk_alloc ?_ _)); refine blk_put (cs := #[.int .i64 t707, .int .i64 0, .int .i64 0, .int .i64 0, .int .i64 0, .string (⟨#[]⟩ : ByteArray), .slice none 0 0]) ?_ 1 _ rfl; (with_reducible repeat (first | refine blk_drewN ?_ _ | refine blk_drew ?_ | refine blk_alloc ?_ _)); refine blk_put (cs := #[.int .i64 0, .int .i64 0, .int .i64 0, .int .i64 0, .int .i64 0, .string (⟨#[]⟩ : ByteArray), .slice none 0 0]) ?_ 0 _ rfl; (with_reducible repeat (first | refine blk_drewN ?_ _ | refine blk_drew ?_ | refine blk_alloc ?_ _)); exact BK716.out) hb); have n4_ := ak (below_step d23_9 hb); clear HO705 HO715 BK695 BK716 HB; have HO705 := n0_; have HO715 := n1_; have BK695 := n2_; have BK716 := n3_; have HB := n4_; clear n0_ n1_ n2_ n3_ n4_; (try clear hb); (try clear hk)))
    go_ret
    exact ⟨by first | rfl | (simp [errW_none, errW_some] <;> rfl) | (simp [*, errW_none, errW_some] <;> rfl), by repeat (first | (with_reducible first | exact HB.out | apply below_alloc | apply pw_below_drewN | apply below_drew1 | refine below_set ?_ GE695.out | refine below_set ?_ GE716.out) | exact HB.out)⟩

end Go.Proofs.YthjfdohcdkpdnaaDoor.A
