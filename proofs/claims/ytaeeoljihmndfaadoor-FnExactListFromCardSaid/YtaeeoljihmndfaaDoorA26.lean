/- Walks of the program's functions: each Go function's answer as a plain Lean function, and that the call comes to it. Written by a program. Conditions: those in each theorem's own head. -/
import Derived.Test.YtaeeoljihmndfaaDoorA0
import Derived.Test.YtaeeoljihmndfaaDoorA5
import Derived.Test.YtaeeoljihmndfaaDoorA25
namespace Go.Proofs.YtaeeoljihmndfaaDoor.A
open Go.RowKit Go.Proofs.YtaeeoljihmndfaaDoorW.PrintWords Go.Proofs.YtaeeoljihmndfaaDoorW.PrintLast Go.Proofs.YtaeeoljihmndfaaDoorW.PrintMore
attribute [local go_sem] max2_int min2_int max_two min_two max_three min_three max_four min_four   -- for this text's walks alone
set_option linter.unusedVariables false
set_option linter.unusedSimpArgs false

theorem d26_1 {p : Prop} (h : p := by first | (with_reducible assumption) | assumption) : p := h
theorem d26_2 {p : Prop} (h : p := by repeat (first | (with_reducible first | exact HK.out | apply Kept.alloc | apply Kept.drewN | apply Kept.drew) | exact HK.out)) : p := h
theorem d26_3 {p : Prop} (h : p := by (with_reducible repeat (first | apply Kd.R_alloc | apply Kd.R_drewN | apply Kd.R_drew)); exact HO_0.out) : p := h
theorem d26_4 {p : Prop} (h : p := by repeat (first | (with_reducible first | exact HB.out | apply below_alloc | apply pw_below_drewN | apply below_drew1) | exact HB.out)) : p := h
theorem d26_5 {p : Prop} (h : p := by first | rfl | (simp; done) | (simp [*]; done) | (simp [ne_nil_b, eq_nil_b]; done)) : p := h
theorem d26_6 {p : Prop} (h : p := by (try simp only [List.map_toArray, List.map_cons, List.map_nil]); first | done | rfl | (simp only [List.length_drop, List.length_take]; rfl)) : p := h
theorem d26_7 {p : Prop} (h : p := by rw [hw]; exact below_set (HB.out) GB5.out) : p := h

/-! ### laws_eqPairS: function 37 -/
def laws_eqPairS.l0 : Nat → List (S112) → List (S112) → Int → Option (Bool)
  | 0, _, _, _ => none
  | k + 1, x0, x1, x5 => if x5 < (x0.length : Int) then (if 0 ≤ x5 then (if x5 < (x1.length : Int) then ((laws_eqPair.f ((rd_T112 x0 x5).f0.f0) ((rd_T112 x0 x5).f0.f1) ((rd_T112 x0 x5).f0.f2) ((rd_T112 x0 x5).f1.f0) ((rd_T112 x0 x5).f1.f1) ((rd_T112 x0 x5).f1.f2) ((rd_T112 x1 x5).f0.f0) ((rd_T112 x1 x5).f0.f1) ((rd_T112 x1 x5).f0.f2) ((rd_T112 x1 x5).f1.f0) ((rd_T112 x1 x5).f1.f1) ((rd_T112 x1 x5).f1.f2)).bind fun t584 => (if t584 = true then (laws_eqPairS.l0 k x0 x1 (wrap64 (x5 + 1))) else (some false))) else (none)) else (none)) else (some true)
def laws_eqPairS.f (k : Nat) (l0 : List (S112)) (l1 : List (S112)) : Option (Bool) := if (l0.length : Int) = (l1.length : Int) then (laws_eqPairS.l0 k l0 l1 0) else (some false)
theorem laws_eqPairS.mono_l : ∀ k, (∀ y0 y1 y2, LeO (laws_eqPairS.l0 k y0 y1 y2) (laws_eqPairS.l0 (k + 1) y0 y1 y2))
  | 0 => fun _ _ _ r h => by simp [laws_eqPairS.l0] at h
  | k + 1 => by
    have ih0 := laws_eqPairS.mono_l k
    · intro y0 y1 y2
      unfold laws_eqPairS.l0
      repeat' first
      | (with_reducible exact ih0 _ _ _)
      | (with_reducible exact LeO.refl _)
      | (with_reducible exact LeO.none _)
      | (with_reducible refine LeO.ite ?_ ?_)
      | (with_reducible refine LeO.bind ?_ (fun _ => ?_))
      | exact ih0 _ _ _
      | exact LeO.none _
      | refine LeO.ite ?_ ?_
      | refine LeO.bind ?_ (fun _ => ?_)
theorem laws_eqPairS.mono : ∀ a0 a1 k, LeO (laws_eqPairS.f k a0 a1) (laws_eqPairS.f (k + 1) a0 a1) := by
  intro a0 a1 k
  have ih0 := laws_eqPairS.mono_l k
  unfold laws_eqPairS.f
  repeat' first
      | (with_reducible exact ih0 _ _ _)
      | (with_reducible exact LeO.refl _)
      | (with_reducible exact LeO.none _)
      | (with_reducible refine LeO.ite ?_ ?_)
      | (with_reducible refine LeO.bind ?_ (fun _ => ?_))
      | exact ih0 _ _ _
      | exact LeO.none _
      | refine LeO.ite ?_ ?_
      | refine LeO.bind ?_ (fun _ => ?_)
def laws_eqPairS.T6 : Bool × List (List Nat × List Nat) := (true, [([], []), ([], []), ([0, 1], [0, 1]), ([2], [2]), ([], []), ([], []), ([4, 5], [4, 5]), ([6], [6]), ([3, 7], [3, 7]), ([8], [8])])
def laws_eqPairS.B6 : List Nat := [0, 0, 3, 7, 0, 0, 48, 112, 255, 511]
theorem laws_eqPairS.tab6 : rtab .any (opsOf Tryd.f37 6) = laws_eqPairS.T6 := by kernel_rfl
theorem laws_eqPairS.bits6 : waitsOk laws_eqPairS.T6.2 laws_eqPairS.B6 = true := by kernel_rfl
set_option maxHeartbeats 8000000 in
set_option maxRecDepth 100000 in
theorem laws_eqPairS.calls (k : Nat) (A0 : Option Addr) (c0 : Nat) (l0 : List (S112)) (A1 : Option Addr) (c1 : Nat) (l1 : List (S112)) (r : Bool) (w : World) (hr0 : Kd.C k112 w A0 l0.length l0) (hc0 : l0.length ≤ c0) (hr1 : Kd.C k112 w A1 l1.length l1) (hc1 : l1.length ≤ c1) (h : laws_eqPairS.f k l0 l1 = some r) :
    Calls Tryd.prog 37 #[.slice A0 l0.length c0, .slice A1 l1.length c1] w fun e w' => e = .returned (.bool r) ∧ Below w.heap.size w w' := by
  have hu112 := Tryd.underlying112
  have HR0 := ak hr0
  have HC0 := ak hc0
  clear hr0 hc0
  have HR1 := ak hr1
  have HC1 := ak hc1
  clear hr1 hc1
  have HB := ak (Below.refl w.heap.size w)
  have H : (if (l0.length : Int) = (l1.length : Int) then (laws_eqPairS.l0 k l0 l1 0) else (some false)) = some r := h
  clear h
  by_cases c3 : (l0.length : Int) = (l1.length : Int)
  ·rw [if_pos c3] at H
   have c3b0 : ((l0.length : Int) == (l1.length : Int)) = true := beq_iff_eq.mpr c3
   have c3b1 : ((l0.length : Int) != (l1.length : Int)) = false := bne_eq_false_iff_eq.mpr c3
   have c3b2 : (l0.length == l1.length) = true := by first | simpa using c3 | (simp at c3 ⊢; omega)
   clear c3
   have H' := ak H
   clear H
   go_enter Tryd.func37, Tryd.ntmps37
   go_wp2
   go_loopg [5] k (fun kq v5 w' => ∃ (x5_1 : Int), v5 = .int .i64 x5_1 ∧ Aside0 (laws_eqPairS.l0 kq l0 l1 x5_1 = some r) ∧ Aside0 (kq ≤ k) ∧ Aside0 (Below w.heap.size w w'))
   case atStart => exact ⟨(0), d26_5, H', ⟨Nat.le_refl _⟩, ⟨by repeat (first | (with_reducible first | exact HB.out | apply below_alloc | apply pw_below_drewN | apply below_drew1) | exact HB.out)⟩⟩
   case round =>
    clear H'
    try clear c1
    try clear p2
    try clear c3
    try clear c3b0
    try clear c3b1
    try clear c3b2
    obtain ⟨x5_1, rfl, HA, HK1, HB⟩ := hrel
    cases gk with
    | zero => exact absurd HA.out (by simp [laws_eqPairS.l0])
    | succ k1 =>
     have H := HA.out
     clear HA
     simp only [laws_eqPairS.l0] at H
     by_cases c4 : x5_1 < (l0.length : Int)
     ·rw [if_pos c4] at H
      have c4b0 : decide (x5_1 < (l0.length : Int)) = true := decide_eq_true c4
      clear c4
      by_cases c5 : 0 ≤ x5_1
      ·rw [if_pos c5] at H
       have c5b0 : decide (0 ≤ x5_1) = true := decide_eq_true c5
       clear c5
       by_cases c6 : x5_1 < (l1.length : Int)
       ·rw [if_pos c6] at H
        have c6b0 : decide (x5_1 < (l1.length : Int)) = true := decide_eq_true c6
        clear c6
        replace H := Option.bind_eq_some_iff.mp H
        obtain ⟨t584, A70, H⟩ := H
        replace H : (if t584 = true then (laws_eqPairS.l0 k1 l0 l1 (wrap64 (x5_1 + 1))) else (some false)) = some r := H
        have A7 := ak A70
        clear A70
        by_cases c8 : t584 = true
        ·subst c8
         have H1 : (laws_eqPairS.l0 k1 l0 l1 (wrap64 (x5_1 + 1))) = some r := by rw [if_pos rfl] at H; exact H
         clear H
         have H := H1
         clear H1
         have H' := ak H
         clear H
         try go_wp2
         have n0_ := ak (below_drew1 HB.out)
         clear HB
         have HB := n0_
         clear n0_
         have p582 : 0 ≤ (x5_1 : Int) := of_decide_eq_true d26_1
         have q582 : x5_1 < (l0.length : Int) := of_decide_eq_true d26_1
         obtain ⟨ad582, e582, hx582_0, hx582_1, hx582_2, hx582_3, hx582_4, hx582_5⟩ := at_T112 HR0.out x5_1 p582 q582
         have hw582_5 := hx582_5
         have hw582_4 := hx582_4
         have hw582_3 := hx582_3
         have hw582_2 := hx582_2
         have hw582_1 := hx582_1
         have hw582_0 := hx582_0
         cases e582
         replace hx582_0 := (HB.out.cell (World.block_lt_of_cell? w _ hx582_0)).trans hx582_0
         replace hx582_1 := (HB.out.cell (World.block_lt_of_cell? w _ hx582_1)).trans hx582_1
         replace hx582_2 := (HB.out.cell (World.block_lt_of_cell? w _ hx582_2)).trans hx582_2
         replace hx582_3 := (HB.out.cell (World.block_lt_of_cell? w _ hx582_3)).trans hx582_3
         replace hx582_4 := (HB.out.cell (World.block_lt_of_cell? w _ hx582_4)).trans hx582_4
         replace hx582_5 := (HB.out.cell (World.block_lt_of_cell? w _ hx582_5)).trans hx582_5
         replace p582 := eq_true p582
         replace q582 := eq_true q582
         have p583 : 0 ≤ (x5_1 : Int) := of_decide_eq_true d26_1
         have q583 : x5_1 < (l1.length : Int) := of_decide_eq_true d26_1
         obtain ⟨ad583, e583, hx583_0, hx583_1, hx583_2, hx583_3, hx583_4, hx583_5⟩ := at_T112 HR1.out x5_1 p583 q583
         have hw583_5 := hx583_5
         have hw583_4 := hx583_4
         have hw583_3 := hx583_3
         have hw583_2 := hx583_2
         have hw583_1 := hx583_1
         have hw583_0 := hx583_0
         cases e583
         replace hx583_0 := (HB.out.cell (World.block_lt_of_cell? w _ hx583_0)).trans hx583_0
         replace hx583_1 := (HB.out.cell (World.block_lt_of_cell? w _ hx583_1)).trans hx583_1
         replace hx583_2 := (HB.out.cell (World.block_lt_of_cell? w _ hx583_2)).trans hx583_2
         replace hx583_3 := (HB.out.cell (World.block_lt_of_cell? w _ hx583_3)).trans hx583_3
         replace hx583_4 := (HB.out.cell (World.block_lt_of_cell? w _ hx583_4)).trans hx583_4
         replace hx583_5 := (HB.out.cell (World.block_lt_of_cell? w _ hx583_5)).trans hx583_5
         replace p583 := eq_true p583
         replace q583 := eq_true q583
         refine start_ (n := 10) (S := fun w' => w'.cell? (ad582.add ((x5_1).toNat * 6)) = some (.int .i64 ((rd_T112 l0 x5_1).f0.f0)) ∧ w'.cell? ⟨(ad582.add ((x5_1).toNat * 6)).block, (ad582.add ((x5_1).toNat * 6)).off + 1, none⟩ = some (.int .i64 ((rd_T112 l0 x5_1).f0.f1)) ∧ w'.cell? ⟨(ad582.add ((x5_1).toNat * 6)).block, (ad582.add ((x5_1).toNat * 6)).off + 2, none⟩ = some (.string ((rd_T112 l0 x5_1).f0.f2)) ∧ w'.cell? ⟨(ad582.add ((x5_1).toNat * 6)).block, (ad582.add ((x5_1).toNat * 6)).off + 3, none⟩ = some (.int .i64 ((rd_T112 l0 x5_1).f1.f0)) ∧ w'.cell? ⟨(ad582.add ((x5_1).toNat * 6)).block, (ad582.add ((x5_1).toNat * 6)).off + 4, none⟩ = some (.int .i64 ((rd_T112 l0 x5_1).f1.f1)) ∧ w'.cell? ⟨(ad582.add ((x5_1).toNat * 6)).block, (ad582.add ((x5_1).toNat * 6)).off + 5, none⟩ = some (.string ((rd_T112 l0 x5_1).f1.f2)) ∧ w'.cell? (ad583.add ((x5_1).toNat * 6)) = some (.int .i64 ((rd_T112 l1 x5_1).f0.f0)) ∧ w'.cell? ⟨(ad583.add ((x5_1).toNat * 6)).block, (ad583.add ((x5_1).toNat * 6)).off + 1, none⟩ = some (.int .i64 ((rd_T112 l1 x5_1).f0.f1)) ∧ w'.cell? ⟨(ad583.add ((x5_1).toNat * 6)).block, (ad583.add ((x5_1).toNat * 6)).off + 2, none⟩ = some (.string ((rd_T112 l1 x5_1).f0.f2)) ∧ w'.cell? ⟨(ad583.add ((x5_1).toNat * 6)).block, (ad583.add ((x5_1).toNat * 6)).off + 3, none⟩ = some (.int .i64 ((rd_T112 l1 x5_1).f1.f0)) ∧ w'.cell? ⟨(ad583.add ((x5_1).toNat * 6)).block, (ad583.add ((x5_1).toNat * 6)).off + 4, none⟩ = some (.int .i64 ((rd_T112 l1 x5_1).f1.f1)) ∧ w'.cell? ⟨(ad583.add ((x5_1).toNat * 6)).block, (ad583.add ((x5_1).toNat * 6)).off + 5, none⟩ = some (.string ((rd_T112 l1 x5_1).f1.f2))) (ds := []) #[false, false, false, false, false, false, false, false, false, false] (by kernel_rfl) rfl rfl ⟨((HB.out.cell (World.block_lt_of_cell? w _ hw582_0)).trans hw582_0), ((HB.out.cell (World.block_lt_of_cell? w _ hw582_1)).trans hw582_1), ((HB.out.cell (World.block_lt_of_cell? w _ hw582_2)).trans hw582_2), ((HB.out.cell (World.block_lt_of_cell? w _ hw582_3)).trans hw582_3), ((HB.out.cell (World.block_lt_of_cell? w _ hw582_4)).trans hw582_4), ((HB.out.cell (World.block_lt_of_cell? w _ hw582_5)).trans hw582_5), ((HB.out.cell (World.block_lt_of_cell? w _ hw583_0)).trans hw583_0), ((HB.out.cell (World.block_lt_of_cell? w _ hw583_1)).trans hw583_1), ((HB.out.cell (World.block_lt_of_cell? w _ hw583_2)).trans hw583_2), ((HB.out.cell (World.block_lt_of_cell? w _ hw583_3)).trans hw583_3), ((HB.out.cell (World.block_lt_of_cell? w _ hw583_4)).trans hw583_4), ((HB.out.cell (World.block_lt_of_cell? w _ hw583_5)).trans hw583_5)⟩ (fun hHeld => ?_); refine with_tabW laws_eqPairS.tab6 laws_eqPairS.bits6 (fun HT_ HW_ => ?_)
         generalize wr.drew = w9 at HB hx582_0 hx582_1 hx582_2 hx582_3 hx582_4 hx582_5 hx583_0 hx583_1 hx583_2 hx583_3 hx583_4 hx583_5 hHeld ⊢
         refine pure_ (i := 0) (N := some 17) (v := ?_) (a' := ?_) #[true, false, false, false, false, false, false, false, false, false] rfl rfl (any_of HT_.out (by kernel_rfl)) (fun _ _ _ h => h) (Or.inl ⟨by rfl, ?_⟩) ?_ ?_
         rotate_left
         · intro w'
           go_simp
           with_reducible rfl
         rotate_left
         · simp only [Act.put, List.setIfInBounds_toArray, List.set_cons_zero, List.set_cons_succ, i64_w, i32_w]
           rfl
         refine pure_ (i := 1) (N := some 18) (v := ?_) (a' := ?_) #[true, true, false, false, false, false, false, false, false, false] rfl rfl (any_of HT_.out (by kernel_rfl)) (fun _ _ _ h => h) (Or.inl ⟨by rfl, ?_⟩) ?_ ?_
         rotate_left
         · intro w'
           go_simp
           with_reducible rfl
         rotate_left
         · simp only [Act.put, List.setIfInBounds_toArray, List.set_cons_zero, List.set_cons_succ, i64_w, i32_w]
           rfl
         refine pure_ (i := 2) (N := some 19) (v := ?_) (a' := ?_) #[true, true, true, false, false, false, false, false, false, false] rfl rfl (any_of HT_.out (by kernel_rfl)) (fun _ _ _ h => h) (Or.inl ⟨by rfl, ?_⟩) ?_ ?_
         rotate_left
         · intro w'
           go_simp
           with_reducible rfl
         rotate_left
         · simp only [Act.put, List.setIfInBounds_toArray, List.set_cons_zero, List.set_cons_succ, i64_w, i32_w]
           rfl
         refine pure_ (i := 4) (N := some 21) (v := ?_) (a' := ?_) #[true, true, true, false, true, false, false, false, false, false] rfl rfl (any_of HT_.out (by kernel_rfl)) (fun _ _ _ h => h) (Or.inl ⟨by rfl, ?_⟩) ?_ ?_
         rotate_left
         · intro w'
           go_simp
           with_reducible rfl
         rotate_left
         · simp only [Act.put, List.setIfInBounds_toArray, List.set_cons_zero, List.set_cons_succ, i64_w, i32_w]
           rfl
         refine pure_ (i := 5) (N := some 22) (v := ?_) (a' := ?_) #[true, true, true, false, true, true, false, false, false, false] rfl rfl (any_of HT_.out (by kernel_rfl)) (fun _ _ _ h => h) (Or.inl ⟨by rfl, ?_⟩) ?_ ?_
         rotate_left
         · intro w'
           go_simp
           with_reducible rfl
         rotate_left
         · simp only [Act.put, List.setIfInBounds_toArray, List.set_cons_zero, List.set_cons_succ, i64_w, i32_w]
           rfl
         refine pure_ (i := 6) (N := some 23) (v := ?_) (a' := ?_) #[true, true, true, false, true, true, true, false, false, false] rfl rfl (any_of HT_.out (by kernel_rfl)) (fun _ _ _ h => h) (Or.inl ⟨by rfl, ?_⟩) ?_ ?_
         rotate_left
         · intro w'
           go_simp
           with_reducible rfl
         rotate_left
         · simp only [Act.put, List.setIfInBounds_toArray, List.set_cons_zero, List.set_cons_succ, i64_w, i32_w]
           rfl
         refine take_ (i := 3) (N := some 20) (v := ?_) (a' := ?_) #[true, true, true, true, true, true, true, false, false, false] rfl rfl (take_ofW HT_.out HW_.out (by kernel_rfl)) (fun _ _ _ h => h) (Or.inl ⟨by rfl, ?_⟩) hHeld ?_ ?_
         rotate_left
         · rintro w' ⟨s0, s1, s2, s3, s4, s5, s6, s7, s8, s9, s10, s11⟩
           go_simp
           with_reducible rfl
         rotate_left
         · simp only [Act.put, List.setIfInBounds_toArray, List.set_cons_zero, List.set_cons_succ, i64_w, i32_w]
           rfl
         refine take_ (i := 7) (N := some 24) (v := ?_) (a' := ?_) #[true, true, true, true, true, true, true, true, false, false] rfl rfl (take_ofW HT_.out HW_.out (by kernel_rfl)) (fun _ _ _ h => h) (Or.inl ⟨by rfl, ?_⟩) hHeld ?_ ?_
         rotate_left
         · rintro w' ⟨s0, s1, s2, s3, s4, s5, s6, s7, s8, s9, s10, s11⟩
           go_simp
           with_reducible rfl
         rotate_left
         · simp only [Act.put, List.setIfInBounds_toArray, List.set_cons_zero, List.set_cons_succ, i64_w, i32_w]
           rfl
         refine one_ (i := 8) (N := some 25) #[true, true, true, true, true, true, true, true, true, false] rfl rfl (one_of HT_.out (by kernel_rfl)) (by decide) (fun K hK => ?_)
         refine goes_ Tryd.func78 (by kernel_rfl) rfl #[.agg #[.int .i64 ((rd_T112 l0 x5_1).f0.f0), .int .i64 ((rd_T112 l0 x5_1).f0.f1), .string ((rd_T112 l0 x5_1).f0.f2), .int .i64 ((rd_T112 l0 x5_1).f1.f0), .int .i64 ((rd_T112 l0 x5_1).f1.f1), .string ((rd_T112 l0 x5_1).f1.f2)], .agg #[.int .i64 ((rd_T112 l1 x5_1).f0.f0), .int .i64 ((rd_T112 l1 x5_1).f0.f1), .string ((rd_T112 l1 x5_1).f0.f2), .int .i64 ((rd_T112 l1 x5_1).f1.f0), .int .i64 ((rd_T112 l1 x5_1).f1.f1), .string ((rd_T112 l1 x5_1).f1.f2)]] (by rfl) rfl rfl d26_6 ?_
         with_reducible refine (laws_eqPair.calls ((rd_T112 l0 x5_1).f0.f0) ((rd_T112 l0 x5_1).f0.f1) ((rd_T112 l0 x5_1).f0.f2) ((rd_T112 l0 x5_1).f1.f0) ((rd_T112 l0 x5_1).f1.f1) ((rd_T112 l0 x5_1).f1.f2) ((rd_T112 l1 x5_1).f0.f0) ((rd_T112 l1 x5_1).f0.f1) ((rd_T112 l1 x5_1).f0.f2) ((rd_T112 l1 x5_1).f1.f0) ((rd_T112 l1 x5_1).f1.f1) ((rd_T112 l1 x5_1).f1.f2) true _ A7.out).mono ?_
         rintro e w10 ⟨rfl, hb⟩
         refine ⟨_, rfl, ?_⟩
         have n0_ := ak (below_step d26_4 hb)
         clear HB
         have HB := n0_
         clear n0_
         (try clear hb)
         (try clear hb2)
         (try clear hk)
         (try clear hi)
         refine hK.out _ _ ⟨((HB.out.cell (World.block_lt_of_cell? w _ hw582_0)).trans hw582_0), ((HB.out.cell (World.block_lt_of_cell? w _ hw582_1)).trans hw582_1), ((HB.out.cell (World.block_lt_of_cell? w _ hw582_2)).trans hw582_2), ((HB.out.cell (World.block_lt_of_cell? w _ hw582_3)).trans hw582_3), ((HB.out.cell (World.block_lt_of_cell? w _ hw582_4)).trans hw582_4), ((HB.out.cell (World.block_lt_of_cell? w _ hw582_5)).trans hw582_5), ((HB.out.cell (World.block_lt_of_cell? w _ hw583_0)).trans hw583_0), ((HB.out.cell (World.block_lt_of_cell? w _ hw583_1)).trans hw583_1), ((HB.out.cell (World.block_lt_of_cell? w _ hw583_2)).trans hw583_2), ((HB.out.cell (World.block_lt_of_cell? w _ hw583_3)).trans hw583_3), ((HB.out.cell (World.block_lt_of_cell? w _ hw583_4)).trans hw583_4), ((HB.out.cell (World.block_lt_of_cell? w _ hw583_5)).trans hw583_5)⟩ (fun hHeld => ?_)
         clear hK K
         refine norm_ (a' := ?_) ?_ ?_
         rotate_left
         · show Act.put _ (some 25) _ = _
           simp only [Act.put, List.setIfInBounds_toArray, List.set_cons_zero, List.set_cons_succ, i64_w, i32_w]
           rfl
         refine pure_ (i := 9) (N := some 26) (v := ?_) (a' := ?_) #[true, true, true, true, true, true, true, true, true, true] rfl rfl (any_of HT_.out (by kernel_rfl)) (fun _ _ _ h => h) (Or.inl ⟨by rfl, ?_⟩) ?_ ?_
         rotate_left
         · intro w'
           go_simp
           with_reducible rfl
         rotate_left
         · simp only [Act.put, List.setIfInBounds_toArray, List.set_cons_zero, List.set_cons_succ, i64_w, i32_w]
           rfl
         refine done_ (done_of HT_.out (by kernel_rfl)) ?_
         try go_wp2
         go_roundg k1
         case measure => have := HK1.out; omega
         case rel => exact ⟨(wrap64 (x5_1 + 1)), d26_5, H', ⟨by have := HK1.out; omega⟩, ⟨by repeat (first | (with_reducible first | exact HB.out | apply below_alloc | apply pw_below_drewN | apply below_drew1) | exact HB.out)⟩⟩
        ·replace c8 := Bool.eq_false_iff.mpr c8
         subst c8
         have H1 : (some false) = some r := by rw [if_neg (show ¬ (false = true) by decide)] at H; exact H
         clear H
         have H := H1
         clear H1
         obtain rfl := Option.some.inj H
         try go_wp2
         have n0_ := ak (below_drew1 HB.out)
         clear HB
         have HB := n0_
         clear n0_
         have p582 : 0 ≤ (x5_1 : Int) := of_decide_eq_true d26_1
         have q582 : x5_1 < (l0.length : Int) := of_decide_eq_true d26_1
         obtain ⟨ad582, e582, hx582_0, hx582_1, hx582_2, hx582_3, hx582_4, hx582_5⟩ := at_T112 HR0.out x5_1 p582 q582
         have hw582_5 := hx582_5
         have hw582_4 := hx582_4
         have hw582_3 := hx582_3
         have hw582_2 := hx582_2
         have hw582_1 := hx582_1
         have hw582_0 := hx582_0
         cases e582
         replace hx582_0 := (HB.out.cell (World.block_lt_of_cell? w _ hx582_0)).trans hx582_0
         replace hx582_1 := (HB.out.cell (World.block_lt_of_cell? w _ hx582_1)).trans hx582_1
         replace hx582_2 := (HB.out.cell (World.block_lt_of_cell? w _ hx582_2)).trans hx582_2
         replace hx582_3 := (HB.out.cell (World.block_lt_of_cell? w _ hx582_3)).trans hx582_3
         replace hx582_4 := (HB.out.cell (World.block_lt_of_cell? w _ hx582_4)).trans hx582_4
         replace hx582_5 := (HB.out.cell (World.block_lt_of_cell? w _ hx582_5)).trans hx582_5
         replace p582 := eq_true p582
         replace q582 := eq_true q582
         have p583 : 0 ≤ (x5_1 : Int) := of_decide_eq_true d26_1
         have q583 : x5_1 < (l1.length : Int) := of_decide_eq_true d26_1
         obtain ⟨ad583, e583, hx583_0, hx583_1, hx583_2, hx583_3, hx583_4, hx583_5⟩ := at_T112 HR1.out x5_1 p583 q583
         have hw583_5 := hx583_5
         have hw583_4 := hx583_4
         have hw583_3 := hx583_3
         have hw583_2 := hx583_2
         have hw583_1 := hx583_1
         have hw583_0 := hx583_0
         cases e583
         replace hx583_0 := (HB.out.cell (World.block_lt_of_cell? w _ hx583_0)).trans hx583_0
         replace hx583_1 := (HB.out.cell (World.block_lt_of_cell? w _ hx583_1)).trans hx583_1
         replace hx583_2 := (HB.out.cell (World.block_lt_of_cell? w _ hx583_2)).trans hx583_2
         replace hx583_3 := (HB.out.cell (World.block_lt_of_cell? w _ hx583_3)).trans hx583_3
         replace hx583_4 := (HB.out.cell (World.block_lt_of_cell? w _ hx583_4)).trans hx583_4
         replace hx583_5 := (HB.out.cell (World.block_lt_of_cell? w _ hx583_5)).trans hx583_5
         replace p583 := eq_true p583
         replace q583 := eq_true q583
         refine start_ (n := 10) (S := fun w' => w'.cell? (ad582.add ((x5_1).toNat * 6)) = some (.int .i64 ((rd_T112 l0 x5_1).f0.f0)) ∧ w'.cell? ⟨(ad582.add ((x5_1).toNat * 6)).block, (ad582.add ((x5_1).toNat * 6)).off + 1, none⟩ = some (.int .i64 ((rd_T112 l0 x5_1).f0.f1)) ∧ w'.cell? ⟨(ad582.add ((x5_1).toNat * 6)).block, (ad582.add ((x5_1).toNat * 6)).off + 2, none⟩ = some (.string ((rd_T112 l0 x5_1).f0.f2)) ∧ w'.cell? ⟨(ad582.add ((x5_1).toNat * 6)).block, (ad582.add ((x5_1).toNat * 6)).off + 3, none⟩ = some (.int .i64 ((rd_T112 l0 x5_1).f1.f0)) ∧ w'.cell? ⟨(ad582.add ((x5_1).toNat * 6)).block, (ad582.add ((x5_1).toNat * 6)).off + 4, none⟩ = some (.int .i64 ((rd_T112 l0 x5_1).f1.f1)) ∧ w'.cell? ⟨(ad582.add ((x5_1).toNat * 6)).block, (ad582.add ((x5_1).toNat * 6)).off + 5, none⟩ = some (.string ((rd_T112 l0 x5_1).f1.f2)) ∧ w'.cell? (ad583.add ((x5_1).toNat * 6)) = some (.int .i64 ((rd_T112 l1 x5_1).f0.f0)) ∧ w'.cell? ⟨(ad583.add ((x5_1).toNat * 6)).block, (ad583.add ((x5_1).toNat * 6)).off + 1, none⟩ = some (.int .i64 ((rd_T112 l1 x5_1).f0.f1)) ∧ w'.cell? ⟨(ad583.add ((x5_1).toNat * 6)).block, (ad583.add ((x5_1).toNat * 6)).off + 2, none⟩ = some (.string ((rd_T112 l1 x5_1).f0.f2)) ∧ w'.cell? ⟨(ad583.add ((x5_1).toNat * 6)).block, (ad583.add ((x5_1).toNat * 6)).off + 3, none⟩ = some (.int .i64 ((rd_T112 l1 x5_1).f1.f0)) ∧ w'.cell? ⟨(ad583.add ((x5_1).toNat * 6)).block, (ad583.add ((x5_1).toNat * 6)).off + 4, none⟩ = some (.int .i64 ((rd_T112 l1 x5_1).f1.f1)) ∧ w'.cell? ⟨(ad583.add ((x5_1).toNat * 6)).block, (ad583.add ((x5_1).toNat * 6)).off + 5, none⟩ = some (.string ((rd_T112 l1 x5_1).f1.f2))) (ds := []) #[false, false, false, false, false, false, false, false, false, false] (by kernel_rfl) rfl rfl ⟨((HB.out.cell (World.block_lt_of_cell? w _ hw582_0)).trans hw582_0), ((HB.out.cell (World.block_lt_of_cell? w _ hw582_1)).trans hw582_1), ((HB.out.cell (World.block_lt_of_cell? w _ hw582_2)).trans hw582_2), ((HB.out.cell (World.block_lt_of_cell? w _ hw582_3)).trans hw582_3), ((HB.out.cell (World.block_lt_of_cell? w _ hw582_4)).trans hw582_4), ((HB.out.cell (World.block_lt_of_cell? w _ hw582_5)).trans hw582_5), ((HB.out.cell (World.block_lt_of_cell? w _ hw583_0)).trans hw583_0), ((HB.out.cell (World.block_lt_of_cell? w _ hw583_1)).trans hw583_1), ((HB.out.cell (World.block_lt_of_cell? w _ hw583_2)).trans hw583_2), ((HB.out.cell (World.block_lt_of_cell? w _ hw583_3)).trans hw583_3), ((HB.out.cell (World.block_lt_of_cell? w _ hw583_4)).trans hw583_4), ((HB.out.cell (World.block_lt_of_cell? w _ hw583_5)).trans hw583_5)⟩ (fun hHeld => ?_); refine with_tabW laws_eqPairS.tab6 laws_eqPairS.bits6 (fun HT_ HW_ => ?_)
         generalize wr.drew = w11 at HB hx582_0 hx582_1 hx582_2 hx582_3 hx582_4 hx582_5 hx583_0 hx583_1 hx583_2 hx583_3 hx583_4 hx583_5 hHeld ⊢
         refine pure_ (i := 0) (N := some 17) (v := ?_) (a' := ?_) #[true, false, false, false, false, false, false, false, false, false] rfl rfl (any_of HT_.out (by kernel_rfl)) (fun _ _ _ h => h) (Or.inl ⟨by rfl, ?_⟩) ?_ ?_
         rotate_left
         · intro w'
           go_simp
           with_reducible rfl
         rotate_left
         · simp only [Act.put, List.setIfInBounds_toArray, List.set_cons_zero, List.set_cons_succ, i64_w, i32_w]
           rfl
         refine pure_ (i := 1) (N := some 18) (v := ?_) (a' := ?_) #[true, true, false, false, false, false, false, false, false, false] rfl rfl (any_of HT_.out (by kernel_rfl)) (fun _ _ _ h => h) (Or.inl ⟨by rfl, ?_⟩) ?_ ?_
         rotate_left
         · intro w'
           go_simp
           with_reducible rfl
         rotate_left
         · simp only [Act.put, List.setIfInBounds_toArray, List.set_cons_zero, List.set_cons_succ, i64_w, i32_w]
           rfl
         refine pure_ (i := 2) (N := some 19) (v := ?_) (a' := ?_) #[true, true, true, false, false, false, false, false, false, false] rfl rfl (any_of HT_.out (by kernel_rfl)) (fun _ _ _ h => h) (Or.inl ⟨by rfl, ?_⟩) ?_ ?_
         rotate_left
         · intro w'
           go_simp
           with_reducible rfl
         rotate_left
         · simp only [Act.put, List.setIfInBounds_toArray, List.set_cons_zero, List.set_cons_succ, i64_w, i32_w]
           rfl
         refine pure_ (i := 4) (N := some 21) (v := ?_) (a' := ?_) #[true, true, true, false, true, false, false, false, false, false] rfl rfl (any_of HT_.out (by kernel_rfl)) (fun _ _ _ h => h) (Or.inl ⟨by rfl, ?_⟩) ?_ ?_
         rotate_left
         · intro w'
           go_simp
           with_reducible rfl
         rotate_left
         · simp only [Act.put, List.setIfInBounds_toArray, List.set_cons_zero, List.set_cons_succ, i64_w, i32_w]
           rfl
         refine pure_ (i := 5) (N := some 22) (v := ?_) (a' := ?_) #[true, true, true, false, true, true, false, false, false, false] rfl rfl (any_of HT_.out (by kernel_rfl)) (fun _ _ _ h => h) (Or.inl ⟨by rfl, ?_⟩) ?_ ?_
         rotate_left
         · intro w'
           go_simp
           with_reducible rfl
         rotate_left
         · simp only [Act.put, List.setIfInBounds_toArray, List.set_cons_zero, List.set_cons_succ, i64_w, i32_w]
           rfl
         refine pure_ (i := 6) (N := some 23) (v := ?_) (a' := ?_) #[true, true, true, false, true, true, true, false, false, false] rfl rfl (any_of HT_.out (by kernel_rfl)) (fun _ _ _ h => h) (Or.inl ⟨by rfl, ?_⟩) ?_ ?_
         rotate_left
         · intro w'
           go_simp
           with_reducible rfl
         rotate_left
         · simp only [Act.put, List.setIfInBounds_toArray, List.set_cons_zero, List.set_cons_succ, i64_w, i32_w]
           rfl
         refine take_ (i := 3) (N := some 20) (v := ?_) (a' := ?_) #[true, true, true, true, true, true, true, false, false, false] rfl rfl (take_ofW HT_.out HW_.out (by kernel_rfl)) (fun _ _ _ h => h) (Or.inl ⟨by rfl, ?_⟩) hHeld ?_ ?_
         rotate_left
         · rintro w' ⟨s0, s1, s2, s3, s4, s5, s6, s7, s8, s9, s10, s11⟩
           go_simp
           with_reducible rfl
         rotate_left
         · simp only [Act.put, List.setIfInBounds_toArray, List.set_cons_zero, List.set_cons_succ, i64_w, i32_w]
           rfl
         refine take_ (i := 7) (N := some 24) (v := ?_) (a' := ?_) #[true, true, true, true, true, true, true, true, false, false] rfl rfl (take_ofW HT_.out HW_.out (by kernel_rfl)) (fun _ _ _ h => h) (Or.inl ⟨by rfl, ?_⟩) hHeld ?_ ?_
         rotate_left
         · rintro w' ⟨s0, s1, s2, s3, s4, s5, s6, s7, s8, s9, s10, s11⟩
           go_simp
           with_reducible rfl
         rotate_left
         · simp only [Act.put, List.setIfInBounds_toArray, List.set_cons_zero, List.set_cons_succ, i64_w, i32_w]
           rfl
         refine one_ (i := 8) (N := some 25) #[true, true, true, true, true, true, true, true, true, false] rfl rfl (one_of HT_.out (by kernel_rfl)) (by decide) (fun K hK => ?_)
         refine goes_ Tryd.func78 (by kernel_rfl) rfl #[.agg #[.int .i64 ((rd_T112 l0 x5_1).f0.f0), .int .i64 ((rd_T112 l0 x5_1).f0.f1), .string ((rd_T112 l0 x5_1).f0.f2), .int .i64 ((rd_T112 l0 x5_1).f1.f0), .int .i64 ((rd_T112 l0 x5_1).f1.f1), .string ((rd_T112 l0 x5_1).f1.f2)], .agg #[.int .i64 ((rd_T112 l1 x5_1).f0.f0), .int .i64 ((rd_T112 l1 x5_1).f0.f1), .string ((rd_T112 l1 x5_1).f0.f2), .int .i64 ((rd_T112 l1 x5_1).f1.f0), .int .i64 ((rd_T112 l1 x5_1).f1.f1), .string ((rd_T112 l1 x5_1).f1.f2)]] (by rfl) rfl rfl d26_6 ?_
         with_reducible refine (laws_eqPair.calls ((rd_T112 l0 x5_1).f0.f0) ((rd_T112 l0 x5_1).f0.f1) ((rd_T112 l0 x5_1).f0.f2) ((rd_T112 l0 x5_1).f1.f0) ((rd_T112 l0 x5_1).f1.f1) ((rd_T112 l0 x5_1).f1.f2) ((rd_T112 l1 x5_1).f0.f0) ((rd_T112 l1 x5_1).f0.f1) ((rd_T112 l1 x5_1).f0.f2) ((rd_T112 l1 x5_1).f1.f0) ((rd_T112 l1 x5_1).f1.f1) ((rd_T112 l1 x5_1).f1.f2) false _ A7.out).mono ?_
         rintro e w12 ⟨rfl, hb⟩
         refine ⟨_, rfl, ?_⟩
         have n0_ := ak (below_step d26_4 hb)
         clear HB
         have HB := n0_
         clear n0_
         (try clear hb)
         (try clear hb2)
         (try clear hk)
         (try clear hi)
         refine hK.out _ _ ⟨((HB.out.cell (World.block_lt_of_cell? w _ hw582_0)).trans hw582_0), ((HB.out.cell (World.block_lt_of_cell? w _ hw582_1)).trans hw582_1), ((HB.out.cell (World.block_lt_of_cell? w _ hw582_2)).trans hw582_2), ((HB.out.cell (World.block_lt_of_cell? w _ hw582_3)).trans hw582_3), ((HB.out.cell (World.block_lt_of_cell? w _ hw582_4)).trans hw582_4), ((HB.out.cell (World.block_lt_of_cell? w _ hw582_5)).trans hw582_5), ((HB.out.cell (World.block_lt_of_cell? w _ hw583_0)).trans hw583_0), ((HB.out.cell (World.block_lt_of_cell? w _ hw583_1)).trans hw583_1), ((HB.out.cell (World.block_lt_of_cell? w _ hw583_2)).trans hw583_2), ((HB.out.cell (World.block_lt_of_cell? w _ hw583_3)).trans hw583_3), ((HB.out.cell (World.block_lt_of_cell? w _ hw583_4)).trans hw583_4), ((HB.out.cell (World.block_lt_of_cell? w _ hw583_5)).trans hw583_5)⟩ (fun hHeld => ?_)
         clear hK K
         refine norm_ (a' := ?_) ?_ ?_
         rotate_left
         · show Act.put _ (some 25) _ = _
           simp only [Act.put, List.setIfInBounds_toArray, List.set_cons_zero, List.set_cons_succ, i64_w, i32_w]
           rfl
         refine pure_ (i := 9) (N := some 26) (v := ?_) (a' := ?_) #[true, true, true, true, true, true, true, true, true, true] rfl rfl (any_of HT_.out (by kernel_rfl)) (fun _ _ _ h => h) (Or.inl ⟨by rfl, ?_⟩) ?_ ?_
         rotate_left
         · intro w'
           go_simp
           with_reducible rfl
         rotate_left
         · simp only [Act.put, List.setIfInBounds_toArray, List.set_cons_zero, List.set_cons_succ, i64_w, i32_w]
           rfl
         refine done_ (done_of HT_.out (by kernel_rfl)) ?_
         try go_wp2
         go_ret
         exact ⟨by first | rfl | (simp [errW_none, errW_some] <;> rfl) | (simp [*, errW_none, errW_some] <;> rfl), by repeat (first | (with_reducible first | exact HB.out | apply below_alloc | apply pw_below_drewN | apply below_drew1) | exact HB.out)⟩
       ·rw [if_neg c6] at H
        exact absurd H (by simp)
      ·rw [if_neg c5] at H
       exact absurd H (by simp)
     ·rw [if_neg c4] at H
      have c4b0 : decide (x5_1 < (l0.length : Int)) = false := decide_eq_false c4
      clear c4
      obtain rfl := Option.some.inj H
      go_wp2
      go_ret
      exact ⟨by first | rfl | (simp [errW_none, errW_some] <;> rfl) | (simp [*, errW_none, errW_some] <;> rfl), by repeat (first | (with_reducible first | exact HB.out | apply below_alloc | apply pw_below_drewN | apply below_drew1) | exact HB.out)⟩
  ·rw [if_neg c3] at H
   have c3b0 : ((l0.length : Int) == (l1.length : Int)) = false := beq_eq_false_iff_ne.mpr c3
   have c3b1 : ((l0.length : Int) != (l1.length : Int)) = true := bne_iff_ne.mpr c3
   have c3b2 : (l0.length == l1.length) = false := by first | simpa using c3 | (simp at c3 ⊢; omega)
   obtain rfl := Option.some.inj H
   go_enter Tryd.func37, Tryd.ntmps37
   go_wp2
   go_ret
   exact ⟨by first | rfl | (simp [errW_none, errW_some] <;> rfl) | (simp [*, errW_none, errW_some] <;> rfl), by repeat (first | (with_reducible first | exact HB.out | apply below_alloc | apply pw_below_drewN | apply below_drew1) | exact HB.out)⟩

/-! ### laws_markPairS: function 38 -/
def laws_markPairS.l0 : Nat → List (S112) → Int → Int → Option (Int × (List (S112)))
  | 0, _, _, _ => none
  | k + 1, x0, x1, x5 => if x5 < (x0.length : Int) then (if 0 ≤ x5 then ((some (x0.set (x5 : Int).toNat (⟨(⟨x1, (rd_T112 x0 x5).f0.f1, (rd_T112 x0 x5).f0.f2⟩ : S32), (⟨(rd_T112 x0 x5).f1.f0, (rd_T112 x0 x5).f1.f1, (rd_T112 x0 x5).f1.f2⟩ : S32)⟩ : S112) : List (S112))).bind fun y585 => ((some (y585.set (x5 : Int).toNat (⟨(⟨(rd_T112 y585 x5).f0.f0, wrap64 (x1 + 1), (rd_T112 y585 x5).f0.f2⟩ : S32), (⟨(rd_T112 y585 x5).f1.f0, (rd_T112 y585 x5).f1.f1, (rd_T112 y585 x5).f1.f2⟩ : S32)⟩ : S112) : List (S112))).bind fun y586 => ((laws_markText.f k (wrap64 ((wrap64 (x1 + 1)) + 1))).bind fun t587 => ((some (y586.set (x5 : Int).toNat (⟨(⟨(rd_T112 y586 x5).f0.f0, (rd_T112 y586 x5).f0.f1, t587⟩ : S32), (⟨(rd_T112 y586 x5).f1.f0, (rd_T112 y586 x5).f1.f1, (rd_T112 y586 x5).f1.f2⟩ : S32)⟩ : S112) : List (S112))).bind fun y588 => ((some (y588.set (x5 : Int).toNat (⟨(⟨(rd_T112 y588 x5).f0.f0, (rd_T112 y588 x5).f0.f1, (rd_T112 y588 x5).f0.f2⟩ : S32), (⟨wrap64 ((wrap64 ((wrap64 (x1 + 1)) + 1)) + 1), (rd_T112 y588 x5).f1.f1, (rd_T112 y588 x5).f1.f2⟩ : S32)⟩ : S112) : List (S112))).bind fun y589 => ((some (y589.set (x5 : Int).toNat (⟨(⟨(rd_T112 y589 x5).f0.f0, (rd_T112 y589 x5).f0.f1, (rd_T112 y589 x5).f0.f2⟩ : S32), (⟨(rd_T112 y589 x5).f1.f0, wrap64 ((wrap64 ((wrap64 ((wrap64 (x1 + 1)) + 1)) + 1)) + 1), (rd_T112 y589 x5).f1.f2⟩ : S32)⟩ : S112) : List (S112))).bind fun y590 => ((laws_markText.f k (wrap64 ((wrap64 ((wrap64 ((wrap64 ((wrap64 (x1 + 1)) + 1)) + 1)) + 1)) + 1))).bind fun t591 => (laws_markPairS.l0 k (y590.set (x5 : Int).toNat (⟨(⟨(rd_T112 y590 x5).f0.f0, (rd_T112 y590 x5).f0.f1, (rd_T112 y590 x5).f0.f2⟩ : S32), (⟨(rd_T112 y590 x5).f1.f0, (rd_T112 y590 x5).f1.f1, t591⟩ : S32)⟩ : S112)) (wrap64 ((wrap64 ((wrap64 ((wrap64 ((wrap64 ((wrap64 (x1 + 1)) + 1)) + 1)) + 1)) + 1)) + 1)) (wrap64 (x5 + 1)))))))))) else (none)) else (some (x1, x0))
def laws_markPairS.f (k : Nat) (l0 : List (S112)) (a1 : Int) : Option (Int × (List (S112))) := laws_markPairS.l0 k l0 a1 0
theorem laws_markPairS.mono_l : ∀ k, (∀ y0 y1 y2, LeO (laws_markPairS.l0 k y0 y1 y2) (laws_markPairS.l0 (k + 1) y0 y1 y2))
  | 0 => fun _ _ _ r h => by simp [laws_markPairS.l0] at h
  | k + 1 => by
    have ih0 := laws_markPairS.mono_l k
    · intro y0 y1 y2
      unfold laws_markPairS.l0
      repeat' first
      | (with_reducible exact ih0 _ _ _)
      | (with_reducible exact laws_markText.mono _ _)
      | (with_reducible exact LeO.refl _)
      | (with_reducible exact LeO.none _)
      | (with_reducible refine LeO.ite ?_ ?_)
      | (with_reducible refine LeO.bind ?_ (fun _ => ?_))
      | exact ih0 _ _ _
      | exact laws_markText.mono _ _
      | exact LeO.none _
      | refine LeO.ite ?_ ?_
      | refine LeO.bind ?_ (fun _ => ?_)
theorem laws_markPairS.mono : ∀ a0 a1 k, LeO (laws_markPairS.f k a0 a1) (laws_markPairS.f (k + 1) a0 a1) := by
  intro a0 a1 k
  have ih0 := laws_markPairS.mono_l k
  unfold laws_markPairS.f
  repeat' first
      | (with_reducible exact ih0 _ _ _)
      | (with_reducible exact laws_markText.mono _ _)
      | (with_reducible exact LeO.refl _)
      | (with_reducible exact LeO.none _)
      | (with_reducible refine LeO.ite ?_ ?_)
      | (with_reducible refine LeO.bind ?_ (fun _ => ?_))
      | exact ih0 _ _ _
      | exact laws_markText.mono _ _
      | exact LeO.none _
      | refine LeO.ite ?_ ?_
      | refine LeO.bind ?_ (fun _ => ?_)
set_option maxHeartbeats 8000000 in
set_option maxRecDepth 100000 in
theorem laws_markPairS.calls (k : Nat) (P0_ : Nat → Prop) (u9000_ : Value) (l0 : List (S112)) (a1 : Int) (r1 : Int) (r2 : List (S112)) (w0 w : World) (hB : Below w0.heap.size w0 w) (ho0 : Kd.R k112 112 w w0.heap.size P0_ u9000_ l0) (h : laws_markPairS.f k l0 a1 = some (r1, r2)) :
    Calls Tryd.prog 38 #[u9000_, .int .i64 a1] w fun e w' => e = .returned (.int .i64 r1) ∧ Kd.R k112 112 w' w0.heap.size (fun k_ => (P0_ k_ ∨ w.heap.size ≤ k_)) u9000_ r2 ∧ Below w0.heap.size w0 w' ∧ Kept w w' (fun k_ => P0_ k_) := by
  have HO0 := ak (show Kd.R k112 112 w w0.heap.size (fun k_ => (P0_ k_ ∨ w.heap.size ≤ k_)) u9000_ l0 from Kd.R_mono ho0 (fun k_ hk => (.inl hk)))
  have HK := ak (Kept.refl w (fun k_ => P0_ k_))
  have HW0 := ak hB.size
  have HB := ak hB
  clear hB
  have H : (laws_markPairS.l0 k l0 a1 0) = some (r1, r2) := h
  clear h
  have H' := ak H
  clear H
  go_enter Tryd.func38, Tryd.ntmps38
  go_wp2
  go_loopg [1, 5] k (fun kq v1 v5 w' => ∃ (x0_1 : List (S112)) (x1_1 : Int) (x5_1 : Int), v1 = .int .i64 x1_1 ∧ v5 = .int .i64 x5_1 ∧ Aside0 (laws_markPairS.l0 kq x0_1 x1_1 x5_1 = some (r1, r2)) ∧ Aside0 (kq ≤ k) ∧ Aside0 (Kd.R k112 112 w' w0.heap.size (fun k_ => (P0_ k_ ∨ w.heap.size ≤ k_)) u9000_ x0_1) ∧ Aside0 (Kept w w' (fun k_ => P0_ k_)) ∧ Aside0 (Below w0.heap.size w0 w'))
  case atStart => exact ⟨(l0), (a1), (0), d26_5, d26_5, H', ⟨Nat.le_refl _⟩, ⟨by (with_reducible repeat (first | apply Kd.R_alloc | apply Kd.R_drewN | apply Kd.R_drew)); exact HO0.out⟩, ⟨by repeat (first | (with_reducible first | exact HK.out | apply Kept.alloc | apply Kept.drewN | apply Kept.drew) | exact HK.out)⟩, ⟨by repeat (first | (with_reducible first | exact HB.out | apply below_alloc | apply pw_below_drewN | apply below_drew1) | exact HB.out)⟩⟩
  case round =>
   clear H'
   try clear p2
   obtain ⟨x0_1, x1_1, x5_1, rfl, rfl, HA, HK1, HO_0, HK, HB⟩ := hrel
   cases gk with
   | zero => exact absurd HA.out (by simp [laws_markPairS.l0])
   | succ k1 =>
    have H := HA.out
    clear HA
    simp only [laws_markPairS.l0] at H
    by_cases c3 : x5_1 < (x0_1.length : Int)
    ·rw [if_pos c3] at H
     have c3b0 : decide (x5_1 < (x0_1.length : Int)) = true := decide_eq_true c3
     clear c3
     by_cases c4 : 0 ≤ x5_1
     ·rw [if_pos c4] at H
      have c4b0 : decide (0 ≤ x5_1) = true := decide_eq_true c4
      clear c4
      obtain ⟨y585, hy585⟩ : ∃ y_ : List (S112), y_ = (x0_1.set (x5_1 : Int).toNat (⟨(⟨x1_1, (rd_T112 x0_1 x5_1).f0.f1, (rd_T112 x0_1 x5_1).f0.f2⟩ : S32), (⟨(rd_T112 x0_1 x5_1).f1.f0, (rd_T112 x0_1 x5_1).f1.f1, (rd_T112 x0_1 x5_1).f1.f2⟩ : S32)⟩ : S112)) := ⟨_, rfl⟩
      replace H : ((some (y585.set (x5_1 : Int).toNat (⟨(⟨(rd_T112 y585 x5_1).f0.f0, wrap64 (x1_1 + 1), (rd_T112 y585 x5_1).f0.f2⟩ : S32), (⟨(rd_T112 y585 x5_1).f1.f0, (rd_T112 y585 x5_1).f1.f1, (rd_T112 y585 x5_1).f1.f2⟩ : S32)⟩ : S112) : List (S112))).bind fun y586 => ((laws_markText.f k1 (wrap64 ((wrap64 (x1_1 + 1)) + 1))).bind fun t587 => ((some (y586.set (x5_1 : Int).toNat (⟨(⟨(rd_T112 y586 x5_1).f0.f0, (rd_T112 y586 x5_1).f0.f1, t587⟩ : S32), (⟨(rd_T112 y586 x5_1).f1.f0, (rd_T112 y586 x5_1).f1.f1, (rd_T112 y586 x5_1).f1.f2⟩ : S32)⟩ : S112) : List (S112))).bind fun y588 => ((some (y588.set (x5_1 : Int).toNat (⟨(⟨(rd_T112 y588 x5_1).f0.f0, (rd_T112 y588 x5_1).f0.f1, (rd_T112 y588 x5_1).f0.f2⟩ : S32), (⟨wrap64 ((wrap64 ((wrap64 (x1_1 + 1)) + 1)) + 1), (rd_T112 y588 x5_1).f1.f1, (rd_T112 y588 x5_1).f1.f2⟩ : S32)⟩ : S112) : List (S112))).bind fun y589 => ((some (y589.set (x5_1 : Int).toNat (⟨(⟨(rd_T112 y589 x5_1).f0.f0, (rd_T112 y589 x5_1).f0.f1, (rd_T112 y589 x5_1).f0.f2⟩ : S32), (⟨(rd_T112 y589 x5_1).f1.f0, wrap64 ((wrap64 ((wrap64 ((wrap64 (x1_1 + 1)) + 1)) + 1)) + 1), (rd_T112 y589 x5_1).f1.f2⟩ : S32)⟩ : S112) : List (S112))).bind fun y590 => ((laws_markText.f k1 (wrap64 ((wrap64 ((wrap64 ((wrap64 ((wrap64 (x1_1 + 1)) + 1)) + 1)) + 1)) + 1))).bind fun t591 => (laws_markPairS.l0 k1 (y590.set (x5_1 : Int).toNat (⟨(⟨(rd_T112 y590 x5_1).f0.f0, (rd_T112 y590 x5_1).f0.f1, (rd_T112 y590 x5_1).f0.f2⟩ : S32), (⟨(rd_T112 y590 x5_1).f1.f0, (rd_T112 y590 x5_1).f1.f1, t591⟩ : S32)⟩ : S112)) (wrap64 ((wrap64 ((wrap64 ((wrap64 ((wrap64 ((wrap64 (x1_1 + 1)) + 1)) + 1)) + 1)) + 1)) + 1)) (wrap64 (x5_1 + 1))))))))) = some (r1, r2) := by first | (rw [hy585]; with_reducible exact H) | (have H2_ := (Option.bind_some _ _).symm.trans H; rw [hy585]; with_reducible exact H2_) | (have H2_ := (Option.bind_some _ _).symm.trans H; with_reducible exact H2_) | with_reducible exact H | (rw [hy585]; exact H) | exact H
      have Ny585 := ak hy585
      clear hy585
      obtain ⟨y586, hy586⟩ : ∃ y_ : List (S112), y_ = (y585.set (x5_1 : Int).toNat (⟨(⟨(rd_T112 y585 x5_1).f0.f0, wrap64 (x1_1 + 1), (rd_T112 y585 x5_1).f0.f2⟩ : S32), (⟨(rd_T112 y585 x5_1).f1.f0, (rd_T112 y585 x5_1).f1.f1, (rd_T112 y585 x5_1).f1.f2⟩ : S32)⟩ : S112)) := ⟨_, rfl⟩
      replace H : ((laws_markText.f k1 (wrap64 ((wrap64 (x1_1 + 1)) + 1))).bind fun t587 => ((some (y586.set (x5_1 : Int).toNat (⟨(⟨(rd_T112 y586 x5_1).f0.f0, (rd_T112 y586 x5_1).f0.f1, t587⟩ : S32), (⟨(rd_T112 y586 x5_1).f1.f0, (rd_T112 y586 x5_1).f1.f1, (rd_T112 y586 x5_1).f1.f2⟩ : S32)⟩ : S112) : List (S112))).bind fun y588 => ((some (y588.set (x5_1 : Int).toNat (⟨(⟨(rd_T112 y588 x5_1).f0.f0, (rd_T112 y588 x5_1).f0.f1, (rd_T112 y588 x5_1).f0.f2⟩ : S32), (⟨wrap64 ((wrap64 ((wrap64 (x1_1 + 1)) + 1)) + 1), (rd_T112 y588 x5_1).f1.f1, (rd_T112 y588 x5_1).f1.f2⟩ : S32)⟩ : S112) : List (S112))).bind fun y589 => ((some (y589.set (x5_1 : Int).toNat (⟨(⟨(rd_T112 y589 x5_1).f0.f0, (rd_T112 y589 x5_1).f0.f1, (rd_T112 y589 x5_1).f0.f2⟩ : S32), (⟨(rd_T112 y589 x5_1).f1.f0, wrap64 ((wrap64 ((wrap64 ((wrap64 (x1_1 + 1)) + 1)) + 1)) + 1), (rd_T112 y589 x5_1).f1.f2⟩ : S32)⟩ : S112) : List (S112))).bind fun y590 => ((laws_markText.f k1 (wrap64 ((wrap64 ((wrap64 ((wrap64 ((wrap64 (x1_1 + 1)) + 1)) + 1)) + 1)) + 1))).bind fun t591 => (laws_markPairS.l0 k1 (y590.set (x5_1 : Int).toNat (⟨(⟨(rd_T112 y590 x5_1).f0.f0, (rd_T112 y590 x5_1).f0.f1, (rd_T112 y590 x5_1).f0.f2⟩ : S32), (⟨(rd_T112 y590 x5_1).f1.f0, (rd_T112 y590 x5_1).f1.f1, t591⟩ : S32)⟩ : S112)) (wrap64 ((wrap64 ((wrap64 ((wrap64 ((wrap64 ((wrap64 (x1_1 + 1)) + 1)) + 1)) + 1)) + 1)) + 1)) (wrap64 (x5_1 + 1)))))))) = some (r1, r2) := by first | (rw [hy586]; with_reducible exact H) | (have H2_ := (Option.bind_some _ _).symm.trans H; rw [hy586]; with_reducible exact H2_) | (have H2_ := (Option.bind_some _ _).symm.trans H; with_reducible exact H2_) | with_reducible exact H | (rw [hy586]; exact H) | exact H
      have Ny586 := ak hy586
      clear hy586
      replace H := Option.bind_eq_some_iff.mp H
      obtain ⟨t587, A70, H⟩ := H
      replace H : ((some (y586.set (x5_1 : Int).toNat (⟨(⟨(rd_T112 y586 x5_1).f0.f0, (rd_T112 y586 x5_1).f0.f1, t587⟩ : S32), (⟨(rd_T112 y586 x5_1).f1.f0, (rd_T112 y586 x5_1).f1.f1, (rd_T112 y586 x5_1).f1.f2⟩ : S32)⟩ : S112) : List (S112))).bind fun y588 => ((some (y588.set (x5_1 : Int).toNat (⟨(⟨(rd_T112 y588 x5_1).f0.f0, (rd_T112 y588 x5_1).f0.f1, (rd_T112 y588 x5_1).f0.f2⟩ : S32), (⟨wrap64 ((wrap64 ((wrap64 (x1_1 + 1)) + 1)) + 1), (rd_T112 y588 x5_1).f1.f1, (rd_T112 y588 x5_1).f1.f2⟩ : S32)⟩ : S112) : List (S112))).bind fun y589 => ((some (y589.set (x5_1 : Int).toNat (⟨(⟨(rd_T112 y589 x5_1).f0.f0, (rd_T112 y589 x5_1).f0.f1, (rd_T112 y589 x5_1).f0.f2⟩ : S32), (⟨(rd_T112 y589 x5_1).f1.f0, wrap64 ((wrap64 ((wrap64 ((wrap64 (x1_1 + 1)) + 1)) + 1)) + 1), (rd_T112 y589 x5_1).f1.f2⟩ : S32)⟩ : S112) : List (S112))).bind fun y590 => ((laws_markText.f k1 (wrap64 ((wrap64 ((wrap64 ((wrap64 ((wrap64 (x1_1 + 1)) + 1)) + 1)) + 1)) + 1))).bind fun t591 => (laws_markPairS.l0 k1 (y590.set (x5_1 : Int).toNat (⟨(⟨(rd_T112 y590 x5_1).f0.f0, (rd_T112 y590 x5_1).f0.f1, (rd_T112 y590 x5_1).f0.f2⟩ : S32), (⟨(rd_T112 y590 x5_1).f1.f0, (rd_T112 y590 x5_1).f1.f1, t591⟩ : S32)⟩ : S112)) (wrap64 ((wrap64 ((wrap64 ((wrap64 ((wrap64 ((wrap64 (x1_1 + 1)) + 1)) + 1)) + 1)) + 1)) + 1)) (wrap64 (x5_1 + 1))))))) = some (r1, r2) := H
      have A7 := ak A70
      clear A70
      obtain ⟨y588, hy588⟩ : ∃ y_ : List (S112), y_ = (y586.set (x5_1 : Int).toNat (⟨(⟨(rd_T112 y586 x5_1).f0.f0, (rd_T112 y586 x5_1).f0.f1, t587⟩ : S32), (⟨(rd_T112 y586 x5_1).f1.f0, (rd_T112 y586 x5_1).f1.f1, (rd_T112 y586 x5_1).f1.f2⟩ : S32)⟩ : S112)) := ⟨_, rfl⟩
      replace H : ((some (y588.set (x5_1 : Int).toNat (⟨(⟨(rd_T112 y588 x5_1).f0.f0, (rd_T112 y588 x5_1).f0.f1, (rd_T112 y588 x5_1).f0.f2⟩ : S32), (⟨wrap64 ((wrap64 ((wrap64 (x1_1 + 1)) + 1)) + 1), (rd_T112 y588 x5_1).f1.f1, (rd_T112 y588 x5_1).f1.f2⟩ : S32)⟩ : S112) : List (S112))).bind fun y589 => ((some (y589.set (x5_1 : Int).toNat (⟨(⟨(rd_T112 y589 x5_1).f0.f0, (rd_T112 y589 x5_1).f0.f1, (rd_T112 y589 x5_1).f0.f2⟩ : S32), (⟨(rd_T112 y589 x5_1).f1.f0, wrap64 ((wrap64 ((wrap64 ((wrap64 (x1_1 + 1)) + 1)) + 1)) + 1), (rd_T112 y589 x5_1).f1.f2⟩ : S32)⟩ : S112) : List (S112))).bind fun y590 => ((laws_markText.f k1 (wrap64 ((wrap64 ((wrap64 ((wrap64 ((wrap64 (x1_1 + 1)) + 1)) + 1)) + 1)) + 1))).bind fun t591 => (laws_markPairS.l0 k1 (y590.set (x5_1 : Int).toNat (⟨(⟨(rd_T112 y590 x5_1).f0.f0, (rd_T112 y590 x5_1).f0.f1, (rd_T112 y590 x5_1).f0.f2⟩ : S32), (⟨(rd_T112 y590 x5_1).f1.f0, (rd_T112 y590 x5_1).f1.f1, t591⟩ : S32)⟩ : S112)) (wrap64 ((wrap64 ((wrap64 ((wrap64 ((wrap64 ((wrap64 (x1_1 + 1)) + 1)) + 1)) + 1)) + 1)) + 1)) (wrap64 (x5_1 + 1)))))) = some (r1, r2) := by first | (rw [hy588]; with_reducible exact H) | (have H2_ := (Option.bind_some _ _).symm.trans H; rw [hy588]; with_reducible exact H2_) | (have H2_ := (Option.bind_some _ _).symm.trans H; with_reducible exact H2_) | with_reducible exact H | (rw [hy588]; exact H) | exact H
      have Ny588 := ak hy588
      clear hy588
      obtain ⟨y589, hy589⟩ : ∃ y_ : List (S112), y_ = (y588.set (x5_1 : Int).toNat (⟨(⟨(rd_T112 y588 x5_1).f0.f0, (rd_T112 y588 x5_1).f0.f1, (rd_T112 y588 x5_1).f0.f2⟩ : S32), (⟨wrap64 ((wrap64 ((wrap64 (x1_1 + 1)) + 1)) + 1), (rd_T112 y588 x5_1).f1.f1, (rd_T112 y588 x5_1).f1.f2⟩ : S32)⟩ : S112)) := ⟨_, rfl⟩
      replace H : ((some (y589.set (x5_1 : Int).toNat (⟨(⟨(rd_T112 y589 x5_1).f0.f0, (rd_T112 y589 x5_1).f0.f1, (rd_T112 y589 x5_1).f0.f2⟩ : S32), (⟨(rd_T112 y589 x5_1).f1.f0, wrap64 ((wrap64 ((wrap64 ((wrap64 (x1_1 + 1)) + 1)) + 1)) + 1), (rd_T112 y589 x5_1).f1.f2⟩ : S32)⟩ : S112) : List (S112))).bind fun y590 => ((laws_markText.f k1 (wrap64 ((wrap64 ((wrap64 ((wrap64 ((wrap64 (x1_1 + 1)) + 1)) + 1)) + 1)) + 1))).bind fun t591 => (laws_markPairS.l0 k1 (y590.set (x5_1 : Int).toNat (⟨(⟨(rd_T112 y590 x5_1).f0.f0, (rd_T112 y590 x5_1).f0.f1, (rd_T112 y590 x5_1).f0.f2⟩ : S32), (⟨(rd_T112 y590 x5_1).f1.f0, (rd_T112 y590 x5_1).f1.f1, t591⟩ : S32)⟩ : S112)) (wrap64 ((wrap64 ((wrap64 ((wrap64 ((wrap64 ((wrap64 (x1_1 + 1)) + 1)) + 1)) + 1)) + 1)) + 1)) (wrap64 (x5_1 + 1))))) = some (r1, r2) := by first | (rw [hy589]; with_reducible exact H) | (have H2_ := (Option.bind_some _ _).symm.trans H; rw [hy589]; with_reducible exact H2_) | (have H2_ := (Option.bind_some _ _).symm.trans H; with_reducible exact H2_) | with_reducible exact H | (rw [hy589]; exact H) | exact H
      have Ny589 := ak hy589
      clear hy589
      obtain ⟨y590, hy590⟩ : ∃ y_ : List (S112), y_ = (y589.set (x5_1 : Int).toNat (⟨(⟨(rd_T112 y589 x5_1).f0.f0, (rd_T112 y589 x5_1).f0.f1, (rd_T112 y589 x5_1).f0.f2⟩ : S32), (⟨(rd_T112 y589 x5_1).f1.f0, wrap64 ((wrap64 ((wrap64 ((wrap64 (x1_1 + 1)) + 1)) + 1)) + 1), (rd_T112 y589 x5_1).f1.f2⟩ : S32)⟩ : S112)) := ⟨_, rfl⟩
      replace H : ((laws_markText.f k1 (wrap64 ((wrap64 ((wrap64 ((wrap64 ((wrap64 (x1_1 + 1)) + 1)) + 1)) + 1)) + 1))).bind fun t591 => (laws_markPairS.l0 k1 (y590.set (x5_1 : Int).toNat (⟨(⟨(rd_T112 y590 x5_1).f0.f0, (rd_T112 y590 x5_1).f0.f1, (rd_T112 y590 x5_1).f0.f2⟩ : S32), (⟨(rd_T112 y590 x5_1).f1.f0, (rd_T112 y590 x5_1).f1.f1, t591⟩ : S32)⟩ : S112)) (wrap64 ((wrap64 ((wrap64 ((wrap64 ((wrap64 ((wrap64 (x1_1 + 1)) + 1)) + 1)) + 1)) + 1)) + 1)) (wrap64 (x5_1 + 1)))) = some (r1, r2) := by first | (rw [hy590]; with_reducible exact H) | (have H2_ := (Option.bind_some _ _).symm.trans H; rw [hy590]; with_reducible exact H2_) | (have H2_ := (Option.bind_some _ _).symm.trans H; with_reducible exact H2_) | with_reducible exact H | (rw [hy590]; exact H) | exact H
      have Ny590 := ak hy590
      clear hy590
      replace H := Option.bind_eq_some_iff.mp H
      obtain ⟨t591, A110, H⟩ := H
      replace H : (laws_markPairS.l0 k1 (y590.set (x5_1 : Int).toNat (⟨(⟨(rd_T112 y590 x5_1).f0.f0, (rd_T112 y590 x5_1).f0.f1, (rd_T112 y590 x5_1).f0.f2⟩ : S32), (⟨(rd_T112 y590 x5_1).f1.f0, (rd_T112 y590 x5_1).f1.f1, t591⟩ : S32)⟩ : S112)) (wrap64 ((wrap64 ((wrap64 ((wrap64 ((wrap64 ((wrap64 (x1_1 + 1)) + 1)) + 1)) + 1)) + 1)) + 1)) (wrap64 (x5_1 + 1))) = some (r1, r2) := H
      have A11 := ak A110
      clear A110
      obtain ⟨y592, hy592⟩ : ∃ y_ : List (S112), y_ = (y590.set (x5_1 : Int).toNat (⟨(⟨(rd_T112 y590 x5_1).f0.f0, (rd_T112 y590 x5_1).f0.f1, (rd_T112 y590 x5_1).f0.f2⟩ : S32), (⟨(rd_T112 y590 x5_1).f1.f0, (rd_T112 y590 x5_1).f1.f1, t591⟩ : S32)⟩ : S112)) := ⟨_, rfl⟩
      replace H : (laws_markPairS.l0 k1 y592 (wrap64 ((wrap64 ((wrap64 ((wrap64 ((wrap64 ((wrap64 (x1_1 + 1)) + 1)) + 1)) + 1)) + 1)) + 1)) (wrap64 (x5_1 + 1))) = some (r1, r2) := by first | (rw [hy592]; with_reducible exact H) | (have H2_ := (Option.bind_some _ _).symm.trans H; rw [hy592]; with_reducible exact H2_) | (have H2_ := (Option.bind_some _ _).symm.trans H; with_reducible exact H2_) | with_reducible exact H | (rw [hy592]; exact H) | exact H
      have Ny592 := ak hy592
      clear hy592
      have H' := ak H
      clear H
      obtain ⟨Ao13, co13, eo13⟩ := Kd.R_slice HO_0.out
      subst eo13
      have p5 : 0 ≤ (x5_1 : Int) := of_decide_eq_true d26_1
      have q5 : (x5_1 : Int) < ((x0_1.length : Int) : Int) := of_decide_eq_true d26_1
      obtain ⟨go5, co5, eo5, gb5, gl5, cl5, HG5⟩ := Kd.R_form HO_0.out (by omega)
      (first | cases eo5 | (injection eo5 with ea_ en_ ec_; (first | subst ea_ | (injection ea_ with ea_; subst ea_)); subst ec_; clear en_))
      have GB5 := ak gb5
      have GG5 := ak HG5
      clear gb5 gl5 HG5
      have HMgo5 := ak (show (P0_ go5 ∨ w.heap.size ≤ go5) from (HO_0.out.1 _ rfl))
      obtain ⟨ce5, hcl5, hM5, hcc5, hfr5⟩ := Kd.R_elem HO_0.out z112 (x5_1 : Int) p5 q5
      obtain rfl := k112_openM hM5
      have hx5_0 : wr.cell? ⟨go5, (x5_1 : Int).toNat * 6, none⟩ = some (.int .i64 ((rd_T112 x0_1 x5_1).f0.f0)) := hcc5 0 _ rfl
      have hx5_1 : wr.cell? ⟨go5, (x5_1 : Int).toNat * 6 + 1, none⟩ = some (.int .i64 ((rd_T112 x0_1 x5_1).f0.f1)) := hcc5 1 _ rfl
      have hx5_2 : wr.cell? ⟨go5, (x5_1 : Int).toNat * 6 + 2, none⟩ = some (.string ((rd_T112 x0_1 x5_1).f0.f2)) := hcc5 2 _ rfl
      have hx5_3 : wr.cell? ⟨go5, (x5_1 : Int).toNat * 6 + 3, none⟩ = some (.int .i64 ((rd_T112 x0_1 x5_1).f1.f0)) := hcc5 3 _ rfl
      have hx5_4 : wr.cell? ⟨go5, (x5_1 : Int).toNat * 6 + 4, none⟩ = some (.int .i64 ((rd_T112 x0_1 x5_1).f1.f1)) := hcc5 4 _ rfl
      have hx5_5 : wr.cell? ⟨go5, (x5_1 : Int).toNat * 6 + 5, none⟩ = some (.string ((rd_T112 x0_1 x5_1).f1.f2)) := hcc5 5 _ rfl
      have hf5_0 : wr.frozen? ⟨go5, (x5_1 : Int).toNat * 6, none⟩ = false := hfr5 0
      have hf5_1 : wr.frozen? ⟨go5, (x5_1 : Int).toNat * 6 + 1, none⟩ = false := hfr5 1
      have hf5_2 : wr.frozen? ⟨go5, (x5_1 : Int).toNat * 6 + 2, none⟩ = false := hfr5 2
      have hf5_3 : wr.frozen? ⟨go5, (x5_1 : Int).toNat * 6 + 3, none⟩ = false := hfr5 3
      have hf5_4 : wr.frozen? ⟨go5, (x5_1 : Int).toNat * 6 + 4, none⟩ = false := hfr5 4
      have hf5_5 : wr.frozen? ⟨go5, (x5_1 : Int).toNat * 6 + 5, none⟩ = false := hfr5 5
      clear hcl5 hcc5 hfr5 hM5
      replace p5 := eq_true p5
      replace q5 := eq_true q5
      have HX14 := ak (show Kd.R k112 112 wr w0.heap.size (fun k_ => (P0_ k_ ∨ w.heap.size ≤ k_)) (.slice (some ⟨go5, 0, none⟩) x0_1.length co13) x0_1 from d26_3)
      obtain ⟨ce14, hcl14, hM14, hcc14, hfr14⟩ := Kd.R_elem HX14.out z112 (x5_1 : Int) (of_decide_eq_true d26_1) (by have h_ : (x5_1 : Int) < ((x0_1.length : Int) : Int) := of_decide_eq_true d26_1; first | exact h_ | (have e_ := (Kd.R_reads' HO_0.out).1; omega) | simpa using h_)
      obtain rfl := k112_openM hM14
      have HP14 := Kd.R_seg HX14.out (x5_1 : Int) (of_decide_eq_true d26_1) (by have h_ : (x5_1 : Int) < ((x0_1.length : Int) : Int) := of_decide_eq_true d26_1; first | exact h_ | (have e_ := (Kd.R_reads' HO_0.out).1; omega) | simpa using h_) (seg := [.int .i64 x1_1]) (j := 0) hcl14 hcc14 (show 1 ≤ 6 from by decide) (x' := (⟨(⟨x1_1, (rd_T112 x0_1 x5_1).f0.f1, (rd_T112 x0_1 x5_1).f0.f2⟩ : S32), (⟨(rd_T112 x0_1 x5_1).f1.f0, (rd_T112 x0_1 x5_1).f1.f1, (rd_T112 x0_1 x5_1).f1.f2⟩ : S32)⟩ : S112)) (k112_mkM _ _ _ (⟨(⟨x1_1, (rd_T112 x0_1 x5_1).f0.f1, (rd_T112 x0_1 x5_1).f0.f2⟩ : S32), (⟨(rd_T112 x0_1 x5_1).f1.f0, (rd_T112 x0_1 x5_1).f1.f1, (rd_T112 x0_1 x5_1).f1.f2⟩ : S32)⟩ : S112) ) (fun _ hk => hk)
      have hx14_0 := hcc14 0 _ rfl
      (try simp only [show (k112).sz = 6 from rfl, Nat.mul_one, Nat.add_zero] at hx14_0)
      have hf14_0 := hfr14 0
      (try simp only [show (k112).sz = 6 from rfl, Nat.mul_one, Nat.add_zero] at hf14_0)
      clear hcl14 hcc14 hfr14 hM14
      go_wp2_with (first | ((with_reducible refine gate_store (t := 2) (p := 17) rfl ?_); refine store_event (t := 2) (p := 17) (v := ?vo_w15) (w1 := (wr.setCell ⟨go5, (x5_1 : Int).toNat * 6, none⟩ (.int .i64 x1_1))) ?hg ?ho ?hn ?hr ?_; (case ho => rfl); (case hg => rfl); (case hn => rfl); (case hr => first | (go_simp; done) | (go_simp; rfl)); intro w15 hw; have hg : wr.grownBy w15 (some go5) := (by rw [hw]; exact HP14.2); have hp_ : Kd.R k112 112 w15 w0.heap.size (fun k_ => (P0_ k_ ∨ w.heap.size ≤ k_)) (.slice (some ⟨go5, 0, none⟩) x0_1.length co13) y585 := (by rw [hw, Ny585.out]; exact HP14.1); clear HP14; have n0_ := ak (hp_); have n1_ := ak ((d26_7 : Below w0.heap.size w0 w15)); have n2_ := ak (Kept.of_grown (S := (fun k_ => P0_ k_)) hg d26_2 (fun k_ e_ => (HO_0.out.1 k_ e_))); clear HO_0 HB HK; have HO_0 := n0_; have HB := n1_; have HK := n2_; clear n0_ n1_ n2_ hg hw hp_; have p6 : 0 ≤ (x5_1 : Int) := of_decide_eq_true d26_1; have q6 : (x5_1 : Int) < ((x0_1.length : Int) : Int) := of_decide_eq_true d26_1; obtain ⟨ce6, hcl6, hM6, hcc6, hfr6⟩ := Kd.R_elem HO_0.out z112 (x5_1 : Int) p6 q6; obtain rfl := k112_openM hM6; have hx6_0 : w15.cell? ⟨go5, (x5_1 : Int).toNat * 6, none⟩ = some (.int .i64 ((rd_T112 y585 x5_1).f0.f0)) := hcc6 0 _ rfl; have hx6_1 : w15.cell? ⟨go5, (x5_1 : Int).toNat * 6 + 1, none⟩ = some (.int .i64 ((rd_T112 y585 x5_1).f0.f1)) := hcc6 1 _ rfl; have hx6_2 : w15.cell? ⟨go5, (x5_1 : Int).toNat * 6 + 2, none⟩ = some (.string ((rd_T112 y585 x5_1).f0.f2)) := hcc6 2 _ rfl; have hx6_3 : w15.cell? ⟨go5, (x5_1 : Int).toNat * 6 + 3, none⟩ = some (.int .i64 ((rd_T112 y585 x5_1).f1.f0)) := hcc6 3 _ rfl; have hx6_4 : w15.cell? ⟨go5, (x5_1 : Int).toNat * 6 + 4, none⟩ = some (.int .i64 ((rd_T112 y585 x5_1).f1.f1)) := hcc6 4 _ rfl; have hx6_5 : w15.cell? ⟨go5, (x5_1 : Int).toNat * 6 + 5, none⟩ = some (.string ((rd_T112 y585 x5_1).f1.f2)) := hcc6 5 _ rfl; have hf6_0 : w15.frozen? ⟨go5, (x5_1 : Int).toNat * 6, none⟩ = false := hfr6 0; have hf6_1 : w15.frozen? ⟨go5, (x5_1 : Int).toNat * 6 + 1, none⟩ = false := hfr6 1; have hf6_2 : w15.frozen? ⟨go5, (x5_1 : Int).toNat * 6 + 2, none⟩ = false := hfr6 2; have hf6_3 : w15.frozen? ⟨go5, (x5_1 : Int).toNat * 6 + 3, none⟩ = false := hfr6 3; have hf6_4 : w15.frozen? ⟨go5, (x5_1 : Int).toNat * 6 + 4, none⟩ = false := hfr6 4; have hf6_5 : w15.frozen? ⟨go5, (x5_1 : Int).toNat * 6 + 5, none⟩ = false := hfr6 5; clear hcl6 hcc6 hfr6 hM6; replace p6 := eq_true p6; replace q6 := eq_true q6; have HX16 := ak (show Kd.R k112 112 w15 w0.heap.size (fun k_ => (P0_ k_ ∨ w.heap.size ≤ k_)) (.slice (some ⟨go5, 0, none⟩) x0_1.length co13) y585 from d26_3); obtain ⟨ce16, hcl16, hM16, hcc16, hfr16⟩ := Kd.R_elem HX16.out z112 (x5_1 : Int) (of_decide_eq_true d26_1) (by have h_ : (x5_1 : Int) < ((x0_1.length : Int) : Int) := of_decide_eq_true d26_1; first | exact h_ | (have e_ := (Kd.R_reads' HO_0.out).1; omega) | simpa using h_); obtain rfl := k112_openM hM16; have HP16 := Kd.R_seg HX16.out (x5_1 : Int) (of_decide_eq_true d26_1) (by have h_ : (x5_1 : Int) < ((x0_1.length : Int) : Int) := of_decide_eq_true d26_1; first | exact h_ | (have e_ := (Kd.R_reads' HO_0.out).1; omega) | simpa using h_) (seg := [.int .i64 (wrap64 (x1_1 + 1))]) (j := 1) hcl16 hcc16 (show 2 ≤ 6 from by decide) (x' := (⟨(⟨(rd_T112 y585 x5_1).f0.f0, wrap64 (x1_1 + 1), (rd_T112 y585 x5_1).f0.f2⟩ : S32), (⟨(rd_T112 y585 x5_1).f1.f0, (rd_T112 y585 x5_1).f1.f1, (rd_T112 y585 x5_1).f1.f2⟩ : S32)⟩ : S112)) (k112_mkM _ _ _ (⟨(⟨(rd_T112 y585 x5_1).f0.f0, wrap64 (x1_1 + 1), (rd_T112 y585 x5_1).f0.f2⟩ : S32), (⟨(rd_T112 y585 x5_1).f1.f0, (rd_T112 y585 x5_1).f1.f1, (rd_T112 y585 x5_1).f1.f2⟩ : S32)⟩ : S112) ) (fun _ hk => hk); have hx16_1 := hcc16 1 _ rfl; (try simp only [show (k112).sz = 6 from rfl, Nat.mul_one, Nat.add_zero] at hx16_1); have hf16_1 := hfr16 1; (try simp only [show (k112).sz = 6 from rfl, Nat.mul_one, Nat.add_zero] at hf16_1); clear hcl16 hcc16 hfr16 hM16) | ((with_reducible refine gate_store (t := 2) (p := 25) rfl ?_); refine store_event (t := 2) (p := 25) (v := ?vo_w17) (w1 := (w15.setCell ⟨go5, (x5_1 : Int).toNat * 6 + 1, none⟩ (.int .i64 (wrap64 (x1_1 + 1))))) ?hg ?ho ?hn ?hr ?_; (case ho => rfl); (case hg => rfl); (case hn => rfl); (case hr => first | (go_simp; done) | (go_simp; rfl)); intro w17 hw; have hg : w15.grownBy w17 (some go5) := (by rw [hw]; exact HP16.2); have hp_ : Kd.R k112 112 w17 w0.heap.size (fun k_ => (P0_ k_ ∨ w.heap.size ≤ k_)) (.slice (some ⟨go5, 0, none⟩) x0_1.length co13) y586 := (by rw [hw, Ny586.out]; exact HP16.1); clear HP16; have n0_ := ak (hp_); have n1_ := ak ((d26_7 : Below w0.heap.size w0 w17)); have n2_ := ak (Kept.of_grown (S := (fun k_ => P0_ k_)) hg d26_2 (fun k_ e_ => (HO_0.out.1 k_ e_))); clear HO_0 HB HK; have HO_0 := n0_; have HB := n1_; have HK := n2_; clear n0_ n1_ n2_ hg hw hp_) | ((with_reducible refine gate_callee (f := 66) rfl ?_); refine goesL_ (some 31) rfl rfl Tryd.func66 (by kernel_rfl) rfl #[.int .i64 (wrap64 ((wrap64 (x1_1 + 1)) + 1))] rfl d26_6 ?_; (with_reducible refine (laws_markText.calls k1 (wrap64 ((wrap64 (x1_1 + 1)) + 1)) t587 _ A7.out).mono ?_); rintro e w18 ⟨rfl, hb⟩; refine ⟨_, rfl, ?_⟩; have n0_ := ak (Kd.R_below d26_3 hb); have n1_ := ak (Kept.below (S := (fun k_ => P0_ k_)) d26_2 hb); have n2_ := ak (below_step d26_4 hb); clear HO_0 HK HB; have HO_0 := n0_; have HK := n1_; have HB := n2_; clear n0_ n1_ n2_; (try clear hb); (try clear hk); have p8 : 0 ≤ (x5_1 : Int) := of_decide_eq_true d26_1; have q8 : (x5_1 : Int) < ((x0_1.length : Int) : Int) := of_decide_eq_true d26_1; obtain ⟨ce8, hcl8, hM8, hcc8, hfr8⟩ := Kd.R_elem HO_0.out z112 (x5_1 : Int) p8 q8; obtain rfl := k112_openM hM8; have hx8_0 : w18.cell? ⟨go5, (x5_1 : Int).toNat * 6, none⟩ = some (.int .i64 ((rd_T112 y586 x5_1).f0.f0)) := hcc8 0 _ rfl; have hx8_1 : w18.cell? ⟨go5, (x5_1 : Int).toNat * 6 + 1, none⟩ = some (.int .i64 ((rd_T112 y586 x5_1).f0.f1)) := hcc8 1 _ rfl; have hx8_2 : w18.cell? ⟨go5, (x5_1 : Int).toNat * 6 + 2, none⟩ = some (.string ((rd_T112 y586 x5_1).f0.f2)) := hcc8 2 _ rfl; have hx8_3 : w18.cell? ⟨go5, (x5_1 : Int).toNat * 6 + 3, none⟩ = some (.int .i64 ((rd_T112 y586 x5_1).f1.f0)) := hcc8 3 _ rfl; have hx8_4 : w18.cell? ⟨go5, (x5_1 : Int).toNat * 6 + 4, none⟩ = some (.int .i64 ((rd_T112 y586 x5_1).f1.f1)) := hcc8 4 _ rfl; have hx8_5 : w18.cell? ⟨go5, (x5_1 : Int).toNat * 6 + 5, none⟩ = some (.string ((rd_T112 y586 x5_1).f1.f2)) := hcc8 5 _ rfl; have hf8_0 : w18.frozen? ⟨go5, (x5_1 : Int).toNat * 6, none⟩ = false := hfr8 0; have hf8_1 : w18.frozen? ⟨go5, (x5_1 : Int).toNat * 6 + 1, none⟩ = false := hfr8 1; have hf8_2 : w18.frozen? ⟨go5, (x5_1 : Int).toNat * 6 + 2, none⟩ = false := hfr8 2; have hf8_3 : w18.frozen? ⟨go5, (x5_1 : Int).toNat * 6 + 3, none⟩ = false := hfr8 3; have hf8_4 : w18.frozen? ⟨go5, (x5_1 : Int).toNat * 6 + 4, none⟩ = false := hfr8 4; have hf8_5 : w18.frozen? ⟨go5, (x5_1 : Int).toNat * 6 + 5, none⟩ = false := hfr8 5; clear hcl8 hcc8 hfr8 hM8; replace p8 := eq_true p8; replace q8 := eq_true q8; have HX19 := ak (show Kd.R k112 112 w18 w0.heap.size (fun k_ => (P0_ k_ ∨ w.heap.size ≤ k_)) (.slice (some ⟨go5, 0, none⟩) x0_1.length co13) y586 from d26_3); obtain ⟨ce19, hcl19, hM19, hcc19, hfr19⟩ := Kd.R_elem HX19.out z112 (x5_1 : Int) (of_decide_eq_true d26_1) (by have h_ : (x5_1 : Int) < ((x0_1.length : Int) : Int) := of_decide_eq_true d26_1; first | exact h_ | (have e_ := (Kd.R_reads' HO_0.out).1; omega) | simpa using h_); obtain rfl := k112_openM hM19; have HP19 := Kd.R_seg HX19.out (x5_1 : Int) (of_decide_eq_true d26_1) (by have h_ : (x5_1 : Int) < ((x0_1.length : Int) : Int) := of_decide_eq_true d26_1; first | exact h_ | (have e_ := (Kd.R_reads' HO_0.out).1; omega) | simpa using h_) (seg := [.string t587]) (j := 2) hcl19 hcc19 (show 3 ≤ 6 from by decide) (x' := (⟨(⟨(rd_T112 y586 x5_1).f0.f0, (rd_T112 y586 x5_1).f0.f1, t587⟩ : S32), (⟨(rd_T112 y586 x5_1).f1.f0, (rd_T112 y586 x5_1).f1.f1, (rd_T112 y586 x5_1).f1.f2⟩ : S32)⟩ : S112)) (k112_mkM _ _ _ (⟨(⟨(rd_T112 y586 x5_1).f0.f0, (rd_T112 y586 x5_1).f0.f1, t587⟩ : S32), (⟨(rd_T112 y586 x5_1).f1.f0, (rd_T112 y586 x5_1).f1.f1, (rd_T112 y586 x5_1).f1.f2⟩ : S32)⟩ : S112) ) (fun _ hk => hk); have hx19_2 := hcc19 2 _ rfl; (try simp only [show (k112).sz = 6 from rfl, Nat.mul_one, Nat.add_zero] at hx19_2); have hf19_2 := hfr19 2; (try simp only [show (k112).sz = 6 from rfl, Nat.mul_one, Nat.add_zero] at hf19_2); clear hcl19 hcc19 hfr19 hM19) | ((with_reducible refine gate_store (t := 9) (p := 34) rfl ?_); refine store_event (t := 9) (p := 34) (v := ?vo_w20) (w1 := (w18.setCell ⟨go5, (x5_1 : Int).toNat * 6 + 2, none⟩ (.string t587))) ?hg ?ho ?hn ?hr ?_; (case ho => rfl); (case hg => rfl); (case hn => rfl); (case hr => first | (go_simp; done) | (go_simp; rfl)); intro w20 hw; have hg : w18.grownBy w20 (some go5) := (by rw [hw]; exact HP19.2); have hp_ : Kd.R k112 112 w20 w0.heap.size (fun k_ => (P0_ k_ ∨ w.heap.size ≤ k_)) (.slice (some ⟨go5, 0, none⟩) x0_1.length co13) y588 := (by rw [hw, Ny588.out]; exact HP19.1); clear HP19; have n0_ := ak (hp_); have n1_ := ak ((d26_7 : Below w0.heap.size w0 w20)); have n2_ := ak (Kept.of_grown (S := (fun k_ => P0_ k_)) hg d26_2 (fun k_ e_ => (HO_0.out.1 k_ e_))); clear HO_0 HB HK; have HO_0 := n0_; have HB := n1_; have HK := n2_; clear n0_ n1_ n2_ hg hw hp_; have p9 : 0 ≤ (x5_1 : Int) := of_decide_eq_true d26_1; have q9 : (x5_1 : Int) < ((x0_1.length : Int) : Int) := of_decide_eq_true d26_1; obtain ⟨ce9, hcl9, hM9, hcc9, hfr9⟩ := Kd.R_elem HO_0.out z112 (x5_1 : Int) p9 q9; obtain rfl := k112_openM hM9; have hx9_0 : w20.cell? ⟨go5, (x5_1 : Int).toNat * 6, none⟩ = some (.int .i64 ((rd_T112 y588 x5_1).f0.f0)) := hcc9 0 _ rfl; have hx9_1 : w20.cell? ⟨go5, (x5_1 : Int).toNat * 6 + 1, none⟩ = some (.int .i64 ((rd_T112 y588 x5_1).f0.f1)) := hcc9 1 _ rfl; have hx9_2 : w20.cell? ⟨go5, (x5_1 : Int).toNat * 6 + 2, none⟩ = some (.string ((rd_T112 y588 x5_1).f0.f2)) := hcc9 2 _ rfl; have hx9_3 : w20.cell? ⟨go5, (x5_1 : Int).toNat * 6 + 3, none⟩ = some (.int .i64 ((rd_T112 y588 x5_1).f1.f0)) := hcc9 3 _ rfl; have hx9_4 : w20.cell? ⟨go5, (x5_1 : Int).toNat * 6 + 4, none⟩ = some (.int .i64 ((rd_T112 y588 x5_1).f1.f1)) := hcc9 4 _ rfl; have hx9_5 : w20.cell? ⟨go5, (x5_1 : Int).toNat * 6 + 5, none⟩ = some (.string ((rd_T112 y588 x5_1).f1.f2)) := hcc9 5 _ rfl; have hf9_0 : w20.frozen? ⟨go5, (x5_1 : Int).toNat * 6, none⟩ = false := hfr9 0; have hf9_1 : w20.frozen? ⟨go5, (x5_1 : Int).toNat * 6 + 1, none⟩ = false := hfr9 1; have hf9_2 : w20.frozen? ⟨go5, (x5_1 : Int).toNat * 6 + 2, none⟩ = false := hfr9 2; have hf9_3 : w20.frozen? ⟨go5, (x5_1 : Int).toNat * 6 + 3, none⟩ = false := hfr9 3; have hf9_4 : w20.frozen? ⟨go5, (x5_1 : Int).toNat * 6 + 4, none⟩ = false := hfr9 4; have hf9_5 : w20.frozen? ⟨go5, (x5_1 : Int).toNat * 6 + 5, none⟩ = false := hfr9 5; clear hcl9 hcc9 hfr9 hM9; replace p9 := eq_true p9; replace q9 := eq_true q9; have HX21 := ak (show Kd.R k112 112 w20 w0.heap.size (fun k_ => (P0_ k_ ∨ w.heap.size ≤ k_)) (.slice (some ⟨go5, 0, none⟩) x0_1.length co13) y588 from d26_3); obtain ⟨ce21, hcl21, hM21, hcc21, hfr21⟩ := Kd.R_elem HX21.out z112 (x5_1 : Int) (of_decide_eq_true d26_1) (by have h_ : (x5_1 : Int) < ((x0_1.length : Int) : Int) := of_decide_eq_true d26_1; first | exact h_ | (have e_ := (Kd.R_reads' HO_0.out).1; omega) | simpa using h_); obtain rfl := k112_openM hM21; have HP21 := Kd.R_seg HX21.out (x5_1 : Int) (of_decide_eq_true d26_1) (by have h_ : (x5_1 : Int) < ((x0_1.length : Int) : Int) := of_decide_eq_true d26_1; first | exact h_ | (have e_ := (Kd.R_reads' HO_0.out).1; omega) | simpa using h_) (seg := [.int .i64 (wrap64 ((wrap64 ((wrap64 (x1_1 + 1)) + 1)) + 1))]) (j := 3) hcl21 hcc21 (show 4 ≤ 6 from by decide) (x' := (⟨(⟨(rd_T112 y588 x5_1).f0.f0, (rd_T112 y588 x5_1).f0.f1, (rd_T112 y588 x5_1).f0.f2⟩ : S32), (⟨wrap64 ((wrap64 ((wrap64 (x1_1 + 1)) + 1)) + 1), (rd_T112 y588 x5_1).f1.f1, (rd_T112 y588 x5_1).f1.f2⟩ : S32)⟩ : S112)) (k112_mkM _ _ _ (⟨(⟨(rd_T112 y588 x5_1).f0.f0, (rd_T112 y588 x5_1).f0.f1, (rd_T112 y588 x5_1).f0.f2⟩ : S32), (⟨wrap64 ((wrap64 ((wrap64 (x1_1 + 1)) + 1)) + 1), (rd_T112 y588 x5_1).f1.f1, (rd_T112 y588 x5_1).f1.f2⟩ : S32)⟩ : S112) ) (fun _ hk => hk); have hx21_3 := hcc21 3 _ rfl; (try simp only [show (k112).sz = 6 from rfl, Nat.mul_one, Nat.add_zero] at hx21_3); have hf21_3 := hfr21 3; (try simp only [show (k112).sz = 6 from rfl, Nat.mul_one, Nat.add_zero] at hf21_3); clear hcl21 hcc21 hfr21 hM21) | ((with_reducible refine gate_store (t := 2) (p := 42) rfl ?_); refine store_event (t := 2) (p := 42) (v := ?vo_w22) (w1 := (w20.setCell ⟨go5, (x5_1 : Int).toNat * 6 + 3, none⟩ (.int .i64 (wrap64 ((wrap64 ((wrap64 (x1_1 + 1)) + 1)) + 1))))) ?hg ?ho ?hn ?hr ?_; (case ho => rfl); (case hg => rfl); (case hn => rfl); (case hr => first | (go_simp; done) | (go_simp; rfl)); intro w22 hw; have hg : w20.grownBy w22 (some go5) := (by rw [hw]; exact HP21.2); have hp_ : Kd.R k112 112 w22 w0.heap.size (fun k_ => (P0_ k_ ∨ w.heap.size ≤ k_)) (.slice (some ⟨go5, 0, none⟩) x0_1.length co13) y589 := (by rw [hw, Ny589.out]; exact HP21.1); clear HP21; have n0_ := ak (hp_); have n1_ := ak ((d26_7 : Below w0.heap.size w0 w22)); have n2_ := ak (Kept.of_grown (S := (fun k_ => P0_ k_)) hg d26_2 (fun k_ e_ => (HO_0.out.1 k_ e_))); clear HO_0 HB HK; have HO_0 := n0_; have HB := n1_; have HK := n2_; clear n0_ n1_ n2_ hg hw hp_; have p10 : 0 ≤ (x5_1 : Int) := of_decide_eq_true d26_1; have q10 : (x5_1 : Int) < ((x0_1.length : Int) : Int) := of_decide_eq_true d26_1; obtain ⟨ce10, hcl10, hM10, hcc10, hfr10⟩ := Kd.R_elem HO_0.out z112 (x5_1 : Int) p10 q10; obtain rfl := k112_openM hM10; have hx10_0 : w22.cell? ⟨go5, (x5_1 : Int).toNat * 6, none⟩ = some (.int .i64 ((rd_T112 y589 x5_1).f0.f0)) := hcc10 0 _ rfl; have hx10_1 : w22.cell? ⟨go5, (x5_1 : Int).toNat * 6 + 1, none⟩ = some (.int .i64 ((rd_T112 y589 x5_1).f0.f1)) := hcc10 1 _ rfl; have hx10_2 : w22.cell? ⟨go5, (x5_1 : Int).toNat * 6 + 2, none⟩ = some (.string ((rd_T112 y589 x5_1).f0.f2)) := hcc10 2 _ rfl; have hx10_3 : w22.cell? ⟨go5, (x5_1 : Int).toNat * 6 + 3, none⟩ = some (.int .i64 ((rd_T112 y589 x5_1).f1.f0)) := hcc10 3 _ rfl; have hx10_4 : w22.cell? ⟨go5, (x5_1 : Int).toNat * 6 + 4, none⟩ = some (.int .i64 ((rd_T112 y589 x5_1).f1.f1)) := hcc10 4 _ rfl; have hx10_5 : w22.cell? ⟨go5, (x5_1 : Int).toNat * 6 + 5, none⟩ = some (.string ((rd_T112 y589 x5_1).f1.f2)) := hcc10 5 _ rfl; have hf10_0 : w22.frozen? ⟨go5, (x5_1 : Int).toNat * 6, none⟩ = false := hfr10 0; have hf10_1 : w22.frozen? ⟨go5, (x5_1 : Int).toNat * 6 + 1, none⟩ = false := hfr10 1; have hf10_2 : w22.frozen? ⟨go5, (x5_1 : Int).toNat * 6 + 2, none⟩ = false := hfr10 2; have hf10_3 : w22.frozen? ⟨go5, (x5_1 : Int).toNat * 6 + 3, none⟩ = false := hfr10 3; have hf10_4 : w22.frozen? ⟨go5, (x5_1 : Int).toNat * 6 + 4, none⟩ = false := hfr10 4; have hf10_5 : w22.frozen? ⟨go5, (x5_1 : Int).toNat * 6 + 5, none⟩ = false := hfr10 5; clear hcl10 hcc10 hfr10 hM10; replace p10 := eq_true p10; replace q10 := eq_true q10; have HX23 := ak (show Kd.R k112 112 w22 w0.heap.size (fun k_ => (P0_ k_ ∨ w.heap.size ≤ k_)) (.slice (some ⟨go5, 0, none⟩) x0_1.length co13) y589 from d26_3); obtain ⟨ce23, hcl23, hM23, hcc23, hfr23⟩ := Kd.R_elem HX23.out z112 (x5_1 : Int) (of_decide_eq_true d26_1) (by have h_ : (x5_1 : Int) < ((x0_1.length : Int) : Int) := of_decide_eq_true d26_1; first | exact h_ | (have e_ := (Kd.R_reads' HO_0.out).1; omega) | simpa using h_); obtain rfl := k112_openM hM23; have HP23 := Kd.R_seg HX23.out (x5_1 : Int) (of_decide_eq_true d26_1) (by have h_ : (x5_1 : Int) < ((x0_1.length : Int) : Int) := of_decide_eq_true d26_1; first | exact h_ | (have e_ := (Kd.R_reads' HO_0.out).1; omega) | simpa using h_) (seg := [.int .i64 (wrap64 ((wrap64 ((wrap64 ((wrap64 (x1_1 + 1)) + 1)) + 1)) + 1))]) (j := 4) hcl23 hcc23 (show 5 ≤ 6 from by decide) (x' := (⟨(⟨(rd_T112 y589 x5_1).f0.f0, (rd_T112 y589 x5_1).f0.f1, (rd_T112 y589 x5_1).f0.f2⟩ : S32), (⟨(rd_T112 y589 x5_1).f1.f0, wrap64 ((wrap64 ((wrap64 ((wrap64 (x1_1 + 1)) + 1)) + 1)) + 1), (rd_T112 y589 x5_1).f1.f2⟩ : S32)⟩ : S112)) (k112_mkM _ _ _ (⟨(⟨(rd_T112 y589 x5_1).f0.f0, (rd_T112 y589 x5_1).f0.f1, (rd_T112 y589 x5_1).f0.f2⟩ : S32), (⟨(rd_T112 y589 x5_1).f1.f0, wrap64 ((wrap64 ((wrap64 ((wrap64 (x1_1 + 1)) + 1)) + 1)) + 1), (rd_T112 y589 x5_1).f1.f2⟩ : S32)⟩ : S112) ) (fun _ hk => hk); have hx23_4 := hcc23 4 _ rfl; (try simp only [show (k112).sz = 6 from rfl, Nat.mul_one, Nat.add_zero] at hx23_4); have hf23_4 := hfr23 4; (try simp only [show (k112).sz = 6 from rfl, Nat.mul_one, Nat.add_zero] at hf23_4); clear hcl23 hcc23 hfr23 hM23) | ((with_reducible refine gate_store (t := 2) (p := 50) rfl ?_); refine store_event (t := 2) (p := 50) (v := ?vo_w24) (w1 := (w22.setCell ⟨go5, (x5_1 : Int).toNat * 6 + 4, none⟩ (.int .i64 (wrap64 ((wrap64 ((wrap64 ((wrap64 (x1_1 + 1)) + 1)) + 1)) + 1))))) ?hg ?ho ?hn ?hr ?_; (case ho => rfl); (case hg => rfl); (case hn => rfl); (case hr => first | (go_simp; done) | (go_simp; rfl)); intro w24 hw; have hg : w22.grownBy w24 (some go5) := (by rw [hw]; exact HP23.2); have hp_ : Kd.R k112 112 w24 w0.heap.size (fun k_ => (P0_ k_ ∨ w.heap.size ≤ k_)) (.slice (some ⟨go5, 0, none⟩) x0_1.length co13) y590 := (by rw [hw, Ny590.out]; exact HP23.1); clear HP23; have n0_ := ak (hp_); have n1_ := ak ((d26_7 : Below w0.heap.size w0 w24)); have n2_ := ak (Kept.of_grown (S := (fun k_ => P0_ k_)) hg d26_2 (fun k_ e_ => (HO_0.out.1 k_ e_))); clear HO_0 HB HK; have HO_0 := n0_; have HB := n1_; have HK := n2_; clear n0_ n1_ n2_ hg hw hp_) | ((with_reducible refine gate_callee (f := 66) rfl ?_); refine goesL_ (some 56) rfl rfl Tryd.func66 (by kernel_rfl) rfl #[.int .i64 (wrap64 ((wrap64 ((wrap64 ((wrap64 ((wrap64 (x1_1 + 1)) + 1)) + 1)) + 1)) + 1))] rfl d26_6 ?_; (with_reducible refine (laws_markText.calls k1 (wrap64 ((wrap64 ((wrap64 ((wrap64 ((wrap64 (x1_1 + 1)) + 1)) + 1)) + 1)) + 1)) t591 _ A11.out).mono ?_); rintro e w25 ⟨rfl, hb⟩; refine ⟨_, rfl, ?_⟩; have n0_ := ak (Kd.R_below d26_3 hb); have n1_ := ak (Kept.below (S := (fun k_ => P0_ k_)) d26_2 hb); have n2_ := ak (below_step d26_4 hb); clear HO_0 HK HB; have HO_0 := n0_; have HK := n1_; have HB := n2_; clear n0_ n1_ n2_; (try clear hb); (try clear hk); have p12 : 0 ≤ (x5_1 : Int) := of_decide_eq_true d26_1; have q12 : (x5_1 : Int) < ((x0_1.length : Int) : Int) := of_decide_eq_true d26_1; obtain ⟨ce12, hcl12, hM12, hcc12, hfr12⟩ := Kd.R_elem HO_0.out z112 (x5_1 : Int) p12 q12; obtain rfl := k112_openM hM12; have hx12_0 : w25.cell? ⟨go5, (x5_1 : Int).toNat * 6, none⟩ = some (.int .i64 ((rd_T112 y590 x5_1).f0.f0)) := hcc12 0 _ rfl; have hx12_1 : w25.cell? ⟨go5, (x5_1 : Int).toNat * 6 + 1, none⟩ = some (.int .i64 ((rd_T112 y590 x5_1).f0.f1)) := hcc12 1 _ rfl; have hx12_2 : w25.cell? ⟨go5, (x5_1 : Int).toNat * 6 + 2, none⟩ = some (.string ((rd_T112 y590 x5_1).f0.f2)) := hcc12 2 _ rfl; have hx12_3 : w25.cell? ⟨go5, (x5_1 : Int).toNat * 6 + 3, none⟩ = some (.int .i64 ((rd_T112 y590 x5_1).f1.f0)) := hcc12 3 _ rfl; have hx12_4 : w25.cell? ⟨go5, (x5_1 : Int).toNat * 6 + 4, none⟩ = some (.int .i64 ((rd_T112 y590 x5_1).f1.f1)) := hcc12 4 _ rfl; have hx12_5 : w25.cell? ⟨go5, (x5_1 : Int).toNat * 6 + 5, none⟩ = some (.string ((rd_T112 y590 x5_1).f1.f2)) := hcc12 5 _ rfl; have hf12_0 : w25.frozen? ⟨go5, (x5_1 : Int).toNat * 6, none⟩ = false := hfr12 0; have hf12_1 : w25.frozen? ⟨go5, (x5_1 : Int).toNat * 6 + 1, none⟩ = false := hfr12 1; have hf12_2 : w25.frozen? ⟨go5, (x5_1 : Int).toNat * 6 + 2, none⟩ = false := hfr12 2; have hf12_3 : w25.frozen? ⟨go5, (x5_1 : Int).toNat * 6 + 3, none⟩ = false := hfr12 3; have hf12_4 : w25.frozen? ⟨go5, (x5_1 : Int).toNat * 6 + 4, none⟩ = false := hfr12 4; have hf12_5 : w25.frozen? ⟨go5, (x5_1 : Int).toNat * 6 + 5, none⟩ = false := hfr12 5; clear hcl12 hcc12 hfr12 hM12; replace p12 := eq_true p12; replace q12 := eq_true q12; have HX26 := ak (show Kd.R k112 112 w25 w0.heap.size (fun k_ => (P0_ k_ ∨ w.heap.size ≤ k_)) (.slice (some ⟨go5, 0, none⟩) x0_1.length co13) y590 from d26_3); obtain ⟨ce26, hcl26, hM26, hcc26, hfr26⟩ := Kd.R_elem HX26.out z112 (x5_1 : Int) (of_decide_eq_true d26_1) (by have h_ : (x5_1 : Int) < ((x0_1.length : Int) : Int) := of_decide_eq_true d26_1; first | exact h_ | (have e_ := (Kd.R_reads' HO_0.out).1; omega) | simpa using h_); obtain rfl := k112_openM hM26; have HP26 := Kd.R_seg HX26.out (x5_1 : Int) (of_decide_eq_true d26_1) (by have h_ : (x5_1 : Int) < ((x0_1.length : Int) : Int) := of_decide_eq_true d26_1; first | exact h_ | (have e_ := (Kd.R_reads' HO_0.out).1; omega) | simpa using h_) (seg := [.string t591]) (j := 5) hcl26 hcc26 (show 6 ≤ 6 from by decide) (x' := (⟨(⟨(rd_T112 y590 x5_1).f0.f0, (rd_T112 y590 x5_1).f0.f1, (rd_T112 y590 x5_1).f0.f2⟩ : S32), (⟨(rd_T112 y590 x5_1).f1.f0, (rd_T112 y590 x5_1).f1.f1, t591⟩ : S32)⟩ : S112)) (k112_mkM _ _ _ (⟨(⟨(rd_T112 y590 x5_1).f0.f0, (rd_T112 y590 x5_1).f0.f1, (rd_T112 y590 x5_1).f0.f2⟩ : S32), (⟨(rd_T112 y590 x5_1).f1.f0, (rd_T112 y590 x5_1).f1.f1, t591⟩ : S32)⟩ : S112) ) (fun _ hk => hk); have hx26_5 := hcc26 5 _ rfl; (try simp only [show (k112).sz = 6 from rfl, Nat.mul_one, Nat.add_zero] at hx26_5); have hf26_5 := hfr26 5; (try simp only [show (k112).sz = 6 from rfl, Nat.mul_one, Nat.add_zero] at hf26_5); clear hcl26 hcc26 hfr26 hM26) | ((with_reducible refine gate_store (t := 9) (p := 59) rfl ?_); refine store_event (t := 9) (p := 59) (v := ?vo_w27) (w1 := (w25.setCell ⟨go5, (x5_1 : Int).toNat * 6 + 5, none⟩ (.string t591))) ?hg ?ho ?hn ?hr ?_; (case ho => rfl); (case hg => rfl); (case hn => rfl); (case hr => first | (go_simp; done) | (go_simp; rfl)); intro w27 hw; have hg : w25.grownBy w27 (some go5) := (by rw [hw]; exact HP26.2); have hp_ : Kd.R k112 112 w27 w0.heap.size (fun k_ => (P0_ k_ ∨ w.heap.size ≤ k_)) (.slice (some ⟨go5, 0, none⟩) x0_1.length co13) y592 := (by rw [hw, Ny592.out]; exact HP26.1); clear HP26; have n0_ := ak (hp_); have n1_ := ak ((d26_7 : Below w0.heap.size w0 w27)); have n2_ := ak (Kept.of_grown (S := (fun k_ => P0_ k_)) hg d26_2 (fun k_ e_ => (HO_0.out.1 k_ e_))); clear HO_0 HB HK; have HO_0 := n0_; have HB := n1_; have HK := n2_; clear n0_ n1_ n2_ hg hw hp_))
      go_roundg k1
      case measure => have := HK1.out; omega
      case rel => exact ⟨(y592), (wrap64 ((wrap64 ((wrap64 ((wrap64 ((wrap64 ((wrap64 (x1_1 + 1)) + 1)) + 1)) + 1)) + 1)) + 1)), (wrap64 (x5_1 + 1)), d26_5, d26_5, H', ⟨by have := HK1.out; omega⟩, ⟨by (with_reducible repeat (first | apply Kd.R_alloc | apply Kd.R_drewN | apply Kd.R_drew)); exact HO_0.out⟩, ⟨by repeat (first | (with_reducible first | exact HK.out | apply Kept.alloc | apply Kept.drewN | apply Kept.drew) | exact HK.out)⟩, ⟨by repeat (first | (with_reducible first | exact HB.out | apply below_alloc | apply pw_below_drewN | apply below_drew1) | exact HB.out)⟩⟩
     ·rw [if_neg c4] at H
      exact absurd H (by simp)
    ·rw [if_neg c3] at H
     have c3b0 : decide (x5_1 < (x0_1.length : Int)) = false := decide_eq_false c3
     clear c3
     simp only [Option.some.injEq, Prod.mk.injEq] at H
     obtain ⟨rfl, rfl⟩ := H
     obtain ⟨Ao28, co28, eo28⟩ := Kd.R_slice HO_0.out
     subst eo28
     go_wp2
     go_ret
     exact ⟨by first | rfl | (simp [errW_none, errW_some] <;> rfl) | (simp [*, errW_none, errW_some] <;> rfl), by (with_reducible repeat (first | apply Kd.R_alloc | apply Kd.R_drewN | apply Kd.R_drew)); exact HO_0.out, by repeat (first | (with_reducible first | exact HB.out | apply below_alloc | apply pw_below_drewN | apply below_drew1) | exact HB.out), by repeat (first | (with_reducible first | exact HK.out | apply Kept.alloc | apply Kept.drewN | apply Kept.drew) | exact HK.out)⟩

/-! ### laws_markValueS: function 79 -/
def laws_markValueS.l0 : Nat → List (S32) → Int → Int → Option (Int × (List (S32)))
  | 0, _, _, _ => none
  | k + 1, x0, x1, x5 => if x5 < (x0.length : Int) then (if 0 ≤ x5 then ((some (x0.set (x5 : Int).toNat (⟨x1, (rd_T32 x0 x5).f1, (rd_T32 x0 x5).f2⟩ : S32) : List (S32))).bind fun y593 => ((some (y593.set (x5 : Int).toNat (⟨(rd_T32 y593 x5).f0, wrap64 (x1 + 1), (rd_T32 y593 x5).f2⟩ : S32) : List (S32))).bind fun y594 => ((laws_markText.f k (wrap64 ((wrap64 (x1 + 1)) + 1))).bind fun t595 => (laws_markValueS.l0 k (y594.set (x5 : Int).toNat (⟨(rd_T32 y594 x5).f0, (rd_T32 y594 x5).f1, t595⟩ : S32)) (wrap64 ((wrap64 ((wrap64 (x1 + 1)) + 1)) + 1)) (wrap64 (x5 + 1)))))) else (none)) else (some (x1, x0))
def laws_markValueS.f (k : Nat) (l0 : List (S32)) (a1 : Int) : Option (Int × (List (S32))) := laws_markValueS.l0 k l0 a1 0
theorem laws_markValueS.mono_l : ∀ k, (∀ y0 y1 y2, LeO (laws_markValueS.l0 k y0 y1 y2) (laws_markValueS.l0 (k + 1) y0 y1 y2))
  | 0 => fun _ _ _ r h => by simp [laws_markValueS.l0] at h
  | k + 1 => by
    have ih0 := laws_markValueS.mono_l k
    · intro y0 y1 y2
      unfold laws_markValueS.l0
      repeat' first
      | (with_reducible exact ih0 _ _ _)
      | (with_reducible exact laws_markText.mono _ _)
      | (with_reducible exact LeO.refl _)
      | (with_reducible exact LeO.none _)
      | (with_reducible refine LeO.ite ?_ ?_)
      | (with_reducible refine LeO.bind ?_ (fun _ => ?_))
      | exact ih0 _ _ _
      | exact laws_markText.mono _ _
      | exact LeO.none _
      | refine LeO.ite ?_ ?_
      | refine LeO.bind ?_ (fun _ => ?_)
theorem laws_markValueS.mono : ∀ a0 a1 k, LeO (laws_markValueS.f k a0 a1) (laws_markValueS.f (k + 1) a0 a1) := by
  intro a0 a1 k
  have ih0 := laws_markValueS.mono_l k
  unfold laws_markValueS.f
  repeat' first
      | (with_reducible exact ih0 _ _ _)
      | (with_reducible exact laws_markText.mono _ _)
      | (with_reducible exact LeO.refl _)
      | (with_reducible exact LeO.none _)
      | (with_reducible refine LeO.ite ?_ ?_)
      | (with_reducible refine LeO.bind ?_ (fun _ => ?_))
      | exact ih0 _ _ _
      | exact laws_markText.mono _ _
      | exact LeO.none _
      | refine LeO.ite ?_ ?_
      | refine LeO.bind ?_ (fun _ => ?_)
set_option maxHeartbeats 8000000 in
set_option maxRecDepth 100000 in
theorem laws_markValueS.calls (k : Nat) (P0_ : Nat → Prop) (u9000_ : Value) (l0 : List (S32)) (a1 : Int) (r1 : Int) (r2 : List (S32)) (w0 w : World) (hB : Below w0.heap.size w0 w) (ho0 : Kd.R k32 32 w w0.heap.size P0_ u9000_ l0) (h : laws_markValueS.f k l0 a1 = some (r1, r2)) :
    Calls Tryd.prog 79 #[u9000_, .int .i64 a1] w fun e w' => e = .returned (.int .i64 r1) ∧ Kd.R k32 32 w' w0.heap.size (fun k_ => (P0_ k_ ∨ w.heap.size ≤ k_)) u9000_ r2 ∧ Below w0.heap.size w0 w' ∧ Kept w w' (fun k_ => P0_ k_) := by
  have HO0 := ak (show Kd.R k32 32 w w0.heap.size (fun k_ => (P0_ k_ ∨ w.heap.size ≤ k_)) u9000_ l0 from Kd.R_mono ho0 (fun k_ hk => (.inl hk)))
  have HK := ak (Kept.refl w (fun k_ => P0_ k_))
  have HW0 := ak hB.size
  have HB := ak hB
  clear hB
  have H : (laws_markValueS.l0 k l0 a1 0) = some (r1, r2) := h
  clear h
  have H' := ak H
  clear H
  go_enter Tryd.func79, Tryd.ntmps79
  go_wp2
  go_loopg [1, 5] k (fun kq v1 v5 w' => ∃ (x0_1 : List (S32)) (x1_1 : Int) (x5_1 : Int), v1 = .int .i64 x1_1 ∧ v5 = .int .i64 x5_1 ∧ Aside0 (laws_markValueS.l0 kq x0_1 x1_1 x5_1 = some (r1, r2)) ∧ Aside0 (kq ≤ k) ∧ Aside0 (Kd.R k32 32 w' w0.heap.size (fun k_ => (P0_ k_ ∨ w.heap.size ≤ k_)) u9000_ x0_1) ∧ Aside0 (Kept w w' (fun k_ => P0_ k_)) ∧ Aside0 (Below w0.heap.size w0 w'))
  case atStart => exact ⟨(l0), (a1), (0), d26_5, d26_5, H', ⟨Nat.le_refl _⟩, ⟨by (with_reducible repeat (first | apply Kd.R_alloc | apply Kd.R_drewN | apply Kd.R_drew)); exact HO0.out⟩, ⟨by repeat (first | (with_reducible first | exact HK.out | apply Kept.alloc | apply Kept.drewN | apply Kept.drew) | exact HK.out)⟩, ⟨by repeat (first | (with_reducible first | exact HB.out | apply below_alloc | apply pw_below_drewN | apply below_drew1) | exact HB.out)⟩⟩
  case round =>
   clear H'
   try clear p2
   obtain ⟨x0_1, x1_1, x5_1, rfl, rfl, HA, HK1, HO_0, HK, HB⟩ := hrel
   cases gk with
   | zero => exact absurd HA.out (by simp [laws_markValueS.l0])
   | succ k1 =>
    have H := HA.out
    clear HA
    simp only [laws_markValueS.l0] at H
    by_cases c3 : x5_1 < (x0_1.length : Int)
    ·rw [if_pos c3] at H
     have c3b0 : decide (x5_1 < (x0_1.length : Int)) = true := decide_eq_true c3
     clear c3
     by_cases c4 : 0 ≤ x5_1
     ·rw [if_pos c4] at H
      have c4b0 : decide (0 ≤ x5_1) = true := decide_eq_true c4
      clear c4
      obtain ⟨y593, hy593⟩ : ∃ y_ : List (S32), y_ = (x0_1.set (x5_1 : Int).toNat (⟨x1_1, (rd_T32 x0_1 x5_1).f1, (rd_T32 x0_1 x5_1).f2⟩ : S32)) := ⟨_, rfl⟩
      replace H : ((some (y593.set (x5_1 : Int).toNat (⟨(rd_T32 y593 x5_1).f0, wrap64 (x1_1 + 1), (rd_T32 y593 x5_1).f2⟩ : S32) : List (S32))).bind fun y594 => ((laws_markText.f k1 (wrap64 ((wrap64 (x1_1 + 1)) + 1))).bind fun t595 => (laws_markValueS.l0 k1 (y594.set (x5_1 : Int).toNat (⟨(rd_T32 y594 x5_1).f0, (rd_T32 y594 x5_1).f1, t595⟩ : S32)) (wrap64 ((wrap64 ((wrap64 (x1_1 + 1)) + 1)) + 1)) (wrap64 (x5_1 + 1))))) = some (r1, r2) := by first | (rw [hy593]; with_reducible exact H) | (have H2_ := (Option.bind_some _ _).symm.trans H; rw [hy593]; with_reducible exact H2_) | (have H2_ := (Option.bind_some _ _).symm.trans H; with_reducible exact H2_) | with_reducible exact H | (rw [hy593]; exact H) | exact H
      have Ny593 := ak hy593
      clear hy593
      obtain ⟨y594, hy594⟩ : ∃ y_ : List (S32), y_ = (y593.set (x5_1 : Int).toNat (⟨(rd_T32 y593 x5_1).f0, wrap64 (x1_1 + 1), (rd_T32 y593 x5_1).f2⟩ : S32)) := ⟨_, rfl⟩
      replace H : ((laws_markText.f k1 (wrap64 ((wrap64 (x1_1 + 1)) + 1))).bind fun t595 => (laws_markValueS.l0 k1 (y594.set (x5_1 : Int).toNat (⟨(rd_T32 y594 x5_1).f0, (rd_T32 y594 x5_1).f1, t595⟩ : S32)) (wrap64 ((wrap64 ((wrap64 (x1_1 + 1)) + 1)) + 1)) (wrap64 (x5_1 + 1)))) = some (r1, r2) := by first | (rw [hy594]; with_reducible exact H) | (have H2_ := (Option.bind_some _ _).symm.trans H; rw [hy594]; with_reducible exact H2_) | (have H2_ := (Option.bind_some _ _).symm.trans H; with_reducible exact H2_) | with_reducible exact H | (rw [hy594]; exact H) | exact H
      have Ny594 := ak hy594
      clear hy594
      replace H := Option.bind_eq_some_iff.mp H
      obtain ⟨t595, A70, H⟩ := H
      replace H : (laws_markValueS.l0 k1 (y594.set (x5_1 : Int).toNat (⟨(rd_T32 y594 x5_1).f0, (rd_T32 y594 x5_1).f1, t595⟩ : S32)) (wrap64 ((wrap64 ((wrap64 (x1_1 + 1)) + 1)) + 1)) (wrap64 (x5_1 + 1))) = some (r1, r2) := H
      have A7 := ak A70
      clear A70
      obtain ⟨y596, hy596⟩ : ∃ y_ : List (S32), y_ = (y594.set (x5_1 : Int).toNat (⟨(rd_T32 y594 x5_1).f0, (rd_T32 y594 x5_1).f1, t595⟩ : S32)) := ⟨_, rfl⟩
      replace H : (laws_markValueS.l0 k1 y596 (wrap64 ((wrap64 ((wrap64 (x1_1 + 1)) + 1)) + 1)) (wrap64 (x5_1 + 1))) = some (r1, r2) := by first | (rw [hy596]; with_reducible exact H) | (have H2_ := (Option.bind_some _ _).symm.trans H; rw [hy596]; with_reducible exact H2_) | (have H2_ := (Option.bind_some _ _).symm.trans H; with_reducible exact H2_) | with_reducible exact H | (rw [hy596]; exact H) | exact H
      have Ny596 := ak hy596
      clear hy596
      have H' := ak H
      clear H
      obtain ⟨Ao9, co9, eo9⟩ := Kd.R_slice HO_0.out
      subst eo9
      have p5 : 0 ≤ (x5_1 : Int) := of_decide_eq_true d26_1
      have q5 : (x5_1 : Int) < ((x0_1.length : Int) : Int) := of_decide_eq_true d26_1
      obtain ⟨go5, co5, eo5, gb5, gl5, cl5, HG5⟩ := Kd.R_form HO_0.out (by omega)
      (first | cases eo5 | (injection eo5 with ea_ en_ ec_; (first | subst ea_ | (injection ea_ with ea_; subst ea_)); subst ec_; clear en_))
      have GB5 := ak gb5
      have GG5 := ak HG5
      clear gb5 gl5 HG5
      have HMgo5 := ak (show (P0_ go5 ∨ w.heap.size ≤ go5) from (HO_0.out.1 _ rfl))
      obtain ⟨ce5, hcl5, hM5, hcc5, hfr5⟩ := Kd.R_elem HO_0.out z32 (x5_1 : Int) p5 q5
      obtain rfl := k32_openM hM5
      have hx5_0 : wr.cell? ⟨go5, (x5_1 : Int).toNat * 3, none⟩ = some (.int .i64 ((rd_T32 x0_1 x5_1).f0)) := hcc5 0 _ rfl
      have hx5_1 : wr.cell? ⟨go5, (x5_1 : Int).toNat * 3 + 1, none⟩ = some (.int .i64 ((rd_T32 x0_1 x5_1).f1)) := hcc5 1 _ rfl
      have hx5_2 : wr.cell? ⟨go5, (x5_1 : Int).toNat * 3 + 2, none⟩ = some (.string ((rd_T32 x0_1 x5_1).f2)) := hcc5 2 _ rfl
      have hf5_0 : wr.frozen? ⟨go5, (x5_1 : Int).toNat * 3, none⟩ = false := hfr5 0
      have hf5_1 : wr.frozen? ⟨go5, (x5_1 : Int).toNat * 3 + 1, none⟩ = false := hfr5 1
      have hf5_2 : wr.frozen? ⟨go5, (x5_1 : Int).toNat * 3 + 2, none⟩ = false := hfr5 2
      clear hcl5 hcc5 hfr5 hM5
      replace p5 := eq_true p5
      replace q5 := eq_true q5
      have HX10 := ak (show Kd.R k32 32 wr w0.heap.size (fun k_ => (P0_ k_ ∨ w.heap.size ≤ k_)) (.slice (some ⟨go5, 0, none⟩) x0_1.length co9) x0_1 from d26_3)
      obtain ⟨ce10, hcl10, hM10, hcc10, hfr10⟩ := Kd.R_elem HX10.out z32 (x5_1 : Int) (of_decide_eq_true d26_1) (by have h_ : (x5_1 : Int) < ((x0_1.length : Int) : Int) := of_decide_eq_true d26_1; first | exact h_ | (have e_ := (Kd.R_reads' HO_0.out).1; omega) | simpa using h_)
      obtain rfl := k32_openM hM10
      have HP10 := Kd.R_seg HX10.out (x5_1 : Int) (of_decide_eq_true d26_1) (by have h_ : (x5_1 : Int) < ((x0_1.length : Int) : Int) := of_decide_eq_true d26_1; first | exact h_ | (have e_ := (Kd.R_reads' HO_0.out).1; omega) | simpa using h_) (seg := [.int .i64 x1_1]) (j := 0) hcl10 hcc10 (show 1 ≤ 3 from by decide) (x' := (⟨x1_1, (rd_T32 x0_1 x5_1).f1, (rd_T32 x0_1 x5_1).f2⟩ : S32)) (k32_mkM _ _ _ (⟨x1_1, (rd_T32 x0_1 x5_1).f1, (rd_T32 x0_1 x5_1).f2⟩ : S32) ) (fun _ hk => hk)
      have hx10_0 := hcc10 0 _ rfl
      (try simp only [show (k32).sz = 3 from rfl, Nat.mul_one, Nat.add_zero] at hx10_0)
      have hf10_0 := hfr10 0
      (try simp only [show (k32).sz = 3 from rfl, Nat.mul_one, Nat.add_zero] at hf10_0)
      clear hcl10 hcc10 hfr10 hM10
      go_wp2_with (first | ((with_reducible refine gate_store (t := 2) (p := 16) rfl ?_); refine store_event (t := 2) (p := 16) (v := ?vo_w11) (w1 := (wr.setCell ⟨go5, (x5_1 : Int).toNat * 3, none⟩ (.int .i64 x1_1))) ?hg ?ho ?hn ?hr ?_; (case ho => rfl); (case hg => rfl); (case hn => rfl); (case hr => first | (go_simp; done) | (go_simp; rfl)); intro w11 hw; have hg : wr.grownBy w11 (some go5) := (by rw [hw]; exact HP10.2); have hp_ : Kd.R k32 32 w11 w0.heap.size (fun k_ => (P0_ k_ ∨ w.heap.size ≤ k_)) (.slice (some ⟨go5, 0, none⟩) x0_1.length co9) y593 := (by rw [hw, Ny593.out]; exact HP10.1); clear HP10; have n0_ := ak (hp_); have n1_ := ak ((d26_7 : Below w0.heap.size w0 w11)); have n2_ := ak (Kept.of_grown (S := (fun k_ => P0_ k_)) hg d26_2 (fun k_ e_ => (HO_0.out.1 k_ e_))); clear HO_0 HB HK; have HO_0 := n0_; have HB := n1_; have HK := n2_; clear n0_ n1_ n2_ hg hw hp_; have p6 : 0 ≤ (x5_1 : Int) := of_decide_eq_true d26_1; have q6 : (x5_1 : Int) < ((x0_1.length : Int) : Int) := of_decide_eq_true d26_1; obtain ⟨ce6, hcl6, hM6, hcc6, hfr6⟩ := Kd.R_elem HO_0.out z32 (x5_1 : Int) p6 q6; obtain rfl := k32_openM hM6; have hx6_0 : w11.cell? ⟨go5, (x5_1 : Int).toNat * 3, none⟩ = some (.int .i64 ((rd_T32 y593 x5_1).f0)) := hcc6 0 _ rfl; have hx6_1 : w11.cell? ⟨go5, (x5_1 : Int).toNat * 3 + 1, none⟩ = some (.int .i64 ((rd_T32 y593 x5_1).f1)) := hcc6 1 _ rfl; have hx6_2 : w11.cell? ⟨go5, (x5_1 : Int).toNat * 3 + 2, none⟩ = some (.string ((rd_T32 y593 x5_1).f2)) := hcc6 2 _ rfl; have hf6_0 : w11.frozen? ⟨go5, (x5_1 : Int).toNat * 3, none⟩ = false := hfr6 0; have hf6_1 : w11.frozen? ⟨go5, (x5_1 : Int).toNat * 3 + 1, none⟩ = false := hfr6 1; have hf6_2 : w11.frozen? ⟨go5, (x5_1 : Int).toNat * 3 + 2, none⟩ = false := hfr6 2; clear hcl6 hcc6 hfr6 hM6; replace p6 := eq_true p6; replace q6 := eq_true q6; have HX12 := ak (show Kd.R k32 32 w11 w0.heap.size (fun k_ => (P0_ k_ ∨ w.heap.size ≤ k_)) (.slice (some ⟨go5, 0, none⟩) x0_1.length co9) y593 from d26_3); obtain ⟨ce12, hcl12, hM12, hcc12, hfr12⟩ := Kd.R_elem HX12.out z32 (x5_1 : Int) (of_decide_eq_true d26_1) (by have h_ : (x5_1 : Int) < ((x0_1.length : Int) : Int) := of_decide_eq_true d26_1; first | exact h_ | (have e_ := (Kd.R_reads' HO_0.out).1; omega) | simpa using h_); obtain rfl := k32_openM hM12; have HP12 := Kd.R_seg HX12.out (x5_1 : Int) (of_decide_eq_true d26_1) (by have h_ : (x5_1 : Int) < ((x0_1.length : Int) : Int) := of_decide_eq_true d26_1; first | exact h_ | (have e_ := (Kd.R_reads' HO_0.out).1; omega) | simpa using h_) (seg := [.int .i64 (wrap64 (x1_1 + 1))]) (j := 1) hcl12 hcc12 (show 2 ≤ 3 from by decide) (x' := (⟨(rd_T32 y593 x5_1).f0, wrap64 (x1_1 + 1), (rd_T32 y593 x5_1).f2⟩ : S32)) (k32_mkM _ _ _ (⟨(rd_T32 y593 x5_1).f0, wrap64 (x1_1 + 1), (rd_T32 y593 x5_1).f2⟩ : S32) ) (fun _ hk => hk); have hx12_1 := hcc12 1 _ rfl; (try simp only [show (k32).sz = 3 from rfl, Nat.mul_one, Nat.add_zero] at hx12_1); have hf12_1 := hfr12 1; (try simp only [show (k32).sz = 3 from rfl, Nat.mul_one, Nat.add_zero] at hf12_1); clear hcl12 hcc12 hfr12 hM12) | ((with_reducible refine gate_store (t := 2) (p := 23) rfl ?_); refine store_event (t := 2) (p := 23) (v := ?vo_w13) (w1 := (w11.setCell ⟨go5, (x5_1 : Int).toNat * 3 + 1, none⟩ (.int .i64 (wrap64 (x1_1 + 1))))) ?hg ?ho ?hn ?hr ?_; (case ho => rfl); (case hg => rfl); (case hn => rfl); (case hr => first | (go_simp; done) | (go_simp; rfl)); intro w13 hw; have hg : w11.grownBy w13 (some go5) := (by rw [hw]; exact HP12.2); have hp_ : Kd.R k32 32 w13 w0.heap.size (fun k_ => (P0_ k_ ∨ w.heap.size ≤ k_)) (.slice (some ⟨go5, 0, none⟩) x0_1.length co9) y594 := (by rw [hw, Ny594.out]; exact HP12.1); clear HP12; have n0_ := ak (hp_); have n1_ := ak ((d26_7 : Below w0.heap.size w0 w13)); have n2_ := ak (Kept.of_grown (S := (fun k_ => P0_ k_)) hg d26_2 (fun k_ e_ => (HO_0.out.1 k_ e_))); clear HO_0 HB HK; have HO_0 := n0_; have HB := n1_; have HK := n2_; clear n0_ n1_ n2_ hg hw hp_) | ((with_reducible refine gate_callee (f := 66) rfl ?_); refine goesL_ (some 29) rfl rfl Tryd.func66 (by kernel_rfl) rfl #[.int .i64 (wrap64 ((wrap64 (x1_1 + 1)) + 1))] rfl d26_6 ?_; (with_reducible refine (laws_markText.calls k1 (wrap64 ((wrap64 (x1_1 + 1)) + 1)) t595 _ A7.out).mono ?_); rintro e w14 ⟨rfl, hb⟩; refine ⟨_, rfl, ?_⟩; have n0_ := ak (Kd.R_below d26_3 hb); have n1_ := ak (Kept.below (S := (fun k_ => P0_ k_)) d26_2 hb); have n2_ := ak (below_step d26_4 hb); clear HO_0 HK HB; have HO_0 := n0_; have HK := n1_; have HB := n2_; clear n0_ n1_ n2_; (try clear hb); (try clear hk); have p8 : 0 ≤ (x5_1 : Int) := of_decide_eq_true d26_1; have q8 : (x5_1 : Int) < ((x0_1.length : Int) : Int) := of_decide_eq_true d26_1; obtain ⟨ce8, hcl8, hM8, hcc8, hfr8⟩ := Kd.R_elem HO_0.out z32 (x5_1 : Int) p8 q8; obtain rfl := k32_openM hM8; have hx8_0 : w14.cell? ⟨go5, (x5_1 : Int).toNat * 3, none⟩ = some (.int .i64 ((rd_T32 y594 x5_1).f0)) := hcc8 0 _ rfl; have hx8_1 : w14.cell? ⟨go5, (x5_1 : Int).toNat * 3 + 1, none⟩ = some (.int .i64 ((rd_T32 y594 x5_1).f1)) := hcc8 1 _ rfl; have hx8_2 : w14.cell? ⟨go5, (x5_1 : Int).toNat * 3 + 2, none⟩ = some (.string ((rd_T32 y594 x5_1).f2)) := hcc8 2 _ rfl; have hf8_0 : w14.frozen? ⟨go5, (x5_1 : Int).toNat * 3, none⟩ = false := hfr8 0; have hf8_1 : w14.frozen? ⟨go5, (x5_1 : Int).toNat * 3 + 1, none⟩ = false := hfr8 1; have hf8_2 : w14.frozen? ⟨go5, (x5_1 : Int).toNat * 3 + 2, none⟩ = false := hfr8 2; clear hcl8 hcc8 hfr8 hM8; replace p8 := eq_true p8; replace q8 := eq_true q8; have HX15 := ak (show Kd.R k32 32 w14 w0.heap.size (fun k_ => (P0_ k_ ∨ w.heap.size ≤ k_)) (.slice (some ⟨go5, 0, none⟩) x0_1.length co9) y594 from d26_3); obtain ⟨ce15, hcl15, hM15, hcc15, hfr15⟩ := Kd.R_elem HX15.out z32 (x5_1 : Int) (of_decide_eq_true d26_1) (by have h_ : (x5_1 : Int) < ((x0_1.length : Int) : Int) := of_decide_eq_true d26_1; first | exact h_ | (have e_ := (Kd.R_reads' HO_0.out).1; omega) | simpa using h_); obtain rfl := k32_openM hM15; have HP15 := Kd.R_seg HX15.out (x5_1 : Int) (of_decide_eq_true d26_1) (by have h_ : (x5_1 : Int) < ((x0_1.length : Int) : Int) := of_decide_eq_true d26_1; first | exact h_ | (have e_ := (Kd.R_reads' HO_0.out).1; omega) | simpa using h_) (seg := [.string t595]) (j := 2) hcl15 hcc15 (show 3 ≤ 3 from by decide) (x' := (⟨(rd_T32 y594 x5_1).f0, (rd_T32 y594 x5_1).f1, t595⟩ : S32)) (k32_mkM _ _ _ (⟨(rd_T32 y594 x5_1).f0, (rd_T32 y594 x5_1).f1, t595⟩ : S32) ) (fun _ hk => hk); have hx15_2 := hcc15 2 _ rfl; (try simp only [show (k32).sz = 3 from rfl, Nat.mul_one, Nat.add_zero] at hx15_2); have hf15_2 := hfr15 2; (try simp only [show (k32).sz = 3 from rfl, Nat.mul_one, Nat.add_zero] at hf15_2); clear hcl15 hcc15 hfr15 hM15) | ((with_reducible refine gate_store (t := 9) (p := 31) rfl ?_); refine store_event (t := 9) (p := 31) (v := ?vo_w16) (w1 := (w14.setCell ⟨go5, (x5_1 : Int).toNat * 3 + 2, none⟩ (.string t595))) ?hg ?ho ?hn ?hr ?_; (case ho => rfl); (case hg => rfl); (case hn => rfl); (case hr => first | (go_simp; done) | (go_simp; rfl)); intro w16 hw; have hg : w14.grownBy w16 (some go5) := (by rw [hw]; exact HP15.2); have hp_ : Kd.R k32 32 w16 w0.heap.size (fun k_ => (P0_ k_ ∨ w.heap.size ≤ k_)) (.slice (some ⟨go5, 0, none⟩) x0_1.length co9) y596 := (by rw [hw, Ny596.out]; exact HP15.1); clear HP15; have n0_ := ak (hp_); have n1_ := ak ((d26_7 : Below w0.heap.size w0 w16)); have n2_ := ak (Kept.of_grown (S := (fun k_ => P0_ k_)) hg d26_2 (fun k_ e_ => (HO_0.out.1 k_ e_))); clear HO_0 HB HK; have HO_0 := n0_; have HB := n1_; have HK := n2_; clear n0_ n1_ n2_ hg hw hp_))
      go_roundg k1
      case measure => have := HK1.out; omega
      case rel => exact ⟨(y596), (wrap64 ((wrap64 ((wrap64 (x1_1 + 1)) + 1)) + 1)), (wrap64 (x5_1 + 1)), d26_5, d26_5, H', ⟨by have := HK1.out; omega⟩, ⟨by (with_reducible repeat (first | apply Kd.R_alloc | apply Kd.R_drewN | apply Kd.R_drew)); exact HO_0.out⟩, ⟨by repeat (first | (with_reducible first | exact HK.out | apply Kept.alloc | apply Kept.drewN | apply Kept.drew) | exact HK.out)⟩, ⟨by repeat (first | (with_reducible first | exact HB.out | apply below_alloc | apply pw_below_drewN | apply below_drew1) | exact HB.out)⟩⟩
     ·rw [if_neg c4] at H
      exact absurd H (by simp)
    ·rw [if_neg c3] at H
     have c3b0 : decide (x5_1 < (x0_1.length : Int)) = false := decide_eq_false c3
     clear c3
     simp only [Option.some.injEq, Prod.mk.injEq] at H
     obtain ⟨rfl, rfl⟩ := H
     obtain ⟨Ao17, co17, eo17⟩ := Kd.R_slice HO_0.out
     subst eo17
     go_wp2
     go_ret
     exact ⟨by first | rfl | (simp [errW_none, errW_some] <;> rfl) | (simp [*, errW_none, errW_some] <;> rfl), by (with_reducible repeat (first | apply Kd.R_alloc | apply Kd.R_drewN | apply Kd.R_drew)); exact HO_0.out, by repeat (first | (with_reducible first | exact HB.out | apply below_alloc | apply pw_below_drewN | apply below_drew1) | exact HB.out), by repeat (first | (with_reducible first | exact HK.out | apply Kept.alloc | apply Kept.drewN | apply Kept.drew) | exact HK.out)⟩

/-! ### laws_markValuesResult: function 39 -/
def laws_markValuesResult.f (k : Nat) (a0_0 : Int) (l0_1 : List (S32)) (a0_2 : Int) (a0_3 : Int) (a0_4 : ByteArray) (a1 : Int) : Option (Int × (List (S32))) := (laws_markValueS.f k l0_1 a1).bind fun bt598 => (some (bt598.1, bt598.2))
theorem laws_markValuesResult.mono : ∀ a0 a1 a2 a3 a4 a5 k, LeO (laws_markValuesResult.f k a0 a1 a2 a3 a4 a5) (laws_markValuesResult.f (k + 1) a0 a1 a2 a3 a4 a5) := by
  intro a0 a1 a2 a3 a4 a5 k
  unfold laws_markValuesResult.f
  repeat' first
      | (with_reducible exact laws_markValueS.mono _ _ _)
      | (with_reducible exact LeO.refl _)
      | (with_reducible exact LeO.none _)
      | (with_reducible refine LeO.ite ?_ ?_)
      | (with_reducible refine LeO.bind ?_ (fun _ => ?_))
      | exact laws_markValueS.mono _ _ _
      | exact LeO.none _
      | refine LeO.ite ?_ ?_
      | refine LeO.bind ?_ (fun _ => ?_)
set_option maxHeartbeats 8000000 in
set_option maxRecDepth 100000 in
theorem laws_markValuesResult.calls (k : Nat) (a0_0 : Int) (P0_1_ : Nat → Prop) (u9000_ : Value) (l0_1 : List (S32)) (a0_2 : Int) (a0_3 : Int) (a0_4 : ByteArray) (a1 : Int) (r1 : Int) (r2 : List (S32)) (w0 w : World) (hB : Below w0.heap.size w0 w) (ho0_1 : Kd.R k32 32 w w0.heap.size P0_1_ u9000_ l0_1) (h : laws_markValuesResult.f k a0_0 l0_1 a0_2 a0_3 a0_4 a1 = some (r1, r2)) :
    Calls Tryd.prog 39 #[.agg #[.int .i64 a0_0, u9000_, .int .i64 a0_2, .int .i64 a0_3, .string a0_4], .int .i64 a1] w fun e w' => e = .returned (.int .i64 r1) ∧ Kd.R k32 32 w' w0.heap.size (fun k_ => (P0_1_ k_ ∨ w.heap.size ≤ k_)) u9000_ r2 ∧ Below w0.heap.size w0 w' ∧ Kept w w' (fun k_ => P0_1_ k_) := by
  have hu61 := Tryd.underlying61
  have HO0_1 := ak (show Kd.R k32 32 w w0.heap.size (fun k_ => (P0_1_ k_ ∨ w.heap.size ≤ k_)) u9000_ l0_1 from Kd.R_mono ho0_1 (fun k_ hk => (.inl hk)))
  have HK := ak (Kept.refl w (fun k_ => P0_1_ k_))
  have HW0 := ak hB.size
  have HB := ak hB
  clear hB
  have H : ((laws_markValueS.f k l0_1 a1).bind fun bt598 => (some (bt598.1, bt598.2))) = some (r1, r2) := h
  clear h
  replace H := Option.bind_eq_some_iff.mp H
  obtain ⟨⟨t598, t599⟩, A30, H⟩ := H
  replace H : (some (t598, t599)) = some (r1, r2) := H
  have A3 := ak A30
  clear A30
  simp only [Option.some.injEq, Prod.mk.injEq] at H
  obtain ⟨rfl, rfl⟩ := H
  obtain ⟨Ao4, co4, eo4⟩ := Kd.R_slice HO0_1.out
  subst eo4
  go_enter Tryd.func39, Tryd.ntmps39
  go_wp2_with (first | ((with_reducible refine gate_dst (N := 2) rfl ?_); refine box_event ?hg (N := 2) ?hd (cs := #[.int .i64 a0_0, .slice Ao4 l0_1.length co4, .int .i64 a0_2, .int .i64 a0_3, .string a0_4]) (t := 61) ?hr ?_; (case hd => rfl); (case hg => rfl); (case hr => first | (go_simp; done) | (go_simp; rfl)); intro gb597 hg w5 hbox hb; have n0_ := ak (Kd.R_below (by (with_reducible repeat (first | apply Kd.R_alloc | apply Kd.R_drewN | apply Kd.R_drew)); exact HO0_1.out) hb); have n1_ := ak (Kept.below (S := (fun k_ => P0_1_ k_)) d26_2 hb); have n2_ := ak (below_step d26_4 hb); have n3_ := ak (hbox); have n4_ := ak ((by rw [hg]; exact (by first | exact HK.out.1 | exact (show Kept w _ (fun k_ => P0_1_ k_) from by repeat (first | (with_reducible first | exact HK.out | apply Kept.alloc | apply Kept.drewN | apply Kept.drew) | exact HK.out)).1) : w.heap.size ≤ gb597)); have n5_ := ak ((by rw [hg]; exact (below_size d26_4) : w0.heap.size ≤ gb597)); clear HO0_1 HK HB; have HO0_1 := n0_; have HK := n1_; have HB := n2_; have BK597 := n3_; have GW597 := n4_; have GE597 := n5_; clear n0_ n1_ n2_ n3_ n4_ n5_ hb hbox hg; have hcz6_0 : w5.cell? ⟨gb597, 0, none⟩ = some (.int .i64 a0_0) := (blk_cell BK597.out 0).trans rfl; have hcz6_1 : w5.cell? ⟨gb597, 1, none⟩ = some (.slice Ao4 l0_1.length co4) := (blk_cell BK597.out 1).trans rfl; have hcz6_2 : w5.cell? ⟨gb597, 2, none⟩ = some (.int .i64 a0_2) := (blk_cell BK597.out 2).trans rfl; have hcz6_3 : w5.cell? ⟨gb597, 3, none⟩ = some (.int .i64 a0_3) := (blk_cell BK597.out 3).trans rfl; have hcz6_4 : w5.cell? ⟨gb597, 4, none⟩ = some (.string a0_4) := (blk_cell BK597.out 4).trans rfl; have hfz6_0 := blk_frozen BK597.out 0; have hfz6_1 := blk_frozen BK597.out 1; have hfz6_2 := blk_frozen BK597.out 2; have hfz6_3 := blk_frozen BK597.out 3; have hfz6_4 := blk_frozen BK597.out 4) | ((with_reducible refine gate_callee (f := 79) rfl ?_); refine goesL_ (some 8) rfl rfl Tryd.func79 (by kernel_rfl) rfl #[.slice Ao4 l0_1.length co4, .int .i64 a1] rfl d26_6 ?_; (with_reducible refine (laws_markValueS.calls k (fun k_ => some k_ = (.slice Ao4 l0_1.length co4 : Value).ownBlock) (.slice Ao4 l0_1.length co4) l0_1 a1 t598 t599 w0 _ ?side1 ?side2 A3.out).mono ?_); (case side1 => repeat (first | (with_reducible first | exact HB.out | apply below_alloc | apply pw_below_drewN | apply below_drew1 | refine below_set ?_ GE597.out) | exact HB.out)); (case side2 => exact Kd.R_tight rfl HO0_1.out); rintro e w7 ⟨rfl, hy0, hb, hkp⟩; refine ⟨_, rfl, ?_⟩; have n0_ := ak (Kd.R_reok rfl hy0 (fun k_ e_ => HO0_1.out.1 k_ e_)); have n1_ := ak (blk_kept (by (with_reducible repeat (first | refine blk_drewN ?_ _ | refine blk_drew ?_ | refine blk_alloc ?_ _)); exact BK597.out) hkp (fun hs_ => (fun e_ => (Kd.R_ne HO0_1.out BK597.out (by decide)) e_) hs_)); have n2_ := ak (Kept.then_ (S := (fun k_ => P0_1_ k_)) (by repeat (first | (with_reducible first | exact HK.out | apply Kept.alloc | apply Kept.drewN | apply Kept.drew | refine Kept.setCell ?_ (.inr GW597.out) _) | exact HK.out)) hkp (fun k_ hs_ => (fun e_ => (HO0_1.out.1 k_ e_.symm)) hs_)); have n3_ := ak (hb); clear HO0_1 BK597 HK HB; have HO0_1 := n0_; have BK597 := n1_; have HK := n2_; have HB := n3_; clear n0_ n1_ n2_ n3_; (try clear hb); (try clear hkp); (try clear hy0)))
  go_ret
  exact ⟨by first | rfl | (simp [errW_none, errW_some] <;> rfl) | (simp [*, errW_none, errW_some] <;> rfl), by (with_reducible repeat (first | apply Kd.R_alloc | apply Kd.R_drewN | apply Kd.R_drew)); exact HO0_1.out, by repeat (first | (with_reducible first | exact HB.out | apply below_alloc | apply pw_below_drewN | apply below_drew1 | refine below_set ?_ GE597.out) | exact HB.out), by repeat (first | (with_reducible first | exact HK.out | apply Kept.alloc | apply Kept.drewN | apply Kept.drew | refine Kept.setCell ?_ (.inr GW597.out) _) | exact HK.out)⟩

end Go.Proofs.YtaeeoljihmndfaaDoor.A
