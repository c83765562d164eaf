/- Walks of the program's functions: each Go function's answer as a plain Lean function, and that the call comes to it. Written by a program. Conditions: those in each theorem's own head. -/
import Derived.Test.YtcliaceiijaafaaDoorC0
import Derived.Test.YtcliaceiijaafaaDoorC1
import Derived.Test.YtcliaceiijaafaaDoorC8
import Derived.Test.YtcliaceiijaafaaDoorC13
import Derived.Test.YtcliaceiijaafaaDoorC14
namespace Go.Proofs.YtcliaceiijaafaaDoor.C
open Go.RowKit Go.Proofs.YtcliaceiijaafaaDoorW.PrintWords Go.Proofs.YtcliaceiijaafaaDoorW.PrintLast Go.Proofs.YtcliaceiijaafaaDoorW.PrintMore
attribute [local go_sem] max2_int min2_int max_two min_two max_three min_three max_four min_four   -- for this text's walks alone
set_option linter.unusedVariables false
set_option linter.unusedSimpArgs false

theorem d15_1 {p : Prop} (h : p := by repeat (first | (with_reducible first | exact HB.out | apply below_alloc | apply pw_below_drewN | apply below_drew1) | exact HB.out)) : p := h
theorem d15_2 {p : Prop} (h : p := by (try simp only [List.map_toArray, List.map_cons, List.map_nil]); first | done | rfl | (simp only [List.length_drop, List.length_take]; rfl)) : p := h
theorem d15_3 {p : Prop} (h : p := by (with_reducible repeat (first | apply Kd.S_alloc | apply Kd.S_drewN | apply Kd.S_drew)); exact HO327.out) : p := h
theorem d15_4 {p : Prop} (h : p := by (with_reducible repeat (first | apply Kd.S_alloc | apply Kd.S_drewN | apply Kd.S_drew)); exact HO331.out) : p := h
theorem d15_5 {p : Prop} (h : p := by first | (with_reducible assumption) | assumption) : p := h

/-! ### laws_eqCoreS: function 28 -/
def laws_eqCoreS.l0 : Nat → List (S93) → List (S93) → Int → Option (Bool)
  | 0, _, _, _ => none
  | k + 1, x0, x1, x5 => if x5 < (x0.length : Int) then (if 0 ≤ x5 then (if x5 < (x1.length : Int) then ((laws_eqCore.f k ((rd_T93 x0 x5).f0) ((rd_T93 x0 x5).f1) ((rd_T93 x0 x5).f2) ((rd_T93 x0 x5).f3) ((rd_T93 x0 x5).f4) ((rd_T93 x0 x5).f5) ((rd_T93 x1 x5).f0) ((rd_T93 x1 x5).f1) ((rd_T93 x1 x5).f2) ((rd_T93 x1 x5).f3) ((rd_T93 x1 x5).f4) ((rd_T93 x1 x5).f5)).bind fun t323 => (if t323 = true then (laws_eqCoreS.l0 k x0 x1 (wrap64 (x5 + 1))) else (some false))) else (none)) else (none)) else (some true)
def laws_eqCoreS.f (k : Nat) (l0 : List (S93)) (l1 : List (S93)) : Option (Bool) := if (l0.length : Int) = (l1.length : Int) then (laws_eqCoreS.l0 k l0 l1 0) else (some false)
theorem laws_eqCoreS.mono_l : ∀ k, (∀ y0 y1 y2, LeO (laws_eqCoreS.l0 k y0 y1 y2) (laws_eqCoreS.l0 (k + 1) y0 y1 y2))
  | 0 => fun _ _ _ r h => by simp [laws_eqCoreS.l0] at h
  | k + 1 => by
    have ih0 := laws_eqCoreS.mono_l k
    · intro y0 y1 y2
      unfold laws_eqCoreS.l0
      repeat' first
      | (with_reducible exact ih0 _ _ _)
      | (with_reducible exact laws_eqCore.mono _ _ _ _ _ _ _ _ _ _ _ _ _)
      | (with_reducible exact LeO.refl _)
      | (with_reducible exact LeO.none _)
      | (with_reducible refine LeO.ite ?_ ?_)
      | (with_reducible refine LeO.bind ?_ (fun _ => ?_))
      | exact ih0 _ _ _
      | exact laws_eqCore.mono _ _ _ _ _ _ _ _ _ _ _ _ _
      | exact LeO.none _
      | refine LeO.ite ?_ ?_
      | refine LeO.bind ?_ (fun _ => ?_)
theorem laws_eqCoreS.mono : ∀ a0 a1 k, LeO (laws_eqCoreS.f k a0 a1) (laws_eqCoreS.f (k + 1) a0 a1) := by
  intro a0 a1 k
  have ih0 := laws_eqCoreS.mono_l k
  unfold laws_eqCoreS.f
  repeat' first
      | (with_reducible exact ih0 _ _ _)
      | (with_reducible exact laws_eqCore.mono _ _ _ _ _ _ _ _ _ _ _ _ _)
      | (with_reducible exact LeO.refl _)
      | (with_reducible exact LeO.none _)
      | (with_reducible refine LeO.ite ?_ ?_)
      | (with_reducible refine LeO.bind ?_ (fun _ => ?_))
      | exact ih0 _ _ _
      | exact laws_eqCore.mono _ _ _ _ _ _ _ _ _ _ _ _ _
      | exact LeO.none _
      | refine LeO.ite ?_ ?_
      | refine LeO.bind ?_ (fun _ => ?_)
def laws_eqCoreS.T6 : Bool × List (List Nat × List Nat) := (true, [([], []), ([], []), ([0, 1], [0, 1]), ([2], [2]), ([], []), ([], []), ([4, 5], [4, 5]), ([6], [6]), ([3, 7], [3, 7]), ([8], [8])])
def laws_eqCoreS.B6 : List Nat := [0, 0, 3, 7, 0, 0, 48, 112, 255, 511]
theorem laws_eqCoreS.tab6 : rtab .any (opsOf Tryd.f28 6) = laws_eqCoreS.T6 := by kernel_rfl
theorem laws_eqCoreS.bits6 : waitsOk laws_eqCoreS.T6.2 laws_eqCoreS.B6 = true := by kernel_rfl
set_option maxHeartbeats 8000000 in
set_option maxRecDepth 100000 in
theorem laws_eqCoreS.calls (k : Nat) (A0 : Option Addr) (c0 : Nat) (l0 : List (S93)) (A1 : Option Addr) (c1 : Nat) (l1 : List (S93)) (r : Bool) (w : World) (hr0 : Kd.C k93 w A0 l0.length l0) (hc0 : l0.length ≤ c0) (hr1 : Kd.C k93 w A1 l1.length l1) (hc1 : l1.length ≤ c1) (h : laws_eqCoreS.f k l0 l1 = some r) :
    Calls Tryd.prog 28 #[.slice A0 l0.length c0, .slice A1 l1.length c1] w fun e w' => e = .returned (.bool r) ∧ Below w.heap.size w w' := by
  have hu93 := Tryd.underlying93
  have HR0 := ak hr0
  have HC0 := ak hc0
  clear hr0 hc0
  have HR1 := ak hr1
  have HC1 := ak hc1
  clear hr1 hc1
  have HB := ak (Below.refl w.heap.size w)
  have H : (if (l0.length : Int) = (l1.length : Int) then (laws_eqCoreS.l0 k l0 l1 0) else (some false)) = some r := h
  clear h
  by_cases c3 : (l0.length : Int) = (l1.length : Int)
  ·rw [if_pos c3] at H
   have c3b0 : ((l0.length : Int) == (l1.length : Int)) = true := beq_iff_eq.mpr c3
   have c3b1 : ((l0.length : Int) != (l1.length : Int)) = false := bne_eq_false_iff_eq.mpr c3
   have c3b2 : (l0.length == l1.length) = true := by first | simpa using c3 | (simp at c3 ⊢; omega)
   clear c3
   have H' := ak H
   clear H
   go_enter Tryd.func28, Tryd.ntmps28
   go_wp2
   go_loopg [5] k (fun kq v5 w' => ∃ (x5_1 : Int), v5 = .int .i64 x5_1 ∧ Aside0 (laws_eqCoreS.l0 kq l0 l1 x5_1 = some r) ∧ Aside0 (kq ≤ k) ∧ Aside0 (Below w.heap.size w w'))
   case atStart => exact ⟨(0), (by first | rfl | (simp; done) | (simp [*]; done) | (simp [ne_nil_b, eq_nil_b]; done)), H', ⟨Nat.le_refl _⟩, ⟨by repeat (first | (with_reducible first | exact HB.out | apply below_alloc | apply pw_below_drewN | apply below_drew1) | exact HB.out)⟩⟩
   case round =>
    clear H'
    try clear c1
    try clear c2
    try clear p2
    try clear c3
    try clear c3b0
    try clear c3b1
    try clear c3b2
    obtain ⟨x5_1, rfl, HA, HK1, HB⟩ := hrel
    cases gk with
    | zero => exact absurd HA.out (by simp [laws_eqCoreS.l0])
    | succ k1 =>
     have H := HA.out
     clear HA
     simp only [laws_eqCoreS.l0] at H
     by_cases c4 : x5_1 < (l0.length : Int)
     ·rw [if_pos c4] at H
      have c4b0 : decide (x5_1 < (l0.length : Int)) = true := decide_eq_true c4
      clear c4
      by_cases c5 : 0 ≤ x5_1
      ·rw [if_pos c5] at H
       have c5b0 : decide (0 ≤ x5_1) = true := decide_eq_true c5
       clear c5
       by_cases c6 : x5_1 < (l1.length : Int)
       ·rw [if_pos c6] at H
        have c6b0 : decide (x5_1 < (l1.length : Int)) = true := decide_eq_true c6
        clear c6
        replace H := Option.bind_eq_some_iff.mp H
        obtain ⟨t323, A70, H⟩ := H
        replace H : (if t323 = true then (laws_eqCoreS.l0 k1 l0 l1 (wrap64 (x5_1 + 1))) else (some false)) = some r := H
        have A7 := ak A70
        clear A70
        by_cases c8 : t323 = true
        ·subst c8
         have H1 : (laws_eqCoreS.l0 k1 l0 l1 (wrap64 (x5_1 + 1))) = some r := by rw [if_pos rfl] at H; exact H
         clear H
         have H := H1
         clear H1
         have H' := ak H
         clear H
         try go_wp2
         have n0_ := ak (below_drew1 HB.out)
         clear HB
         have HB := n0_
         clear n0_
         have p321 : 0 ≤ (x5_1 : Int) := of_decide_eq_true d15_5
         have q321 : x5_1 < (l0.length : Int) := of_decide_eq_true d15_5
         obtain ⟨ad321, A321_5, c321_5, e321, hx321_0, hx321_1, hx321_2, hx321_3, hx321_4, hx321_5, hl321_5, hi321_5⟩ := at_T93 HR0.out x5_1 p321 q321
         have hw321_5 := hx321_5
         have hw321_4 := hx321_4
         have hw321_3 := hx321_3
         have hw321_2 := hx321_2
         have hw321_1 := hx321_1
         have hw321_0 := hx321_0
         cases e321
         replace hx321_0 := (HB.out.cell (World.block_lt_of_cell? w _ hx321_0)).trans hx321_0
         replace hx321_1 := (HB.out.cell (World.block_lt_of_cell? w _ hx321_1)).trans hx321_1
         replace hx321_2 := (HB.out.cell (World.block_lt_of_cell? w _ hx321_2)).trans hx321_2
         replace hx321_3 := (HB.out.cell (World.block_lt_of_cell? w _ hx321_3)).trans hx321_3
         replace hx321_4 := (HB.out.cell (World.block_lt_of_cell? w _ hx321_4)).trans hx321_4
         replace hx321_5 := (HB.out.cell (World.block_lt_of_cell? w _ hx321_5)).trans hx321_5
         have HR321_5 := ak hi321_5
         have HC321_5 := ak hl321_5
         clear hi321_5 hl321_5
         replace p321 := eq_true p321
         replace q321 := eq_true q321
         have p322 : 0 ≤ (x5_1 : Int) := of_decide_eq_true d15_5
         have q322 : x5_1 < (l1.length : Int) := of_decide_eq_true d15_5
         obtain ⟨ad322, A322_5, c322_5, e322, hx322_0, hx322_1, hx322_2, hx322_3, hx322_4, hx322_5, hl322_5, hi322_5⟩ := at_T93 HR1.out x5_1 p322 q322
         have hw322_5 := hx322_5
         have hw322_4 := hx322_4
         have hw322_3 := hx322_3
         have hw322_2 := hx322_2
         have hw322_1 := hx322_1
         have hw322_0 := hx322_0
         cases e322
         replace hx322_0 := (HB.out.cell (World.block_lt_of_cell? w _ hx322_0)).trans hx322_0
         replace hx322_1 := (HB.out.cell (World.block_lt_of_cell? w _ hx322_1)).trans hx322_1
         replace hx322_2 := (HB.out.cell (World.block_lt_of_cell? w _ hx322_2)).trans hx322_2
         replace hx322_3 := (HB.out.cell (World.block_lt_of_cell? w _ hx322_3)).trans hx322_3
         replace hx322_4 := (HB.out.cell (World.block_lt_of_cell? w _ hx322_4)).trans hx322_4
         replace hx322_5 := (HB.out.cell (World.block_lt_of_cell? w _ hx322_5)).trans hx322_5
         have HR322_5 := ak hi322_5
         have HC322_5 := ak hl322_5
         clear hi322_5 hl322_5
         replace p322 := eq_true p322
         replace q322 := eq_true q322
         refine start_ (n := 10) (S := fun w' => w'.cell? (ad321.add ((x5_1).toNat * 6)) = some (.int .i64 ((rd_T93 l0 x5_1).f0)) ∧ w'.cell? ⟨(ad321.add ((x5_1).toNat * 6)).block, (ad321.add ((x5_1).toNat * 6)).off + 1, none⟩ = some (.int .i64 ((rd_T93 l0 x5_1).f1)) ∧ w'.cell? ⟨(ad321.add ((x5_1).toNat * 6)).block, (ad321.add ((x5_1).toNat * 6)).off + 2, none⟩ = some (.int .i64 ((rd_T93 l0 x5_1).f2)) ∧ w'.cell? ⟨(ad321.add ((x5_1).toNat * 6)).block, (ad321.add ((x5_1).toNat * 6)).off + 3, none⟩ = some (.int .i64 ((rd_T93 l0 x5_1).f3)) ∧ w'.cell? ⟨(ad321.add ((x5_1).toNat * 6)).block, (ad321.add ((x5_1).toNat * 6)).off + 4, none⟩ = some (.string ((rd_T93 l0 x5_1).f4)) ∧ w'.cell? ⟨(ad321.add ((x5_1).toNat * 6)).block, (ad321.add ((x5_1).toNat * 6)).off + 5, none⟩ = some (.slice A321_5 ((rd_T93 l0 x5_1).f5).length c321_5) ∧ w'.cell? (ad322.add ((x5_1).toNat * 6)) = some (.int .i64 ((rd_T93 l1 x5_1).f0)) ∧ w'.cell? ⟨(ad322.add ((x5_1).toNat * 6)).block, (ad322.add ((x5_1).toNat * 6)).off + 1, none⟩ = some (.int .i64 ((rd_T93 l1 x5_1).f1)) ∧ w'.cell? ⟨(ad322.add ((x5_1).toNat * 6)).block, (ad322.add ((x5_1).toNat * 6)).off + 2, none⟩ = some (.int .i64 ((rd_T93 l1 x5_1).f2)) ∧ w'.cell? ⟨(ad322.add ((x5_1).toNat * 6)).block, (ad322.add ((x5_1).toNat * 6)).off + 3, none⟩ = some (.int .i64 ((rd_T93 l1 x5_1).f3)) ∧ w'.cell? ⟨(ad322.add ((x5_1).toNat * 6)).block, (ad322.add ((x5_1).toNat * 6)).off + 4, none⟩ = some (.string ((rd_T93 l1 x5_1).f4)) ∧ w'.cell? ⟨(ad322.add ((x5_1).toNat * 6)).block, (ad322.add ((x5_1).toNat * 6)).off + 5, none⟩ = some (.slice A322_5 ((rd_T93 l1 x5_1).f5).length c322_5)) (ds := []) #[false, false, false, false, false, false, false, false, false, false] (by kernel_rfl) rfl rfl ⟨((HB.out.cell (World.block_lt_of_cell? w _ hw321_0)).trans hw321_0), ((HB.out.cell (World.block_lt_of_cell? w _ hw321_1)).trans hw321_1), ((HB.out.cell (World.block_lt_of_cell? w _ hw321_2)).trans hw321_2), ((HB.out.cell (World.block_lt_of_cell? w _ hw321_3)).trans hw321_3), ((HB.out.cell (World.block_lt_of_cell? w _ hw321_4)).trans hw321_4), ((HB.out.cell (World.block_lt_of_cell? w _ hw321_5)).trans hw321_5), ((HB.out.cell (World.block_lt_of_cell? w _ hw322_0)).trans hw322_0), ((HB.out.cell (World.block_lt_of_cell? w _ hw322_1)).trans hw322_1), ((HB.out.cell (World.block_lt_of_cell? w _ hw322_2)).trans hw322_2), ((HB.out.cell (World.block_lt_of_cell? w _ hw322_3)).trans hw322_3), ((HB.out.cell (World.block_lt_of_cell? w _ hw322_4)).trans hw322_4), ((HB.out.cell (World.block_lt_of_cell? w _ hw322_5)).trans hw322_5)⟩ (fun hHeld => ?_); refine with_tabW laws_eqCoreS.tab6 laws_eqCoreS.bits6 (fun HT_ HW_ => ?_)
         generalize wr.drew = w9 at HB HR321_5 HR322_5 hx321_0 hx321_1 hx321_2 hx321_3 hx321_4 hx321_5 hx322_0 hx322_1 hx322_2 hx322_3 hx322_4 hx322_5 hHeld ⊢
         refine pure_ (i := 0) (N := some 17) (v := ?_) (a' := ?_) #[true, false, false, false, false, false, false, false, false, false] rfl rfl (any_of HT_.out (by kernel_rfl)) (fun _ _ _ h => h) (Or.inl ⟨by rfl, ?_⟩) ?_ ?_
         rotate_left
         · intro w'
           go_simp
           with_reducible rfl
         rotate_left
         · simp only [Act.put, List.setIfInBounds_toArray, List.set_cons_zero, List.set_cons_succ, i64_w, i32_w]
           rfl
         refine pure_ (i := 1) (N := some 18) (v := ?_) (a' := ?_) #[true, true, false, false, false, false, false, false, false, false] rfl rfl (any_of HT_.out (by kernel_rfl)) (fun _ _ _ h => h) (Or.inl ⟨by rfl, ?_⟩) ?_ ?_
         rotate_left
         · intro w'
           go_simp
           with_reducible rfl
         rotate_left
         · simp only [Act.put, List.setIfInBounds_toArray, List.set_cons_zero, List.set_cons_succ, i64_w, i32_w]
           rfl
         refine pure_ (i := 2) (N := some 19) (v := ?_) (a' := ?_) #[true, true, true, false, false, false, false, false, false, false] rfl rfl (any_of HT_.out (by kernel_rfl)) (fun _ _ _ h => h) (Or.inl ⟨by rfl, ?_⟩) ?_ ?_
         rotate_left
         · intro w'
           go_simp
           with_reducible rfl
         rotate_left
         · simp only [Act.put, List.setIfInBounds_toArray, List.set_cons_zero, List.set_cons_succ, i64_w, i32_w]
           rfl
         refine pure_ (i := 4) (N := some 21) (v := ?_) (a' := ?_) #[true, true, true, false, true, false, false, false, false, false] rfl rfl (any_of HT_.out (by kernel_rfl)) (fun _ _ _ h => h) (Or.inl ⟨by rfl, ?_⟩) ?_ ?_
         rotate_left
         · intro w'
           go_simp
           with_reducible rfl
         rotate_left
         · simp only [Act.put, List.setIfInBounds_toArray, List.set_cons_zero, List.set_cons_succ, i64_w, i32_w]
           rfl
         refine pure_ (i := 5) (N := some 22) (v := ?_) (a' := ?_) #[true, true, true, false, true, true, false, false, false, false] rfl rfl (any_of HT_.out (by kernel_rfl)) (fun _ _ _ h => h) (Or.inl ⟨by rfl, ?_⟩) ?_ ?_
         rotate_left
         · intro w'
           go_simp
           with_reducible rfl
         rotate_left
         · simp only [Act.put, List.setIfInBounds_toArray, List.set_cons_zero, List.set_cons_succ, i64_w, i32_w]
           rfl
         refine pure_ (i := 6) (N := some 23) (v := ?_) (a' := ?_) #[true, true, true, false, true, true, true, false, false, false] rfl rfl (any_of HT_.out (by kernel_rfl)) (fun _ _ _ h => h) (Or.inl ⟨by rfl, ?_⟩) ?_ ?_
         rotate_left
         · intro w'
           go_simp
           with_reducible rfl
         rotate_left
         · simp only [Act.put, List.setIfInBounds_toArray, List.set_cons_zero, List.set_cons_succ, i64_w, i32_w]
           rfl
         refine take_ (i := 3) (N := some 20) (v := ?_) (a' := ?_) #[true, true, true, true, true, true, true, false, false, false] rfl rfl (take_ofW HT_.out HW_.out (by kernel_rfl)) (fun _ _ _ h => h) (Or.inl ⟨by rfl, ?_⟩) hHeld ?_ ?_
         rotate_left
         · rintro w' ⟨s0, s1, s2, s3, s4, s5, s6, s7, s8, s9, s10, s11⟩
           go_simp
           with_reducible rfl
         rotate_left
         · simp only [Act.put, List.setIfInBounds_toArray, List.set_cons_zero, List.set_cons_succ, i64_w, i32_w]
           rfl
         refine take_ (i := 7) (N := some 24) (v := ?_) (a' := ?_) #[true, true, true, true, true, true, true, true, false, false] rfl rfl (take_ofW HT_.out HW_.out (by kernel_rfl)) (fun _ _ _ h => h) (Or.inl ⟨by rfl, ?_⟩) hHeld ?_ ?_
         rotate_left
         · rintro w' ⟨s0, s1, s2, s3, s4, s5, s6, s7, s8, s9, s10, s11⟩
           go_simp
           with_reducible rfl
         rotate_left
         · simp only [Act.put, List.setIfInBounds_toArray, List.set_cons_zero, List.set_cons_succ, i64_w, i32_w]
           rfl
         refine one_ (i := 8) (N := some 25) #[true, true, true, true, true, true, true, true, true, false] rfl rfl (one_of HT_.out (by kernel_rfl)) (by decide) (fun K hK => ?_)
         refine goes_ Tryd.func64 (by kernel_rfl) rfl #[.agg #[.int .i64 ((rd_T93 l0 x5_1).f0), .int .i64 ((rd_T93 l0 x5_1).f1), .int .i64 ((rd_T93 l0 x5_1).f2), .int .i64 ((rd_T93 l0 x5_1).f3), .string ((rd_T93 l0 x5_1).f4), .slice A321_5 ((rd_T93 l0 x5_1).f5).length c321_5], .agg #[.int .i64 ((rd_T93 l1 x5_1).f0), .int .i64 ((rd_T93 l1 x5_1).f1), .int .i64 ((rd_T93 l1 x5_1).f2), .int .i64 ((rd_T93 l1 x5_1).f3), .string ((rd_T93 l1 x5_1).f4), .slice A322_5 ((rd_T93 l1 x5_1).f5).length c322_5]] (by rfl) rfl rfl d15_2 ?_
         with_reducible refine (laws_eqCore.calls k1 ((rd_T93 l0 x5_1).f0) ((rd_T93 l0 x5_1).f1) ((rd_T93 l0 x5_1).f2) ((rd_T93 l0 x5_1).f3) ((rd_T93 l0 x5_1).f4) _ _ ((rd_T93 l0 x5_1).f5) ((rd_T93 l1 x5_1).f0) ((rd_T93 l1 x5_1).f1) ((rd_T93 l1 x5_1).f2) ((rd_T93 l1 x5_1).f3) ((rd_T93 l1 x5_1).f4) _ _ ((rd_T93 l1 x5_1).f5) true _ ?side1 ?side2 ?side3 ?side4 A7.out).mono ?_
         (case side1 => repeat (first | exact (Kd.C_below HR321_5.out HB.out) | (with_reducible refine Kd.C_alloc ?_ _) | (with_reducible refine Kd.C_drewN ?_ _) | (with_reducible refine Kd.C_drew ?_)))
         (case side2 => exact HC321_5.out)
         (case side3 => repeat (first | exact (Kd.C_below HR322_5.out HB.out) | (with_reducible refine Kd.C_alloc ?_ _) | (with_reducible refine Kd.C_drewN ?_ _) | (with_reducible refine Kd.C_drew ?_)))
         (case side4 => exact HC322_5.out)
         rintro e w10 ⟨rfl, hb⟩
         refine ⟨_, rfl, ?_⟩
         have n0_ := ak (below_step d15_1 hb)
         clear HB
         have HB := n0_
         clear n0_
         (try clear hb)
         (try clear hb2)
         (try clear hk)
         (try clear hi)
         refine hK.out _ _ ⟨((HB.out.cell (World.block_lt_of_cell? w _ hw321_0)).trans hw321_0), ((HB.out.cell (World.block_lt_of_cell? w _ hw321_1)).trans hw321_1), ((HB.out.cell (World.block_lt_of_cell? w _ hw321_2)).trans hw321_2), ((HB.out.cell (World.block_lt_of_cell? w _ hw321_3)).trans hw321_3), ((HB.out.cell (World.block_lt_of_cell? w _ hw321_4)).trans hw321_4), ((HB.out.cell (World.block_lt_of_cell? w _ hw321_5)).trans hw321_5), ((HB.out.cell (World.block_lt_of_cell? w _ hw322_0)).trans hw322_0), ((HB.out.cell (World.block_lt_of_cell? w _ hw322_1)).trans hw322_1), ((HB.out.cell (World.block_lt_of_cell? w _ hw322_2)).trans hw322_2), ((HB.out.cell (World.block_lt_of_cell? w _ hw322_3)).trans hw322_3), ((HB.out.cell (World.block_lt_of_cell? w _ hw322_4)).trans hw322_4), ((HB.out.cell (World.block_lt_of_cell? w _ hw322_5)).trans hw322_5)⟩ (fun hHeld => ?_)
         clear hK K
         refine norm_ (a' := ?_) ?_ ?_
         rotate_left
         · show Act.put _ (some 25) _ = _
           simp only [Act.put, List.setIfInBounds_toArray, List.set_cons_zero, List.set_cons_succ, i64_w, i32_w]
           rfl
         refine pure_ (i := 9) (N := some 26) (v := ?_) (a' := ?_) #[true, true, true, true, true, true, true, true, true, true] rfl rfl (any_of HT_.out (by kernel_rfl)) (fun _ _ _ h => h) (Or.inl ⟨by rfl, ?_⟩) ?_ ?_
         rotate_left
         · intro w'
           go_simp
           with_reducible rfl
         rotate_left
         · simp only [Act.put, List.setIfInBounds_toArray, List.set_cons_zero, List.set_cons_succ, i64_w, i32_w]
           rfl
         refine done_ (done_of HT_.out (by kernel_rfl)) ?_
         try go_wp2
         go_roundg k1
         case measure => have := HK1.out; omega
         case rel => exact ⟨(wrap64 (x5_1 + 1)), (by first | rfl | (simp; done) | (simp [*]; done) | (simp [ne_nil_b, eq_nil_b]; done)), H', ⟨by have := HK1.out; omega⟩, ⟨by repeat (first | (with_reducible first | exact HB.out | apply below_alloc | apply pw_below_drewN | apply below_drew1) | exact HB.out)⟩⟩
        ·replace c8 := Bool.eq_false_iff.mpr c8
         subst c8
         have H1 : (some false) = some r := by rw [if_neg (show ¬ (false = true) by decide)] at H; exact H
         clear H
         have H := H1
         clear H1
         obtain rfl := Option.some.inj H
         try go_wp2
         have n0_ := ak (below_drew1 HB.out)
         clear HB
         have HB := n0_
         clear n0_
         have p321 : 0 ≤ (x5_1 : Int) := of_decide_eq_true d15_5
         have q321 : x5_1 < (l0.length : Int) := of_decide_eq_true d15_5
         obtain ⟨ad321, A321_5, c321_5, e321, hx321_0, hx321_1, hx321_2, hx321_3, hx321_4, hx321_5, hl321_5, hi321_5⟩ := at_T93 HR0.out x5_1 p321 q321
         have hw321_5 := hx321_5
         have hw321_4 := hx321_4
         have hw321_3 := hx321_3
         have hw321_2 := hx321_2
         have hw321_1 := hx321_1
         have hw321_0 := hx321_0
         cases e321
         replace hx321_0 := (HB.out.cell (World.block_lt_of_cell? w _ hx321_0)).trans hx321_0
         replace hx321_1 := (HB.out.cell (World.block_lt_of_cell? w _ hx321_1)).trans hx321_1
         replace hx321_2 := (HB.out.cell (World.block_lt_of_cell? w _ hx321_2)).trans hx321_2
         replace hx321_3 := (HB.out.cell (World.block_lt_of_cell? w _ hx321_3)).trans hx321_3
         replace hx321_4 := (HB.out.cell (World.block_lt_of_cell? w _ hx321_4)).trans hx321_4
         replace hx321_5 := (HB.out.cell (World.block_lt_of_cell? w _ hx321_5)).trans hx321_5
         have HR321_5 := ak hi321_5
         have HC321_5 := ak hl321_5
         clear hi321_5 hl321_5
         replace p321 := eq_true p321
         replace q321 := eq_true q321
         have p322 : 0 ≤ (x5_1 : Int) := of_decide_eq_true d15_5
         have q322 : x5_1 < (l1.length : Int) := of_decide_eq_true d15_5
         obtain ⟨ad322, A322_5, c322_5, e322, hx322_0, hx322_1, hx322_2, hx322_3, hx322_4, hx322_5, hl322_5, hi322_5⟩ := at_T93 HR1.out x5_1 p322 q322
         have hw322_5 := hx322_5
         have hw322_4 := hx322_4
         have hw322_3 := hx322_3
         have hw322_2 := hx322_2
         have hw322_1 := hx322_1
         have hw322_0 := hx322_0
         cases e322
         replace hx322_0 := (HB.out.cell (World.block_lt_of_cell? w _ hx322_0)).trans hx322_0
         replace hx322_1 := (HB.out.cell (World.block_lt_of_cell? w _ hx322_1)).trans hx322_1
         replace hx322_2 := (HB.out.cell (World.block_lt_of_cell? w _ hx322_2)).trans hx322_2
         replace hx322_3 := (HB.out.cell (World.block_lt_of_cell? w _ hx322_3)).trans hx322_3
         replace hx322_4 := (HB.out.cell (World.block_lt_of_cell? w _ hx322_4)).trans hx322_4
         replace hx322_5 := (HB.out.cell (World.block_lt_of_cell? w _ hx322_5)).trans hx322_5
         have HR322_5 := ak hi322_5
         have HC322_5 := ak hl322_5
         clear hi322_5 hl322_5
         replace p322 := eq_true p322
         replace q322 := eq_true q322
         refine start_ (n := 10) (S := fun w' => w'.cell? (ad321.add ((x5_1).toNat * 6)) = some (.int .i64 ((rd_T93 l0 x5_1).f0)) ∧ w'.cell? ⟨(ad321.add ((x5_1).toNat * 6)).block, (ad321.add ((x5_1).toNat * 6)).off + 1, none⟩ = some (.int .i64 ((rd_T93 l0 x5_1).f1)) ∧ w'.cell? ⟨(ad321.add ((x5_1).toNat * 6)).block, (ad321.add ((x5_1).toNat * 6)).off + 2, none⟩ = some (.int .i64 ((rd_T93 l0 x5_1).f2)) ∧ w'.cell? ⟨(ad321.add ((x5_1).toNat * 6)).block, (ad321.add ((x5_1).toNat * 6)).off + 3, none⟩ = some (.int .i64 ((rd_T93 l0 x5_1).f3)) ∧ w'.cell? ⟨(ad321.add ((x5_1).toNat * 6)).block, (ad321.add ((x5_1).toNat * 6)).off + 4, none⟩ = some (.string ((rd_T93 l0 x5_1).f4)) ∧ w'.cell? ⟨(ad321.add ((x5_1).toNat * 6)).block, (ad321.add ((x5_1).toNat * 6)).off + 5, none⟩ = some (.slice A321_5 ((rd_T93 l0 x5_1).f5).length c321_5) ∧ w'.cell? (ad322.add ((x5_1).toNat * 6)) = some (.int .i64 ((rd_T93 l1 x5_1).f0)) ∧ w'.cell? ⟨(ad322.add ((x5_1).toNat * 6)).block, (ad322.add ((x5_1).toNat * 6)).off + 1, none⟩ = some (.int .i64 ((rd_T93 l1 x5_1).f1)) ∧ w'.cell? ⟨(ad322.add ((x5_1).toNat * 6)).block, (ad322.add ((x5_1).toNat * 6)).off + 2, none⟩ = some (.int .i64 ((rd_T93 l1 x5_1).f2)) ∧ w'.cell? ⟨(ad322.add ((x5_1).toNat * 6)).block, (ad322.add ((x5_1).toNat * 6)).off + 3, none⟩ = some (.int .i64 ((rd_T93 l1 x5_1).f3)) ∧ w'.cell? ⟨(ad322.add ((x5_1).toNat * 6)).block, (ad322.add ((x5_1).toNat * 6)).off + 4, none⟩ = some (.string ((rd_T93 l1 x5_1).f4)) ∧ w'.cell? ⟨(ad322.add ((x5_1).toNat * 6)).block, (ad322.add ((x5_1).toNat * 6)).off + 5, none⟩ = some (.slice A322_5 ((rd_T93 l1 x5_1).f5).length c322_5)) (ds := []) #[false, false, false, false, false, false, false, false, false, false] (by kernel_rfl) rfl rfl ⟨((HB.out.cell (World.block_lt_of_cell? w _ hw321_0)).trans hw321_0), ((HB.out.cell (World.block_lt_of_cell? w _ hw321_1)).trans hw321_1), ((HB.out.cell (World.block_lt_of_cell? w _ hw321_2)).trans hw321_2), ((HB.out.cell (World.block_lt_of_cell? w _ hw321_3)).trans hw321_3), ((HB.out.cell (World.block_lt_of_cell? w _ hw321_4)).trans hw321_4), ((HB.out.cell (World.block_lt_of_cell? w _ hw321_5)).trans hw321_5), ((HB.out.cell (World.block_lt_of_cell? w _ hw322_0)).trans hw322_0), ((HB.out.cell (World.block_lt_of_cell? w _ hw322_1)).trans hw322_1), ((HB.out.cell (World.block_lt_of_cell? w _ hw322_2)).trans hw322_2), ((HB.out.cell (World.block_lt_of_cell? w _ hw322_3)).trans hw322_3), ((HB.out.cell (World.block_lt_of_cell? w _ hw322_4)).trans hw322_4), ((HB.out.cell (World.block_lt_of_cell? w _ hw322_5)).trans hw322_5)⟩ (fun hHeld => ?_); refine with_tabW laws_eqCoreS.tab6 laws_eqCoreS.bits6 (fun HT_ HW_ => ?_)
         generalize wr.drew = w11 at HB HR321_5 HR322_5 hx321_0 hx321_1 hx321_2 hx321_3 hx321_4 hx321_5 hx322_0 hx322_1 hx322_2 hx322_3 hx322_4 hx322_5 hHeld ⊢
         refine pure_ (i := 0) (N := some 17) (v := ?_) (a' := ?_) #[true, false, false, false, false, false, false, false, false, false] rfl rfl (any_of HT_.out (by kernel_rfl)) (fun _ _ _ h => h) (Or.inl ⟨by rfl, ?_⟩) ?_ ?_
         rotate_left
         · intro w'
           go_simp
           with_reducible rfl
         rotate_left
         · simp only [Act.put, List.setIfInBounds_toArray, List.set_cons_zero, List.set_cons_succ, i64_w, i32_w]
           rfl
         refine pure_ (i := 1) (N := some 18) (v := ?_) (a' := ?_) #[true, true, false, false, false, false, false, false, false, false] rfl rfl (any_of HT_.out (by kernel_rfl)) (fun _ _ _ h => h) (Or.inl ⟨by rfl, ?_⟩) ?_ ?_
         rotate_left
         · intro w'
           go_simp
           with_reducible rfl
         rotate_left
         · simp only [Act.put, List.setIfInBounds_toArray, List.set_cons_zero, List.set_cons_succ, i64_w, i32_w]
           rfl
         refine pure_ (i := 2) (N := some 19) (v := ?_) (a' := ?_) #[true, true, true, false, false, false, false, false, false, false] rfl rfl (any_of HT_.out (by kernel_rfl)) (fun _ _ _ h => h) (Or.inl ⟨by rfl, ?_⟩) ?_ ?_
         rotate_left
         · intro w'
           go_simp
           with_reducible rfl
         rotate_left
         · simp only [Act.put, List.setIfInBounds_toArray, List.set_cons_zero, List.set_cons_succ, i64_w, i32_w]
           rfl
         refine pure_ (i := 4) (N := some 21) (v := ?_) (a' := ?_) #[true, true, true, false, true, false, false, false, false, false] rfl rfl (any_of HT_.out (by kernel_rfl)) (fun _ _ _ h => h) (Or.inl ⟨by rfl, ?_⟩) ?_ ?_
         rotate_left
         · intro w'
           go_simp
           with_reducible rfl
         rotate_left
         · simp only [Act.put, List.setIfInBounds_toArray, List.set_cons_zero, List.set_cons_succ, i64_w, i32_w]
           rfl
         refine pure_ (i := 5) (N := some 22) (v := ?_) (a' := ?_) #[true, true, true, false, true, true, false, false, false, false] rfl rfl (any_of HT_.out (by kernel_rfl)) (fun _ _ _ h => h) (Or.inl ⟨by rfl, ?_⟩) ?_ ?_
         rotate_left
         · intro w'
           go_simp
           with_reducible rfl
         rotate_left
         · simp only [Act.put, List.setIfInBounds_toArray, List.set_cons_zero, List.set_cons_succ, i64_w, i32_w]
           rfl
         refine pure_ (i := 6) (N := some 23) (v := ?_) (a' := ?_) #[true, true, true, false, true, true, true, false, false, false] rfl rfl (any_of HT_.out (by kernel_rfl)) (fun _ _ _ h => h) (Or.inl ⟨by rfl, ?_⟩) ?_ ?_
         rotate_left
         · intro w'
           go_simp
           with_reducible rfl
         rotate_left
         · simp only [Act.put, List.setIfInBounds_toArray, List.set_cons_zero, List.set_cons_succ, i64_w, i32_w]
           rfl
         refine take_ (i := 3) (N := some 20) (v := ?_) (a' := ?_) #[true, true, true, true, true, true, true, false, false, false] rfl rfl (take_ofW HT_.out HW_.out (by kernel_rfl)) (fun _ _ _ h => h) (Or.inl ⟨by rfl, ?_⟩) hHeld ?_ ?_
         rotate_left
         · rintro w' ⟨s0, s1, s2, s3, s4, s5, s6, s7, s8, s9, s10, s11⟩
           go_simp
           with_reducible rfl
         rotate_left
         · simp only [Act.put, List.setIfInBounds_toArray, List.set_cons_zero, List.set_cons_succ, i64_w, i32_w]
           rfl
         refine take_ (i := 7) (N := some 24) (v := ?_) (a' := ?_) #[true, true, true, true, true, true, true, true, false, false] rfl rfl (take_ofW HT_.out HW_.out (by kernel_rfl)) (fun _ _ _ h => h) (Or.inl ⟨by rfl, ?_⟩) hHeld ?_ ?_
         rotate_left
         · rintro w' ⟨s0, s1, s2, s3, s4, s5, s6, s7, s8, s9, s10, s11⟩
           go_simp
           with_reducible rfl
         rotate_left
         · simp only [Act.put, List.setIfInBounds_toArray, List.set_cons_zero, List.set_cons_succ, i64_w, i32_w]
           rfl
         refine one_ (i := 8) (N := some 25) #[true, true, true, true, true, true, true, true, true, false] rfl rfl (one_of HT_.out (by kernel_rfl)) (by decide) (fun K hK => ?_)
         refine goes_ Tryd.func64 (by kernel_rfl) rfl #[.agg #[.int .i64 ((rd_T93 l0 x5_1).f0), .int .i64 ((rd_T93 l0 x5_1).f1), .int .i64 ((rd_T93 l0 x5_1).f2), .int .i64 ((rd_T93 l0 x5_1).f3), .string ((rd_T93 l0 x5_1).f4), .slice A321_5 ((rd_T93 l0 x5_1).f5).length c321_5], .agg #[.int .i64 ((rd_T93 l1 x5_1).f0), .int .i64 ((rd_T93 l1 x5_1).f1), .int .i64 ((rd_T93 l1 x5_1).f2), .int .i64 ((rd_T93 l1 x5_1).f3), .string ((rd_T93 l1 x5_1).f4), .slice A322_5 ((rd_T93 l1 x5_1).f5).length c322_5]] (by rfl) rfl rfl d15_2 ?_
         with_reducible refine (laws_eqCore.calls k1 ((rd_T93 l0 x5_1).f0) ((rd_T93 l0 x5_1).f1) ((rd_T93 l0 x5_1).f2) ((rd_T93 l0 x5_1).f3) ((rd_T93 l0 x5_1).f4) _ _ ((rd_T93 l0 x5_1).f5) ((rd_T93 l1 x5_1).f0) ((rd_T93 l1 x5_1).f1) ((rd_T93 l1 x5_1).f2) ((rd_T93 l1 x5_1).f3) ((rd_T93 l1 x5_1).f4) _ _ ((rd_T93 l1 x5_1).f5) false _ ?side1 ?side2 ?side3 ?side4 A7.out).mono ?_
         (case side1 => repeat (first | exact (Kd.C_below HR321_5.out HB.out) | (with_reducible refine Kd.C_alloc ?_ _) | (with_reducible refine Kd.C_drewN ?_ _) | (with_reducible refine Kd.C_drew ?_)))
         (case side2 => exact HC321_5.out)
         (case side3 => repeat (first | exact (Kd.C_below HR322_5.out HB.out) | (with_reducible refine Kd.C_alloc ?_ _) | (with_reducible refine Kd.C_drewN ?_ _) | (with_reducible refine Kd.C_drew ?_)))
         (case side4 => exact HC322_5.out)
         rintro e w12 ⟨rfl, hb⟩
         refine ⟨_, rfl, ?_⟩
         have n0_ := ak (below_step d15_1 hb)
         clear HB
         have HB := n0_
         clear n0_
         (try clear hb)
         (try clear hb2)
         (try clear hk)
         (try clear hi)
         refine hK.out _ _ ⟨((HB.out.cell (World.block_lt_of_cell? w _ hw321_0)).trans hw321_0), ((HB.out.cell (World.block_lt_of_cell? w _ hw321_1)).trans hw321_1), ((HB.out.cell (World.block_lt_of_cell? w _ hw321_2)).trans hw321_2), ((HB.out.cell (World.block_lt_of_cell? w _ hw321_3)).trans hw321_3), ((HB.out.cell (World.block_lt_of_cell? w _ hw321_4)).trans hw321_4), ((HB.out.cell (World.block_lt_of_cell? w _ hw321_5)).trans hw321_5), ((HB.out.cell (World.block_lt_of_cell? w _ hw322_0)).trans hw322_0), ((HB.out.cell (World.block_lt_of_cell? w _ hw322_1)).trans hw322_1), ((HB.out.cell (World.block_lt_of_cell? w _ hw322_2)).trans hw322_2), ((HB.out.cell (World.block_lt_of_cell? w _ hw322_3)).trans hw322_3), ((HB.out.cell (World.block_lt_of_cell? w _ hw322_4)).trans hw322_4), ((HB.out.cell (World.block_lt_of_cell? w _ hw322_5)).trans hw322_5)⟩ (fun hHeld => ?_)
         clear hK K
         refine norm_ (a' := ?_) ?_ ?_
         rotate_left
         · show Act.put _ (some 25) _ = _
           simp only [Act.put, List.setIfInBounds_toArray, List.set_cons_zero, List.set_cons_succ, i64_w, i32_w]
           rfl
         refine pure_ (i := 9) (N := some 26) (v := ?_) (a' := ?_) #[true, true, true, true, true, true, true, true, true, true] rfl rfl (any_of HT_.out (by kernel_rfl)) (fun _ _ _ h => h) (Or.inl ⟨by rfl, ?_⟩) ?_ ?_
         rotate_left
         · intro w'
           go_simp
           with_reducible rfl
         rotate_left
         · simp only [Act.put, List.setIfInBounds_toArray, List.set_cons_zero, List.set_cons_succ, i64_w, i32_w]
           rfl
         refine done_ (done_of HT_.out (by kernel_rfl)) ?_
         try go_wp2
         go_ret
         exact ⟨by first | rfl | (simp [errW_none, errW_some] <;> rfl) | (simp [*, errW_none, errW_some] <;> rfl), by repeat (first | (with_reducible first | exact HB.out | apply below_alloc | apply pw_below_drewN | apply below_drew1) | exact HB.out)⟩
       ·rw [if_neg c6] at H
        exact absurd H (by simp)
      ·rw [if_neg c5] at H
       exact absurd H (by simp)
     ·rw [if_neg c4] at H
      have c4b0 : decide (x5_1 < (l0.length : Int)) = false := decide_eq_false c4
      clear c4
      obtain rfl := Option.some.inj H
      go_wp2
      go_ret
      exact ⟨by first | rfl | (simp [errW_none, errW_some] <;> rfl) | (simp [*, errW_none, errW_some] <;> rfl), by repeat (first | (with_reducible first | exact HB.out | apply below_alloc | apply pw_below_drewN | apply below_drew1) | exact HB.out)⟩
  ·rw [if_neg c3] at H
   have c3b0 : ((l0.length : Int) == (l1.length : Int)) = false := beq_eq_false_iff_ne.mpr c3
   have c3b1 : ((l0.length : Int) != (l1.length : Int)) = true := bne_iff_ne.mpr c3
   have c3b2 : (l0.length == l1.length) = false := by first | simpa using c3 | (simp at c3 ⊢; omega)
   obtain rfl := Option.some.inj H
   go_enter Tryd.func28, Tryd.ntmps28
   go_wp2
   go_ret
   exact ⟨by first | rfl | (simp [errW_none, errW_some] <;> rfl) | (simp [*, errW_none, errW_some] <;> rfl), by repeat (first | (with_reducible first | exact HB.out | apply below_alloc | apply pw_below_drewN | apply below_drew1) | exact HB.out)⟩

/-! ### laws_FnExactCoreFault: function 6 -/
def laws_FnExactCoreFault.f (k : Nat) (l0 : List (S90)) : Option (Bool) := (laws_szCoreS.f k l0 1048576).bind fun t324 => (if t324 < 0 then (some true) else ((laws_toCoreS.f k l0).bind fun t325 => ((spec_CoreFault.f k t325).bind fun t328 => ((laws_toCoreS.f k l0).bind fun t329 => ((impl_CoreFault.f k t329).bind fun t332 => (if t332 = t328 then ((laws_toCoreS.f k l0).bind fun t333 => ((laws_eqCoreS.f k t329 t333).bind fun t336 => (if t336 = true then (some true) else (some false)))) else (some false)))))))
theorem laws_FnExactCoreFault.mono : ∀ a0 k, LeO (laws_FnExactCoreFault.f k a0) (laws_FnExactCoreFault.f (k + 1) a0) := by
  intro a0 k
  unfold laws_FnExactCoreFault.f
  repeat' first
      | (with_reducible exact impl_CoreFault.mono _ _)
      | (with_reducible exact laws_eqCoreS.mono _ _ _)
      | (with_reducible exact laws_szCoreS.mono _ _ _)
      | (with_reducible exact laws_toCoreS.mono _ _)
      | (with_reducible exact spec_CoreFault.mono _ _)
      | (with_reducible exact LeO.refl _)
      | (with_reducible exact LeO.none _)
      | (with_reducible refine LeO.ite ?_ ?_)
      | (with_reducible refine LeO.bind ?_ (fun _ => ?_))
      | exact impl_CoreFault.mono _ _
      | exact laws_eqCoreS.mono _ _ _
      | exact laws_szCoreS.mono _ _ _
      | exact laws_toCoreS.mono _ _
      | exact spec_CoreFault.mono _ _
      | exact LeO.none _
      | refine LeO.ite ?_ ?_
      | refine LeO.bind ?_ (fun _ => ?_)
set_option maxHeartbeats 8000000 in
set_option maxRecDepth 100000 in
theorem laws_FnExactCoreFault.calls (k : Nat) (A0 : Option Addr) (c0 : Nat) (l0 : List (S90)) (r : Bool) (w : World) (hr0 : Kd.C k90 w A0 l0.length l0) (hc0 : l0.length ≤ c0) (h : laws_FnExactCoreFault.f k l0 = some r) :
    Calls Tryd.prog 6 #[.slice A0 l0.length c0] w fun e w' => e = .returned (.bool r) ∧ Below w.heap.size w w' := by
  have HR0 := ak hr0
  have HC0 := ak hc0
  clear hr0 hc0
  have HB := ak (Below.refl w.heap.size w)
  have H : ((laws_szCoreS.f k l0 1048576).bind fun t324 => (if t324 < 0 then (some true) else ((laws_toCoreS.f k l0).bind fun t325 => ((spec_CoreFault.f k t325).bind fun t328 => ((laws_toCoreS.f k l0).bind fun t329 => ((impl_CoreFault.f k t329).bind fun t332 => (if t332 = t328 then ((laws_toCoreS.f k l0).bind fun t333 => ((laws_eqCoreS.f k t329 t333).bind fun t336 => (if t336 = true then (some true) else (some false)))) else (some false)))))))) = some r := h
  clear h
  replace H := Option.bind_eq_some_iff.mp H
  obtain ⟨t324, A20, H⟩ := H
  replace H : (if t324 < 0 then (some true) else ((laws_toCoreS.f k l0).bind fun t325 => ((spec_CoreFault.f k t325).bind fun t328 => ((laws_toCoreS.f k l0).bind fun t329 => ((impl_CoreFault.f k t329).bind fun t332 => (if t332 = t328 then ((laws_toCoreS.f k l0).bind fun t333 => ((laws_eqCoreS.f k t329 t333).bind fun t336 => (if t336 = true then (some true) else (some false)))) else (some false))))))) = some r := H
  have A2 := ak A20
  clear A20
  by_cases c3 : t324 < 0
  ·rw [if_pos c3] at H
   have c3b0 : decide (t324 < 0) = true := decide_eq_true c3
   clear c3
   obtain rfl := Option.some.inj H
   go_enter Tryd.func6, Tryd.ntmps6
   go_wp2_with (first | ((with_reducible refine gate_callee (f := 24) rfl ?_); refine goesL_ (some 9) rfl rfl Tryd.func24 (by kernel_rfl) rfl #[.slice A0 l0.length c0, .int .i64 1048576] rfl d15_2 ?_; (with_reducible refine (laws_szCoreS.calls k _ _ l0 1048576 t324 _ ?side1 ?side2 A2.out).mono ?_); (case side1 => repeat (first | exact HR0.out | (with_reducible refine Kd.C_alloc ?_ _) | (with_reducible refine Kd.C_drewN ?_ _) | (with_reducible refine Kd.C_drew ?_))); (case side2 => exact HC0.out); rintro e w4 ⟨rfl, hb⟩; refine ⟨_, rfl, ?_⟩; have n0_ := ak (below_step d15_1 hb); clear HB; have HB := n0_; clear n0_; (try clear hb)))
   go_ret
   exact ⟨by first | rfl | (simp [errW_none, errW_some] <;> rfl) | (simp [*, errW_none, errW_some] <;> rfl), by repeat (first | (with_reducible first | exact HB.out | apply below_alloc | apply pw_below_drewN | apply below_drew1) | exact HB.out)⟩
  ·rw [if_neg c3] at H
   have c3b0 : decide (t324 < 0) = false := decide_eq_false c3
   clear c3
   replace H := Option.bind_eq_some_iff.mp H
   obtain ⟨t325, A50, H⟩ := H
   replace H : ((spec_CoreFault.f k t325).bind fun t328 => ((laws_toCoreS.f k l0).bind fun t329 => ((impl_CoreFault.f k t329).bind fun t332 => (if t332 = t328 then ((laws_toCoreS.f k l0).bind fun t333 => ((laws_eqCoreS.f k t329 t333).bind fun t336 => (if t336 = true then (some true) else (some false)))) else (some false))))) = some r := H
   have A5 := ak A50
   clear A50
   replace H := Option.bind_eq_some_iff.mp H
   obtain ⟨t328, A60, H⟩ := H
   replace H : ((laws_toCoreS.f k l0).bind fun t329 => ((impl_CoreFault.f k t329).bind fun t332 => (if t332 = t328 then ((laws_toCoreS.f k l0).bind fun t333 => ((laws_eqCoreS.f k t329 t333).bind fun t336 => (if t336 = true then (some true) else (some false)))) else (some false)))) = some r := H
   have A6 := ak A60
   clear A60
   replace H := Option.bind_eq_some_iff.mp H
   obtain ⟨t329, A70, H⟩ := H
   replace H : ((impl_CoreFault.f k t329).bind fun t332 => (if t332 = t328 then ((laws_toCoreS.f k l0).bind fun t333 => ((laws_eqCoreS.f k t329 t333).bind fun t336 => (if t336 = true then (some true) else (some false)))) else (some false))) = some r := H
   have A7 := ak A70
   clear A70
   replace H := Option.bind_eq_some_iff.mp H
   obtain ⟨t332, A80, H⟩ := H
   replace H : (if t332 = t328 then ((laws_toCoreS.f k l0).bind fun t333 => ((laws_eqCoreS.f k t329 t333).bind fun t336 => (if t336 = true then (some true) else (some false)))) else (some false)) = some r := H
   have A8 := ak A80
   clear A80
   by_cases c9 : t332 = t328
   ·rw [if_pos c9] at H
    have c9b0 : (t332 == t328) = true := beq_iff_eq.mpr c9
    have c9b1 : (t332 != t328) = false := bne_eq_false_iff_eq.mpr c9
    clear c9
    replace H := Option.bind_eq_some_iff.mp H
    obtain ⟨t333, A100, H⟩ := H
    replace H : ((laws_eqCoreS.f k t329 t333).bind fun t336 => (if t336 = true then (some true) else (some false))) = some r := H
    have A10 := ak A100
    clear A100
    replace H := Option.bind_eq_some_iff.mp H
    obtain ⟨t336, A110, H⟩ := H
    replace H : (if t336 = true then (some true) else (some false)) = some r := H
    have A11 := ak A110
    clear A110
    by_cases c12 : t336 = true
    ·subst c12
     have H1 : (some true) = some r := by rw [if_pos rfl] at H; exact H
     clear H
     have H := H1
     clear H1
     obtain rfl := Option.some.inj H
     go_enter Tryd.func6, Tryd.ntmps6
     go_wp2_with (first | ((with_reducible refine gate_callee (f := 24) rfl ?_); refine goesL_ (some 9) rfl rfl Tryd.func24 (by kernel_rfl) rfl #[.slice A0 l0.length c0, .int .i64 1048576] rfl d15_2 ?_; (with_reducible refine (laws_szCoreS.calls k _ _ l0 1048576 t324 _ ?side1 ?side2 A2.out).mono ?_); (case side1 => repeat (first | exact HR0.out | (with_reducible refine Kd.C_alloc ?_ _) | (with_reducible refine Kd.C_drewN ?_ _) | (with_reducible refine Kd.C_drew ?_))); (case side2 => exact HC0.out); rintro e w13 ⟨rfl, hb⟩; refine ⟨_, rfl, ?_⟩; have n0_ := ak (below_step d15_1 hb); clear HB; have HB := n0_; clear n0_; (try clear hb)) | ((with_reducible refine gate_callee (f := 26) rfl ?_); refine goesL_ (some 13) rfl rfl Tryd.func26 (by kernel_rfl) rfl #[.slice A0 l0.length c0] rfl d15_2 ?_; (with_reducible refine (laws_toCoreS.calls k _ _ l0 t325 _ ?side1 ?side2 A5.out).mono ?_); (case side1 => repeat (first | exact (Kd.C_below HR0.out HB.out) | (with_reducible refine Kd.C_alloc ?_ _) | (with_reducible refine Kd.C_drewN ?_ _) | (with_reducible refine Kd.C_drew ?_))); (case side2 => exact HC0.out); rintro e w14 ⟨v326, rfl, ho0, hb⟩; refine ⟨_, rfl, ?_⟩; have n0_ := ak (Kd.S_lower ho0 (below_size d15_1)); have n1_ := ak (below_step d15_1 hb); clear HB; have HO327 := n0_; have HB := n1_; clear n0_ n1_; (try clear hb); (try clear ho0); obtain ⟨Ao15, co15, eo15⟩ := Kd.S_slice HO327.out; subst eo15) | ((with_reducible refine gate_callee (f := 25) rfl ?_); refine goesL_ (some 14) rfl rfl Tryd.func25 (by kernel_rfl) rfl #[.slice Ao15 t325.length co15] rfl d15_2 ?_; (with_reducible refine (spec_CoreFault.calls k _ _ t325 t328 _ ?side1 ?side2 A6.out).mono ?_); (case side1 => repeat (first | exact (Kd.S_reads' HO327.out).2.2 | (with_reducible refine Kd.C_alloc ?_ _) | (with_reducible refine Kd.C_drewN ?_ _) | (with_reducible refine Kd.C_drew ?_))); (case side2 => exact (Kd.S_reads' HO327.out).2.1); rintro e w16 ⟨rfl, hb⟩; refine ⟨_, rfl, ?_⟩; have n0_ := ak (Kd.S_below d15_3 hb); have n1_ := ak (below_step d15_1 hb); clear HO327 HB; have HO327 := n0_; have HB := n1_; clear n0_ n1_; (try clear hb)) | ((with_reducible refine gate_callee (f := 26) rfl ?_); refine goesL_ (some 16) rfl rfl Tryd.func26 (by kernel_rfl) rfl #[.slice A0 l0.length c0] rfl d15_2 ?_; (with_reducible refine (laws_toCoreS.calls k _ _ l0 t329 _ ?side1 ?side2 A7.out).mono ?_); (case side1 => repeat (first | exact (Kd.C_below HR0.out HB.out) | (with_reducible refine Kd.C_alloc ?_ _) | (with_reducible refine Kd.C_drewN ?_ _) | (with_reducible refine Kd.C_drew ?_))); (case side2 => exact HC0.out); rintro e w17 ⟨v330, rfl, ho0, hb⟩; refine ⟨_, rfl, ?_⟩; have n0_ := ak (Kd.S_elder' d15_3 (Kd.S_base ho0) hb); have n1_ := ak (Kd.S_lower (Kd.S_new' ho0 (Kd.S_lt d15_3)) (below_size d15_1)); have n2_ := ak (below_step d15_1 hb); clear HO327 HB; have HO327 := n0_; have HO331 := n1_; have HB := n2_; clear n0_ n1_ n2_; (try clear hb); (try clear ho0); obtain ⟨Ao18, co18, eo18⟩ := Kd.S_slice HO331.out; subst eo18) | ((with_reducible refine gate_callee (f := 27) rfl ?_); refine goesL_ (some 18) rfl rfl Tryd.func27 (by kernel_rfl) rfl #[.slice Ao18 t329.length co18] rfl d15_2 ?_; (with_reducible refine (impl_CoreFault.calls k _ _ t329 t332 _ ?side1 ?side2 A8.out).mono ?_); (case side1 => repeat (first | exact (Kd.S_reads' HO331.out).2.2 | (with_reducible refine Kd.C_alloc ?_ _) | (with_reducible refine Kd.C_drewN ?_ _) | (with_reducible refine Kd.C_drew ?_))); (case side2 => exact (Kd.S_reads' HO331.out).2.1); rintro e w19 ⟨rfl, hb⟩; refine ⟨_, rfl, ?_⟩; have n0_ := ak (Kd.S_below d15_3 hb); have n1_ := ak (Kd.S_below d15_4 hb); have n2_ := ak (below_step d15_1 hb); clear HO327 HO331 HB; have HO327 := n0_; have HO331 := n1_; have HB := n2_; clear n0_ n1_ n2_; (try clear hb)) | ((with_reducible refine gate_callee (f := 26) rfl ?_); refine goesL_ (some 24) rfl rfl Tryd.func26 (by kernel_rfl) rfl #[.slice A0 l0.length c0] rfl d15_2 ?_; (with_reducible refine (laws_toCoreS.calls k _ _ l0 t333 _ ?side1 ?side2 A10.out).mono ?_); (case side1 => repeat (first | exact (Kd.C_below HR0.out HB.out) | (with_reducible refine Kd.C_alloc ?_ _) | (with_reducible refine Kd.C_drewN ?_ _) | (with_reducible refine Kd.C_drew ?_))); (case side2 => exact HC0.out); rintro e w20 ⟨v334, rfl, ho0, hb⟩; refine ⟨_, rfl, ?_⟩; have n0_ := ak (Kd.S_elder' d15_3 (Kd.S_base ho0) hb); have n1_ := ak (Kd.S_elder' d15_4 (Kd.S_base ho0) hb); have n2_ := ak (Kd.S_lower (Kd.S_new' (Kd.S_new' ho0 (Kd.S_lt d15_3)) (Kd.S_lt d15_4)) (below_size d15_1)); have n3_ := ak (below_step d15_1 hb); clear HO327 HO331 HB; have HO327 := n0_; have HO331 := n1_; have HO335 := n2_; have HB := n3_; clear n0_ n1_ n2_ n3_; (try clear hb); (try clear ho0); obtain ⟨Ao21, co21, eo21⟩ := Kd.S_slice HO335.out; subst eo21) | ((with_reducible refine gate_callee (f := 28) rfl ?_); refine goesL_ (some 25) rfl rfl Tryd.func28 (by kernel_rfl) rfl #[.slice Ao18 t329.length co18, .slice Ao21 t333.length co21] rfl d15_2 ?_; (with_reducible refine (laws_eqCoreS.calls k _ _ t329 _ _ t333 true _ ?side1 ?side2 ?side3 ?side4 A11.out).mono ?_); (case side1 => repeat (first | exact (Kd.S_reads' HO331.out).2.2 | (with_reducible refine Kd.C_alloc ?_ _) | (with_reducible refine Kd.C_drewN ?_ _) | (with_reducible refine Kd.C_drew ?_))); (case side2 => exact (Kd.S_reads' HO331.out).2.1); (case side3 => repeat (first | exact (Kd.S_reads' HO335.out).2.2 | (with_reducible refine Kd.C_alloc ?_ _) | (with_reducible refine Kd.C_drewN ?_ _) | (with_reducible refine Kd.C_drew ?_))); (case side4 => exact (Kd.S_reads' HO335.out).2.1); rintro e w22 ⟨rfl, hb⟩; refine ⟨_, rfl, ?_⟩; have n0_ := ak (Kd.S_below d15_3 hb); have n1_ := ak (Kd.S_below d15_4 hb); have n2_ := ak (Kd.S_below (by (with_reducible repeat (first | apply Kd.S_alloc | apply Kd.S_drewN | apply Kd.S_drew)); exact HO335.out) hb); have n3_ := ak (below_step d15_1 hb); clear HO327 HO331 HO335 HB; have HO327 := n0_; have HO331 := n1_; have HO335 := n2_; have HB := n3_; clear n0_ n1_ n2_ n3_; (try clear hb)))
     go_ret
     exact ⟨by first | rfl | (simp [errW_none, errW_some] <;> rfl) | (simp [*, errW_none, errW_some] <;> rfl), by repeat (first | (with_reducible first | exact HB.out | apply below_alloc | apply pw_below_drewN | apply below_drew1) | exact HB.out)⟩
    ·replace c12 := Bool.eq_false_iff.mpr c12
     subst c12
     have H1 : (some false) = some r := by rw [if_neg (show ¬ (false = true) by decide)] at H; exact H
     clear H
     have H := H1
     clear H1
     obtain rfl := Option.some.inj H
     go_enter Tryd.func6, Tryd.ntmps6
     go_wp2_with (first | ((with_reducible refine gate_callee (f := 24) rfl ?_); refine goesL_ (some 9) rfl rfl Tryd.func24 (by kernel_rfl) rfl #[.slice A0 l0.length c0, .int .i64 1048576] rfl d15_2 ?_; (with_reducible refine (laws_szCoreS.calls k _ _ l0 1048576 t324 _ ?side1 ?side2 A2.out).mono ?_); (case side1 => repeat (first | exact HR0.out | (with_reducible refine Kd.C_alloc ?_ _) | (with_reducible refine Kd.C_drewN ?_ _) | (with_reducible refine Kd.C_drew ?_))); (case side2 => exact HC0.out); rintro e w23 ⟨rfl, hb⟩; refine ⟨_, rfl, ?_⟩; have n0_ := ak (below_step d15_1 hb); clear HB; have HB := n0_; clear n0_; (try clear hb)) | ((with_reducible refine gate_callee (f := 26) rfl ?_); refine goesL_ (some 13) rfl rfl Tryd.func26 (by kernel_rfl) rfl #[.slice A0 l0.length c0] rfl d15_2 ?_; (with_reducible refine (laws_toCoreS.calls k _ _ l0 t325 _ ?side1 ?side2 A5.out).mono ?_); (case side1 => repeat (first | exact (Kd.C_below HR0.out HB.out) | (with_reducible refine Kd.C_alloc ?_ _) | (with_reducible refine Kd.C_drewN ?_ _) | (with_reducible refine Kd.C_drew ?_))); (case side2 => exact HC0.out); rintro e w24 ⟨v326, rfl, ho0, hb⟩; refine ⟨_, rfl, ?_⟩; have n0_ := ak (Kd.S_lower ho0 (below_size d15_1)); have n1_ := ak (below_step d15_1 hb); clear HB; have HO327 := n0_; have HB := n1_; clear n0_ n1_; (try clear hb); (try clear ho0); obtain ⟨Ao25, co25, eo25⟩ := Kd.S_slice HO327.out; subst eo25) | ((with_reducible refine gate_callee (f := 25) rfl ?_); refine goesL_ (some 14) rfl rfl Tryd.func25 (by kernel_rfl) rfl #[.slice Ao25 t325.length co25] rfl d15_2 ?_; (with_reducible refine (spec_CoreFault.calls k _ _ t325 t328 _ ?side1 ?side2 A6.out).mono ?_); (case side1 => repeat (first | exact (Kd.S_reads' HO327.out).2.2 | (with_reducible refine Kd.C_alloc ?_ _) | (with_reducible refine Kd.C_drewN ?_ _) | (with_reducible refine Kd.C_drew ?_))); (case side2 => exact (Kd.S_reads' HO327.out).2.1); rintro e w26 ⟨rfl, hb⟩; refine ⟨_, rfl, ?_⟩; have n0_ := ak (Kd.S_below d15_3 hb); have n1_ := ak (below_step d15_1 hb); clear HO327 HB; have HO327 := n0_; have HB := n1_; clear n0_ n1_; (try clear hb)) | ((with_reducible refine gate_callee (f := 26) rfl ?_); refine goesL_ (some 16) rfl rfl Tryd.func26 (by kernel_rfl) rfl #[.slice A0 l0.length c0] rfl d15_2 ?_; (with_reducible refine (laws_toCoreS.calls k _ _ l0 t329 _ ?side1 ?side2 A7.out).mono ?_); (case side1 => repeat (first | exact (Kd.C_below HR0.out HB.out) | (with_reducible refine Kd.C_alloc ?_ _) | (with_reducible refine Kd.C_drewN ?_ _) | (with_reducible refine Kd.C_drew ?_))); (case side2 => exact HC0.out); rintro e w27 ⟨v330, rfl, ho0, hb⟩; refine ⟨_, rfl, ?_⟩; have n0_ := ak (Kd.S_elder' d15_3 (Kd.S_base ho0) hb); have n1_ := ak (Kd.S_lower (Kd.S_new' ho0 (Kd.S_lt d15_3)) (below_size d15_1)); have n2_ := ak (below_step d15_1 hb); clear HO327 HB; have HO327 := n0_; have HO331 := n1_; have HB := n2_; clear n0_ n1_ n2_; (try clear hb); (try clear ho0); obtain ⟨Ao28, co28, eo28⟩ := Kd.S_slice HO331.out; subst eo28) | ((with_reducible refine gate_callee (f := 27) rfl ?_); refine goesL_ (some 18) rfl rfl Tryd.func27 (by kernel_rfl) rfl #[.slice Ao28 t329.length co28] rfl d15_2 ?_; (with_reducible refine (impl_CoreFault.calls k _ _ t329 t332 _ ?side1 ?side2 A8.out).mono ?_); (case side1 => repeat (first | exact (Kd.S_reads' HO331.out).2.2 | (with_reducible refine Kd.C_alloc ?_ _) | (with_reducible refine Kd.C_drewN ?_ _) | (with_reducible refine Kd.C_drew ?_))); (case side2 => exact (Kd.S_reads' HO331.out).2.1); rintro e w29 ⟨rfl, hb⟩; refine ⟨_, rfl, ?_⟩; have n0_ := ak (Kd.S_below d15_3 hb); have n1_ := ak (Kd.S_below d15_4 hb); have n2_ := ak (below_step d15_1 hb); clear HO327 HO331 HB; have HO327 := n0_; have HO331 := n1_; have HB := n2_; clear n0_ n1_ n2_; (try clear hb)) | ((with_reducible refine gate_callee (f := 26) rfl ?_); refine goesL_ (some 24) rfl rfl Tryd.func26 (by kernel_rfl) rfl #[.slice A0 l0.length c0] rfl d15_2 ?_; (with_reducible refine (laws_toCoreS.calls k _ _ l0 t333 _ ?side1 ?side2 A10.out).mono ?_); (case side1 => repeat (first | exact (Kd.C_below HR0.out HB.out) | (with_reducible refine Kd.C_alloc ?_ _) | (with_reducible refine Kd.C_drewN ?_ _) | (with_reducible refine Kd.C_drew ?_))); (case side2 => exact HC0.out); rintro e w30 ⟨v334, rfl, ho0, hb⟩; refine ⟨_, rfl, ?_⟩; have n0_ := ak (Kd.S_elder' d15_3 (Kd.S_base ho0) hb); have n1_ := ak (Kd.S_elder' d15_4 (Kd.S_base ho0) hb); have n2_ := ak (Kd.S_lower (Kd.S_new' (Kd.S_new' ho0 (Kd.S_lt d15_3)) (Kd.S_lt d15_4)) (below_size d15_1)); have n3_ := ak (below_step d15_1 hb); clear HO327 HO331 HB; have HO327 := n0_; have HO331 := n1_; have HO335 := n2_; have HB := n3_; clear n0_ n1_ n2_ n3_; (try clear hb); (try clear ho0); obtain ⟨Ao31, co31, eo31⟩ := Kd.S_slice HO335.out; subst eo31) | ((with_reducible refine gate_callee (f := 28) rfl ?_); refine goesL_ (some 25) rfl rfl Tryd.func28 (by kernel_rfl) rfl #[.slice Ao28 t329.length co28, .slice Ao31 t333.length co31] rfl d15_2 ?_; (with_reducible refine (laws_eqCoreS.calls k _ _ t329 _ _ t333 false _ ?side1 ?side2 ?side3 ?side4 A11.out).mono ?_); (case side1 => repeat (first | exact (Kd.S_reads' HO331.out).2.2 | (with_reducible refine Kd.C_alloc ?_ _) | (with_reducible refine Kd.C_drewN ?_ _) | (with_reducible refine Kd.C_drew ?_))); (case side2 => exact (Kd.S_reads' HO331.out).2.1); (case side3 => repeat (first | exact (Kd.S_reads' HO335.out).2.2 | (with_reducible refine Kd.C_alloc ?_ _) | (with_reducible refine Kd.C_drewN ?_ _) | (with_reducible refine Kd.C_drew ?_))); (case side4 => exact (Kd.S_reads' HO335.out).2.1); rintro e w32 ⟨rfl, hb⟩; refine ⟨_, rfl, ?_⟩; have n0_ := ak (Kd.S_below d15_3 hb); have n1_ := ak (Kd.S_below d15_4 hb); have n2_ := ak (Kd.S_below (by (with_reducible repeat (first | apply Kd.S_alloc | apply Kd.S_drewN | apply Kd.S_drew)); exact HO335.out) hb); have n3_ := ak (below_step d15_1 hb); clear HO327 HO331 HO335 HB; have HO327 := n0_; have HO331 := n1_; have HO335 := n2_; have HB := n3_; clear n0_ n1_ n2_ n3_; (try clear hb)))
     go_ret
     exact ⟨by first | rfl | (simp [errW_none, errW_some] <;> rfl) | (simp [*, errW_none, errW_some] <;> rfl), by repeat (first | (with_reducible first | exact HB.out | apply below_alloc | apply pw_below_drewN | apply below_drew1) | exact HB.out)⟩
   ·rw [if_neg c9] at H
    have c9b0 : (t332 == t328) = false := beq_eq_false_iff_ne.mpr c9
    have c9b1 : (t332 != t328) = true := bne_iff_ne.mpr c9
    obtain rfl := Option.some.inj H
    go_enter Tryd.func6, Tryd.ntmps6
    go_wp2_with (first | ((with_reducible refine gate_callee (f := 24) rfl ?_); refine goesL_ (some 9) rfl rfl Tryd.func24 (by kernel_rfl) rfl #[.slice A0 l0.length c0, .int .i64 1048576] rfl d15_2 ?_; (with_reducible refine (laws_szCoreS.calls k _ _ l0 1048576 t324 _ ?side1 ?side2 A2.out).mono ?_); (case side1 => repeat (first | exact HR0.out | (with_reducible refine Kd.C_alloc ?_ _) | (with_reducible refine Kd.C_drewN ?_ _) | (with_reducible refine Kd.C_drew ?_))); (case side2 => exact HC0.out); rintro e w33 ⟨rfl, hb⟩; refine ⟨_, rfl, ?_⟩; have n0_ := ak (below_step d15_1 hb); clear HB; have HB := n0_; clear n0_; (try clear hb)) | ((with_reducible refine gate_callee (f := 26) rfl ?_); refine goesL_ (some 13) rfl rfl Tryd.func26 (by kernel_rfl) rfl #[.slice A0 l0.length c0] rfl d15_2 ?_; (with_reducible refine (laws_toCoreS.calls k _ _ l0 t325 _ ?side1 ?side2 A5.out).mono ?_); (case side1 => repeat (first | exact (Kd.C_below HR0.out HB.out) | (with_reducible refine Kd.C_alloc ?_ _) | (with_reducible refine Kd.C_drewN ?_ _) | (with_reducible refine Kd.C_drew ?_))); (case side2 => exact HC0.out); rintro e w34 ⟨v326, rfl, ho0, hb⟩; refine ⟨_, rfl, ?_⟩; have n0_ := ak (Kd.S_lower ho0 (below_size d15_1)); have n1_ := ak (below_step d15_1 hb); clear HB; have HO327 := n0_; have HB := n1_; clear n0_ n1_; (try clear hb); (try clear ho0); obtain ⟨Ao35, co35, eo35⟩ := Kd.S_slice HO327.out; subst eo35) | ((with_reducible refine gate_callee (f := 25) rfl ?_); refine goesL_ (some 14) rfl rfl Tryd.func25 (by kernel_rfl) rfl #[.slice Ao35 t325.length co35] rfl d15_2 ?_; (with_reducible refine (spec_CoreFault.calls k _ _ t325 t328 _ ?side1 ?side2 A6.out).mono ?_); (case side1 => repeat (first | exact (Kd.S_reads' HO327.out).2.2 | (with_reducible refine Kd.C_alloc ?_ _) | (with_reducible refine Kd.C_drewN ?_ _) | (with_reducible refine Kd.C_drew ?_))); (case side2 => exact (Kd.S_reads' HO327.out).2.1); rintro e w36 ⟨rfl, hb⟩; refine ⟨_, rfl, ?_⟩; have n0_ := ak (Kd.S_below d15_3 hb); have n1_ := ak (below_step d15_1 hb); clear HO327 HB; have HO327 := n0_; have HB := n1_; clear n0_ n1_; (try clear hb)) | ((with_reducible refine gate_callee (f := 26) rfl ?_); refine goesL_ (some 16) rfl rfl Tryd.func26 (by kernel_rfl) rfl #[.slice A0 l0.length c0] rfl d15_2 ?_; (with_reducible refine (laws_toCoreS.calls k _ _ l0 t329 _ ?side1 ?side2 A7.out).mono ?_); (case side1 => repeat (first | exact (Kd.C_below HR0.out HB.out) | (with_reducible refine Kd.C_alloc ?_ _) | (with_reducible refine Kd.C_drewN ?_ _) | (with_reducible refine Kd.C_drew ?_))); (case side2 => exact HC0.out); rintro e w37 ⟨v330, rfl, ho0, hb⟩; refine ⟨_, rfl, ?_⟩; have n0_ := ak (Kd.S_elder' d15_3 (Kd.S_base ho0) hb); have n1_ := ak (Kd.S_lower (Kd.S_new' ho0 (Kd.S_lt d15_3)) (below_size d15_1)); have n2_ := ak (below_step d15_1 hb); clear HO327 HB; have HO327 := n0_; have HO331 := n1_; have HB := n2_; clear n0_ n1_ n2_; (try clear hb); (try clear ho0); obtain ⟨Ao38, co38, eo38⟩ := Kd.S_slice HO331.out; subst eo38) | ((with_reducible refine gate_callee (f := 27) rfl ?_); refine goesL_ (some 18) rfl rfl Tryd.func27 (by kernel_rfl) rfl #[.slice Ao38 t329.length co38] rfl d15_2 ?_; (with_reducible refine (impl_CoreFault.calls k _ _ t329 t332 _ ?side1 ?side2 A8.out).mono ?_); (case side1 => repeat (first | exact (Kd.S_reads' HO331.out).2.2 | (with_reducible refine Kd.C_alloc ?_ _) | (with_reducible refine Kd.C_drewN ?_ _) | (with_reducible refine Kd.C_drew ?_))); (case side2 => exact (Kd.S_reads' HO331.out).2.1); rintro e w39 ⟨rfl, hb⟩; refine ⟨_, rfl, ?_⟩; have n0_ := ak (Kd.S_below d15_3 hb); have n1_ := ak (Kd.S_below d15_4 hb); have n2_ := ak (below_step d15_1 hb); clear HO327 HO331 HB; have HO327 := n0_; have HO331 := n1_; have HB := n2_; clear n0_ n1_ n2_; (try clear hb)))
    go_ret
    exact ⟨by first | rfl | (simp [errW_none, errW_some] <;> rfl) | (simp [*, errW_none, errW_some] <;> rfl), by repeat (first | (with_reducible first | exact HB.out | apply below_alloc | apply pw_below_drewN | apply below_drew1) | exact HB.out)⟩

end Go.Proofs.YtcliaceiijaafaaDoor.C
