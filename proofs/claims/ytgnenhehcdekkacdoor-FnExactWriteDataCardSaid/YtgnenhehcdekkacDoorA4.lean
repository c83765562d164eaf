/- Walks of the program's functions: each Go function's answer as a plain Lean function, and that the call comes to it. Written by a program. Conditions: those in each theorem's own head. -/
import Derived.Test.YtgnenhehcdekkacDoorA0
import Derived.Test.YtgnenhehcdekkacDoorA3
namespace Go.Proofs.YtgnenhehcdekkacDoor.A
open Go.RowKit Go.Proofs.YtgnenhehcdekkacDoorW.PrintWords Go.Proofs.YtgnenhehcdekkacDoorW.PrintLast Go.Proofs.YtgnenhehcdekkacDoorW.PrintMore
attribute [local go_sem] max2_int min2_int max_two min_two max_three min_three max_four min_four   -- for this text's walks alone
set_option linter.unusedVariables false
set_option linter.unusedSimpArgs false

theorem b4N {w : World} {g : Nat} {o : Obj} (h : w.heap[g]? = some o) (n : Nat) : (w.drewN n).heap[g]? = some o := h
theorem b4D {w : World} {g : Nat} {o : Obj} (h : w.heap[g]? = some o) : (w.drew).heap[g]? = some o := h
theorem b4L {w : World} {g : Nat} {o : Obj} (h : w.heap[g]? = some o) (o' : Obj) : (w.alloc o').heap[g]? = some o := blk_alloc h o'
theorem d4_1 {p : Prop} (h : p := by repeat (first | (with_reducible first | exact HB.out | apply below_alloc | apply pw_below_drewN | apply below_drew1) | exact HB.out)) : p := h
theorem d4_2 {p : Prop} (h : p := by (try simp only [List.map_toArray, List.map_cons, List.map_nil]); first | done | rfl | (simp only [List.length_drop, List.length_take]; rfl)) : p := h
theorem d4_3 {p : Prop} (h : p := by first | (with_reducible assumption) | assumption) : p := h
theorem d4_4 {p : Prop} (h : p := by repeat (first | (with_reducible first | exact HB.out | apply below_alloc | apply pw_below_drewN | apply below_drew1 | refine below_set ?_ GE156.out) | exact HB.out)) : p := h
theorem d4_5 {p : Prop} (h : p := by first | rfl | (simp; done) | (simp [*]; done) | (simp [ne_nil_b, eq_nil_b]; done)) : p := h
theorem d4_6 {p : Prop} (h : p := by (with_reducible repeat first | apply b4N | apply b4D | apply b4L); exact BK159.out) : p := h
theorem d4_7 {p : Prop} (h : p := by (with_reducible repeat first | apply b4N | apply b4D | apply b4L); exact BK156.out) : p := h
theorem d4_8 {p : Prop} (h : p := by (with_reducible repeat (first | apply Kd.R_alloc | apply Kd.R_drewN | apply Kd.R_drew)); exact HO134.out) : p := h
theorem d4_9 {p : Prop} (h : p := by repeat (first | (with_reducible first | exact HB.out | apply below_alloc | apply pw_below_drewN | apply below_drew1 | refine below_set ?_ GE159.out | refine below_set ?_ GE160.out) | exact HB.out)) : p := h
theorem d4_10 {p : Prop} (h : p := by repeat (first | (with_reducible first | exact HB.out | apply below_alloc | apply pw_below_drewN | apply below_drew1 | refine below_set ?_ GE159.out) | exact HB.out)) : p := h
theorem c4_1 {p : Prop} (h : p := by repeat (first | (with_reducible first | exact HB.out | apply below_alloc | apply pw_below_drewN | apply below_drew1) | exact HB.out)) : p := h
theorem c4_2 {p : Prop} (h : p := by repeat (first | exact (Kd.C_below HR0.out HB.out) | (with_reducible refine Kd.C_alloc ?_ _) | (with_reducible refine Kd.C_drewN ?_ _) | (with_reducible refine Kd.C_drew ?_))) : p := h
theorem c4_3 {p : Prop} (h : p := by first | rfl | (simp [errW_none, errW_some] <;> rfl) | (simp [*, errW_none, errW_some] <;> rfl)) : p := h
theorem c4_4 {p : Prop} (h : p := by first | (go_simp; done) | (go_simp; rfl)) : p := h
theorem c4_5 {p : Prop} (h : p := by repeat (first | (with_reducible first | exact HB.out | apply below_alloc | apply pw_below_drewN | apply below_drew1 | refine below_set ?_ GE156.out) | exact HB.out)) : p := h

/-! ### spec_l1Digits: function 23 -/
def spec_l1Digits.f : Nat → Int → Option (ByteArray)
  | 0, _ => none
  | k + 1, a0 => if a0 < 0 then ((spec_l1Digits.f k (wrap64 (-a0))).bind fun t127 => (if 1 + t127.size ≤ 9223372036854775807 then (some ((⟨#[45]⟩ : ByteArray) ++ t127)) else (none))) else (if a0 < 10 then (some (strOfNums (([(wrap64 (48 + a0)) % 256] : List Int)))) else ((spec_l1Digits.f k (wrap64 (Int.tdiv a0 10))).bind fun t131 => ((some (([(wrap64 (48 + (Int.tmod a0 10))) % 256] : List Int) : List Int)).bind fun y132 => (if t131.size + (strOfNums y132).size ≤ 9223372036854775807 then (some (t131 ++ (strOfNums y132))) else (none)))))
theorem spec_l1Digits.mono_l : ∀ k, (∀ y0, LeO (spec_l1Digits.f k y0) (spec_l1Digits.f (k + 1) y0))
  | 0 => fun _ r h => by simp [spec_l1Digits.f] at h
  | k + 1 => by
    have ih0 := spec_l1Digits.mono_l k
    · intro y0
      unfold spec_l1Digits.f
      repeat' first
      | (with_reducible exact ih0 _)
      | (with_reducible exact LeO.refl _)
      | (with_reducible exact LeO.none _)
      | (with_reducible refine LeO.ite ?_ ?_)
      | (with_reducible refine LeO.bind ?_ (fun _ => ?_))
      | exact ih0 _
      | exact LeO.none _
      | refine LeO.ite ?_ ?_
      | refine LeO.bind ?_ (fun _ => ?_)
theorem spec_l1Digits.mono : ∀ a0 k, LeO (spec_l1Digits.f k a0) (spec_l1Digits.f (k + 1) a0) := by
  intro a0 k; have ih0 := spec_l1Digits.mono_l k; exact ih0 a0
def spec_l1Digits.T5 : Bool × List (List Nat × List Nat) := (true, [([], []), ([0], [0]), ([1], [1]), ([], []), ([3], [3]), ([4], [4]), ([5], [5]), ([6], [6]), ([7], [7]), ([2, 8], [2, 8]), ([9, 2, 0, 1, 2, 3, 4, 5, 6, 7, 8, 9], [9])])
def spec_l1Digits.B5 : List Nat := [0, 1, 3, 0, 8, 24, 56, 120, 248, 511, 1023]
theorem spec_l1Digits.tab5 : rtab .any (opsOf Tryd.f23 5) = spec_l1Digits.T5 := by kernel_rfl
theorem spec_l1Digits.bits5 : waitsOk spec_l1Digits.T5.2 spec_l1Digits.B5 = true := by kernel_rfl
set_option maxHeartbeats 8000000 in
set_option maxRecDepth 100000 in
theorem spec_l1Digits.calls (k : Nat) : ∀ (a0 : Int) (r : ByteArray) (w : World) (h : spec_l1Digits.f k a0 = some r),
    Calls Tryd.prog 23 #[.int .i64 a0] w fun e w' => e = .returned (.string r) ∧ Below w.heap.size w w' := by
  induction k using Nat.strongRecOn with
  | _ k ih =>
  intro a0 r w h
  cases k with
  | zero => exact absurd h (by simp [spec_l1Digits.f])
  | succ k =>
  simp only [spec_l1Digits.f] at h; have HB := ak (Below.refl w.heap.size w); have H : (if a0 < 0 then ((spec_l1Digits.f k (wrap64 (-a0))).bind fun t127 => (if 1 + t127.size ≤ 9223372036854775807 then (some ((⟨#[45]⟩ : ByteArray) ++ t127)) else (none))) else (if a0 < 10 then (some (strOfNums (([(wrap64 (48 + a0)) % 256] : List Int)))) else ((spec_l1Digits.f k (wrap64 (Int.tdiv a0 10))).bind fun t131 => ((some (([(wrap64 (48 + (Int.tmod a0 10))) % 256] : List Int) : List Int)).bind fun y132 => (if t131.size + (strOfNums y132).size ≤ 9223372036854775807 then (some (t131 ++ (strOfNums y132))) else (none)))))) = some r := h; clear h; by_cases c2 : a0 < 0
  ·rw [if_pos c2] at H
   have c2b0 : decide (a0 < 0) = true := decide_eq_true c2; clear c2; replace H := Option.bind_eq_some_iff.mp H; obtain ⟨t127, A30, H⟩ := H; replace H : (if 1 + t127.size ≤ 9223372036854775807 then (some ((⟨#[45]⟩ : ByteArray) ++ t127)) else (none)) = some r := H; have A3 := ak A30; clear A30; by_cases c4 : 1 + t127.size ≤ 9223372036854775807
   ·rw [if_pos c4] at H
    have c4b0 := eq_true c4; have c4b1 : decide (1 + t127.size ≤ 9223372036854775807) = true := decide_eq_true c4
    try have c4b2 : (9223372036854775807 < 1 + t127.size) = False := eq_false (Nat.not_lt.2 c4)
    obtain rfl := Option.some.inj H; go_enter Tryd.func23, Tryd.ntmps23; go_wp2_with (first | ((with_reducible refine gate_callee (f := 23) rfl ?_); refine goesL_ (some 7) rfl rfl Tryd.func23 (by kernel_rfl) rfl #[.int .i64 (wrap64 (-a0))] rfl d4_2 ?_; (with_reducible refine (ih k (by omega) (wrap64 (-a0)) t127 _ A3.out).mono ?_); rintro e w5 ⟨rfl, hb⟩; refine ⟨_, rfl, ?_⟩; have n0_ := ak (below_step d4_1 hb); clear HB; have HB := n0_; clear n0_; (try clear hb))); go_ret; exact ⟨c4_3, c4_1⟩
   ·rw [if_neg c4] at H
    exact absurd H (by simp)
  ·rw [if_neg c2] at H
   have c2b0 : decide (a0 < 0) = false := decide_eq_false c2; clear c2; by_cases c6 : a0 < 10
   ·rw [if_pos c6] at H
    have c6b0 : decide (a0 < 10) = true := decide_eq_true c6; clear c6; obtain ⟨y128, hy128⟩ : ∃ y_ : List Int, y_ = (([(wrap64 (48 + a0)) % 256] : List Int)) := ⟨_, rfl⟩
    replace H : (some (strOfNums y128)) = some r := by first | (rw [hy128]; with_reducible exact H) | (have H2_ := (Option.bind_some _ _).symm.trans H; rw [hy128]; with_reducible exact H2_) | (have H2_ := (Option.bind_some _ _).symm.trans H; with_reducible exact H2_) | with_reducible exact H | (rw [hy128]; exact H) | exact H
    have Ny128 := ak hy128; clear hy128; obtain rfl := Option.some.inj H; go_enter Tryd.func23, Tryd.ntmps23; go_wp2_with (first | ((with_reducible refine gate_dst (N := 14) rfl ?_); refine Kd.R_lit (Kd.int .u8) _ 5 ?hg (N := 14) ?hd (xs := ([(wrap64 (48 + a0)) % 256] : List Int)) (inner := [.int .u8 ((wrap64 (48 + a0)) % 256)]) (ok := fun _ => True) (okp := fun _ => True) ?hr ?hp (fun _ hk => hk) trivial (Below.refl _ _) (Nat.le_refl _) (by simp) ?_; (case hd => rfl); (case hg => rfl); (case hr => exact c4_4); (case hp => exact (Reps.one (show Kd.M (Kd.int .u8) _ _ _ ((wrap64 (48 + a0)) % 256) [.int .u8 ((wrap64 (48 + a0)) % 256)] from rfl) (Reps.none _ _))); intro v129 w7 ho8 hb hg_ hnew_; clear hg_ hnew_; (first | rw [← Ny128.out] at ho8 | (simp only [Int.reduceToNat] at ho8; rw [← Ny128.out] at ho8)); have n0_ := ak (Kd.R_lower ho8 (below_size d4_1)); have n1_ := ak (below_step d4_1 hb); clear HB; have HO130 := n0_; have HB := n1_; clear n0_ n1_ hb ho8; have hcv9 := own_string (P := Tryd.prog) Tryd.underlying54 Tryd.underlying5 Tryd.underlying9 (Kd.own_of_R HO130.out))); go_ret; exact ⟨c4_3, c4_1⟩
   ·rw [if_neg c6] at H
    have c6b0 : decide (a0 < 10) = false := decide_eq_false c6; clear c6; replace H := Option.bind_eq_some_iff.mp H; obtain ⟨t131, A100, H⟩ := H; replace H : ((some (([(wrap64 (48 + (Int.tmod a0 10))) % 256] : List Int) : List Int)).bind fun y132 => (if t131.size + (strOfNums y132).size ≤ 9223372036854775807 then (some (t131 ++ (strOfNums y132))) else (none))) = some r := H; have A10 := ak A100; clear A100; obtain ⟨y132, hy132⟩ : ∃ y_ : List Int, y_ = (([(wrap64 (48 + (Int.tmod a0 10))) % 256] : List Int)) := ⟨_, rfl⟩
    replace H : (if t131.size + (strOfNums y132).size ≤ 9223372036854775807 then (some (t131 ++ (strOfNums y132))) else (none)) = some r := by first | (rw [hy132]; with_reducible exact H) | (have H2_ := (Option.bind_some _ _).symm.trans H; rw [hy132]; with_reducible exact H2_) | (have H2_ := (Option.bind_some _ _).symm.trans H; with_reducible exact H2_) | with_reducible exact H | (rw [hy132]; exact H) | exact H
    have Ny132 := ak hy132; clear hy132; by_cases c11 : t131.size + (strOfNums y132).size ≤ 9223372036854775807
    ·rw [if_pos c11] at H
     have c11b0 := eq_true c11; have c11b1 : decide (t131.size + (strOfNums y132).size ≤ 9223372036854775807) = true := decide_eq_true c11
     try have c11b2 : (9223372036854775807 < t131.size + (strOfNums y132).size) = False := eq_false (Nat.not_lt.2 c11)
     obtain rfl := Option.some.inj H; go_enter Tryd.func23, Tryd.ntmps23
     try go_wp2
     have n0_ := ak (below_drew1 HB.out); clear HB; have HB := n0_; clear n0_; refine start_ (n := 11) (S := fun w' => True) (ds := []) #[false, false, false, false, false, false, false, false, false, false, false] (by kernel_rfl) rfl rfl trivial (fun hHeld => ?_); refine with_tabW spec_l1Digits.tab5 spec_l1Digits.bits5 (fun HT_ HW_ => ?_); generalize w.drew = w12 at HB hHeld ⊢; refine pure_ (i := 0) (N := some 16) (v := ?_) (a' := ?_) #[true, false, false, false, false, false, false, false, false, false, false] rfl rfl (any_of HT_.out (by kernel_rfl)) (fun _ _ _ h => h) (Or.inl ⟨by rfl, ?_⟩) ?_ ?_; rotate_left
     · intro w'
       go_simp; with_reducible rfl
     rotate_left
     · simp only [Act.put, List.setIfInBounds_toArray, List.set_cons_zero, List.set_cons_succ, i64_w, i32_w]
       rfl
     refine pure_ (i := 1) (N := some 17) (v := ?_) (a' := ?_) #[true, true, false, false, false, false, false, false, false, false, false] rfl rfl (any_of HT_.out (by kernel_rfl)) (fun _ _ _ h => h) (Or.inl ⟨by rfl, ?_⟩) ?_ ?_; rotate_left
     · intro w'
       go_simp; with_reducible rfl
     rotate_left
     · simp only [Act.put, List.setIfInBounds_toArray, List.set_cons_zero, List.set_cons_succ, i64_w, i32_w]
       rfl
     refine pure_ (i := 3) (N := some 19) (v := ?_) (a' := ?_) #[true, true, false, true, false, false, false, false, false, false, false] rfl rfl (any_of HT_.out (by kernel_rfl)) (fun _ _ _ h => h) (Or.inl ⟨by rfl, ?_⟩) ?_ ?_; rotate_left
     · intro w'
       go_simp; with_reducible rfl
     rotate_left
     · simp only [Act.put, List.setIfInBounds_toArray, List.set_cons_zero, List.set_cons_succ, i64_w, i32_w]
       rfl
     refine pure_ (i := 4) (N := some 20) (v := ?_) (a' := ?_) #[true, true, false, true, true, false, false, false, false, false, false] rfl rfl (any_of HT_.out (by kernel_rfl)) (fun _ _ _ h => h) (Or.inl ⟨by rfl, ?_⟩) ?_ ?_; rotate_left
     · intro w'
       go_simp; with_reducible rfl
     rotate_left
     · simp only [Act.put, List.setIfInBounds_toArray, List.set_cons_zero, List.set_cons_succ, i64_w, i32_w]
       rfl
     refine pure_ (i := 5) (N := some 21) (v := ?_) (a' := ?_) #[true, true, false, true, true, true, false, false, false, false, false] rfl rfl (any_of HT_.out (by kernel_rfl)) (fun _ _ _ h => h) (Or.inl ⟨by rfl, ?_⟩) ?_ ?_; rotate_left
     · intro w'
       go_simp; with_reducible rfl
     rotate_left
     · simp only [Act.put, List.setIfInBounds_toArray, List.set_cons_zero, List.set_cons_succ, i64_w, i32_w]
       rfl
     refine pure_ (i := 6) (N := some 22) (v := ?_) (a' := ?_) #[true, true, false, true, true, true, true, false, false, false, false] rfl rfl (any_of HT_.out (by kernel_rfl)) (fun _ _ _ h => h) (Or.inl ⟨by rfl, ?_⟩) ?_ ?_; rotate_left
     · intro w'
       go_simp; with_reducible rfl
     rotate_left
     · simp only [Act.put, List.setIfInBounds_toArray, List.set_cons_zero, List.set_cons_succ, i64_w, i32_w]
       rfl
     refine join_ (σ := Value) 2 #[true, true, true, true, true, true, true, true, true, false, false] (fun s_ => [(18, .string t131), (23, s_), (24, .string (strOfNums y132))]) (fun s_ w' => (Kd.R (Kd.int .u8) 5 w' w.heap.size (fun _ => True) s_ y132) ∧ (Below w.heap.size w w')) ?_ ?_; rotate_left
     · intro hCont
       refine two_ (i := 2) (j := 7) (Ni := some 18) (Nj := some 23) #[true, true, true, true, true, true, true, false, false, false, false] #[true, true, false, true, true, true, true, true, false, false, false] rfl rfl rfl rfl (two_of HT_.out (by kernel_rfl)) (by decide) (by decide) (fun K hK => ?_) (fun K hK => ?_)
       · skip
         refine goes_ Tryd.func23 (by kernel_rfl) rfl #[.int .i64 (wrap64 (Int.tdiv a0 10))] (by rfl) rfl rfl d4_2 ?_; with_reducible refine (ih k (by omega) (wrap64 (Int.tdiv a0 10)) t131 _ A10.out).mono ?_; rintro e w13 ⟨rfl, hb⟩; refine ⟨_, rfl, ?_⟩; have n0_ := ak (below_step d4_1 hb); clear HB; have HB := n0_; clear n0_
         (try clear hb)
         (try clear hb2)
         (try clear hk)
         (try clear hi)
         refine hK.out _ _ trivial (fun hHeld => ?_); clear hK K; refine norm_ (a' := ?_) ?_ ?_; rotate_left
         · show Act.put _ (some 18) _ = _
           simp only [Act.put, List.setIfInBounds_toArray, List.set_cons_zero, List.set_cons_succ, i64_w, i32_w]; rfl
         refine one_ (i := 7) (N := some 23) #[true, true, true, true, true, true, true, true, false, false, false] rfl rfl (one_of HT_.out (by kernel_rfl)) (by decide) (fun K hK => ?_); refine Kd.R_lit_step (Kd.int .u8) _ 5 ?hg (N := 23) ?hd (xs := ([(wrap64 (48 + (Int.tmod a0 10))) % 256] : List Int)) (inner := [.int .u8 ((wrap64 (48 + (Int.tmod a0 10))) % 256)]) (ok := fun _ => True) (okp := fun _ => True) ?hr ?hp (fun _ hk => hk) trivial (Below.refl _ _) (Nat.le_refl _) (by simp) ?_; (case hd => rfl); (case hg => rfl); (case hr => exact c4_4); (case hp => exact (Reps.one (show Kd.M (Kd.int .u8) _ _ _ ((wrap64 (48 + (Int.tmod a0 10))) % 256) [.int .u8 ((wrap64 (48 + (Int.tmod a0 10))) % 256)] from rfl) (Reps.none _ _))); intro v133 w14 ho15 hb hg_ hnew_; clear hg_ hnew_
         (first | rw [← Ny132.out] at ho15 | (simp only [Int.reduceToNat] at ho15; rw [← Ny132.out] at ho15))
         have n0_ := ak (Kd.R_lower ho15 (below_size d4_1)); have n1_ := ak (below_step d4_1 hb); clear HB; have HO134 := n0_; have HB := n1_; clear n0_ n1_; clear hb ho15; refine hK.out _ _ trivial (fun hHeld => ?_); clear hK K; refine norm_ (a' := ?_) ?_ ?_; rotate_left
         · show Act.put _ (some 23) _ = _
           simp only [Act.put, List.setIfInBounds_toArray, List.set_cons_zero, List.set_cons_succ, i64_w, i32_w]; rfl
         refine one_ (i := 8) (N := some 24) #[true, true, true, true, true, true, true, true, true, false, false] rfl rfl (one_of HT_.out (by kernel_rfl)) (by decide) (fun K hK => ?_); have hcv16 := own_string (P := Tryd.prog) Tryd.underlying54 Tryd.underlying5 Tryd.underlying9 (Kd.own_of_R HO134.out); refine value_ (w1 := ?_) (v := ?_) (by rfl) rfl ?_ ?_; rotate_left 2
         · go_simp
           constructor
           · rfl
           · rfl
         clear hcv16; refine hK.out _ _ trivial (fun hHeld => ?_); clear hK K; refine norm_ (a' := ?_) ?_ ?_; rotate_left
         · show Act.put _ (some 24) _ = _
           simp only [Act.put, List.setIfInBounds_toArray, List.set_cons_zero, List.set_cons_succ, i64_w, i32_w]; rfl
         exact norm_ (by simp only [putAll, Act.put, List.setIfInBounds_toArray, List.set_cons_zero, List.set_cons_succ]) (hCont (v133) _ ⟨d4_8, d4_1⟩)
       · skip
         refine Kd.R_lit_step (Kd.int .u8) _ 5 ?hg (N := 23) ?hd (xs := ([(wrap64 (48 + (Int.tmod a0 10))) % 256] : List Int)) (inner := [.int .u8 ((wrap64 (48 + (Int.tmod a0 10))) % 256)]) (ok := fun _ => True) (okp := fun _ => True) ?hr ?hp (fun _ hk => hk) trivial (Below.refl _ _) (Nat.le_refl _) (by simp) ?_; (case hd => rfl); (case hg => rfl); (case hr => exact c4_4); (case hp => exact (Reps.one (show Kd.M (Kd.int .u8) _ _ _ ((wrap64 (48 + (Int.tmod a0 10))) % 256) [.int .u8 ((wrap64 (48 + (Int.tmod a0 10))) % 256)] from rfl) (Reps.none _ _))); intro v133 w13 ho14 hb hg_ hnew_; clear hg_ hnew_
         (first | rw [← Ny132.out] at ho14 | (simp only [Int.reduceToNat] at ho14; rw [← Ny132.out] at ho14))
         have n0_ := ak (Kd.R_lower ho14 (below_size d4_1)); have n1_ := ak (below_step d4_1 hb); clear HB; have HO134 := n0_; have HB := n1_; clear n0_ n1_; clear hb ho14; refine hK.out _ _ trivial (fun hHeld => ?_); clear hK K; refine norm_ (a' := ?_) ?_ ?_; rotate_left
         · show Act.put _ (some 23) _ = _
           simp only [Act.put, List.setIfInBounds_toArray, List.set_cons_zero, List.set_cons_succ, i64_w, i32_w]; rfl
         refine two_ (i := 2) (j := 8) (Ni := some 18) (Nj := some 24) #[true, true, true, true, true, true, true, true, false, false, false] #[true, true, false, true, true, true, true, true, true, false, false] rfl rfl rfl rfl (two_of HT_.out (by kernel_rfl)) (by decide) (by decide) (fun K hK => ?_) (fun K hK => ?_)
         · skip
           refine goes_ Tryd.func23 (by kernel_rfl) rfl #[.int .i64 (wrap64 (Int.tdiv a0 10))] (by rfl) rfl rfl d4_2 ?_; with_reducible refine (ih k (by omega) (wrap64 (Int.tdiv a0 10)) t131 _ A10.out).mono ?_; rintro e w15 ⟨rfl, hb⟩; refine ⟨_, rfl, ?_⟩; have n0_ := ak (Kd.R_below d4_8 hb); have n1_ := ak (below_step d4_1 hb); clear HO134; clear HB; have HO134 := n0_; have HB := n1_; clear n0_ n1_
           (try clear hb)
           (try clear hb2)
           (try clear hk)
           (try clear hi)
           refine hK.out _ _ trivial (fun hHeld => ?_); clear hK K; refine norm_ (a' := ?_) ?_ ?_; rotate_left
           · show Act.put _ (some 18) _ = _
             simp only [Act.put, List.setIfInBounds_toArray, List.set_cons_zero, List.set_cons_succ, i64_w, i32_w]; rfl
           refine one_ (i := 8) (N := some 24) #[true, true, true, true, true, true, true, true, true, false, false] rfl rfl (one_of HT_.out (by kernel_rfl)) (by decide) (fun K hK => ?_); have hcv16 := own_string (P := Tryd.prog) Tryd.underlying54 Tryd.underlying5 Tryd.underlying9 (Kd.own_of_R HO134.out); refine value_ (w1 := ?_) (v := ?_) (by rfl) rfl ?_ ?_; rotate_left 2
           · go_simp
             constructor
             · rfl
             · rfl
           clear hcv16; refine hK.out _ _ trivial (fun hHeld => ?_); clear hK K; refine norm_ (a' := ?_) ?_ ?_; rotate_left
           · show Act.put _ (some 24) _ = _
             simp only [Act.put, List.setIfInBounds_toArray, List.set_cons_zero, List.set_cons_succ, i64_w, i32_w]; rfl
           exact norm_ (by simp only [putAll, Act.put, List.setIfInBounds_toArray, List.set_cons_zero, List.set_cons_succ]) (hCont (v133) _ ⟨d4_8, d4_1⟩)
         · skip
           have hcv15 := own_string (P := Tryd.prog) Tryd.underlying54 Tryd.underlying5 Tryd.underlying9 (Kd.own_of_R HO134.out); refine value_ (w1 := ?_) (v := ?_) (by rfl) rfl ?_ ?_; rotate_left 2
           · go_simp
             constructor
             · rfl
             · rfl
           clear hcv15; refine hK.out _ _ trivial (fun hHeld => ?_); clear hK K; refine norm_ (a' := ?_) ?_ ?_; rotate_left
           · show Act.put _ (some 24) _ = _
             simp only [Act.put, List.setIfInBounds_toArray, List.set_cons_zero, List.set_cons_succ, i64_w, i32_w]; rfl
           refine one_ (i := 2) (N := some 18) #[true, true, true, true, true, true, true, true, true, false, false] rfl rfl (one_of HT_.out (by kernel_rfl)) (by decide) (fun K hK => ?_); refine goes_ Tryd.func23 (by kernel_rfl) rfl #[.int .i64 (wrap64 (Int.tdiv a0 10))] (by rfl) rfl rfl d4_2 ?_; with_reducible refine (ih k (by omega) (wrap64 (Int.tdiv a0 10)) t131 _ A10.out).mono ?_; rintro e w16 ⟨rfl, hb⟩; refine ⟨_, rfl, ?_⟩; have n0_ := ak (Kd.R_below d4_8 hb); have n1_ := ak (below_step d4_1 hb); clear HO134; clear HB; have HO134 := n0_; have HB := n1_; clear n0_ n1_
           (try clear hb)
           (try clear hb2)
           (try clear hk)
           (try clear hi)
           refine hK.out _ _ trivial (fun hHeld => ?_); clear hK K; refine norm_ (a' := ?_) ?_ ?_; rotate_left
           · show Act.put _ (some 18) _ = _
             simp only [Act.put, List.setIfInBounds_toArray, List.set_cons_zero, List.set_cons_succ, i64_w, i32_w]; rfl
           exact norm_ (by simp only [putAll, Act.put, List.setIfInBounds_toArray, List.set_cons_zero, List.set_cons_succ]) (hCont (v133) _ ⟨d4_8, d4_1⟩)
     rintro v133 w17 ⟨h0_, h1_⟩; have n0_ : Aside0 (Kd.R (Kd.int .u8) 5 w17 w.heap.size (fun _ => True) v133 y132) := ⟨h0_⟩; have n1_ : Aside0 (Below w.heap.size w w17) := ⟨h1_⟩; clear HB; clear h0_ h1_; have HO134 := n0_; have HB := n1_; clear n0_ n1_; have hHeld := trivial; refine norm_ (a' := ?_) ?_ ?_; rotate_left
     · simp only [putAll, Act.put, List.setIfInBounds_toArray, List.set_cons_zero, List.set_cons_succ]
       rfl
     refine pure_ (i := 9) (N := some 25) (v := ?_) (a' := ?_) #[true, true, true, true, true, true, true, true, true, true, false] rfl rfl (any_of HT_.out (by kernel_rfl)) (fun _ _ _ h => h) (Or.inl ⟨by rfl, ?_⟩) ?_ ?_; rotate_left
     · intro w'
       go_simp; with_reducible rfl
     rotate_left
     · simp only [Act.put, List.setIfInBounds_toArray, List.set_cons_zero, List.set_cons_succ, i64_w, i32_w]
       rfl
     refine pure_ (i := 10) (N := some 2) (v := ?_) (a' := ?_) #[true, true, true, true, true, true, true, true, true, true, true] rfl rfl (any_of HT_.out (by kernel_rfl)) (fun _ _ _ h => h) (Or.inl ⟨by rfl, ?_⟩) ?_ ?_; rotate_left
     · intro w'
       go_simp; with_reducible rfl
     rotate_left
     · simp only [Act.put, List.setIfInBounds_toArray, List.set_cons_zero, List.set_cons_succ, i64_w, i32_w]
       rfl
     refine done_ (done_of HT_.out (by kernel_rfl)) ?_
     try go_wp2
     go_ret; exact ⟨c4_3, c4_1⟩
    ·rw [if_neg c11] at H
     exact absurd H (by simp)

/-! ### spec_l3Parts: function 24 -/
def spec_l3Parts.l0 : Nat → List (S37) → Int → List Int → Int → Option (List Int)
  | 0, _, _, _, _ => none
  | k + 1, x0, x1, x5, x6 => if x6 < (x0.length : Int) then (if 0 ≤ x6 then (if ((rd_T37 x0 x6).f1) = x1 then (if x5.length < 17592186044416 then (spec_l3Parts.l0 k x0 x1 (x5 ++ [x6]) (wrap64 (x6 + 1))) else (none)) else (spec_l3Parts.l0 k x0 x1 x5 (wrap64 (x6 + 1)))) else (none)) else (some x5)
def spec_l3Parts.f (k : Nat) (l0 : List (S37)) (a1 : Int) : Option (List Int) := spec_l3Parts.l0 k l0 a1 (([] : List Int)) 0
theorem spec_l3Parts.mono_l : ∀ k, (∀ y0 y1 y2 y3, LeO (spec_l3Parts.l0 k y0 y1 y2 y3) (spec_l3Parts.l0 (k + 1) y0 y1 y2 y3))
  | 0 => fun _ _ _ _ r h => by simp [spec_l3Parts.l0] at h
  | k + 1 => by
    have ih0 := spec_l3Parts.mono_l k
    · intro y0 y1 y2 y3
      unfold spec_l3Parts.l0
      repeat' first
      | (with_reducible exact ih0 _ _ _ _)
      | (with_reducible exact LeO.refl _)
      | (with_reducible exact LeO.none _)
      | (with_reducible refine LeO.ite ?_ ?_)
      | (with_reducible refine LeO.bind ?_ (fun _ => ?_))
      | exact ih0 _ _ _ _
      | exact LeO.none _
      | refine LeO.ite ?_ ?_
      | refine LeO.bind ?_ (fun _ => ?_)
theorem spec_l3Parts.mono : ∀ a0 a1 k, LeO (spec_l3Parts.f k a0 a1) (spec_l3Parts.f (k + 1) a0 a1) := by
  intro a0 a1 k; have ih0 := spec_l3Parts.mono_l k; unfold spec_l3Parts.f
  repeat' first
      | (with_reducible exact ih0 _ _ _ _)
      | (with_reducible exact LeO.refl _)
      | (with_reducible exact LeO.none _)
      | (with_reducible refine LeO.ite ?_ ?_)
      | (with_reducible refine LeO.bind ?_ (fun _ => ?_))
      | exact ih0 _ _ _ _
      | exact LeO.none _
      | refine LeO.ite ?_ ?_
      | refine LeO.bind ?_ (fun _ => ?_)
set_option maxHeartbeats 8000000 in
set_option maxRecDepth 100000 in
theorem spec_l3Parts.calls (k : Nat) (A0 : Option Addr) (c0 : Nat) (l0 : List (S37)) (a1 : Int) (r : List Int) (w : World) (hr0 : Kd.C k37 w A0 l0.length l0) (hc0 : l0.length ≤ c0) (h : spec_l3Parts.f k l0 a1 = some r) :
    Calls Tryd.prog 24 #[.slice A0 l0.length c0, .int .i64 a1] w fun e w' => ∃ v0_ : Value, e = .returned (v0_) ∧ Kd.R (Kd.int .i64) 2 w' w.heap.size (fun _ => True) v0_ r ∧ Below w.heap.size w w' := by
  have HR0 := ak hr0; have HC0 := ak hc0; clear hr0 hc0; have HB := ak (Below.refl w.heap.size w); have H : (spec_l3Parts.l0 k l0 a1 (([] : List Int)) 0) = some r := h; clear h; obtain ⟨y135, hy135⟩ : ∃ y_ : List Int, y_ = (([] : List Int)) := ⟨_, rfl⟩
  replace H : (spec_l3Parts.l0 k l0 a1 y135 0) = some r := by first | (rw [hy135]; with_reducible exact H) | (have H2_ := (Option.bind_some _ _).symm.trans H; rw [hy135]; with_reducible exact H2_) | (have H2_ := (Option.bind_some _ _).symm.trans H; with_reducible exact H2_) | with_reducible exact H | (rw [hy135]; exact H) | exact H
  have Ny135 := ak hy135; clear hy135; have H' := ak H; clear H; go_enter Tryd.func24, Tryd.ntmps24; go_wp2_with (first | ((with_reducible refine gate_dst (N := 7) rfl ?_); refine Kd.R_lit (Kd.int .i64) _ 2 ?hg (N := 7) ?hd (xs := ([] : List Int)) (inner := []) (ok := fun _ => True) (okp := fun _ => True) ?hr ?hp (fun _ hk => hk) trivial (Below.refl _ _) (Nat.le_refl _) (by simp) ?_; (case hd => rfl); (case hg => rfl); (case hr => exact c4_4); (case hp => exact (Reps.none _ _)); intro v136 w3 ho4 hb hg_ hnew_; clear hg_ hnew_; (first | rw [← Ny135.out] at ho4 | (simp only [Int.reduceToNat] at ho4; rw [← Ny135.out] at ho4)); have n0_ := ak (Kd.R_lower ho4 (below_size d4_1)); have n1_ := ak (below_step d4_1 hb); clear HB; have HO137 := n0_; have HB := n1_; clear n0_ n1_ hb ho4)); go_loopg [5, 6] k (fun kq v5 v6 w' => ∃ (x5_1 : List Int) (x6_1 : Int), v6 = .int .i64 x6_1 ∧ Aside0 (spec_l3Parts.l0 kq l0 a1 x5_1 x6_1 = some r) ∧ Aside0 (kq ≤ k) ∧ Aside0 (Kd.R (Kd.int .i64) 2 w' w.heap.size (fun _ => True) v5 x5_1) ∧ Aside0 (Below w.heap.size w w'))
  case atStart => exact ⟨(y135), (0), d4_5, H', ⟨Nat.le_refl _⟩, ⟨by (with_reducible repeat (first | apply Kd.R_alloc | apply Kd.R_drewN | apply Kd.R_drew)); exact HO137.out⟩, ⟨c4_1⟩⟩
  case round =>
   clear H'
   try clear c2
   try clear p2
   obtain ⟨x5_1, x6_1, rfl, HA, HK1, HO_5, HB⟩ := hrel
   cases gk with
   | zero => exact absurd HA.out (by simp [spec_l3Parts.l0])
   | succ k1 =>
    have H := HA.out; clear HA; simp only [spec_l3Parts.l0] at H; by_cases c5 : x6_1 < (l0.length : Int)
    ·rw [if_pos c5] at H
     have c5b0 : decide (x6_1 < (l0.length : Int)) = true := decide_eq_true c5; clear c5; by_cases c6 : 0 ≤ x6_1
     ·rw [if_pos c6] at H
      have c6b0 : decide (0 ≤ x6_1) = true := decide_eq_true c6; clear c6; by_cases c7 : ((rd_T37 l0 x6_1).f1) = a1
      ·rw [if_pos c7] at H
       have c7b0 : (((rd_T37 l0 x6_1).f1) == a1) = true := beq_iff_eq.mpr c7; have c7b1 : (((rd_T37 l0 x6_1).f1) != a1) = false := bne_eq_false_iff_eq.mpr c7; clear c7; by_cases c8 : x5_1.length < 17592186044416
       ·rw [if_pos c8] at H
        have LMc8 := ak c8; clear c8; obtain ⟨y139, hy139⟩ : ∃ y_ : List Int, y_ = (x5_1 ++ [x6_1]) := ⟨_, rfl⟩
        replace H : (spec_l3Parts.l0 k1 l0 a1 y139 (wrap64 (x6_1 + 1))) = some r := by first | (rw [hy139]; with_reducible exact H) | (have H2_ := (Option.bind_some _ _).symm.trans H; rw [hy139]; with_reducible exact H2_) | (have H2_ := (Option.bind_some _ _).symm.trans H; with_reducible exact H2_) | with_reducible exact H | (rw [hy139]; exact H) | exact H
        have Ny139 := ak hy139; clear hy139; have H' := ak H; clear H; have p138 : 0 ≤ (x6_1 : Int) := of_decide_eq_true d4_3; have q138 : x6_1 < (l0.length : Int) := of_decide_eq_true d4_3; obtain ⟨ad138, e138, hx138_0, hx138_1, hx138_2, hx138_3⟩ := at_T37 HR0.out x6_1 p138 q138
        cases e138
        replace hx138_0 := (HB.out.cell (World.block_lt_of_cell? w _ hx138_0)).trans hx138_0; replace hx138_1 := (HB.out.cell (World.block_lt_of_cell? w _ hx138_1)).trans hx138_1; replace hx138_2 := (HB.out.cell (World.block_lt_of_cell? w _ hx138_2)).trans hx138_2; replace hx138_3 := (HB.out.cell (World.block_lt_of_cell? w _ hx138_3)).trans hx138_3; replace p138 := eq_true p138; replace q138 := eq_true q138; go_wp2_with (first | ((with_reducible refine gate_builtin (b := .append) (xs := #[.tmp 21, .tmp 23]) rfl ?_); at_builtin; refine Kd.R_append (Kd.int .i64) (w0 := w) w.heap.size rfl (.tmp 21) (.tmp 23) 49 2 (.int .i64 0) 8 rfl Tryd.underlying49 info2 rfl (by decide) (by omega) u5 x5_1 x6_1 [.int .i64 x6_1] (fun _ => True) (fun _ => False) rfl rfl ?aP (fun _ hk => hk.elim) ?aF ?aO ?aB ?aS ?aL ?_; (case aP => exact rfl); (case aB => exact d4_1); (case aF => exact (fun _ _ => trivial)); (case aO => exact (by (with_reducible repeat (first | apply Kd.R_alloc | apply Kd.R_drewN | apply Kd.R_drew)); exact HO_5.out)); (case aS => exact (below_size d4_1)); (case aL => have := LMc8.out; omega); intro v140 w9 ho hb hg hat; rw [← Ny139.out] at ho; have n0_ := ak (hb); have n1_ := ak (ho); clear HB HO_5; have HB := n0_; have HO141 := n1_; clear n0_ n1_ ho hb hg hat)); go_roundg k1
        case measure => have := HK1.out; omega
        case rel => exact ⟨(y139), (wrap64 (x6_1 + 1)), d4_5, H', ⟨by have := HK1.out; omega⟩, ⟨by (with_reducible repeat (first | apply Kd.R_alloc | apply Kd.R_drewN | apply Kd.R_drew)); exact HO141.out⟩, ⟨c4_1⟩⟩
       ·rw [if_neg c8] at H
        exact absurd H (by simp)
      ·rw [if_neg c7] at H
       have c7b0 : (((rd_T37 l0 x6_1).f1) == a1) = false := beq_eq_false_iff_ne.mpr c7; have c7b1 : (((rd_T37 l0 x6_1).f1) != a1) = true := bne_iff_ne.mpr c7; have H' := ak H; clear H; have p138 : 0 ≤ (x6_1 : Int) := of_decide_eq_true d4_3; have q138 : x6_1 < (l0.length : Int) := of_decide_eq_true d4_3; obtain ⟨ad138, e138, hx138_0, hx138_1, hx138_2, hx138_3⟩ := at_T37 HR0.out x6_1 p138 q138
       cases e138
       replace hx138_0 := (HB.out.cell (World.block_lt_of_cell? w _ hx138_0)).trans hx138_0; replace hx138_1 := (HB.out.cell (World.block_lt_of_cell? w _ hx138_1)).trans hx138_1; replace hx138_2 := (HB.out.cell (World.block_lt_of_cell? w _ hx138_2)).trans hx138_2; replace hx138_3 := (HB.out.cell (World.block_lt_of_cell? w _ hx138_3)).trans hx138_3; replace p138 := eq_true p138; replace q138 := eq_true q138; go_wp2; go_roundg k1
       case measure => have := HK1.out; omega
       case rel => exact ⟨(x5_1), (wrap64 (x6_1 + 1)), d4_5, H', ⟨by have := HK1.out; omega⟩, ⟨by (with_reducible repeat (first | apply Kd.R_alloc | apply Kd.R_drewN | apply Kd.R_drew)); exact HO_5.out⟩, ⟨c4_1⟩⟩
     ·rw [if_neg c6] at H
      exact absurd H (by simp)
    ·rw [if_neg c5] at H
     have c5b0 : decide (x6_1 < (l0.length : Int)) = false := decide_eq_false c5; clear c5; obtain rfl := Option.some.inj H; go_wp2; go_ret; exact ⟨_, c4_3, by (with_reducible repeat (first | apply Kd.R_alloc | apply Kd.R_drewN | apply Kd.R_drew)); exact HO_5.out, c4_1⟩

/-! ### spec_l3Write: function 12 -/
mutual
def spec_l3Write.l0 : Nat → List (S37) → ByteArray → List Int → Int → Option (ByteArray)
  | 0, _, _, _, _ => none
  | k + 1, x0, x6, x7, x8 => if x8 < (x7.length : Int) then (if x8 > 0 then (if x6.size + 1 ≤ 9223372036854775807 then (if 0 ≤ x8 then ((spec_l3Write.f k x0 (rd x7 x8)).bind fun t153 => (if (x6 ++ (⟨#[32]⟩ : ByteArray)).size + t153.size ≤ 9223372036854775807 then (spec_l3Write.l0 k x0 ((x6 ++ (⟨#[32]⟩ : ByteArray)) ++ t153) x7 (wrap64 (x8 + 1))) else (none))) else (none)) else (none)) else (if 0 ≤ x8 then ((spec_l3Write.f k x0 (rd x7 x8)).bind fun t155 => (if x6.size + t155.size ≤ 9223372036854775807 then (spec_l3Write.l0 k x0 (x6 ++ t155) x7 (wrap64 (x8 + 1))) else (none))) else (none))) else (if x6.size + 1 ≤ 9223372036854775807 then (some (x6 ++ (⟨#[41]⟩ : ByteArray))) else (none))
def spec_l3Write.f : Nat → List (S37) → Int → Option (ByteArray)
  | 0, _, _ => none
  | k + 1, l0, a1 => if 0 ≤ a1 then (if a1 < (l0.length : Int) then (if ((rd_T37 l0 a1).f0) = 1 then ((spec_l1Digits.f k ((rd_T37 l0 a1).f2)).bind fun t143 => (some t143)) else (if ((rd_T37 l0 a1).f0) = 2 then ((some (([(⟨#[35, 102]⟩ : ByteArray), (⟨#[35, 116]⟩ : ByteArray)] : List ByteArray) : List ByteArray)).bind fun y144 => (if 0 ≤ ((rd_T37 l0 a1).f2) then (if ((rd_T37 l0 a1).f2) < (y144.length : Int) then (some (rdOf ByteArray.empty y144 ((rd_T37 l0 a1).f2))) else (none)) else (none))) else (if ((rd_T37 l0 a1).f0) = 3 then (some ((rd_T37 l0 a1).f3)) else ((spec_l3Parts.f k l0 a1).bind fun t149 => (spec_l3Write.l0 k l0 (⟨#[40]⟩ : ByteArray) t149 0))))) else (none)) else (none)
end
theorem spec_l3Write.mono_l : ∀ k, (∀ y0 y1, LeO (spec_l3Write.f k y0 y1) (spec_l3Write.f (k + 1) y0 y1)) ∧ (∀ y0 y1 y2 y3, LeO (spec_l3Write.l0 k y0 y1 y2 y3) (spec_l3Write.l0 (k + 1) y0 y1 y2 y3))
  | 0 => ⟨fun _ _ r h => by simp [spec_l3Write.f] at h, fun _ _ _ _ r h => by simp [spec_l3Write.l0] at h⟩
  | k + 1 => by
    obtain ⟨ih0, ih1⟩ := spec_l3Write.mono_l k; refine ⟨?_, ?_⟩
    · intro y0 y1
      unfold spec_l3Write.f
      repeat' first
      | (with_reducible exact ih0 _ _)
      | (with_reducible exact ih1 _ _ _ _)
      | (with_reducible exact spec_l1Digits.mono _ _)
      | (with_reducible exact spec_l3Parts.mono _ _ _)
      | (with_reducible exact LeO.refl _)
      | (with_reducible exact LeO.none _)
      | (with_reducible refine LeO.ite ?_ ?_)
      | (with_reducible refine LeO.bind ?_ (fun _ => ?_))
      | exact ih0 _ _
      | exact ih1 _ _ _ _
      | exact spec_l1Digits.mono _ _
      | exact spec_l3Parts.mono _ _ _
      | exact LeO.none _
      | refine LeO.ite ?_ ?_
      | refine LeO.bind ?_ (fun _ => ?_)
    · intro y0 y1 y2 y3
      unfold spec_l3Write.l0
      repeat' first
      | (with_reducible exact ih0 _ _)
      | (with_reducible exact ih1 _ _ _ _)
      | (with_reducible exact spec_l1Digits.mono _ _)
      | (with_reducible exact spec_l3Parts.mono _ _ _)
      | (with_reducible exact LeO.refl _)
      | (with_reducible exact LeO.none _)
      | (with_reducible refine LeO.ite ?_ ?_)
      | (with_reducible refine LeO.bind ?_ (fun _ => ?_))
      | exact ih0 _ _
      | exact ih1 _ _ _ _
      | exact spec_l1Digits.mono _ _
      | exact spec_l3Parts.mono _ _ _
      | exact LeO.none _
      | refine LeO.ite ?_ ?_
      | refine LeO.bind ?_ (fun _ => ?_)
theorem spec_l3Write.mono : ∀ a0 a1 k, LeO (spec_l3Write.f k a0 a1) (spec_l3Write.f (k + 1) a0 a1) := by
  intro a0 a1 k; obtain ⟨ih0, ih1⟩ := spec_l3Write.mono_l k; exact ih0 a0 a1
set_option maxHeartbeats 8000000 in
set_option maxRecDepth 100000 in
theorem spec_l3Write.calls (k : Nat) : ∀ (A0 : Option Addr) (c0 : Nat) (l0 : List (S37)) (a1 : Int) (r : ByteArray) (w : World) (hr0 : Kd.C k37 w A0 l0.length l0) (hc0 : l0.length ≤ c0) (h : spec_l3Write.f k l0 a1 = some r),
    Calls Tryd.prog 12 #[.slice A0 l0.length c0, .int .i64 a1] w fun e w' => e = .returned (.string r) ∧ Below w.heap.size w w' := by
  induction k using Nat.strongRecOn with
  | _ k ih =>
  intro A0 c0 l0 a1 r w hr0 hc0 h
  cases k with
  | zero => exact absurd h (by simp [spec_l3Write.f])
  | succ k =>
  simp only [spec_l3Write.f] at h; have HR0 := ak hr0; have HC0 := ak hc0; clear hr0 hc0; have HB := ak (Below.refl w.heap.size w); have H : (if 0 ≤ a1 then (if a1 < (l0.length : Int) then (if ((rd_T37 l0 a1).f0) = 1 then ((spec_l1Digits.f k ((rd_T37 l0 a1).f2)).bind fun t143 => (some t143)) else (if ((rd_T37 l0 a1).f0) = 2 then ((some (([(⟨#[35, 102]⟩ : ByteArray), (⟨#[35, 116]⟩ : ByteArray)] : List ByteArray) : List ByteArray)).bind fun y144 => (if 0 ≤ ((rd_T37 l0 a1).f2) then (if ((rd_T37 l0 a1).f2) < (y144.length : Int) then (some (rdOf ByteArray.empty y144 ((rd_T37 l0 a1).f2))) else (none)) else (none))) else (if ((rd_T37 l0 a1).f0) = 3 then (some ((rd_T37 l0 a1).f3)) else ((spec_l3Parts.f k l0 a1).bind fun t149 => (spec_l3Write.l0 k l0 (⟨#[40]⟩ : ByteArray) t149 0))))) else (none)) else (none)) = some r := h; clear h; by_cases c3 : 0 ≤ a1
  ·rw [if_pos c3] at H
   have c3b0 : decide (0 ≤ a1) = true := decide_eq_true c3; clear c3; by_cases c4 : a1 < (l0.length : Int)
   ·rw [if_pos c4] at H
    have c4b0 : decide (a1 < (l0.length : Int)) = true := decide_eq_true c4; clear c4; by_cases c5 : ((rd_T37 l0 a1).f0) = 1
    ·rw [if_pos c5] at H
     have c5b0 : (((rd_T37 l0 a1).f0) == 1) = true := beq_iff_eq.mpr c5; have c5b1 : (((rd_T37 l0 a1).f0) != 1) = false := bne_eq_false_iff_eq.mpr c5; clear c5; replace H := Option.bind_eq_some_iff.mp H; obtain ⟨t143, A60, H⟩ := H; replace H : (some t143) = some r := H; have A6 := ak A60; clear A60; obtain rfl := Option.some.inj H; have p142 : 0 ≤ (a1 : Int) := of_decide_eq_true d4_3; have q142 : a1 < (l0.length : Int) := of_decide_eq_true d4_3; obtain ⟨ad142, e142, hx142_0, hx142_1, hx142_2, hx142_3⟩ := at_T37 HR0.out a1 p142 q142
     cases e142
     replace p142 := eq_true p142; replace q142 := eq_true q142; go_enter Tryd.func12, Tryd.ntmps12; go_wp2_with (first | ((with_reducible refine gate_callee (f := 23) rfl ?_); refine goesL_ (some 22) rfl rfl Tryd.func23 (by kernel_rfl) rfl #[.int .i64 ((rd_T37 l0 a1).f2)] rfl d4_2 ?_; (with_reducible refine (spec_l1Digits.calls k ((rd_T37 l0 a1).f2) t143 _ A6.out).mono ?_); rintro e w7 ⟨rfl, hb⟩; refine ⟨_, rfl, ?_⟩; have n0_ := ak (below_step d4_1 hb); clear HB; have HB := n0_; clear n0_; (try clear hb))); go_ret; exact ⟨c4_3, c4_1⟩
    ·rw [if_neg c5] at H
     have c5b0 : (((rd_T37 l0 a1).f0) == 1) = false := beq_eq_false_iff_ne.mpr c5; have c5b1 : (((rd_T37 l0 a1).f0) != 1) = true := bne_iff_ne.mpr c5; by_cases c8 : ((rd_T37 l0 a1).f0) = 2
     ·rw [if_pos c8] at H
      have c8b0 : (((rd_T37 l0 a1).f0) == 2) = true := beq_iff_eq.mpr c8; have c8b1 : (((rd_T37 l0 a1).f0) != 2) = false := bne_eq_false_iff_eq.mpr c8; clear c8; obtain ⟨y144, hy144⟩ : ∃ y_ : List ByteArray, y_ = (([(⟨#[35, 102]⟩ : ByteArray), (⟨#[35, 116]⟩ : ByteArray)] : List ByteArray)) := ⟨_, rfl⟩
      replace H : (if 0 ≤ ((rd_T37 l0 a1).f2) then (if ((rd_T37 l0 a1).f2) < (y144.length : Int) then (some (rdOf ByteArray.empty y144 ((rd_T37 l0 a1).f2))) else (none)) else (none)) = some r := by first | (rw [hy144]; with_reducible exact H) | (have H2_ := (Option.bind_some _ _).symm.trans H; rw [hy144]; with_reducible exact H2_) | (have H2_ := (Option.bind_some _ _).symm.trans H; with_reducible exact H2_) | with_reducible exact H | (rw [hy144]; exact H) | exact H
      have Ny144 := ak hy144; clear hy144; by_cases c9 : 0 ≤ ((rd_T37 l0 a1).f2)
      ·rw [if_pos c9] at H
       have c9b0 : decide (0 ≤ ((rd_T37 l0 a1).f2)) = true := decide_eq_true c9; clear c9; by_cases c10 : ((rd_T37 l0 a1).f2) < (y144.length : Int)
       ·rw [if_pos c10] at H
        have c10b0 : decide (((rd_T37 l0 a1).f2) < (y144.length : Int)) = true := decide_eq_true c10; clear c10; obtain rfl := Option.some.inj H; have p142 : 0 ≤ (a1 : Int) := of_decide_eq_true d4_3; have q142 : a1 < (l0.length : Int) := of_decide_eq_true d4_3; obtain ⟨ad142, e142, hx142_0, hx142_1, hx142_2, hx142_3⟩ := at_T37 HR0.out a1 p142 q142
        cases e142
        replace p142 := eq_true p142; replace q142 := eq_true q142; go_enter Tryd.func12, Tryd.ntmps12
        go_wp2_with (first | ((with_reducible refine gate_dst (N := 25) rfl ?_); refine Kd.R_lit Kd.string _ 9 ?hg (N := 25) ?hd (xs := ([(⟨#[35, 102]⟩ : ByteArray), (⟨#[35, 116]⟩ : ByteArray)] : List ByteArray)) (inner := [.string (⟨#[35, 102]⟩ : ByteArray), .string (⟨#[35, 116]⟩ : ByteArray)]) (ok := fun _ => True) (okp := fun _ => True) ?hr ?hp (fun _ hk => hk) trivial (Below.refl _ _) (Nat.le_refl _) (by simp) ?_; (case hd => rfl); (case hg => rfl); (case hr => exact c4_4); (case hp => exact (Reps.one (show Kd.M Kd.string _ _ _ (⟨#[35, 102]⟩ : ByteArray) [.string (⟨#[35, 102]⟩ : ByteArray)] from rfl) (Reps.one (show Kd.M Kd.string _ _ _ (⟨#[35, 116]⟩ : ByteArray) [.string (⟨#[35, 116]⟩ : ByteArray)] from rfl) (Reps.none _ _)))); intro v145 w11 ho12 hb hg_ hnew_; clear hg_ hnew_; (first | rw [← Ny144.out] at ho12 | (simp only [Int.reduceToNat] at ho12; rw [← Ny144.out] at ho12)); have n0_ := ak (Kd.R_lower ho12 (below_size d4_1)); have n1_ := ak (below_step d4_1 hb); clear HB; have HO146 := n0_; have HB := n1_; clear n0_ n1_ hb ho12; have p147 : 0 ≤ (a1 : Int) := of_decide_eq_true d4_3; have q147 : a1 < (l0.length : Int) := of_decide_eq_true d4_3; obtain ⟨ad147, e147, hx147_0, hx147_1, hx147_2, hx147_3⟩ := at_T37 HR0.out a1 p147 q147; obtain rfl : ad142 = ad147 := (by injection e147); replace hx147_0 := (HB.out.cell (World.block_lt_of_cell? w _ hx147_0)).trans hx147_0; replace hx147_1 := (HB.out.cell (World.block_lt_of_cell? w _ hx147_1)).trans hx147_1; replace hx147_2 := (HB.out.cell (World.block_lt_of_cell? w _ hx147_2)).trans hx147_2; replace hx147_3 := (HB.out.cell (World.block_lt_of_cell? w _ hx147_3)).trans hx147_3; replace p147 := eq_true p147; replace q147 := eq_true q147; obtain ⟨Ao13, co13, eo13⟩ := Kd.R_slice HO146.out; subst eo13; have p148 : 0 ≤ (((rd_T37 l0 a1).f2) : Int) := of_decide_eq_true d4_3; have q148 : ((rd_T37 l0 a1).f2) < (y144.length : Int) := of_decide_eq_true d4_3; obtain ⟨ad148, e148, hx148_0⟩ := Kd.at_string (Kd.R_reads' HO146.out).2.2 ((rd_T37 l0 a1).f2) p148 q148; cases e148; replace p148 := eq_true p148; replace q148 := eq_true q148))
        go_ret; exact ⟨c4_3, c4_1⟩
       ·rw [if_neg c10] at H
        exact absurd H (by simp)
      ·rw [if_neg c9] at H
       exact absurd H (by simp)
     ·rw [if_neg c8] at H
      have c8b0 : (((rd_T37 l0 a1).f0) == 2) = false := beq_eq_false_iff_ne.mpr c8; have c8b1 : (((rd_T37 l0 a1).f0) != 2) = true := bne_iff_ne.mpr c8; by_cases c14 : ((rd_T37 l0 a1).f0) = 3
      ·rw [if_pos c14] at H
       have c14b0 : (((rd_T37 l0 a1).f0) == 3) = true := beq_iff_eq.mpr c14; have c14b1 : (((rd_T37 l0 a1).f0) != 3) = false := bne_eq_false_iff_eq.mpr c14; clear c14; obtain rfl := Option.some.inj H; have p142 : 0 ≤ (a1 : Int) := of_decide_eq_true d4_3; have q142 : a1 < (l0.length : Int) := of_decide_eq_true d4_3; obtain ⟨ad142, e142, hx142_0, hx142_1, hx142_2, hx142_3⟩ := at_T37 HR0.out a1 p142 q142
       cases e142
       replace p142 := eq_true p142; replace q142 := eq_true q142; go_enter Tryd.func12, Tryd.ntmps12; go_wp2; go_ret; exact ⟨c4_3, c4_1⟩
      ·rw [if_neg c14] at H
       have c14b0 : (((rd_T37 l0 a1).f0) == 3) = false := beq_eq_false_iff_ne.mpr c14; have c14b1 : (((rd_T37 l0 a1).f0) != 3) = true := bne_iff_ne.mpr c14; replace H := Option.bind_eq_some_iff.mp H; obtain ⟨t149, A150, H⟩ := H; replace H : (spec_l3Write.l0 k l0 (⟨#[40]⟩ : ByteArray) t149 0) = some r := H; have A15 := ak A150; clear A150; have H' := ak H; clear H; have p142 : 0 ≤ (a1 : Int) := of_decide_eq_true d4_3; have q142 : a1 < (l0.length : Int) := of_decide_eq_true d4_3; obtain ⟨ad142, e142, hx142_0, hx142_1, hx142_2, hx142_3⟩ := at_T37 HR0.out a1 p142 q142
       cases e142
       replace p142 := eq_true p142; replace q142 := eq_true q142; go_enter Tryd.func12, Tryd.ntmps12; go_wp2_with (first | ((with_reducible refine gate_callee (f := 24) rfl ?_); refine goesL_ (some 40) rfl rfl Tryd.func24 (by kernel_rfl) rfl #[.slice (some ad142) l0.length c0, .int .i64 a1] rfl d4_2 ?_; (with_reducible refine (spec_l3Parts.calls k _ _ l0 a1 t149 _ ?side1 ?side2 A15.out).mono ?_); (case side1 => repeat (first | exact HR0.out | (with_reducible refine Kd.C_alloc ?_ _) | (with_reducible refine Kd.C_drewN ?_ _) | (with_reducible refine Kd.C_drew ?_))); (case side2 => exact HC0.out); rintro e w16 ⟨v150, rfl, ho0, hb⟩; refine ⟨_, rfl, ?_⟩; have n0_ := ak (Kd.R_lower ho0 (below_size d4_1)); have n1_ := ak (below_step d4_1 hb); clear HB; have HO151 := n0_; have HB := n1_; clear n0_ n1_; (try clear hb); (try clear ho0))); go_loopg [6, 8] k (fun kq v6 v8 w' => ∃ (x6_1 : ByteArray) (x8_1 : Int), v6 = .string x6_1 ∧ v8 = .int .i64 x8_1 ∧ Aside0 (spec_l3Write.l0 kq l0 x6_1 t149 x8_1 = some r) ∧ Aside0 (kq ≤ k) ∧ Aside0 (Kd.R (Kd.int .i64) 2 w' w.heap.size (fun _ => True) v150 t149) ∧ Aside0 (Below w.heap.size w w'))
       case atStart => exact ⟨((⟨#[40]⟩ : ByteArray)), (0), d4_5, d4_5, H', ⟨Nat.le_refl _⟩, ⟨by (with_reducible repeat (first | apply Kd.R_alloc | apply Kd.R_drewN | apply Kd.R_drew)); exact HO151.out⟩, ⟨c4_1⟩⟩
       case round =>
        clear H'
        try clear c1
        try clear p1
        try clear q1
        try clear hx1
        try clear c2
        try clear p2
        try clear c3
        try clear c3b0
        try clear c4
        try clear c4b0
        try clear c5
        try clear c5b0
        try clear c5b1
        try clear c8
        try clear c8b0
        try clear c8b1
        try clear c9
        try clear c9b0
        try clear c10
        try clear c10b0
        try clear c12
        try clear c14
        try clear c14b0
        try clear c14b1
        try clear p14
        try clear q14
        try clear hx14
        try clear hx142_0
        try clear hx142_1
        try clear hx142_2
        try clear hx142_3
        try clear hx147_0
        try clear hx147_1
        try clear hx147_2
        try clear hx147_3
        try clear hx148_0
        try clear p142
        try clear p147
        try clear p148
        try clear q142
        try clear q147
        try clear q148
        obtain ⟨x6_1, x8_1, rfl, rfl, HA, HK1, HO_7, HB⟩ := hrel
        cases gk with
        | zero => exact absurd HA.out (by simp [spec_l3Write.l0])
        | succ k1 =>
         have H := HA.out; clear HA; simp only [spec_l3Write.l0] at H; by_cases c17 : x8_1 < (t149.length : Int)
         ·rw [if_pos c17] at H
          have c17b0 : decide (x8_1 < (t149.length : Int)) = true := decide_eq_true c17; clear c17; by_cases c18 : x8_1 > 0
          ·rw [if_pos c18] at H
           have c18b0 : decide (0 < x8_1) = true := decide_eq_true c18; clear c18; by_cases c19 : x6_1.size + 1 ≤ 9223372036854775807
           ·rw [if_pos c19] at H
            have c19b0 := eq_true c19; have c19b1 : decide (x6_1.size + 1 ≤ 9223372036854775807) = true := decide_eq_true c19
            try have c19b2 : (9223372036854775807 < x6_1.size + 1) = False := eq_false (Nat.not_lt.2 c19)
            by_cases c20 : 0 ≤ x8_1
            ·rw [if_pos c20] at H
             have c20b0 : decide (0 ≤ x8_1) = true := decide_eq_true c20; clear c20; replace H := Option.bind_eq_some_iff.mp H; obtain ⟨t153, A210, H⟩ := H; replace H : (if (x6_1 ++ (⟨#[32]⟩ : ByteArray)).size + t153.size ≤ 9223372036854775807 then (spec_l3Write.l0 k1 l0 ((x6_1 ++ (⟨#[32]⟩ : ByteArray)) ++ t153) t149 (wrap64 (x8_1 + 1))) else (none)) = some r := H; have A21 := ak A210; clear A210; by_cases c22 : (x6_1 ++ (⟨#[32]⟩ : ByteArray)).size + t153.size ≤ 9223372036854775807
             ·rw [if_pos c22] at H
              have c22b0 := eq_true c22; have c22b1 : decide ((x6_1 ++ (⟨#[32]⟩ : ByteArray)).size + t153.size ≤ 9223372036854775807) = true := decide_eq_true c22
              try have c22b2 : (9223372036854775807 < (x6_1 ++ (⟨#[32]⟩ : ByteArray)).size + t153.size) = False := eq_false (Nat.not_lt.2 c22)
              have c22s : x6_1.size + 1 + t153.size ≤ 9223372036854775807 := by have z := c22; rw [ByteArray.size_append] at z; exact z
              have c22b3 := eq_true c22s; have c22b4 : (9223372036854775807 < x6_1.size + 1 + t153.size) = False := eq_false (Nat.not_lt.2 c22s); have c22b5 := decide_eq_true c22s; have H' := ak H; clear H; obtain ⟨Ao23, co23, eo23⟩ := Kd.R_slice HO_7.out; subst eo23; have p152 : 0 ≤ (x8_1 : Int) := of_decide_eq_true d4_3; have q152 : x8_1 < (t149.length : Int) := of_decide_eq_true d4_3; obtain ⟨ad152, e152, hx152_0⟩ := Kd.at_int (Kd.R_reads' HO_7.out).2.2 x8_1 p152 q152
              cases e152
              replace p152 := eq_true p152; replace q152 := eq_true q152; go_wp2_with (first | ((with_reducible refine gate_callee (f := 12) rfl ?_); refine goesL_ (some 57) rfl rfl Tryd.func12 (by kernel_rfl) rfl #[.slice (some ad142) l0.length c0, .int .i64 (rd t149 x8_1)] rfl d4_2 ?_; (with_reducible refine (ih k1 (by have := HK1.out; omega) _ _ l0 (rd t149 x8_1) t153 _ ?side1 ?side2 A21.out).mono ?_); (case side1 => exact c4_2); (case side2 => exact HC0.out); rintro e w24 ⟨rfl, hb⟩; refine ⟨_, rfl, ?_⟩; have n0_ := ak (Kd.R_below (by (with_reducible repeat (first | apply Kd.R_alloc | apply Kd.R_drewN | apply Kd.R_drew)); exact HO_7.out) hb); have n1_ := ak (below_step d4_1 hb); clear HO_7 HB; have HO_7 := n0_; have HB := n1_; clear n0_ n1_; (try clear hb))); go_roundg k1
              case measure => have := HK1.out; omega
              case rel => exact ⟨((x6_1 ++ (⟨#[32]⟩ : ByteArray)) ++ t153), (wrap64 (x8_1 + 1)), d4_5, d4_5, H', ⟨by have := HK1.out; omega⟩, ⟨by (with_reducible repeat (first | apply Kd.R_alloc | apply Kd.R_drewN | apply Kd.R_drew)); exact HO_7.out⟩, ⟨c4_1⟩⟩
             ·rw [if_neg c22] at H
              exact absurd H (by simp)
            ·rw [if_neg c20] at H
             exact absurd H (by simp)
           ·rw [if_neg c19] at H
            exact absurd H (by simp)
          ·rw [if_neg c18] at H
           have c18b0 : decide (0 < x8_1) = false := decide_eq_false c18; clear c18; by_cases c25 : 0 ≤ x8_1
           ·rw [if_pos c25] at H
            have c25b0 : decide (0 ≤ x8_1) = true := decide_eq_true c25; clear c25; replace H := Option.bind_eq_some_iff.mp H; obtain ⟨t155, A260, H⟩ := H; replace H : (if x6_1.size + t155.size ≤ 9223372036854775807 then (spec_l3Write.l0 k1 l0 (x6_1 ++ t155) t149 (wrap64 (x8_1 + 1))) else (none)) = some r := H; have A26 := ak A260; clear A260; by_cases c27 : x6_1.size + t155.size ≤ 9223372036854775807
            ·rw [if_pos c27] at H
             have c27b0 := eq_true c27; have c27b1 : decide (x6_1.size + t155.size ≤ 9223372036854775807) = true := decide_eq_true c27
             try have c27b2 : (9223372036854775807 < x6_1.size + t155.size) = False := eq_false (Nat.not_lt.2 c27)
             have H' := ak H; clear H; obtain ⟨Ao28, co28, eo28⟩ := Kd.R_slice HO_7.out; subst eo28; have p154 : 0 ≤ (x8_1 : Int) := of_decide_eq_true d4_3; have q154 : x8_1 < (t149.length : Int) := of_decide_eq_true d4_3; obtain ⟨ad154, e154, hx154_0⟩ := Kd.at_int (Kd.R_reads' HO_7.out).2.2 x8_1 p154 q154
             cases e154
             replace p154 := eq_true p154; replace q154 := eq_true q154; go_wp2_with (first | ((with_reducible refine gate_callee (f := 12) rfl ?_); refine goesL_ (some 57) rfl rfl Tryd.func12 (by kernel_rfl) rfl #[.slice (some ad142) l0.length c0, .int .i64 (rd t149 x8_1)] rfl d4_2 ?_; (with_reducible refine (ih k1 (by have := HK1.out; omega) _ _ l0 (rd t149 x8_1) t155 _ ?side1 ?side2 A26.out).mono ?_); (case side1 => exact c4_2); (case side2 => exact HC0.out); rintro e w29 ⟨rfl, hb⟩; refine ⟨_, rfl, ?_⟩; have n0_ := ak (Kd.R_below (by (with_reducible repeat (first | apply Kd.R_alloc | apply Kd.R_drewN | apply Kd.R_drew)); exact HO_7.out) hb); have n1_ := ak (below_step d4_1 hb); clear HO_7 HB; have HO_7 := n0_; have HB := n1_; clear n0_ n1_; (try clear hb))); go_roundg k1
             case measure => have := HK1.out; omega
             case rel => exact ⟨(x6_1 ++ t155), (wrap64 (x8_1 + 1)), d4_5, d4_5, H', ⟨by have := HK1.out; omega⟩, ⟨by (with_reducible repeat (first | apply Kd.R_alloc | apply Kd.R_drewN | apply Kd.R_drew)); exact HO_7.out⟩, ⟨c4_1⟩⟩
            ·rw [if_neg c27] at H
             exact absurd H (by simp)
           ·rw [if_neg c25] at H
            exact absurd H (by simp)
         ·rw [if_neg c17] at H
          have c17b0 : decide (x8_1 < (t149.length : Int)) = false := decide_eq_false c17; clear c17; by_cases c30 : x6_1.size + 1 ≤ 9223372036854775807
          ·rw [if_pos c30] at H
           have c30b0 := eq_true c30; have c30b1 : decide (x6_1.size + 1 ≤ 9223372036854775807) = true := decide_eq_true c30
           try have c30b2 : (9223372036854775807 < x6_1.size + 1) = False := eq_false (Nat.not_lt.2 c30)
           obtain rfl := Option.some.inj H; obtain ⟨Ao31, co31, eo31⟩ := Kd.R_slice HO_7.out; subst eo31; go_wp2; go_ret; exact ⟨c4_3, c4_1⟩
          ·rw [if_neg c30] at H
           exact absurd H (by simp)
   ·rw [if_neg c4] at H
    exact absurd H (by simp)
  ·rw [if_neg c3] at H
   exact absurd H (by simp)

/-! ### spec_WriteData: function 5 -/
def spec_WriteData.f (k : Nat) (l0 : List (S37)) : Option (Int × ByteArray) := (spec_l3Fault.f k l0).bind fun t157 => (if t157 = 0 then ((spec_l3Write.f k l0 0).bind fun t158 => (if (t158.size : Int) > 400 then (some (2, (⟨#[]⟩ : ByteArray))) else (some (0, t158)))) else (some (t157, (⟨#[]⟩ : ByteArray))))
theorem spec_WriteData.mono : ∀ a0 k, LeO (spec_WriteData.f k a0) (spec_WriteData.f (k + 1) a0) := by
  intro a0 k; unfold spec_WriteData.f
  repeat' first
      | (with_reducible exact spec_l3Fault.mono _ _)
      | (with_reducible exact spec_l3Write.mono _ _ _)
      | (with_reducible exact LeO.refl _)
      | (with_reducible exact LeO.none _)
      | (with_reducible refine LeO.ite ?_ ?_)
      | (with_reducible refine LeO.bind ?_ (fun _ => ?_))
      | exact spec_l3Fault.mono _ _
      | exact spec_l3Write.mono _ _ _
      | exact LeO.none _
      | refine LeO.ite ?_ ?_
      | refine LeO.bind ?_ (fun _ => ?_)
set_option maxHeartbeats 8000000 in
set_option maxRecDepth 100000 in
theorem spec_WriteData.calls (k : Nat) (A0 : Option Addr) (c0 : Nat) (l0 : List (S37)) (r1 : Int) (r2 : ByteArray) (w : World) (hr0 : Kd.C k37 w A0 l0.length l0) (hc0 : l0.length ≤ c0) (h : spec_WriteData.f k l0 = some (r1, r2)) :
    Calls Tryd.prog 5 #[.slice A0 l0.length c0] w fun e w' => e = .returned (.agg #[.int .i64 r1, .string r2]) ∧ Below w.heap.size w w' := by
  have hu25 := Tryd.underlying25; have HR0 := ak hr0; have HC0 := ak hc0; clear hr0 hc0; have HB := ak (Below.refl w.heap.size w); have H : ((spec_l3Fault.f k l0).bind fun t157 => (if t157 = 0 then ((spec_l3Write.f k l0 0).bind fun t158 => (if (t158.size : Int) > 400 then (some (2, (⟨#[]⟩ : ByteArray))) else (some (0, t158)))) else (some (t157, (⟨#[]⟩ : ByteArray))))) = some (r1, r2) := h; clear h; replace H := Option.bind_eq_some_iff.mp H; obtain ⟨t157, A20, H⟩ := H; replace H : (if t157 = 0 then ((spec_l3Write.f k l0 0).bind fun t158 => (if (t158.size : Int) > 400 then (some (2, (⟨#[]⟩ : ByteArray))) else (some (0, t158)))) else (some (t157, (⟨#[]⟩ : ByteArray)))) = some (r1, r2) := H; have A2 := ak A20; clear A20; by_cases c3 : t157 = 0
  ·rw [if_pos c3] at H
   have c3b0 : (t157 == 0) = true := beq_iff_eq.mpr c3; have c3b1 : (t157 != 0) = false := bne_eq_false_iff_eq.mpr c3; clear c3; replace H := Option.bind_eq_some_iff.mp H; obtain ⟨t158, A40, H⟩ := H; replace H : (if (t158.size : Int) > 400 then (some (2, (⟨#[]⟩ : ByteArray))) else (some (0, t158))) = some (r1, r2) := H; have A4 := ak A40; clear A40; by_cases c5 : (t158.size : Int) > 400
   ·rw [if_pos c5] at H
    have c5b0 : decide (400 < (t158.size : Int)) = true := decide_eq_true c5; have c5b1 : decide (400 < t158.size) = true := decide_eq_true (by omega); clear c5; simp only [Option.some.injEq, Prod.mk.injEq] at H; obtain ⟨rfl, rfl⟩ := H; go_enter Tryd.func5, Tryd.ntmps5
    go_wp2_with (first | ((with_reducible refine gate_dst (N := 2) rfl ?_); refine box_event ?hg (N := 2) ?hd (cs := #[.int .i64 0, .string (⟨#[]⟩ : ByteArray)]) (t := 25) ?hr ?_; (case hd => rfl); (case hg => rfl); (case hr => exact c4_4); intro gb156 hg w6 hbox hb; have n0_ := ak (below_step d4_1 hb); have n1_ := ak (hbox); have n2_ := ak ((by rw [hg]; exact (below_size d4_1) : w.heap.size ≤ gb156)); have n3_ := ak ((by rw [hg]; exact (below_size d4_1) : w.heap.size ≤ gb156)); clear HB; have HB := n0_; have BK156 := n1_; have GW156 := n2_; have GE156 := n3_; clear n0_ n1_ n2_ n3_ hb hbox hg) | ((with_reducible refine gate_callee (f := 11) rfl ?_); refine goesL_ (some 6) rfl rfl Tryd.func11 (by kernel_rfl) rfl #[.slice A0 l0.length c0] rfl d4_2 ?_; (with_reducible refine (spec_l3Fault.calls k _ _ l0 t157 _ ?side1 ?side2 A2.out).mono ?_); (case side1 => exact c4_2); (case side2 => exact HC0.out); rintro e w' ⟨rfl, ⟨nd, rfl⟩⟩; refine ⟨_, rfl, ?_⟩; (try (rw [drewN_self w6]; generalize hq_ : World.drewN w6 _ = w6; have n0_ : Aside0 (w6.heap[gb156]? = some (.cells #[.int .i64 0, .string (⟨#[]⟩ : ByteArray)] 25 (0, 0))) := ⟨by rw [← hq_]; exact d4_7⟩; have n1_ : Aside0 (Below w.heap.size w w6) := ⟨by rw [← hq_]; exact d4_4⟩; clear BK156 HB hq_; have BK156 := n0_; have HB := n1_; clear n0_ n1_))) | ((with_reducible refine gate_callee (f := 12) rfl ?_); refine goesL_ (some 12) rfl rfl Tryd.func12 (by kernel_rfl) rfl #[.slice A0 l0.length c0, .int .i64 0] rfl d4_2 ?_; (with_reducible refine (spec_l3Write.calls k _ _ l0 0 t158 _ ?side1 ?side2 A4.out).mono ?_); (case side1 => exact c4_2); (case side2 => exact HC0.out); rintro e w7 ⟨rfl, hb⟩; refine ⟨_, rfl, ?_⟩; have n0_ := ak (blk_below (g := gb156) (o := .cells #[.int .i64 0, .string (⟨#[]⟩ : ByteArray)] 25 (0, 0)) d4_7 hb); have n1_ := ak (below_step d4_4 hb); clear BK156 HB; have BK156 := n0_; have HB := n1_; clear n0_ n1_; (try clear hb); have hcz8_0 : w7.cell? ⟨gb156, 0, none⟩ = some (.int .i64 0) := (blk_cell BK156.out 0).trans rfl; have hcz8_1 : w7.cell? ⟨gb156, 1, none⟩ = some (.string (⟨#[]⟩ : ByteArray)) := (blk_cell BK156.out 1).trans rfl; have hfz8_0 := blk_frozen BK156.out 0; have hfz8_1 := blk_frozen BK156.out 1))
    refine bodyPost_ret (results_cell_row rfl _ _ gb156 25 #[.int .i64 2, .string (⟨#[]⟩ : ByteArray)] (0, 0) _ rfl (by (with_reducible repeat first | apply b4N | apply b4D | apply b4L); refine blk_put (cs := #[.int .i64 2, .string (⟨#[]⟩ : ByteArray)]) ?_ 1 _ rfl; (with_reducible repeat first | apply b4N | apply b4D | apply b4L); refine blk_put (cs := #[.int .i64 0, .string (⟨#[]⟩ : ByteArray)]) ?_ 0 _ rfl; (with_reducible repeat first | apply b4N | apply b4D | apply b4L); exact BK156.out) Tryd.underlying25 rfl (by kernel_rfl)) rfl ?_; exact ⟨c4_3, c4_5⟩
   ·rw [if_neg c5] at H
    have c5b0 : decide (400 < (t158.size : Int)) = false := decide_eq_false c5; have c5b1 : decide (400 < t158.size) = false := decide_eq_false (by omega); clear c5; simp only [Option.some.injEq, Prod.mk.injEq] at H; obtain ⟨rfl, rfl⟩ := H; go_enter Tryd.func5, Tryd.ntmps5
    go_wp2_with (first | ((with_reducible refine gate_dst (N := 2) rfl ?_); refine box_event ?hg (N := 2) ?hd (cs := #[.int .i64 0, .string (⟨#[]⟩ : ByteArray)]) (t := 25) ?hr ?_; (case hd => rfl); (case hg => rfl); (case hr => exact c4_4); intro gb156 hg w9 hbox hb; have n0_ := ak (below_step d4_1 hb); have n1_ := ak (hbox); have n2_ := ak ((by rw [hg]; exact (below_size d4_1) : w.heap.size ≤ gb156)); have n3_ := ak ((by rw [hg]; exact (below_size d4_1) : w.heap.size ≤ gb156)); clear HB; have HB := n0_; have BK156 := n1_; have GW156 := n2_; have GE156 := n3_; clear n0_ n1_ n2_ n3_ hb hbox hg) | ((with_reducible refine gate_callee (f := 11) rfl ?_); refine goesL_ (some 6) rfl rfl Tryd.func11 (by kernel_rfl) rfl #[.slice A0 l0.length c0] rfl d4_2 ?_; (with_reducible refine (spec_l3Fault.calls k _ _ l0 t157 _ ?side1 ?side2 A2.out).mono ?_); (case side1 => exact c4_2); (case side2 => exact HC0.out); rintro e w' ⟨rfl, ⟨nd, rfl⟩⟩; refine ⟨_, rfl, ?_⟩; (try (rw [drewN_self w9]; generalize hq_ : World.drewN w9 _ = w9; have n0_ : Aside0 (w9.heap[gb156]? = some (.cells #[.int .i64 0, .string (⟨#[]⟩ : ByteArray)] 25 (0, 0))) := ⟨by rw [← hq_]; exact d4_7⟩; have n1_ : Aside0 (Below w.heap.size w w9) := ⟨by rw [← hq_]; exact d4_4⟩; clear BK156 HB hq_; have BK156 := n0_; have HB := n1_; clear n0_ n1_))) | ((with_reducible refine gate_callee (f := 12) rfl ?_); refine goesL_ (some 12) rfl rfl Tryd.func12 (by kernel_rfl) rfl #[.slice A0 l0.length c0, .int .i64 0] rfl d4_2 ?_; (with_reducible refine (spec_l3Write.calls k _ _ l0 0 t158 _ ?side1 ?side2 A4.out).mono ?_); (case side1 => exact c4_2); (case side2 => exact HC0.out); rintro e w10 ⟨rfl, hb⟩; refine ⟨_, rfl, ?_⟩; have n0_ := ak (blk_below (g := gb156) (o := .cells #[.int .i64 0, .string (⟨#[]⟩ : ByteArray)] 25 (0, 0)) d4_7 hb); have n1_ := ak (below_step d4_4 hb); clear BK156 HB; have BK156 := n0_; have HB := n1_; clear n0_ n1_; (try clear hb); have hcz11_0 : w10.cell? ⟨gb156, 0, none⟩ = some (.int .i64 0) := (blk_cell BK156.out 0).trans rfl; have hcz11_1 : w10.cell? ⟨gb156, 1, none⟩ = some (.string (⟨#[]⟩ : ByteArray)) := (blk_cell BK156.out 1).trans rfl; have hfz11_0 := blk_frozen BK156.out 0; have hfz11_1 := blk_frozen BK156.out 1))
    refine bodyPost_ret (results_cell_row rfl _ _ gb156 25 #[.int .i64 0, .string t158] (0, 0) _ rfl (by (with_reducible repeat first | apply b4N | apply b4D | apply b4L); refine blk_put (cs := #[.int .i64 0, .string (⟨#[]⟩ : ByteArray)]) ?_ 1 _ rfl; (with_reducible repeat first | apply b4N | apply b4D | apply b4L); refine blk_put (cs := #[.int .i64 0, .string (⟨#[]⟩ : ByteArray)]) ?_ 0 _ rfl; (with_reducible repeat first | apply b4N | apply b4D | apply b4L); exact BK156.out) Tryd.underlying25 rfl (by kernel_rfl)) rfl ?_; exact ⟨c4_3, c4_5⟩
  ·rw [if_neg c3] at H
   have c3b0 : (t157 == 0) = false := beq_eq_false_iff_ne.mpr c3; have c3b1 : (t157 != 0) = true := bne_iff_ne.mpr c3; simp only [Option.some.injEq, Prod.mk.injEq] at H; obtain ⟨rfl, rfl⟩ := H; go_enter Tryd.func5, Tryd.ntmps5
   go_wp2_with (first | ((with_reducible refine gate_dst (N := 2) rfl ?_); refine box_event ?hg (N := 2) ?hd (cs := #[.int .i64 0, .string (⟨#[]⟩ : ByteArray)]) (t := 25) ?hr ?_; (case hd => rfl); (case hg => rfl); (case hr => exact c4_4); intro gb156 hg w12 hbox hb; have n0_ := ak (below_step d4_1 hb); have n1_ := ak (hbox); have n2_ := ak ((by rw [hg]; exact (below_size d4_1) : w.heap.size ≤ gb156)); have n3_ := ak ((by rw [hg]; exact (below_size d4_1) : w.heap.size ≤ gb156)); clear HB; have HB := n0_; have BK156 := n1_; have GW156 := n2_; have GE156 := n3_; clear n0_ n1_ n2_ n3_ hb hbox hg) | ((with_reducible refine gate_callee (f := 11) rfl ?_); refine goesL_ (some 6) rfl rfl Tryd.func11 (by kernel_rfl) rfl #[.slice A0 l0.length c0] rfl d4_2 ?_; (with_reducible refine (spec_l3Fault.calls k _ _ l0 t157 _ ?side1 ?side2 A2.out).mono ?_); (case side1 => exact c4_2); (case side2 => exact HC0.out); rintro e w' ⟨rfl, ⟨nd, rfl⟩⟩; refine ⟨_, rfl, ?_⟩; (try (rw [drewN_self w12]; generalize hq_ : World.drewN w12 _ = w12; have n0_ : Aside0 (w12.heap[gb156]? = some (.cells #[.int .i64 0, .string (⟨#[]⟩ : ByteArray)] 25 (0, 0))) := ⟨by rw [← hq_]; exact d4_7⟩; have n1_ : Aside0 (Below w.heap.size w w12) := ⟨by rw [← hq_]; exact d4_4⟩; clear BK156 HB hq_; have BK156 := n0_; have HB := n1_; clear n0_ n1_)); have hcz13_0 : w12.cell? ⟨gb156, 0, none⟩ = some (.int .i64 0) := (blk_cell BK156.out 0).trans rfl; have hcz13_1 : w12.cell? ⟨gb156, 1, none⟩ = some (.string (⟨#[]⟩ : ByteArray)) := (blk_cell BK156.out 1).trans rfl; have hfz13_0 := blk_frozen BK156.out 0; have hfz13_1 := blk_frozen BK156.out 1))
   refine bodyPost_ret (results_cell_row rfl _ _ gb156 25 #[.int .i64 t157, .string (⟨#[]⟩ : ByteArray)] (0, 0) _ rfl (by (with_reducible repeat first | apply b4N | apply b4D | apply b4L); refine blk_put (cs := #[.int .i64 t157, .string (⟨#[]⟩ : ByteArray)]) ?_ 1 _ rfl; (with_reducible repeat first | apply b4N | apply b4D | apply b4L); refine blk_put (cs := #[.int .i64 0, .string (⟨#[]⟩ : ByteArray)]) ?_ 0 _ rfl; (with_reducible repeat first | apply b4N | apply b4D | apply b4L); exact BK156.out) Tryd.underlying25 rfl (by kernel_rfl)) rfl ?_; exact ⟨c4_3, c4_5⟩

/-! ### laws_toDatum: function 13 -/
def laws_toDatum.f (a0_0 : Int) (a0_1 : Int) (a0_2 : Int) (a0_3 : ByteArray) : Option (Int × Int × Int × ByteArray) := some (a0_0, a0_1, a0_2, a0_3)
set_option maxHeartbeats 8000000 in
set_option maxRecDepth 100000 in
theorem laws_toDatum.calls (a0_0 : Int) (a0_1 : Int) (a0_2 : Int) (a0_3 : ByteArray) (r1 : Int) (r2 : Int) (r3 : Int) (r4 : ByteArray) (w : World) (h : laws_toDatum.f a0_0 a0_1 a0_2 a0_3 = some (r1, r2, r3, r4)) :
    Calls Tryd.prog 13 #[.agg #[.int .i64 a0_0, .int .i64 a0_1, .int .i64 a0_2, .string a0_3]] w fun e w' => e = .returned (.agg #[.int .i64 r1, .int .i64 r2, .int .i64 r3, .string r4]) ∧ Below w.heap.size w w' := by
  have hu34 := Tryd.underlying34; have hu37 := Tryd.underlying37; have HB := ak (Below.refl w.heap.size w); have H : (some (a0_0, a0_1, a0_2, a0_3)) = some (r1, r2, r3, r4) := h; clear h; simp only [Option.some.injEq, Prod.mk.injEq] at H; obtain ⟨rfl, rfl, rfl, rfl⟩ := H; go_enter Tryd.func13, Tryd.ntmps13
  go_wp2_with (first | ((with_reducible refine gate_dst (N := 1) rfl ?_); refine box_event ?hg (N := 1) ?hd (cs := #[.int .i64 a0_0, .int .i64 a0_1, .int .i64 a0_2, .string a0_3]) (t := 34) ?hr ?_; (case hd => rfl); (case hg => rfl); (case hr => exact c4_4); intro gb159 hg w2 hbox hb; have n0_ := ak (below_step d4_1 hb); have n1_ := ak (hbox); have n2_ := ak ((by rw [hg]; exact (below_size d4_1) : w.heap.size ≤ gb159)); have n3_ := ak ((by rw [hg]; exact (below_size d4_1) : w.heap.size ≤ gb159)); clear HB; have HB := n0_; have BK159 := n1_; have GW159 := n2_; have GE159 := n3_; clear n0_ n1_ n2_ n3_ hb hbox hg) | ((with_reducible refine gate_dst (N := 2) rfl ?_); refine box_event ?hg (N := 2) ?hd (cs := #[.int .i64 0, .int .i64 0, .int .i64 0, .string (⟨#[]⟩ : ByteArray)]) (t := 37) ?hr ?_; (case hd => rfl); (case hg => rfl); (case hr => exact c4_4); intro gb160 hg w3 hbox hb; have n0_ := ak (blk_below (g := gb159) (o := .cells #[.int .i64 a0_0, .int .i64 a0_1, .int .i64 a0_2, .string a0_3] 34 (0, 0)) d4_6 hb); have n1_ := ak (below_step d4_10 hb); have n2_ := ak (hbox); have n3_ := ak ((by rw [hg]; exact (below_size d4_10) : w.heap.size ≤ gb160)); have n4_ := ak ((by rw [hg]; exact (below_size d4_10) : w.heap.size ≤ gb160)); have n5_ := ak ((by rw [hg]; exact Nat.ne_of_lt (blk_lt (g := gb159) (o := .cells #[.int .i64 a0_0, .int .i64 a0_1, .int .i64 a0_2, .string a0_3] 34 (0, 0)) d4_6) : gb159 ≠ gb160)); have n6_ := ak ((by rw [hg]; exact Nat.ne_of_gt (blk_lt (g := gb159) (o := .cells #[.int .i64 a0_0, .int .i64 a0_1, .int .i64 a0_2, .string a0_3] 34 (0, 0)) d4_6) : gb160 ≠ gb159)); clear BK159 HB; have BK159 := n0_; have HB := n1_; have BK160 := n2_; have GW160 := n3_; have GE160 := n4_; have NB159_160 := n5_; have NB160_159 := n6_; clear n0_ n1_ n2_ n3_ n4_ n5_ n6_ hb hbox hg) | ((with_reducible refine gate_dst (N := 3) rfl ?_); refine box_event ?hg (N := 3) ?hd (cs := #[.int .i64 0, .int .i64 0, .int .i64 0, .string (⟨#[]⟩ : ByteArray)]) (t := 37) ?hr ?_; (case hd => rfl); (case hg => rfl); (case hr => exact c4_4); intro gb161 hg w4 hbox hb; have n0_ := ak (blk_below (g := gb159) (o := .cells #[.int .i64 a0_0, .int .i64 a0_1, .int .i64 a0_2, .string a0_3] 34 (0, 0)) d4_6 hb); have n1_ := ak (blk_below (g := gb160) (o := .cells #[.int .i64 0, .int .i64 0, .int .i64 0, .string (⟨#[]⟩ : ByteArray)] 37 (0, 0)) (by (with_reducible repeat first | apply b4N | apply b4D | apply b4L); exact BK160.out) hb); have n2_ := ak (below_step d4_9 hb); have n3_ := ak (hbox); have n4_ := ak ((by rw [hg]; exact (below_size d4_9) : w.heap.size ≤ gb161)); have n5_ := ak ((by rw [hg]; exact (below_size d4_9) : w.heap.size ≤ gb161)); have n6_ := ak ((by rw [hg]; exact Nat.ne_of_lt (blk_lt (g := gb159) (o := .cells #[.int .i64 a0_0, .int .i64 a0_1, .int .i64 a0_2, .string a0_3] 34 (0, 0)) d4_6) : gb159 ≠ gb161)); have n7_ := ak ((by rw [hg]; exact Nat.ne_of_gt (blk_lt (g := gb159) (o := .cells #[.int .i64 a0_0, .int .i64 a0_1, .int .i64 a0_2, .string a0_3] 34 (0, 0)) d4_6) : gb161 ≠ gb159)); have n8_ := ak ((by rw [hg]; exact Nat.ne_of_lt (blk_lt (g := gb160) (o := .cells #[.int .i64 0, .int .i64 0, .int .i64 0, .string (⟨#[]⟩ : ByteArray)] 37 (0, 0)) (by (with_reducible repeat first | apply b4N | apply b4D | apply b4L); exact BK160.out)) : gb160 ≠ gb161)); have n9_ := ak ((by rw [hg]; exact Nat.ne_of_gt (blk_lt (g := gb160) (o := .cells #[.int .i64 0, .int .i64 0, .int .i64 0, .string (⟨#[]⟩ : ByteArray)] 37 (0, 0)) (by (with_reducible repeat first | apply b4N | apply b4D | apply b4L); exact BK160.out)) : gb161 ≠ gb160)); clear BK159 BK160 HB; have BK159 := n0_; have BK160 := n1_; have HB := n2_; have BK161 := n3_; have GW161 := n4_; have GE161 := n5_; have NB159_161 := n6_; have NB161_159 := n7_; have NB160_161 := n8_; have NB161_160 := n9_; clear n0_ n1_ n2_ n3_ n4_ n5_ n6_ n7_ n8_ n9_ hb hbox hg; have hnb5 := NB159_160.out; have hnc5 := NB160_159.out; have hnb6 := NB159_161.out; have hnc6 := NB161_159.out; have hcz7_0 : w4.cell? ⟨gb159, 0, none⟩ = some (.int .i64 a0_0) := (blk_cell BK159.out 0).trans rfl; have hcz7_1 : w4.cell? ⟨gb159, 1, none⟩ = some (.int .i64 a0_1) := (blk_cell BK159.out 1).trans rfl; have hcz7_2 : w4.cell? ⟨gb159, 2, none⟩ = some (.int .i64 a0_2) := (blk_cell BK159.out 2).trans rfl; have hcz7_3 : w4.cell? ⟨gb159, 3, none⟩ = some (.string a0_3) := (blk_cell BK159.out 3).trans rfl; have hfz7_0 := blk_frozen BK159.out 0; have hfz7_1 := blk_frozen BK159.out 1; have hfz7_2 := blk_frozen BK159.out 2; have hfz7_3 := blk_frozen BK159.out 3; have hnb8 := NB161_160.out; have hnc8 := NB160_161.out; have hcz9_0 : w4.cell? ⟨gb161, 0, none⟩ = some (.int .i64 0) := (blk_cell BK161.out 0).trans rfl; have hcz9_1 : w4.cell? ⟨gb161, 1, none⟩ = some (.int .i64 0) := (blk_cell BK161.out 1).trans rfl; have hcz9_2 : w4.cell? ⟨gb161, 2, none⟩ = some (.int .i64 0) := (blk_cell BK161.out 2).trans rfl; have hcz9_3 : w4.cell? ⟨gb161, 3, none⟩ = some (.string (⟨#[]⟩ : ByteArray)) := (blk_cell BK161.out 3).trans rfl; have hfz9_0 := blk_frozen BK161.out 0; have hfz9_1 := blk_frozen BK161.out 1; have hfz9_2 := blk_frozen BK161.out 2; have hfz9_3 := blk_frozen BK161.out 3; have hcz10_0 : w4.cell? ⟨gb160, 0, none⟩ = some (.int .i64 0) := (blk_cell BK160.out 0).trans rfl; have hcz10_1 : w4.cell? ⟨gb160, 1, none⟩ = some (.int .i64 0) := (blk_cell BK160.out 1).trans rfl; have hcz10_2 : w4.cell? ⟨gb160, 2, none⟩ = some (.int .i64 0) := (blk_cell BK160.out 2).trans rfl; have hcz10_3 : w4.cell? ⟨gb160, 3, none⟩ = some (.string (⟨#[]⟩ : ByteArray)) := (blk_cell BK160.out 3).trans rfl; have hfz10_0 := blk_frozen BK160.out 0; have hfz10_1 := blk_frozen BK160.out 1; have hfz10_2 := blk_frozen BK160.out 2; have hfz10_3 := blk_frozen BK160.out 3))
  refine bodyPost_ret (results_cell_row rfl _ _ gb160 37 #[.int .i64 a0_0, .int .i64 a0_1, .int .i64 a0_2, .string a0_3] (0, 0) _ rfl (by (with_reducible repeat first | apply b4N | apply b4D | apply b4L); refine blk_put (cs := #[.int .i64 a0_0, .int .i64 a0_1, .int .i64 a0_2, .string (⟨#[]⟩ : ByteArray)]) ?_ 3 _ rfl; (with_reducible repeat first | apply b4N | apply b4D | apply b4L); refine blk_put (cs := #[.int .i64 a0_0, .int .i64 a0_1, .int .i64 0, .string (⟨#[]⟩ : ByteArray)]) ?_ 2 _ rfl; (with_reducible repeat first | apply b4N | apply b4D | apply b4L); refine blk_put (cs := #[.int .i64 a0_0, .int .i64 0, .int .i64 0, .string (⟨#[]⟩ : ByteArray)]) ?_ 1 _ rfl; (with_reducible repeat first | apply b4N | apply b4D | apply b4L); refine blk_put (cs := #[.int .i64 0, .int .i64 0, .int .i64 0, .string (⟨#[]⟩ : ByteArray)]) ?_ 0 _ rfl; (with_reducible repeat first | apply b4N | apply b4D | apply b4L); refine blk_far ?_ NB160_161.out _; (with_reducible repeat first | apply b4N | apply b4D | apply b4L); refine blk_far ?_ NB160_161.out _; (with_reducible repeat first | apply b4N | apply b4D | apply b4L); refine blk_far ?_ NB160_161.out _; (with_reducible repeat first | apply b4N | apply b4D | apply b4L); refine blk_far ?_ NB160_161.out _; (with_reducible repeat first | apply b4N | apply b4D | apply b4L); exact BK160.out) Tryd.underlying37 rfl (by kernel_rfl)) rfl ?_
  exact ⟨c4_3, by repeat (first | (with_reducible first | exact HB.out | apply below_alloc | apply pw_below_drewN | apply below_drew1 | refine below_set ?_ GE159.out | refine below_set ?_ GE160.out | refine below_set ?_ GE161.out) | exact HB.out)⟩

end Go.Proofs.YtgnenhehcdekkacDoor.A
