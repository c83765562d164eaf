/- Walks of the program's functions: each Go function's answer as a plain Lean function, and that the call comes to it. Written by a program. Conditions: those in each theorem's own head. -/
import Derived.Test.YteiokhfikbndbaaGreatDoorA0
import Derived.Test.YteiokhfikbndbaaGreatDoorA4
namespace Go.Proofs.YteiokhfikbndbaaGreatDoor.A
open Go.RowKit Go.Proofs.YteiokhfikbndbaaGreatDoorW.PrintWords Go.Proofs.YteiokhfikbndbaaGreatDoorW.PrintLast Go.Proofs.YteiokhfikbndbaaGreatDoorW.PrintMore
attribute [local go_sem] max2_int min2_int max_two min_two max_three min_three max_four min_four   -- for this text's walks alone
set_option linter.unusedVariables false
set_option linter.unusedSimpArgs false

theorem d5_1 {p : Prop} (h : p := by repeat (first | (with_reducible first | exact HB.out | apply below_alloc | apply pw_below_drewN | apply below_drew1) | exact HB.out)) : p := h
theorem d5_2 {p : Prop} (h : p := by (try simp only [List.map_toArray, List.map_cons, List.map_nil]); first | done | rfl | (simp only [List.length_drop, List.length_take]; rfl)) : p := h
theorem d5_3 {p : Prop} (h : p := by first | rfl | (simp; done) | (simp [*]; done) | (simp [ne_nil_b, eq_nil_b]; done)) : p := h
theorem d5_4 {p : Prop} (h : p := by first | (with_reducible assumption) | assumption) : p := h
theorem d5_5 {p : Prop} (h : p := by (with_reducible repeat (first | apply Kd.R_alloc | apply Kd.R_drewN | apply Kd.R_drew)); exact HO179.out) : p := h
theorem c5_1 {p : Prop} (h : p := by repeat (first | (with_reducible first | exact HB.out | apply below_alloc | apply pw_below_drewN | apply below_drew1) | exact HB.out)) : p := h
theorem c5_2 {p : Prop} (h : p := by first | rfl | (simp [errW_none, errW_some] <;> rfl) | (simp [*, errW_none, errW_some] <;> rfl)) : p := h
set_option maxHeartbeats 8000000
set_option maxRecDepth 100000
theorem pa5_1 {α : Type} (l : List α) (i : Nat) (a : α) : l.toArray.setIfInBounds i a = (l.set i a).toArray := List.setIfInBounds_toArray l i a
theorem pa5_2 {α : Type} (a : α) (l : List α) (b : α) : (a :: l).set 0 b = b :: l := rfl
theorem pa5_3 {α : Type} (a : α) (l : List α) (n : Nat) (b : α) : (a :: l).set (n + 1) b = a :: l.set n b := rfl

/-! ### spec_l1Digits: function 70 -/
def spec_l1Digits.f : Nat → Int → Option (ByteArray)
  | 0, _ => none
  | k + 1, a0 => if a0 < 0 then ((spec_l1Digits.f k (wrap64 (-a0))).bind fun t172 => (if 1 + t172.size ≤ 9223372036854775807 then (some ((⟨#[45]⟩ : ByteArray) ++ t172)) else (none))) else (if a0 < 10 then (some (strOfNums (([(wrap64 (48 + a0)) % 256] : List Int)))) else ((spec_l1Digits.f k (wrap64 (Int.tdiv a0 10))).bind fun t176 => ((some (([(wrap64 (48 + (Int.tmod a0 10))) % 256] : List Int) : List Int)).bind fun y177 => (if t176.size + (strOfNums y177).size ≤ 9223372036854775807 then (some (t176 ++ (strOfNums y177))) else (none)))))
theorem spec_l1Digits.mono_l : ∀ k, (∀ y0, LeO (spec_l1Digits.f k y0) (spec_l1Digits.f (k + 1) y0))
  | 0 => fun _ r h => by simp [spec_l1Digits.f] at h
  | k + 1 => by
    have ih0 := spec_l1Digits.mono_l k
    · intro y0
      unfold spec_l1Digits.f
      repeat' first | (with_reducible first | apply ih0 | exact LeO.refl _ | exact LeO.none _ | refine LeO.ite ?_ ?_ | refine LeO.bind ?_ (fun _ => ?_)) | apply ih0 | exact LeO.none _ | refine LeO.ite ?_ ?_ | refine LeO.bind ?_ (fun _ => ?_)
theorem spec_l1Digits.mono : ∀ a0 k, LeO (spec_l1Digits.f k a0) (spec_l1Digits.f (k + 1) a0) := by
  intro a0 k; have ih0 := spec_l1Digits.mono_l k; exact ih0 a0
def spec_l1Digits.T5 : Bool × List (List Nat × List Nat) := (true, [([], []), ([0], [0]), ([1], [1]), ([], []), ([3], [3]), ([4], [4]), ([5], [5]), ([6], [6]), ([7], [7]), ([2, 8], [2, 8]), ([9, 2, 0, 1, 2, 3, 4, 5, 6, 7, 8, 9], [9])])
def spec_l1Digits.B5 : List Nat := [0, 1, 3, 0, 8, 24, 56, 120, 248, 511, 1023]
theorem spec_l1Digits.tab5 : rtab .any (opsOf Tryz.f70 5) = spec_l1Digits.T5 := by kernel_rfl
theorem spec_l1Digits.bits5 : waitsOk spec_l1Digits.T5.2 spec_l1Digits.B5 = true := by kernel_rfl
theorem spec_l1Digits.calls (k : Nat) : ∀ (a0 : Int) (r : ByteArray) (w : World) (h : spec_l1Digits.f k a0 = some r),
    Calls Tryz.prog 70 #[.int .i64 a0] w fun e w' => e = .returned (.string r) ∧ Below w.heap.size w w' := by
  induction k using Nat.strongRecOn with
  | _ k ih =>
  intro a0 r w h
  cases k with
  | zero => exact absurd h (by simp [spec_l1Digits.f])
  | succ k =>
  simp only [spec_l1Digits.f] at h; have HB := ak (Below.refl w.heap.size w); have H : (if a0 < 0 then ((spec_l1Digits.f k (wrap64 (-a0))).bind fun t172 => (if 1 + t172.size ≤ 9223372036854775807 then (some ((⟨#[45]⟩ : ByteArray) ++ t172)) else (none))) else (if a0 < 10 then (some (strOfNums (([(wrap64 (48 + a0)) % 256] : List Int)))) else ((spec_l1Digits.f k (wrap64 (Int.tdiv a0 10))).bind fun t176 => ((some (([(wrap64 (48 + (Int.tmod a0 10))) % 256] : List Int) : List Int)).bind fun y177 => (if t176.size + (strOfNums y177).size ≤ 9223372036854775807 then (some (t176 ++ (strOfNums y177))) else (none)))))) = some r := h; clear h; by_cases c2 : a0 < 0
  ·rw [if_pos c2] at H
   have c2b0 : decide (a0 < 0) = true := decide_eq_true c2; clear c2; replace H := Option.bind_eq_some_iff.mp H; obtain ⟨t172, A30, H⟩ := H; (try dsimp -simprocs only at H); have A3 := ak A30; clear A30; by_cases c4 : 1 + t172.size ≤ 9223372036854775807
   ·rw [if_pos c4] at H
    have c4b0 := eq_true c4; have c4b1 : decide (1 + t172.size ≤ 9223372036854775807) = true := decide_eq_true c4
    try have c4b2 : (9223372036854775807 < 1 + t172.size) = False := eq_false (Nat.not_lt.2 c4)
    obtain rfl := Option.some.inj H; go_enter Tryz.func70, Tryz.ntmps70; go_wp2_with (first | ((with_reducible refine gate_callee (f := 70) rfl ?_); refine goesL_ (some 7) rfl rfl Tryz.func70 (by kernel_rfl) rfl #[.int .i64 (wrap64 (-a0))] rfl d5_2 ?_; (with_reducible refine (ih k (by omega) (wrap64 (-a0)) t172 _ A3.out).mono ?_); rintro e w5 ⟨rfl, hb⟩; refine ⟨_, rfl, ?_⟩; have n0_ := ak (below_step d5_1 hb); clear HB; have HB := n0_; clear n0_; (try clear hb))); go_ret; exact ⟨c5_2, c5_1⟩
   ·rw [if_neg c4] at H
    exact absurd H (by simp)
  ·rw [if_neg c2] at H
   have c2b0 : decide (a0 < 0) = false := decide_eq_false c2; clear c2; by_cases c6 : a0 < 10
   ·rw [if_pos c6] at H
    have c6b0 : decide (a0 < 10) = true := decide_eq_true c6; clear c6; obtain ⟨y173, hy173⟩ : ∃ y_ : List Int, y_ = (([(wrap64 (48 + a0)) % 256] : List Int)) := ⟨_, rfl⟩
    replace H : (some (strOfNums y173)) = some r := by first | (rw [hy173]; with_reducible exact H) | (have H2_ := (Option.bind_some _ _).symm.trans H; rw [hy173]; with_reducible exact H2_) | (have H2_ := (Option.bind_some _ _).symm.trans H; with_reducible exact H2_) | with_reducible exact H | (rw [hy173]; exact H) | exact H
    have Ny173 := ak hy173; clear hy173; obtain rfl := Option.some.inj H; go_enter Tryz.func70, Tryz.ntmps70; go_wp2_with (first | ((with_reducible refine gate_dst (N := 14) rfl ?_); refine Kd.R_lit (Kd.int .u8) _ 5 ?hg (N := 14) ?hd (xs := ([(wrap64 (48 + a0)) % 256] : List Int)) (inner := [.int .u8 ((wrap64 (48 + a0)) % 256)]) (ok := fun _ => True) (okp := fun _ => True) ?hr ?hp (fun _ hk => hk) trivial (Below.refl _ _) (Nat.le_refl _) (by simp) ?_; (case hd => rfl); (case hg => rfl); (case hr => first | (go_simp; done) | (go_simp; rfl)); (case hp => exact (Reps.one (show Kd.M (Kd.int .u8) _ _ _ ((wrap64 (48 + a0)) % 256) [.int .u8 ((wrap64 (48 + a0)) % 256)] from rfl) (Reps.none _ _))); intro v174 w7 ho8 hb hg_ hnew_; clear hg_ hnew_; (first | rw [← Ny173.out] at ho8 | (simp only [Int.reduceToNat] at ho8; rw [← Ny173.out] at ho8)); have n0_ := ak (Kd.R_lower ho8 (below_size d5_1)); have n1_ := ak (below_step d5_1 hb); clear HB; have HO175 := n0_; have HB := n1_; clear n0_ n1_ hb ho8; have hcv9 := own_string (P := Tryz.prog) Tryz.underlying22 Tryz.underlying5 Tryz.underlying9 (Kd.own_of_R HO175.out))); go_ret; exact ⟨c5_2, c5_1⟩
   ·rw [if_neg c6] at H
    have c6b0 : decide (a0 < 10) = false := decide_eq_false c6; clear c6; replace H := Option.bind_eq_some_iff.mp H; obtain ⟨t176, A100, H⟩ := H; (try dsimp -simprocs only at H); have A10 := ak A100; clear A100; obtain ⟨y177, hy177⟩ : ∃ y_ : List Int, y_ = (([(wrap64 (48 + (Int.tmod a0 10))) % 256] : List Int)) := ⟨_, rfl⟩
    replace H : (if t176.size + (strOfNums y177).size ≤ 9223372036854775807 then (some (t176 ++ (strOfNums y177))) else (none)) = some r := by first | (rw [hy177]; with_reducible exact H) | (have H2_ := (Option.bind_some _ _).symm.trans H; rw [hy177]; with_reducible exact H2_) | (have H2_ := (Option.bind_some _ _).symm.trans H; with_reducible exact H2_) | with_reducible exact H | (rw [hy177]; exact H) | exact H
    have Ny177 := ak hy177; clear hy177; by_cases c11 : t176.size + (strOfNums y177).size ≤ 9223372036854775807
    ·rw [if_pos c11] at H
     have c11b0 := eq_true c11; have c11b1 : decide (t176.size + (strOfNums y177).size ≤ 9223372036854775807) = true := decide_eq_true c11
     try have c11b2 : (9223372036854775807 < t176.size + (strOfNums y177).size) = False := eq_false (Nat.not_lt.2 c11)
     obtain rfl := Option.some.inj H; go_enter Tryz.func70, Tryz.ntmps70
     try go_wp2
     have n0_ := ak (below_drew1 HB.out); clear HB; have HB := n0_; clear n0_; refine start_ (n := 11) (S := fun w' => True) (ds := []) #[false, false, false, false, false, false, false, false, false, false, false] (by kernel_rfl) rfl rfl trivial (fun hHeld => ?_); refine with_tabW spec_l1Digits.tab5 spec_l1Digits.bits5 (fun HT_ HW_ => ?_); generalize w.drew = w12 at HB hHeld ⊢; refine pure_ (i := 0) (N := some 16) (v := ?_) (a' := ?_) #[true, false, false, false, false, false, false, false, false, false, false] rfl rfl (any_of HT_.out (by kernel_rfl)) (fun _ _ _ h => h) (Or.inl ⟨by rfl, ?_⟩) ?_ ?_; rotate_left
     · intro w'
       go_simp; (with_reducible rfl)
     rotate_left
     · simp only [Act.put, pa5_1, pa5_2, pa5_3, i64_w, i32_w]
       rfl
     refine pure_ (i := 1) (N := some 17) (v := ?_) (a' := ?_) #[true, true, false, false, false, false, false, false, false, false, false] rfl rfl (any_of HT_.out (by kernel_rfl)) (fun _ _ _ h => h) (Or.inl ⟨by rfl, ?_⟩) ?_ ?_; rotate_left
     · intro w'
       go_simp; (with_reducible rfl)
     rotate_left
     · simp only [Act.put, pa5_1, pa5_2, pa5_3, i64_w, i32_w]
       rfl
     refine pure_ (i := 3) (N := some 19) (v := ?_) (a' := ?_) #[true, true, false, true, false, false, false, false, false, false, false] rfl rfl (any_of HT_.out (by kernel_rfl)) (fun _ _ _ h => h) (Or.inl ⟨by rfl, ?_⟩) ?_ ?_; rotate_left
     · intro w'
       go_simp; (with_reducible rfl)
     rotate_left
     · simp only [Act.put, pa5_1, pa5_2, pa5_3, i64_w, i32_w]
       rfl
     refine pure_ (i := 4) (N := some 20) (v := ?_) (a' := ?_) #[true, true, false, true, true, false, false, false, false, false, false] rfl rfl (any_of HT_.out (by kernel_rfl)) (fun _ _ _ h => h) (Or.inl ⟨by rfl, ?_⟩) ?_ ?_; rotate_left
     · intro w'
       go_simp; (with_reducible rfl)
     rotate_left
     · simp only [Act.put, pa5_1, pa5_2, pa5_3, i64_w, i32_w]
       rfl
     refine pure_ (i := 5) (N := some 21) (v := ?_) (a' := ?_) #[true, true, false, true, true, true, false, false, false, false, false] rfl rfl (any_of HT_.out (by kernel_rfl)) (fun _ _ _ h => h) (Or.inl ⟨by rfl, ?_⟩) ?_ ?_; rotate_left
     · intro w'
       go_simp; (with_reducible rfl)
     rotate_left
     · simp only [Act.put, pa5_1, pa5_2, pa5_3, i64_w, i32_w]
       rfl
     refine pure_ (i := 6) (N := some 22) (v := ?_) (a' := ?_) #[true, true, false, true, true, true, true, false, false, false, false] rfl rfl (any_of HT_.out (by kernel_rfl)) (fun _ _ _ h => h) (Or.inl ⟨by rfl, ?_⟩) ?_ ?_; rotate_left
     · intro w'
       go_simp; (with_reducible rfl)
     rotate_left
     · simp only [Act.put, pa5_1, pa5_2, pa5_3, i64_w, i32_w]
       rfl
     refine join_ (σ := Value) 2 #[true, true, true, true, true, true, true, true, true, false, false] (fun s_ => [(18, .string t176), (23, s_), (24, .string (strOfNums y177))]) (fun s_ w' => (Kd.R (Kd.int .u8) 5 w' w.heap.size (fun _ => True) s_ y177) ∧ (Below w.heap.size w w')) ?_ ?_; rotate_left
     · intro hCont
       refine two_ (i := 2) (j := 7) (Ni := some 18) (Nj := some 23) #[true, true, true, true, true, true, true, false, false, false, false] #[true, true, false, true, true, true, true, true, false, false, false] rfl rfl rfl rfl (two_of HT_.out (by kernel_rfl)) (by decide) (by decide) (fun K hK => ?_) (fun K hK => ?_)
       · skip
         refine goes_ Tryz.func70 (by kernel_rfl) rfl #[.int .i64 (wrap64 (Int.tdiv a0 10))] (by rfl) rfl rfl d5_2 ?_; (with_reducible refine (ih k (by omega) (wrap64 (Int.tdiv a0 10)) t176 _ A10.out).mono ?_); rintro e w13 ⟨rfl, hb⟩; refine ⟨_, rfl, ?_⟩; have n0_ := ak (below_step d5_1 hb); clear HB; have HB := n0_; clear n0_
         (try clear hb)
         (try clear hb2)
         (try clear hk)
         (try clear hi)
         refine hK.out _ _ trivial (fun hHeld => ?_); clear hK K; refine norm_ (a' := ?_) ?_ ?_; rotate_left
         · show Act.put _ (some 18) _ = _
           simp only [Act.put, pa5_1, pa5_2, pa5_3, i64_w, i32_w]; rfl
         refine one_ (i := 7) (N := some 23) #[true, true, true, true, true, true, true, true, false, false, false] rfl rfl (one_of HT_.out (by kernel_rfl)) (by decide) (fun K hK => ?_); refine Kd.R_lit_step (Kd.int .u8) _ 5 ?hg (N := 23) ?hd (xs := ([(wrap64 (48 + (Int.tmod a0 10))) % 256] : List Int)) (inner := [.int .u8 ((wrap64 (48 + (Int.tmod a0 10))) % 256)]) (ok := fun _ => True) (okp := fun _ => True) ?hr ?hp (fun _ hk => hk) trivial (Below.refl _ _) (Nat.le_refl _) (by simp) ?_; (case hd => rfl); (case hg => rfl); (case hr => first | (go_simp; done) | (go_simp; rfl)); (case hp => exact (Reps.one (show Kd.M (Kd.int .u8) _ _ _ ((wrap64 (48 + (Int.tmod a0 10))) % 256) [.int .u8 ((wrap64 (48 + (Int.tmod a0 10))) % 256)] from rfl) (Reps.none _ _))); intro v178 w14 ho15 hb hg_ hnew_; clear hg_ hnew_
         (first | rw [← Ny177.out] at ho15 | (simp only [Int.reduceToNat] at ho15; rw [← Ny177.out] at ho15))
         have n0_ := ak (Kd.R_lower ho15 (below_size d5_1)); have n1_ := ak (below_step d5_1 hb); clear HB; have HO179 := n0_; have HB := n1_; clear n0_ n1_; clear hb ho15; refine hK.out _ _ trivial (fun hHeld => ?_); clear hK K; refine norm_ (a' := ?_) ?_ ?_; rotate_left
         · show Act.put _ (some 23) _ = _
           simp only [Act.put, pa5_1, pa5_2, pa5_3, i64_w, i32_w]; rfl
         refine one_ (i := 8) (N := some 24) #[true, true, true, true, true, true, true, true, true, false, false] rfl rfl (one_of HT_.out (by kernel_rfl)) (by decide) (fun K hK => ?_); have hcv16 := own_string (P := Tryz.prog) Tryz.underlying22 Tryz.underlying5 Tryz.underlying9 (Kd.own_of_R HO179.out); refine value_ (w1 := ?_) (v := ?_) (by rfl) rfl ?_ ?_; rotate_left 2
         · go_simp
           constructor
           · rfl
           · rfl
         clear hcv16; refine hK.out _ _ trivial (fun hHeld => ?_); clear hK K; refine norm_ (a' := ?_) ?_ ?_; rotate_left
         · show Act.put _ (some 24) _ = _
           simp only [Act.put, pa5_1, pa5_2, pa5_3, i64_w, i32_w]; rfl
         exact norm_ (by simp only [putAll, Act.put, List.setIfInBounds_toArray, List.set_cons_zero, List.set_cons_succ]) (hCont (v178) _ ⟨d5_5, d5_1⟩)
       · skip
         refine Kd.R_lit_step (Kd.int .u8) _ 5 ?hg (N := 23) ?hd (xs := ([(wrap64 (48 + (Int.tmod a0 10))) % 256] : List Int)) (inner := [.int .u8 ((wrap64 (48 + (Int.tmod a0 10))) % 256)]) (ok := fun _ => True) (okp := fun _ => True) ?hr ?hp (fun _ hk => hk) trivial (Below.refl _ _) (Nat.le_refl _) (by simp) ?_; (case hd => rfl); (case hg => rfl); (case hr => first | (go_simp; done) | (go_simp; rfl)); (case hp => exact (Reps.one (show Kd.M (Kd.int .u8) _ _ _ ((wrap64 (48 + (Int.tmod a0 10))) % 256) [.int .u8 ((wrap64 (48 + (Int.tmod a0 10))) % 256)] from rfl) (Reps.none _ _))); intro v178 w13 ho14 hb hg_ hnew_; clear hg_ hnew_
         (first | rw [← Ny177.out] at ho14 | (simp only [Int.reduceToNat] at ho14; rw [← Ny177.out] at ho14))
         have n0_ := ak (Kd.R_lower ho14 (below_size d5_1)); have n1_ := ak (below_step d5_1 hb); clear HB; have HO179 := n0_; have HB := n1_; clear n0_ n1_; clear hb ho14; refine hK.out _ _ trivial (fun hHeld => ?_); clear hK K; refine norm_ (a' := ?_) ?_ ?_; rotate_left
         · show Act.put _ (some 23) _ = _
           simp only [Act.put, pa5_1, pa5_2, pa5_3, i64_w, i32_w]; rfl
         refine two_ (i := 2) (j := 8) (Ni := some 18) (Nj := some 24) #[true, true, true, true, true, true, true, true, false, false, false] #[true, true, false, true, true, true, true, true, true, false, false] rfl rfl rfl rfl (two_of HT_.out (by kernel_rfl)) (by decide) (by decide) (fun K hK => ?_) (fun K hK => ?_)
         · skip
           refine goes_ Tryz.func70 (by kernel_rfl) rfl #[.int .i64 (wrap64 (Int.tdiv a0 10))] (by rfl) rfl rfl d5_2 ?_; (with_reducible refine (ih k (by omega) (wrap64 (Int.tdiv a0 10)) t176 _ A10.out).mono ?_); rintro e w15 ⟨rfl, hb⟩; refine ⟨_, rfl, ?_⟩; have n0_ := ak (Kd.R_below d5_5 hb); have n1_ := ak (below_step d5_1 hb); clear HO179; clear HB; have HO179 := n0_; have HB := n1_; clear n0_ n1_
           (try clear hb)
           (try clear hb2)
           (try clear hk)
           (try clear hi)
           refine hK.out _ _ trivial (fun hHeld => ?_); clear hK K; refine norm_ (a' := ?_) ?_ ?_; rotate_left
           · show Act.put _ (some 18) _ = _
             simp only [Act.put, pa5_1, pa5_2, pa5_3, i64_w, i32_w]; rfl
           refine one_ (i := 8) (N := some 24) #[true, true, true, true, true, true, true, true, true, false, false] rfl rfl (one_of HT_.out (by kernel_rfl)) (by decide) (fun K hK => ?_); have hcv16 := own_string (P := Tryz.prog) Tryz.underlying22 Tryz.underlying5 Tryz.underlying9 (Kd.own_of_R HO179.out); refine value_ (w1 := ?_) (v := ?_) (by rfl) rfl ?_ ?_; rotate_left 2
           · go_simp
             constructor
             · rfl
             · rfl
           clear hcv16; refine hK.out _ _ trivial (fun hHeld => ?_); clear hK K; refine norm_ (a' := ?_) ?_ ?_; rotate_left
           · show Act.put _ (some 24) _ = _
             simp only [Act.put, pa5_1, pa5_2, pa5_3, i64_w, i32_w]; rfl
           exact norm_ (by simp only [putAll, Act.put, List.setIfInBounds_toArray, List.set_cons_zero, List.set_cons_succ]) (hCont (v178) _ ⟨d5_5, d5_1⟩)
         · skip
           have hcv15 := own_string (P := Tryz.prog) Tryz.underlying22 Tryz.underlying5 Tryz.underlying9 (Kd.own_of_R HO179.out); refine value_ (w1 := ?_) (v := ?_) (by rfl) rfl ?_ ?_; rotate_left 2
           · go_simp
             constructor
             · rfl
             · rfl
           clear hcv15; refine hK.out _ _ trivial (fun hHeld => ?_); clear hK K; refine norm_ (a' := ?_) ?_ ?_; rotate_left
           · show Act.put _ (some 24) _ = _
             simp only [Act.put, pa5_1, pa5_2, pa5_3, i64_w, i32_w]; rfl
           refine one_ (i := 2) (N := some 18) #[true, true, true, true, true, true, true, true, true, false, false] rfl rfl (one_of HT_.out (by kernel_rfl)) (by decide) (fun K hK => ?_); refine goes_ Tryz.func70 (by kernel_rfl) rfl #[.int .i64 (wrap64 (Int.tdiv a0 10))] (by rfl) rfl rfl d5_2 ?_; (with_reducible refine (ih k (by omega) (wrap64 (Int.tdiv a0 10)) t176 _ A10.out).mono ?_); rintro e w16 ⟨rfl, hb⟩; refine ⟨_, rfl, ?_⟩; have n0_ := ak (Kd.R_below d5_5 hb); have n1_ := ak (below_step d5_1 hb); clear HO179; clear HB; have HO179 := n0_; have HB := n1_; clear n0_ n1_
           (try clear hb)
           (try clear hb2)
           (try clear hk)
           (try clear hi)
           refine hK.out _ _ trivial (fun hHeld => ?_); clear hK K; refine norm_ (a' := ?_) ?_ ?_; rotate_left
           · show Act.put _ (some 18) _ = _
             simp only [Act.put, pa5_1, pa5_2, pa5_3, i64_w, i32_w]; rfl
           exact norm_ (by simp only [putAll, Act.put, List.setIfInBounds_toArray, List.set_cons_zero, List.set_cons_succ]) (hCont (v178) _ ⟨d5_5, d5_1⟩)
     rintro v178 w17 ⟨h0_, h1_⟩; have n0_ : Aside0 (Kd.R (Kd.int .u8) 5 w17 w.heap.size (fun _ => True) v178 y177) := ⟨h0_⟩; have n1_ : Aside0 (Below w.heap.size w w17) := ⟨h1_⟩; clear HB; clear h0_ h1_; have HO179 := n0_; have HB := n1_; clear n0_ n1_; have hHeld := trivial; refine norm_ (a' := ?_) ?_ ?_; rotate_left
     · simp only [putAll, Act.put, List.setIfInBounds_toArray, List.set_cons_zero, List.set_cons_succ]
       rfl
     refine pure_ (i := 9) (N := some 25) (v := ?_) (a' := ?_) #[true, true, true, true, true, true, true, true, true, true, false] rfl rfl (any_of HT_.out (by kernel_rfl)) (fun _ _ _ h => h) (Or.inl ⟨by rfl, ?_⟩) ?_ ?_; rotate_left
     · intro w'
       go_simp; (with_reducible rfl)
     rotate_left
     · simp only [Act.put, pa5_1, pa5_2, pa5_3, i64_w, i32_w]
       rfl
     refine pure_ (i := 10) (N := some 2) (v := ?_) (a' := ?_) #[true, true, true, true, true, true, true, true, true, true, true] rfl rfl (any_of HT_.out (by kernel_rfl)) (fun _ _ _ h => h) (Or.inl ⟨by rfl, ?_⟩) ?_ ?_; rotate_left
     · intro w'
       go_simp; (with_reducible rfl)
     rotate_left
     · simp only [Act.put, pa5_1, pa5_2, pa5_3, i64_w, i32_w]
       rfl
     refine done_ (done_of HT_.out (by kernel_rfl)) ?_
     try go_wp2
     go_ret; exact ⟨c5_2, c5_1⟩
    ·rw [if_neg c11] at H
     exact absurd H (by simp)

/-! ### spec_l1Num: function 90 -/
def spec_l1Num.f (a0 : Int) : Option (Bool) := (spec_l1In.f a0 (-1000000000) 1000000000).bind fun t180 => (some t180)
theorem spec_l1Num.calls (a0 : Int) (r : Bool) (w : World) (h : spec_l1Num.f a0 = some r) :
    Calls Tryz.prog 90 #[.int .i64 a0] w fun e w' => e = .returned (.bool r) ∧ Drawn0 w w' := by
  have H := h; clear h; unfold spec_l1Num.f at H; replace H := Option.bind_eq_some_iff.mp H; obtain ⟨t180, A20, H⟩ := H; (try dsimp -simprocs only at H); have A2 := ak A20; clear A20; obtain rfl := Option.some.inj H; go_enter Tryz.func90, Tryz.ntmps90; go_wp2_with (first | ((with_reducible refine gate_callee (f := 67) rfl ?_); refine goesL_ (some 4) rfl rfl Tryz.func67 (by kernel_rfl) rfl #[.int .i64 a0, .int .i64 (-1000000000), .int .i64 1000000000] rfl d5_2 ?_; (with_reducible refine (spec_l1In.calls a0 (-1000000000) 1000000000 t180 _ A2.out).mono ?_); rintro e w' ⟨rfl, ⟨nd, rfl⟩⟩; refine ⟨_, rfl, ?_⟩)); go_ret; exact ⟨by first | rfl | (simp; done) | (simp [*]; done) | (simp [ne_nil_b, eq_nil_b]; done), by repeat (first | exact Drawn0.refl _ | apply Drawn0.step)⟩

/-! ### spec_l1Parse: function 100 -/
mutual
def spec_l1Parse.j0 : Nat → ByteArray → Int → Bool → Option (Int × Bool)
  | 0, _, _, _ => none
  | k + 1, x0, x4, x14 => if x14 = true then (spec_l1Parse.j1 k x0 1) else (spec_l1Parse.j1 k x0 x4)
def spec_l1Parse.j1 : Nat → ByteArray → Int → Option (Int × Bool)
  | 0, _, _ => none
  | k + 1, x0, x4 => if (wrap64 ((x0.size : Int) - x4)) < 1 then (spec_l1Parse.j2 k x0 x4 true) else (spec_l1Parse.j2 k x0 x4 (decide ((wrap64 ((x0.size : Int) - x4)) > 10)))
def spec_l1Parse.j2 : Nat → ByteArray → Int → Bool → Option (Int × Bool)
  | 0, _, _, _ => none
  | k + 1, x0, x4, x26 => if x26 = true then (some (0, false)) else (spec_l1Parse.l0 k x0 x4 0 x4)
def spec_l1Parse.l0 : Nat → ByteArray → Int → Int → Int → Option (Int × Bool)
  | 0, _, _, _, _ => none
  | k + 1, x0, x4, x5, x6 => if x6 < (x0.size : Int) then (if 0 ≤ x6 then (if (bt x0 x6) < 48 then (some (0, false)) else (if (bt x0 x6) > 57 then (some (0, false)) else (spec_l1Parse.l0 k x0 x4 (wrap64 ((wrap64 (x5 * 10)) + (((bt x0 x6) - 48) % 256))) (wrap64 (x6 + 1))))) else (none)) else (if x4 = 1 then ((spec_l1Num.f (wrap64 (-x5))).bind fun t181 => (if t181 = true then ((spec_l1Digits.f k (wrap64 (-x5))).bind fun t182 => (some (wrap64 (-x5), (t182.toList == x0.toList)))) else (some (wrap64 (-x5), false)))) else ((spec_l1Num.f x5).bind fun t183 => (if t183 = true then ((spec_l1Digits.f k x5).bind fun t184 => (some (x5, (t184.toList == x0.toList)))) else (some (x5, false)))))
end
def spec_l1Parse.f (k : Nat) (a0 : ByteArray) : Option (Int × Bool) := if (a0.size : Int) > 0 then (if 0 < (a0.size : Int) then (spec_l1Parse.j0 k a0 0 ((bt a0 0) == 45)) else (none)) else (spec_l1Parse.j0 k a0 0 false)
theorem spec_l1Parse.mono_l : ∀ k, (∀ y0 y1 y2, LeO (spec_l1Parse.j0 k y0 y1 y2) (spec_l1Parse.j0 (k + 1) y0 y1 y2)) ∧ (∀ y0 y1, LeO (spec_l1Parse.j1 k y0 y1) (spec_l1Parse.j1 (k + 1) y0 y1)) ∧ (∀ y0 y1 y2, LeO (spec_l1Parse.j2 k y0 y1 y2) (spec_l1Parse.j2 (k + 1) y0 y1 y2)) ∧ (∀ y0 y1 y2 y3, LeO (spec_l1Parse.l0 k y0 y1 y2 y3) (spec_l1Parse.l0 (k + 1) y0 y1 y2 y3))
  | 0 => ⟨fun _ _ _ r h => by simp [spec_l1Parse.j0] at h, fun _ _ r h => by simp [spec_l1Parse.j1] at h, fun _ _ _ r h => by simp [spec_l1Parse.j2] at h, fun _ _ _ _ r h => by simp [spec_l1Parse.l0] at h⟩
  | k + 1 => by
    obtain ⟨ih0, ih1, ih2, ih3⟩ := spec_l1Parse.mono_l k; refine ⟨?_, ?_, ?_, ?_⟩
    all_goals
      intros
      first | unfold spec_l1Parse.j0 | unfold spec_l1Parse.j1 | unfold spec_l1Parse.j2 | unfold spec_l1Parse.l0
      repeat' first | (with_reducible first | apply ih0 | apply ih1 | apply ih2 | apply ih3 | apply spec_l1Digits.mono | exact LeO.refl _ | exact LeO.none _ | refine LeO.ite ?_ ?_ | refine LeO.bind ?_ (fun _ => ?_)) | apply ih0 | apply ih1 | apply ih2 | apply ih3 | apply spec_l1Digits.mono | exact LeO.none _ | refine LeO.ite ?_ ?_ | refine LeO.bind ?_ (fun _ => ?_)
theorem spec_l1Parse.mono : ∀ a0 k, LeO (spec_l1Parse.f k a0) (spec_l1Parse.f (k + 1) a0) := by
  intro a0 k; obtain ⟨ih0, ih1, ih2, ih3⟩ := spec_l1Parse.mono_l k; unfold spec_l1Parse.f
  repeat' first | (with_reducible first | apply ih0 | apply ih1 | apply ih2 | apply ih3 | apply spec_l1Digits.mono | exact LeO.refl _ | exact LeO.none _ | refine LeO.ite ?_ ?_ | refine LeO.bind ?_ (fun _ => ?_)) | apply ih0 | apply ih1 | apply ih2 | apply ih3 | apply spec_l1Digits.mono | exact LeO.none _ | refine LeO.ite ?_ ?_ | refine LeO.bind ?_ (fun _ => ?_)
theorem spec_l1Parse.calls (k : Nat) (a0 : ByteArray) (r1 : Int) (r2 : Bool) (w : World) (h : spec_l1Parse.f k a0 = some (r1, r2)) :
    Calls Tryz.prog 100 #[.string a0] w fun e w' => e = .returned (.tuple #[.int .i64 r1, .bool r2]) ∧ Below w.heap.size w w' := by
  have HB := ak (Below.refl w.heap.size w); have H := h; clear h; unfold spec_l1Parse.f at H; have HC2 := ak H; clear H; go_enter Tryz.func100, Tryz.ntmps100; go_upto_region 2 with (fail); go_cut [14] (fun v14 wc => ∃ (kq : Nat) (x14_1 : Bool), v14 = .bool x14_1 ∧ Aside0 (spec_l1Parse.j0 kq a0 0 x14_1 = some (r1, r2)) ∧ Aside0 (kq ≤ k) ∧ Aside0 (Below w.heap.size w wc))
  case first =>
   have H := HC2.out; clear HC2; by_cases c3 : (a0.size : Int) > 0
   ·rw [if_pos c3] at H
    have c3b0 : decide (0 < (a0.size : Int)) = true := decide_eq_true c3; have c3b1 : decide (0 < a0.size) = true := decide_eq_true (by omega); clear c3
    (first | rw [c3b0] | (simp only [i64_w, i32_w]; rw [c3b0]) | skip)
    by_cases c4 : 0 < (a0.size : Int)
    ·rw [if_pos c4] at H
     have c4b0 : decide (0 < (a0.size : Int)) = true := decide_eq_true c4; have c4b1 : decide (0 < a0.size) = true := decide_eq_true (by omega); clear c4; have H' := ak H; clear H; have p5 : 0 ≤ (0 : Int) := (by omega); have q5 : 0 < a0.size := (by have : (0 : Int) < (a0.size : Int) := of_decide_eq_true d5_4; omega); have hx5 : ∀ h : 0 < a0.size, ((a0[0]'h).toNat : Int) = bt a0 0 := bt_at a0 0; clear p5; have qi5 : (0 < (a0.size : Int)) = True := eq_true (of_decide_eq_true d5_4); replace q5 := eq_true q5; go_wp2; go_meet
     case rel => exact ⟨_, (((bt a0 0) == 45)), d5_3, H', ⟨by first | omega | exact Nat.le_refl _⟩, ⟨c5_1⟩⟩
    ·rw [if_neg c4] at H
     exact absurd H (by simp)
   ·rw [if_neg c3] at H
    have c3b0 : decide (0 < (a0.size : Int)) = false := decide_eq_false c3; have c3b1 : decide (0 < a0.size) = false := decide_eq_false (by omega); clear c3
    (first | rw [c3b0] | (simp only [i64_w, i32_w]; rw [c3b0]) | skip)
    have H' := ak H; clear H; go_wp2; go_meet
    case rel => exact ⟨_, (false), d5_3, H', ⟨by first | omega | exact Nat.le_refl _⟩, ⟨c5_1⟩⟩
  case rest =>
   clear HC2
   try clear c1
   obtain ⟨kq, x14_1, rfl, HA, HJ1, HB⟩ := hcut
   cases kq with
   | zero => exact absurd HA.out (by simp [spec_l1Parse.j0])
   | succ kj1 =>
    have H := HA.out; clear HA; simp only [spec_l1Parse.j0] at H; have HC6 := ak H; clear H; go_upto_if 14 with (fail); go_cut [4] (fun v4 wc => ∃ (kq : Nat) (x4_5 : Int), v4 = .int .i64 x4_5 ∧ Aside0 (spec_l1Parse.j1 kq a0 x4_5 = some (r1, r2)) ∧ Aside0 (kq ≤ kj1) ∧ Aside0 (Below w.heap.size w wc))
    case first =>
     have H := HC6.out; clear HC6; by_cases c7 : x14_1 = true
     ·subst c7
      rw [if_pos rfl] at H; have H' := ak H; clear H; go_wp2; go_meet
      case rel => exact ⟨_, (1), d5_3, H', ⟨by have := HJ1.out; first | omega | exact Nat.le_refl _⟩, ⟨c5_1⟩⟩
     ·replace c7 := Bool.eq_false_iff.mpr c7
      subst c7
      rw [if_neg (show ¬ (false = true) by decide)] at H; have H' := ak H; clear H; go_wp2; go_meet
      case rel => exact ⟨_, (0), d5_3, H', ⟨by have := HJ1.out; first | omega | exact Nat.le_refl _⟩, ⟨c5_1⟩⟩
    case rest =>
     clear HC6
     (try clear c1); (try clear p2); (try clear c3); (try clear c3b0); (try clear c3b1); (try clear c4); (try clear c4b0); (try clear c4b1); (try clear p5); (try clear q5); (try clear hx5); (try clear qi5); (try clear p5); (try clear q5)
     obtain ⟨kq, x4_5, rfl, HA, HJ5, HB⟩ := hcut
     cases kq with
     | zero => exact absurd HA.out (by simp [spec_l1Parse.j1])
     | succ kj5 =>
      have H := HA.out; clear HA; simp only [spec_l1Parse.j1] at H; have HC8 := ak H; clear H; go_upto_region 4 with (fail); go_cut [26] (fun v26 wc => ∃ (kq : Nat) (x26_7 : Bool), v26 = .bool x26_7 ∧ Aside0 (spec_l1Parse.j2 kq a0 x4_5 x26_7 = some (r1, r2)) ∧ Aside0 (kq ≤ kj5) ∧ Aside0 (Below w.heap.size w wc))
      case first =>
       have H := HC8.out; clear HC8; by_cases c9 : (wrap64 ((a0.size : Int) - x4_5)) < 1
       ·rw [if_pos c9] at H
        have c9b0 : decide ((wrap64 ((a0.size : Int) - x4_5)) < 1) = true := decide_eq_true c9; clear c9
        (first | rw [c9b0] | (simp only [i64_w, i32_w]; rw [c9b0]) | skip)
        have H' := ak H; clear H; go_wp2; go_meet
        case rel => exact ⟨_, (true), d5_3, H', ⟨by have := HJ1.out; have := HJ5.out; first | omega | exact Nat.le_refl _⟩, ⟨c5_1⟩⟩
       ·rw [if_neg c9] at H
        have c9b0 : decide ((wrap64 ((a0.size : Int) - x4_5)) < 1) = false := decide_eq_false c9; clear c9
        (first | rw [c9b0] | (simp only [i64_w, i32_w]; rw [c9b0]) | skip)
        have H' := ak H; clear H; go_wp2; go_meet
        case rel => exact ⟨_, (decide ((wrap64 ((a0.size : Int) - x4_5)) > 10)), d5_3, H', ⟨by have := HJ1.out; have := HJ5.out; first | omega | exact Nat.le_refl _⟩, ⟨c5_1⟩⟩
      case rest =>
       clear HC8
       (try clear c1); (try clear p2); (try clear c3); (try clear c3b0); (try clear c3b1); (try clear c4); (try clear c4b0); (try clear c4b1); (try clear p5); (try clear q5); (try clear hx5); (try clear qi5); (try clear c7); (try clear p2); (try clear p5); (try clear q5)
       obtain ⟨kq, x26_7, rfl, HA, HJ7, HB⟩ := hcut
       cases kq with
       | zero => exact absurd HA.out (by simp [spec_l1Parse.j2])
       | succ kj7 =>
        have H := HA.out; clear HA; simp only [spec_l1Parse.j2] at H; by_cases c10 : x26_7 = true
        ·subst c10
         rw [if_pos rfl] at H; simp only [Option.some.injEq, Prod.mk.injEq] at H; obtain ⟨rfl, rfl⟩ := H; go_wp2; go_ret2; exact ⟨c5_2, c5_1⟩
        ·replace c10 := Bool.eq_false_iff.mpr c10
         subst c10
         rw [if_neg (show ¬ (false = true) by decide)] at H; have H' := ak H; clear H; go_wp2; go_loopg [5, 6] kj7 (fun kq v5 v6 w' => ∃ (x5_4 : Int) (x6_4 : Int), v5 = .int .i64 x5_4 ∧ v6 = .int .i64 x6_4 ∧ Aside0 (spec_l1Parse.l0 kq a0 x4_5 x5_4 x6_4 = some (r1, r2)) ∧ Aside0 (kq ≤ kj7) ∧ Aside0 (Below w.heap.size w w'))
         case atStart => exact ⟨(0), (x4_5), d5_3, d5_3, H', ⟨Nat.le_refl _⟩, ⟨c5_1⟩⟩
         case round =>
          clear H'
          (try clear c1); (try clear p2); (try clear c3); (try clear c3b0); (try clear c3b1); (try clear c4); (try clear c4b0); (try clear c4b1); (try clear p5); (try clear q5); (try clear hx5); (try clear qi5); (try clear p6); (try clear c7); (try clear c9); (try clear c9b0); (try clear c10); (try clear p2); (try clear p5); (try clear q5)
          obtain ⟨x5_4, x6_4, rfl, rfl, HA, HK4, HB⟩ := hrel
          cases gk with
          | zero => exact absurd HA.out (by simp [spec_l1Parse.l0])
          | succ k4 =>
           have H := HA.out; clear HA; simp only [spec_l1Parse.l0] at H; by_cases c11 : x6_4 < (a0.size : Int)
           ·rw [if_pos c11] at H
            have c11b0 : decide (x6_4 < (a0.size : Int)) = true := decide_eq_true c11; clear c11; by_cases c12 : 0 ≤ x6_4
            ·rw [if_pos c12] at H
             have c12b0 : decide (0 ≤ x6_4) = true := decide_eq_true c12; clear c12; by_cases c14 : (bt a0 x6_4) < 48
             ·rw [if_pos c14] at H
              have c14b0 : decide ((bt a0 x6_4) < 48) = true := decide_eq_true c14; clear c14; simp only [Option.some.injEq, Prod.mk.injEq] at H; obtain ⟨rfl, rfl⟩ := H; have p13 : 0 ≤ (x6_4 : Int) := of_decide_eq_true d5_4; have q13 : x6_4 < (a0.size : Int) := of_decide_eq_true d5_4; have hx13 := bt_at a0 x6_4; replace p13 := eq_true p13; replace q13 := eq_true q13; go_wp2; go_ret2; exact ⟨c5_2, c5_1⟩
             ·rw [if_neg c14] at H
              have c14b0 : decide ((bt a0 x6_4) < 48) = false := decide_eq_false c14; clear c14; by_cases c16 : (bt a0 x6_4) > 57
              ·rw [if_pos c16] at H
               have c16b0 : decide (57 < (bt a0 x6_4)) = true := decide_eq_true c16; clear c16; simp only [Option.some.injEq, Prod.mk.injEq] at H; obtain ⟨rfl, rfl⟩ := H; have p13 : 0 ≤ (x6_4 : Int) := of_decide_eq_true d5_4; have q13 : x6_4 < (a0.size : Int) := of_decide_eq_true d5_4; have hx13 := bt_at a0 x6_4; replace p13 := eq_true p13; replace q13 := eq_true q13; have p15 : 0 ≤ (x6_4 : Int) := of_decide_eq_true d5_4; have q15 : x6_4 < (a0.size : Int) := of_decide_eq_true d5_4; have hx15 := bt_at a0 x6_4; replace p15 := eq_true p15; replace q15 := eq_true q15; go_wp2; go_ret2; exact ⟨c5_2, c5_1⟩
              ·rw [if_neg c16] at H
               have c16b0 : decide (57 < (bt a0 x6_4)) = false := decide_eq_false c16; clear c16; have H' := ak H; clear H; have p13 : 0 ≤ (x6_4 : Int) := of_decide_eq_true d5_4; have q13 : x6_4 < (a0.size : Int) := of_decide_eq_true d5_4; have hx13 := bt_at a0 x6_4; replace p13 := eq_true p13; replace q13 := eq_true q13; have p15 : 0 ≤ (x6_4 : Int) := of_decide_eq_true d5_4; have q15 : x6_4 < (a0.size : Int) := of_decide_eq_true d5_4; have hx15 := bt_at a0 x6_4; replace p15 := eq_true p15; replace q15 := eq_true q15; have p17 : 0 ≤ (x6_4 : Int) := of_decide_eq_true d5_4; have q17 : x6_4 < (a0.size : Int) := of_decide_eq_true d5_4; have hx17 := bt_at a0 x6_4; replace p17 := eq_true p17; replace q17 := eq_true q17; go_wp2; go_roundg k4
               case measure => have := HJ1.out; have := HJ5.out; have := HJ7.out; have := HK4.out; omega
               case rel => exact ⟨(wrap64 ((wrap64 (x5_4 * 10)) + (((bt a0 x6_4) - 48) % 256))), (wrap64 (x6_4 + 1)), d5_3, d5_3, H', ⟨by have := HJ1.out; have := HJ5.out; have := HJ7.out; have := HK4.out; omega⟩, ⟨c5_1⟩⟩
            ·rw [if_neg c12] at H
             exact absurd H (by simp)
           ·rw [if_neg c11] at H
            have c11b0 : decide (x6_4 < (a0.size : Int)) = false := decide_eq_false c11; clear c11; by_cases c18 : x4_5 = 1
            ·rw [if_pos c18] at H
             have c18b0 : (x4_5 == 1) = true := beq_iff_eq.mpr c18; have c18b1 : (x4_5 != 1) = false := bne_eq_false_iff_eq.mpr c18; clear c18; replace H := Option.bind_eq_some_iff.mp H; obtain ⟨t181, A190, H⟩ := H; (try dsimp -simprocs only at H); have A19 := ak A190; clear A190; by_cases c20 : t181 = true
             ·subst c20
              rw [if_pos rfl] at H; replace H := Option.bind_eq_some_iff.mp H; obtain ⟨t182, A210, H⟩ := H; (try dsimp -simprocs only at H); have A21 := ak A210; clear A210; simp only [Option.some.injEq, Prod.mk.injEq] at H; obtain ⟨rfl, rfl⟩ := H; go_wp2_with (first | ((with_reducible refine gate_callee (f := 90) rfl ?_); refine goesL_ (some 58) rfl rfl Tryz.func90 (by kernel_rfl) rfl #[.int .i64 (wrap64 (-x5_4))] rfl d5_2 ?_; (with_reducible refine (spec_l1Num.calls (wrap64 (-x5_4)) true _ A19.out).mono ?_); rintro e w' ⟨rfl, ⟨nd, rfl⟩⟩; refine ⟨_, rfl, ?_⟩) | (go_at_call 70; (with_reducible refine (spec_l1Digits.calls k4 (wrap64 (-x5_4)) t182 _ A21.out).mono ?_); rintro e w22 ⟨rfl, hb⟩; have n0_ := ak (below_step d5_1 hb); clear HB; have HB := n0_; clear n0_; (try clear hb))); go_ret2; exact ⟨c5_2, c5_1⟩
             ·replace c20 := Bool.eq_false_iff.mpr c20
              subst c20
              rw [if_neg (show ¬ (false = true) by decide)] at H; simp only [Option.some.injEq, Prod.mk.injEq] at H; obtain ⟨rfl, rfl⟩ := H; go_wp2_with (first | ((with_reducible refine gate_callee (f := 90) rfl ?_); refine goesL_ (some 58) rfl rfl Tryz.func90 (by kernel_rfl) rfl #[.int .i64 (wrap64 (-x5_4))] rfl d5_2 ?_; (with_reducible refine (spec_l1Num.calls (wrap64 (-x5_4)) false _ A19.out).mono ?_); rintro e w' ⟨rfl, ⟨nd, rfl⟩⟩; refine ⟨_, rfl, ?_⟩)); go_ret2; exact ⟨c5_2, c5_1⟩
            ·rw [if_neg c18] at H
             have c18b0 : (x4_5 == 1) = false := beq_eq_false_iff_ne.mpr c18; have c18b1 : (x4_5 != 1) = true := bne_iff_ne.mpr c18; replace H := Option.bind_eq_some_iff.mp H; obtain ⟨t183, A230, H⟩ := H; (try dsimp -simprocs only at H); have A23 := ak A230; clear A230; by_cases c24 : t183 = true
             ·subst c24
              rw [if_pos rfl] at H; replace H := Option.bind_eq_some_iff.mp H; obtain ⟨t184, A250, H⟩ := H; (try dsimp -simprocs only at H); have A25 := ak A250; clear A250; simp only [Option.some.injEq, Prod.mk.injEq] at H; obtain ⟨rfl, rfl⟩ := H; go_wp2_with (first | ((with_reducible refine gate_callee (f := 90) rfl ?_); refine goesL_ (some 58) rfl rfl Tryz.func90 (by kernel_rfl) rfl #[.int .i64 x5_4] rfl d5_2 ?_; (with_reducible refine (spec_l1Num.calls x5_4 true _ A23.out).mono ?_); rintro e w' ⟨rfl, ⟨nd, rfl⟩⟩; refine ⟨_, rfl, ?_⟩) | (go_at_call 70; (with_reducible refine (spec_l1Digits.calls k4 x5_4 t184 _ A25.out).mono ?_); rintro e w26 ⟨rfl, hb⟩; have n0_ := ak (below_step d5_1 hb); clear HB; have HB := n0_; clear n0_; (try clear hb))); go_ret2; exact ⟨c5_2, c5_1⟩
             ·replace c24 := Bool.eq_false_iff.mpr c24
              subst c24
              rw [if_neg (show ¬ (false = true) by decide)] at H; simp only [Option.some.injEq, Prod.mk.injEq] at H; obtain ⟨rfl, rfl⟩ := H; go_wp2_with (first | ((with_reducible refine gate_callee (f := 90) rfl ?_); refine goesL_ (some 58) rfl rfl Tryz.func90 (by kernel_rfl) rfl #[.int .i64 x5_4] rfl d5_2 ?_; (with_reducible refine (spec_l1Num.calls x5_4 false _ A23.out).mono ?_); rintro e w' ⟨rfl, ⟨nd, rfl⟩⟩; refine ⟨_, rfl, ?_⟩)); go_ret2; exact ⟨c5_2, c5_1⟩

end Go.Proofs.YteiokhfikbndbaaGreatDoor.A
