/- Walks of the program's functions: each Go function's answer as a plain Lean function, and that the call comes to it. Written by a program. Conditions: those in each theorem's own head. -/
import Derived.Test.YtgnenhehcdekkadGreatDoorA0
import Derived.Test.YtgnenhehcdekkadGreatDoorA7
import Derived.Test.YtgnenhehcdekkadGreatDoorA8
namespace Go.Proofs.YtgnenhehcdekkadGreatDoor.A
open Go.RowKit Go.Proofs.YtgnenhehcdekkadGreatDoorW.PrintWords Go.Proofs.YtgnenhehcdekkadGreatDoorW.PrintLast Go.Proofs.YtgnenhehcdekkadGreatDoorW.PrintMore
attribute [local go_sem] max2_int min2_int max_two min_two max_three min_three max_four min_four   -- for this text's walks alone
set_option linter.unusedVariables false
set_option linter.unusedSimpArgs false

theorem b9N {w : World} {g : Nat} {o : Obj} (h : w.heap[g]? = some o) (n : Nat) : (w.drewN n).heap[g]? = some o := h
theorem b9D {w : World} {g : Nat} {o : Obj} (h : w.heap[g]? = some o) : (w.drew).heap[g]? = some o := h
theorem b9L {w : World} {g : Nat} {o : Obj} (h : w.heap[g]? = some o) (o' : Obj) : (w.alloc o').heap[g]? = some o := blk_alloc h o'
theorem d9_1 {p : Prop} (h : p := by repeat (first | (with_reducible first | exact HB.out | apply below_alloc | apply pw_below_drewN | apply below_drew1) | exact HB.out)) : p := h
theorem d9_2 {p : Prop} (h : p := by (try simp only [List.map_toArray, List.map_cons, List.map_nil]); first | done | rfl | (simp only [List.length_drop, List.length_take]; rfl)) : p := h
theorem d9_3 {p : Prop} (h : p := by first | rfl | (simp; done) | (simp [*]; done) | (simp [ne_nil_b, eq_nil_b]; done)) : p := h
theorem d9_4 {p : Prop} (h : p := by repeat (first | (with_reducible first | exact HB.out | apply below_alloc | apply pw_below_drewN | apply below_drew1 | refine below_set ?_ GE221.out) | exact HB.out)) : p := h
theorem d9_5 {p : Prop} (h : p := by (with_reducible repeat first | apply b9N | apply b9D | apply b9L); exact BK224.out) : p := h
theorem d9_6 {p : Prop} (h : p := by (with_reducible repeat first | apply b9N | apply b9D | apply b9L); exact BK221.out) : p := h
theorem d9_7 {p : Prop} (h : p := by repeat (first | (with_reducible first | exact HB.out | apply below_alloc | apply pw_below_drewN | apply below_drew1 | refine below_set ?_ GE224.out | refine below_set ?_ GE225.out) | exact HB.out)) : p := h
theorem d9_8 {p : Prop} (h : p := by repeat (first | (with_reducible first | exact HB.out | apply below_alloc | apply pw_below_drewN | apply below_drew1 | refine below_set ?_ GE224.out) | exact HB.out)) : p := h
theorem d9_9 {p : Prop} (h : p := by first | (with_reducible assumption) | assumption) : p := h
theorem c9_1 {p : Prop} (h : p := by repeat (first | (with_reducible first | exact HB.out | apply below_alloc | apply pw_below_drewN | apply below_drew1) | exact HB.out)) : p := h
theorem c9_2 {p : Prop} (h : p := by repeat (first | exact (Kd.C_below HR0.out HB.out) | (with_reducible refine Kd.C_alloc ?_ _) | (with_reducible refine Kd.C_drewN ?_ _) | (with_reducible refine Kd.C_drew ?_))) : p := h
theorem c9_3 {p : Prop} (h : p := by first | rfl | (simp [errW_none, errW_some] <;> rfl) | (simp [*, errW_none, errW_some] <;> rfl)) : p := h
theorem c9_4 {p : Prop} (h : p := by repeat (first | (with_reducible first | exact HB.out | apply below_alloc | apply pw_below_drewN | apply below_drew1 | refine below_set ?_ GE221.out) | exact HB.out)) : p := h
set_option maxHeartbeats 8000000
set_option maxRecDepth 100000
theorem z9c {w : World} {g : Nat} {t : TypeId} {cs : Array Value} (h : w.heap[g]? = some (.cells cs t (0, 0))) (i : Nat) {v : Value} (e : cs[i]? = some v) : w.cell? ⟨g, i, none⟩ = some v := (blk_cell h i).trans e

/-! ### spec_l4Text: function 12 -/
mutual
def spec_l4Text.j0 : Nat → List (S40) → Int → ByteArray → Option (ByteArray)
  | 0, _, _, _ => none
  | k + 1, x0, x1, x6 => (spec_l4Kids.f k x0 x1).bind fun t216 => (spec_l4Text.l0 k x0 x6 t216 0)
def spec_l4Text.l0 : Nat → List (S40) → ByteArray → List Int → Int → Option (ByteArray)
  | 0, _, _, _, _ => none
  | k + 1, x0, x6, x7, x8 => if x8 < (x7.length : Int) then (if x6.size + 1 ≤ 9223372036854775807 then (if 0 ≤ x8 then ((spec_l4Text.f k x0 (rd x7 x8)).bind fun t220 => (if (x6 ++ (⟨#[32]⟩ : ByteArray)).size + t220.size ≤ 9223372036854775807 then (spec_l4Text.l0 k x0 ((x6 ++ (⟨#[32]⟩ : ByteArray)) ++ t220) x7 (wrap64 (x8 + 1))) else (none))) else (none)) else (none)) else (if x6.size + 1 ≤ 9223372036854775807 then (some (x6 ++ (⟨#[41]⟩ : ByteArray))) else (none))
def spec_l4Text.f : Nat → List (S40) → Int → Option (ByteArray)
  | 0, _, _ => none
  | k + 1, l0, a1 => if 0 ≤ a1 then (if a1 < (l0.length : Int) then (if ((rd_T40 l0 a1).f0) = 1 then ((spec_l3Write.f k ((rd_T40 l0 a1).f5) 0).bind fun t210 => (if 1 + t210.size ≤ 9223372036854775807 then (some ((⟨#[39]⟩ : ByteArray) ++ t210)) else (none))) else (if ((rd_T40 l0 a1).f0) = 2 then ((spec_l1Digits.f k ((rd_T40 l0 a1).f2)).bind fun t212 => (if 1 + t212.size ≤ 9223372036854775807 then (if ((⟨#[37]⟩ : ByteArray) ++ t212).size + 1 ≤ 9223372036854775807 then ((spec_l1Digits.f k ((rd_T40 l0 a1).f3)).bind fun t214 => (if (((⟨#[37]⟩ : ByteArray) ++ t212) ++ (⟨#[46]⟩ : ByteArray)).size + t214.size ≤ 9223372036854775807 then (some ((((⟨#[37]⟩ : ByteArray) ++ t212) ++ (⟨#[46]⟩ : ByteArray)) ++ t214)) else (none))) else (none)) else (none))) else (if ((rd_T40 l0 a1).f0) = 3 then (some ((rd_T40 l0 a1).f4)) else (if ((rd_T40 l0 a1).f0) = 4 then (spec_l4Text.j0 k l0 a1 (⟨#[40, 105, 102]⟩ : ByteArray)) else (if ((rd_T40 l0 a1).f0) = 5 then ((spec_l1Digits.f k ((rd_T40 l0 a1).f2)).bind fun t215 => (if 4 + t215.size ≤ 9223372036854775807 then (spec_l4Text.j0 k l0 a1 ((⟨#[40, 102, 110, 32]⟩ : ByteArray) ++ t215)) else (none))) else (if ((rd_T40 l0 a1).f0) = 6 then (spec_l4Text.j0 k l0 a1 (⟨#[40, 115, 101, 113]⟩ : ByteArray)) else (if ((rd_T40 l0 a1).f0) = 7 then (if 5 + ((rd_T40 l0 a1).f4).size ≤ 9223372036854775807 then (spec_l4Text.j0 k l0 a1 ((⟨#[40, 115, 101, 116, 32]⟩ : ByteArray) ++ ((rd_T40 l0 a1).f4))) else (none)) else (if ((rd_T40 l0 a1).f0) = 8 then (if 5 + ((rd_T40 l0 a1).f4).size ≤ 9223372036854775807 then (spec_l4Text.j0 k l0 a1 ((⟨#[40, 100, 101, 102, 32]⟩ : ByteArray) ++ ((rd_T40 l0 a1).f4))) else (none)) else (spec_l4Text.j0 k l0 a1 (⟨#[40, 97, 112, 112]⟩ : ByteArray)))))))))) else (none)) else (none)
end
theorem spec_l4Text.mono_l : ∀ k, (∀ y0 y1, LeO (spec_l4Text.f k y0 y1) (spec_l4Text.f (k + 1) y0 y1)) ∧ (∀ y0 y1 y2, LeO (spec_l4Text.j0 k y0 y1 y2) (spec_l4Text.j0 (k + 1) y0 y1 y2)) ∧ (∀ y0 y1 y2 y3, LeO (spec_l4Text.l0 k y0 y1 y2 y3) (spec_l4Text.l0 (k + 1) y0 y1 y2 y3))
  | 0 => ⟨fun _ _ r h => by simp [spec_l4Text.f] at h, fun _ _ _ r h => by simp [spec_l4Text.j0] at h, fun _ _ _ _ r h => by simp [spec_l4Text.l0] at h⟩
  | k + 1 => by
    obtain ⟨ih0, ih1, ih2⟩ := spec_l4Text.mono_l k; refine ⟨?_, ?_, ?_⟩
    · intro y0 y1
      unfold spec_l4Text.f
      repeat' first | (with_reducible first | apply ih0 | apply ih1 | apply ih2 | apply spec_l1Digits.mono | apply spec_l3Write.mono | apply spec_l4Kids.mono | exact LeO.refl _ | exact LeO.none _ | refine LeO.ite ?_ ?_ | refine LeO.bind ?_ (fun _ => ?_)) | apply ih0 | apply ih1 | apply ih2 | apply spec_l1Digits.mono | apply spec_l3Write.mono | apply spec_l4Kids.mono | exact LeO.none _ | refine LeO.ite ?_ ?_ | refine LeO.bind ?_ (fun _ => ?_)
    · intro y0 y1 y2
      unfold spec_l4Text.j0
      repeat' first | (with_reducible first | apply ih0 | apply ih1 | apply ih2 | apply spec_l1Digits.mono | apply spec_l3Write.mono | apply spec_l4Kids.mono | exact LeO.refl _ | exact LeO.none _ | refine LeO.ite ?_ ?_ | refine LeO.bind ?_ (fun _ => ?_)) | apply ih0 | apply ih1 | apply ih2 | apply spec_l1Digits.mono | apply spec_l3Write.mono | apply spec_l4Kids.mono | exact LeO.none _ | refine LeO.ite ?_ ?_ | refine LeO.bind ?_ (fun _ => ?_)
    · intro y0 y1 y2 y3
      unfold spec_l4Text.l0
      repeat' first | (with_reducible first | apply ih0 | apply ih1 | apply ih2 | apply spec_l1Digits.mono | apply spec_l3Write.mono | apply spec_l4Kids.mono | exact LeO.refl _ | exact LeO.none _ | refine LeO.ite ?_ ?_ | refine LeO.bind ?_ (fun _ => ?_)) | apply ih0 | apply ih1 | apply ih2 | apply spec_l1Digits.mono | apply spec_l3Write.mono | apply spec_l4Kids.mono | exact LeO.none _ | refine LeO.ite ?_ ?_ | refine LeO.bind ?_ (fun _ => ?_)
theorem spec_l4Text.mono : ∀ a0 a1 k, LeO (spec_l4Text.f k a0 a1) (spec_l4Text.f (k + 1) a0 a1) := by
  intro a0 a1 k; obtain ⟨ih0, ih1, ih2⟩ := spec_l4Text.mono_l k; exact ih0 a0 a1
def spec_l4Text.T8 : Bool × List (List Nat × List Nat) := (true, [([], []), ([0], [0]), ([1], [1]), ([2], [2]), ([3], [3]), ([4], [4]), ([5], [5]), ([], []), ([7], [7]), ([8], [8]), ([9], [9]), ([10, 4], [10]), ([6, 11], [6, 11]), ([12, 11, 0, 1, 2, 3, 4, 5, 6, 7, 8, 9, 10, 11, 12], [12])])
def spec_l4Text.B8 : List Nat := [0, 1, 3, 7, 15, 31, 63, 0, 128, 384, 896, 1951, 4095, 8191]
theorem spec_l4Text.tab8 : rtab .any (opsOf Tryz.f12 8) = spec_l4Text.T8 := by kernel_rfl
theorem spec_l4Text.bits8 : waitsOk spec_l4Text.T8.2 spec_l4Text.B8 = true := by kernel_rfl
theorem spec_l4Text.calls (k : Nat) : ∀ (A0 : Option Addr) (c0 : Nat) (l0 : List (S40)) (a1 : Int) (r : ByteArray) (w : World) (hr0 : Kd.C k40 w A0 l0.length l0) (hc0 : l0.length ≤ c0) (h : spec_l4Text.f k l0 a1 = some r),
    Calls Tryz.prog 12 #[.slice A0 l0.length c0, .int .i64 a1] w fun e w' => e = .returned (.string r) ∧ Below w.heap.size w w' := by
  induction k using Nat.strongRecOn with
  | _ k ih =>
  intro A0 c0 l0 a1 r w hr0 hc0 h
  cases k with
  | zero => exact absurd h (by simp [spec_l4Text.f])
  | succ k =>
  simp only [spec_l4Text.f] at h; have HR0 := ak hr0; have HC0 := ak hc0; clear hr0 hc0; have HB := ak (Below.refl w.heap.size w)
  have H : (if 0 ≤ a1 then (if a1 < (l0.length : Int) then (if ((rd_T40 l0 a1).f0) = 1 then ((spec_l3Write.f k ((rd_T40 l0 a1).f5) 0).bind fun t210 => (if 1 + t210.size ≤ 9223372036854775807 then (some ((⟨#[39]⟩ : ByteArray) ++ t210)) else (none))) else (if ((rd_T40 l0 a1).f0) = 2 then ((spec_l1Digits.f k ((rd_T40 l0 a1).f2)).bind fun t212 => (if 1 + t212.size ≤ 9223372036854775807 then (if ((⟨#[37]⟩ : ByteArray) ++ t212).size + 1 ≤ 9223372036854775807 then ((spec_l1Digits.f k ((rd_T40 l0 a1).f3)).bind fun t214 => (if (((⟨#[37]⟩ : ByteArray) ++ t212) ++ (⟨#[46]⟩ : ByteArray)).size + t214.size ≤ 9223372036854775807 then (some ((((⟨#[37]⟩ : ByteArray) ++ t212) ++ (⟨#[46]⟩ : ByteArray)) ++ t214)) else (none))) else (none)) else (none))) else (if ((rd_T40 l0 a1).f0) = 3 then (some ((rd_T40 l0 a1).f4)) else (if ((rd_T40 l0 a1).f0) = 4 then (spec_l4Text.j0 k l0 a1 (⟨#[40, 105, 102]⟩ : ByteArray)) else (if ((rd_T40 l0 a1).f0) = 5 then ((spec_l1Digits.f k ((rd_T40 l0 a1).f2)).bind fun t215 => (if 4 + t215.size ≤ 9223372036854775807 then (spec_l4Text.j0 k l0 a1 ((⟨#[40, 102, 110, 32]⟩ : ByteArray) ++ t215)) else (none))) else (if ((rd_T40 l0 a1).f0) = 6 then (spec_l4Text.j0 k l0 a1 (⟨#[40, 115, 101, 113]⟩ : ByteArray)) else (if ((rd_T40 l0 a1).f0) = 7 then (if 5 + ((rd_T40 l0 a1).f4).size ≤ 9223372036854775807 then (spec_l4Text.j0 k l0 a1 ((⟨#[40, 115, 101, 116, 32]⟩ : ByteArray) ++ ((rd_T40 l0 a1).f4))) else (none)) else (if ((rd_T40 l0 a1).f0) = 8 then (if 5 + ((rd_T40 l0 a1).f4).size ≤ 9223372036854775807 then (spec_l4Text.j0 k l0 a1 ((⟨#[40, 100, 101, 102, 32]⟩ : ByteArray) ++ ((rd_T40 l0 a1).f4))) else (none)) else (spec_l4Text.j0 k l0 a1 (⟨#[40, 97, 112, 112]⟩ : ByteArray)))))))))) else (none)) else (none)) = some r := h
  clear h; by_cases c3 : 0 ≤ a1
  ·rw [if_pos c3] at H
   have c3b0 : decide (0 ≤ a1) = true := decide_eq_true c3; clear c3; by_cases c4 : a1 < (l0.length : Int)
   ·rw [if_pos c4] at H
    have c4b0 : decide (a1 < (l0.length : Int)) = true := decide_eq_true c4; clear c4; have HC5 := ak H; clear H; have p209 : 0 ≤ (a1 : Int) := of_decide_eq_true d9_9; have q209 : a1 < (l0.length : Int) := of_decide_eq_true d9_9; obtain ⟨ad209, A209_5, c209_5, e209, hx209_0, hx209_1, hx209_2, hx209_3, hx209_4, hx209_5, hl209_5, hi209_5⟩ := at_T40 HR0.out a1 p209 q209
    cases e209
    have HR209_5 := ak hi209_5; have HC209_5 := ak hl209_5; clear hi209_5 hl209_5; replace p209 := eq_true p209; replace q209 := eq_true q209; go_enter Tryz.func12, Tryz.ntmps12; go_upto_block 0 with (fail); go_cut [6] (fun v6 wc => ∃ (kq : Nat) (x6_4 : ByteArray), v6 = .string x6_4 ∧ Aside0 (spec_l4Text.j0 kq l0 a1 x6_4 = some r) ∧ Aside0 (kq ≤ k) ∧ Aside0 (Below w.heap.size w wc))
    case first =>
     have H := HC5.out; clear HC5; by_cases c6 : ((rd_T40 l0 a1).f0) = 1
     ·rw [if_pos c6] at H
      have c6b0 : (((rd_T40 l0 a1).f0) == 1) = true := beq_iff_eq.mpr c6; have c6b1 : (((rd_T40 l0 a1).f0) != 1) = false := bne_eq_false_iff_eq.mpr c6; clear c6
      (first | rw [c6b0] | (simp only [i64_w, i32_w]; rw [c6b0]) | skip)
      replace H := Option.bind_eq_some_iff.mp H; obtain ⟨t210, A70, H⟩ := H; (try dsimp -simprocs only at H); have A7 := ak A70; clear A70; by_cases c8 : 1 + t210.size ≤ 9223372036854775807
      ·rw [if_pos c8] at H
       have c8b0 := eq_true c8; have c8b1 : decide (1 + t210.size ≤ 9223372036854775807) = true := decide_eq_true c8
       try have c8b2 : (9223372036854775807 < 1 + t210.size) = False := eq_false (Nat.not_lt.2 c8)
       obtain rfl := Option.some.inj H; go_wp2_with (first | ((with_reducible refine gate_callee (f := 22) rfl ?_); refine goesL_ (some 22) rfl rfl Tryz.func22 (by kernel_rfl) rfl #[.slice A209_5 ((rd_T40 l0 a1).f5).length c209_5, .int .i64 0] rfl d9_2 ?_; (with_reducible refine (spec_l3Write.calls k _ _ ((rd_T40 l0 a1).f5) 0 t210 _ ?side1 ?side2 A7.out).mono ?_); (case side1 => repeat (first | exact (Kd.C_below HR209_5.out HB.out) | (with_reducible refine Kd.C_alloc ?_ _) | (with_reducible refine Kd.C_drewN ?_ _) | (with_reducible refine Kd.C_drew ?_))); (case side2 => exact HC209_5.out); rintro e w9 ⟨rfl, hb⟩; refine ⟨_, rfl, ?_⟩; have n0_ := ak (below_step d9_1 hb); clear HB; have HB := n0_; clear n0_; (try clear hb))); go_ret; exact ⟨c9_3, c9_1⟩
      ·rw [if_neg c8] at H
       exact absurd H (by simp)
     ·rw [if_neg c6] at H
      have c6b0 : (((rd_T40 l0 a1).f0) == 1) = false := beq_eq_false_iff_ne.mpr c6; have c6b1 : (((rd_T40 l0 a1).f0) != 1) = true := bne_iff_ne.mpr c6
      (first | rw [c6b0] | (simp only [i64_w, i32_w]; rw [c6b0]) | skip)
      by_cases c10 : ((rd_T40 l0 a1).f0) = 2
      ·rw [if_pos c10] at H
       have c10b0 : (((rd_T40 l0 a1).f0) == 2) = true := beq_iff_eq.mpr c10; have c10b1 : (((rd_T40 l0 a1).f0) != 2) = false := bne_eq_false_iff_eq.mpr c10; clear c10; replace H := Option.bind_eq_some_iff.mp H; obtain ⟨t212, A110, H⟩ := H; (try dsimp -simprocs only at H); have A11 := ak A110; clear A110; by_cases c12 : 1 + t212.size ≤ 9223372036854775807
       ·rw [if_pos c12] at H
        have c12b0 := eq_true c12; have c12b1 : decide (1 + t212.size ≤ 9223372036854775807) = true := decide_eq_true c12
        try have c12b2 : (9223372036854775807 < 1 + t212.size) = False := eq_false (Nat.not_lt.2 c12)
        by_cases c13 : ((⟨#[37]⟩ : ByteArray) ++ t212).size + 1 ≤ 9223372036854775807
        ·rw [if_pos c13] at H
         have c13b0 := eq_true c13; have c13b1 : decide (((⟨#[37]⟩ : ByteArray) ++ t212).size + 1 ≤ 9223372036854775807) = true := decide_eq_true c13
         try have c13b2 : (9223372036854775807 < ((⟨#[37]⟩ : ByteArray) ++ t212).size + 1) = False := eq_false (Nat.not_lt.2 c13)
         have c13s : 1 + t212.size + 1 ≤ 9223372036854775807 := by have z := c13; rw [ByteArray.size_append] at z; exact z
         have c13b3 := eq_true c13s; have c13b4 : (9223372036854775807 < 1 + t212.size + 1) = False := eq_false (Nat.not_lt.2 c13s); have c13b5 := decide_eq_true c13s; replace H := Option.bind_eq_some_iff.mp H; obtain ⟨t214, A140, H⟩ := H; (try dsimp -simprocs only at H); have A14 := ak A140; clear A140; by_cases c15 : (((⟨#[37]⟩ : ByteArray) ++ t212) ++ (⟨#[46]⟩ : ByteArray)).size + t214.size ≤ 9223372036854775807
         ·rw [if_pos c15] at H
          have c15b0 := eq_true c15; have c15b1 : decide ((((⟨#[37]⟩ : ByteArray) ++ t212) ++ (⟨#[46]⟩ : ByteArray)).size + t214.size ≤ 9223372036854775807) = true := decide_eq_true c15
          try have c15b2 : (9223372036854775807 < (((⟨#[37]⟩ : ByteArray) ++ t212) ++ (⟨#[46]⟩ : ByteArray)).size + t214.size) = False := eq_false (Nat.not_lt.2 c15)
          have c15s : 1 + t212.size + 1 + t214.size ≤ 9223372036854775807 := by have z := c15; rw [ByteArray.size_append, ByteArray.size_append] at z; exact z
          have c15b3 := eq_true c15s; have c15b4 : (9223372036854775807 < 1 + t212.size + 1 + t214.size) = False := eq_false (Nat.not_lt.2 c15s); have c15b5 := decide_eq_true c15s; obtain rfl := Option.some.inj H
          try go_wp2
          have n0_ := ak (below_drew1 HB.out); clear HB; have HB := n0_; clear n0_; have p211 : 0 ≤ (a1 : Int) := of_decide_eq_true d9_9; have q211 : a1 < (l0.length : Int) := of_decide_eq_true d9_9; obtain ⟨ad211, A211_5, c211_5, e211, hx211_0, hx211_1, hx211_2, hx211_3, hx211_4, hx211_5, hl211_5, hi211_5⟩ := at_T40 HR0.out a1 p211 q211; have hw211_5 := hx211_5; have hw211_4 := hx211_4; have hw211_3 := hx211_3; have hw211_2 := hx211_2; have hw211_1 := hx211_1; have hw211_0 := hx211_0; obtain rfl : ad209 = ad211 := (by injection e211); replace hx211_0 := (HB.out.cell (World.block_lt_of_cell? w _ hx211_0)).trans hx211_0; replace hx211_1 := (HB.out.cell (World.block_lt_of_cell? w _ hx211_1)).trans hx211_1; replace hx211_2 := (HB.out.cell (World.block_lt_of_cell? w _ hx211_2)).trans hx211_2; replace hx211_3 := (HB.out.cell (World.block_lt_of_cell? w _ hx211_3)).trans hx211_3; replace hx211_4 := (HB.out.cell (World.block_lt_of_cell? w _ hx211_4)).trans hx211_4; replace hx211_5 := (HB.out.cell (World.block_lt_of_cell? w _ hx211_5)).trans hx211_5; have HR211_5 := ak hi211_5; have HC211_5 := ak hl211_5; clear hi211_5 hl211_5; replace p211 := eq_true p211; replace q211 := eq_true q211; have p213 : 0 ≤ (a1 : Int) := of_decide_eq_true d9_9; have q213 : a1 < (l0.length : Int) := of_decide_eq_true d9_9; obtain ⟨ad213, A213_5, c213_5, e213, hx213_0, hx213_1, hx213_2, hx213_3, hx213_4, hx213_5, hl213_5, hi213_5⟩ := at_T40 HR0.out a1 p213 q213; have hw213_5 := hx213_5
          have hw213_4 := hx213_4; have hw213_3 := hx213_3; have hw213_2 := hx213_2; have hw213_1 := hx213_1; have hw213_0 := hx213_0; obtain rfl : ad209 = ad213 := (by injection e213); replace hx213_0 := (HB.out.cell (World.block_lt_of_cell? w _ hx213_0)).trans hx213_0; replace hx213_1 := (HB.out.cell (World.block_lt_of_cell? w _ hx213_1)).trans hx213_1; replace hx213_2 := (HB.out.cell (World.block_lt_of_cell? w _ hx213_2)).trans hx213_2; replace hx213_3 := (HB.out.cell (World.block_lt_of_cell? w _ hx213_3)).trans hx213_3; replace hx213_4 := (HB.out.cell (World.block_lt_of_cell? w _ hx213_4)).trans hx213_4; replace hx213_5 := (HB.out.cell (World.block_lt_of_cell? w _ hx213_5)).trans hx213_5; have HR213_5 := ak hi213_5; have HC213_5 := ak hl213_5; clear hi213_5 hl213_5; replace p213 := eq_true p213; replace q213 := eq_true q213; have ea_ := Option.some.inj (hx211_5.symm.trans hx213_5); injection ea_ with ea_ en_ ec_; subst ea_; subst ec_; clear en_
          refine start_ (n := 14) (S := fun w' => w'.cell? (ad209.add ((a1).toNat * 6)) = some (.int .i64 ((rd_T40 l0 a1).f0)) ∧ w'.cell? ⟨(ad209.add ((a1).toNat * 6)).block, (ad209.add ((a1).toNat * 6)).off + 1, none⟩ = some (.int .i64 ((rd_T40 l0 a1).f1)) ∧ w'.cell? ⟨(ad209.add ((a1).toNat * 6)).block, (ad209.add ((a1).toNat * 6)).off + 2, none⟩ = some (.int .i64 ((rd_T40 l0 a1).f2)) ∧ w'.cell? ⟨(ad209.add ((a1).toNat * 6)).block, (ad209.add ((a1).toNat * 6)).off + 3, none⟩ = some (.int .i64 ((rd_T40 l0 a1).f3)) ∧ w'.cell? ⟨(ad209.add ((a1).toNat * 6)).block, (ad209.add ((a1).toNat * 6)).off + 4, none⟩ = some (.string ((rd_T40 l0 a1).f4)) ∧ w'.cell? ⟨(ad209.add ((a1).toNat * 6)).block, (ad209.add ((a1).toNat * 6)).off + 5, none⟩ = some (.slice A211_5 ((rd_T40 l0 a1).f5).length c211_5) ∧ w'.cell? (ad209.add ((a1).toNat * 6)) = some (.int .i64 ((rd_T40 l0 a1).f0)) ∧ w'.cell? ⟨(ad209.add ((a1).toNat * 6)).block, (ad209.add ((a1).toNat * 6)).off + 1, none⟩ = some (.int .i64 ((rd_T40 l0 a1).f1)) ∧ w'.cell? ⟨(ad209.add ((a1).toNat * 6)).block, (ad209.add ((a1).toNat * 6)).off + 2, none⟩ = some (.int .i64 ((rd_T40 l0 a1).f2)) ∧ w'.cell? ⟨(ad209.add ((a1).toNat * 6)).block, (ad209.add ((a1).toNat * 6)).off + 3, none⟩ = some (.int .i64 ((rd_T40 l0 a1).f3)) ∧ w'.cell? ⟨(ad209.add ((a1).toNat * 6)).block, (ad209.add ((a1).toNat * 6)).off + 4, none⟩ = some (.string ((rd_T40 l0 a1).f4)) ∧ w'.cell? ⟨(ad209.add ((a1).toNat * 6)).block, (ad209.add ((a1).toNat * 6)).off + 5, none⟩ = some (.slice A211_5 ((rd_T40 l0 a1).f5).length c211_5)) (ds := []) #[false, false, false, false, false, false, false, false, false, false, false, false, false, false] (by kernel_rfl) rfl rfl ⟨((HB.out.cell (World.block_lt_of_cell? w _ hw211_0)).trans hw211_0), ((HB.out.cell (World.block_lt_of_cell? w _ hw211_1)).trans hw211_1), ((HB.out.cell (World.block_lt_of_cell? w _ hw211_2)).trans hw211_2), ((HB.out.cell (World.block_lt_of_cell? w _ hw211_3)).trans hw211_3), ((HB.out.cell (World.block_lt_of_cell? w _ hw211_4)).trans hw211_4), ((HB.out.cell (World.block_lt_of_cell? w _ hw211_5)).trans hw211_5), ((HB.out.cell (World.block_lt_of_cell? w _ hw213_0)).trans hw213_0), ((HB.out.cell (World.block_lt_of_cell? w _ hw213_1)).trans hw213_1), ((HB.out.cell (World.block_lt_of_cell? w _ hw213_2)).trans hw213_2), ((HB.out.cell (World.block_lt_of_cell? w _ hw213_3)).trans hw213_3), ((HB.out.cell (World.block_lt_of_cell? w _ hw213_4)).trans hw213_4), ((HB.out.cell (World.block_lt_of_cell? w _ hw213_5)).trans hw213_5)⟩ (fun hHeld => ?_); refine with_tabW spec_l4Text.tab8 spec_l4Text.bits8 (fun HT_ HW_ => ?_)
          generalize w.drew = w16 at HB HR211_5 HR213_5 hx211_0 hx211_1 hx211_2 hx211_3 hx211_4 hx211_5 hx213_0 hx213_1 hx213_2 hx213_3 hx213_4 hx213_5 hHeld ⊢; refine pure_ (i := 0) (N := some 26) (v := ?_) (a' := ?_) #[true, false, false, false, false, false, false, false, false, false, false, false, false, false] rfl rfl (any_of HT_.out (by kernel_rfl)) (fun _ _ _ h => h) (Or.inl ⟨by rfl, ?_⟩) ?_ ?_; rotate_left
          · intro w'
            go_simp; (with_reducible rfl)
          rotate_left
          · simp only [Act.put, List.setIfInBounds_toArray, List.set_cons_zero, List.set_cons_succ, i64_w, i32_w]
            rfl
          refine pure_ (i := 1) (N := some 27) (v := ?_) (a' := ?_) #[true, true, false, false, false, false, false, false, false, false, false, false, false, false] rfl rfl (any_of HT_.out (by kernel_rfl)) (fun _ _ _ h => h) (Or.inl ⟨by rfl, ?_⟩) ?_ ?_; rotate_left
          · intro w'
            go_simp; (with_reducible rfl)
          rotate_left
          · simp only [Act.put, List.setIfInBounds_toArray, List.set_cons_zero, List.set_cons_succ, i64_w, i32_w]
            rfl
          refine pure_ (i := 2) (N := some 28) (v := ?_) (a' := ?_) #[true, true, true, false, false, false, false, false, false, false, false, false, false, false] rfl rfl (any_of HT_.out (by kernel_rfl)) (fun _ _ _ h => h) (Or.inl ⟨by rfl, ?_⟩) ?_ ?_; rotate_left
          · intro w'
            go_simp; (with_reducible rfl)
          rotate_left
          · simp only [Act.put, List.setIfInBounds_toArray, List.set_cons_zero, List.set_cons_succ, i64_w, i32_w]
            rfl
          refine pure_ (i := 7) (N := some 33) (v := ?_) (a' := ?_) #[true, true, true, false, false, false, false, true, false, false, false, false, false, false] rfl rfl (any_of HT_.out (by kernel_rfl)) (fun _ _ _ h => h) (Or.inl ⟨by rfl, ?_⟩) ?_ ?_; rotate_left
          · intro w'
            go_simp; (with_reducible rfl)
          rotate_left
          · simp only [Act.put, List.setIfInBounds_toArray, List.set_cons_zero, List.set_cons_succ, i64_w, i32_w]
            rfl
          refine pure_ (i := 8) (N := some 34) (v := ?_) (a' := ?_) #[true, true, true, false, false, false, false, true, true, false, false, false, false, false] rfl rfl (any_of HT_.out (by kernel_rfl)) (fun _ _ _ h => h) (Or.inl ⟨by rfl, ?_⟩) ?_ ?_; rotate_left
          · intro w'
            go_simp; (with_reducible rfl)
          rotate_left
          · simp only [Act.put, List.setIfInBounds_toArray, List.set_cons_zero, List.set_cons_succ, i64_w, i32_w]
            rfl
          refine pure_ (i := 9) (N := some 35) (v := ?_) (a' := ?_) #[true, true, true, false, false, false, false, true, true, true, false, false, false, false] rfl rfl (any_of HT_.out (by kernel_rfl)) (fun _ _ _ h => h) (Or.inl ⟨by rfl, ?_⟩) ?_ ?_; rotate_left
          · intro w'
            go_simp; (with_reducible rfl)
          rotate_left
          · simp only [Act.put, List.setIfInBounds_toArray, List.set_cons_zero, List.set_cons_succ, i64_w, i32_w]
            rfl
          refine take_ (i := 3) (N := some 29) (v := ?_) (a' := ?_) #[true, true, true, true, false, false, false, true, true, true, false, false, false, false] rfl rfl (take_ofW HT_.out HW_.out (by kernel_rfl)) (fun _ _ _ h => h) (Or.inl ⟨by rfl, ?_⟩) hHeld ?_ ?_; rotate_left
          · rintro w' ⟨s0, s1, s2, s3, s4, s5, s6, s7, s8, s9, s10, s11⟩
            go_simp; (with_reducible rfl)
          rotate_left
          · simp only [Act.put, List.setIfInBounds_toArray, List.set_cons_zero, List.set_cons_succ, i64_w, i32_w]
            rfl
          refine take_ (i := 10) (N := some 36) (v := ?_) (a' := ?_) #[true, true, true, true, false, false, false, true, true, true, true, false, false, false] rfl rfl (take_ofW HT_.out HW_.out (by kernel_rfl)) (fun _ _ _ h => h) (Or.inl ⟨by rfl, ?_⟩) hHeld ?_ ?_; rotate_left
          · rintro w' ⟨s0, s1, s2, s3, s4, s5, s6, s7, s8, s9, s10, s11⟩
            go_simp; (with_reducible rfl)
          rotate_left
          · simp only [Act.put, List.setIfInBounds_toArray, List.set_cons_zero, List.set_cons_succ, i64_w, i32_w]
            rfl
          refine one_ (i := 4) (N := some 30) #[true, true, true, true, true, false, false, true, true, true, true, false, false, false] rfl rfl (one_of HT_.out (by kernel_rfl)) (by decide) (fun K hK => ?_); refine goes_ Tryz.func23 (by kernel_rfl) rfl #[.int .i64 ((rd_T40 l0 a1).f2)] (by rfl) rfl rfl d9_2 ?_; (with_reducible refine (spec_l1Digits.calls k ((rd_T40 l0 a1).f2) t212 _ A11.out).mono ?_); rintro e w17 ⟨rfl, hb⟩; refine ⟨_, rfl, ?_⟩; have n0_ := ak (below_step d9_1 hb); clear HB; have HB := n0_; clear n0_
          (try clear hb)
          (try clear hb2)
          (try clear hk)
          (try clear hi)
          refine hK.out _ _ ⟨((HB.out.cell (World.block_lt_of_cell? w _ hw211_0)).trans hw211_0), ((HB.out.cell (World.block_lt_of_cell? w _ hw211_1)).trans hw211_1), ((HB.out.cell (World.block_lt_of_cell? w _ hw211_2)).trans hw211_2), ((HB.out.cell (World.block_lt_of_cell? w _ hw211_3)).trans hw211_3), ((HB.out.cell (World.block_lt_of_cell? w _ hw211_4)).trans hw211_4), ((HB.out.cell (World.block_lt_of_cell? w _ hw211_5)).trans hw211_5), ((HB.out.cell (World.block_lt_of_cell? w _ hw213_0)).trans hw213_0), ((HB.out.cell (World.block_lt_of_cell? w _ hw213_1)).trans hw213_1), ((HB.out.cell (World.block_lt_of_cell? w _ hw213_2)).trans hw213_2), ((HB.out.cell (World.block_lt_of_cell? w _ hw213_3)).trans hw213_3), ((HB.out.cell (World.block_lt_of_cell? w _ hw213_4)).trans hw213_4), ((HB.out.cell (World.block_lt_of_cell? w _ hw213_5)).trans hw213_5)⟩ (fun hHeld => ?_); clear hK K; refine norm_ (a' := ?_) ?_ ?_; rotate_left
          · show Act.put _ (some 30) _ = _
            simp only [Act.put, List.setIfInBounds_toArray, List.set_cons_zero, List.set_cons_succ, i64_w, i32_w]; rfl
          refine pure_ (i := 5) (N := some 31) (v := ?_) (a' := ?_) #[true, true, true, true, true, true, false, true, true, true, true, false, false, false] rfl rfl (any_of HT_.out (by kernel_rfl)) (fun _ _ _ h => h) (Or.inl ⟨by rfl, ?_⟩) ?_ ?_; rotate_left
          · intro w'
            go_simp; (with_reducible rfl)
          rotate_left
          · simp only [Act.put, List.setIfInBounds_toArray, List.set_cons_zero, List.set_cons_succ, i64_w, i32_w]
            rfl
          refine pure_ (i := 6) (N := some 32) (v := ?_) (a' := ?_) #[true, true, true, true, true, true, true, true, true, true, true, false, false, false] rfl rfl (any_of HT_.out (by kernel_rfl)) (fun _ _ _ h => h) (Or.inl ⟨by rfl, ?_⟩) ?_ ?_; rotate_left
          · intro w'
            go_simp; (with_reducible rfl)
          rotate_left
          · simp only [Act.put, List.setIfInBounds_toArray, List.set_cons_zero, List.set_cons_succ, i64_w, i32_w]
            rfl
          refine one_ (i := 11) (N := some 37) #[true, true, true, true, true, true, true, true, true, true, true, true, false, false] rfl rfl (one_of HT_.out (by kernel_rfl)) (by decide) (fun K hK => ?_); refine goes_ Tryz.func23 (by kernel_rfl) rfl #[.int .i64 ((rd_T40 l0 a1).f3)] (by rfl) rfl rfl d9_2 ?_; (with_reducible refine (spec_l1Digits.calls k ((rd_T40 l0 a1).f3) t214 _ A14.out).mono ?_); rintro e w18 ⟨rfl, hb⟩; refine ⟨_, rfl, ?_⟩; have n0_ := ak (below_step d9_1 hb); clear HB; have HB := n0_; clear n0_
          (try clear hb)
          (try clear hb2)
          (try clear hk)
          (try clear hi)
          refine hK.out _ _ ⟨((HB.out.cell (World.block_lt_of_cell? w _ hw211_0)).trans hw211_0), ((HB.out.cell (World.block_lt_of_cell? w _ hw211_1)).trans hw211_1), ((HB.out.cell (World.block_lt_of_cell? w _ hw211_2)).trans hw211_2), ((HB.out.cell (World.block_lt_of_cell? w _ hw211_3)).trans hw211_3), ((HB.out.cell (World.block_lt_of_cell? w _ hw211_4)).trans hw211_4), ((HB.out.cell (World.block_lt_of_cell? w _ hw211_5)).trans hw211_5), ((HB.out.cell (World.block_lt_of_cell? w _ hw213_0)).trans hw213_0), ((HB.out.cell (World.block_lt_of_cell? w _ hw213_1)).trans hw213_1), ((HB.out.cell (World.block_lt_of_cell? w _ hw213_2)).trans hw213_2), ((HB.out.cell (World.block_lt_of_cell? w _ hw213_3)).trans hw213_3), ((HB.out.cell (World.block_lt_of_cell? w _ hw213_4)).trans hw213_4), ((HB.out.cell (World.block_lt_of_cell? w _ hw213_5)).trans hw213_5)⟩ (fun hHeld => ?_); clear hK K; refine norm_ (a' := ?_) ?_ ?_; rotate_left
          · show Act.put _ (some 37) _ = _
            simp only [Act.put, List.setIfInBounds_toArray, List.set_cons_zero, List.set_cons_succ, i64_w, i32_w]; rfl
          refine pure_ (i := 12) (N := some 38) (v := ?_) (a' := ?_) #[true, true, true, true, true, true, true, true, true, true, true, true, true, false] rfl rfl (any_of HT_.out (by kernel_rfl)) (fun _ _ _ h => h) (Or.inl ⟨by rfl, ?_⟩) ?_ ?_; rotate_left
          · intro w'
            go_simp; (with_reducible rfl)
          rotate_left
          · simp only [Act.put, List.setIfInBounds_toArray, List.set_cons_zero, List.set_cons_succ, i64_w, i32_w]
            rfl
          refine pure_ (i := 13) (N := some 4) (v := ?_) (a' := ?_) #[true, true, true, true, true, true, true, true, true, true, true, true, true, true] rfl rfl (any_of HT_.out (by kernel_rfl)) (fun _ _ _ h => h) (Or.inl ⟨by rfl, ?_⟩) ?_ ?_; rotate_left
          · intro w'
            go_simp; (with_reducible rfl)
          rotate_left
          · simp only [Act.put, List.setIfInBounds_toArray, List.set_cons_zero, List.set_cons_succ, i64_w, i32_w]
            rfl
          refine done_ (done_of HT_.out (by kernel_rfl)) ?_
          try go_wp2
          go_ret; exact ⟨c9_3, c9_1⟩
         ·rw [if_neg c15] at H
          exact absurd H (by simp)
        ·rw [if_neg c13] at H
         exact absurd H (by simp)
       ·rw [if_neg c12] at H
        exact absurd H (by simp)
      ·rw [if_neg c10] at H
       have c10b0 : (((rd_T40 l0 a1).f0) == 2) = false := beq_eq_false_iff_ne.mpr c10; have c10b1 : (((rd_T40 l0 a1).f0) != 2) = true := bne_iff_ne.mpr c10; by_cases c19 : ((rd_T40 l0 a1).f0) = 3
       ·rw [if_pos c19] at H
        have c19b0 : (((rd_T40 l0 a1).f0) == 3) = true := beq_iff_eq.mpr c19; have c19b1 : (((rd_T40 l0 a1).f0) != 3) = false := bne_eq_false_iff_eq.mpr c19; clear c19; obtain rfl := Option.some.inj H; go_wp2; go_ret; exact ⟨c9_3, c9_1⟩
       ·rw [if_neg c19] at H
        have c19b0 : (((rd_T40 l0 a1).f0) == 3) = false := beq_eq_false_iff_ne.mpr c19; have c19b1 : (((rd_T40 l0 a1).f0) != 3) = true := bne_iff_ne.mpr c19; by_cases c20 : ((rd_T40 l0 a1).f0) = 4
        ·rw [if_pos c20] at H
         have c20b0 : (((rd_T40 l0 a1).f0) == 4) = true := beq_iff_eq.mpr c20; have c20b1 : (((rd_T40 l0 a1).f0) != 4) = false := bne_eq_false_iff_eq.mpr c20; clear c20; have H' := ak H; clear H; go_wp2; go_meet
         case rel => exact ⟨_, ((⟨#[40, 105, 102]⟩ : ByteArray)), d9_3, H', ⟨by first | omega | exact Nat.le_refl _⟩, ⟨c9_1⟩⟩
        ·rw [if_neg c20] at H
         have c20b0 : (((rd_T40 l0 a1).f0) == 4) = false := beq_eq_false_iff_ne.mpr c20; have c20b1 : (((rd_T40 l0 a1).f0) != 4) = true := bne_iff_ne.mpr c20; by_cases c21 : ((rd_T40 l0 a1).f0) = 5
         ·rw [if_pos c21] at H
          have c21b0 : (((rd_T40 l0 a1).f0) == 5) = true := beq_iff_eq.mpr c21; have c21b1 : (((rd_T40 l0 a1).f0) != 5) = false := bne_eq_false_iff_eq.mpr c21; clear c21; replace H := Option.bind_eq_some_iff.mp H; obtain ⟨t215, A220, H⟩ := H; (try dsimp -simprocs only at H); have A22 := ak A220; clear A220; by_cases c23 : 4 + t215.size ≤ 9223372036854775807
          ·rw [if_pos c23] at H
           have c23b0 := eq_true c23; have c23b1 : decide (4 + t215.size ≤ 9223372036854775807) = true := decide_eq_true c23
           try have c23b2 : (9223372036854775807 < 4 + t215.size) = False := eq_false (Nat.not_lt.2 c23)
           have H' := ak H; clear H; go_wp2_with (first | ((with_reducible refine gate_callee (f := 23) rfl ?_); refine goesL_ (some 53) rfl rfl Tryz.func23 (by kernel_rfl) rfl #[.int .i64 ((rd_T40 l0 a1).f2)] rfl d9_2 ?_; (with_reducible refine (spec_l1Digits.calls k ((rd_T40 l0 a1).f2) t215 _ A22.out).mono ?_); rintro e w24 ⟨rfl, hb⟩; refine ⟨_, rfl, ?_⟩; have n0_ := ak (below_step d9_1 hb); clear HB; have HB := n0_; clear n0_; (try clear hb))); go_meet
           case rel => exact ⟨_, ((⟨#[40, 102, 110, 32]⟩ : ByteArray) ++ t215), d9_3, H', ⟨by first | omega | exact Nat.le_refl _⟩, ⟨c9_1⟩⟩
          ·rw [if_neg c23] at H
           exact absurd H (by simp)
         ·rw [if_neg c21] at H
          have c21b0 : (((rd_T40 l0 a1).f0) == 5) = false := beq_eq_false_iff_ne.mpr c21; have c21b1 : (((rd_T40 l0 a1).f0) != 5) = true := bne_iff_ne.mpr c21; by_cases c25 : ((rd_T40 l0 a1).f0) = 6
          ·rw [if_pos c25] at H
           have c25b0 : (((rd_T40 l0 a1).f0) == 6) = true := beq_iff_eq.mpr c25; have c25b1 : (((rd_T40 l0 a1).f0) != 6) = false := bne_eq_false_iff_eq.mpr c25; clear c25; have H' := ak H; clear H; go_wp2; go_meet
           case rel => exact ⟨_, ((⟨#[40, 115, 101, 113]⟩ : ByteArray)), d9_3, H', ⟨by first | omega | exact Nat.le_refl _⟩, ⟨c9_1⟩⟩
          ·rw [if_neg c25] at H
           have c25b0 : (((rd_T40 l0 a1).f0) == 6) = false := beq_eq_false_iff_ne.mpr c25; have c25b1 : (((rd_T40 l0 a1).f0) != 6) = true := bne_iff_ne.mpr c25; by_cases c26 : ((rd_T40 l0 a1).f0) = 7
           ·rw [if_pos c26] at H
            have c26b0 : (((rd_T40 l0 a1).f0) == 7) = true := beq_iff_eq.mpr c26; have c26b1 : (((rd_T40 l0 a1).f0) != 7) = false := bne_eq_false_iff_eq.mpr c26; clear c26; by_cases c27 : 5 + ((rd_T40 l0 a1).f4).size ≤ 9223372036854775807
            ·rw [if_pos c27] at H
             have c27b0 := eq_true c27; have c27b1 : decide (5 + ((rd_T40 l0 a1).f4).size ≤ 9223372036854775807) = true := decide_eq_true c27
             try have c27b2 : (9223372036854775807 < 5 + ((rd_T40 l0 a1).f4).size) = False := eq_false (Nat.not_lt.2 c27)
             have H' := ak H; clear H; go_wp2; go_meet
             case rel => exact ⟨_, ((⟨#[40, 115, 101, 116, 32]⟩ : ByteArray) ++ ((rd_T40 l0 a1).f4)), d9_3, H', ⟨by first | omega | exact Nat.le_refl _⟩, ⟨c9_1⟩⟩
            ·rw [if_neg c27] at H
             exact absurd H (by simp)
           ·rw [if_neg c26] at H
            have c26b0 : (((rd_T40 l0 a1).f0) == 7) = false := beq_eq_false_iff_ne.mpr c26; have c26b1 : (((rd_T40 l0 a1).f0) != 7) = true := bne_iff_ne.mpr c26; by_cases c28 : ((rd_T40 l0 a1).f0) = 8
            ·rw [if_pos c28] at H
             have c28b0 : (((rd_T40 l0 a1).f0) == 8) = true := beq_iff_eq.mpr c28; have c28b1 : (((rd_T40 l0 a1).f0) != 8) = false := bne_eq_false_iff_eq.mpr c28; clear c28; by_cases c29 : 5 + ((rd_T40 l0 a1).f4).size ≤ 9223372036854775807
             ·rw [if_pos c29] at H
              have c29b0 := eq_true c29; have c29b1 : decide (5 + ((rd_T40 l0 a1).f4).size ≤ 9223372036854775807) = true := decide_eq_true c29
              try have c29b2 : (9223372036854775807 < 5 + ((rd_T40 l0 a1).f4).size) = False := eq_false (Nat.not_lt.2 c29)
              have H' := ak H; clear H; go_wp2; go_meet
              case rel => exact ⟨_, ((⟨#[40, 100, 101, 102, 32]⟩ : ByteArray) ++ ((rd_T40 l0 a1).f4)), d9_3, H', ⟨by first | omega | exact Nat.le_refl _⟩, ⟨c9_1⟩⟩
             ·rw [if_neg c29] at H
              exact absurd H (by simp)
            ·rw [if_neg c28] at H
             have c28b0 : (((rd_T40 l0 a1).f0) == 8) = false := beq_eq_false_iff_ne.mpr c28; have c28b1 : (((rd_T40 l0 a1).f0) != 8) = true := bne_iff_ne.mpr c28; have H' := ak H; clear H; go_wp2; go_meet
             case rel => exact ⟨_, ((⟨#[40, 97, 112, 112]⟩ : ByteArray)), d9_3, H', ⟨by first | omega | exact Nat.le_refl _⟩, ⟨c9_1⟩⟩
    case rest =>
     clear HC5
     (try clear c1); (try clear c2); (try clear p2); (try clear q2); (try clear hx2); (try clear c3); (try clear c3b0); (try clear c4); (try clear c4b0); (try clear c12); (try clear c20); (try clear p20); (try clear q20); (try clear hx20); (try clear hx209_0); (try clear hx209_1); (try clear hx209_2); (try clear hx209_3); (try clear hx209_4); (try clear hx209_5); (try clear p209); (try clear q209)
     obtain ⟨kq, x6_4, rfl, HA, HJ4, HB⟩ := hcut
     cases kq with
     | zero => exact absurd HA.out (by simp [spec_l4Text.j0])
     | succ kj4 =>
      have H := HA.out; clear HA; simp only [spec_l4Text.j0] at H; replace H := Option.bind_eq_some_iff.mp H; obtain ⟨t216, A300, H⟩ := H; (try dsimp -simprocs only at H); have A30 := ak A300; clear A300; have H' := ak H; clear H; go_wp2_with (first | ((with_reducible refine gate_callee (f := 21) rfl ?_); refine goesL_ (some 73) rfl rfl Tryz.func21 (by kernel_rfl) rfl #[.slice (some ad209) l0.length c0, .int .i64 a1] rfl d9_2 ?_; (with_reducible refine (spec_l4Kids.calls kj4 _ _ l0 a1 t216 _ ?side1 ?side2 A30.out).mono ?_); (case side1 => exact c9_2); (case side2 => exact HC0.out); rintro e w31 ⟨v217, rfl, ho0, hb⟩; refine ⟨_, rfl, ?_⟩; have n0_ := ak (Kd.R_lower ho0 (below_size d9_1)); have n1_ := ak (below_step d9_1 hb); clear HB; have HO218 := n0_; have HB := n1_; clear n0_ n1_; (try clear hb); (try clear ho0))); go_loopg [6, 8] kj4 (fun kq v6 v8 w' => ∃ (x6_2 : ByteArray) (x8_2 : Int), v6 = .string x6_2 ∧ v8 = .int .i64 x8_2 ∧ Aside0 (spec_l4Text.l0 kq l0 x6_2 t216 x8_2 = some r) ∧ Aside0 (kq ≤ kj4) ∧ Aside0 (Kd.R (Kd.int .i64) 2 w' w.heap.size (fun _ => True) v217 t216) ∧ Aside0 (Below w.heap.size w w'))
      case atStart => exact ⟨(x6_4), (0), d9_3, d9_3, H', ⟨Nat.le_refl _⟩, ⟨by (with_reducible repeat (first | apply Kd.R_alloc | apply Kd.R_drewN | apply Kd.R_drew)); exact HO218.out⟩, ⟨c9_1⟩⟩
      case round =>
       clear H'
       (try clear c1); (try clear c2); (try clear p2); (try clear q2); (try clear hx2); (try clear c3); (try clear c3b0); (try clear c4); (try clear c4b0); (try clear c6); (try clear c6b0); (try clear c6b1); (try clear c8); (try clear c8b0); (try clear c8b1); (try clear c8b2); (try clear c10); (try clear c10b0); (try clear c10b1); (try clear c12); (try clear c12b0); (try clear c12b1); (try clear c12b2); (try clear c13); (try clear c13b0); (try clear c13b1); (try clear c13b2); (try clear c15); (try clear c15b0); (try clear c15b1); (try clear c15b2); (try clear c19); (try clear c19b0); (try clear c19b1); (try clear c20); (try clear c20b0); (try clear c20b1); (try clear p20); (try clear q20); (try clear hx20); (try clear c21); (try clear c21b0); (try clear c21b1); (try clear p21); (try clear q21); (try clear hx21); (try clear c22); (try clear c23); (try clear c23b0); (try clear c23b1); (try clear c23b2); (try clear c25); (try clear c25b0); (try clear c25b1); (try clear c26); (try clear c26b0); (try clear c26b1); (try clear c27); (try clear c27b0); (try clear c27b1); (try clear c27b2); (try clear c28); (try clear c28b0); (try clear c28b1); (try clear c29); (try clear c29b0); (try clear c29b1); (try clear c29b2); (try clear hx209_0); (try clear hx209_1); (try clear hx209_2); (try clear hx209_3); (try clear hx209_4); (try clear hx209_5); (try clear hx211_0); (try clear hx211_1); (try clear hx211_2); (try clear hx211_3); (try clear hx211_4); (try clear hx211_5); (try clear hx213_0); (try clear hx213_1); (try clear hx213_2); (try clear hx213_3); (try clear hx213_4); (try clear hx213_5); (try clear p2); (try clear p20); (try clear p209); (try clear p211); (try clear p213); (try clear q2); (try clear q20); (try clear q209); (try clear q211); (try clear q213)
       obtain ⟨x6_2, x8_2, rfl, rfl, HA, HK2, HO_7, HB⟩ := hrel
       cases gk with
       | zero => exact absurd HA.out (by simp [spec_l4Text.l0])
       | succ k2 =>
        have H := HA.out; clear HA; simp only [spec_l4Text.l0] at H; by_cases c32 : x8_2 < (t216.length : Int)
        ·rw [if_pos c32] at H
         have c32b0 : decide (x8_2 < (t216.length : Int)) = true := decide_eq_true c32; clear c32; by_cases c33 : x6_2.size + 1 ≤ 9223372036854775807
         ·rw [if_pos c33] at H
          have c33b0 := eq_true c33; have c33b1 : decide (x6_2.size + 1 ≤ 9223372036854775807) = true := decide_eq_true c33
          try have c33b2 : (9223372036854775807 < x6_2.size + 1) = False := eq_false (Nat.not_lt.2 c33)
          by_cases c34 : 0 ≤ x8_2
          ·rw [if_pos c34] at H
           have c34b0 : decide (0 ≤ x8_2) = true := decide_eq_true c34; clear c34; replace H := Option.bind_eq_some_iff.mp H; obtain ⟨t220, A350, H⟩ := H; (try dsimp -simprocs only at H); have A35 := ak A350; clear A350; by_cases c36 : (x6_2 ++ (⟨#[32]⟩ : ByteArray)).size + t220.size ≤ 9223372036854775807
           ·rw [if_pos c36] at H
            have c36b0 := eq_true c36; have c36b1 : decide ((x6_2 ++ (⟨#[32]⟩ : ByteArray)).size + t220.size ≤ 9223372036854775807) = true := decide_eq_true c36
            try have c36b2 : (9223372036854775807 < (x6_2 ++ (⟨#[32]⟩ : ByteArray)).size + t220.size) = False := eq_false (Nat.not_lt.2 c36)
            have c36s : x6_2.size + 1 + t220.size ≤ 9223372036854775807 := by have z := c36; rw [ByteArray.size_append] at z; exact z
            have c36b3 := eq_true c36s; have c36b4 : (9223372036854775807 < x6_2.size + 1 + t220.size) = False := eq_false (Nat.not_lt.2 c36s); have c36b5 := decide_eq_true c36s; have H' := ak H; clear H; obtain ⟨Ao37, co37, eo37⟩ := Kd.R_slice HO_7.out; subst eo37; have p219 : 0 ≤ (x8_2 : Int) := of_decide_eq_true d9_9; have q219 : x8_2 < (t216.length : Int) := of_decide_eq_true d9_9; obtain ⟨ad219, e219, hx219_0⟩ := Kd.at_int (Kd.R_reads' HO_7.out).2.2 x8_2 p219 q219
            cases e219
            replace p219 := eq_true p219; replace q219 := eq_true q219; go_wp2_with (first | ((with_reducible refine gate_callee (f := 12) rfl ?_); refine goesL_ (some 87) rfl rfl Tryz.func12 (by kernel_rfl) rfl #[.slice (some ad209) l0.length c0, .int .i64 (rd t216 x8_2)] rfl d9_2 ?_; (with_reducible refine (ih k2 (by have := HJ4.out; have := HK2.out; omega) _ _ l0 (rd t216 x8_2) t220 _ ?side1 ?side2 A35.out).mono ?_); (case side1 => exact c9_2); (case side2 => exact HC0.out); rintro e w38 ⟨rfl, hb⟩; refine ⟨_, rfl, ?_⟩; have n0_ := ak (Kd.R_below (by (with_reducible repeat (first | apply Kd.R_alloc | apply Kd.R_drewN | apply Kd.R_drew)); exact HO_7.out) hb); have n1_ := ak (below_step d9_1 hb); clear HO_7 HB; have HO_7 := n0_; have HB := n1_; clear n0_ n1_; (try clear hb))); go_roundg k2
            case measure => have := HJ4.out; have := HK2.out; omega
            case rel => exact ⟨((x6_2 ++ (⟨#[32]⟩ : ByteArray)) ++ t220), (wrap64 (x8_2 + 1)), d9_3, d9_3, H', ⟨by have := HJ4.out; have := HK2.out; omega⟩, ⟨by (with_reducible repeat (first | apply Kd.R_alloc | apply Kd.R_drewN | apply Kd.R_drew)); exact HO_7.out⟩, ⟨c9_1⟩⟩
           ·rw [if_neg c36] at H
            exact absurd H (by simp)
          ·rw [if_neg c34] at H
           exact absurd H (by simp)
         ·rw [if_neg c33] at H
          exact absurd H (by simp)
        ·rw [if_neg c32] at H
         have c32b0 : decide (x8_2 < (t216.length : Int)) = false := decide_eq_false c32; clear c32; by_cases c39 : x6_2.size + 1 ≤ 9223372036854775807
         ·rw [if_pos c39] at H
          have c39b0 := eq_true c39; have c39b1 : decide (x6_2.size + 1 ≤ 9223372036854775807) = true := decide_eq_true c39
          try have c39b2 : (9223372036854775807 < x6_2.size + 1) = False := eq_false (Nat.not_lt.2 c39)
          obtain rfl := Option.some.inj H; obtain ⟨Ao40, co40, eo40⟩ := Kd.R_slice HO_7.out; subst eo40; go_wp2; go_ret; exact ⟨c9_3, c9_1⟩
         ·rw [if_neg c39] at H
          exact absurd H (by simp)
   ·rw [if_neg c4] at H
    exact absurd H (by simp)
  ·rw [if_neg c3] at H
   exact absurd H (by simp)

/-! ### spec_CoreText: function 5 -/
def spec_CoreText.f (k : Nat) (l0 : List (S40)) : Option (Int × ByteArray) := (spec_l4Fault.f k l0).bind fun t222 => (if t222 = 0 then ((spec_l4Text.f k l0 0).bind fun t223 => (if (t223.size : Int) > 1500 then (some (2, (⟨#[]⟩ : ByteArray))) else (some (0, t223)))) else (some (t222, (⟨#[]⟩ : ByteArray))))
theorem spec_CoreText.mono : ∀ a0 k, LeO (spec_CoreText.f k a0) (spec_CoreText.f (k + 1) a0) := by
  intro a0 k; unfold spec_CoreText.f
  repeat' first | (with_reducible first | apply spec_l4Fault.mono | apply spec_l4Text.mono | exact LeO.refl _ | exact LeO.none _ | refine LeO.ite ?_ ?_ | refine LeO.bind ?_ (fun _ => ?_)) | apply spec_l4Fault.mono | apply spec_l4Text.mono | exact LeO.none _ | refine LeO.ite ?_ ?_ | refine LeO.bind ?_ (fun _ => ?_)
theorem spec_CoreText.calls (k : Nat) (A0 : Option Addr) (c0 : Nat) (l0 : List (S40)) (r1 : Int) (r2 : ByteArray) (w : World) (hr0 : Kd.C k40 w A0 l0.length l0) (hc0 : l0.length ≤ c0) (h : spec_CoreText.f k l0 = some (r1, r2)) :
    Calls Tryz.prog 5 #[.slice A0 l0.length c0] w fun e w' => e = .returned (.agg #[.int .i64 r1, .string r2]) ∧ Below w.heap.size w w' := by
  have hu25 := Tryz.underlying25; have HR0 := ak hr0; have HC0 := ak hc0; clear hr0 hc0; have HB := ak (Below.refl w.heap.size w); have H := h; clear h; unfold spec_CoreText.f at H; replace H := Option.bind_eq_some_iff.mp H; obtain ⟨t222, A20, H⟩ := H; (try dsimp -simprocs only at H); have A2 := ak A20; clear A20; by_cases c3 : t222 = 0
  ·rw [if_pos c3] at H
   have c3b0 : (t222 == 0) = true := beq_iff_eq.mpr c3; have c3b1 : (t222 != 0) = false := bne_eq_false_iff_eq.mpr c3; clear c3; replace H := Option.bind_eq_some_iff.mp H; obtain ⟨t223, A40, H⟩ := H; (try dsimp -simprocs only at H); have A4 := ak A40; clear A40; by_cases c5 : (t223.size : Int) > 1500
   ·rw [if_pos c5] at H
    have c5b0 : decide (1500 < (t223.size : Int)) = true := decide_eq_true c5; have c5b1 : decide (1500 < t223.size) = true := decide_eq_true (by omega); clear c5; simp only [Option.some.injEq, Prod.mk.injEq] at H; obtain ⟨rfl, rfl⟩ := H; go_enter Tryz.func5, Tryz.ntmps5
    go_wp2_with (first | ((with_reducible refine gate_dst (N := 2) rfl ?_); refine box_event ?hg (N := 2) ?hd (cs := #[.int .i64 0, .string (⟨#[]⟩ : ByteArray)]) (t := 25) ?hr ?_; (case hd => rfl); (case hg => rfl); (case hr => first | (go_simp; done) | (go_simp; rfl)); intro gb221 hg w6 hbox hb; have n0_ := ak (below_step d9_1 hb); have n1_ := ak (hbox); have n2_ := ak ((by rw [hg]; exact (below_size d9_1) : w.heap.size ≤ gb221)); have n3_ := ak ((by rw [hg]; exact (below_size d9_1) : w.heap.size ≤ gb221)); clear HB; have HB := n0_; have BK221 := n1_; have GW221 := n2_; have GE221 := n3_; clear n0_ n1_ n2_ n3_ hb hbox hg) | ((with_reducible refine gate_callee (f := 11) rfl ?_); refine goesL_ (some 6) rfl rfl Tryz.func11 (by kernel_rfl) rfl #[.slice A0 l0.length c0] rfl d9_2 ?_; (with_reducible refine (spec_l4Fault.calls k _ _ l0 t222 _ ?side1 ?side2 A2.out).mono ?_); (case side1 => exact c9_2); (case side2 => exact HC0.out); rintro e w7 ⟨rfl, hb⟩; refine ⟨_, rfl, ?_⟩; have n0_ := ak (blk_below (g := gb221) (o := .cells #[.int .i64 0, .string (⟨#[]⟩ : ByteArray)] 25 (0, 0)) d9_6 hb); have n1_ := ak (below_step d9_4 hb); clear BK221 HB; have BK221 := n0_; have HB := n1_; clear n0_ n1_; (try clear hb)) | ((with_reducible refine gate_callee (f := 12) rfl ?_); refine goesL_ (some 12) rfl rfl Tryz.func12 (by kernel_rfl) rfl #[.slice A0 l0.length c0, .int .i64 0] rfl d9_2 ?_; (with_reducible refine (spec_l4Text.calls k _ _ l0 0 t223 _ ?side1 ?side2 A4.out).mono ?_); (case side1 => exact c9_2); (case side2 => exact HC0.out); rintro e w8 ⟨rfl, hb⟩; refine ⟨_, rfl, ?_⟩; have n0_ := ak (blk_below (g := gb221) (o := .cells #[.int .i64 0, .string (⟨#[]⟩ : ByteArray)] 25 (0, 0)) d9_6 hb); have n1_ := ak (below_step d9_4 hb); clear BK221 HB; have BK221 := n0_; have HB := n1_; clear n0_ n1_; (try clear hb); have hcz9_0 := z9c BK221.out 0 (v := (.int .i64 0)) rfl; have hcz9_1 := z9c BK221.out 1 (v := (.string (⟨#[]⟩ : ByteArray))) rfl; have hfz9_0 := blk_frozen BK221.out 0; have hfz9_1 := blk_frozen BK221.out 1))
    refine bodyPost_ret (results_cell_row rfl _ _ gb221 25 #[.int .i64 2, .string (⟨#[]⟩ : ByteArray)] (0, 0) _ rfl (by (with_reducible repeat first | apply b9N | apply b9D | apply b9L); refine blk_put (cs := #[.int .i64 2, .string (⟨#[]⟩ : ByteArray)]) ?_ 1 _ rfl; (with_reducible repeat first | apply b9N | apply b9D | apply b9L); refine blk_put (cs := #[.int .i64 0, .string (⟨#[]⟩ : ByteArray)]) ?_ 0 _ rfl; (with_reducible repeat first | apply b9N | apply b9D | apply b9L); exact BK221.out) Tryz.underlying25 rfl (by kernel_rfl)) rfl ?_; exact ⟨c9_3, c9_4⟩
   ·rw [if_neg c5] at H
    have c5b0 : decide (1500 < (t223.size : Int)) = false := decide_eq_false c5; have c5b1 : decide (1500 < t223.size) = false := decide_eq_false (by omega); clear c5; simp only [Option.some.injEq, Prod.mk.injEq] at H; obtain ⟨rfl, rfl⟩ := H; go_enter Tryz.func5, Tryz.ntmps5
    go_wp2_with (first | ((with_reducible refine gate_dst (N := 2) rfl ?_); refine box_event ?hg (N := 2) ?hd (cs := #[.int .i64 0, .string (⟨#[]⟩ : ByteArray)]) (t := 25) ?hr ?_; (case hd => rfl); (case hg => rfl); (case hr => first | (go_simp; done) | (go_simp; rfl)); intro gb221 hg w10 hbox hb; have n0_ := ak (below_step d9_1 hb); have n1_ := ak (hbox); have n2_ := ak ((by rw [hg]; exact (below_size d9_1) : w.heap.size ≤ gb221)); have n3_ := ak ((by rw [hg]; exact (below_size d9_1) : w.heap.size ≤ gb221)); clear HB; have HB := n0_; have BK221 := n1_; have GW221 := n2_; have GE221 := n3_; clear n0_ n1_ n2_ n3_ hb hbox hg) | ((with_reducible refine gate_callee (f := 11) rfl ?_); refine goesL_ (some 6) rfl rfl Tryz.func11 (by kernel_rfl) rfl #[.slice A0 l0.length c0] rfl d9_2 ?_; (with_reducible refine (spec_l4Fault.calls k _ _ l0 t222 _ ?side1 ?side2 A2.out).mono ?_); (case side1 => exact c9_2); (case side2 => exact HC0.out); rintro e w11 ⟨rfl, hb⟩; refine ⟨_, rfl, ?_⟩; have n0_ := ak (blk_below (g := gb221) (o := .cells #[.int .i64 0, .string (⟨#[]⟩ : ByteArray)] 25 (0, 0)) d9_6 hb); have n1_ := ak (below_step d9_4 hb); clear BK221 HB; have BK221 := n0_; have HB := n1_; clear n0_ n1_; (try clear hb)) | ((with_reducible refine gate_callee (f := 12) rfl ?_); refine goesL_ (some 12) rfl rfl Tryz.func12 (by kernel_rfl) rfl #[.slice A0 l0.length c0, .int .i64 0] rfl d9_2 ?_; (with_reducible refine (spec_l4Text.calls k _ _ l0 0 t223 _ ?side1 ?side2 A4.out).mono ?_); (case side1 => exact c9_2); (case side2 => exact HC0.out); rintro e w12 ⟨rfl, hb⟩; refine ⟨_, rfl, ?_⟩; have n0_ := ak (blk_below (g := gb221) (o := .cells #[.int .i64 0, .string (⟨#[]⟩ : ByteArray)] 25 (0, 0)) d9_6 hb); have n1_ := ak (below_step d9_4 hb); clear BK221 HB; have BK221 := n0_; have HB := n1_; clear n0_ n1_; (try clear hb); have hcz13_0 := z9c BK221.out 0 (v := (.int .i64 0)) rfl; have hcz13_1 := z9c BK221.out 1 (v := (.string (⟨#[]⟩ : ByteArray))) rfl; have hfz13_0 := blk_frozen BK221.out 0; have hfz13_1 := blk_frozen BK221.out 1))
    refine bodyPost_ret (results_cell_row rfl _ _ gb221 25 #[.int .i64 0, .string t223] (0, 0) _ rfl (by (with_reducible repeat first | apply b9N | apply b9D | apply b9L); refine blk_put (cs := #[.int .i64 0, .string (⟨#[]⟩ : ByteArray)]) ?_ 1 _ rfl; (with_reducible repeat first | apply b9N | apply b9D | apply b9L); refine blk_put (cs := #[.int .i64 0, .string (⟨#[]⟩ : ByteArray)]) ?_ 0 _ rfl; (with_reducible repeat first | apply b9N | apply b9D | apply b9L); exact BK221.out) Tryz.underlying25 rfl (by kernel_rfl)) rfl ?_; exact ⟨c9_3, c9_4⟩
  ·rw [if_neg c3] at H
   have c3b0 : (t222 == 0) = false := beq_eq_false_iff_ne.mpr c3; have c3b1 : (t222 != 0) = true := bne_iff_ne.mpr c3; simp only [Option.some.injEq, Prod.mk.injEq] at H; obtain ⟨rfl, rfl⟩ := H; go_enter Tryz.func5, Tryz.ntmps5
   go_wp2_with (first | ((with_reducible refine gate_dst (N := 2) rfl ?_); refine box_event ?hg (N := 2) ?hd (cs := #[.int .i64 0, .string (⟨#[]⟩ : ByteArray)]) (t := 25) ?hr ?_; (case hd => rfl); (case hg => rfl); (case hr => first | (go_simp; done) | (go_simp; rfl)); intro gb221 hg w14 hbox hb; have n0_ := ak (below_step d9_1 hb); have n1_ := ak (hbox); have n2_ := ak ((by rw [hg]; exact (below_size d9_1) : w.heap.size ≤ gb221)); have n3_ := ak ((by rw [hg]; exact (below_size d9_1) : w.heap.size ≤ gb221)); clear HB; have HB := n0_; have BK221 := n1_; have GW221 := n2_; have GE221 := n3_; clear n0_ n1_ n2_ n3_ hb hbox hg) | ((with_reducible refine gate_callee (f := 11) rfl ?_); refine goesL_ (some 6) rfl rfl Tryz.func11 (by kernel_rfl) rfl #[.slice A0 l0.length c0] rfl d9_2 ?_; (with_reducible refine (spec_l4Fault.calls k _ _ l0 t222 _ ?side1 ?side2 A2.out).mono ?_); (case side1 => exact c9_2); (case side2 => exact HC0.out); rintro e w15 ⟨rfl, hb⟩; refine ⟨_, rfl, ?_⟩; have n0_ := ak (blk_below (g := gb221) (o := .cells #[.int .i64 0, .string (⟨#[]⟩ : ByteArray)] 25 (0, 0)) d9_6 hb); have n1_ := ak (below_step d9_4 hb); clear BK221 HB; have BK221 := n0_; have HB := n1_; clear n0_ n1_; (try clear hb); have hcz16_0 := z9c BK221.out 0 (v := (.int .i64 0)) rfl; have hcz16_1 := z9c BK221.out 1 (v := (.string (⟨#[]⟩ : ByteArray))) rfl; have hfz16_0 := blk_frozen BK221.out 0; have hfz16_1 := blk_frozen BK221.out 1))
   refine bodyPost_ret (results_cell_row rfl _ _ gb221 25 #[.int .i64 t222, .string (⟨#[]⟩ : ByteArray)] (0, 0) _ rfl (by (with_reducible repeat first | apply b9N | apply b9D | apply b9L); refine blk_put (cs := #[.int .i64 t222, .string (⟨#[]⟩ : ByteArray)]) ?_ 1 _ rfl; (with_reducible repeat first | apply b9N | apply b9D | apply b9L); refine blk_put (cs := #[.int .i64 0, .string (⟨#[]⟩ : ByteArray)]) ?_ 0 _ rfl; (with_reducible repeat first | apply b9N | apply b9D | apply b9L); exact BK221.out) Tryz.underlying25 rfl (by kernel_rfl)) rfl ?_; exact ⟨c9_3, c9_4⟩

/-! ### laws_toDatum: function 41 -/
def laws_toDatum.f (a0_0 : Int) (a0_1 : Int) (a0_2 : Int) (a0_3 : ByteArray) : Option (Int × Int × Int × ByteArray) := some (a0_0, a0_1, a0_2, a0_3)
theorem laws_toDatum.calls (a0_0 : Int) (a0_1 : Int) (a0_2 : Int) (a0_3 : ByteArray) (r1 : Int) (r2 : Int) (r3 : Int) (r4 : ByteArray) (w : World) (h : laws_toDatum.f a0_0 a0_1 a0_2 a0_3 = some (r1, r2, r3, r4)) :
    Calls Tryz.prog 41 #[.agg #[.int .i64 a0_0, .int .i64 a0_1, .int .i64 a0_2, .string a0_3]] w fun e w' => e = .returned (.agg #[.int .i64 r1, .int .i64 r2, .int .i64 r3, .string r4]) ∧ Below w.heap.size w w' := by
  have hu61 := Tryz.underlying61; have hu69 := Tryz.underlying69; have HB := ak (Below.refl w.heap.size w); have H := h; clear h; unfold laws_toDatum.f at H; simp only [Option.some.injEq, Prod.mk.injEq] at H; obtain ⟨rfl, rfl, rfl, rfl⟩ := H; go_enter Tryz.func41, Tryz.ntmps41
  go_wp2_with (first | ((with_reducible refine gate_dst (N := 1) rfl ?_); refine box_event ?hg (N := 1) ?hd (cs := #[.int .i64 a0_0, .int .i64 a0_1, .int .i64 a0_2, .string a0_3]) (t := 61) ?hr ?_; (case hd => rfl); (case hg => rfl); (case hr => first | (go_simp; done) | (go_simp; rfl)); intro gb224 hg w2 hbox hb; have n0_ := ak (below_step d9_1 hb); have n1_ := ak (hbox); have n2_ := ak ((by rw [hg]; exact (below_size d9_1) : w.heap.size ≤ gb224)); have n3_ := ak ((by rw [hg]; exact (below_size d9_1) : w.heap.size ≤ gb224)); clear HB; have HB := n0_; have BK224 := n1_; have GW224 := n2_; have GE224 := n3_; clear n0_ n1_ n2_ n3_ hb hbox hg) | ((with_reducible refine gate_dst (N := 2) rfl ?_); refine box_event ?hg (N := 2) ?hd (cs := #[.int .i64 0, .int .i64 0, .int .i64 0, .string (⟨#[]⟩ : ByteArray)]) (t := 69) ?hr ?_; (case hd => rfl); (case hg => rfl); (case hr => first | (go_simp; done) | (go_simp; rfl)); intro gb225 hg w3 hbox hb; have n0_ := ak (blk_below (g := gb224) (o := .cells #[.int .i64 a0_0, .int .i64 a0_1, .int .i64 a0_2, .string a0_3] 61 (0, 0)) d9_5 hb); have n1_ := ak (below_step d9_8 hb); have n2_ := ak (hbox); have n3_ := ak ((by rw [hg]; exact (below_size d9_8) : w.heap.size ≤ gb225)); have n4_ := ak ((by rw [hg]; exact (below_size d9_8) : w.heap.size ≤ gb225)); have n5_ := ak ((by rw [hg]; exact Nat.ne_of_lt (blk_lt (g := gb224) (o := .cells #[.int .i64 a0_0, .int .i64 a0_1, .int .i64 a0_2, .string a0_3] 61 (0, 0)) d9_5) : gb224 ≠ gb225)); have n6_ := ak ((by rw [hg]; exact Nat.ne_of_gt (blk_lt (g := gb224) (o := .cells #[.int .i64 a0_0, .int .i64 a0_1, .int .i64 a0_2, .string a0_3] 61 (0, 0)) d9_5) : gb225 ≠ gb224)); clear BK224 HB; have BK224 := n0_; have HB := n1_; have BK225 := n2_; have GW225 := n3_; have GE225 := n4_; have NB224_225 := n5_; have NB225_224 := n6_; clear n0_ n1_ n2_ n3_ n4_ n5_ n6_ hb hbox hg) | ((with_reducible refine gate_dst (N := 3) rfl ?_); refine box_event ?hg (N := 3) ?hd (cs := #[.int .i64 0, .int .i64 0, .int .i64 0, .string (⟨#[]⟩ : ByteArray)]) (t := 69) ?hr ?_; (case hd => rfl); (case hg => rfl); (case hr => first | (go_simp; done) | (go_simp; rfl)); intro gb226 hg w4 hbox hb; have n0_ := ak (blk_below (g := gb224) (o := .cells #[.int .i64 a0_0, .int .i64 a0_1, .int .i64 a0_2, .string a0_3] 61 (0, 0)) d9_5 hb); have n1_ := ak (blk_below (g := gb225) (o := .cells #[.int .i64 0, .int .i64 0, .int .i64 0, .string (⟨#[]⟩ : ByteArray)] 69 (0, 0)) (by (with_reducible repeat first | apply b9N | apply b9D | apply b9L); exact BK225.out) hb); have n2_ := ak (below_step d9_7 hb); have n3_ := ak (hbox); have n4_ := ak ((by rw [hg]; exact (below_size d9_7) : w.heap.size ≤ gb226)); have n5_ := ak ((by rw [hg]; exact (below_size d9_7) : w.heap.size ≤ gb226)); have n6_ := ak ((by rw [hg]; exact Nat.ne_of_lt (blk_lt (g := gb224) (o := .cells #[.int .i64 a0_0, .int .i64 a0_1, .int .i64 a0_2, .string a0_3] 61 (0, 0)) d9_5) : gb224 ≠ gb226)); have n7_ := ak ((by rw [hg]; exact Nat.ne_of_gt (blk_lt (g := gb224) (o := .cells #[.int .i64 a0_0, .int .i64 a0_1, .int .i64 a0_2, .string a0_3] 61 (0, 0)) d9_5) : gb226 ≠ gb224)); have n8_ := ak ((by rw [hg]; exact Nat.ne_of_lt (blk_lt (g := gb225) (o := .cells #[.int .i64 0, .int .i64 0, .int .i64 0, .string (⟨#[]⟩ : ByteArray)] 69 (0, 0)) (by (with_reducible repeat first | apply b9N | apply b9D | apply b9L); exact BK225.out)) : gb225 ≠ gb226)); have n9_ := ak ((by rw [hg]; exact Nat.ne_of_gt (blk_lt (g := gb225) (o := .cells #[.int .i64 0, .int .i64 0, .int .i64 0, .string (⟨#[]⟩ : ByteArray)] 69 (0, 0)) (by (with_reducible repeat first | apply b9N | apply b9D | apply b9L); exact BK225.out)) : gb226 ≠ gb225)); clear BK224 BK225 HB; have BK224 := n0_; have BK225 := n1_; have HB := n2_; have BK226 := n3_; have GW226 := n4_; have GE226 := n5_; have NB224_226 := n6_; have NB226_224 := n7_; have NB225_226 := n8_; have NB226_225 := n9_; clear n0_ n1_ n2_ n3_ n4_ n5_ n6_ n7_ n8_ n9_ hb hbox hg; have hnb5 := NB224_225.out; have hnc5 := NB225_224.out; have hnb6 := NB224_226.out; have hnc6 := NB226_224.out; have hcz7_0 := z9c BK224.out 0 (v := (.int .i64 a0_0)) rfl; have hcz7_1 := z9c BK224.out 1 (v := (.int .i64 a0_1)) rfl; have hcz7_2 := z9c BK224.out 2 (v := (.int .i64 a0_2)) rfl; have hcz7_3 := z9c BK224.out 3 (v := (.string a0_3)) rfl; have hfz7_0 := blk_frozen BK224.out 0; have hfz7_1 := blk_frozen BK224.out 1; have hfz7_2 := blk_frozen BK224.out 2; have hfz7_3 := blk_frozen BK224.out 3; have hnb8 := NB226_225.out; have hnc8 := NB225_226.out; have hcz9_0 := z9c BK226.out 0 (v := (.int .i64 0)) rfl; have hcz9_1 := z9c BK226.out 1 (v := (.int .i64 0)) rfl; have hcz9_2 := z9c BK226.out 2 (v := (.int .i64 0)) rfl; have hcz9_3 := z9c BK226.out 3 (v := (.string (⟨#[]⟩ : ByteArray))) rfl; have hfz9_0 := blk_frozen BK226.out 0; have hfz9_1 := blk_frozen BK226.out 1; have hfz9_2 := blk_frozen BK226.out 2; have hfz9_3 := blk_frozen BK226.out 3; have hcz10_0 := z9c BK225.out 0 (v := (.int .i64 0)) rfl; have hcz10_1 := z9c BK225.out 1 (v := (.int .i64 0)) rfl; have hcz10_2 := z9c BK225.out 2 (v := (.int .i64 0)) rfl; have hcz10_3 := z9c BK225.out 3 (v := (.string (⟨#[]⟩ : ByteArray))) rfl; have hfz10_0 := blk_frozen BK225.out 0; have hfz10_1 := blk_frozen BK225.out 1; have hfz10_2 := blk_frozen BK225.out 2; have hfz10_3 := blk_frozen BK225.out 3))
  refine bodyPost_ret (results_cell_row rfl _ _ gb225 69 #[.int .i64 a0_0, .int .i64 a0_1, .int .i64 a0_2, .string a0_3] (0, 0) _ rfl (by (with_reducible repeat first | apply b9N | apply b9D | apply b9L); refine blk_put (cs := #[.int .i64 a0_0, .int .i64 a0_1, .int .i64 a0_2, .string (⟨#[]⟩ : ByteArray)]) ?_ 3 _ rfl; (with_reducible repeat first | apply b9N | apply b9D | apply b9L); refine blk_put (cs := #[.int .i64 a0_0, .int .i64 a0_1, .int .i64 0, .string (⟨#[]⟩ : ByteArray)]) ?_ 2 _ rfl; (with_reducible repeat first | apply b9N | apply b9D | apply b9L); refine blk_put (cs := #[.int .i64 a0_0, .int .i64 0, .int .i64 0, .string (⟨#[]⟩ : ByteArray)]) ?_ 1 _ rfl; (with_reducible repeat first | apply b9N | apply b9D | apply b9L); refine blk_put (cs := #[.int .i64 0, .int .i64 0, .int .i64 0, .string (⟨#[]⟩ : ByteArray)]) ?_ 0 _ rfl; (with_reducible repeat first | apply b9N | apply b9D | apply b9L); refine blk_far ?_ NB225_226.out _; (with_reducible repeat first | apply b9N | apply b9D | apply b9L); refine blk_far ?_ NB225_226.out _; (with_reducible repeat first | apply b9N | apply b9D | apply b9L); refine blk_far ?_ NB225_226.out _; (with_reducible repeat first | apply b9N | apply b9D | apply b9L); refine blk_far ?_ NB225_226.out _; (with_reducible repeat first | apply b9N | apply b9D | apply b9L); exact BK225.out) Tryz.underlying69 rfl (by kernel_rfl)) rfl ?_
  exact ⟨c9_3, by repeat (first | (with_reducible first | exact HB.out | apply below_alloc | apply pw_below_drewN | apply below_drew1 | refine below_set ?_ GE224.out | refine below_set ?_ GE225.out | refine below_set ?_ GE226.out) | exact HB.out)⟩

end Go.Proofs.YtgnenhehcdekkadGreatDoor.A
