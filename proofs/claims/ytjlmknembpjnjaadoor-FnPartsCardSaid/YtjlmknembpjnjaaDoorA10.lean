/- Walks of the program's functions: each Go function's answer as a plain Lean function, and that the call comes to it. Written by a program. Conditions: those in each theorem's own head. -/
import Derived.Test.YtjlmknembpjnjaaDoorA0
import Derived.Test.YtjlmknembpjnjaaDoorA7
import Derived.Test.YtjlmknembpjnjaaDoorA9
namespace Go.Proofs.YtjlmknembpjnjaaDoor.A
open Go.RowKit Go.Proofs.YtjlmknembpjnjaaDoorW.PrintWords Go.Proofs.YtjlmknembpjnjaaDoorW.PrintLast Go.Proofs.YtjlmknembpjnjaaDoorW.PrintMore
attribute [local go_sem] max2_int min2_int max_two min_two max_three min_three max_four min_four   -- for this text's walks alone
set_option linter.unusedVariables false
set_option linter.unusedSimpArgs false

theorem d10_1 {p : Prop} (h : p := by repeat (first | (with_reducible first | exact HB.out | apply below_alloc | apply pw_below_drewN | apply below_drew1) | exact HB.out)) : p := h
theorem d10_2 {p : Prop} (h : p := by (try simp only [List.map_toArray, List.map_cons, List.map_nil]); first | done | rfl | (simp only [List.length_drop, List.length_take]; rfl)) : p := h
theorem d10_3 {p : Prop} (h : p := by first | (with_reducible assumption) | assumption) : p := h
theorem d10_4 {p : Prop} (h : p := by repeat (first | (with_reducible first | exact HB.out | apply below_alloc | apply pw_below_drewN | apply below_drew1 | refine below_set ?_ GE347.out) | exact HB.out)) : p := h
theorem d10_5 {p : Prop} (h : p := by first | rfl | (simp; done) | (simp [*]; done) | (simp [ne_nil_b, eq_nil_b]; done)) : p := h
theorem d10_6 {p : Prop} (h : p := by (with_reducible repeat (first | refine blk_drewN ?_ _ | refine blk_drew ?_ | refine blk_alloc ?_ _)); exact BK347.out) : p := h
theorem c10_1 {p : Prop} (h : p := by repeat (first | (with_reducible first | exact HB.out | apply below_alloc | apply pw_below_drewN | apply below_drew1) | exact HB.out)) : p := h
theorem c10_2 {p : Prop} (h : p := by repeat (first | exact (Kd.C_below HR0.out HB.out) | (with_reducible refine Kd.C_alloc ?_ _) | (with_reducible refine Kd.C_drewN ?_ _) | (with_reducible refine Kd.C_drew ?_))) : p := h
theorem c10_3 {p : Prop} (h : p := by first | rfl | (simp [errW_none, errW_some] <;> rfl) | (simp [*, errW_none, errW_some] <;> rfl)) : p := h
theorem c10_4 {p : Prop} (h : p := by repeat (first | (with_reducible first | exact HB.out | apply below_alloc | apply pw_below_drewN | apply below_drew1 | refine below_set ?_ GE347.out) | exact HB.out)) : p := h
set_option maxHeartbeats 8000000
set_option maxRecDepth 100000
theorem z10c {w : World} {g : Nat} {t : TypeId} {cs : Array Value} (h : w.heap[g]? = some (.cells cs t (0, 0))) (i : Nat) {v : Value} (e : cs[i]? = some v) : w.cell? ⟨g, i, none⟩ = some v := (blk_cell h i).trans e

/-! ### spec_l3Parts: function 42 -/
def spec_l3Parts.l0 : Nat → List (S45) → Int → List Int → Int → Option (List Int)
  | 0, _, _, _, _ => none
  | k + 1, x0, x1, x5, x6 => if x6 < (x0.length : Int) then (if 0 ≤ x6 then (if ((rd_T45 x0 x6).f1) = x1 then (if x5.length < 17592186044416 then (spec_l3Parts.l0 k x0 x1 (x5 ++ [x6]) (wrap64 (x6 + 1))) else (none)) else (spec_l3Parts.l0 k x0 x1 x5 (wrap64 (x6 + 1)))) else (none)) else (some x5)
def spec_l3Parts.f (k : Nat) (l0 : List (S45)) (a1 : Int) : Option (List Int) := spec_l3Parts.l0 k l0 a1 (([] : List Int)) 0
theorem spec_l3Parts.mono_l : ∀ k, (∀ y0 y1 y2 y3, LeO (spec_l3Parts.l0 k y0 y1 y2 y3) (spec_l3Parts.l0 (k + 1) y0 y1 y2 y3))
  | 0 => fun _ _ _ _ r h => by simp [spec_l3Parts.l0] at h
  | k + 1 => by
    have ih0 := spec_l3Parts.mono_l k
    · intro y0 y1 y2 y3
      unfold spec_l3Parts.l0
      repeat' first | (with_reducible first | apply ih0 | exact LeO.refl _ | exact LeO.none _ | refine LeO.ite ?_ ?_ | refine LeO.bind ?_ (fun _ => ?_)) | apply ih0 | exact LeO.none _ | refine LeO.ite ?_ ?_ | refine LeO.bind ?_ (fun _ => ?_)
theorem spec_l3Parts.mono : ∀ a0 a1 k, LeO (spec_l3Parts.f k a0 a1) (spec_l3Parts.f (k + 1) a0 a1) := by
  intro a0 a1 k; have ih0 := spec_l3Parts.mono_l k; unfold spec_l3Parts.f
  repeat' first | (with_reducible first | apply ih0 | exact LeO.refl _ | exact LeO.none _ | refine LeO.ite ?_ ?_ | refine LeO.bind ?_ (fun _ => ?_)) | apply ih0 | exact LeO.none _ | refine LeO.ite ?_ ?_ | refine LeO.bind ?_ (fun _ => ?_)
theorem spec_l3Parts.calls (k : Nat) (A0 : Option Addr) (c0 : Nat) (l0 : List (S45)) (a1 : Int) (r : List Int) (w : World) (hr0 : Kd.C k45 w A0 l0.length l0) (hc0 : l0.length ≤ c0) (h : spec_l3Parts.f k l0 a1 = some r) :
    Calls Tryd.prog 42 #[.slice A0 l0.length c0, .int .i64 a1] w fun e w' => ∃ v0_ : Value, e = .returned (v0_) ∧ Kd.R (Kd.int .i64) 2 w' w.heap.size (fun _ => True) v0_ r ∧ Below w.heap.size w w' := by
  have HR0 := ak hr0; have HC0 := ak hc0; clear hr0 hc0; have HB := ak (Below.refl w.heap.size w); have H := h; clear h; unfold spec_l3Parts.f at H; obtain ⟨y326, hy326⟩ : ∃ y_ : List Int, y_ = (([] : List Int)) := ⟨_, rfl⟩
  replace H : (spec_l3Parts.l0 k l0 a1 y326 0) = some r := by first | (rw [hy326]; with_reducible exact H) | (have H2_ := (Option.bind_some _ _).symm.trans H; rw [hy326]; with_reducible exact H2_) | (have H2_ := (Option.bind_some _ _).symm.trans H; with_reducible exact H2_) | with_reducible exact H | (rw [hy326]; exact H) | exact H
  have Ny326 := ak hy326; clear hy326; have H' := ak H; clear H; go_enter Tryd.func42, Tryd.ntmps42; go_wp2_with (first | ((with_reducible refine gate_dst (N := 7) rfl ?_); refine Kd.R_lit (Kd.int .i64) _ 2 ?hg (N := 7) ?hd (xs := ([] : List Int)) (inner := []) (ok := fun _ => True) (okp := fun _ => True) ?hr ?hp (fun _ hk => hk) trivial (Below.refl _ _) (Nat.le_refl _) (by simp) ?_; (case hd => rfl); (case hg => rfl); (case hr => first | (go_simp; done) | (go_simp; rfl)); (case hp => exact (Reps.none _ _)); intro v327 w3 ho4 hb hg_ hnew_; clear hg_ hnew_; (first | rw [← Ny326.out] at ho4 | (simp only [Int.reduceToNat] at ho4; rw [← Ny326.out] at ho4)); have n0_ := ak (Kd.R_lower ho4 (below_size d10_1)); have n1_ := ak (below_step d10_1 hb); clear HB; have HO328 := n0_; have HB := n1_; clear n0_ n1_ hb ho4)); go_loopg [5, 6] k (fun kq v5 v6 w' => ∃ (x5_1 : List Int) (x6_1 : Int), v6 = .int .i64 x6_1 ∧ Aside0 (spec_l3Parts.l0 kq l0 a1 x5_1 x6_1 = some r) ∧ Aside0 (kq ≤ k) ∧ Aside0 (Kd.R (Kd.int .i64) 2 w' w.heap.size (fun _ => True) v5 x5_1) ∧ Aside0 (Below w.heap.size w w'))
  case atStart => exact ⟨(y326), (0), d10_5, H', ⟨Nat.le_refl _⟩, ⟨by (with_reducible repeat (first | apply Kd.R_alloc | apply Kd.R_drewN | apply Kd.R_drew)); exact HO328.out⟩, ⟨c10_1⟩⟩
  case round =>
   clear H'
   (try clear p2); (try clear c4)
   obtain ⟨x5_1, x6_1, rfl, HA, HK1, HO_5, HB⟩ := hrel
   cases gk with
   | zero => exact absurd HA.out (by simp [spec_l3Parts.l0])
   | succ k1 =>
    have H := HA.out; clear HA; simp only [spec_l3Parts.l0] at H; by_cases c5 : x6_1 < (l0.length : Int)
    ·rw [if_pos c5] at H
     have c5b0 : decide (x6_1 < (l0.length : Int)) = true := decide_eq_true c5; clear c5; by_cases c6 : 0 ≤ x6_1
     ·rw [if_pos c6] at H
      have c6b0 : decide (0 ≤ x6_1) = true := decide_eq_true c6; clear c6; by_cases c7 : ((rd_T45 l0 x6_1).f1) = a1
      ·rw [if_pos c7] at H
       have c7b0 : (((rd_T45 l0 x6_1).f1) == a1) = true := beq_iff_eq.mpr c7; have c7b1 : (((rd_T45 l0 x6_1).f1) != a1) = false := bne_eq_false_iff_eq.mpr c7; clear c7; by_cases c8 : x5_1.length < 17592186044416
       ·rw [if_pos c8] at H
        have LMc8 := ak c8; clear c8; obtain ⟨y330, hy330⟩ : ∃ y_ : List Int, y_ = (x5_1 ++ [x6_1]) := ⟨_, rfl⟩
        replace H : (spec_l3Parts.l0 k1 l0 a1 y330 (wrap64 (x6_1 + 1))) = some r := by first | (rw [hy330]; with_reducible exact H) | (have H2_ := (Option.bind_some _ _).symm.trans H; rw [hy330]; with_reducible exact H2_) | (have H2_ := (Option.bind_some _ _).symm.trans H; with_reducible exact H2_) | with_reducible exact H | (rw [hy330]; exact H) | exact H
        have Ny330 := ak hy330; clear hy330; have H' := ak H; clear H; have p329 : 0 ≤ (x6_1 : Int) := of_decide_eq_true d10_3; have q329 : x6_1 < (l0.length : Int) := of_decide_eq_true d10_3; obtain ⟨ad329, e329, hx329_0, hx329_1, hx329_2, hx329_3⟩ := at_T45 HR0.out x6_1 p329 q329
        cases e329
        replace hx329_0 := (HB.out.cell (World.block_lt_of_cell? w _ hx329_0)).trans hx329_0; replace hx329_1 := (HB.out.cell (World.block_lt_of_cell? w _ hx329_1)).trans hx329_1; replace hx329_2 := (HB.out.cell (World.block_lt_of_cell? w _ hx329_2)).trans hx329_2; replace hx329_3 := (HB.out.cell (World.block_lt_of_cell? w _ hx329_3)).trans hx329_3; replace p329 := eq_true p329; replace q329 := eq_true q329; go_wp2_with (first | ((with_reducible refine gate_builtin (b := .append) (xs := #[.tmp 21, .tmp 23]) rfl ?_); at_builtin; refine Kd.R_append (Kd.int .i64) (w0 := w) w.heap.size rfl (.tmp 21) (.tmp 23) 30 2 (.int .i64 0) 8 rfl Tryd.underlying30 info2 rfl (by decide) (by omega) u5 x5_1 x6_1 [.int .i64 x6_1] (fun _ => True) (fun _ => False) rfl rfl ?aP (fun _ hk => hk.elim) ?aF ?aO ?aB ?aS ?aL ?_; (case aP => exact rfl); (case aB => exact d10_1); (case aF => exact (fun _ _ => trivial)); (case aO => exact (by (with_reducible repeat (first | apply Kd.R_alloc | apply Kd.R_drewN | apply Kd.R_drew)); exact HO_5.out)); (case aS => exact (below_size d10_1)); (case aL => have := LMc8.out; omega); intro v331 w9 ho hb hg hat; rw [← Ny330.out] at ho; have n0_ := ak (hb); have n1_ := ak (ho); clear HB HO_5; have HB := n0_; have HO332 := n1_; clear n0_ n1_ ho hb hg hat)); go_roundg k1
        case measure => have := HK1.out; omega
        case rel => exact ⟨(y330), (wrap64 (x6_1 + 1)), d10_5, H', ⟨by have := HK1.out; omega⟩, ⟨by (with_reducible repeat (first | apply Kd.R_alloc | apply Kd.R_drewN | apply Kd.R_drew)); exact HO332.out⟩, ⟨c10_1⟩⟩
       ·rw [if_neg c8] at H
        exact absurd H (by simp)
      ·rw [if_neg c7] at H
       have c7b0 : (((rd_T45 l0 x6_1).f1) == a1) = false := beq_eq_false_iff_ne.mpr c7; have c7b1 : (((rd_T45 l0 x6_1).f1) != a1) = true := bne_iff_ne.mpr c7; have H' := ak H; clear H; have p329 : 0 ≤ (x6_1 : Int) := of_decide_eq_true d10_3; have q329 : x6_1 < (l0.length : Int) := of_decide_eq_true d10_3; obtain ⟨ad329, e329, hx329_0, hx329_1, hx329_2, hx329_3⟩ := at_T45 HR0.out x6_1 p329 q329
       cases e329
       replace hx329_0 := (HB.out.cell (World.block_lt_of_cell? w _ hx329_0)).trans hx329_0; replace hx329_1 := (HB.out.cell (World.block_lt_of_cell? w _ hx329_1)).trans hx329_1; replace hx329_2 := (HB.out.cell (World.block_lt_of_cell? w _ hx329_2)).trans hx329_2; replace hx329_3 := (HB.out.cell (World.block_lt_of_cell? w _ hx329_3)).trans hx329_3; replace p329 := eq_true p329; replace q329 := eq_true q329; go_wp2; go_roundg k1
       case measure => have := HK1.out; omega
       case rel => exact ⟨(x5_1), (wrap64 (x6_1 + 1)), d10_5, H', ⟨by have := HK1.out; omega⟩, ⟨by (with_reducible repeat (first | apply Kd.R_alloc | apply Kd.R_drewN | apply Kd.R_drew)); exact HO_5.out⟩, ⟨c10_1⟩⟩
     ·rw [if_neg c6] at H
      exact absurd H (by simp)
    ·rw [if_neg c5] at H
     have c5b0 : decide (x6_1 < (l0.length : Int)) = false := decide_eq_false c5; clear c5; obtain rfl := Option.some.inj H; go_wp2; go_ret; exact ⟨_, c10_3, by (with_reducible repeat (first | apply Kd.R_alloc | apply Kd.R_drewN | apply Kd.R_drew)); exact HO_5.out, c10_1⟩

/-! ### spec_l3Write: function 24 -/
mutual
def spec_l3Write.l0 : Nat → List (S45) → ByteArray → List Int → Int → Option (ByteArray)
  | 0, _, _, _, _ => none
  | k + 1, x0, x6, x7, x8 => if x8 < (x7.length : Int) then (if x8 > 0 then (if x6.size + 1 ≤ 9223372036854775807 then (if 0 ≤ x8 then ((spec_l3Write.f k x0 (rd x7 x8)).bind fun t344 => (if (x6 ++ (⟨#[32]⟩ : ByteArray)).size + t344.size ≤ 9223372036854775807 then (spec_l3Write.l0 k x0 ((x6 ++ (⟨#[32]⟩ : ByteArray)) ++ t344) x7 (wrap64 (x8 + 1))) else (none))) else (none)) else (none)) else (if 0 ≤ x8 then ((spec_l3Write.f k x0 (rd x7 x8)).bind fun t346 => (if x6.size + t346.size ≤ 9223372036854775807 then (spec_l3Write.l0 k x0 (x6 ++ t346) x7 (wrap64 (x8 + 1))) else (none))) else (none))) else (if x6.size + 1 ≤ 9223372036854775807 then (some (x6 ++ (⟨#[41]⟩ : ByteArray))) else (none))
def spec_l3Write.f : Nat → List (S45) → Int → Option (ByteArray)
  | 0, _, _ => none
  | k + 1, l0, a1 => if 0 ≤ a1 then (if a1 < (l0.length : Int) then (if ((rd_T45 l0 a1).f0) = 1 then ((spec_l1Digits.f k ((rd_T45 l0 a1).f2)).bind fun t334 => (some t334)) else (if ((rd_T45 l0 a1).f0) = 2 then ((some (([(⟨#[35, 102]⟩ : ByteArray), (⟨#[35, 116]⟩ : ByteArray)] : List ByteArray) : List ByteArray)).bind fun y335 => (if 0 ≤ ((rd_T45 l0 a1).f2) then (if ((rd_T45 l0 a1).f2) < (y335.length : Int) then (some (rdOf ByteArray.empty y335 ((rd_T45 l0 a1).f2))) else (none)) else (none))) else (if ((rd_T45 l0 a1).f0) = 3 then (some ((rd_T45 l0 a1).f3)) else ((spec_l3Parts.f k l0 a1).bind fun t340 => (spec_l3Write.l0 k l0 (⟨#[40]⟩ : ByteArray) t340 0))))) else (none)) else (none)
end
theorem spec_l3Write.mono_l : ∀ k, (∀ y0 y1, LeO (spec_l3Write.f k y0 y1) (spec_l3Write.f (k + 1) y0 y1)) ∧ (∀ y0 y1 y2 y3, LeO (spec_l3Write.l0 k y0 y1 y2 y3) (spec_l3Write.l0 (k + 1) y0 y1 y2 y3))
  | 0 => ⟨fun _ _ r h => by simp [spec_l3Write.f] at h, fun _ _ _ _ r h => by simp [spec_l3Write.l0] at h⟩
  | k + 1 => by
    obtain ⟨ih0, ih1⟩ := spec_l3Write.mono_l k; refine ⟨?_, ?_⟩
    · intro y0 y1
      unfold spec_l3Write.f
      repeat' first | (with_reducible first | apply ih0 | apply ih1 | apply spec_l1Digits.mono | apply spec_l3Parts.mono | exact LeO.refl _ | exact LeO.none _ | refine LeO.ite ?_ ?_ | refine LeO.bind ?_ (fun _ => ?_)) | apply ih0 | apply ih1 | apply spec_l1Digits.mono | apply spec_l3Parts.mono | exact LeO.none _ | refine LeO.ite ?_ ?_ | refine LeO.bind ?_ (fun _ => ?_)
    · intro y0 y1 y2 y3
      unfold spec_l3Write.l0
      repeat' first | (with_reducible first | apply ih0 | apply ih1 | apply spec_l1Digits.mono | apply spec_l3Parts.mono | exact LeO.refl _ | exact LeO.none _ | refine LeO.ite ?_ ?_ | refine LeO.bind ?_ (fun _ => ?_)) | apply ih0 | apply ih1 | apply spec_l1Digits.mono | apply spec_l3Parts.mono | exact LeO.none _ | refine LeO.ite ?_ ?_ | refine LeO.bind ?_ (fun _ => ?_)
theorem spec_l3Write.mono : ∀ a0 a1 k, LeO (spec_l3Write.f k a0 a1) (spec_l3Write.f (k + 1) a0 a1) := by
  intro a0 a1 k; obtain ⟨ih0, ih1⟩ := spec_l3Write.mono_l k; exact ih0 a0 a1
theorem spec_l3Write.calls (k : Nat) : ∀ (A0 : Option Addr) (c0 : Nat) (l0 : List (S45)) (a1 : Int) (r : ByteArray) (w : World) (hr0 : Kd.C k45 w A0 l0.length l0) (hc0 : l0.length ≤ c0) (h : spec_l3Write.f k l0 a1 = some r),
    Calls Tryd.prog 24 #[.slice A0 l0.length c0, .int .i64 a1] w fun e w' => e = .returned (.string r) ∧ Below w.heap.size w w' := by
  induction k using Nat.strongRecOn with
  | _ k ih =>
  intro A0 c0 l0 a1 r w hr0 hc0 h
  cases k with
  | zero => exact absurd h (by simp [spec_l3Write.f])
  | succ k =>
  simp only [spec_l3Write.f] at h; have HR0 := ak hr0; have HC0 := ak hc0; clear hr0 hc0; have HB := ak (Below.refl w.heap.size w); have H : (if 0 ≤ a1 then (if a1 < (l0.length : Int) then (if ((rd_T45 l0 a1).f0) = 1 then ((spec_l1Digits.f k ((rd_T45 l0 a1).f2)).bind fun t334 => (some t334)) else (if ((rd_T45 l0 a1).f0) = 2 then ((some (([(⟨#[35, 102]⟩ : ByteArray), (⟨#[35, 116]⟩ : ByteArray)] : List ByteArray) : List ByteArray)).bind fun y335 => (if 0 ≤ ((rd_T45 l0 a1).f2) then (if ((rd_T45 l0 a1).f2) < (y335.length : Int) then (some (rdOf ByteArray.empty y335 ((rd_T45 l0 a1).f2))) else (none)) else (none))) else (if ((rd_T45 l0 a1).f0) = 3 then (some ((rd_T45 l0 a1).f3)) else ((spec_l3Parts.f k l0 a1).bind fun t340 => (spec_l3Write.l0 k l0 (⟨#[40]⟩ : ByteArray) t340 0))))) else (none)) else (none)) = some r := h; clear h; by_cases c3 : 0 ≤ a1
  ·rw [if_pos c3] at H
   have c3b0 : decide (0 ≤ a1) = true := decide_eq_true c3; clear c3; by_cases c4 : a1 < (l0.length : Int)
   ·rw [if_pos c4] at H
    have c4b0 : decide (a1 < (l0.length : Int)) = true := decide_eq_true c4; clear c4; by_cases c5 : ((rd_T45 l0 a1).f0) = 1
    ·rw [if_pos c5] at H
     have c5b0 : (((rd_T45 l0 a1).f0) == 1) = true := beq_iff_eq.mpr c5; have c5b1 : (((rd_T45 l0 a1).f0) != 1) = false := bne_eq_false_iff_eq.mpr c5; clear c5; replace H := Option.bind_eq_some_iff.mp H; obtain ⟨t334, A60, H⟩ := H; (try dsimp -simprocs only at H); have A6 := ak A60; clear A60; obtain rfl := Option.some.inj H; have p333 : 0 ≤ (a1 : Int) := of_decide_eq_true d10_3; have q333 : a1 < (l0.length : Int) := of_decide_eq_true d10_3; obtain ⟨ad333, e333, hx333_0, hx333_1, hx333_2, hx333_3⟩ := at_T45 HR0.out a1 p333 q333
     cases e333
     replace p333 := eq_true p333; replace q333 := eq_true q333; go_enter Tryd.func24, Tryd.ntmps24; go_wp2_with (first | ((with_reducible refine gate_callee (f := 41) rfl ?_); refine goesL_ (some 22) rfl rfl Tryd.func41 (by kernel_rfl) rfl #[.int .i64 ((rd_T45 l0 a1).f2)] rfl d10_2 ?_; (with_reducible refine (spec_l1Digits.calls k ((rd_T45 l0 a1).f2) t334 _ A6.out).mono ?_); rintro e w7 ⟨rfl, hb⟩; refine ⟨_, rfl, ?_⟩; have n0_ := ak (below_step d10_1 hb); clear HB; have HB := n0_; clear n0_; (try clear hb))); go_ret; exact ⟨c10_3, c10_1⟩
    ·rw [if_neg c5] at H
     have c5b0 : (((rd_T45 l0 a1).f0) == 1) = false := beq_eq_false_iff_ne.mpr c5; have c5b1 : (((rd_T45 l0 a1).f0) != 1) = true := bne_iff_ne.mpr c5; by_cases c8 : ((rd_T45 l0 a1).f0) = 2
     ·rw [if_pos c8] at H
      have c8b0 : (((rd_T45 l0 a1).f0) == 2) = true := beq_iff_eq.mpr c8; have c8b1 : (((rd_T45 l0 a1).f0) != 2) = false := bne_eq_false_iff_eq.mpr c8; clear c8; obtain ⟨y335, hy335⟩ : ∃ y_ : List ByteArray, y_ = (([(⟨#[35, 102]⟩ : ByteArray), (⟨#[35, 116]⟩ : ByteArray)] : List ByteArray)) := ⟨_, rfl⟩
      replace H : (if 0 ≤ ((rd_T45 l0 a1).f2) then (if ((rd_T45 l0 a1).f2) < (y335.length : Int) then (some (rdOf ByteArray.empty y335 ((rd_T45 l0 a1).f2))) else (none)) else (none)) = some r := by first | (rw [hy335]; with_reducible exact H) | (have H2_ := (Option.bind_some _ _).symm.trans H; rw [hy335]; with_reducible exact H2_) | (have H2_ := (Option.bind_some _ _).symm.trans H; with_reducible exact H2_) | with_reducible exact H | (rw [hy335]; exact H) | exact H
      have Ny335 := ak hy335; clear hy335; by_cases c9 : 0 ≤ ((rd_T45 l0 a1).f2)
      ·rw [if_pos c9] at H
       have c9b0 : decide (0 ≤ ((rd_T45 l0 a1).f2)) = true := decide_eq_true c9; clear c9; by_cases c10 : ((rd_T45 l0 a1).f2) < (y335.length : Int)
       ·rw [if_pos c10] at H
        have c10b0 : decide (((rd_T45 l0 a1).f2) < (y335.length : Int)) = true := decide_eq_true c10; clear c10; obtain rfl := Option.some.inj H; have p333 : 0 ≤ (a1 : Int) := of_decide_eq_true d10_3; have q333 : a1 < (l0.length : Int) := of_decide_eq_true d10_3; obtain ⟨ad333, e333, hx333_0, hx333_1, hx333_2, hx333_3⟩ := at_T45 HR0.out a1 p333 q333
        cases e333
        replace p333 := eq_true p333; replace q333 := eq_true q333; go_enter Tryd.func24, Tryd.ntmps24
        go_wp2_with (first | ((with_reducible refine gate_dst (N := 25) rfl ?_); refine Kd.R_lit Kd.string _ 9 ?hg (N := 25) ?hd (xs := ([(⟨#[35, 102]⟩ : ByteArray), (⟨#[35, 116]⟩ : ByteArray)] : List ByteArray)) (inner := [.string (⟨#[35, 102]⟩ : ByteArray), .string (⟨#[35, 116]⟩ : ByteArray)]) (ok := fun _ => True) (okp := fun _ => True) ?hr ?hp (fun _ hk => hk) trivial (Below.refl _ _) (Nat.le_refl _) (by simp) ?_; (case hd => rfl); (case hg => rfl); (case hr => first | (go_simp; done) | (go_simp; rfl)); (case hp => exact (Reps.one (show Kd.M Kd.string _ _ _ (⟨#[35, 102]⟩ : ByteArray) [.string (⟨#[35, 102]⟩ : ByteArray)] from rfl) (Reps.one (show Kd.M Kd.string _ _ _ (⟨#[35, 116]⟩ : ByteArray) [.string (⟨#[35, 116]⟩ : ByteArray)] from rfl) (Reps.none _ _)))); intro v336 w11 ho12 hb hg_ hnew_; clear hg_ hnew_; (first | rw [← Ny335.out] at ho12 | (simp only [Int.reduceToNat] at ho12; rw [← Ny335.out] at ho12)); have n0_ := ak (Kd.R_lower ho12 (below_size d10_1)); have n1_ := ak (below_step d10_1 hb); clear HB; have HO337 := n0_; have HB := n1_; clear n0_ n1_ hb ho12; have p338 : 0 ≤ (a1 : Int) := of_decide_eq_true d10_3; have q338 : a1 < (l0.length : Int) := of_decide_eq_true d10_3; obtain ⟨ad338, e338, hx338_0, hx338_1, hx338_2, hx338_3⟩ := at_T45 HR0.out a1 p338 q338; obtain rfl : ad333 = ad338 := (by injection e338); replace hx338_0 := (HB.out.cell (World.block_lt_of_cell? w _ hx338_0)).trans hx338_0; replace hx338_1 := (HB.out.cell (World.block_lt_of_cell? w _ hx338_1)).trans hx338_1; replace hx338_2 := (HB.out.cell (World.block_lt_of_cell? w _ hx338_2)).trans hx338_2; replace hx338_3 := (HB.out.cell (World.block_lt_of_cell? w _ hx338_3)).trans hx338_3; replace p338 := eq_true p338; replace q338 := eq_true q338; obtain ⟨Ao13, co13, eo13⟩ := Kd.R_slice HO337.out; subst eo13; have p339 : 0 ≤ (((rd_T45 l0 a1).f2) : Int) := of_decide_eq_true d10_3; have q339 : ((rd_T45 l0 a1).f2) < (y335.length : Int) := of_decide_eq_true d10_3; obtain ⟨ad339, e339, hx339_0⟩ := Kd.at_string (Kd.R_reads' HO337.out).2.2 ((rd_T45 l0 a1).f2) p339 q339; cases e339; replace p339 := eq_true p339; replace q339 := eq_true q339))
        go_ret; exact ⟨c10_3, c10_1⟩
       ·rw [if_neg c10] at H
        exact absurd H (by simp)
      ·rw [if_neg c9] at H
       exact absurd H (by simp)
     ·rw [if_neg c8] at H
      have c8b0 : (((rd_T45 l0 a1).f0) == 2) = false := beq_eq_false_iff_ne.mpr c8; have c8b1 : (((rd_T45 l0 a1).f0) != 2) = true := bne_iff_ne.mpr c8; by_cases c14 : ((rd_T45 l0 a1).f0) = 3
      ·rw [if_pos c14] at H
       have c14b0 : (((rd_T45 l0 a1).f0) == 3) = true := beq_iff_eq.mpr c14; have c14b1 : (((rd_T45 l0 a1).f0) != 3) = false := bne_eq_false_iff_eq.mpr c14; clear c14; obtain rfl := Option.some.inj H; have p333 : 0 ≤ (a1 : Int) := of_decide_eq_true d10_3; have q333 : a1 < (l0.length : Int) := of_decide_eq_true d10_3; obtain ⟨ad333, e333, hx333_0, hx333_1, hx333_2, hx333_3⟩ := at_T45 HR0.out a1 p333 q333
       cases e333
       replace p333 := eq_true p333; replace q333 := eq_true q333; go_enter Tryd.func24, Tryd.ntmps24; go_wp2; go_ret; exact ⟨c10_3, c10_1⟩
      ·rw [if_neg c14] at H
       have c14b0 : (((rd_T45 l0 a1).f0) == 3) = false := beq_eq_false_iff_ne.mpr c14; have c14b1 : (((rd_T45 l0 a1).f0) != 3) = true := bne_iff_ne.mpr c14; replace H := Option.bind_eq_some_iff.mp H; obtain ⟨t340, A150, H⟩ := H; (try dsimp -simprocs only at H); have A15 := ak A150; clear A150; have H' := ak H; clear H; have p333 : 0 ≤ (a1 : Int) := of_decide_eq_true d10_3; have q333 : a1 < (l0.length : Int) := of_decide_eq_true d10_3; obtain ⟨ad333, e333, hx333_0, hx333_1, hx333_2, hx333_3⟩ := at_T45 HR0.out a1 p333 q333
       cases e333
       replace p333 := eq_true p333; replace q333 := eq_true q333; go_enter Tryd.func24, Tryd.ntmps24; go_wp2_with (first | ((with_reducible refine gate_callee (f := 42) rfl ?_); refine goesL_ (some 40) rfl rfl Tryd.func42 (by kernel_rfl) rfl #[.slice (some ad333) l0.length c0, .int .i64 a1] rfl d10_2 ?_; (with_reducible refine (spec_l3Parts.calls k _ _ l0 a1 t340 _ ?side1 ?side2 A15.out).mono ?_); (case side1 => repeat (first | exact HR0.out | (with_reducible refine Kd.C_alloc ?_ _) | (with_reducible refine Kd.C_drewN ?_ _) | (with_reducible refine Kd.C_drew ?_))); (case side2 => exact HC0.out); rintro e w16 ⟨v341, rfl, ho0, hb⟩; refine ⟨_, rfl, ?_⟩; have n0_ := ak (Kd.R_lower ho0 (below_size d10_1)); have n1_ := ak (below_step d10_1 hb); clear HB; have HO342 := n0_; have HB := n1_; clear n0_ n1_; (try clear hb); (try clear ho0))); go_loopg [6, 8] k (fun kq v6 v8 w' => ∃ (x6_1 : ByteArray) (x8_1 : Int), v6 = .string x6_1 ∧ v8 = .int .i64 x8_1 ∧ Aside0 (spec_l3Write.l0 kq l0 x6_1 t340 x8_1 = some r) ∧ Aside0 (kq ≤ k) ∧ Aside0 (Kd.R (Kd.int .i64) 2 w' w.heap.size (fun _ => True) v341 t340) ∧ Aside0 (Below w.heap.size w w'))
       case atStart => exact ⟨((⟨#[40]⟩ : ByteArray)), (0), d10_5, d10_5, H', ⟨Nat.le_refl _⟩, ⟨by (with_reducible repeat (first | apply Kd.R_alloc | apply Kd.R_drewN | apply Kd.R_drew)); exact HO342.out⟩, ⟨c10_1⟩⟩
       case round =>
        clear H'
        (try clear c1); (try clear c2); (try clear p2); (try clear c3); (try clear c3b0); (try clear p3); (try clear q3); (try clear hx3); (try clear c4); (try clear c4b0); (try clear c5); (try clear c5b0); (try clear c5b1); (try clear c8); (try clear c8b0); (try clear c8b1); (try clear c9); (try clear c9b0); (try clear c10); (try clear c10b0); (try clear c14); (try clear c14b0); (try clear c14b1); (try clear hx333_0); (try clear hx333_1); (try clear hx333_2); (try clear hx333_3); (try clear hx338_0); (try clear hx338_1); (try clear hx338_2); (try clear hx338_3); (try clear hx339_0); (try clear p333); (try clear p338); (try clear p339); (try clear q333); (try clear q338); (try clear q339)
        obtain ⟨x6_1, x8_1, rfl, rfl, HA, HK1, HO_7, HB⟩ := hrel
        cases gk with
        | zero => exact absurd HA.out (by simp [spec_l3Write.l0])
        | succ k1 =>
         have H := HA.out; clear HA; simp only [spec_l3Write.l0] at H; by_cases c17 : x8_1 < (t340.length : Int)
         ·rw [if_pos c17] at H
          have c17b0 : decide (x8_1 < (t340.length : Int)) = true := decide_eq_true c17; clear c17; by_cases c18 : x8_1 > 0
          ·rw [if_pos c18] at H
           have c18b0 : decide (0 < x8_1) = true := decide_eq_true c18; clear c18; by_cases c19 : x6_1.size + 1 ≤ 9223372036854775807
           ·rw [if_pos c19] at H
            have c19b0 := eq_true c19; have c19b1 : decide (x6_1.size + 1 ≤ 9223372036854775807) = true := decide_eq_true c19
            try have c19b2 : (9223372036854775807 < x6_1.size + 1) = False := eq_false (Nat.not_lt.2 c19)
            by_cases c20 : 0 ≤ x8_1
            ·rw [if_pos c20] at H
             have c20b0 : decide (0 ≤ x8_1) = true := decide_eq_true c20; clear c20; replace H := Option.bind_eq_some_iff.mp H; obtain ⟨t344, A210, H⟩ := H; (try dsimp -simprocs only at H); have A21 := ak A210; clear A210; by_cases c22 : (x6_1 ++ (⟨#[32]⟩ : ByteArray)).size + t344.size ≤ 9223372036854775807
             ·rw [if_pos c22] at H
              have c22b0 := eq_true c22; have c22b1 : decide ((x6_1 ++ (⟨#[32]⟩ : ByteArray)).size + t344.size ≤ 9223372036854775807) = true := decide_eq_true c22
              try have c22b2 : (9223372036854775807 < (x6_1 ++ (⟨#[32]⟩ : ByteArray)).size + t344.size) = False := eq_false (Nat.not_lt.2 c22)
              have c22s : x6_1.size + 1 + t344.size ≤ 9223372036854775807 := by have z := c22; rw [ByteArray.size_append] at z; exact z
              have c22b3 := eq_true c22s; have c22b4 : (9223372036854775807 < x6_1.size + 1 + t344.size) = False := eq_false (Nat.not_lt.2 c22s); have c22b5 := decide_eq_true c22s; have H' := ak H; clear H; obtain ⟨Ao23, co23, eo23⟩ := Kd.R_slice HO_7.out; subst eo23; have p343 : 0 ≤ (x8_1 : Int) := of_decide_eq_true d10_3; have q343 : x8_1 < (t340.length : Int) := of_decide_eq_true d10_3; obtain ⟨ad343, e343, hx343_0⟩ := Kd.at_int (Kd.R_reads' HO_7.out).2.2 x8_1 p343 q343
              cases e343
              replace p343 := eq_true p343; replace q343 := eq_true q343; go_wp2_with (first | ((with_reducible refine gate_callee (f := 24) rfl ?_); refine goesL_ (some 57) rfl rfl Tryd.func24 (by kernel_rfl) rfl #[.slice (some ad333) l0.length c0, .int .i64 (rd t340 x8_1)] rfl d10_2 ?_; (with_reducible refine (ih k1 (by have := HK1.out; omega) _ _ l0 (rd t340 x8_1) t344 _ ?side1 ?side2 A21.out).mono ?_); (case side1 => exact c10_2); (case side2 => exact HC0.out); rintro e w24 ⟨rfl, hb⟩; refine ⟨_, rfl, ?_⟩; have n0_ := ak (Kd.R_below (by (with_reducible repeat (first | apply Kd.R_alloc | apply Kd.R_drewN | apply Kd.R_drew)); exact HO_7.out) hb); have n1_ := ak (below_step d10_1 hb); clear HO_7 HB; have HO_7 := n0_; have HB := n1_; clear n0_ n1_; (try clear hb))); go_roundg k1
              case measure => have := HK1.out; omega
              case rel => exact ⟨((x6_1 ++ (⟨#[32]⟩ : ByteArray)) ++ t344), (wrap64 (x8_1 + 1)), d10_5, d10_5, H', ⟨by have := HK1.out; omega⟩, ⟨by (with_reducible repeat (first | apply Kd.R_alloc | apply Kd.R_drewN | apply Kd.R_drew)); exact HO_7.out⟩, ⟨c10_1⟩⟩
             ·rw [if_neg c22] at H
              exact absurd H (by simp)
            ·rw [if_neg c20] at H
             exact absurd H (by simp)
           ·rw [if_neg c19] at H
            exact absurd H (by simp)
          ·rw [if_neg c18] at H
           have c18b0 : decide (0 < x8_1) = false := decide_eq_false c18; clear c18; by_cases c25 : 0 ≤ x8_1
           ·rw [if_pos c25] at H
            have c25b0 : decide (0 ≤ x8_1) = true := decide_eq_true c25; clear c25; replace H := Option.bind_eq_some_iff.mp H; obtain ⟨t346, A260, H⟩ := H; (try dsimp -simprocs only at H); have A26 := ak A260; clear A260; by_cases c27 : x6_1.size + t346.size ≤ 9223372036854775807
            ·rw [if_pos c27] at H
             have c27b0 := eq_true c27; have c27b1 : decide (x6_1.size + t346.size ≤ 9223372036854775807) = true := decide_eq_true c27
             try have c27b2 : (9223372036854775807 < x6_1.size + t346.size) = False := eq_false (Nat.not_lt.2 c27)
             have H' := ak H; clear H; obtain ⟨Ao28, co28, eo28⟩ := Kd.R_slice HO_7.out; subst eo28; have p345 : 0 ≤ (x8_1 : Int) := of_decide_eq_true d10_3; have q345 : x8_1 < (t340.length : Int) := of_decide_eq_true d10_3; obtain ⟨ad345, e345, hx345_0⟩ := Kd.at_int (Kd.R_reads' HO_7.out).2.2 x8_1 p345 q345
             cases e345
             replace p345 := eq_true p345; replace q345 := eq_true q345; go_wp2_with (first | ((with_reducible refine gate_callee (f := 24) rfl ?_); refine goesL_ (some 57) rfl rfl Tryd.func24 (by kernel_rfl) rfl #[.slice (some ad333) l0.length c0, .int .i64 (rd t340 x8_1)] rfl d10_2 ?_; (with_reducible refine (ih k1 (by have := HK1.out; omega) _ _ l0 (rd t340 x8_1) t346 _ ?side1 ?side2 A26.out).mono ?_); (case side1 => exact c10_2); (case side2 => exact HC0.out); rintro e w29 ⟨rfl, hb⟩; refine ⟨_, rfl, ?_⟩; have n0_ := ak (Kd.R_below (by (with_reducible repeat (first | apply Kd.R_alloc | apply Kd.R_drewN | apply Kd.R_drew)); exact HO_7.out) hb); have n1_ := ak (below_step d10_1 hb); clear HO_7 HB; have HO_7 := n0_; have HB := n1_; clear n0_ n1_; (try clear hb))); go_roundg k1
             case measure => have := HK1.out; omega
             case rel => exact ⟨(x6_1 ++ t346), (wrap64 (x8_1 + 1)), d10_5, d10_5, H', ⟨by have := HK1.out; omega⟩, ⟨by (with_reducible repeat (first | apply Kd.R_alloc | apply Kd.R_drewN | apply Kd.R_drew)); exact HO_7.out⟩, ⟨c10_1⟩⟩
            ·rw [if_neg c27] at H
             exact absurd H (by simp)
           ·rw [if_neg c25] at H
            exact absurd H (by simp)
         ·rw [if_neg c17] at H
          have c17b0 : decide (x8_1 < (t340.length : Int)) = false := decide_eq_false c17; clear c17; by_cases c30 : x6_1.size + 1 ≤ 9223372036854775807
          ·rw [if_pos c30] at H
           have c30b0 := eq_true c30; have c30b1 : decide (x6_1.size + 1 ≤ 9223372036854775807) = true := decide_eq_true c30
           try have c30b2 : (9223372036854775807 < x6_1.size + 1) = False := eq_false (Nat.not_lt.2 c30)
           obtain rfl := Option.some.inj H; obtain ⟨Ao31, co31, eo31⟩ := Kd.R_slice HO_7.out; subst eo31; go_wp2; go_ret; exact ⟨c10_3, c10_1⟩
          ·rw [if_neg c30] at H
           exact absurd H (by simp)
   ·rw [if_neg c4] at H
    exact absurd H (by simp)
  ·rw [if_neg c3] at H
   exact absurd H (by simp)

/-! ### spec_WriteData: function 12 -/
def spec_WriteData.f (k : Nat) (l0 : List (S45)) : Option (Int × ByteArray) := (spec_l3Fault.f k l0).bind fun t348 => (if t348 = 0 then ((spec_l3Write.f k l0 0).bind fun t349 => (if (t349.size : Int) > 400 then (some (2, (⟨#[]⟩ : ByteArray))) else (some (0, t349)))) else (some (t348, (⟨#[]⟩ : ByteArray))))
theorem spec_WriteData.mono : ∀ a0 k, LeO (spec_WriteData.f k a0) (spec_WriteData.f (k + 1) a0) := by
  intro a0 k; unfold spec_WriteData.f
  repeat' first | (with_reducible first | apply spec_l3Fault.mono | apply spec_l3Write.mono | exact LeO.refl _ | exact LeO.none _ | refine LeO.ite ?_ ?_ | refine LeO.bind ?_ (fun _ => ?_)) | apply spec_l3Fault.mono | apply spec_l3Write.mono | exact LeO.none _ | refine LeO.ite ?_ ?_ | refine LeO.bind ?_ (fun _ => ?_)
theorem spec_WriteData.calls (k : Nat) (A0 : Option Addr) (c0 : Nat) (l0 : List (S45)) (r1 : Int) (r2 : ByteArray) (w : World) (hr0 : Kd.C k45 w A0 l0.length l0) (hc0 : l0.length ≤ c0) (h : spec_WriteData.f k l0 = some (r1, r2)) :
    Calls Tryd.prog 12 #[.slice A0 l0.length c0] w fun e w' => e = .returned (.agg #[.int .i64 r1, .string r2]) ∧ Below w.heap.size w w' := by
  have hu37 := Tryd.underlying37; have HR0 := ak hr0; have HC0 := ak hc0; clear hr0 hc0; have HB := ak (Below.refl w.heap.size w); have H := h; clear h; unfold spec_WriteData.f at H; replace H := Option.bind_eq_some_iff.mp H; obtain ⟨t348, A20, H⟩ := H; (try dsimp -simprocs only at H); have A2 := ak A20; clear A20; by_cases c3 : t348 = 0
  ·rw [if_pos c3] at H
   have c3b0 : (t348 == 0) = true := beq_iff_eq.mpr c3; have c3b1 : (t348 != 0) = false := bne_eq_false_iff_eq.mpr c3; clear c3; replace H := Option.bind_eq_some_iff.mp H; obtain ⟨t349, A40, H⟩ := H; (try dsimp -simprocs only at H); have A4 := ak A40; clear A40; by_cases c5 : (t349.size : Int) > 400
   ·rw [if_pos c5] at H
    have c5b0 : decide (400 < (t349.size : Int)) = true := decide_eq_true c5; have c5b1 : decide (400 < t349.size) = true := decide_eq_true (by omega); clear c5; simp only [Option.some.injEq, Prod.mk.injEq] at H; obtain ⟨rfl, rfl⟩ := H; go_enter Tryd.func12, Tryd.ntmps12
    go_wp2_with (first | ((with_reducible refine gate_dst (N := 2) rfl ?_); refine box_event ?hg (N := 2) ?hd (cs := #[.int .i64 0, .string (⟨#[]⟩ : ByteArray)]) (t := 37) ?hr ?_; (case hd => rfl); (case hg => rfl); (case hr => first | (go_simp; done) | (go_simp; rfl)); intro gb347 hg w6 hbox hb; have n0_ := ak (below_step d10_1 hb); have n1_ := ak (hbox); have n2_ := ak ((by rw [hg]; exact (below_size d10_1) : w.heap.size ≤ gb347)); have n3_ := ak ((by rw [hg]; exact (below_size d10_1) : w.heap.size ≤ gb347)); clear HB; have HB := n0_; have BK347 := n1_; have GW347 := n2_; have GE347 := n3_; clear n0_ n1_ n2_ n3_ hb hbox hg) | ((with_reducible refine gate_callee (f := 23) rfl ?_); refine goesL_ (some 6) rfl rfl Tryd.func23 (by kernel_rfl) rfl #[.slice A0 l0.length c0] rfl d10_2 ?_; (with_reducible refine (spec_l3Fault.calls k _ _ l0 t348 _ ?side1 ?side2 A2.out).mono ?_); (case side1 => exact c10_2); (case side2 => exact HC0.out); rintro e w' ⟨rfl, ⟨nd, rfl⟩⟩; refine ⟨_, rfl, ?_⟩; (try (rw [drewN_self w6]; generalize hq_ : World.drewN w6 _ = w6; have n0_ : Aside0 (w6.heap[gb347]? = some (.cells #[.int .i64 0, .string (⟨#[]⟩ : ByteArray)] 37 (0, 0))) := ⟨by rw [← hq_]; exact d10_6⟩; have n1_ : Aside0 (Below w.heap.size w w6) := ⟨by rw [← hq_]; exact d10_4⟩; clear BK347 HB hq_; have BK347 := n0_; have HB := n1_; clear n0_ n1_))) | ((with_reducible refine gate_callee (f := 24) rfl ?_); refine goesL_ (some 12) rfl rfl Tryd.func24 (by kernel_rfl) rfl #[.slice A0 l0.length c0, .int .i64 0] rfl d10_2 ?_; (with_reducible refine (spec_l3Write.calls k _ _ l0 0 t349 _ ?side1 ?side2 A4.out).mono ?_); (case side1 => exact c10_2); (case side2 => exact HC0.out); rintro e w7 ⟨rfl, hb⟩; refine ⟨_, rfl, ?_⟩; have n0_ := ak (blk_below (g := gb347) (o := .cells #[.int .i64 0, .string (⟨#[]⟩ : ByteArray)] 37 (0, 0)) d10_6 hb); have n1_ := ak (below_step d10_4 hb); clear BK347 HB; have BK347 := n0_; have HB := n1_; clear n0_ n1_; (try clear hb); have hcz8_0 := z10c BK347.out 0 (v := (.int .i64 0)) rfl; have hcz8_1 := z10c BK347.out 1 (v := (.string (⟨#[]⟩ : ByteArray))) rfl; have hfz8_0 := blk_frozen BK347.out 0; have hfz8_1 := blk_frozen BK347.out 1))
    refine bodyPost_ret (results_cell_row rfl _ _ gb347 37 #[.int .i64 2, .string (⟨#[]⟩ : ByteArray)] (0, 0) _ rfl (by (with_reducible repeat (first | refine blk_drewN ?_ _ | refine blk_drew ?_ | refine blk_alloc ?_ _)); refine blk_put (cs := #[.int .i64 2, .string (⟨#[]⟩ : ByteArray)]) ?_ 1 _ rfl; (with_reducible repeat (first | refine blk_drewN ?_ _ | refine blk_drew ?_ | refine blk_alloc ?_ _)); refine blk_put (cs := #[.int .i64 0, .string (⟨#[]⟩ : ByteArray)]) ?_ 0 _ rfl; (with_reducible repeat (first | refine blk_drewN ?_ _ | refine blk_drew ?_ | refine blk_alloc ?_ _)); exact BK347.out) Tryd.underlying37 rfl (by kernel_rfl)) rfl ?_; exact ⟨c10_3, c10_4⟩
   ·rw [if_neg c5] at H
    have c5b0 : decide (400 < (t349.size : Int)) = false := decide_eq_false c5; have c5b1 : decide (400 < t349.size) = false := decide_eq_false (by omega); clear c5; simp only [Option.some.injEq, Prod.mk.injEq] at H; obtain ⟨rfl, rfl⟩ := H; go_enter Tryd.func12, Tryd.ntmps12
    go_wp2_with (first | ((with_reducible refine gate_dst (N := 2) rfl ?_); refine box_event ?hg (N := 2) ?hd (cs := #[.int .i64 0, .string (⟨#[]⟩ : ByteArray)]) (t := 37) ?hr ?_; (case hd => rfl); (case hg => rfl); (case hr => first | (go_simp; done) | (go_simp; rfl)); intro gb347 hg w9 hbox hb; have n0_ := ak (below_step d10_1 hb); have n1_ := ak (hbox); have n2_ := ak ((by rw [hg]; exact (below_size d10_1) : w.heap.size ≤ gb347)); have n3_ := ak ((by rw [hg]; exact (below_size d10_1) : w.heap.size ≤ gb347)); clear HB; have HB := n0_; have BK347 := n1_; have GW347 := n2_; have GE347 := n3_; clear n0_ n1_ n2_ n3_ hb hbox hg) | ((with_reducible refine gate_callee (f := 23) rfl ?_); refine goesL_ (some 6) rfl rfl Tryd.func23 (by kernel_rfl) rfl #[.slice A0 l0.length c0] rfl d10_2 ?_; (with_reducible refine (spec_l3Fault.calls k _ _ l0 t348 _ ?side1 ?side2 A2.out).mono ?_); (case side1 => exact c10_2); (case side2 => exact HC0.out); rintro e w' ⟨rfl, ⟨nd, rfl⟩⟩; refine ⟨_, rfl, ?_⟩; (try (rw [drewN_self w9]; generalize hq_ : World.drewN w9 _ = w9; have n0_ : Aside0 (w9.heap[gb347]? = some (.cells #[.int .i64 0, .string (⟨#[]⟩ : ByteArray)] 37 (0, 0))) := ⟨by rw [← hq_]; exact d10_6⟩; have n1_ : Aside0 (Below w.heap.size w w9) := ⟨by rw [← hq_]; exact d10_4⟩; clear BK347 HB hq_; have BK347 := n0_; have HB := n1_; clear n0_ n1_))) | ((with_reducible refine gate_callee (f := 24) rfl ?_); refine goesL_ (some 12) rfl rfl Tryd.func24 (by kernel_rfl) rfl #[.slice A0 l0.length c0, .int .i64 0] rfl d10_2 ?_; (with_reducible refine (spec_l3Write.calls k _ _ l0 0 t349 _ ?side1 ?side2 A4.out).mono ?_); (case side1 => exact c10_2); (case side2 => exact HC0.out); rintro e w10 ⟨rfl, hb⟩; refine ⟨_, rfl, ?_⟩; have n0_ := ak (blk_below (g := gb347) (o := .cells #[.int .i64 0, .string (⟨#[]⟩ : ByteArray)] 37 (0, 0)) d10_6 hb); have n1_ := ak (below_step d10_4 hb); clear BK347 HB; have BK347 := n0_; have HB := n1_; clear n0_ n1_; (try clear hb); have hcz11_0 := z10c BK347.out 0 (v := (.int .i64 0)) rfl; have hcz11_1 := z10c BK347.out 1 (v := (.string (⟨#[]⟩ : ByteArray))) rfl; have hfz11_0 := blk_frozen BK347.out 0; have hfz11_1 := blk_frozen BK347.out 1))
    refine bodyPost_ret (results_cell_row rfl _ _ gb347 37 #[.int .i64 0, .string t349] (0, 0) _ rfl (by (with_reducible repeat (first | refine blk_drewN ?_ _ | refine blk_drew ?_ | refine blk_alloc ?_ _)); refine blk_put (cs := #[.int .i64 0, .string (⟨#[]⟩ : ByteArray)]) ?_ 1 _ rfl; (with_reducible repeat (first | refine blk_drewN ?_ _ | refine blk_drew ?_ | refine blk_alloc ?_ _)); refine blk_put (cs := #[.int .i64 0, .string (⟨#[]⟩ : ByteArray)]) ?_ 0 _ rfl; (with_reducible repeat (first | refine blk_drewN ?_ _ | refine blk_drew ?_ | refine blk_alloc ?_ _)); exact BK347.out) Tryd.underlying37 rfl (by kernel_rfl)) rfl ?_; exact ⟨c10_3, c10_4⟩
  ·rw [if_neg c3] at H
   have c3b0 : (t348 == 0) = false := beq_eq_false_iff_ne.mpr c3; have c3b1 : (t348 != 0) = true := bne_iff_ne.mpr c3; simp only [Option.some.injEq, Prod.mk.injEq] at H; obtain ⟨rfl, rfl⟩ := H; go_enter Tryd.func12, Tryd.ntmps12
   go_wp2_with (first | ((with_reducible refine gate_dst (N := 2) rfl ?_); refine box_event ?hg (N := 2) ?hd (cs := #[.int .i64 0, .string (⟨#[]⟩ : ByteArray)]) (t := 37) ?hr ?_; (case hd => rfl); (case hg => rfl); (case hr => first | (go_simp; done) | (go_simp; rfl)); intro gb347 hg w12 hbox hb; have n0_ := ak (below_step d10_1 hb); have n1_ := ak (hbox); have n2_ := ak ((by rw [hg]; exact (below_size d10_1) : w.heap.size ≤ gb347)); have n3_ := ak ((by rw [hg]; exact (below_size d10_1) : w.heap.size ≤ gb347)); clear HB; have HB := n0_; have BK347 := n1_; have GW347 := n2_; have GE347 := n3_; clear n0_ n1_ n2_ n3_ hb hbox hg) | ((with_reducible refine gate_callee (f := 23) rfl ?_); refine goesL_ (some 6) rfl rfl Tryd.func23 (by kernel_rfl) rfl #[.slice A0 l0.length c0] rfl d10_2 ?_; (with_reducible refine (spec_l3Fault.calls k _ _ l0 t348 _ ?side1 ?side2 A2.out).mono ?_); (case side1 => exact c10_2); (case side2 => exact HC0.out); rintro e w' ⟨rfl, ⟨nd, rfl⟩⟩; refine ⟨_, rfl, ?_⟩; (try (rw [drewN_self w12]; generalize hq_ : World.drewN w12 _ = w12; have n0_ : Aside0 (w12.heap[gb347]? = some (.cells #[.int .i64 0, .string (⟨#[]⟩ : ByteArray)] 37 (0, 0))) := ⟨by rw [← hq_]; exact d10_6⟩; have n1_ : Aside0 (Below w.heap.size w w12) := ⟨by rw [← hq_]; exact d10_4⟩; clear BK347 HB hq_; have BK347 := n0_; have HB := n1_; clear n0_ n1_)); have hcz13_0 := z10c BK347.out 0 (v := (.int .i64 0)) rfl; have hcz13_1 := z10c BK347.out 1 (v := (.string (⟨#[]⟩ : ByteArray))) rfl; have hfz13_0 := blk_frozen BK347.out 0; have hfz13_1 := blk_frozen BK347.out 1))
   refine bodyPost_ret (results_cell_row rfl _ _ gb347 37 #[.int .i64 t348, .string (⟨#[]⟩ : ByteArray)] (0, 0) _ rfl (by (with_reducible repeat (first | refine blk_drewN ?_ _ | refine blk_drew ?_ | refine blk_alloc ?_ _)); refine blk_put (cs := #[.int .i64 t348, .string (⟨#[]⟩ : ByteArray)]) ?_ 1 _ rfl; (with_reducible repeat (first | refine blk_drewN ?_ _ | refine blk_drew ?_ | refine blk_alloc ?_ _)); refine blk_put (cs := #[.int .i64 0, .string (⟨#[]⟩ : ByteArray)]) ?_ 0 _ rfl; (with_reducible repeat (first | refine blk_drewN ?_ _ | refine blk_drew ?_ | refine blk_alloc ?_ _)); exact BK347.out) Tryd.underlying37 rfl (by kernel_rfl)) rfl ?_; exact ⟨c10_3, c10_4⟩

end Go.Proofs.YtjlmknembpjnjaaDoor.A
