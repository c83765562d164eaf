/- Walks of the program's functions: each Go function's answer as a plain Lean function, and that the call comes to it. Written by a program. Conditions: those in each theorem's own head. -/
import Derived.Test.YteiokhfikbndbaaGreatDoorA0
import Derived.Test.YteiokhfikbndbaaGreatDoorA8
namespace Go.Proofs.YteiokhfikbndbaaGreatDoor.A
open Go.RowKit Go.Proofs.YteiokhfikbndbaaGreatDoorW.PrintWords Go.Proofs.YteiokhfikbndbaaGreatDoorW.PrintLast Go.Proofs.YteiokhfikbndbaaGreatDoorW.PrintMore
attribute [local go_sem] max2_int min2_int max_two min_two max_three min_three max_four min_four   -- for this text's walks alone
set_option linter.unusedVariables false
set_option linter.unusedSimpArgs false

theorem b9N {w : World} {g : Nat} {o : Obj} (h : w.heap[g]? = some o) (n : Nat) : (w.drewN n).heap[g]? = some o := h
theorem b9D {w : World} {g : Nat} {o : Obj} (h : w.heap[g]? = some o) : (w.drew).heap[g]? = some o := h
theorem b9L {w : World} {g : Nat} {o : Obj} (h : w.heap[g]? = some o) (o' : Obj) : (w.alloc o').heap[g]? = some o := blk_alloc h o'
theorem d9_1 {p : Prop} (h : p := by repeat (first | (with_reducible first | exact HB.out | apply below_alloc | apply pw_below_drewN | apply below_drew1) | exact HB.out)) : p := h
theorem d9_2 {p : Prop} (h : p := by first | rfl | (simp; done) | (simp [*]; done) | (simp [ne_nil_b, eq_nil_b]; done)) : p := h
theorem d9_3 {p : Prop} (h : p := by repeat (first | (with_reducible first | exact HB.out | apply below_alloc | apply pw_below_drewN | apply below_drew1 | refine below_set ?_ GE335.out) | exact HB.out)) : p := h
theorem c9_1 {p : Prop} (h : p := by repeat (first | (with_reducible first | exact HB.out | apply below_alloc | apply pw_below_drewN | apply below_drew1 | refine below_set ?_ GE335.out) | exact HB.out)) : p := h
set_option maxHeartbeats 8000000
set_option maxRecDepth 100000
theorem z9c {w : World} {g : Nat} {t : TypeId} {cs : Array Value} (h : w.heap[g]? = some (.cells cs t (0, 0))) (i : Nat) {v : Value} (e : cs[i]? = some v) : w.cell? ⟨g, i, none⟩ = some v := (blk_cell h i).trans e

/-! ### spec_TokensText: function 12 -/
def spec_TokensText.l0 : Nat → List (S37) → ByteArray → Int → Option (Int × ByteArray)
  | 0, _, _, _ => none
  | k + 1, x0, x3, x4 => if x4 < (x0.length : Int) then (if 0 ≤ x4 then ((spec_l2Fault.f k ((rd_T37 x0 x4).f0) ((rd_T37 x0 x4).f1) ((rd_T37 x0 x4).f2)).bind fun t337 => (if t337 = 0 then (if x4 > 0 then (if x3.size + 1 ≤ 9223372036854775807 then ((spec_l2Text.f k ((rd_T37 x0 x4).f0) ((rd_T37 x0 x4).f1) ((rd_T37 x0 x4).f2)).bind fun t339 => (if (x3 ++ (⟨#[32]⟩ : ByteArray)).size + t339.size ≤ 9223372036854775807 then (spec_TokensText.l0 k x0 ((x3 ++ (⟨#[32]⟩ : ByteArray)) ++ t339) (wrap64 (x4 + 1))) else (none))) else (none)) else ((spec_l2Text.f k ((rd_T37 x0 x4).f0) ((rd_T37 x0 x4).f1) ((rd_T37 x0 x4).f2)).bind fun t341 => (if x3.size + t341.size ≤ 9223372036854775807 then (spec_TokensText.l0 k x0 (x3 ++ t341) (wrap64 (x4 + 1))) else (none)))) else (some (t337, (⟨#[]⟩ : ByteArray))))) else (none)) else (some (0, x3))
def spec_TokensText.f (k : Nat) (l0 : List (S37)) : Option (Int × ByteArray) := if (l0.length : Int) > 120 then (some (2, (⟨#[]⟩ : ByteArray))) else (spec_TokensText.l0 k l0 (⟨#[]⟩ : ByteArray) 0)
theorem spec_TokensText.mono_l : ∀ k, (∀ y0 y1 y2, LeO (spec_TokensText.l0 k y0 y1 y2) (spec_TokensText.l0 (k + 1) y0 y1 y2))
  | 0 => fun _ _ _ r h => by simp [spec_TokensText.l0] at h
  | k + 1 => by
    have ih0 := spec_TokensText.mono_l k
    · intro y0 y1 y2
      unfold spec_TokensText.l0
      repeat' first | (with_reducible first | apply ih0 | apply spec_l2Fault.mono | apply spec_l2Text.mono | exact LeO.refl _ | exact LeO.none _ | refine LeO.ite ?_ ?_ | refine LeO.bind ?_ (fun _ => ?_)) | apply ih0 | apply spec_l2Fault.mono | apply spec_l2Text.mono | exact LeO.none _ | refine LeO.ite ?_ ?_ | refine LeO.bind ?_ (fun _ => ?_)
theorem spec_TokensText.mono : ∀ a0 k, LeO (spec_TokensText.f k a0) (spec_TokensText.f (k + 1) a0) := by
  intro a0 k; have ih0 := spec_TokensText.mono_l k; unfold spec_TokensText.f
  repeat' first | (with_reducible first | apply ih0 | apply spec_l2Fault.mono | apply spec_l2Text.mono | exact LeO.refl _ | exact LeO.none _ | refine LeO.ite ?_ ?_ | refine LeO.bind ?_ (fun _ => ?_)) | apply ih0 | apply spec_l2Fault.mono | apply spec_l2Text.mono | exact LeO.none _ | refine LeO.ite ?_ ?_ | refine LeO.bind ?_ (fun _ => ?_)
theorem spec_TokensText.calls (k : Nat) (A0 : Option Addr) (c0 : Nat) (l0 : List (S37)) (r1 : Int) (r2 : ByteArray) (w : World) (hr0 : Kd.C k37 w A0 l0.length l0) (hc0 : l0.length ≤ c0) (h : spec_TokensText.f k l0 = some (r1, r2)) :
    Calls Tryz.prog 12 #[.slice A0 l0.length c0] w fun e w' => e = .returned (.agg #[.int .i64 r1, .string r2]) ∧ Below w.heap.size w w' := by
  have hu34 := Tryz.underlying34; have HR0 := ak hr0; have HC0 := ak hc0; clear hr0 hc0; have HB := ak (Below.refl w.heap.size w); have H := h; clear h; unfold spec_TokensText.f at H; by_cases c2 : (l0.length : Int) > 120
  ·rw [if_pos c2] at H
   have c2b0 : decide (120 < (l0.length : Int)) = true := decide_eq_true c2; have c2b1 : decide (120 < l0.length) = true := decide_eq_true (by omega); clear c2; simp only [Option.some.injEq, Prod.mk.injEq] at H; obtain ⟨rfl, rfl⟩ := H; go_enter Tryz.func12, Tryz.ntmps12; go_wp2_with (first | ((with_reducible refine gate_dst (N := 2) rfl ?_); refine box_event ?hg (N := 2) ?hd (cs := #[.int .i64 0, .string (⟨#[]⟩ : ByteArray)]) (t := 34) ?hr ?_; (case hd => rfl); (case hg => rfl); (case hr => first | (go_simp; done) | (go_simp; rfl)); intro gb335 hg w3 hbox hb; have n0_ := ak (below_step d9_1 hb); have n1_ := ak (hbox); have n2_ := ak ((by rw [hg]; exact (below_size d9_1) : w.heap.size ≤ gb335)); have n3_ := ak ((by rw [hg]; exact (below_size d9_1) : w.heap.size ≤ gb335)); clear HB; have HB := n0_; have BK335 := n1_; have GW335 := n2_; have GE335 := n3_; clear n0_ n1_ n2_ n3_ hb hbox hg; have hcz4_0 := z9c BK335.out 0 (v := (.int .i64 0)) rfl; have hcz4_1 := z9c BK335.out 1 (v := (.string (⟨#[]⟩ : ByteArray))) rfl; have hfz4_0 := blk_frozen BK335.out 0; have hfz4_1 := blk_frozen BK335.out 1))
   refine bodyPost_ret (results_cell_row rfl _ _ gb335 34 #[.int .i64 2, .string (⟨#[]⟩ : ByteArray)] (0, 0) _ rfl (by (with_reducible repeat first | apply b9N | apply b9D | apply b9L); refine blk_put (cs := #[.int .i64 2, .string (⟨#[]⟩ : ByteArray)]) ?_ 1 _ rfl; (with_reducible repeat first | apply b9N | apply b9D | apply b9L); refine blk_put (cs := #[.int .i64 0, .string (⟨#[]⟩ : ByteArray)]) ?_ 0 _ rfl; (with_reducible repeat first | apply b9N | apply b9D | apply b9L); exact BK335.out) Tryz.underlying34 rfl (by kernel_rfl)) rfl ?_; exact ⟨by first | rfl | (simp [errW_none, errW_some] <;> rfl) | (simp [*, errW_none, errW_some] <;> rfl), c9_1⟩
  ·rw [if_neg c2] at H
   have c2b0 : decide (120 < (l0.length : Int)) = false := decide_eq_false c2; have c2b1 : decide (120 < l0.length) = false := decide_eq_false (by omega); clear c2; have H' := ak H; clear H; go_enter Tryz.func12, Tryz.ntmps12; go_wp2_with (first | ((with_reducible refine gate_dst (N := 2) rfl ?_); refine box_event ?hg (N := 2) ?hd (cs := #[.int .i64 0, .string (⟨#[]⟩ : ByteArray)]) (t := 34) ?hr ?_; (case hd => rfl); (case hg => rfl); (case hr => first | (go_simp; done) | (go_simp; rfl)); intro gb335 hg w5 hbox hb; have n0_ := ak (below_step d9_1 hb); have n1_ := ak (hbox); have n2_ := ak ((by rw [hg]; exact (below_size d9_1) : w.heap.size ≤ gb335)); have n3_ := ak ((by rw [hg]; exact (below_size d9_1) : w.heap.size ≤ gb335)); clear HB; have HB := n0_; have BK335 := n1_; have GW335 := n2_; have GE335 := n3_; clear n0_ n1_ n2_ n3_ hb hbox hg)); go_loopg [3, 4] k (fun kq v3 v4 w' => ∃ (x3_1 : ByteArray) (x4_1 : Int) (x336000_1 : Int) (x336001_1 : ByteArray), v3 = .string x3_1 ∧ v4 = .int .i64 x4_1 ∧ Aside0 (spec_TokensText.l0 kq l0 x3_1 x4_1 = some (r1, r2)) ∧ Aside0 (kq ≤ k) ∧ Aside0 (w'.heap[gb335]? = some (.cells #[.int .i64 x336000_1, .string x336001_1] 34 (0, 0))) ∧ Aside0 (Below w.heap.size w w'))
   case atStart => exact ⟨((⟨#[]⟩ : ByteArray)), (0), (0), ((⟨#[]⟩ : ByteArray)), d9_2, d9_2, H', ⟨Nat.le_refl _⟩, ⟨by (with_reducible repeat first | apply b9N | apply b9D | apply b9L); exact BK335.out⟩, ⟨c9_1⟩⟩
   case round =>
    clear H'
    (try clear c1); (try clear c2); (try clear c2b0); (try clear c2b1); (try clear p2); (try clear hcz4_0); (try clear hcz4_1); (try clear hfz4_0); (try clear hfz4_1)
    obtain ⟨x3_1, x4_1, x336000_1, x336001_1, rfl, rfl, HA, HK1, BK335, HB⟩ := hrel
    cases gk with
    | zero => exact absurd HA.out (by simp [spec_TokensText.l0])
    | succ k1 =>
     have H := HA.out; clear HA; simp only [spec_TokensText.l0] at H; by_cases c6 : x4_1 < (l0.length : Int)
     ·rw [if_pos c6] at H
      have c6b0 : decide (x4_1 < (l0.length : Int)) = true := decide_eq_true c6; clear c6; by_cases c7 : 0 ≤ x4_1
      ·rw [if_pos c7] at H
       have c7b0 : decide (0 ≤ x4_1) = true := decide_eq_true c7; clear c7; replace H := Option.bind_eq_some_iff.mp H; obtain ⟨t337, A80, H⟩ := H; (try dsimp -simprocs only at H); have A8 := ak A80; clear A80; by_cases c9 : t337 = 0
       ·rw [if_pos c9] at H
        have c9b0 : (t337 == 0) = true := beq_iff_eq.mpr c9; have c9b1 : (t337 != 0) = false := bne_eq_false_iff_eq.mpr c9; clear c9; by_cases c10 : x4_1 > 0
        ·rw [if_pos c10] at H
         have c10b0 : decide (0 < x4_1) = true := decide_eq_true c10; clear c10; by_cases c11 : x3_1.size + 1 ≤ 9223372036854775807
         ·rw [if_pos c11] at H
          have c11b0 := eq_true c11; have c11b1 : decide (x3_1.size + 1 ≤ 9223372036854775807) = true := decide_eq_true c11
          try have c11b2 : (9223372036854775807 < x3_1.size + 1) = False := eq_false (Nat.not_lt.2 c11)
          replace H := Option.bind_eq_some_iff.mp H; obtain ⟨t339, A120, H⟩ := H; (try dsimp -simprocs only at H); have A12 := ak A120; clear A120; by_cases c13 : (x3_1 ++ (⟨#[32]⟩ : ByteArray)).size + t339.size ≤ 9223372036854775807
          ·rw [if_pos c13] at H
           have c13b0 := eq_true c13; have c13b1 : decide ((x3_1 ++ (⟨#[32]⟩ : ByteArray)).size + t339.size ≤ 9223372036854775807) = true := decide_eq_true c13
           try have c13b2 : (9223372036854775807 < (x3_1 ++ (⟨#[32]⟩ : ByteArray)).size + t339.size) = False := eq_false (Nat.not_lt.2 c13)
           have c13s : x3_1.size + 1 + t339.size ≤ 9223372036854775807 := by have z := c13; rw [ByteArray.size_append] at z; exact z
           have c13b3 := eq_true c13s; have c13b4 : (9223372036854775807 < x3_1.size + 1 + t339.size) = False := eq_false (Nat.not_lt.2 c13s); have c13b5 := decide_eq_true c13s; have H' := ak H; clear H; have p336 : 0 ≤ (x4_1 : Int) := of_decide_eq_true (by first | (with_reducible assumption) | assumption); have q336 : x4_1 < (l0.length : Int) := of_decide_eq_true (by first | (with_reducible assumption) | assumption); obtain ⟨ad336, e336, hx336_0, hx336_1, hx336_2⟩ := at_T37 HR0.out x4_1 p336 q336
           cases e336
           replace hx336_0 := (HB.out.cell (World.block_lt_of_cell? w _ hx336_0)).trans hx336_0; replace hx336_1 := (HB.out.cell (World.block_lt_of_cell? w _ hx336_1)).trans hx336_1; replace hx336_2 := (HB.out.cell (World.block_lt_of_cell? w _ hx336_2)).trans hx336_2; replace p336 := eq_true p336; replace q336 := eq_true q336
           go_wp2_with (first | (go_at_call 35; (with_reducible refine (spec_l2Fault.calls k1 _ ((rd_T37 l0 x4_1).f0) ((rd_T37 l0 x4_1).f1) ((rd_T37 l0 x4_1).f2) t337 _ ?side1 ?side2 ?side3 A8.out).mono ?_); (case side1 => first | exact hx336_0 | (refine Eq.trans ?_ hx336_0; simp only [go_sem])); (case side2 => first | exact hx336_1 | (refine Eq.trans ?_ hx336_1; simp only [go_sem])); (case side3 => first | exact hx336_2 | (refine Eq.trans ?_ hx336_2; simp only [go_sem])); rintro e w' ⟨rfl, ⟨nd, rfl⟩⟩) | (go_at_call 36; (with_reducible refine (spec_l2Text.calls k1 _ ((rd_T37 l0 x4_1).f0) ((rd_T37 l0 x4_1).f1) ((rd_T37 l0 x4_1).f2) t339 _ ?side1 ?side2 ?side3 A12.out).mono ?_); (case side1 => first | exact hx336_0 | (refine Eq.trans ?_ hx336_0; simp only [go_sem])); (case side2 => first | exact hx336_1 | (refine Eq.trans ?_ hx336_1; simp only [go_sem])); (case side3 => first | exact hx336_2 | (refine Eq.trans ?_ hx336_2; simp only [go_sem])); rintro e w14 ⟨rfl, hb⟩; have n0_ := ak (blk_below (g := gb335) (o := .cells #[.int .i64 x336000_1, .string x336001_1] 34 (0, 0)) (by (with_reducible repeat first | apply b9N | apply b9D | apply b9L); exact BK335.out) hb); have n1_ := ak (below_step d9_3 hb); clear BK335 HB; have BK335 := n0_; have HB := n1_; clear n0_ n1_; (try clear hb))); go_roundg k1
           case measure => have := HK1.out; omega
           case rel => exact ⟨((x3_1 ++ (⟨#[32]⟩ : ByteArray)) ++ t339), (wrap64 (x4_1 + 1)), (x336000_1), (x336001_1), d9_2, d9_2, H', ⟨by have := HK1.out; omega⟩, ⟨by (with_reducible repeat first | apply b9N | apply b9D | apply b9L); exact BK335.out⟩, ⟨c9_1⟩⟩
          ·rw [if_neg c13] at H
           exact absurd H (by simp)
         ·rw [if_neg c11] at H
          exact absurd H (by simp)
        ·rw [if_neg c10] at H
         have c10b0 : decide (0 < x4_1) = false := decide_eq_false c10; clear c10; replace H := Option.bind_eq_some_iff.mp H; obtain ⟨t341, A150, H⟩ := H; (try dsimp -simprocs only at H); have A15 := ak A150; clear A150; by_cases c16 : x3_1.size + t341.size ≤ 9223372036854775807
         ·rw [if_pos c16] at H
          have c16b0 := eq_true c16; have c16b1 : decide (x3_1.size + t341.size ≤ 9223372036854775807) = true := decide_eq_true c16
          try have c16b2 : (9223372036854775807 < x3_1.size + t341.size) = False := eq_false (Nat.not_lt.2 c16)
          have H' := ak H; clear H; have p336 : 0 ≤ (x4_1 : Int) := of_decide_eq_true (by first | (with_reducible assumption) | assumption); have q336 : x4_1 < (l0.length : Int) := of_decide_eq_true (by first | (with_reducible assumption) | assumption); obtain ⟨ad336, e336, hx336_0, hx336_1, hx336_2⟩ := at_T37 HR0.out x4_1 p336 q336
          cases e336
          replace hx336_0 := (HB.out.cell (World.block_lt_of_cell? w _ hx336_0)).trans hx336_0; replace hx336_1 := (HB.out.cell (World.block_lt_of_cell? w _ hx336_1)).trans hx336_1; replace hx336_2 := (HB.out.cell (World.block_lt_of_cell? w _ hx336_2)).trans hx336_2; replace p336 := eq_true p336; replace q336 := eq_true q336
          go_wp2_with (first | (go_at_call 35; (with_reducible refine (spec_l2Fault.calls k1 _ ((rd_T37 l0 x4_1).f0) ((rd_T37 l0 x4_1).f1) ((rd_T37 l0 x4_1).f2) t337 _ ?side1 ?side2 ?side3 A8.out).mono ?_); (case side1 => first | exact hx336_0 | (refine Eq.trans ?_ hx336_0; simp only [go_sem])); (case side2 => first | exact hx336_1 | (refine Eq.trans ?_ hx336_1; simp only [go_sem])); (case side3 => first | exact hx336_2 | (refine Eq.trans ?_ hx336_2; simp only [go_sem])); rintro e w' ⟨rfl, ⟨nd, rfl⟩⟩) | (go_at_call 36; (with_reducible refine (spec_l2Text.calls k1 _ ((rd_T37 l0 x4_1).f0) ((rd_T37 l0 x4_1).f1) ((rd_T37 l0 x4_1).f2) t341 _ ?side1 ?side2 ?side3 A15.out).mono ?_); (case side1 => first | exact hx336_0 | (refine Eq.trans ?_ hx336_0; simp only [go_sem])); (case side2 => first | exact hx336_1 | (refine Eq.trans ?_ hx336_1; simp only [go_sem])); (case side3 => first | exact hx336_2 | (refine Eq.trans ?_ hx336_2; simp only [go_sem])); rintro e w17 ⟨rfl, hb⟩; have n0_ := ak (blk_below (g := gb335) (o := .cells #[.int .i64 x336000_1, .string x336001_1] 34 (0, 0)) (by (with_reducible repeat first | apply b9N | apply b9D | apply b9L); exact BK335.out) hb); have n1_ := ak (below_step d9_3 hb); clear BK335 HB; have BK335 := n0_; have HB := n1_; clear n0_ n1_; (try clear hb))); go_roundg k1
          case measure => have := HK1.out; omega
          case rel => exact ⟨(x3_1 ++ t341), (wrap64 (x4_1 + 1)), (x336000_1), (x336001_1), d9_2, d9_2, H', ⟨by have := HK1.out; omega⟩, ⟨by (with_reducible repeat first | apply b9N | apply b9D | apply b9L); exact BK335.out⟩, ⟨c9_1⟩⟩
         ·rw [if_neg c16] at H
          exact absurd H (by simp)
       ·rw [if_neg c9] at H
        have c9b0 : (t337 == 0) = false := beq_eq_false_iff_ne.mpr c9; have c9b1 : (t337 != 0) = true := bne_iff_ne.mpr c9; simp only [Option.some.injEq, Prod.mk.injEq] at H; obtain ⟨rfl, rfl⟩ := H; have p336 : 0 ≤ (x4_1 : Int) := of_decide_eq_true (by first | (with_reducible assumption) | assumption); have q336 : x4_1 < (l0.length : Int) := of_decide_eq_true (by first | (with_reducible assumption) | assumption); obtain ⟨ad336, e336, hx336_0, hx336_1, hx336_2⟩ := at_T37 HR0.out x4_1 p336 q336
        cases e336
        replace hx336_0 := (HB.out.cell (World.block_lt_of_cell? w _ hx336_0)).trans hx336_0; replace hx336_1 := (HB.out.cell (World.block_lt_of_cell? w _ hx336_1)).trans hx336_1; replace hx336_2 := (HB.out.cell (World.block_lt_of_cell? w _ hx336_2)).trans hx336_2; replace p336 := eq_true p336; replace q336 := eq_true q336
        go_wp2_with (first | (go_at_call 35; (with_reducible refine (spec_l2Fault.calls k1 _ ((rd_T37 l0 x4_1).f0) ((rd_T37 l0 x4_1).f1) ((rd_T37 l0 x4_1).f2) t337 _ ?side1 ?side2 ?side3 A8.out).mono ?_); (case side1 => first | exact hx336_0 | (refine Eq.trans ?_ hx336_0; simp only [go_sem])); (case side2 => first | exact hx336_1 | (refine Eq.trans ?_ hx336_1; simp only [go_sem])); (case side3 => first | exact hx336_2 | (refine Eq.trans ?_ hx336_2; simp only [go_sem])); rintro e w' ⟨rfl, ⟨nd, rfl⟩⟩; (try (rw [drewN_self wr]; generalize hq_ : World.drewN wr _ = wr; have n0_ : Aside0 (wr.heap[gb335]? = some (.cells #[.int .i64 x336000_1, .string x336001_1] 34 (0, 0))) := ⟨by rw [← hq_]; exact (by (with_reducible repeat first | apply b9N | apply b9D | apply b9L); exact BK335.out)⟩; have n1_ : Aside0 (Below w.heap.size w wr) := ⟨by rw [← hq_]; exact d9_3⟩; clear BK335 HB hq_; have BK335 := n0_; have HB := n1_; clear n0_ n1_)); have hcz18_0 := z9c BK335.out 0 (v := (.int .i64 x336000_1)) rfl; have hcz18_1 := z9c BK335.out 1 (v := (.string x336001_1)) rfl; have hfz18_0 := blk_frozen BK335.out 0; have hfz18_1 := blk_frozen BK335.out 1))
        refine bodyPost_ret (results_cell_row rfl _ _ gb335 34 #[.int .i64 t337, .string (⟨#[]⟩ : ByteArray)] (0, 0) _ rfl (by (with_reducible repeat first | apply b9N | apply b9D | apply b9L); refine blk_put (cs := #[.int .i64 t337, .string x336001_1]) ?_ 1 _ rfl; (with_reducible repeat first | apply b9N | apply b9D | apply b9L); refine blk_put (cs := #[.int .i64 x336000_1, .string x336001_1]) ?_ 0 _ rfl; (with_reducible repeat first | apply b9N | apply b9D | apply b9L); exact BK335.out) Tryz.underlying34 rfl (by kernel_rfl)) rfl ?_; exact ⟨by first | rfl | (simp [errW_none, errW_some] <;> rfl) | (simp [*, errW_none, errW_some] <;> rfl), c9_1⟩
      ·rw [if_neg c7] at H
       exact absurd H (by simp)
     ·rw [if_neg c6] at H
      have c6b0 : decide (x4_1 < (l0.length : Int)) = false := decide_eq_false c6; clear c6; simp only [Option.some.injEq, Prod.mk.injEq] at H; obtain ⟨rfl, rfl⟩ := H; have hcz19_0 := z9c BK335.out 0 (v := (.int .i64 x336000_1)) rfl; have hcz19_1 := z9c BK335.out 1 (v := (.string x336001_1)) rfl; have hfz19_0 := blk_frozen BK335.out 0; have hfz19_1 := blk_frozen BK335.out 1; go_wp2; refine bodyPost_ret (results_cell_row rfl _ _ gb335 34 #[.int .i64 0, .string x3_1] (0, 0) _ rfl (by (with_reducible repeat first | apply b9N | apply b9D | apply b9L); refine blk_put (cs := #[.int .i64 0, .string x336001_1]) ?_ 1 _ rfl; (with_reducible repeat first | apply b9N | apply b9D | apply b9L); refine blk_put (cs := #[.int .i64 x336000_1, .string x336001_1]) ?_ 0 _ rfl; (with_reducible repeat first | apply b9N | apply b9D | apply b9L); exact BK335.out) Tryz.underlying34 rfl (by kernel_rfl)) rfl ?_; exact ⟨by first | rfl | (simp [errW_none, errW_some] <;> rfl) | (simp [*, errW_none, errW_some] <;> rfl), c9_1⟩

end Go.Proofs.YteiokhfikbndbaaGreatDoor.A
