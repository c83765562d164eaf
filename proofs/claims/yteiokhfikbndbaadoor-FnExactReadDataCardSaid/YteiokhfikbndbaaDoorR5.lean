/- Walks of the program's functions: each Go function's answer as a plain Lean function, and that the call comes to it. Written by a program. Conditions: those in each theorem's own head. -/
import Derived.Test.YteiokhfikbndbaaDoorR0
import Derived.Test.YteiokhfikbndbaaDoorR4
namespace Go.Proofs.YteiokhfikbndbaaDoor.R
open Go.RowKit Go.Proofs.YteiokhfikbndbaaDoorW.PrintWords Go.Proofs.YteiokhfikbndbaaDoorW.PrintLast Go.Proofs.YteiokhfikbndbaaDoorW.PrintMore
attribute [local go_sem] max2_int min2_int max_two min_two max_three min_three max_four min_four   -- for this text's walks alone
set_option linter.unusedVariables false
set_option linter.unusedSimpArgs false

theorem d5_1 {p : Prop} (h : p := by first | exact HK.out.1 | exact (show Kept w _ (fun k_ => (P0_0_ k_ ∨ P0_1_ k_ ∨ P0_2_ k_) ∨ k_ = g) from by repeat (first | (with_reducible first | exact HK.out | apply Kept.alloc | apply Kept.drewN | apply Kept.drew | refine Kept.setCell ?_ (.inl (.inr rfl)) _) | exact HK.out)).1) : p := h
theorem d5_2 {p : Prop} (h : p := by repeat (first | (with_reducible first | exact HB.out | apply below_alloc | apply pw_below_drewN | apply below_drew1 | refine below_set ?_ GE0.out) | exact HB.out)) : p := h
theorem d5_3 {p : Prop} (h : p := by (with_reducible repeat (first | apply Kd.R_alloc | apply Kd.R_drewN | apply Kd.R_drew)); exact HO161.out) : p := h
theorem d5_4 {p : Prop} (h : p := by (try simp only [List.map_toArray, List.map_cons, List.map_nil]); first | done | rfl | (simp only [List.length_drop, List.length_take]; rfl)) : p := h
theorem d5_5 {p : Prop} (h : p := by repeat (first | (with_reducible first | exact HK.out | apply Kept.alloc | apply Kept.drewN | apply Kept.drew | refine Kept.setCell ?_ (.inl (.inr rfl)) _) | exact HK.out)) : p := h
theorem c5_1 {p : Prop} (h : p := by repeat (first | (with_reducible first | exact HB.out | apply below_alloc | apply pw_below_drewN | apply below_drew1 | refine below_set ?_ GE0.out) | exact HB.out)) : p := h
theorem c5_2 {p : Prop} (h : p := by (with_reducible repeat (first | refine blk_drewN ?_ _ | refine blk_drew ?_ | refine blk_alloc ?_ _)); exact BK0.out) : p := h
theorem c5_3 {p : Prop} (h : p := by repeat (first | (with_reducible first | exact HK.out | apply Kept.alloc | apply Kept.drewN | apply Kept.drew | refine Kept.setCell ?_ (.inl (.inr rfl)) _) | exact HK.out)) : p := h
set_option maxHeartbeats 8000000
set_option maxRecDepth 100000
theorem z5c {w : World} {g : Nat} {t : TypeId} {cs : Array Value} (h : w.heap[g]? = some (.cells cs t (0, 0))) (i : Nat) {v : Value} (e : cs[i]? = some v) : w.cell? ⟨g, i, none⟩ = some v := (blk_cell h i).trans e
abbrev m5_0 : Array Bool := #[false, false, false, false, false, false, false, false, false, false, false, false, false, false, false, false]
abbrev m5_1 : Array Bool := #[true, false, false, false, false, false, false, false, false, false, false, false, false, false, false, false]
abbrev m5_2 : Array Bool := #[true, true, false, false, false, false, false, false, false, false, false, false, false, false, false, false]
abbrev m5_3 : Array Bool := #[true, true, true, false, false, false, false, false, false, false, false, false, false, false, false, false]
abbrev m5_4 : Array Bool := #[true, true, true, true, false, false, false, false, false, false, false, false, false, false, false, false]
abbrev m5_5 : Array Bool := #[true, true, true, true, false, true, false, false, false, false, false, false, false, false, false, false]
abbrev m5_6 : Array Bool := #[true, true, true, true, false, true, true, false, false, false, false, false, false, false, false, false]
abbrev m5_7 : Array Bool := #[true, true, true, true, false, true, true, true, false, false, false, false, false, false, false, false]
abbrev m5_8 : Array Bool := #[true, true, true, true, true, true, true, true, false, false, false, false, false, false, false, false]
abbrev m5_9 : Array Bool := #[true, true, true, true, true, true, true, true, true, false, false, false, false, false, false, false]
abbrev m5_10 : Array Bool := #[true, true, true, true, true, true, true, true, true, true, false, false, false, false, false, false]
abbrev m5_11 : Array Bool := #[true, true, true, true, true, true, true, true, true, true, true, false, false, false, false, false]
abbrev m5_12 : Array Bool := #[true, true, true, true, true, true, true, true, true, true, true, true, false, false, false, false]
abbrev m5_13 : Array Bool := #[true, true, true, true, true, true, true, true, true, true, true, true, true, false, false, false]
abbrev m5_14 : Array Bool := #[true, true, true, true, true, true, true, true, true, true, true, true, true, true, false, false]
abbrev m5_15 : Array Bool := #[true, true, true, true, true, true, true, true, true, true, true, true, true, true, true, false]
abbrev m5_16 : Array Bool := #[true, true, true, true, true, true, true, true, true, true, true, true, true, true, true, true]
theorem pa5_1 {α : Type} (l : List α) (i : Nat) (a : α) : l.toArray.setIfInBounds i a = (l.set i a).toArray := List.setIfInBounds_toArray l i a
theorem pa5_2 {α : Type} (a : α) (l : List α) (b : α) : (a :: l).set 0 b = b :: l := rfl
theorem pa5_3 {α : Type} (a : α) (l : List α) (n : Nat) (b : α) : (a :: l).set (n + 1) b = a :: l.set n b := rfl

theorem hb5_3 {w : World} {g0 : Nat} {t0 : TypeId} {a0_0 a0_1 a0_2 : Value} (h0 : w.heap[g0]? = some (.cells #[a0_0, a0_1, a0_2] t0 (0, 0))) : w.cell? ⟨g0, 0, none⟩ = some a0_0 ∧ w.cell? ⟨g0, 1, none⟩ = some a0_1 ∧ w.cell? ⟨g0, 2, none⟩ = some a0_2 := ⟨(blk_cell h0 0).trans rfl, (blk_cell h0 1).trans rfl, (blk_cell h0 2).trans rfl⟩

/-! ### spec_l3Begin: function 63 -/
def spec_l3Begin.f (k : Nat) (l0_0 : List (S80)) (l0_1 : List Int) (l0_2 : List Bool) (a1 : Bool) : Option (Int × (List (S80)) × List Int × List Bool) := (spec_l3Put.f k l0_0 l0_1 l0_2 4 0 0 (⟨#[]⟩ : ByteArray)).bind fun bt155 => (if bt155.1 = 0 then (if bt155.2.2.1.length < 17592186044416 then ((some (bt155.2.2.1 ++ [wrap64 ((bt155.2.1.length : Int) - 1)] : List Int)).bind fun y165 => (if bt155.2.2.2.length < 140737488355328 then ((some (bt155.2.2.2 ++ [a1] : List Bool)).bind fun y168 => (if a1 = true then ((spec_l3Put.f k bt155.2.1 y165 y168 3 0 0 (⟨#[113, 117, 111, 116, 101]⟩ : ByteArray)).bind fun bt171 => (some (bt171.1, bt171.2.1, bt171.2.2.1, bt171.2.2.2))) else (some (0, bt155.2.1, y165, y168)))) else (none))) else (none)) else (some (bt155.1, bt155.2.1, bt155.2.2.1, bt155.2.2.2)))
theorem spec_l3Begin.mono : ∀ a0 a1 a2 a3 k, LeO (spec_l3Begin.f k a0 a1 a2 a3) (spec_l3Begin.f (k + 1) a0 a1 a2 a3) := by
  intro a0 a1 a2 a3 k; unfold spec_l3Begin.f
  repeat' first | (with_reducible first | apply spec_l3Put.mono | exact LeO.refl _ | exact LeO.none _ | refine LeO.ite ?_ ?_ | refine LeO.bind ?_ (fun _ => ?_)) | apply spec_l3Put.mono | exact LeO.none _ | refine LeO.ite ?_ ?_ | refine LeO.bind ?_ (fun _ => ?_)
def spec_l3Begin.T4 : Bool × List (List Nat × List Nat) := (true, [([], []), ([], []), ([1], [1]), ([2], [2]), ([3], [3]), ([], []), ([5], [5]), ([6], [6]), ([7], [7]), ([8], [8]), ([9], [9]), ([10], [10]), ([4, 11], [4, 11]), ([0, 0, 1, 2, 3, 4, 5, 6, 7, 8, 9, 10, 11, 12], [0]), ([13, 0, 1, 2, 3, 4, 5, 6, 7, 8, 9, 10, 11, 12], [13]), ([14, 12, 12, 0, 1, 2, 3, 4, 5, 6, 7, 8, 9, 10, 11, 12], [12, 14])])
def spec_l3Begin.B4 : List Nat := [0, 0, 2, 6, 14, 0, 32, 96, 224, 480, 992, 2016, 4094, 8191, 16383, 32767]
theorem spec_l3Begin.tab4 : rtab .any (opsOf Tryd.f63 4) = spec_l3Begin.T4 := by kernel_rfl
theorem spec_l3Begin.bits4 : waitsOk spec_l3Begin.T4.2 spec_l3Begin.B4 = true := by kernel_rfl
theorem spec_l3Begin.calls (k : Nat) (g : Nat) (P0_0_ : Nat → Prop) (u9000_ : Value) (l0_0 : List (S80)) (P0_1_ : Nat → Prop) (u9001_ : Value) (l0_1 : List Int) (P0_2_ : Nat → Prop) (u9002_ : Value) (l0_2 : List Bool) (a1 : Bool) (r1 : Int) (r2 : List (S80)) (r3 : List Int) (r4 : List Bool) (w0 w : World) (hB : Below w0.heap.size w0 w) (hb0 : w.heap[g]? = some (.cells #[u9000_, u9001_, u9002_] 74 (0, 0))) (hg0 : w0.heap.size ≤ g) (ho0_0 : Kd.R k80 80 w w0.heap.size P0_0_ u9000_ l0_0) (ho0_1 : Kd.R (Kd.int .i64) 2 w w0.heap.size P0_1_ u9001_ l0_1) (ho0_2 : Kd.R Kd.bool 4 w w0.heap.size P0_2_ u9002_ l0_2) (h : spec_l3Begin.f k l0_0 l0_1 l0_2 a1 = some (r1, r2, r3, r4)) :
    Calls Tryd.prog 63 #[.pointer (some ⟨g, 0, none⟩), .bool a1] w fun e w' => ∃ v1_ v2_ v3_ : Value, e = .returned (.int .i64 r1) ∧ Kd.R k80 80 w' w0.heap.size (fun k_ => ((P0_0_ k_ ∨ P0_1_ k_ ∨ P0_2_ k_) ∨ w.heap.size ≤ k_)) v1_ r2 ∧ Kd.R (Kd.int .i64) 2 w' w0.heap.size (fun k_ => ((P0_0_ k_ ∨ P0_1_ k_ ∨ P0_2_ k_) ∨ w.heap.size ≤ k_)) v2_ r3 ∧ Kd.R Kd.bool 4 w' w0.heap.size (fun k_ => ((P0_0_ k_ ∨ P0_1_ k_ ∨ P0_2_ k_) ∨ w.heap.size ≤ k_)) v3_ r4 ∧ w'.heap[g]? = some (.cells #[v1_, v2_, v3_] 74 (0, 0)) ∧ Below w0.heap.size w0 w' ∧ Kept w w' (fun k_ => (P0_0_ k_ ∨ P0_1_ k_ ∨ P0_2_ k_) ∨ k_ = g) := by
  have hu80 := Tryd.underlying80; have BK0 := ak hb0; have GE0 := ak hg0; clear hb0 hg0; have HO0_0 := ak (show Kd.R k80 80 w w0.heap.size (fun k_ => ((P0_0_ k_ ∨ P0_1_ k_ ∨ P0_2_ k_) ∨ w.heap.size ≤ k_)) u9000_ l0_0 from Kd.R_mono ho0_0 (fun k_ hk => (.inl (.inl hk)))); have HO0_1 := ak (show Kd.R (Kd.int .i64) 2 w w0.heap.size (fun k_ => ((P0_0_ k_ ∨ P0_1_ k_ ∨ P0_2_ k_) ∨ w.heap.size ≤ k_)) u9001_ l0_1 from Kd.R_mono ho0_1 (fun k_ hk => (.inl (.inr (.inl hk))))); have HO0_2 := ak (show Kd.R Kd.bool 4 w w0.heap.size (fun k_ => ((P0_0_ k_ ∨ P0_1_ k_ ∨ P0_2_ k_) ∨ w.heap.size ≤ k_)) u9002_ l0_2 from Kd.R_mono ho0_2 (fun k_ hk => (.inl (.inr (.inr hk))))); have HK := ak (Kept.refl w (fun k_ => (P0_0_ k_ ∨ P0_1_ k_ ∨ P0_2_ k_) ∨ k_ = g)); have HW0 := ak hB.size; have HB := ak hB; clear hB; have H := h; clear h; unfold spec_l3Begin.f at H
  replace H := Option.bind_eq_some_iff.mp H; obtain ⟨⟨t155, t156, t159, t162⟩, A30, H⟩ := H; (try dsimp -simprocs only at H); have A3 := ak A30; clear A30; by_cases c4 : t155 = 0
  ·rw [if_pos c4] at H
   have c4b0 : (t155 == 0) = true := beq_iff_eq.mpr c4; have c4b1 : (t155 != 0) = false := bne_eq_false_iff_eq.mpr c4; clear c4; by_cases c5 : t159.length < 17592186044416
   ·rw [if_pos c5] at H
    have LMc5 := ak c5; clear c5; obtain ⟨y165, hy165⟩ : ∃ y_ : List Int, y_ = (t159 ++ [wrap64 ((t156.length : Int) - 1)]) := ⟨_, rfl⟩
    replace H : (if t162.length < 140737488355328 then ((some (t162 ++ [a1] : List Bool)).bind fun y168 => (if a1 = true then ((spec_l3Put.f k t156 y165 y168 3 0 0 (⟨#[113, 117, 111, 116, 101]⟩ : ByteArray)).bind fun bt171 => (some (bt171.1, bt171.2.1, bt171.2.2.1, bt171.2.2.2))) else (some (0, t156, y165, y168)))) else (none)) = some (r1, r2, r3, r4) := by first | (rw [hy165]; with_reducible exact H) | (have H2_ := (Option.bind_some _ _).symm.trans H; rw [hy165]; with_reducible exact H2_) | (have H2_ := (Option.bind_some _ _).symm.trans H; with_reducible exact H2_) | with_reducible exact H | (rw [hy165]; exact H) | exact H
    have Ny165 := ak hy165; clear hy165; by_cases c6 : t162.length < 140737488355328
    ·rw [if_pos c6] at H
     have LMc6 := ak c6; clear c6; obtain ⟨y168, hy168⟩ : ∃ y_ : List Bool, y_ = (t162 ++ [a1]) := ⟨_, rfl⟩
     replace H : (if a1 = true then ((spec_l3Put.f k t156 y165 y168 3 0 0 (⟨#[113, 117, 111, 116, 101]⟩ : ByteArray)).bind fun bt171 => (some (bt171.1, bt171.2.1, bt171.2.2.1, bt171.2.2.2))) else (some (0, t156, y165, y168))) = some (r1, r2, r3, r4) := by first | (rw [hy168]; with_reducible exact H) | (have H2_ := (Option.bind_some _ _).symm.trans H; rw [hy168]; with_reducible exact H2_) | (have H2_ := (Option.bind_some _ _).symm.trans H; with_reducible exact H2_) | with_reducible exact H | (rw [hy168]; exact H) | exact H
     have Ny168 := ak hy168; clear hy168; by_cases c7 : a1 = true
     ·subst c7
      rw [if_pos rfl] at H; replace H := Option.bind_eq_some_iff.mp H; obtain ⟨⟨t171, t172, t175, t178⟩, A80, H⟩ := H; (try dsimp -simprocs only at H); have A8 := ak A80; clear A80; simp only [Option.some.injEq, Prod.mk.injEq] at H; obtain ⟨rfl, rfl, rfl, rfl⟩ := H; obtain ⟨Ao9, co9, eo9⟩ := Kd.R_slice HO0_0.out; subst eo9; obtain ⟨Ao10, co10, eo10⟩ := Kd.R_slice HO0_1.out; subst eo10; obtain ⟨Ao11, co11, eo11⟩ := Kd.R_slice HO0_2.out; subst eo11; go_enter Tryd.func63, Tryd.ntmps63
      try go_wp2_with (first | ((with_reducible refine gate_callee (f := 65) rfl ?_); refine goesL_ (some 8) rfl rfl Tryd.func65 (by kernel_rfl) rfl #[.pointer (some ⟨g, 0, none⟩), .agg #[.int .i64 4, .int .i64 0, .int .i64 0, .string (⟨#[]⟩ : ByteArray)]] rfl d5_4 ?_; (with_reducible refine (spec_l3Put.calls k g (fun k_ => some k_ = (.slice Ao9 l0_0.length co9 : Value).ownBlock) (.slice Ao9 l0_0.length co9) l0_0 (fun k_ => some k_ = (.slice Ao10 l0_1.length co10 : Value).ownBlock) (.slice Ao10 l0_1.length co10) l0_1 (fun k_ => some k_ = (.slice Ao11 l0_2.length co11 : Value).ownBlock) (.slice Ao11 l0_2.length co11) l0_2 4 0 0 (⟨#[]⟩ : ByteArray) t155 t156 t159 t162 w0 _ ?side1 ?side2 ?side3 ?side4 ?side5 ?side6 A3.out).mono ?_); (case side1 => exact c5_1); (case side2 => exact c5_2); (case side3 => exact GE0.out); (case side4 => exact Kd.R_tight rfl HO0_0.out); (case side5 => exact Kd.R_tight rfl HO0_1.out); (case side6 => exact Kd.R_tight rfl HO0_2.out); rintro e w12 ⟨v157, v160, v163, rfl, ho0, ho1, ho2, hbx, hb, hkp⟩; refine ⟨_, rfl, ?_⟩; have n0_ := ak (hbx); have n1_ := ak (Kd.R_mono (ok' := fun k_ => ((P0_0_ k_ ∨ P0_1_ k_ ∨ P0_2_ k_) ∨ w.heap.size ≤ k_)) ho0 (fun k_ hk_ => Or.elim hk_ (fun hs_ => Or.elim hs_ (fun hs_ => (HO0_0.out.1 k_ (hs_).symm)) (fun hs_ => Or.elim hs_ (fun hs_ => (HO0_1.out.1 k_ (hs_).symm)) (fun hs_ => (HO0_2.out.1 k_ (hs_).symm)))) (fun hn_ => (.inr (Nat.le_trans d5_1 hn_))))); have n2_ := ak (Kd.R_mono (ok' := fun k_ => ((P0_0_ k_ ∨ P0_1_ k_ ∨ P0_2_ k_) ∨ w.heap.size ≤ k_)) ho1 (fun k_ hk_ => Or.elim hk_ (fun hs_ => Or.elim hs_ (fun hs_ => (HO0_0.out.1 k_ (hs_).symm)) (fun hs_ => Or.elim hs_ (fun hs_ => (HO0_1.out.1 k_ (hs_).symm)) (fun hs_ => (HO0_2.out.1 k_ (hs_).symm)))) (fun hn_ => (.inr (Nat.le_trans d5_1 hn_))))); have n3_ := ak (Kd.R_mono (ok' := fun k_ => ((P0_0_ k_ ∨ P0_1_ k_ ∨ P0_2_ k_) ∨ w.heap.size ≤ k_)) ho2 (fun k_ hk_ => Or.elim hk_ (fun hs_ => Or.elim hs_ (fun hs_ => (HO0_0.out.1 k_ (hs_).symm)) (fun hs_ => Or.elim hs_ (fun hs_ => (HO0_1.out.1 k_ (hs_).symm)) (fun hs_ => (HO0_2.out.1 k_ (hs_).symm)))) (fun hn_ => (.inr (Nat.le_trans d5_1 hn_))))); have n4_ := ak (Kept.then_ (S := (fun k_ => (P0_0_ k_ ∨ P0_1_ k_ ∨ P0_2_ k_) ∨ k_ = g)) d5_5 hkp (fun k_ hs_ => Or.elim hs_ (fun hs_ => Or.elim hs_ (fun e_ => (fun e_ => Or.imp_left Or.inl ((HO0_0.out.1 k_ e_.symm))) e_) (fun e_ => Or.elim e_ (fun e_ => (fun e_ => Or.imp_left Or.inl ((HO0_1.out.1 k_ e_.symm))) e_) (fun e_ => (fun e_ => Or.imp_left Or.inl ((HO0_2.out.1 k_ e_.symm))) e_))) (fun e_ => .inl (.inr e_)))); have n5_ := ak (hb); clear BK0 HK HB HO0_0 HO0_1 HO0_2; have BK0 := n0_; have HO158 := n1_; have HO161 := n2_; have HO164 := n3_; have HK := n4_; have HB := n5_; clear n0_ n1_ n2_ n3_ n4_ n5_; (try clear hb); (try clear hkp); (try clear hbx); (try clear ho0); (try clear ho1); (try clear ho2)))
      have n0_ := ak (Kd.R_drew HO158.out); have n1_ := ak (Kd.R_drew HO161.out); have n2_ := ak (Kd.R_drew HO164.out); have n3_ := ak (blk_drew BK0.out); have n4_ := ak (Kept.drew HK.out); have n5_ := ak (below_drew1 HB.out); clear HO158; clear HO161; clear HO164; clear BK0; clear HK; clear HB; have HO158 := n0_; have HO161 := n1_; have HO164 := n2_; have BK0 := n3_; have HK := n4_; have HB := n5_; clear n0_ n1_ n2_ n3_ n4_ n5_; obtain ⟨Ao14, co14, eo14⟩ := Kd.R_slice HO158.out
      (first | subst eo14 | (injection eo14 with f1_ f2_ f3_; have f4_ := f1_.symm; have f5_ := f3_.symm; clear f1_ f2_ f3_; subst f4_; subst f5_))
      refine start_ (n := 16) (S := fun w' => w'.cell? ⟨g, 0, none⟩ = some (.slice Ao14 t156.length co14) ∧ w'.cell? ⟨g, 1, none⟩ = some (v160) ∧ w'.cell? ⟨g, 2, none⟩ = some (v163)) (ds := [15]) m5_0 (by kernel_rfl) rfl rfl (hb5_3 BK0.out) (fun hHeld => ?_); refine with_tabW spec_l3Begin.tab4 spec_l3Begin.bits4 (fun HT_ HW_ => ?_); generalize w12.drew = w13 at HO158 HO161 HO164 BK0 HK HB hHeld ⊢; refine pure_ (i := 0) (N := some 12) (v := ?_) (a' := ?_) m5_1 rfl rfl (any_of HT_.out (by kernel_rfl)) (fun _ _ _ h => h) (Or.inl ⟨by rfl, ?_⟩) ?_ ?_; rotate_left
      · intro w'
        go_simp; (with_reducible rfl)
      rotate_left
      · simp only [Act.put, pa5_1, pa5_2, pa5_3, i64_w, i32_w]
        rfl
      refine pure_ (i := 1) (N := some 13) (v := ?_) (a' := ?_) m5_2 rfl rfl (any_of HT_.out (by kernel_rfl)) (fun _ _ _ h => h) (Or.inl ⟨by rfl, ?_⟩) ?_ ?_; rotate_left
      · intro w'
        go_simp; (with_reducible rfl)
      rotate_left
      · simp only [Act.put, pa5_1, pa5_2, pa5_3, i64_w, i32_w]
        rfl
      refine pure_ (i := 2) (N := some 14) (v := ?_) (a' := ?_) m5_3 rfl rfl (any_of HT_.out (by kernel_rfl)) (fun _ _ _ h => h) (Or.inl ⟨by rfl, ?_⟩) ?_ ?_; rotate_left
      · intro w'
        go_simp; (with_reducible rfl)
      rotate_left
      · simp only [Act.put, pa5_1, pa5_2, pa5_3, i64_w, i32_w]
        rfl
      refine pure_ (i := 3) (N := some 15) (v := ?_) (a' := ?_) m5_4 rfl rfl (any_of HT_.out (by kernel_rfl)) (fun _ _ _ h => h) (Or.inl ⟨by rfl, ?_⟩) ?_ ?_; rotate_left
      · intro w'
        go_simp; (with_reducible rfl)
      rotate_left
      · simp only [Act.put, pa5_1, pa5_2, pa5_3, i64_w, i32_w]
        rfl
      refine pure_ (i := 5) (N := some 17) (v := ?_) (a' := ?_) m5_5 rfl rfl (any_of HT_.out (by kernel_rfl)) (fun _ _ _ h => h) (Or.inl ⟨by rfl, ?_⟩) ?_ ?_; rotate_left
      · intro w'
        go_simp; (with_reducible rfl)
      rotate_left
      · simp only [Act.put, pa5_1, pa5_2, pa5_3, i64_w, i32_w]
        rfl
      refine pure_ (i := 6) (N := some 18) (v := ?_) (a' := ?_) m5_6 rfl rfl (any_of HT_.out (by kernel_rfl)) (fun _ _ _ h => h) (Or.inl ⟨by rfl, ?_⟩) ?_ ?_; rotate_left
      · intro w'
        go_simp; (with_reducible rfl)
      rotate_left
      · simp only [Act.put, pa5_1, pa5_2, pa5_3, i64_w, i32_w]
        rfl
      refine pure_ (i := 7) (N := some 19) (v := ?_) (a' := ?_) m5_7 rfl rfl (any_of HT_.out (by kernel_rfl)) (fun _ _ _ h => h) (Or.inl ⟨by rfl, ?_⟩) ?_ ?_; rotate_left
      · intro w'
        go_simp; (with_reducible rfl)
      rotate_left
      · simp only [Act.put, pa5_1, pa5_2, pa5_3, i64_w, i32_w]
        rfl
      refine take_ (i := 4) (N := some 16) (v := ?_) (a' := ?_) m5_8 rfl rfl (take_ofW HT_.out HW_.out (by kernel_rfl)) (fun _ _ _ h => h) (Or.inl ⟨by rfl, ?_⟩) hHeld ?_ ?_; rotate_left
      · rintro w' ⟨s0, s1, s2⟩
        go_simp; (with_reducible rfl)
      rotate_left
      · simp only [Act.put, pa5_1, pa5_2, pa5_3, i64_w, i32_w]
        rfl
      refine take_ (i := 8) (N := some 20) (v := ?_) (a' := ?_) m5_9 rfl rfl (take_ofW HT_.out HW_.out (by kernel_rfl)) (fun _ _ _ h => h) (Or.inl ⟨by rfl, ?_⟩) hHeld ?_ ?_; rotate_left
      · rintro w' ⟨s0, s1, s2⟩
        go_simp; (with_reducible rfl)
      rotate_left
      · simp only [Act.put, pa5_1, pa5_2, pa5_3, i64_w, i32_w]
        rfl
      refine pure_ (i := 9) (N := some 21) (v := ?_) (a' := ?_) m5_10 rfl rfl (any_of HT_.out (by kernel_rfl)) (fun _ _ _ h => h) (Or.inl ⟨by rfl, ?_⟩) ?_ ?_; rotate_left
      · intro w'
        go_simp; (with_reducible rfl)
      rotate_left
      · simp only [Act.put, pa5_1, pa5_2, pa5_3, i64_w, i32_w]
        rfl
      refine pure_ (i := 10) (N := some 22) (v := ?_) (a' := ?_) m5_11 rfl rfl (any_of HT_.out (by kernel_rfl)) (fun _ _ _ h => h) (Or.inl ⟨by rfl, ?_⟩) ?_ ?_; rotate_left
      · intro w'
        go_simp; (with_reducible rfl)
      rotate_left
      · simp only [Act.put, pa5_1, pa5_2, pa5_3, i64_w, i32_w]
        rfl
      refine one_ (i := 11) (N := some 23) m5_12 rfl rfl (one_of HT_.out (by kernel_rfl)) (by decide) (fun K hK => ?_); refine value_ (w1 := ?_) (v := ?_) (by rfl) rfl ?_ ?_; rotate_left 2
      · go_simp
        constructor
        · rfl
        · rfl
      refine hK.out _ _ ⟨(blk_cell (blk_alloc BK0.out _) 0).trans rfl, (blk_cell (blk_alloc BK0.out _) 1).trans rfl, (blk_cell (blk_alloc BK0.out _) 2).trans rfl⟩ (fun hHeld => ?_); clear hK K; refine norm_ (a' := ?_) ?_ ?_; rotate_left
      · show Act.put _ (some 23) _ = _
        simp only [Act.put, pa5_1, pa5_2, pa5_3, i64_w, i32_w]; rfl
      refine one_ (i := 12) (N := some 24) m5_13 rfl rfl (one_of HT_.out (by kernel_rfl)) (by decide) (fun K hK => ?_); refine Kd.R_append_step (Kd.int .i64) (w0 := w0) w0.heap.size (by rfl) (.tmp 16) (.tmp 23) 54 2 (.int .i64 0) 8 rfl Tryd.underlying54 info2 rfl (by decide) (by omega) v160 t159 (wrap64 ((t156.length : Int) - 1)) [.int .i64 (wrap64 ((t156.length : Int) - 1))] (fun k_ => ((P0_0_ k_ ∨ P0_1_ k_ ∨ P0_2_ k_) ∨ w.heap.size ≤ k_)) (fun _ => False) rfl rfl ?aP (fun _ hk => hk.elim) ?aF ?aO ?aB ?aS ?aL ?_
      (case aP => exact rfl)
      (case aB => exact d5_2)
      (case aF => exact (fun k_ hk => (.inr (Nat.le_trans d5_1 hk))))
      (case aO => exact d5_3)
      (case aS => exact (below_size d5_2))
      (case aL => have := LMc5.out; omega)
      intro v166 w15 ho hb hg hat; rw [← Ny165.out] at ho; have n0_ := ak (blk_grown (g := g) (o := .cells #[.slice Ao14 t156.length co14, v160, v163] 74 (0, 0)) (by (with_reducible repeat (first | refine blk_drewN ?_ _ | refine blk_drew ?_ | refine blk_alloc ?_ _)); exact BK0.out) hg (Kd.R_ne HO161.out BK0.out (by decide))); have n1_ := ak (Kd.R_over' (by (with_reducible repeat (first | apply Kd.R_alloc | apply Kd.R_drewN | apply Kd.R_drew)); exact HO158.out) (Kd.R_typed d5_3) (by decide) hg); have n2_ := ak (Kd.R_over' (by (with_reducible repeat (first | apply Kd.R_alloc | apply Kd.R_drewN | apply Kd.R_drew)); exact HO164.out) (Kd.R_typed d5_3) (by decide) hg); have n3_ := ak (hb); have n4_ := ak (Kept.of_grown (S := (fun k_ => (P0_0_ k_ ∨ P0_1_ k_ ∨ P0_2_ k_) ∨ k_ = g)) hg d5_5 (fun k_ e_ => Or.imp_left Or.inl ((HO161.out.1 k_ e_)))); have n5_ := ak (ho); clear BK0; clear HO158; clear HO164; clear HB; clear HK; clear HO161; have BK0 := n0_; have HO158 := n1_; have HO164 := n2_; have HB := n3_; have HK := n4_; have HO167 := n5_; clear n0_ n1_ n2_ n3_ n4_ n5_; clear ho hb hg hat; obtain ⟨Ao16, co16, eo16⟩ := Kd.R_slice HO167.out
      (first | subst eo16 | (injection eo16 with f1_ f2_ f3_; have f4_ := f1_.symm; have f5_ := f3_.symm; clear f1_ f2_ f3_; subst f4_; subst f5_))
      refine hK.out _ _ (hb5_3 BK0.out) (fun hHeld => ?_); clear hK K; refine norm_ (a' := ?_) ?_ ?_; rotate_left
      · show Act.put _ (some 24) _ = _
        simp only [Act.put, pa5_1, pa5_2, pa5_3, i64_w, i32_w]; rfl
      refine pure_ (i := 13) (N := some 25) (v := ?_) (a' := ?_) m5_14 rfl rfl (any_of HT_.out (by kernel_rfl)) (fun _ _ _ h => h) (Or.inl ⟨by rfl, ?_⟩) ?_ ?_; rotate_left
      · intro w'
        go_simp; (with_reducible rfl)
      rotate_left
      · simp only [Act.put, pa5_1, pa5_2, pa5_3, i64_w, i32_w]
        rfl
      refine pure_ (i := 14) (N := some 26) (v := ?_) (a' := ?_) m5_15 rfl rfl (any_of HT_.out (by kernel_rfl)) (fun _ _ _ h => h) (Or.inl ⟨by rfl, ?_⟩) ?_ ?_; rotate_left
      · intro w'
        go_simp; (with_reducible rfl)
      rotate_left
      · simp only [Act.put, pa5_1, pa5_2, pa5_3, i64_w, i32_w]
        rfl
      refine last_ (i := 15) (N := none) m5_16 rfl rfl (one_of HT_.out (by kernel_rfl)) (by decide) (fun K hK => ?_); have hs17 : w15.cell? ⟨g, 1, none⟩ = some (v160) := (blk_cell BK0.out 1).trans rfl; have hfs17 := blk_frozen BK0.out 1; refine skip_ (w1 := ?_) (by rfl) rfl ?_ ?_; rotate_left
      · go_simp
        rfl
      refine hK.out _ _ ?_; clear hK K; refine done_ (done_of HT_.out (by kernel_rfl)) ?_; have hcz18_0 := z5c BK0.out 0 (v := (.slice Ao14 t156.length co14)) rfl; have hcz18_1 := z5c BK0.out 1 (v := (v160)) rfl; have hcz18_2 := z5c BK0.out 2 (v := (v163)) rfl; have hfz18_0 := blk_frozen BK0.out 0; have hfz18_1 := blk_frozen BK0.out 1; have hfz18_2 := blk_frozen BK0.out 2
      try go_wp2_with (first | ((with_reducible refine gate_builtin (b := .append) (xs := #[.tmp 31, .tmp 33]) rfl ?_); at_builtin; refine Kd.R_append Kd.bool (w0 := w0) w0.heap.size rfl (.tmp 31) (.tmp 33) 72 4 (.bool false) 1 rfl Tryd.underlying72 info4 rfl (by decide) (by omega) v163 t162 true [.bool true] (fun k_ => ((P0_0_ k_ ∨ P0_1_ k_ ∨ P0_2_ k_) ∨ w.heap.size ≤ k_)) (fun _ => False) rfl (by first | (go_simp; done) | (go_simp; rfl)) ?aP (fun _ hk => hk.elim) ?aF ?aO ?aB ?aS ?aL ?_; (case aP => exact rfl); (case aB => exact d5_2); (case aF => exact (fun k_ hk => (.inr (Nat.le_trans (show Kept w _ (fun k_ => (P0_0_ k_ ∨ P0_1_ k_ ∨ P0_2_ k_) ∨ k_ = g) from by repeat (first | (with_reducible first | exact HK.out | apply Kept.alloc | apply Kept.drewN | apply Kept.drew | refine Kept.setCell ?_ (.inl (.inr rfl)) _) | exact HK.out)).1 hk)))); (case aO => exact (by (with_reducible repeat (first | apply Kd.R_alloc | apply Kd.R_drewN | apply Kd.R_drew)); exact Kd.R_mono (Kd.R_far (p := ⟨g, 1, none⟩) (Kd.R_types HO164.out BK0.out (by decide)) (fun _ hk => hk.2) (.slice Ao16 y165.length co16)) (fun _ hk => hk.1))); (case aS => exact (below_size d5_2)); (case aL => have := LMc6.out; omega); intro v169 w19 ho hb hg hat; rw [← Ny168.out] at ho; have n0_ := ak (blk_grown (g := g) (o := .cells #[.slice Ao14 t156.length co14, .slice Ao16 y165.length co16, v163] 74 (0, 0)) (by (with_reducible repeat (first | refine blk_drewN ?_ _ | refine blk_drew ?_ | refine blk_alloc ?_ _)); refine blk_put (cs := #[.slice Ao14 t156.length co14, v160, v163]) ?_ 1 _ rfl; (with_reducible repeat (first | refine blk_drewN ?_ _ | refine blk_drew ?_ | refine blk_alloc ?_ _)); exact BK0.out) hg (Kd.R_ne HO164.out BK0.out (by decide))); have n1_ := ak (Kd.R_over' (by (with_reducible repeat (first | apply Kd.R_alloc | apply Kd.R_drewN | apply Kd.R_drew)); exact (Kd.R_mono (Kd.R_far (p := ⟨g, 1, none⟩) (Kd.R_types HO158.out BK0.out (by decide)) (fun _ hk => hk.2) (.slice Ao16 y165.length co16)) (fun _ h_ => h_.1))) (Kd.R_typed (by (with_reducible repeat (first | apply Kd.R_alloc | apply Kd.R_drewN | apply Kd.R_drew)); exact (Kd.R_mono (Kd.R_far (p := ⟨g, 1, none⟩) (Kd.R_types HO164.out BK0.out (by decide)) (fun _ hk => hk.2) (.slice Ao16 y165.length co16)) (fun _ h_ => h_.1)))) (by decide) hg); have n2_ := ak (Kd.R_over' (by (with_reducible repeat (first | apply Kd.R_alloc | apply Kd.R_drewN | apply Kd.R_drew)); exact (Kd.R_mono (Kd.R_far (p := ⟨g, 1, none⟩) (Kd.R_types HO167.out BK0.out (by decide)) (fun _ hk => hk.2) (.slice Ao16 y165.length co16)) (fun _ h_ => h_.1))) (Kd.R_typed (by (with_reducible repeat (first | apply Kd.R_alloc | apply Kd.R_drewN | apply Kd.R_drew)); exact (Kd.R_mono (Kd.R_far (p := ⟨g, 1, none⟩) (Kd.R_types HO164.out BK0.out (by decide)) (fun _ hk => hk.2) (.slice Ao16 y165.length co16)) (fun _ h_ => h_.1)))) (by decide) hg); have n3_ := ak (hb); have n4_ := ak (Kept.of_grown (S := (fun k_ => (P0_0_ k_ ∨ P0_1_ k_ ∨ P0_2_ k_) ∨ k_ = g)) hg d5_5 (fun k_ e_ => Or.imp_left Or.inl ((HO164.out.1 k_ e_)))); have n5_ := ak (ho); clear BK0 HO158 HO167 HB HK HO164; have BK0 := n0_; have HO158 := n1_; have HO167 := n2_; have HB := n3_; have HK := n4_; have HO170 := n5_; clear n0_ n1_ n2_ n3_ n4_ n5_ ho hb hg hat; obtain ⟨Ao20, co20, eo20⟩ := Kd.R_slice HO170.out; subst eo20; have hcz21_0 := z5c BK0.out 0 (v := (.slice Ao14 t156.length co14)) rfl; have hcz21_1 := z5c BK0.out 1 (v := (.slice Ao16 y165.length co16)) rfl; have hcz21_2 := z5c BK0.out 2 (v := (v163)) rfl; have hfz21_0 := blk_frozen BK0.out 0; have hfz21_1 := blk_frozen BK0.out 1; have hfz21_2 := blk_frozen BK0.out 2) | ((with_reducible refine gate_store (t := 72) (p := 36) rfl ?_); refine store_event (t := 72) (p := 36) (v := ?vo_w22) (w1 := (w19.setCell ⟨g, 2, none⟩ (.slice Ao20 y168.length co20))) ?hg ?ho ?hn ?hr ?_; (case ho => rfl); (case hg => rfl); (case hn => rfl); (case hr => first | (go_simp; done) | (go_simp; rfl)); intro w22 hw; have n0_ : Aside0 (Kd.R k80 80 w22 w0.heap.size (fun k_ => ((P0_0_ k_ ∨ P0_1_ k_ ∨ P0_2_ k_) ∨ w.heap.size ≤ k_)) (.slice Ao14 t156.length co14) t156) := ⟨(by rw [hw]; exact (by (with_reducible repeat (first | apply Kd.R_alloc | apply Kd.R_drewN | apply Kd.R_drew)); exact Kd.R_mono (Kd.R_far (p := ⟨g, 2, none⟩) (Kd.R_types HO158.out BK0.out (by decide)) (fun _ hk => hk.2) (.slice Ao20 y168.length co20)) (fun _ hk => hk.1)))⟩; have n1_ : Aside0 (Kd.R (Kd.int .i64) 2 w22 w0.heap.size (fun k_ => ((P0_0_ k_ ∨ P0_1_ k_ ∨ P0_2_ k_) ∨ w.heap.size ≤ k_)) (.slice Ao16 y165.length co16) y165) := ⟨(by rw [hw]; exact (by (with_reducible repeat (first | apply Kd.R_alloc | apply Kd.R_drewN | apply Kd.R_drew)); exact Kd.R_mono (Kd.R_far (p := ⟨g, 2, none⟩) (Kd.R_types HO167.out BK0.out (by decide)) (fun _ hk => hk.2) (.slice Ao20 y168.length co20)) (fun _ hk => hk.1)))⟩; have n2_ : Aside0 (Kd.R Kd.bool 4 w22 w0.heap.size (fun k_ => ((P0_0_ k_ ∨ P0_1_ k_ ∨ P0_2_ k_) ∨ w.heap.size ≤ k_)) (.slice Ao20 y168.length co20) y168) := ⟨(by rw [hw]; exact (by (with_reducible repeat (first | apply Kd.R_alloc | apply Kd.R_drewN | apply Kd.R_drew)); exact Kd.R_mono (Kd.R_far (p := ⟨g, 2, none⟩) (Kd.R_types HO170.out BK0.out (by decide)) (fun _ hk => hk.2) (.slice Ao20 y168.length co20)) (fun _ hk => hk.1)))⟩; have n3_ : Aside0 (w22.heap[g]? = some (.cells #[.slice Ao14 t156.length co14, .slice Ao16 y165.length co16, .slice Ao20 y168.length co20] 74 (0, 0))) := ⟨(by rw [hw]; exact (by (with_reducible repeat (first | refine blk_drewN ?_ _ | refine blk_drew ?_ | refine blk_alloc ?_ _)); refine blk_put (cs := #[.slice Ao14 t156.length co14, .slice Ao16 y165.length co16, v163]) ?_ 2 _ rfl; (with_reducible repeat (first | refine blk_drewN ?_ _ | refine blk_drew ?_ | refine blk_alloc ?_ _)); exact BK0.out))⟩; have n4_ : Aside0 (Kept w w22 (fun k_ => (P0_0_ k_ ∨ P0_1_ k_ ∨ P0_2_ k_) ∨ k_ = g)) := ⟨(by rw [hw]; exact d5_5)⟩; have n5_ : Aside0 (Below w0.heap.size w0 w22) := ⟨(by rw [hw]; exact d5_2)⟩; clear hw HO158 HO167 HO170 BK0 HK HB; have HO158 := n0_; have HO167 := n1_; have HO170 := n2_; have BK0 := n3_; have HK := n4_; have HB := n5_; clear n0_ n1_ n2_ n3_ n4_ n5_) | ((with_reducible refine gate_callee (f := 65) rfl ?_); refine goesL_ (some 40) rfl rfl Tryd.func65 (by kernel_rfl) rfl #[.pointer (some ⟨g, 0, none⟩), .agg #[.int .i64 3, .int .i64 0, .int .i64 0, .string (⟨#[113, 117, 111, 116, 101]⟩ : ByteArray)]] rfl d5_4 ?_; (with_reducible refine (spec_l3Put.calls k g (fun k_ => some k_ = (.slice Ao14 t156.length co14 : Value).ownBlock) (.slice Ao14 t156.length co14) t156 (fun k_ => some k_ = (.slice Ao16 y165.length co16 : Value).ownBlock) (.slice Ao16 y165.length co16) y165 (fun k_ => some k_ = (.slice Ao20 y168.length co20 : Value).ownBlock) (.slice Ao20 y168.length co20) y168 3 0 0 (⟨#[113, 117, 111, 116, 101]⟩ : ByteArray) t171 t172 t175 t178 w0 _ ?side1 ?side2 ?side3 ?side4 ?side5 ?side6 A8.out).mono ?_); (case side1 => exact c5_1); (case side2 => exact c5_2); (case side3 => exact GE0.out); (case side4 => exact Kd.R_tight rfl HO158.out); (case side5 => exact Kd.R_tight rfl HO167.out); (case side6 => exact Kd.R_tight rfl HO170.out); rintro e w23 ⟨v173, v176, v179, rfl, ho0, ho1, ho2, hbx, hb, hkp⟩; refine ⟨_, rfl, ?_⟩; have n0_ := ak (hbx); have n1_ := ak (Kd.R_mono (ok' := fun k_ => ((P0_0_ k_ ∨ P0_1_ k_ ∨ P0_2_ k_) ∨ w.heap.size ≤ k_)) ho0 (fun k_ hk_ => Or.elim hk_ (fun hs_ => Or.elim hs_ (fun hs_ => (HO158.out.1 k_ (hs_).symm)) (fun hs_ => Or.elim hs_ (fun hs_ => (HO167.out.1 k_ (hs_).symm)) (fun hs_ => (HO170.out.1 k_ (hs_).symm)))) (fun hn_ => (.inr (Nat.le_trans d5_1 hn_))))); have n2_ := ak (Kd.R_mono (ok' := fun k_ => ((P0_0_ k_ ∨ P0_1_ k_ ∨ P0_2_ k_) ∨ w.heap.size ≤ k_)) ho1 (fun k_ hk_ => Or.elim hk_ (fun hs_ => Or.elim hs_ (fun hs_ => (HO158.out.1 k_ (hs_).symm)) (fun hs_ => Or.elim hs_ (fun hs_ => (HO167.out.1 k_ (hs_).symm)) (fun hs_ => (HO170.out.1 k_ (hs_).symm)))) (fun hn_ => (.inr (Nat.le_trans d5_1 hn_))))); have n3_ := ak (Kd.R_mono (ok' := fun k_ => ((P0_0_ k_ ∨ P0_1_ k_ ∨ P0_2_ k_) ∨ w.heap.size ≤ k_)) ho2 (fun k_ hk_ => Or.elim hk_ (fun hs_ => Or.elim hs_ (fun hs_ => (HO158.out.1 k_ (hs_).symm)) (fun hs_ => Or.elim hs_ (fun hs_ => (HO167.out.1 k_ (hs_).symm)) (fun hs_ => (HO170.out.1 k_ (hs_).symm)))) (fun hn_ => (.inr (Nat.le_trans d5_1 hn_))))); have n4_ := ak (Kept.then_ (S := (fun k_ => (P0_0_ k_ ∨ P0_1_ k_ ∨ P0_2_ k_) ∨ k_ = g)) d5_5 hkp (fun k_ hs_ => Or.elim hs_ (fun hs_ => Or.elim hs_ (fun e_ => (fun e_ => Or.imp_left Or.inl ((HO158.out.1 k_ e_.symm))) e_) (fun e_ => Or.elim e_ (fun e_ => (fun e_ => Or.imp_left Or.inl ((HO167.out.1 k_ e_.symm))) e_) (fun e_ => (fun e_ => Or.imp_left Or.inl ((HO170.out.1 k_ e_.symm))) e_))) (fun e_ => .inl (.inr e_)))); have n5_ := ak (hb); clear BK0 HK HB HO158 HO167 HO170; have BK0 := n0_; have HO174 := n1_; have HO177 := n2_; have HO180 := n3_; have HK := n4_; have HB := n5_; clear n0_ n1_ n2_ n3_ n4_ n5_; (try clear hb); (try clear hkp); (try clear hbx); (try clear ho0); (try clear ho1); (try clear ho2)))
      go_ret; exact ⟨_, _, _, by first | rfl | (simp [errW_none, errW_some] <;> rfl) | (simp [*, errW_none, errW_some] <;> rfl), by (with_reducible repeat (first | apply Kd.R_alloc | apply Kd.R_drewN | apply Kd.R_drew)); exact HO174.out, by (with_reducible repeat (first | apply Kd.R_alloc | apply Kd.R_drewN | apply Kd.R_drew)); exact HO177.out, by (with_reducible repeat (first | apply Kd.R_alloc | apply Kd.R_drewN | apply Kd.R_drew)); exact HO180.out, c5_2, c5_1, c5_3⟩
     ·replace c7 := Bool.eq_false_iff.mpr c7
      subst c7
      rw [if_neg (show ¬ (false = true) by decide)] at H; simp only [Option.some.injEq, Prod.mk.injEq] at H; obtain ⟨rfl, rfl, rfl, rfl⟩ := H; obtain ⟨Ao24, co24, eo24⟩ := Kd.R_slice HO0_0.out; subst eo24; obtain ⟨Ao25, co25, eo25⟩ := Kd.R_slice HO0_1.out; subst eo25; obtain ⟨Ao26, co26, eo26⟩ := Kd.R_slice HO0_2.out; subst eo26; go_enter Tryd.func63, Tryd.ntmps63
      try go_wp2_with (first | ((with_reducible refine gate_callee (f := 65) rfl ?_); refine goesL_ (some 8) rfl rfl Tryd.func65 (by kernel_rfl) rfl #[.pointer (some ⟨g, 0, none⟩), .agg #[.int .i64 4, .int .i64 0, .int .i64 0, .string (⟨#[]⟩ : ByteArray)]] rfl d5_4 ?_; (with_reducible refine (spec_l3Put.calls k g (fun k_ => some k_ = (.slice Ao24 l0_0.length co24 : Value).ownBlock) (.slice Ao24 l0_0.length co24) l0_0 (fun k_ => some k_ = (.slice Ao25 l0_1.length co25 : Value).ownBlock) (.slice Ao25 l0_1.length co25) l0_1 (fun k_ => some k_ = (.slice Ao26 l0_2.length co26 : Value).ownBlock) (.slice Ao26 l0_2.length co26) l0_2 4 0 0 (⟨#[]⟩ : ByteArray) t155 t156 t159 t162 w0 _ ?side1 ?side2 ?side3 ?side4 ?side5 ?side6 A3.out).mono ?_); (case side1 => exact c5_1); (case side2 => exact c5_2); (case side3 => exact GE0.out); (case side4 => exact Kd.R_tight rfl HO0_0.out); (case side5 => exact Kd.R_tight rfl HO0_1.out); (case side6 => exact Kd.R_tight rfl HO0_2.out); rintro e w27 ⟨v157, v160, v163, rfl, ho0, ho1, ho2, hbx, hb, hkp⟩; refine ⟨_, rfl, ?_⟩; have n0_ := ak (hbx); have n1_ := ak (Kd.R_mono (ok' := fun k_ => ((P0_0_ k_ ∨ P0_1_ k_ ∨ P0_2_ k_) ∨ w.heap.size ≤ k_)) ho0 (fun k_ hk_ => Or.elim hk_ (fun hs_ => Or.elim hs_ (fun hs_ => (HO0_0.out.1 k_ (hs_).symm)) (fun hs_ => Or.elim hs_ (fun hs_ => (HO0_1.out.1 k_ (hs_).symm)) (fun hs_ => (HO0_2.out.1 k_ (hs_).symm)))) (fun hn_ => (.inr (Nat.le_trans d5_1 hn_))))); have n2_ := ak (Kd.R_mono (ok' := fun k_ => ((P0_0_ k_ ∨ P0_1_ k_ ∨ P0_2_ k_) ∨ w.heap.size ≤ k_)) ho1 (fun k_ hk_ => Or.elim hk_ (fun hs_ => Or.elim hs_ (fun hs_ => (HO0_0.out.1 k_ (hs_).symm)) (fun hs_ => Or.elim hs_ (fun hs_ => (HO0_1.out.1 k_ (hs_).symm)) (fun hs_ => (HO0_2.out.1 k_ (hs_).symm)))) (fun hn_ => (.inr (Nat.le_trans d5_1 hn_))))); have n3_ := ak (Kd.R_mono (ok' := fun k_ => ((P0_0_ k_ ∨ P0_1_ k_ ∨ P0_2_ k_) ∨ w.heap.size ≤ k_)) ho2 (fun k_ hk_ => Or.elim hk_ (fun hs_ => Or.elim hs_ (fun hs_ => (HO0_0.out.1 k_ (hs_).symm)) (fun hs_ => Or.elim hs_ (fun hs_ => (HO0_1.out.1 k_ (hs_).symm)) (fun hs_ => (HO0_2.out.1 k_ (hs_).symm)))) (fun hn_ => (.inr (Nat.le_trans d5_1 hn_))))); have n4_ := ak (Kept.then_ (S := (fun k_ => (P0_0_ k_ ∨ P0_1_ k_ ∨ P0_2_ k_) ∨ k_ = g)) d5_5 hkp (fun k_ hs_ => Or.elim hs_ (fun hs_ => Or.elim hs_ (fun e_ => (fun e_ => Or.imp_left Or.inl ((HO0_0.out.1 k_ e_.symm))) e_) (fun e_ => Or.elim e_ (fun e_ => (fun e_ => Or.imp_left Or.inl ((HO0_1.out.1 k_ e_.symm))) e_) (fun e_ => (fun e_ => Or.imp_left Or.inl ((HO0_2.out.1 k_ e_.symm))) e_))) (fun e_ => .inl (.inr e_)))); have n5_ := ak (hb); clear BK0 HK HB HO0_0 HO0_1 HO0_2; have BK0 := n0_; have HO158 := n1_; have HO161 := n2_; have HO164 := n3_; have HK := n4_; have HB := n5_; clear n0_ n1_ n2_ n3_ n4_ n5_; (try clear hb); (try clear hkp); (try clear hbx); (try clear ho0); (try clear ho1); (try clear ho2)))
      have n0_ := ak (Kd.R_drew HO158.out); have n1_ := ak (Kd.R_drew HO161.out); have n2_ := ak (Kd.R_drew HO164.out); have n3_ := ak (blk_drew BK0.out); have n4_ := ak (Kept.drew HK.out); have n5_ := ak (below_drew1 HB.out); clear HO158; clear HO161; clear HO164; clear BK0; clear HK; clear HB; have HO158 := n0_; have HO161 := n1_; have HO164 := n2_; have BK0 := n3_; have HK := n4_; have HB := n5_; clear n0_ n1_ n2_ n3_ n4_ n5_; obtain ⟨Ao29, co29, eo29⟩ := Kd.R_slice HO158.out
      (first | subst eo29 | (injection eo29 with f1_ f2_ f3_; have f4_ := f1_.symm; have f5_ := f3_.symm; clear f1_ f2_ f3_; subst f4_; subst f5_))
      refine start_ (n := 16) (S := fun w' => w'.cell? ⟨g, 0, none⟩ = some (.slice Ao29 t156.length co29) ∧ w'.cell? ⟨g, 1, none⟩ = some (v160) ∧ w'.cell? ⟨g, 2, none⟩ = some (v163)) (ds := [15]) m5_0 (by kernel_rfl) rfl rfl (hb5_3 BK0.out) (fun hHeld => ?_); refine with_tabW spec_l3Begin.tab4 spec_l3Begin.bits4 (fun HT_ HW_ => ?_); generalize w27.drew = w28 at HO158 HO161 HO164 BK0 HK HB hHeld ⊢; refine pure_ (i := 0) (N := some 12) (v := ?_) (a' := ?_) m5_1 rfl rfl (any_of HT_.out (by kernel_rfl)) (fun _ _ _ h => h) (Or.inl ⟨by rfl, ?_⟩) ?_ ?_; rotate_left
      · intro w'
        go_simp; (with_reducible rfl)
      rotate_left
      · simp only [Act.put, pa5_1, pa5_2, pa5_3, i64_w, i32_w]
        rfl
      refine pure_ (i := 1) (N := some 13) (v := ?_) (a' := ?_) m5_2 rfl rfl (any_of HT_.out (by kernel_rfl)) (fun _ _ _ h => h) (Or.inl ⟨by rfl, ?_⟩) ?_ ?_; rotate_left
      · intro w'
        go_simp; (with_reducible rfl)
      rotate_left
      · simp only [Act.put, pa5_1, pa5_2, pa5_3, i64_w, i32_w]
        rfl
      refine pure_ (i := 2) (N := some 14) (v := ?_) (a' := ?_) m5_3 rfl rfl (any_of HT_.out (by kernel_rfl)) (fun _ _ _ h => h) (Or.inl ⟨by rfl, ?_⟩) ?_ ?_; rotate_left
      · intro w'
        go_simp; (with_reducible rfl)
      rotate_left
      · simp only [Act.put, pa5_1, pa5_2, pa5_3, i64_w, i32_w]
        rfl
      refine pure_ (i := 3) (N := some 15) (v := ?_) (a' := ?_) m5_4 rfl rfl (any_of HT_.out (by kernel_rfl)) (fun _ _ _ h => h) (Or.inl ⟨by rfl, ?_⟩) ?_ ?_; rotate_left
      · intro w'
        go_simp; (with_reducible rfl)
      rotate_left
      · simp only [Act.put, pa5_1, pa5_2, pa5_3, i64_w, i32_w]
        rfl
      refine pure_ (i := 5) (N := some 17) (v := ?_) (a' := ?_) m5_5 rfl rfl (any_of HT_.out (by kernel_rfl)) (fun _ _ _ h => h) (Or.inl ⟨by rfl, ?_⟩) ?_ ?_; rotate_left
      · intro w'
        go_simp; (with_reducible rfl)
      rotate_left
      · simp only [Act.put, pa5_1, pa5_2, pa5_3, i64_w, i32_w]
        rfl
      refine pure_ (i := 6) (N := some 18) (v := ?_) (a' := ?_) m5_6 rfl rfl (any_of HT_.out (by kernel_rfl)) (fun _ _ _ h => h) (Or.inl ⟨by rfl, ?_⟩) ?_ ?_; rotate_left
      · intro w'
        go_simp; (with_reducible rfl)
      rotate_left
      · simp only [Act.put, pa5_1, pa5_2, pa5_3, i64_w, i32_w]
        rfl
      refine pure_ (i := 7) (N := some 19) (v := ?_) (a' := ?_) m5_7 rfl rfl (any_of HT_.out (by kernel_rfl)) (fun _ _ _ h => h) (Or.inl ⟨by rfl, ?_⟩) ?_ ?_; rotate_left
      · intro w'
        go_simp; (with_reducible rfl)
      rotate_left
      · simp only [Act.put, pa5_1, pa5_2, pa5_3, i64_w, i32_w]
        rfl
      refine take_ (i := 4) (N := some 16) (v := ?_) (a' := ?_) m5_8 rfl rfl (take_ofW HT_.out HW_.out (by kernel_rfl)) (fun _ _ _ h => h) (Or.inl ⟨by rfl, ?_⟩) hHeld ?_ ?_; rotate_left
      · rintro w' ⟨s0, s1, s2⟩
        go_simp; (with_reducible rfl)
      rotate_left
      · simp only [Act.put, pa5_1, pa5_2, pa5_3, i64_w, i32_w]
        rfl
      refine take_ (i := 8) (N := some 20) (v := ?_) (a' := ?_) m5_9 rfl rfl (take_ofW HT_.out HW_.out (by kernel_rfl)) (fun _ _ _ h => h) (Or.inl ⟨by rfl, ?_⟩) hHeld ?_ ?_; rotate_left
      · rintro w' ⟨s0, s1, s2⟩
        go_simp; (with_reducible rfl)
      rotate_left
      · simp only [Act.put, pa5_1, pa5_2, pa5_3, i64_w, i32_w]
        rfl
      refine pure_ (i := 9) (N := some 21) (v := ?_) (a' := ?_) m5_10 rfl rfl (any_of HT_.out (by kernel_rfl)) (fun _ _ _ h => h) (Or.inl ⟨by rfl, ?_⟩) ?_ ?_; rotate_left
      · intro w'
        go_simp; (with_reducible rfl)
      rotate_left
      · simp only [Act.put, pa5_1, pa5_2, pa5_3, i64_w, i32_w]
        rfl
      refine pure_ (i := 10) (N := some 22) (v := ?_) (a' := ?_) m5_11 rfl rfl (any_of HT_.out (by kernel_rfl)) (fun _ _ _ h => h) (Or.inl ⟨by rfl, ?_⟩) ?_ ?_; rotate_left
      · intro w'
        go_simp; (with_reducible rfl)
      rotate_left
      · simp only [Act.put, pa5_1, pa5_2, pa5_3, i64_w, i32_w]
        rfl
      refine one_ (i := 11) (N := some 23) m5_12 rfl rfl (one_of HT_.out (by kernel_rfl)) (by decide) (fun K hK => ?_); refine value_ (w1 := ?_) (v := ?_) (by rfl) rfl ?_ ?_; rotate_left 2
      · go_simp
        constructor
        · rfl
        · rfl
      refine hK.out _ _ ⟨(blk_cell (blk_alloc BK0.out _) 0).trans rfl, (blk_cell (blk_alloc BK0.out _) 1).trans rfl, (blk_cell (blk_alloc BK0.out _) 2).trans rfl⟩ (fun hHeld => ?_); clear hK K; refine norm_ (a' := ?_) ?_ ?_; rotate_left
      · show Act.put _ (some 23) _ = _
        simp only [Act.put, pa5_1, pa5_2, pa5_3, i64_w, i32_w]; rfl
      refine one_ (i := 12) (N := some 24) m5_13 rfl rfl (one_of HT_.out (by kernel_rfl)) (by decide) (fun K hK => ?_); refine Kd.R_append_step (Kd.int .i64) (w0 := w0) w0.heap.size (by rfl) (.tmp 16) (.tmp 23) 54 2 (.int .i64 0) 8 rfl Tryd.underlying54 info2 rfl (by decide) (by omega) v160 t159 (wrap64 ((t156.length : Int) - 1)) [.int .i64 (wrap64 ((t156.length : Int) - 1))] (fun k_ => ((P0_0_ k_ ∨ P0_1_ k_ ∨ P0_2_ k_) ∨ w.heap.size ≤ k_)) (fun _ => False) rfl rfl ?aP (fun _ hk => hk.elim) ?aF ?aO ?aB ?aS ?aL ?_
      (case aP => exact rfl)
      (case aB => exact d5_2)
      (case aF => exact (fun k_ hk => (.inr (Nat.le_trans d5_1 hk))))
      (case aO => exact d5_3)
      (case aS => exact (below_size d5_2))
      (case aL => have := LMc5.out; omega)
      intro v166 w30 ho hb hg hat; rw [← Ny165.out] at ho; have n0_ := ak (blk_grown (g := g) (o := .cells #[.slice Ao29 t156.length co29, v160, v163] 74 (0, 0)) (by (with_reducible repeat (first | refine blk_drewN ?_ _ | refine blk_drew ?_ | refine blk_alloc ?_ _)); exact BK0.out) hg (Kd.R_ne HO161.out BK0.out (by decide))); have n1_ := ak (Kd.R_over' (by (with_reducible repeat (first | apply Kd.R_alloc | apply Kd.R_drewN | apply Kd.R_drew)); exact HO158.out) (Kd.R_typed d5_3) (by decide) hg); have n2_ := ak (Kd.R_over' (by (with_reducible repeat (first | apply Kd.R_alloc | apply Kd.R_drewN | apply Kd.R_drew)); exact HO164.out) (Kd.R_typed d5_3) (by decide) hg); have n3_ := ak (hb); have n4_ := ak (Kept.of_grown (S := (fun k_ => (P0_0_ k_ ∨ P0_1_ k_ ∨ P0_2_ k_) ∨ k_ = g)) hg d5_5 (fun k_ e_ => Or.imp_left Or.inl ((HO161.out.1 k_ e_)))); have n5_ := ak (ho); clear BK0; clear HO158; clear HO164; clear HB; clear HK; clear HO161; have BK0 := n0_; have HO158 := n1_; have HO164 := n2_; have HB := n3_; have HK := n4_; have HO167 := n5_; clear n0_ n1_ n2_ n3_ n4_ n5_; clear ho hb hg hat; obtain ⟨Ao31, co31, eo31⟩ := Kd.R_slice HO167.out
      (first | subst eo31 | (injection eo31 with f1_ f2_ f3_; have f4_ := f1_.symm; have f5_ := f3_.symm; clear f1_ f2_ f3_; subst f4_; subst f5_))
      refine hK.out _ _ (hb5_3 BK0.out) (fun hHeld => ?_); clear hK K; refine norm_ (a' := ?_) ?_ ?_; rotate_left
      · show Act.put _ (some 24) _ = _
        simp only [Act.put, pa5_1, pa5_2, pa5_3, i64_w, i32_w]; rfl
      refine pure_ (i := 13) (N := some 25) (v := ?_) (a' := ?_) m5_14 rfl rfl (any_of HT_.out (by kernel_rfl)) (fun _ _ _ h => h) (Or.inl ⟨by rfl, ?_⟩) ?_ ?_; rotate_left
      · intro w'
        go_simp; (with_reducible rfl)
      rotate_left
      · simp only [Act.put, pa5_1, pa5_2, pa5_3, i64_w, i32_w]
        rfl
      refine pure_ (i := 14) (N := some 26) (v := ?_) (a' := ?_) m5_15 rfl rfl (any_of HT_.out (by kernel_rfl)) (fun _ _ _ h => h) (Or.inl ⟨by rfl, ?_⟩) ?_ ?_; rotate_left
      · intro w'
        go_simp; (with_reducible rfl)
      rotate_left
      · simp only [Act.put, pa5_1, pa5_2, pa5_3, i64_w, i32_w]
        rfl
      refine last_ (i := 15) (N := none) m5_16 rfl rfl (one_of HT_.out (by kernel_rfl)) (by decide) (fun K hK => ?_); have hs32 : w30.cell? ⟨g, 1, none⟩ = some (v160) := (blk_cell BK0.out 1).trans rfl; have hfs32 := blk_frozen BK0.out 1; refine skip_ (w1 := ?_) (by rfl) rfl ?_ ?_; rotate_left
      · go_simp
        rfl
      refine hK.out _ _ ?_; clear hK K; refine done_ (done_of HT_.out (by kernel_rfl)) ?_; have hcz33_0 := z5c BK0.out 0 (v := (.slice Ao29 t156.length co29)) rfl; have hcz33_1 := z5c BK0.out 1 (v := (v160)) rfl; have hcz33_2 := z5c BK0.out 2 (v := (v163)) rfl; have hfz33_0 := blk_frozen BK0.out 0; have hfz33_1 := blk_frozen BK0.out 1; have hfz33_2 := blk_frozen BK0.out 2
      try go_wp2_with (first | ((with_reducible refine gate_builtin (b := .append) (xs := #[.tmp 31, .tmp 33]) rfl ?_); at_builtin; refine Kd.R_append Kd.bool (w0 := w0) w0.heap.size rfl (.tmp 31) (.tmp 33) 72 4 (.bool false) 1 rfl Tryd.underlying72 info4 rfl (by decide) (by omega) v163 t162 false [.bool false] (fun k_ => ((P0_0_ k_ ∨ P0_1_ k_ ∨ P0_2_ k_) ∨ w.heap.size ≤ k_)) (fun _ => False) rfl (by first | (go_simp; done) | (go_simp; rfl)) ?aP (fun _ hk => hk.elim) ?aF ?aO ?aB ?aS ?aL ?_; (case aP => exact rfl); (case aB => exact d5_2); (case aF => exact (fun k_ hk => (.inr (Nat.le_trans (show Kept w _ (fun k_ => (P0_0_ k_ ∨ P0_1_ k_ ∨ P0_2_ k_) ∨ k_ = g) from by repeat (first | (with_reducible first | exact HK.out | apply Kept.alloc | apply Kept.drewN | apply Kept.drew | refine Kept.setCell ?_ (.inl (.inr rfl)) _) | exact HK.out)).1 hk)))); (case aO => exact (by (with_reducible repeat (first | apply Kd.R_alloc | apply Kd.R_drewN | apply Kd.R_drew)); exact Kd.R_mono (Kd.R_far (p := ⟨g, 1, none⟩) (Kd.R_types HO164.out BK0.out (by decide)) (fun _ hk => hk.2) (.slice Ao31 y165.length co31)) (fun _ hk => hk.1))); (case aS => exact (below_size d5_2)); (case aL => have := LMc6.out; omega); intro v169 w34 ho hb hg hat; rw [← Ny168.out] at ho; have n0_ := ak (blk_grown (g := g) (o := .cells #[.slice Ao29 t156.length co29, .slice Ao31 y165.length co31, v163] 74 (0, 0)) (by (with_reducible repeat (first | refine blk_drewN ?_ _ | refine blk_drew ?_ | refine blk_alloc ?_ _)); refine blk_put (cs := #[.slice Ao29 t156.length co29, v160, v163]) ?_ 1 _ rfl; (with_reducible repeat (first | refine blk_drewN ?_ _ | refine blk_drew ?_ | refine blk_alloc ?_ _)); exact BK0.out) hg (Kd.R_ne HO164.out BK0.out (by decide))); have n1_ := ak (Kd.R_over' (by (with_reducible repeat (first | apply Kd.R_alloc | apply Kd.R_drewN | apply Kd.R_drew)); exact (Kd.R_mono (Kd.R_far (p := ⟨g, 1, none⟩) (Kd.R_types HO158.out BK0.out (by decide)) (fun _ hk => hk.2) (.slice Ao31 y165.length co31)) (fun _ h_ => h_.1))) (Kd.R_typed (by (with_reducible repeat (first | apply Kd.R_alloc | apply Kd.R_drewN | apply Kd.R_drew)); exact (Kd.R_mono (Kd.R_far (p := ⟨g, 1, none⟩) (Kd.R_types HO164.out BK0.out (by decide)) (fun _ hk => hk.2) (.slice Ao31 y165.length co31)) (fun _ h_ => h_.1)))) (by decide) hg); have n2_ := ak (Kd.R_over' (by (with_reducible repeat (first | apply Kd.R_alloc | apply Kd.R_drewN | apply Kd.R_drew)); exact (Kd.R_mono (Kd.R_far (p := ⟨g, 1, none⟩) (Kd.R_types HO167.out BK0.out (by decide)) (fun _ hk => hk.2) (.slice Ao31 y165.length co31)) (fun _ h_ => h_.1))) (Kd.R_typed (by (with_reducible repeat (first | apply Kd.R_alloc | apply Kd.R_drewN | apply Kd.R_drew)); exact (Kd.R_mono (Kd.R_far (p := ⟨g, 1, none⟩) (Kd.R_types HO164.out BK0.out (by decide)) (fun _ hk => hk.2) (.slice Ao31 y165.length co31)) (fun _ h_ => h_.1)))) (by decide) hg); have n3_ := ak (hb); have n4_ := ak (Kept.of_grown (S := (fun k_ => (P0_0_ k_ ∨ P0_1_ k_ ∨ P0_2_ k_) ∨ k_ = g)) hg d5_5 (fun k_ e_ => Or.imp_left Or.inl ((HO164.out.1 k_ e_)))); have n5_ := ak (ho); clear BK0 HO158 HO167 HB HK HO164; have BK0 := n0_; have HO158 := n1_; have HO167 := n2_; have HB := n3_; have HK := n4_; have HO170 := n5_; clear n0_ n1_ n2_ n3_ n4_ n5_ ho hb hg hat; obtain ⟨Ao35, co35, eo35⟩ := Kd.R_slice HO170.out; subst eo35; have hcz36_0 := z5c BK0.out 0 (v := (.slice Ao29 t156.length co29)) rfl; have hcz36_1 := z5c BK0.out 1 (v := (.slice Ao31 y165.length co31)) rfl; have hcz36_2 := z5c BK0.out 2 (v := (v163)) rfl; have hfz36_0 := blk_frozen BK0.out 0; have hfz36_1 := blk_frozen BK0.out 1; have hfz36_2 := blk_frozen BK0.out 2))
      go_ret
      exact ⟨_, _, _, by first | rfl | (simp [errW_none, errW_some] <;> rfl) | (simp [*, errW_none, errW_some] <;> rfl), by (with_reducible repeat (first | apply Kd.R_alloc | apply Kd.R_drewN | apply Kd.R_drew)); exact Kd.R_mono (Kd.R_far (p := ⟨g, 2, none⟩) (Kd.R_types HO158.out BK0.out (by decide)) (fun _ hk => hk.2) (.slice Ao35 y168.length co35)) (fun _ hk => hk.1), by (with_reducible repeat (first | apply Kd.R_alloc | apply Kd.R_drewN | apply Kd.R_drew)); exact Kd.R_mono (Kd.R_far (p := ⟨g, 2, none⟩) (Kd.R_types HO167.out BK0.out (by decide)) (fun _ hk => hk.2) (.slice Ao35 y168.length co35)) (fun _ hk => hk.1), by (with_reducible repeat (first | apply Kd.R_alloc | apply Kd.R_drewN | apply Kd.R_drew)); exact Kd.R_mono (Kd.R_far (p := ⟨g, 2, none⟩) (Kd.R_types HO170.out BK0.out (by decide)) (fun _ hk => hk.2) (.slice Ao35 y168.length co35)) (fun _ hk => hk.1), by (with_reducible repeat (first | refine blk_drewN ?_ _ | refine blk_drew ?_ | refine blk_alloc ?_ _)); refine blk_put (cs := #[.slice Ao29 t156.length co29, .slice Ao31 y165.length co31, v163]) ?_ 2 _ rfl; (with_reducible repeat (first | refine blk_drewN ?_ _ | refine blk_drew ?_ | refine blk_alloc ?_ _)); exact BK0.out, c5_1, c5_3⟩
    ·rw [if_neg c6] at H
     exact absurd H (by simp)
   ·rw [if_neg c5] at H
    exact absurd H (by simp)
  ·rw [if_neg c4] at H
   have c4b0 : (t155 == 0) = false := beq_eq_false_iff_ne.mpr c4; have c4b1 : (t155 != 0) = true := bne_iff_ne.mpr c4; simp only [Option.some.injEq, Prod.mk.injEq] at H; obtain ⟨rfl, rfl, rfl, rfl⟩ := H; obtain ⟨Ao37, co37, eo37⟩ := Kd.R_slice HO0_0.out; subst eo37; obtain ⟨Ao38, co38, eo38⟩ := Kd.R_slice HO0_1.out; subst eo38; obtain ⟨Ao39, co39, eo39⟩ := Kd.R_slice HO0_2.out; subst eo39; go_enter Tryd.func63, Tryd.ntmps63
   go_wp2_with (first | ((with_reducible refine gate_callee (f := 65) rfl ?_); refine goesL_ (some 8) rfl rfl Tryd.func65 (by kernel_rfl) rfl #[.pointer (some ⟨g, 0, none⟩), .agg #[.int .i64 4, .int .i64 0, .int .i64 0, .string (⟨#[]⟩ : ByteArray)]] rfl d5_4 ?_; (with_reducible refine (spec_l3Put.calls k g (fun k_ => some k_ = (.slice Ao37 l0_0.length co37 : Value).ownBlock) (.slice Ao37 l0_0.length co37) l0_0 (fun k_ => some k_ = (.slice Ao38 l0_1.length co38 : Value).ownBlock) (.slice Ao38 l0_1.length co38) l0_1 (fun k_ => some k_ = (.slice Ao39 l0_2.length co39 : Value).ownBlock) (.slice Ao39 l0_2.length co39) l0_2 4 0 0 (⟨#[]⟩ : ByteArray) t155 t156 t159 t162 w0 _ ?side1 ?side2 ?side3 ?side4 ?side5 ?side6 A3.out).mono ?_); (case side1 => exact c5_1); (case side2 => exact c5_2); (case side3 => exact GE0.out); (case side4 => exact Kd.R_tight rfl HO0_0.out); (case side5 => exact Kd.R_tight rfl HO0_1.out); (case side6 => exact Kd.R_tight rfl HO0_2.out); rintro e w40 ⟨v157, v160, v163, rfl, ho0, ho1, ho2, hbx, hb, hkp⟩; refine ⟨_, rfl, ?_⟩; have n0_ := ak (hbx); have n1_ := ak (Kd.R_mono (ok' := fun k_ => ((P0_0_ k_ ∨ P0_1_ k_ ∨ P0_2_ k_) ∨ w.heap.size ≤ k_)) ho0 (fun k_ hk_ => Or.elim hk_ (fun hs_ => Or.elim hs_ (fun hs_ => (HO0_0.out.1 k_ (hs_).symm)) (fun hs_ => Or.elim hs_ (fun hs_ => (HO0_1.out.1 k_ (hs_).symm)) (fun hs_ => (HO0_2.out.1 k_ (hs_).symm)))) (fun hn_ => (.inr (Nat.le_trans d5_1 hn_))))); have n2_ := ak (Kd.R_mono (ok' := fun k_ => ((P0_0_ k_ ∨ P0_1_ k_ ∨ P0_2_ k_) ∨ w.heap.size ≤ k_)) ho1 (fun k_ hk_ => Or.elim hk_ (fun hs_ => Or.elim hs_ (fun hs_ => (HO0_0.out.1 k_ (hs_).symm)) (fun hs_ => Or.elim hs_ (fun hs_ => (HO0_1.out.1 k_ (hs_).symm)) (fun hs_ => (HO0_2.out.1 k_ (hs_).symm)))) (fun hn_ => (.inr (Nat.le_trans d5_1 hn_))))); have n3_ := ak (Kd.R_mono (ok' := fun k_ => ((P0_0_ k_ ∨ P0_1_ k_ ∨ P0_2_ k_) ∨ w.heap.size ≤ k_)) ho2 (fun k_ hk_ => Or.elim hk_ (fun hs_ => Or.elim hs_ (fun hs_ => (HO0_0.out.1 k_ (hs_).symm)) (fun hs_ => Or.elim hs_ (fun hs_ => (HO0_1.out.1 k_ (hs_).symm)) (fun hs_ => (HO0_2.out.1 k_ (hs_).symm)))) (fun hn_ => (.inr (Nat.le_trans d5_1 hn_))))); have n4_ := ak (Kept.then_ (S := (fun k_ => (P0_0_ k_ ∨ P0_1_ k_ ∨ P0_2_ k_) ∨ k_ = g)) d5_5 hkp (fun k_ hs_ => Or.elim hs_ (fun hs_ => Or.elim hs_ (fun e_ => (fun e_ => Or.imp_left Or.inl ((HO0_0.out.1 k_ e_.symm))) e_) (fun e_ => Or.elim e_ (fun e_ => (fun e_ => Or.imp_left Or.inl ((HO0_1.out.1 k_ e_.symm))) e_) (fun e_ => (fun e_ => Or.imp_left Or.inl ((HO0_2.out.1 k_ e_.symm))) e_))) (fun e_ => .inl (.inr e_)))); have n5_ := ak (hb); clear BK0 HK HB HO0_0 HO0_1 HO0_2; have BK0 := n0_; have HO158 := n1_; have HO161 := n2_; have HO164 := n3_; have HK := n4_; have HB := n5_; clear n0_ n1_ n2_ n3_ n4_ n5_; (try clear hb); (try clear hkp); (try clear hbx); (try clear ho0); (try clear ho1); (try clear ho2)))
   go_ret; exact ⟨_, _, _, by first | rfl | (simp [errW_none, errW_some] <;> rfl) | (simp [*, errW_none, errW_some] <;> rfl), by (with_reducible repeat (first | apply Kd.R_alloc | apply Kd.R_drewN | apply Kd.R_drew)); exact HO158.out, by (with_reducible repeat (first | apply Kd.R_alloc | apply Kd.R_drewN | apply Kd.R_drew)); exact HO161.out, by (with_reducible repeat (first | apply Kd.R_alloc | apply Kd.R_drewN | apply Kd.R_drew)); exact HO164.out, c5_2, c5_1, c5_3⟩

end Go.Proofs.YteiokhfikbndbaaDoor.R
