/- Walks of the program's functions: each Go function's answer as a plain Lean function, and that the call comes to it. Written by a program. Conditions: those in each theorem's own head. -/
import Derived.Test.YtolhanigjmhkgacDoorA0
import Derived.Test.YtolhanigjmhkgacDoorA1
import Derived.Test.YtolhanigjmhkgacDoorA4
import Derived.Test.YtolhanigjmhkgacDoorA11
import Derived.Test.YtolhanigjmhkgacDoorA13
import Derived.Test.YtolhanigjmhkgacDoorA15
namespace Go.Proofs.YtolhanigjmhkgacDoor.A
open Go.RowKit Go.Proofs.YtolhanigjmhkgacDoorW.PrintWords Go.Proofs.YtolhanigjmhkgacDoorW.PrintLast Go.Proofs.YtolhanigjmhkgacDoorW.PrintMore
attribute [local go_sem] max2_int min2_int max_two min_two max_three min_three max_four min_four   -- for this text's walks alone
set_option linter.unusedVariables false
set_option linter.unusedSimpArgs false

attribute [local go_sem high] eqA29
theorem b16N {w : World} {g : Nat} {o : Obj} (h : w.heap[g]? = some o) (n : Nat) : (w.drewN n).heap[g]? = some o := h
theorem b16D {w : World} {g : Nat} {o : Obj} (h : w.heap[g]? = some o) : (w.drew).heap[g]? = some o := h
theorem b16L {w : World} {g : Nat} {o : Obj} (h : w.heap[g]? = some o) (o' : Obj) : (w.alloc o').heap[g]? = some o := blk_alloc h o'
theorem d16_1 {p : Prop} (h : p := by first | exact Kd.own_blk (Kd.R_away HO_1000.out (fun _ hk => hk.2)) | (rw [add_block]; exact Kd.own_blk (Kd.R_away HO_1000.out (fun _ hk => hk.2))) | (show (Addr.add _ _).block ≠ _; rw [add_block]; exact Kd.own_blk (Kd.R_away HO_1000.out (fun _ hk => hk.2))) | (dsimp only; exact Kd.own_blk (Kd.R_away HO_1000.out (fun _ hk => hk.2)))) : p := h
theorem d16_2 {p : Prop} (h : p := by repeat (first | (with_reducible first | exact HK.out | apply Kept.alloc | apply Kept.drewN | apply Kept.drew | refine Kept.setCell ?_ (.inr GW549.out) _) | exact HK.out)) : p := h
theorem d16_3 {p : Prop} (h : p := by repeat (first | (with_reducible first | exact HK.out | apply Kept.alloc | apply Kept.drewN | apply Kept.drew | refine Kept.setCell ?_ (.inl (.inr rfl)) _ | refine Kept.setCell ?_ (.inr GW549.out) _) | exact HK.out)) : p := h
theorem d16_4 {p : Prop} (h : p := by (with_reducible repeat first | apply b16N | apply b16D | apply b16L); exact BK0.out) : p := h
theorem d16_5 {p : Prop} (h : p := by repeat (first | (with_reducible first | exact HB.out | apply below_alloc | apply pw_below_drewN | apply below_drew1 | refine below_set ?_ GE0.out | refine below_set ?_ GE549.out) | exact HB.out)) : p := h
theorem d16_6 {p : Prop} (h : p := by repeat (first | exact HK.out | apply Kept.alloc | apply Kept.drewN | apply Kept.drew | refine Kept.setCell ?_ (.inl (.inr rfl)) _)) : p := h
theorem d16_7 {p : Prop} (h : p := by repeat (first | (with_reducible first | exact HK.out | apply Kept.alloc | apply Kept.drewN | apply Kept.drew | refine Kept.setCell ?_ (.inr GW561.out) _) | exact HK.out)) : p := h
theorem d16_8 {p : Prop} (h : p := by (with_reducible repeat first | apply b16N | apply b16D | apply b16L); exact BK549.out) : p := h
theorem d16_9 {p : Prop} (h : p := by (try simp only [List.map_toArray, List.map_cons, List.map_nil]); first | done | rfl | (simp only [List.length_drop, List.length_take]; rfl)) : p := h
theorem d16_10 {p : Prop} (h : p := by repeat (first | (with_reducible first | exact HB.out | apply below_alloc | apply pw_below_drewN | apply below_drew1 | refine below_set ?_ GE0.out) | exact HB.out)) : p := h
theorem d16_11 {p : Prop} (h : p := by (with_reducible repeat (first | apply Kd.R_alloc | apply Kd.R_drewN | apply Kd.R_drew)); exact HO0_0.out) : p := h
theorem d16_12 {p : Prop} (h : p := by rw [hg]; exact (by first | exact HK.out.1 | exact (show Kept w _ (fun k_ => (P0_0_ k_) ∨ k_ = g) from by repeat (first | (with_reducible first | exact HK.out | apply Kept.alloc | apply Kept.drewN | apply Kept.drew | refine Kept.setCell ?_ (.inl (.inr rfl)) _) | exact HK.out)).1)) : p := h
theorem d16_13 {p : Prop} (h : p := by first | (with_reducible assumption) | assumption) : p := h
theorem d16_14 {p : Prop} (h : p := by (with_reducible repeat (first | apply Kd.R_alloc | apply Kd.R_drewN | apply Kd.R_drew)); exact HO_1000.out) : p := h
theorem d16_15 {p : Prop} (h : p := by first | exact HK.out.1 | exact (show Kept w _ (fun k_ => (P0_0_ k_) ∨ k_ = g) from by repeat (first | (with_reducible first | exact HK.out | apply Kept.alloc | apply Kept.drewN | apply Kept.drew | refine Kept.setCell ?_ (.inl (.inr rfl)) _ | refine Kept.setCell ?_ (.inr GW549.out) _) | exact HK.out)).1) : p := h
theorem d16_16 {p : Prop} (h : p := by repeat (first | (with_reducible first | exact HK.out | apply Kept.alloc | apply Kept.drewN | apply Kept.drew | refine Kept.setCell ?_ (.inl (.inr rfl)) _) | exact HK.out)) : p := h
theorem c16_1 {p : Prop} (h : p := by (with_reducible repeat first | apply b16N | apply b16D | apply b16L); refine blk_far ?_ NB0_549.out _; (with_reducible repeat first | apply b16N | apply b16D | apply b16L); refine blk_far ?_ NB0_549.out _; (with_reducible repeat first | apply b16N | apply b16D | apply b16L); refine blk_far ?_ NB0_549.out _; (with_reducible repeat first | apply b16N | apply b16D | apply b16L); exact BK0.out) : p := h
theorem c16_2 {p : Prop} (h : p := by repeat (first | (with_reducible first | exact HK.out | apply Kept.alloc | apply Kept.drewN | apply Kept.drew | refine Kept.setCell ?_ (.inl (.inr rfl)) _ | refine Kept.setCell ?_ (.inr GW549.out) _) | exact HK.out)) : p := h
theorem c16_3 {p : Prop} (h : p := by repeat (first | (with_reducible first | exact HB.out | apply below_alloc | apply pw_below_drewN | apply below_drew1 | refine below_set ?_ GE0.out | refine below_set ?_ GE549.out) | exact HB.out)) : p := h
theorem c16_4 {p : Prop} (h : p := by (with_reducible repeat first | apply b16N | apply b16D | apply b16L); refine blk_far ?_ NB0_549.out _; (with_reducible repeat first | apply b16N | apply b16D | apply b16L); refine blk_far ?_ NB0_549.out _; (with_reducible repeat first | apply b16N | apply b16D | apply b16L); refine blk_far ?_ NB0_549.out _; (with_reducible repeat first | apply b16N | apply b16D | apply b16L); refine blk_far ?_ NB0_561.out _; (with_reducible repeat first | apply b16N | apply b16D | apply b16L); refine blk_far ?_ NB0_561.out _; (with_reducible repeat first | apply b16N | apply b16D | apply b16L); refine blk_far ?_ NB0_561.out _; (with_reducible repeat first | apply b16N | apply b16D | apply b16L); refine blk_far ?_ NB0_561.out _; (with_reducible repeat first | apply b16N | apply b16D | apply b16L); refine blk_far ?_ NB0_561.out _; (with_reducible repeat first | apply b16N | apply b16D | apply b16L); refine blk_far ?_ NB0_561.out _; (with_reducible repeat first | apply b16N | apply b16D | apply b16L); exact BK0.out) : p := h
theorem c16_5 {p : Prop} (h : p := by first | rfl | (simp [errW_none, errW_some] <;> rfl) | (simp [*, errW_none, errW_some] <;> rfl)) : p := h
set_option maxHeartbeats 8000000
set_option maxRecDepth 100000
theorem z16c {w : World} {g : Nat} {t : TypeId} {cs : Array Value} (h : w.heap[g]? = some (.cells cs t (0, 0))) (i : Nat) {v : Value} (e : cs[i]? = some v) : w.cell? ⟨g, i, none⟩ = some v := (blk_cell h i).trans e
theorem z16f {w : World} {g : Nat} {t : TypeId} {cs : Array Value} (h : w.heap[g]? = some (.cells cs t (0, 0))) (i : Nat) : w.frozen? ⟨g, i, none⟩ = false := blk_frozen h i
theorem pa16_1 {α : Type} (l : List α) (i : Nat) (a : α) : l.toArray.setIfInBounds i a = (l.set i a).toArray := List.setIfInBounds_toArray l i a
theorem pa16_2 {α : Type} (a : α) (l : List α) (b : α) : (a :: l).set 0 b = b :: l := rfl
theorem pa16_3 {α : Type} (a : α) (l : List α) (n : Nat) (b : α) : (a :: l).set (n + 1) b = a :: l.set n b := rfl
theorem zm16_0 {p : Prop} (h : p := by repeat' first | (with_reducible first | apply ih0 | apply spec_l6List.mono | apply spec_l6Num.mono | apply spec_l6Takes.mono | exact LeO.refl _ | exact LeO.none _ | refine LeO.ite ?_ ?_ | refine LeO.bind ?_ (fun _ => ?_)) | apply ih0 | apply spec_l6List.mono | apply spec_l6Num.mono | apply spec_l6Takes.mono | exact LeO.none _ | refine LeO.ite ?_ ?_ | refine LeO.bind ?_ (fun _ => ?_)) : p := h

/-! ### spec_l6Do: function 28 -/
def spec_l6Do.j0 : Nat → Int → List (S29) → Int → Bool → List (S34) → Option (Int × Int × ByteArray × Int × (List (S34)))
  | 0, _, _, _, _, _ => none
  | k + 1, x1, x2, x23, x52, x1000 => if x52 = true then (if 0 < (x2.length : Int) then (if ((rd_T29 x2 0).f0) = 5 then (if 0 ≤ ((rd_T29 x2 0).f1) then (if ((rd_T29 x2 0).f1) < (x1000.length : Int) then (if x1 = 8 then (some ((rd_T34 x1000 ((rd_T29 x2 0).f1)).f0.f0, (rd_T34 x1000 ((rd_T29 x2 0).f1)).f0.f1, (rd_T34 x1000 ((rd_T29 x2 0).f1)).f0.f2, 0, x1000)) else (some ((rd_T34 x1000 ((rd_T29 x2 0).f1)).f1.f0, (rd_T34 x1000 ((rd_T29 x2 0).f1)).f1.f1, (rd_T34 x1000 ((rd_T29 x2 0).f1)).f1.f2, 0, x1000))) else (none)) else (none)) else (some (0, 0, (⟨#[]⟩ : ByteArray), 6, x1000))) else (none)) else (if x23 = 10 then (if 0 < (x2.length : Int) then ((spec_l6Bool.f (((rd_T29 x2 0).f0) == 3)).bind fun bt563 => (some (bt563.1, bt563.2.1, bt563.2.2, 0, x1000))) else (none)) else (if x23 = 11 then (if 0 < (x2.length : Int) then ((spec_l6Bool.f (((rd_T29 x2 0).f0) == 5)).bind fun bt567 => (some (bt567.1, bt567.2.1, bt567.2.2, 0, x1000))) else (none)) else (if x23 = 12 then (if 0 < (x2.length : Int) then (if 1 < (x2.length : Int) then ((spec_l6Bool.f (((rd_T29 x2 0).f0) == ((rd_T29 x2 1).f0) && (((rd_T29 x2 0).f1) == ((rd_T29 x2 1).f1) && ((((rd_T29 x2 0).f2).toList) == (((rd_T29 x2 1).f2).toList))))).bind fun bt572 => (some (bt572.1, bt572.2.1, bt572.2.2, 0, x1000))) else (none)) else (none)) else (if x23 = 13 then (if 0 < (x2.length : Int) then ((spec_l6True.f ((rd_T29 x2 0).f0) ((rd_T29 x2 0).f1) ((rd_T29 x2 0).f2)).bind fun t576 => ((spec_l6Bool.f (!t576)).bind fun bt577 => (some (bt577.1, bt577.2.1, bt577.2.2, 0, x1000)))) else (none)) else (if x23 = 14 then ((spec_l6List.f k x1000 x2).bind fun bt580 => (some (bt580.1, bt580.2.1, bt580.2.2.1, bt580.2.2.2.1, bt580.2.2.2.2))) else (if 0 < (x2.length : Int) then (if 1 < (x2.length : Int) then ((spec_l6Num.f k x1 ((rd_T29 x2 0).f0) ((rd_T29 x2 0).f1) ((rd_T29 x2 0).f2) ((rd_T29 x2 1).f0) ((rd_T29 x2 1).f1) ((rd_T29 x2 1).f2)).bind fun bt589 => (some (bt589.1, bt589.2.1, bt589.2.2.1, bt589.2.2.2, x1000))) else (none)) else (none)))))))
def spec_l6Do.f (k : Nat) (l0_0 : List (S34)) (a1 : Int) (l2 : List (S29)) : Option (Int × Int × ByteArray × Int × (List (S34))) := (spec_l6Takes.f k a1).bind fun bt550 => ((spec_l1In.f (l2.length : Int) bt550.1 bt550.2).bind fun t552 => (if t552 = true then (if a1 = 7 then (if (l0_0.length : Int) ≥ 4000 then (some (0, 0, (⟨#[]⟩ : ByteArray), 2, l0_0)) else (if 0 < (l2.length : Int) then (if 1 < (l2.length : Int) then (if l0_0.length < 2199023255552 then ((some (l0_0 ++ [(⟨(⟨(rd_T29 l2 0).f0, (rd_T29 l2 0).f1, (rd_T29 l2 0).f2⟩ : S29), (⟨(rd_T29 l2 1).f0, (rd_T29 l2 1).f1, (rd_T29 l2 1).f2⟩ : S29)⟩ : S34)] : List (S34))).bind fun y555 => (some (5, wrap64 ((y555.length : Int) - 1), (⟨#[]⟩ : ByteArray), 0, y555))) else (none)) else (none)) else (none))) else (if a1 = 8 then (spec_l6Do.j0 k a1 l2 a1 (a1 == 8) l0_0) else (spec_l6Do.j0 k a1 l2 a1 (a1 == 9) l0_0))) else (some (0, 0, (⟨#[]⟩ : ByteArray), 8, l0_0))))
theorem spec_l6Do.mono_l : ∀ k, (∀ y0 y1 y2 y3 y4, LeO (spec_l6Do.j0 k y0 y1 y2 y3 y4) (spec_l6Do.j0 (k + 1) y0 y1 y2 y3 y4))
  | 0 => fun _ _ _ _ _ r h => by simp [spec_l6Do.j0] at h
  | k + 1 => by
    have ih0 := spec_l6Do.mono_l k
    · intro y0 y1 y2 y3 y4
      unfold spec_l6Do.j0
      exact zm16_0
theorem spec_l6Do.mono : ∀ a0 a1 a2 k, LeO (spec_l6Do.f k a0 a1 a2) (spec_l6Do.f (k + 1) a0 a1 a2) := by
  intro a0 a1 a2 k; have ih0 := spec_l6Do.mono_l k; unfold spec_l6Do.f
  exact zm16_0
def spec_l6Do.T8 : Bool × List (List Nat × List Nat) := (true, [([], []), ([], []), ([1], [1]), ([2], [2]), ([], []), ([4], [4]), ([5], [5]), ([], []), ([7], [7]), ([8], [8]), ([6, 9], [6, 9]), ([10], [10]), ([3, 11], [3, 11]), ([0, 0, 1, 2, 3, 4, 5, 6, 7, 8, 9, 10, 11, 12], [0]), ([13, 12, 12, 0, 1, 2, 3, 4, 5, 6, 7, 8, 9, 10, 11, 12], [12, 13])])
def spec_l6Do.B8 : List Nat := [0, 0, 2, 6, 0, 16, 48, 0, 128, 384, 1008, 2032, 4094, 8191, 16383]
theorem spec_l6Do.tab8 : rtab .any (opsOf Tryd.f28 8) = spec_l6Do.T8 := by kernel_rfl
theorem spec_l6Do.bits8 : waitsOk spec_l6Do.T8.2 spec_l6Do.B8 = true := by kernel_rfl
def spec_l6Do.T14 : Bool × List (List Nat × List Nat) := (true, [([], []), ([0], [0]), ([1], [1]), ([], []), ([3], [3]), ([4], [4]), ([5], [5]), ([2, 6], [2, 6]), ([7], [7]), ([], []), ([9, 8, 0, 1, 2, 3, 4, 5, 6, 7, 8, 9], [8, 9])])
def spec_l6Do.B14 : List Nat := [0, 1, 3, 0, 8, 24, 56, 127, 255, 0, 1023]
theorem spec_l6Do.tab14 : rtab .any (opsOf Tryd.f28 14) = spec_l6Do.T14 := by kernel_rfl
theorem spec_l6Do.bits14 : waitsOk spec_l6Do.T14.2 spec_l6Do.B14 = true := by kernel_rfl
def spec_l6Do.T23 : Bool × List (List Nat × List Nat) := (true, [([], []), ([0], [0]), ([1], [1]), ([], []), ([3], [3]), ([4], [4]), ([2, 5], [2, 5]), ([6], [6]), ([7, 7, 0, 1, 2, 3, 4, 5, 6, 7], [7]), ([8, 0, 1, 2, 3, 4, 5, 6, 7, 8], [])])
def spec_l6Do.B23 : List Nat := [0, 1, 3, 0, 8, 24, 63, 127, 255, 511]
theorem spec_l6Do.tab23 : rtab .any (opsOf Tryd.f28 23) = spec_l6Do.T23 := by kernel_rfl
theorem spec_l6Do.bits23 : waitsOk spec_l6Do.T23.2 spec_l6Do.B23 = true := by kernel_rfl
def spec_l6Do.T28 : Bool × List (List Nat × List Nat) := (true, [([], []), ([], []), ([1], [1]), ([], []), ([3], [3]), ([0, 2, 4], [0, 2, 4]), ([5], [5]), ([5], [5]), ([6, 5, 0, 1, 2, 3, 4, 5, 6, 7], [6]), ([7, 8, 0, 1, 2, 3, 4, 5, 6, 7, 8], [7])])
def spec_l6Do.B28 : List Nat := [0, 0, 2, 0, 8, 31, 63, 63, 255, 511]
theorem spec_l6Do.tab28 : rtab .any (opsOf Tryd.f28 28) = spec_l6Do.T28 := by kernel_rfl
theorem spec_l6Do.bits28 : waitsOk spec_l6Do.T28.2 spec_l6Do.B28 = true := by kernel_rfl
theorem spec_l6Do.calls (k : Nat) (g : Nat) (P0_0_ : Nat → Prop) (u9000_ : Value) (l0_0 : List (S34)) (a1 : Int) (A2 : Option Addr) (c2 : Nat) (l2 : List (S29)) (r1 : Int) (r2 : Int) (r3 : ByteArray) (r4 : Int) (r5 : List (S34)) (w0 w : World) (hB : Below w0.heap.size w0 w) (hb0 : w.heap[g]? = some (.cells #[u9000_] 24 (0, 0))) (hg0 : w0.heap.size ≤ g) (ho0_0 : Kd.R k34 34 w w0.heap.size P0_0_ u9000_ l0_0) (hr2 : ∀ W_, Kept w W_ (fun k_ => (P0_0_ k_) ∨ k_ = g) → Kd.C k29 W_ A2 l2.length l2) (hc2 : l2.length ≤ c2) (h : spec_l6Do.f k l0_0 a1 l2 = some (r1, r2, r3, r4, r5)) :
    Calls Tryd.prog 28 #[.pointer (some ⟨g, 0, none⟩), .int .i64 a1, .slice A2 l2.length c2] w fun e w' => ∃ v4_ : Value, e = .returned (.tuple #[.agg #[.int .i64 r1, .int .i64 r2, .string r3], .int .i64 r4]) ∧ Kd.R k34 34 w' w0.heap.size (fun k_ => (P0_0_ k_ ∨ w.heap.size ≤ k_)) v4_ r5 ∧ w'.heap[g]? = some (.cells #[v4_] 24 (0, 0)) ∧ Below w0.heap.size w0 w' ∧ Kept w w' (fun k_ => (P0_0_ k_) ∨ k_ = g) := by
  have hu29 := Tryd.underlying29; have hu34 := Tryd.underlying34; have BK0 := ak hb0; have GE0 := ak hg0; clear hb0 hg0; have HO0_0 := ak (show Kd.R k34 34 w w0.heap.size (fun k_ => (P0_0_ k_ ∨ w.heap.size ≤ k_)) u9000_ l0_0 from Kd.R_mono ho0_0 (fun k_ hk => (.inl hk))); have HR2 := ak hr2; have HC2 := ak hc2; clear hr2 hc2; have HK := ak (Kept.refl w (fun k_ => (P0_0_ k_) ∨ k_ = g)); have HW0 := ak hB.size; have HB := ak hB; clear hB; have H := h; clear h; unfold spec_l6Do.f at H; replace H := Option.bind_eq_some_iff.mp H; obtain ⟨⟨t550, t551⟩, A40, H⟩ := H
  (try dsimp -simprocs only at H); have A4 := ak A40; clear A40; replace H := Option.bind_eq_some_iff.mp H; obtain ⟨t552, A50, H⟩ := H
  (try dsimp -simprocs only at H); have A5 := ak A50; clear A50; by_cases c6 : t552 = true
  ·subst c6
   rw [if_pos rfl] at H; by_cases c7 : a1 = 7
   ·rw [if_pos c7] at H
    obtain ⟨c7b0, c7b1⟩ := zbt_ c7; clear c7; by_cases c8 : (l0_0.length : Int) ≥ 4000
    ·rw [if_pos c8] at H
     have c8b0 : decide (4000 ≤ (l0_0.length : Int)) = true := decide_eq_true c8; have c8b1 : decide (4000 ≤ l0_0.length) = true := decide_eq_true (by omega); clear c8; simp only [Option.some.injEq, Prod.mk.injEq] at H; obtain ⟨rfl, rfl, rfl, rfl, rfl⟩ := H; go_enter Tryd.func28, Tryd.ntmps28
     go_wp2_with (first | ((with_reducible refine gate_dst (N := 6) rfl ?_); refine box_event ?hg (N := 6) ?hd (cs := #[.int .i64 0, .int .i64 0, .string (⟨#[]⟩ : ByteArray)]) (t := 29) ?hr ?_; (case hd => rfl); (case hg => rfl); (case hr => first | (go_simp; done) | (go_simp; rfl)); intro gb549 hg w9 hbox hb; have BK549 := ak (hbox); have GW549 := ak ((d16_12 : w.heap.size ≤ gb549)); have GE549 := ak ((by rw [hg]; exact (below_size d16_10) : w0.heap.size ≤ gb549)); obtain ⟨NB0_549, NB549_0⟩ := zne_ (g := g) hg d16_4; replace HO0_0 := ak (Kd.R_below d16_11 hb); replace BK0 := zbb_ (g := g) hb d16_4; replace HK := ak (Kept.below (S := (fun k_ => (P0_0_ k_) ∨ k_ = g)) d16_16 hb); replace HB := ak (below_step d16_10 hb); clear hb hbox hg) | ((with_reducible refine gate_callee (f := 14) rfl ?_); refine zgo_ 13 Tryd.func14 #[.int .i64 a1] ?_ (e := d16_9); (with_reducible refine (spec_l6Takes.calls k a1 t550 t551 _ A4.out).mono ?_); rintro e w' ⟨rfl, ⟨nd, rfl⟩⟩; refine ⟨_, rfl, ?_⟩; (try (rw [drewN_self w9]; generalize hq_ : World.drewN w9 _ = w9; have n0_ : Aside0 (Kd.R k34 34 w9 w0.heap.size (fun k_ => (P0_0_ k_ ∨ w.heap.size ≤ k_)) u9000_ l0_0) := ⟨by rw [← hq_]; exact d16_11⟩; have n1_ : Aside0 (w9.heap[g]? = some (.cells #[u9000_] 24 (0, 0))) := ⟨by rw [← hq_]; exact d16_4⟩; have n2_ : Aside0 (w9.heap[gb549]? = some (.cells #[.int .i64 0, .int .i64 0, .string (⟨#[]⟩ : ByteArray)] 29 (0, 0))) := ⟨by rw [← hq_]; exact d16_8⟩; have n3_ : Aside0 (Kept w w9 (fun k_ => (P0_0_ k_) ∨ k_ = g)) := ⟨by rw [← hq_]; exact d16_3⟩; have n4_ : Aside0 (Below w0.heap.size w0 w9) := ⟨by rw [← hq_]; exact d16_5⟩; clear HO0_0 BK0 BK549 HK HB hq_; have HO0_0 := n0_; have BK0 := n1_; have BK549 := n2_; have HK := n3_; have HB := n4_; clear n0_ n1_ n2_ n3_ n4_))) | ((with_reducible refine gate_callee (f := 42) rfl ?_); refine zgo_ 20 Tryd.func42 #[.int .i64 (l2.length : Int), .int .i64 t550, .int .i64 t551] ?_ (e := d16_9); (with_reducible refine (spec_l1In.calls (l2.length : Int) t550 t551 true _ A5.out).mono ?_); rintro e w' ⟨rfl, ⟨nd, rfl⟩⟩; refine ⟨_, rfl, ?_⟩; (try (rw [drewN_self w9]; generalize hq_ : World.drewN w9 _ = w9; have n0_ : Aside0 (Kd.R k34 34 w9 w0.heap.size (fun k_ => (P0_0_ k_ ∨ w.heap.size ≤ k_)) u9000_ l0_0) := ⟨by rw [← hq_]; exact d16_11⟩; have n1_ : Aside0 (w9.heap[g]? = some (.cells #[u9000_] 24 (0, 0))) := ⟨by rw [← hq_]; exact d16_4⟩; have n2_ : Aside0 (w9.heap[gb549]? = some (.cells #[.int .i64 0, .int .i64 0, .string (⟨#[]⟩ : ByteArray)] 29 (0, 0))) := ⟨by rw [← hq_]; exact d16_8⟩; have n3_ : Aside0 (Kept w w9 (fun k_ => (P0_0_ k_) ∨ k_ = g)) := ⟨by rw [← hq_]; exact d16_3⟩; have n4_ : Aside0 (Below w0.heap.size w0 w9) := ⟨by rw [← hq_]; exact d16_5⟩; clear HO0_0 BK0 BK549 HK HB hq_; have HO0_0 := n0_; have BK0 := n1_; have BK549 := n2_; have HK := n3_; have HB := n4_; clear n0_ n1_ n2_ n3_ n4_)); have hnb10 := NB0_549.out; have hnc10 := NB549_0.out; obtain ⟨hcz11_0, hfz11_0⟩ := zx1_ BK0.out; obtain ⟨Ao12, co12, eo12⟩ := Kd.R_slice HO0_0.out; subst eo12; obtain ⟨hcz13_0, hcz13_1, hcz13_2, hfz13_0, hfz13_1, hfz13_2⟩ := zx3_ BK549.out))
     refine bodyPost_ret (results_ct rfl _ _ gb549 29 #[.int .i64 0, .int .i64 0, .string (⟨#[]⟩ : ByteArray)] (0, 0) _ rfl (by refine zpl_ ?_; refine zp3_ (.int .i64 0) (.int .i64 0) (.string (⟨#[]⟩ : ByteArray)) ?_; refine zpl_ ?_; exact BK549.out) Tryd.underlying29 rfl (by kernel_rfl)) rfl ?_; (try refine exists_and_left.mp ?_); exact ⟨_, c16_5, by (with_reducible repeat (first | apply Kd.R_alloc | apply Kd.R_drewN | apply Kd.R_drew)); exact Kd.R_mono (zrf3_ (g := gb549) (Kd.R_types HO0_0.out BK549.out (by decide)) (fun _ hk => hk.2)) (fun _ hk => hk.1), c16_1, c16_3, c16_2⟩
    ·rw [if_neg c8] at H
     have c8b0 : decide (4000 ≤ (l0_0.length : Int)) = false := decide_eq_false c8; have c8b1 : decide (4000 ≤ l0_0.length) = false := decide_eq_false (by omega); clear c8; by_cases c14 : 0 < (l2.length : Int)
     ·rw [if_pos c14] at H
      have c14b0 : decide (0 < (l2.length : Int)) = true := decide_eq_true c14; have c14b1 : decide (0 < l2.length) = true := decide_eq_true (by omega); clear c14; by_cases c15 : 1 < (l2.length : Int)
      ·rw [if_pos c15] at H
       have c15b0 : decide (1 < (l2.length : Int)) = true := decide_eq_true c15; have c15b1 : decide (1 < l2.length) = true := decide_eq_true (by omega); clear c15; by_cases c16 : l0_0.length < 2199023255552
       ·rw [if_pos c16] at H
        have LMc16 := ak c16; clear c16; obtain ⟨y555, hy555⟩ : ∃ y_ : List (S34), y_ = (l0_0 ++ [(⟨(⟨(rd_T29 l2 0).f0, (rd_T29 l2 0).f1, (rd_T29 l2 0).f2⟩ : S29), (⟨(rd_T29 l2 1).f0, (rd_T29 l2 1).f1, (rd_T29 l2 1).f2⟩ : S29)⟩ : S34)]) := ⟨_, rfl⟩
        replace H : (some (5, wrap64 ((y555.length : Int) - 1), (⟨#[]⟩ : ByteArray), 0, y555)) = some (r1, r2, r3, r4, r5) := by first | (rw [hy555]; with_reducible exact H) | (have H2_ := (Option.bind_some _ _).symm.trans H; rw [hy555]; with_reducible exact H2_) | (have H2_ := (Option.bind_some _ _).symm.trans H; with_reducible exact H2_) | with_reducible exact H | (rw [hy555]; exact H) | exact H
        have Ny555 := ak hy555; clear hy555; simp only [Option.some.injEq, Prod.mk.injEq] at H; obtain ⟨rfl, rfl, rfl, rfl, rfl⟩ := H; go_enter Tryd.func28, Tryd.ntmps28
        try go_wp2_with (first | ((with_reducible refine gate_dst (N := 6) rfl ?_); refine box_event ?hg (N := 6) ?hd (cs := #[.int .i64 0, .int .i64 0, .string (⟨#[]⟩ : ByteArray)]) (t := 29) ?hr ?_; (case hd => rfl); (case hg => rfl); (case hr => first | (go_simp; done) | (go_simp; rfl)); intro gb549 hg w17 hbox hb; have BK549 := ak (hbox); have GW549 := ak ((d16_12 : w.heap.size ≤ gb549)); have GE549 := ak ((by rw [hg]; exact (below_size d16_10) : w0.heap.size ≤ gb549)); obtain ⟨NB0_549, NB549_0⟩ := zne_ (g := g) hg d16_4; replace HO0_0 := ak (Kd.R_below d16_11 hb); replace BK0 := zbb_ (g := g) hb d16_4; replace HK := ak (Kept.below (S := (fun k_ => (P0_0_ k_) ∨ k_ = g)) d16_16 hb); replace HB := ak (below_step d16_10 hb); clear hb hbox hg) | ((with_reducible refine gate_callee (f := 14) rfl ?_); refine zgo_ 13 Tryd.func14 #[.int .i64 a1] ?_ (e := d16_9); (with_reducible refine (spec_l6Takes.calls k a1 t550 t551 _ A4.out).mono ?_); rintro e w' ⟨rfl, ⟨nd, rfl⟩⟩; refine ⟨_, rfl, ?_⟩; (try (rw [drewN_self w17]; generalize hq_ : World.drewN w17 _ = w17; have n0_ : Aside0 (Kd.R k34 34 w17 w0.heap.size (fun k_ => (P0_0_ k_ ∨ w.heap.size ≤ k_)) u9000_ l0_0) := ⟨by rw [← hq_]; exact d16_11⟩; have n1_ : Aside0 (w17.heap[g]? = some (.cells #[u9000_] 24 (0, 0))) := ⟨by rw [← hq_]; exact d16_4⟩; have n2_ : Aside0 (w17.heap[gb549]? = some (.cells #[.int .i64 0, .int .i64 0, .string (⟨#[]⟩ : ByteArray)] 29 (0, 0))) := ⟨by rw [← hq_]; exact d16_8⟩; have n3_ : Aside0 (Kept w w17 (fun k_ => (P0_0_ k_) ∨ k_ = g)) := ⟨by rw [← hq_]; exact d16_3⟩; have n4_ : Aside0 (Below w0.heap.size w0 w17) := ⟨by rw [← hq_]; exact d16_5⟩; clear HO0_0 BK0 BK549 HK HB hq_; have HO0_0 := n0_; have BK0 := n1_; have BK549 := n2_; have HK := n3_; have HB := n4_; clear n0_ n1_ n2_ n3_ n4_))) | ((with_reducible refine gate_callee (f := 42) rfl ?_); refine zgo_ 20 Tryd.func42 #[.int .i64 (l2.length : Int), .int .i64 t550, .int .i64 t551] ?_ (e := d16_9); (with_reducible refine (spec_l1In.calls (l2.length : Int) t550 t551 true _ A5.out).mono ?_); rintro e w' ⟨rfl, ⟨nd, rfl⟩⟩; refine ⟨_, rfl, ?_⟩; (try (rw [drewN_self w17]; generalize hq_ : World.drewN w17 _ = w17; have n0_ : Aside0 (Kd.R k34 34 w17 w0.heap.size (fun k_ => (P0_0_ k_ ∨ w.heap.size ≤ k_)) u9000_ l0_0) := ⟨by rw [← hq_]; exact d16_11⟩; have n1_ : Aside0 (w17.heap[g]? = some (.cells #[u9000_] 24 (0, 0))) := ⟨by rw [← hq_]; exact d16_4⟩; have n2_ : Aside0 (w17.heap[gb549]? = some (.cells #[.int .i64 0, .int .i64 0, .string (⟨#[]⟩ : ByteArray)] 29 (0, 0))) := ⟨by rw [← hq_]; exact d16_8⟩; have n3_ : Aside0 (Kept w w17 (fun k_ => (P0_0_ k_) ∨ k_ = g)) := ⟨by rw [← hq_]; exact d16_3⟩; have n4_ : Aside0 (Below w0.heap.size w0 w17) := ⟨by rw [← hq_]; exact d16_5⟩; clear HO0_0 BK0 BK549 HK HB hq_; have HO0_0 := n0_; have BK0 := n1_; have BK549 := n2_; have HK := n3_; have HB := n4_; clear n0_ n1_ n2_ n3_ n4_)); have hnb18 := NB0_549.out; have hnc18 := NB549_0.out; obtain ⟨hcz19_0, hfz19_0⟩ := zx1_ BK0.out; obtain ⟨Ao20, co20, eo20⟩ := Kd.R_slice HO0_0.out; subst eo20))
        have n0_ := ak (Kd.R_drew HO0_0.out); have n1_ := ak (blk_drew BK0.out); have n2_ := ak (blk_drew BK549.out); have n3_ := ak (Kept.drew HK.out); have n4_ := ak (below_drew1 HB.out); clear HO0_0; clear BK0; clear BK549; clear HK; clear HB; have HO0_0 := n0_; have BK0 := n1_; have BK549 := n2_; have HK := n3_; have HB := n4_; clear n0_ n1_ n2_ n3_ n4_; have p553 : 0 ≤ (0 : Int) := (by omega); have q553 : 0 < (l2.length : Int) := of_decide_eq_true d16_13; obtain ⟨ad553, e553, hx553_0, hx553_1, hx553_2⟩ := at_T29 (Kd.C_kept_now HR2.out HK.out) 0 p553 q553; have hw553_2 := hx553_2
        (try rw [show ((0 : Int)).toNat = 0 from rfl] at hw553_2)
        (try rw [show 0 * 3 = 0 from rfl] at hw553_2)
        (try rw [Addr.add_zero'] at hw553_2)
        have hw553_1 := hx553_1
        (try rw [show ((0 : Int)).toNat = 0 from rfl] at hw553_1)
        (try rw [show 0 * 3 = 0 from rfl] at hw553_1)
        (try rw [Addr.add_zero'] at hw553_1)
        have hw553_0 := hx553_0
        (try rw [show ((0 : Int)).toNat = 0 from rfl] at hw553_0)
        (try rw [show 0 * 3 = 0 from rfl] at hw553_0)
        (try rw [Addr.add_zero'] at hw553_0)
        cases e553
        have qi553 : (0 < l2.length) = True := eq_true (by omega)
        (try rw [show ((0 : Int)).toNat = 0 from rfl] at hx553_0)
        (try rw [show 0 * 3 = 0 from rfl] at hx553_0)
        (try rw [Addr.add_zero'] at hx553_0)
        (try rw [show ((0 : Int)).toNat = 0 from rfl] at hx553_1)
        (try rw [show 0 * 3 = 0 from rfl] at hx553_1)
        (try rw [Addr.add_zero'] at hx553_1)
        (try rw [show ((0 : Int)).toNat = 0 from rfl] at hx553_2)
        (try rw [show 0 * 3 = 0 from rfl] at hx553_2)
        (try rw [Addr.add_zero'] at hx553_2)
        replace p553 := eq_true p553; replace q553 := eq_true q553; have p554 : 0 ≤ (1 : Int) := (by omega); have q554 : 1 < (l2.length : Int) := of_decide_eq_true d16_13; obtain ⟨ad554, e554, hx554_0, hx554_1, hx554_2⟩ := at_T29 (Kd.C_kept_now HR2.out HK.out) 1 p554 q554; have hw554_2 := hx554_2
        (try rw [show ((1 : Int)).toNat = 1 from rfl] at hw554_2)
        (try rw [show 1 * 3 = 3 from rfl] at hw554_2)
        (try simp only [Nat.reduceMul, Nat.reduceEqDiff, Go.Addr.add, ↓reduceIte] at hw554_2)
        have hw554_1 := hx554_1
        (try rw [show ((1 : Int)).toNat = 1 from rfl] at hw554_1)
        (try rw [show 1 * 3 = 3 from rfl] at hw554_1)
        (try simp only [Nat.reduceMul, Nat.reduceEqDiff, Go.Addr.add, ↓reduceIte] at hw554_1)
        have hw554_0 := hx554_0
        (try rw [show ((1 : Int)).toNat = 1 from rfl] at hw554_0)
        (try rw [show 1 * 3 = 3 from rfl] at hw554_0)
        (try simp only [Nat.reduceMul, Nat.reduceEqDiff, Go.Addr.add, ↓reduceIte] at hw554_0)
        obtain rfl : ad553 = ad554 := (by injection e554)
        (try simp only [show (1 : Int).toNat = 1 from rfl, Nat.reduceMul, Nat.reduceEqDiff, Go.Addr.add, ↓reduceIte] at hx554_0)
        (try simp only [show (1 : Int).toNat = 1 from rfl, Nat.reduceMul, Nat.reduceEqDiff, Go.Addr.add, ↓reduceIte] at hx554_1)
        (try simp only [show (1 : Int).toNat = 1 from rfl, Nat.reduceMul, Nat.reduceEqDiff, Go.Addr.add, ↓reduceIte] at hx554_2)
        have qi554 : (1 < l2.length) = True := eq_true (by omega)
        (try rw [show ((1 : Int)).toNat = 1 from rfl] at hx554_0)
        (try rw [show 1 * 3 = 3 from rfl] at hx554_0)
        (try rw [show ((1 : Int)).toNat = 1 from rfl] at hx554_1)
        (try rw [show 1 * 3 = 3 from rfl] at hx554_1)
        (try rw [show ((1 : Int)).toNat = 1 from rfl] at hx554_2)
        (try rw [show 1 * 3 = 3 from rfl] at hx554_2)
        replace p554 := eq_true p554; replace q554 := eq_true q554; refine start_ (n := 15) (S := fun w' => w'.cell? ⟨g, 0, none⟩ = some (.slice Ao20 l0_0.length co20) ∧ w'.cell? ad553 = some (.int .i64 ((rd_T29 l2 0).f0)) ∧ w'.cell? ⟨ad553.block, ad553.off + 1, none⟩ = some (.int .i64 ((rd_T29 l2 0).f1)) ∧ w'.cell? ⟨ad553.block, ad553.off + 2, none⟩ = some (.string ((rd_T29 l2 0).f2)) ∧ w'.cell? ⟨ad553.block, ad553.off + 3, none⟩ = some (.int .i64 ((rd_T29 l2 1).f0)) ∧ w'.cell? ⟨ad553.block, ad553.off + 3 + 1, none⟩ = some (.int .i64 ((rd_T29 l2 1).f1)) ∧ w'.cell? ⟨ad553.block, ad553.off + 3 + 2, none⟩ = some (.string ((rd_T29 l2 1).f2))) (ds := [14]) #[false, false, false, false, false, false, false, false, false, false, false, false, false, false, false] (by kernel_rfl) rfl rfl ⟨(blk_cell BK0.out 0).trans rfl, za3_ (foot_ex (at_T29 (HR2.out _ d16_6) (0 : Int) (of_eq_true p553) (of_eq_true q553))) ((foot_ex (at_T29 (HR2.out _ d16_6) (1 : Int) (of_eq_true p554) (of_eq_true q554))))⟩ (fun hHeld => ?_); refine with_tabW spec_l6Do.tab8 spec_l6Do.bits8 (fun HT_ HW_ => ?_)
        generalize w17.drew = w21 at HO0_0 BK0 BK549 HK HB hx553_0 hx553_1 hx553_2 hx554_0 hx554_1 hx554_2 hHeld ⊢; refine pu5_ 0 32 (ab5_ 15 1) HT_ ?_; refine pu5_ 1 33 (ab5_ 15 3) HT_ ?_; refine pu5_ 2 34 (ab5_ 15 7) HT_ ?_; refine pu5_ 4 36 (ab5_ 15 23) HT_ ?_; refine pu5_ 5 37 (ab5_ 15 55) HT_ ?_; refine pu5_ 7 39 (ab5_ 15 183) HT_ ?_; refine pu5_ 8 40 (ab5_ 15 439) HT_ ?_; refine ta5_ 3 35 (ab5_ 15 447) HT_ HW_ hHeld ?_; refine ta5_ 6 38 (ab5_ 15 511) HT_ HW_ hHeld ?_; refine ta5_ 9 41 (ab5_ 15 1023) HT_ HW_ hHeld ?_
        refine pu5_ 10 42 (ab5_ 15 2047) HT_ ?_; refine one_ (i := 11) (N := some 43) #[true, true, true, true, true, true, true, true, true, true, true, true, false, false, false] rfl rfl (one_of HT_.out (by kernel_rfl)) (by decide) (fun K hK => ?_); refine value_ (w1 := ?_) (v := ?_) (by rfl) rfl ?_ ?_; rotate_left 2
        · go_simp
          constructor
          · rfl
          · rfl
        refine hK.out _ _ ⟨(blk_cell (blk_alloc BK0.out _) 0).trans rfl, (World.cell?_alloc_lt _ _ _ (World.block_lt_of_cell? _ _ ((foot_ex (at_T29 (HR2.out _ d16_6) (0 : Int) (of_eq_true p553) (of_eq_true q553))).1))).trans ((foot_ex (at_T29 (HR2.out _ d16_6) (0 : Int) (of_eq_true p553) (of_eq_true q553))).1), (World.cell?_alloc_lt _ _ _ (World.block_lt_of_cell? _ _ ((foot_ex (at_T29 (HR2.out _ d16_6) (0 : Int) (of_eq_true p553) (of_eq_true q553))).2.1))).trans ((foot_ex (at_T29 (HR2.out _ d16_6) (0 : Int) (of_eq_true p553) (of_eq_true q553))).2.1), (World.cell?_alloc_lt _ _ _ (World.block_lt_of_cell? _ _ ((foot_ex (at_T29 (HR2.out _ d16_6) (0 : Int) (of_eq_true p553) (of_eq_true q553))).2.2))).trans ((foot_ex (at_T29 (HR2.out _ d16_6) (0 : Int) (of_eq_true p553) (of_eq_true q553))).2.2), (World.cell?_alloc_lt _ _ _ (World.block_lt_of_cell? _ _ ((foot_ex (at_T29 (HR2.out _ d16_6) (1 : Int) (of_eq_true p554) (of_eq_true q554))).1))).trans ((foot_ex (at_T29 (HR2.out _ d16_6) (1 : Int) (of_eq_true p554) (of_eq_true q554))).1), (World.cell?_alloc_lt _ _ _ (World.block_lt_of_cell? _ _ ((foot_ex (at_T29 (HR2.out _ d16_6) (1 : Int) (of_eq_true p554) (of_eq_true q554))).2.1))).trans ((foot_ex (at_T29 (HR2.out _ d16_6) (1 : Int) (of_eq_true p554) (of_eq_true q554))).2.1), (World.cell?_alloc_lt _ _ _ (World.block_lt_of_cell? _ _ ((foot_ex (at_T29 (HR2.out _ d16_6) (1 : Int) (of_eq_true p554) (of_eq_true q554))).2.2))).trans ((foot_ex (at_T29 (HR2.out _ d16_6) (1 : Int) (of_eq_true p554) (of_eq_true q554))).2.2)⟩ (fun hHeld => ?_)
        clear hK K; refine no5_ 43 ?_; refine one_ (i := 12) (N := some 44) #[true, true, true, true, true, true, true, true, true, true, true, true, true, false, false] rfl rfl (one_of HT_.out (by kernel_rfl)) (by decide) (fun K hK => ?_); refine Kd.R_append_step k34 (w0 := w0) w0.heap.size (by rfl) (.tmp 35) (.tmp 43) 24 34 (.agg #[(.int .i64 0), (.int .i64 0), (.string ⟨#[]⟩), (.int .i64 0), (.int .i64 0), (.string ⟨#[]⟩)]) 64 rfl Tryd.underlying24 info34 rfl (by decide) (by omega) (.slice Ao20 l0_0.length co20) l0_0 (⟨(⟨(rd_T29 l2 0).f0, (rd_T29 l2 0).f1, (rd_T29 l2 0).f2⟩ : S29), (⟨(rd_T29 l2 1).f0, (rd_T29 l2 1).f1, (rd_T29 l2 1).f2⟩ : S29)⟩ : S34) [.int .i64 ((rd_T29 l2 0).f0), .int .i64 ((rd_T29 l2 0).f1), .string ((rd_T29 l2 0).f2), .int .i64 ((rd_T29 l2 1).f0), .int .i64 ((rd_T29 l2 1).f1), .string ((rd_T29 l2 1).f2)] (fun k_ => (P0_0_ k_ ∨ w.heap.size ≤ k_)) (fun _ => False) rfl rfl ?aP (fun _ hk => hk.elim) ?aF ?aO ?aB ?aS ?aL ?_
        (case aP => exact k34_mkM _ _ _ (⟨(⟨(rd_T29 l2 0).f0, (rd_T29 l2 0).f1, (rd_T29 l2 0).f2⟩ : S29), (⟨(rd_T29 l2 1).f0, (rd_T29 l2 1).f1, (rd_T29 l2 1).f2⟩ : S29)⟩ : S34))
        (case aB => exact d16_5)
        (case aF => exact (fun k_ hk => (.inr (Nat.le_trans d16_15 hk))))
        (case aO => exact d16_11)
        (case aS => exact (below_size d16_5))
        (case aL => have := LMc16.out; omega)
        intro v556 w22 ho hb hg hat; rw [← Ny555.out] at ho; have n0_ := ak (blk_grown (g := g) (o := .cells #[.slice Ao20 l0_0.length co20] 24 (0, 0)) d16_4 hg (Kd.R_ne HO0_0.out BK0.out (by decide))); have n1_ := ak (blk_grown (g := gb549) (o := .cells #[.int .i64 0, .int .i64 0, .string (⟨#[]⟩ : ByteArray)] 29 (0, 0)) d16_8 hg (Kd.R_ne HO0_0.out BK549.out (by decide))); have n2_ := ak (hb); have n3_ := ak (Kept.of_grown (S := (fun k_ => (P0_0_ k_) ∨ k_ = g)) hg d16_3 (fun k_ e_ => Or.imp_left Or.inl ((HO0_0.out.1 k_ e_)))); have n4_ := ak (ho); clear BK0; clear BK549; clear HB; clear HK; clear HO0_0; have BK0 := n0_; have BK549 := n1_; have HB := n2_; have HK := n3_; have HO557 := n4_; clear n0_ n1_ n2_ n3_ n4_; clear ho hb hg hat; obtain ⟨Ao23, co23, eo23⟩ := Kd.R_slice HO557.out
        (first | subst eo23 | (injection eo23 with f1_ f2_ f3_; have f4_ := f1_.symm; have f5_ := f3_.symm; clear f1_ f2_ f3_; subst f4_; subst f5_))
        refine hK.out _ _ ⟨(blk_cell BK0.out 0).trans rfl, za3_ (foot_ex (at_T29 (HR2.out _ d16_6) (0 : Int) (of_eq_true p553) (of_eq_true q553))) ((foot_ex (at_T29 (HR2.out _ d16_6) (1 : Int) (of_eq_true p554) (of_eq_true q554))))⟩ (fun hHeld => ?_); clear hK K; refine no5_ 44 ?_; refine pu5_ 13 45 (ab5_ 15 16383) HT_ ?_; refine last_ (i := 14) (N := none) #[true, true, true, true, true, true, true, true, true, true, true, true, true, true, true] rfl rfl (one_of HT_.out (by kernel_rfl)) (by decide) (fun K hK => ?_); have hs24 : w22.cell? ⟨g, 0, none⟩ = some (.slice Ao20 l0_0.length co20) := (blk_cell BK0.out 0).trans rfl; have hfs24 := z16f BK0.out 0; have hns24_1 := NB549_0.out; have hms24_1 := NB0_549.out; refine skip_ (w1 := ?_) (by rfl) rfl ?_ ?_; rotate_left
        · go_simp
          rfl
        refine hK.out _ _ ?_; clear hK K; refine done_ (done_of HT_.out (by kernel_rfl)) ?_; obtain ⟨hcz25_0, hfz25_0⟩ := zx1_ BK0.out; obtain ⟨hcz26_0, hcz26_1, hcz26_2, hfz26_0, hfz26_1, hfz26_2⟩ := zx3_ BK549.out
        try go_wp2
        refine bodyPost_ret (results_ct rfl _ _ gb549 29 #[.int .i64 5, .int .i64 (wrap64 ((y555.length : Int) - 1)), .string (⟨#[]⟩ : ByteArray)] (0, 0) _ rfl (by refine zpl_ ?_; refine zp3_ (.int .i64 0) (.int .i64 0) (.string (⟨#[]⟩ : ByteArray)) ?_; refine zpl_ ?_; refine blk_far ?_ NB549_0.out _; refine zpl_ ?_; exact BK549.out) Tryd.underlying29 rfl (by kernel_rfl)) rfl ?_
        (try refine exists_and_left.mp ?_); exact ⟨_, c16_5, by (with_reducible repeat (first | apply Kd.R_alloc | apply Kd.R_drewN | apply Kd.R_drew)); exact Kd.R_mono (zrf3_ (g := gb549) (Kd.R_far (p := ⟨g, 0, none⟩) (Kd.R_types (Kd.R_types HO557.out BK0.out (by decide)) BK549.out (by decide)) (fun _ hk => hk.1.2) (.slice Ao23 y555.length co23)) (fun _ hk => hk.2)) (fun _ hk => hk.1.1), by refine zpl_ ?_; refine blk_far ?_ NB0_549.out _; refine zpl_ ?_; refine blk_far ?_ NB0_549.out _; refine zpl_ ?_; refine blk_far ?_ NB0_549.out _; refine zpl_ ?_; refine blk_put (cs := #[.slice Ao20 l0_0.length co20]) ?_ 0 _ rfl; refine zpl_ ?_; exact BK0.out, c16_3, c16_2⟩
       ·rw [if_neg c16] at H
        exact absurd H (by simp)
      ·rw [if_neg c15] at H
       exact absurd H (by simp)
     ·rw [if_neg c14] at H
      exact absurd H (by simp)
   ·rw [if_neg c7] at H
    obtain ⟨c7b0, c7b1⟩ := zbf_ c7; have HC27 := ak H; clear H; go_enter Tryd.func28, Tryd.ntmps28
    go_upto_if 52 with (first | ((with_reducible refine gate_dst (N := 6) rfl ?_); refine box_event ?hg (N := 6) ?hd (cs := #[.int .i64 0, .int .i64 0, .string (⟨#[]⟩ : ByteArray)]) (t := 29) ?hr ?_; (case hd => rfl); (case hg => rfl); (case hr => first | (go_simp; done) | (go_simp; rfl)); intro gb549 hg w28 hbox hb; have BK549 := ak (hbox); have GW549 := ak ((d16_12 : w.heap.size ≤ gb549)); have GE549 := ak ((by rw [hg]; exact (below_size d16_10) : w0.heap.size ≤ gb549)); obtain ⟨NB0_549, NB549_0⟩ := zne_ (g := g) hg d16_4; replace HO0_0 := ak (Kd.R_below d16_11 hb); replace BK0 := zbb_ (g := g) hb d16_4; replace HK := ak (Kept.below (S := (fun k_ => (P0_0_ k_) ∨ k_ = g)) d16_16 hb); replace HB := ak (below_step d16_10 hb); clear hb hbox hg) | ((with_reducible refine gate_callee (f := 14) rfl ?_); refine zgo_ 13 Tryd.func14 #[.int .i64 a1] ?_ (e := d16_9); (with_reducible refine (spec_l6Takes.calls k a1 t550 t551 _ A4.out).mono ?_); rintro e w' ⟨rfl, ⟨nd, rfl⟩⟩; refine ⟨_, rfl, ?_⟩) | ((with_reducible refine gate_callee (f := 42) rfl ?_); refine zgo_ 20 Tryd.func42 #[.int .i64 (l2.length : Int), .int .i64 t550, .int .i64 t551] ?_ (e := d16_9); (with_reducible refine (spec_l1In.calls (l2.length : Int) t550 t551 true _ A5.out).mono ?_); rintro e w' ⟨rfl, ⟨nd, rfl⟩⟩; refine ⟨_, rfl, ?_⟩))
    (try simp only [Act.put, pa16_1, pa16_2, pa16_3])
    go_cut [52] (fun v52 wc => ∃ (kq : Nat) (x52_26 : Bool), v52 = .bool x52_26 ∧ Aside0 (spec_l6Do.j0 kq a1 l2 a1 x52_26 l0_0 = some (r1, r2, r3, r4, r5)) ∧ Aside0 (kq ≤ k) ∧ Aside0 (Kd.R k34 34 wc w0.heap.size (fun k_ => (P0_0_ k_ ∨ w.heap.size ≤ k_)) u9000_ l0_0) ∧ Aside0 (wc.heap[g]? = some (.cells #[u9000_] 24 (0, 0))) ∧ Aside0 (wc.heap[gb549]? = some (.cells #[.int .i64 0, .int .i64 0, .string (⟨#[]⟩ : ByteArray)] 29 (0, 0))) ∧ Aside0 (Kept w wc (fun k_ => (P0_0_ k_) ∨ k_ = g)) ∧ Aside0 (Below w0.heap.size w0 wc))
    case first =>
     have H := HC27.out; clear HC27; by_cases c29 : a1 = 8
     ·rw [if_pos c29] at H
      obtain ⟨c29b0, c29b1⟩ := zbt_ c29; clear c29
      (first | rw [c29b0] | (simp only [i64_w, i32_w]; rw [c29b0]) | skip)
      have H' := ak H; clear H; go_wp2; go_meet
      case rel => exact ⟨_, ((a1 == 8)), (by first | rfl | (simp; done) | (simp [*]; done) | (simp [ne_nil_b, eq_nil_b]; done)), H', ⟨by first | exact Nat.le_refl _ | omega⟩, ⟨by (with_reducible repeat (first | apply Kd.R_alloc | apply Kd.R_drewN | apply Kd.R_drew)); exact HO0_0.out⟩, ⟨zpl_ BK0.out⟩, ⟨zpl_ BK549.out⟩, ⟨c16_2⟩, ⟨c16_3⟩⟩
     ·rw [if_neg c29] at H
      obtain ⟨c29b0, c29b1⟩ := zbf_ c29
      (first | rw [c29b0] | (simp only [i64_w, i32_w]; rw [c29b0]) | skip)
      have H' := ak H; clear H; go_wp2; go_meet
      case rel => exact ⟨_, ((a1 == 9)), (by first | rfl | (simp; done) | (simp [*]; done) | (simp [ne_nil_b, eq_nil_b]; done)), H', ⟨by first | exact Nat.le_refl _ | omega⟩, ⟨by (with_reducible repeat (first | apply Kd.R_alloc | apply Kd.R_drewN | apply Kd.R_drew)); exact HO0_0.out⟩, ⟨zpl_ BK0.out⟩, ⟨zpl_ BK549.out⟩, ⟨c16_2⟩, ⟨c16_3⟩⟩
    case rest =>
     clear HC27
     (try clear c1); (try clear c2); (try clear p2); (try clear c4); (try clear p5); (try clear q5); (try clear hx5); (try clear qi5); (try clear c6); (try clear p6); (try clear c7 c7b0 c7b1); (try clear c8 c8b0 c8b1); (try clear c10); (try clear c14 c14b0 c14b1); (try clear c15 c15b0 c15b1); (try clear c16); (try clear c18); (try clear c28); (try clear hcz11_0 hfz11_0); (try clear hcz13_0 hcz13_1 hcz13_2 hfz13_0 hfz13_1 hfz13_2); (try clear hcz19_0 hfz19_0); (try clear hcz25_0 hfz25_0); (try clear hcz26_0 hcz26_1 hcz26_2 hfz26_0 hfz26_1 hfz26_2); (try clear hx553_0); (try clear hx553_1); (try clear hx553_2); (try clear hx554_0); (try clear hx554_1); (try clear hx554_2); (try clear p553); (try clear p554); (try clear q553); (try clear q554)
     obtain ⟨kq, x52_26, rfl, HA, HJ26, HO_1000, BK0, BK549, HK, HB⟩ := hcut
     cases kq with
     | zero => exact absurd HA.out (by simp [spec_l6Do.j0])
     | succ kj26 =>
      have H := HA.out; clear HA; simp only [spec_l6Do.j0] at H; by_cases c30 : x52_26 = true
      ·subst c30
       rw [if_pos rfl] at H; by_cases c31 : 0 < (l2.length : Int)
       ·rw [if_pos c31] at H
        have c31b0 : decide (0 < (l2.length : Int)) = true := decide_eq_true c31; have c31b1 : decide (0 < l2.length) = true := decide_eq_true (by omega); clear c31; by_cases c32 : ((rd_T29 l2 0).f0) = 5
        ·rw [if_pos c32] at H
         obtain ⟨c32b0, c32b1⟩ := zbt_ c32; clear c32; by_cases c33 : 0 ≤ ((rd_T29 l2 0).f1)
         ·rw [if_pos c33] at H
          have c33b0 : decide (0 ≤ ((rd_T29 l2 0).f1)) = true := decide_eq_true c33; clear c33; by_cases c34 : ((rd_T29 l2 0).f1) < (l0_0.length : Int)
          ·rw [if_pos c34] at H
           have c34b0 : decide (((rd_T29 l2 0).f1) < (l0_0.length : Int)) = true := decide_eq_true c34; clear c34; by_cases c35 : a1 = 8
           ·rw [if_pos c35] at H
            obtain ⟨c35b0, c35b1⟩ := zbt_ c35; clear c35; simp only [Option.some.injEq, Prod.mk.injEq] at H; obtain ⟨rfl, rfl, rfl, rfl, rfl⟩ := H; have p558 : 0 ≤ (0 : Int) := (by omega); have q558 : 0 < (l2.length : Int) := of_decide_eq_true d16_13; obtain ⟨ad558, e558, hx558_0, hx558_1, hx558_2⟩ := at_T29 (Kd.C_kept_now HR2.out HK.out) 0 p558 q558
            cases e558
            have qi558 : (0 < l2.length) = True := eq_true (by omega)
            (try rw [show ((0 : Int)).toNat = 0 from rfl] at hx558_0)
            (try rw [show 0 * 3 = 0 from rfl] at hx558_0)
            (try rw [Addr.add_zero'] at hx558_0)
            (try rw [show ((0 : Int)).toNat = 0 from rfl] at hx558_1)
            (try rw [show 0 * 3 = 0 from rfl] at hx558_1)
            (try rw [Addr.add_zero'] at hx558_1)
            (try rw [show ((0 : Int)).toNat = 0 from rfl] at hx558_2)
            (try rw [show 0 * 3 = 0 from rfl] at hx558_2)
            (try rw [Addr.add_zero'] at hx558_2)
            replace p558 := eq_true p558; replace q558 := eq_true q558
            try go_wp2
            have n0_ := ak (Kd.R_drew HO_1000.out); have n1_ := ak (blk_drew BK0.out); have n2_ := ak (blk_drew BK549.out); have n3_ := ak (Kept.drew HK.out); have n4_ := ak (below_drew1 HB.out); clear HO_1000; clear BK0; clear BK549; clear HK; clear HB; have HO_1000 := n0_; have BK0 := n1_; have BK549 := n2_; have HK := n3_; have HB := n4_; clear n0_ n1_ n2_ n3_ n4_; have p559 : 0 ≤ (0 : Int) := (by omega); have q559 : 0 < (l2.length : Int) := of_decide_eq_true d16_13; obtain ⟨ad559, e559, hx559_0, hx559_1, hx559_2⟩ := at_T29 (Kd.C_kept_now HR2.out HK.out) 0 p559 q559; have hw559_2 := hx559_2
            (try rw [show ((0 : Int)).toNat = 0 from rfl] at hw559_2)
            (try rw [show 0 * 3 = 0 from rfl] at hw559_2)
            (try rw [Addr.add_zero'] at hw559_2)
            have hw559_1 := hx559_1
            (try rw [show ((0 : Int)).toNat = 0 from rfl] at hw559_1)
            (try rw [show 0 * 3 = 0 from rfl] at hw559_1)
            (try rw [Addr.add_zero'] at hw559_1)
            have hw559_0 := hx559_0
            (try rw [show ((0 : Int)).toNat = 0 from rfl] at hw559_0)
            (try rw [show 0 * 3 = 0 from rfl] at hw559_0)
            (try rw [Addr.add_zero'] at hw559_0)
            obtain rfl : ad558 = ad559 := (by injection e559); have qi559 : (0 < l2.length) = True := eq_true (by omega)
            (try rw [show ((0 : Int)).toNat = 0 from rfl] at hx559_0)
            (try rw [show 0 * 3 = 0 from rfl] at hx559_0)
            (try rw [Addr.add_zero'] at hx559_0)
            (try rw [show ((0 : Int)).toNat = 0 from rfl] at hx559_1)
            (try rw [show 0 * 3 = 0 from rfl] at hx559_1)
            (try rw [Addr.add_zero'] at hx559_1)
            (try rw [show ((0 : Int)).toNat = 0 from rfl] at hx559_2)
            (try rw [show 0 * 3 = 0 from rfl] at hx559_2)
            (try rw [Addr.add_zero'] at hx559_2)
            replace p559 := eq_true p559; replace q559 := eq_true q559; obtain ⟨Ao37, co37, eo37⟩ := Kd.R_slice HO_1000.out
            (first | subst eo37 | (injection eo37 with f1_ f2_ f3_; have f4_ := f1_.symm; have f5_ := f3_.symm; clear f1_ f2_ f3_; subst f4_; subst f5_))
            have p560 : 0 ≤ (((rd_T29 l2 0).f1) : Int) := of_decide_eq_true d16_13; have q560 : ((rd_T29 l2 0).f1) < (l0_0.length : Int) := of_decide_eq_true d16_13; obtain ⟨ad560, e560, hx560_0, hx560_1, hx560_2, hx560_3, hx560_4, hx560_5⟩ := at_T34 (Kd.R_reads' HO_1000.out).2.2 ((rd_T29 l2 0).f1) p560 q560
            cases e560
            replace p560 := eq_true p560; replace q560 := eq_true q560
            refine start_ (n := 11) (S := fun w' => w'.cell? ⟨g, 0, none⟩ = some (.slice (some ad560) l0_0.length co37) ∧ w'.cell? ad558 = some (.int .i64 ((rd_T29 l2 0).f0)) ∧ w'.cell? ⟨ad558.block, ad558.off + 1, none⟩ = some (.int .i64 ((rd_T29 l2 0).f1)) ∧ w'.cell? ⟨ad558.block, ad558.off + 2, none⟩ = some (.string ((rd_T29 l2 0).f2)) ∧ w'.cell? (ad560.add ((((rd_T29 l2 0).f1)).toNat * 6)) = some (.int .i64 ((rd_T34 l0_0 ((rd_T29 l2 0).f1)).f0.f0)) ∧ w'.cell? ⟨(ad560.add ((((rd_T29 l2 0).f1)).toNat * 6)).block, (ad560.add ((((rd_T29 l2 0).f1)).toNat * 6)).off + 1, none⟩ = some (.int .i64 ((rd_T34 l0_0 ((rd_T29 l2 0).f1)).f0.f1)) ∧ w'.cell? ⟨(ad560.add ((((rd_T29 l2 0).f1)).toNat * 6)).block, (ad560.add ((((rd_T29 l2 0).f1)).toNat * 6)).off + 2, none⟩ = some (.string ((rd_T34 l0_0 ((rd_T29 l2 0).f1)).f0.f2)) ∧ w'.cell? ⟨(ad560.add ((((rd_T29 l2 0).f1)).toNat * 6)).block, (ad560.add ((((rd_T29 l2 0).f1)).toNat * 6)).off + 3, none⟩ = some (.int .i64 ((rd_T34 l0_0 ((rd_T29 l2 0).f1)).f1.f0)) ∧ w'.cell? ⟨(ad560.add ((((rd_T29 l2 0).f1)).toNat * 6)).block, (ad560.add ((((rd_T29 l2 0).f1)).toNat * 6)).off + 4, none⟩ = some (.int .i64 ((rd_T34 l0_0 ((rd_T29 l2 0).f1)).f1.f1)) ∧ w'.cell? ⟨(ad560.add ((((rd_T29 l2 0).f1)).toNat * 6)).block, (ad560.add ((((rd_T29 l2 0).f1)).toNat * 6)).off + 5, none⟩ = some (.string ((rd_T34 l0_0 ((rd_T29 l2 0).f1)).f1.f2))) (ds := []) #[false, false, false, false, false, false, false, false, false, false, false] (by kernel_rfl) rfl rfl ⟨(blk_cell BK0.out 0).trans rfl, za3_ (foot_ex (at_T29 (HR2.out _ d16_7) (0 : Int) (of_eq_true p559) (of_eq_true q559))) ⟨hx560_0, hx560_1, hx560_2, hx560_3, hx560_4, hx560_5⟩⟩ (fun hHeld => ?_); refine with_tabW spec_l6Do.tab14 spec_l6Do.bits14 (fun HT_ HW_ => ?_)
            generalize wc.drew = w36 at HO_1000 BK0 BK549 HK HB hx559_0 hx559_1 hx559_2 hx560_0 hx560_1 hx560_2 hx560_3 hx560_4 hx560_5 hHeld ⊢; refine pu5_ 0 61 (ab5_ 11 1) HT_ ?_; refine pu5_ 1 62 (ab5_ 11 3) HT_ ?_; refine pu5_ 3 64 (ab5_ 11 11) HT_ ?_; refine pu5_ 4 65 (ab5_ 11 27) HT_ ?_; refine pu5_ 5 66 (ab5_ 11 59) HT_ ?_; refine ta5_ 2 63 (ab5_ 11 63) HT_ HW_ hHeld ?_; refine ta5_ 6 67 (ab5_ 11 127) HT_ HW_ hHeld ?_; refine pu5_ 7 68 (ab5_ 11 255) HT_ ?_; refine ta5_ 8 69 (ab5_ 11 511) HT_ HW_ hHeld ?_
            refine one_ (i := 9) (N := some 10) #[true, true, true, true, true, true, true, true, true, true, false] rfl rfl (one_of HT_.out (by kernel_rfl)) (by decide) (fun K hK => ?_); refine box_step ?hg (N := 10) ?hd (cs := #[.int .i64 0, .int .i64 0, .string (⟨#[]⟩ : ByteArray), .int .i64 0, .int .i64 0, .string (⟨#[]⟩ : ByteArray)]) (t := 34) ?hr ?_; (case hd => rfl); (case hg => rfl); (case hr => first | (go_simp; done) | (go_simp; rfl)); intro gb561 hg w38 hbox hb; have HS4_ := (hb.cell (World.block_lt_of_cell? _ _ (hHeld.2.2.2.2.1))).trans (hHeld.2.2.2.2.1); have HS5_ := (hb.cell (World.block_lt_of_cell? _ _ (hHeld.2.2.2.2.2.1))).trans (hHeld.2.2.2.2.2.1); have HS6_ := (hb.cell (World.block_lt_of_cell? _ _ (hHeld.2.2.2.2.2.2.1))).trans (hHeld.2.2.2.2.2.2.1); have HS7_ := (hb.cell (World.block_lt_of_cell? _ _ (hHeld.2.2.2.2.2.2.2.1))).trans (hHeld.2.2.2.2.2.2.2.1); have HS8_ := (hb.cell (World.block_lt_of_cell? _ _ (hHeld.2.2.2.2.2.2.2.2.1))).trans (hHeld.2.2.2.2.2.2.2.2.1); have HS9_ := (hb.cell (World.block_lt_of_cell? _ _ (hHeld.2.2.2.2.2.2.2.2.2))).trans (hHeld.2.2.2.2.2.2.2.2.2); have n0_ := ak (Kd.R_below (Kd.R_elderB d16_14 gb561 (Nat.le_of_eq hg.symm)) hb); have n1_ := zbb_ (g := g) hb d16_4; have n2_ := zbb_ (g := gb549) hb d16_8
            have n3_ := ak (Kept.below (S := (fun k_ => (P0_0_ k_) ∨ k_ = g)) d16_3 hb); have n4_ := ak (below_step d16_5 hb); have n5_ := ak (hbox); have n6_ := ak ((by rw [hg]; exact d16_15 : w.heap.size ≤ gb561)); have n7_ := ak ((by rw [hg]; exact (below_size d16_5) : w0.heap.size ≤ gb561)); obtain ⟨n8_, n9_⟩ := zne_ (g := g) hg d16_4; obtain ⟨n10_, n11_⟩ := zne_ (g := gb549) hg d16_8; clear HO_1000; clear BK0; clear BK549; clear HK; clear HB; have HO_1000 := n0_; have BK0 := n1_; have BK549 := n2_; have HK := n3_; have HB := n4_; have BK561 := n5_; have GW561 := n6_; have GE561 := n7_; have NB0_561 := n8_; have NB561_0 := n9_; have NB549_561 := n10_; have NB561_549 := n11_; clear n0_ n1_ n2_ n3_ n4_ n5_ n6_ n7_ n8_ n9_ n10_ n11_; clear hb hbox hg
            refine hK.out _ _ ⟨(blk_cell BK0.out 0).trans rfl, za3_ (foot_ex (at_T29 (HR2.out _ d16_7) (0 : Int) (of_eq_true p559) (of_eq_true q559))) ⟨HS4_, HS5_, HS6_, HS7_, HS8_, HS9_⟩⟩ (fun hHeld => ?_); clear hK K; refine no5_ 10 ?_
            refine one_ (i := 10) (N := none) #[true, true, true, true, true, true, true, true, true, true, true] rfl rfl (one_of HT_.out (by kernel_rfl)) (by decide) (fun K hK => ?_); have hs39 : w38.cell? ⟨gb561, 0, none⟩ = some (.int .i64 0) := (blk_cell BK561.out 0).trans rfl; have hfs39 := z16f BK561.out 0; have hns39_0 := NB0_561.out; have hns39_1 := NB549_561.out; have hms39_0 := NB561_0.out; have hms39_1 := NB561_549.out; have hs40 : w38.cell? ⟨gb561, 1, none⟩ = some (.int .i64 0) := (blk_cell BK561.out 1).trans rfl; have hfs40 := z16f BK561.out 1; have hns40_0 := NB0_561.out; have hns40_1 := NB549_561.out; have hms40_0 := NB561_0.out; have hms40_1 := NB561_549.out; have hs41 : w38.cell? ⟨gb561, 2, none⟩ = some (.string (⟨#[]⟩ : ByteArray)) := (blk_cell BK561.out 2).trans rfl; have hfs41 := z16f BK561.out 2; have hns41_0 := NB0_561.out; have hns41_1 := NB549_561.out; have hms41_0 := NB561_0.out; have hms41_1 := NB561_549.out; have hs42 : w38.cell? ⟨gb561, 3, none⟩ = some (.int .i64 0) := (blk_cell BK561.out 3).trans rfl; have hfs42 := z16f BK561.out 3; have hns42_0 := NB0_561.out; have hns42_1 := NB549_561.out; have hms42_0 := NB561_0.out; have hms42_1 := NB561_549.out; have hs43 : w38.cell? ⟨gb561, 4, none⟩ = some (.int .i64 0) := (blk_cell BK561.out 4).trans rfl; have hfs43 := z16f BK561.out 4; have hns43_0 := NB0_561.out; have hns43_1 := NB549_561.out; have hms43_0 := NB561_0.out; have hms43_1 := NB561_549.out
            have hs44 : w38.cell? ⟨gb561, 5, none⟩ = some (.string (⟨#[]⟩ : ByteArray)) := (blk_cell BK561.out 5).trans rfl; have hfs44 := z16f BK561.out 5; have hns44_0 := NB0_561.out; have hns44_1 := NB549_561.out; have hms44_0 := NB561_0.out; have hms44_1 := NB561_549.out; refine skip_ (w1 := ?_) (by rfl) rfl ?_ ?_; rotate_left
            · go_simp
              rfl
            refine hK.out _ _ ⟨(zn6_ NB0_561.out hHeld.1), za3_ (foot_ex (at_T29 (HR2.out _ d16_7) (0 : Int) (of_eq_true p559) (of_eq_true q559))) ⟨((cell_far (p := ⟨gb561, _, none⟩) d16_1 _).trans (((cell_far (p := ⟨gb561, _, none⟩) d16_1 _).trans (((cell_far (p := ⟨gb561, _, none⟩) d16_1 _).trans (((cell_far (p := ⟨gb561, _, none⟩) d16_1 _).trans (((cell_far (p := ⟨gb561, _, none⟩) d16_1 _).trans (((cell_far (p := ⟨gb561, _, none⟩) d16_1 _).trans (hHeld.2.2.2.2.1)))))))))))), ((cell_far (p := ⟨gb561, _, none⟩) d16_1 _).trans (((cell_far (p := ⟨gb561, _, none⟩) d16_1 _).trans (((cell_far (p := ⟨gb561, _, none⟩) d16_1 _).trans (((cell_far (p := ⟨gb561, _, none⟩) d16_1 _).trans (((cell_far (p := ⟨gb561, _, none⟩) d16_1 _).trans (((cell_far (p := ⟨gb561, _, none⟩) d16_1 _).trans (hHeld.2.2.2.2.2.1)))))))))))), ((cell_far (p := ⟨gb561, _, none⟩) d16_1 _).trans (((cell_far (p := ⟨gb561, _, none⟩) d16_1 _).trans (((cell_far (p := ⟨gb561, _, none⟩) d16_1 _).trans (((cell_far (p := ⟨gb561, _, none⟩) d16_1 _).trans (((cell_far (p := ⟨gb561, _, none⟩) d16_1 _).trans (((cell_far (p := ⟨gb561, _, none⟩) d16_1 _).trans (hHeld.2.2.2.2.2.2.1)))))))))))), ((cell_far (p := ⟨gb561, _, none⟩) d16_1 _).trans (((cell_far (p := ⟨gb561, _, none⟩) d16_1 _).trans (((cell_far (p := ⟨gb561, _, none⟩) d16_1 _).trans (((cell_far (p := ⟨gb561, _, none⟩) d16_1 _).trans (((cell_far (p := ⟨gb561, _, none⟩) d16_1 _).trans (((cell_far (p := ⟨gb561, _, none⟩) d16_1 _).trans (hHeld.2.2.2.2.2.2.2.1)))))))))))), ((cell_far (p := ⟨gb561, _, none⟩) d16_1 _).trans (((cell_far (p := ⟨gb561, _, none⟩) d16_1 _).trans (((cell_far (p := ⟨gb561, _, none⟩) d16_1 _).trans (((cell_far (p := ⟨gb561, _, none⟩) d16_1 _).trans (((cell_far (p := ⟨gb561, _, none⟩) d16_1 _).trans (((cell_far (p := ⟨gb561, _, none⟩) d16_1 _).trans (hHeld.2.2.2.2.2.2.2.2.1)))))))))))), ((cell_far (p := ⟨gb561, _, none⟩) d16_1 _).trans (((cell_far (p := ⟨gb561, _, none⟩) d16_1 _).trans (((cell_far (p := ⟨gb561, _, none⟩) d16_1 _).trans (((cell_far (p := ⟨gb561, _, none⟩) d16_1 _).trans (((cell_far (p := ⟨gb561, _, none⟩) d16_1 _).trans (((cell_far (p := ⟨gb561, _, none⟩) d16_1 _).trans (hHeld.2.2.2.2.2.2.2.2.2))))))))))))⟩⟩ (fun hHeld => ?_)
            clear hK K; refine done_ (done_of HT_.out (by kernel_rfl)) ?_; have hnb45 := NB561_0.out; have hnc45 := NB0_561.out; have hnb46 := NB561_549.out; have hnc46 := NB549_561.out; obtain ⟨hcz47_0, hcz47_1, hcz47_2, hcz47_3, hcz47_4, hcz47_5, hfz47_0, hfz47_1, hfz47_2, hfz47_3, hfz47_4, hfz47_5⟩ := zx6_ BK561.out; have hnb48 := NB549_0.out; have hnc48 := NB0_549.out; obtain ⟨hcz49_0, hcz49_1, hcz49_2, hfz49_0, hfz49_1, hfz49_2⟩ := zx3_ BK549.out
            try go_wp2
            refine bodyPost_ret (results_ct rfl _ _ gb549 29 #[.int .i64 ((rd_T34 l0_0 ((rd_T29 l2 0).f1)).f0.f0), .int .i64 ((rd_T34 l0_0 ((rd_T29 l2 0).f1)).f0.f1), .string ((rd_T34 l0_0 ((rd_T29 l2 0).f1)).f0.f2)] (0, 0) _ rfl (by refine zpl_ ?_; refine zp3_ (.int .i64 0) (.int .i64 0) (.string (⟨#[]⟩ : ByteArray)) ?_; refine zpl_ ?_; refine blk_far ?_ NB549_561.out _; refine zpl_ ?_; refine blk_far ?_ NB549_561.out _; refine zpl_ ?_; refine blk_far ?_ NB549_561.out _; refine zpl_ ?_; refine blk_far ?_ NB549_561.out _; refine zpl_ ?_; refine blk_far ?_ NB549_561.out _; refine zpl_ ?_; refine blk_far ?_ NB549_561.out _; refine zpl_ ?_; exact BK549.out) Tryd.underlying29 rfl (by kernel_rfl)) rfl ?_
            (try refine exists_and_left.mp ?_); exact ⟨_, c16_5, by (with_reducible repeat (first | apply Kd.R_alloc | apply Kd.R_drewN | apply Kd.R_drew)); exact Kd.R_mono (zrf3_ (g := gb549) (zrf6_ (g := gb561) (Kd.R_types (Kd.R_mono HO_1000.out (fun k_ hk => (⟨hk, hk.2⟩ : _ ∧ k_ ≠ gb561))) BK549.out (by decide)) (fun _ hk => hk.1.2)) (fun _ hk => hk.2)) (fun _ hk => hk.1.1.1), c16_4, by repeat (first | (with_reducible first | exact HB.out | apply below_alloc | apply pw_below_drewN | apply below_drew1 | refine below_set ?_ GE0.out | refine below_set ?_ GE549.out | refine below_set ?_ GE561.out) | exact HB.out), by repeat (first | (with_reducible first | exact HK.out | apply Kept.alloc | apply Kept.drewN | apply Kept.drew | refine Kept.setCell ?_ (.inl (.inr rfl)) _ | refine Kept.setCell ?_ (.inr GW549.out) _ | refine Kept.setCell ?_ (.inr GW561.out) _) | exact HK.out)⟩
           ·rw [if_neg c35] at H
            obtain ⟨c35b0, c35b1⟩ := zbf_ c35; simp only [Option.some.injEq, Prod.mk.injEq] at H; obtain ⟨rfl, rfl, rfl, rfl, rfl⟩ := H; have p558 : 0 ≤ (0 : Int) := (by omega); have q558 : 0 < (l2.length : Int) := of_decide_eq_true d16_13; obtain ⟨ad558, e558, hx558_0, hx558_1, hx558_2⟩ := at_T29 (Kd.C_kept_now HR2.out HK.out) 0 p558 q558
            cases e558
            have qi558 : (0 < l2.length) = True := eq_true (by omega)
            (try rw [show ((0 : Int)).toNat = 0 from rfl] at hx558_0)
            (try rw [show 0 * 3 = 0 from rfl] at hx558_0)
            (try rw [Addr.add_zero'] at hx558_0)
            (try rw [show ((0 : Int)).toNat = 0 from rfl] at hx558_1)
            (try rw [show 0 * 3 = 0 from rfl] at hx558_1)
            (try rw [Addr.add_zero'] at hx558_1)
            (try rw [show ((0 : Int)).toNat = 0 from rfl] at hx558_2)
            (try rw [show 0 * 3 = 0 from rfl] at hx558_2)
            (try rw [Addr.add_zero'] at hx558_2)
            replace p558 := eq_true p558; replace q558 := eq_true q558
            try go_wp2
            have n0_ := ak (Kd.R_drew HO_1000.out); have n1_ := ak (blk_drew BK0.out); have n2_ := ak (blk_drew BK549.out); have n3_ := ak (Kept.drew HK.out); have n4_ := ak (below_drew1 HB.out); clear HO_1000; clear BK0; clear BK549; clear HK; clear HB; have HO_1000 := n0_; have BK0 := n1_; have BK549 := n2_; have HK := n3_; have HB := n4_; clear n0_ n1_ n2_ n3_ n4_; have p559 : 0 ≤ (0 : Int) := (by omega); have q559 : 0 < (l2.length : Int) := of_decide_eq_true d16_13; obtain ⟨ad559, e559, hx559_0, hx559_1, hx559_2⟩ := at_T29 (Kd.C_kept_now HR2.out HK.out) 0 p559 q559; have hw559_2 := hx559_2
            (try rw [show ((0 : Int)).toNat = 0 from rfl] at hw559_2)
            (try rw [show 0 * 3 = 0 from rfl] at hw559_2)
            (try rw [Addr.add_zero'] at hw559_2)
            have hw559_1 := hx559_1
            (try rw [show ((0 : Int)).toNat = 0 from rfl] at hw559_1)
            (try rw [show 0 * 3 = 0 from rfl] at hw559_1)
            (try rw [Addr.add_zero'] at hw559_1)
            have hw559_0 := hx559_0
            (try rw [show ((0 : Int)).toNat = 0 from rfl] at hw559_0)
            (try rw [show 0 * 3 = 0 from rfl] at hw559_0)
            (try rw [Addr.add_zero'] at hw559_0)
            obtain rfl : ad558 = ad559 := (by injection e559); have qi559 : (0 < l2.length) = True := eq_true (by omega)
            (try rw [show ((0 : Int)).toNat = 0 from rfl] at hx559_0)
            (try rw [show 0 * 3 = 0 from rfl] at hx559_0)
            (try rw [Addr.add_zero'] at hx559_0)
            (try rw [show ((0 : Int)).toNat = 0 from rfl] at hx559_1)
            (try rw [show 0 * 3 = 0 from rfl] at hx559_1)
            (try rw [Addr.add_zero'] at hx559_1)
            (try rw [show ((0 : Int)).toNat = 0 from rfl] at hx559_2)
            (try rw [show 0 * 3 = 0 from rfl] at hx559_2)
            (try rw [Addr.add_zero'] at hx559_2)
            replace p559 := eq_true p559; replace q559 := eq_true q559; obtain ⟨Ao51, co51, eo51⟩ := Kd.R_slice HO_1000.out
            (first | subst eo51 | (injection eo51 with f1_ f2_ f3_; have f4_ := f1_.symm; have f5_ := f3_.symm; clear f1_ f2_ f3_; subst f4_; subst f5_))
            have p560 : 0 ≤ (((rd_T29 l2 0).f1) : Int) := of_decide_eq_true d16_13; have q560 : ((rd_T29 l2 0).f1) < (l0_0.length : Int) := of_decide_eq_true d16_13; obtain ⟨ad560, e560, hx560_0, hx560_1, hx560_2, hx560_3, hx560_4, hx560_5⟩ := at_T34 (Kd.R_reads' HO_1000.out).2.2 ((rd_T29 l2 0).f1) p560 q560
            cases e560
            replace p560 := eq_true p560; replace q560 := eq_true q560
            refine start_ (n := 11) (S := fun w' => w'.cell? ⟨g, 0, none⟩ = some (.slice (some ad560) l0_0.length co51) ∧ w'.cell? ad558 = some (.int .i64 ((rd_T29 l2 0).f0)) ∧ w'.cell? ⟨ad558.block, ad558.off + 1, none⟩ = some (.int .i64 ((rd_T29 l2 0).f1)) ∧ w'.cell? ⟨ad558.block, ad558.off + 2, none⟩ = some (.string ((rd_T29 l2 0).f2)) ∧ w'.cell? (ad560.add ((((rd_T29 l2 0).f1)).toNat * 6)) = some (.int .i64 ((rd_T34 l0_0 ((rd_T29 l2 0).f1)).f0.f0)) ∧ w'.cell? ⟨(ad560.add ((((rd_T29 l2 0).f1)).toNat * 6)).block, (ad560.add ((((rd_T29 l2 0).f1)).toNat * 6)).off + 1, none⟩ = some (.int .i64 ((rd_T34 l0_0 ((rd_T29 l2 0).f1)).f0.f1)) ∧ w'.cell? ⟨(ad560.add ((((rd_T29 l2 0).f1)).toNat * 6)).block, (ad560.add ((((rd_T29 l2 0).f1)).toNat * 6)).off + 2, none⟩ = some (.string ((rd_T34 l0_0 ((rd_T29 l2 0).f1)).f0.f2)) ∧ w'.cell? ⟨(ad560.add ((((rd_T29 l2 0).f1)).toNat * 6)).block, (ad560.add ((((rd_T29 l2 0).f1)).toNat * 6)).off + 3, none⟩ = some (.int .i64 ((rd_T34 l0_0 ((rd_T29 l2 0).f1)).f1.f0)) ∧ w'.cell? ⟨(ad560.add ((((rd_T29 l2 0).f1)).toNat * 6)).block, (ad560.add ((((rd_T29 l2 0).f1)).toNat * 6)).off + 4, none⟩ = some (.int .i64 ((rd_T34 l0_0 ((rd_T29 l2 0).f1)).f1.f1)) ∧ w'.cell? ⟨(ad560.add ((((rd_T29 l2 0).f1)).toNat * 6)).block, (ad560.add ((((rd_T29 l2 0).f1)).toNat * 6)).off + 5, none⟩ = some (.string ((rd_T34 l0_0 ((rd_T29 l2 0).f1)).f1.f2))) (ds := []) #[false, false, false, false, false, false, false, false, false, false, false] (by kernel_rfl) rfl rfl ⟨(blk_cell BK0.out 0).trans rfl, za3_ (foot_ex (at_T29 (HR2.out _ d16_7) (0 : Int) (of_eq_true p559) (of_eq_true q559))) ⟨hx560_0, hx560_1, hx560_2, hx560_3, hx560_4, hx560_5⟩⟩ (fun hHeld => ?_); refine with_tabW spec_l6Do.tab14 spec_l6Do.bits14 (fun HT_ HW_ => ?_)
            generalize wc.drew = w50 at HO_1000 BK0 BK549 HK HB hx559_0 hx559_1 hx559_2 hx560_0 hx560_1 hx560_2 hx560_3 hx560_4 hx560_5 hHeld ⊢; refine pu5_ 0 61 (ab5_ 11 1) HT_ ?_; refine pu5_ 1 62 (ab5_ 11 3) HT_ ?_; refine pu5_ 3 64 (ab5_ 11 11) HT_ ?_; refine pu5_ 4 65 (ab5_ 11 27) HT_ ?_; refine pu5_ 5 66 (ab5_ 11 59) HT_ ?_; refine ta5_ 2 63 (ab5_ 11 63) HT_ HW_ hHeld ?_; refine ta5_ 6 67 (ab5_ 11 127) HT_ HW_ hHeld ?_; refine pu5_ 7 68 (ab5_ 11 255) HT_ ?_; refine ta5_ 8 69 (ab5_ 11 511) HT_ HW_ hHeld ?_
            refine one_ (i := 9) (N := some 10) #[true, true, true, true, true, true, true, true, true, true, false] rfl rfl (one_of HT_.out (by kernel_rfl)) (by decide) (fun K hK => ?_); refine box_step ?hg (N := 10) ?hd (cs := #[.int .i64 0, .int .i64 0, .string (⟨#[]⟩ : ByteArray), .int .i64 0, .int .i64 0, .string (⟨#[]⟩ : ByteArray)]) (t := 34) ?hr ?_; (case hd => rfl); (case hg => rfl); (case hr => first | (go_simp; done) | (go_simp; rfl)); intro gb561 hg w52 hbox hb; have HS4_ := (hb.cell (World.block_lt_of_cell? _ _ (hHeld.2.2.2.2.1))).trans (hHeld.2.2.2.2.1); have HS5_ := (hb.cell (World.block_lt_of_cell? _ _ (hHeld.2.2.2.2.2.1))).trans (hHeld.2.2.2.2.2.1); have HS6_ := (hb.cell (World.block_lt_of_cell? _ _ (hHeld.2.2.2.2.2.2.1))).trans (hHeld.2.2.2.2.2.2.1); have HS7_ := (hb.cell (World.block_lt_of_cell? _ _ (hHeld.2.2.2.2.2.2.2.1))).trans (hHeld.2.2.2.2.2.2.2.1); have HS8_ := (hb.cell (World.block_lt_of_cell? _ _ (hHeld.2.2.2.2.2.2.2.2.1))).trans (hHeld.2.2.2.2.2.2.2.2.1); have HS9_ := (hb.cell (World.block_lt_of_cell? _ _ (hHeld.2.2.2.2.2.2.2.2.2))).trans (hHeld.2.2.2.2.2.2.2.2.2); have n0_ := ak (Kd.R_below (Kd.R_elderB d16_14 gb561 (Nat.le_of_eq hg.symm)) hb); have n1_ := zbb_ (g := g) hb d16_4; have n2_ := zbb_ (g := gb549) hb d16_8
            have n3_ := ak (Kept.below (S := (fun k_ => (P0_0_ k_) ∨ k_ = g)) d16_3 hb); have n4_ := ak (below_step d16_5 hb); have n5_ := ak (hbox); have n6_ := ak ((by rw [hg]; exact d16_15 : w.heap.size ≤ gb561)); have n7_ := ak ((by rw [hg]; exact (below_size d16_5) : w0.heap.size ≤ gb561)); obtain ⟨n8_, n9_⟩ := zne_ (g := g) hg d16_4; obtain ⟨n10_, n11_⟩ := zne_ (g := gb549) hg d16_8; clear HO_1000; clear BK0; clear BK549; clear HK; clear HB; have HO_1000 := n0_; have BK0 := n1_; have BK549 := n2_; have HK := n3_; have HB := n4_; have BK561 := n5_; have GW561 := n6_; have GE561 := n7_; have NB0_561 := n8_; have NB561_0 := n9_; have NB549_561 := n10_; have NB561_549 := n11_; clear n0_ n1_ n2_ n3_ n4_ n5_ n6_ n7_ n8_ n9_ n10_ n11_; clear hb hbox hg
            refine hK.out _ _ ⟨(blk_cell BK0.out 0).trans rfl, za3_ (foot_ex (at_T29 (HR2.out _ d16_7) (0 : Int) (of_eq_true p559) (of_eq_true q559))) ⟨HS4_, HS5_, HS6_, HS7_, HS8_, HS9_⟩⟩ (fun hHeld => ?_); clear hK K; refine no5_ 10 ?_
            refine one_ (i := 10) (N := none) #[true, true, true, true, true, true, true, true, true, true, true] rfl rfl (one_of HT_.out (by kernel_rfl)) (by decide) (fun K hK => ?_); have hs53 : w52.cell? ⟨gb561, 0, none⟩ = some (.int .i64 0) := (blk_cell BK561.out 0).trans rfl; have hfs53 := z16f BK561.out 0; have hns53_0 := NB0_561.out; have hns53_1 := NB549_561.out; have hms53_0 := NB561_0.out; have hms53_1 := NB561_549.out; have hs54 : w52.cell? ⟨gb561, 1, none⟩ = some (.int .i64 0) := (blk_cell BK561.out 1).trans rfl; have hfs54 := z16f BK561.out 1; have hns54_0 := NB0_561.out; have hns54_1 := NB549_561.out; have hms54_0 := NB561_0.out; have hms54_1 := NB561_549.out; have hs55 : w52.cell? ⟨gb561, 2, none⟩ = some (.string (⟨#[]⟩ : ByteArray)) := (blk_cell BK561.out 2).trans rfl; have hfs55 := z16f BK561.out 2; have hns55_0 := NB0_561.out; have hns55_1 := NB549_561.out; have hms55_0 := NB561_0.out; have hms55_1 := NB561_549.out; have hs56 : w52.cell? ⟨gb561, 3, none⟩ = some (.int .i64 0) := (blk_cell BK561.out 3).trans rfl; have hfs56 := z16f BK561.out 3; have hns56_0 := NB0_561.out; have hns56_1 := NB549_561.out; have hms56_0 := NB561_0.out; have hms56_1 := NB561_549.out; have hs57 : w52.cell? ⟨gb561, 4, none⟩ = some (.int .i64 0) := (blk_cell BK561.out 4).trans rfl; have hfs57 := z16f BK561.out 4; have hns57_0 := NB0_561.out; have hns57_1 := NB549_561.out; have hms57_0 := NB561_0.out; have hms57_1 := NB561_549.out
            have hs58 : w52.cell? ⟨gb561, 5, none⟩ = some (.string (⟨#[]⟩ : ByteArray)) := (blk_cell BK561.out 5).trans rfl; have hfs58 := z16f BK561.out 5; have hns58_0 := NB0_561.out; have hns58_1 := NB549_561.out; have hms58_0 := NB561_0.out; have hms58_1 := NB561_549.out; refine skip_ (w1 := ?_) (by rfl) rfl ?_ ?_; rotate_left
            · go_simp
              rfl
            refine hK.out _ _ ⟨(zn6_ NB0_561.out hHeld.1), za3_ (foot_ex (at_T29 (HR2.out _ d16_7) (0 : Int) (of_eq_true p559) (of_eq_true q559))) ⟨((cell_far (p := ⟨gb561, _, none⟩) d16_1 _).trans (((cell_far (p := ⟨gb561, _, none⟩) d16_1 _).trans (((cell_far (p := ⟨gb561, _, none⟩) d16_1 _).trans (((cell_far (p := ⟨gb561, _, none⟩) d16_1 _).trans (((cell_far (p := ⟨gb561, _, none⟩) d16_1 _).trans (((cell_far (p := ⟨gb561, _, none⟩) d16_1 _).trans (hHeld.2.2.2.2.1)))))))))))), ((cell_far (p := ⟨gb561, _, none⟩) d16_1 _).trans (((cell_far (p := ⟨gb561, _, none⟩) d16_1 _).trans (((cell_far (p := ⟨gb561, _, none⟩) d16_1 _).trans (((cell_far (p := ⟨gb561, _, none⟩) d16_1 _).trans (((cell_far (p := ⟨gb561, _, none⟩) d16_1 _).trans (((cell_far (p := ⟨gb561, _, none⟩) d16_1 _).trans (hHeld.2.2.2.2.2.1)))))))))))), ((cell_far (p := ⟨gb561, _, none⟩) d16_1 _).trans (((cell_far (p := ⟨gb561, _, none⟩) d16_1 _).trans (((cell_far (p := ⟨gb561, _, none⟩) d16_1 _).trans (((cell_far (p := ⟨gb561, _, none⟩) d16_1 _).trans (((cell_far (p := ⟨gb561, _, none⟩) d16_1 _).trans (((cell_far (p := ⟨gb561, _, none⟩) d16_1 _).trans (hHeld.2.2.2.2.2.2.1)))))))))))), ((cell_far (p := ⟨gb561, _, none⟩) d16_1 _).trans (((cell_far (p := ⟨gb561, _, none⟩) d16_1 _).trans (((cell_far (p := ⟨gb561, _, none⟩) d16_1 _).trans (((cell_far (p := ⟨gb561, _, none⟩) d16_1 _).trans (((cell_far (p := ⟨gb561, _, none⟩) d16_1 _).trans (((cell_far (p := ⟨gb561, _, none⟩) d16_1 _).trans (hHeld.2.2.2.2.2.2.2.1)))))))))))), ((cell_far (p := ⟨gb561, _, none⟩) d16_1 _).trans (((cell_far (p := ⟨gb561, _, none⟩) d16_1 _).trans (((cell_far (p := ⟨gb561, _, none⟩) d16_1 _).trans (((cell_far (p := ⟨gb561, _, none⟩) d16_1 _).trans (((cell_far (p := ⟨gb561, _, none⟩) d16_1 _).trans (((cell_far (p := ⟨gb561, _, none⟩) d16_1 _).trans (hHeld.2.2.2.2.2.2.2.2.1)))))))))))), ((cell_far (p := ⟨gb561, _, none⟩) d16_1 _).trans (((cell_far (p := ⟨gb561, _, none⟩) d16_1 _).trans (((cell_far (p := ⟨gb561, _, none⟩) d16_1 _).trans (((cell_far (p := ⟨gb561, _, none⟩) d16_1 _).trans (((cell_far (p := ⟨gb561, _, none⟩) d16_1 _).trans (((cell_far (p := ⟨gb561, _, none⟩) d16_1 _).trans (hHeld.2.2.2.2.2.2.2.2.2))))))))))))⟩⟩ (fun hHeld => ?_)
            clear hK K; refine done_ (done_of HT_.out (by kernel_rfl)) ?_; have hnb59 := NB561_0.out; have hnc59 := NB0_561.out; have hnb60 := NB561_549.out; have hnc60 := NB549_561.out; obtain ⟨hcz61_0, hcz61_1, hcz61_2, hcz61_3, hcz61_4, hcz61_5, hfz61_0, hfz61_1, hfz61_2, hfz61_3, hfz61_4, hfz61_5⟩ := zx6_ BK561.out; have hnb62 := NB549_0.out; have hnc62 := NB0_549.out; obtain ⟨hcz63_0, hcz63_1, hcz63_2, hfz63_0, hfz63_1, hfz63_2⟩ := zx3_ BK549.out
            try go_wp2
            refine bodyPost_ret (results_ct rfl _ _ gb549 29 #[.int .i64 ((rd_T34 l0_0 ((rd_T29 l2 0).f1)).f1.f0), .int .i64 ((rd_T34 l0_0 ((rd_T29 l2 0).f1)).f1.f1), .string ((rd_T34 l0_0 ((rd_T29 l2 0).f1)).f1.f2)] (0, 0) _ rfl (by refine zpl_ ?_; refine zp3_ (.int .i64 0) (.int .i64 0) (.string (⟨#[]⟩ : ByteArray)) ?_; refine zpl_ ?_; refine blk_far ?_ NB549_561.out _; refine zpl_ ?_; refine blk_far ?_ NB549_561.out _; refine zpl_ ?_; refine blk_far ?_ NB549_561.out _; refine zpl_ ?_; refine blk_far ?_ NB549_561.out _; refine zpl_ ?_; refine blk_far ?_ NB549_561.out _; refine zpl_ ?_; refine blk_far ?_ NB549_561.out _; refine zpl_ ?_; exact BK549.out) Tryd.underlying29 rfl (by kernel_rfl)) rfl ?_
            (try refine exists_and_left.mp ?_); exact ⟨_, c16_5, by (with_reducible repeat (first | apply Kd.R_alloc | apply Kd.R_drewN | apply Kd.R_drew)); exact Kd.R_mono (zrf3_ (g := gb549) (zrf6_ (g := gb561) (Kd.R_types (Kd.R_mono HO_1000.out (fun k_ hk => (⟨hk, hk.2⟩ : _ ∧ k_ ≠ gb561))) BK549.out (by decide)) (fun _ hk => hk.1.2)) (fun _ hk => hk.2)) (fun _ hk => hk.1.1.1), c16_4, by repeat (first | (with_reducible first | exact HB.out | apply below_alloc | apply pw_below_drewN | apply below_drew1 | refine below_set ?_ GE0.out | refine below_set ?_ GE549.out | refine below_set ?_ GE561.out) | exact HB.out), by repeat (first | (with_reducible first | exact HK.out | apply Kept.alloc | apply Kept.drewN | apply Kept.drew | refine Kept.setCell ?_ (.inl (.inr rfl)) _ | refine Kept.setCell ?_ (.inr GW549.out) _ | refine Kept.setCell ?_ (.inr GW561.out) _) | exact HK.out)⟩
          ·rw [if_neg c34] at H
           exact absurd H (by simp)
         ·rw [if_neg c33] at H
          exact absurd H (by simp)
        ·rw [if_neg c32] at H
         obtain ⟨c32b0, c32b1⟩ := zbf_ c32; simp only [Option.some.injEq, Prod.mk.injEq] at H; obtain ⟨rfl, rfl, rfl, rfl, rfl⟩ := H; have p558 : 0 ≤ (0 : Int) := (by omega); have q558 : 0 < (l2.length : Int) := of_decide_eq_true d16_13; obtain ⟨ad558, e558, hx558_0, hx558_1, hx558_2⟩ := at_T29 (Kd.C_kept_now HR2.out HK.out) 0 p558 q558
         cases e558
         have qi558 : (0 < l2.length) = True := eq_true (by omega)
         (try rw [show ((0 : Int)).toNat = 0 from rfl] at hx558_0)
         (try rw [show 0 * 3 = 0 from rfl] at hx558_0)
         (try rw [Addr.add_zero'] at hx558_0)
         (try rw [show ((0 : Int)).toNat = 0 from rfl] at hx558_1)
         (try rw [show 0 * 3 = 0 from rfl] at hx558_1)
         (try rw [Addr.add_zero'] at hx558_1)
         (try rw [show ((0 : Int)).toNat = 0 from rfl] at hx558_2)
         (try rw [show 0 * 3 = 0 from rfl] at hx558_2)
         (try rw [Addr.add_zero'] at hx558_2)
         replace p558 := eq_true p558; replace q558 := eq_true q558; have hnb64 := NB549_0.out; have hnc64 := NB0_549.out; obtain ⟨hcz65_0, hcz65_1, hcz65_2, hfz65_0, hfz65_1, hfz65_2⟩ := zx3_ BK549.out; go_wp2; refine bodyPost_ret (results_ct rfl _ _ gb549 29 #[.int .i64 0, .int .i64 0, .string (⟨#[]⟩ : ByteArray)] (0, 0) _ rfl (by refine zpl_ ?_; refine zp3_ (.int .i64 0) (.int .i64 0) (.string (⟨#[]⟩ : ByteArray)) ?_; refine zpl_ ?_; exact BK549.out) Tryd.underlying29 rfl (by kernel_rfl)) rfl ?_
         (try refine exists_and_left.mp ?_); exact ⟨_, c16_5, by (with_reducible repeat (first | apply Kd.R_alloc | apply Kd.R_drewN | apply Kd.R_drew)); exact Kd.R_mono (zrf3_ (g := gb549) (Kd.R_types HO_1000.out BK549.out (by decide)) (fun _ hk => hk.2)) (fun _ hk => hk.1), c16_1, c16_3, c16_2⟩
       ·rw [if_neg c31] at H
        exact absurd H (by simp)
      ·replace c30 := Bool.eq_false_iff.mpr c30
       subst c30; rw [if_neg (show ¬ (false = true) by decide)] at H; by_cases c66 : a1 = 10
       ·rw [if_pos c66] at H
        obtain ⟨c66b0, c66b1⟩ := zbt_ c66; clear c66; by_cases c67 : 0 < (l2.length : Int)
        ·rw [if_pos c67] at H
         have c67b0 : decide (0 < (l2.length : Int)) = true := decide_eq_true c67; have c67b1 : decide (0 < l2.length) = true := decide_eq_true (by omega); clear c67; obtain ⟨⟨t563, t564, t565⟩, A68, H⟩ := zbi_ H; (try dsimp -simprocs only at H); simp only [Option.some.injEq, Prod.mk.injEq] at H; obtain ⟨rfl, rfl, rfl, rfl, rfl⟩ := H; have p562 : 0 ≤ (0 : Int) := (by omega); have q562 : 0 < (l2.length : Int) := of_decide_eq_true d16_13; obtain ⟨ad562, e562, hx562_0, hx562_1, hx562_2⟩ := at_T29 (Kd.C_kept_now HR2.out HK.out) 0 p562 q562
         cases e562
         have qi562 : (0 < l2.length) = True := eq_true (by omega)
         (try rw [show ((0 : Int)).toNat = 0 from rfl] at hx562_0)
         (try rw [show 0 * 3 = 0 from rfl] at hx562_0)
         (try rw [Addr.add_zero'] at hx562_0)
         (try rw [show ((0 : Int)).toNat = 0 from rfl] at hx562_1)
         (try rw [show 0 * 3 = 0 from rfl] at hx562_1)
         (try rw [Addr.add_zero'] at hx562_1)
         (try rw [show ((0 : Int)).toNat = 0 from rfl] at hx562_2)
         (try rw [show 0 * 3 = 0 from rfl] at hx562_2)
         (try rw [Addr.add_zero'] at hx562_2)
         replace p562 := eq_true p562; replace q562 := eq_true q562; go_wp2_with (first | ((with_reducible refine gate_callee (f := 43) rfl ?_); refine zgo_ 83 Tryd.func43 #[.bool (((rd_T29 l2 0).f0) == 3)] ?_ (e := d16_9); (with_reducible refine (spec_l6Bool.calls (((rd_T29 l2 0).f0) == 3) t563 t564 t565 _ A68.out).mono ?_); rintro e w69 ⟨rfl, hb⟩; refine ⟨_, rfl, ?_⟩; replace HO_1000 := ak (Kd.R_below d16_14 hb); replace BK0 := zbb_ (g := g) hb d16_4; replace BK549 := zbb_ (g := gb549) hb d16_8; replace HK := ak (Kept.below (S := (fun k_ => (P0_0_ k_) ∨ k_ = g)) d16_3 hb); replace HB := ak (below_step d16_5 hb); (try clear hb); have hnb70 := NB549_0.out; have hnc70 := NB0_549.out; obtain ⟨hcz71_0, hcz71_1, hcz71_2, hfz71_0, hfz71_1, hfz71_2⟩ := zx3_ BK549.out))
         refine bodyPost_ret (results_ct rfl _ _ gb549 29 #[.int .i64 t563, .int .i64 t564, .string t565] (0, 0) _ rfl (by refine zpl_ ?_; refine zp3_ (.int .i64 0) (.int .i64 0) (.string (⟨#[]⟩ : ByteArray)) ?_; refine zpl_ ?_; exact BK549.out) Tryd.underlying29 rfl (by kernel_rfl)) rfl ?_; (try refine exists_and_left.mp ?_); exact ⟨_, c16_5, by (with_reducible repeat (first | apply Kd.R_alloc | apply Kd.R_drewN | apply Kd.R_drew)); exact Kd.R_mono (zrf3_ (g := gb549) (Kd.R_types HO_1000.out BK549.out (by decide)) (fun _ hk => hk.2)) (fun _ hk => hk.1), c16_1, c16_3, c16_2⟩
        ·rw [if_neg c67] at H
         exact absurd H (by simp)
       ·rw [if_neg c66] at H
        obtain ⟨c66b0, c66b1⟩ := zbf_ c66; by_cases c72 : a1 = 11
        ·rw [if_pos c72] at H
         obtain ⟨c72b0, c72b1⟩ := zbt_ c72; clear c72; by_cases c73 : 0 < (l2.length : Int)
         ·rw [if_pos c73] at H
          have c73b0 : decide (0 < (l2.length : Int)) = true := decide_eq_true c73; have c73b1 : decide (0 < l2.length) = true := decide_eq_true (by omega); clear c73; obtain ⟨⟨t567, t568, t569⟩, A74, H⟩ := zbi_ H; (try dsimp -simprocs only at H); simp only [Option.some.injEq, Prod.mk.injEq] at H; obtain ⟨rfl, rfl, rfl, rfl, rfl⟩ := H; have p566 : 0 ≤ (0 : Int) := (by omega); have q566 : 0 < (l2.length : Int) := of_decide_eq_true d16_13; obtain ⟨ad566, e566, hx566_0, hx566_1, hx566_2⟩ := at_T29 (Kd.C_kept_now HR2.out HK.out) 0 p566 q566
          cases e566
          have qi566 : (0 < l2.length) = True := eq_true (by omega)
          (try rw [show ((0 : Int)).toNat = 0 from rfl] at hx566_0)
          (try rw [show 0 * 3 = 0 from rfl] at hx566_0)
          (try rw [Addr.add_zero'] at hx566_0)
          (try rw [show ((0 : Int)).toNat = 0 from rfl] at hx566_1)
          (try rw [show 0 * 3 = 0 from rfl] at hx566_1)
          (try rw [Addr.add_zero'] at hx566_1)
          (try rw [show ((0 : Int)).toNat = 0 from rfl] at hx566_2)
          (try rw [show 0 * 3 = 0 from rfl] at hx566_2)
          (try rw [Addr.add_zero'] at hx566_2)
          replace p566 := eq_true p566; replace q566 := eq_true q566; go_wp2_with (first | ((with_reducible refine gate_callee (f := 43) rfl ?_); refine zgo_ 91 Tryd.func43 #[.bool (((rd_T29 l2 0).f0) == 5)] ?_ (e := d16_9); (with_reducible refine (spec_l6Bool.calls (((rd_T29 l2 0).f0) == 5) t567 t568 t569 _ A74.out).mono ?_); rintro e w75 ⟨rfl, hb⟩; refine ⟨_, rfl, ?_⟩; replace HO_1000 := ak (Kd.R_below d16_14 hb); replace BK0 := zbb_ (g := g) hb d16_4; replace BK549 := zbb_ (g := gb549) hb d16_8; replace HK := ak (Kept.below (S := (fun k_ => (P0_0_ k_) ∨ k_ = g)) d16_3 hb); replace HB := ak (below_step d16_5 hb); (try clear hb); have hnb76 := NB549_0.out; have hnc76 := NB0_549.out; obtain ⟨hcz77_0, hcz77_1, hcz77_2, hfz77_0, hfz77_1, hfz77_2⟩ := zx3_ BK549.out))
          refine bodyPost_ret (results_ct rfl _ _ gb549 29 #[.int .i64 t567, .int .i64 t568, .string t569] (0, 0) _ rfl (by refine zpl_ ?_; refine zp3_ (.int .i64 0) (.int .i64 0) (.string (⟨#[]⟩ : ByteArray)) ?_; refine zpl_ ?_; exact BK549.out) Tryd.underlying29 rfl (by kernel_rfl)) rfl ?_; (try refine exists_and_left.mp ?_); exact ⟨_, c16_5, by (with_reducible repeat (first | apply Kd.R_alloc | apply Kd.R_drewN | apply Kd.R_drew)); exact Kd.R_mono (zrf3_ (g := gb549) (Kd.R_types HO_1000.out BK549.out (by decide)) (fun _ hk => hk.2)) (fun _ hk => hk.1), c16_1, c16_3, c16_2⟩
         ·rw [if_neg c73] at H
          exact absurd H (by simp)
        ·rw [if_neg c72] at H
         obtain ⟨c72b0, c72b1⟩ := zbf_ c72; by_cases c78 : a1 = 12
         ·rw [if_pos c78] at H
          obtain ⟨c78b0, c78b1⟩ := zbt_ c78; clear c78; by_cases c79 : 0 < (l2.length : Int)
          ·rw [if_pos c79] at H
           have c79b0 : decide (0 < (l2.length : Int)) = true := decide_eq_true c79; have c79b1 : decide (0 < l2.length) = true := decide_eq_true (by omega); clear c79; by_cases c80 : 1 < (l2.length : Int)
           ·rw [if_pos c80] at H
            have c80b0 : decide (1 < (l2.length : Int)) = true := decide_eq_true c80; have c80b1 : decide (1 < l2.length) = true := decide_eq_true (by omega); clear c80; obtain ⟨⟨t572, t573, t574⟩, A81, H⟩ := zbi_ H; (try dsimp -simprocs only at H); simp only [Option.some.injEq, Prod.mk.injEq] at H; obtain ⟨rfl, rfl, rfl, rfl, rfl⟩ := H
            try go_wp2
            have n0_ := ak (Kd.R_drew HO_1000.out); have n1_ := ak (blk_drew BK0.out); have n2_ := ak (blk_drew BK549.out); have n3_ := ak (Kept.drew HK.out); have n4_ := ak (below_drew1 HB.out); clear HO_1000; clear BK0; clear BK549; clear HK; clear HB; have HO_1000 := n0_; have BK0 := n1_; have BK549 := n2_; have HK := n3_; have HB := n4_; clear n0_ n1_ n2_ n3_ n4_; have p570 : 0 ≤ (0 : Int) := (by omega); have q570 : 0 < (l2.length : Int) := of_decide_eq_true d16_13; obtain ⟨ad570, e570, hx570_0, hx570_1, hx570_2⟩ := at_T29 (Kd.C_kept_now HR2.out HK.out) 0 p570 q570; have hw570_2 := hx570_2
            (try rw [show ((0 : Int)).toNat = 0 from rfl] at hw570_2)
            (try rw [show 0 * 3 = 0 from rfl] at hw570_2)
            (try rw [Addr.add_zero'] at hw570_2)
            have hw570_1 := hx570_1
            (try rw [show ((0 : Int)).toNat = 0 from rfl] at hw570_1)
            (try rw [show 0 * 3 = 0 from rfl] at hw570_1)
            (try rw [Addr.add_zero'] at hw570_1)
            have hw570_0 := hx570_0
            (try rw [show ((0 : Int)).toNat = 0 from rfl] at hw570_0)
            (try rw [show 0 * 3 = 0 from rfl] at hw570_0)
            (try rw [Addr.add_zero'] at hw570_0)
            cases e570
            have qi570 : (0 < l2.length) = True := eq_true (by omega)
            (try rw [show ((0 : Int)).toNat = 0 from rfl] at hx570_0)
            (try rw [show 0 * 3 = 0 from rfl] at hx570_0)
            (try rw [Addr.add_zero'] at hx570_0)
            (try rw [show ((0 : Int)).toNat = 0 from rfl] at hx570_1)
            (try rw [show 0 * 3 = 0 from rfl] at hx570_1)
            (try rw [Addr.add_zero'] at hx570_1)
            (try rw [show ((0 : Int)).toNat = 0 from rfl] at hx570_2)
            (try rw [show 0 * 3 = 0 from rfl] at hx570_2)
            (try rw [Addr.add_zero'] at hx570_2)
            replace p570 := eq_true p570; replace q570 := eq_true q570; have p571 : 0 ≤ (1 : Int) := (by omega); have q571 : 1 < (l2.length : Int) := of_decide_eq_true d16_13; obtain ⟨ad571, e571, hx571_0, hx571_1, hx571_2⟩ := at_T29 (Kd.C_kept_now HR2.out HK.out) 1 p571 q571; have hw571_2 := hx571_2
            (try rw [show ((1 : Int)).toNat = 1 from rfl] at hw571_2)
            (try rw [show 1 * 3 = 3 from rfl] at hw571_2)
            (try simp only [Nat.reduceMul, Nat.reduceEqDiff, Go.Addr.add, ↓reduceIte] at hw571_2)
            have hw571_1 := hx571_1
            (try rw [show ((1 : Int)).toNat = 1 from rfl] at hw571_1)
            (try rw [show 1 * 3 = 3 from rfl] at hw571_1)
            (try simp only [Nat.reduceMul, Nat.reduceEqDiff, Go.Addr.add, ↓reduceIte] at hw571_1)
            have hw571_0 := hx571_0
            (try rw [show ((1 : Int)).toNat = 1 from rfl] at hw571_0)
            (try rw [show 1 * 3 = 3 from rfl] at hw571_0)
            (try simp only [Nat.reduceMul, Nat.reduceEqDiff, Go.Addr.add, ↓reduceIte] at hw571_0)
            obtain rfl : ad570 = ad571 := (by injection e571)
            (try simp only [show (1 : Int).toNat = 1 from rfl, Nat.reduceMul, Nat.reduceEqDiff, Go.Addr.add, ↓reduceIte] at hx571_0)
            (try simp only [show (1 : Int).toNat = 1 from rfl, Nat.reduceMul, Nat.reduceEqDiff, Go.Addr.add, ↓reduceIte] at hx571_1)
            (try simp only [show (1 : Int).toNat = 1 from rfl, Nat.reduceMul, Nat.reduceEqDiff, Go.Addr.add, ↓reduceIte] at hx571_2)
            have qi571 : (1 < l2.length) = True := eq_true (by omega)
            (try rw [show ((1 : Int)).toNat = 1 from rfl] at hx571_0)
            (try rw [show 1 * 3 = 3 from rfl] at hx571_0)
            (try rw [show ((1 : Int)).toNat = 1 from rfl] at hx571_1)
            (try rw [show 1 * 3 = 3 from rfl] at hx571_1)
            (try rw [show ((1 : Int)).toNat = 1 from rfl] at hx571_2)
            (try rw [show 1 * 3 = 3 from rfl] at hx571_2)
            replace p571 := eq_true p571; replace q571 := eq_true q571; refine start_ (n := 10) (S := fun w' => w'.cell? ad570 = some (.int .i64 ((rd_T29 l2 0).f0)) ∧ w'.cell? ⟨ad570.block, ad570.off + 1, none⟩ = some (.int .i64 ((rd_T29 l2 0).f1)) ∧ w'.cell? ⟨ad570.block, ad570.off + 2, none⟩ = some (.string ((rd_T29 l2 0).f2)) ∧ w'.cell? ⟨ad570.block, ad570.off + 3, none⟩ = some (.int .i64 ((rd_T29 l2 1).f0)) ∧ w'.cell? ⟨ad570.block, ad570.off + 3 + 1, none⟩ = some (.int .i64 ((rd_T29 l2 1).f1)) ∧ w'.cell? ⟨ad570.block, ad570.off + 3 + 2, none⟩ = some (.string ((rd_T29 l2 1).f2))) (ds := []) #[false, false, false, false, false, false, false, false, false, false] (by kernel_rfl) rfl rfl (za3_ (foot_ex (at_T29 (HR2.out _ d16_2) (0 : Int) (of_eq_true p570) (of_eq_true q570))) ((foot_ex (at_T29 (HR2.out _ d16_2) (1 : Int) (of_eq_true p571) (of_eq_true q571))))) (fun hHeld => ?_); refine with_tabW spec_l6Do.tab23 spec_l6Do.bits23 (fun HT_ HW_ => ?_); generalize wc.drew = w82 at HO_1000 BK0 BK549 HK HB hx570_0 hx570_1 hx570_2 hx571_0 hx571_1 hx571_2 hHeld ⊢
            refine pu5_ 0 94 (ab5_ 10 1) HT_ ?_; refine pu5_ 1 95 (ab5_ 10 3) HT_ ?_; refine pu5_ 3 97 (ab5_ 10 11) HT_ ?_; refine pu5_ 4 98 (ab5_ 10 27) HT_ ?_; refine ta5_ 2 96 (ab5_ 10 31) HT_ HW_ hHeld ?_; refine ta5_ 5 99 (ab5_ 10 63) HT_ HW_ hHeld ?_; refine pu5_ 6 100 (ab5_ 10 127) HT_ ?_
            refine one_ (i := 7) (N := some 101) #[true, true, true, true, true, true, true, true, false, false] rfl rfl (one_of HT_.out (by kernel_rfl)) (by decide) (fun K hK => ?_); refine goes_ Tryd.func43 (by kernel_rfl) rfl #[.bool (((rd_T29 l2 0).f0) == ((rd_T29 l2 1).f0) && (((rd_T29 l2 0).f1) == ((rd_T29 l2 1).f1) && ((((rd_T29 l2 0).f2).toList) == (((rd_T29 l2 1).f2).toList))))] (by rfl) rfl rfl d16_9 ?_; (with_reducible refine (spec_l6Bool.calls (((rd_T29 l2 0).f0) == ((rd_T29 l2 1).f0) && (((rd_T29 l2 0).f1) == ((rd_T29 l2 1).f1) && ((((rd_T29 l2 0).f2).toList) == (((rd_T29 l2 1).f2).toList)))) t572 t573 t574 _ A81.out).mono ?_); rintro e w83 ⟨rfl, hb⟩; refine ⟨_, rfl, ?_⟩; have n0_ := ak (Kd.R_below d16_14 hb); have n1_ := zbb_ (g := g) hb d16_4; have n2_ := zbb_ (g := gb549) hb d16_8; have n3_ := ak (Kept.below (S := (fun k_ => (P0_0_ k_) ∨ k_ = g)) d16_3 hb); have n4_ := ak (below_step d16_5 hb); clear HO_1000; clear BK0; clear BK549; clear HK; clear HB; have HO_1000 := n0_; have BK0 := n1_; have BK549 := n2_; have HK := n3_; have HB := n4_; clear n0_ n1_ n2_ n3_ n4_
            (try clear hb)
            (try clear hb2)
            (try clear hk)
            (try clear hi)
            refine hK.out _ _ (za3_ (foot_ex (at_T29 (HR2.out _ d16_2) (0 : Int) (of_eq_true p570) (of_eq_true q570))) ((foot_ex (at_T29 (HR2.out _ d16_2) (1 : Int) (of_eq_true p571) (of_eq_true q571))))) (fun hHeld => ?_); clear hK K; refine no5_ 101 ?_; refine one_ (i := 8) (N := none) #[true, true, true, true, true, true, true, true, true, false] rfl rfl (one_of HT_.out (by kernel_rfl)) (by decide) (fun K hK => ?_); have hs84 : w83.cell? ⟨gb549, 0, none⟩ = some (.int .i64 0) := (blk_cell BK549.out 0).trans rfl; have hfs84 := z16f BK549.out 0; have hns84_0 := NB0_549.out; have hms84_0 := NB549_0.out; have hs85 : w83.cell? ⟨gb549, 1, none⟩ = some (.int .i64 0) := (blk_cell BK549.out 1).trans rfl; have hfs85 := z16f BK549.out 1; have hns85_0 := NB0_549.out; have hms85_0 := NB549_0.out; have hs86 : w83.cell? ⟨gb549, 2, none⟩ = some (.string (⟨#[]⟩ : ByteArray)) := (blk_cell BK549.out 2).trans rfl; have hfs86 := z16f BK549.out 2; have hns86_0 := NB0_549.out; have hms86_0 := NB549_0.out; refine skip_ (w1 := ?_) (by rfl) rfl ?_ ?_; rotate_left
            · go_simp
              rfl
            refine hK.out _ _ (za3_ (foot_ex (at_T29 (HR2.out _ d16_2) (0 : Int) (of_eq_true p570) (of_eq_true q570))) ((foot_ex (at_T29 (HR2.out _ d16_2) (1 : Int) (of_eq_true p571) (of_eq_true q571))))) (fun hHeld => ?_); clear hK K; refine pu5_ 9 7 (ab5_ 10 1023) HT_ ?_; refine done_ (done_of HT_.out (by kernel_rfl)) ?_
            try go_wp2
            refine bodyPost_ret (results_ct rfl _ _ gb549 29 #[.int .i64 t572, .int .i64 t573, .string t574] (0, 0) _ rfl (by refine zpl_ ?_; refine zp3_ (.int .i64 0) (.int .i64 0) (.string (⟨#[]⟩ : ByteArray)) ?_; refine zpl_ ?_; exact BK549.out) Tryd.underlying29 rfl (by kernel_rfl)) rfl ?_; (try refine exists_and_left.mp ?_); exact ⟨_, c16_5, by (with_reducible repeat (first | apply Kd.R_alloc | apply Kd.R_drewN | apply Kd.R_drew)); exact Kd.R_mono (zrf3_ (g := gb549) (Kd.R_types HO_1000.out BK549.out (by decide)) (fun _ hk => hk.2)) (fun _ hk => hk.1), c16_1, c16_3, c16_2⟩
           ·rw [if_neg c80] at H
            exact absurd H (by simp)
          ·rw [if_neg c79] at H
           exact absurd H (by simp)
         ·rw [if_neg c78] at H
          obtain ⟨c78b0, c78b1⟩ := zbf_ c78; by_cases c87 : a1 = 13
          ·rw [if_pos c87] at H
           obtain ⟨c87b0, c87b1⟩ := zbt_ c87; clear c87; by_cases c88 : 0 < (l2.length : Int)
           ·rw [if_pos c88] at H
            have c88b0 : decide (0 < (l2.length : Int)) = true := decide_eq_true c88; have c88b1 : decide (0 < l2.length) = true := decide_eq_true (by omega); clear c88; obtain ⟨t576, A89, H⟩ := zbi_ H; (try dsimp -simprocs only at H); obtain ⟨⟨t577, t578, t579⟩, A90, H⟩ := zbi_ H; (try dsimp -simprocs only at H); simp only [Option.some.injEq, Prod.mk.injEq] at H; obtain ⟨rfl, rfl, rfl, rfl, rfl⟩ := H; have p575 : 0 ≤ (0 : Int) := (by omega); have q575 : 0 < (l2.length : Int) := of_decide_eq_true d16_13; obtain ⟨ad575, e575, hx575_0, hx575_1, hx575_2⟩ := at_T29 (Kd.C_kept_now HR2.out HK.out) 0 p575 q575
            cases e575
            have qi575 : (0 < l2.length) = True := eq_true (by omega)
            (try rw [show ((0 : Int)).toNat = 0 from rfl] at hx575_0)
            (try rw [show 0 * 3 = 0 from rfl] at hx575_0)
            (try rw [Addr.add_zero'] at hx575_0)
            (try rw [show ((0 : Int)).toNat = 0 from rfl] at hx575_1)
            (try rw [show 0 * 3 = 0 from rfl] at hx575_1)
            (try rw [Addr.add_zero'] at hx575_1)
            (try rw [show ((0 : Int)).toNat = 0 from rfl] at hx575_2)
            (try rw [show 0 * 3 = 0 from rfl] at hx575_2)
            (try rw [Addr.add_zero'] at hx575_2)
            replace p575 := eq_true p575; replace q575 := eq_true q575
            go_wp2_with (first | (go_at_call 44; (with_reducible refine (spec_l6True.calls _ ((rd_T29 l2 0).f0) ((rd_T29 l2 0).f1) ((rd_T29 l2 0).f2) t576 _ ?side1 ?side2 ?side3 A89.out).mono ?_); (case side1 => first | exact hx575_0 | (refine Eq.trans ?_ hx575_0; simp only [go_sem])); (case side2 => first | exact hx575_1 | (refine Eq.trans ?_ hx575_1; simp only [go_sem])); (case side3 => first | exact hx575_2 | (refine Eq.trans ?_ hx575_2; simp only [go_sem])); rintro e w' ⟨rfl, ⟨nd, rfl⟩⟩; (try (rw [drewN_self wc]; generalize hq_ : World.drewN wc _ = wc; have n0_ : Aside0 (Kd.R k34 34 wc w0.heap.size (fun k_ => (P0_0_ k_ ∨ w.heap.size ≤ k_)) u9000_ l0_0) := ⟨by rw [← hq_]; exact d16_14⟩; have n1_ : Aside0 (wc.heap[g]? = some (.cells #[u9000_] 24 (0, 0))) := ⟨by rw [← hq_]; exact d16_4⟩; have n2_ : Aside0 (wc.heap[gb549]? = some (.cells #[.int .i64 0, .int .i64 0, .string (⟨#[]⟩ : ByteArray)] 29 (0, 0))) := ⟨by rw [← hq_]; exact d16_8⟩; have n3_ : Aside0 (Kept w wc (fun k_ => (P0_0_ k_) ∨ k_ = g)) := ⟨by rw [← hq_]; exact d16_3⟩; have n4_ : Aside0 (Below w0.heap.size w0 wc) := ⟨by rw [← hq_]; exact d16_5⟩; clear HO_1000 BK0 BK549 HK HB hq_; have HO_1000 := n0_; have BK0 := n1_; have BK549 := n2_; have HK := n3_; have HB := n4_; clear n0_ n1_ n2_ n3_ n4_))) | ((with_reducible refine gate_callee (f := 43) rfl ?_); refine zgo_ 108 Tryd.func43 #[.bool (!t576)] ?_ (e := d16_9); (with_reducible refine (spec_l6Bool.calls (!t576) t577 t578 t579 _ A90.out).mono ?_); rintro e w91 ⟨rfl, hb⟩; refine ⟨_, rfl, ?_⟩; replace HO_1000 := ak (Kd.R_below d16_14 hb); replace BK0 := zbb_ (g := g) hb d16_4; replace BK549 := zbb_ (g := gb549) hb d16_8; replace HK := ak (Kept.below (S := (fun k_ => (P0_0_ k_) ∨ k_ = g)) d16_3 hb); replace HB := ak (below_step d16_5 hb); (try clear hb); have hnb92 := NB549_0.out; have hnc92 := NB0_549.out; obtain ⟨hcz93_0, hcz93_1, hcz93_2, hfz93_0, hfz93_1, hfz93_2⟩ := zx3_ BK549.out))
            refine bodyPost_ret (results_ct rfl _ _ gb549 29 #[.int .i64 t577, .int .i64 t578, .string t579] (0, 0) _ rfl (by refine zpl_ ?_; refine zp3_ (.int .i64 0) (.int .i64 0) (.string (⟨#[]⟩ : ByteArray)) ?_; refine zpl_ ?_; exact BK549.out) Tryd.underlying29 rfl (by kernel_rfl)) rfl ?_; (try refine exists_and_left.mp ?_); exact ⟨_, c16_5, by (with_reducible repeat (first | apply Kd.R_alloc | apply Kd.R_drewN | apply Kd.R_drew)); exact Kd.R_mono (zrf3_ (g := gb549) (Kd.R_types HO_1000.out BK549.out (by decide)) (fun _ hk => hk.2)) (fun _ hk => hk.1), c16_1, c16_3, c16_2⟩
           ·rw [if_neg c88] at H
            exact absurd H (by simp)
          ·rw [if_neg c87] at H
           obtain ⟨c87b0, c87b1⟩ := zbf_ c87; by_cases c94 : a1 = 14
           ·rw [if_pos c94] at H
            obtain ⟨c94b0, c94b1⟩ := zbt_ c94; clear c94; obtain ⟨⟨t580, t581, t582, t583, t584⟩, A95, H⟩ := zbi_ H; (try dsimp -simprocs only at H); simp only [Option.some.injEq, Prod.mk.injEq] at H; obtain ⟨rfl, rfl, rfl, rfl, rfl⟩ := H; obtain ⟨Ao96, co96, eo96⟩ := Kd.R_slice HO_1000.out; subst eo96
            go_wp2_with (first | ((with_reducible refine gate_callee (f := 45) rfl ?_); refine zgo_ 113 Tryd.func45 #[.pointer (some ⟨g, 0, none⟩), .slice A2 l2.length c2] ?_ (e := d16_9); (with_reducible refine (spec_l6List.calls kj26 g (fun k_ => some k_ = (.slice Ao96 l0_0.length co96 : Value).ownBlock) (.slice Ao96 l0_0.length co96) l0_0 _ _ l2 t580 t581 t582 t583 t584 w0 _ ?side1 ?side2 ?side3 ?side4 ?side5 ?side6 A95.out).mono ?_); (case side1 => exact c16_3); (case side2 => refine zpl_ ?_; exact BK0.out); (case side3 => exact GE0.out); (case side4 => exact Kd.R_tight rfl HO_1000.out); (case side5 => exact Kd.C_kept_call HR2.out d16_3 (fun k_ hs_ => Or.elim hs_ (fun hs_ => (fun e_ => Or.imp_left Or.inl ((HO_1000.out.1 k_ e_.symm))) hs_) (fun e_ => .inl (.inr e_)))); (case side6 => exact HC2.out); rintro e w97 ⟨v585, rfl, ho0, hbx, hb, hkp⟩; refine ⟨_, rfl, ?_⟩; have HO586 := ak (Kd.R_mono (ok' := fun k_ => (P0_0_ k_ ∨ w.heap.size ≤ k_)) ho0 (fun k_ hk_ => Or.elim hk_ (fun hs_ => (HO_1000.out.1 k_ (hs_).symm)) (fun hn_ => (.inr (Nat.le_trans d16_15 hn_))))); replace BK0 := ak (hbx); replace BK549 := ak (blk_kept d16_8 hkp (fun hs_ => Or.elim hs_ (fun hs_ => (fun e_ => (Kd.R_ne HO_1000.out BK549.out (by decide)) e_) hs_) (fun e_ => NB549_0.out e_))); replace HK := ak (Kept.then_ (S := (fun k_ => (P0_0_ k_) ∨ k_ = g)) d16_3 hkp (fun k_ hs_ => Or.elim hs_ (fun hs_ => (fun e_ => Or.imp_left Or.inl ((HO_1000.out.1 k_ e_.symm))) hs_) (fun e_ => .inl (.inr e_)))); replace HB := ak (hb); clear HO_1000; (try clear hb); (try clear hkp); (try clear hbx); (try clear ho0); have hnb98 := NB549_0.out; have hnc98 := NB0_549.out; obtain ⟨hcz99_0, hcz99_1, hcz99_2, hfz99_0, hfz99_1, hfz99_2⟩ := zx3_ BK549.out))
            refine bodyPost_ret (results_ct rfl _ _ gb549 29 #[.int .i64 t580, .int .i64 t581, .string t582] (0, 0) _ rfl (by refine zpl_ ?_; refine zp3_ (.int .i64 0) (.int .i64 0) (.string (⟨#[]⟩ : ByteArray)) ?_; refine zpl_ ?_; exact BK549.out) Tryd.underlying29 rfl (by kernel_rfl)) rfl ?_; (try refine exists_and_left.mp ?_); exact ⟨_, c16_5, by (with_reducible repeat (first | apply Kd.R_alloc | apply Kd.R_drewN | apply Kd.R_drew)); exact Kd.R_mono (zrf3_ (g := gb549) (Kd.R_types HO586.out BK549.out (by decide)) (fun _ hk => hk.2)) (fun _ hk => hk.1), c16_1, c16_3, c16_2⟩
           ·rw [if_neg c94] at H
            obtain ⟨c94b0, c94b1⟩ := zbf_ c94; by_cases c100 : 0 < (l2.length : Int)
            ·rw [if_pos c100] at H
             have c100b0 : decide (0 < (l2.length : Int)) = true := decide_eq_true c100; have c100b1 : decide (0 < l2.length) = true := decide_eq_true (by omega); clear c100; by_cases c101 : 1 < (l2.length : Int)
             ·rw [if_pos c101] at H
              have c101b0 : decide (1 < (l2.length : Int)) = true := decide_eq_true c101; have c101b1 : decide (1 < l2.length) = true := decide_eq_true (by omega); clear c101; obtain ⟨⟨t589, t590, t591, t592⟩, A102, H⟩ := zbi_ H; (try dsimp -simprocs only at H); simp only [Option.some.injEq, Prod.mk.injEq] at H; obtain ⟨rfl, rfl, rfl, rfl, rfl⟩ := H
              try go_wp2
              have n0_ := ak (Kd.R_drew HO_1000.out); have n1_ := ak (blk_drew BK0.out); have n2_ := ak (blk_drew BK549.out); have n3_ := ak (Kept.drew HK.out); have n4_ := ak (below_drew1 HB.out); clear HO_1000; clear BK0; clear BK549; clear HK; clear HB; have HO_1000 := n0_; have BK0 := n1_; have BK549 := n2_; have HK := n3_; have HB := n4_; clear n0_ n1_ n2_ n3_ n4_; have p587 : 0 ≤ (0 : Int) := (by omega); have q587 : 0 < (l2.length : Int) := of_decide_eq_true d16_13; obtain ⟨ad587, e587, hx587_0, hx587_1, hx587_2⟩ := at_T29 (Kd.C_kept_now HR2.out HK.out) 0 p587 q587; have hw587_2 := hx587_2
              (try rw [show ((0 : Int)).toNat = 0 from rfl] at hw587_2)
              (try rw [show 0 * 3 = 0 from rfl] at hw587_2)
              (try rw [Addr.add_zero'] at hw587_2)
              have hw587_1 := hx587_1
              (try rw [show ((0 : Int)).toNat = 0 from rfl] at hw587_1)
              (try rw [show 0 * 3 = 0 from rfl] at hw587_1)
              (try rw [Addr.add_zero'] at hw587_1)
              have hw587_0 := hx587_0
              (try rw [show ((0 : Int)).toNat = 0 from rfl] at hw587_0)
              (try rw [show 0 * 3 = 0 from rfl] at hw587_0)
              (try rw [Addr.add_zero'] at hw587_0)
              cases e587
              have qi587 : (0 < l2.length) = True := eq_true (by omega)
              (try rw [show ((0 : Int)).toNat = 0 from rfl] at hx587_0)
              (try rw [show 0 * 3 = 0 from rfl] at hx587_0)
              (try rw [Addr.add_zero'] at hx587_0)
              (try rw [show ((0 : Int)).toNat = 0 from rfl] at hx587_1)
              (try rw [show 0 * 3 = 0 from rfl] at hx587_1)
              (try rw [Addr.add_zero'] at hx587_1)
              (try rw [show ((0 : Int)).toNat = 0 from rfl] at hx587_2)
              (try rw [show 0 * 3 = 0 from rfl] at hx587_2)
              (try rw [Addr.add_zero'] at hx587_2)
              replace p587 := eq_true p587; replace q587 := eq_true q587; have p588 : 0 ≤ (1 : Int) := (by omega); have q588 : 1 < (l2.length : Int) := of_decide_eq_true d16_13; obtain ⟨ad588, e588, hx588_0, hx588_1, hx588_2⟩ := at_T29 (Kd.C_kept_now HR2.out HK.out) 1 p588 q588; have hw588_2 := hx588_2
              (try rw [show ((1 : Int)).toNat = 1 from rfl] at hw588_2)
              (try rw [show 1 * 3 = 3 from rfl] at hw588_2)
              (try simp only [Nat.reduceMul, Nat.reduceEqDiff, Go.Addr.add, ↓reduceIte] at hw588_2)
              have hw588_1 := hx588_1
              (try rw [show ((1 : Int)).toNat = 1 from rfl] at hw588_1)
              (try rw [show 1 * 3 = 3 from rfl] at hw588_1)
              (try simp only [Nat.reduceMul, Nat.reduceEqDiff, Go.Addr.add, ↓reduceIte] at hw588_1)
              have hw588_0 := hx588_0
              (try rw [show ((1 : Int)).toNat = 1 from rfl] at hw588_0)
              (try rw [show 1 * 3 = 3 from rfl] at hw588_0)
              (try simp only [Nat.reduceMul, Nat.reduceEqDiff, Go.Addr.add, ↓reduceIte] at hw588_0)
              obtain rfl : ad587 = ad588 := (by injection e588)
              (try simp only [show (1 : Int).toNat = 1 from rfl, Nat.reduceMul, Nat.reduceEqDiff, Go.Addr.add, ↓reduceIte] at hx588_0)
              (try simp only [show (1 : Int).toNat = 1 from rfl, Nat.reduceMul, Nat.reduceEqDiff, Go.Addr.add, ↓reduceIte] at hx588_1)
              (try simp only [show (1 : Int).toNat = 1 from rfl, Nat.reduceMul, Nat.reduceEqDiff, Go.Addr.add, ↓reduceIte] at hx588_2)
              have qi588 : (1 < l2.length) = True := eq_true (by omega)
              (try rw [show ((1 : Int)).toNat = 1 from rfl] at hx588_0)
              (try rw [show 1 * 3 = 3 from rfl] at hx588_0)
              (try rw [show ((1 : Int)).toNat = 1 from rfl] at hx588_1)
              (try rw [show 1 * 3 = 3 from rfl] at hx588_1)
              (try rw [show ((1 : Int)).toNat = 1 from rfl] at hx588_2)
              (try rw [show 1 * 3 = 3 from rfl] at hx588_2)
              replace p588 := eq_true p588; replace q588 := eq_true q588; refine start_ (n := 10) (S := fun w' => w'.cell? ad587 = some (.int .i64 ((rd_T29 l2 0).f0)) ∧ w'.cell? ⟨ad587.block, ad587.off + 1, none⟩ = some (.int .i64 ((rd_T29 l2 0).f1)) ∧ w'.cell? ⟨ad587.block, ad587.off + 2, none⟩ = some (.string ((rd_T29 l2 0).f2)) ∧ w'.cell? ⟨ad587.block, ad587.off + 3, none⟩ = some (.int .i64 ((rd_T29 l2 1).f0)) ∧ w'.cell? ⟨ad587.block, ad587.off + 3 + 1, none⟩ = some (.int .i64 ((rd_T29 l2 1).f1)) ∧ w'.cell? ⟨ad587.block, ad587.off + 3 + 2, none⟩ = some (.string ((rd_T29 l2 1).f2))) (ds := []) #[false, false, false, false, false, false, false, false, false, false] (by kernel_rfl) rfl rfl (za3_ (foot_ex (at_T29 (HR2.out _ d16_2) (0 : Int) (of_eq_true p587) (of_eq_true q587))) ((foot_ex (at_T29 (HR2.out _ d16_2) (1 : Int) (of_eq_true p588) (of_eq_true q588))))) (fun hHeld => ?_); refine with_tabW spec_l6Do.tab28 spec_l6Do.bits28 (fun HT_ HW_ => ?_); generalize wc.drew = w103 at HO_1000 BK0 BK549 HK HB hx587_0 hx587_1 hx587_2 hx588_0 hx588_1 hx588_2 hHeld ⊢
              refine pu5_ 0 116 (ab5_ 10 1) HT_ ?_; refine pu5_ 1 117 (ab5_ 10 3) HT_ ?_; refine pu5_ 2 118 (ab5_ 10 7) HT_ ?_; refine pu5_ 3 119 (ab5_ 10 15) HT_ ?_; refine pu5_ 4 120 (ab5_ 10 31) HT_ ?_; refine one_ (i := 5) (N := some 121) #[true, true, true, true, true, true, false, false, false, false] rfl rfl (one_of HT_.out (by kernel_rfl)) (by decide) (fun K hK => ?_); refine goes_ Tryd.func46 (by kernel_rfl) rfl #[.int .i64 a1, .pointer (some ad587), .pointer (some (ad587.add 3))] (by rfl) rfl rfl d16_9 ?_; (with_reducible refine (spec_l6Num.calls kj26 a1 _ ((rd_T29 l2 0).f0) ((rd_T29 l2 0).f1) ((rd_T29 l2 0).f2) _ ((rd_T29 l2 1).f0) ((rd_T29 l2 1).f1) ((rd_T29 l2 1).f2) t589 t590 t591 t592 _ ?side1 ?side2 ?side3 ?side4 ?side5 ?side6 A102.out).mono ?_)
              (case side1 => first | exact hx587_0 | (refine Eq.trans ?_ hx587_0; simp only [go_sem]))
              (case side2 => first | exact hx587_1 | (refine Eq.trans ?_ hx587_1; simp only [go_sem]))
              (case side3 => first | exact hx587_2 | (refine Eq.trans ?_ hx587_2; simp only [go_sem]))
              (case side4 => first | exact hx588_0 | (refine Eq.trans ?_ hx588_0; simp only [go_sem]))
              (case side5 => first | exact hx588_1 | (refine Eq.trans ?_ hx588_1; simp only [go_sem]))
              (case side6 => first | exact hx588_2 | (refine Eq.trans ?_ hx588_2; simp only [go_sem]))
              rintro e w104 ⟨rfl, hb⟩; refine ⟨_, rfl, ?_⟩; have n0_ := ak (Kd.R_below d16_14 hb); have n1_ := zbb_ (g := g) hb d16_4; have n2_ := zbb_ (g := gb549) hb d16_8; have n3_ := ak (Kept.below (S := (fun k_ => (P0_0_ k_) ∨ k_ = g)) d16_3 hb); have n4_ := ak (below_step d16_5 hb); clear HO_1000; clear BK0; clear BK549; clear HK; clear HB; have HO_1000 := n0_; have BK0 := n1_; have BK549 := n2_; have HK := n3_; have HB := n4_; clear n0_ n1_ n2_ n3_ n4_
              (try clear hb)
              (try clear hb2)
              (try clear hk)
              (try clear hi)
              refine hK.out _ _ (za3_ (foot_ex (at_T29 (HR2.out _ d16_2) (0 : Int) (of_eq_true p587) (of_eq_true q587))) ((foot_ex (at_T29 (HR2.out _ d16_2) (1 : Int) (of_eq_true p588) (of_eq_true q588))))) (fun hHeld => ?_); clear hK K; refine no5_ 121 ?_; refine pu5_ 6 122 (ab5_ 10 127) HT_ ?_; refine pu5_ 7 123 (ab5_ 10 255) HT_ ?_
              refine one_ (i := 8) (N := none) #[true, true, true, true, true, true, true, true, true, false] rfl rfl (one_of HT_.out (by kernel_rfl)) (by decide) (fun K hK => ?_); have hs105 : w104.cell? ⟨gb549, 0, none⟩ = some (.int .i64 0) := (blk_cell BK549.out 0).trans rfl; have hfs105 := z16f BK549.out 0; have hns105_0 := NB0_549.out; have hms105_0 := NB549_0.out; have hs106 : w104.cell? ⟨gb549, 1, none⟩ = some (.int .i64 0) := (blk_cell BK549.out 1).trans rfl; have hfs106 := z16f BK549.out 1; have hns106_0 := NB0_549.out; have hms106_0 := NB549_0.out; have hs107 : w104.cell? ⟨gb549, 2, none⟩ = some (.string (⟨#[]⟩ : ByteArray)) := (blk_cell BK549.out 2).trans rfl; have hfs107 := z16f BK549.out 2; have hns107_0 := NB0_549.out; have hms107_0 := NB549_0.out; refine skip_ (w1 := ?_) (by rfl) rfl ?_ ?_; rotate_left
              · go_simp
                rfl
              refine hK.out _ _ (za3_ (foot_ex (at_T29 (HR2.out _ d16_2) (0 : Int) (of_eq_true p587) (of_eq_true q587))) ((foot_ex (at_T29 (HR2.out _ d16_2) (1 : Int) (of_eq_true p588) (of_eq_true q588))))) (fun hHeld => ?_); clear hK K; refine pu5_ 9 7 (ab5_ 10 1023) HT_ ?_; refine done_ (done_of HT_.out (by kernel_rfl)) ?_
              try go_wp2
              refine bodyPost_ret (results_ct rfl _ _ gb549 29 #[.int .i64 t589, .int .i64 t590, .string t591] (0, 0) _ rfl (by refine zpl_ ?_; refine zp3_ (.int .i64 0) (.int .i64 0) (.string (⟨#[]⟩ : ByteArray)) ?_; refine zpl_ ?_; exact BK549.out) Tryd.underlying29 rfl (by kernel_rfl)) rfl ?_; (try refine exists_and_left.mp ?_); exact ⟨_, c16_5, by (with_reducible repeat (first | apply Kd.R_alloc | apply Kd.R_drewN | apply Kd.R_drew)); exact Kd.R_mono (zrf3_ (g := gb549) (Kd.R_types HO_1000.out BK549.out (by decide)) (fun _ hk => hk.2)) (fun _ hk => hk.1), c16_1, c16_3, c16_2⟩
             ·rw [if_neg c101] at H
              exact absurd H (by simp)
            ·rw [if_neg c100] at H
             exact absurd H (by simp)
  ·replace c6 := Bool.eq_false_iff.mpr c6
   subst c6; rw [if_neg (show ¬ (false = true) by decide)] at H; simp only [Option.some.injEq, Prod.mk.injEq] at H; obtain ⟨rfl, rfl, rfl, rfl, rfl⟩ := H; go_enter Tryd.func28, Tryd.ntmps28
   go_wp2_with (first | ((with_reducible refine gate_dst (N := 6) rfl ?_); refine box_event ?hg (N := 6) ?hd (cs := #[.int .i64 0, .int .i64 0, .string (⟨#[]⟩ : ByteArray)]) (t := 29) ?hr ?_; (case hd => rfl); (case hg => rfl); (case hr => first | (go_simp; done) | (go_simp; rfl)); intro gb549 hg w108 hbox hb; have BK549 := ak (hbox); have GW549 := ak ((d16_12 : w.heap.size ≤ gb549)); have GE549 := ak ((by rw [hg]; exact (below_size d16_10) : w0.heap.size ≤ gb549)); obtain ⟨NB0_549, NB549_0⟩ := zne_ (g := g) hg d16_4; replace HO0_0 := ak (Kd.R_below d16_11 hb); replace BK0 := zbb_ (g := g) hb d16_4; replace HK := ak (Kept.below (S := (fun k_ => (P0_0_ k_) ∨ k_ = g)) d16_16 hb); replace HB := ak (below_step d16_10 hb); clear hb hbox hg) | ((with_reducible refine gate_callee (f := 14) rfl ?_); refine zgo_ 13 Tryd.func14 #[.int .i64 a1] ?_ (e := d16_9); (with_reducible refine (spec_l6Takes.calls k a1 t550 t551 _ A4.out).mono ?_); rintro e w' ⟨rfl, ⟨nd, rfl⟩⟩; refine ⟨_, rfl, ?_⟩; (try (rw [drewN_self w108]; generalize hq_ : World.drewN w108 _ = w108; have n0_ : Aside0 (Kd.R k34 34 w108 w0.heap.size (fun k_ => (P0_0_ k_ ∨ w.heap.size ≤ k_)) u9000_ l0_0) := ⟨by rw [← hq_]; exact d16_11⟩; have n1_ : Aside0 (w108.heap[g]? = some (.cells #[u9000_] 24 (0, 0))) := ⟨by rw [← hq_]; exact d16_4⟩; have n2_ : Aside0 (w108.heap[gb549]? = some (.cells #[.int .i64 0, .int .i64 0, .string (⟨#[]⟩ : ByteArray)] 29 (0, 0))) := ⟨by rw [← hq_]; exact d16_8⟩; have n3_ : Aside0 (Kept w w108 (fun k_ => (P0_0_ k_) ∨ k_ = g)) := ⟨by rw [← hq_]; exact d16_3⟩; have n4_ : Aside0 (Below w0.heap.size w0 w108) := ⟨by rw [← hq_]; exact d16_5⟩; clear HO0_0 BK0 BK549 HK HB hq_; have HO0_0 := n0_; have BK0 := n1_; have BK549 := n2_; have HK := n3_; have HB := n4_; clear n0_ n1_ n2_ n3_ n4_))) | ((with_reducible refine gate_callee (f := 42) rfl ?_); refine zgo_ 20 Tryd.func42 #[.int .i64 (l2.length : Int), .int .i64 t550, .int .i64 t551] ?_ (e := d16_9); (with_reducible refine (spec_l1In.calls (l2.length : Int) t550 t551 false _ A5.out).mono ?_); rintro e w' ⟨rfl, ⟨nd, rfl⟩⟩; refine ⟨_, rfl, ?_⟩; (try (rw [drewN_self w108]; generalize hq_ : World.drewN w108 _ = w108; have n0_ : Aside0 (Kd.R k34 34 w108 w0.heap.size (fun k_ => (P0_0_ k_ ∨ w.heap.size ≤ k_)) u9000_ l0_0) := ⟨by rw [← hq_]; exact d16_11⟩; have n1_ : Aside0 (w108.heap[g]? = some (.cells #[u9000_] 24 (0, 0))) := ⟨by rw [← hq_]; exact d16_4⟩; have n2_ : Aside0 (w108.heap[gb549]? = some (.cells #[.int .i64 0, .int .i64 0, .string (⟨#[]⟩ : ByteArray)] 29 (0, 0))) := ⟨by rw [← hq_]; exact d16_8⟩; have n3_ : Aside0 (Kept w w108 (fun k_ => (P0_0_ k_) ∨ k_ = g)) := ⟨by rw [← hq_]; exact d16_3⟩; have n4_ : Aside0 (Below w0.heap.size w0 w108) := ⟨by rw [← hq_]; exact d16_5⟩; clear HO0_0 BK0 BK549 HK HB hq_; have HO0_0 := n0_; have BK0 := n1_; have BK549 := n2_; have HK := n3_; have HB := n4_; clear n0_ n1_ n2_ n3_ n4_)); have hnb109 := NB549_0.out; have hnc109 := NB0_549.out; obtain ⟨hcz110_0, hcz110_1, hcz110_2, hfz110_0, hfz110_1, hfz110_2⟩ := zx3_ BK549.out))
   refine bodyPost_ret (results_ct rfl _ _ gb549 29 #[.int .i64 0, .int .i64 0, .string (⟨#[]⟩ : ByteArray)] (0, 0) _ rfl (by refine zpl_ ?_; refine zp3_ (.int .i64 0) (.int .i64 0) (.string (⟨#[]⟩ : ByteArray)) ?_; refine zpl_ ?_; exact BK549.out) Tryd.underlying29 rfl (by kernel_rfl)) rfl ?_; (try refine exists_and_left.mp ?_); exact ⟨_, c16_5, by (with_reducible repeat (first | apply Kd.R_alloc | apply Kd.R_drewN | apply Kd.R_drew)); exact Kd.R_mono (zrf3_ (g := gb549) (Kd.R_types HO0_0.out BK549.out (by decide)) (fun _ hk => hk.2)) (fun _ hk => hk.1), c16_1, c16_3, c16_2⟩

end Go.Proofs.YtolhanigjmhkgacDoor.A
