/- Walks of the program's functions: each Go function's answer as a plain Lean function, and that the call comes to it. Written by a program. Conditions: those in each theorem's own head. -/
import Derived.Test.YtolhanigjmhkgadDoorA0
import Derived.Test.YtolhanigjmhkgadDoorA8
namespace Go.Proofs.YtolhanigjmhkgadDoor.A
open Go.RowKit Go.Proofs.YtolhanigjmhkgadDoorW.PrintWords Go.Proofs.YtolhanigjmhkgadDoorW.PrintLast Go.Proofs.YtolhanigjmhkgadDoorW.PrintMore
attribute [local go_sem] max2_int min2_int max_two min_two max_three min_three max_four min_four   -- for this text's walks alone
set_option linter.unusedVariables false
set_option linter.unusedSimpArgs false

theorem b10N {w : World} {g : Nat} {o : Obj} (h : w.heap[g]? = some o) (n : Nat) : (w.drewN n).heap[g]? = some o := h
theorem b10D {w : World} {g : Nat} {o : Obj} (h : w.heap[g]? = some o) : (w.drew).heap[g]? = some o := h
theorem b10L {w : World} {g : Nat} {o : Obj} (h : w.heap[g]? = some o) (o' : Obj) : (w.alloc o').heap[g]? = some o := blk_alloc h o'
theorem d10_1 {p : Prop} (h : p := by repeat (first | (with_reducible first | exact HB.out | apply below_alloc | apply pw_below_drewN | apply below_drew1) | exact HB.out)) : p := h
theorem d10_2 {p : Prop} (h : p := by (try simp only [List.map_toArray, List.map_cons, List.map_nil]); first | done | rfl | (simp only [List.length_drop, List.length_take]; rfl)) : p := h
theorem d10_3 {p : Prop} (h : p := by repeat (first | (with_reducible first | exact HB.out | apply below_alloc | apply pw_below_drewN | apply below_drew1 | refine below_set ?_ GE348.out) | exact HB.out)) : p := h
theorem d10_4 {p : Prop} (h : p := by repeat (first | (with_reducible first | exact HB.out | apply below_alloc | apply pw_below_drewN | apply below_drew1 | refine below_set ?_ GE361.out) | exact HB.out)) : p := h
theorem d10_5 {p : Prop} (h : p := by repeat (first | (with_reducible first | exact HB.out | apply below_alloc | apply pw_below_drewN | apply below_drew1 | refine below_set ?_ GE374.out) | exact HB.out)) : p := h
theorem d10_6 {p : Prop} (h : p := by first | rfl | (simp; done) | (simp [*]; done) | (simp [ne_nil_b, eq_nil_b]; done)) : p := h
theorem d10_7 {p : Prop} (h : p := by (with_reducible repeat first | apply b10N | apply b10D | apply b10L); exact BK348.out) : p := h
theorem d10_8 {p : Prop} (h : p := by (with_reducible repeat first | apply b10N | apply b10D | apply b10L); exact BK361.out) : p := h
theorem d10_9 {p : Prop} (h : p := by (with_reducible repeat first | apply b10N | apply b10D | apply b10L); exact BK374.out) : p := h
theorem d10_10 {p : Prop} (h : p := by rw [hg]; exact (below_size d10_1)) : p := h
theorem c10_1 {p : Prop} (h : p := by first | rfl | (simp [errW_none, errW_some] <;> rfl) | (simp [*, errW_none, errW_some] <;> rfl)) : p := h
theorem c10_2 {p : Prop} (h : p := by repeat (first | (with_reducible first | exact HB.out | apply below_alloc | apply pw_below_drewN | apply below_drew1 | refine below_set ?_ GE348.out) | exact HB.out)) : p := h
theorem c10_3 {p : Prop} (h : p := by repeat (first | (with_reducible first | exact HB.out | apply below_alloc | apply pw_below_drewN | apply below_drew1 | refine below_set ?_ GE361.out) | exact HB.out)) : p := h
theorem c10_4 {p : Prop} (h : p := by repeat (first | (with_reducible first | exact HB.out | apply below_alloc | apply pw_below_drewN | apply below_drew1 | refine below_set ?_ GE374.out) | exact HB.out)) : p := h
theorem c10_5 {p : Prop} (h : p := by first | rfl | (simp; done) | (simp [*]; done) | (simp [ne_nil_b, eq_nil_b]; done)) : p := h
theorem c10_6 {p : Prop} (h : p := by repeat (first | exact Drawn0.refl _ | apply Drawn0.step)) : p := h
set_option maxHeartbeats 8000000
set_option maxRecDepth 100000
theorem z10c {w : World} {g : Nat} {t : TypeId} {cs : Array Value} (h : w.heap[g]? = some (.cells cs t (0, 0))) (i : Nat) {v : Value} (e : cs[i]? = some v) : w.cell? ⟨g, i, none⟩ = some v := (blk_cell h i).trans e
theorem z10f {w : World} {g : Nat} {t : TypeId} {cs : Array Value} (h : w.heap[g]? = some (.cells cs t (0, 0))) (i : Nat) : w.frozen? ⟨g, i, none⟩ = false := blk_frozen h i
theorem zm10_0 {p : Prop} (h : p := by repeat' first | (with_reducible first | apply ih0 | exact LeO.refl _ | exact LeO.none _ | refine LeO.ite ?_ ?_ | refine LeO.bind ?_ (fun _ => ?_)) | apply ih0 | exact LeO.none _ | refine LeO.ite ?_ ?_ | refine LeO.bind ?_ (fun _ => ?_)) : p := h

/-! ### impl_argsFor: function 46 -/
def impl_argsFor.j0 : Nat → Int → Bool → Option (Int × Int)
  | 0, _, _ => none
  | k + 1, x0, x4 => if x4 = true then (some (2, 2)) else (if x0 = 14 then (some (0, 3)) else (some (1, 1)))
def impl_argsFor.f (k : Nat) (a0 : Int) : Option (Int × Int) := if a0 ≤ 7 then (impl_argsFor.j0 k a0 true) else (impl_argsFor.j0 k a0 (a0 == 12))
theorem impl_argsFor.mono_l : ∀ k, (∀ y0 y1, LeO (impl_argsFor.j0 k y0 y1) (impl_argsFor.j0 (k + 1) y0 y1))
  | 0 => fun _ _ r h => by simp [impl_argsFor.j0] at h
  | k + 1 => by
    have ih0 := impl_argsFor.mono_l k
    · intro y0 y1
      unfold impl_argsFor.j0
      exact zm10_0
theorem impl_argsFor.mono : ∀ a0 k, LeO (impl_argsFor.f k a0) (impl_argsFor.f (k + 1) a0) := by
  intro a0 k; have ih0 := impl_argsFor.mono_l k; unfold impl_argsFor.f
  exact zm10_0
theorem impl_argsFor.calls (k : Nat) (a0 : Int) (r1 : Int) (r2 : Int) (w : World) (h : impl_argsFor.f k a0 = some (r1, r2)) :
    Calls Tryd.prog 46 #[.int .i64 a0] w fun e w' => e = .returned (.tuple #[.int .i64 r1, .int .i64 r2]) ∧ Drawn0 w w' := by
  have H := h; clear h; unfold impl_argsFor.f at H; have HC2 := ak H; clear H; go_enter Tryd.func46, Tryd.ntmps46; go_upto_region 1 with (fail); go_cut [4] (fun v4 wc => ∃ (kq : Nat) (x4_1 : Bool), v4 = .bool x4_1 ∧ Aside0 (impl_argsFor.j0 kq a0 x4_1 = some (r1, r2)) ∧ Aside0 (kq ≤ k) ∧ Drawn0 w wc)
  case first =>
   have H := HC2.out; clear HC2; by_cases c3 : a0 ≤ 7
   ·rw [if_pos c3] at H
    have c3b0 : decide (a0 ≤ 7) = true := decide_eq_true c3; clear c3
    (first | rw [c3b0] | (simp only [i64_w, i32_w]; rw [c3b0]) | skip)
    have H' := ak H; clear H; go_wp2; go_meet
    case rel => exact ⟨_, (true), d10_6, H', ⟨by first | exact Nat.le_refl _ | omega⟩, c10_6⟩
   ·rw [if_neg c3] at H
    have c3b0 : decide (a0 ≤ 7) = false := decide_eq_false c3; clear c3
    (first | rw [c3b0] | (simp only [i64_w, i32_w]; rw [c3b0]) | skip)
    have H' := ak H; clear H; go_wp2; go_meet
    case rel => exact ⟨_, ((a0 == 12)), d10_6, H', ⟨by first | exact Nat.le_refl _ | omega⟩, c10_6⟩
  case rest =>
   clear HC2; obtain ⟨kq, x4_1, rfl, HA, HJ1, ⟨mc1, rfl⟩⟩ := hcut
   cases kq with
   | zero => exact absurd HA.out (by simp [impl_argsFor.j0])
   | succ kj1 =>
    have H := HA.out; clear HA; simp only [impl_argsFor.j0] at H; by_cases c4 : x4_1 = true
    ·subst c4
     rw [if_pos rfl] at H; simp only [Option.some.injEq, Prod.mk.injEq] at H; obtain ⟨rfl, rfl⟩ := H; go_wp2; go_ret2; exact ⟨c10_5, c10_6⟩
    ·replace c4 := Bool.eq_false_iff.mpr c4
     subst c4; rw [if_neg (show ¬ (false = true) by decide)] at H; by_cases c5 : a0 = 14
     ·rw [if_pos c5] at H
      obtain ⟨c5b0, c5b1⟩ := zbt_ c5; clear c5; simp only [Option.some.injEq, Prod.mk.injEq] at H; obtain ⟨rfl, rfl⟩ := H; go_wp2; go_ret2; exact ⟨c10_5, c10_6⟩
     ·rw [if_neg c5] at H
      obtain ⟨c5b0, c5b1⟩ := zbf_ c5; simp only [Option.some.injEq, Prod.mk.injEq] at H; obtain ⟨rfl, rfl⟩ := H; go_wp2; go_ret2; exact ⟨c10_5, c10_6⟩

/-! ### impl_boolValue: function 50 -/
def impl_boolValue.f (a0 : Bool) : Option (Int × Int × ByteArray) := if a0 = true then (some (2, 1, (⟨#[]⟩ : ByteArray))) else (some (2, 0, (⟨#[]⟩ : ByteArray)))
theorem impl_boolValue.calls (a0 : Bool) (r1 : Int) (r2 : Int) (r3 : ByteArray) (w : World) (h : impl_boolValue.f a0 = some (r1, r2, r3)) :
    Calls Tryd.prog 50 #[.bool a0] w fun e w' => e = .returned (.agg #[.int .i64 r1, .int .i64 r2, .string r3]) ∧ Below w.heap.size w w' := by
  have hu28 := Tryd.underlying28; have HB := ak (Below.refl w.heap.size w); have H := h; clear h; unfold impl_boolValue.f at H; by_cases c2 : a0 = true
  ·subst c2
   rw [if_pos rfl] at H; simp only [Option.some.injEq, Prod.mk.injEq] at H; obtain ⟨rfl, rfl, rfl⟩ := H; go_enter Tryd.func50, Tryd.ntmps50; go_wp2_with (first | ((with_reducible refine gate_dst (N := 2) rfl ?_); refine box_event ?hg (N := 2) ?hd (cs := #[.int .i64 0, .int .i64 0, .string (⟨#[]⟩ : ByteArray)]) (t := 28) ?hr ?_; (case hd => rfl); (case hg => rfl); (case hr => first | (go_simp; done) | (go_simp; rfl)); intro gb343 hg w3 hbox hb; have BK343 := ak (hbox); have GW343 := ak ((d10_10 : w.heap.size ≤ gb343)); have GE343 := ak ((d10_10 : w.heap.size ≤ gb343)); replace HB := ak (below_step d10_1 hb); clear hb hbox hg; obtain ⟨hcz4_0, hcz4_1, hcz4_2, hfz4_0, hfz4_1, hfz4_2⟩ := zx3_ BK343.out))
   refine bodyPost_ret (results_cell_row rfl _ _ gb343 28 #[.int .i64 2, .int .i64 1, .string (⟨#[]⟩ : ByteArray)] (0, 0) _ rfl (by (with_reducible repeat first | apply b10N | apply b10D | apply b10L); refine zp3_ (.int .i64 0) (.int .i64 0) (.string (⟨#[]⟩ : ByteArray)) ?_; (with_reducible repeat first | apply b10N | apply b10D | apply b10L); exact BK343.out) Tryd.underlying28 rfl (by kernel_rfl)) rfl ?_; exact ⟨c10_1, by repeat (first | (with_reducible first | exact HB.out | apply below_alloc | apply pw_below_drewN | apply below_drew1 | refine below_set ?_ GE343.out) | exact HB.out)⟩
  ·replace c2 := Bool.eq_false_iff.mpr c2
   subst c2; rw [if_neg (show ¬ (false = true) by decide)] at H; simp only [Option.some.injEq, Prod.mk.injEq] at H; obtain ⟨rfl, rfl, rfl⟩ := H; go_enter Tryd.func50, Tryd.ntmps50; go_wp2_with (first | ((with_reducible refine gate_dst (N := 2) rfl ?_); refine box_event ?hg (N := 2) ?hd (cs := #[.int .i64 0, .int .i64 0, .string (⟨#[]⟩ : ByteArray)]) (t := 28) ?hr ?_; (case hd => rfl); (case hg => rfl); (case hr => first | (go_simp; done) | (go_simp; rfl)); intro gb343 hg w5 hbox hb; have BK343 := ak (hbox); have GW343 := ak ((d10_10 : w.heap.size ≤ gb343)); have GE343 := ak ((d10_10 : w.heap.size ≤ gb343)); replace HB := ak (below_step d10_1 hb); clear hb hbox hg; obtain ⟨hcz6_0, hcz6_1, hcz6_2, hfz6_0, hfz6_1, hfz6_2⟩ := zx3_ BK343.out))
   refine bodyPost_ret (results_cell_row rfl _ _ gb343 28 #[.int .i64 2, .int .i64 0, .string (⟨#[]⟩ : ByteArray)] (0, 0) _ rfl (by (with_reducible repeat first | apply b10N | apply b10D | apply b10L); refine zp3_ (.int .i64 0) (.int .i64 0) (.string (⟨#[]⟩ : ByteArray)) ?_; (with_reducible repeat first | apply b10N | apply b10D | apply b10L); exact BK343.out) Tryd.underlying28 rfl (by kernel_rfl)) rfl ?_; exact ⟨c10_1, by repeat (first | (with_reducible first | exact HB.out | apply below_alloc | apply pw_below_drewN | apply below_drew1 | refine below_set ?_ GE343.out) | exact HB.out)⟩

/-! ### impl_AddNum_1: function 75 -/
def impl_AddNum_1.f (a0 : Int) (a1 : Int) : Option (Int × Bool) := some (wrap64 (a0 + a1), true)
theorem impl_AddNum_1.calls (a0 : Int) (a1 : Int) (r1 : Int) (r2 : Bool) (w : World) (h : impl_AddNum_1.f a0 a1 = some (r1, r2)) :
    Calls Tryd.prog 75 #[.int .i64 a0, .int .i64 a1] w fun e w' => e = .returned (.tuple #[.int .i64 r1, .bool r2]) ∧ Drawn0 w w' := by
  have H := h; clear h; unfold impl_AddNum_1.f at H; simp only [Option.some.injEq, Prod.mk.injEq] at H; obtain ⟨rfl, rfl⟩ := H; go_enter Tryd.func75, Tryd.ntmps75; go_wp2; go_ret2; exact ⟨c10_5, c10_6⟩

/-! ### impl_calculated__impl_AddNum_1: function 74 -/
def impl_calculated__impl_AddNum_1.j0 : Nat → Int → Int → Bool → Option (Int × Int)
  | 0, _, _, _ => none
  | k + 1, x0, x1, x16 => if x16 = true then (some (3, 0)) else ((impl_AddNum_1.f x0 x1).bind fun bt351 => (if bt351.2 = true then ((impl_NumFault.f bt351.1).bind fun t353 => (if t353 = 0 then (some (0, bt351.1)) else (some (7, 0)))) else (some (7, 0))))
def impl_calculated__impl_AddNum_1.f (k : Nat) (a0 : Int) (a1 : Int)  : Option (Int × Int) := (impl_NumFault.f a0).bind fun t349 => (if t349 = 0 then ((impl_NumFault.f a1).bind fun t350 => (impl_calculated__impl_AddNum_1.j0 k a0 a1 (t350 != 0))) else (impl_calculated__impl_AddNum_1.j0 k a0 a1 true))
theorem impl_calculated__impl_AddNum_1.mono_l : ∀ k, (∀ y0 y1 y2, LeO (impl_calculated__impl_AddNum_1.j0 k y0 y1 y2) (impl_calculated__impl_AddNum_1.j0 (k + 1) y0 y1 y2))
  | 0 => fun _ _ _ r h => by simp [impl_calculated__impl_AddNum_1.j0] at h
  | k + 1 => by
    have ih0 := impl_calculated__impl_AddNum_1.mono_l k
    · intro y0 y1 y2
      unfold impl_calculated__impl_AddNum_1.j0
      exact zm10_0
theorem impl_calculated__impl_AddNum_1.mono : ∀ a0 a1 k, LeO (impl_calculated__impl_AddNum_1.f k a0 a1) (impl_calculated__impl_AddNum_1.f (k + 1) a0 a1) := by
  intro a0 a1 k; have ih0 := impl_calculated__impl_AddNum_1.mono_l k; unfold impl_calculated__impl_AddNum_1.f
  exact zm10_0
theorem impl_calculated__impl_AddNum_1.calls (k : Nat) (a0 : Int) (a1 : Int)  (r1 : Int) (r2 : Int) (w : World) (h : impl_calculated__impl_AddNum_1.f k a0 a1 = some (r1, r2)) :
    Calls Tryd.prog 74 #[.int .i64 a0, .int .i64 a1, .func (.func 75) #[] #[]] w fun e w' => e = .returned (.agg #[.int .i64 r1, .int .i64 r2]) ∧ Below w.heap.size w w' := by
  have hu88 := Tryd.underlying88; have HB := ak (Below.refl w.heap.size w); have H := h; clear h; unfold impl_calculated__impl_AddNum_1.f at H; have HC4 := ak H; clear H; go_enter Tryd.func74, Tryd.ntmps74; go_upto_region 1 with (first | ((with_reducible refine gate_dst (N := 6) rfl ?_); refine box_event ?hg (N := 6) ?hd (cs := #[.int .i64 0, .int .i64 0]) (t := 88) ?hr ?_; (case hd => rfl); (case hg => rfl); (case hr => first | (go_simp; done) | (go_simp; rfl)); intro gb348 hg w5 hbox hb; have BK348 := ak (hbox); have GW348 := ak ((d10_10 : w.heap.size ≤ gb348)); have GE348 := ak ((d10_10 : w.heap.size ≤ gb348)); replace HB := ak (below_step d10_1 hb); clear hb hbox hg))
  (try simp only [Act.put, List.setIfInBounds_toArray, List.set_cons_zero, List.set_cons_succ])
  go_cut [16] (fun v16 wc => ∃ (kq : Nat) (x16_3 : Bool), v16 = .bool x16_3 ∧ Aside0 (impl_calculated__impl_AddNum_1.j0 kq a0 a1 x16_3 = some (r1, r2)) ∧ Aside0 (kq ≤ k) ∧ Aside0 (wc.heap[gb348]? = some (.cells #[.int .i64 0, .int .i64 0] 88 (0, 0))) ∧ Aside0 (Below w.heap.size w wc))
  case first =>
   have H := HC4.out; clear HC4; obtain ⟨t349, A6, H⟩ := zbi_ H; (try dsimp -simprocs only at H); by_cases c7 : t349 = 0
   ·rw [if_pos c7] at H
    obtain ⟨c7b0, c7b1⟩ := zbt_ c7; clear c7
    (first | rw [c7b0] | (simp only [i64_w, i32_w]; rw [c7b0]) | skip)
    obtain ⟨t350, A8, H⟩ := zbi_ H; (try dsimp -simprocs only at H); have H' := ak H; clear H; go_wp2_with (first | ((with_reducible refine gate_callee (f := 72) rfl ?_); refine zgo_ 10 Tryd.func72 #[.int .i64 a0] ?_ (e := d10_2); (with_reducible refine (impl_NumFault.calls a0 t349 _ A6.out).mono ?_); rintro e w' ⟨rfl, ⟨nd, rfl⟩⟩; refine ⟨_, rfl, ?_⟩) | (go_at_call 72; (with_reducible refine (impl_NumFault.calls a1 t350 _ A8.out).mono ?_); rintro e w' ⟨rfl, ⟨nd, rfl⟩⟩)); go_meet
    case rel => exact ⟨_, ((t350 != 0)), d10_6, H', ⟨by first | exact Nat.le_refl _ | omega⟩, ⟨by (with_reducible repeat first | apply b10N | apply b10D | apply b10L); exact BK348.out⟩, ⟨c10_2⟩⟩
   ·rw [if_neg c7] at H
    obtain ⟨c7b0, c7b1⟩ := zbf_ c7
    (first | rw [c7b0] | (simp only [i64_w, i32_w]; rw [c7b0]) | skip)
    have H' := ak H; clear H; go_wp2_with (first | ((with_reducible refine gate_callee (f := 72) rfl ?_); refine zgo_ 10 Tryd.func72 #[.int .i64 a0] ?_ (e := d10_2); (with_reducible refine (impl_NumFault.calls a0 t349 _ A6.out).mono ?_); rintro e w' ⟨rfl, ⟨nd, rfl⟩⟩; refine ⟨_, rfl, ?_⟩)); go_meet
    case rel => exact ⟨_, (true), d10_6, H', ⟨by first | exact Nat.le_refl _ | omega⟩, ⟨by (with_reducible repeat first | apply b10N | apply b10D | apply b10L); exact BK348.out⟩, ⟨c10_2⟩⟩
  case rest =>
   clear HC4
   try clear c7
   obtain ⟨kq, x16_3, rfl, HA, HJ3, BK348, HB⟩ := hcut
   cases kq with
   | zero => exact absurd HA.out (by simp [impl_calculated__impl_AddNum_1.j0])
   | succ kj3 =>
    have H := HA.out; clear HA; simp only [impl_calculated__impl_AddNum_1.j0] at H; by_cases c9 : x16_3 = true
    ·subst c9
     rw [if_pos rfl] at H; simp only [Option.some.injEq, Prod.mk.injEq] at H; obtain ⟨rfl, rfl⟩ := H; obtain ⟨hcz10_0, hcz10_1, hfz10_0, hfz10_1⟩ := zx2_ BK348.out; go_wp2; refine bodyPost_ret (results_cell_row rfl _ _ gb348 88 #[.int .i64 3, .int .i64 0] (0, 0) _ rfl (by (with_reducible repeat first | apply b10N | apply b10D | apply b10L); refine zp2_ (.int .i64 0) (.int .i64 0) ?_; (with_reducible repeat first | apply b10N | apply b10D | apply b10L); exact BK348.out) Tryd.underlying88 rfl (by kernel_rfl)) rfl ?_; exact ⟨c10_1, c10_2⟩
    ·replace c9 := Bool.eq_false_iff.mpr c9
     subst c9; rw [if_neg (show ¬ (false = true) by decide)] at H; obtain ⟨⟨t351, t352⟩, A11, H⟩ := zbi_ H; (try dsimp -simprocs only at H); by_cases c12 : t352 = true
     ·subst c12
      rw [if_pos rfl] at H; obtain ⟨t353, A13, H⟩ := zbi_ H; (try dsimp -simprocs only at H); by_cases c14 : t353 = 0
      ·rw [if_pos c14] at H
       obtain ⟨c14b0, c14b1⟩ := zbt_ c14; clear c14; simp only [Option.some.injEq, Prod.mk.injEq] at H; obtain ⟨rfl, rfl⟩ := H; go_wp2_with (first | (go_at_call 75; (with_reducible refine (impl_AddNum_1.calls a0 a1 t351 true _ A11.out).mono ?_); rintro e w' ⟨rfl, ⟨nd, rfl⟩⟩; (try (rw [drewN_self wc]; generalize hq_ : World.drewN wc _ = wc; have n0_ : Aside0 (wc.heap[gb348]? = some (.cells #[.int .i64 0, .int .i64 0] 88 (0, 0))) := ⟨by rw [← hq_]; exact d10_7⟩; have n1_ : Aside0 (Below w.heap.size w wc) := ⟨by rw [← hq_]; exact d10_3⟩; clear BK348 HB hq_; have BK348 := n0_; have HB := n1_; clear n0_ n1_))) | (go_at_call 72; (with_reducible refine (impl_NumFault.calls t351 t353 _ A13.out).mono ?_); rintro e w' ⟨rfl, ⟨nd, rfl⟩⟩; (try (rw [drewN_self wc]; generalize hq_ : World.drewN wc _ = wc; have n0_ : Aside0 (wc.heap[gb348]? = some (.cells #[.int .i64 0, .int .i64 0] 88 (0, 0))) := ⟨by rw [← hq_]; exact d10_7⟩; have n1_ : Aside0 (Below w.heap.size w wc) := ⟨by rw [← hq_]; exact d10_3⟩; clear BK348 HB hq_; have BK348 := n0_; have HB := n1_; clear n0_ n1_)); obtain ⟨hcz15_0, hcz15_1, hfz15_0, hfz15_1⟩ := zx2_ BK348.out))
       refine bodyPost_ret (results_cell_row rfl _ _ gb348 88 #[.int .i64 0, .int .i64 t351] (0, 0) _ rfl (by (with_reducible repeat first | apply b10N | apply b10D | apply b10L); refine zp2_ (.int .i64 0) (.int .i64 0) ?_; (with_reducible repeat first | apply b10N | apply b10D | apply b10L); exact BK348.out) Tryd.underlying88 rfl (by kernel_rfl)) rfl ?_; exact ⟨c10_1, c10_2⟩
      ·rw [if_neg c14] at H
       obtain ⟨c14b0, c14b1⟩ := zbf_ c14; simp only [Option.some.injEq, Prod.mk.injEq] at H; obtain ⟨rfl, rfl⟩ := H; go_wp2_with (first | (go_at_call 75; (with_reducible refine (impl_AddNum_1.calls a0 a1 t351 true _ A11.out).mono ?_); rintro e w' ⟨rfl, ⟨nd, rfl⟩⟩; (try (rw [drewN_self wc]; generalize hq_ : World.drewN wc _ = wc; have n0_ : Aside0 (wc.heap[gb348]? = some (.cells #[.int .i64 0, .int .i64 0] 88 (0, 0))) := ⟨by rw [← hq_]; exact d10_7⟩; have n1_ : Aside0 (Below w.heap.size w wc) := ⟨by rw [← hq_]; exact d10_3⟩; clear BK348 HB hq_; have BK348 := n0_; have HB := n1_; clear n0_ n1_))) | (go_at_call 72; (with_reducible refine (impl_NumFault.calls t351 t353 _ A13.out).mono ?_); rintro e w' ⟨rfl, ⟨nd, rfl⟩⟩; (try (rw [drewN_self wc]; generalize hq_ : World.drewN wc _ = wc; have n0_ : Aside0 (wc.heap[gb348]? = some (.cells #[.int .i64 0, .int .i64 0] 88 (0, 0))) := ⟨by rw [← hq_]; exact d10_7⟩; have n1_ : Aside0 (Below w.heap.size w wc) := ⟨by rw [← hq_]; exact d10_3⟩; clear BK348 HB hq_; have BK348 := n0_; have HB := n1_; clear n0_ n1_)); obtain ⟨hcz16_0, hcz16_1, hfz16_0, hfz16_1⟩ := zx2_ BK348.out))
       refine bodyPost_ret (results_cell_row rfl _ _ gb348 88 #[.int .i64 7, .int .i64 0] (0, 0) _ rfl (by (with_reducible repeat first | apply b10N | apply b10D | apply b10L); refine zp2_ (.int .i64 0) (.int .i64 0) ?_; (with_reducible repeat first | apply b10N | apply b10D | apply b10L); exact BK348.out) Tryd.underlying88 rfl (by kernel_rfl)) rfl ?_; exact ⟨c10_1, c10_2⟩
     ·replace c12 := Bool.eq_false_iff.mpr c12
      subst c12; rw [if_neg (show ¬ (false = true) by decide)] at H; simp only [Option.some.injEq, Prod.mk.injEq] at H; obtain ⟨rfl, rfl⟩ := H; go_wp2_with (first | (go_at_call 75; (with_reducible refine (impl_AddNum_1.calls a0 a1 t351 false _ A11.out).mono ?_); rintro e w' ⟨rfl, ⟨nd, rfl⟩⟩; (try (rw [drewN_self wc]; generalize hq_ : World.drewN wc _ = wc; have n0_ : Aside0 (wc.heap[gb348]? = some (.cells #[.int .i64 0, .int .i64 0] 88 (0, 0))) := ⟨by rw [← hq_]; exact d10_7⟩; have n1_ : Aside0 (Below w.heap.size w wc) := ⟨by rw [← hq_]; exact d10_3⟩; clear BK348 HB hq_; have BK348 := n0_; have HB := n1_; clear n0_ n1_)); obtain ⟨hcz17_0, hcz17_1, hfz17_0, hfz17_1⟩ := zx2_ BK348.out)); refine bodyPost_ret (results_cell_row rfl _ _ gb348 88 #[.int .i64 7, .int .i64 0] (0, 0) _ rfl (by (with_reducible repeat first | apply b10N | apply b10D | apply b10L); refine zp2_ (.int .i64 0) (.int .i64 0) ?_; (with_reducible repeat first | apply b10N | apply b10D | apply b10L); exact BK348.out) Tryd.underlying88 rfl (by kernel_rfl)) rfl ?_; exact ⟨c10_1, c10_2⟩

/-! ### impl_AddNum: function 62 -/
def impl_AddNum.f (k : Nat) (a0 : Int) (a1 : Int) : Option (Int × Int) := (impl_calculated__impl_AddNum_1.f k a0 a1).bind fun bt355 => (some (bt355.1, bt355.2))
theorem impl_AddNum.mono : ∀ a0 a1 k, LeO (impl_AddNum.f k a0 a1) (impl_AddNum.f (k + 1) a0 a1) := by
  intro a0 a1 k; unfold impl_AddNum.f
  repeat' first | (with_reducible first | apply impl_calculated__impl_AddNum_1.mono | exact LeO.refl _ | exact LeO.none _ | refine LeO.ite ?_ ?_ | refine LeO.bind ?_ (fun _ => ?_)) | apply impl_calculated__impl_AddNum_1.mono | exact LeO.none _ | refine LeO.ite ?_ ?_ | refine LeO.bind ?_ (fun _ => ?_)
theorem impl_AddNum.calls (k : Nat) (a0 : Int) (a1 : Int) (r1 : Int) (r2 : Int) (w : World) (h : impl_AddNum.f k a0 a1 = some (r1, r2)) :
    Calls Tryd.prog 62 #[.int .i64 a0, .int .i64 a1] w fun e w' => e = .returned (.agg #[.int .i64 r1, .int .i64 r2]) ∧ Below w.heap.size w w' := by
  have hu88 := Tryd.underlying88; have HB := ak (Below.refl w.heap.size w); have H := h; clear h; unfold impl_AddNum.f at H; obtain ⟨⟨t355, t356⟩, A3, H⟩ := zbi_ H; (try dsimp -simprocs only at H); simp only [Option.some.injEq, Prod.mk.injEq] at H; obtain ⟨rfl, rfl⟩ := H; go_enter Tryd.func62, Tryd.ntmps62
  go_wp2_with (first | ((with_reducible refine gate_dst (N := 4) rfl ?_); refine box_event ?hg (N := 4) ?hd (cs := #[.int .i64 0, .int .i64 0]) (t := 88) ?hr ?_; (case hd => rfl); (case hg => rfl); (case hr => first | (go_simp; done) | (go_simp; rfl)); intro gb354 hg w4 hbox hb; have BK354 := ak (hbox); have GW354 := ak ((d10_10 : w.heap.size ≤ gb354)); have GE354 := ak ((d10_10 : w.heap.size ≤ gb354)); replace HB := ak (below_step d10_1 hb); clear hb hbox hg) | (go_at_call 74; (with_reducible refine (impl_calculated__impl_AddNum_1.calls k a0 a1  t355 t356 _ A3.out).mono ?_); rintro e w5 ⟨rfl, hb⟩; replace BK354 := zbb_ (g := gb354) (o := .cells #[.int .i64 0, .int .i64 0] 88 (0, 0)) hb (by (with_reducible repeat first | apply b10N | apply b10D | apply b10L); exact BK354.out); replace HB := ak (below_step (by repeat (first | (with_reducible first | exact HB.out | apply below_alloc | apply pw_below_drewN | apply below_drew1 | refine below_set ?_ GE354.out) | exact HB.out)) hb); (try clear hb); obtain ⟨hcz6_0, hcz6_1, hfz6_0, hfz6_1⟩ := zx2_ BK354.out))
  refine bodyPost_ret (results_cell_row rfl _ _ gb354 88 #[.int .i64 t355, .int .i64 t356] (0, 0) _ rfl (by (with_reducible repeat first | apply b10N | apply b10D | apply b10L); refine zp2_ (.int .i64 0) (.int .i64 0) ?_; (with_reducible repeat first | apply b10N | apply b10D | apply b10L); exact BK354.out) Tryd.underlying88 rfl (by kernel_rfl)) rfl ?_; exact ⟨c10_1, by repeat (first | (with_reducible first | exact HB.out | apply below_alloc | apply pw_below_drewN | apply below_drew1 | refine below_set ?_ GE354.out) | exact HB.out)⟩

/-! ### impl_SubNum_1: function 76 -/
def impl_SubNum_1.f (a0 : Int) (a1 : Int) : Option (Int × Bool) := some (wrap64 (a0 - a1), true)
theorem impl_SubNum_1.calls (a0 : Int) (a1 : Int) (r1 : Int) (r2 : Bool) (w : World) (h : impl_SubNum_1.f a0 a1 = some (r1, r2)) :
    Calls Tryd.prog 76 #[.int .i64 a0, .int .i64 a1] w fun e w' => e = .returned (.tuple #[.int .i64 r1, .bool r2]) ∧ Drawn0 w w' := by
  have H := h; clear h; unfold impl_SubNum_1.f at H; simp only [Option.some.injEq, Prod.mk.injEq] at H; obtain ⟨rfl, rfl⟩ := H; go_enter Tryd.func76, Tryd.ntmps76; go_wp2; go_ret2; exact ⟨c10_5, c10_6⟩

/-! ### impl_calculated__impl_SubNum_1: function 74 -/
def impl_calculated__impl_SubNum_1.j0 : Nat → Int → Int → Bool → Option (Int × Int)
  | 0, _, _, _ => none
  | k + 1, x0, x1, x16 => if x16 = true then (some (3, 0)) else ((impl_SubNum_1.f x0 x1).bind fun bt364 => (if bt364.2 = true then ((impl_NumFault.f bt364.1).bind fun t366 => (if t366 = 0 then (some (0, bt364.1)) else (some (7, 0)))) else (some (7, 0))))
def impl_calculated__impl_SubNum_1.f (k : Nat) (a0 : Int) (a1 : Int)  : Option (Int × Int) := (impl_NumFault.f a0).bind fun t362 => (if t362 = 0 then ((impl_NumFault.f a1).bind fun t363 => (impl_calculated__impl_SubNum_1.j0 k a0 a1 (t363 != 0))) else (impl_calculated__impl_SubNum_1.j0 k a0 a1 true))
theorem impl_calculated__impl_SubNum_1.mono_l : ∀ k, (∀ y0 y1 y2, LeO (impl_calculated__impl_SubNum_1.j0 k y0 y1 y2) (impl_calculated__impl_SubNum_1.j0 (k + 1) y0 y1 y2))
  | 0 => fun _ _ _ r h => by simp [impl_calculated__impl_SubNum_1.j0] at h
  | k + 1 => by
    have ih0 := impl_calculated__impl_SubNum_1.mono_l k
    · intro y0 y1 y2
      unfold impl_calculated__impl_SubNum_1.j0
      exact zm10_0
theorem impl_calculated__impl_SubNum_1.mono : ∀ a0 a1 k, LeO (impl_calculated__impl_SubNum_1.f k a0 a1) (impl_calculated__impl_SubNum_1.f (k + 1) a0 a1) := by
  intro a0 a1 k; have ih0 := impl_calculated__impl_SubNum_1.mono_l k; unfold impl_calculated__impl_SubNum_1.f
  exact zm10_0
theorem impl_calculated__impl_SubNum_1.calls (k : Nat) (a0 : Int) (a1 : Int)  (r1 : Int) (r2 : Int) (w : World) (h : impl_calculated__impl_SubNum_1.f k a0 a1 = some (r1, r2)) :
    Calls Tryd.prog 74 #[.int .i64 a0, .int .i64 a1, .func (.func 76) #[] #[]] w fun e w' => e = .returned (.agg #[.int .i64 r1, .int .i64 r2]) ∧ Below w.heap.size w w' := by
  have hu88 := Tryd.underlying88; have HB := ak (Below.refl w.heap.size w); have H := h; clear h; unfold impl_calculated__impl_SubNum_1.f at H; have HC4 := ak H; clear H; go_enter Tryd.func74, Tryd.ntmps74; go_upto_region 1 with (first | ((with_reducible refine gate_dst (N := 6) rfl ?_); refine box_event ?hg (N := 6) ?hd (cs := #[.int .i64 0, .int .i64 0]) (t := 88) ?hr ?_; (case hd => rfl); (case hg => rfl); (case hr => first | (go_simp; done) | (go_simp; rfl)); intro gb361 hg w5 hbox hb; have BK361 := ak (hbox); have GW361 := ak ((d10_10 : w.heap.size ≤ gb361)); have GE361 := ak ((d10_10 : w.heap.size ≤ gb361)); replace HB := ak (below_step d10_1 hb); clear hb hbox hg))
  (try simp only [Act.put, List.setIfInBounds_toArray, List.set_cons_zero, List.set_cons_succ])
  go_cut [16] (fun v16 wc => ∃ (kq : Nat) (x16_3 : Bool), v16 = .bool x16_3 ∧ Aside0 (impl_calculated__impl_SubNum_1.j0 kq a0 a1 x16_3 = some (r1, r2)) ∧ Aside0 (kq ≤ k) ∧ Aside0 (wc.heap[gb361]? = some (.cells #[.int .i64 0, .int .i64 0] 88 (0, 0))) ∧ Aside0 (Below w.heap.size w wc))
  case first =>
   have H := HC4.out; clear HC4; obtain ⟨t362, A6, H⟩ := zbi_ H; (try dsimp -simprocs only at H); by_cases c7 : t362 = 0
   ·rw [if_pos c7] at H
    obtain ⟨c7b0, c7b1⟩ := zbt_ c7; clear c7
    (first | rw [c7b0] | (simp only [i64_w, i32_w]; rw [c7b0]) | skip)
    obtain ⟨t363, A8, H⟩ := zbi_ H; (try dsimp -simprocs only at H); have H' := ak H; clear H; go_wp2_with (first | ((with_reducible refine gate_callee (f := 72) rfl ?_); refine zgo_ 10 Tryd.func72 #[.int .i64 a0] ?_ (e := d10_2); (with_reducible refine (impl_NumFault.calls a0 t362 _ A6.out).mono ?_); rintro e w' ⟨rfl, ⟨nd, rfl⟩⟩; refine ⟨_, rfl, ?_⟩) | (go_at_call 72; (with_reducible refine (impl_NumFault.calls a1 t363 _ A8.out).mono ?_); rintro e w' ⟨rfl, ⟨nd, rfl⟩⟩)); go_meet
    case rel => exact ⟨_, ((t363 != 0)), d10_6, H', ⟨by first | exact Nat.le_refl _ | omega⟩, ⟨by (with_reducible repeat first | apply b10N | apply b10D | apply b10L); exact BK361.out⟩, ⟨c10_3⟩⟩
   ·rw [if_neg c7] at H
    obtain ⟨c7b0, c7b1⟩ := zbf_ c7
    (first | rw [c7b0] | (simp only [i64_w, i32_w]; rw [c7b0]) | skip)
    have H' := ak H; clear H; go_wp2_with (first | ((with_reducible refine gate_callee (f := 72) rfl ?_); refine zgo_ 10 Tryd.func72 #[.int .i64 a0] ?_ (e := d10_2); (with_reducible refine (impl_NumFault.calls a0 t362 _ A6.out).mono ?_); rintro e w' ⟨rfl, ⟨nd, rfl⟩⟩; refine ⟨_, rfl, ?_⟩)); go_meet
    case rel => exact ⟨_, (true), d10_6, H', ⟨by first | exact Nat.le_refl _ | omega⟩, ⟨by (with_reducible repeat first | apply b10N | apply b10D | apply b10L); exact BK361.out⟩, ⟨c10_3⟩⟩
  case rest =>
   clear HC4
   try clear c7
   obtain ⟨kq, x16_3, rfl, HA, HJ3, BK361, HB⟩ := hcut
   cases kq with
   | zero => exact absurd HA.out (by simp [impl_calculated__impl_SubNum_1.j0])
   | succ kj3 =>
    have H := HA.out; clear HA; simp only [impl_calculated__impl_SubNum_1.j0] at H; by_cases c9 : x16_3 = true
    ·subst c9
     rw [if_pos rfl] at H; simp only [Option.some.injEq, Prod.mk.injEq] at H; obtain ⟨rfl, rfl⟩ := H; obtain ⟨hcz10_0, hcz10_1, hfz10_0, hfz10_1⟩ := zx2_ BK361.out; go_wp2; refine bodyPost_ret (results_cell_row rfl _ _ gb361 88 #[.int .i64 3, .int .i64 0] (0, 0) _ rfl (by (with_reducible repeat first | apply b10N | apply b10D | apply b10L); refine zp2_ (.int .i64 0) (.int .i64 0) ?_; (with_reducible repeat first | apply b10N | apply b10D | apply b10L); exact BK361.out) Tryd.underlying88 rfl (by kernel_rfl)) rfl ?_; exact ⟨c10_1, c10_3⟩
    ·replace c9 := Bool.eq_false_iff.mpr c9
     subst c9; rw [if_neg (show ¬ (false = true) by decide)] at H; obtain ⟨⟨t364, t365⟩, A11, H⟩ := zbi_ H; (try dsimp -simprocs only at H); by_cases c12 : t365 = true
     ·subst c12
      rw [if_pos rfl] at H; obtain ⟨t366, A13, H⟩ := zbi_ H; (try dsimp -simprocs only at H); by_cases c14 : t366 = 0
      ·rw [if_pos c14] at H
       obtain ⟨c14b0, c14b1⟩ := zbt_ c14; clear c14; simp only [Option.some.injEq, Prod.mk.injEq] at H; obtain ⟨rfl, rfl⟩ := H; go_wp2_with (first | (go_at_call 76; (with_reducible refine (impl_SubNum_1.calls a0 a1 t364 true _ A11.out).mono ?_); rintro e w' ⟨rfl, ⟨nd, rfl⟩⟩; (try (rw [drewN_self wc]; generalize hq_ : World.drewN wc _ = wc; have n0_ : Aside0 (wc.heap[gb361]? = some (.cells #[.int .i64 0, .int .i64 0] 88 (0, 0))) := ⟨by rw [← hq_]; exact d10_8⟩; have n1_ : Aside0 (Below w.heap.size w wc) := ⟨by rw [← hq_]; exact d10_4⟩; clear BK361 HB hq_; have BK361 := n0_; have HB := n1_; clear n0_ n1_))) | (go_at_call 72; (with_reducible refine (impl_NumFault.calls t364 t366 _ A13.out).mono ?_); rintro e w' ⟨rfl, ⟨nd, rfl⟩⟩; (try (rw [drewN_self wc]; generalize hq_ : World.drewN wc _ = wc; have n0_ : Aside0 (wc.heap[gb361]? = some (.cells #[.int .i64 0, .int .i64 0] 88 (0, 0))) := ⟨by rw [← hq_]; exact d10_8⟩; have n1_ : Aside0 (Below w.heap.size w wc) := ⟨by rw [← hq_]; exact d10_4⟩; clear BK361 HB hq_; have BK361 := n0_; have HB := n1_; clear n0_ n1_)); obtain ⟨hcz15_0, hcz15_1, hfz15_0, hfz15_1⟩ := zx2_ BK361.out))
       refine bodyPost_ret (results_cell_row rfl _ _ gb361 88 #[.int .i64 0, .int .i64 t364] (0, 0) _ rfl (by (with_reducible repeat first | apply b10N | apply b10D | apply b10L); refine zp2_ (.int .i64 0) (.int .i64 0) ?_; (with_reducible repeat first | apply b10N | apply b10D | apply b10L); exact BK361.out) Tryd.underlying88 rfl (by kernel_rfl)) rfl ?_; exact ⟨c10_1, c10_3⟩
      ·rw [if_neg c14] at H
       obtain ⟨c14b0, c14b1⟩ := zbf_ c14; simp only [Option.some.injEq, Prod.mk.injEq] at H; obtain ⟨rfl, rfl⟩ := H; go_wp2_with (first | (go_at_call 76; (with_reducible refine (impl_SubNum_1.calls a0 a1 t364 true _ A11.out).mono ?_); rintro e w' ⟨rfl, ⟨nd, rfl⟩⟩; (try (rw [drewN_self wc]; generalize hq_ : World.drewN wc _ = wc; have n0_ : Aside0 (wc.heap[gb361]? = some (.cells #[.int .i64 0, .int .i64 0] 88 (0, 0))) := ⟨by rw [← hq_]; exact d10_8⟩; have n1_ : Aside0 (Below w.heap.size w wc) := ⟨by rw [← hq_]; exact d10_4⟩; clear BK361 HB hq_; have BK361 := n0_; have HB := n1_; clear n0_ n1_))) | (go_at_call 72; (with_reducible refine (impl_NumFault.calls t364 t366 _ A13.out).mono ?_); rintro e w' ⟨rfl, ⟨nd, rfl⟩⟩; (try (rw [drewN_self wc]; generalize hq_ : World.drewN wc _ = wc; have n0_ : Aside0 (wc.heap[gb361]? = some (.cells #[.int .i64 0, .int .i64 0] 88 (0, 0))) := ⟨by rw [← hq_]; exact d10_8⟩; have n1_ : Aside0 (Below w.heap.size w wc) := ⟨by rw [← hq_]; exact d10_4⟩; clear BK361 HB hq_; have BK361 := n0_; have HB := n1_; clear n0_ n1_)); obtain ⟨hcz16_0, hcz16_1, hfz16_0, hfz16_1⟩ := zx2_ BK361.out))
       refine bodyPost_ret (results_cell_row rfl _ _ gb361 88 #[.int .i64 7, .int .i64 0] (0, 0) _ rfl (by (with_reducible repeat first | apply b10N | apply b10D | apply b10L); refine zp2_ (.int .i64 0) (.int .i64 0) ?_; (with_reducible repeat first | apply b10N | apply b10D | apply b10L); exact BK361.out) Tryd.underlying88 rfl (by kernel_rfl)) rfl ?_; exact ⟨c10_1, c10_3⟩
     ·replace c12 := Bool.eq_false_iff.mpr c12
      subst c12; rw [if_neg (show ¬ (false = true) by decide)] at H; simp only [Option.some.injEq, Prod.mk.injEq] at H; obtain ⟨rfl, rfl⟩ := H; go_wp2_with (first | (go_at_call 76; (with_reducible refine (impl_SubNum_1.calls a0 a1 t364 false _ A11.out).mono ?_); rintro e w' ⟨rfl, ⟨nd, rfl⟩⟩; (try (rw [drewN_self wc]; generalize hq_ : World.drewN wc _ = wc; have n0_ : Aside0 (wc.heap[gb361]? = some (.cells #[.int .i64 0, .int .i64 0] 88 (0, 0))) := ⟨by rw [← hq_]; exact d10_8⟩; have n1_ : Aside0 (Below w.heap.size w wc) := ⟨by rw [← hq_]; exact d10_4⟩; clear BK361 HB hq_; have BK361 := n0_; have HB := n1_; clear n0_ n1_)); obtain ⟨hcz17_0, hcz17_1, hfz17_0, hfz17_1⟩ := zx2_ BK361.out)); refine bodyPost_ret (results_cell_row rfl _ _ gb361 88 #[.int .i64 7, .int .i64 0] (0, 0) _ rfl (by (with_reducible repeat first | apply b10N | apply b10D | apply b10L); refine zp2_ (.int .i64 0) (.int .i64 0) ?_; (with_reducible repeat first | apply b10N | apply b10D | apply b10L); exact BK361.out) Tryd.underlying88 rfl (by kernel_rfl)) rfl ?_; exact ⟨c10_1, c10_3⟩

/-! ### impl_SubNum: function 63 -/
def impl_SubNum.f (k : Nat) (a0 : Int) (a1 : Int) : Option (Int × Int) := (impl_calculated__impl_SubNum_1.f k a0 a1).bind fun bt368 => (some (bt368.1, bt368.2))
theorem impl_SubNum.mono : ∀ a0 a1 k, LeO (impl_SubNum.f k a0 a1) (impl_SubNum.f (k + 1) a0 a1) := by
  intro a0 a1 k; unfold impl_SubNum.f
  repeat' first | (with_reducible first | apply impl_calculated__impl_SubNum_1.mono | exact LeO.refl _ | exact LeO.none _ | refine LeO.ite ?_ ?_ | refine LeO.bind ?_ (fun _ => ?_)) | apply impl_calculated__impl_SubNum_1.mono | exact LeO.none _ | refine LeO.ite ?_ ?_ | refine LeO.bind ?_ (fun _ => ?_)
theorem impl_SubNum.calls (k : Nat) (a0 : Int) (a1 : Int) (r1 : Int) (r2 : Int) (w : World) (h : impl_SubNum.f k a0 a1 = some (r1, r2)) :
    Calls Tryd.prog 63 #[.int .i64 a0, .int .i64 a1] w fun e w' => e = .returned (.agg #[.int .i64 r1, .int .i64 r2]) ∧ Below w.heap.size w w' := by
  have hu88 := Tryd.underlying88; have HB := ak (Below.refl w.heap.size w); have H := h; clear h; unfold impl_SubNum.f at H; obtain ⟨⟨t368, t369⟩, A3, H⟩ := zbi_ H; (try dsimp -simprocs only at H); simp only [Option.some.injEq, Prod.mk.injEq] at H; obtain ⟨rfl, rfl⟩ := H; go_enter Tryd.func63, Tryd.ntmps63
  go_wp2_with (first | ((with_reducible refine gate_dst (N := 4) rfl ?_); refine box_event ?hg (N := 4) ?hd (cs := #[.int .i64 0, .int .i64 0]) (t := 88) ?hr ?_; (case hd => rfl); (case hg => rfl); (case hr => first | (go_simp; done) | (go_simp; rfl)); intro gb367 hg w4 hbox hb; have BK367 := ak (hbox); have GW367 := ak ((d10_10 : w.heap.size ≤ gb367)); have GE367 := ak ((d10_10 : w.heap.size ≤ gb367)); replace HB := ak (below_step d10_1 hb); clear hb hbox hg) | (go_at_call 74; (with_reducible refine (impl_calculated__impl_SubNum_1.calls k a0 a1  t368 t369 _ A3.out).mono ?_); rintro e w5 ⟨rfl, hb⟩; replace BK367 := zbb_ (g := gb367) (o := .cells #[.int .i64 0, .int .i64 0] 88 (0, 0)) hb (by (with_reducible repeat first | apply b10N | apply b10D | apply b10L); exact BK367.out); replace HB := ak (below_step (by repeat (first | (with_reducible first | exact HB.out | apply below_alloc | apply pw_below_drewN | apply below_drew1 | refine below_set ?_ GE367.out) | exact HB.out)) hb); (try clear hb); obtain ⟨hcz6_0, hcz6_1, hfz6_0, hfz6_1⟩ := zx2_ BK367.out))
  refine bodyPost_ret (results_cell_row rfl _ _ gb367 88 #[.int .i64 t368, .int .i64 t369] (0, 0) _ rfl (by (with_reducible repeat first | apply b10N | apply b10D | apply b10L); refine zp2_ (.int .i64 0) (.int .i64 0) ?_; (with_reducible repeat first | apply b10N | apply b10D | apply b10L); exact BK367.out) Tryd.underlying88 rfl (by kernel_rfl)) rfl ?_; exact ⟨c10_1, by repeat (first | (with_reducible first | exact HB.out | apply below_alloc | apply pw_below_drewN | apply below_drew1 | refine below_set ?_ GE367.out) | exact HB.out)⟩

/-! ### impl_MulNum_1: function 77 -/
def impl_MulNum_1.f (a0 : Int) (a1 : Int) : Option (Int × Bool) := some (wrap64 (a0 * a1), true)
theorem impl_MulNum_1.calls (a0 : Int) (a1 : Int) (r1 : Int) (r2 : Bool) (w : World) (h : impl_MulNum_1.f a0 a1 = some (r1, r2)) :
    Calls Tryd.prog 77 #[.int .i64 a0, .int .i64 a1] w fun e w' => e = .returned (.tuple #[.int .i64 r1, .bool r2]) ∧ Drawn0 w w' := by
  have H := h; clear h; unfold impl_MulNum_1.f at H; simp only [Option.some.injEq, Prod.mk.injEq] at H; obtain ⟨rfl, rfl⟩ := H; go_enter Tryd.func77, Tryd.ntmps77; go_wp2; go_ret2; exact ⟨c10_5, c10_6⟩

/-! ### impl_calculated__impl_MulNum_1: function 74 -/
def impl_calculated__impl_MulNum_1.j0 : Nat → Int → Int → Bool → Option (Int × Int)
  | 0, _, _, _ => none
  | k + 1, x0, x1, x16 => if x16 = true then (some (3, 0)) else ((impl_MulNum_1.f x0 x1).bind fun bt377 => (if bt377.2 = true then ((impl_NumFault.f bt377.1).bind fun t379 => (if t379 = 0 then (some (0, bt377.1)) else (some (7, 0)))) else (some (7, 0))))
def impl_calculated__impl_MulNum_1.f (k : Nat) (a0 : Int) (a1 : Int)  : Option (Int × Int) := (impl_NumFault.f a0).bind fun t375 => (if t375 = 0 then ((impl_NumFault.f a1).bind fun t376 => (impl_calculated__impl_MulNum_1.j0 k a0 a1 (t376 != 0))) else (impl_calculated__impl_MulNum_1.j0 k a0 a1 true))
theorem impl_calculated__impl_MulNum_1.mono_l : ∀ k, (∀ y0 y1 y2, LeO (impl_calculated__impl_MulNum_1.j0 k y0 y1 y2) (impl_calculated__impl_MulNum_1.j0 (k + 1) y0 y1 y2))
  | 0 => fun _ _ _ r h => by simp [impl_calculated__impl_MulNum_1.j0] at h
  | k + 1 => by
    have ih0 := impl_calculated__impl_MulNum_1.mono_l k
    · intro y0 y1 y2
      unfold impl_calculated__impl_MulNum_1.j0
      exact zm10_0
theorem impl_calculated__impl_MulNum_1.mono : ∀ a0 a1 k, LeO (impl_calculated__impl_MulNum_1.f k a0 a1) (impl_calculated__impl_MulNum_1.f (k + 1) a0 a1) := by
  intro a0 a1 k; have ih0 := impl_calculated__impl_MulNum_1.mono_l k; unfold impl_calculated__impl_MulNum_1.f
  exact zm10_0
theorem impl_calculated__impl_MulNum_1.calls (k : Nat) (a0 : Int) (a1 : Int)  (r1 : Int) (r2 : Int) (w : World) (h : impl_calculated__impl_MulNum_1.f k a0 a1 = some (r1, r2)) :
    Calls Tryd.prog 74 #[.int .i64 a0, .int .i64 a1, .func (.func 77) #[] #[]] w fun e w' => e = .returned (.agg #[.int .i64 r1, .int .i64 r2]) ∧ Below w.heap.size w w' := by
  have hu88 := Tryd.underlying88; have HB := ak (Below.refl w.heap.size w); have H := h; clear h; unfold impl_calculated__impl_MulNum_1.f at H; have HC4 := ak H; clear H; go_enter Tryd.func74, Tryd.ntmps74; go_upto_region 1 with (first | ((with_reducible refine gate_dst (N := 6) rfl ?_); refine box_event ?hg (N := 6) ?hd (cs := #[.int .i64 0, .int .i64 0]) (t := 88) ?hr ?_; (case hd => rfl); (case hg => rfl); (case hr => first | (go_simp; done) | (go_simp; rfl)); intro gb374 hg w5 hbox hb; have BK374 := ak (hbox); have GW374 := ak ((d10_10 : w.heap.size ≤ gb374)); have GE374 := ak ((d10_10 : w.heap.size ≤ gb374)); replace HB := ak (below_step d10_1 hb); clear hb hbox hg))
  (try simp only [Act.put, List.setIfInBounds_toArray, List.set_cons_zero, List.set_cons_succ])
  go_cut [16] (fun v16 wc => ∃ (kq : Nat) (x16_3 : Bool), v16 = .bool x16_3 ∧ Aside0 (impl_calculated__impl_MulNum_1.j0 kq a0 a1 x16_3 = some (r1, r2)) ∧ Aside0 (kq ≤ k) ∧ Aside0 (wc.heap[gb374]? = some (.cells #[.int .i64 0, .int .i64 0] 88 (0, 0))) ∧ Aside0 (Below w.heap.size w wc))
  case first =>
   have H := HC4.out; clear HC4; obtain ⟨t375, A6, H⟩ := zbi_ H; (try dsimp -simprocs only at H); by_cases c7 : t375 = 0
   ·rw [if_pos c7] at H
    obtain ⟨c7b0, c7b1⟩ := zbt_ c7; clear c7
    (first | rw [c7b0] | (simp only [i64_w, i32_w]; rw [c7b0]) | skip)
    obtain ⟨t376, A8, H⟩ := zbi_ H; (try dsimp -simprocs only at H); have H' := ak H; clear H; go_wp2_with (first | ((with_reducible refine gate_callee (f := 72) rfl ?_); refine zgo_ 10 Tryd.func72 #[.int .i64 a0] ?_ (e := d10_2); (with_reducible refine (impl_NumFault.calls a0 t375 _ A6.out).mono ?_); rintro e w' ⟨rfl, ⟨nd, rfl⟩⟩; refine ⟨_, rfl, ?_⟩) | (go_at_call 72; (with_reducible refine (impl_NumFault.calls a1 t376 _ A8.out).mono ?_); rintro e w' ⟨rfl, ⟨nd, rfl⟩⟩)); go_meet
    case rel => exact ⟨_, ((t376 != 0)), d10_6, H', ⟨by first | exact Nat.le_refl _ | omega⟩, ⟨by (with_reducible repeat first | apply b10N | apply b10D | apply b10L); exact BK374.out⟩, ⟨c10_4⟩⟩
   ·rw [if_neg c7] at H
    obtain ⟨c7b0, c7b1⟩ := zbf_ c7
    (first | rw [c7b0] | (simp only [i64_w, i32_w]; rw [c7b0]) | skip)
    have H' := ak H; clear H; go_wp2_with (first | ((with_reducible refine gate_callee (f := 72) rfl ?_); refine zgo_ 10 Tryd.func72 #[.int .i64 a0] ?_ (e := d10_2); (with_reducible refine (impl_NumFault.calls a0 t375 _ A6.out).mono ?_); rintro e w' ⟨rfl, ⟨nd, rfl⟩⟩; refine ⟨_, rfl, ?_⟩)); go_meet
    case rel => exact ⟨_, (true), d10_6, H', ⟨by first | exact Nat.le_refl _ | omega⟩, ⟨by (with_reducible repeat first | apply b10N | apply b10D | apply b10L); exact BK374.out⟩, ⟨c10_4⟩⟩
  case rest =>
   clear HC4
   try clear c7
   obtain ⟨kq, x16_3, rfl, HA, HJ3, BK374, HB⟩ := hcut
   cases kq with
   | zero => exact absurd HA.out (by simp [impl_calculated__impl_MulNum_1.j0])
   | succ kj3 =>
    have H := HA.out; clear HA; simp only [impl_calculated__impl_MulNum_1.j0] at H; by_cases c9 : x16_3 = true
    ·subst c9
     rw [if_pos rfl] at H; simp only [Option.some.injEq, Prod.mk.injEq] at H; obtain ⟨rfl, rfl⟩ := H; obtain ⟨hcz10_0, hcz10_1, hfz10_0, hfz10_1⟩ := zx2_ BK374.out; go_wp2; refine bodyPost_ret (results_cell_row rfl _ _ gb374 88 #[.int .i64 3, .int .i64 0] (0, 0) _ rfl (by (with_reducible repeat first | apply b10N | apply b10D | apply b10L); refine zp2_ (.int .i64 0) (.int .i64 0) ?_; (with_reducible repeat first | apply b10N | apply b10D | apply b10L); exact BK374.out) Tryd.underlying88 rfl (by kernel_rfl)) rfl ?_; exact ⟨c10_1, c10_4⟩
    ·replace c9 := Bool.eq_false_iff.mpr c9
     subst c9; rw [if_neg (show ¬ (false = true) by decide)] at H; obtain ⟨⟨t377, t378⟩, A11, H⟩ := zbi_ H; (try dsimp -simprocs only at H); by_cases c12 : t378 = true
     ·subst c12
      rw [if_pos rfl] at H; obtain ⟨t379, A13, H⟩ := zbi_ H; (try dsimp -simprocs only at H); by_cases c14 : t379 = 0
      ·rw [if_pos c14] at H
       obtain ⟨c14b0, c14b1⟩ := zbt_ c14; clear c14; simp only [Option.some.injEq, Prod.mk.injEq] at H; obtain ⟨rfl, rfl⟩ := H; go_wp2_with (first | (go_at_call 77; (with_reducible refine (impl_MulNum_1.calls a0 a1 t377 true _ A11.out).mono ?_); rintro e w' ⟨rfl, ⟨nd, rfl⟩⟩; (try (rw [drewN_self wc]; generalize hq_ : World.drewN wc _ = wc; have n0_ : Aside0 (wc.heap[gb374]? = some (.cells #[.int .i64 0, .int .i64 0] 88 (0, 0))) := ⟨by rw [← hq_]; exact d10_9⟩; have n1_ : Aside0 (Below w.heap.size w wc) := ⟨by rw [← hq_]; exact d10_5⟩; clear BK374 HB hq_; have BK374 := n0_; have HB := n1_; clear n0_ n1_))) | (go_at_call 72; (with_reducible refine (impl_NumFault.calls t377 t379 _ A13.out).mono ?_); rintro e w' ⟨rfl, ⟨nd, rfl⟩⟩; (try (rw [drewN_self wc]; generalize hq_ : World.drewN wc _ = wc; have n0_ : Aside0 (wc.heap[gb374]? = some (.cells #[.int .i64 0, .int .i64 0] 88 (0, 0))) := ⟨by rw [← hq_]; exact d10_9⟩; have n1_ : Aside0 (Below w.heap.size w wc) := ⟨by rw [← hq_]; exact d10_5⟩; clear BK374 HB hq_; have BK374 := n0_; have HB := n1_; clear n0_ n1_)); obtain ⟨hcz15_0, hcz15_1, hfz15_0, hfz15_1⟩ := zx2_ BK374.out))
       refine bodyPost_ret (results_cell_row rfl _ _ gb374 88 #[.int .i64 0, .int .i64 t377] (0, 0) _ rfl (by (with_reducible repeat first | apply b10N | apply b10D | apply b10L); refine zp2_ (.int .i64 0) (.int .i64 0) ?_; (with_reducible repeat first | apply b10N | apply b10D | apply b10L); exact BK374.out) Tryd.underlying88 rfl (by kernel_rfl)) rfl ?_; exact ⟨c10_1, c10_4⟩
      ·rw [if_neg c14] at H
       obtain ⟨c14b0, c14b1⟩ := zbf_ c14; simp only [Option.some.injEq, Prod.mk.injEq] at H; obtain ⟨rfl, rfl⟩ := H; go_wp2_with (first | (go_at_call 77; (with_reducible refine (impl_MulNum_1.calls a0 a1 t377 true _ A11.out).mono ?_); rintro e w' ⟨rfl, ⟨nd, rfl⟩⟩; (try (rw [drewN_self wc]; generalize hq_ : World.drewN wc _ = wc; have n0_ : Aside0 (wc.heap[gb374]? = some (.cells #[.int .i64 0, .int .i64 0] 88 (0, 0))) := ⟨by rw [← hq_]; exact d10_9⟩; have n1_ : Aside0 (Below w.heap.size w wc) := ⟨by rw [← hq_]; exact d10_5⟩; clear BK374 HB hq_; have BK374 := n0_; have HB := n1_; clear n0_ n1_))) | (go_at_call 72; (with_reducible refine (impl_NumFault.calls t377 t379 _ A13.out).mono ?_); rintro e w' ⟨rfl, ⟨nd, rfl⟩⟩; (try (rw [drewN_self wc]; generalize hq_ : World.drewN wc _ = wc; have n0_ : Aside0 (wc.heap[gb374]? = some (.cells #[.int .i64 0, .int .i64 0] 88 (0, 0))) := ⟨by rw [← hq_]; exact d10_9⟩; have n1_ : Aside0 (Below w.heap.size w wc) := ⟨by rw [← hq_]; exact d10_5⟩; clear BK374 HB hq_; have BK374 := n0_; have HB := n1_; clear n0_ n1_)); obtain ⟨hcz16_0, hcz16_1, hfz16_0, hfz16_1⟩ := zx2_ BK374.out))
       refine bodyPost_ret (results_cell_row rfl _ _ gb374 88 #[.int .i64 7, .int .i64 0] (0, 0) _ rfl (by (with_reducible repeat first | apply b10N | apply b10D | apply b10L); refine zp2_ (.int .i64 0) (.int .i64 0) ?_; (with_reducible repeat first | apply b10N | apply b10D | apply b10L); exact BK374.out) Tryd.underlying88 rfl (by kernel_rfl)) rfl ?_; exact ⟨c10_1, c10_4⟩
     ·replace c12 := Bool.eq_false_iff.mpr c12
      subst c12; rw [if_neg (show ¬ (false = true) by decide)] at H; simp only [Option.some.injEq, Prod.mk.injEq] at H; obtain ⟨rfl, rfl⟩ := H; go_wp2_with (first | (go_at_call 77; (with_reducible refine (impl_MulNum_1.calls a0 a1 t377 false _ A11.out).mono ?_); rintro e w' ⟨rfl, ⟨nd, rfl⟩⟩; (try (rw [drewN_self wc]; generalize hq_ : World.drewN wc _ = wc; have n0_ : Aside0 (wc.heap[gb374]? = some (.cells #[.int .i64 0, .int .i64 0] 88 (0, 0))) := ⟨by rw [← hq_]; exact d10_9⟩; have n1_ : Aside0 (Below w.heap.size w wc) := ⟨by rw [← hq_]; exact d10_5⟩; clear BK374 HB hq_; have BK374 := n0_; have HB := n1_; clear n0_ n1_)); obtain ⟨hcz17_0, hcz17_1, hfz17_0, hfz17_1⟩ := zx2_ BK374.out)); refine bodyPost_ret (results_cell_row rfl _ _ gb374 88 #[.int .i64 7, .int .i64 0] (0, 0) _ rfl (by (with_reducible repeat first | apply b10N | apply b10D | apply b10L); refine zp2_ (.int .i64 0) (.int .i64 0) ?_; (with_reducible repeat first | apply b10N | apply b10D | apply b10L); exact BK374.out) Tryd.underlying88 rfl (by kernel_rfl)) rfl ?_; exact ⟨c10_1, c10_4⟩

/-! ### impl_MulNum: function 64 -/
def impl_MulNum.f (k : Nat) (a0 : Int) (a1 : Int) : Option (Int × Int) := (impl_calculated__impl_MulNum_1.f k a0 a1).bind fun bt381 => (some (bt381.1, bt381.2))
theorem impl_MulNum.mono : ∀ a0 a1 k, LeO (impl_MulNum.f k a0 a1) (impl_MulNum.f (k + 1) a0 a1) := by
  intro a0 a1 k; unfold impl_MulNum.f
  repeat' first | (with_reducible first | apply impl_calculated__impl_MulNum_1.mono | exact LeO.refl _ | exact LeO.none _ | refine LeO.ite ?_ ?_ | refine LeO.bind ?_ (fun _ => ?_)) | apply impl_calculated__impl_MulNum_1.mono | exact LeO.none _ | refine LeO.ite ?_ ?_ | refine LeO.bind ?_ (fun _ => ?_)
theorem impl_MulNum.calls (k : Nat) (a0 : Int) (a1 : Int) (r1 : Int) (r2 : Int) (w : World) (h : impl_MulNum.f k a0 a1 = some (r1, r2)) :
    Calls Tryd.prog 64 #[.int .i64 a0, .int .i64 a1] w fun e w' => e = .returned (.agg #[.int .i64 r1, .int .i64 r2]) ∧ Below w.heap.size w w' := by
  have hu88 := Tryd.underlying88; have HB := ak (Below.refl w.heap.size w); have H := h; clear h; unfold impl_MulNum.f at H; obtain ⟨⟨t381, t382⟩, A3, H⟩ := zbi_ H; (try dsimp -simprocs only at H); simp only [Option.some.injEq, Prod.mk.injEq] at H; obtain ⟨rfl, rfl⟩ := H; go_enter Tryd.func64, Tryd.ntmps64
  go_wp2_with (first | ((with_reducible refine gate_dst (N := 4) rfl ?_); refine box_event ?hg (N := 4) ?hd (cs := #[.int .i64 0, .int .i64 0]) (t := 88) ?hr ?_; (case hd => rfl); (case hg => rfl); (case hr => first | (go_simp; done) | (go_simp; rfl)); intro gb380 hg w4 hbox hb; have BK380 := ak (hbox); have GW380 := ak ((d10_10 : w.heap.size ≤ gb380)); have GE380 := ak ((d10_10 : w.heap.size ≤ gb380)); replace HB := ak (below_step d10_1 hb); clear hb hbox hg) | (go_at_call 74; (with_reducible refine (impl_calculated__impl_MulNum_1.calls k a0 a1  t381 t382 _ A3.out).mono ?_); rintro e w5 ⟨rfl, hb⟩; replace BK380 := zbb_ (g := gb380) (o := .cells #[.int .i64 0, .int .i64 0] 88 (0, 0)) hb (by (with_reducible repeat first | apply b10N | apply b10D | apply b10L); exact BK380.out); replace HB := ak (below_step (by repeat (first | (with_reducible first | exact HB.out | apply below_alloc | apply pw_below_drewN | apply below_drew1 | refine below_set ?_ GE380.out) | exact HB.out)) hb); (try clear hb); obtain ⟨hcz6_0, hcz6_1, hfz6_0, hfz6_1⟩ := zx2_ BK380.out))
  refine bodyPost_ret (results_cell_row rfl _ _ gb380 88 #[.int .i64 t381, .int .i64 t382] (0, 0) _ rfl (by (with_reducible repeat first | apply b10N | apply b10D | apply b10L); refine zp2_ (.int .i64 0) (.int .i64 0) ?_; (with_reducible repeat first | apply b10N | apply b10D | apply b10L); exact BK380.out) Tryd.underlying88 rfl (by kernel_rfl)) rfl ?_; exact ⟨c10_1, by repeat (first | (with_reducible first | exact HB.out | apply below_alloc | apply pw_below_drewN | apply below_drew1 | refine below_set ?_ GE380.out) | exact HB.out)⟩

/-! ### impl_quotient: function 78 -/
def impl_quotient.f (a0 : Int) (a1 : Int) : Option (Int × Bool) := if a1 = 0 then (some (0, false)) else (if (Int.tmod a0 a1) = 0 then (some (wrap64 (Int.tdiv a0 a1), true)) else (if ((decide (a0 < 0)) != (decide (a1 < 0))) = true then (some (wrap64 ((wrap64 (Int.tdiv a0 a1)) - 1), true)) else (some (wrap64 (Int.tdiv a0 a1), true))))
theorem impl_quotient.calls (a0 : Int) (a1 : Int) (r1 : Int) (r2 : Bool) (w : World) (h : impl_quotient.f a0 a1 = some (r1, r2)) :
    Calls Tryd.prog 78 #[.int .i64 a0, .int .i64 a1] w fun e w' => e = .returned (.tuple #[.int .i64 r1, .bool r2]) ∧ Drawn0 w w' := by
  have H := h; clear h; unfold impl_quotient.f at H; by_cases c3 : a1 = 0
  ·rw [if_pos c3] at H
   obtain ⟨c3b0, c3b1⟩ := zbt_ c3; clear c3; simp only [Option.some.injEq, Prod.mk.injEq] at H; obtain ⟨rfl, rfl⟩ := H; go_enter Tryd.func78, Tryd.ntmps78; go_wp2; go_ret2; exact ⟨c10_5, c10_6⟩
  ·rw [if_neg c3] at H
   obtain ⟨c3b0, c3b1⟩ := zbf_ c3; by_cases c4 : (Int.tmod a0 a1) = 0
   ·rw [if_pos c4] at H
    obtain ⟨c4b0, c4b1⟩ := zbt_ c4; clear c4; simp only [Option.some.injEq, Prod.mk.injEq] at H; obtain ⟨rfl, rfl⟩ := H; go_enter Tryd.func78, Tryd.ntmps78; go_wp2; go_ret2; exact ⟨c10_5, c10_6⟩
   ·rw [if_neg c4] at H
    obtain ⟨c4b0, c4b1⟩ := zbf_ c4; by_cases c5 : ((decide (a0 < 0)) != (decide (a1 < 0))) = true
    ·rw [if_pos c5] at H
     have c5b0 : ((decide (a0 < 0)) != (decide (a1 < 0))) = true := c5
     (try (have c5b1 : decide ((decide (a0 < 0)) = (decide (a1 < 0))) = false := by simpa using c5))
     (try (have c5b2 : ((decide (a0 < 0)) == (decide (a1 < 0))) = false := by simpa using c5))
     (try (have c5b3 : ¬ ((decide (a0 < 0)) = (decide (a1 < 0))) := by simpa using c5))
     clear c5; simp only [Option.some.injEq, Prod.mk.injEq] at H; obtain ⟨rfl, rfl⟩ := H; go_enter Tryd.func78, Tryd.ntmps78; go_wp2; go_ret2; exact ⟨c10_5, c10_6⟩
    ·rw [if_neg c5] at H
     have c5b0 : ((decide (a0 < 0)) != (decide (a1 < 0))) = false := by simpa using c5
     (try (have c5b1 : decide ((decide (a0 < 0)) = (decide (a1 < 0))) = true := by simpa using c5))
     (try (have c5b2 : ((decide (a0 < 0)) == (decide (a1 < 0))) = true := by simpa using c5))
     clear c5; simp only [Option.some.injEq, Prod.mk.injEq] at H; obtain ⟨rfl, rfl⟩ := H; go_enter Tryd.func78, Tryd.ntmps78; go_wp2; go_ret2; exact ⟨c10_5, c10_6⟩

end Go.Proofs.YtolhanigjmhkgadDoor.A
