/- Walks of the program's functions: each Go function's answer as a plain Lean function, and that the call comes to it. Written by a program. Conditions: those in each theorem's own head. -/
import Derived.Test.YtolhanigjmhkgacDoorA0
import Derived.Test.YtolhanigjmhkgacDoorA4
namespace Go.Proofs.YtolhanigjmhkgacDoor.A
open Go.RowKit Go.Proofs.YtolhanigjmhkgacDoorW.PrintWords Go.Proofs.YtolhanigjmhkgacDoorW.PrintLast Go.Proofs.YtolhanigjmhkgacDoorW.PrintMore
attribute [local go_sem] max2_int min2_int max_two min_two max_three min_three max_four min_four   -- for this text's walks alone
set_option linter.unusedVariables false
set_option linter.unusedSimpArgs false

theorem b6N {w : World} {g : Nat} {o : Obj} (h : w.heap[g]? = some o) (n : Nat) : (w.drewN n).heap[g]? = some o := h
theorem b6D {w : World} {g : Nat} {o : Obj} (h : w.heap[g]? = some o) : (w.drew).heap[g]? = some o := h
theorem b6L {w : World} {g : Nat} {o : Obj} (h : w.heap[g]? = some o) (o' : Obj) : (w.alloc o').heap[g]? = some o := blk_alloc h o'
theorem d6_1 {p : Prop} (h : p := by repeat (first | (with_reducible first | exact HB.out | apply below_alloc | apply pw_below_drewN | apply below_drew1) | exact HB.out)) : p := h
theorem d6_2 {p : Prop} (h : p := by (try simp only [List.map_toArray, List.map_cons, List.map_nil]); first | done | rfl | (simp only [List.length_drop, List.length_take]; rfl)) : p := h
theorem d6_3 {p : Prop} (h : p := by repeat (first | (with_reducible first | exact HB.out | apply below_alloc | apply pw_below_drewN | apply below_drew1 | refine below_set ?_ GE293.out) | exact HB.out)) : p := h
theorem d6_4 {p : Prop} (h : p := by repeat (first | (with_reducible first | exact HB.out | apply below_alloc | apply pw_below_drewN | apply below_drew1 | refine below_set ?_ GE306.out) | exact HB.out)) : p := h
theorem d6_5 {p : Prop} (h : p := by repeat (first | (with_reducible first | exact HB.out | apply below_alloc | apply pw_below_drewN | apply below_drew1 | refine below_set ?_ GE319.out) | exact HB.out)) : p := h
theorem d6_6 {p : Prop} (h : p := by first | rfl | (simp; done) | (simp [*]; done) | (simp [ne_nil_b, eq_nil_b]; done)) : p := h
theorem d6_7 {p : Prop} (h : p := by (with_reducible repeat first | apply b6N | apply b6D | apply b6L); exact BK293.out) : p := h
theorem d6_8 {p : Prop} (h : p := by (with_reducible repeat first | apply b6N | apply b6D | apply b6L); exact BK306.out) : p := h
theorem d6_9 {p : Prop} (h : p := by (with_reducible repeat first | apply b6N | apply b6D | apply b6L); exact BK319.out) : p := h
theorem d6_10 {p : Prop} (h : p := by rw [hg]; exact (below_size d6_1)) : p := h
theorem c6_1 {p : Prop} (h : p := by first | rfl | (simp [errW_none, errW_some] <;> rfl) | (simp [*, errW_none, errW_some] <;> rfl)) : p := h
theorem c6_2 {p : Prop} (h : p := by repeat (first | (with_reducible first | exact HB.out | apply below_alloc | apply pw_below_drewN | apply below_drew1 | refine below_set ?_ GE293.out) | exact HB.out)) : p := h
theorem c6_3 {p : Prop} (h : p := by repeat (first | (with_reducible first | exact HB.out | apply below_alloc | apply pw_below_drewN | apply below_drew1 | refine below_set ?_ GE306.out) | exact HB.out)) : p := h
theorem c6_4 {p : Prop} (h : p := by repeat (first | (with_reducible first | exact HB.out | apply below_alloc | apply pw_below_drewN | apply below_drew1 | refine below_set ?_ GE319.out) | exact HB.out)) : p := h
theorem c6_5 {p : Prop} (h : p := by first | rfl | (simp; done) | (simp [*]; done) | (simp [ne_nil_b, eq_nil_b]; done)) : p := h
theorem c6_6 {p : Prop} (h : p := by repeat (first | exact Drawn0.refl _ | apply Drawn0.step)) : p := h
set_option maxHeartbeats 8000000
set_option maxRecDepth 100000
theorem z6c {w : World} {g : Nat} {t : TypeId} {cs : Array Value} (h : w.heap[g]? = some (.cells cs t (0, 0))) (i : Nat) {v : Value} (e : cs[i]? = some v) : w.cell? ⟨g, i, none⟩ = some v := (blk_cell h i).trans e
theorem z6f {w : World} {g : Nat} {t : TypeId} {cs : Array Value} (h : w.heap[g]? = some (.cells cs t (0, 0))) (i : Nat) : w.frozen? ⟨g, i, none⟩ = false := blk_frozen h i
theorem zm6_0 {p : Prop} (h : p := by repeat' first | (with_reducible first | apply ih0 | exact LeO.refl _ | exact LeO.none _ | refine LeO.ite ?_ ?_ | refine LeO.bind ?_ (fun _ => ?_)) | apply ih0 | exact LeO.none _ | refine LeO.ite ?_ ?_ | refine LeO.bind ?_ (fun _ => ?_)) : p := h

/-! ### impl_argsFor: function 35 -/
def impl_argsFor.j0 : Nat → Int → Bool → Option (Int × Int)
  | 0, _, _ => none
  | k + 1, x0, x4 => if x4 = true then (some (2, 2)) else (if x0 = 14 then (some (0, 3)) else (some (1, 1)))
def impl_argsFor.f (k : Nat) (a0 : Int) : Option (Int × Int) := if a0 ≤ 7 then (impl_argsFor.j0 k a0 true) else (impl_argsFor.j0 k a0 (a0 == 12))
theorem impl_argsFor.mono_l : ∀ k, (∀ y0 y1, LeO (impl_argsFor.j0 k y0 y1) (impl_argsFor.j0 (k + 1) y0 y1))
  | 0 => fun _ _ r h => by simp [impl_argsFor.j0] at h
  | k + 1 => by
    have ih0 := impl_argsFor.mono_l k
    · intro y0 y1
      unfold impl_argsFor.j0
      exact zm6_0
theorem impl_argsFor.mono : ∀ a0 k, LeO (impl_argsFor.f k a0) (impl_argsFor.f (k + 1) a0) := by
  intro a0 k; have ih0 := impl_argsFor.mono_l k; unfold impl_argsFor.f
  exact zm6_0
theorem impl_argsFor.calls (k : Nat) (a0 : Int) (r1 : Int) (r2 : Int) (w : World) (h : impl_argsFor.f k a0 = some (r1, r2)) :
    Calls Tryd.prog 35 #[.int .i64 a0] w fun e w' => e = .returned (.tuple #[.int .i64 r1, .int .i64 r2]) ∧ Drawn0 w w' := by
  have H := h; clear h; unfold impl_argsFor.f at H; have HC2 := ak H; clear H; go_enter Tryd.func35, Tryd.ntmps35; go_upto_region 1 with (fail); go_cut [4] (fun v4 wc => ∃ (kq : Nat) (x4_1 : Bool), v4 = .bool x4_1 ∧ Aside0 (impl_argsFor.j0 kq a0 x4_1 = some (r1, r2)) ∧ Aside0 (kq ≤ k) ∧ Drawn0 w wc)
  case first =>
   have H := HC2.out; clear HC2; by_cases c3 : a0 ≤ 7
   ·rw [if_pos c3] at H
    have c3b0 : decide (a0 ≤ 7) = true := decide_eq_true c3; clear c3
    (first | rw [c3b0] | (simp only [i64_w, i32_w]; rw [c3b0]) | skip)
    have H' := ak H; clear H; go_wp2; go_meet
    case rel => exact ⟨_, (true), d6_6, H', ⟨by first | exact Nat.le_refl _ | omega⟩, c6_6⟩
   ·rw [if_neg c3] at H
    have c3b0 : decide (a0 ≤ 7) = false := decide_eq_false c3; clear c3
    (first | rw [c3b0] | (simp only [i64_w, i32_w]; rw [c3b0]) | skip)
    have H' := ak H; clear H; go_wp2; go_meet
    case rel => exact ⟨_, ((a0 == 12)), d6_6, H', ⟨by first | exact Nat.le_refl _ | omega⟩, c6_6⟩
  case rest =>
   clear HC2
   try clear c3
   obtain ⟨kq, x4_1, rfl, HA, HJ1, ⟨mc1, rfl⟩⟩ := hcut
   cases kq with
   | zero => exact absurd HA.out (by simp [impl_argsFor.j0])
   | succ kj1 =>
    have H := HA.out; clear HA; simp only [impl_argsFor.j0] at H; by_cases c4 : x4_1 = true
    ·subst c4
     rw [if_pos rfl] at H; simp only [Option.some.injEq, Prod.mk.injEq] at H; obtain ⟨rfl, rfl⟩ := H; go_wp2; go_ret2; exact ⟨c6_5, c6_6⟩
    ·replace c4 := Bool.eq_false_iff.mpr c4
     subst c4; rw [if_neg (show ¬ (false = true) by decide)] at H; by_cases c5 : a0 = 14
     ·rw [if_pos c5] at H
      obtain ⟨c5b0, c5b1⟩ := zbt_ c5; clear c5; simp only [Option.some.injEq, Prod.mk.injEq] at H; obtain ⟨rfl, rfl⟩ := H; go_wp2; go_ret2; exact ⟨c6_5, c6_6⟩
     ·rw [if_neg c5] at H
      obtain ⟨c5b0, c5b1⟩ := zbf_ c5; simp only [Option.some.injEq, Prod.mk.injEq] at H; obtain ⟨rfl, rfl⟩ := H; go_wp2; go_ret2; exact ⟨c6_5, c6_6⟩

/-! ### impl_boolValue: function 39 -/
def impl_boolValue.f (a0 : Bool) : Option (Int × Int × ByteArray) := if a0 = true then (some (2, 1, (⟨#[]⟩ : ByteArray))) else (some (2, 0, (⟨#[]⟩ : ByteArray)))
theorem impl_boolValue.calls (a0 : Bool) (r1 : Int) (r2 : Int) (r3 : ByteArray) (w : World) (h : impl_boolValue.f a0 = some (r1, r2, r3)) :
    Calls Tryd.prog 39 #[.bool a0] w fun e w' => e = .returned (.agg #[.int .i64 r1, .int .i64 r2, .string r3]) ∧ Below w.heap.size w w' := by
  have hu29 := Tryd.underlying29; have HB := ak (Below.refl w.heap.size w); have H := h; clear h; unfold impl_boolValue.f at H; by_cases c2 : a0 = true
  ·subst c2
   rw [if_pos rfl] at H; simp only [Option.some.injEq, Prod.mk.injEq] at H; obtain ⟨rfl, rfl, rfl⟩ := H; go_enter Tryd.func39, Tryd.ntmps39; go_wp2_with (first | ((with_reducible refine gate_dst (N := 2) rfl ?_); refine box_event ?hg (N := 2) ?hd (cs := #[.int .i64 0, .int .i64 0, .string (⟨#[]⟩ : ByteArray)]) (t := 29) ?hr ?_; (case hd => rfl); (case hg => rfl); (case hr => first | (go_simp; done) | (go_simp; rfl)); intro gb288 hg w3 hbox hb; have BK288 := ak (hbox); have GW288 := ak ((d6_10 : w.heap.size ≤ gb288)); have GE288 := ak ((d6_10 : w.heap.size ≤ gb288)); replace HB := ak (below_step d6_1 hb); clear hb hbox hg; obtain ⟨hcz4_0, hcz4_1, hcz4_2, hfz4_0, hfz4_1, hfz4_2⟩ := zx3_ BK288.out))
   refine bodyPost_ret (results_cell_row rfl _ _ gb288 29 #[.int .i64 2, .int .i64 1, .string (⟨#[]⟩ : ByteArray)] (0, 0) _ rfl (by refine zpl_ ?_; refine zp3_ (.int .i64 0) (.int .i64 0) (.string (⟨#[]⟩ : ByteArray)) ?_; refine zpl_ ?_; exact BK288.out) Tryd.underlying29 rfl (by kernel_rfl)) rfl ?_; exact ⟨c6_1, by repeat (first | (with_reducible first | exact HB.out | apply below_alloc | apply pw_below_drewN | apply below_drew1 | refine below_set ?_ GE288.out) | exact HB.out)⟩
  ·replace c2 := Bool.eq_false_iff.mpr c2
   subst c2; rw [if_neg (show ¬ (false = true) by decide)] at H; simp only [Option.some.injEq, Prod.mk.injEq] at H; obtain ⟨rfl, rfl, rfl⟩ := H; go_enter Tryd.func39, Tryd.ntmps39; go_wp2_with (first | ((with_reducible refine gate_dst (N := 2) rfl ?_); refine box_event ?hg (N := 2) ?hd (cs := #[.int .i64 0, .int .i64 0, .string (⟨#[]⟩ : ByteArray)]) (t := 29) ?hr ?_; (case hd => rfl); (case hg => rfl); (case hr => first | (go_simp; done) | (go_simp; rfl)); intro gb288 hg w5 hbox hb; have BK288 := ak (hbox); have GW288 := ak ((d6_10 : w.heap.size ≤ gb288)); have GE288 := ak ((d6_10 : w.heap.size ≤ gb288)); replace HB := ak (below_step d6_1 hb); clear hb hbox hg; obtain ⟨hcz6_0, hcz6_1, hcz6_2, hfz6_0, hfz6_1, hfz6_2⟩ := zx3_ BK288.out))
   refine bodyPost_ret (results_cell_row rfl _ _ gb288 29 #[.int .i64 2, .int .i64 0, .string (⟨#[]⟩ : ByteArray)] (0, 0) _ rfl (by refine zpl_ ?_; refine zp3_ (.int .i64 0) (.int .i64 0) (.string (⟨#[]⟩ : ByteArray)) ?_; refine zpl_ ?_; exact BK288.out) Tryd.underlying29 rfl (by kernel_rfl)) rfl ?_; exact ⟨c6_1, by repeat (first | (with_reducible first | exact HB.out | apply below_alloc | apply pw_below_drewN | apply below_drew1 | refine below_set ?_ GE288.out) | exact HB.out)⟩

/-! ### impl_AddNum_1: function 65 -/
def impl_AddNum_1.f (a0 : Int) (a1 : Int) : Option (Int × Bool) := some (wrap64 (a0 + a1), true)
theorem impl_AddNum_1.calls (a0 : Int) (a1 : Int) (r1 : Int) (r2 : Bool) (w : World) (h : impl_AddNum_1.f a0 a1 = some (r1, r2)) :
    Calls Tryd.prog 65 #[.int .i64 a0, .int .i64 a1] w fun e w' => e = .returned (.tuple #[.int .i64 r1, .bool r2]) ∧ Drawn0 w w' := by
  have H := h; clear h; unfold impl_AddNum_1.f at H; simp only [Option.some.injEq, Prod.mk.injEq] at H; obtain ⟨rfl, rfl⟩ := H; go_enter Tryd.func65, Tryd.ntmps65; go_wp2; go_ret2; exact ⟨c6_5, c6_6⟩

/-! ### impl_calculated__impl_AddNum_1: function 64 -/
def impl_calculated__impl_AddNum_1.j0 : Nat → Int → Int → Bool → Option (Int × Int)
  | 0, _, _, _ => none
  | k + 1, x0, x1, x16 => if x16 = true then (some (3, 0)) else ((impl_AddNum_1.f x0 x1).bind fun bt296 => (if bt296.2 = true then ((impl_NumFault.f bt296.1).bind fun t298 => (if t298 = 0 then (some (0, bt296.1)) else (some (7, 0)))) else (some (7, 0))))
def impl_calculated__impl_AddNum_1.f (k : Nat) (a0 : Int) (a1 : Int)  : Option (Int × Int) := (impl_NumFault.f a0).bind fun t294 => (if t294 = 0 then ((impl_NumFault.f a1).bind fun t295 => (impl_calculated__impl_AddNum_1.j0 k a0 a1 (t295 != 0))) else (impl_calculated__impl_AddNum_1.j0 k a0 a1 true))
theorem impl_calculated__impl_AddNum_1.mono_l : ∀ k, (∀ y0 y1 y2, LeO (impl_calculated__impl_AddNum_1.j0 k y0 y1 y2) (impl_calculated__impl_AddNum_1.j0 (k + 1) y0 y1 y2))
  | 0 => fun _ _ _ r h => by simp [impl_calculated__impl_AddNum_1.j0] at h
  | k + 1 => by
    have ih0 := impl_calculated__impl_AddNum_1.mono_l k
    · intro y0 y1 y2
      unfold impl_calculated__impl_AddNum_1.j0
      exact zm6_0
theorem impl_calculated__impl_AddNum_1.mono : ∀ a0 a1 k, LeO (impl_calculated__impl_AddNum_1.f k a0 a1) (impl_calculated__impl_AddNum_1.f (k + 1) a0 a1) := by
  intro a0 a1 k; have ih0 := impl_calculated__impl_AddNum_1.mono_l k; unfold impl_calculated__impl_AddNum_1.f
  exact zm6_0
theorem impl_calculated__impl_AddNum_1.calls (k : Nat) (a0 : Int) (a1 : Int)  (r1 : Int) (r2 : Int) (w : World) (h : impl_calculated__impl_AddNum_1.f k a0 a1 = some (r1, r2)) :
    Calls Tryd.prog 64 #[.int .i64 a0, .int .i64 a1, .func (.func 65) #[] #[]] w fun e w' => e = .returned (.agg #[.int .i64 r1, .int .i64 r2]) ∧ Below w.heap.size w w' := by
  have hu83 := Tryd.underlying83; have HB := ak (Below.refl w.heap.size w); have H := h; clear h; unfold impl_calculated__impl_AddNum_1.f at H; have HC4 := ak H; clear H; go_enter Tryd.func64, Tryd.ntmps64; go_upto_region 1 with (first | ((with_reducible refine gate_dst (N := 6) rfl ?_); refine box_event ?hg (N := 6) ?hd (cs := #[.int .i64 0, .int .i64 0]) (t := 83) ?hr ?_; (case hd => rfl); (case hg => rfl); (case hr => first | (go_simp; done) | (go_simp; rfl)); intro gb293 hg w5 hbox hb; have BK293 := ak (hbox); have GW293 := ak ((d6_10 : w.heap.size ≤ gb293)); have GE293 := ak ((d6_10 : w.heap.size ≤ gb293)); replace HB := ak (below_step d6_1 hb); clear hb hbox hg))
  (try simp only [Act.put, List.setIfInBounds_toArray, List.set_cons_zero, List.set_cons_succ])
  go_cut [16] (fun v16 wc => ∃ (kq : Nat) (x16_3 : Bool), v16 = .bool x16_3 ∧ Aside0 (impl_calculated__impl_AddNum_1.j0 kq a0 a1 x16_3 = some (r1, r2)) ∧ Aside0 (kq ≤ k) ∧ Aside0 (wc.heap[gb293]? = some (.cells #[.int .i64 0, .int .i64 0] 83 (0, 0))) ∧ Aside0 (Below w.heap.size w wc))
  case first =>
   have H := HC4.out; clear HC4; obtain ⟨t294, A6, H⟩ := zbi_ H; (try dsimp -simprocs only at H); by_cases c7 : t294 = 0
   ·rw [if_pos c7] at H
    obtain ⟨c7b0, c7b1⟩ := zbt_ c7; clear c7
    (first | rw [c7b0] | (simp only [i64_w, i32_w]; rw [c7b0]) | skip)
    obtain ⟨t295, A8, H⟩ := zbi_ H; (try dsimp -simprocs only at H); have H' := ak H; clear H; go_wp2_with (first | ((with_reducible refine gate_callee (f := 47) rfl ?_); refine zgo_ 10 Tryd.func47 #[.int .i64 a0] ?_ (e := d6_2); (with_reducible refine (impl_NumFault.calls a0 t294 _ A6.out).mono ?_); rintro e w' ⟨rfl, ⟨nd, rfl⟩⟩; refine ⟨_, rfl, ?_⟩) | (go_at_call 47; (with_reducible refine (impl_NumFault.calls a1 t295 _ A8.out).mono ?_); rintro e w' ⟨rfl, ⟨nd, rfl⟩⟩)); go_meet
    case rel => exact ⟨_, ((t295 != 0)), d6_6, H', ⟨by first | exact Nat.le_refl _ | omega⟩, ⟨zpl_ BK293.out⟩, ⟨c6_2⟩⟩
   ·rw [if_neg c7] at H
    obtain ⟨c7b0, c7b1⟩ := zbf_ c7
    (first | rw [c7b0] | (simp only [i64_w, i32_w]; rw [c7b0]) | skip)
    have H' := ak H; clear H; go_wp2_with (first | ((with_reducible refine gate_callee (f := 47) rfl ?_); refine zgo_ 10 Tryd.func47 #[.int .i64 a0] ?_ (e := d6_2); (with_reducible refine (impl_NumFault.calls a0 t294 _ A6.out).mono ?_); rintro e w' ⟨rfl, ⟨nd, rfl⟩⟩; refine ⟨_, rfl, ?_⟩)); go_meet
    case rel => exact ⟨_, (true), d6_6, H', ⟨by first | exact Nat.le_refl _ | omega⟩, ⟨zpl_ BK293.out⟩, ⟨c6_2⟩⟩
  case rest =>
   clear HC4
   try clear c6
   obtain ⟨kq, x16_3, rfl, HA, HJ3, BK293, HB⟩ := hcut
   cases kq with
   | zero => exact absurd HA.out (by simp [impl_calculated__impl_AddNum_1.j0])
   | succ kj3 =>
    have H := HA.out; clear HA; simp only [impl_calculated__impl_AddNum_1.j0] at H; by_cases c9 : x16_3 = true
    ·subst c9
     rw [if_pos rfl] at H; simp only [Option.some.injEq, Prod.mk.injEq] at H; obtain ⟨rfl, rfl⟩ := H; obtain ⟨hcz10_0, hcz10_1, hfz10_0, hfz10_1⟩ := zx2_ BK293.out; go_wp2; refine bodyPost_ret (results_cell_row rfl _ _ gb293 83 #[.int .i64 3, .int .i64 0] (0, 0) _ rfl (by refine zpl_ ?_; refine zp2_ (.int .i64 0) (.int .i64 0) ?_; refine zpl_ ?_; exact BK293.out) Tryd.underlying83 rfl (by kernel_rfl)) rfl ?_; exact ⟨c6_1, c6_2⟩
    ·replace c9 := Bool.eq_false_iff.mpr c9
     subst c9; rw [if_neg (show ¬ (false = true) by decide)] at H; obtain ⟨⟨t296, t297⟩, A11, H⟩ := zbi_ H; (try dsimp -simprocs only at H); by_cases c12 : t297 = true
     ·subst c12
      rw [if_pos rfl] at H; obtain ⟨t298, A13, H⟩ := zbi_ H; (try dsimp -simprocs only at H); by_cases c14 : t298 = 0
      ·rw [if_pos c14] at H
       obtain ⟨c14b0, c14b1⟩ := zbt_ c14; clear c14; simp only [Option.some.injEq, Prod.mk.injEq] at H; obtain ⟨rfl, rfl⟩ := H; go_wp2_with (first | (go_at_call 65; (with_reducible refine (impl_AddNum_1.calls a0 a1 t296 true _ A11.out).mono ?_); rintro e w' ⟨rfl, ⟨nd, rfl⟩⟩; (try (rw [drewN_self wc]; generalize hq_ : World.drewN wc _ = wc; have n0_ : Aside0 (wc.heap[gb293]? = some (.cells #[.int .i64 0, .int .i64 0] 83 (0, 0))) := ⟨by rw [← hq_]; exact d6_7⟩; have n1_ : Aside0 (Below w.heap.size w wc) := ⟨by rw [← hq_]; exact d6_3⟩; clear BK293 HB hq_; have BK293 := n0_; have HB := n1_; clear n0_ n1_))) | (go_at_call 47; (with_reducible refine (impl_NumFault.calls t296 t298 _ A13.out).mono ?_); rintro e w' ⟨rfl, ⟨nd, rfl⟩⟩; (try (rw [drewN_self wc]; generalize hq_ : World.drewN wc _ = wc; have n0_ : Aside0 (wc.heap[gb293]? = some (.cells #[.int .i64 0, .int .i64 0] 83 (0, 0))) := ⟨by rw [← hq_]; exact d6_7⟩; have n1_ : Aside0 (Below w.heap.size w wc) := ⟨by rw [← hq_]; exact d6_3⟩; clear BK293 HB hq_; have BK293 := n0_; have HB := n1_; clear n0_ n1_)); obtain ⟨hcz15_0, hcz15_1, hfz15_0, hfz15_1⟩ := zx2_ BK293.out))
       refine bodyPost_ret (results_cell_row rfl _ _ gb293 83 #[.int .i64 0, .int .i64 t296] (0, 0) _ rfl (by refine zpl_ ?_; refine zp2_ (.int .i64 0) (.int .i64 0) ?_; refine zpl_ ?_; exact BK293.out) Tryd.underlying83 rfl (by kernel_rfl)) rfl ?_; exact ⟨c6_1, c6_2⟩
      ·rw [if_neg c14] at H
       obtain ⟨c14b0, c14b1⟩ := zbf_ c14; simp only [Option.some.injEq, Prod.mk.injEq] at H; obtain ⟨rfl, rfl⟩ := H; go_wp2_with (first | (go_at_call 65; (with_reducible refine (impl_AddNum_1.calls a0 a1 t296 true _ A11.out).mono ?_); rintro e w' ⟨rfl, ⟨nd, rfl⟩⟩; (try (rw [drewN_self wc]; generalize hq_ : World.drewN wc _ = wc; have n0_ : Aside0 (wc.heap[gb293]? = some (.cells #[.int .i64 0, .int .i64 0] 83 (0, 0))) := ⟨by rw [← hq_]; exact d6_7⟩; have n1_ : Aside0 (Below w.heap.size w wc) := ⟨by rw [← hq_]; exact d6_3⟩; clear BK293 HB hq_; have BK293 := n0_; have HB := n1_; clear n0_ n1_))) | (go_at_call 47; (with_reducible refine (impl_NumFault.calls t296 t298 _ A13.out).mono ?_); rintro e w' ⟨rfl, ⟨nd, rfl⟩⟩; (try (rw [drewN_self wc]; generalize hq_ : World.drewN wc _ = wc; have n0_ : Aside0 (wc.heap[gb293]? = some (.cells #[.int .i64 0, .int .i64 0] 83 (0, 0))) := ⟨by rw [← hq_]; exact d6_7⟩; have n1_ : Aside0 (Below w.heap.size w wc) := ⟨by rw [← hq_]; exact d6_3⟩; clear BK293 HB hq_; have BK293 := n0_; have HB := n1_; clear n0_ n1_)); obtain ⟨hcz16_0, hcz16_1, hfz16_0, hfz16_1⟩ := zx2_ BK293.out))
       refine bodyPost_ret (results_cell_row rfl _ _ gb293 83 #[.int .i64 7, .int .i64 0] (0, 0) _ rfl (by refine zpl_ ?_; refine zp2_ (.int .i64 0) (.int .i64 0) ?_; refine zpl_ ?_; exact BK293.out) Tryd.underlying83 rfl (by kernel_rfl)) rfl ?_; exact ⟨c6_1, c6_2⟩
     ·replace c12 := Bool.eq_false_iff.mpr c12
      subst c12; rw [if_neg (show ¬ (false = true) by decide)] at H; simp only [Option.some.injEq, Prod.mk.injEq] at H; obtain ⟨rfl, rfl⟩ := H; go_wp2_with (first | (go_at_call 65; (with_reducible refine (impl_AddNum_1.calls a0 a1 t296 false _ A11.out).mono ?_); rintro e w' ⟨rfl, ⟨nd, rfl⟩⟩; (try (rw [drewN_self wc]; generalize hq_ : World.drewN wc _ = wc; have n0_ : Aside0 (wc.heap[gb293]? = some (.cells #[.int .i64 0, .int .i64 0] 83 (0, 0))) := ⟨by rw [← hq_]; exact d6_7⟩; have n1_ : Aside0 (Below w.heap.size w wc) := ⟨by rw [← hq_]; exact d6_3⟩; clear BK293 HB hq_; have BK293 := n0_; have HB := n1_; clear n0_ n1_)); obtain ⟨hcz17_0, hcz17_1, hfz17_0, hfz17_1⟩ := zx2_ BK293.out)); refine bodyPost_ret (results_cell_row rfl _ _ gb293 83 #[.int .i64 7, .int .i64 0] (0, 0) _ rfl (by refine zpl_ ?_; refine zp2_ (.int .i64 0) (.int .i64 0) ?_; refine zpl_ ?_; exact BK293.out) Tryd.underlying83 rfl (by kernel_rfl)) rfl ?_; exact ⟨c6_1, c6_2⟩

/-! ### impl_AddNum: function 49 -/
def impl_AddNum.f (k : Nat) (a0 : Int) (a1 : Int) : Option (Int × Int) := (impl_calculated__impl_AddNum_1.f k a0 a1).bind fun bt300 => (some (bt300.1, bt300.2))
theorem impl_AddNum.mono : ∀ a0 a1 k, LeO (impl_AddNum.f k a0 a1) (impl_AddNum.f (k + 1) a0 a1) := by
  intro a0 a1 k; unfold impl_AddNum.f
  repeat' first | (with_reducible first | apply impl_calculated__impl_AddNum_1.mono | exact LeO.refl _ | exact LeO.none _ | refine LeO.ite ?_ ?_ | refine LeO.bind ?_ (fun _ => ?_)) | apply impl_calculated__impl_AddNum_1.mono | exact LeO.none _ | refine LeO.ite ?_ ?_ | refine LeO.bind ?_ (fun _ => ?_)
theorem impl_AddNum.calls (k : Nat) (a0 : Int) (a1 : Int) (r1 : Int) (r2 : Int) (w : World) (h : impl_AddNum.f k a0 a1 = some (r1, r2)) :
    Calls Tryd.prog 49 #[.int .i64 a0, .int .i64 a1] w fun e w' => e = .returned (.agg #[.int .i64 r1, .int .i64 r2]) ∧ Below w.heap.size w w' := by
  have hu83 := Tryd.underlying83; have HB := ak (Below.refl w.heap.size w); have H := h; clear h; unfold impl_AddNum.f at H; obtain ⟨⟨t300, t301⟩, A3, H⟩ := zbi_ H; (try dsimp -simprocs only at H); simp only [Option.some.injEq, Prod.mk.injEq] at H; obtain ⟨rfl, rfl⟩ := H; go_enter Tryd.func49, Tryd.ntmps49
  go_wp2_with (first | ((with_reducible refine gate_dst (N := 4) rfl ?_); refine box_event ?hg (N := 4) ?hd (cs := #[.int .i64 0, .int .i64 0]) (t := 83) ?hr ?_; (case hd => rfl); (case hg => rfl); (case hr => first | (go_simp; done) | (go_simp; rfl)); intro gb299 hg w4 hbox hb; have BK299 := ak (hbox); have GW299 := ak ((d6_10 : w.heap.size ≤ gb299)); have GE299 := ak ((d6_10 : w.heap.size ≤ gb299)); replace HB := ak (below_step d6_1 hb); clear hb hbox hg) | (go_at_call 64; (with_reducible refine (impl_calculated__impl_AddNum_1.calls k a0 a1  t300 t301 _ A3.out).mono ?_); rintro e w5 ⟨rfl, hb⟩; replace BK299 := zbb_ (g := gb299) (o := .cells #[.int .i64 0, .int .i64 0] 83 (0, 0)) hb (zpl_ BK299.out); replace HB := ak (below_step (by repeat (first | (with_reducible first | exact HB.out | apply below_alloc | apply pw_below_drewN | apply below_drew1 | refine below_set ?_ GE299.out) | exact HB.out)) hb); (try clear hb); obtain ⟨hcz6_0, hcz6_1, hfz6_0, hfz6_1⟩ := zx2_ BK299.out))
  refine bodyPost_ret (results_cell_row rfl _ _ gb299 83 #[.int .i64 t300, .int .i64 t301] (0, 0) _ rfl (by refine zpl_ ?_; refine zp2_ (.int .i64 0) (.int .i64 0) ?_; refine zpl_ ?_; exact BK299.out) Tryd.underlying83 rfl (by kernel_rfl)) rfl ?_; exact ⟨c6_1, by repeat (first | (with_reducible first | exact HB.out | apply below_alloc | apply pw_below_drewN | apply below_drew1 | refine below_set ?_ GE299.out) | exact HB.out)⟩

/-! ### impl_SubNum_1: function 66 -/
def impl_SubNum_1.f (a0 : Int) (a1 : Int) : Option (Int × Bool) := some (wrap64 (a0 - a1), true)
theorem impl_SubNum_1.calls (a0 : Int) (a1 : Int) (r1 : Int) (r2 : Bool) (w : World) (h : impl_SubNum_1.f a0 a1 = some (r1, r2)) :
    Calls Tryd.prog 66 #[.int .i64 a0, .int .i64 a1] w fun e w' => e = .returned (.tuple #[.int .i64 r1, .bool r2]) ∧ Drawn0 w w' := by
  have H := h; clear h; unfold impl_SubNum_1.f at H; simp only [Option.some.injEq, Prod.mk.injEq] at H; obtain ⟨rfl, rfl⟩ := H; go_enter Tryd.func66, Tryd.ntmps66; go_wp2; go_ret2; exact ⟨c6_5, c6_6⟩

/-! ### impl_calculated__impl_SubNum_1: function 64 -/
def impl_calculated__impl_SubNum_1.j0 : Nat → Int → Int → Bool → Option (Int × Int)
  | 0, _, _, _ => none
  | k + 1, x0, x1, x16 => if x16 = true then (some (3, 0)) else ((impl_SubNum_1.f x0 x1).bind fun bt309 => (if bt309.2 = true then ((impl_NumFault.f bt309.1).bind fun t311 => (if t311 = 0 then (some (0, bt309.1)) else (some (7, 0)))) else (some (7, 0))))
def impl_calculated__impl_SubNum_1.f (k : Nat) (a0 : Int) (a1 : Int)  : Option (Int × Int) := (impl_NumFault.f a0).bind fun t307 => (if t307 = 0 then ((impl_NumFault.f a1).bind fun t308 => (impl_calculated__impl_SubNum_1.j0 k a0 a1 (t308 != 0))) else (impl_calculated__impl_SubNum_1.j0 k a0 a1 true))
theorem impl_calculated__impl_SubNum_1.mono_l : ∀ k, (∀ y0 y1 y2, LeO (impl_calculated__impl_SubNum_1.j0 k y0 y1 y2) (impl_calculated__impl_SubNum_1.j0 (k + 1) y0 y1 y2))
  | 0 => fun _ _ _ r h => by simp [impl_calculated__impl_SubNum_1.j0] at h
  | k + 1 => by
    have ih0 := impl_calculated__impl_SubNum_1.mono_l k
    · intro y0 y1 y2
      unfold impl_calculated__impl_SubNum_1.j0
      exact zm6_0
theorem impl_calculated__impl_SubNum_1.mono : ∀ a0 a1 k, LeO (impl_calculated__impl_SubNum_1.f k a0 a1) (impl_calculated__impl_SubNum_1.f (k + 1) a0 a1) := by
  intro a0 a1 k; have ih0 := impl_calculated__impl_SubNum_1.mono_l k; unfold impl_calculated__impl_SubNum_1.f
  exact zm6_0
theorem impl_calculated__impl_SubNum_1.calls (k : Nat) (a0 : Int) (a1 : Int)  (r1 : Int) (r2 : Int) (w : World) (h : impl_calculated__impl_SubNum_1.f k a0 a1 = some (r1, r2)) :
    Calls Tryd.prog 64 #[.int .i64 a0, .int .i64 a1, .func (.func 66) #[] #[]] w fun e w' => e = .returned (.agg #[.int .i64 r1, .int .i64 r2]) ∧ Below w.heap.size w w' := by
  have hu83 := Tryd.underlying83; have HB := ak (Below.refl w.heap.size w); have H := h; clear h; unfold impl_calculated__impl_SubNum_1.f at H; have HC4 := ak H; clear H; go_enter Tryd.func64, Tryd.ntmps64; go_upto_region 1 with (first | ((with_reducible refine gate_dst (N := 6) rfl ?_); refine box_event ?hg (N := 6) ?hd (cs := #[.int .i64 0, .int .i64 0]) (t := 83) ?hr ?_; (case hd => rfl); (case hg => rfl); (case hr => first | (go_simp; done) | (go_simp; rfl)); intro gb306 hg w5 hbox hb; have BK306 := ak (hbox); have GW306 := ak ((d6_10 : w.heap.size ≤ gb306)); have GE306 := ak ((d6_10 : w.heap.size ≤ gb306)); replace HB := ak (below_step d6_1 hb); clear hb hbox hg))
  (try simp only [Act.put, List.setIfInBounds_toArray, List.set_cons_zero, List.set_cons_succ])
  go_cut [16] (fun v16 wc => ∃ (kq : Nat) (x16_3 : Bool), v16 = .bool x16_3 ∧ Aside0 (impl_calculated__impl_SubNum_1.j0 kq a0 a1 x16_3 = some (r1, r2)) ∧ Aside0 (kq ≤ k) ∧ Aside0 (wc.heap[gb306]? = some (.cells #[.int .i64 0, .int .i64 0] 83 (0, 0))) ∧ Aside0 (Below w.heap.size w wc))
  case first =>
   have H := HC4.out; clear HC4; obtain ⟨t307, A6, H⟩ := zbi_ H; (try dsimp -simprocs only at H); by_cases c7 : t307 = 0
   ·rw [if_pos c7] at H
    obtain ⟨c7b0, c7b1⟩ := zbt_ c7; clear c7
    (first | rw [c7b0] | (simp only [i64_w, i32_w]; rw [c7b0]) | skip)
    obtain ⟨t308, A8, H⟩ := zbi_ H; (try dsimp -simprocs only at H); have H' := ak H; clear H; go_wp2_with (first | ((with_reducible refine gate_callee (f := 47) rfl ?_); refine zgo_ 10 Tryd.func47 #[.int .i64 a0] ?_ (e := d6_2); (with_reducible refine (impl_NumFault.calls a0 t307 _ A6.out).mono ?_); rintro e w' ⟨rfl, ⟨nd, rfl⟩⟩; refine ⟨_, rfl, ?_⟩) | (go_at_call 47; (with_reducible refine (impl_NumFault.calls a1 t308 _ A8.out).mono ?_); rintro e w' ⟨rfl, ⟨nd, rfl⟩⟩)); go_meet
    case rel => exact ⟨_, ((t308 != 0)), d6_6, H', ⟨by first | exact Nat.le_refl _ | omega⟩, ⟨zpl_ BK306.out⟩, ⟨c6_3⟩⟩
   ·rw [if_neg c7] at H
    obtain ⟨c7b0, c7b1⟩ := zbf_ c7
    (first | rw [c7b0] | (simp only [i64_w, i32_w]; rw [c7b0]) | skip)
    have H' := ak H; clear H; go_wp2_with (first | ((with_reducible refine gate_callee (f := 47) rfl ?_); refine zgo_ 10 Tryd.func47 #[.int .i64 a0] ?_ (e := d6_2); (with_reducible refine (impl_NumFault.calls a0 t307 _ A6.out).mono ?_); rintro e w' ⟨rfl, ⟨nd, rfl⟩⟩; refine ⟨_, rfl, ?_⟩)); go_meet
    case rel => exact ⟨_, (true), d6_6, H', ⟨by first | exact Nat.le_refl _ | omega⟩, ⟨zpl_ BK306.out⟩, ⟨c6_3⟩⟩
  case rest =>
   clear HC4
   try clear c6
   obtain ⟨kq, x16_3, rfl, HA, HJ3, BK306, HB⟩ := hcut
   cases kq with
   | zero => exact absurd HA.out (by simp [impl_calculated__impl_SubNum_1.j0])
   | succ kj3 =>
    have H := HA.out; clear HA; simp only [impl_calculated__impl_SubNum_1.j0] at H; by_cases c9 : x16_3 = true
    ·subst c9
     rw [if_pos rfl] at H; simp only [Option.some.injEq, Prod.mk.injEq] at H; obtain ⟨rfl, rfl⟩ := H; obtain ⟨hcz10_0, hcz10_1, hfz10_0, hfz10_1⟩ := zx2_ BK306.out; go_wp2; refine bodyPost_ret (results_cell_row rfl _ _ gb306 83 #[.int .i64 3, .int .i64 0] (0, 0) _ rfl (by refine zpl_ ?_; refine zp2_ (.int .i64 0) (.int .i64 0) ?_; refine zpl_ ?_; exact BK306.out) Tryd.underlying83 rfl (by kernel_rfl)) rfl ?_; exact ⟨c6_1, c6_3⟩
    ·replace c9 := Bool.eq_false_iff.mpr c9
     subst c9; rw [if_neg (show ¬ (false = true) by decide)] at H; obtain ⟨⟨t309, t310⟩, A11, H⟩ := zbi_ H; (try dsimp -simprocs only at H); by_cases c12 : t310 = true
     ·subst c12
      rw [if_pos rfl] at H; obtain ⟨t311, A13, H⟩ := zbi_ H; (try dsimp -simprocs only at H); by_cases c14 : t311 = 0
      ·rw [if_pos c14] at H
       obtain ⟨c14b0, c14b1⟩ := zbt_ c14; clear c14; simp only [Option.some.injEq, Prod.mk.injEq] at H; obtain ⟨rfl, rfl⟩ := H; go_wp2_with (first | (go_at_call 66; (with_reducible refine (impl_SubNum_1.calls a0 a1 t309 true _ A11.out).mono ?_); rintro e w' ⟨rfl, ⟨nd, rfl⟩⟩; (try (rw [drewN_self wc]; generalize hq_ : World.drewN wc _ = wc; have n0_ : Aside0 (wc.heap[gb306]? = some (.cells #[.int .i64 0, .int .i64 0] 83 (0, 0))) := ⟨by rw [← hq_]; exact d6_8⟩; have n1_ : Aside0 (Below w.heap.size w wc) := ⟨by rw [← hq_]; exact d6_4⟩; clear BK306 HB hq_; have BK306 := n0_; have HB := n1_; clear n0_ n1_))) | (go_at_call 47; (with_reducible refine (impl_NumFault.calls t309 t311 _ A13.out).mono ?_); rintro e w' ⟨rfl, ⟨nd, rfl⟩⟩; (try (rw [drewN_self wc]; generalize hq_ : World.drewN wc _ = wc; have n0_ : Aside0 (wc.heap[gb306]? = some (.cells #[.int .i64 0, .int .i64 0] 83 (0, 0))) := ⟨by rw [← hq_]; exact d6_8⟩; have n1_ : Aside0 (Below w.heap.size w wc) := ⟨by rw [← hq_]; exact d6_4⟩; clear BK306 HB hq_; have BK306 := n0_; have HB := n1_; clear n0_ n1_)); obtain ⟨hcz15_0, hcz15_1, hfz15_0, hfz15_1⟩ := zx2_ BK306.out))
       refine bodyPost_ret (results_cell_row rfl _ _ gb306 83 #[.int .i64 0, .int .i64 t309] (0, 0) _ rfl (by refine zpl_ ?_; refine zp2_ (.int .i64 0) (.int .i64 0) ?_; refine zpl_ ?_; exact BK306.out) Tryd.underlying83 rfl (by kernel_rfl)) rfl ?_; exact ⟨c6_1, c6_3⟩
      ·rw [if_neg c14] at H
       obtain ⟨c14b0, c14b1⟩ := zbf_ c14; simp only [Option.some.injEq, Prod.mk.injEq] at H; obtain ⟨rfl, rfl⟩ := H; go_wp2_with (first | (go_at_call 66; (with_reducible refine (impl_SubNum_1.calls a0 a1 t309 true _ A11.out).mono ?_); rintro e w' ⟨rfl, ⟨nd, rfl⟩⟩; (try (rw [drewN_self wc]; generalize hq_ : World.drewN wc _ = wc; have n0_ : Aside0 (wc.heap[gb306]? = some (.cells #[.int .i64 0, .int .i64 0] 83 (0, 0))) := ⟨by rw [← hq_]; exact d6_8⟩; have n1_ : Aside0 (Below w.heap.size w wc) := ⟨by rw [← hq_]; exact d6_4⟩; clear BK306 HB hq_; have BK306 := n0_; have HB := n1_; clear n0_ n1_))) | (go_at_call 47; (with_reducible refine (impl_NumFault.calls t309 t311 _ A13.out).mono ?_); rintro e w' ⟨rfl, ⟨nd, rfl⟩⟩; (try (rw [drewN_self wc]; generalize hq_ : World.drewN wc _ = wc; have n0_ : Aside0 (wc.heap[gb306]? = some (.cells #[.int .i64 0, .int .i64 0] 83 (0, 0))) := ⟨by rw [← hq_]; exact d6_8⟩; have n1_ : Aside0 (Below w.heap.size w wc) := ⟨by rw [← hq_]; exact d6_4⟩; clear BK306 HB hq_; have BK306 := n0_; have HB := n1_; clear n0_ n1_)); obtain ⟨hcz16_0, hcz16_1, hfz16_0, hfz16_1⟩ := zx2_ BK306.out))
       refine bodyPost_ret (results_cell_row rfl _ _ gb306 83 #[.int .i64 7, .int .i64 0] (0, 0) _ rfl (by refine zpl_ ?_; refine zp2_ (.int .i64 0) (.int .i64 0) ?_; refine zpl_ ?_; exact BK306.out) Tryd.underlying83 rfl (by kernel_rfl)) rfl ?_; exact ⟨c6_1, c6_3⟩
     ·replace c12 := Bool.eq_false_iff.mpr c12
      subst c12; rw [if_neg (show ¬ (false = true) by decide)] at H; simp only [Option.some.injEq, Prod.mk.injEq] at H; obtain ⟨rfl, rfl⟩ := H; go_wp2_with (first | (go_at_call 66; (with_reducible refine (impl_SubNum_1.calls a0 a1 t309 false _ A11.out).mono ?_); rintro e w' ⟨rfl, ⟨nd, rfl⟩⟩; (try (rw [drewN_self wc]; generalize hq_ : World.drewN wc _ = wc; have n0_ : Aside0 (wc.heap[gb306]? = some (.cells #[.int .i64 0, .int .i64 0] 83 (0, 0))) := ⟨by rw [← hq_]; exact d6_8⟩; have n1_ : Aside0 (Below w.heap.size w wc) := ⟨by rw [← hq_]; exact d6_4⟩; clear BK306 HB hq_; have BK306 := n0_; have HB := n1_; clear n0_ n1_)); obtain ⟨hcz17_0, hcz17_1, hfz17_0, hfz17_1⟩ := zx2_ BK306.out)); refine bodyPost_ret (results_cell_row rfl _ _ gb306 83 #[.int .i64 7, .int .i64 0] (0, 0) _ rfl (by refine zpl_ ?_; refine zp2_ (.int .i64 0) (.int .i64 0) ?_; refine zpl_ ?_; exact BK306.out) Tryd.underlying83 rfl (by kernel_rfl)) rfl ?_; exact ⟨c6_1, c6_3⟩

/-! ### impl_SubNum: function 50 -/
def impl_SubNum.f (k : Nat) (a0 : Int) (a1 : Int) : Option (Int × Int) := (impl_calculated__impl_SubNum_1.f k a0 a1).bind fun bt313 => (some (bt313.1, bt313.2))
theorem impl_SubNum.mono : ∀ a0 a1 k, LeO (impl_SubNum.f k a0 a1) (impl_SubNum.f (k + 1) a0 a1) := by
  intro a0 a1 k; unfold impl_SubNum.f
  repeat' first | (with_reducible first | apply impl_calculated__impl_SubNum_1.mono | exact LeO.refl _ | exact LeO.none _ | refine LeO.ite ?_ ?_ | refine LeO.bind ?_ (fun _ => ?_)) | apply impl_calculated__impl_SubNum_1.mono | exact LeO.none _ | refine LeO.ite ?_ ?_ | refine LeO.bind ?_ (fun _ => ?_)
theorem impl_SubNum.calls (k : Nat) (a0 : Int) (a1 : Int) (r1 : Int) (r2 : Int) (w : World) (h : impl_SubNum.f k a0 a1 = some (r1, r2)) :
    Calls Tryd.prog 50 #[.int .i64 a0, .int .i64 a1] w fun e w' => e = .returned (.agg #[.int .i64 r1, .int .i64 r2]) ∧ Below w.heap.size w w' := by
  have hu83 := Tryd.underlying83; have HB := ak (Below.refl w.heap.size w); have H := h; clear h; unfold impl_SubNum.f at H; obtain ⟨⟨t313, t314⟩, A3, H⟩ := zbi_ H; (try dsimp -simprocs only at H); simp only [Option.some.injEq, Prod.mk.injEq] at H; obtain ⟨rfl, rfl⟩ := H; go_enter Tryd.func50, Tryd.ntmps50
  go_wp2_with (first | ((with_reducible refine gate_dst (N := 4) rfl ?_); refine box_event ?hg (N := 4) ?hd (cs := #[.int .i64 0, .int .i64 0]) (t := 83) ?hr ?_; (case hd => rfl); (case hg => rfl); (case hr => first | (go_simp; done) | (go_simp; rfl)); intro gb312 hg w4 hbox hb; have BK312 := ak (hbox); have GW312 := ak ((d6_10 : w.heap.size ≤ gb312)); have GE312 := ak ((d6_10 : w.heap.size ≤ gb312)); replace HB := ak (below_step d6_1 hb); clear hb hbox hg) | (go_at_call 64; (with_reducible refine (impl_calculated__impl_SubNum_1.calls k a0 a1  t313 t314 _ A3.out).mono ?_); rintro e w5 ⟨rfl, hb⟩; replace BK312 := zbb_ (g := gb312) (o := .cells #[.int .i64 0, .int .i64 0] 83 (0, 0)) hb (zpl_ BK312.out); replace HB := ak (below_step (by repeat (first | (with_reducible first | exact HB.out | apply below_alloc | apply pw_below_drewN | apply below_drew1 | refine below_set ?_ GE312.out) | exact HB.out)) hb); (try clear hb); obtain ⟨hcz6_0, hcz6_1, hfz6_0, hfz6_1⟩ := zx2_ BK312.out))
  refine bodyPost_ret (results_cell_row rfl _ _ gb312 83 #[.int .i64 t313, .int .i64 t314] (0, 0) _ rfl (by refine zpl_ ?_; refine zp2_ (.int .i64 0) (.int .i64 0) ?_; refine zpl_ ?_; exact BK312.out) Tryd.underlying83 rfl (by kernel_rfl)) rfl ?_; exact ⟨c6_1, by repeat (first | (with_reducible first | exact HB.out | apply below_alloc | apply pw_below_drewN | apply below_drew1 | refine below_set ?_ GE312.out) | exact HB.out)⟩

/-! ### impl_MulNum_1: function 67 -/
def impl_MulNum_1.f (a0 : Int) (a1 : Int) : Option (Int × Bool) := some (wrap64 (a0 * a1), true)
theorem impl_MulNum_1.calls (a0 : Int) (a1 : Int) (r1 : Int) (r2 : Bool) (w : World) (h : impl_MulNum_1.f a0 a1 = some (r1, r2)) :
    Calls Tryd.prog 67 #[.int .i64 a0, .int .i64 a1] w fun e w' => e = .returned (.tuple #[.int .i64 r1, .bool r2]) ∧ Drawn0 w w' := by
  have H := h; clear h; unfold impl_MulNum_1.f at H; simp only [Option.some.injEq, Prod.mk.injEq] at H; obtain ⟨rfl, rfl⟩ := H; go_enter Tryd.func67, Tryd.ntmps67; go_wp2; go_ret2; exact ⟨c6_5, c6_6⟩

/-! ### impl_calculated__impl_MulNum_1: function 64 -/
def impl_calculated__impl_MulNum_1.j0 : Nat → Int → Int → Bool → Option (Int × Int)
  | 0, _, _, _ => none
  | k + 1, x0, x1, x16 => if x16 = true then (some (3, 0)) else ((impl_MulNum_1.f x0 x1).bind fun bt322 => (if bt322.2 = true then ((impl_NumFault.f bt322.1).bind fun t324 => (if t324 = 0 then (some (0, bt322.1)) else (some (7, 0)))) else (some (7, 0))))
def impl_calculated__impl_MulNum_1.f (k : Nat) (a0 : Int) (a1 : Int)  : Option (Int × Int) := (impl_NumFault.f a0).bind fun t320 => (if t320 = 0 then ((impl_NumFault.f a1).bind fun t321 => (impl_calculated__impl_MulNum_1.j0 k a0 a1 (t321 != 0))) else (impl_calculated__impl_MulNum_1.j0 k a0 a1 true))
theorem impl_calculated__impl_MulNum_1.mono_l : ∀ k, (∀ y0 y1 y2, LeO (impl_calculated__impl_MulNum_1.j0 k y0 y1 y2) (impl_calculated__impl_MulNum_1.j0 (k + 1) y0 y1 y2))
  | 0 => fun _ _ _ r h => by simp [impl_calculated__impl_MulNum_1.j0] at h
  | k + 1 => by
    have ih0 := impl_calculated__impl_MulNum_1.mono_l k
    · intro y0 y1 y2
      unfold impl_calculated__impl_MulNum_1.j0
      exact zm6_0
theorem impl_calculated__impl_MulNum_1.mono : ∀ a0 a1 k, LeO (impl_calculated__impl_MulNum_1.f k a0 a1) (impl_calculated__impl_MulNum_1.f (k + 1) a0 a1) := by
  intro a0 a1 k; have ih0 := impl_calculated__impl_MulNum_1.mono_l k; unfold impl_calculated__impl_MulNum_1.f
  exact zm6_0
theorem impl_calculated__impl_MulNum_1.calls (k : Nat) (a0 : Int) (a1 : Int)  (r1 : Int) (r2 : Int) (w : World) (h : impl_calculated__impl_MulNum_1.f k a0 a1 = some (r1, r2)) :
    Calls Tryd.prog 64 #[.int .i64 a0, .int .i64 a1, .func (.func 67) #[] #[]] w fun e w' => e = .returned (.agg #[.int .i64 r1, .int .i64 r2]) ∧ Below w.heap.size w w' := by
  have hu83 := Tryd.underlying83; have HB := ak (Below.refl w.heap.size w); have H := h; clear h; unfold impl_calculated__impl_MulNum_1.f at H; have HC4 := ak H; clear H; go_enter Tryd.func64, Tryd.ntmps64; go_upto_region 1 with (first | ((with_reducible refine gate_dst (N := 6) rfl ?_); refine box_event ?hg (N := 6) ?hd (cs := #[.int .i64 0, .int .i64 0]) (t := 83) ?hr ?_; (case hd => rfl); (case hg => rfl); (case hr => first | (go_simp; done) | (go_simp; rfl)); intro gb319 hg w5 hbox hb; have BK319 := ak (hbox); have GW319 := ak ((d6_10 : w.heap.size ≤ gb319)); have GE319 := ak ((d6_10 : w.heap.size ≤ gb319)); replace HB := ak (below_step d6_1 hb); clear hb hbox hg))
  (try simp only [Act.put, List.setIfInBounds_toArray, List.set_cons_zero, List.set_cons_succ])
  go_cut [16] (fun v16 wc => ∃ (kq : Nat) (x16_3 : Bool), v16 = .bool x16_3 ∧ Aside0 (impl_calculated__impl_MulNum_1.j0 kq a0 a1 x16_3 = some (r1, r2)) ∧ Aside0 (kq ≤ k) ∧ Aside0 (wc.heap[gb319]? = some (.cells #[.int .i64 0, .int .i64 0] 83 (0, 0))) ∧ Aside0 (Below w.heap.size w wc))
  case first =>
   have H := HC4.out; clear HC4; obtain ⟨t320, A6, H⟩ := zbi_ H; (try dsimp -simprocs only at H); by_cases c7 : t320 = 0
   ·rw [if_pos c7] at H
    obtain ⟨c7b0, c7b1⟩ := zbt_ c7; clear c7
    (first | rw [c7b0] | (simp only [i64_w, i32_w]; rw [c7b0]) | skip)
    obtain ⟨t321, A8, H⟩ := zbi_ H; (try dsimp -simprocs only at H); have H' := ak H; clear H; go_wp2_with (first | ((with_reducible refine gate_callee (f := 47) rfl ?_); refine zgo_ 10 Tryd.func47 #[.int .i64 a0] ?_ (e := d6_2); (with_reducible refine (impl_NumFault.calls a0 t320 _ A6.out).mono ?_); rintro e w' ⟨rfl, ⟨nd, rfl⟩⟩; refine ⟨_, rfl, ?_⟩) | (go_at_call 47; (with_reducible refine (impl_NumFault.calls a1 t321 _ A8.out).mono ?_); rintro e w' ⟨rfl, ⟨nd, rfl⟩⟩)); go_meet
    case rel => exact ⟨_, ((t321 != 0)), d6_6, H', ⟨by first | exact Nat.le_refl _ | omega⟩, ⟨zpl_ BK319.out⟩, ⟨c6_4⟩⟩
   ·rw [if_neg c7] at H
    obtain ⟨c7b0, c7b1⟩ := zbf_ c7
    (first | rw [c7b0] | (simp only [i64_w, i32_w]; rw [c7b0]) | skip)
    have H' := ak H; clear H; go_wp2_with (first | ((with_reducible refine gate_callee (f := 47) rfl ?_); refine zgo_ 10 Tryd.func47 #[.int .i64 a0] ?_ (e := d6_2); (with_reducible refine (impl_NumFault.calls a0 t320 _ A6.out).mono ?_); rintro e w' ⟨rfl, ⟨nd, rfl⟩⟩; refine ⟨_, rfl, ?_⟩)); go_meet
    case rel => exact ⟨_, (true), d6_6, H', ⟨by first | exact Nat.le_refl _ | omega⟩, ⟨zpl_ BK319.out⟩, ⟨c6_4⟩⟩
  case rest =>
   clear HC4
   try clear c6
   obtain ⟨kq, x16_3, rfl, HA, HJ3, BK319, HB⟩ := hcut
   cases kq with
   | zero => exact absurd HA.out (by simp [impl_calculated__impl_MulNum_1.j0])
   | succ kj3 =>
    have H := HA.out; clear HA; simp only [impl_calculated__impl_MulNum_1.j0] at H; by_cases c9 : x16_3 = true
    ·subst c9
     rw [if_pos rfl] at H; simp only [Option.some.injEq, Prod.mk.injEq] at H; obtain ⟨rfl, rfl⟩ := H; obtain ⟨hcz10_0, hcz10_1, hfz10_0, hfz10_1⟩ := zx2_ BK319.out; go_wp2; refine bodyPost_ret (results_cell_row rfl _ _ gb319 83 #[.int .i64 3, .int .i64 0] (0, 0) _ rfl (by refine zpl_ ?_; refine zp2_ (.int .i64 0) (.int .i64 0) ?_; refine zpl_ ?_; exact BK319.out) Tryd.underlying83 rfl (by kernel_rfl)) rfl ?_; exact ⟨c6_1, c6_4⟩
    ·replace c9 := Bool.eq_false_iff.mpr c9
     subst c9; rw [if_neg (show ¬ (false = true) by decide)] at H; obtain ⟨⟨t322, t323⟩, A11, H⟩ := zbi_ H; (try dsimp -simprocs only at H); by_cases c12 : t323 = true
     ·subst c12
      rw [if_pos rfl] at H; obtain ⟨t324, A13, H⟩ := zbi_ H; (try dsimp -simprocs only at H); by_cases c14 : t324 = 0
      ·rw [if_pos c14] at H
       obtain ⟨c14b0, c14b1⟩ := zbt_ c14; clear c14; simp only [Option.some.injEq, Prod.mk.injEq] at H; obtain ⟨rfl, rfl⟩ := H; go_wp2_with (first | (go_at_call 67; (with_reducible refine (impl_MulNum_1.calls a0 a1 t322 true _ A11.out).mono ?_); rintro e w' ⟨rfl, ⟨nd, rfl⟩⟩; (try (rw [drewN_self wc]; generalize hq_ : World.drewN wc _ = wc; have n0_ : Aside0 (wc.heap[gb319]? = some (.cells #[.int .i64 0, .int .i64 0] 83 (0, 0))) := ⟨by rw [← hq_]; exact d6_9⟩; have n1_ : Aside0 (Below w.heap.size w wc) := ⟨by rw [← hq_]; exact d6_5⟩; clear BK319 HB hq_; have BK319 := n0_; have HB := n1_; clear n0_ n1_))) | (go_at_call 47; (with_reducible refine (impl_NumFault.calls t322 t324 _ A13.out).mono ?_); rintro e w' ⟨rfl, ⟨nd, rfl⟩⟩; (try (rw [drewN_self wc]; generalize hq_ : World.drewN wc _ = wc; have n0_ : Aside0 (wc.heap[gb319]? = some (.cells #[.int .i64 0, .int .i64 0] 83 (0, 0))) := ⟨by rw [← hq_]; exact d6_9⟩; have n1_ : Aside0 (Below w.heap.size w wc) := ⟨by rw [← hq_]; exact d6_5⟩; clear BK319 HB hq_; have BK319 := n0_; have HB := n1_; clear n0_ n1_)); obtain ⟨hcz15_0, hcz15_1, hfz15_0, hfz15_1⟩ := zx2_ BK319.out))
       refine bodyPost_ret (results_cell_row rfl _ _ gb319 83 #[.int .i64 0, .int .i64 t322] (0, 0) _ rfl (by refine zpl_ ?_; refine zp2_ (.int .i64 0) (.int .i64 0) ?_; refine zpl_ ?_; exact BK319.out) Tryd.underlying83 rfl (by kernel_rfl)) rfl ?_; exact ⟨c6_1, c6_4⟩
      ·rw [if_neg c14] at H
       obtain ⟨c14b0, c14b1⟩ := zbf_ c14; simp only [Option.some.injEq, Prod.mk.injEq] at H; obtain ⟨rfl, rfl⟩ := H; go_wp2_with (first | (go_at_call 67; (with_reducible refine (impl_MulNum_1.calls a0 a1 t322 true _ A11.out).mono ?_); rintro e w' ⟨rfl, ⟨nd, rfl⟩⟩; (try (rw [drewN_self wc]; generalize hq_ : World.drewN wc _ = wc; have n0_ : Aside0 (wc.heap[gb319]? = some (.cells #[.int .i64 0, .int .i64 0] 83 (0, 0))) := ⟨by rw [← hq_]; exact d6_9⟩; have n1_ : Aside0 (Below w.heap.size w wc) := ⟨by rw [← hq_]; exact d6_5⟩; clear BK319 HB hq_; have BK319 := n0_; have HB := n1_; clear n0_ n1_))) | (go_at_call 47; (with_reducible refine (impl_NumFault.calls t322 t324 _ A13.out).mono ?_); rintro e w' ⟨rfl, ⟨nd, rfl⟩⟩; (try (rw [drewN_self wc]; generalize hq_ : World.drewN wc _ = wc; have n0_ : Aside0 (wc.heap[gb319]? = some (.cells #[.int .i64 0, .int .i64 0] 83 (0, 0))) := ⟨by rw [← hq_]; exact d6_9⟩; have n1_ : Aside0 (Below w.heap.size w wc) := ⟨by rw [← hq_]; exact d6_5⟩; clear BK319 HB hq_; have BK319 := n0_; have HB := n1_; clear n0_ n1_)); obtain ⟨hcz16_0, hcz16_1, hfz16_0, hfz16_1⟩ := zx2_ BK319.out))
       refine bodyPost_ret (results_cell_row rfl _ _ gb319 83 #[.int .i64 7, .int .i64 0] (0, 0) _ rfl (by refine zpl_ ?_; refine zp2_ (.int .i64 0) (.int .i64 0) ?_; refine zpl_ ?_; exact BK319.out) Tryd.underlying83 rfl (by kernel_rfl)) rfl ?_; exact ⟨c6_1, c6_4⟩
     ·replace c12 := Bool.eq_false_iff.mpr c12
      subst c12; rw [if_neg (show ¬ (false = true) by decide)] at H; simp only [Option.some.injEq, Prod.mk.injEq] at H; obtain ⟨rfl, rfl⟩ := H; go_wp2_with (first | (go_at_call 67; (with_reducible refine (impl_MulNum_1.calls a0 a1 t322 false _ A11.out).mono ?_); rintro e w' ⟨rfl, ⟨nd, rfl⟩⟩; (try (rw [drewN_self wc]; generalize hq_ : World.drewN wc _ = wc; have n0_ : Aside0 (wc.heap[gb319]? = some (.cells #[.int .i64 0, .int .i64 0] 83 (0, 0))) := ⟨by rw [← hq_]; exact d6_9⟩; have n1_ : Aside0 (Below w.heap.size w wc) := ⟨by rw [← hq_]; exact d6_5⟩; clear BK319 HB hq_; have BK319 := n0_; have HB := n1_; clear n0_ n1_)); obtain ⟨hcz17_0, hcz17_1, hfz17_0, hfz17_1⟩ := zx2_ BK319.out)); refine bodyPost_ret (results_cell_row rfl _ _ gb319 83 #[.int .i64 7, .int .i64 0] (0, 0) _ rfl (by refine zpl_ ?_; refine zp2_ (.int .i64 0) (.int .i64 0) ?_; refine zpl_ ?_; exact BK319.out) Tryd.underlying83 rfl (by kernel_rfl)) rfl ?_; exact ⟨c6_1, c6_4⟩

/-! ### impl_MulNum: function 51 -/
def impl_MulNum.f (k : Nat) (a0 : Int) (a1 : Int) : Option (Int × Int) := (impl_calculated__impl_MulNum_1.f k a0 a1).bind fun bt326 => (some (bt326.1, bt326.2))
theorem impl_MulNum.mono : ∀ a0 a1 k, LeO (impl_MulNum.f k a0 a1) (impl_MulNum.f (k + 1) a0 a1) := by
  intro a0 a1 k; unfold impl_MulNum.f
  repeat' first | (with_reducible first | apply impl_calculated__impl_MulNum_1.mono | exact LeO.refl _ | exact LeO.none _ | refine LeO.ite ?_ ?_ | refine LeO.bind ?_ (fun _ => ?_)) | apply impl_calculated__impl_MulNum_1.mono | exact LeO.none _ | refine LeO.ite ?_ ?_ | refine LeO.bind ?_ (fun _ => ?_)
theorem impl_MulNum.calls (k : Nat) (a0 : Int) (a1 : Int) (r1 : Int) (r2 : Int) (w : World) (h : impl_MulNum.f k a0 a1 = some (r1, r2)) :
    Calls Tryd.prog 51 #[.int .i64 a0, .int .i64 a1] w fun e w' => e = .returned (.agg #[.int .i64 r1, .int .i64 r2]) ∧ Below w.heap.size w w' := by
  have hu83 := Tryd.underlying83; have HB := ak (Below.refl w.heap.size w); have H := h; clear h; unfold impl_MulNum.f at H; obtain ⟨⟨t326, t327⟩, A3, H⟩ := zbi_ H; (try dsimp -simprocs only at H); simp only [Option.some.injEq, Prod.mk.injEq] at H; obtain ⟨rfl, rfl⟩ := H; go_enter Tryd.func51, Tryd.ntmps51
  go_wp2_with (first | ((with_reducible refine gate_dst (N := 4) rfl ?_); refine box_event ?hg (N := 4) ?hd (cs := #[.int .i64 0, .int .i64 0]) (t := 83) ?hr ?_; (case hd => rfl); (case hg => rfl); (case hr => first | (go_simp; done) | (go_simp; rfl)); intro gb325 hg w4 hbox hb; have BK325 := ak (hbox); have GW325 := ak ((d6_10 : w.heap.size ≤ gb325)); have GE325 := ak ((d6_10 : w.heap.size ≤ gb325)); replace HB := ak (below_step d6_1 hb); clear hb hbox hg) | (go_at_call 64; (with_reducible refine (impl_calculated__impl_MulNum_1.calls k a0 a1  t326 t327 _ A3.out).mono ?_); rintro e w5 ⟨rfl, hb⟩; replace BK325 := zbb_ (g := gb325) (o := .cells #[.int .i64 0, .int .i64 0] 83 (0, 0)) hb (zpl_ BK325.out); replace HB := ak (below_step (by repeat (first | (with_reducible first | exact HB.out | apply below_alloc | apply pw_below_drewN | apply below_drew1 | refine below_set ?_ GE325.out) | exact HB.out)) hb); (try clear hb); obtain ⟨hcz6_0, hcz6_1, hfz6_0, hfz6_1⟩ := zx2_ BK325.out))
  refine bodyPost_ret (results_cell_row rfl _ _ gb325 83 #[.int .i64 t326, .int .i64 t327] (0, 0) _ rfl (by refine zpl_ ?_; refine zp2_ (.int .i64 0) (.int .i64 0) ?_; refine zpl_ ?_; exact BK325.out) Tryd.underlying83 rfl (by kernel_rfl)) rfl ?_; exact ⟨c6_1, by repeat (first | (with_reducible first | exact HB.out | apply below_alloc | apply pw_below_drewN | apply below_drew1 | refine below_set ?_ GE325.out) | exact HB.out)⟩

/-! ### impl_quotient: function 68 -/
def impl_quotient.f (a0 : Int) (a1 : Int) : Option (Int × Bool) := if a1 = 0 then (some (0, false)) else (if (Int.tmod a0 a1) = 0 then (some (wrap64 (Int.tdiv a0 a1), true)) else (if ((decide (a0 < 0)) != (decide (a1 < 0))) = true then (some (wrap64 ((wrap64 (Int.tdiv a0 a1)) - 1), true)) else (some (wrap64 (Int.tdiv a0 a1), true))))
theorem impl_quotient.calls (a0 : Int) (a1 : Int) (r1 : Int) (r2 : Bool) (w : World) (h : impl_quotient.f a0 a1 = some (r1, r2)) :
    Calls Tryd.prog 68 #[.int .i64 a0, .int .i64 a1] w fun e w' => e = .returned (.tuple #[.int .i64 r1, .bool r2]) ∧ Drawn0 w w' := by
  have H := h; clear h; unfold impl_quotient.f at H; by_cases c3 : a1 = 0
  ·rw [if_pos c3] at H
   obtain ⟨c3b0, c3b1⟩ := zbt_ c3; clear c3; simp only [Option.some.injEq, Prod.mk.injEq] at H; obtain ⟨rfl, rfl⟩ := H; go_enter Tryd.func68, Tryd.ntmps68; go_wp2; go_ret2; exact ⟨c6_5, c6_6⟩
  ·rw [if_neg c3] at H
   obtain ⟨c3b0, c3b1⟩ := zbf_ c3; by_cases c4 : (Int.tmod a0 a1) = 0
   ·rw [if_pos c4] at H
    obtain ⟨c4b0, c4b1⟩ := zbt_ c4; clear c4; simp only [Option.some.injEq, Prod.mk.injEq] at H; obtain ⟨rfl, rfl⟩ := H; go_enter Tryd.func68, Tryd.ntmps68; go_wp2; go_ret2; exact ⟨c6_5, c6_6⟩
   ·rw [if_neg c4] at H
    obtain ⟨c4b0, c4b1⟩ := zbf_ c4; by_cases c5 : ((decide (a0 < 0)) != (decide (a1 < 0))) = true
    ·rw [if_pos c5] at H
     have c5b0 : ((decide (a0 < 0)) != (decide (a1 < 0))) = true := c5
     (try (have c5b1 : decide ((decide (a0 < 0)) = (decide (a1 < 0))) = false := by simpa using c5))
     (try (have c5b2 : ((decide (a0 < 0)) == (decide (a1 < 0))) = false := by simpa using c5))
     (try (have c5b3 : ¬ ((decide (a0 < 0)) = (decide (a1 < 0))) := by simpa using c5))
     clear c5; simp only [Option.some.injEq, Prod.mk.injEq] at H; obtain ⟨rfl, rfl⟩ := H; go_enter Tryd.func68, Tryd.ntmps68; go_wp2; go_ret2; exact ⟨c6_5, c6_6⟩
    ·rw [if_neg c5] at H
     have c5b0 : ((decide (a0 < 0)) != (decide (a1 < 0))) = false := by simpa using c5
     (try (have c5b1 : decide ((decide (a0 < 0)) = (decide (a1 < 0))) = true := by simpa using c5))
     (try (have c5b2 : ((decide (a0 < 0)) == (decide (a1 < 0))) = true := by simpa using c5))
     clear c5; simp only [Option.some.injEq, Prod.mk.injEq] at H; obtain ⟨rfl, rfl⟩ := H; go_enter Tryd.func68, Tryd.ntmps68; go_wp2; go_ret2; exact ⟨c6_5, c6_6⟩

end Go.Proofs.YtolhanigjmhkgacDoor.A
