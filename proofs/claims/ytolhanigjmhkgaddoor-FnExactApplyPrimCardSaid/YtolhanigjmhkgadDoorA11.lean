/- Walks of the program's functions: each Go function's answer as a plain Lean function, and that the call comes to it. Written by a program. Conditions: those in each theorem's own head. -/
import Derived.Test.YtolhanigjmhkgadDoorA0
import Derived.Test.YtolhanigjmhkgadDoorA8
import Derived.Test.YtolhanigjmhkgadDoorA10
namespace Go.Proofs.YtolhanigjmhkgadDoor.A
open Go.RowKit Go.Proofs.YtolhanigjmhkgadDoorW.PrintWords Go.Proofs.YtolhanigjmhkgadDoorW.PrintLast Go.Proofs.YtolhanigjmhkgadDoorW.PrintMore
attribute [local go_sem] max2_int min2_int max_two min_two max_three min_three max_four min_four   -- for this text's walks alone
set_option linter.unusedVariables false
set_option linter.unusedSimpArgs false

theorem b11N {w : World} {g : Nat} {o : Obj} (h : w.heap[g]? = some o) (n : Nat) : (w.drewN n).heap[g]? = some o := h
theorem b11D {w : World} {g : Nat} {o : Obj} (h : w.heap[g]? = some o) : (w.drew).heap[g]? = some o := h
theorem b11L {w : World} {g : Nat} {o : Obj} (h : w.heap[g]? = some o) (o' : Obj) : (w.alloc o').heap[g]? = some o := blk_alloc h o'
theorem d11_1 {p : Prop} (h : p := by repeat (first | (with_reducible first | exact HB.out | apply below_alloc | apply pw_below_drewN | apply below_drew1) | exact HB.out)) : p := h
theorem d11_2 {p : Prop} (h : p := by repeat (first | (with_reducible first | exact HB.out | apply below_alloc | apply pw_below_drewN | apply below_drew1 | refine below_set ?_ GE384.out) | exact HB.out)) : p := h
theorem d11_3 {p : Prop} (h : p := by repeat (first | (with_reducible first | exact HB.out | apply below_alloc | apply pw_below_drewN | apply below_drew1 | refine below_set ?_ GE399.out) | exact HB.out)) : p := h
theorem d11_4 {p : Prop} (h : p := by (try simp only [List.map_toArray, List.map_cons, List.map_nil]); first | done | rfl | (simp only [List.length_drop, List.length_take]; rfl)) : p := h
theorem d11_5 {p : Prop} (h : p := by (with_reducible repeat first | apply b11N | apply b11D | apply b11L); exact BK384.out) : p := h
theorem d11_6 {p : Prop} (h : p := by (with_reducible repeat first | apply b11N | apply b11D | apply b11L); exact BK399.out) : p := h
theorem c11_1 {p : Prop} (h : p := by first | rfl | (simp [errW_none, errW_some] <;> rfl) | (simp [*, errW_none, errW_some] <;> rfl)) : p := h
theorem c11_2 {p : Prop} (h : p := by repeat (first | (with_reducible first | exact HB.out | apply below_alloc | apply pw_below_drewN | apply below_drew1 | refine below_set ?_ GE384.out) | exact HB.out)) : p := h
theorem c11_3 {p : Prop} (h : p := by repeat (first | (with_reducible first | exact HB.out | apply below_alloc | apply pw_below_drewN | apply below_drew1 | refine below_set ?_ GE399.out) | exact HB.out)) : p := h
set_option maxHeartbeats 8000000
set_option maxRecDepth 100000
theorem z11c {w : World} {g : Nat} {t : TypeId} {cs : Array Value} (h : w.heap[g]? = some (.cells cs t (0, 0))) (i : Nat) {v : Value} (e : cs[i]? = some v) : w.cell? ⟨g, i, none⟩ = some v := (blk_cell h i).trans e
theorem zm11_0 {p : Prop} (h : p := by repeat' first | (with_reducible first | apply ih0 | exact LeO.refl _ | exact LeO.none _ | refine LeO.ite ?_ ?_ | refine LeO.bind ?_ (fun _ => ?_)) | apply ih0 | exact LeO.none _ | refine LeO.ite ?_ ?_ | refine LeO.bind ?_ (fun _ => ?_)) : p := h

/-! ### impl_calculated__impl_quotient: function 74 -/
def impl_calculated__impl_quotient.j0 : Nat → Int → Int → Bool → Option (Int × Int)
  | 0, _, _, _ => none
  | k + 1, x0, x1, x16 => if x16 = true then (some (3, 0)) else ((impl_quotient.f x0 x1).bind fun bt387 => (if bt387.2 = true then ((impl_NumFault.f bt387.1).bind fun t389 => (if t389 = 0 then (some (0, bt387.1)) else (some (7, 0)))) else (some (7, 0))))
def impl_calculated__impl_quotient.f (k : Nat) (a0 : Int) (a1 : Int)  : Option (Int × Int) := (impl_NumFault.f a0).bind fun t385 => (if t385 = 0 then ((impl_NumFault.f a1).bind fun t386 => (impl_calculated__impl_quotient.j0 k a0 a1 (t386 != 0))) else (impl_calculated__impl_quotient.j0 k a0 a1 true))
theorem impl_calculated__impl_quotient.mono_l : ∀ k, (∀ y0 y1 y2, LeO (impl_calculated__impl_quotient.j0 k y0 y1 y2) (impl_calculated__impl_quotient.j0 (k + 1) y0 y1 y2))
  | 0 => fun _ _ _ r h => by simp [impl_calculated__impl_quotient.j0] at h
  | k + 1 => by
    have ih0 := impl_calculated__impl_quotient.mono_l k
    · intro y0 y1 y2
      unfold impl_calculated__impl_quotient.j0
      exact zm11_0
theorem impl_calculated__impl_quotient.mono : ∀ a0 a1 k, LeO (impl_calculated__impl_quotient.f k a0 a1) (impl_calculated__impl_quotient.f (k + 1) a0 a1) := by
  intro a0 a1 k; have ih0 := impl_calculated__impl_quotient.mono_l k; unfold impl_calculated__impl_quotient.f
  exact zm11_0
theorem impl_calculated__impl_quotient.calls (k : Nat) (a0 : Int) (a1 : Int)  (r1 : Int) (r2 : Int) (w : World) (h : impl_calculated__impl_quotient.f k a0 a1 = some (r1, r2)) :
    Calls Tryd.prog 74 #[.int .i64 a0, .int .i64 a1, .func (.func 78) #[] #[]] w fun e w' => e = .returned (.agg #[.int .i64 r1, .int .i64 r2]) ∧ Below w.heap.size w w' := by
  have hu88 := Tryd.underlying88; have HB := ak (Below.refl w.heap.size w); have H := h; clear h; unfold impl_calculated__impl_quotient.f at H; have HC4 := ak H; clear H; go_enter Tryd.func74, Tryd.ntmps74; go_upto_region 1 with (first | ((with_reducible refine gate_dst (N := 6) rfl ?_); refine box_event ?hg (N := 6) ?hd (cs := #[.int .i64 0, .int .i64 0]) (t := 88) ?hr ?_; (case hd => rfl); (case hg => rfl); (case hr => first | (go_simp; done) | (go_simp; rfl)); intro gb384 hg w5 hbox hb; have BK384 := ak (hbox); have GW384 := ak ((by rw [hg]; exact (below_size d11_1) : w.heap.size ≤ gb384)); have GE384 := ak ((by rw [hg]; exact (below_size d11_1) : w.heap.size ≤ gb384)); replace HB := ak (below_step d11_1 hb); clear hb hbox hg))
  (try simp only [Act.put, List.setIfInBounds_toArray, List.set_cons_zero, List.set_cons_succ])
  go_cut [16] (fun v16 wc => ∃ (kq : Nat) (x16_3 : Bool), v16 = .bool x16_3 ∧ Aside0 (impl_calculated__impl_quotient.j0 kq a0 a1 x16_3 = some (r1, r2)) ∧ Aside0 (kq ≤ k) ∧ Aside0 (wc.heap[gb384]? = some (.cells #[.int .i64 0, .int .i64 0] 88 (0, 0))) ∧ Aside0 (Below w.heap.size w wc))
  case first =>
   have H := HC4.out; clear HC4; obtain ⟨t385, A6, H⟩ := zbi_ H; (try dsimp -simprocs only at H); by_cases c7 : t385 = 0
   ·rw [if_pos c7] at H
    obtain ⟨c7b0, c7b1⟩ := zbt_ c7; clear c7
    (first | rw [c7b0] | (simp only [i64_w, i32_w]; rw [c7b0]) | skip)
    obtain ⟨t386, A8, H⟩ := zbi_ H; (try dsimp -simprocs only at H); have H' := ak H; clear H; go_wp2_with (first | ((with_reducible refine gate_callee (f := 72) rfl ?_); refine zgo_ 10 Tryd.func72 #[.int .i64 a0] ?_ (e := d11_4); (with_reducible refine (impl_NumFault.calls a0 t385 _ A6.out).mono ?_); rintro e w' ⟨rfl, ⟨nd, rfl⟩⟩; refine ⟨_, rfl, ?_⟩) | (go_at_call 72; (with_reducible refine (impl_NumFault.calls a1 t386 _ A8.out).mono ?_); rintro e w' ⟨rfl, ⟨nd, rfl⟩⟩)); go_meet
    case rel => exact ⟨_, ((t386 != 0)), (by first | rfl | (simp; done) | (simp [*]; done) | (simp [ne_nil_b, eq_nil_b]; done)), H', ⟨by first | exact Nat.le_refl _ | omega⟩, ⟨by (with_reducible repeat first | apply b11N | apply b11D | apply b11L); exact BK384.out⟩, ⟨c11_2⟩⟩
   ·rw [if_neg c7] at H
    obtain ⟨c7b0, c7b1⟩ := zbf_ c7
    (first | rw [c7b0] | (simp only [i64_w, i32_w]; rw [c7b0]) | skip)
    have H' := ak H; clear H; go_wp2_with (first | ((with_reducible refine gate_callee (f := 72) rfl ?_); refine zgo_ 10 Tryd.func72 #[.int .i64 a0] ?_ (e := d11_4); (with_reducible refine (impl_NumFault.calls a0 t385 _ A6.out).mono ?_); rintro e w' ⟨rfl, ⟨nd, rfl⟩⟩; refine ⟨_, rfl, ?_⟩)); go_meet
    case rel => exact ⟨_, (true), (by first | rfl | (simp; done) | (simp [*]; done) | (simp [ne_nil_b, eq_nil_b]; done)), H', ⟨by first | exact Nat.le_refl _ | omega⟩, ⟨by (with_reducible repeat first | apply b11N | apply b11D | apply b11L); exact BK384.out⟩, ⟨c11_2⟩⟩
  case rest =>
   clear HC4
   try clear c7
   obtain ⟨kq, x16_3, rfl, HA, HJ3, BK384, HB⟩ := hcut
   cases kq with
   | zero => exact absurd HA.out (by simp [impl_calculated__impl_quotient.j0])
   | succ kj3 =>
    have H := HA.out; clear HA; simp only [impl_calculated__impl_quotient.j0] at H; by_cases c9 : x16_3 = true
    ·subst c9
     rw [if_pos rfl] at H; simp only [Option.some.injEq, Prod.mk.injEq] at H; obtain ⟨rfl, rfl⟩ := H; obtain ⟨hcz10_0, hcz10_1, hfz10_0, hfz10_1⟩ := zx2_ BK384.out; go_wp2; refine bodyPost_ret (results_cell_row rfl _ _ gb384 88 #[.int .i64 3, .int .i64 0] (0, 0) _ rfl (by (with_reducible repeat first | apply b11N | apply b11D | apply b11L); refine zp2_ (.int .i64 0) (.int .i64 0) ?_; (with_reducible repeat first | apply b11N | apply b11D | apply b11L); exact BK384.out) Tryd.underlying88 rfl (by kernel_rfl)) rfl ?_; exact ⟨c11_1, c11_2⟩
    ·replace c9 := Bool.eq_false_iff.mpr c9
     subst c9; rw [if_neg (show ¬ (false = true) by decide)] at H; obtain ⟨⟨t387, t388⟩, A11, H⟩ := zbi_ H; (try dsimp -simprocs only at H); by_cases c12 : t388 = true
     ·subst c12
      rw [if_pos rfl] at H; obtain ⟨t389, A13, H⟩ := zbi_ H; (try dsimp -simprocs only at H); by_cases c14 : t389 = 0
      ·rw [if_pos c14] at H
       obtain ⟨c14b0, c14b1⟩ := zbt_ c14; clear c14; simp only [Option.some.injEq, Prod.mk.injEq] at H; obtain ⟨rfl, rfl⟩ := H; go_wp2_with (first | (go_at_call 78; (with_reducible refine (impl_quotient.calls a0 a1 t387 true _ A11.out).mono ?_); rintro e w' ⟨rfl, ⟨nd, rfl⟩⟩; (try (rw [drewN_self wc]; generalize hq_ : World.drewN wc _ = wc; have n0_ : Aside0 (wc.heap[gb384]? = some (.cells #[.int .i64 0, .int .i64 0] 88 (0, 0))) := ⟨by rw [← hq_]; exact d11_5⟩; have n1_ : Aside0 (Below w.heap.size w wc) := ⟨by rw [← hq_]; exact d11_2⟩; clear BK384 HB hq_; have BK384 := n0_; have HB := n1_; clear n0_ n1_))) | (go_at_call 72; (with_reducible refine (impl_NumFault.calls t387 t389 _ A13.out).mono ?_); rintro e w' ⟨rfl, ⟨nd, rfl⟩⟩; (try (rw [drewN_self wc]; generalize hq_ : World.drewN wc _ = wc; have n0_ : Aside0 (wc.heap[gb384]? = some (.cells #[.int .i64 0, .int .i64 0] 88 (0, 0))) := ⟨by rw [← hq_]; exact d11_5⟩; have n1_ : Aside0 (Below w.heap.size w wc) := ⟨by rw [← hq_]; exact d11_2⟩; clear BK384 HB hq_; have BK384 := n0_; have HB := n1_; clear n0_ n1_)); obtain ⟨hcz15_0, hcz15_1, hfz15_0, hfz15_1⟩ := zx2_ BK384.out))
       refine bodyPost_ret (results_cell_row rfl _ _ gb384 88 #[.int .i64 0, .int .i64 t387] (0, 0) _ rfl (by (with_reducible repeat first | apply b11N | apply b11D | apply b11L); refine zp2_ (.int .i64 0) (.int .i64 0) ?_; (with_reducible repeat first | apply b11N | apply b11D | apply b11L); exact BK384.out) Tryd.underlying88 rfl (by kernel_rfl)) rfl ?_; exact ⟨c11_1, c11_2⟩
      ·rw [if_neg c14] at H
       obtain ⟨c14b0, c14b1⟩ := zbf_ c14; simp only [Option.some.injEq, Prod.mk.injEq] at H; obtain ⟨rfl, rfl⟩ := H; go_wp2_with (first | (go_at_call 78; (with_reducible refine (impl_quotient.calls a0 a1 t387 true _ A11.out).mono ?_); rintro e w' ⟨rfl, ⟨nd, rfl⟩⟩; (try (rw [drewN_self wc]; generalize hq_ : World.drewN wc _ = wc; have n0_ : Aside0 (wc.heap[gb384]? = some (.cells #[.int .i64 0, .int .i64 0] 88 (0, 0))) := ⟨by rw [← hq_]; exact d11_5⟩; have n1_ : Aside0 (Below w.heap.size w wc) := ⟨by rw [← hq_]; exact d11_2⟩; clear BK384 HB hq_; have BK384 := n0_; have HB := n1_; clear n0_ n1_))) | (go_at_call 72; (with_reducible refine (impl_NumFault.calls t387 t389 _ A13.out).mono ?_); rintro e w' ⟨rfl, ⟨nd, rfl⟩⟩; (try (rw [drewN_self wc]; generalize hq_ : World.drewN wc _ = wc; have n0_ : Aside0 (wc.heap[gb384]? = some (.cells #[.int .i64 0, .int .i64 0] 88 (0, 0))) := ⟨by rw [← hq_]; exact d11_5⟩; have n1_ : Aside0 (Below w.heap.size w wc) := ⟨by rw [← hq_]; exact d11_2⟩; clear BK384 HB hq_; have BK384 := n0_; have HB := n1_; clear n0_ n1_)); obtain ⟨hcz16_0, hcz16_1, hfz16_0, hfz16_1⟩ := zx2_ BK384.out))
       refine bodyPost_ret (results_cell_row rfl _ _ gb384 88 #[.int .i64 7, .int .i64 0] (0, 0) _ rfl (by (with_reducible repeat first | apply b11N | apply b11D | apply b11L); refine zp2_ (.int .i64 0) (.int .i64 0) ?_; (with_reducible repeat first | apply b11N | apply b11D | apply b11L); exact BK384.out) Tryd.underlying88 rfl (by kernel_rfl)) rfl ?_; exact ⟨c11_1, c11_2⟩
     ·replace c12 := Bool.eq_false_iff.mpr c12
      subst c12; rw [if_neg (show ¬ (false = true) by decide)] at H; simp only [Option.some.injEq, Prod.mk.injEq] at H; obtain ⟨rfl, rfl⟩ := H; go_wp2_with (first | (go_at_call 78; (with_reducible refine (impl_quotient.calls a0 a1 t387 false _ A11.out).mono ?_); rintro e w' ⟨rfl, ⟨nd, rfl⟩⟩; (try (rw [drewN_self wc]; generalize hq_ : World.drewN wc _ = wc; have n0_ : Aside0 (wc.heap[gb384]? = some (.cells #[.int .i64 0, .int .i64 0] 88 (0, 0))) := ⟨by rw [← hq_]; exact d11_5⟩; have n1_ : Aside0 (Below w.heap.size w wc) := ⟨by rw [← hq_]; exact d11_2⟩; clear BK384 HB hq_; have BK384 := n0_; have HB := n1_; clear n0_ n1_)); obtain ⟨hcz17_0, hcz17_1, hfz17_0, hfz17_1⟩ := zx2_ BK384.out)); refine bodyPost_ret (results_cell_row rfl _ _ gb384 88 #[.int .i64 7, .int .i64 0] (0, 0) _ rfl (by (with_reducible repeat first | apply b11N | apply b11D | apply b11L); refine zp2_ (.int .i64 0) (.int .i64 0) ?_; (with_reducible repeat first | apply b11N | apply b11D | apply b11L); exact BK384.out) Tryd.underlying88 rfl (by kernel_rfl)) rfl ?_; exact ⟨c11_1, c11_2⟩

/-! ### impl_QuoNum: function 65 -/
def impl_QuoNum.f (k : Nat) (a0 : Int) (a1 : Int) : Option (Int × Int) := (impl_calculated__impl_quotient.f k a0 a1).bind fun bt391 => (some (bt391.1, bt391.2))
theorem impl_QuoNum.mono : ∀ a0 a1 k, LeO (impl_QuoNum.f k a0 a1) (impl_QuoNum.f (k + 1) a0 a1) := by
  intro a0 a1 k; unfold impl_QuoNum.f
  repeat' first | (with_reducible first | apply impl_calculated__impl_quotient.mono | exact LeO.refl _ | exact LeO.none _ | refine LeO.ite ?_ ?_ | refine LeO.bind ?_ (fun _ => ?_)) | apply impl_calculated__impl_quotient.mono | exact LeO.none _ | refine LeO.ite ?_ ?_ | refine LeO.bind ?_ (fun _ => ?_)
theorem impl_QuoNum.calls (k : Nat) (a0 : Int) (a1 : Int) (r1 : Int) (r2 : Int) (w : World) (h : impl_QuoNum.f k a0 a1 = some (r1, r2)) :
    Calls Tryd.prog 65 #[.int .i64 a0, .int .i64 a1] w fun e w' => e = .returned (.agg #[.int .i64 r1, .int .i64 r2]) ∧ Below w.heap.size w w' := by
  have hu88 := Tryd.underlying88; have HB := ak (Below.refl w.heap.size w); have H := h; clear h; unfold impl_QuoNum.f at H; obtain ⟨⟨t391, t392⟩, A3, H⟩ := zbi_ H; (try dsimp -simprocs only at H); simp only [Option.some.injEq, Prod.mk.injEq] at H; obtain ⟨rfl, rfl⟩ := H; go_enter Tryd.func65, Tryd.ntmps65
  go_wp2_with (first | ((with_reducible refine gate_dst (N := 4) rfl ?_); refine box_event ?hg (N := 4) ?hd (cs := #[.int .i64 0, .int .i64 0]) (t := 88) ?hr ?_; (case hd => rfl); (case hg => rfl); (case hr => first | (go_simp; done) | (go_simp; rfl)); intro gb390 hg w4 hbox hb; have BK390 := ak (hbox); have GW390 := ak ((by rw [hg]; exact (below_size d11_1) : w.heap.size ≤ gb390)); have GE390 := ak ((by rw [hg]; exact (below_size d11_1) : w.heap.size ≤ gb390)); replace HB := ak (below_step d11_1 hb); clear hb hbox hg) | (go_at_call 74; (with_reducible refine (impl_calculated__impl_quotient.calls k a0 a1  t391 t392 _ A3.out).mono ?_); rintro e w5 ⟨rfl, hb⟩; replace BK390 := zbb_ (g := gb390) (o := .cells #[.int .i64 0, .int .i64 0] 88 (0, 0)) hb (by (with_reducible repeat first | apply b11N | apply b11D | apply b11L); exact BK390.out); replace HB := ak (below_step (by repeat (first | (with_reducible first | exact HB.out | apply below_alloc | apply pw_below_drewN | apply below_drew1 | refine below_set ?_ GE390.out) | exact HB.out)) hb); (try clear hb); obtain ⟨hcz6_0, hcz6_1, hfz6_0, hfz6_1⟩ := zx2_ BK390.out))
  refine bodyPost_ret (results_cell_row rfl _ _ gb390 88 #[.int .i64 t391, .int .i64 t392] (0, 0) _ rfl (by (with_reducible repeat first | apply b11N | apply b11D | apply b11L); refine zp2_ (.int .i64 0) (.int .i64 0) ?_; (with_reducible repeat first | apply b11N | apply b11D | apply b11L); exact BK390.out) Tryd.underlying88 rfl (by kernel_rfl)) rfl ?_; exact ⟨c11_1, by repeat (first | (with_reducible first | exact HB.out | apply below_alloc | apply pw_below_drewN | apply below_drew1 | refine below_set ?_ GE390.out) | exact HB.out)⟩

/-! ### impl_RemNum_1: function 79 -/
def impl_RemNum_1.f (a0 : Int) (a1 : Int) : Option (Int × Bool) := (impl_quotient.f a0 a1).bind fun bt397 => (some (wrap64 (a0 - (wrap64 (a1 * bt397.1))), bt397.2))
theorem impl_RemNum_1.calls (a0 : Int) (a1 : Int) (r1 : Int) (r2 : Bool) (w : World) (h : impl_RemNum_1.f a0 a1 = some (r1, r2)) :
    Calls Tryd.prog 79 #[.int .i64 a0, .int .i64 a1] w fun e w' => e = .returned (.tuple #[.int .i64 r1, .bool r2]) ∧ Drawn0 w w' := by
  have H := h; clear h; unfold impl_RemNum_1.f at H; obtain ⟨⟨t397, t398⟩, A3, H⟩ := zbi_ H; (try dsimp -simprocs only at H); simp only [Option.some.injEq, Prod.mk.injEq] at H; obtain ⟨rfl, rfl⟩ := H; go_enter Tryd.func79, Tryd.ntmps79; go_wp2_with (first | ((with_reducible refine gate_callee (f := 78) rfl ?_); refine zgo_ 11 Tryd.func78 #[.int .i64 a0, .int .i64 a1] ?_ (e := d11_4); (with_reducible refine (impl_quotient.calls a0 a1 t397 t398 _ A3.out).mono ?_); rintro e w' ⟨rfl, ⟨nd, rfl⟩⟩; refine ⟨_, rfl, ?_⟩)); go_ret2; exact ⟨by first | rfl | (simp; done) | (simp [*]; done) | (simp [ne_nil_b, eq_nil_b]; done), by repeat (first | exact Drawn0.refl _ | apply Drawn0.step)⟩

/-! ### impl_calculated__impl_RemNum_1: function 74 -/
def impl_calculated__impl_RemNum_1.j0 : Nat → Int → Int → Bool → Option (Int × Int)
  | 0, _, _, _ => none
  | k + 1, x0, x1, x16 => if x16 = true then (some (3, 0)) else ((impl_RemNum_1.f x0 x1).bind fun bt402 => (if bt402.2 = true then ((impl_NumFault.f bt402.1).bind fun t404 => (if t404 = 0 then (some (0, bt402.1)) else (some (7, 0)))) else (some (7, 0))))
def impl_calculated__impl_RemNum_1.f (k : Nat) (a0 : Int) (a1 : Int)  : Option (Int × Int) := (impl_NumFault.f a0).bind fun t400 => (if t400 = 0 then ((impl_NumFault.f a1).bind fun t401 => (impl_calculated__impl_RemNum_1.j0 k a0 a1 (t401 != 0))) else (impl_calculated__impl_RemNum_1.j0 k a0 a1 true))
theorem impl_calculated__impl_RemNum_1.mono_l : ∀ k, (∀ y0 y1 y2, LeO (impl_calculated__impl_RemNum_1.j0 k y0 y1 y2) (impl_calculated__impl_RemNum_1.j0 (k + 1) y0 y1 y2))
  | 0 => fun _ _ _ r h => by simp [impl_calculated__impl_RemNum_1.j0] at h
  | k + 1 => by
    have ih0 := impl_calculated__impl_RemNum_1.mono_l k
    · intro y0 y1 y2
      unfold impl_calculated__impl_RemNum_1.j0
      exact zm11_0
theorem impl_calculated__impl_RemNum_1.mono : ∀ a0 a1 k, LeO (impl_calculated__impl_RemNum_1.f k a0 a1) (impl_calculated__impl_RemNum_1.f (k + 1) a0 a1) := by
  intro a0 a1 k; have ih0 := impl_calculated__impl_RemNum_1.mono_l k; unfold impl_calculated__impl_RemNum_1.f
  exact zm11_0
theorem impl_calculated__impl_RemNum_1.calls (k : Nat) (a0 : Int) (a1 : Int)  (r1 : Int) (r2 : Int) (w : World) (h : impl_calculated__impl_RemNum_1.f k a0 a1 = some (r1, r2)) :
    Calls Tryd.prog 74 #[.int .i64 a0, .int .i64 a1, .func (.func 79) #[] #[]] w fun e w' => e = .returned (.agg #[.int .i64 r1, .int .i64 r2]) ∧ Below w.heap.size w w' := by
  have hu88 := Tryd.underlying88; have HB := ak (Below.refl w.heap.size w); have H := h; clear h; unfold impl_calculated__impl_RemNum_1.f at H; have HC4 := ak H; clear H; go_enter Tryd.func74, Tryd.ntmps74; go_upto_region 1 with (first | ((with_reducible refine gate_dst (N := 6) rfl ?_); refine box_event ?hg (N := 6) ?hd (cs := #[.int .i64 0, .int .i64 0]) (t := 88) ?hr ?_; (case hd => rfl); (case hg => rfl); (case hr => first | (go_simp; done) | (go_simp; rfl)); intro gb399 hg w5 hbox hb; have BK399 := ak (hbox); have GW399 := ak ((by rw [hg]; exact (below_size d11_1) : w.heap.size ≤ gb399)); have GE399 := ak ((by rw [hg]; exact (below_size d11_1) : w.heap.size ≤ gb399)); replace HB := ak (below_step d11_1 hb); clear hb hbox hg))
  (try simp only [Act.put, List.setIfInBounds_toArray, List.set_cons_zero, List.set_cons_succ])
  go_cut [16] (fun v16 wc => ∃ (kq : Nat) (x16_3 : Bool), v16 = .bool x16_3 ∧ Aside0 (impl_calculated__impl_RemNum_1.j0 kq a0 a1 x16_3 = some (r1, r2)) ∧ Aside0 (kq ≤ k) ∧ Aside0 (wc.heap[gb399]? = some (.cells #[.int .i64 0, .int .i64 0] 88 (0, 0))) ∧ Aside0 (Below w.heap.size w wc))
  case first =>
   have H := HC4.out; clear HC4; obtain ⟨t400, A6, H⟩ := zbi_ H; (try dsimp -simprocs only at H); by_cases c7 : t400 = 0
   ·rw [if_pos c7] at H
    obtain ⟨c7b0, c7b1⟩ := zbt_ c7; clear c7
    (first | rw [c7b0] | (simp only [i64_w, i32_w]; rw [c7b0]) | skip)
    obtain ⟨t401, A8, H⟩ := zbi_ H; (try dsimp -simprocs only at H); have H' := ak H; clear H; go_wp2_with (first | ((with_reducible refine gate_callee (f := 72) rfl ?_); refine zgo_ 10 Tryd.func72 #[.int .i64 a0] ?_ (e := d11_4); (with_reducible refine (impl_NumFault.calls a0 t400 _ A6.out).mono ?_); rintro e w' ⟨rfl, ⟨nd, rfl⟩⟩; refine ⟨_, rfl, ?_⟩) | (go_at_call 72; (with_reducible refine (impl_NumFault.calls a1 t401 _ A8.out).mono ?_); rintro e w' ⟨rfl, ⟨nd, rfl⟩⟩)); go_meet
    case rel => exact ⟨_, ((t401 != 0)), (by first | rfl | (simp; done) | (simp [*]; done) | (simp [ne_nil_b, eq_nil_b]; done)), H', ⟨by first | exact Nat.le_refl _ | omega⟩, ⟨by (with_reducible repeat first | apply b11N | apply b11D | apply b11L); exact BK399.out⟩, ⟨c11_3⟩⟩
   ·rw [if_neg c7] at H
    obtain ⟨c7b0, c7b1⟩ := zbf_ c7
    (first | rw [c7b0] | (simp only [i64_w, i32_w]; rw [c7b0]) | skip)
    have H' := ak H; clear H; go_wp2_with (first | ((with_reducible refine gate_callee (f := 72) rfl ?_); refine zgo_ 10 Tryd.func72 #[.int .i64 a0] ?_ (e := d11_4); (with_reducible refine (impl_NumFault.calls a0 t400 _ A6.out).mono ?_); rintro e w' ⟨rfl, ⟨nd, rfl⟩⟩; refine ⟨_, rfl, ?_⟩)); go_meet
    case rel => exact ⟨_, (true), (by first | rfl | (simp; done) | (simp [*]; done) | (simp [ne_nil_b, eq_nil_b]; done)), H', ⟨by first | exact Nat.le_refl _ | omega⟩, ⟨by (with_reducible repeat first | apply b11N | apply b11D | apply b11L); exact BK399.out⟩, ⟨c11_3⟩⟩
  case rest =>
   clear HC4
   try clear c7
   obtain ⟨kq, x16_3, rfl, HA, HJ3, BK399, HB⟩ := hcut
   cases kq with
   | zero => exact absurd HA.out (by simp [impl_calculated__impl_RemNum_1.j0])
   | succ kj3 =>
    have H := HA.out; clear HA; simp only [impl_calculated__impl_RemNum_1.j0] at H; by_cases c9 : x16_3 = true
    ·subst c9
     rw [if_pos rfl] at H; simp only [Option.some.injEq, Prod.mk.injEq] at H; obtain ⟨rfl, rfl⟩ := H; obtain ⟨hcz10_0, hcz10_1, hfz10_0, hfz10_1⟩ := zx2_ BK399.out; go_wp2; refine bodyPost_ret (results_cell_row rfl _ _ gb399 88 #[.int .i64 3, .int .i64 0] (0, 0) _ rfl (by (with_reducible repeat first | apply b11N | apply b11D | apply b11L); refine zp2_ (.int .i64 0) (.int .i64 0) ?_; (with_reducible repeat first | apply b11N | apply b11D | apply b11L); exact BK399.out) Tryd.underlying88 rfl (by kernel_rfl)) rfl ?_; exact ⟨c11_1, c11_3⟩
    ·replace c9 := Bool.eq_false_iff.mpr c9
     subst c9; rw [if_neg (show ¬ (false = true) by decide)] at H; obtain ⟨⟨t402, t403⟩, A11, H⟩ := zbi_ H; (try dsimp -simprocs only at H); by_cases c12 : t403 = true
     ·subst c12
      rw [if_pos rfl] at H; obtain ⟨t404, A13, H⟩ := zbi_ H; (try dsimp -simprocs only at H); by_cases c14 : t404 = 0
      ·rw [if_pos c14] at H
       obtain ⟨c14b0, c14b1⟩ := zbt_ c14; clear c14; simp only [Option.some.injEq, Prod.mk.injEq] at H; obtain ⟨rfl, rfl⟩ := H; go_wp2_with (first | (go_at_call 79; (with_reducible refine (impl_RemNum_1.calls a0 a1 t402 true _ A11.out).mono ?_); rintro e w' ⟨rfl, ⟨nd, rfl⟩⟩; (try (rw [drewN_self wc]; generalize hq_ : World.drewN wc _ = wc; have n0_ : Aside0 (wc.heap[gb399]? = some (.cells #[.int .i64 0, .int .i64 0] 88 (0, 0))) := ⟨by rw [← hq_]; exact d11_6⟩; have n1_ : Aside0 (Below w.heap.size w wc) := ⟨by rw [← hq_]; exact d11_3⟩; clear BK399 HB hq_; have BK399 := n0_; have HB := n1_; clear n0_ n1_))) | (go_at_call 72; (with_reducible refine (impl_NumFault.calls t402 t404 _ A13.out).mono ?_); rintro e w' ⟨rfl, ⟨nd, rfl⟩⟩; (try (rw [drewN_self wc]; generalize hq_ : World.drewN wc _ = wc; have n0_ : Aside0 (wc.heap[gb399]? = some (.cells #[.int .i64 0, .int .i64 0] 88 (0, 0))) := ⟨by rw [← hq_]; exact d11_6⟩; have n1_ : Aside0 (Below w.heap.size w wc) := ⟨by rw [← hq_]; exact d11_3⟩; clear BK399 HB hq_; have BK399 := n0_; have HB := n1_; clear n0_ n1_)); obtain ⟨hcz15_0, hcz15_1, hfz15_0, hfz15_1⟩ := zx2_ BK399.out))
       refine bodyPost_ret (results_cell_row rfl _ _ gb399 88 #[.int .i64 0, .int .i64 t402] (0, 0) _ rfl (by (with_reducible repeat first | apply b11N | apply b11D | apply b11L); refine zp2_ (.int .i64 0) (.int .i64 0) ?_; (with_reducible repeat first | apply b11N | apply b11D | apply b11L); exact BK399.out) Tryd.underlying88 rfl (by kernel_rfl)) rfl ?_; exact ⟨c11_1, c11_3⟩
      ·rw [if_neg c14] at H
       obtain ⟨c14b0, c14b1⟩ := zbf_ c14; simp only [Option.some.injEq, Prod.mk.injEq] at H; obtain ⟨rfl, rfl⟩ := H; go_wp2_with (first | (go_at_call 79; (with_reducible refine (impl_RemNum_1.calls a0 a1 t402 true _ A11.out).mono ?_); rintro e w' ⟨rfl, ⟨nd, rfl⟩⟩; (try (rw [drewN_self wc]; generalize hq_ : World.drewN wc _ = wc; have n0_ : Aside0 (wc.heap[gb399]? = some (.cells #[.int .i64 0, .int .i64 0] 88 (0, 0))) := ⟨by rw [← hq_]; exact d11_6⟩; have n1_ : Aside0 (Below w.heap.size w wc) := ⟨by rw [← hq_]; exact d11_3⟩; clear BK399 HB hq_; have BK399 := n0_; have HB := n1_; clear n0_ n1_))) | (go_at_call 72; (with_reducible refine (impl_NumFault.calls t402 t404 _ A13.out).mono ?_); rintro e w' ⟨rfl, ⟨nd, rfl⟩⟩; (try (rw [drewN_self wc]; generalize hq_ : World.drewN wc _ = wc; have n0_ : Aside0 (wc.heap[gb399]? = some (.cells #[.int .i64 0, .int .i64 0] 88 (0, 0))) := ⟨by rw [← hq_]; exact d11_6⟩; have n1_ : Aside0 (Below w.heap.size w wc) := ⟨by rw [← hq_]; exact d11_3⟩; clear BK399 HB hq_; have BK399 := n0_; have HB := n1_; clear n0_ n1_)); obtain ⟨hcz16_0, hcz16_1, hfz16_0, hfz16_1⟩ := zx2_ BK399.out))
       refine bodyPost_ret (results_cell_row rfl _ _ gb399 88 #[.int .i64 7, .int .i64 0] (0, 0) _ rfl (by (with_reducible repeat first | apply b11N | apply b11D | apply b11L); refine zp2_ (.int .i64 0) (.int .i64 0) ?_; (with_reducible repeat first | apply b11N | apply b11D | apply b11L); exact BK399.out) Tryd.underlying88 rfl (by kernel_rfl)) rfl ?_; exact ⟨c11_1, c11_3⟩
     ·replace c12 := Bool.eq_false_iff.mpr c12
      subst c12; rw [if_neg (show ¬ (false = true) by decide)] at H; simp only [Option.some.injEq, Prod.mk.injEq] at H; obtain ⟨rfl, rfl⟩ := H; go_wp2_with (first | (go_at_call 79; (with_reducible refine (impl_RemNum_1.calls a0 a1 t402 false _ A11.out).mono ?_); rintro e w' ⟨rfl, ⟨nd, rfl⟩⟩; (try (rw [drewN_self wc]; generalize hq_ : World.drewN wc _ = wc; have n0_ : Aside0 (wc.heap[gb399]? = some (.cells #[.int .i64 0, .int .i64 0] 88 (0, 0))) := ⟨by rw [← hq_]; exact d11_6⟩; have n1_ : Aside0 (Below w.heap.size w wc) := ⟨by rw [← hq_]; exact d11_3⟩; clear BK399 HB hq_; have BK399 := n0_; have HB := n1_; clear n0_ n1_)); obtain ⟨hcz17_0, hcz17_1, hfz17_0, hfz17_1⟩ := zx2_ BK399.out)); refine bodyPost_ret (results_cell_row rfl _ _ gb399 88 #[.int .i64 7, .int .i64 0] (0, 0) _ rfl (by (with_reducible repeat first | apply b11N | apply b11D | apply b11L); refine zp2_ (.int .i64 0) (.int .i64 0) ?_; (with_reducible repeat first | apply b11N | apply b11D | apply b11L); exact BK399.out) Tryd.underlying88 rfl (by kernel_rfl)) rfl ?_; exact ⟨c11_1, c11_3⟩

/-! ### impl_RemNum: function 66 -/
def impl_RemNum.f (k : Nat) (a0 : Int) (a1 : Int) : Option (Int × Int) := (impl_calculated__impl_RemNum_1.f k a0 a1).bind fun bt406 => (some (bt406.1, bt406.2))
theorem impl_RemNum.mono : ∀ a0 a1 k, LeO (impl_RemNum.f k a0 a1) (impl_RemNum.f (k + 1) a0 a1) := by
  intro a0 a1 k; unfold impl_RemNum.f
  repeat' first | (with_reducible first | apply impl_calculated__impl_RemNum_1.mono | exact LeO.refl _ | exact LeO.none _ | refine LeO.ite ?_ ?_ | refine LeO.bind ?_ (fun _ => ?_)) | apply impl_calculated__impl_RemNum_1.mono | exact LeO.none _ | refine LeO.ite ?_ ?_ | refine LeO.bind ?_ (fun _ => ?_)
theorem impl_RemNum.calls (k : Nat) (a0 : Int) (a1 : Int) (r1 : Int) (r2 : Int) (w : World) (h : impl_RemNum.f k a0 a1 = some (r1, r2)) :
    Calls Tryd.prog 66 #[.int .i64 a0, .int .i64 a1] w fun e w' => e = .returned (.agg #[.int .i64 r1, .int .i64 r2]) ∧ Below w.heap.size w w' := by
  have hu88 := Tryd.underlying88; have HB := ak (Below.refl w.heap.size w); have H := h; clear h; unfold impl_RemNum.f at H; obtain ⟨⟨t406, t407⟩, A3, H⟩ := zbi_ H; (try dsimp -simprocs only at H); simp only [Option.some.injEq, Prod.mk.injEq] at H; obtain ⟨rfl, rfl⟩ := H; go_enter Tryd.func66, Tryd.ntmps66
  go_wp2_with (first | ((with_reducible refine gate_dst (N := 4) rfl ?_); refine box_event ?hg (N := 4) ?hd (cs := #[.int .i64 0, .int .i64 0]) (t := 88) ?hr ?_; (case hd => rfl); (case hg => rfl); (case hr => first | (go_simp; done) | (go_simp; rfl)); intro gb405 hg w4 hbox hb; have BK405 := ak (hbox); have GW405 := ak ((by rw [hg]; exact (below_size d11_1) : w.heap.size ≤ gb405)); have GE405 := ak ((by rw [hg]; exact (below_size d11_1) : w.heap.size ≤ gb405)); replace HB := ak (below_step d11_1 hb); clear hb hbox hg) | (go_at_call 74; (with_reducible refine (impl_calculated__impl_RemNum_1.calls k a0 a1  t406 t407 _ A3.out).mono ?_); rintro e w5 ⟨rfl, hb⟩; replace BK405 := zbb_ (g := gb405) (o := .cells #[.int .i64 0, .int .i64 0] 88 (0, 0)) hb (by (with_reducible repeat first | apply b11N | apply b11D | apply b11L); exact BK405.out); replace HB := ak (below_step (by repeat (first | (with_reducible first | exact HB.out | apply below_alloc | apply pw_below_drewN | apply below_drew1 | refine below_set ?_ GE405.out) | exact HB.out)) hb); (try clear hb); obtain ⟨hcz6_0, hcz6_1, hfz6_0, hfz6_1⟩ := zx2_ BK405.out))
  refine bodyPost_ret (results_cell_row rfl _ _ gb405 88 #[.int .i64 t406, .int .i64 t407] (0, 0) _ rfl (by (with_reducible repeat first | apply b11N | apply b11D | apply b11L); refine zp2_ (.int .i64 0) (.int .i64 0) ?_; (with_reducible repeat first | apply b11N | apply b11D | apply b11L); exact BK405.out) Tryd.underlying88 rfl (by kernel_rfl)) rfl ?_; exact ⟨c11_1, by repeat (first | (with_reducible first | exact HB.out | apply below_alloc | apply pw_below_drewN | apply below_drew1 | refine below_set ?_ GE405.out) | exact HB.out)⟩

end Go.Proofs.YtolhanigjmhkgadDoor.A
