/- Walks of the program's functions: each Go function's answer as a plain Lean function, and that the call comes to it. Written by a program. Conditions: those in each theorem's own head. -/
import Derived.Test.YtolhanigjmhkgacDoorA0
import Derived.Test.YtolhanigjmhkgacDoorA4
import Derived.Test.YtolhanigjmhkgacDoorA6
namespace Go.Proofs.YtolhanigjmhkgacDoor.A
open Go.RowKit Go.Proofs.YtolhanigjmhkgacDoorW.PrintWords Go.Proofs.YtolhanigjmhkgacDoorW.PrintLast Go.Proofs.YtolhanigjmhkgacDoorW.PrintMore
attribute [local go_sem] max2_int min2_int max_two min_two max_three min_three max_four min_four   -- for this text's walks alone
set_option linter.unusedVariables false
set_option linter.unusedSimpArgs false

theorem b7N {w : World} {g : Nat} {o : Obj} (h : w.heap[g]? = some o) (n : Nat) : (w.drewN n).heap[g]? = some o := h
theorem b7D {w : World} {g : Nat} {o : Obj} (h : w.heap[g]? = some o) : (w.drew).heap[g]? = some o := h
theorem b7L {w : World} {g : Nat} {o : Obj} (h : w.heap[g]? = some o) (o' : Obj) : (w.alloc o').heap[g]? = some o := blk_alloc h o'
theorem d7_1 {p : Prop} (h : p := by repeat (first | (with_reducible first | exact HB.out | apply below_alloc | apply pw_below_drewN | apply below_drew1) | exact HB.out)) : p := h
theorem d7_2 {p : Prop} (h : p := by repeat (first | (with_reducible first | exact HB.out | apply below_alloc | apply pw_below_drewN | apply below_drew1 | refine below_set ?_ GE329.out) | exact HB.out)) : p := h
theorem d7_3 {p : Prop} (h : p := by repeat (first | (with_reducible first | exact HB.out | apply below_alloc | apply pw_below_drewN | apply below_drew1 | refine below_set ?_ GE344.out) | exact HB.out)) : p := h
theorem d7_4 {p : Prop} (h : p := by (try simp only [List.map_toArray, List.map_cons, List.map_nil]); first | done | rfl | (simp only [List.length_drop, List.length_take]; rfl)) : p := h
theorem d7_5 {p : Prop} (h : p := by (with_reducible repeat first | apply b7N | apply b7D | apply b7L); exact BK329.out) : p := h
theorem d7_6 {p : Prop} (h : p := by (with_reducible repeat first | apply b7N | apply b7D | apply b7L); exact BK344.out) : p := h
theorem c7_1 {p : Prop} (h : p := by first | rfl | (simp [errW_none, errW_some] <;> rfl) | (simp [*, errW_none, errW_some] <;> rfl)) : p := h
theorem c7_2 {p : Prop} (h : p := by repeat (first | (with_reducible first | exact HB.out | apply below_alloc | apply pw_below_drewN | apply below_drew1 | refine below_set ?_ GE329.out) | exact HB.out)) : p := h
theorem c7_3 {p : Prop} (h : p := by repeat (first | (with_reducible first | exact HB.out | apply below_alloc | apply pw_below_drewN | apply below_drew1 | refine below_set ?_ GE344.out) | exact HB.out)) : p := h
set_option maxHeartbeats 8000000
set_option maxRecDepth 100000
theorem z7c {w : World} {g : Nat} {t : TypeId} {cs : Array Value} (h : w.heap[g]? = some (.cells cs t (0, 0))) (i : Nat) {v : Value} (e : cs[i]? = some v) : w.cell? ⟨g, i, none⟩ = some v := (blk_cell h i).trans e
theorem zm7_0 {p : Prop} (h : p := by repeat' first | (with_reducible first | apply ih0 | exact LeO.refl _ | exact LeO.none _ | refine LeO.ite ?_ ?_ | refine LeO.bind ?_ (fun _ => ?_)) | apply ih0 | exact LeO.none _ | refine LeO.ite ?_ ?_ | refine LeO.bind ?_ (fun _ => ?_)) : p := h

/-! ### impl_calculated__impl_quotient: function 64 -/
def impl_calculated__impl_quotient.j0 : Nat → Int → Int → Bool → Option (Int × Int)
  | 0, _, _, _ => none
  | k + 1, x0, x1, x16 => if x16 = true then (some (3, 0)) else ((impl_quotient.f x0 x1).bind fun bt332 => (if bt332.2 = true then ((impl_NumFault.f bt332.1).bind fun t334 => (if t334 = 0 then (some (0, bt332.1)) else (some (7, 0)))) else (some (7, 0))))
def impl_calculated__impl_quotient.f (k : Nat) (a0 : Int) (a1 : Int)  : Option (Int × Int) := (impl_NumFault.f a0).bind fun t330 => (if t330 = 0 then ((impl_NumFault.f a1).bind fun t331 => (impl_calculated__impl_quotient.j0 k a0 a1 (t331 != 0))) else (impl_calculated__impl_quotient.j0 k a0 a1 true))
theorem impl_calculated__impl_quotient.mono_l : ∀ k, (∀ y0 y1 y2, LeO (impl_calculated__impl_quotient.j0 k y0 y1 y2) (impl_calculated__impl_quotient.j0 (k + 1) y0 y1 y2))
  | 0 => fun _ _ _ r h => by simp [impl_calculated__impl_quotient.j0] at h
  | k + 1 => by
    have ih0 := impl_calculated__impl_quotient.mono_l k
    · intro y0 y1 y2
      unfold impl_calculated__impl_quotient.j0
      exact zm7_0
theorem impl_calculated__impl_quotient.mono : ∀ a0 a1 k, LeO (impl_calculated__impl_quotient.f k a0 a1) (impl_calculated__impl_quotient.f (k + 1) a0 a1) := by
  intro a0 a1 k; have ih0 := impl_calculated__impl_quotient.mono_l k; unfold impl_calculated__impl_quotient.f
  exact zm7_0
theorem impl_calculated__impl_quotient.calls (k : Nat) (a0 : Int) (a1 : Int)  (r1 : Int) (r2 : Int) (w : World) (h : impl_calculated__impl_quotient.f k a0 a1 = some (r1, r2)) :
    Calls Tryd.prog 64 #[.int .i64 a0, .int .i64 a1, .func (.func 68) #[] #[]] w fun e w' => e = .returned (.agg #[.int .i64 r1, .int .i64 r2]) ∧ Below w.heap.size w w' := by
  have hu83 := Tryd.underlying83; have HB := ak (Below.refl w.heap.size w); have H := h; clear h; unfold impl_calculated__impl_quotient.f at H; have HC4 := ak H; clear H; go_enter Tryd.func64, Tryd.ntmps64; go_upto_region 1 with (first | ((with_reducible refine gate_dst (N := 6) rfl ?_); refine box_event ?hg (N := 6) ?hd (cs := #[.int .i64 0, .int .i64 0]) (t := 83) ?hr ?_; (case hd => rfl); (case hg => rfl); (case hr => first | (go_simp; done) | (go_simp; rfl)); intro gb329 hg w5 hbox hb; have BK329 := ak (hbox); have GW329 := ak ((by rw [hg]; exact (below_size d7_1) : w.heap.size ≤ gb329)); have GE329 := ak ((by rw [hg]; exact (below_size d7_1) : w.heap.size ≤ gb329)); replace HB := ak (below_step d7_1 hb); clear hb hbox hg))
  (try simp only [Act.put, List.setIfInBounds_toArray, List.set_cons_zero, List.set_cons_succ])
  go_cut [16] (fun v16 wc => ∃ (kq : Nat) (x16_3 : Bool), v16 = .bool x16_3 ∧ Aside0 (impl_calculated__impl_quotient.j0 kq a0 a1 x16_3 = some (r1, r2)) ∧ Aside0 (kq ≤ k) ∧ Aside0 (wc.heap[gb329]? = some (.cells #[.int .i64 0, .int .i64 0] 83 (0, 0))) ∧ Aside0 (Below w.heap.size w wc))
  case first =>
   have H := HC4.out; clear HC4; obtain ⟨t330, A6, H⟩ := zbi_ H; (try dsimp -simprocs only at H); by_cases c7 : t330 = 0
   ·rw [if_pos c7] at H
    obtain ⟨c7b0, c7b1⟩ := zbt_ c7; clear c7
    (first | rw [c7b0] | (simp only [i64_w, i32_w]; rw [c7b0]) | skip)
    obtain ⟨t331, A8, H⟩ := zbi_ H; (try dsimp -simprocs only at H); have H' := ak H; clear H; go_wp2_with (first | ((with_reducible refine gate_callee (f := 47) rfl ?_); refine zgo_ 10 Tryd.func47 #[.int .i64 a0] ?_ (e := d7_4); (with_reducible refine (impl_NumFault.calls a0 t330 _ A6.out).mono ?_); rintro e w' ⟨rfl, ⟨nd, rfl⟩⟩; refine ⟨_, rfl, ?_⟩) | (go_at_call 47; (with_reducible refine (impl_NumFault.calls a1 t331 _ A8.out).mono ?_); rintro e w' ⟨rfl, ⟨nd, rfl⟩⟩)); go_meet
    case rel => exact ⟨_, ((t331 != 0)), (by first | rfl | (simp; done) | (simp [*]; done) | (simp [ne_nil_b, eq_nil_b]; done)), H', ⟨by first | exact Nat.le_refl _ | omega⟩, ⟨zpl_ BK329.out⟩, ⟨c7_2⟩⟩
   ·rw [if_neg c7] at H
    obtain ⟨c7b0, c7b1⟩ := zbf_ c7
    (first | rw [c7b0] | (simp only [i64_w, i32_w]; rw [c7b0]) | skip)
    have H' := ak H; clear H; go_wp2_with (first | ((with_reducible refine gate_callee (f := 47) rfl ?_); refine zgo_ 10 Tryd.func47 #[.int .i64 a0] ?_ (e := d7_4); (with_reducible refine (impl_NumFault.calls a0 t330 _ A6.out).mono ?_); rintro e w' ⟨rfl, ⟨nd, rfl⟩⟩; refine ⟨_, rfl, ?_⟩)); go_meet
    case rel => exact ⟨_, (true), (by first | rfl | (simp; done) | (simp [*]; done) | (simp [ne_nil_b, eq_nil_b]; done)), H', ⟨by first | exact Nat.le_refl _ | omega⟩, ⟨zpl_ BK329.out⟩, ⟨c7_2⟩⟩
  case rest =>
   clear HC4
   try clear c6
   obtain ⟨kq, x16_3, rfl, HA, HJ3, BK329, HB⟩ := hcut
   cases kq with
   | zero => exact absurd HA.out (by simp [impl_calculated__impl_quotient.j0])
   | succ kj3 =>
    have H := HA.out; clear HA; simp only [impl_calculated__impl_quotient.j0] at H; by_cases c9 : x16_3 = true
    ·subst c9
     rw [if_pos rfl] at H; simp only [Option.some.injEq, Prod.mk.injEq] at H; obtain ⟨rfl, rfl⟩ := H; obtain ⟨hcz10_0, hcz10_1, hfz10_0, hfz10_1⟩ := zx2_ BK329.out; go_wp2; refine bodyPost_ret (results_cell_row rfl _ _ gb329 83 #[.int .i64 3, .int .i64 0] (0, 0) _ rfl (by refine zpl_ ?_; refine zp2_ (.int .i64 0) (.int .i64 0) ?_; refine zpl_ ?_; exact BK329.out) Tryd.underlying83 rfl (by kernel_rfl)) rfl ?_; exact ⟨c7_1, c7_2⟩
    ·replace c9 := Bool.eq_false_iff.mpr c9
     subst c9; rw [if_neg (show ¬ (false = true) by decide)] at H; obtain ⟨⟨t332, t333⟩, A11, H⟩ := zbi_ H; (try dsimp -simprocs only at H); by_cases c12 : t333 = true
     ·subst c12
      rw [if_pos rfl] at H; obtain ⟨t334, A13, H⟩ := zbi_ H; (try dsimp -simprocs only at H); by_cases c14 : t334 = 0
      ·rw [if_pos c14] at H
       obtain ⟨c14b0, c14b1⟩ := zbt_ c14; clear c14; simp only [Option.some.injEq, Prod.mk.injEq] at H; obtain ⟨rfl, rfl⟩ := H; go_wp2_with (first | (go_at_call 68; (with_reducible refine (impl_quotient.calls a0 a1 t332 true _ A11.out).mono ?_); rintro e w' ⟨rfl, ⟨nd, rfl⟩⟩; (try (rw [drewN_self wc]; generalize hq_ : World.drewN wc _ = wc; have n0_ : Aside0 (wc.heap[gb329]? = some (.cells #[.int .i64 0, .int .i64 0] 83 (0, 0))) := ⟨by rw [← hq_]; exact d7_5⟩; have n1_ : Aside0 (Below w.heap.size w wc) := ⟨by rw [← hq_]; exact d7_2⟩; clear BK329 HB hq_; have BK329 := n0_; have HB := n1_; clear n0_ n1_))) | (go_at_call 47; (with_reducible refine (impl_NumFault.calls t332 t334 _ A13.out).mono ?_); rintro e w' ⟨rfl, ⟨nd, rfl⟩⟩; (try (rw [drewN_self wc]; generalize hq_ : World.drewN wc _ = wc; have n0_ : Aside0 (wc.heap[gb329]? = some (.cells #[.int .i64 0, .int .i64 0] 83 (0, 0))) := ⟨by rw [← hq_]; exact d7_5⟩; have n1_ : Aside0 (Below w.heap.size w wc) := ⟨by rw [← hq_]; exact d7_2⟩; clear BK329 HB hq_; have BK329 := n0_; have HB := n1_; clear n0_ n1_)); obtain ⟨hcz15_0, hcz15_1, hfz15_0, hfz15_1⟩ := zx2_ BK329.out))
       refine bodyPost_ret (results_cell_row rfl _ _ gb329 83 #[.int .i64 0, .int .i64 t332] (0, 0) _ rfl (by refine zpl_ ?_; refine zp2_ (.int .i64 0) (.int .i64 0) ?_; refine zpl_ ?_; exact BK329.out) Tryd.underlying83 rfl (by kernel_rfl)) rfl ?_; exact ⟨c7_1, c7_2⟩
      ·rw [if_neg c14] at H
       obtain ⟨c14b0, c14b1⟩ := zbf_ c14; simp only [Option.some.injEq, Prod.mk.injEq] at H; obtain ⟨rfl, rfl⟩ := H; go_wp2_with (first | (go_at_call 68; (with_reducible refine (impl_quotient.calls a0 a1 t332 true _ A11.out).mono ?_); rintro e w' ⟨rfl, ⟨nd, rfl⟩⟩; (try (rw [drewN_self wc]; generalize hq_ : World.drewN wc _ = wc; have n0_ : Aside0 (wc.heap[gb329]? = some (.cells #[.int .i64 0, .int .i64 0] 83 (0, 0))) := ⟨by rw [← hq_]; exact d7_5⟩; have n1_ : Aside0 (Below w.heap.size w wc) := ⟨by rw [← hq_]; exact d7_2⟩; clear BK329 HB hq_; have BK329 := n0_; have HB := n1_; clear n0_ n1_))) | (go_at_call 47; (with_reducible refine (impl_NumFault.calls t332 t334 _ A13.out).mono ?_); rintro e w' ⟨rfl, ⟨nd, rfl⟩⟩; (try (rw [drewN_self wc]; generalize hq_ : World.drewN wc _ = wc; have n0_ : Aside0 (wc.heap[gb329]? = some (.cells #[.int .i64 0, .int .i64 0] 83 (0, 0))) := ⟨by rw [← hq_]; exact d7_5⟩; have n1_ : Aside0 (Below w.heap.size w wc) := ⟨by rw [← hq_]; exact d7_2⟩; clear BK329 HB hq_; have BK329 := n0_; have HB := n1_; clear n0_ n1_)); obtain ⟨hcz16_0, hcz16_1, hfz16_0, hfz16_1⟩ := zx2_ BK329.out))
       refine bodyPost_ret (results_cell_row rfl _ _ gb329 83 #[.int .i64 7, .int .i64 0] (0, 0) _ rfl (by refine zpl_ ?_; refine zp2_ (.int .i64 0) (.int .i64 0) ?_; refine zpl_ ?_; exact BK329.out) Tryd.underlying83 rfl (by kernel_rfl)) rfl ?_; exact ⟨c7_1, c7_2⟩
     ·replace c12 := Bool.eq_false_iff.mpr c12
      subst c12; rw [if_neg (show ¬ (false = true) by decide)] at H; simp only [Option.some.injEq, Prod.mk.injEq] at H; obtain ⟨rfl, rfl⟩ := H; go_wp2_with (first | (go_at_call 68; (with_reducible refine (impl_quotient.calls a0 a1 t332 false _ A11.out).mono ?_); rintro e w' ⟨rfl, ⟨nd, rfl⟩⟩; (try (rw [drewN_self wc]; generalize hq_ : World.drewN wc _ = wc; have n0_ : Aside0 (wc.heap[gb329]? = some (.cells #[.int .i64 0, .int .i64 0] 83 (0, 0))) := ⟨by rw [← hq_]; exact d7_5⟩; have n1_ : Aside0 (Below w.heap.size w wc) := ⟨by rw [← hq_]; exact d7_2⟩; clear BK329 HB hq_; have BK329 := n0_; have HB := n1_; clear n0_ n1_)); obtain ⟨hcz17_0, hcz17_1, hfz17_0, hfz17_1⟩ := zx2_ BK329.out)); refine bodyPost_ret (results_cell_row rfl _ _ gb329 83 #[.int .i64 7, .int .i64 0] (0, 0) _ rfl (by refine zpl_ ?_; refine zp2_ (.int .i64 0) (.int .i64 0) ?_; refine zpl_ ?_; exact BK329.out) Tryd.underlying83 rfl (by kernel_rfl)) rfl ?_; exact ⟨c7_1, c7_2⟩

/-! ### impl_QuoNum: function 52 -/
def impl_QuoNum.f (k : Nat) (a0 : Int) (a1 : Int) : Option (Int × Int) := (impl_calculated__impl_quotient.f k a0 a1).bind fun bt336 => (some (bt336.1, bt336.2))
theorem impl_QuoNum.mono : ∀ a0 a1 k, LeO (impl_QuoNum.f k a0 a1) (impl_QuoNum.f (k + 1) a0 a1) := by
  intro a0 a1 k; unfold impl_QuoNum.f
  repeat' first | (with_reducible first | apply impl_calculated__impl_quotient.mono | exact LeO.refl _ | exact LeO.none _ | refine LeO.ite ?_ ?_ | refine LeO.bind ?_ (fun _ => ?_)) | apply impl_calculated__impl_quotient.mono | exact LeO.none _ | refine LeO.ite ?_ ?_ | refine LeO.bind ?_ (fun _ => ?_)
theorem impl_QuoNum.calls (k : Nat) (a0 : Int) (a1 : Int) (r1 : Int) (r2 : Int) (w : World) (h : impl_QuoNum.f k a0 a1 = some (r1, r2)) :
    Calls Tryd.prog 52 #[.int .i64 a0, .int .i64 a1] w fun e w' => e = .returned (.agg #[.int .i64 r1, .int .i64 r2]) ∧ Below w.heap.size w w' := by
  have hu83 := Tryd.underlying83; have HB := ak (Below.refl w.heap.size w); have H := h; clear h; unfold impl_QuoNum.f at H; obtain ⟨⟨t336, t337⟩, A3, H⟩ := zbi_ H; (try dsimp -simprocs only at H); simp only [Option.some.injEq, Prod.mk.injEq] at H; obtain ⟨rfl, rfl⟩ := H; go_enter Tryd.func52, Tryd.ntmps52
  go_wp2_with (first | ((with_reducible refine gate_dst (N := 4) rfl ?_); refine box_event ?hg (N := 4) ?hd (cs := #[.int .i64 0, .int .i64 0]) (t := 83) ?hr ?_; (case hd => rfl); (case hg => rfl); (case hr => first | (go_simp; done) | (go_simp; rfl)); intro gb335 hg w4 hbox hb; have BK335 := ak (hbox); have GW335 := ak ((by rw [hg]; exact (below_size d7_1) : w.heap.size ≤ gb335)); have GE335 := ak ((by rw [hg]; exact (below_size d7_1) : w.heap.size ≤ gb335)); replace HB := ak (below_step d7_1 hb); clear hb hbox hg) | (go_at_call 64; (with_reducible refine (impl_calculated__impl_quotient.calls k a0 a1  t336 t337 _ A3.out).mono ?_); rintro e w5 ⟨rfl, hb⟩; replace BK335 := zbb_ (g := gb335) (o := .cells #[.int .i64 0, .int .i64 0] 83 (0, 0)) hb (zpl_ BK335.out); replace HB := ak (below_step (by repeat (first | (with_reducible first | exact HB.out | apply below_alloc | apply pw_below_drewN | apply below_drew1 | refine below_set ?_ GE335.out) | exact HB.out)) hb); (try clear hb); obtain ⟨hcz6_0, hcz6_1, hfz6_0, hfz6_1⟩ := zx2_ BK335.out))
  refine bodyPost_ret (results_cell_row rfl _ _ gb335 83 #[.int .i64 t336, .int .i64 t337] (0, 0) _ rfl (by refine zpl_ ?_; refine zp2_ (.int .i64 0) (.int .i64 0) ?_; refine zpl_ ?_; exact BK335.out) Tryd.underlying83 rfl (by kernel_rfl)) rfl ?_; exact ⟨c7_1, by repeat (first | (with_reducible first | exact HB.out | apply below_alloc | apply pw_below_drewN | apply below_drew1 | refine below_set ?_ GE335.out) | exact HB.out)⟩

/-! ### impl_RemNum_1: function 69 -/
def impl_RemNum_1.f (a0 : Int) (a1 : Int) : Option (Int × Bool) := (impl_quotient.f a0 a1).bind fun bt342 => (some (wrap64 (a0 - (wrap64 (a1 * bt342.1))), bt342.2))
theorem impl_RemNum_1.calls (a0 : Int) (a1 : Int) (r1 : Int) (r2 : Bool) (w : World) (h : impl_RemNum_1.f a0 a1 = some (r1, r2)) :
    Calls Tryd.prog 69 #[.int .i64 a0, .int .i64 a1] w fun e w' => e = .returned (.tuple #[.int .i64 r1, .bool r2]) ∧ Drawn0 w w' := by
  have H := h; clear h; unfold impl_RemNum_1.f at H; obtain ⟨⟨t342, t343⟩, A3, H⟩ := zbi_ H; (try dsimp -simprocs only at H); simp only [Option.some.injEq, Prod.mk.injEq] at H; obtain ⟨rfl, rfl⟩ := H; go_enter Tryd.func69, Tryd.ntmps69; go_wp2_with (first | ((with_reducible refine gate_callee (f := 68) rfl ?_); refine zgo_ 11 Tryd.func68 #[.int .i64 a0, .int .i64 a1] ?_ (e := d7_4); (with_reducible refine (impl_quotient.calls a0 a1 t342 t343 _ A3.out).mono ?_); rintro e w' ⟨rfl, ⟨nd, rfl⟩⟩; refine ⟨_, rfl, ?_⟩)); go_ret2; exact ⟨by first | rfl | (simp; done) | (simp [*]; done) | (simp [ne_nil_b, eq_nil_b]; done), by repeat (first | exact Drawn0.refl _ | apply Drawn0.step)⟩

/-! ### impl_calculated__impl_RemNum_1: function 64 -/
def impl_calculated__impl_RemNum_1.j0 : Nat → Int → Int → Bool → Option (Int × Int)
  | 0, _, _, _ => none
  | k + 1, x0, x1, x16 => if x16 = true then (some (3, 0)) else ((impl_RemNum_1.f x0 x1).bind fun bt347 => (if bt347.2 = true then ((impl_NumFault.f bt347.1).bind fun t349 => (if t349 = 0 then (some (0, bt347.1)) else (some (7, 0)))) else (some (7, 0))))
def impl_calculated__impl_RemNum_1.f (k : Nat) (a0 : Int) (a1 : Int)  : Option (Int × Int) := (impl_NumFault.f a0).bind fun t345 => (if t345 = 0 then ((impl_NumFault.f a1).bind fun t346 => (impl_calculated__impl_RemNum_1.j0 k a0 a1 (t346 != 0))) else (impl_calculated__impl_RemNum_1.j0 k a0 a1 true))
theorem impl_calculated__impl_RemNum_1.mono_l : ∀ k, (∀ y0 y1 y2, LeO (impl_calculated__impl_RemNum_1.j0 k y0 y1 y2) (impl_calculated__impl_RemNum_1.j0 (k + 1) y0 y1 y2))
  | 0 => fun _ _ _ r h => by simp [impl_calculated__impl_RemNum_1.j0] at h
  | k + 1 => by
    have ih0 := impl_calculated__impl_RemNum_1.mono_l k
    · intro y0 y1 y2
      unfold impl_calculated__impl_RemNum_1.j0
      exact zm7_0
theorem impl_calculated__impl_RemNum_1.mono : ∀ a0 a1 k, LeO (impl_calculated__impl_RemNum_1.f k a0 a1) (impl_calculated__impl_RemNum_1.f (k + 1) a0 a1) := by
  intro a0 a1 k; have ih0 := impl_calculated__impl_RemNum_1.mono_l k; unfold impl_calculated__impl_RemNum_1.f
  exact zm7_0
theorem impl_calculated__impl_RemNum_1.calls (k : Nat) (a0 : Int) (a1 : Int)  (r1 : Int) (r2 : Int) (w : World) (h : impl_calculated__impl_RemNum_1.f k a0 a1 = some (r1, r2)) :
    Calls Tryd.prog 64 #[.int .i64 a0, .int .i64 a1, .func (.func 69) #[] #[]] w fun e w' => e = .returned (.agg #[.int .i64 r1, .int .i64 r2]) ∧ Below w.heap.size w w' := by
  have hu83 := Tryd.underlying83; have HB := ak (Below.refl w.heap.size w); have H := h; clear h; unfold impl_calculated__impl_RemNum_1.f at H; have HC4 := ak H; clear H; go_enter Tryd.func64, Tryd.ntmps64; go_upto_region 1 with (first | ((with_reducible refine gate_dst (N := 6) rfl ?_); refine box_event ?hg (N := 6) ?hd (cs := #[.int .i64 0, .int .i64 0]) (t := 83) ?hr ?_; (case hd => rfl); (case hg => rfl); (case hr => first | (go_simp; done) | (go_simp; rfl)); intro gb344 hg w5 hbox hb; have BK344 := ak (hbox); have GW344 := ak ((by rw [hg]; exact (below_size d7_1) : w.heap.size ≤ gb344)); have GE344 := ak ((by rw [hg]; exact (below_size d7_1) : w.heap.size ≤ gb344)); replace HB := ak (below_step d7_1 hb); clear hb hbox hg))
  (try simp only [Act.put, List.setIfInBounds_toArray, List.set_cons_zero, List.set_cons_succ])
  go_cut [16] (fun v16 wc => ∃ (kq : Nat) (x16_3 : Bool), v16 = .bool x16_3 ∧ Aside0 (impl_calculated__impl_RemNum_1.j0 kq a0 a1 x16_3 = some (r1, r2)) ∧ Aside0 (kq ≤ k) ∧ Aside0 (wc.heap[gb344]? = some (.cells #[.int .i64 0, .int .i64 0] 83 (0, 0))) ∧ Aside0 (Below w.heap.size w wc))
  case first =>
   have H := HC4.out; clear HC4; obtain ⟨t345, A6, H⟩ := zbi_ H; (try dsimp -simprocs only at H); by_cases c7 : t345 = 0
   ·rw [if_pos c7] at H
    obtain ⟨c7b0, c7b1⟩ := zbt_ c7; clear c7
    (first | rw [c7b0] | (simp only [i64_w, i32_w]; rw [c7b0]) | skip)
    obtain ⟨t346, A8, H⟩ := zbi_ H; (try dsimp -simprocs only at H); have H' := ak H; clear H; go_wp2_with (first | ((with_reducible refine gate_callee (f := 47) rfl ?_); refine zgo_ 10 Tryd.func47 #[.int .i64 a0] ?_ (e := d7_4); (with_reducible refine (impl_NumFault.calls a0 t345 _ A6.out).mono ?_); rintro e w' ⟨rfl, ⟨nd, rfl⟩⟩; refine ⟨_, rfl, ?_⟩) | (go_at_call 47; (with_reducible refine (impl_NumFault.calls a1 t346 _ A8.out).mono ?_); rintro e w' ⟨rfl, ⟨nd, rfl⟩⟩)); go_meet
    case rel => exact ⟨_, ((t346 != 0)), (by first | rfl | (simp; done) | (simp [*]; done) | (simp [ne_nil_b, eq_nil_b]; done)), H', ⟨by first | exact Nat.le_refl _ | omega⟩, ⟨zpl_ BK344.out⟩, ⟨c7_3⟩⟩
   ·rw [if_neg c7] at H
    obtain ⟨c7b0, c7b1⟩ := zbf_ c7
    (first | rw [c7b0] | (simp only [i64_w, i32_w]; rw [c7b0]) | skip)
    have H' := ak H; clear H; go_wp2_with (first | ((with_reducible refine gate_callee (f := 47) rfl ?_); refine zgo_ 10 Tryd.func47 #[.int .i64 a0] ?_ (e := d7_4); (with_reducible refine (impl_NumFault.calls a0 t345 _ A6.out).mono ?_); rintro e w' ⟨rfl, ⟨nd, rfl⟩⟩; refine ⟨_, rfl, ?_⟩)); go_meet
    case rel => exact ⟨_, (true), (by first | rfl | (simp; done) | (simp [*]; done) | (simp [ne_nil_b, eq_nil_b]; done)), H', ⟨by first | exact Nat.le_refl _ | omega⟩, ⟨zpl_ BK344.out⟩, ⟨c7_3⟩⟩
  case rest =>
   clear HC4
   try clear c6
   obtain ⟨kq, x16_3, rfl, HA, HJ3, BK344, HB⟩ := hcut
   cases kq with
   | zero => exact absurd HA.out (by simp [impl_calculated__impl_RemNum_1.j0])
   | succ kj3 =>
    have H := HA.out; clear HA; simp only [impl_calculated__impl_RemNum_1.j0] at H; by_cases c9 : x16_3 = true
    ·subst c9
     rw [if_pos rfl] at H; simp only [Option.some.injEq, Prod.mk.injEq] at H; obtain ⟨rfl, rfl⟩ := H; obtain ⟨hcz10_0, hcz10_1, hfz10_0, hfz10_1⟩ := zx2_ BK344.out; go_wp2; refine bodyPost_ret (results_cell_row rfl _ _ gb344 83 #[.int .i64 3, .int .i64 0] (0, 0) _ rfl (by refine zpl_ ?_; refine zp2_ (.int .i64 0) (.int .i64 0) ?_; refine zpl_ ?_; exact BK344.out) Tryd.underlying83 rfl (by kernel_rfl)) rfl ?_; exact ⟨c7_1, c7_3⟩
    ·replace c9 := Bool.eq_false_iff.mpr c9
     subst c9; rw [if_neg (show ¬ (false = true) by decide)] at H; obtain ⟨⟨t347, t348⟩, A11, H⟩ := zbi_ H; (try dsimp -simprocs only at H); by_cases c12 : t348 = true
     ·subst c12
      rw [if_pos rfl] at H; obtain ⟨t349, A13, H⟩ := zbi_ H; (try dsimp -simprocs only at H); by_cases c14 : t349 = 0
      ·rw [if_pos c14] at H
       obtain ⟨c14b0, c14b1⟩ := zbt_ c14; clear c14; simp only [Option.some.injEq, Prod.mk.injEq] at H; obtain ⟨rfl, rfl⟩ := H; go_wp2_with (first | (go_at_call 69; (with_reducible refine (impl_RemNum_1.calls a0 a1 t347 true _ A11.out).mono ?_); rintro e w' ⟨rfl, ⟨nd, rfl⟩⟩; (try (rw [drewN_self wc]; generalize hq_ : World.drewN wc _ = wc; have n0_ : Aside0 (wc.heap[gb344]? = some (.cells #[.int .i64 0, .int .i64 0] 83 (0, 0))) := ⟨by rw [← hq_]; exact d7_6⟩; have n1_ : Aside0 (Below w.heap.size w wc) := ⟨by rw [← hq_]; exact d7_3⟩; clear BK344 HB hq_; have BK344 := n0_; have HB := n1_; clear n0_ n1_))) | (go_at_call 47; (with_reducible refine (impl_NumFault.calls t347 t349 _ A13.out).mono ?_); rintro e w' ⟨rfl, ⟨nd, rfl⟩⟩; (try (rw [drewN_self wc]; generalize hq_ : World.drewN wc _ = wc; have n0_ : Aside0 (wc.heap[gb344]? = some (.cells #[.int .i64 0, .int .i64 0] 83 (0, 0))) := ⟨by rw [← hq_]; exact d7_6⟩; have n1_ : Aside0 (Below w.heap.size w wc) := ⟨by rw [← hq_]; exact d7_3⟩; clear BK344 HB hq_; have BK344 := n0_; have HB := n1_; clear n0_ n1_)); obtain ⟨hcz15_0, hcz15_1, hfz15_0, hfz15_1⟩ := zx2_ BK344.out))
       refine bodyPost_ret (results_cell_row rfl _ _ gb344 83 #[.int .i64 0, .int .i64 t347] (0, 0) _ rfl (by refine zpl_ ?_; refine zp2_ (.int .i64 0) (.int .i64 0) ?_; refine zpl_ ?_; exact BK344.out) Tryd.underlying83 rfl (by kernel_rfl)) rfl ?_; exact ⟨c7_1, c7_3⟩
      ·rw [if_neg c14] at H
       obtain ⟨c14b0, c14b1⟩ := zbf_ c14; simp only [Option.some.injEq, Prod.mk.injEq] at H; obtain ⟨rfl, rfl⟩ := H; go_wp2_with (first | (go_at_call 69; (with_reducible refine (impl_RemNum_1.calls a0 a1 t347 true _ A11.out).mono ?_); rintro e w' ⟨rfl, ⟨nd, rfl⟩⟩; (try (rw [drewN_self wc]; generalize hq_ : World.drewN wc _ = wc; have n0_ : Aside0 (wc.heap[gb344]? = some (.cells #[.int .i64 0, .int .i64 0] 83 (0, 0))) := ⟨by rw [← hq_]; exact d7_6⟩; have n1_ : Aside0 (Below w.heap.size w wc) := ⟨by rw [← hq_]; exact d7_3⟩; clear BK344 HB hq_; have BK344 := n0_; have HB := n1_; clear n0_ n1_))) | (go_at_call 47; (with_reducible refine (impl_NumFault.calls t347 t349 _ A13.out).mono ?_); rintro e w' ⟨rfl, ⟨nd, rfl⟩⟩; (try (rw [drewN_self wc]; generalize hq_ : World.drewN wc _ = wc; have n0_ : Aside0 (wc.heap[gb344]? = some (.cells #[.int .i64 0, .int .i64 0] 83 (0, 0))) := ⟨by rw [← hq_]; exact d7_6⟩; have n1_ : Aside0 (Below w.heap.size w wc) := ⟨by rw [← hq_]; exact d7_3⟩; clear BK344 HB hq_; have BK344 := n0_; have HB := n1_; clear n0_ n1_)); obtain ⟨hcz16_0, hcz16_1, hfz16_0, hfz16_1⟩ := zx2_ BK344.out))
       refine bodyPost_ret (results_cell_row rfl _ _ gb344 83 #[.int .i64 7, .int .i64 0] (0, 0) _ rfl (by refine zpl_ ?_; refine zp2_ (.int .i64 0) (.int .i64 0) ?_; refine zpl_ ?_; exact BK344.out) Tryd.underlying83 rfl (by kernel_rfl)) rfl ?_; exact ⟨c7_1, c7_3⟩
     ·replace c12 := Bool.eq_false_iff.mpr c12
      subst c12; rw [if_neg (show ¬ (false = true) by decide)] at H; simp only [Option.some.injEq, Prod.mk.injEq] at H; obtain ⟨rfl, rfl⟩ := H; go_wp2_with (first | (go_at_call 69; (with_reducible refine (impl_RemNum_1.calls a0 a1 t347 false _ A11.out).mono ?_); rintro e w' ⟨rfl, ⟨nd, rfl⟩⟩; (try (rw [drewN_self wc]; generalize hq_ : World.drewN wc _ = wc; have n0_ : Aside0 (wc.heap[gb344]? = some (.cells #[.int .i64 0, .int .i64 0] 83 (0, 0))) := ⟨by rw [← hq_]; exact d7_6⟩; have n1_ : Aside0 (Below w.heap.size w wc) := ⟨by rw [← hq_]; exact d7_3⟩; clear BK344 HB hq_; have BK344 := n0_; have HB := n1_; clear n0_ n1_)); obtain ⟨hcz17_0, hcz17_1, hfz17_0, hfz17_1⟩ := zx2_ BK344.out)); refine bodyPost_ret (results_cell_row rfl _ _ gb344 83 #[.int .i64 7, .int .i64 0] (0, 0) _ rfl (by refine zpl_ ?_; refine zp2_ (.int .i64 0) (.int .i64 0) ?_; refine zpl_ ?_; exact BK344.out) Tryd.underlying83 rfl (by kernel_rfl)) rfl ?_; exact ⟨c7_1, c7_3⟩

/-! ### impl_RemNum: function 53 -/
def impl_RemNum.f (k : Nat) (a0 : Int) (a1 : Int) : Option (Int × Int) := (impl_calculated__impl_RemNum_1.f k a0 a1).bind fun bt351 => (some (bt351.1, bt351.2))
theorem impl_RemNum.mono : ∀ a0 a1 k, LeO (impl_RemNum.f k a0 a1) (impl_RemNum.f (k + 1) a0 a1) := by
  intro a0 a1 k; unfold impl_RemNum.f
  repeat' first | (with_reducible first | apply impl_calculated__impl_RemNum_1.mono | exact LeO.refl _ | exact LeO.none _ | refine LeO.ite ?_ ?_ | refine LeO.bind ?_ (fun _ => ?_)) | apply impl_calculated__impl_RemNum_1.mono | exact LeO.none _ | refine LeO.ite ?_ ?_ | refine LeO.bind ?_ (fun _ => ?_)
theorem impl_RemNum.calls (k : Nat) (a0 : Int) (a1 : Int) (r1 : Int) (r2 : Int) (w : World) (h : impl_RemNum.f k a0 a1 = some (r1, r2)) :
    Calls Tryd.prog 53 #[.int .i64 a0, .int .i64 a1] w fun e w' => e = .returned (.agg #[.int .i64 r1, .int .i64 r2]) ∧ Below w.heap.size w w' := by
  have hu83 := Tryd.underlying83; have HB := ak (Below.refl w.heap.size w); have H := h; clear h; unfold impl_RemNum.f at H; obtain ⟨⟨t351, t352⟩, A3, H⟩ := zbi_ H; (try dsimp -simprocs only at H); simp only [Option.some.injEq, Prod.mk.injEq] at H; obtain ⟨rfl, rfl⟩ := H; go_enter Tryd.func53, Tryd.ntmps53
  go_wp2_with (first | ((with_reducible refine gate_dst (N := 4) rfl ?_); refine box_event ?hg (N := 4) ?hd (cs := #[.int .i64 0, .int .i64 0]) (t := 83) ?hr ?_; (case hd => rfl); (case hg => rfl); (case hr => first | (go_simp; done) | (go_simp; rfl)); intro gb350 hg w4 hbox hb; have BK350 := ak (hbox); have GW350 := ak ((by rw [hg]; exact (below_size d7_1) : w.heap.size ≤ gb350)); have GE350 := ak ((by rw [hg]; exact (below_size d7_1) : w.heap.size ≤ gb350)); replace HB := ak (below_step d7_1 hb); clear hb hbox hg) | (go_at_call 64; (with_reducible refine (impl_calculated__impl_RemNum_1.calls k a0 a1  t351 t352 _ A3.out).mono ?_); rintro e w5 ⟨rfl, hb⟩; replace BK350 := zbb_ (g := gb350) (o := .cells #[.int .i64 0, .int .i64 0] 83 (0, 0)) hb (zpl_ BK350.out); replace HB := ak (below_step (by repeat (first | (with_reducible first | exact HB.out | apply below_alloc | apply pw_below_drewN | apply below_drew1 | refine below_set ?_ GE350.out) | exact HB.out)) hb); (try clear hb); obtain ⟨hcz6_0, hcz6_1, hfz6_0, hfz6_1⟩ := zx2_ BK350.out))
  refine bodyPost_ret (results_cell_row rfl _ _ gb350 83 #[.int .i64 t351, .int .i64 t352] (0, 0) _ rfl (by refine zpl_ ?_; refine zp2_ (.int .i64 0) (.int .i64 0) ?_; refine zpl_ ?_; exact BK350.out) Tryd.underlying83 rfl (by kernel_rfl)) rfl ?_; exact ⟨c7_1, by repeat (first | (with_reducible first | exact HB.out | apply below_alloc | apply pw_below_drewN | apply below_drew1 | refine below_set ?_ GE350.out) | exact HB.out)⟩

end Go.Proofs.YtolhanigjmhkgacDoor.A
