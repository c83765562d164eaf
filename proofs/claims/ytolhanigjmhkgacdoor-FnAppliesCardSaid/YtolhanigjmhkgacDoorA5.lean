/- Walks of the program's functions: each Go function's answer as a plain Lean function, and that the call comes to it. Written by a program. Conditions: those in each theorem's own head. -/
import Derived.Test.YtolhanigjmhkgacDoorA0
import Derived.Test.YtolhanigjmhkgacDoorA4
namespace Go.Proofs.YtolhanigjmhkgacDoor.A
open Go.RowKit Go.Proofs.YtolhanigjmhkgacDoorW.PrintWords Go.Proofs.YtolhanigjmhkgacDoorW.PrintLast Go.Proofs.YtolhanigjmhkgacDoorW.PrintMore
attribute [local go_sem] max2_int min2_int max_two min_two max_three min_three max_four min_four   -- for this text's walks alone
set_option linter.unusedVariables false
set_option linter.unusedSimpArgs false

theorem b5N {w : World} {g : Nat} {o : Obj} (h : w.heap[g]? = some o) (n : Nat) : (w.drewN n).heap[g]? = some o := h
theorem b5D {w : World} {g : Nat} {o : Obj} (h : w.heap[g]? = some o) : (w.drew).heap[g]? = some o := h
theorem b5L {w : World} {g : Nat} {o : Obj} (h : w.heap[g]? = some o) (o' : Obj) : (w.alloc o').heap[g]? = some o := blk_alloc h o'
theorem d5_1 {p : Prop} (h : p := by repeat (first | (with_reducible first | exact HB.out | apply below_alloc | apply pw_below_drewN | apply below_drew1) | exact HB.out)) : p := h
theorem d5_2 {p : Prop} (h : p := by (try simp only [List.map_toArray, List.map_cons, List.map_nil]); first | done | rfl | (simp only [List.length_drop, List.length_take]; rfl)) : p := h
theorem d5_3 {p : Prop} (h : p := by repeat (first | (with_reducible first | exact HB.out | apply below_alloc | apply pw_below_drewN | apply below_drew1 | refine below_set ?_ GE271.out) | exact HB.out)) : p := h
theorem d5_4 {p : Prop} (h : p := by first | rfl | (simp; done) | (simp [*]; done) | (simp [ne_nil_b, eq_nil_b]; done)) : p := h
theorem d5_5 {p : Prop} (h : p := by (with_reducible repeat first | apply b5N | apply b5D | apply b5L); exact BK271.out) : p := h
theorem d5_6 {p : Prop} (h : p := by first | (with_reducible assumption) | assumption) : p := h
theorem d5_7 {p : Prop} (h : p := by repeat (first | (with_reducible first | exact HB.out | apply below_alloc | apply pw_below_drewN | apply below_drew1 | refine below_set ?_ GE277.out) | exact HB.out)) : p := h
theorem d5_8 {p : Prop} (h : p := by rw [hg]; exact (below_size d5_1)) : p := h
theorem c5_1 {p : Prop} (h : p := by repeat (first | (with_reducible first | exact HB.out | apply below_alloc | apply pw_below_drewN | apply below_drew1 | refine below_set ?_ GE262.out) | exact HB.out)) : p := h
theorem c5_2 {p : Prop} (h : p := by first | rfl | (simp [errW_none, errW_some] <;> rfl) | (simp [*, errW_none, errW_some] <;> rfl)) : p := h
theorem c5_3 {p : Prop} (h : p := by (with_reducible repeat first | apply b5N | apply b5D | apply b5L); exact BK262.out) : p := h
theorem c5_4 {p : Prop} (h : p := by repeat (first | (with_reducible first | exact HB.out | apply below_alloc | apply pw_below_drewN | apply below_drew1 | refine below_set ?_ GE271.out) | exact HB.out)) : p := h
theorem c5_5 {p : Prop} (h : p := by repeat (first | (with_reducible first | exact HB.out | apply below_alloc | apply pw_below_drewN | apply below_drew1) | exact HB.out)) : p := h
theorem c5_6 {p : Prop} (h : p := by first | (go_simp; done) | (go_simp; rfl)) : p := h
theorem c5_7 {p : Prop} (h : p := by repeat (first | (with_reducible first | exact HB.out | apply below_alloc | apply pw_below_drewN | apply below_drew1 | refine below_set ?_ GE277.out) | exact HB.out)) : p := h
set_option maxHeartbeats 8000000
set_option maxRecDepth 100000
theorem z5c {w : World} {g : Nat} {t : TypeId} {cs : Array Value} (h : w.heap[g]? = some (.cells cs t (0, 0))) (i : Nat) {v : Value} (e : cs[i]? = some v) : w.cell? ⟨g, i, none⟩ = some v := (blk_cell h i).trans e
theorem z5f {w : World} {g : Nat} {t : TypeId} {cs : Array Value} (h : w.heap[g]? = some (.cells cs t (0, 0))) (i : Nat) : w.frozen? ⟨g, i, none⟩ = false := blk_frozen h i
theorem zm5_0 {p : Prop} (h : p := by repeat' first | (with_reducible first | apply ih0 | apply impl_ValueFault.mono | exact LeO.refl _ | exact LeO.none _ | refine LeO.ite ?_ ?_ | refine LeO.bind ?_ (fun _ => ?_)) | apply ih0 | apply impl_ValueFault.mono | exact LeO.none _ | refine LeO.ite ?_ ?_ | refine LeO.bind ?_ (fun _ => ?_)) : p := h
theorem zm5_1 {p : Prop} (h : p := by repeat' first | (with_reducible first | apply ih0 | exact LeO.refl _ | exact LeO.none _ | refine LeO.ite ?_ ?_ | refine LeO.bind ?_ (fun _ => ?_)) | apply ih0 | exact LeO.none _ | refine LeO.ite ?_ ?_ | refine LeO.bind ?_ (fun _ => ?_)) : p := h

/-! ### impl_ValueFault: function 9 -/
def impl_ValueFault.j0 : Nat → Bool → Int → Int → ByteArray → Option (Int)
  | 0, _, _, _, _ => none
  | k + 1, x3, x263000, x263001, x263002 => if x3 = true then (some 1) else ((impl_isPlaced.f x263000).bind fun t265 => (if t265 = true then ((impl_in.f x263001 0 99999).bind fun t266 => (if t266 = true then ((impl_kindFault.f x263000 1 4 2 x263001 x263002).bind fun t267 => (some t267)) else (some 3))) else ((impl_kindFault.f x263000 1 4 2 x263001 x263002).bind fun t268 => (some t268))))
def impl_ValueFault.f (k : Nat) (a0_0 : Int) (a0_1 : Int) (a0_2 : ByteArray) : Option (Int) := (impl_in.f a0_0 1 9).bind fun t263 => (if t263 = true then (if a0_1 = 0 then (if a0_2.toList = ([] : List UInt8) then (impl_ValueFault.j0 k false a0_0 a0_1 a0_2) else (impl_ValueFault.j0 k (a0_0 != 4) a0_0 a0_1 a0_2)) else ((impl_isPlaced.f a0_0).bind fun t264 => (if t264 = true then (if a0_2.toList = ([] : List UInt8) then (impl_ValueFault.j0 k false a0_0 a0_1 a0_2) else (impl_ValueFault.j0 k (a0_0 != 4) a0_0 a0_1 a0_2)) else (if a0_0 = 1 then (if a0_2.toList = ([] : List UInt8) then (impl_ValueFault.j0 k false a0_0 a0_1 a0_2) else (impl_ValueFault.j0 k (a0_0 != 4) a0_0 a0_1 a0_2)) else (if a0_0 = 2 then (if a0_2.toList = ([] : List UInt8) then (impl_ValueFault.j0 k false a0_0 a0_1 a0_2) else (impl_ValueFault.j0 k (a0_0 != 4) a0_0 a0_1 a0_2)) else (impl_ValueFault.j0 k true a0_0 a0_1 a0_2)))))) else (impl_ValueFault.j0 k true a0_0 a0_1 a0_2))
theorem impl_ValueFault.mono_l : ∀ k, (∀ y0 y1 y2 y3, LeO (impl_ValueFault.j0 k y0 y1 y2 y3) (impl_ValueFault.j0 (k + 1) y0 y1 y2 y3))
  | 0 => fun _ _ _ _ r h => by simp [impl_ValueFault.j0] at h
  | k + 1 => by
    have ih0 := impl_ValueFault.mono_l k
    · intro y0 y1 y2 y3
      unfold impl_ValueFault.j0
      exact zm5_1
theorem impl_ValueFault.mono : ∀ a0 a1 a2 k, LeO (impl_ValueFault.f k a0 a1 a2) (impl_ValueFault.f (k + 1) a0 a1 a2) := by
  intro a0 a1 a2 k; have ih0 := impl_ValueFault.mono_l k; unfold impl_ValueFault.f
  exact zm5_1
theorem impl_ValueFault.calls (k : Nat) (a0_0 : Int) (a0_1 : Int) (a0_2 : ByteArray) (r : Int) (w : World) (h : impl_ValueFault.f k a0_0 a0_1 a0_2 = some r) :
    Calls Tryd.prog 9 #[.agg #[.int .i64 a0_0, .int .i64 a0_1, .string a0_2]] w fun e w' => e = .returned (.int .i64 r) ∧ Below w.heap.size w w' := by
  have hu29 := Tryd.underlying29; have HB := ak (Below.refl w.heap.size w); have H := h; clear h; unfold impl_ValueFault.f at H; have HC2 := ak H; clear H; go_enter Tryd.func9, Tryd.ntmps9; go_upto_region 1 with (first | ((with_reducible refine gate_dst (N := 1) rfl ?_); refine zbx_ 1 29 #[.int .i64 a0_0, .int .i64 a0_1, .string a0_2] ?_ c5_6; intro gb262 hg w3 hbox hb; have BK262 := ak (hbox); have GW262 := ak ((d5_8 : w.heap.size ≤ gb262)); have GE262 := ak ((d5_8 : w.heap.size ≤ gb262)); replace HB := ak (below_step d5_1 hb); clear hb hbox hg))
  (try simp only [Act.put, List.setIfInBounds_toArray, List.set_cons_zero, List.set_cons_succ])
  go_cut [3] (fun v3 wc => ∃ (kq : Nat) (x3_1 : Bool), v3 = .bool x3_1 ∧ Aside0 (impl_ValueFault.j0 kq x3_1 a0_0 a0_1 a0_2 = some r) ∧ Aside0 (kq ≤ k) ∧ Aside0 (wc.heap[gb262]? = some (.cells #[.int .i64 a0_0, .int .i64 a0_1, .string a0_2] 29 (0, 0))) ∧ Aside0 (Below w.heap.size w wc))
  case first =>
   have H := HC2.out; clear HC2; obtain ⟨t263, A4, H⟩ := zbi_ H; (try dsimp -simprocs only at H); by_cases c5 : t263 = true
   ·subst c5
    rw [if_pos rfl] at H; by_cases c6 : a0_1 = 0
    ·rw [if_pos c6] at H
     obtain ⟨c6b0, c6b1⟩ := zbt_ c6; clear c6
     (first | rw [c6b0] | (simp only [i64_w, i32_w]; rw [c6b0]) | skip)
     by_cases c7 : a0_2.toList = ([] : List UInt8)
     ·rw [if_pos c7] at H
      obtain ⟨c7b0, c7b1⟩ := zbt_ c7; clear c7; have H' := ak H; clear H; obtain ⟨hcz8_0, hcz8_1, hcz8_2, hfz8_0, hfz8_1, hfz8_2⟩ := zx3_ BK262.out; go_wp2_with (first | ((with_reducible refine gate_callee (f := 30) rfl ?_); refine zgo_ 6 Tryd.func30 #[.int .i64 a0_0, .int .i64 1, .int .i64 9] ?_ (e := d5_2); (with_reducible refine (impl_in.calls a0_0 1 9 true _ A4.out).mono ?_); rintro e w' ⟨rfl, ⟨nd, rfl⟩⟩; refine ⟨_, rfl, ?_⟩)); go_meet
      case rel => exact ⟨_, (false), d5_4, H', ⟨by first | exact Nat.le_refl _ | omega⟩, ⟨c5_3⟩, ⟨c5_1⟩⟩
     ·rw [if_neg c7] at H
      obtain ⟨c7b0, c7b1⟩ := zbf_ c7; have H' := ak H; clear H; obtain ⟨hcz9_0, hcz9_1, hcz9_2, hfz9_0, hfz9_1, hfz9_2⟩ := zx3_ BK262.out; go_wp2_with (first | ((with_reducible refine gate_callee (f := 30) rfl ?_); refine zgo_ 6 Tryd.func30 #[.int .i64 a0_0, .int .i64 1, .int .i64 9] ?_ (e := d5_2); (with_reducible refine (impl_in.calls a0_0 1 9 true _ A4.out).mono ?_); rintro e w' ⟨rfl, ⟨nd, rfl⟩⟩; refine ⟨_, rfl, ?_⟩)); go_meet
      case rel => exact ⟨_, ((a0_0 != 4)), d5_4, H', ⟨by first | exact Nat.le_refl _ | omega⟩, ⟨c5_3⟩, ⟨c5_1⟩⟩
    ·rw [if_neg c6] at H
     obtain ⟨c6b0, c6b1⟩ := zbf_ c6
     (first | rw [c6b0] | (simp only [i64_w, i32_w]; rw [c6b0]) | skip)
     obtain ⟨t264, A10, H⟩ := zbi_ H; (try dsimp -simprocs only at H); by_cases c11 : t264 = true
     ·subst c11
      rw [if_pos rfl] at H; by_cases c12 : a0_2.toList = ([] : List UInt8)
      ·rw [if_pos c12] at H
       obtain ⟨c12b0, c12b1⟩ := zbt_ c12; clear c12; have H' := ak H; clear H; obtain ⟨hcz13_0, hcz13_1, hcz13_2, hfz13_0, hfz13_1, hfz13_2⟩ := zx3_ BK262.out; go_wp2_with (first | ((with_reducible refine gate_callee (f := 30) rfl ?_); refine zgo_ 6 Tryd.func30 #[.int .i64 a0_0, .int .i64 1, .int .i64 9] ?_ (e := d5_2); (with_reducible refine (impl_in.calls a0_0 1 9 true _ A4.out).mono ?_); rintro e w' ⟨rfl, ⟨nd, rfl⟩⟩; refine ⟨_, rfl, ?_⟩) | (go_at_call 31; (with_reducible refine (impl_isPlaced.calls a0_0 true _ A10.out).mono ?_); rintro e w' ⟨rfl, ⟨nd, rfl⟩⟩)); go_meet
       case rel => exact ⟨_, (false), d5_4, H', ⟨by first | exact Nat.le_refl _ | omega⟩, ⟨c5_3⟩, ⟨c5_1⟩⟩
      ·rw [if_neg c12] at H
       obtain ⟨c12b0, c12b1⟩ := zbf_ c12; have H' := ak H; clear H; obtain ⟨hcz14_0, hcz14_1, hcz14_2, hfz14_0, hfz14_1, hfz14_2⟩ := zx3_ BK262.out; go_wp2_with (first | ((with_reducible refine gate_callee (f := 30) rfl ?_); refine zgo_ 6 Tryd.func30 #[.int .i64 a0_0, .int .i64 1, .int .i64 9] ?_ (e := d5_2); (with_reducible refine (impl_in.calls a0_0 1 9 true _ A4.out).mono ?_); rintro e w' ⟨rfl, ⟨nd, rfl⟩⟩; refine ⟨_, rfl, ?_⟩) | (go_at_call 31; (with_reducible refine (impl_isPlaced.calls a0_0 true _ A10.out).mono ?_); rintro e w' ⟨rfl, ⟨nd, rfl⟩⟩)); go_meet
       case rel => exact ⟨_, ((a0_0 != 4)), d5_4, H', ⟨by first | exact Nat.le_refl _ | omega⟩, ⟨c5_3⟩, ⟨c5_1⟩⟩
     ·replace c11 := Bool.eq_false_iff.mpr c11
      subst c11; rw [if_neg (show ¬ (false = true) by decide)] at H; by_cases c15 : a0_0 = 1
      ·rw [if_pos c15] at H
       obtain ⟨c15b0, c15b1⟩ := zbt_ c15; clear c15; by_cases c16 : a0_2.toList = ([] : List UInt8)
       ·rw [if_pos c16] at H
        obtain ⟨c16b0, c16b1⟩ := zbt_ c16; clear c16; have H' := ak H; clear H; obtain ⟨hcz17_0, hcz17_1, hcz17_2, hfz17_0, hfz17_1, hfz17_2⟩ := zx3_ BK262.out; go_wp2_with (first | ((with_reducible refine gate_callee (f := 30) rfl ?_); refine zgo_ 6 Tryd.func30 #[.int .i64 a0_0, .int .i64 1, .int .i64 9] ?_ (e := d5_2); (with_reducible refine (impl_in.calls a0_0 1 9 true _ A4.out).mono ?_); rintro e w' ⟨rfl, ⟨nd, rfl⟩⟩; refine ⟨_, rfl, ?_⟩) | (go_at_call 31; (with_reducible refine (impl_isPlaced.calls a0_0 false _ A10.out).mono ?_); rintro e w' ⟨rfl, ⟨nd, rfl⟩⟩)); go_meet
        case rel => exact ⟨_, (false), d5_4, H', ⟨by first | exact Nat.le_refl _ | omega⟩, ⟨c5_3⟩, ⟨c5_1⟩⟩
       ·rw [if_neg c16] at H
        obtain ⟨c16b0, c16b1⟩ := zbf_ c16; have H' := ak H; clear H; obtain ⟨hcz18_0, hcz18_1, hcz18_2, hfz18_0, hfz18_1, hfz18_2⟩ := zx3_ BK262.out; go_wp2_with (first | ((with_reducible refine gate_callee (f := 30) rfl ?_); refine zgo_ 6 Tryd.func30 #[.int .i64 a0_0, .int .i64 1, .int .i64 9] ?_ (e := d5_2); (with_reducible refine (impl_in.calls a0_0 1 9 true _ A4.out).mono ?_); rintro e w' ⟨rfl, ⟨nd, rfl⟩⟩; refine ⟨_, rfl, ?_⟩) | (go_at_call 31; (with_reducible refine (impl_isPlaced.calls a0_0 false _ A10.out).mono ?_); rintro e w' ⟨rfl, ⟨nd, rfl⟩⟩)); go_meet
        case rel => exact ⟨_, ((a0_0 != 4)), d5_4, H', ⟨by first | exact Nat.le_refl _ | omega⟩, ⟨c5_3⟩, ⟨c5_1⟩⟩
      ·rw [if_neg c15] at H
       obtain ⟨c15b0, c15b1⟩ := zbf_ c15; by_cases c19 : a0_0 = 2
       ·rw [if_pos c19] at H
        obtain ⟨c19b0, c19b1⟩ := zbt_ c19; clear c19; by_cases c20 : a0_2.toList = ([] : List UInt8)
        ·rw [if_pos c20] at H
         obtain ⟨c20b0, c20b1⟩ := zbt_ c20; clear c20; have H' := ak H; clear H; obtain ⟨hcz21_0, hcz21_1, hcz21_2, hfz21_0, hfz21_1, hfz21_2⟩ := zx3_ BK262.out; go_wp2_with (first | ((with_reducible refine gate_callee (f := 30) rfl ?_); refine zgo_ 6 Tryd.func30 #[.int .i64 a0_0, .int .i64 1, .int .i64 9] ?_ (e := d5_2); (with_reducible refine (impl_in.calls a0_0 1 9 true _ A4.out).mono ?_); rintro e w' ⟨rfl, ⟨nd, rfl⟩⟩; refine ⟨_, rfl, ?_⟩) | (go_at_call 31; (with_reducible refine (impl_isPlaced.calls a0_0 false _ A10.out).mono ?_); rintro e w' ⟨rfl, ⟨nd, rfl⟩⟩)); go_meet
         case rel => exact ⟨_, (false), d5_4, H', ⟨by first | exact Nat.le_refl _ | omega⟩, ⟨c5_3⟩, ⟨c5_1⟩⟩
        ·rw [if_neg c20] at H
         obtain ⟨c20b0, c20b1⟩ := zbf_ c20; have H' := ak H; clear H; obtain ⟨hcz22_0, hcz22_1, hcz22_2, hfz22_0, hfz22_1, hfz22_2⟩ := zx3_ BK262.out; go_wp2_with (first | ((with_reducible refine gate_callee (f := 30) rfl ?_); refine zgo_ 6 Tryd.func30 #[.int .i64 a0_0, .int .i64 1, .int .i64 9] ?_ (e := d5_2); (with_reducible refine (impl_in.calls a0_0 1 9 true _ A4.out).mono ?_); rintro e w' ⟨rfl, ⟨nd, rfl⟩⟩; refine ⟨_, rfl, ?_⟩) | (go_at_call 31; (with_reducible refine (impl_isPlaced.calls a0_0 false _ A10.out).mono ?_); rintro e w' ⟨rfl, ⟨nd, rfl⟩⟩)); go_meet
         case rel => exact ⟨_, ((a0_0 != 4)), d5_4, H', ⟨by first | exact Nat.le_refl _ | omega⟩, ⟨c5_3⟩, ⟨c5_1⟩⟩
       ·rw [if_neg c19] at H
        obtain ⟨c19b0, c19b1⟩ := zbf_ c19; have H' := ak H; clear H; obtain ⟨hcz23_0, hcz23_1, hcz23_2, hfz23_0, hfz23_1, hfz23_2⟩ := zx3_ BK262.out; go_wp2_with (first | ((with_reducible refine gate_callee (f := 30) rfl ?_); refine zgo_ 6 Tryd.func30 #[.int .i64 a0_0, .int .i64 1, .int .i64 9] ?_ (e := d5_2); (with_reducible refine (impl_in.calls a0_0 1 9 true _ A4.out).mono ?_); rintro e w' ⟨rfl, ⟨nd, rfl⟩⟩; refine ⟨_, rfl, ?_⟩) | (go_at_call 31; (with_reducible refine (impl_isPlaced.calls a0_0 false _ A10.out).mono ?_); rintro e w' ⟨rfl, ⟨nd, rfl⟩⟩)); go_meet
        case rel => exact ⟨_, (true), d5_4, H', ⟨by first | exact Nat.le_refl _ | omega⟩, ⟨c5_3⟩, ⟨c5_1⟩⟩
   ·replace c5 := Bool.eq_false_iff.mpr c5
    subst c5; rw [if_neg (show ¬ (false = true) by decide)] at H; have H' := ak H; clear H; obtain ⟨hcz24_0, hcz24_1, hcz24_2, hfz24_0, hfz24_1, hfz24_2⟩ := zx3_ BK262.out; go_wp2_with (first | ((with_reducible refine gate_callee (f := 30) rfl ?_); refine zgo_ 6 Tryd.func30 #[.int .i64 a0_0, .int .i64 1, .int .i64 9] ?_ (e := d5_2); (with_reducible refine (impl_in.calls a0_0 1 9 false _ A4.out).mono ?_); rintro e w' ⟨rfl, ⟨nd, rfl⟩⟩; refine ⟨_, rfl, ?_⟩)); go_meet
    case rel => exact ⟨_, (true), d5_4, H', ⟨by first | exact Nat.le_refl _ | omega⟩, ⟨c5_3⟩, ⟨c5_1⟩⟩
  case rest =>
   clear HC2
   try clear c9
   obtain ⟨kq, x3_1, rfl, HA, HJ1, BK262, HB⟩ := hcut
   cases kq with
   | zero => exact absurd HA.out (by simp [impl_ValueFault.j0])
   | succ kj1 =>
    have H := HA.out; clear HA; simp only [impl_ValueFault.j0] at H; by_cases c25 : x3_1 = true
    ·subst c25
     rw [if_pos rfl] at H; obtain rfl := Option.some.inj H; go_wp2; go_ret; exact ⟨c5_2, c5_1⟩
    ·replace c25 := Bool.eq_false_iff.mpr c25
     subst c25; rw [if_neg (show ¬ (false = true) by decide)] at H; obtain ⟨t265, A26, H⟩ := zbi_ H; (try dsimp -simprocs only at H); by_cases c27 : t265 = true
     ·subst c27
      rw [if_pos rfl] at H; obtain ⟨t266, A28, H⟩ := zbi_ H; (try dsimp -simprocs only at H); by_cases c29 : t266 = true
      ·subst c29
       rw [if_pos rfl] at H; obtain ⟨t267, A30, H⟩ := zbi_ H; (try dsimp -simprocs only at H); obtain rfl := Option.some.inj H; obtain ⟨hcz31_0, hcz31_1, hcz31_2, hfz31_0, hfz31_1, hfz31_2⟩ := zx3_ BK262.out
       go_wp2_with (first | ((with_reducible refine gate_callee (f := 31) rfl ?_); refine zgo_ 42 Tryd.func31 #[.int .i64 a0_0] ?_ (e := d5_2); (with_reducible refine (impl_isPlaced.calls a0_0 true _ A26.out).mono ?_); rintro e w' ⟨rfl, ⟨nd, rfl⟩⟩; refine ⟨_, rfl, ?_⟩) | (go_at_call 30; (with_reducible refine (impl_in.calls a0_1 0 99999 true _ A28.out).mono ?_); rintro e w' ⟨rfl, ⟨nd, rfl⟩⟩) | ((with_reducible refine gate_callee (f := 32) rfl ?_); refine zgo_ 55 Tryd.func32 #[.int .i64 a0_0, .int .i64 1, .int .i64 4, .int .i64 2, .int .i64 a0_1, .string a0_2] ?_ (e := d5_2); (with_reducible refine (impl_kindFault.calls a0_0 1 4 2 a0_1 a0_2 t267 _ A30.out).mono ?_); rintro e w32 ⟨rfl, hb⟩; refine ⟨_, rfl, ?_⟩; replace BK262 := zbb_ (g := gb262) (o := .cells #[.int .i64 a0_0, .int .i64 a0_1, .string a0_2] 29 (0, 0)) hb (zpl_ BK262.out); replace HB := ak (below_step (by repeat (first | (with_reducible first | exact HB.out | apply below_alloc | apply pw_below_drewN | apply below_drew1 | refine below_set ?_ GE262.out) | exact HB.out)) hb); (try clear hb))); go_ret; exact ⟨c5_2, c5_1⟩
      ·replace c29 := Bool.eq_false_iff.mpr c29
       subst c29; rw [if_neg (show ¬ (false = true) by decide)] at H; obtain rfl := Option.some.inj H; obtain ⟨hcz33_0, hcz33_1, hcz33_2, hfz33_0, hfz33_1, hfz33_2⟩ := zx3_ BK262.out; go_wp2_with (first | ((with_reducible refine gate_callee (f := 31) rfl ?_); refine zgo_ 42 Tryd.func31 #[.int .i64 a0_0] ?_ (e := d5_2); (with_reducible refine (impl_isPlaced.calls a0_0 true _ A26.out).mono ?_); rintro e w' ⟨rfl, ⟨nd, rfl⟩⟩; refine ⟨_, rfl, ?_⟩) | (go_at_call 30; (with_reducible refine (impl_in.calls a0_1 0 99999 false _ A28.out).mono ?_); rintro e w' ⟨rfl, ⟨nd, rfl⟩⟩)); go_ret; exact ⟨c5_2, c5_1⟩
     ·replace c27 := Bool.eq_false_iff.mpr c27
      subst c27; rw [if_neg (show ¬ (false = true) by decide)] at H; obtain ⟨t268, A34, H⟩ := zbi_ H; (try dsimp -simprocs only at H); obtain rfl := Option.some.inj H; obtain ⟨hcz35_0, hcz35_1, hcz35_2, hfz35_0, hfz35_1, hfz35_2⟩ := zx3_ BK262.out
      go_wp2_with (first | ((with_reducible refine gate_callee (f := 31) rfl ?_); refine zgo_ 42 Tryd.func31 #[.int .i64 a0_0] ?_ (e := d5_2); (with_reducible refine (impl_isPlaced.calls a0_0 false _ A26.out).mono ?_); rintro e w' ⟨rfl, ⟨nd, rfl⟩⟩; refine ⟨_, rfl, ?_⟩) | ((with_reducible refine gate_callee (f := 32) rfl ?_); refine zgo_ 55 Tryd.func32 #[.int .i64 a0_0, .int .i64 1, .int .i64 4, .int .i64 2, .int .i64 a0_1, .string a0_2] ?_ (e := d5_2); (with_reducible refine (impl_kindFault.calls a0_0 1 4 2 a0_1 a0_2 t268 _ A34.out).mono ?_); rintro e w36 ⟨rfl, hb⟩; refine ⟨_, rfl, ?_⟩; replace BK262 := zbb_ (g := gb262) (o := .cells #[.int .i64 a0_0, .int .i64 a0_1, .string a0_2] 29 (0, 0)) hb (zpl_ BK262.out); replace HB := ak (below_step (by repeat (first | (with_reducible first | exact HB.out | apply below_alloc | apply pw_below_drewN | apply below_drew1 | refine below_set ?_ GE262.out) | exact HB.out)) hb); (try clear hb))); go_ret; exact ⟨c5_2, c5_1⟩

/-! ### impl_isBeyond: function 29 -/
def impl_isBeyond.f (a0_0 : Int) (a0_1 : Int) (a0_2 : ByteArray) (a1 : Int) : Option (Bool) := if a0_0 = 5 then (some (decide (a0_1 ≥ a1))) else (some false)
theorem impl_isBeyond.calls (a0_0 : Int) (a0_1 : Int) (a0_2 : ByteArray) (a1 : Int) (r : Bool) (w : World) (h : impl_isBeyond.f a0_0 a0_1 a0_2 a1 = some r) :
    Calls Tryd.prog 29 #[.agg #[.int .i64 a0_0, .int .i64 a0_1, .string a0_2], .int .i64 a1] w fun e w' => e = .returned (.bool r) ∧ Below w.heap.size w w' := by
  have hu29 := Tryd.underlying29; have HB := ak (Below.refl w.heap.size w); have H := h; clear h; unfold impl_isBeyond.f at H; by_cases c3 : a0_0 = 5
  ·rw [if_pos c3] at H
   obtain ⟨c3b0, c3b1⟩ := zbt_ c3; clear c3; obtain rfl := Option.some.inj H; go_enter Tryd.func29, Tryd.ntmps29; go_wp2_with (first | ((with_reducible refine gate_dst (N := 2) rfl ?_); refine zbx_ 2 29 #[.int .i64 a0_0, .int .i64 a0_1, .string a0_2] ?_ c5_6; intro gb269 hg w4 hbox hb; have BK269 := ak (hbox); have GW269 := ak ((d5_8 : w.heap.size ≤ gb269)); have GE269 := ak ((d5_8 : w.heap.size ≤ gb269)); replace HB := ak (below_step d5_1 hb); clear hb hbox hg; obtain ⟨hcz5_0, hcz5_1, hcz5_2, hfz5_0, hfz5_1, hfz5_2⟩ := zx3_ BK269.out)); go_ret; exact ⟨c5_2, by repeat (first | (with_reducible first | exact HB.out | apply below_alloc | apply pw_below_drewN | apply below_drew1 | refine below_set ?_ GE269.out) | exact HB.out)⟩
  ·rw [if_neg c3] at H
   obtain ⟨c3b0, c3b1⟩ := zbf_ c3; obtain rfl := Option.some.inj H; go_enter Tryd.func29, Tryd.ntmps29; go_wp2_with (first | ((with_reducible refine gate_dst (N := 2) rfl ?_); refine zbx_ 2 29 #[.int .i64 a0_0, .int .i64 a0_1, .string a0_2] ?_ c5_6; intro gb269 hg w6 hbox hb; have BK269 := ak (hbox); have GW269 := ak ((d5_8 : w.heap.size ≤ gb269)); have GE269 := ak ((d5_8 : w.heap.size ≤ gb269)); replace HB := ak (below_step d5_1 hb); clear hb hbox hg; obtain ⟨hcz7_0, hcz7_1, hcz7_2, hfz7_0, hfz7_1, hfz7_2⟩ := zx3_ BK269.out)); go_ret; exact ⟨c5_2, by repeat (first | (with_reducible first | exact HB.out | apply below_alloc | apply pw_below_drewN | apply below_drew1 | refine below_set ?_ GE269.out) | exact HB.out)⟩

/-! ### impl_HeapFault: function 8 -/
def impl_HeapFault.l0 : Nat → List (S34) → Int → Int → Option (Int)
  | 0, _, _, _ => none
  | k + 1, x10, x11, x12 => if x12 < x11 then (if 0 ≤ x12 then (if x12 < (x10.length : Int) then ((impl_ValueFault.f k ((rd_T34 x10 x12).f0.f0) ((rd_T34 x10 x12).f0.f1) ((rd_T34 x10 x12).f0.f2)).bind fun t272 => (if t272 = 0 then ((impl_ValueFault.f k ((rd_T34 x10 x12).f1.f0) ((rd_T34 x10 x12).f1.f1) ((rd_T34 x10 x12).f1.f2)).bind fun t273 => (if t273 = 0 then ((impl_isBeyond.f ((rd_T34 x10 x12).f0.f0) ((rd_T34 x10 x12).f0.f1) ((rd_T34 x10 x12).f0.f2) x12).bind fun t274 => (if t274 = true then (some 1) else ((impl_isBeyond.f ((rd_T34 x10 x12).f1.f0) ((rd_T34 x10 x12).f1.f1) ((rd_T34 x10 x12).f1.f2) x12).bind fun t275 => (if t275 = true then (some 1) else (impl_HeapFault.l0 k x10 x11 (wrap64 (x12 + 1))))))) else (some t273))) else (some t272))) else (none)) else (none)) else (some 0)
def impl_HeapFault.f (k : Nat) (l0 : List (S34)) : Option (Int) := if (l0.length : Int) > 4000 then (some 2) else (impl_HeapFault.l0 k l0 (l0.length : Int) 0)
theorem impl_HeapFault.mono_l : ∀ k, (∀ y0 y1 y2, LeO (impl_HeapFault.l0 k y0 y1 y2) (impl_HeapFault.l0 (k + 1) y0 y1 y2))
  | 0 => fun _ _ _ r h => by simp [impl_HeapFault.l0] at h
  | k + 1 => by
    have ih0 := impl_HeapFault.mono_l k
    · intro y0 y1 y2
      unfold impl_HeapFault.l0
      exact zm5_0
theorem impl_HeapFault.mono : ∀ a0 k, LeO (impl_HeapFault.f k a0) (impl_HeapFault.f (k + 1) a0) := by
  intro a0 k; have ih0 := impl_HeapFault.mono_l k; unfold impl_HeapFault.f
  exact zm5_0
theorem impl_HeapFault.calls (k : Nat) (A0 : Option Addr) (c0 : Nat) (l0 : List (S34)) (r : Int) (w : World) (hr0 : Kd.C k34 w A0 l0.length l0) (hc0 : l0.length ≤ c0) (h : impl_HeapFault.f k l0 = some r) :
    Calls Tryd.prog 8 #[.slice A0 l0.length c0] w fun e w' => e = .returned (.int .i64 r) ∧ Below w.heap.size w w' := by
  have hu34 := Tryd.underlying34; have hu29 := Tryd.underlying29; have HR0 := ak hr0; have HC0 := ak hc0; clear hr0 hc0; have HB := ak (Below.refl w.heap.size w); have H := h; clear h; unfold impl_HeapFault.f at H; by_cases c2 : (l0.length : Int) > 4000
  ·rw [if_pos c2] at H
   have c2b0 : decide (4000 < (l0.length : Int)) = true := decide_eq_true c2; have c2b1 : decide (4000 < l0.length) = true := decide_eq_true (by omega); clear c2; obtain rfl := Option.some.inj H; go_enter Tryd.func8, Tryd.ntmps8; go_wp2; go_ret; exact ⟨c5_2, c5_5⟩
  ·rw [if_neg c2] at H
   have c2b0 : decide (4000 < (l0.length : Int)) = false := decide_eq_false c2; have c2b1 : decide (4000 < l0.length) = false := decide_eq_false (by omega); clear c2; have H' := ak H; clear H; go_enter Tryd.func8, Tryd.ntmps8; go_wp2; go_loopg [12] k (fun kq v12 w' => ∃ (x12_1 : Int), v12 = .int .i64 x12_1 ∧ Aside0 (impl_HeapFault.l0 kq l0 (l0.length : Int) x12_1 = some r) ∧ Aside0 (kq ≤ k) ∧ Aside0 (Below w.heap.size w w'))
   case atStart => exact ⟨(0), d5_4, H', ⟨Nat.le_refl _⟩, ⟨c5_5⟩⟩
   case round =>
    clear H'
    (try clear c2 c2b0 c2b1); (try clear p2)
    obtain ⟨x12_1, rfl, HA, HK1, HB⟩ := hrel
    cases gk with
    | zero => exact absurd HA.out (by simp [impl_HeapFault.l0])
    | succ k1 =>
     have H := HA.out; clear HA; simp only [impl_HeapFault.l0] at H; by_cases c3 : x12_1 < (l0.length : Int)
     ·rw [if_pos c3] at H
      have c3b0 : decide (x12_1 < (l0.length : Int)) = true := decide_eq_true c3; clear c3; by_cases c4 : 0 ≤ x12_1
      ·rw [if_pos c4] at H
       have c4b0 : decide (0 ≤ x12_1) = true := decide_eq_true c4; clear c4; by_cases c5 : x12_1 < (l0.length : Int)
       ·rw [if_pos c5] at H
        have c5b0 : decide (x12_1 < (l0.length : Int)) = true := decide_eq_true c5; clear c5; obtain ⟨t272, A6, H⟩ := zbi_ H; (try dsimp -simprocs only at H); by_cases c7 : t272 = 0
        ·rw [if_pos c7] at H
         obtain ⟨c7b0, c7b1⟩ := zbt_ c7; clear c7; obtain ⟨t273, A8, H⟩ := zbi_ H; (try dsimp -simprocs only at H); by_cases c9 : t273 = 0
         ·rw [if_pos c9] at H
          obtain ⟨c9b0, c9b1⟩ := zbt_ c9; clear c9; obtain ⟨t274, A10, H⟩ := zbi_ H; (try dsimp -simprocs only at H); by_cases c11 : t274 = true
          ·subst c11
           rw [if_pos rfl] at H; obtain rfl := Option.some.inj H; have p270 : 0 ≤ (x12_1 : Int) := of_decide_eq_true d5_6; have q270 : x12_1 < (l0.length : Int) := of_decide_eq_true d5_6; obtain ⟨ad270, e270, hx270_0, hx270_1, hx270_2, hx270_3, hx270_4, hx270_5⟩ := at_T34 HR0.out x12_1 p270 q270
           cases e270
           replace hx270_0 := zkc_ HB.out hx270_0; replace hx270_1 := zkc_ HB.out hx270_1; replace hx270_2 := zkc_ HB.out hx270_2; replace hx270_3 := zkc_ HB.out hx270_3; replace hx270_4 := zkc_ HB.out hx270_4; replace hx270_5 := zkc_ HB.out hx270_5; replace p270 := eq_true p270; replace q270 := eq_true q270
           go_wp2_with (first | ((with_reducible refine gate_dst (N := 4) rfl ?_); refine zbx_ 4 34 #[.int .i64 0, .int .i64 0, .string (⟨#[]⟩ : ByteArray), .int .i64 0, .int .i64 0, .string (⟨#[]⟩ : ByteArray)] ?_ c5_6; intro gb271 hg w12 hbox hb; have BK271 := ak (hbox); have GW271 := ak ((d5_8 : w.heap.size ≤ gb271)); have GE271 := ak ((d5_8 : w.heap.size ≤ gb271)); replace HB := ak (below_step d5_1 hb); clear hb hbox hg; obtain ⟨hcz13_0, hcz13_1, hcz13_2, hcz13_3, hcz13_4, hcz13_5, hfz13_0, hfz13_1, hfz13_2, hfz13_3, hfz13_4, hfz13_5⟩ := zx6_ BK271.out) | ((with_reducible refine gate_callee (f := 9) rfl ?_); refine zgo_ 19 Tryd.func9 #[.agg #[.int .i64 ((rd_T34 l0 x12_1).f0.f0), .int .i64 ((rd_T34 l0 x12_1).f0.f1), .string ((rd_T34 l0 x12_1).f0.f2)]] ?_ (e := d5_2); (with_reducible refine (impl_ValueFault.calls k1 ((rd_T34 l0 x12_1).f0.f0) ((rd_T34 l0 x12_1).f0.f1) ((rd_T34 l0 x12_1).f0.f2) t272 _ A6.out).mono ?_); rintro e w14 ⟨rfl, hb⟩; refine ⟨_, rfl, ?_⟩; replace BK271 := zbb_ (g := gb271) (o := .cells #[.int .i64 ((rd_T34 l0 x12_1).f0.f0), .int .i64 ((rd_T34 l0 x12_1).f0.f1), .string ((rd_T34 l0 x12_1).f0.f2), .int .i64 ((rd_T34 l0 x12_1).f1.f0), .int .i64 ((rd_T34 l0 x12_1).f1.f1), .string ((rd_T34 l0 x12_1).f1.f2)] 34 (0, 0)) hb (by refine zpl_ ?_; refine zp6_ (.int .i64 0) (.int .i64 0) (.string (⟨#[]⟩ : ByteArray)) (.int .i64 0) (.int .i64 0) (.string (⟨#[]⟩ : ByteArray)) ?_; refine zpl_ ?_; exact BK271.out); replace HB := ak (below_step d5_3 hb); (try clear hb); obtain ⟨hcz15_0, hcz15_1, hcz15_2, hcz15_3, hcz15_4, hcz15_5, hfz15_0, hfz15_1, hfz15_2, hfz15_3, hfz15_4, hfz15_5⟩ := zx6_ BK271.out) | ((with_reducible refine gate_callee (f := 9) rfl ?_); refine zgo_ 25 Tryd.func9 #[.agg #[.int .i64 ((rd_T34 l0 x12_1).f1.f0), .int .i64 ((rd_T34 l0 x12_1).f1.f1), .string ((rd_T34 l0 x12_1).f1.f2)]] ?_ (e := d5_2); (with_reducible refine (impl_ValueFault.calls k1 ((rd_T34 l0 x12_1).f1.f0) ((rd_T34 l0 x12_1).f1.f1) ((rd_T34 l0 x12_1).f1.f2) t273 _ A8.out).mono ?_); rintro e w16 ⟨rfl, hb⟩; refine ⟨_, rfl, ?_⟩; replace BK271 := zbb_ (g := gb271) hb d5_5; replace HB := ak (below_step d5_3 hb); (try clear hb); obtain ⟨hcz17_0, hcz17_1, hcz17_2, hcz17_3, hcz17_4, hcz17_5, hfz17_0, hfz17_1, hfz17_2, hfz17_3, hfz17_4, hfz17_5⟩ := zx6_ BK271.out) | ((with_reducible refine gate_callee (f := 29) rfl ?_); refine zgo_ 32 Tryd.func29 #[.agg #[.int .i64 ((rd_T34 l0 x12_1).f0.f0), .int .i64 ((rd_T34 l0 x12_1).f0.f1), .string ((rd_T34 l0 x12_1).f0.f2)], .int .i64 x12_1] ?_ (e := d5_2); (with_reducible refine (impl_isBeyond.calls ((rd_T34 l0 x12_1).f0.f0) ((rd_T34 l0 x12_1).f0.f1) ((rd_T34 l0 x12_1).f0.f2) x12_1 true _ A10.out).mono ?_); rintro e w18 ⟨rfl, hb⟩; refine ⟨_, rfl, ?_⟩; replace BK271 := zbb_ (g := gb271) hb d5_5; replace HB := ak (below_step d5_3 hb); (try clear hb)))
           go_ret; exact ⟨c5_2, c5_4⟩
          ·replace c11 := Bool.eq_false_iff.mpr c11
           subst c11; rw [if_neg (show ¬ (false = true) by decide)] at H; obtain ⟨t275, A19, H⟩ := zbi_ H; (try dsimp -simprocs only at H); by_cases c20 : t275 = true
           ·subst c20
            rw [if_pos rfl] at H; obtain rfl := Option.some.inj H; have p270 : 0 ≤ (x12_1 : Int) := of_decide_eq_true d5_6; have q270 : x12_1 < (l0.length : Int) := of_decide_eq_true d5_6; obtain ⟨ad270, e270, hx270_0, hx270_1, hx270_2, hx270_3, hx270_4, hx270_5⟩ := at_T34 HR0.out x12_1 p270 q270
            cases e270
            replace hx270_0 := zkc_ HB.out hx270_0; replace hx270_1 := zkc_ HB.out hx270_1; replace hx270_2 := zkc_ HB.out hx270_2; replace hx270_3 := zkc_ HB.out hx270_3; replace hx270_4 := zkc_ HB.out hx270_4; replace hx270_5 := zkc_ HB.out hx270_5; replace p270 := eq_true p270; replace q270 := eq_true q270
            go_wp2_with (first | ((with_reducible refine gate_dst (N := 4) rfl ?_); refine zbx_ 4 34 #[.int .i64 0, .int .i64 0, .string (⟨#[]⟩ : ByteArray), .int .i64 0, .int .i64 0, .string (⟨#[]⟩ : ByteArray)] ?_ c5_6; intro gb271 hg w21 hbox hb; have BK271 := ak (hbox); have GW271 := ak ((d5_8 : w.heap.size ≤ gb271)); have GE271 := ak ((d5_8 : w.heap.size ≤ gb271)); replace HB := ak (below_step d5_1 hb); clear hb hbox hg; obtain ⟨hcz22_0, hcz22_1, hcz22_2, hcz22_3, hcz22_4, hcz22_5, hfz22_0, hfz22_1, hfz22_2, hfz22_3, hfz22_4, hfz22_5⟩ := zx6_ BK271.out) | ((with_reducible refine gate_callee (f := 9) rfl ?_); refine zgo_ 19 Tryd.func9 #[.agg #[.int .i64 ((rd_T34 l0 x12_1).f0.f0), .int .i64 ((rd_T34 l0 x12_1).f0.f1), .string ((rd_T34 l0 x12_1).f0.f2)]] ?_ (e := d5_2); (with_reducible refine (impl_ValueFault.calls k1 ((rd_T34 l0 x12_1).f0.f0) ((rd_T34 l0 x12_1).f0.f1) ((rd_T34 l0 x12_1).f0.f2) t272 _ A6.out).mono ?_); rintro e w23 ⟨rfl, hb⟩; refine ⟨_, rfl, ?_⟩; replace BK271 := zbb_ (g := gb271) (o := .cells #[.int .i64 ((rd_T34 l0 x12_1).f0.f0), .int .i64 ((rd_T34 l0 x12_1).f0.f1), .string ((rd_T34 l0 x12_1).f0.f2), .int .i64 ((rd_T34 l0 x12_1).f1.f0), .int .i64 ((rd_T34 l0 x12_1).f1.f1), .string ((rd_T34 l0 x12_1).f1.f2)] 34 (0, 0)) hb (by refine zpl_ ?_; refine zp6_ (.int .i64 0) (.int .i64 0) (.string (⟨#[]⟩ : ByteArray)) (.int .i64 0) (.int .i64 0) (.string (⟨#[]⟩ : ByteArray)) ?_; refine zpl_ ?_; exact BK271.out); replace HB := ak (below_step d5_3 hb); (try clear hb); obtain ⟨hcz24_0, hcz24_1, hcz24_2, hcz24_3, hcz24_4, hcz24_5, hfz24_0, hfz24_1, hfz24_2, hfz24_3, hfz24_4, hfz24_5⟩ := zx6_ BK271.out) | ((with_reducible refine gate_callee (f := 9) rfl ?_); refine zgo_ 25 Tryd.func9 #[.agg #[.int .i64 ((rd_T34 l0 x12_1).f1.f0), .int .i64 ((rd_T34 l0 x12_1).f1.f1), .string ((rd_T34 l0 x12_1).f1.f2)]] ?_ (e := d5_2); (with_reducible refine (impl_ValueFault.calls k1 ((rd_T34 l0 x12_1).f1.f0) ((rd_T34 l0 x12_1).f1.f1) ((rd_T34 l0 x12_1).f1.f2) t273 _ A8.out).mono ?_); rintro e w25 ⟨rfl, hb⟩; refine ⟨_, rfl, ?_⟩; replace BK271 := zbb_ (g := gb271) hb d5_5; replace HB := ak (below_step d5_3 hb); (try clear hb); obtain ⟨hcz26_0, hcz26_1, hcz26_2, hcz26_3, hcz26_4, hcz26_5, hfz26_0, hfz26_1, hfz26_2, hfz26_3, hfz26_4, hfz26_5⟩ := zx6_ BK271.out) | ((with_reducible refine gate_callee (f := 29) rfl ?_); refine zgo_ 32 Tryd.func29 #[.agg #[.int .i64 ((rd_T34 l0 x12_1).f0.f0), .int .i64 ((rd_T34 l0 x12_1).f0.f1), .string ((rd_T34 l0 x12_1).f0.f2)], .int .i64 x12_1] ?_ (e := d5_2); (with_reducible refine (impl_isBeyond.calls ((rd_T34 l0 x12_1).f0.f0) ((rd_T34 l0 x12_1).f0.f1) ((rd_T34 l0 x12_1).f0.f2) x12_1 false _ A10.out).mono ?_); rintro e w27 ⟨rfl, hb⟩; refine ⟨_, rfl, ?_⟩; replace BK271 := zbb_ (g := gb271) hb d5_5; replace HB := ak (below_step d5_3 hb); (try clear hb); obtain ⟨hcz28_0, hcz28_1, hcz28_2, hcz28_3, hcz28_4, hcz28_5, hfz28_0, hfz28_1, hfz28_2, hfz28_3, hfz28_4, hfz28_5⟩ := zx6_ BK271.out) | (go_at_call 29; (with_reducible refine (impl_isBeyond.calls ((rd_T34 l0 x12_1).f1.f0) ((rd_T34 l0 x12_1).f1.f1) ((rd_T34 l0 x12_1).f1.f2) x12_1 true _ A19.out).mono ?_); rintro e w29 ⟨rfl, hb⟩; replace BK271 := zbb_ (g := gb271) hb d5_5; replace HB := ak (below_step d5_3 hb); (try clear hb)))
            go_ret; exact ⟨c5_2, c5_4⟩
           ·replace c20 := Bool.eq_false_iff.mpr c20
            subst c20; rw [if_neg (show ¬ (false = true) by decide)] at H; have H' := ak H; clear H; have p270 : 0 ≤ (x12_1 : Int) := of_decide_eq_true d5_6; have q270 : x12_1 < (l0.length : Int) := of_decide_eq_true d5_6; obtain ⟨ad270, e270, hx270_0, hx270_1, hx270_2, hx270_3, hx270_4, hx270_5⟩ := at_T34 HR0.out x12_1 p270 q270
            cases e270
            replace hx270_0 := zkc_ HB.out hx270_0; replace hx270_1 := zkc_ HB.out hx270_1; replace hx270_2 := zkc_ HB.out hx270_2; replace hx270_3 := zkc_ HB.out hx270_3; replace hx270_4 := zkc_ HB.out hx270_4; replace hx270_5 := zkc_ HB.out hx270_5; replace p270 := eq_true p270; replace q270 := eq_true q270
            go_wp2_with (first | ((with_reducible refine gate_dst (N := 4) rfl ?_); refine zbx_ 4 34 #[.int .i64 0, .int .i64 0, .string (⟨#[]⟩ : ByteArray), .int .i64 0, .int .i64 0, .string (⟨#[]⟩ : ByteArray)] ?_ c5_6; intro gb271 hg w30 hbox hb; have BK271 := ak (hbox); have GW271 := ak ((d5_8 : w.heap.size ≤ gb271)); have GE271 := ak ((d5_8 : w.heap.size ≤ gb271)); replace HB := ak (below_step d5_1 hb); clear hb hbox hg; obtain ⟨hcz31_0, hcz31_1, hcz31_2, hcz31_3, hcz31_4, hcz31_5, hfz31_0, hfz31_1, hfz31_2, hfz31_3, hfz31_4, hfz31_5⟩ := zx6_ BK271.out) | ((with_reducible refine gate_callee (f := 9) rfl ?_); refine zgo_ 19 Tryd.func9 #[.agg #[.int .i64 ((rd_T34 l0 x12_1).f0.f0), .int .i64 ((rd_T34 l0 x12_1).f0.f1), .string ((rd_T34 l0 x12_1).f0.f2)]] ?_ (e := d5_2); (with_reducible refine (impl_ValueFault.calls k1 ((rd_T34 l0 x12_1).f0.f0) ((rd_T34 l0 x12_1).f0.f1) ((rd_T34 l0 x12_1).f0.f2) t272 _ A6.out).mono ?_); rintro e w32 ⟨rfl, hb⟩; refine ⟨_, rfl, ?_⟩; replace BK271 := zbb_ (g := gb271) (o := .cells #[.int .i64 ((rd_T34 l0 x12_1).f0.f0), .int .i64 ((rd_T34 l0 x12_1).f0.f1), .string ((rd_T34 l0 x12_1).f0.f2), .int .i64 ((rd_T34 l0 x12_1).f1.f0), .int .i64 ((rd_T34 l0 x12_1).f1.f1), .string ((rd_T34 l0 x12_1).f1.f2)] 34 (0, 0)) hb (by refine zpl_ ?_; refine zp6_ (.int .i64 0) (.int .i64 0) (.string (⟨#[]⟩ : ByteArray)) (.int .i64 0) (.int .i64 0) (.string (⟨#[]⟩ : ByteArray)) ?_; refine zpl_ ?_; exact BK271.out); replace HB := ak (below_step d5_3 hb); (try clear hb); obtain ⟨hcz33_0, hcz33_1, hcz33_2, hcz33_3, hcz33_4, hcz33_5, hfz33_0, hfz33_1, hfz33_2, hfz33_3, hfz33_4, hfz33_5⟩ := zx6_ BK271.out) | ((with_reducible refine gate_callee (f := 9) rfl ?_); refine zgo_ 25 Tryd.func9 #[.agg #[.int .i64 ((rd_T34 l0 x12_1).f1.f0), .int .i64 ((rd_T34 l0 x12_1).f1.f1), .string ((rd_T34 l0 x12_1).f1.f2)]] ?_ (e := d5_2); (with_reducible refine (impl_ValueFault.calls k1 ((rd_T34 l0 x12_1).f1.f0) ((rd_T34 l0 x12_1).f1.f1) ((rd_T34 l0 x12_1).f1.f2) t273 _ A8.out).mono ?_); rintro e w34 ⟨rfl, hb⟩; refine ⟨_, rfl, ?_⟩; replace BK271 := zbb_ (g := gb271) hb d5_5; replace HB := ak (below_step d5_3 hb); (try clear hb); obtain ⟨hcz35_0, hcz35_1, hcz35_2, hcz35_3, hcz35_4, hcz35_5, hfz35_0, hfz35_1, hfz35_2, hfz35_3, hfz35_4, hfz35_5⟩ := zx6_ BK271.out) | ((with_reducible refine gate_callee (f := 29) rfl ?_); refine zgo_ 32 Tryd.func29 #[.agg #[.int .i64 ((rd_T34 l0 x12_1).f0.f0), .int .i64 ((rd_T34 l0 x12_1).f0.f1), .string ((rd_T34 l0 x12_1).f0.f2)], .int .i64 x12_1] ?_ (e := d5_2); (with_reducible refine (impl_isBeyond.calls ((rd_T34 l0 x12_1).f0.f0) ((rd_T34 l0 x12_1).f0.f1) ((rd_T34 l0 x12_1).f0.f2) x12_1 false _ A10.out).mono ?_); rintro e w36 ⟨rfl, hb⟩; refine ⟨_, rfl, ?_⟩; replace BK271 := zbb_ (g := gb271) hb d5_5; replace HB := ak (below_step d5_3 hb); (try clear hb); obtain ⟨hcz37_0, hcz37_1, hcz37_2, hcz37_3, hcz37_4, hcz37_5, hfz37_0, hfz37_1, hfz37_2, hfz37_3, hfz37_4, hfz37_5⟩ := zx6_ BK271.out) | (go_at_call 29; (with_reducible refine (impl_isBeyond.calls ((rd_T34 l0 x12_1).f1.f0) ((rd_T34 l0 x12_1).f1.f1) ((rd_T34 l0 x12_1).f1.f2) x12_1 false _ A19.out).mono ?_); rintro e w38 ⟨rfl, hb⟩; replace BK271 := zbb_ (g := gb271) hb d5_5; replace HB := ak (below_step d5_3 hb); (try clear hb)))
            go_roundg k1
            case measure => have := HK1.out; omega
            case rel => exact ⟨(wrap64 (x12_1 + 1)), d5_4, H', ⟨by have := HK1.out; omega⟩, ⟨c5_4⟩⟩
         ·rw [if_neg c9] at H
          obtain ⟨c9b0, c9b1⟩ := zbf_ c9; obtain rfl := Option.some.inj H; have p270 : 0 ≤ (x12_1 : Int) := of_decide_eq_true d5_6; have q270 : x12_1 < (l0.length : Int) := of_decide_eq_true d5_6; obtain ⟨ad270, e270, hx270_0, hx270_1, hx270_2, hx270_3, hx270_4, hx270_5⟩ := at_T34 HR0.out x12_1 p270 q270
          cases e270
          replace hx270_0 := zkc_ HB.out hx270_0; replace hx270_1 := zkc_ HB.out hx270_1; replace hx270_2 := zkc_ HB.out hx270_2; replace hx270_3 := zkc_ HB.out hx270_3; replace hx270_4 := zkc_ HB.out hx270_4; replace hx270_5 := zkc_ HB.out hx270_5; replace p270 := eq_true p270; replace q270 := eq_true q270
          go_wp2_with (first | ((with_reducible refine gate_dst (N := 4) rfl ?_); refine zbx_ 4 34 #[.int .i64 0, .int .i64 0, .string (⟨#[]⟩ : ByteArray), .int .i64 0, .int .i64 0, .string (⟨#[]⟩ : ByteArray)] ?_ c5_6; intro gb271 hg w39 hbox hb; have BK271 := ak (hbox); have GW271 := ak ((d5_8 : w.heap.size ≤ gb271)); have GE271 := ak ((d5_8 : w.heap.size ≤ gb271)); replace HB := ak (below_step d5_1 hb); clear hb hbox hg; obtain ⟨hcz40_0, hcz40_1, hcz40_2, hcz40_3, hcz40_4, hcz40_5, hfz40_0, hfz40_1, hfz40_2, hfz40_3, hfz40_4, hfz40_5⟩ := zx6_ BK271.out) | ((with_reducible refine gate_callee (f := 9) rfl ?_); refine zgo_ 19 Tryd.func9 #[.agg #[.int .i64 ((rd_T34 l0 x12_1).f0.f0), .int .i64 ((rd_T34 l0 x12_1).f0.f1), .string ((rd_T34 l0 x12_1).f0.f2)]] ?_ (e := d5_2); (with_reducible refine (impl_ValueFault.calls k1 ((rd_T34 l0 x12_1).f0.f0) ((rd_T34 l0 x12_1).f0.f1) ((rd_T34 l0 x12_1).f0.f2) t272 _ A6.out).mono ?_); rintro e w41 ⟨rfl, hb⟩; refine ⟨_, rfl, ?_⟩; replace BK271 := zbb_ (g := gb271) (o := .cells #[.int .i64 ((rd_T34 l0 x12_1).f0.f0), .int .i64 ((rd_T34 l0 x12_1).f0.f1), .string ((rd_T34 l0 x12_1).f0.f2), .int .i64 ((rd_T34 l0 x12_1).f1.f0), .int .i64 ((rd_T34 l0 x12_1).f1.f1), .string ((rd_T34 l0 x12_1).f1.f2)] 34 (0, 0)) hb (by refine zpl_ ?_; refine zp6_ (.int .i64 0) (.int .i64 0) (.string (⟨#[]⟩ : ByteArray)) (.int .i64 0) (.int .i64 0) (.string (⟨#[]⟩ : ByteArray)) ?_; refine zpl_ ?_; exact BK271.out); replace HB := ak (below_step d5_3 hb); (try clear hb); obtain ⟨hcz42_0, hcz42_1, hcz42_2, hcz42_3, hcz42_4, hcz42_5, hfz42_0, hfz42_1, hfz42_2, hfz42_3, hfz42_4, hfz42_5⟩ := zx6_ BK271.out) | ((with_reducible refine gate_callee (f := 9) rfl ?_); refine zgo_ 25 Tryd.func9 #[.agg #[.int .i64 ((rd_T34 l0 x12_1).f1.f0), .int .i64 ((rd_T34 l0 x12_1).f1.f1), .string ((rd_T34 l0 x12_1).f1.f2)]] ?_ (e := d5_2); (with_reducible refine (impl_ValueFault.calls k1 ((rd_T34 l0 x12_1).f1.f0) ((rd_T34 l0 x12_1).f1.f1) ((rd_T34 l0 x12_1).f1.f2) t273 _ A8.out).mono ?_); rintro e w43 ⟨rfl, hb⟩; refine ⟨_, rfl, ?_⟩; replace BK271 := zbb_ (g := gb271) hb d5_5; replace HB := ak (below_step d5_3 hb); (try clear hb)))
          go_ret; exact ⟨c5_2, c5_4⟩
        ·rw [if_neg c7] at H
         obtain ⟨c7b0, c7b1⟩ := zbf_ c7; obtain rfl := Option.some.inj H; have p270 : 0 ≤ (x12_1 : Int) := of_decide_eq_true d5_6; have q270 : x12_1 < (l0.length : Int) := of_decide_eq_true d5_6; obtain ⟨ad270, e270, hx270_0, hx270_1, hx270_2, hx270_3, hx270_4, hx270_5⟩ := at_T34 HR0.out x12_1 p270 q270
         cases e270
         replace hx270_0 := zkc_ HB.out hx270_0; replace hx270_1 := zkc_ HB.out hx270_1; replace hx270_2 := zkc_ HB.out hx270_2; replace hx270_3 := zkc_ HB.out hx270_3; replace hx270_4 := zkc_ HB.out hx270_4; replace hx270_5 := zkc_ HB.out hx270_5; replace p270 := eq_true p270; replace q270 := eq_true q270
         go_wp2_with (first | ((with_reducible refine gate_dst (N := 4) rfl ?_); refine zbx_ 4 34 #[.int .i64 0, .int .i64 0, .string (⟨#[]⟩ : ByteArray), .int .i64 0, .int .i64 0, .string (⟨#[]⟩ : ByteArray)] ?_ c5_6; intro gb271 hg w44 hbox hb; have BK271 := ak (hbox); have GW271 := ak ((d5_8 : w.heap.size ≤ gb271)); have GE271 := ak ((d5_8 : w.heap.size ≤ gb271)); replace HB := ak (below_step d5_1 hb); clear hb hbox hg; obtain ⟨hcz45_0, hcz45_1, hcz45_2, hcz45_3, hcz45_4, hcz45_5, hfz45_0, hfz45_1, hfz45_2, hfz45_3, hfz45_4, hfz45_5⟩ := zx6_ BK271.out) | ((with_reducible refine gate_callee (f := 9) rfl ?_); refine zgo_ 19 Tryd.func9 #[.agg #[.int .i64 ((rd_T34 l0 x12_1).f0.f0), .int .i64 ((rd_T34 l0 x12_1).f0.f1), .string ((rd_T34 l0 x12_1).f0.f2)]] ?_ (e := d5_2); (with_reducible refine (impl_ValueFault.calls k1 ((rd_T34 l0 x12_1).f0.f0) ((rd_T34 l0 x12_1).f0.f1) ((rd_T34 l0 x12_1).f0.f2) t272 _ A6.out).mono ?_); rintro e w46 ⟨rfl, hb⟩; refine ⟨_, rfl, ?_⟩; replace BK271 := zbb_ (g := gb271) (o := .cells #[.int .i64 ((rd_T34 l0 x12_1).f0.f0), .int .i64 ((rd_T34 l0 x12_1).f0.f1), .string ((rd_T34 l0 x12_1).f0.f2), .int .i64 ((rd_T34 l0 x12_1).f1.f0), .int .i64 ((rd_T34 l0 x12_1).f1.f1), .string ((rd_T34 l0 x12_1).f1.f2)] 34 (0, 0)) hb (by refine zpl_ ?_; refine zp6_ (.int .i64 0) (.int .i64 0) (.string (⟨#[]⟩ : ByteArray)) (.int .i64 0) (.int .i64 0) (.string (⟨#[]⟩ : ByteArray)) ?_; refine zpl_ ?_; exact BK271.out); replace HB := ak (below_step d5_3 hb); (try clear hb)))
         go_ret; exact ⟨c5_2, c5_4⟩
       ·rw [if_neg c5] at H
        exact absurd H (by simp)
      ·rw [if_neg c4] at H
       exact absurd H (by simp)
     ·rw [if_neg c3] at H
      have c3b0 : decide (x12_1 < (l0.length : Int)) = false := decide_eq_false c3; clear c3; obtain rfl := Option.some.inj H; go_wp2; go_ret; exact ⟨c5_2, c5_5⟩

/-! ### impl_inHeap: function 20 -/
def impl_inHeap.l0 : Nat → List (S34) → List (S29) → Int → Int → Option (Int)
  | 0, _, _, _, _ => none
  | k + 1, x0, x8, x9, x10 => if x10 < x9 then (if 0 ≤ x10 then (if x10 < (x8.length : Int) then ((impl_ValueFault.f k ((rd_T29 x8 x10).f0) ((rd_T29 x8 x10).f1) ((rd_T29 x8 x10).f2)).bind fun t278 => (if t278 = 0 then ((impl_isBeyond.f ((rd_T29 x8 x10).f0) ((rd_T29 x8 x10).f1) ((rd_T29 x8 x10).f2) (x0.length : Int)).bind fun t279 => (if t279 = true then (some 4) else (impl_inHeap.l0 k x0 x8 x9 (wrap64 (x10 + 1))))) else (some t278))) else (none)) else (none)) else (some 0)
def impl_inHeap.f (k : Nat) (l0 : List (S34)) (l1 : List (S29)) : Option (Int) := impl_inHeap.l0 k l0 l1 (l1.length : Int) 0
theorem impl_inHeap.mono_l : ∀ k, (∀ y0 y1 y2 y3, LeO (impl_inHeap.l0 k y0 y1 y2 y3) (impl_inHeap.l0 (k + 1) y0 y1 y2 y3))
  | 0 => fun _ _ _ _ r h => by simp [impl_inHeap.l0] at h
  | k + 1 => by
    have ih0 := impl_inHeap.mono_l k
    · intro y0 y1 y2 y3
      unfold impl_inHeap.l0
      exact zm5_0
theorem impl_inHeap.mono : ∀ a0 a1 k, LeO (impl_inHeap.f k a0 a1) (impl_inHeap.f (k + 1) a0 a1) := by
  intro a0 a1 k; have ih0 := impl_inHeap.mono_l k; unfold impl_inHeap.f
  exact zm5_0
theorem impl_inHeap.calls (k : Nat) (A0 : Option Addr) (c0 : Nat) (l0 : List (S34)) (A1 : Option Addr) (c1 : Nat) (l1 : List (S29)) (r : Int) (w : World) (hr0 : Kd.C k34 w A0 l0.length l0) (hc0 : l0.length ≤ c0) (hr1 : Kd.C k29 w A1 l1.length l1) (hc1 : l1.length ≤ c1) (h : impl_inHeap.f k l0 l1 = some r) :
    Calls Tryd.prog 20 #[.slice A0 l0.length c0, .slice A1 l1.length c1] w fun e w' => e = .returned (.int .i64 r) ∧ Below w.heap.size w w' := by
  have hu29 := Tryd.underlying29; have HR0 := ak hr0; have HC0 := ak hc0; clear hr0 hc0; have HR1 := ak hr1; have HC1 := ak hc1; clear hr1 hc1; have HB := ak (Below.refl w.heap.size w); have H := h; clear h; unfold impl_inHeap.f at H; have H' := ak H; clear H; go_enter Tryd.func20, Tryd.ntmps20; go_wp2; go_loopg [10] k (fun kq v10 w' => ∃ (x10_1 : Int), v10 = .int .i64 x10_1 ∧ Aside0 (impl_inHeap.l0 kq l0 l1 (l1.length : Int) x10_1 = some r) ∧ Aside0 (kq ≤ k) ∧ Aside0 (Below w.heap.size w w'))
  case atStart => exact ⟨(0), d5_4, H', ⟨Nat.le_refl _⟩, ⟨c5_5⟩⟩
  case round =>
   clear H'
   (try clear c1); (try clear c2); (try clear p2)
   obtain ⟨x10_1, rfl, HA, HK1, HB⟩ := hrel
   cases gk with
   | zero => exact absurd HA.out (by simp [impl_inHeap.l0])
   | succ k1 =>
    have H := HA.out; clear HA; simp only [impl_inHeap.l0] at H; by_cases c3 : x10_1 < (l1.length : Int)
    ·rw [if_pos c3] at H
     have c3b0 : decide (x10_1 < (l1.length : Int)) = true := decide_eq_true c3; clear c3; by_cases c4 : 0 ≤ x10_1
     ·rw [if_pos c4] at H
      have c4b0 : decide (0 ≤ x10_1) = true := decide_eq_true c4; clear c4; by_cases c5 : x10_1 < (l1.length : Int)
      ·rw [if_pos c5] at H
       have c5b0 : decide (x10_1 < (l1.length : Int)) = true := decide_eq_true c5; clear c5; obtain ⟨t278, A6, H⟩ := zbi_ H; (try dsimp -simprocs only at H); by_cases c7 : t278 = 0
       ·rw [if_pos c7] at H
        obtain ⟨c7b0, c7b1⟩ := zbt_ c7; clear c7; obtain ⟨t279, A8, H⟩ := zbi_ H; (try dsimp -simprocs only at H); by_cases c9 : t279 = true
        ·subst c9
         rw [if_pos rfl] at H; obtain rfl := Option.some.inj H; have p276 : 0 ≤ (x10_1 : Int) := of_decide_eq_true d5_6; have q276 : x10_1 < (l1.length : Int) := of_decide_eq_true d5_6; obtain ⟨ad276, e276, hx276_0, hx276_1, hx276_2⟩ := at_T29 HR1.out x10_1 p276 q276
         cases e276
         replace hx276_0 := zkc_ HB.out hx276_0; replace hx276_1 := zkc_ HB.out hx276_1; replace hx276_2 := zkc_ HB.out hx276_2; replace p276 := eq_true p276; replace q276 := eq_true q276
         go_wp2_with (first | ((with_reducible refine gate_dst (N := 6) rfl ?_); refine zbx_ 6 29 #[.int .i64 0, .int .i64 0, .string (⟨#[]⟩ : ByteArray)] ?_ c5_6; intro gb277 hg w10 hbox hb; have BK277 := ak (hbox); have GW277 := ak ((d5_8 : w.heap.size ≤ gb277)); have GE277 := ak ((d5_8 : w.heap.size ≤ gb277)); replace HB := ak (below_step d5_1 hb); clear hb hbox hg; obtain ⟨hcz11_0, hcz11_1, hcz11_2, hfz11_0, hfz11_1, hfz11_2⟩ := zx3_ BK277.out) | ((with_reducible refine gate_callee (f := 9) rfl ?_); refine zgo_ 15 Tryd.func9 #[.agg #[.int .i64 ((rd_T29 l1 x10_1).f0), .int .i64 ((rd_T29 l1 x10_1).f1), .string ((rd_T29 l1 x10_1).f2)]] ?_ (e := d5_2); (with_reducible refine (impl_ValueFault.calls k1 ((rd_T29 l1 x10_1).f0) ((rd_T29 l1 x10_1).f1) ((rd_T29 l1 x10_1).f2) t278 _ A6.out).mono ?_); rintro e w12 ⟨rfl, hb⟩; refine ⟨_, rfl, ?_⟩; replace BK277 := zbb_ (g := gb277) (o := .cells #[.int .i64 ((rd_T29 l1 x10_1).f0), .int .i64 ((rd_T29 l1 x10_1).f1), .string ((rd_T29 l1 x10_1).f2)] 29 (0, 0)) hb (by refine zpl_ ?_; refine zp3_ (.int .i64 0) (.int .i64 0) (.string (⟨#[]⟩ : ByteArray)) ?_; refine zpl_ ?_; exact BK277.out); replace HB := ak (below_step d5_7 hb); (try clear hb); obtain ⟨hcz13_0, hcz13_1, hcz13_2, hfz13_0, hfz13_1, hfz13_2⟩ := zx3_ BK277.out) | ((with_reducible refine gate_callee (f := 29) rfl ?_); refine zgo_ 22 Tryd.func29 #[.agg #[.int .i64 ((rd_T29 l1 x10_1).f0), .int .i64 ((rd_T29 l1 x10_1).f1), .string ((rd_T29 l1 x10_1).f2)], .int .i64 (l0.length : Int)] ?_ (e := d5_2); (with_reducible refine (impl_isBeyond.calls ((rd_T29 l1 x10_1).f0) ((rd_T29 l1 x10_1).f1) ((rd_T29 l1 x10_1).f2) (l0.length : Int) true _ A8.out).mono ?_); rintro e w14 ⟨rfl, hb⟩; refine ⟨_, rfl, ?_⟩; replace BK277 := zbb_ (g := gb277) (o := .cells #[.int .i64 ((rd_T29 l1 x10_1).f0), .int .i64 ((rd_T29 l1 x10_1).f1), .string ((rd_T29 l1 x10_1).f2)] 29 (0, 0)) hb (zpl_ BK277.out); replace HB := ak (below_step d5_7 hb); (try clear hb)))
         go_ret; exact ⟨c5_2, c5_7⟩
        ·replace c9 := Bool.eq_false_iff.mpr c9
         subst c9; rw [if_neg (show ¬ (false = true) by decide)] at H; have H' := ak H; clear H; have p276 : 0 ≤ (x10_1 : Int) := of_decide_eq_true d5_6; have q276 : x10_1 < (l1.length : Int) := of_decide_eq_true d5_6; obtain ⟨ad276, e276, hx276_0, hx276_1, hx276_2⟩ := at_T29 HR1.out x10_1 p276 q276
         cases e276
         replace hx276_0 := zkc_ HB.out hx276_0; replace hx276_1 := zkc_ HB.out hx276_1; replace hx276_2 := zkc_ HB.out hx276_2; replace p276 := eq_true p276; replace q276 := eq_true q276
         go_wp2_with (first | ((with_reducible refine gate_dst (N := 6) rfl ?_); refine zbx_ 6 29 #[.int .i64 0, .int .i64 0, .string (⟨#[]⟩ : ByteArray)] ?_ c5_6; intro gb277 hg w15 hbox hb; have BK277 := ak (hbox); have GW277 := ak ((d5_8 : w.heap.size ≤ gb277)); have GE277 := ak ((d5_8 : w.heap.size ≤ gb277)); replace HB := ak (below_step d5_1 hb); clear hb hbox hg; obtain ⟨hcz16_0, hcz16_1, hcz16_2, hfz16_0, hfz16_1, hfz16_2⟩ := zx3_ BK277.out) | ((with_reducible refine gate_callee (f := 9) rfl ?_); refine zgo_ 15 Tryd.func9 #[.agg #[.int .i64 ((rd_T29 l1 x10_1).f0), .int .i64 ((rd_T29 l1 x10_1).f1), .string ((rd_T29 l1 x10_1).f2)]] ?_ (e := d5_2); (with_reducible refine (impl_ValueFault.calls k1 ((rd_T29 l1 x10_1).f0) ((rd_T29 l1 x10_1).f1) ((rd_T29 l1 x10_1).f2) t278 _ A6.out).mono ?_); rintro e w17 ⟨rfl, hb⟩; refine ⟨_, rfl, ?_⟩; replace BK277 := zbb_ (g := gb277) (o := .cells #[.int .i64 ((rd_T29 l1 x10_1).f0), .int .i64 ((rd_T29 l1 x10_1).f1), .string ((rd_T29 l1 x10_1).f2)] 29 (0, 0)) hb (by refine zpl_ ?_; refine zp3_ (.int .i64 0) (.int .i64 0) (.string (⟨#[]⟩ : ByteArray)) ?_; refine zpl_ ?_; exact BK277.out); replace HB := ak (below_step d5_7 hb); (try clear hb); obtain ⟨hcz18_0, hcz18_1, hcz18_2, hfz18_0, hfz18_1, hfz18_2⟩ := zx3_ BK277.out) | ((with_reducible refine gate_callee (f := 29) rfl ?_); refine zgo_ 22 Tryd.func29 #[.agg #[.int .i64 ((rd_T29 l1 x10_1).f0), .int .i64 ((rd_T29 l1 x10_1).f1), .string ((rd_T29 l1 x10_1).f2)], .int .i64 (l0.length : Int)] ?_ (e := d5_2); (with_reducible refine (impl_isBeyond.calls ((rd_T29 l1 x10_1).f0) ((rd_T29 l1 x10_1).f1) ((rd_T29 l1 x10_1).f2) (l0.length : Int) false _ A8.out).mono ?_); rintro e w19 ⟨rfl, hb⟩; refine ⟨_, rfl, ?_⟩; replace BK277 := zbb_ (g := gb277) (o := .cells #[.int .i64 ((rd_T29 l1 x10_1).f0), .int .i64 ((rd_T29 l1 x10_1).f1), .string ((rd_T29 l1 x10_1).f2)] 29 (0, 0)) hb (zpl_ BK277.out); replace HB := ak (below_step d5_7 hb); (try clear hb)))
         go_roundg k1
         case measure => have := HK1.out; omega
         case rel => exact ⟨(wrap64 (x10_1 + 1)), d5_4, H', ⟨by have := HK1.out; omega⟩, ⟨c5_7⟩⟩
       ·rw [if_neg c7] at H
        obtain ⟨c7b0, c7b1⟩ := zbf_ c7; obtain rfl := Option.some.inj H; have p276 : 0 ≤ (x10_1 : Int) := of_decide_eq_true d5_6; have q276 : x10_1 < (l1.length : Int) := of_decide_eq_true d5_6; obtain ⟨ad276, e276, hx276_0, hx276_1, hx276_2⟩ := at_T29 HR1.out x10_1 p276 q276
        cases e276
        replace hx276_0 := zkc_ HB.out hx276_0; replace hx276_1 := zkc_ HB.out hx276_1; replace hx276_2 := zkc_ HB.out hx276_2; replace p276 := eq_true p276; replace q276 := eq_true q276
        go_wp2_with (first | ((with_reducible refine gate_dst (N := 6) rfl ?_); refine zbx_ 6 29 #[.int .i64 0, .int .i64 0, .string (⟨#[]⟩ : ByteArray)] ?_ c5_6; intro gb277 hg w20 hbox hb; have BK277 := ak (hbox); have GW277 := ak ((d5_8 : w.heap.size ≤ gb277)); have GE277 := ak ((d5_8 : w.heap.size ≤ gb277)); replace HB := ak (below_step d5_1 hb); clear hb hbox hg; obtain ⟨hcz21_0, hcz21_1, hcz21_2, hfz21_0, hfz21_1, hfz21_2⟩ := zx3_ BK277.out) | ((with_reducible refine gate_callee (f := 9) rfl ?_); refine zgo_ 15 Tryd.func9 #[.agg #[.int .i64 ((rd_T29 l1 x10_1).f0), .int .i64 ((rd_T29 l1 x10_1).f1), .string ((rd_T29 l1 x10_1).f2)]] ?_ (e := d5_2); (with_reducible refine (impl_ValueFault.calls k1 ((rd_T29 l1 x10_1).f0) ((rd_T29 l1 x10_1).f1) ((rd_T29 l1 x10_1).f2) t278 _ A6.out).mono ?_); rintro e w22 ⟨rfl, hb⟩; refine ⟨_, rfl, ?_⟩; replace BK277 := zbb_ (g := gb277) (o := .cells #[.int .i64 ((rd_T29 l1 x10_1).f0), .int .i64 ((rd_T29 l1 x10_1).f1), .string ((rd_T29 l1 x10_1).f2)] 29 (0, 0)) hb (by refine zpl_ ?_; refine zp3_ (.int .i64 0) (.int .i64 0) (.string (⟨#[]⟩ : ByteArray)) ?_; refine zpl_ ?_; exact BK277.out); replace HB := ak (below_step d5_7 hb); (try clear hb)))
        go_ret; exact ⟨c5_2, c5_7⟩
      ·rw [if_neg c5] at H
       exact absurd H (by simp)
     ·rw [if_neg c4] at H
      exact absurd H (by simp)
    ·rw [if_neg c3] at H
     have c3b0 : decide (x10_1 < (l1.length : Int)) = false := decide_eq_false c3; clear c3; obtain rfl := Option.some.inj H; go_wp2; go_ret; exact ⟨c5_2, c5_5⟩

/-! ### impl_isPrim: function 21 -/
def impl_isPrim.f (a0 : Int) : Option (Bool) := (impl_in.f a0 0 15).bind fun t280 => (some t280)
theorem impl_isPrim.calls (a0 : Int) (r : Bool) (w : World) (h : impl_isPrim.f a0 = some r) :
    Calls Tryd.prog 21 #[.int .i64 a0] w fun e w' => e = .returned (.bool r) ∧ Drawn0 w w' := by
  have H := h; clear h; unfold impl_isPrim.f at H; obtain ⟨t280, A2, H⟩ := zbi_ H; (try dsimp -simprocs only at H); obtain rfl := Option.some.inj H; go_enter Tryd.func21, Tryd.ntmps21; go_wp2_with (first | ((with_reducible refine gate_callee (f := 30) rfl ?_); refine zgo_ 4 Tryd.func30 #[.int .i64 a0, .int .i64 0, .int .i64 15] ?_ (e := d5_2); (with_reducible refine (impl_in.calls a0 0 15 t280 _ A2.out).mono ?_); rintro e w' ⟨rfl, ⟨nd, rfl⟩⟩; refine ⟨_, rfl, ?_⟩)); go_ret; exact ⟨by first | rfl | (simp; done) | (simp [*]; done) | (simp [ne_nil_b, eq_nil_b]; done), by repeat (first | exact Drawn0.refl _ | apply Drawn0.step)⟩

/-! ### impl_Pair: function 22 -/
def impl_Pair.f (l0 : List (S34)) : Option ((List (S34))) := (some (([] : List (S34)) : List (S34))).bind fun y281 => (if y281.length + l0.length < 2199023255552 then (some (y281 ++ l0)) else (none))
theorem impl_Pair.calls1 (A0 : Option Addr) (c0 : Nat) (l0 : List (S34)) (r : List (S34)) (w : World) (hr0 : Kd.C k34 w A0 l0.length l0) (hc0 : l0.length ≤ c0) (hA0 : A0.isNone = false) (h : impl_Pair.f l0 = some r) :
    Calls Tryd.prog 22 #[.slice A0 l0.length c0] w fun e w' => ∃ v0_ : Value, e = .returned (v0_) ∧ Kd.R k34 34 w' w.heap.size (fun _ => True) v0_ r ∧ Below w.heap.size w w' := by
  have q_ := fun (w : World) (a : Option Addr) (n c n' c' : Nat) => Lib.run_eql_slice_nil w 24 34 a n c n' c' Tryd.underlying24; have HR0 := ak hr0; have HC0 := ak hc0; clear hr0 hc0; have HB := ak (Below.refl w.heap.size w); have H := h; clear h; unfold impl_Pair.f at H; obtain ⟨y281, hy281⟩ : ∃ y_ : List (S34), y_ = (([] : List (S34))) := ⟨_, rfl⟩
  replace H : (if y281.length + l0.length < 2199023255552 then (some (y281 ++ l0)) else (none)) = some r := by first | (rw [hy281]; with_reducible exact H) | (have H2_ := (Option.bind_some _ _).symm.trans H; rw [hy281]; with_reducible exact H2_) | (have H2_ := (Option.bind_some _ _).symm.trans H; with_reducible exact H2_) | with_reducible exact H | (rw [hy281]; exact H) | exact H
  have Ny281 := ak hy281; clear hy281; by_cases c2 : y281.length + l0.length < 2199023255552
  ·rw [if_pos c2] at H
   have LMc2 := ak c2; clear c2; obtain ⟨y284, hy284⟩ : ∃ y_ : List (S34), y_ = (y281 ++ l0) := ⟨_, rfl⟩
   replace H : (some y284) = some r := by first | (rw [hy284]; with_reducible exact H) | (have H2_ := (Option.bind_some _ _).symm.trans H; rw [hy284]; with_reducible exact H2_) | (have H2_ := (Option.bind_some _ _).symm.trans H; with_reducible exact H2_) | with_reducible exact H | (rw [hy284]; exact H) | exact H
   have Ny284 := ak hy284; clear hy284; obtain rfl := Option.some.inj H; go_enter Tryd.func22, Tryd.ntmps22
   go_wp2_with (first | ((with_reducible refine gate_dst (N := 5) rfl ?_); refine Kd.R_lit k34 _ 34 ?hg (N := 5) ?hd (xs := ([] : List (S34))) (inner := []) (ok := fun _ => True) (okp := fun _ => True) ?hr ?hp (fun _ hk => hk) trivial (Below.refl _ _) (Nat.le_refl _) (by simp) ?_; (case hd => rfl); (case hg => rfl); (case hr => exact c5_6); (case hp => exact (Reps.none _ _)); intro v282 w3 ho4 hb hg_ hnew_; clear hg_ hnew_; (first | rw [← Ny281.out] at ho4 | (simp only [Int.reduceToNat] at ho4; rw [← Ny281.out] at ho4)); have HO283 := ak (Kd.R_lower ho4 (below_size d5_1)); replace HB := ak (below_step d5_1 hb); clear hb ho4) | ((with_reducible refine gate_builtin (b := .append) (xs := #[.tmp 5, .tmp 6]) rfl ?_); at_builtin; refine Kd.R_append_rows k34 (w0 := w) w.heap.size rfl (.tmp 5) (.tmp 6) 24 34 (.agg #[(.int .i64 0), (.int .i64 0), (.string ⟨#[]⟩), (.int .i64 0), (.int .i64 0), (.string ⟨#[]⟩)]) 64 rfl Tryd.underlying24 info34 rfl (by decide) (by omega) v282 y281 l0 _ _ _ (fun _ => True) (fun _ => False) rfl rfl ?aO ?aR (fun _ _ h => h) (fun _ h => h.elim) ?aF ?aB ?aS ?aL ?_; (case aR => repeat (first | exact (Kd.C_below HR0.out HB.out) | (with_reducible refine Kd.C_alloc ?_ _) | (with_reducible refine Kd.C_drewN ?_ _) | (with_reducible refine Kd.C_drew ?_))); (case aB => exact d5_1); (case aF => exact (fun _ _ => trivial)); (case aO => exact (by (with_reducible repeat (first | apply Kd.R_alloc | apply Kd.R_drewN | apply Kd.R_drew)); exact HO283.out)); (case aS => exact (below_size d5_1)); (case aL => have := LMc2.out; omega); intro v285 w5 ho hb hg hat; rw [← Ny284.out] at ho; have HO286 := ak (ho); replace HB := ak (hb); clear HO283 ho hb hg hat))
   go_ret; (try refine exists_and_left.mp ?_); exact ⟨_, c5_2, by (with_reducible repeat (first | apply Kd.R_alloc | apply Kd.R_drewN | apply Kd.R_drew)); exact HO286.out, c5_5⟩
  ·rw [if_neg c2] at H
   exact absurd H (by simp)
theorem impl_Pair.calls (A0 : Option Addr) (c0 : Nat) (l0 : List (S34)) (r : List (S34)) (w : World) (hr0 : Kd.C k34 w A0 l0.length l0) (hc0 : l0.length ≤ c0) (h : impl_Pair.f l0 = some r) :
    Calls Tryd.prog 22 #[.slice A0 l0.length c0] w fun e w' => ∃ v0_ : Value, e = .returned (v0_) ∧ Kd.R k34 34 w' w.heap.size (fun _ => True) v0_ r ∧ Below w.heap.size w w' := by
  by_cases hA0 : A0.isNone = false
  · exact impl_Pair.calls1 A0 c0 l0 r w hr0 hc0 hA0 h
  · obtain rfl : A0 = none := by
      cases A0 with
      | none => rfl
      | some a => exact absurd rfl hA0
    obtain rfl : l0 = [] := by
      cases l0 with
      | nil => rfl
      | cons x t => obtain ⟨ad, he, _⟩ := hr0.2.2 (by simp); cases he
    obtain rfl : [] = r := by simpa [impl_Pair.f] using h
    clear hA0 hr0 hc0 h; have q_ := fun (w : World) (a : Option Addr) (n c n' c' : Nat) => Lib.run_eql_slice_nil w 24 34 a n c n' c' Tryd.underlying24; go_enter Tryd.func22, Tryd.ntmps22; go_wp2; go_ret; exact ⟨_, rfl, Kd.R_nil _ _ _ _ _, Below.refl _ _⟩


/-! ### impl_IsTrue: function 10 -/
def impl_IsTrue.f (a0_0 : Int) (a0_1 : Int) (a0_2 : ByteArray) : Option (Bool) := if a0_0 = 2 then (some (a0_1 != 0)) else (some true)
theorem impl_IsTrue.calls (a0_0 : Int) (a0_1 : Int) (a0_2 : ByteArray) (r : Bool) (w : World) (h : impl_IsTrue.f a0_0 a0_1 a0_2 = some r) :
    Calls Tryd.prog 10 #[.agg #[.int .i64 a0_0, .int .i64 a0_1, .string a0_2]] w fun e w' => e = .returned (.bool r) ∧ Below w.heap.size w w' := by
  have hu29 := Tryd.underlying29; have HB := ak (Below.refl w.heap.size w); have H := h; clear h; unfold impl_IsTrue.f at H; by_cases c2 : a0_0 = 2
  ·rw [if_pos c2] at H
   obtain ⟨c2b0, c2b1⟩ := zbt_ c2; clear c2; obtain rfl := Option.some.inj H; go_enter Tryd.func10, Tryd.ntmps10; go_wp2_with (first | ((with_reducible refine gate_dst (N := 1) rfl ?_); refine zbx_ 1 29 #[.int .i64 a0_0, .int .i64 a0_1, .string a0_2] ?_ c5_6; intro gb287 hg w3 hbox hb; have BK287 := ak (hbox); have GW287 := ak ((d5_8 : w.heap.size ≤ gb287)); have GE287 := ak ((d5_8 : w.heap.size ≤ gb287)); replace HB := ak (below_step d5_1 hb); clear hb hbox hg; obtain ⟨hcz4_0, hcz4_1, hcz4_2, hfz4_0, hfz4_1, hfz4_2⟩ := zx3_ BK287.out)); go_ret; exact ⟨c5_2, by repeat (first | (with_reducible first | exact HB.out | apply below_alloc | apply pw_below_drewN | apply below_drew1 | refine below_set ?_ GE287.out) | exact HB.out)⟩
  ·rw [if_neg c2] at H
   obtain ⟨c2b0, c2b1⟩ := zbf_ c2; obtain rfl := Option.some.inj H; go_enter Tryd.func10, Tryd.ntmps10; go_wp2_with (first | ((with_reducible refine gate_dst (N := 1) rfl ?_); refine zbx_ 1 29 #[.int .i64 a0_0, .int .i64 a0_1, .string a0_2] ?_ c5_6; intro gb287 hg w5 hbox hb; have BK287 := ak (hbox); have GW287 := ak ((d5_8 : w.heap.size ≤ gb287)); have GE287 := ak ((d5_8 : w.heap.size ≤ gb287)); replace HB := ak (below_step d5_1 hb); clear hb hbox hg; obtain ⟨hcz6_0, hcz6_1, hcz6_2, hfz6_0, hfz6_1, hfz6_2⟩ := zx3_ BK287.out)); go_ret; exact ⟨c5_2, by repeat (first | (with_reducible first | exact HB.out | apply below_alloc | apply pw_below_drewN | apply below_drew1 | refine below_set ?_ GE287.out) | exact HB.out)⟩

end Go.Proofs.YtolhanigjmhkgacDoor.A
