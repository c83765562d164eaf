/- Walks of the program's functions: each Go function's answer as a plain Lean function, and that the call comes to it. Written by a program. Conditions: those in each theorem's own head. -/
import Derived.Test.YtolhanigjmhkgadDoorA0
import Derived.Test.YtolhanigjmhkgadDoorA8
namespace Go.Proofs.YtolhanigjmhkgadDoor.A
open Go.RowKit Go.Proofs.YtolhanigjmhkgadDoorW.PrintWords Go.Proofs.YtolhanigjmhkgadDoorW.PrintLast Go.Proofs.YtolhanigjmhkgadDoorW.PrintMore
attribute [local go_sem] max2_int min2_int max_two min_two max_three min_three max_four min_four   -- for this text's walks alone
set_option linter.unusedVariables false
set_option linter.unusedSimpArgs false

theorem b9N {w : World} {g : Nat} {o : Obj} (h : w.heap[g]? = some o) (n : Nat) : (w.drewN n).heap[g]? = some o := h
theorem b9D {w : World} {g : Nat} {o : Obj} (h : w.heap[g]? = some o) : (w.drew).heap[g]? = some o := h
theorem b9L {w : World} {g : Nat} {o : Obj} (h : w.heap[g]? = some o) (o' : Obj) : (w.alloc o').heap[g]? = some o := blk_alloc h o'
theorem d9_1 {p : Prop} (h : p := by repeat (first | (with_reducible first | exact HB.out | apply below_alloc | apply pw_below_drewN | apply below_drew1) | exact HB.out)) : p := h
theorem d9_2 {p : Prop} (h : p := by (try simp only [List.map_toArray, List.map_cons, List.map_nil]); first | done | rfl | (simp only [List.length_drop, List.length_take]; rfl)) : p := h
theorem d9_3 {p : Prop} (h : p := by repeat (first | (with_reducible first | exact HB.out | apply below_alloc | apply pw_below_drewN | apply below_drew1 | refine below_set ?_ GE327.out) | exact HB.out)) : p := h
theorem d9_4 {p : Prop} (h : p := by first | rfl | (simp; done) | (simp [*]; done) | (simp [ne_nil_b, eq_nil_b]; done)) : p := h
theorem d9_5 {p : Prop} (h : p := by (with_reducible repeat first | apply b9N | apply b9D | apply b9L); exact BK327.out) : p := h
theorem d9_6 {p : Prop} (h : p := by first | (with_reducible assumption) | assumption) : p := h
theorem d9_7 {p : Prop} (h : p := by repeat (first | (with_reducible first | exact HB.out | apply below_alloc | apply pw_below_drewN | apply below_drew1 | refine below_set ?_ GE333.out) | exact HB.out)) : p := h
theorem d9_8 {p : Prop} (h : p := by rw [hg]; exact (below_size d9_1)) : p := h
theorem c9_1 {p : Prop} (h : p := by repeat (first | (with_reducible first | exact HB.out | apply below_alloc | apply pw_below_drewN | apply below_drew1 | refine below_set ?_ GE318.out) | exact HB.out)) : p := h
theorem c9_2 {p : Prop} (h : p := by first | rfl | (simp [errW_none, errW_some] <;> rfl) | (simp [*, errW_none, errW_some] <;> rfl)) : p := h
theorem c9_3 {p : Prop} (h : p := by (with_reducible repeat first | apply b9N | apply b9D | apply b9L); exact BK318.out) : p := h
theorem c9_4 {p : Prop} (h : p := by repeat (first | (with_reducible first | exact HB.out | apply below_alloc | apply pw_below_drewN | apply below_drew1 | refine below_set ?_ GE327.out) | exact HB.out)) : p := h
theorem c9_5 {p : Prop} (h : p := by repeat (first | (with_reducible first | exact HB.out | apply below_alloc | apply pw_below_drewN | apply below_drew1) | exact HB.out)) : p := h
theorem c9_6 {p : Prop} (h : p := by first | (go_simp; done) | (go_simp; rfl)) : p := h
theorem c9_7 {p : Prop} (h : p := by repeat (first | (with_reducible first | exact HB.out | apply below_alloc | apply pw_below_drewN | apply below_drew1 | refine below_set ?_ GE333.out) | exact HB.out)) : p := h
set_option maxHeartbeats 8000000
set_option maxRecDepth 100000
theorem z9c {w : World} {g : Nat} {t : TypeId} {cs : Array Value} (h : w.heap[g]? = some (.cells cs t (0, 0))) (i : Nat) {v : Value} (e : cs[i]? = some v) : w.cell? ⟨g, i, none⟩ = some v := (blk_cell h i).trans e
theorem z9f {w : World} {g : Nat} {t : TypeId} {cs : Array Value} (h : w.heap[g]? = some (.cells cs t (0, 0))) (i : Nat) : w.frozen? ⟨g, i, none⟩ = false := blk_frozen h i
theorem zm9_0 {p : Prop} (h : p := by repeat' first | (with_reducible first | apply ih0 | apply impl_ValueFault.mono | exact LeO.refl _ | exact LeO.none _ | refine LeO.ite ?_ ?_ | refine LeO.bind ?_ (fun _ => ?_)) | apply ih0 | apply impl_ValueFault.mono | exact LeO.none _ | refine LeO.ite ?_ ?_ | refine LeO.bind ?_ (fun _ => ?_)) : p := h
theorem zm9_1 {p : Prop} (h : p := by repeat' first | (with_reducible first | apply ih0 | exact LeO.refl _ | exact LeO.none _ | refine LeO.ite ?_ ?_ | refine LeO.bind ?_ (fun _ => ?_)) | apply ih0 | exact LeO.none _ | refine LeO.ite ?_ ?_ | refine LeO.bind ?_ (fun _ => ?_)) : p := h

/-! ### impl_ValueFault: function 43 -/
def impl_ValueFault.j0 : Nat → Bool → Int → Int → ByteArray → Option (Int)
  | 0, _, _, _, _ => none
  | k + 1, x3, x319000, x319001, x319002 => if x3 = true then (some 1) else ((impl_isPlaced.f x319000).bind fun t321 => (if t321 = true then ((impl_in.f x319001 0 99999).bind fun t322 => (if t322 = true then ((impl_kindFault.f x319000 1 4 2 x319001 x319002).bind fun t323 => (some t323)) else (some 3))) else ((impl_kindFault.f x319000 1 4 2 x319001 x319002).bind fun t324 => (some t324))))
def impl_ValueFault.f (k : Nat) (a0_0 : Int) (a0_1 : Int) (a0_2 : ByteArray) : Option (Int) := (impl_in.f a0_0 1 9).bind fun t319 => (if t319 = true then (if a0_1 = 0 then (if a0_2.toList = ([] : List UInt8) then (impl_ValueFault.j0 k false a0_0 a0_1 a0_2) else (impl_ValueFault.j0 k (a0_0 != 4) a0_0 a0_1 a0_2)) else ((impl_isPlaced.f a0_0).bind fun t320 => (if t320 = true then (if a0_2.toList = ([] : List UInt8) then (impl_ValueFault.j0 k false a0_0 a0_1 a0_2) else (impl_ValueFault.j0 k (a0_0 != 4) a0_0 a0_1 a0_2)) else (if a0_0 = 1 then (if a0_2.toList = ([] : List UInt8) then (impl_ValueFault.j0 k false a0_0 a0_1 a0_2) else (impl_ValueFault.j0 k (a0_0 != 4) a0_0 a0_1 a0_2)) else (if a0_0 = 2 then (if a0_2.toList = ([] : List UInt8) then (impl_ValueFault.j0 k false a0_0 a0_1 a0_2) else (impl_ValueFault.j0 k (a0_0 != 4) a0_0 a0_1 a0_2)) else (impl_ValueFault.j0 k true a0_0 a0_1 a0_2)))))) else (impl_ValueFault.j0 k true a0_0 a0_1 a0_2))
theorem impl_ValueFault.mono_l : ∀ k, (∀ y0 y1 y2 y3, LeO (impl_ValueFault.j0 k y0 y1 y2 y3) (impl_ValueFault.j0 (k + 1) y0 y1 y2 y3))
  | 0 => fun _ _ _ _ r h => by simp [impl_ValueFault.j0] at h
  | k + 1 => by
    have ih0 := impl_ValueFault.mono_l k
    · intro y0 y1 y2 y3
      unfold impl_ValueFault.j0
      exact zm9_1
theorem impl_ValueFault.mono : ∀ a0 a1 a2 k, LeO (impl_ValueFault.f k a0 a1 a2) (impl_ValueFault.f (k + 1) a0 a1 a2) := by
  intro a0 a1 a2 k; have ih0 := impl_ValueFault.mono_l k; unfold impl_ValueFault.f
  exact zm9_1
theorem impl_ValueFault.calls (k : Nat) (a0_0 : Int) (a0_1 : Int) (a0_2 : ByteArray) (r : Int) (w : World) (h : impl_ValueFault.f k a0_0 a0_1 a0_2 = some r) :
    Calls Tryd.prog 43 #[.agg #[.int .i64 a0_0, .int .i64 a0_1, .string a0_2]] w fun e w' => e = .returned (.int .i64 r) ∧ Below w.heap.size w w' := by
  have hu28 := Tryd.underlying28; have HB := ak (Below.refl w.heap.size w); have H := h; clear h; unfold impl_ValueFault.f at H; have HC2 := ak H; clear H; go_enter Tryd.func43, Tryd.ntmps43; go_upto_region 1 with (first | ((with_reducible refine gate_dst (N := 1) rfl ?_); refine zbx_ 1 28 #[.int .i64 a0_0, .int .i64 a0_1, .string a0_2] ?_ c9_6; intro gb318 hg w3 hbox hb; have BK318 := ak (hbox); have GW318 := ak ((d9_8 : w.heap.size ≤ gb318)); have GE318 := ak ((d9_8 : w.heap.size ≤ gb318)); replace HB := ak (below_step d9_1 hb); clear hb hbox hg))
  (try simp only [Act.put, List.setIfInBounds_toArray, List.set_cons_zero, List.set_cons_succ])
  go_cut [3] (fun v3 wc => ∃ (kq : Nat) (x3_1 : Bool), v3 = .bool x3_1 ∧ Aside0 (impl_ValueFault.j0 kq x3_1 a0_0 a0_1 a0_2 = some r) ∧ Aside0 (kq ≤ k) ∧ Aside0 (wc.heap[gb318]? = some (.cells #[.int .i64 a0_0, .int .i64 a0_1, .string a0_2] 28 (0, 0))) ∧ Aside0 (Below w.heap.size w wc))
  case first =>
   have H := HC2.out; clear HC2; obtain ⟨t319, A4, H⟩ := zbi_ H; (try dsimp -simprocs only at H); by_cases c5 : t319 = true
   ·subst c5
    rw [if_pos rfl] at H; by_cases c6 : a0_1 = 0
    ·rw [if_pos c6] at H
     obtain ⟨c6b0, c6b1⟩ := zbt_ c6; clear c6
     (first | rw [c6b0] | (simp only [i64_w, i32_w]; rw [c6b0]) | skip)
     by_cases c7 : a0_2.toList = ([] : List UInt8)
     ·rw [if_pos c7] at H
      obtain ⟨c7b0, c7b1⟩ := zbt_ c7; clear c7; have H' := ak H; clear H; obtain ⟨hcz8_0, hcz8_1, hcz8_2, hfz8_0, hfz8_1, hfz8_2⟩ := zx3_ BK318.out; go_wp2_with (first | ((with_reducible refine gate_callee (f := 45) rfl ?_); refine zgo_ 6 Tryd.func45 #[.int .i64 a0_0, .int .i64 1, .int .i64 9] ?_ (e := d9_2); (with_reducible refine (impl_in.calls a0_0 1 9 true _ A4.out).mono ?_); rintro e w' ⟨rfl, ⟨nd, rfl⟩⟩; refine ⟨_, rfl, ?_⟩)); go_meet
      case rel => exact ⟨_, (false), d9_4, H', ⟨by first | exact Nat.le_refl _ | omega⟩, ⟨c9_3⟩, ⟨c9_1⟩⟩
     ·rw [if_neg c7] at H
      obtain ⟨c7b0, c7b1⟩ := zbf_ c7; have H' := ak H; clear H; obtain ⟨hcz9_0, hcz9_1, hcz9_2, hfz9_0, hfz9_1, hfz9_2⟩ := zx3_ BK318.out; go_wp2_with (first | ((with_reducible refine gate_callee (f := 45) rfl ?_); refine zgo_ 6 Tryd.func45 #[.int .i64 a0_0, .int .i64 1, .int .i64 9] ?_ (e := d9_2); (with_reducible refine (impl_in.calls a0_0 1 9 true _ A4.out).mono ?_); rintro e w' ⟨rfl, ⟨nd, rfl⟩⟩; refine ⟨_, rfl, ?_⟩)); go_meet
      case rel => exact ⟨_, ((a0_0 != 4)), d9_4, H', ⟨by first | exact Nat.le_refl _ | omega⟩, ⟨c9_3⟩, ⟨c9_1⟩⟩
    ·rw [if_neg c6] at H
     obtain ⟨c6b0, c6b1⟩ := zbf_ c6
     (first | rw [c6b0] | (simp only [i64_w, i32_w]; rw [c6b0]) | skip)
     obtain ⟨t320, A10, H⟩ := zbi_ H; (try dsimp -simprocs only at H); by_cases c11 : t320 = true
     ·subst c11
      rw [if_pos rfl] at H; by_cases c12 : a0_2.toList = ([] : List UInt8)
      ·rw [if_pos c12] at H
       obtain ⟨c12b0, c12b1⟩ := zbt_ c12; clear c12; have H' := ak H; clear H; obtain ⟨hcz13_0, hcz13_1, hcz13_2, hfz13_0, hfz13_1, hfz13_2⟩ := zx3_ BK318.out; go_wp2_with (first | ((with_reducible refine gate_callee (f := 45) rfl ?_); refine zgo_ 6 Tryd.func45 #[.int .i64 a0_0, .int .i64 1, .int .i64 9] ?_ (e := d9_2); (with_reducible refine (impl_in.calls a0_0 1 9 true _ A4.out).mono ?_); rintro e w' ⟨rfl, ⟨nd, rfl⟩⟩; refine ⟨_, rfl, ?_⟩) | (go_at_call 60; (with_reducible refine (impl_isPlaced.calls a0_0 true _ A10.out).mono ?_); rintro e w' ⟨rfl, ⟨nd, rfl⟩⟩)); go_meet
       case rel => exact ⟨_, (false), d9_4, H', ⟨by first | exact Nat.le_refl _ | omega⟩, ⟨c9_3⟩, ⟨c9_1⟩⟩
      ·rw [if_neg c12] at H
       obtain ⟨c12b0, c12b1⟩ := zbf_ c12; have H' := ak H; clear H; obtain ⟨hcz14_0, hcz14_1, hcz14_2, hfz14_0, hfz14_1, hfz14_2⟩ := zx3_ BK318.out; go_wp2_with (first | ((with_reducible refine gate_callee (f := 45) rfl ?_); refine zgo_ 6 Tryd.func45 #[.int .i64 a0_0, .int .i64 1, .int .i64 9] ?_ (e := d9_2); (with_reducible refine (impl_in.calls a0_0 1 9 true _ A4.out).mono ?_); rintro e w' ⟨rfl, ⟨nd, rfl⟩⟩; refine ⟨_, rfl, ?_⟩) | (go_at_call 60; (with_reducible refine (impl_isPlaced.calls a0_0 true _ A10.out).mono ?_); rintro e w' ⟨rfl, ⟨nd, rfl⟩⟩)); go_meet
       case rel => exact ⟨_, ((a0_0 != 4)), d9_4, H', ⟨by first | exact Nat.le_refl _ | omega⟩, ⟨c9_3⟩, ⟨c9_1⟩⟩
     ·replace c11 := Bool.eq_false_iff.mpr c11
      subst c11; rw [if_neg (show ¬ (false = true) by decide)] at H; by_cases c15 : a0_0 = 1
      ·rw [if_pos c15] at H
       obtain ⟨c15b0, c15b1⟩ := zbt_ c15; clear c15; by_cases c16 : a0_2.toList = ([] : List UInt8)
       ·rw [if_pos c16] at H
        obtain ⟨c16b0, c16b1⟩ := zbt_ c16; clear c16; have H' := ak H; clear H; obtain ⟨hcz17_0, hcz17_1, hcz17_2, hfz17_0, hfz17_1, hfz17_2⟩ := zx3_ BK318.out; go_wp2_with (first | ((with_reducible refine gate_callee (f := 45) rfl ?_); refine zgo_ 6 Tryd.func45 #[.int .i64 a0_0, .int .i64 1, .int .i64 9] ?_ (e := d9_2); (with_reducible refine (impl_in.calls a0_0 1 9 true _ A4.out).mono ?_); rintro e w' ⟨rfl, ⟨nd, rfl⟩⟩; refine ⟨_, rfl, ?_⟩) | (go_at_call 60; (with_reducible refine (impl_isPlaced.calls a0_0 false _ A10.out).mono ?_); rintro e w' ⟨rfl, ⟨nd, rfl⟩⟩)); go_meet
        case rel => exact ⟨_, (false), d9_4, H', ⟨by first | exact Nat.le_refl _ | omega⟩, ⟨c9_3⟩, ⟨c9_1⟩⟩
       ·rw [if_neg c16] at H
        obtain ⟨c16b0, c16b1⟩ := zbf_ c16; have H' := ak H; clear H; obtain ⟨hcz18_0, hcz18_1, hcz18_2, hfz18_0, hfz18_1, hfz18_2⟩ := zx3_ BK318.out; go_wp2_with (first | ((with_reducible refine gate_callee (f := 45) rfl ?_); refine zgo_ 6 Tryd.func45 #[.int .i64 a0_0, .int .i64 1, .int .i64 9] ?_ (e := d9_2); (with_reducible refine (impl_in.calls a0_0 1 9 true _ A4.out).mono ?_); rintro e w' ⟨rfl, ⟨nd, rfl⟩⟩; refine ⟨_, rfl, ?_⟩) | (go_at_call 60; (with_reducible refine (impl_isPlaced.calls a0_0 false _ A10.out).mono ?_); rintro e w' ⟨rfl, ⟨nd, rfl⟩⟩)); go_meet
        case rel => exact ⟨_, ((a0_0 != 4)), d9_4, H', ⟨by first | exact Nat.le_refl _ | omega⟩, ⟨c9_3⟩, ⟨c9_1⟩⟩
      ·rw [if_neg c15] at H
       obtain ⟨c15b0, c15b1⟩ := zbf_ c15; by_cases c19 : a0_0 = 2
       ·rw [if_pos c19] at H
        obtain ⟨c19b0, c19b1⟩ := zbt_ c19; clear c19; by_cases c20 : a0_2.toList = ([] : List UInt8)
        ·rw [if_pos c20] at H
         obtain ⟨c20b0, c20b1⟩ := zbt_ c20; clear c20; have H' := ak H; clear H; obtain ⟨hcz21_0, hcz21_1, hcz21_2, hfz21_0, hfz21_1, hfz21_2⟩ := zx3_ BK318.out; go_wp2_with (first | ((with_reducible refine gate_callee (f := 45) rfl ?_); refine zgo_ 6 Tryd.func45 #[.int .i64 a0_0, .int .i64 1, .int .i64 9] ?_ (e := d9_2); (with_reducible refine (impl_in.calls a0_0 1 9 true _ A4.out).mono ?_); rintro e w' ⟨rfl, ⟨nd, rfl⟩⟩; refine ⟨_, rfl, ?_⟩) | (go_at_call 60; (with_reducible refine (impl_isPlaced.calls a0_0 false _ A10.out).mono ?_); rintro e w' ⟨rfl, ⟨nd, rfl⟩⟩)); go_meet
         case rel => exact ⟨_, (false), d9_4, H', ⟨by first | exact Nat.le_refl _ | omega⟩, ⟨c9_3⟩, ⟨c9_1⟩⟩
        ·rw [if_neg c20] at H
         obtain ⟨c20b0, c20b1⟩ := zbf_ c20; have H' := ak H; clear H; obtain ⟨hcz22_0, hcz22_1, hcz22_2, hfz22_0, hfz22_1, hfz22_2⟩ := zx3_ BK318.out; go_wp2_with (first | ((with_reducible refine gate_callee (f := 45) rfl ?_); refine zgo_ 6 Tryd.func45 #[.int .i64 a0_0, .int .i64 1, .int .i64 9] ?_ (e := d9_2); (with_reducible refine (impl_in.calls a0_0 1 9 true _ A4.out).mono ?_); rintro e w' ⟨rfl, ⟨nd, rfl⟩⟩; refine ⟨_, rfl, ?_⟩) | (go_at_call 60; (with_reducible refine (impl_isPlaced.calls a0_0 false _ A10.out).mono ?_); rintro e w' ⟨rfl, ⟨nd, rfl⟩⟩)); go_meet
         case rel => exact ⟨_, ((a0_0 != 4)), d9_4, H', ⟨by first | exact Nat.le_refl _ | omega⟩, ⟨c9_3⟩, ⟨c9_1⟩⟩
       ·rw [if_neg c19] at H
        obtain ⟨c19b0, c19b1⟩ := zbf_ c19; have H' := ak H; clear H; obtain ⟨hcz23_0, hcz23_1, hcz23_2, hfz23_0, hfz23_1, hfz23_2⟩ := zx3_ BK318.out; go_wp2_with (first | ((with_reducible refine gate_callee (f := 45) rfl ?_); refine zgo_ 6 Tryd.func45 #[.int .i64 a0_0, .int .i64 1, .int .i64 9] ?_ (e := d9_2); (with_reducible refine (impl_in.calls a0_0 1 9 true _ A4.out).mono ?_); rintro e w' ⟨rfl, ⟨nd, rfl⟩⟩; refine ⟨_, rfl, ?_⟩) | (go_at_call 60; (with_reducible refine (impl_isPlaced.calls a0_0 false _ A10.out).mono ?_); rintro e w' ⟨rfl, ⟨nd, rfl⟩⟩)); go_meet
        case rel => exact ⟨_, (true), d9_4, H', ⟨by first | exact Nat.le_refl _ | omega⟩, ⟨c9_3⟩, ⟨c9_1⟩⟩
   ·replace c5 := Bool.eq_false_iff.mpr c5
    subst c5; rw [if_neg (show ¬ (false = true) by decide)] at H; have H' := ak H; clear H; obtain ⟨hcz24_0, hcz24_1, hcz24_2, hfz24_0, hfz24_1, hfz24_2⟩ := zx3_ BK318.out; go_wp2_with (first | ((with_reducible refine gate_callee (f := 45) rfl ?_); refine zgo_ 6 Tryd.func45 #[.int .i64 a0_0, .int .i64 1, .int .i64 9] ?_ (e := d9_2); (with_reducible refine (impl_in.calls a0_0 1 9 false _ A4.out).mono ?_); rintro e w' ⟨rfl, ⟨nd, rfl⟩⟩; refine ⟨_, rfl, ?_⟩)); go_meet
    case rel => exact ⟨_, (true), d9_4, H', ⟨by first | exact Nat.le_refl _ | omega⟩, ⟨c9_3⟩, ⟨c9_1⟩⟩
  case rest =>
   clear HC2
   try clear c4
   obtain ⟨kq, x3_1, rfl, HA, HJ1, BK318, HB⟩ := hcut
   cases kq with
   | zero => exact absurd HA.out (by simp [impl_ValueFault.j0])
   | succ kj1 =>
    have H := HA.out; clear HA; simp only [impl_ValueFault.j0] at H; by_cases c25 : x3_1 = true
    ·subst c25
     rw [if_pos rfl] at H; obtain rfl := Option.some.inj H; go_wp2; go_ret; exact ⟨c9_2, c9_1⟩
    ·replace c25 := Bool.eq_false_iff.mpr c25
     subst c25; rw [if_neg (show ¬ (false = true) by decide)] at H; obtain ⟨t321, A26, H⟩ := zbi_ H; (try dsimp -simprocs only at H); by_cases c27 : t321 = true
     ·subst c27
      rw [if_pos rfl] at H; obtain ⟨t322, A28, H⟩ := zbi_ H; (try dsimp -simprocs only at H); by_cases c29 : t322 = true
      ·subst c29
       rw [if_pos rfl] at H; obtain ⟨t323, A30, H⟩ := zbi_ H; (try dsimp -simprocs only at H); obtain rfl := Option.some.inj H; obtain ⟨hcz31_0, hcz31_1, hcz31_2, hfz31_0, hfz31_1, hfz31_2⟩ := zx3_ BK318.out
       go_wp2_with (first | ((with_reducible refine gate_callee (f := 60) rfl ?_); refine zgo_ 42 Tryd.func60 #[.int .i64 a0_0] ?_ (e := d9_2); (with_reducible refine (impl_isPlaced.calls a0_0 true _ A26.out).mono ?_); rintro e w' ⟨rfl, ⟨nd, rfl⟩⟩; refine ⟨_, rfl, ?_⟩) | (go_at_call 45; (with_reducible refine (impl_in.calls a0_1 0 99999 true _ A28.out).mono ?_); rintro e w' ⟨rfl, ⟨nd, rfl⟩⟩) | ((with_reducible refine gate_callee (f := 61) rfl ?_); refine zgo_ 55 Tryd.func61 #[.int .i64 a0_0, .int .i64 1, .int .i64 4, .int .i64 2, .int .i64 a0_1, .string a0_2] ?_ (e := d9_2); (with_reducible refine (impl_kindFault.calls a0_0 1 4 2 a0_1 a0_2 t323 _ A30.out).mono ?_); rintro e w32 ⟨rfl, hb⟩; refine ⟨_, rfl, ?_⟩; replace BK318 := zbb_ (g := gb318) (o := .cells #[.int .i64 a0_0, .int .i64 a0_1, .string a0_2] 28 (0, 0)) hb (by (with_reducible repeat first | apply b9N | apply b9D | apply b9L); exact BK318.out); replace HB := ak (below_step (by repeat (first | (with_reducible first | exact HB.out | apply below_alloc | apply pw_below_drewN | apply below_drew1 | refine below_set ?_ GE318.out) | exact HB.out)) hb); (try clear hb))); go_ret; exact ⟨c9_2, c9_1⟩
      ·replace c29 := Bool.eq_false_iff.mpr c29
       subst c29; rw [if_neg (show ¬ (false = true) by decide)] at H; obtain rfl := Option.some.inj H; obtain ⟨hcz33_0, hcz33_1, hcz33_2, hfz33_0, hfz33_1, hfz33_2⟩ := zx3_ BK318.out; go_wp2_with (first | ((with_reducible refine gate_callee (f := 60) rfl ?_); refine zgo_ 42 Tryd.func60 #[.int .i64 a0_0] ?_ (e := d9_2); (with_reducible refine (impl_isPlaced.calls a0_0 true _ A26.out).mono ?_); rintro e w' ⟨rfl, ⟨nd, rfl⟩⟩; refine ⟨_, rfl, ?_⟩) | (go_at_call 45; (with_reducible refine (impl_in.calls a0_1 0 99999 false _ A28.out).mono ?_); rintro e w' ⟨rfl, ⟨nd, rfl⟩⟩)); go_ret; exact ⟨c9_2, c9_1⟩
     ·replace c27 := Bool.eq_false_iff.mpr c27
      subst c27; rw [if_neg (show ¬ (false = true) by decide)] at H; obtain ⟨t324, A34, H⟩ := zbi_ H; (try dsimp -simprocs only at H); obtain rfl := Option.some.inj H; obtain ⟨hcz35_0, hcz35_1, hcz35_2, hfz35_0, hfz35_1, hfz35_2⟩ := zx3_ BK318.out
      go_wp2_with (first | ((with_reducible refine gate_callee (f := 60) rfl ?_); refine zgo_ 42 Tryd.func60 #[.int .i64 a0_0] ?_ (e := d9_2); (with_reducible refine (impl_isPlaced.calls a0_0 false _ A26.out).mono ?_); rintro e w' ⟨rfl, ⟨nd, rfl⟩⟩; refine ⟨_, rfl, ?_⟩) | ((with_reducible refine gate_callee (f := 61) rfl ?_); refine zgo_ 55 Tryd.func61 #[.int .i64 a0_0, .int .i64 1, .int .i64 4, .int .i64 2, .int .i64 a0_1, .string a0_2] ?_ (e := d9_2); (with_reducible refine (impl_kindFault.calls a0_0 1 4 2 a0_1 a0_2 t324 _ A34.out).mono ?_); rintro e w36 ⟨rfl, hb⟩; refine ⟨_, rfl, ?_⟩; replace BK318 := zbb_ (g := gb318) (o := .cells #[.int .i64 a0_0, .int .i64 a0_1, .string a0_2] 28 (0, 0)) hb (by (with_reducible repeat first | apply b9N | apply b9D | apply b9L); exact BK318.out); replace HB := ak (below_step (by repeat (first | (with_reducible first | exact HB.out | apply below_alloc | apply pw_below_drewN | apply below_drew1 | refine below_set ?_ GE318.out) | exact HB.out)) hb); (try clear hb))); go_ret; exact ⟨c9_2, c9_1⟩

/-! ### impl_isBeyond: function 44 -/
def impl_isBeyond.f (a0_0 : Int) (a0_1 : Int) (a0_2 : ByteArray) (a1 : Int) : Option (Bool) := if a0_0 = 5 then (some (decide (a0_1 ≥ a1))) else (some false)
theorem impl_isBeyond.calls (a0_0 : Int) (a0_1 : Int) (a0_2 : ByteArray) (a1 : Int) (r : Bool) (w : World) (h : impl_isBeyond.f a0_0 a0_1 a0_2 a1 = some r) :
    Calls Tryd.prog 44 #[.agg #[.int .i64 a0_0, .int .i64 a0_1, .string a0_2], .int .i64 a1] w fun e w' => e = .returned (.bool r) ∧ Below w.heap.size w w' := by
  have hu28 := Tryd.underlying28; have HB := ak (Below.refl w.heap.size w); have H := h; clear h; unfold impl_isBeyond.f at H; by_cases c3 : a0_0 = 5
  ·rw [if_pos c3] at H
   obtain ⟨c3b0, c3b1⟩ := zbt_ c3; clear c3; obtain rfl := Option.some.inj H; go_enter Tryd.func44, Tryd.ntmps44; go_wp2_with (first | ((with_reducible refine gate_dst (N := 2) rfl ?_); refine zbx_ 2 28 #[.int .i64 a0_0, .int .i64 a0_1, .string a0_2] ?_ c9_6; intro gb325 hg w4 hbox hb; have BK325 := ak (hbox); have GW325 := ak ((d9_8 : w.heap.size ≤ gb325)); have GE325 := ak ((d9_8 : w.heap.size ≤ gb325)); replace HB := ak (below_step d9_1 hb); clear hb hbox hg; obtain ⟨hcz5_0, hcz5_1, hcz5_2, hfz5_0, hfz5_1, hfz5_2⟩ := zx3_ BK325.out)); go_ret; exact ⟨c9_2, by repeat (first | (with_reducible first | exact HB.out | apply below_alloc | apply pw_below_drewN | apply below_drew1 | refine below_set ?_ GE325.out) | exact HB.out)⟩
  ·rw [if_neg c3] at H
   obtain ⟨c3b0, c3b1⟩ := zbf_ c3; obtain rfl := Option.some.inj H; go_enter Tryd.func44, Tryd.ntmps44; go_wp2_with (first | ((with_reducible refine gate_dst (N := 2) rfl ?_); refine zbx_ 2 28 #[.int .i64 a0_0, .int .i64 a0_1, .string a0_2] ?_ c9_6; intro gb325 hg w6 hbox hb; have BK325 := ak (hbox); have GW325 := ak ((d9_8 : w.heap.size ≤ gb325)); have GE325 := ak ((d9_8 : w.heap.size ≤ gb325)); replace HB := ak (below_step d9_1 hb); clear hb hbox hg; obtain ⟨hcz7_0, hcz7_1, hcz7_2, hfz7_0, hfz7_1, hfz7_2⟩ := zx3_ BK325.out)); go_ret; exact ⟨c9_2, by repeat (first | (with_reducible first | exact HB.out | apply below_alloc | apply pw_below_drewN | apply below_drew1 | refine below_set ?_ GE325.out) | exact HB.out)⟩

/-! ### impl_HeapFault: function 26 -/
def impl_HeapFault.l0 : Nat → List (S56) → Int → Int → Option (Int)
  | 0, _, _, _ => none
  | k + 1, x10, x11, x12 => if x12 < x11 then (if 0 ≤ x12 then (if x12 < (x10.length : Int) then ((impl_ValueFault.f k ((rd_T56 x10 x12).f0.f0) ((rd_T56 x10 x12).f0.f1) ((rd_T56 x10 x12).f0.f2)).bind fun t328 => (if t328 = 0 then ((impl_ValueFault.f k ((rd_T56 x10 x12).f1.f0) ((rd_T56 x10 x12).f1.f1) ((rd_T56 x10 x12).f1.f2)).bind fun t329 => (if t329 = 0 then ((impl_isBeyond.f ((rd_T56 x10 x12).f0.f0) ((rd_T56 x10 x12).f0.f1) ((rd_T56 x10 x12).f0.f2) x12).bind fun t330 => (if t330 = true then (some 1) else ((impl_isBeyond.f ((rd_T56 x10 x12).f1.f0) ((rd_T56 x10 x12).f1.f1) ((rd_T56 x10 x12).f1.f2) x12).bind fun t331 => (if t331 = true then (some 1) else (impl_HeapFault.l0 k x10 x11 (wrap64 (x12 + 1))))))) else (some t329))) else (some t328))) else (none)) else (none)) else (some 0)
def impl_HeapFault.f (k : Nat) (l0 : List (S56)) : Option (Int) := if (l0.length : Int) > 4000 then (some 2) else (impl_HeapFault.l0 k l0 (l0.length : Int) 0)
theorem impl_HeapFault.mono_l : ∀ k, (∀ y0 y1 y2, LeO (impl_HeapFault.l0 k y0 y1 y2) (impl_HeapFault.l0 (k + 1) y0 y1 y2))
  | 0 => fun _ _ _ r h => by simp [impl_HeapFault.l0] at h
  | k + 1 => by
    have ih0 := impl_HeapFault.mono_l k
    · intro y0 y1 y2
      unfold impl_HeapFault.l0
      exact zm9_0
theorem impl_HeapFault.mono : ∀ a0 k, LeO (impl_HeapFault.f k a0) (impl_HeapFault.f (k + 1) a0) := by
  intro a0 k; have ih0 := impl_HeapFault.mono_l k; unfold impl_HeapFault.f
  exact zm9_0
theorem impl_HeapFault.calls (k : Nat) (A0 : Option Addr) (c0 : Nat) (l0 : List (S56)) (r : Int) (w : World) (hr0 : Kd.C k56 w A0 l0.length l0) (hc0 : l0.length ≤ c0) (h : impl_HeapFault.f k l0 = some r) :
    Calls Tryd.prog 26 #[.slice A0 l0.length c0] w fun e w' => e = .returned (.int .i64 r) ∧ Below w.heap.size w w' := by
  have hu56 := Tryd.underlying56; have hu28 := Tryd.underlying28; have HR0 := ak hr0; have HC0 := ak hc0; clear hr0 hc0; have HB := ak (Below.refl w.heap.size w); have H := h; clear h; unfold impl_HeapFault.f at H; by_cases c2 : (l0.length : Int) > 4000
  ·rw [if_pos c2] at H
   have c2b0 : decide (4000 < (l0.length : Int)) = true := decide_eq_true c2; have c2b1 : decide (4000 < l0.length) = true := decide_eq_true (by omega); clear c2; obtain rfl := Option.some.inj H; go_enter Tryd.func26, Tryd.ntmps26; go_wp2; go_ret; exact ⟨c9_2, c9_5⟩
  ·rw [if_neg c2] at H
   have c2b0 : decide (4000 < (l0.length : Int)) = false := decide_eq_false c2; have c2b1 : decide (4000 < l0.length) = false := decide_eq_false (by omega); clear c2; have H' := ak H; clear H; go_enter Tryd.func26, Tryd.ntmps26; go_wp2; go_loopg [12] k (fun kq v12 w' => ∃ (x12_1 : Int), v12 = .int .i64 x12_1 ∧ Aside0 (impl_HeapFault.l0 kq l0 (l0.length : Int) x12_1 = some r) ∧ Aside0 (kq ≤ k) ∧ Aside0 (Below w.heap.size w w'))
   case atStart => exact ⟨(0), d9_4, H', ⟨Nat.le_refl _⟩, ⟨c9_5⟩⟩
   case round =>
    clear H'
    (try clear c2); (try clear c2b0); (try clear c2b1); (try clear p2)
    obtain ⟨x12_1, rfl, HA, HK1, HB⟩ := hrel
    cases gk with
    | zero => exact absurd HA.out (by simp [impl_HeapFault.l0])
    | succ k1 =>
     have H := HA.out; clear HA; simp only [impl_HeapFault.l0] at H; by_cases c3 : x12_1 < (l0.length : Int)
     ·rw [if_pos c3] at H
      have c3b0 : decide (x12_1 < (l0.length : Int)) = true := decide_eq_true c3; clear c3; by_cases c4 : 0 ≤ x12_1
      ·rw [if_pos c4] at H
       have c4b0 : decide (0 ≤ x12_1) = true := decide_eq_true c4; clear c4; by_cases c5 : x12_1 < (l0.length : Int)
       ·rw [if_pos c5] at H
        have c5b0 : decide (x12_1 < (l0.length : Int)) = true := decide_eq_true c5; clear c5; obtain ⟨t328, A6, H⟩ := zbi_ H; (try dsimp -simprocs only at H); by_cases c7 : t328 = 0
        ·rw [if_pos c7] at H
         obtain ⟨c7b0, c7b1⟩ := zbt_ c7; clear c7; obtain ⟨t329, A8, H⟩ := zbi_ H; (try dsimp -simprocs only at H); by_cases c9 : t329 = 0
         ·rw [if_pos c9] at H
          obtain ⟨c9b0, c9b1⟩ := zbt_ c9; clear c9; obtain ⟨t330, A10, H⟩ := zbi_ H; (try dsimp -simprocs only at H); by_cases c11 : t330 = true
          ·subst c11
           rw [if_pos rfl] at H; obtain rfl := Option.some.inj H; have p326 : 0 ≤ (x12_1 : Int) := of_decide_eq_true d9_6; have q326 : x12_1 < (l0.length : Int) := of_decide_eq_true d9_6; obtain ⟨ad326, e326, hx326_0, hx326_1, hx326_2, hx326_3, hx326_4, hx326_5⟩ := at_T56 HR0.out x12_1 p326 q326
           cases e326
           replace hx326_0 := zkc_ HB.out hx326_0; replace hx326_1 := zkc_ HB.out hx326_1; replace hx326_2 := zkc_ HB.out hx326_2; replace hx326_3 := zkc_ HB.out hx326_3; replace hx326_4 := zkc_ HB.out hx326_4; replace hx326_5 := zkc_ HB.out hx326_5; replace p326 := eq_true p326; replace q326 := eq_true q326
           go_wp2_with (first | ((with_reducible refine gate_dst (N := 4) rfl ?_); refine zbx_ 4 56 #[.int .i64 0, .int .i64 0, .string (⟨#[]⟩ : ByteArray), .int .i64 0, .int .i64 0, .string (⟨#[]⟩ : ByteArray)] ?_ c9_6; intro gb327 hg w12 hbox hb; have BK327 := ak (hbox); have GW327 := ak ((d9_8 : w.heap.size ≤ gb327)); have GE327 := ak ((d9_8 : w.heap.size ≤ gb327)); replace HB := ak (below_step d9_1 hb); clear hb hbox hg; obtain ⟨hcz13_0, hcz13_1, hcz13_2, hcz13_3, hcz13_4, hcz13_5, hfz13_0, hfz13_1, hfz13_2, hfz13_3, hfz13_4, hfz13_5⟩ := zx6_ BK327.out) | ((with_reducible refine gate_callee (f := 43) rfl ?_); refine zgo_ 19 Tryd.func43 #[.agg #[.int .i64 ((rd_T56 l0 x12_1).f0.f0), .int .i64 ((rd_T56 l0 x12_1).f0.f1), .string ((rd_T56 l0 x12_1).f0.f2)]] ?_ (e := d9_2); (with_reducible refine (impl_ValueFault.calls k1 ((rd_T56 l0 x12_1).f0.f0) ((rd_T56 l0 x12_1).f0.f1) ((rd_T56 l0 x12_1).f0.f2) t328 _ A6.out).mono ?_); rintro e w14 ⟨rfl, hb⟩; refine ⟨_, rfl, ?_⟩; replace BK327 := zbb_ (g := gb327) (o := .cells #[.int .i64 ((rd_T56 l0 x12_1).f0.f0), .int .i64 ((rd_T56 l0 x12_1).f0.f1), .string ((rd_T56 l0 x12_1).f0.f2), .int .i64 ((rd_T56 l0 x12_1).f1.f0), .int .i64 ((rd_T56 l0 x12_1).f1.f1), .string ((rd_T56 l0 x12_1).f1.f2)] 56 (0, 0)) hb (by (with_reducible repeat first | apply b9N | apply b9D | apply b9L); refine zp6_ (.int .i64 0) (.int .i64 0) (.string (⟨#[]⟩ : ByteArray)) (.int .i64 0) (.int .i64 0) (.string (⟨#[]⟩ : ByteArray)) ?_; (with_reducible repeat first | apply b9N | apply b9D | apply b9L); exact BK327.out); replace HB := ak (below_step d9_3 hb); (try clear hb); obtain ⟨hcz15_0, hcz15_1, hcz15_2, hcz15_3, hcz15_4, hcz15_5, hfz15_0, hfz15_1, hfz15_2, hfz15_3, hfz15_4, hfz15_5⟩ := zx6_ BK327.out) | ((with_reducible refine gate_callee (f := 43) rfl ?_); refine zgo_ 25 Tryd.func43 #[.agg #[.int .i64 ((rd_T56 l0 x12_1).f1.f0), .int .i64 ((rd_T56 l0 x12_1).f1.f1), .string ((rd_T56 l0 x12_1).f1.f2)]] ?_ (e := d9_2); (with_reducible refine (impl_ValueFault.calls k1 ((rd_T56 l0 x12_1).f1.f0) ((rd_T56 l0 x12_1).f1.f1) ((rd_T56 l0 x12_1).f1.f2) t329 _ A8.out).mono ?_); rintro e w16 ⟨rfl, hb⟩; refine ⟨_, rfl, ?_⟩; replace BK327 := zbb_ (g := gb327) hb d9_5; replace HB := ak (below_step d9_3 hb); (try clear hb); obtain ⟨hcz17_0, hcz17_1, hcz17_2, hcz17_3, hcz17_4, hcz17_5, hfz17_0, hfz17_1, hfz17_2, hfz17_3, hfz17_4, hfz17_5⟩ := zx6_ BK327.out) | ((with_reducible refine gate_callee (f := 44) rfl ?_); refine zgo_ 32 Tryd.func44 #[.agg #[.int .i64 ((rd_T56 l0 x12_1).f0.f0), .int .i64 ((rd_T56 l0 x12_1).f0.f1), .string ((rd_T56 l0 x12_1).f0.f2)], .int .i64 x12_1] ?_ (e := d9_2); (with_reducible refine (impl_isBeyond.calls ((rd_T56 l0 x12_1).f0.f0) ((rd_T56 l0 x12_1).f0.f1) ((rd_T56 l0 x12_1).f0.f2) x12_1 true _ A10.out).mono ?_); rintro e w18 ⟨rfl, hb⟩; refine ⟨_, rfl, ?_⟩; replace BK327 := zbb_ (g := gb327) hb d9_5; replace HB := ak (below_step d9_3 hb); (try clear hb)))
           go_ret; exact ⟨c9_2, c9_4⟩
          ·replace c11 := Bool.eq_false_iff.mpr c11
           subst c11; rw [if_neg (show ¬ (false = true) by decide)] at H; obtain ⟨t331, A19, H⟩ := zbi_ H; (try dsimp -simprocs only at H); by_cases c20 : t331 = true
           ·subst c20
            rw [if_pos rfl] at H; obtain rfl := Option.some.inj H; have p326 : 0 ≤ (x12_1 : Int) := of_decide_eq_true d9_6; have q326 : x12_1 < (l0.length : Int) := of_decide_eq_true d9_6; obtain ⟨ad326, e326, hx326_0, hx326_1, hx326_2, hx326_3, hx326_4, hx326_5⟩ := at_T56 HR0.out x12_1 p326 q326
            cases e326
            replace hx326_0 := zkc_ HB.out hx326_0; replace hx326_1 := zkc_ HB.out hx326_1; replace hx326_2 := zkc_ HB.out hx326_2; replace hx326_3 := zkc_ HB.out hx326_3; replace hx326_4 := zkc_ HB.out hx326_4; replace hx326_5 := zkc_ HB.out hx326_5; replace p326 := eq_true p326; replace q326 := eq_true q326
            go_wp2_with (first | ((with_reducible refine gate_dst (N := 4) rfl ?_); refine zbx_ 4 56 #[.int .i64 0, .int .i64 0, .string (⟨#[]⟩ : ByteArray), .int .i64 0, .int .i64 0, .string (⟨#[]⟩ : ByteArray)] ?_ c9_6; intro gb327 hg w21 hbox hb; have BK327 := ak (hbox); have GW327 := ak ((d9_8 : w.heap.size ≤ gb327)); have GE327 := ak ((d9_8 : w.heap.size ≤ gb327)); replace HB := ak (below_step d9_1 hb); clear hb hbox hg; obtain ⟨hcz22_0, hcz22_1, hcz22_2, hcz22_3, hcz22_4, hcz22_5, hfz22_0, hfz22_1, hfz22_2, hfz22_3, hfz22_4, hfz22_5⟩ := zx6_ BK327.out) | ((with_reducible refine gate_callee (f := 43) rfl ?_); refine zgo_ 19 Tryd.func43 #[.agg #[.int .i64 ((rd_T56 l0 x12_1).f0.f0), .int .i64 ((rd_T56 l0 x12_1).f0.f1), .string ((rd_T56 l0 x12_1).f0.f2)]] ?_ (e := d9_2); (with_reducible refine (impl_ValueFault.calls k1 ((rd_T56 l0 x12_1).f0.f0) ((rd_T56 l0 x12_1).f0.f1) ((rd_T56 l0 x12_1).f0.f2) t328 _ A6.out).mono ?_); rintro e w23 ⟨rfl, hb⟩; refine ⟨_, rfl, ?_⟩; replace BK327 := zbb_ (g := gb327) (o := .cells #[.int .i64 ((rd_T56 l0 x12_1).f0.f0), .int .i64 ((rd_T56 l0 x12_1).f0.f1), .string ((rd_T56 l0 x12_1).f0.f2), .int .i64 ((rd_T56 l0 x12_1).f1.f0), .int .i64 ((rd_T56 l0 x12_1).f1.f1), .string ((rd_T56 l0 x12_1).f1.f2)] 56 (0, 0)) hb (by (with_reducible repeat first | apply b9N | apply b9D | apply b9L); refine zp6_ (.int .i64 0) (.int .i64 0) (.string (⟨#[]⟩ : ByteArray)) (.int .i64 0) (.int .i64 0) (.string (⟨#[]⟩ : ByteArray)) ?_; (with_reducible repeat first | apply b9N | apply b9D | apply b9L); exact BK327.out); replace HB := ak (below_step d9_3 hb); (try clear hb); obtain ⟨hcz24_0, hcz24_1, hcz24_2, hcz24_3, hcz24_4, hcz24_5, hfz24_0, hfz24_1, hfz24_2, hfz24_3, hfz24_4, hfz24_5⟩ := zx6_ BK327.out) | ((with_reducible refine gate_callee (f := 43) rfl ?_); refine zgo_ 25 Tryd.func43 #[.agg #[.int .i64 ((rd_T56 l0 x12_1).f1.f0), .int .i64 ((rd_T56 l0 x12_1).f1.f1), .string ((rd_T56 l0 x12_1).f1.f2)]] ?_ (e := d9_2); (with_reducible refine (impl_ValueFault.calls k1 ((rd_T56 l0 x12_1).f1.f0) ((rd_T56 l0 x12_1).f1.f1) ((rd_T56 l0 x12_1).f1.f2) t329 _ A8.out).mono ?_); rintro e w25 ⟨rfl, hb⟩; refine ⟨_, rfl, ?_⟩; replace BK327 := zbb_ (g := gb327) hb d9_5; replace HB := ak (below_step d9_3 hb); (try clear hb); obtain ⟨hcz26_0, hcz26_1, hcz26_2, hcz26_3, hcz26_4, hcz26_5, hfz26_0, hfz26_1, hfz26_2, hfz26_3, hfz26_4, hfz26_5⟩ := zx6_ BK327.out) | ((with_reducible refine gate_callee (f := 44) rfl ?_); refine zgo_ 32 Tryd.func44 #[.agg #[.int .i64 ((rd_T56 l0 x12_1).f0.f0), .int .i64 ((rd_T56 l0 x12_1).f0.f1), .string ((rd_T56 l0 x12_1).f0.f2)], .int .i64 x12_1] ?_ (e := d9_2); (with_reducible refine (impl_isBeyond.calls ((rd_T56 l0 x12_1).f0.f0) ((rd_T56 l0 x12_1).f0.f1) ((rd_T56 l0 x12_1).f0.f2) x12_1 false _ A10.out).mono ?_); rintro e w27 ⟨rfl, hb⟩; refine ⟨_, rfl, ?_⟩; replace BK327 := zbb_ (g := gb327) hb d9_5; replace HB := ak (below_step d9_3 hb); (try clear hb); obtain ⟨hcz28_0, hcz28_1, hcz28_2, hcz28_3, hcz28_4, hcz28_5, hfz28_0, hfz28_1, hfz28_2, hfz28_3, hfz28_4, hfz28_5⟩ := zx6_ BK327.out) | (go_at_call 44; (with_reducible refine (impl_isBeyond.calls ((rd_T56 l0 x12_1).f1.f0) ((rd_T56 l0 x12_1).f1.f1) ((rd_T56 l0 x12_1).f1.f2) x12_1 true _ A19.out).mono ?_); rintro e w29 ⟨rfl, hb⟩; replace BK327 := zbb_ (g := gb327) hb d9_5; replace HB := ak (below_step d9_3 hb); (try clear hb)))
            go_ret; exact ⟨c9_2, c9_4⟩
           ·replace c20 := Bool.eq_false_iff.mpr c20
            subst c20; rw [if_neg (show ¬ (false = true) by decide)] at H; have H' := ak H; clear H; have p326 : 0 ≤ (x12_1 : Int) := of_decide_eq_true d9_6; have q326 : x12_1 < (l0.length : Int) := of_decide_eq_true d9_6; obtain ⟨ad326, e326, hx326_0, hx326_1, hx326_2, hx326_3, hx326_4, hx326_5⟩ := at_T56 HR0.out x12_1 p326 q326
            cases e326
            replace hx326_0 := zkc_ HB.out hx326_0; replace hx326_1 := zkc_ HB.out hx326_1; replace hx326_2 := zkc_ HB.out hx326_2; replace hx326_3 := zkc_ HB.out hx326_3; replace hx326_4 := zkc_ HB.out hx326_4; replace hx326_5 := zkc_ HB.out hx326_5; replace p326 := eq_true p326; replace q326 := eq_true q326
            go_wp2_with (first | ((with_reducible refine gate_dst (N := 4) rfl ?_); refine zbx_ 4 56 #[.int .i64 0, .int .i64 0, .string (⟨#[]⟩ : ByteArray), .int .i64 0, .int .i64 0, .string (⟨#[]⟩ : ByteArray)] ?_ c9_6; intro gb327 hg w30 hbox hb; have BK327 := ak (hbox); have GW327 := ak ((d9_8 : w.heap.size ≤ gb327)); have GE327 := ak ((d9_8 : w.heap.size ≤ gb327)); replace HB := ak (below_step d9_1 hb); clear hb hbox hg; obtain ⟨hcz31_0, hcz31_1, hcz31_2, hcz31_3, hcz31_4, hcz31_5, hfz31_0, hfz31_1, hfz31_2, hfz31_3, hfz31_4, hfz31_5⟩ := zx6_ BK327.out) | ((with_reducible refine gate_callee (f := 43) rfl ?_); refine zgo_ 19 Tryd.func43 #[.agg #[.int .i64 ((rd_T56 l0 x12_1).f0.f0), .int .i64 ((rd_T56 l0 x12_1).f0.f1), .string ((rd_T56 l0 x12_1).f0.f2)]] ?_ (e := d9_2); (with_reducible refine (impl_ValueFault.calls k1 ((rd_T56 l0 x12_1).f0.f0) ((rd_T56 l0 x12_1).f0.f1) ((rd_T56 l0 x12_1).f0.f2) t328 _ A6.out).mono ?_); rintro e w32 ⟨rfl, hb⟩; refine ⟨_, rfl, ?_⟩; replace BK327 := zbb_ (g := gb327) (o := .cells #[.int .i64 ((rd_T56 l0 x12_1).f0.f0), .int .i64 ((rd_T56 l0 x12_1).f0.f1), .string ((rd_T56 l0 x12_1).f0.f2), .int .i64 ((rd_T56 l0 x12_1).f1.f0), .int .i64 ((rd_T56 l0 x12_1).f1.f1), .string ((rd_T56 l0 x12_1).f1.f2)] 56 (0, 0)) hb (by (with_reducible repeat first | apply b9N | apply b9D | apply b9L); refine zp6_ (.int .i64 0) (.int .i64 0) (.string (⟨#[]⟩ : ByteArray)) (.int .i64 0) (.int .i64 0) (.string (⟨#[]⟩ : ByteArray)) ?_; (with_reducible repeat first | apply b9N | apply b9D | apply b9L); exact BK327.out); replace HB := ak (below_step d9_3 hb); (try clear hb); obtain ⟨hcz33_0, hcz33_1, hcz33_2, hcz33_3, hcz33_4, hcz33_5, hfz33_0, hfz33_1, hfz33_2, hfz33_3, hfz33_4, hfz33_5⟩ := zx6_ BK327.out) | ((with_reducible refine gate_callee (f := 43) rfl ?_); refine zgo_ 25 Tryd.func43 #[.agg #[.int .i64 ((rd_T56 l0 x12_1).f1.f0), .int .i64 ((rd_T56 l0 x12_1).f1.f1), .string ((rd_T56 l0 x12_1).f1.f2)]] ?_ (e := d9_2); (with_reducible refine (impl_ValueFault.calls k1 ((rd_T56 l0 x12_1).f1.f0) ((rd_T56 l0 x12_1).f1.f1) ((rd_T56 l0 x12_1).f1.f2) t329 _ A8.out).mono ?_); rintro e w34 ⟨rfl, hb⟩; refine ⟨_, rfl, ?_⟩; replace BK327 := zbb_ (g := gb327) hb d9_5; replace HB := ak (below_step d9_3 hb); (try clear hb); obtain ⟨hcz35_0, hcz35_1, hcz35_2, hcz35_3, hcz35_4, hcz35_5, hfz35_0, hfz35_1, hfz35_2, hfz35_3, hfz35_4, hfz35_5⟩ := zx6_ BK327.out) | ((with_reducible refine gate_callee (f := 44) rfl ?_); refine zgo_ 32 Tryd.func44 #[.agg #[.int .i64 ((rd_T56 l0 x12_1).f0.f0), .int .i64 ((rd_T56 l0 x12_1).f0.f1), .string ((rd_T56 l0 x12_1).f0.f2)], .int .i64 x12_1] ?_ (e := d9_2); (with_reducible refine (impl_isBeyond.calls ((rd_T56 l0 x12_1).f0.f0) ((rd_T56 l0 x12_1).f0.f1) ((rd_T56 l0 x12_1).f0.f2) x12_1 false _ A10.out).mono ?_); rintro e w36 ⟨rfl, hb⟩; refine ⟨_, rfl, ?_⟩; replace BK327 := zbb_ (g := gb327) hb d9_5; replace HB := ak (below_step d9_3 hb); (try clear hb); obtain ⟨hcz37_0, hcz37_1, hcz37_2, hcz37_3, hcz37_4, hcz37_5, hfz37_0, hfz37_1, hfz37_2, hfz37_3, hfz37_4, hfz37_5⟩ := zx6_ BK327.out) | (go_at_call 44; (with_reducible refine (impl_isBeyond.calls ((rd_T56 l0 x12_1).f1.f0) ((rd_T56 l0 x12_1).f1.f1) ((rd_T56 l0 x12_1).f1.f2) x12_1 false _ A19.out).mono ?_); rintro e w38 ⟨rfl, hb⟩; replace BK327 := zbb_ (g := gb327) hb d9_5; replace HB := ak (below_step d9_3 hb); (try clear hb)))
            go_roundg k1
            case measure => have := HK1.out; omega
            case rel => exact ⟨(wrap64 (x12_1 + 1)), d9_4, H', ⟨by have := HK1.out; omega⟩, ⟨c9_4⟩⟩
         ·rw [if_neg c9] at H
          obtain ⟨c9b0, c9b1⟩ := zbf_ c9; obtain rfl := Option.some.inj H; have p326 : 0 ≤ (x12_1 : Int) := of_decide_eq_true d9_6; have q326 : x12_1 < (l0.length : Int) := of_decide_eq_true d9_6; obtain ⟨ad326, e326, hx326_0, hx326_1, hx326_2, hx326_3, hx326_4, hx326_5⟩ := at_T56 HR0.out x12_1 p326 q326
          cases e326
          replace hx326_0 := zkc_ HB.out hx326_0; replace hx326_1 := zkc_ HB.out hx326_1; replace hx326_2 := zkc_ HB.out hx326_2; replace hx326_3 := zkc_ HB.out hx326_3; replace hx326_4 := zkc_ HB.out hx326_4; replace hx326_5 := zkc_ HB.out hx326_5; replace p326 := eq_true p326; replace q326 := eq_true q326
          go_wp2_with (first | ((with_reducible refine gate_dst (N := 4) rfl ?_); refine zbx_ 4 56 #[.int .i64 0, .int .i64 0, .string (⟨#[]⟩ : ByteArray), .int .i64 0, .int .i64 0, .string (⟨#[]⟩ : ByteArray)] ?_ c9_6; intro gb327 hg w39 hbox hb; have BK327 := ak (hbox); have GW327 := ak ((d9_8 : w.heap.size ≤ gb327)); have GE327 := ak ((d9_8 : w.heap.size ≤ gb327)); replace HB := ak (below_step d9_1 hb); clear hb hbox hg; obtain ⟨hcz40_0, hcz40_1, hcz40_2, hcz40_3, hcz40_4, hcz40_5, hfz40_0, hfz40_1, hfz40_2, hfz40_3, hfz40_4, hfz40_5⟩ := zx6_ BK327.out) | ((with_reducible refine gate_callee (f := 43) rfl ?_); refine zgo_ 19 Tryd.func43 #[.agg #[.int .i64 ((rd_T56 l0 x12_1).f0.f0), .int .i64 ((rd_T56 l0 x12_1).f0.f1), .string ((rd_T56 l0 x12_1).f0.f2)]] ?_ (e := d9_2); (with_reducible refine (impl_ValueFault.calls k1 ((rd_T56 l0 x12_1).f0.f0) ((rd_T56 l0 x12_1).f0.f1) ((rd_T56 l0 x12_1).f0.f2) t328 _ A6.out).mono ?_); rintro e w41 ⟨rfl, hb⟩; refine ⟨_, rfl, ?_⟩; replace BK327 := zbb_ (g := gb327) (o := .cells #[.int .i64 ((rd_T56 l0 x12_1).f0.f0), .int .i64 ((rd_T56 l0 x12_1).f0.f1), .string ((rd_T56 l0 x12_1).f0.f2), .int .i64 ((rd_T56 l0 x12_1).f1.f0), .int .i64 ((rd_T56 l0 x12_1).f1.f1), .string ((rd_T56 l0 x12_1).f1.f2)] 56 (0, 0)) hb (by (with_reducible repeat first | apply b9N | apply b9D | apply b9L); refine zp6_ (.int .i64 0) (.int .i64 0) (.string (⟨#[]⟩ : ByteArray)) (.int .i64 0) (.int .i64 0) (.string (⟨#[]⟩ : ByteArray)) ?_; (with_reducible repeat first | apply b9N | apply b9D | apply b9L); exact BK327.out); replace HB := ak (below_step d9_3 hb); (try clear hb); obtain ⟨hcz42_0, hcz42_1, hcz42_2, hcz42_3, hcz42_4, hcz42_5, hfz42_0, hfz42_1, hfz42_2, hfz42_3, hfz42_4, hfz42_5⟩ := zx6_ BK327.out) | ((with_reducible refine gate_callee (f := 43) rfl ?_); refine zgo_ 25 Tryd.func43 #[.agg #[.int .i64 ((rd_T56 l0 x12_1).f1.f0), .int .i64 ((rd_T56 l0 x12_1).f1.f1), .string ((rd_T56 l0 x12_1).f1.f2)]] ?_ (e := d9_2); (with_reducible refine (impl_ValueFault.calls k1 ((rd_T56 l0 x12_1).f1.f0) ((rd_T56 l0 x12_1).f1.f1) ((rd_T56 l0 x12_1).f1.f2) t329 _ A8.out).mono ?_); rintro e w43 ⟨rfl, hb⟩; refine ⟨_, rfl, ?_⟩; replace BK327 := zbb_ (g := gb327) hb d9_5; replace HB := ak (below_step d9_3 hb); (try clear hb)))
          go_ret; exact ⟨c9_2, c9_4⟩
        ·rw [if_neg c7] at H
         obtain ⟨c7b0, c7b1⟩ := zbf_ c7; obtain rfl := Option.some.inj H; have p326 : 0 ≤ (x12_1 : Int) := of_decide_eq_true d9_6; have q326 : x12_1 < (l0.length : Int) := of_decide_eq_true d9_6; obtain ⟨ad326, e326, hx326_0, hx326_1, hx326_2, hx326_3, hx326_4, hx326_5⟩ := at_T56 HR0.out x12_1 p326 q326
         cases e326
         replace hx326_0 := zkc_ HB.out hx326_0; replace hx326_1 := zkc_ HB.out hx326_1; replace hx326_2 := zkc_ HB.out hx326_2; replace hx326_3 := zkc_ HB.out hx326_3; replace hx326_4 := zkc_ HB.out hx326_4; replace hx326_5 := zkc_ HB.out hx326_5; replace p326 := eq_true p326; replace q326 := eq_true q326
         go_wp2_with (first | ((with_reducible refine gate_dst (N := 4) rfl ?_); refine zbx_ 4 56 #[.int .i64 0, .int .i64 0, .string (⟨#[]⟩ : ByteArray), .int .i64 0, .int .i64 0, .string (⟨#[]⟩ : ByteArray)] ?_ c9_6; intro gb327 hg w44 hbox hb; have BK327 := ak (hbox); have GW327 := ak ((d9_8 : w.heap.size ≤ gb327)); have GE327 := ak ((d9_8 : w.heap.size ≤ gb327)); replace HB := ak (below_step d9_1 hb); clear hb hbox hg; obtain ⟨hcz45_0, hcz45_1, hcz45_2, hcz45_3, hcz45_4, hcz45_5, hfz45_0, hfz45_1, hfz45_2, hfz45_3, hfz45_4, hfz45_5⟩ := zx6_ BK327.out) | ((with_reducible refine gate_callee (f := 43) rfl ?_); refine zgo_ 19 Tryd.func43 #[.agg #[.int .i64 ((rd_T56 l0 x12_1).f0.f0), .int .i64 ((rd_T56 l0 x12_1).f0.f1), .string ((rd_T56 l0 x12_1).f0.f2)]] ?_ (e := d9_2); (with_reducible refine (impl_ValueFault.calls k1 ((rd_T56 l0 x12_1).f0.f0) ((rd_T56 l0 x12_1).f0.f1) ((rd_T56 l0 x12_1).f0.f2) t328 _ A6.out).mono ?_); rintro e w46 ⟨rfl, hb⟩; refine ⟨_, rfl, ?_⟩; replace BK327 := zbb_ (g := gb327) (o := .cells #[.int .i64 ((rd_T56 l0 x12_1).f0.f0), .int .i64 ((rd_T56 l0 x12_1).f0.f1), .string ((rd_T56 l0 x12_1).f0.f2), .int .i64 ((rd_T56 l0 x12_1).f1.f0), .int .i64 ((rd_T56 l0 x12_1).f1.f1), .string ((rd_T56 l0 x12_1).f1.f2)] 56 (0, 0)) hb (by (with_reducible repeat first | apply b9N | apply b9D | apply b9L); refine zp6_ (.int .i64 0) (.int .i64 0) (.string (⟨#[]⟩ : ByteArray)) (.int .i64 0) (.int .i64 0) (.string (⟨#[]⟩ : ByteArray)) ?_; (with_reducible repeat first | apply b9N | apply b9D | apply b9L); exact BK327.out); replace HB := ak (below_step d9_3 hb); (try clear hb)))
         go_ret; exact ⟨c9_2, c9_4⟩
       ·rw [if_neg c5] at H
        exact absurd H (by simp)
      ·rw [if_neg c4] at H
       exact absurd H (by simp)
     ·rw [if_neg c3] at H
      have c3b0 : decide (x12_1 < (l0.length : Int)) = false := decide_eq_false c3; clear c3; obtain rfl := Option.some.inj H; go_wp2; go_ret; exact ⟨c9_2, c9_5⟩

/-! ### impl_inHeap: function 27 -/
def impl_inHeap.l0 : Nat → List (S56) → List (S28) → Int → Int → Option (Int)
  | 0, _, _, _, _ => none
  | k + 1, x0, x8, x9, x10 => if x10 < x9 then (if 0 ≤ x10 then (if x10 < (x8.length : Int) then ((impl_ValueFault.f k ((rd_T28 x8 x10).f0) ((rd_T28 x8 x10).f1) ((rd_T28 x8 x10).f2)).bind fun t334 => (if t334 = 0 then ((impl_isBeyond.f ((rd_T28 x8 x10).f0) ((rd_T28 x8 x10).f1) ((rd_T28 x8 x10).f2) (x0.length : Int)).bind fun t335 => (if t335 = true then (some 4) else (impl_inHeap.l0 k x0 x8 x9 (wrap64 (x10 + 1))))) else (some t334))) else (none)) else (none)) else (some 0)
def impl_inHeap.f (k : Nat) (l0 : List (S56)) (l1 : List (S28)) : Option (Int) := impl_inHeap.l0 k l0 l1 (l1.length : Int) 0
theorem impl_inHeap.mono_l : ∀ k, (∀ y0 y1 y2 y3, LeO (impl_inHeap.l0 k y0 y1 y2 y3) (impl_inHeap.l0 (k + 1) y0 y1 y2 y3))
  | 0 => fun _ _ _ _ r h => by simp [impl_inHeap.l0] at h
  | k + 1 => by
    have ih0 := impl_inHeap.mono_l k
    · intro y0 y1 y2 y3
      unfold impl_inHeap.l0
      exact zm9_0
theorem impl_inHeap.mono : ∀ a0 a1 k, LeO (impl_inHeap.f k a0 a1) (impl_inHeap.f (k + 1) a0 a1) := by
  intro a0 a1 k; have ih0 := impl_inHeap.mono_l k; unfold impl_inHeap.f
  exact zm9_0
theorem impl_inHeap.calls (k : Nat) (A0 : Option Addr) (c0 : Nat) (l0 : List (S56)) (A1 : Option Addr) (c1 : Nat) (l1 : List (S28)) (r : Int) (w : World) (hr0 : Kd.C k56 w A0 l0.length l0) (hc0 : l0.length ≤ c0) (hr1 : Kd.C k28 w A1 l1.length l1) (hc1 : l1.length ≤ c1) (h : impl_inHeap.f k l0 l1 = some r) :
    Calls Tryd.prog 27 #[.slice A0 l0.length c0, .slice A1 l1.length c1] w fun e w' => e = .returned (.int .i64 r) ∧ Below w.heap.size w w' := by
  have hu28 := Tryd.underlying28; have HR0 := ak hr0; have HC0 := ak hc0; clear hr0 hc0; have HR1 := ak hr1; have HC1 := ak hc1; clear hr1 hc1; have HB := ak (Below.refl w.heap.size w); have H := h; clear h; unfold impl_inHeap.f at H; have H' := ak H; clear H; go_enter Tryd.func27, Tryd.ntmps27; go_wp2; go_loopg [10] k (fun kq v10 w' => ∃ (x10_1 : Int), v10 = .int .i64 x10_1 ∧ Aside0 (impl_inHeap.l0 kq l0 l1 (l1.length : Int) x10_1 = some r) ∧ Aside0 (kq ≤ k) ∧ Aside0 (Below w.heap.size w w'))
  case atStart => exact ⟨(0), d9_4, H', ⟨Nat.le_refl _⟩, ⟨c9_5⟩⟩
  case round =>
   clear H'
   (try clear c1); (try clear c2); (try clear p2)
   obtain ⟨x10_1, rfl, HA, HK1, HB⟩ := hrel
   cases gk with
   | zero => exact absurd HA.out (by simp [impl_inHeap.l0])
   | succ k1 =>
    have H := HA.out; clear HA; simp only [impl_inHeap.l0] at H; by_cases c3 : x10_1 < (l1.length : Int)
    ·rw [if_pos c3] at H
     have c3b0 : decide (x10_1 < (l1.length : Int)) = true := decide_eq_true c3; clear c3; by_cases c4 : 0 ≤ x10_1
     ·rw [if_pos c4] at H
      have c4b0 : decide (0 ≤ x10_1) = true := decide_eq_true c4; clear c4; by_cases c5 : x10_1 < (l1.length : Int)
      ·rw [if_pos c5] at H
       have c5b0 : decide (x10_1 < (l1.length : Int)) = true := decide_eq_true c5; clear c5; obtain ⟨t334, A6, H⟩ := zbi_ H; (try dsimp -simprocs only at H); by_cases c7 : t334 = 0
       ·rw [if_pos c7] at H
        obtain ⟨c7b0, c7b1⟩ := zbt_ c7; clear c7; obtain ⟨t335, A8, H⟩ := zbi_ H; (try dsimp -simprocs only at H); by_cases c9 : t335 = true
        ·subst c9
         rw [if_pos rfl] at H; obtain rfl := Option.some.inj H; have p332 : 0 ≤ (x10_1 : Int) := of_decide_eq_true d9_6; have q332 : x10_1 < (l1.length : Int) := of_decide_eq_true d9_6; obtain ⟨ad332, e332, hx332_0, hx332_1, hx332_2⟩ := at_T28 HR1.out x10_1 p332 q332
         cases e332
         replace hx332_0 := zkc_ HB.out hx332_0; replace hx332_1 := zkc_ HB.out hx332_1; replace hx332_2 := zkc_ HB.out hx332_2; replace p332 := eq_true p332; replace q332 := eq_true q332
         go_wp2_with (first | ((with_reducible refine gate_dst (N := 6) rfl ?_); refine zbx_ 6 28 #[.int .i64 0, .int .i64 0, .string (⟨#[]⟩ : ByteArray)] ?_ c9_6; intro gb333 hg w10 hbox hb; have BK333 := ak (hbox); have GW333 := ak ((d9_8 : w.heap.size ≤ gb333)); have GE333 := ak ((d9_8 : w.heap.size ≤ gb333)); replace HB := ak (below_step d9_1 hb); clear hb hbox hg; obtain ⟨hcz11_0, hcz11_1, hcz11_2, hfz11_0, hfz11_1, hfz11_2⟩ := zx3_ BK333.out) | ((with_reducible refine gate_callee (f := 43) rfl ?_); refine zgo_ 15 Tryd.func43 #[.agg #[.int .i64 ((rd_T28 l1 x10_1).f0), .int .i64 ((rd_T28 l1 x10_1).f1), .string ((rd_T28 l1 x10_1).f2)]] ?_ (e := d9_2); (with_reducible refine (impl_ValueFault.calls k1 ((rd_T28 l1 x10_1).f0) ((rd_T28 l1 x10_1).f1) ((rd_T28 l1 x10_1).f2) t334 _ A6.out).mono ?_); rintro e w12 ⟨rfl, hb⟩; refine ⟨_, rfl, ?_⟩; replace BK333 := zbb_ (g := gb333) (o := .cells #[.int .i64 ((rd_T28 l1 x10_1).f0), .int .i64 ((rd_T28 l1 x10_1).f1), .string ((rd_T28 l1 x10_1).f2)] 28 (0, 0)) hb (by (with_reducible repeat first | apply b9N | apply b9D | apply b9L); refine zp3_ (.int .i64 0) (.int .i64 0) (.string (⟨#[]⟩ : ByteArray)) ?_; (with_reducible repeat first | apply b9N | apply b9D | apply b9L); exact BK333.out); replace HB := ak (below_step d9_7 hb); (try clear hb); obtain ⟨hcz13_0, hcz13_1, hcz13_2, hfz13_0, hfz13_1, hfz13_2⟩ := zx3_ BK333.out) | ((with_reducible refine gate_callee (f := 44) rfl ?_); refine zgo_ 22 Tryd.func44 #[.agg #[.int .i64 ((rd_T28 l1 x10_1).f0), .int .i64 ((rd_T28 l1 x10_1).f1), .string ((rd_T28 l1 x10_1).f2)], .int .i64 (l0.length : Int)] ?_ (e := d9_2); (with_reducible refine (impl_isBeyond.calls ((rd_T28 l1 x10_1).f0) ((rd_T28 l1 x10_1).f1) ((rd_T28 l1 x10_1).f2) (l0.length : Int) true _ A8.out).mono ?_); rintro e w14 ⟨rfl, hb⟩; refine ⟨_, rfl, ?_⟩; replace BK333 := zbb_ (g := gb333) (o := .cells #[.int .i64 ((rd_T28 l1 x10_1).f0), .int .i64 ((rd_T28 l1 x10_1).f1), .string ((rd_T28 l1 x10_1).f2)] 28 (0, 0)) hb (by (with_reducible repeat first | apply b9N | apply b9D | apply b9L); exact BK333.out); replace HB := ak (below_step d9_7 hb); (try clear hb)))
         go_ret; exact ⟨c9_2, c9_7⟩
        ·replace c9 := Bool.eq_false_iff.mpr c9
         subst c9; rw [if_neg (show ¬ (false = true) by decide)] at H; have H' := ak H; clear H; have p332 : 0 ≤ (x10_1 : Int) := of_decide_eq_true d9_6; have q332 : x10_1 < (l1.length : Int) := of_decide_eq_true d9_6; obtain ⟨ad332, e332, hx332_0, hx332_1, hx332_2⟩ := at_T28 HR1.out x10_1 p332 q332
         cases e332
         replace hx332_0 := zkc_ HB.out hx332_0; replace hx332_1 := zkc_ HB.out hx332_1; replace hx332_2 := zkc_ HB.out hx332_2; replace p332 := eq_true p332; replace q332 := eq_true q332
         go_wp2_with (first | ((with_reducible refine gate_dst (N := 6) rfl ?_); refine zbx_ 6 28 #[.int .i64 0, .int .i64 0, .string (⟨#[]⟩ : ByteArray)] ?_ c9_6; intro gb333 hg w15 hbox hb; have BK333 := ak (hbox); have GW333 := ak ((d9_8 : w.heap.size ≤ gb333)); have GE333 := ak ((d9_8 : w.heap.size ≤ gb333)); replace HB := ak (below_step d9_1 hb); clear hb hbox hg; obtain ⟨hcz16_0, hcz16_1, hcz16_2, hfz16_0, hfz16_1, hfz16_2⟩ := zx3_ BK333.out) | ((with_reducible refine gate_callee (f := 43) rfl ?_); refine zgo_ 15 Tryd.func43 #[.agg #[.int .i64 ((rd_T28 l1 x10_1).f0), .int .i64 ((rd_T28 l1 x10_1).f1), .string ((rd_T28 l1 x10_1).f2)]] ?_ (e := d9_2); (with_reducible refine (impl_ValueFault.calls k1 ((rd_T28 l1 x10_1).f0) ((rd_T28 l1 x10_1).f1) ((rd_T28 l1 x10_1).f2) t334 _ A6.out).mono ?_); rintro e w17 ⟨rfl, hb⟩; refine ⟨_, rfl, ?_⟩; replace BK333 := zbb_ (g := gb333) (o := .cells #[.int .i64 ((rd_T28 l1 x10_1).f0), .int .i64 ((rd_T28 l1 x10_1).f1), .string ((rd_T28 l1 x10_1).f2)] 28 (0, 0)) hb (by (with_reducible repeat first | apply b9N | apply b9D | apply b9L); refine zp3_ (.int .i64 0) (.int .i64 0) (.string (⟨#[]⟩ : ByteArray)) ?_; (with_reducible repeat first | apply b9N | apply b9D | apply b9L); exact BK333.out); replace HB := ak (below_step d9_7 hb); (try clear hb); obtain ⟨hcz18_0, hcz18_1, hcz18_2, hfz18_0, hfz18_1, hfz18_2⟩ := zx3_ BK333.out) | ((with_reducible refine gate_callee (f := 44) rfl ?_); refine zgo_ 22 Tryd.func44 #[.agg #[.int .i64 ((rd_T28 l1 x10_1).f0), .int .i64 ((rd_T28 l1 x10_1).f1), .string ((rd_T28 l1 x10_1).f2)], .int .i64 (l0.length : Int)] ?_ (e := d9_2); (with_reducible refine (impl_isBeyond.calls ((rd_T28 l1 x10_1).f0) ((rd_T28 l1 x10_1).f1) ((rd_T28 l1 x10_1).f2) (l0.length : Int) false _ A8.out).mono ?_); rintro e w19 ⟨rfl, hb⟩; refine ⟨_, rfl, ?_⟩; replace BK333 := zbb_ (g := gb333) (o := .cells #[.int .i64 ((rd_T28 l1 x10_1).f0), .int .i64 ((rd_T28 l1 x10_1).f1), .string ((rd_T28 l1 x10_1).f2)] 28 (0, 0)) hb (by (with_reducible repeat first | apply b9N | apply b9D | apply b9L); exact BK333.out); replace HB := ak (below_step d9_7 hb); (try clear hb)))
         go_roundg k1
         case measure => have := HK1.out; omega
         case rel => exact ⟨(wrap64 (x10_1 + 1)), d9_4, H', ⟨by have := HK1.out; omega⟩, ⟨c9_7⟩⟩
       ·rw [if_neg c7] at H
        obtain ⟨c7b0, c7b1⟩ := zbf_ c7; obtain rfl := Option.some.inj H; have p332 : 0 ≤ (x10_1 : Int) := of_decide_eq_true d9_6; have q332 : x10_1 < (l1.length : Int) := of_decide_eq_true d9_6; obtain ⟨ad332, e332, hx332_0, hx332_1, hx332_2⟩ := at_T28 HR1.out x10_1 p332 q332
        cases e332
        replace hx332_0 := zkc_ HB.out hx332_0; replace hx332_1 := zkc_ HB.out hx332_1; replace hx332_2 := zkc_ HB.out hx332_2; replace p332 := eq_true p332; replace q332 := eq_true q332
        go_wp2_with (first | ((with_reducible refine gate_dst (N := 6) rfl ?_); refine zbx_ 6 28 #[.int .i64 0, .int .i64 0, .string (⟨#[]⟩ : ByteArray)] ?_ c9_6; intro gb333 hg w20 hbox hb; have BK333 := ak (hbox); have GW333 := ak ((d9_8 : w.heap.size ≤ gb333)); have GE333 := ak ((d9_8 : w.heap.size ≤ gb333)); replace HB := ak (below_step d9_1 hb); clear hb hbox hg; obtain ⟨hcz21_0, hcz21_1, hcz21_2, hfz21_0, hfz21_1, hfz21_2⟩ := zx3_ BK333.out) | ((with_reducible refine gate_callee (f := 43) rfl ?_); refine zgo_ 15 Tryd.func43 #[.agg #[.int .i64 ((rd_T28 l1 x10_1).f0), .int .i64 ((rd_T28 l1 x10_1).f1), .string ((rd_T28 l1 x10_1).f2)]] ?_ (e := d9_2); (with_reducible refine (impl_ValueFault.calls k1 ((rd_T28 l1 x10_1).f0) ((rd_T28 l1 x10_1).f1) ((rd_T28 l1 x10_1).f2) t334 _ A6.out).mono ?_); rintro e w22 ⟨rfl, hb⟩; refine ⟨_, rfl, ?_⟩; replace BK333 := zbb_ (g := gb333) (o := .cells #[.int .i64 ((rd_T28 l1 x10_1).f0), .int .i64 ((rd_T28 l1 x10_1).f1), .string ((rd_T28 l1 x10_1).f2)] 28 (0, 0)) hb (by (with_reducible repeat first | apply b9N | apply b9D | apply b9L); refine zp3_ (.int .i64 0) (.int .i64 0) (.string (⟨#[]⟩ : ByteArray)) ?_; (with_reducible repeat first | apply b9N | apply b9D | apply b9L); exact BK333.out); replace HB := ak (below_step d9_7 hb); (try clear hb)))
        go_ret; exact ⟨c9_2, c9_7⟩
      ·rw [if_neg c5] at H
       exact absurd H (by simp)
     ·rw [if_neg c4] at H
      exact absurd H (by simp)
    ·rw [if_neg c3] at H
     have c3b0 : decide (x10_1 < (l1.length : Int)) = false := decide_eq_false c3; clear c3; obtain rfl := Option.some.inj H; go_wp2; go_ret; exact ⟨c9_2, c9_5⟩

/-! ### impl_isPrim: function 28 -/
def impl_isPrim.f (a0 : Int) : Option (Bool) := (impl_in.f a0 0 15).bind fun t336 => (some t336)
theorem impl_isPrim.calls (a0 : Int) (r : Bool) (w : World) (h : impl_isPrim.f a0 = some r) :
    Calls Tryd.prog 28 #[.int .i64 a0] w fun e w' => e = .returned (.bool r) ∧ Drawn0 w w' := by
  have H := h; clear h; unfold impl_isPrim.f at H; obtain ⟨t336, A2, H⟩ := zbi_ H; (try dsimp -simprocs only at H); obtain rfl := Option.some.inj H; go_enter Tryd.func28, Tryd.ntmps28; go_wp2_with (first | ((with_reducible refine gate_callee (f := 45) rfl ?_); refine zgo_ 4 Tryd.func45 #[.int .i64 a0, .int .i64 0, .int .i64 15] ?_ (e := d9_2); (with_reducible refine (impl_in.calls a0 0 15 t336 _ A2.out).mono ?_); rintro e w' ⟨rfl, ⟨nd, rfl⟩⟩; refine ⟨_, rfl, ?_⟩)); go_ret; exact ⟨by first | rfl | (simp; done) | (simp [*]; done) | (simp [ne_nil_b, eq_nil_b]; done), by repeat (first | exact Drawn0.refl _ | apply Drawn0.step)⟩

/-! ### impl_Pair: function 29 -/
def impl_Pair.f (l0 : List (S56)) : Option ((List (S56))) := (some (([] : List (S56)) : List (S56))).bind fun y337 => (if y337.length + l0.length < 2199023255552 then (some (y337 ++ l0)) else (none))
theorem impl_Pair.calls1 (A0 : Option Addr) (c0 : Nat) (l0 : List (S56)) (r : List (S56)) (w : World) (hr0 : Kd.C k56 w A0 l0.length l0) (hc0 : l0.length ≤ c0) (hA0 : A0.isNone = false) (h : impl_Pair.f l0 = some r) :
    Calls Tryd.prog 29 #[.slice A0 l0.length c0] w fun e w' => ∃ v0_ : Value, e = .returned (v0_) ∧ Kd.R k56 56 w' w.heap.size (fun _ => True) v0_ r ∧ Below w.heap.size w w' := by
  have q_ := fun (w : World) (a : Option Addr) (n c n' c' : Nat) => Lib.run_eql_slice_nil w 26 56 a n c n' c' Tryd.underlying26; have HR0 := ak hr0; have HC0 := ak hc0; clear hr0 hc0; have HB := ak (Below.refl w.heap.size w); have H := h; clear h; unfold impl_Pair.f at H; obtain ⟨y337, hy337⟩ : ∃ y_ : List (S56), y_ = (([] : List (S56))) := ⟨_, rfl⟩
  replace H : (if y337.length + l0.length < 2199023255552 then (some (y337 ++ l0)) else (none)) = some r := by first | (rw [hy337]; with_reducible exact H) | (have H2_ := (Option.bind_some _ _).symm.trans H; rw [hy337]; with_reducible exact H2_) | (have H2_ := (Option.bind_some _ _).symm.trans H; with_reducible exact H2_) | with_reducible exact H | (rw [hy337]; exact H) | exact H
  have Ny337 := ak hy337; clear hy337; by_cases c2 : y337.length + l0.length < 2199023255552
  ·rw [if_pos c2] at H
   have LMc2 := ak c2; clear c2; obtain ⟨y340, hy340⟩ : ∃ y_ : List (S56), y_ = (y337 ++ l0) := ⟨_, rfl⟩
   replace H : (some y340) = some r := by first | (rw [hy340]; with_reducible exact H) | (have H2_ := (Option.bind_some _ _).symm.trans H; rw [hy340]; with_reducible exact H2_) | (have H2_ := (Option.bind_some _ _).symm.trans H; with_reducible exact H2_) | with_reducible exact H | (rw [hy340]; exact H) | exact H
   have Ny340 := ak hy340; clear hy340; obtain rfl := Option.some.inj H; go_enter Tryd.func29, Tryd.ntmps29
   go_wp2_with (first | ((with_reducible refine gate_dst (N := 5) rfl ?_); refine Kd.R_lit k56 _ 56 ?hg (N := 5) ?hd (xs := ([] : List (S56))) (inner := []) (ok := fun _ => True) (okp := fun _ => True) ?hr ?hp (fun _ hk => hk) trivial (Below.refl _ _) (Nat.le_refl _) (by simp) ?_; (case hd => rfl); (case hg => rfl); (case hr => exact c9_6); (case hp => exact (Reps.none _ _)); intro v338 w3 ho4 hb hg_ hnew_; clear hg_ hnew_; (first | rw [← Ny337.out] at ho4 | (simp only [Int.reduceToNat] at ho4; rw [← Ny337.out] at ho4)); have HO339 := ak (Kd.R_lower ho4 (below_size d9_1)); replace HB := ak (below_step d9_1 hb); clear hb ho4) | ((with_reducible refine gate_builtin (b := .append) (xs := #[.tmp 5, .tmp 6]) rfl ?_); at_builtin; refine Kd.R_append_rows k56 (w0 := w) w.heap.size rfl (.tmp 5) (.tmp 6) 26 56 (.agg #[(.int .i64 0), (.int .i64 0), (.string ⟨#[]⟩), (.int .i64 0), (.int .i64 0), (.string ⟨#[]⟩)]) 64 rfl Tryd.underlying26 info56 rfl (by decide) (by omega) v338 y337 l0 _ _ _ (fun _ => True) (fun _ => False) rfl rfl ?aO ?aR (fun _ _ h => h) (fun _ h => h.elim) ?aF ?aB ?aS ?aL ?_; (case aR => repeat (first | exact (Kd.C_below HR0.out HB.out) | (with_reducible refine Kd.C_alloc ?_ _) | (with_reducible refine Kd.C_drewN ?_ _) | (with_reducible refine Kd.C_drew ?_))); (case aB => exact d9_1); (case aF => exact (fun _ _ => trivial)); (case aO => exact (by (with_reducible repeat (first | apply Kd.R_alloc | apply Kd.R_drewN | apply Kd.R_drew)); exact HO339.out)); (case aS => exact (below_size d9_1)); (case aL => have := LMc2.out; omega); intro v341 w5 ho hb hg hat; rw [← Ny340.out] at ho; have HO342 := ak (ho); replace HB := ak (hb); clear HO339 ho hb hg hat))
   go_ret; (try refine exists_and_left.mp ?_); exact ⟨_, c9_2, by (with_reducible repeat (first | apply Kd.R_alloc | apply Kd.R_drewN | apply Kd.R_drew)); exact HO342.out, c9_5⟩
  ·rw [if_neg c2] at H
   exact absurd H (by simp)
theorem impl_Pair.calls (A0 : Option Addr) (c0 : Nat) (l0 : List (S56)) (r : List (S56)) (w : World) (hr0 : Kd.C k56 w A0 l0.length l0) (hc0 : l0.length ≤ c0) (h : impl_Pair.f l0 = some r) :
    Calls Tryd.prog 29 #[.slice A0 l0.length c0] w fun e w' => ∃ v0_ : Value, e = .returned (v0_) ∧ Kd.R k56 56 w' w.heap.size (fun _ => True) v0_ r ∧ Below w.heap.size w w' := by
  by_cases hA0 : A0.isNone = false
  · exact impl_Pair.calls1 A0 c0 l0 r w hr0 hc0 hA0 h
  · obtain rfl : A0 = none := by
      cases A0 with
      | none => rfl
      | some a => exact absurd rfl hA0
    obtain rfl : l0 = [] := by
      cases l0 with
      | nil => rfl
      | cons x t => obtain ⟨ad, he, _⟩ := hr0.2.2 (by simp); cases he
    obtain rfl : [] = r := by simpa [impl_Pair.f] using h
    clear hA0 hr0 hc0 h; have q_ := fun (w : World) (a : Option Addr) (n c n' c' : Nat) => Lib.run_eql_slice_nil w 26 56 a n c n' c' Tryd.underlying26; go_enter Tryd.func29, Tryd.ntmps29; go_wp2; go_ret; exact ⟨_, rfl, Kd.R_nil _ _ _ _ _, Below.refl _ _⟩


end Go.Proofs.YtolhanigjmhkgadDoor.A
