/- Walks of the program's functions: each Go function's answer as a plain Lean function, and that the call comes to it. Written by a program. Conditions: those in each theorem's own head. -/
import Derived.Test.YtolhanigjmhkgaaDoorA0
import Derived.Test.YtolhanigjmhkgaaDoorA8
namespace Go.Proofs.YtolhanigjmhkgaaDoor.A
open Go.RowKit Go.Proofs.YtolhanigjmhkgaaDoorW.PrintWords Go.Proofs.YtolhanigjmhkgaaDoorW.PrintLast Go.Proofs.YtolhanigjmhkgaaDoorW.PrintMore
attribute [local go_sem] max2_int min2_int max_two min_two max_three min_three max_four min_four   -- for this text's walks alone
set_option linter.unusedVariables false
set_option linter.unusedSimpArgs false

theorem d9_1 {p : Prop} (h : p := by (try simp only [List.map_toArray, List.map_cons, List.map_nil]); first | done | rfl | (simp only [List.length_drop, List.length_take]; rfl)) : p := h
theorem d9_2 {p : Prop} (h : p := by repeat (first | (with_reducible first | exact HB.out | apply below_alloc | apply pw_below_drewN | apply below_drew1) | exact HB.out)) : p := h
theorem d9_3 {p : Prop} (h : p := by first | rfl | (simp; done) | (simp [*]; done) | (simp [ne_nil_b, eq_nil_b]; done)) : p := h
theorem c9_1 {p : Prop} (h : p := by repeat (first | (with_reducible first | exact HB.out | apply below_alloc | apply pw_below_drewN | apply below_drew1 | refine below_set ?_ GE344.out) | exact HB.out)) : p := h
theorem c9_2 {p : Prop} (h : p := by first | rfl | (simp [errW_none, errW_some] <;> rfl) | (simp [*, errW_none, errW_some] <;> rfl)) : p := h
theorem c9_3 {p : Prop} (h : p := by (with_reducible repeat (first | refine blk_drewN ?_ _ | refine blk_drew ?_ | refine blk_alloc ?_ _)); exact BK344.out) : p := h
theorem c9_4 {p : Prop} (h : p := by repeat (first | (with_reducible first | exact HB.out | apply below_alloc | apply pw_below_drewN | apply below_drew1) | exact HB.out)) : p := h
set_option maxHeartbeats 8000000
set_option maxRecDepth 100000
theorem z9c {w : World} {g : Nat} {t : TypeId} {cs : Array Value} (h : w.heap[g]? = some (.cells cs t (0, 0))) (i : Nat) {v : Value} (e : cs[i]? = some v) : w.cell? ⟨g, i, none⟩ = some v := (blk_cell h i).trans e
theorem z9f {w : World} {g : Nat} {t : TypeId} {cs : Array Value} (h : w.heap[g]? = some (.cells cs t (0, 0))) (i : Nat) : w.frozen? ⟨g, i, none⟩ = false := blk_frozen h i
theorem zm9_0 {p : Prop} (h : p := by repeat' first | (with_reducible first | apply ih0 | exact LeO.refl _ | exact LeO.none _ | refine LeO.ite ?_ ?_ | refine LeO.bind ?_ (fun _ => ?_)) | apply ih0 | exact LeO.none _ | refine LeO.ite ?_ ?_ | refine LeO.bind ?_ (fun _ => ?_)) : p := h

/-! ### impl_globalAt: function 19 -/
def impl_globalAt.f (k : Nat) (l0 : List (S35)) (a1 : ByteArray) : Option (Int) := (impl_Global__impl_globalAt_1.f k l0 a1).bind fun t336 => (some t336)
theorem impl_globalAt.mono : ∀ a0 a1 k, LeO (impl_globalAt.f k a0 a1) (impl_globalAt.f (k + 1) a0 a1) := by
  intro a0 a1 k; unfold impl_globalAt.f
  repeat' first | (with_reducible first | apply impl_Global__impl_globalAt_1.mono | exact LeO.refl _ | exact LeO.none _ | refine LeO.ite ?_ ?_ | refine LeO.bind ?_ (fun _ => ?_)) | apply impl_Global__impl_globalAt_1.mono | exact LeO.none _ | refine LeO.ite ?_ ?_ | refine LeO.bind ?_ (fun _ => ?_)
theorem impl_globalAt.calls (k : Nat) (A0 : Option Addr) (c0 : Nat) (l0 : List (S35)) (a1 : ByteArray) (r : Int) (w : World) (hr0 : Kd.C k35 w A0 l0.length l0) (hc0 : l0.length ≤ c0) (h : impl_globalAt.f k l0 a1 = some r) :
    Calls Tryd.prog 19 #[.slice A0 l0.length c0, .string a1] w fun e w' => e = .returned (.int .i64 r) ∧ Below w.heap.size w w' := by
  have hu9 := Tryd.underlying9; have HR0 := ak hr0; have HC0 := ak hc0; clear hr0 hc0; have HB := ak (Below.refl w.heap.size w); have H := h; clear h; unfold impl_globalAt.f at H; obtain ⟨t336, A3, H⟩ := zbi_ H; (try dsimp -simprocs only at H); obtain rfl := Option.some.inj H; go_enter Tryd.func19, Tryd.ntmps19
  go_wp2_with (first | ((with_reducible refine gate_dst (N := 3) rfl ?_); refine box_event ?hg (N := 3) ?hd (cs := #[.string a1]) (t := 9) ?hr ?_; (case hd => rfl); (case hg => rfl); (case hr => first | (go_simp; done) | (go_simp; rfl)); intro gb335 hg w4 hbox hb; have BK335 := ak (hbox); have GW335 := ak ((by rw [hg]; exact (below_size d9_2) : w.heap.size ≤ gb335)); have GE335 := ak ((by rw [hg]; exact (below_size d9_2) : w.heap.size ≤ gb335)); replace HB := ak (below_step d9_2 hb); clear hb hbox hg; obtain ⟨hcz5_0, hfz5_0⟩ := zx1_ BK335.out) | (go_at_call 27; (with_reducible refine (impl_Global__impl_globalAt_1.calls k _ _ l0 ⟨gb335, 0, none⟩ a1 t336 _ ?side1 ?side2 ?side3 A3.out).mono ?_); (case side1 => repeat (first | exact (Kd.C_below HR0.out HB.out) | (with_reducible refine Kd.C_alloc ?_ _) | (with_reducible refine Kd.C_drewN ?_ _) | (with_reducible refine Kd.C_drew ?_))); (case side2 => exact HC0.out); (case side3 => first | exact hcz5_0 | (refine Eq.trans ?_ hcz5_0; simp only [go_sem]) | exact ((blk_cell (by (with_reducible repeat (first | refine blk_drewN ?_ _ | refine blk_drew ?_ | refine blk_alloc ?_ _)); exact BK335.out) 0).trans rfl) | (refine Eq.trans ?_ ((blk_cell (by (with_reducible repeat (first | refine blk_drewN ?_ _ | refine blk_drew ?_ | refine blk_alloc ?_ _)); exact BK335.out) 0).trans rfl); simp only [go_sem])); rintro e w6 ⟨rfl, hb⟩; replace BK335 := zbb_ (g := gb335) (o := .cells #[.string a1] 9 (0, 0)) hb (by (with_reducible repeat (first | refine blk_drewN ?_ _ | refine blk_drew ?_ | refine blk_alloc ?_ _)); exact BK335.out); replace HB := ak (below_step (by repeat (first | (with_reducible first | exact HB.out | apply below_alloc | apply pw_below_drewN | apply below_drew1 | refine below_set ?_ GE335.out) | exact HB.out)) hb); (try clear hb)))
  go_ret; exact ⟨c9_2, by repeat (first | (with_reducible first | exact HB.out | apply below_alloc | apply pw_below_drewN | apply below_drew1 | refine below_set ?_ GE335.out) | exact HB.out)⟩

/-! ### impl_in: function 23 -/
def impl_in.f (a0 : Int) (a1 : Int) (a2 : Int) : Option (Bool) := if a1 ≤ a0 then (some (decide (a0 ≤ a2))) else (some false)
theorem impl_in.calls (a0 : Int) (a1 : Int) (a2 : Int) (r : Bool) (w : World) (h : impl_in.f a0 a1 a2 = some r) :
    Calls Tryd.prog 23 #[.int .i64 a0, .int .i64 a1, .int .i64 a2] w fun e w' => e = .returned (.bool r) ∧ Drawn0 w w' := by
  have H := h; clear h; unfold impl_in.f at H; by_cases c4 : a1 ≤ a0
  ·rw [if_pos c4] at H
   have c4b0 : decide (a1 ≤ a0) = true := decide_eq_true c4; clear c4; obtain rfl := Option.some.inj H; go_enter Tryd.func23, Tryd.ntmps23; go_wp2; go_ret; exact ⟨by first | rfl | (simp; done) | (simp [*]; done) | (simp [ne_nil_b, eq_nil_b]; done), by repeat (first | exact Drawn0.refl _ | apply Drawn0.step)⟩
  ·rw [if_neg c4] at H
   have c4b0 : decide (a1 ≤ a0) = false := decide_eq_false c4; clear c4; obtain rfl := Option.some.inj H; go_enter Tryd.func23, Tryd.ntmps23; go_wp2; go_ret; exact ⟨by first | rfl | (simp; done) | (simp [*]; done) | (simp [ne_nil_b, eq_nil_b]; done), by repeat (first | exact Drawn0.refl _ | apply Drawn0.step)⟩

/-! ### impl_isPlaced: function 34 -/
def impl_isPlaced.f (a0 : Int) : Option (Bool) := (impl_in.f a0 5 8).bind fun t337 => (some t337)
theorem impl_isPlaced.calls (a0 : Int) (r : Bool) (w : World) (h : impl_isPlaced.f a0 = some r) :
    Calls Tryd.prog 34 #[.int .i64 a0] w fun e w' => e = .returned (.bool r) ∧ Drawn0 w w' := by
  have H := h; clear h; unfold impl_isPlaced.f at H; obtain ⟨t337, A2, H⟩ := zbi_ H; (try dsimp -simprocs only at H); obtain rfl := Option.some.inj H; go_enter Tryd.func34, Tryd.ntmps34; go_wp2_with (first | ((with_reducible refine gate_callee (f := 23) rfl ?_); refine zgo_ 4 Tryd.func23 #[.int .i64 a0, .int .i64 5, .int .i64 8] ?_ (e := d9_1); (with_reducible refine (impl_in.calls a0 5 8 t337 _ A2.out).mono ?_); rintro e w' ⟨rfl, ⟨nd, rfl⟩⟩; refine ⟨_, rfl, ?_⟩)); go_ret; exact ⟨by first | rfl | (simp; done) | (simp [*]; done) | (simp [ne_nil_b, eq_nil_b]; done), by repeat (first | exact Drawn0.refl _ | apply Drawn0.step)⟩

/-! ### strings_Trim: function 44 (by hand) -/
def strings_Trim.f (a0 : ByteArray) (a1 : ByteArray) : Option (ByteArray) := if a0.size ≤ 9223372036854775807 ∧ a1.size < 4294967281 ∧ (a1.data.toList.all fun b => b.toNat < 128) = true then some ⟨(Lib.trimS a0.data.toList a1.data.toList).toArray⟩ else none
theorem strings_Trim.calls (a0 : ByteArray) (a1 : ByteArray) (r : ByteArray) (w : World) (h : strings_Trim.f a0 a1 = some r) :
    Calls Tryd.prog 44 #[.string a0, .string a1] w fun e w' => e = .returned (.string r) ∧ Below w.heap.size w w' := by
  unfold strings_Trim.f at h; by_cases c : a0.size ≤ 9223372036854775807 ∧ a1.size < 4294967281 ∧ (a1.data.toList.all fun b => b.toNat < 128) = true
  · rw [if_pos c] at h
    obtain rfl := Option.some.inj h
    have hcon := Go.Proofs.Any.strings_Trim_laid Tryd.lays160 (by kernel_rfl) a0 a1 w c.1 c.2.1 (fun j b hb => by
      have := List.all_eq_true.mp c.2.2 b (List.mem_of_getElem? hb)
      simpa using this)
    exact hcon
  · rw [if_neg c] at h
    exact absurd h (by simp)


/-! ### impl_SymFault: function 32 -/
def impl_SymFault.f (a0 : ByteArray) : Option (Int) := (impl_in.f (a0.size : Int) 1 12).bind fun t338 => (if t338 = true then ((strings_Trim.f a0 (⟨#[97, 98, 99, 100, 101, 102, 103, 104, 105, 106, 107, 108, 109, 110, 111, 112, 113, 114, 115, 116, 117, 118, 119, 120, 121, 122, 43, 45, 42, 47, 60, 61, 63, 33]⟩ : ByteArray)).bind fun t339 => (if t339.toList = ([] : List UInt8) then (some 0) else (some 5))) else (some 5))
theorem impl_SymFault.calls (a0 : ByteArray) (r : Int) (w : World) (h : impl_SymFault.f a0 = some r) :
    Calls Tryd.prog 32 #[.string a0] w fun e w' => e = .returned (.int .i64 r) ∧ Below w.heap.size w w' := by
  have HB := ak (Below.refl w.heap.size w); have H := h; clear h; unfold impl_SymFault.f at H; obtain ⟨t338, A2, H⟩ := zbi_ H; (try dsimp -simprocs only at H); by_cases c3 : t338 = true
  ·subst c3
   rw [if_pos rfl] at H; obtain ⟨t339, A4, H⟩ := zbi_ H; (try dsimp -simprocs only at H); by_cases c5 : t339.toList = ([] : List UInt8)
   ·rw [if_pos c5] at H
    obtain ⟨c5b0, c5b1⟩ := zbt_ c5; clear c5; obtain rfl := Option.some.inj H; go_enter Tryd.func32, Tryd.ntmps32; go_wp2_with (first | ((with_reducible refine gate_callee (f := 23) rfl ?_); refine zgo_ 5 Tryd.func23 #[.int .i64 (a0.size : Int), .int .i64 1, .int .i64 12] ?_ (e := d9_1); (with_reducible refine (impl_in.calls (a0.size : Int) 1 12 true _ A2.out).mono ?_); rintro e w' ⟨rfl, ⟨nd, rfl⟩⟩; refine ⟨_, rfl, ?_⟩) | (go_at_call 44; (with_reducible refine (strings_Trim.calls a0 (⟨#[97, 98, 99, 100, 101, 102, 103, 104, 105, 106, 107, 108, 109, 110, 111, 112, 113, 114, 115, 116, 117, 118, 119, 120, 121, 122, 43, 45, 42, 47, 60, 61, 63, 33]⟩ : ByteArray) t339 _ A4.out).mono ?_); rintro e w6 ⟨rfl, hb⟩; replace HB := ak (below_step d9_2 hb); (try clear hb))); go_ret; exact ⟨c9_2, c9_4⟩
   ·rw [if_neg c5] at H
    obtain ⟨c5b0, c5b1⟩ := zbf_ c5; obtain rfl := Option.some.inj H; go_enter Tryd.func32, Tryd.ntmps32; go_wp2_with (first | ((with_reducible refine gate_callee (f := 23) rfl ?_); refine zgo_ 5 Tryd.func23 #[.int .i64 (a0.size : Int), .int .i64 1, .int .i64 12] ?_ (e := d9_1); (with_reducible refine (impl_in.calls (a0.size : Int) 1 12 true _ A2.out).mono ?_); rintro e w' ⟨rfl, ⟨nd, rfl⟩⟩; refine ⟨_, rfl, ?_⟩) | (go_at_call 44; (with_reducible refine (strings_Trim.calls a0 (⟨#[97, 98, 99, 100, 101, 102, 103, 104, 105, 106, 107, 108, 109, 110, 111, 112, 113, 114, 115, 116, 117, 118, 119, 120, 121, 122, 43, 45, 42, 47, 60, 61, 63, 33]⟩ : ByteArray) t339 _ A4.out).mono ?_); rintro e w7 ⟨rfl, hb⟩; replace HB := ak (below_step d9_2 hb); (try clear hb))); go_ret; exact ⟨c9_2, c9_4⟩
  ·replace c3 := Bool.eq_false_iff.mpr c3
   subst c3; rw [if_neg (show ¬ (false = true) by decide)] at H; obtain rfl := Option.some.inj H; go_enter Tryd.func32, Tryd.ntmps32; go_wp2_with (first | ((with_reducible refine gate_callee (f := 23) rfl ?_); refine zgo_ 5 Tryd.func23 #[.int .i64 (a0.size : Int), .int .i64 1, .int .i64 12] ?_ (e := d9_1); (with_reducible refine (impl_in.calls (a0.size : Int) 1 12 false _ A2.out).mono ?_); rintro e w' ⟨rfl, ⟨nd, rfl⟩⟩; refine ⟨_, rfl, ?_⟩)); go_ret; exact ⟨c9_2, c9_4⟩

/-! ### impl_NumFault: function 46 -/
def impl_NumFault.f (a0 : Int) : Option (Int) := (impl_in.f a0 (-1000000000) 1000000000).bind fun t340 => (if t340 = true then (some 0) else (some 3))
theorem impl_NumFault.calls (a0 : Int) (r : Int) (w : World) (h : impl_NumFault.f a0 = some r) :
    Calls Tryd.prog 46 #[.int .i64 a0] w fun e w' => e = .returned (.int .i64 r) ∧ Drawn0 w w' := by
  have H := h; clear h; unfold impl_NumFault.f at H; obtain ⟨t340, A2, H⟩ := zbi_ H; (try dsimp -simprocs only at H); by_cases c3 : t340 = true
  ·subst c3
   rw [if_pos rfl] at H; obtain rfl := Option.some.inj H; go_enter Tryd.func46, Tryd.ntmps46; go_wp2_with (first | ((with_reducible refine gate_callee (f := 23) rfl ?_); refine zgo_ 4 Tryd.func23 #[.int .i64 a0, .int .i64 (-1000000000), .int .i64 1000000000] ?_ (e := d9_1); (with_reducible refine (impl_in.calls a0 (-1000000000) 1000000000 true _ A2.out).mono ?_); rintro e w' ⟨rfl, ⟨nd, rfl⟩⟩; refine ⟨_, rfl, ?_⟩)); go_ret; exact ⟨by first | rfl | (simp; done) | (simp [*]; done) | (simp [ne_nil_b, eq_nil_b]; done), by repeat (first | exact Drawn0.refl _ | apply Drawn0.step)⟩
  ·replace c3 := Bool.eq_false_iff.mpr c3
   subst c3; rw [if_neg (show ¬ (false = true) by decide)] at H; obtain rfl := Option.some.inj H; go_enter Tryd.func46, Tryd.ntmps46; go_wp2_with (first | ((with_reducible refine gate_callee (f := 23) rfl ?_); refine zgo_ 4 Tryd.func23 #[.int .i64 a0, .int .i64 (-1000000000), .int .i64 1000000000] ?_ (e := d9_1); (with_reducible refine (impl_in.calls a0 (-1000000000) 1000000000 false _ A2.out).mono ?_); rintro e w' ⟨rfl, ⟨nd, rfl⟩⟩; refine ⟨_, rfl, ?_⟩)); go_ret; exact ⟨by first | rfl | (simp; done) | (simp [*]; done) | (simp [ne_nil_b, eq_nil_b]; done), by repeat (first | exact Drawn0.refl _ | apply Drawn0.step)⟩

/-! ### impl_kindFault: function 35 -/
def impl_kindFault.f (a0 : Int) (a1 : Int) (a2 : Int) (a3 : Int) (a4 : Int) (a5 : ByteArray) : Option (Int) := if a0 = a1 then ((impl_NumFault.f a4).bind fun t341 => (some t341)) else (if a0 = a3 then ((impl_in.f a4 0 1).bind fun t342 => (if t342 = true then (some 0) else (some 3))) else (if a0 = a2 then ((impl_SymFault.f a5).bind fun t343 => (some t343)) else (some 0)))
theorem impl_kindFault.calls (a0 : Int) (a1 : Int) (a2 : Int) (a3 : Int) (a4 : Int) (a5 : ByteArray) (r : Int) (w : World) (h : impl_kindFault.f a0 a1 a2 a3 a4 a5 = some r) :
    Calls Tryd.prog 35 #[.int .i64 a0, .int .i64 a1, .int .i64 a2, .int .i64 a3, .int .i64 a4, .string a5] w fun e w' => e = .returned (.int .i64 r) ∧ Below w.heap.size w w' := by
  have HB := ak (Below.refl w.heap.size w); have H := h; clear h; unfold impl_kindFault.f at H; by_cases c7 : a0 = a1
  ·rw [if_pos c7] at H
   obtain ⟨c7b0, c7b1⟩ := zbt_ c7; clear c7; obtain ⟨t341, A8, H⟩ := zbi_ H; (try dsimp -simprocs only at H); obtain rfl := Option.some.inj H; go_enter Tryd.func35, Tryd.ntmps35; go_wp2_with (first | ((with_reducible refine gate_callee (f := 46) rfl ?_); refine zgo_ 18 Tryd.func46 #[.int .i64 a4] ?_ (e := d9_1); (with_reducible refine (impl_NumFault.calls a4 t341 _ A8.out).mono ?_); rintro e w' ⟨rfl, ⟨nd, rfl⟩⟩; refine ⟨_, rfl, ?_⟩)); go_ret; exact ⟨c9_2, c9_4⟩
  ·rw [if_neg c7] at H
   obtain ⟨c7b0, c7b1⟩ := zbf_ c7; by_cases c9 : a0 = a3
   ·rw [if_pos c9] at H
    obtain ⟨c9b0, c9b1⟩ := zbt_ c9; clear c9; obtain ⟨t342, A10, H⟩ := zbi_ H; (try dsimp -simprocs only at H); by_cases c11 : t342 = true
    ·subst c11
     rw [if_pos rfl] at H; obtain rfl := Option.some.inj H; go_enter Tryd.func35, Tryd.ntmps35; go_wp2_with (first | ((with_reducible refine gate_callee (f := 23) rfl ?_); refine zgo_ 23 Tryd.func23 #[.int .i64 a4, .int .i64 0, .int .i64 1] ?_ (e := d9_1); (with_reducible refine (impl_in.calls a4 0 1 true _ A10.out).mono ?_); rintro e w' ⟨rfl, ⟨nd, rfl⟩⟩; refine ⟨_, rfl, ?_⟩)); go_ret; exact ⟨c9_2, c9_4⟩
    ·replace c11 := Bool.eq_false_iff.mpr c11
     subst c11; rw [if_neg (show ¬ (false = true) by decide)] at H; obtain rfl := Option.some.inj H; go_enter Tryd.func35, Tryd.ntmps35; go_wp2_with (first | ((with_reducible refine gate_callee (f := 23) rfl ?_); refine zgo_ 23 Tryd.func23 #[.int .i64 a4, .int .i64 0, .int .i64 1] ?_ (e := d9_1); (with_reducible refine (impl_in.calls a4 0 1 false _ A10.out).mono ?_); rintro e w' ⟨rfl, ⟨nd, rfl⟩⟩; refine ⟨_, rfl, ?_⟩)); go_ret; exact ⟨c9_2, c9_4⟩
   ·rw [if_neg c9] at H
    obtain ⟨c9b0, c9b1⟩ := zbf_ c9; by_cases c12 : a0 = a2
    ·rw [if_pos c12] at H
     obtain ⟨c12b0, c12b1⟩ := zbt_ c12; clear c12; obtain ⟨t343, A13, H⟩ := zbi_ H; (try dsimp -simprocs only at H); obtain rfl := Option.some.inj H; go_enter Tryd.func35, Tryd.ntmps35; go_wp2_with (first | ((with_reducible refine gate_callee (f := 32) rfl ?_); refine zgo_ 29 Tryd.func32 #[.string a5] ?_ (e := d9_1); (with_reducible refine (impl_SymFault.calls a5 t343 _ A13.out).mono ?_); rintro e w14 ⟨rfl, hb⟩; refine ⟨_, rfl, ?_⟩; replace HB := ak (below_step d9_2 hb); (try clear hb))); go_ret; exact ⟨c9_2, c9_4⟩
    ·rw [if_neg c12] at H
     obtain ⟨c12b0, c12b1⟩ := zbf_ c12; obtain rfl := Option.some.inj H; go_enter Tryd.func35, Tryd.ntmps35; go_wp2; go_ret; exact ⟨c9_2, c9_4⟩

/-! ### impl_ValueFault: function 24 -/
def impl_ValueFault.j0 : Nat → Bool → Int → Int → ByteArray → Option (Int)
  | 0, _, _, _, _ => none
  | k + 1, x3, x345000, x345001, x345002 => if x3 = true then (some 1) else ((impl_isPlaced.f x345000).bind fun t347 => (if t347 = true then ((impl_in.f x345001 0 99999).bind fun t348 => (if t348 = true then ((impl_kindFault.f x345000 1 4 2 x345001 x345002).bind fun t349 => (some t349)) else (some 3))) else ((impl_kindFault.f x345000 1 4 2 x345001 x345002).bind fun t350 => (some t350))))
def impl_ValueFault.f (k : Nat) (a0_0 : Int) (a0_1 : Int) (a0_2 : ByteArray) : Option (Int) := (impl_in.f a0_0 1 9).bind fun t345 => (if t345 = true then (if a0_1 = 0 then (if a0_2.toList = ([] : List UInt8) then (impl_ValueFault.j0 k false a0_0 a0_1 a0_2) else (impl_ValueFault.j0 k (a0_0 != 4) a0_0 a0_1 a0_2)) else ((impl_isPlaced.f a0_0).bind fun t346 => (if t346 = true then (if a0_2.toList = ([] : List UInt8) then (impl_ValueFault.j0 k false a0_0 a0_1 a0_2) else (impl_ValueFault.j0 k (a0_0 != 4) a0_0 a0_1 a0_2)) else (if a0_0 = 1 then (if a0_2.toList = ([] : List UInt8) then (impl_ValueFault.j0 k false a0_0 a0_1 a0_2) else (impl_ValueFault.j0 k (a0_0 != 4) a0_0 a0_1 a0_2)) else (if a0_0 = 2 then (if a0_2.toList = ([] : List UInt8) then (impl_ValueFault.j0 k false a0_0 a0_1 a0_2) else (impl_ValueFault.j0 k (a0_0 != 4) a0_0 a0_1 a0_2)) else (impl_ValueFault.j0 k true a0_0 a0_1 a0_2)))))) else (impl_ValueFault.j0 k true a0_0 a0_1 a0_2))
theorem impl_ValueFault.mono_l : ∀ k, (∀ y0 y1 y2 y3, LeO (impl_ValueFault.j0 k y0 y1 y2 y3) (impl_ValueFault.j0 (k + 1) y0 y1 y2 y3))
  | 0 => fun _ _ _ _ r h => by simp [impl_ValueFault.j0] at h
  | k + 1 => by
    have ih0 := impl_ValueFault.mono_l k
    · intro y0 y1 y2 y3
      unfold impl_ValueFault.j0
      exact zm9_0
theorem impl_ValueFault.mono : ∀ a0 a1 a2 k, LeO (impl_ValueFault.f k a0 a1 a2) (impl_ValueFault.f (k + 1) a0 a1 a2) := by
  intro a0 a1 a2 k; have ih0 := impl_ValueFault.mono_l k; unfold impl_ValueFault.f
  exact zm9_0
theorem impl_ValueFault.calls (k : Nat) (a0_0 : Int) (a0_1 : Int) (a0_2 : ByteArray) (r : Int) (w : World) (h : impl_ValueFault.f k a0_0 a0_1 a0_2 = some r) :
    Calls Tryd.prog 24 #[.agg #[.int .i64 a0_0, .int .i64 a0_1, .string a0_2]] w fun e w' => e = .returned (.int .i64 r) ∧ Below w.heap.size w w' := by
  have hu26 := Tryd.underlying26; have HB := ak (Below.refl w.heap.size w); have H := h; clear h; unfold impl_ValueFault.f at H; have HC2 := ak H; clear H; go_enter Tryd.func24, Tryd.ntmps24; go_upto_region 1 with (first | ((with_reducible refine gate_dst (N := 1) rfl ?_); refine box_event ?hg (N := 1) ?hd (cs := #[.int .i64 a0_0, .int .i64 a0_1, .string a0_2]) (t := 26) ?hr ?_; (case hd => rfl); (case hg => rfl); (case hr => first | (go_simp; done) | (go_simp; rfl)); intro gb344 hg w3 hbox hb; have BK344 := ak (hbox); have GW344 := ak ((by rw [hg]; exact (below_size d9_2) : w.heap.size ≤ gb344)); have GE344 := ak ((by rw [hg]; exact (below_size d9_2) : w.heap.size ≤ gb344)); replace HB := ak (below_step d9_2 hb); clear hb hbox hg))
  (try simp only [Act.put, List.setIfInBounds_toArray, List.set_cons_zero, List.set_cons_succ])
  go_cut [3] (fun v3 wc => ∃ (kq : Nat) (x3_1 : Bool), v3 = .bool x3_1 ∧ Aside0 (impl_ValueFault.j0 kq x3_1 a0_0 a0_1 a0_2 = some r) ∧ Aside0 (kq ≤ k) ∧ Aside0 (wc.heap[gb344]? = some (.cells #[.int .i64 a0_0, .int .i64 a0_1, .string a0_2] 26 (0, 0))) ∧ Aside0 (Below w.heap.size w wc))
  case first =>
   have H := HC2.out; clear HC2; obtain ⟨t345, A4, H⟩ := zbi_ H; (try dsimp -simprocs only at H); by_cases c5 : t345 = true
   ·subst c5
    rw [if_pos rfl] at H; by_cases c6 : a0_1 = 0
    ·rw [if_pos c6] at H
     obtain ⟨c6b0, c6b1⟩ := zbt_ c6; clear c6
     (first | rw [c6b0] | (simp only [i64_w, i32_w]; rw [c6b0]) | skip)
     by_cases c7 : a0_2.toList = ([] : List UInt8)
     ·rw [if_pos c7] at H
      obtain ⟨c7b0, c7b1⟩ := zbt_ c7; clear c7; have H' := ak H; clear H; obtain ⟨hcz8_0, hcz8_1, hcz8_2, hfz8_0, hfz8_1, hfz8_2⟩ := zx3_ BK344.out; go_wp2_with (first | ((with_reducible refine gate_callee (f := 23) rfl ?_); refine zgo_ 6 Tryd.func23 #[.int .i64 a0_0, .int .i64 1, .int .i64 9] ?_ (e := d9_1); (with_reducible refine (impl_in.calls a0_0 1 9 true _ A4.out).mono ?_); rintro e w' ⟨rfl, ⟨nd, rfl⟩⟩; refine ⟨_, rfl, ?_⟩)); go_meet
      case rel => exact ⟨_, (false), d9_3, H', ⟨by first | exact Nat.le_refl _ | omega⟩, ⟨c9_3⟩, ⟨c9_1⟩⟩
     ·rw [if_neg c7] at H
      obtain ⟨c7b0, c7b1⟩ := zbf_ c7; have H' := ak H; clear H; obtain ⟨hcz9_0, hcz9_1, hcz9_2, hfz9_0, hfz9_1, hfz9_2⟩ := zx3_ BK344.out; go_wp2_with (first | ((with_reducible refine gate_callee (f := 23) rfl ?_); refine zgo_ 6 Tryd.func23 #[.int .i64 a0_0, .int .i64 1, .int .i64 9] ?_ (e := d9_1); (with_reducible refine (impl_in.calls a0_0 1 9 true _ A4.out).mono ?_); rintro e w' ⟨rfl, ⟨nd, rfl⟩⟩; refine ⟨_, rfl, ?_⟩)); go_meet
      case rel => exact ⟨_, ((a0_0 != 4)), d9_3, H', ⟨by first | exact Nat.le_refl _ | omega⟩, ⟨c9_3⟩, ⟨c9_1⟩⟩
    ·rw [if_neg c6] at H
     obtain ⟨c6b0, c6b1⟩ := zbf_ c6
     (first | rw [c6b0] | (simp only [i64_w, i32_w]; rw [c6b0]) | skip)
     obtain ⟨t346, A10, H⟩ := zbi_ H; (try dsimp -simprocs only at H); by_cases c11 : t346 = true
     ·subst c11
      rw [if_pos rfl] at H; by_cases c12 : a0_2.toList = ([] : List UInt8)
      ·rw [if_pos c12] at H
       obtain ⟨c12b0, c12b1⟩ := zbt_ c12; clear c12; have H' := ak H; clear H; obtain ⟨hcz13_0, hcz13_1, hcz13_2, hfz13_0, hfz13_1, hfz13_2⟩ := zx3_ BK344.out; go_wp2_with (first | ((with_reducible refine gate_callee (f := 23) rfl ?_); refine zgo_ 6 Tryd.func23 #[.int .i64 a0_0, .int .i64 1, .int .i64 9] ?_ (e := d9_1); (with_reducible refine (impl_in.calls a0_0 1 9 true _ A4.out).mono ?_); rintro e w' ⟨rfl, ⟨nd, rfl⟩⟩; refine ⟨_, rfl, ?_⟩) | (go_at_call 34; (with_reducible refine (impl_isPlaced.calls a0_0 true _ A10.out).mono ?_); rintro e w' ⟨rfl, ⟨nd, rfl⟩⟩)); go_meet
       case rel => exact ⟨_, (false), d9_3, H', ⟨by first | exact Nat.le_refl _ | omega⟩, ⟨c9_3⟩, ⟨c9_1⟩⟩
      ·rw [if_neg c12] at H
       obtain ⟨c12b0, c12b1⟩ := zbf_ c12; have H' := ak H; clear H; obtain ⟨hcz14_0, hcz14_1, hcz14_2, hfz14_0, hfz14_1, hfz14_2⟩ := zx3_ BK344.out; go_wp2_with (first | ((with_reducible refine gate_callee (f := 23) rfl ?_); refine zgo_ 6 Tryd.func23 #[.int .i64 a0_0, .int .i64 1, .int .i64 9] ?_ (e := d9_1); (with_reducible refine (impl_in.calls a0_0 1 9 true _ A4.out).mono ?_); rintro e w' ⟨rfl, ⟨nd, rfl⟩⟩; refine ⟨_, rfl, ?_⟩) | (go_at_call 34; (with_reducible refine (impl_isPlaced.calls a0_0 true _ A10.out).mono ?_); rintro e w' ⟨rfl, ⟨nd, rfl⟩⟩)); go_meet
       case rel => exact ⟨_, ((a0_0 != 4)), d9_3, H', ⟨by first | exact Nat.le_refl _ | omega⟩, ⟨c9_3⟩, ⟨c9_1⟩⟩
     ·replace c11 := Bool.eq_false_iff.mpr c11
      subst c11; rw [if_neg (show ¬ (false = true) by decide)] at H; by_cases c15 : a0_0 = 1
      ·rw [if_pos c15] at H
       obtain ⟨c15b0, c15b1⟩ := zbt_ c15; clear c15; by_cases c16 : a0_2.toList = ([] : List UInt8)
       ·rw [if_pos c16] at H
        obtain ⟨c16b0, c16b1⟩ := zbt_ c16; clear c16; have H' := ak H; clear H; obtain ⟨hcz17_0, hcz17_1, hcz17_2, hfz17_0, hfz17_1, hfz17_2⟩ := zx3_ BK344.out; go_wp2_with (first | ((with_reducible refine gate_callee (f := 23) rfl ?_); refine zgo_ 6 Tryd.func23 #[.int .i64 a0_0, .int .i64 1, .int .i64 9] ?_ (e := d9_1); (with_reducible refine (impl_in.calls a0_0 1 9 true _ A4.out).mono ?_); rintro e w' ⟨rfl, ⟨nd, rfl⟩⟩; refine ⟨_, rfl, ?_⟩) | (go_at_call 34; (with_reducible refine (impl_isPlaced.calls a0_0 false _ A10.out).mono ?_); rintro e w' ⟨rfl, ⟨nd, rfl⟩⟩)); go_meet
        case rel => exact ⟨_, (false), d9_3, H', ⟨by first | exact Nat.le_refl _ | omega⟩, ⟨c9_3⟩, ⟨c9_1⟩⟩
       ·rw [if_neg c16] at H
        obtain ⟨c16b0, c16b1⟩ := zbf_ c16; have H' := ak H; clear H; obtain ⟨hcz18_0, hcz18_1, hcz18_2, hfz18_0, hfz18_1, hfz18_2⟩ := zx3_ BK344.out; go_wp2_with (first | ((with_reducible refine gate_callee (f := 23) rfl ?_); refine zgo_ 6 Tryd.func23 #[.int .i64 a0_0, .int .i64 1, .int .i64 9] ?_ (e := d9_1); (with_reducible refine (impl_in.calls a0_0 1 9 true _ A4.out).mono ?_); rintro e w' ⟨rfl, ⟨nd, rfl⟩⟩; refine ⟨_, rfl, ?_⟩) | (go_at_call 34; (with_reducible refine (impl_isPlaced.calls a0_0 false _ A10.out).mono ?_); rintro e w' ⟨rfl, ⟨nd, rfl⟩⟩)); go_meet
        case rel => exact ⟨_, ((a0_0 != 4)), d9_3, H', ⟨by first | exact Nat.le_refl _ | omega⟩, ⟨c9_3⟩, ⟨c9_1⟩⟩
      ·rw [if_neg c15] at H
       obtain ⟨c15b0, c15b1⟩ := zbf_ c15; by_cases c19 : a0_0 = 2
       ·rw [if_pos c19] at H
        obtain ⟨c19b0, c19b1⟩ := zbt_ c19; clear c19; by_cases c20 : a0_2.toList = ([] : List UInt8)
        ·rw [if_pos c20] at H
         obtain ⟨c20b0, c20b1⟩ := zbt_ c20; clear c20; have H' := ak H; clear H; obtain ⟨hcz21_0, hcz21_1, hcz21_2, hfz21_0, hfz21_1, hfz21_2⟩ := zx3_ BK344.out; go_wp2_with (first | ((with_reducible refine gate_callee (f := 23) rfl ?_); refine zgo_ 6 Tryd.func23 #[.int .i64 a0_0, .int .i64 1, .int .i64 9] ?_ (e := d9_1); (with_reducible refine (impl_in.calls a0_0 1 9 true _ A4.out).mono ?_); rintro e w' ⟨rfl, ⟨nd, rfl⟩⟩; refine ⟨_, rfl, ?_⟩) | (go_at_call 34; (with_reducible refine (impl_isPlaced.calls a0_0 false _ A10.out).mono ?_); rintro e w' ⟨rfl, ⟨nd, rfl⟩⟩)); go_meet
         case rel => exact ⟨_, (false), d9_3, H', ⟨by first | exact Nat.le_refl _ | omega⟩, ⟨c9_3⟩, ⟨c9_1⟩⟩
        ·rw [if_neg c20] at H
         obtain ⟨c20b0, c20b1⟩ := zbf_ c20; have H' := ak H; clear H; obtain ⟨hcz22_0, hcz22_1, hcz22_2, hfz22_0, hfz22_1, hfz22_2⟩ := zx3_ BK344.out; go_wp2_with (first | ((with_reducible refine gate_callee (f := 23) rfl ?_); refine zgo_ 6 Tryd.func23 #[.int .i64 a0_0, .int .i64 1, .int .i64 9] ?_ (e := d9_1); (with_reducible refine (impl_in.calls a0_0 1 9 true _ A4.out).mono ?_); rintro e w' ⟨rfl, ⟨nd, rfl⟩⟩; refine ⟨_, rfl, ?_⟩) | (go_at_call 34; (with_reducible refine (impl_isPlaced.calls a0_0 false _ A10.out).mono ?_); rintro e w' ⟨rfl, ⟨nd, rfl⟩⟩)); go_meet
         case rel => exact ⟨_, ((a0_0 != 4)), d9_3, H', ⟨by first | exact Nat.le_refl _ | omega⟩, ⟨c9_3⟩, ⟨c9_1⟩⟩
       ·rw [if_neg c19] at H
        obtain ⟨c19b0, c19b1⟩ := zbf_ c19; have H' := ak H; clear H; obtain ⟨hcz23_0, hcz23_1, hcz23_2, hfz23_0, hfz23_1, hfz23_2⟩ := zx3_ BK344.out; go_wp2_with (first | ((with_reducible refine gate_callee (f := 23) rfl ?_); refine zgo_ 6 Tryd.func23 #[.int .i64 a0_0, .int .i64 1, .int .i64 9] ?_ (e := d9_1); (with_reducible refine (impl_in.calls a0_0 1 9 true _ A4.out).mono ?_); rintro e w' ⟨rfl, ⟨nd, rfl⟩⟩; refine ⟨_, rfl, ?_⟩) | (go_at_call 34; (with_reducible refine (impl_isPlaced.calls a0_0 false _ A10.out).mono ?_); rintro e w' ⟨rfl, ⟨nd, rfl⟩⟩)); go_meet
        case rel => exact ⟨_, (true), d9_3, H', ⟨by first | exact Nat.le_refl _ | omega⟩, ⟨c9_3⟩, ⟨c9_1⟩⟩
   ·replace c5 := Bool.eq_false_iff.mpr c5
    subst c5; rw [if_neg (show ¬ (false = true) by decide)] at H; have H' := ak H; clear H; obtain ⟨hcz24_0, hcz24_1, hcz24_2, hfz24_0, hfz24_1, hfz24_2⟩ := zx3_ BK344.out; go_wp2_with (first | ((with_reducible refine gate_callee (f := 23) rfl ?_); refine zgo_ 6 Tryd.func23 #[.int .i64 a0_0, .int .i64 1, .int .i64 9] ?_ (e := d9_1); (with_reducible refine (impl_in.calls a0_0 1 9 false _ A4.out).mono ?_); rintro e w' ⟨rfl, ⟨nd, rfl⟩⟩; refine ⟨_, rfl, ?_⟩)); go_meet
    case rel => exact ⟨_, (true), d9_3, H', ⟨by first | exact Nat.le_refl _ | omega⟩, ⟨c9_3⟩, ⟨c9_1⟩⟩
  case rest =>
   clear HC2
   (try clear c2); (try clear c24)
   obtain ⟨kq, x3_1, rfl, HA, HJ1, BK344, HB⟩ := hcut
   cases kq with
   | zero => exact absurd HA.out (by simp [impl_ValueFault.j0])
   | succ kj1 =>
    have H := HA.out; clear HA; simp only [impl_ValueFault.j0] at H; by_cases c25 : x3_1 = true
    ·subst c25
     rw [if_pos rfl] at H; obtain rfl := Option.some.inj H; go_wp2; go_ret; exact ⟨c9_2, c9_1⟩
    ·replace c25 := Bool.eq_false_iff.mpr c25
     subst c25; rw [if_neg (show ¬ (false = true) by decide)] at H; obtain ⟨t347, A26, H⟩ := zbi_ H; (try dsimp -simprocs only at H); by_cases c27 : t347 = true
     ·subst c27
      rw [if_pos rfl] at H; obtain ⟨t348, A28, H⟩ := zbi_ H; (try dsimp -simprocs only at H); by_cases c29 : t348 = true
      ·subst c29
       rw [if_pos rfl] at H; obtain ⟨t349, A30, H⟩ := zbi_ H; (try dsimp -simprocs only at H); obtain rfl := Option.some.inj H; obtain ⟨hcz31_0, hcz31_1, hcz31_2, hfz31_0, hfz31_1, hfz31_2⟩ := zx3_ BK344.out
       go_wp2_with (first | ((with_reducible refine gate_callee (f := 34) rfl ?_); refine zgo_ 42 Tryd.func34 #[.int .i64 a0_0] ?_ (e := d9_1); (with_reducible refine (impl_isPlaced.calls a0_0 true _ A26.out).mono ?_); rintro e w' ⟨rfl, ⟨nd, rfl⟩⟩; refine ⟨_, rfl, ?_⟩) | (go_at_call 23; (with_reducible refine (impl_in.calls a0_1 0 99999 true _ A28.out).mono ?_); rintro e w' ⟨rfl, ⟨nd, rfl⟩⟩) | ((with_reducible refine gate_callee (f := 35) rfl ?_); refine zgo_ 55 Tryd.func35 #[.int .i64 a0_0, .int .i64 1, .int .i64 4, .int .i64 2, .int .i64 a0_1, .string a0_2] ?_ (e := d9_1); (with_reducible refine (impl_kindFault.calls a0_0 1 4 2 a0_1 a0_2 t349 _ A30.out).mono ?_); rintro e w32 ⟨rfl, hb⟩; refine ⟨_, rfl, ?_⟩; replace BK344 := zbb_ (g := gb344) (o := .cells #[.int .i64 a0_0, .int .i64 a0_1, .string a0_2] 26 (0, 0)) hb (by (with_reducible repeat (first | refine blk_drewN ?_ _ | refine blk_drew ?_ | refine blk_alloc ?_ _)); exact BK344.out); replace HB := ak (below_step (by repeat (first | (with_reducible first | exact HB.out | apply below_alloc | apply pw_below_drewN | apply below_drew1 | refine below_set ?_ GE344.out) | exact HB.out)) hb); (try clear hb))); go_ret; exact ⟨c9_2, c9_1⟩
      ·replace c29 := Bool.eq_false_iff.mpr c29
       subst c29; rw [if_neg (show ¬ (false = true) by decide)] at H; obtain rfl := Option.some.inj H; obtain ⟨hcz33_0, hcz33_1, hcz33_2, hfz33_0, hfz33_1, hfz33_2⟩ := zx3_ BK344.out; go_wp2_with (first | ((with_reducible refine gate_callee (f := 34) rfl ?_); refine zgo_ 42 Tryd.func34 #[.int .i64 a0_0] ?_ (e := d9_1); (with_reducible refine (impl_isPlaced.calls a0_0 true _ A26.out).mono ?_); rintro e w' ⟨rfl, ⟨nd, rfl⟩⟩; refine ⟨_, rfl, ?_⟩) | (go_at_call 23; (with_reducible refine (impl_in.calls a0_1 0 99999 false _ A28.out).mono ?_); rintro e w' ⟨rfl, ⟨nd, rfl⟩⟩)); go_ret; exact ⟨c9_2, c9_1⟩
     ·replace c27 := Bool.eq_false_iff.mpr c27
      subst c27; rw [if_neg (show ¬ (false = true) by decide)] at H; obtain ⟨t350, A34, H⟩ := zbi_ H; (try dsimp -simprocs only at H); obtain rfl := Option.some.inj H; obtain ⟨hcz35_0, hcz35_1, hcz35_2, hfz35_0, hfz35_1, hfz35_2⟩ := zx3_ BK344.out
      go_wp2_with (first | ((with_reducible refine gate_callee (f := 34) rfl ?_); refine zgo_ 42 Tryd.func34 #[.int .i64 a0_0] ?_ (e := d9_1); (with_reducible refine (impl_isPlaced.calls a0_0 false _ A26.out).mono ?_); rintro e w' ⟨rfl, ⟨nd, rfl⟩⟩; refine ⟨_, rfl, ?_⟩) | ((with_reducible refine gate_callee (f := 35) rfl ?_); refine zgo_ 55 Tryd.func35 #[.int .i64 a0_0, .int .i64 1, .int .i64 4, .int .i64 2, .int .i64 a0_1, .string a0_2] ?_ (e := d9_1); (with_reducible refine (impl_kindFault.calls a0_0 1 4 2 a0_1 a0_2 t350 _ A34.out).mono ?_); rintro e w36 ⟨rfl, hb⟩; refine ⟨_, rfl, ?_⟩; replace BK344 := zbb_ (g := gb344) (o := .cells #[.int .i64 a0_0, .int .i64 a0_1, .string a0_2] 26 (0, 0)) hb (by (with_reducible repeat (first | refine blk_drewN ?_ _ | refine blk_drew ?_ | refine blk_alloc ?_ _)); exact BK344.out); replace HB := ak (below_step (by repeat (first | (with_reducible first | exact HB.out | apply below_alloc | apply pw_below_drewN | apply below_drew1 | refine below_set ?_ GE344.out) | exact HB.out)) hb); (try clear hb))); go_ret; exact ⟨c9_2, c9_1⟩

end Go.Proofs.YtolhanigjmhkgaaDoor.A
