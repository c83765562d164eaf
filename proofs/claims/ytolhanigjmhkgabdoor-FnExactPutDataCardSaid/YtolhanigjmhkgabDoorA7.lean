/- Walks of the program's functions: each Go function's answer as a plain Lean function, and that the call comes to it. Written by a program. Conditions: those in each theorem's own head. -/
import Derived.Test.YtolhanigjmhkgabDoorA0
import Derived.Test.YtolhanigjmhkgabDoorA6
namespace Go.Proofs.YtolhanigjmhkgabDoor.A
open Go.RowKit Go.Proofs.YtolhanigjmhkgabDoorW.PrintWords Go.Proofs.YtolhanigjmhkgabDoorW.PrintLast Go.Proofs.YtolhanigjmhkgabDoorW.PrintMore
attribute [local go_sem] max2_int min2_int max_two min_two max_three min_three max_four min_four   -- for this text's walks alone
set_option linter.unusedVariables false
set_option linter.unusedSimpArgs false

theorem b7N {w : World} {g : Nat} {o : Obj} (h : w.heap[g]? = some o) (n : Nat) : (w.drewN n).heap[g]? = some o := h
theorem b7D {w : World} {g : Nat} {o : Obj} (h : w.heap[g]? = some o) : (w.drew).heap[g]? = some o := h
theorem b7L {w : World} {g : Nat} {o : Obj} (h : w.heap[g]? = some o) (o' : Obj) : (w.alloc o').heap[g]? = some o := blk_alloc h o'
theorem d7_1 {p : Prop} (h : p := by repeat (first | (with_reducible first | exact HB.out | apply below_alloc | apply pw_below_drewN | apply below_drew1) | exact HB.out)) : p := h
theorem d7_2 {p : Prop} (h : p := by repeat (first | (with_reducible first | exact HB.out | apply below_alloc | apply pw_below_drewN | apply below_drew1 | refine below_set ?_ GE256.out) | exact HB.out)) : p := h
theorem d7_3 {p : Prop} (h : p := by (try simp only [List.map_toArray, List.map_cons, List.map_nil]); first | done | rfl | (simp only [List.length_drop, List.length_take]; rfl)) : p := h
theorem d7_4 {p : Prop} (h : p := by (with_reducible repeat first | apply b7N | apply b7D | apply b7L); exact BK256.out) : p := h
theorem d7_5 {p : Prop} (h : p := by first | (with_reducible assumption) | assumption) : p := h
theorem d7_6 {p : Prop} (h : p := by first | rfl | (simp; done) | (simp [*]; done) | (simp [ne_nil_b, eq_nil_b]; done)) : p := h
theorem d7_7 {p : Prop} (h : p := by rw [hg]; exact (below_size d7_1)) : p := h
theorem c7_1 {p : Prop} (h : p := by repeat (first | (with_reducible first | exact HB.out | apply below_alloc | apply pw_below_drewN | apply below_drew1 | refine below_set ?_ GE256.out) | exact HB.out)) : p := h
theorem c7_2 {p : Prop} (h : p := by first | rfl | (simp [errW_none, errW_some] <;> rfl) | (simp [*, errW_none, errW_some] <;> rfl)) : p := h
theorem c7_3 {p : Prop} (h : p := by repeat (first | exact Drawn0.refl _ | apply Drawn0.step)) : p := h
set_option maxHeartbeats 8000000
set_option maxRecDepth 100000
theorem z7c {w : World} {g : Nat} {t : TypeId} {cs : Array Value} (h : w.heap[g]? = some (.cells cs t (0, 0))) (i : Nat) {v : Value} (e : cs[i]? = some v) : w.cell? ⟨g, i, none⟩ = some v := (blk_cell h i).trans e
theorem z7f {w : World} {g : Nat} {t : TypeId} {cs : Array Value} (h : w.heap[g]? = some (.cells cs t (0, 0))) (i : Nat) : w.frozen? ⟨g, i, none⟩ = false := blk_frozen h i
theorem zm7_0 {p : Prop} (h : p := by repeat' first | (with_reducible first | apply ih0 | exact LeO.refl _ | exact LeO.none _ | refine LeO.ite ?_ ?_ | refine LeO.bind ?_ (fun _ => ?_)) | apply ih0 | exact LeO.none _ | refine LeO.ite ?_ ?_ | refine LeO.bind ?_ (fun _ => ?_)) : p := h
theorem zm7_1 {p : Prop} (h : p := by repeat' first | (with_reducible first | apply ih0 | apply impl_ValueFault.mono | exact LeO.refl _ | exact LeO.none _ | refine LeO.ite ?_ ?_ | refine LeO.bind ?_ (fun _ => ?_)) | apply ih0 | apply impl_ValueFault.mono | exact LeO.none _ | refine LeO.ite ?_ ?_ | refine LeO.bind ?_ (fun _ => ?_)) : p := h

/-! ### impl_isBeyond: function 46 -/
def impl_isBeyond.f (a0_0 : Int) (a0_1 : Int) (a0_2 : ByteArray) (a1 : Int) : Option (Bool) := if a0_0 = 5 then (some (decide (a0_1 ≥ a1))) else (some false)
theorem impl_isBeyond.calls (a0_0 : Int) (a0_1 : Int) (a0_2 : ByteArray) (a1 : Int) (r : Bool) (w : World) (h : impl_isBeyond.f a0_0 a0_1 a0_2 a1 = some r) :
    Calls Tryd.prog 46 #[.agg #[.int .i64 a0_0, .int .i64 a0_1, .string a0_2], .int .i64 a1] w fun e w' => e = .returned (.bool r) ∧ Below w.heap.size w w' := by
  have hu28 := Tryd.underlying28; have HB := ak (Below.refl w.heap.size w); have H := h; clear h; unfold impl_isBeyond.f at H; by_cases c3 : a0_0 = 5
  ·rw [if_pos c3] at H
   obtain ⟨c3b0, c3b1⟩ := zbt_ c3; clear c3; obtain rfl := Option.some.inj H; go_enter Tryd.func46, Tryd.ntmps46; go_wp2_with (first | ((with_reducible refine gate_dst (N := 2) rfl ?_); refine box_event ?hg (N := 2) ?hd (cs := #[.int .i64 a0_0, .int .i64 a0_1, .string a0_2]) (t := 28) ?hr ?_; (case hd => rfl); (case hg => rfl); (case hr => first | (go_simp; done) | (go_simp; rfl)); intro gb254 hg w4 hbox hb; have BK254 := ak (hbox); have GW254 := ak ((d7_7 : w.heap.size ≤ gb254)); have GE254 := ak ((d7_7 : w.heap.size ≤ gb254)); replace HB := ak (below_step d7_1 hb); clear hb hbox hg; obtain ⟨hcz5_0, hcz5_1, hcz5_2, hfz5_0, hfz5_1, hfz5_2⟩ := zx3_ BK254.out)); go_ret; exact ⟨c7_2, by repeat (first | (with_reducible first | exact HB.out | apply below_alloc | apply pw_below_drewN | apply below_drew1 | refine below_set ?_ GE254.out) | exact HB.out)⟩
  ·rw [if_neg c3] at H
   obtain ⟨c3b0, c3b1⟩ := zbf_ c3; obtain rfl := Option.some.inj H; go_enter Tryd.func46, Tryd.ntmps46; go_wp2_with (first | ((with_reducible refine gate_dst (N := 2) rfl ?_); refine box_event ?hg (N := 2) ?hd (cs := #[.int .i64 a0_0, .int .i64 a0_1, .string a0_2]) (t := 28) ?hr ?_; (case hd => rfl); (case hg => rfl); (case hr => first | (go_simp; done) | (go_simp; rfl)); intro gb254 hg w6 hbox hb; have BK254 := ak (hbox); have GW254 := ak ((d7_7 : w.heap.size ≤ gb254)); have GE254 := ak ((d7_7 : w.heap.size ≤ gb254)); replace HB := ak (below_step d7_1 hb); clear hb hbox hg; obtain ⟨hcz7_0, hcz7_1, hcz7_2, hfz7_0, hfz7_1, hfz7_2⟩ := zx3_ BK254.out)); go_ret; exact ⟨c7_2, by repeat (first | (with_reducible first | exact HB.out | apply below_alloc | apply pw_below_drewN | apply below_drew1 | refine below_set ?_ GE254.out) | exact HB.out)⟩

/-! ### impl_HeapFault: function 25 -/
def impl_HeapFault.l0 : Nat → List (S55) → Int → Int → Option (Int)
  | 0, _, _, _ => none
  | k + 1, x10, x11, x12 => if x12 < x11 then (if 0 ≤ x12 then (if x12 < (x10.length : Int) then ((impl_ValueFault.f k ((rd_T55 x10 x12).f0.f0) ((rd_T55 x10 x12).f0.f1) ((rd_T55 x10 x12).f0.f2)).bind fun t257 => (if t257 = 0 then ((impl_ValueFault.f k ((rd_T55 x10 x12).f1.f0) ((rd_T55 x10 x12).f1.f1) ((rd_T55 x10 x12).f1.f2)).bind fun t258 => (if t258 = 0 then ((impl_isBeyond.f ((rd_T55 x10 x12).f0.f0) ((rd_T55 x10 x12).f0.f1) ((rd_T55 x10 x12).f0.f2) x12).bind fun t259 => (if t259 = true then (some 1) else ((impl_isBeyond.f ((rd_T55 x10 x12).f1.f0) ((rd_T55 x10 x12).f1.f1) ((rd_T55 x10 x12).f1.f2) x12).bind fun t260 => (if t260 = true then (some 1) else (impl_HeapFault.l0 k x10 x11 (wrap64 (x12 + 1))))))) else (some t258))) else (some t257))) else (none)) else (none)) else (some 0)
def impl_HeapFault.f (k : Nat) (l0 : List (S55)) : Option (Int) := if (l0.length : Int) > 4000 then (some 2) else (impl_HeapFault.l0 k l0 (l0.length : Int) 0)
theorem impl_HeapFault.mono_l : ∀ k, (∀ y0 y1 y2, LeO (impl_HeapFault.l0 k y0 y1 y2) (impl_HeapFault.l0 (k + 1) y0 y1 y2))
  | 0 => fun _ _ _ r h => by simp [impl_HeapFault.l0] at h
  | k + 1 => by
    have ih0 := impl_HeapFault.mono_l k
    · intro y0 y1 y2
      unfold impl_HeapFault.l0
      exact zm7_1
theorem impl_HeapFault.mono : ∀ a0 k, LeO (impl_HeapFault.f k a0) (impl_HeapFault.f (k + 1) a0) := by
  intro a0 k; have ih0 := impl_HeapFault.mono_l k; unfold impl_HeapFault.f
  exact zm7_1
theorem impl_HeapFault.calls (k : Nat) (A0 : Option Addr) (c0 : Nat) (l0 : List (S55)) (r : Int) (w : World) (hr0 : Kd.C k55 w A0 l0.length l0) (hc0 : l0.length ≤ c0) (h : impl_HeapFault.f k l0 = some r) :
    Calls Tryd.prog 25 #[.slice A0 l0.length c0] w fun e w' => e = .returned (.int .i64 r) ∧ Below w.heap.size w w' := by
  have hu55 := Tryd.underlying55; have hu28 := Tryd.underlying28; have HR0 := ak hr0; have HC0 := ak hc0; clear hr0 hc0; have HB := ak (Below.refl w.heap.size w); have H := h; clear h; unfold impl_HeapFault.f at H; by_cases c2 : (l0.length : Int) > 4000
  ·rw [if_pos c2] at H
   have c2b0 : decide (4000 < (l0.length : Int)) = true := decide_eq_true c2; have c2b1 : decide (4000 < l0.length) = true := decide_eq_true (by omega); clear c2; obtain rfl := Option.some.inj H; go_enter Tryd.func25, Tryd.ntmps25; go_wp2; go_ret; exact ⟨c7_2, by repeat (first | (with_reducible first | exact HB.out | apply below_alloc | apply pw_below_drewN | apply below_drew1) | exact HB.out)⟩
  ·rw [if_neg c2] at H
   have c2b0 : decide (4000 < (l0.length : Int)) = false := decide_eq_false c2; have c2b1 : decide (4000 < l0.length) = false := decide_eq_false (by omega); clear c2; have H' := ak H; clear H; go_enter Tryd.func25, Tryd.ntmps25; go_wp2; go_loopg [12] k (fun kq v12 w' => ∃ (x12_1 : Int), v12 = .int .i64 x12_1 ∧ Aside0 (impl_HeapFault.l0 kq l0 (l0.length : Int) x12_1 = some r) ∧ Aside0 (kq ≤ k) ∧ Aside0 (Below w.heap.size w w'))
   case atStart => exact ⟨(0), d7_6, H', ⟨Nat.le_refl _⟩, ⟨by repeat (first | (with_reducible first | exact HB.out | apply below_alloc | apply pw_below_drewN | apply below_drew1) | exact HB.out)⟩⟩
   case round =>
    clear H'
    (try clear c2 c2b0 c2b1); (try clear p2)
    obtain ⟨x12_1, rfl, HA, HK1, HB⟩ := hrel
    cases gk with
    | zero => exact absurd HA.out (by simp [impl_HeapFault.l0])
    | succ k1 =>
     have H := HA.out; clear HA; simp only [impl_HeapFault.l0] at H; by_cases c3 : x12_1 < (l0.length : Int)
     ·rw [if_pos c3] at H
      have c3b0 : decide (x12_1 < (l0.length : Int)) = true := decide_eq_true c3; clear c3; by_cases c4 : 0 ≤ x12_1
      ·rw [if_pos c4] at H
       have c4b0 : decide (0 ≤ x12_1) = true := decide_eq_true c4; clear c4; by_cases c5 : x12_1 < (l0.length : Int)
       ·rw [if_pos c5] at H
        have c5b0 : decide (x12_1 < (l0.length : Int)) = true := decide_eq_true c5; clear c5; obtain ⟨t257, A6, H⟩ := zbi_ H; (try dsimp -simprocs only at H); by_cases c7 : t257 = 0
        ·rw [if_pos c7] at H
         obtain ⟨c7b0, c7b1⟩ := zbt_ c7; clear c7; obtain ⟨t258, A8, H⟩ := zbi_ H; (try dsimp -simprocs only at H); by_cases c9 : t258 = 0
         ·rw [if_pos c9] at H
          obtain ⟨c9b0, c9b1⟩ := zbt_ c9; clear c9; obtain ⟨t259, A10, H⟩ := zbi_ H; (try dsimp -simprocs only at H); by_cases c11 : t259 = true
          ·subst c11
           rw [if_pos rfl] at H; obtain rfl := Option.some.inj H; have p255 : 0 ≤ (x12_1 : Int) := of_decide_eq_true d7_5; have q255 : x12_1 < (l0.length : Int) := of_decide_eq_true d7_5; obtain ⟨ad255, e255, hx255_0, hx255_1, hx255_2, hx255_3, hx255_4, hx255_5⟩ := at_T55 HR0.out x12_1 p255 q255
           cases e255
           replace hx255_0 := zkc_ HB.out hx255_0; replace hx255_1 := zkc_ HB.out hx255_1; replace hx255_2 := zkc_ HB.out hx255_2; replace hx255_3 := zkc_ HB.out hx255_3; replace hx255_4 := zkc_ HB.out hx255_4; replace hx255_5 := zkc_ HB.out hx255_5; replace p255 := eq_true p255; replace q255 := eq_true q255
           go_wp2_with (first | ((with_reducible refine gate_dst (N := 4) rfl ?_); refine box_event ?hg (N := 4) ?hd (cs := #[.int .i64 0, .int .i64 0, .string (⟨#[]⟩ : ByteArray), .int .i64 0, .int .i64 0, .string (⟨#[]⟩ : ByteArray)]) (t := 55) ?hr ?_; (case hd => rfl); (case hg => rfl); (case hr => first | (go_simp; done) | (go_simp; rfl)); intro gb256 hg w12 hbox hb; have BK256 := ak (hbox); have GW256 := ak ((d7_7 : w.heap.size ≤ gb256)); have GE256 := ak ((d7_7 : w.heap.size ≤ gb256)); replace HB := ak (below_step d7_1 hb); clear hb hbox hg; obtain ⟨hcz13_0, hcz13_1, hcz13_2, hcz13_3, hcz13_4, hcz13_5, hfz13_0, hfz13_1, hfz13_2, hfz13_3, hfz13_4, hfz13_5⟩ := zx6_ BK256.out) | ((with_reducible refine gate_callee (f := 45) rfl ?_); refine zgo_ 19 Tryd.func45 #[.agg #[.int .i64 ((rd_T55 l0 x12_1).f0.f0), .int .i64 ((rd_T55 l0 x12_1).f0.f1), .string ((rd_T55 l0 x12_1).f0.f2)]] ?_ (e := d7_3); (with_reducible refine (impl_ValueFault.calls k1 ((rd_T55 l0 x12_1).f0.f0) ((rd_T55 l0 x12_1).f0.f1) ((rd_T55 l0 x12_1).f0.f2) t257 _ A6.out).mono ?_); rintro e w14 ⟨rfl, hb⟩; refine ⟨_, rfl, ?_⟩; replace BK256 := zbb_ (g := gb256) (o := .cells #[.int .i64 ((rd_T55 l0 x12_1).f0.f0), .int .i64 ((rd_T55 l0 x12_1).f0.f1), .string ((rd_T55 l0 x12_1).f0.f2), .int .i64 ((rd_T55 l0 x12_1).f1.f0), .int .i64 ((rd_T55 l0 x12_1).f1.f1), .string ((rd_T55 l0 x12_1).f1.f2)] 55 (0, 0)) hb (by refine zpl_ ?_; refine zp6_ (.int .i64 0) (.int .i64 0) (.string (⟨#[]⟩ : ByteArray)) (.int .i64 0) (.int .i64 0) (.string (⟨#[]⟩ : ByteArray)) ?_; refine zpl_ ?_; exact BK256.out); replace HB := ak (below_step d7_2 hb); (try clear hb); obtain ⟨hcz15_0, hcz15_1, hcz15_2, hcz15_3, hcz15_4, hcz15_5, hfz15_0, hfz15_1, hfz15_2, hfz15_3, hfz15_4, hfz15_5⟩ := zx6_ BK256.out) | ((with_reducible refine gate_callee (f := 45) rfl ?_); refine zgo_ 25 Tryd.func45 #[.agg #[.int .i64 ((rd_T55 l0 x12_1).f1.f0), .int .i64 ((rd_T55 l0 x12_1).f1.f1), .string ((rd_T55 l0 x12_1).f1.f2)]] ?_ (e := d7_3); (with_reducible refine (impl_ValueFault.calls k1 ((rd_T55 l0 x12_1).f1.f0) ((rd_T55 l0 x12_1).f1.f1) ((rd_T55 l0 x12_1).f1.f2) t258 _ A8.out).mono ?_); rintro e w16 ⟨rfl, hb⟩; refine ⟨_, rfl, ?_⟩; replace BK256 := zbb_ (g := gb256) hb d7_4; replace HB := ak (below_step d7_2 hb); (try clear hb); obtain ⟨hcz17_0, hcz17_1, hcz17_2, hcz17_3, hcz17_4, hcz17_5, hfz17_0, hfz17_1, hfz17_2, hfz17_3, hfz17_4, hfz17_5⟩ := zx6_ BK256.out) | ((with_reducible refine gate_callee (f := 46) rfl ?_); refine zgo_ 32 Tryd.func46 #[.agg #[.int .i64 ((rd_T55 l0 x12_1).f0.f0), .int .i64 ((rd_T55 l0 x12_1).f0.f1), .string ((rd_T55 l0 x12_1).f0.f2)], .int .i64 x12_1] ?_ (e := d7_3); (with_reducible refine (impl_isBeyond.calls ((rd_T55 l0 x12_1).f0.f0) ((rd_T55 l0 x12_1).f0.f1) ((rd_T55 l0 x12_1).f0.f2) x12_1 true _ A10.out).mono ?_); rintro e w18 ⟨rfl, hb⟩; refine ⟨_, rfl, ?_⟩; replace BK256 := zbb_ (g := gb256) hb d7_4; replace HB := ak (below_step d7_2 hb); (try clear hb)))
           go_ret; exact ⟨c7_2, c7_1⟩
          ·replace c11 := Bool.eq_false_iff.mpr c11
           subst c11; rw [if_neg (show ¬ (false = true) by decide)] at H; obtain ⟨t260, A19, H⟩ := zbi_ H; (try dsimp -simprocs only at H); by_cases c20 : t260 = true
           ·subst c20
            rw [if_pos rfl] at H; obtain rfl := Option.some.inj H; have p255 : 0 ≤ (x12_1 : Int) := of_decide_eq_true d7_5; have q255 : x12_1 < (l0.length : Int) := of_decide_eq_true d7_5; obtain ⟨ad255, e255, hx255_0, hx255_1, hx255_2, hx255_3, hx255_4, hx255_5⟩ := at_T55 HR0.out x12_1 p255 q255
            cases e255
            replace hx255_0 := zkc_ HB.out hx255_0; replace hx255_1 := zkc_ HB.out hx255_1; replace hx255_2 := zkc_ HB.out hx255_2; replace hx255_3 := zkc_ HB.out hx255_3; replace hx255_4 := zkc_ HB.out hx255_4; replace hx255_5 := zkc_ HB.out hx255_5; replace p255 := eq_true p255; replace q255 := eq_true q255
            go_wp2_with (first | ((with_reducible refine gate_dst (N := 4) rfl ?_); refine box_event ?hg (N := 4) ?hd (cs := #[.int .i64 0, .int .i64 0, .string (⟨#[]⟩ : ByteArray), .int .i64 0, .int .i64 0, .string (⟨#[]⟩ : ByteArray)]) (t := 55) ?hr ?_; (case hd => rfl); (case hg => rfl); (case hr => first | (go_simp; done) | (go_simp; rfl)); intro gb256 hg w21 hbox hb; have BK256 := ak (hbox); have GW256 := ak ((d7_7 : w.heap.size ≤ gb256)); have GE256 := ak ((d7_7 : w.heap.size ≤ gb256)); replace HB := ak (below_step d7_1 hb); clear hb hbox hg; obtain ⟨hcz22_0, hcz22_1, hcz22_2, hcz22_3, hcz22_4, hcz22_5, hfz22_0, hfz22_1, hfz22_2, hfz22_3, hfz22_4, hfz22_5⟩ := zx6_ BK256.out) | ((with_reducible refine gate_callee (f := 45) rfl ?_); refine zgo_ 19 Tryd.func45 #[.agg #[.int .i64 ((rd_T55 l0 x12_1).f0.f0), .int .i64 ((rd_T55 l0 x12_1).f0.f1), .string ((rd_T55 l0 x12_1).f0.f2)]] ?_ (e := d7_3); (with_reducible refine (impl_ValueFault.calls k1 ((rd_T55 l0 x12_1).f0.f0) ((rd_T55 l0 x12_1).f0.f1) ((rd_T55 l0 x12_1).f0.f2) t257 _ A6.out).mono ?_); rintro e w23 ⟨rfl, hb⟩; refine ⟨_, rfl, ?_⟩; replace BK256 := zbb_ (g := gb256) (o := .cells #[.int .i64 ((rd_T55 l0 x12_1).f0.f0), .int .i64 ((rd_T55 l0 x12_1).f0.f1), .string ((rd_T55 l0 x12_1).f0.f2), .int .i64 ((rd_T55 l0 x12_1).f1.f0), .int .i64 ((rd_T55 l0 x12_1).f1.f1), .string ((rd_T55 l0 x12_1).f1.f2)] 55 (0, 0)) hb (by refine zpl_ ?_; refine zp6_ (.int .i64 0) (.int .i64 0) (.string (⟨#[]⟩ : ByteArray)) (.int .i64 0) (.int .i64 0) (.string (⟨#[]⟩ : ByteArray)) ?_; refine zpl_ ?_; exact BK256.out); replace HB := ak (below_step d7_2 hb); (try clear hb); obtain ⟨hcz24_0, hcz24_1, hcz24_2, hcz24_3, hcz24_4, hcz24_5, hfz24_0, hfz24_1, hfz24_2, hfz24_3, hfz24_4, hfz24_5⟩ := zx6_ BK256.out) | ((with_reducible refine gate_callee (f := 45) rfl ?_); refine zgo_ 25 Tryd.func45 #[.agg #[.int .i64 ((rd_T55 l0 x12_1).f1.f0), .int .i64 ((rd_T55 l0 x12_1).f1.f1), .string ((rd_T55 l0 x12_1).f1.f2)]] ?_ (e := d7_3); (with_reducible refine (impl_ValueFault.calls k1 ((rd_T55 l0 x12_1).f1.f0) ((rd_T55 l0 x12_1).f1.f1) ((rd_T55 l0 x12_1).f1.f2) t258 _ A8.out).mono ?_); rintro e w25 ⟨rfl, hb⟩; refine ⟨_, rfl, ?_⟩; replace BK256 := zbb_ (g := gb256) hb d7_4; replace HB := ak (below_step d7_2 hb); (try clear hb); obtain ⟨hcz26_0, hcz26_1, hcz26_2, hcz26_3, hcz26_4, hcz26_5, hfz26_0, hfz26_1, hfz26_2, hfz26_3, hfz26_4, hfz26_5⟩ := zx6_ BK256.out) | ((with_reducible refine gate_callee (f := 46) rfl ?_); refine zgo_ 32 Tryd.func46 #[.agg #[.int .i64 ((rd_T55 l0 x12_1).f0.f0), .int .i64 ((rd_T55 l0 x12_1).f0.f1), .string ((rd_T55 l0 x12_1).f0.f2)], .int .i64 x12_1] ?_ (e := d7_3); (with_reducible refine (impl_isBeyond.calls ((rd_T55 l0 x12_1).f0.f0) ((rd_T55 l0 x12_1).f0.f1) ((rd_T55 l0 x12_1).f0.f2) x12_1 false _ A10.out).mono ?_); rintro e w27 ⟨rfl, hb⟩; refine ⟨_, rfl, ?_⟩; replace BK256 := zbb_ (g := gb256) hb d7_4; replace HB := ak (below_step d7_2 hb); (try clear hb); obtain ⟨hcz28_0, hcz28_1, hcz28_2, hcz28_3, hcz28_4, hcz28_5, hfz28_0, hfz28_1, hfz28_2, hfz28_3, hfz28_4, hfz28_5⟩ := zx6_ BK256.out) | (go_at_call 46; (with_reducible refine (impl_isBeyond.calls ((rd_T55 l0 x12_1).f1.f0) ((rd_T55 l0 x12_1).f1.f1) ((rd_T55 l0 x12_1).f1.f2) x12_1 true _ A19.out).mono ?_); rintro e w29 ⟨rfl, hb⟩; replace BK256 := zbb_ (g := gb256) hb d7_4; replace HB := ak (below_step d7_2 hb); (try clear hb)))
            go_ret; exact ⟨c7_2, c7_1⟩
           ·replace c20 := Bool.eq_false_iff.mpr c20
            subst c20; rw [if_neg (show ¬ (false = true) by decide)] at H; have H' := ak H; clear H; have p255 : 0 ≤ (x12_1 : Int) := of_decide_eq_true d7_5; have q255 : x12_1 < (l0.length : Int) := of_decide_eq_true d7_5; obtain ⟨ad255, e255, hx255_0, hx255_1, hx255_2, hx255_3, hx255_4, hx255_5⟩ := at_T55 HR0.out x12_1 p255 q255
            cases e255
            replace hx255_0 := zkc_ HB.out hx255_0; replace hx255_1 := zkc_ HB.out hx255_1; replace hx255_2 := zkc_ HB.out hx255_2; replace hx255_3 := zkc_ HB.out hx255_3; replace hx255_4 := zkc_ HB.out hx255_4; replace hx255_5 := zkc_ HB.out hx255_5; replace p255 := eq_true p255; replace q255 := eq_true q255
            go_wp2_with (first | ((with_reducible refine gate_dst (N := 4) rfl ?_); refine box_event ?hg (N := 4) ?hd (cs := #[.int .i64 0, .int .i64 0, .string (⟨#[]⟩ : ByteArray), .int .i64 0, .int .i64 0, .string (⟨#[]⟩ : ByteArray)]) (t := 55) ?hr ?_; (case hd => rfl); (case hg => rfl); (case hr => first | (go_simp; done) | (go_simp; rfl)); intro gb256 hg w30 hbox hb; have BK256 := ak (hbox); have GW256 := ak ((d7_7 : w.heap.size ≤ gb256)); have GE256 := ak ((d7_7 : w.heap.size ≤ gb256)); replace HB := ak (below_step d7_1 hb); clear hb hbox hg; obtain ⟨hcz31_0, hcz31_1, hcz31_2, hcz31_3, hcz31_4, hcz31_5, hfz31_0, hfz31_1, hfz31_2, hfz31_3, hfz31_4, hfz31_5⟩ := zx6_ BK256.out) | ((with_reducible refine gate_callee (f := 45) rfl ?_); refine zgo_ 19 Tryd.func45 #[.agg #[.int .i64 ((rd_T55 l0 x12_1).f0.f0), .int .i64 ((rd_T55 l0 x12_1).f0.f1), .string ((rd_T55 l0 x12_1).f0.f2)]] ?_ (e := d7_3); (with_reducible refine (impl_ValueFault.calls k1 ((rd_T55 l0 x12_1).f0.f0) ((rd_T55 l0 x12_1).f0.f1) ((rd_T55 l0 x12_1).f0.f2) t257 _ A6.out).mono ?_); rintro e w32 ⟨rfl, hb⟩; refine ⟨_, rfl, ?_⟩; replace BK256 := zbb_ (g := gb256) (o := .cells #[.int .i64 ((rd_T55 l0 x12_1).f0.f0), .int .i64 ((rd_T55 l0 x12_1).f0.f1), .string ((rd_T55 l0 x12_1).f0.f2), .int .i64 ((rd_T55 l0 x12_1).f1.f0), .int .i64 ((rd_T55 l0 x12_1).f1.f1), .string ((rd_T55 l0 x12_1).f1.f2)] 55 (0, 0)) hb (by refine zpl_ ?_; refine zp6_ (.int .i64 0) (.int .i64 0) (.string (⟨#[]⟩ : ByteArray)) (.int .i64 0) (.int .i64 0) (.string (⟨#[]⟩ : ByteArray)) ?_; refine zpl_ ?_; exact BK256.out); replace HB := ak (below_step d7_2 hb); (try clear hb); obtain ⟨hcz33_0, hcz33_1, hcz33_2, hcz33_3, hcz33_4, hcz33_5, hfz33_0, hfz33_1, hfz33_2, hfz33_3, hfz33_4, hfz33_5⟩ := zx6_ BK256.out) | ((with_reducible refine gate_callee (f := 45) rfl ?_); refine zgo_ 25 Tryd.func45 #[.agg #[.int .i64 ((rd_T55 l0 x12_1).f1.f0), .int .i64 ((rd_T55 l0 x12_1).f1.f1), .string ((rd_T55 l0 x12_1).f1.f2)]] ?_ (e := d7_3); (with_reducible refine (impl_ValueFault.calls k1 ((rd_T55 l0 x12_1).f1.f0) ((rd_T55 l0 x12_1).f1.f1) ((rd_T55 l0 x12_1).f1.f2) t258 _ A8.out).mono ?_); rintro e w34 ⟨rfl, hb⟩; refine ⟨_, rfl, ?_⟩; replace BK256 := zbb_ (g := gb256) hb d7_4; replace HB := ak (below_step d7_2 hb); (try clear hb); obtain ⟨hcz35_0, hcz35_1, hcz35_2, hcz35_3, hcz35_4, hcz35_5, hfz35_0, hfz35_1, hfz35_2, hfz35_3, hfz35_4, hfz35_5⟩ := zx6_ BK256.out) | ((with_reducible refine gate_callee (f := 46) rfl ?_); refine zgo_ 32 Tryd.func46 #[.agg #[.int .i64 ((rd_T55 l0 x12_1).f0.f0), .int .i64 ((rd_T55 l0 x12_1).f0.f1), .string ((rd_T55 l0 x12_1).f0.f2)], .int .i64 x12_1] ?_ (e := d7_3); (with_reducible refine (impl_isBeyond.calls ((rd_T55 l0 x12_1).f0.f0) ((rd_T55 l0 x12_1).f0.f1) ((rd_T55 l0 x12_1).f0.f2) x12_1 false _ A10.out).mono ?_); rintro e w36 ⟨rfl, hb⟩; refine ⟨_, rfl, ?_⟩; replace BK256 := zbb_ (g := gb256) hb d7_4; replace HB := ak (below_step d7_2 hb); (try clear hb); obtain ⟨hcz37_0, hcz37_1, hcz37_2, hcz37_3, hcz37_4, hcz37_5, hfz37_0, hfz37_1, hfz37_2, hfz37_3, hfz37_4, hfz37_5⟩ := zx6_ BK256.out) | (go_at_call 46; (with_reducible refine (impl_isBeyond.calls ((rd_T55 l0 x12_1).f1.f0) ((rd_T55 l0 x12_1).f1.f1) ((rd_T55 l0 x12_1).f1.f2) x12_1 false _ A19.out).mono ?_); rintro e w38 ⟨rfl, hb⟩; replace BK256 := zbb_ (g := gb256) hb d7_4; replace HB := ak (below_step d7_2 hb); (try clear hb)))
            go_roundg k1
            case measure => have := HK1.out; omega
            case rel => exact ⟨(wrap64 (x12_1 + 1)), d7_6, H', ⟨by have := HK1.out; omega⟩, ⟨c7_1⟩⟩
         ·rw [if_neg c9] at H
          obtain ⟨c9b0, c9b1⟩ := zbf_ c9; obtain rfl := Option.some.inj H; have p255 : 0 ≤ (x12_1 : Int) := of_decide_eq_true d7_5; have q255 : x12_1 < (l0.length : Int) := of_decide_eq_true d7_5; obtain ⟨ad255, e255, hx255_0, hx255_1, hx255_2, hx255_3, hx255_4, hx255_5⟩ := at_T55 HR0.out x12_1 p255 q255
          cases e255
          replace hx255_0 := zkc_ HB.out hx255_0; replace hx255_1 := zkc_ HB.out hx255_1; replace hx255_2 := zkc_ HB.out hx255_2; replace hx255_3 := zkc_ HB.out hx255_3; replace hx255_4 := zkc_ HB.out hx255_4; replace hx255_5 := zkc_ HB.out hx255_5; replace p255 := eq_true p255; replace q255 := eq_true q255
          go_wp2_with (first | ((with_reducible refine gate_dst (N := 4) rfl ?_); refine box_event ?hg (N := 4) ?hd (cs := #[.int .i64 0, .int .i64 0, .string (⟨#[]⟩ : ByteArray), .int .i64 0, .int .i64 0, .string (⟨#[]⟩ : ByteArray)]) (t := 55) ?hr ?_; (case hd => rfl); (case hg => rfl); (case hr => first | (go_simp; done) | (go_simp; rfl)); intro gb256 hg w39 hbox hb; have BK256 := ak (hbox); have GW256 := ak ((d7_7 : w.heap.size ≤ gb256)); have GE256 := ak ((d7_7 : w.heap.size ≤ gb256)); replace HB := ak (below_step d7_1 hb); clear hb hbox hg; obtain ⟨hcz40_0, hcz40_1, hcz40_2, hcz40_3, hcz40_4, hcz40_5, hfz40_0, hfz40_1, hfz40_2, hfz40_3, hfz40_4, hfz40_5⟩ := zx6_ BK256.out) | ((with_reducible refine gate_callee (f := 45) rfl ?_); refine zgo_ 19 Tryd.func45 #[.agg #[.int .i64 ((rd_T55 l0 x12_1).f0.f0), .int .i64 ((rd_T55 l0 x12_1).f0.f1), .string ((rd_T55 l0 x12_1).f0.f2)]] ?_ (e := d7_3); (with_reducible refine (impl_ValueFault.calls k1 ((rd_T55 l0 x12_1).f0.f0) ((rd_T55 l0 x12_1).f0.f1) ((rd_T55 l0 x12_1).f0.f2) t257 _ A6.out).mono ?_); rintro e w41 ⟨rfl, hb⟩; refine ⟨_, rfl, ?_⟩; replace BK256 := zbb_ (g := gb256) (o := .cells #[.int .i64 ((rd_T55 l0 x12_1).f0.f0), .int .i64 ((rd_T55 l0 x12_1).f0.f1), .string ((rd_T55 l0 x12_1).f0.f2), .int .i64 ((rd_T55 l0 x12_1).f1.f0), .int .i64 ((rd_T55 l0 x12_1).f1.f1), .string ((rd_T55 l0 x12_1).f1.f2)] 55 (0, 0)) hb (by refine zpl_ ?_; refine zp6_ (.int .i64 0) (.int .i64 0) (.string (⟨#[]⟩ : ByteArray)) (.int .i64 0) (.int .i64 0) (.string (⟨#[]⟩ : ByteArray)) ?_; refine zpl_ ?_; exact BK256.out); replace HB := ak (below_step d7_2 hb); (try clear hb); obtain ⟨hcz42_0, hcz42_1, hcz42_2, hcz42_3, hcz42_4, hcz42_5, hfz42_0, hfz42_1, hfz42_2, hfz42_3, hfz42_4, hfz42_5⟩ := zx6_ BK256.out) | ((with_reducible refine gate_callee (f := 45) rfl ?_); refine zgo_ 25 Tryd.func45 #[.agg #[.int .i64 ((rd_T55 l0 x12_1).f1.f0), .int .i64 ((rd_T55 l0 x12_1).f1.f1), .string ((rd_T55 l0 x12_1).f1.f2)]] ?_ (e := d7_3); (with_reducible refine (impl_ValueFault.calls k1 ((rd_T55 l0 x12_1).f1.f0) ((rd_T55 l0 x12_1).f1.f1) ((rd_T55 l0 x12_1).f1.f2) t258 _ A8.out).mono ?_); rintro e w43 ⟨rfl, hb⟩; refine ⟨_, rfl, ?_⟩; replace BK256 := zbb_ (g := gb256) hb d7_4; replace HB := ak (below_step d7_2 hb); (try clear hb)))
          go_ret; exact ⟨c7_2, c7_1⟩
        ·rw [if_neg c7] at H
         obtain ⟨c7b0, c7b1⟩ := zbf_ c7; obtain rfl := Option.some.inj H; have p255 : 0 ≤ (x12_1 : Int) := of_decide_eq_true d7_5; have q255 : x12_1 < (l0.length : Int) := of_decide_eq_true d7_5; obtain ⟨ad255, e255, hx255_0, hx255_1, hx255_2, hx255_3, hx255_4, hx255_5⟩ := at_T55 HR0.out x12_1 p255 q255
         cases e255
         replace hx255_0 := zkc_ HB.out hx255_0; replace hx255_1 := zkc_ HB.out hx255_1; replace hx255_2 := zkc_ HB.out hx255_2; replace hx255_3 := zkc_ HB.out hx255_3; replace hx255_4 := zkc_ HB.out hx255_4; replace hx255_5 := zkc_ HB.out hx255_5; replace p255 := eq_true p255; replace q255 := eq_true q255
         go_wp2_with (first | ((with_reducible refine gate_dst (N := 4) rfl ?_); refine box_event ?hg (N := 4) ?hd (cs := #[.int .i64 0, .int .i64 0, .string (⟨#[]⟩ : ByteArray), .int .i64 0, .int .i64 0, .string (⟨#[]⟩ : ByteArray)]) (t := 55) ?hr ?_; (case hd => rfl); (case hg => rfl); (case hr => first | (go_simp; done) | (go_simp; rfl)); intro gb256 hg w44 hbox hb; have BK256 := ak (hbox); have GW256 := ak ((d7_7 : w.heap.size ≤ gb256)); have GE256 := ak ((d7_7 : w.heap.size ≤ gb256)); replace HB := ak (below_step d7_1 hb); clear hb hbox hg; obtain ⟨hcz45_0, hcz45_1, hcz45_2, hcz45_3, hcz45_4, hcz45_5, hfz45_0, hfz45_1, hfz45_2, hfz45_3, hfz45_4, hfz45_5⟩ := zx6_ BK256.out) | ((with_reducible refine gate_callee (f := 45) rfl ?_); refine zgo_ 19 Tryd.func45 #[.agg #[.int .i64 ((rd_T55 l0 x12_1).f0.f0), .int .i64 ((rd_T55 l0 x12_1).f0.f1), .string ((rd_T55 l0 x12_1).f0.f2)]] ?_ (e := d7_3); (with_reducible refine (impl_ValueFault.calls k1 ((rd_T55 l0 x12_1).f0.f0) ((rd_T55 l0 x12_1).f0.f1) ((rd_T55 l0 x12_1).f0.f2) t257 _ A6.out).mono ?_); rintro e w46 ⟨rfl, hb⟩; refine ⟨_, rfl, ?_⟩; replace BK256 := zbb_ (g := gb256) (o := .cells #[.int .i64 ((rd_T55 l0 x12_1).f0.f0), .int .i64 ((rd_T55 l0 x12_1).f0.f1), .string ((rd_T55 l0 x12_1).f0.f2), .int .i64 ((rd_T55 l0 x12_1).f1.f0), .int .i64 ((rd_T55 l0 x12_1).f1.f1), .string ((rd_T55 l0 x12_1).f1.f2)] 55 (0, 0)) hb (by refine zpl_ ?_; refine zp6_ (.int .i64 0) (.int .i64 0) (.string (⟨#[]⟩ : ByteArray)) (.int .i64 0) (.int .i64 0) (.string (⟨#[]⟩ : ByteArray)) ?_; refine zpl_ ?_; exact BK256.out); replace HB := ak (below_step d7_2 hb); (try clear hb)))
         go_ret; exact ⟨c7_2, c7_1⟩
       ·rw [if_neg c5] at H
        exact absurd H (by simp)
      ·rw [if_neg c4] at H
       exact absurd H (by simp)
     ·rw [if_neg c3] at H
      have c3b0 : decide (x12_1 < (l0.length : Int)) = false := decide_eq_false c3; clear c3; obtain rfl := Option.some.inj H; go_wp2; go_ret; exact ⟨c7_2, by repeat (first | (with_reducible first | exact HB.out | apply below_alloc | apply pw_below_drewN | apply below_drew1) | exact HB.out)⟩

/-! ### impl_deep: function 56 -/
def impl_deep.l0 : Nat → List (S57) → Int → Int → Option (Int)
  | 0, _, _, _ => none
  | k + 1, x0, x1, x5 => if x1 ≥ 0 then (if 0 ≤ x1 then (if x1 < (x0.length : Int) then (impl_deep.l0 k x0 ((rd_T57 x0 x1).f1) (wrap64 (x5 + 1))) else (none)) else (none)) else (some x5)
def impl_deep.f (k : Nat) (l0 : List (S57)) (a1 : Int) : Option (Int) := impl_deep.l0 k l0 a1 0
theorem impl_deep.mono_l : ∀ k, (∀ y0 y1 y2, LeO (impl_deep.l0 k y0 y1 y2) (impl_deep.l0 (k + 1) y0 y1 y2))
  | 0 => fun _ _ _ r h => by simp [impl_deep.l0] at h
  | k + 1 => by
    have ih0 := impl_deep.mono_l k
    · intro y0 y1 y2
      unfold impl_deep.l0
      exact zm7_0
theorem impl_deep.mono : ∀ a0 a1 k, LeO (impl_deep.f k a0 a1) (impl_deep.f (k + 1) a0 a1) := by
  intro a0 a1 k; have ih0 := impl_deep.mono_l k; unfold impl_deep.f
  exact zm7_0
theorem impl_deep.calls (k : Nat) (A0 : Option Addr) (c0 : Nat) (l0 : List (S57)) (a1 : Int) (r : Int) (w : World) (hr0 : Kd.C k57 w A0 l0.length l0) (hc0 : l0.length ≤ c0) (h : impl_deep.f k l0 a1 = some r) :
    Calls Tryd.prog 56 #[.slice A0 l0.length c0, .int .i64 a1] w fun e w' => e = .returned (.int .i64 r) ∧ Drawn0 w w' := by
  have HR0 := ak hr0; have HC0 := ak hc0; clear hr0 hc0; have H := h; clear h; unfold impl_deep.f at H; have H' := ak H; clear H; go_enter Tryd.func56, Tryd.ntmps56; go_wp2; go_loopg [1, 5] k (fun kq v1 v5 w' => ∃ (x1_1 : Int) (x5_1 : Int), v1 = .int .i64 x1_1 ∧ v5 = .int .i64 x5_1 ∧ Aside0 (impl_deep.l0 kq l0 x1_1 x5_1 = some r) ∧ Aside0 (kq ≤ k) ∧ Drawn0 w w')
  case atStart => exact ⟨(a1), (0), d7_6, d7_6, H', ⟨Nat.le_refl _⟩, c7_3⟩
  case round =>
   clear H'
   try clear p2
   obtain ⟨x1_1, x5_1, rfl, rfl, HA, HK1, ⟨m1, rfl⟩⟩ := hrel
   cases gk with
   | zero => exact absurd HA.out (by simp [impl_deep.l0])
   | succ k1 =>
    have H := HA.out; clear HA; simp only [impl_deep.l0] at H; by_cases c3 : x1_1 ≥ 0
    ·rw [if_pos c3] at H
     have c3b0 : decide (0 ≤ x1_1) = true := decide_eq_true c3; clear c3; by_cases c4 : 0 ≤ x1_1
     ·rw [if_pos c4] at H
      have c4b0 : decide (0 ≤ x1_1) = true := decide_eq_true c4; clear c4; by_cases c5 : x1_1 < (l0.length : Int)
      ·rw [if_pos c5] at H
       have c5b0 : decide (x1_1 < (l0.length : Int)) = true := decide_eq_true c5; clear c5; have H' := ak H; clear H; have p261 : 0 ≤ (x1_1 : Int) := of_decide_eq_true d7_5; have q261 : x1_1 < (l0.length : Int) := of_decide_eq_true d7_5; obtain ⟨ad261, e261, hx261_0, hx261_1, hx261_2, hx261_3⟩ := at_T57 HR0.out x1_1 p261 q261
       cases e261
       replace p261 := eq_true p261; replace q261 := eq_true q261; go_wp2; go_roundg k1
       case measure => have := HK1.out; omega
       case rel => exact ⟨((rd_T57 l0 x1_1).f1), (wrap64 (x5_1 + 1)), d7_6, d7_6, H', ⟨by have := HK1.out; omega⟩, c7_3⟩
      ·rw [if_neg c5] at H
       exact absurd H (by simp)
     ·rw [if_neg c4] at H
      exact absurd H (by simp)
    ·rw [if_neg c3] at H
     have c3b0 : decide (0 ≤ x1_1) = false := decide_eq_false c3; clear c3; obtain rfl := Option.some.inj H; go_wp2; go_ret; exact ⟨by first | rfl | (simp; done) | (simp [*]; done) | (simp [ne_nil_b, eq_nil_b]; done), c7_3⟩

/-! ### impl_datumFault_1: function 55 -/
def impl_datumFault_1.f (a0 : Int) (l1_0 : List (S57)) : Option (Int) := if 0 ≤ a0 then (if a0 < (l1_0.length : Int) then (some ((rd_T57 l1_0 a0).f1)) else (none)) else (none)
theorem impl_datumFault_1.calls (a0 : Int) (P1_ : Addr) (A1_0 : Option Addr) (c1_0 : Nat) (l1_0 : List (S57)) (r : Int) (w : World) (hq1_0 : w.cell? P1_ = some (.slice A1_0 l1_0.length c1_0)) (hr1_0 : Kd.C k57 w A1_0 l1_0.length l1_0) (hc1_0 : l1_0.length ≤ c1_0) (h : impl_datumFault_1.f a0 l1_0 = some r) :
    Calls Tryd.prog 55 #[.int .i64 a0, .pointer (some P1_)] w fun e w' => e = .returned (.int .i64 r) ∧ Drawn0 w w' := by
  have HQ1_0 := ak hq1_0; clear hq1_0; have HR1_0 := ak hr1_0; have HC1_0 := ak hc1_0; clear hr1_0 hc1_0; have H := h; clear h; unfold impl_datumFault_1.f at H; by_cases c3 : 0 ≤ a0
  ·rw [if_pos c3] at H
   have c3b0 : decide (0 ≤ a0) = true := decide_eq_true c3; clear c3; by_cases c4 : a0 < (l1_0.length : Int)
   ·rw [if_pos c4] at H
    have c4b0 : decide (a0 < (l1_0.length : Int)) = true := decide_eq_true c4; clear c4; obtain rfl := Option.some.inj H; have hx269_0 := HQ1_0.out; have p270 : 0 ≤ (a0 : Int) := of_decide_eq_true d7_5; have q270 : a0 < (l1_0.length : Int) := of_decide_eq_true d7_5; obtain ⟨ad270, e270, hx270_0, hx270_1, hx270_2, hx270_3⟩ := at_T57 HR1_0.out a0 p270 q270
    cases e270
    replace p270 := eq_true p270; replace q270 := eq_true q270; go_enter Tryd.func55, Tryd.ntmps55; go_wp2; go_ret; exact ⟨by first | rfl | (simp; done) | (simp [*]; done) | (simp [ne_nil_b, eq_nil_b]; done), c7_3⟩
   ·rw [if_neg c4] at H
    exact absurd H (by simp)
  ·rw [if_neg c3] at H
   exact absurd H (by simp)

/-! ### impl_isUp__impl_datumFault_1: function 54 -/
def impl_isUp__impl_datumFault_1.l0 : Nat → Int → Int → List (S57) → Option (Bool)
  | 0, _, _, _ => none
  | k + 1, x2, x7, x1000 => if x7 ≥ 0 then (if x7 = x2 then (some true) else ((impl_datumFault_1.f x7 x1000).bind fun t272 => (impl_isUp__impl_datumFault_1.l0 k x2 t272 x1000))) else (some false)
def impl_isUp__impl_datumFault_1.f (k : Nat) (l0_0 : List (S57)) (a1 : Int) (a2 : Int) : Option (Bool) := impl_isUp__impl_datumFault_1.l0 k a2 a1 l0_0
theorem impl_isUp__impl_datumFault_1.mono_l : ∀ k, (∀ y0 y1 y2, LeO (impl_isUp__impl_datumFault_1.l0 k y0 y1 y2) (impl_isUp__impl_datumFault_1.l0 (k + 1) y0 y1 y2))
  | 0 => fun _ _ _ r h => by simp [impl_isUp__impl_datumFault_1.l0] at h
  | k + 1 => by
    have ih0 := impl_isUp__impl_datumFault_1.mono_l k
    · intro y0 y1 y2
      unfold impl_isUp__impl_datumFault_1.l0
      exact zm7_0
theorem impl_isUp__impl_datumFault_1.mono : ∀ a0 a1 a2 k, LeO (impl_isUp__impl_datumFault_1.f k a0 a1 a2) (impl_isUp__impl_datumFault_1.f (k + 1) a0 a1 a2) := by
  intro a0 a1 a2 k; have ih0 := impl_isUp__impl_datumFault_1.mono_l k; unfold impl_isUp__impl_datumFault_1.f
  exact zm7_0
theorem impl_isUp__impl_datumFault_1.calls (k : Nat) (P0_0 : Addr) (A0_0 : Option Addr) (c0_0 : Nat) (l0_0 : List (S57)) (a1 : Int) (a2 : Int) (r : Bool) (w : World) (hq0_0 : w.cell? P0_0 = some (.slice A0_0 l0_0.length c0_0)) (hr0_0 : Kd.C k57 w A0_0 l0_0.length l0_0) (hc0_0 : l0_0.length ≤ c0_0) (h : impl_isUp__impl_datumFault_1.f k l0_0 a1 a2 = some r) :
    Calls Tryd.prog 54 #[.func (.func 55) #[] #[.pointer (some P0_0)], .int .i64 a1, .int .i64 a2] w fun e w' => e = .returned (.bool r) ∧ Drawn0 w w' := by
  have HQ0_0 := ak hq0_0; clear hq0_0; have HR0_0 := ak hr0_0; have HC0_0 := ak hc0_0; clear hr0_0 hc0_0; have H := h; clear h; unfold impl_isUp__impl_datumFault_1.f at H; have H' := ak H; clear H; go_enter Tryd.func54, Tryd.ntmps54; go_wp2; go_loopg [7] k (fun kq v7 w' => ∃ (x7_1 : Int), v7 = .int .i64 x7_1 ∧ Aside0 (impl_isUp__impl_datumFault_1.l0 kq a2 x7_1 l0_0 = some r) ∧ Aside0 (kq ≤ k) ∧ Drawn0 w w')
  case atStart => exact ⟨(a1), d7_6, H', ⟨Nat.le_refl _⟩, c7_3⟩
  case round =>
   clear H'
   try clear p2
   obtain ⟨x7_1, rfl, HA, HK1, ⟨m1, rfl⟩⟩ := hrel
   cases gk with
   | zero => exact absurd HA.out (by simp [impl_isUp__impl_datumFault_1.l0])
   | succ k1 =>
    have H := HA.out; clear HA; simp only [impl_isUp__impl_datumFault_1.l0] at H; by_cases c4 : x7_1 ≥ 0
    ·rw [if_pos c4] at H
     have c4b0 : decide (0 ≤ x7_1) = true := decide_eq_true c4; clear c4; by_cases c5 : x7_1 = a2
     ·rw [if_pos c5] at H
      obtain ⟨c5b0, c5b1⟩ := zbt_ c5; clear c5; obtain rfl := Option.some.inj H; go_wp2; go_ret; exact ⟨by first | rfl | (simp; done) | (simp [*]; done) | (simp [ne_nil_b, eq_nil_b]; done), c7_3⟩
     ·rw [if_neg c5] at H
      obtain ⟨c5b0, c5b1⟩ := zbf_ c5; obtain ⟨t272, A6, H⟩ := zbi_ H; (try dsimp -simprocs only at H); have H' := ak H; clear H; have hx271_0 := HQ0_0.out; go_wp2_with (first | (go_at_call 55; (with_reducible refine (impl_datumFault_1.calls x7_1 _ A0_0 c0_0 l0_0 t272 _ ?side1 ?side2 ?side3 A6.out).mono ?_); (case side1 => first | exact hx271_0 | (refine Eq.trans ?_ hx271_0; simp only [go_sem])); (case side2 => repeat (first | exact HR0_0.out | (with_reducible refine Kd.C_alloc ?_ _) | (with_reducible refine Kd.C_drewN ?_ _) | (with_reducible refine Kd.C_drew ?_))); (case side3 => exact HC0_0.out); rintro e w' ⟨rfl, ⟨nd, rfl⟩⟩)); go_roundg k1
      case measure => have := HK1.out; omega
      case rel => exact ⟨(t272), d7_6, H', ⟨by have := HK1.out; omega⟩, c7_3⟩
    ·rw [if_neg c4] at H
     have c4b0 : decide (0 ≤ x7_1) = false := decide_eq_false c4; clear c4; obtain rfl := Option.some.inj H; go_wp2; go_ret; exact ⟨by first | rfl | (simp; done) | (simp [*]; done) | (simp [ne_nil_b, eq_nil_b]; done), c7_3⟩

end Go.Proofs.YtolhanigjmhkgabDoor.A
