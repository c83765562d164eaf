/- Walks of the program's functions: each Go function's answer as a plain Lean function, and that the call comes to it. Written by a program. Conditions: those in each theorem's own head. -/
import Derived.Test.YtolhanigjmhkgabDoorA0
import Derived.Test.YtolhanigjmhkgabDoorA6
import Derived.Test.YtolhanigjmhkgabDoorA7
namespace Go.Proofs.YtolhanigjmhkgabDoor.A
open Go.RowKit Go.Proofs.YtolhanigjmhkgabDoorW.PrintWords Go.Proofs.YtolhanigjmhkgabDoorW.PrintLast Go.Proofs.YtolhanigjmhkgabDoorW.PrintMore
attribute [local go_sem] max2_int min2_int max_two min_two max_three min_three max_four min_four   -- for this text's walks alone
set_option linter.unusedVariables false
set_option linter.unusedSimpArgs false

theorem b8N {w : World} {g : Nat} {o : Obj} (h : w.heap[g]? = some o) (n : Nat) : (w.drewN n).heap[g]? = some o := h
theorem b8D {w : World} {g : Nat} {o : Obj} (h : w.heap[g]? = some o) : (w.drew).heap[g]? = some o := h
theorem b8L {w : World} {g : Nat} {o : Obj} (h : w.heap[g]? = some o) (o' : Obj) : (w.alloc o').heap[g]? = some o := blk_alloc h o'
theorem d8_1 {p : Prop} (h : p := by (try simp only [List.map_toArray, List.map_cons, List.map_nil]); first | done | rfl | (simp only [List.length_drop, List.length_take]; rfl)) : p := h
theorem d8_2 {p : Prop} (h : p := by (with_reducible repeat first | apply b8N | apply b8D | apply b8L); exact BK273.out) : p := h
theorem d8_3 {p : Prop} (h : p := by repeat (first | (with_reducible first | exact HB.out | apply below_alloc | apply pw_below_drewN | apply below_drew1 | refine below_set ?_ GE273.out | refine below_set ?_ GE275.out) | exact HB.out)) : p := h
theorem d8_4 {p : Prop} (h : p := by (with_reducible repeat first | apply b8N | apply b8D | apply b8L); exact BK275.out) : p := h
theorem d8_5 {p : Prop} (h : p := by repeat (first | (with_reducible first | exact HB.out | apply below_alloc | apply pw_below_drewN | apply below_drew1 | refine below_set ?_ GE273.out) | exact HB.out)) : p := h
theorem c8_1 {p : Prop} (h : p := by repeat (first | (with_reducible first | exact HB.out | apply below_alloc | apply pw_below_drewN | apply below_drew1 | refine below_set ?_ GE273.out | refine below_set ?_ GE275.out) | exact HB.out)) : p := h
theorem c8_2 {p : Prop} (h : p := by (with_reducible repeat first | apply b8N | apply b8D | apply b8L); refine blk_far ?_ NB273_275.out _; (with_reducible repeat first | apply b8N | apply b8D | apply b8L); refine blk_far ?_ NB273_275.out _; (with_reducible repeat first | apply b8N | apply b8D | apply b8L); refine blk_far ?_ NB273_275.out _; (with_reducible repeat first | apply b8N | apply b8D | apply b8L); refine blk_far ?_ NB273_275.out _; (with_reducible repeat first | apply b8N | apply b8D | apply b8L); exact BK273.out) : p := h
theorem c8_3 {p : Prop} (h : p := by first | rfl | (simp [errW_none, errW_some] <;> rfl) | (simp [*, errW_none, errW_some] <;> rfl)) : p := h
theorem c8_4 {p : Prop} (h : p := by repeat (first | exact (Kd.C_below HR0.out HB.out) | (with_reducible refine Kd.C_alloc ?_ _) | (with_reducible refine Kd.C_drewN ?_ _) | (with_reducible refine Kd.C_drew ?_))) : p := h
set_option maxHeartbeats 8000000
set_option maxRecDepth 100000
theorem z8c {w : World} {g : Nat} {t : TypeId} {cs : Array Value} (h : w.heap[g]? = some (.cells cs t (0, 0))) (i : Nat) {v : Value} (e : cs[i]? = some v) : w.cell? ⟨g, i, none⟩ = some v := (blk_cell h i).trans e
theorem z8f {w : World} {g : Nat} {t : TypeId} {cs : Array Value} (h : w.heap[g]? = some (.cells cs t (0, 0))) (i : Nat) : w.frozen? ⟨g, i, none⟩ = false := blk_frozen h i
theorem zm8_0 {p : Prop} (h : p := by repeat' first | (with_reducible first | apply ih0 | apply ih1 | apply impl_deep.mono | apply impl_isUp__impl_datumFault_1.mono | exact LeO.refl _ | exact LeO.none _ | refine LeO.ite ?_ ?_ | refine LeO.bind ?_ (fun _ => ?_)) | apply ih0 | apply ih1 | apply impl_deep.mono | apply impl_isUp__impl_datumFault_1.mono | exact LeO.none _ | refine LeO.ite ?_ ?_ | refine LeO.bind ?_ (fun _ => ?_)) : p := h

/-! ### impl_datumFault: function 48 -/
mutual
def impl_datumFault.j0 : Nat → Int → List (S57) → Int → Int → Int → ByteArray → Option (Int)
  | 0, _, _, _, _, _, _ => none
  | k + 1, x1, x274000, x276000, x276001, x276002, x276003 => (impl_kindFault.f x276000 1 3 2 x276002 x276003).bind fun t277 => (if t277 = 0 then (if x1 = 0 then (if x276001 = (-1) then (some 0) else (some 3)) else ((impl_in.f x276001 0 (wrap64 (x1 - 1))).bind fun t278 => (if t278 = true then (if 0 ≤ x276001 then (if x276001 < (x274000.length : Int) then (if ((rd_T57 x274000 x276001).f0) = 4 then ((impl_isUp__impl_datumFault_1.f k x274000 (wrap64 (x1 - 1)) x276001).bind fun t280 => (impl_datumFault.j1 k x1 (!t280) x274000)) else (impl_datumFault.j1 k x1 true x274000)) else (none)) else (none)) else (some 3)))) else (some t277))
def impl_datumFault.j1 : Nat → Int → Bool → List (S57) → Option (Int)
  | 0, _, _, _ => none
  | k + 1, x1, x63, x274000 => if x63 = true then (some 1) else ((impl_deep.f k x274000 x1).bind fun t281 => (if t281 > 12 then (some 2) else (some 0)))
end
def impl_datumFault.f (k : Nat) (l0 : List (S57)) (a1 : Int) : Option (Int) := if 0 ≤ a1 then (if a1 < (l0.length : Int) then ((impl_in.f ((rd_T57 l0 a1).f0) 1 4).bind fun t276 => (if t276 = true then (if ((rd_T57 l0 a1).f2) = 0 then (if ((rd_T57 l0 a1).f3).toList = ([] : List UInt8) then (impl_datumFault.j0 k a1 l0 ((rd_T57 l0 a1).f0) ((rd_T57 l0 a1).f1) ((rd_T57 l0 a1).f2) ((rd_T57 l0 a1).f3)) else (if ((rd_T57 l0 a1).f0) = 3 then (impl_datumFault.j0 k a1 l0 ((rd_T57 l0 a1).f0) ((rd_T57 l0 a1).f1) ((rd_T57 l0 a1).f2) ((rd_T57 l0 a1).f3)) else (some 1))) else (if ((rd_T57 l0 a1).f0) = 1 then (if ((rd_T57 l0 a1).f3).toList = ([] : List UInt8) then (impl_datumFault.j0 k a1 l0 ((rd_T57 l0 a1).f0) ((rd_T57 l0 a1).f1) ((rd_T57 l0 a1).f2) ((rd_T57 l0 a1).f3)) else (if ((rd_T57 l0 a1).f0) = 3 then (impl_datumFault.j0 k a1 l0 ((rd_T57 l0 a1).f0) ((rd_T57 l0 a1).f1) ((rd_T57 l0 a1).f2) ((rd_T57 l0 a1).f3)) else (some 1))) else (if ((rd_T57 l0 a1).f0) = 2 then (if ((rd_T57 l0 a1).f3).toList = ([] : List UInt8) then (impl_datumFault.j0 k a1 l0 ((rd_T57 l0 a1).f0) ((rd_T57 l0 a1).f1) ((rd_T57 l0 a1).f2) ((rd_T57 l0 a1).f3)) else (if ((rd_T57 l0 a1).f0) = 3 then (impl_datumFault.j0 k a1 l0 ((rd_T57 l0 a1).f0) ((rd_T57 l0 a1).f1) ((rd_T57 l0 a1).f2) ((rd_T57 l0 a1).f3)) else (some 1))) else (some 1)))) else (some 1))) else (none)) else (none)
theorem impl_datumFault.mono_l : ∀ k, (∀ y0 y1 y2 y3 y4 y5, LeO (impl_datumFault.j0 k y0 y1 y2 y3 y4 y5) (impl_datumFault.j0 (k + 1) y0 y1 y2 y3 y4 y5)) ∧ (∀ y0 y1 y2, LeO (impl_datumFault.j1 k y0 y1 y2) (impl_datumFault.j1 (k + 1) y0 y1 y2))
  | 0 => ⟨fun _ _ _ _ _ _ r h => by simp [impl_datumFault.j0] at h, fun _ _ _ r h => by simp [impl_datumFault.j1] at h⟩
  | k + 1 => by
    obtain ⟨ih0, ih1⟩ := impl_datumFault.mono_l k; refine ⟨?_, ?_⟩
    all_goals
      intros
      first | unfold impl_datumFault.j0 | unfold impl_datumFault.j1
      exact zm8_0
theorem impl_datumFault.mono : ∀ a0 a1 k, LeO (impl_datumFault.f k a0 a1) (impl_datumFault.f (k + 1) a0 a1) := by
  intro a0 a1 k; obtain ⟨ih0, ih1⟩ := impl_datumFault.mono_l k; unfold impl_datumFault.f
  exact zm8_0
theorem impl_datumFault.calls (k : Nat) (A0 : Option Addr) (c0 : Nat) (l0 : List (S57)) (a1 : Int) (r : Int) (w : World) (hr0 : Kd.C k57 w A0 l0.length l0) (hc0 : l0.length ≤ c0) (h : impl_datumFault.f k l0 a1 = some r) :
    Calls Tryd.prog 48 #[.slice A0 l0.length c0, .int .i64 a1] w fun e w' => e = .returned (.int .i64 r) ∧ Below w.heap.size w w' := by
  have hu33 := Tryd.underlying33; have hu57 := Tryd.underlying57; have HR0 := ak hr0; have HC0 := ak hc0; clear hr0 hc0; have HB := ak (Below.refl w.heap.size w); have H := h; clear h; unfold impl_datumFault.f at H; by_cases c3 : 0 ≤ a1
  ·rw [if_pos c3] at H
   have c3b0 : decide (0 ≤ a1) = true := decide_eq_true c3; clear c3; by_cases c4 : a1 < (l0.length : Int)
   ·rw [if_pos c4] at H
    have c4b0 : decide (a1 < (l0.length : Int)) = true := decide_eq_true c4; clear c4; have HC5 := ak H; clear H; go_enter Tryd.func48, Tryd.ntmps48
    go_upto_block 0 with (first | ((with_reducible refine gate_dst (N := 2) rfl ?_); refine box_event ?hg (N := 2) ?hd (cs := #[.slice A0 l0.length c0]) (t := 33) ?hr ?_; (case hd => rfl); (case hg => rfl); (case hr => first | (go_simp; done) | (go_simp; rfl)); intro gb273 hg w6 hbox hb; have BK273 := ak (hbox); have GW273 := ak ((by rw [hg]; exact (below_size (by repeat (first | (with_reducible first | exact HB.out | apply below_alloc | apply pw_below_drewN | apply below_drew1) | exact HB.out))) : w.heap.size ≤ gb273)); have GE273 := ak ((by rw [hg]; exact (below_size (by repeat (first | (with_reducible first | exact HB.out | apply below_alloc | apply pw_below_drewN | apply below_drew1) | exact HB.out))) : w.heap.size ≤ gb273)); replace HB := ak (below_step (by repeat (first | (with_reducible first | exact HB.out | apply below_alloc | apply pw_below_drewN | apply below_drew1) | exact HB.out)) hb); clear hb hbox hg; obtain ⟨hcz7_0, hfz7_0⟩ := zx1_ BK273.out; have p274 : 0 ≤ (a1 : Int) := of_decide_eq_true (by first | (with_reducible assumption) | assumption); have q274 : a1 < (l0.length : Int) := of_decide_eq_true (by first | (with_reducible assumption) | assumption); obtain ⟨ad274, e274, hx274_0, hx274_1, hx274_2, hx274_3⟩ := at_T57 HR0.out a1 p274 q274; cases e274; replace hx274_0 := zkc_ HB.out hx274_0; replace hx274_1 := zkc_ HB.out hx274_1; replace hx274_2 := zkc_ HB.out hx274_2; replace hx274_3 := zkc_ HB.out hx274_3; replace p274 := eq_true p274; replace q274 := eq_true q274) | ((with_reducible refine gate_dst (N := 5) rfl ?_); refine box_event ?hg (N := 5) ?hd (cs := #[.int .i64 0, .int .i64 0, .int .i64 0, .string (⟨#[]⟩ : ByteArray)]) (t := 57) ?hr ?_; (case hd => rfl); (case hg => rfl); (case hr => first | (go_simp; done) | (go_simp; rfl)); intro gb275 hg w8 hbox hb; have BK275 := ak (hbox); have GW275 := ak ((by rw [hg]; exact (below_size d8_5) : w.heap.size ≤ gb275)); have GE275 := ak ((by rw [hg]; exact (below_size d8_5) : w.heap.size ≤ gb275)); obtain ⟨NB273_275, NB275_273⟩ := zne_ (g := gb273) hg d8_2; replace BK273 := zbb_ (g := gb273) hb d8_2; replace HB := ak (below_step d8_5 hb); clear hb hbox hg; have hnb9 := NB275_273.out; have hnc9 := NB273_275.out; obtain ⟨hcz10_0, hcz10_1, hcz10_2, hcz10_3, hfz10_0, hfz10_1, hfz10_2, hfz10_3⟩ := zx4_ BK275.out))
    (try simp only [Act.put, List.setIfInBounds_toArray, List.set_cons_zero, List.set_cons_succ])
    go_cut [] (fun wc => ∃ (kq : Nat), Aside0 (impl_datumFault.j0 kq a1 l0 ((rd_T57 l0 a1).f0) ((rd_T57 l0 a1).f1) ((rd_T57 l0 a1).f2) ((rd_T57 l0 a1).f3) = some r) ∧ Aside0 (kq ≤ k) ∧ Aside0 (wc.heap[gb273]? = some (.cells #[(.slice (some ad274) l0.length c0)] 33 (0, 0))) ∧ Aside0 (wc.heap[gb275]? = some (.cells #[.int .i64 ((rd_T57 l0 a1).f0), .int .i64 ((rd_T57 l0 a1).f1), .int .i64 ((rd_T57 l0 a1).f2), .string ((rd_T57 l0 a1).f3)] 57 (0, 0))) ∧ Aside0 (Below w.heap.size w wc))
    case first =>
     have H := HC5.out; clear HC5; obtain ⟨t276, A11, H⟩ := zbi_ H; (try dsimp -simprocs only at H); by_cases c12 : t276 = true
     ·subst c12
      rw [if_pos rfl] at H; by_cases c13 : ((rd_T57 l0 a1).f2) = 0
      ·rw [if_pos c13] at H
       obtain ⟨c13b0, c13b1⟩ := zbt_ c13; clear c13
       (first | rw [c13b0] | (simp only [i64_w, i32_w]; rw [c13b0]) | skip)
       by_cases c14 : ((rd_T57 l0 a1).f3).toList = ([] : List UInt8)
       ·rw [if_pos c14] at H
        obtain ⟨c14b0, c14b1⟩ := zbt_ c14; clear c14; have H' := ak H; clear H; have hnb15 := NB275_273.out; have hnc15 := NB273_275.out; obtain ⟨hcz16_0, hcz16_1, hcz16_2, hcz16_3, hfz16_0, hfz16_1, hfz16_2, hfz16_3⟩ := zx4_ BK275.out; go_wp2_with (first | ((with_reducible refine gate_callee (f := 47) rfl ?_); refine zgo_ 14 Tryd.func47 #[.int .i64 ((rd_T57 l0 a1).f0), .int .i64 1, .int .i64 4] ?_ (e := d8_1); (with_reducible refine (impl_in.calls ((rd_T57 l0 a1).f0) 1 4 true _ A11.out).mono ?_); rintro e w' ⟨rfl, ⟨nd, rfl⟩⟩; refine ⟨_, rfl, ?_⟩)); go_meet
        case rel => exact ⟨_, H', ⟨by first | exact Nat.le_refl _ | omega⟩, ⟨c8_2⟩, ⟨by refine zpl_ ?_; refine zp4_ (.int .i64 0) (.int .i64 0) (.int .i64 0) (.string (⟨#[]⟩ : ByteArray)) ?_; refine zpl_ ?_; exact BK275.out⟩, ⟨c8_1⟩⟩
       ·rw [if_neg c14] at H
        obtain ⟨c14b0, c14b1⟩ := zbf_ c14; by_cases c17 : ((rd_T57 l0 a1).f0) = 3
        ·rw [if_pos c17] at H
         obtain ⟨c17b0, c17b1⟩ := zbt_ c17; clear c17; have H' := ak H; clear H; have hnb18 := NB275_273.out; have hnc18 := NB273_275.out; obtain ⟨hcz19_0, hcz19_1, hcz19_2, hcz19_3, hfz19_0, hfz19_1, hfz19_2, hfz19_3⟩ := zx4_ BK275.out; go_wp2_with (first | ((with_reducible refine gate_callee (f := 47) rfl ?_); refine zgo_ 14 Tryd.func47 #[.int .i64 ((rd_T57 l0 a1).f0), .int .i64 1, .int .i64 4] ?_ (e := d8_1); (with_reducible refine (impl_in.calls ((rd_T57 l0 a1).f0) 1 4 true _ A11.out).mono ?_); rintro e w' ⟨rfl, ⟨nd, rfl⟩⟩; refine ⟨_, rfl, ?_⟩)); go_meet
         case rel => exact ⟨_, H', ⟨by first | exact Nat.le_refl _ | omega⟩, ⟨c8_2⟩, ⟨by refine zpl_ ?_; refine zp4_ (.int .i64 0) (.int .i64 0) (.int .i64 0) (.string (⟨#[]⟩ : ByteArray)) ?_; refine zpl_ ?_; exact BK275.out⟩, ⟨c8_1⟩⟩
        ·rw [if_neg c17] at H
         obtain ⟨c17b0, c17b1⟩ := zbf_ c17; obtain rfl := Option.some.inj H; have hnb20 := NB275_273.out; have hnc20 := NB273_275.out; obtain ⟨hcz21_0, hcz21_1, hcz21_2, hcz21_3, hfz21_0, hfz21_1, hfz21_2, hfz21_3⟩ := zx4_ BK275.out; go_wp2_with (first | ((with_reducible refine gate_callee (f := 47) rfl ?_); refine zgo_ 14 Tryd.func47 #[.int .i64 ((rd_T57 l0 a1).f0), .int .i64 1, .int .i64 4] ?_ (e := d8_1); (with_reducible refine (impl_in.calls ((rd_T57 l0 a1).f0) 1 4 true _ A11.out).mono ?_); rintro e w' ⟨rfl, ⟨nd, rfl⟩⟩; refine ⟨_, rfl, ?_⟩)); go_ret; exact ⟨c8_3, c8_1⟩
      ·rw [if_neg c13] at H
       obtain ⟨c13b0, c13b1⟩ := zbf_ c13
       (first | rw [c13b0] | (simp only [i64_w, i32_w]; rw [c13b0]) | skip)
       by_cases c22 : ((rd_T57 l0 a1).f0) = 1
       ·rw [if_pos c22] at H
        obtain ⟨c22b0, c22b1⟩ := zbt_ c22; clear c22; by_cases c23 : ((rd_T57 l0 a1).f3).toList = ([] : List UInt8)
        ·rw [if_pos c23] at H
         obtain ⟨c23b0, c23b1⟩ := zbt_ c23; clear c23; have H' := ak H; clear H; have hnb24 := NB275_273.out; have hnc24 := NB273_275.out; obtain ⟨hcz25_0, hcz25_1, hcz25_2, hcz25_3, hfz25_0, hfz25_1, hfz25_2, hfz25_3⟩ := zx4_ BK275.out; go_wp2_with (first | ((with_reducible refine gate_callee (f := 47) rfl ?_); refine zgo_ 14 Tryd.func47 #[.int .i64 ((rd_T57 l0 a1).f0), .int .i64 1, .int .i64 4] ?_ (e := d8_1); (with_reducible refine (impl_in.calls ((rd_T57 l0 a1).f0) 1 4 true _ A11.out).mono ?_); rintro e w' ⟨rfl, ⟨nd, rfl⟩⟩; refine ⟨_, rfl, ?_⟩)); go_meet
         case rel => exact ⟨_, H', ⟨by first | exact Nat.le_refl _ | omega⟩, ⟨c8_2⟩, ⟨by refine zpl_ ?_; refine zp4_ (.int .i64 0) (.int .i64 0) (.int .i64 0) (.string (⟨#[]⟩ : ByteArray)) ?_; refine zpl_ ?_; exact BK275.out⟩, ⟨c8_1⟩⟩
        ·rw [if_neg c23] at H
         obtain ⟨c23b0, c23b1⟩ := zbf_ c23; by_cases c26 : ((rd_T57 l0 a1).f0) = 3
         ·rw [if_pos c26] at H
          obtain ⟨c26b0, c26b1⟩ := zbt_ c26; clear c26; have H' := ak H; clear H; have hnb27 := NB275_273.out; have hnc27 := NB273_275.out; obtain ⟨hcz28_0, hcz28_1, hcz28_2, hcz28_3, hfz28_0, hfz28_1, hfz28_2, hfz28_3⟩ := zx4_ BK275.out; go_wp2_with (first | ((with_reducible refine gate_callee (f := 47) rfl ?_); refine zgo_ 14 Tryd.func47 #[.int .i64 ((rd_T57 l0 a1).f0), .int .i64 1, .int .i64 4] ?_ (e := d8_1); (with_reducible refine (impl_in.calls ((rd_T57 l0 a1).f0) 1 4 true _ A11.out).mono ?_); rintro e w' ⟨rfl, ⟨nd, rfl⟩⟩; refine ⟨_, rfl, ?_⟩)); go_meet
          case rel => exact ⟨_, H', ⟨by first | exact Nat.le_refl _ | omega⟩, ⟨c8_2⟩, ⟨by refine zpl_ ?_; refine zp4_ (.int .i64 0) (.int .i64 0) (.int .i64 0) (.string (⟨#[]⟩ : ByteArray)) ?_; refine zpl_ ?_; exact BK275.out⟩, ⟨c8_1⟩⟩
         ·rw [if_neg c26] at H
          obtain ⟨c26b0, c26b1⟩ := zbf_ c26; obtain rfl := Option.some.inj H; have hnb29 := NB275_273.out; have hnc29 := NB273_275.out; obtain ⟨hcz30_0, hcz30_1, hcz30_2, hcz30_3, hfz30_0, hfz30_1, hfz30_2, hfz30_3⟩ := zx4_ BK275.out; go_wp2_with (first | ((with_reducible refine gate_callee (f := 47) rfl ?_); refine zgo_ 14 Tryd.func47 #[.int .i64 ((rd_T57 l0 a1).f0), .int .i64 1, .int .i64 4] ?_ (e := d8_1); (with_reducible refine (impl_in.calls ((rd_T57 l0 a1).f0) 1 4 true _ A11.out).mono ?_); rintro e w' ⟨rfl, ⟨nd, rfl⟩⟩; refine ⟨_, rfl, ?_⟩)); go_ret; exact ⟨c8_3, c8_1⟩
       ·rw [if_neg c22] at H
        obtain ⟨c22b0, c22b1⟩ := zbf_ c22; by_cases c31 : ((rd_T57 l0 a1).f0) = 2
        ·rw [if_pos c31] at H
         obtain ⟨c31b0, c31b1⟩ := zbt_ c31; clear c31; by_cases c32 : ((rd_T57 l0 a1).f3).toList = ([] : List UInt8)
         ·rw [if_pos c32] at H
          obtain ⟨c32b0, c32b1⟩ := zbt_ c32; clear c32; have H' := ak H; clear H; have hnb33 := NB275_273.out; have hnc33 := NB273_275.out; obtain ⟨hcz34_0, hcz34_1, hcz34_2, hcz34_3, hfz34_0, hfz34_1, hfz34_2, hfz34_3⟩ := zx4_ BK275.out; go_wp2_with (first | ((with_reducible refine gate_callee (f := 47) rfl ?_); refine zgo_ 14 Tryd.func47 #[.int .i64 ((rd_T57 l0 a1).f0), .int .i64 1, .int .i64 4] ?_ (e := d8_1); (with_reducible refine (impl_in.calls ((rd_T57 l0 a1).f0) 1 4 true _ A11.out).mono ?_); rintro e w' ⟨rfl, ⟨nd, rfl⟩⟩; refine ⟨_, rfl, ?_⟩)); go_meet
          case rel => exact ⟨_, H', ⟨by first | exact Nat.le_refl _ | omega⟩, ⟨c8_2⟩, ⟨by refine zpl_ ?_; refine zp4_ (.int .i64 0) (.int .i64 0) (.int .i64 0) (.string (⟨#[]⟩ : ByteArray)) ?_; refine zpl_ ?_; exact BK275.out⟩, ⟨c8_1⟩⟩
         ·rw [if_neg c32] at H
          obtain ⟨c32b0, c32b1⟩ := zbf_ c32; by_cases c35 : ((rd_T57 l0 a1).f0) = 3
          ·rw [if_pos c35] at H
           obtain ⟨c35b0, c35b1⟩ := zbt_ c35; clear c35; have H' := ak H; clear H; have hnb36 := NB275_273.out; have hnc36 := NB273_275.out; obtain ⟨hcz37_0, hcz37_1, hcz37_2, hcz37_3, hfz37_0, hfz37_1, hfz37_2, hfz37_3⟩ := zx4_ BK275.out; go_wp2_with (first | ((with_reducible refine gate_callee (f := 47) rfl ?_); refine zgo_ 14 Tryd.func47 #[.int .i64 ((rd_T57 l0 a1).f0), .int .i64 1, .int .i64 4] ?_ (e := d8_1); (with_reducible refine (impl_in.calls ((rd_T57 l0 a1).f0) 1 4 true _ A11.out).mono ?_); rintro e w' ⟨rfl, ⟨nd, rfl⟩⟩; refine ⟨_, rfl, ?_⟩)); go_meet
           case rel => exact ⟨_, H', ⟨by first | exact Nat.le_refl _ | omega⟩, ⟨c8_2⟩, ⟨by refine zpl_ ?_; refine zp4_ (.int .i64 0) (.int .i64 0) (.int .i64 0) (.string (⟨#[]⟩ : ByteArray)) ?_; refine zpl_ ?_; exact BK275.out⟩, ⟨c8_1⟩⟩
          ·rw [if_neg c35] at H
           obtain ⟨c35b0, c35b1⟩ := zbf_ c35; obtain rfl := Option.some.inj H; have hnb38 := NB275_273.out; have hnc38 := NB273_275.out; obtain ⟨hcz39_0, hcz39_1, hcz39_2, hcz39_3, hfz39_0, hfz39_1, hfz39_2, hfz39_3⟩ := zx4_ BK275.out; go_wp2_with (first | ((with_reducible refine gate_callee (f := 47) rfl ?_); refine zgo_ 14 Tryd.func47 #[.int .i64 ((rd_T57 l0 a1).f0), .int .i64 1, .int .i64 4] ?_ (e := d8_1); (with_reducible refine (impl_in.calls ((rd_T57 l0 a1).f0) 1 4 true _ A11.out).mono ?_); rintro e w' ⟨rfl, ⟨nd, rfl⟩⟩; refine ⟨_, rfl, ?_⟩)); go_ret; exact ⟨c8_3, c8_1⟩
        ·rw [if_neg c31] at H
         obtain ⟨c31b0, c31b1⟩ := zbf_ c31; obtain rfl := Option.some.inj H; have hnb40 := NB275_273.out; have hnc40 := NB273_275.out; obtain ⟨hcz41_0, hcz41_1, hcz41_2, hcz41_3, hfz41_0, hfz41_1, hfz41_2, hfz41_3⟩ := zx4_ BK275.out; go_wp2_with (first | ((with_reducible refine gate_callee (f := 47) rfl ?_); refine zgo_ 14 Tryd.func47 #[.int .i64 ((rd_T57 l0 a1).f0), .int .i64 1, .int .i64 4] ?_ (e := d8_1); (with_reducible refine (impl_in.calls ((rd_T57 l0 a1).f0) 1 4 true _ A11.out).mono ?_); rintro e w' ⟨rfl, ⟨nd, rfl⟩⟩; refine ⟨_, rfl, ?_⟩)); go_ret; exact ⟨c8_3, c8_1⟩
     ·replace c12 := Bool.eq_false_iff.mpr c12
      subst c12; rw [if_neg (show ¬ (false = true) by decide)] at H; obtain rfl := Option.some.inj H; have hnb42 := NB275_273.out; have hnc42 := NB273_275.out; obtain ⟨hcz43_0, hcz43_1, hcz43_2, hcz43_3, hfz43_0, hfz43_1, hfz43_2, hfz43_3⟩ := zx4_ BK275.out; go_wp2_with (first | ((with_reducible refine gate_callee (f := 47) rfl ?_); refine zgo_ 14 Tryd.func47 #[.int .i64 ((rd_T57 l0 a1).f0), .int .i64 1, .int .i64 4] ?_ (e := d8_1); (with_reducible refine (impl_in.calls ((rd_T57 l0 a1).f0) 1 4 false _ A11.out).mono ?_); rintro e w' ⟨rfl, ⟨nd, rfl⟩⟩; refine ⟨_, rfl, ?_⟩)); go_ret; exact ⟨c8_3, c8_1⟩
    case rest =>
     clear HC5
     (try clear p2); (try clear q2); (try clear hx2); (try clear c3 c3b0); (try clear c4 c4b0); (try clear c9); (try clear p27); (try clear q27); (try clear hx27); (try clear hcz10_0 hcz10_1 hcz10_2 hcz10_3 hfz10_0 hfz10_1 hfz10_2 hfz10_3); (try clear hcz7_0 hfz7_0); (try clear hx274_0); (try clear hx274_1); (try clear hx274_2); (try clear hx274_3); (try clear p274); (try clear q274)
     obtain ⟨kq, HA, HJ4, BK273, BK275, HB⟩ := hcut
     cases kq with
     | zero => exact absurd HA.out (by simp [impl_datumFault.j0])
     | succ kj4 =>
      have H := HA.out; clear HA; simp only [impl_datumFault.j0] at H; obtain ⟨t277, A44, H⟩ := zbi_ H; (try dsimp -simprocs only at H); by_cases c45 : t277 = 0
      ·rw [if_pos c45] at H
       obtain ⟨c45b0, c45b1⟩ := zbt_ c45; clear c45; by_cases c46 : a1 = 0
       ·rw [if_pos c46] at H
        obtain ⟨c46b0, c46b1⟩ := zbt_ c46; clear c46; by_cases c47 : ((rd_T57 l0 a1).f1) = (-1)
        ·rw [if_pos c47] at H
         obtain ⟨c47b0, c47b1⟩ := zbt_ c47; clear c47; obtain rfl := Option.some.inj H; have hnb48 := NB275_273.out; have hnc48 := NB273_275.out; obtain ⟨hcz49_0, hcz49_1, hcz49_2, hcz49_3, hfz49_0, hfz49_1, hfz49_2, hfz49_3⟩ := zx4_ BK275.out
         go_wp2_with (first | ((with_reducible refine gate_callee (f := 53) rfl ?_); refine zgo_ 47 Tryd.func53 #[.int .i64 ((rd_T57 l0 a1).f0), .int .i64 1, .int .i64 3, .int .i64 2, .int .i64 ((rd_T57 l0 a1).f2), .string ((rd_T57 l0 a1).f3)] ?_ (e := d8_1); (with_reducible refine (impl_kindFault.calls ((rd_T57 l0 a1).f0) 1 3 2 ((rd_T57 l0 a1).f2) ((rd_T57 l0 a1).f3) t277 _ A44.out).mono ?_); rintro e w50 ⟨rfl, hb⟩; refine ⟨_, rfl, ?_⟩; replace BK273 := zbb_ (g := gb273) hb d8_2; replace BK275 := zbb_ (g := gb275) hb d8_4; replace HB := ak (below_step d8_3 hb); (try clear hb); obtain ⟨hcz51_0, hcz51_1, hcz51_2, hcz51_3, hfz51_0, hfz51_1, hfz51_2, hfz51_3⟩ := zx4_ BK275.out)); go_ret; exact ⟨c8_3, c8_1⟩
        ·rw [if_neg c47] at H
         obtain ⟨c47b0, c47b1⟩ := zbf_ c47; obtain rfl := Option.some.inj H; have hnb52 := NB275_273.out; have hnc52 := NB273_275.out; obtain ⟨hcz53_0, hcz53_1, hcz53_2, hcz53_3, hfz53_0, hfz53_1, hfz53_2, hfz53_3⟩ := zx4_ BK275.out
         go_wp2_with (first | ((with_reducible refine gate_callee (f := 53) rfl ?_); refine zgo_ 47 Tryd.func53 #[.int .i64 ((rd_T57 l0 a1).f0), .int .i64 1, .int .i64 3, .int .i64 2, .int .i64 ((rd_T57 l0 a1).f2), .string ((rd_T57 l0 a1).f3)] ?_ (e := d8_1); (with_reducible refine (impl_kindFault.calls ((rd_T57 l0 a1).f0) 1 3 2 ((rd_T57 l0 a1).f2) ((rd_T57 l0 a1).f3) t277 _ A44.out).mono ?_); rintro e w54 ⟨rfl, hb⟩; refine ⟨_, rfl, ?_⟩; replace BK273 := zbb_ (g := gb273) hb d8_2; replace BK275 := zbb_ (g := gb275) hb d8_4; replace HB := ak (below_step d8_3 hb); (try clear hb); obtain ⟨hcz55_0, hcz55_1, hcz55_2, hcz55_3, hfz55_0, hfz55_1, hfz55_2, hfz55_3⟩ := zx4_ BK275.out)); go_ret; exact ⟨c8_3, c8_1⟩
       ·rw [if_neg c46] at H
        obtain ⟨c46b0, c46b1⟩ := zbf_ c46; obtain ⟨t278, A56, H⟩ := zbi_ H; (try dsimp -simprocs only at H); by_cases c57 : t278 = true
        ·subst c57
         rw [if_pos rfl] at H; have HC58 := ak H; clear H; have hnb59 := NB275_273.out; have hnc59 := NB273_275.out; obtain ⟨hcz60_0, hcz60_1, hcz60_2, hcz60_3, hfz60_0, hfz60_1, hfz60_2, hfz60_3⟩ := zx4_ BK275.out
         go_upto_region 13 with (first | ((with_reducible refine gate_callee (f := 53) rfl ?_); refine zgo_ 47 Tryd.func53 #[.int .i64 ((rd_T57 l0 a1).f0), .int .i64 1, .int .i64 3, .int .i64 2, .int .i64 ((rd_T57 l0 a1).f2), .string ((rd_T57 l0 a1).f3)] ?_ (e := d8_1); (with_reducible refine (impl_kindFault.calls ((rd_T57 l0 a1).f0) 1 3 2 ((rd_T57 l0 a1).f2) ((rd_T57 l0 a1).f3) t277 _ A44.out).mono ?_); rintro e w61 ⟨rfl, hb⟩; refine ⟨_, rfl, ?_⟩; replace BK273 := zbb_ (g := gb273) hb d8_2; replace BK275 := zbb_ (g := gb275) hb d8_4; replace HB := ak (below_step d8_3 hb); (try clear hb); obtain ⟨hcz62_0, hcz62_1, hcz62_2, hcz62_3, hfz62_0, hfz62_1, hfz62_2, hfz62_3⟩ := zx4_ BK275.out) | ((with_reducible refine gate_callee (f := 47) rfl ?_); refine zgo_ 61 Tryd.func47 #[.int .i64 ((rd_T57 l0 a1).f1), .int .i64 0, .int .i64 (wrap64 (a1 - 1))] ?_ (e := d8_1); (with_reducible refine (impl_in.calls ((rd_T57 l0 a1).f1) 0 (wrap64 (a1 - 1)) true _ A56.out).mono ?_); rintro e w' ⟨rfl, ⟨nd, rfl⟩⟩; refine ⟨_, rfl, ?_⟩))
         (try simp only [Act.put, List.setIfInBounds_toArray, List.set_cons_zero, List.set_cons_succ])
         go_cut [63] (fun v63 wc => ∃ (kq : Nat) (x63_57 : Bool), v63 = .bool x63_57 ∧ Aside0 (impl_datumFault.j1 kq a1 x63_57 l0 = some r) ∧ Aside0 (kq ≤ kj4) ∧ Aside0 (wc.heap[gb273]? = some (.cells #[(.slice (some ad274) l0.length c0)] 33 (0, 0))) ∧ Aside0 (wc.heap[gb275]? = some (.cells #[.int .i64 ((rd_T57 l0 a1).f0), .int .i64 ((rd_T57 l0 a1).f1), .int .i64 ((rd_T57 l0 a1).f2), .string ((rd_T57 l0 a1).f3)] 57 (0, 0))) ∧ Aside0 (Below w.heap.size w wc))
         case first =>
          have H := HC58.out; clear HC58; by_cases c63 : 0 ≤ ((rd_T57 l0 a1).f1)
          ·rw [if_pos c63] at H
           have c63b0 : decide (0 ≤ ((rd_T57 l0 a1).f1)) = true := decide_eq_true c63; clear c63
           (first | rw [c63b0] | (simp only [i64_w, i32_w]; rw [c63b0]) | skip)
           by_cases c64 : ((rd_T57 l0 a1).f1) < (l0.length : Int)
           ·rw [if_pos c64] at H
            have c64b0 : decide (((rd_T57 l0 a1).f1) < (l0.length : Int)) = true := decide_eq_true c64; clear c64; by_cases c65 : ((rd_T57 l0 ((rd_T57 l0 a1).f1)).f0) = 4
            ·rw [if_pos c65] at H
             obtain ⟨c65b0, c65b1⟩ := zbt_ c65; clear c65; obtain ⟨t280, A66, H⟩ := zbi_ H; (try dsimp -simprocs only at H); have H' := ak H; clear H; have hnb67 := NB273_275.out; have hnc67 := NB275_273.out; obtain ⟨hcz68_0, hfz68_0⟩ := zx1_ BK273.out; obtain ⟨hcz69_0, hcz69_1, hcz69_2, hcz69_3, hfz69_0, hfz69_1, hfz69_2, hfz69_3⟩ := zx4_ BK275.out; have p279 : 0 ≤ (((rd_T57 l0 a1).f1) : Int) := of_decide_eq_true (by first | (with_reducible assumption) | assumption)
             have q279 : ((rd_T57 l0 a1).f1) < (l0.length : Int) := of_decide_eq_true (by first | (with_reducible assumption) | assumption); obtain ⟨ad279, e279, hx279_0, hx279_1, hx279_2, hx279_3⟩ := at_T57 HR0.out ((rd_T57 l0 a1).f1) p279 q279; obtain rfl : ad274 = ad279 := (by injection e279); replace hx279_0 := zkc_ HB.out hx279_0; replace hx279_1 := zkc_ HB.out hx279_1; replace hx279_2 := zkc_ HB.out hx279_2; replace hx279_3 := zkc_ HB.out hx279_3; replace p279 := eq_true p279; replace q279 := eq_true q279; go_wp2_with (first | (go_at_call 54; (with_reducible refine (impl_isUp__impl_datumFault_1.calls kj4 ⟨gb273, 0, none⟩ (some ad274) c0 l0 (wrap64 (a1 - 1)) ((rd_T57 l0 a1).f1) t280 _ ?side1 ?side2 ?side3 A66.out).mono ?_); (case side1 => first | exact hcz68_0 | (refine Eq.trans ?_ hcz68_0; simp only [go_sem]) | exact ((blk_cell d8_2 0).trans rfl) | (refine Eq.trans ?_ ((blk_cell d8_2 0).trans rfl); simp only [go_sem])); (case side2 => exact c8_4); (case side3 => exact HC0.out); rintro e w' ⟨rfl, ⟨nd, rfl⟩⟩)); go_meet
             case rel => exact ⟨_, (!t280), (by first | rfl | (simp; done) | (simp [*]; done) | (simp [ne_nil_b, eq_nil_b]; done)), H', ⟨by have := HJ4.out; first | exact Nat.le_refl _ | omega⟩, ⟨zpl_ BK273.out⟩, ⟨zpl_ BK275.out⟩, ⟨c8_1⟩⟩
            ·rw [if_neg c65] at H
             obtain ⟨c65b0, c65b1⟩ := zbf_ c65; have H' := ak H; clear H; have hnb70 := NB273_275.out; have hnc70 := NB275_273.out; obtain ⟨hcz71_0, hfz71_0⟩ := zx1_ BK273.out; obtain ⟨hcz72_0, hcz72_1, hcz72_2, hcz72_3, hfz72_0, hfz72_1, hfz72_2, hfz72_3⟩ := zx4_ BK275.out; have p279 : 0 ≤ (((rd_T57 l0 a1).f1) : Int) := of_decide_eq_true (by first | (with_reducible assumption) | assumption); have q279 : ((rd_T57 l0 a1).f1) < (l0.length : Int) := of_decide_eq_true (by first | (with_reducible assumption) | assumption); obtain ⟨ad279, e279, hx279_0, hx279_1, hx279_2, hx279_3⟩ := at_T57 HR0.out ((rd_T57 l0 a1).f1) p279 q279; obtain rfl : ad274 = ad279 := (by injection e279)
             replace hx279_0 := zkc_ HB.out hx279_0; replace hx279_1 := zkc_ HB.out hx279_1; replace hx279_2 := zkc_ HB.out hx279_2; replace hx279_3 := zkc_ HB.out hx279_3; replace p279 := eq_true p279; replace q279 := eq_true q279; go_wp2; go_meet
             case rel => exact ⟨_, (true), (by first | rfl | (simp; done) | (simp [*]; done) | (simp [ne_nil_b, eq_nil_b]; done)), H', ⟨by have := HJ4.out; first | exact Nat.le_refl _ | omega⟩, ⟨zpl_ BK273.out⟩, ⟨zpl_ BK275.out⟩, ⟨c8_1⟩⟩
           ·rw [if_neg c64] at H
            exact absurd H (by simp)
          ·rw [if_neg c63] at H
           exact absurd H (by simp)
         case rest =>
          clear HC58
          (try clear c1); (try clear c2); (try clear p2 p2); (try clear q2 q2); (try clear hx2); (try clear c3 c3b0); (try clear c4 c4b0); (try clear c5); (try clear p6); (try clear c9); (try clear c12); (try clear c13 c13b0 c13b1); (try clear c14 c14b0 c14b1); (try clear c15); (try clear c17 c17b0 c17b1); (try clear c18); (try clear c20); (try clear c22 c22b0 c22b1); (try clear c23 c23b0 c23b1); (try clear c24); (try clear c26 c26b0 c26b1); (try clear c27); (try clear p27 p27); (try clear q27 q27); (try clear hx27); (try clear c29); (try clear c31 c31b0 c31b1); (try clear c32 c32b0 c32b1); (try clear c33); (try clear c35 c35b0 c35b1); (try clear c36); (try clear c38); (try clear c40); (try clear c42); (try clear c45 c45b0 c45b1); (try clear c46 c46b0 c46b1); (try clear c47 c47b0 c47b1); (try clear c48); (try clear c52); (try clear c53); (try clear c57); (try clear c59); (try clear p64); (try clear hcz10_0 hcz10_1 hcz10_2 hcz10_3 hfz10_0 hfz10_1 hfz10_2 hfz10_3); (try clear hcz16_0 hcz16_1 hcz16_2 hcz16_3 hfz16_0 hfz16_1 hfz16_2 hfz16_3); (try clear hcz19_0 hcz19_1 hcz19_2 hcz19_3 hfz19_0 hfz19_1 hfz19_2 hfz19_3); (try clear hcz21_0 hcz21_1 hcz21_2 hcz21_3 hfz21_0 hfz21_1 hfz21_2 hfz21_3); (try clear hcz25_0 hcz25_1 hcz25_2 hcz25_3 hfz25_0 hfz25_1 hfz25_2 hfz25_3); (try clear hcz28_0 hcz28_1 hcz28_2 hcz28_3 hfz28_0 hfz28_1 hfz28_2 hfz28_3); (try clear hcz30_0 hcz30_1 hcz30_2 hcz30_3 hfz30_0 hfz30_1 hfz30_2 hfz30_3); (try clear hcz34_0 hcz34_1 hcz34_2 hcz34_3 hfz34_0 hfz34_1 hfz34_2 hfz34_3); (try clear hcz37_0 hcz37_1 hcz37_2 hcz37_3 hfz37_0 hfz37_1 hfz37_2 hfz37_3); (try clear hcz39_0 hcz39_1 hcz39_2 hcz39_3 hfz39_0 hfz39_1 hfz39_2 hfz39_3); (try clear hcz41_0 hcz41_1 hcz41_2 hcz41_3 hfz41_0 hfz41_1 hfz41_2 hfz41_3); (try clear hcz43_0 hcz43_1 hcz43_2 hcz43_3 hfz43_0 hfz43_1 hfz43_2 hfz43_3); (try clear hcz49_0 hcz49_1 hcz49_2 hcz49_3 hfz49_0 hfz49_1 hfz49_2 hfz49_3); (try clear hcz51_0 hcz51_1 hcz51_2 hcz51_3 hfz51_0 hfz51_1 hfz51_2 hfz51_3); (try clear hcz53_0 hcz53_1 hcz53_2 hcz53_3 hfz53_0 hfz53_1 hfz53_2 hfz53_3); (try clear hcz55_0 hcz55_1 hcz55_2 hcz55_3 hfz55_0 hfz55_1 hfz55_2 hfz55_3); (try clear hcz60_0 hcz60_1 hcz60_2 hcz60_3 hfz60_0 hfz60_1 hfz60_2 hfz60_3); (try clear hcz62_0 hcz62_1 hcz62_2 hcz62_3 hfz62_0 hfz62_1 hfz62_2 hfz62_3); (try clear hcz7_0 hfz7_0); (try clear hx274_0); (try clear hx274_1); (try clear hx274_2); (try clear hx274_3); (try clear p274); (try clear q274)
          obtain ⟨kq, x63_57, rfl, HA, HJ57, BK273, BK275, HB⟩ := hcut
          cases kq with
          | zero => exact absurd HA.out (by simp [impl_datumFault.j1])
          | succ kj57 =>
           have H := HA.out; clear HA; simp only [impl_datumFault.j1] at H; by_cases c73 : x63_57 = true
           ·subst c73
            rw [if_pos rfl] at H; obtain rfl := Option.some.inj H; go_wp2; go_ret; exact ⟨c8_3, c8_1⟩
           ·replace c73 := Bool.eq_false_iff.mpr c73
            subst c73; rw [if_neg (show ¬ (false = true) by decide)] at H; obtain ⟨t281, A74, H⟩ := zbi_ H; (try dsimp -simprocs only at H); by_cases c75 : t281 > 12
            ·rw [if_pos c75] at H
             have c75b0 : decide (12 < t281) = true := decide_eq_true c75; clear c75; obtain rfl := Option.some.inj H; have hnb76 := NB273_275.out; have hnc76 := NB275_273.out; obtain ⟨hcz77_0, hfz77_0⟩ := zx1_ BK273.out; go_wp2_with (first | ((with_reducible refine gate_callee (f := 56) rfl ?_); refine zgo_ 83 Tryd.func56 #[.slice (some ad274) l0.length c0, .int .i64 a1] ?_ (e := d8_1); (with_reducible refine (impl_deep.calls kj57 _ _ l0 a1 t281 _ ?side1 ?side2 A74.out).mono ?_); (case side1 => exact c8_4); (case side2 => exact HC0.out); rintro e w' ⟨rfl, ⟨nd, rfl⟩⟩; refine ⟨_, rfl, ?_⟩)); go_ret; exact ⟨c8_3, c8_1⟩
            ·rw [if_neg c75] at H
             have c75b0 : decide (12 < t281) = false := decide_eq_false c75; clear c75; obtain rfl := Option.some.inj H; have hnb78 := NB273_275.out; have hnc78 := NB275_273.out; obtain ⟨hcz79_0, hfz79_0⟩ := zx1_ BK273.out; go_wp2_with (first | ((with_reducible refine gate_callee (f := 56) rfl ?_); refine zgo_ 83 Tryd.func56 #[.slice (some ad274) l0.length c0, .int .i64 a1] ?_ (e := d8_1); (with_reducible refine (impl_deep.calls kj57 _ _ l0 a1 t281 _ ?side1 ?side2 A74.out).mono ?_); (case side1 => exact c8_4); (case side2 => exact HC0.out); rintro e w' ⟨rfl, ⟨nd, rfl⟩⟩; refine ⟨_, rfl, ?_⟩)); go_ret; exact ⟨c8_3, c8_1⟩
        ·replace c57 := Bool.eq_false_iff.mpr c57
         subst c57; rw [if_neg (show ¬ (false = true) by decide)] at H; obtain rfl := Option.some.inj H; have hnb80 := NB275_273.out; have hnc80 := NB273_275.out; obtain ⟨hcz81_0, hcz81_1, hcz81_2, hcz81_3, hfz81_0, hfz81_1, hfz81_2, hfz81_3⟩ := zx4_ BK275.out
         go_wp2_with (first | ((with_reducible refine gate_callee (f := 53) rfl ?_); refine zgo_ 47 Tryd.func53 #[.int .i64 ((rd_T57 l0 a1).f0), .int .i64 1, .int .i64 3, .int .i64 2, .int .i64 ((rd_T57 l0 a1).f2), .string ((rd_T57 l0 a1).f3)] ?_ (e := d8_1); (with_reducible refine (impl_kindFault.calls ((rd_T57 l0 a1).f0) 1 3 2 ((rd_T57 l0 a1).f2) ((rd_T57 l0 a1).f3) t277 _ A44.out).mono ?_); rintro e w82 ⟨rfl, hb⟩; refine ⟨_, rfl, ?_⟩; replace BK273 := zbb_ (g := gb273) hb d8_2; replace BK275 := zbb_ (g := gb275) hb d8_4; replace HB := ak (below_step d8_3 hb); (try clear hb); obtain ⟨hcz83_0, hcz83_1, hcz83_2, hcz83_3, hfz83_0, hfz83_1, hfz83_2, hfz83_3⟩ := zx4_ BK275.out) | ((with_reducible refine gate_callee (f := 47) rfl ?_); refine zgo_ 61 Tryd.func47 #[.int .i64 ((rd_T57 l0 a1).f1), .int .i64 0, .int .i64 (wrap64 (a1 - 1))] ?_ (e := d8_1); (with_reducible refine (impl_in.calls ((rd_T57 l0 a1).f1) 0 (wrap64 (a1 - 1)) false _ A56.out).mono ?_); rintro e w' ⟨rfl, ⟨nd, rfl⟩⟩; refine ⟨_, rfl, ?_⟩))
         go_ret; exact ⟨c8_3, c8_1⟩
      ·rw [if_neg c45] at H
       obtain ⟨c45b0, c45b1⟩ := zbf_ c45; obtain rfl := Option.some.inj H; have hnb84 := NB275_273.out; have hnc84 := NB273_275.out; obtain ⟨hcz85_0, hcz85_1, hcz85_2, hcz85_3, hfz85_0, hfz85_1, hfz85_2, hfz85_3⟩ := zx4_ BK275.out
       go_wp2_with (first | ((with_reducible refine gate_callee (f := 53) rfl ?_); refine zgo_ 47 Tryd.func53 #[.int .i64 ((rd_T57 l0 a1).f0), .int .i64 1, .int .i64 3, .int .i64 2, .int .i64 ((rd_T57 l0 a1).f2), .string ((rd_T57 l0 a1).f3)] ?_ (e := d8_1); (with_reducible refine (impl_kindFault.calls ((rd_T57 l0 a1).f0) 1 3 2 ((rd_T57 l0 a1).f2) ((rd_T57 l0 a1).f3) t277 _ A44.out).mono ?_); rintro e w86 ⟨rfl, hb⟩; refine ⟨_, rfl, ?_⟩; replace BK273 := zbb_ (g := gb273) hb d8_2; replace BK275 := zbb_ (g := gb275) hb d8_4; replace HB := ak (below_step d8_3 hb); (try clear hb))); go_ret; exact ⟨c8_3, c8_1⟩
   ·rw [if_neg c4] at H
    exact absurd H (by simp)
  ·rw [if_neg c3] at H
   exact absurd H (by simp)

end Go.Proofs.YtolhanigjmhkgabDoor.A
