/- Walks of the program's functions: each Go function's answer as a plain Lean function, and that the call comes to it. Written by a program. Conditions: those in each theorem's own head. -/
import Derived.Test.YtolhanigjmhkgabDoorA0
namespace Go.Proofs.YtolhanigjmhkgabDoor.A
open Go.RowKit Go.Proofs.YtolhanigjmhkgabDoorW.PrintWords Go.Proofs.YtolhanigjmhkgabDoorW.PrintLast Go.Proofs.YtolhanigjmhkgabDoorW.PrintMore
attribute [local go_sem] max2_int min2_int max_two min_two max_three min_three max_four min_four   -- for this text's walks alone
set_option linter.unusedVariables false
set_option linter.unusedSimpArgs false

theorem d1_1 {p : Prop} (h : p := by repeat (first | (with_reducible first | exact HB.out | apply below_alloc | apply pw_below_drewN | apply below_drew1) | exact HB.out)) : p := h
theorem d1_2 {p : Prop} (h : p := by (try simp only [List.map_toArray, List.map_cons, List.map_nil]); first | done | rfl | (simp only [List.length_drop, List.length_take]; rfl)) : p := h
theorem d1_3 {p : Prop} (h : p := by first | rfl | (simp; done) | (simp [*]; done) | (simp [ne_nil_b, eq_nil_b]; done)) : p := h
theorem d1_4 {p : Prop} (h : p := by first | (with_reducible assumption) | assumption) : p := h
theorem d1_5 {p : Prop} (h : p := by repeat (first | (with_reducible first | exact HB.out | apply below_alloc | apply pw_below_drewN | apply below_drew1 | refine below_set ?_ GE102.out) | exact HB.out)) : p := h
theorem d1_6 {p : Prop} (h : p := by (with_reducible repeat (first | refine blk_drewN ?_ _ | refine blk_drew ?_ | refine blk_alloc ?_ _)); exact BK102.out) : p := h
theorem d1_7 {p : Prop} (h : p := by rw [hg]; exact (below_size d1_1)) : p := h
theorem c1_1 {p : Prop} (h : p := by repeat (first | (with_reducible first | exact HB.out | apply below_alloc | apply pw_below_drewN | apply below_drew1) | exact HB.out)) : p := h
theorem c1_2 {p : Prop} (h : p := by first | rfl | (simp [errW_none, errW_some] <;> rfl) | (simp [*, errW_none, errW_some] <;> rfl)) : p := h
theorem c1_3 {p : Prop} (h : p := by repeat (first | exact Drawn0.refl _ | apply Drawn0.step)) : p := h
theorem c1_4 {p : Prop} (h : p := by first | rfl | (simp; done) | (simp [*]; done) | (simp [ne_nil_b, eq_nil_b]; done)) : p := h
theorem c1_5 {p : Prop} (h : p := by repeat (first | (with_reducible first | exact HB.out | apply below_alloc | apply pw_below_drewN | apply below_drew1 | refine below_set ?_ GE102.out) | exact HB.out)) : p := h
set_option maxHeartbeats 8000000
set_option maxRecDepth 100000
theorem z1c {w : World} {g : Nat} {t : TypeId} {cs : Array Value} (h : w.heap[g]? = some (.cells cs t (0, 0))) (i : Nat) {v : Value} (e : cs[i]? = some v) : w.cell? ⟨g, i, none⟩ = some v := (blk_cell h i).trans e
theorem z1f {w : World} {g : Nat} {t : TypeId} {cs : Array Value} (h : w.heap[g]? = some (.cells cs t (0, 0))) (i : Nat) : w.frozen? ⟨g, i, none⟩ = false := blk_frozen h i
theorem zm1_0 {p : Prop} (h : p := by repeat' first | (with_reducible first | apply ih0 | exact LeO.refl _ | exact LeO.none _ | refine LeO.ite ?_ ?_ | refine LeO.bind ?_ (fun _ => ?_)) | apply ih0 | exact LeO.none _ | refine LeO.ite ?_ ?_ | refine LeO.bind ?_ (fun _ => ?_)) : p := h
theorem zm1_1 {p : Prop} (h : p := by repeat' first | (with_reducible first | apply ih0 | apply ih1 | exact LeO.refl _ | exact LeO.none _ | refine LeO.ite ?_ ?_ | refine LeO.bind ?_ (fun _ => ?_)) | apply ih0 | apply ih1 | exact LeO.none _ | refine LeO.ite ?_ ?_ | refine LeO.bind ?_ (fun _ => ?_)) : p := h
theorem zm1_2 {p : Prop} (h : p := by repeat' first | (with_reducible first | apply ih0 | apply spec_l2Byte.mono | exact LeO.refl _ | exact LeO.none _ | refine LeO.ite ?_ ?_ | refine LeO.bind ?_ (fun _ => ?_)) | apply ih0 | apply spec_l2Byte.mono | exact LeO.none _ | refine LeO.ite ?_ ?_ | refine LeO.bind ?_ (fun _ => ?_)) : p := h

/-! ### laws_szValue: function 34 -/
def laws_szValue.f (a0_0 : Int) (a0_1 : Int) (a0_2 : ByteArray) (a1 : Int) : Option (Int) := if (wrap64 (a1 - (a0_2.size : Int))) < 0 then (some (-1)) else (some (wrap64 (a1 - (a0_2.size : Int))))
theorem laws_szValue.calls (a0_0 : Int) (a0_1 : Int) (a0_2 : ByteArray) (a1 : Int) (r : Int) (w : World) (h : laws_szValue.f a0_0 a0_1 a0_2 a1 = some r) :
    Calls Tryd.prog 34 #[.agg #[.int .i64 a0_0, .int .i64 a0_1, .string a0_2], .int .i64 a1] w fun e w' => e = .returned (.int .i64 r) ∧ Below w.heap.size w w' := by
  have hu43 := Tryd.underlying43; have HB := ak (Below.refl w.heap.size w); have H := h; clear h; unfold laws_szValue.f at H; by_cases c3 : (wrap64 (a1 - (a0_2.size : Int))) < 0
  ·rw [if_pos c3] at H
   have c3b0 : decide ((wrap64 (a1 - (a0_2.size : Int))) < 0) = true := decide_eq_true c3; clear c3; obtain rfl := Option.some.inj H; go_enter Tryd.func34, Tryd.ntmps34; go_wp2_with (first | ((with_reducible refine gate_dst (N := 2) rfl ?_); refine box_event ?hg (N := 2) ?hd (cs := #[.int .i64 a0_0, .int .i64 a0_1, .string a0_2]) (t := 43) ?hr ?_; (case hd => rfl); (case hg => rfl); (case hr => first | (go_simp; done) | (go_simp; rfl)); intro gb101 hg w4 hbox hb; have BK101 := ak (hbox); have GW101 := ak ((d1_7 : w.heap.size ≤ gb101)); have GE101 := ak ((d1_7 : w.heap.size ≤ gb101)); replace HB := ak (below_step d1_1 hb); clear hb hbox hg; obtain ⟨hcz5_0, hcz5_1, hcz5_2, hfz5_0, hfz5_1, hfz5_2⟩ := zx3_ BK101.out)); go_ret; exact ⟨c1_2, by repeat (first | (with_reducible first | exact HB.out | apply below_alloc | apply pw_below_drewN | apply below_drew1 | refine below_set ?_ GE101.out) | exact HB.out)⟩
  ·rw [if_neg c3] at H
   have c3b0 : decide ((wrap64 (a1 - (a0_2.size : Int))) < 0) = false := decide_eq_false c3; clear c3; obtain rfl := Option.some.inj H; go_enter Tryd.func34, Tryd.ntmps34; go_wp2_with (first | ((with_reducible refine gate_dst (N := 2) rfl ?_); refine box_event ?hg (N := 2) ?hd (cs := #[.int .i64 a0_0, .int .i64 a0_1, .string a0_2]) (t := 43) ?hr ?_; (case hd => rfl); (case hg => rfl); (case hr => first | (go_simp; done) | (go_simp; rfl)); intro gb101 hg w6 hbox hb; have BK101 := ak (hbox); have GW101 := ak ((d1_7 : w.heap.size ≤ gb101)); have GE101 := ak ((d1_7 : w.heap.size ≤ gb101)); replace HB := ak (below_step d1_1 hb); clear hb hbox hg; obtain ⟨hcz7_0, hcz7_1, hcz7_2, hfz7_0, hfz7_1, hfz7_2⟩ := zx3_ BK101.out)); go_ret; exact ⟨c1_2, by repeat (first | (with_reducible first | exact HB.out | apply below_alloc | apply pw_below_drewN | apply below_drew1 | refine below_set ?_ GE101.out) | exact HB.out)⟩

/-! ### laws_szPair: function 17 -/
def laws_szPair.f (a0_0 : Int) (a0_1 : Int) (a0_2 : ByteArray) (a0_3 : Int) (a0_4 : Int) (a0_5 : ByteArray) (a1 : Int) : Option (Int) := (laws_szValue.f a0_0 a0_1 a0_2 a1).bind fun t103 => (if t103 < 0 then (some (-1)) else ((laws_szValue.f a0_3 a0_4 a0_5 t103).bind fun t104 => (if t104 < 0 then (some (-1)) else (some t104))))
theorem laws_szPair.calls (a0_0 : Int) (a0_1 : Int) (a0_2 : ByteArray) (a0_3 : Int) (a0_4 : Int) (a0_5 : ByteArray) (a1 : Int) (r : Int) (w : World) (h : laws_szPair.f a0_0 a0_1 a0_2 a0_3 a0_4 a0_5 a1 = some r) :
    Calls Tryd.prog 17 #[.agg #[.int .i64 a0_0, .int .i64 a0_1, .string a0_2, .int .i64 a0_3, .int .i64 a0_4, .string a0_5], .int .i64 a1] w fun e w' => e = .returned (.int .i64 r) ∧ Below w.heap.size w w' := by
  have hu45 := Tryd.underlying45; have hu43 := Tryd.underlying43; have HB := ak (Below.refl w.heap.size w); have H := h; clear h; unfold laws_szPair.f at H; obtain ⟨t103, A3, H⟩ := zbi_ H; (try dsimp -simprocs only at H); by_cases c4 : t103 < 0
  ·rw [if_pos c4] at H
   have c4b0 : decide (t103 < 0) = true := decide_eq_true c4; clear c4; obtain rfl := Option.some.inj H; go_enter Tryd.func17, Tryd.ntmps17
   go_wp2_with (first | ((with_reducible refine gate_dst (N := 2) rfl ?_); refine box_event ?hg (N := 2) ?hd (cs := #[.int .i64 a0_0, .int .i64 a0_1, .string a0_2, .int .i64 a0_3, .int .i64 a0_4, .string a0_5]) (t := 45) ?hr ?_; (case hd => rfl); (case hg => rfl); (case hr => first | (go_simp; done) | (go_simp; rfl)); intro gb102 hg w5 hbox hb; have BK102 := ak (hbox); have GW102 := ak ((d1_7 : w.heap.size ≤ gb102)); have GE102 := ak ((d1_7 : w.heap.size ≤ gb102)); replace HB := ak (below_step d1_1 hb); clear hb hbox hg; obtain ⟨hcz6_0, hcz6_1, hcz6_2, hcz6_3, hcz6_4, hcz6_5, hfz6_0, hfz6_1, hfz6_2, hfz6_3, hfz6_4, hfz6_5⟩ := zx6_ BK102.out) | ((with_reducible refine gate_callee (f := 34) rfl ?_); refine zgo_ 8 Tryd.func34 #[.agg #[.int .i64 a0_0, .int .i64 a0_1, .string a0_2], .int .i64 a1] ?_ (e := d1_2); (with_reducible refine (laws_szValue.calls a0_0 a0_1 a0_2 a1 t103 _ A3.out).mono ?_); rintro e w7 ⟨rfl, hb⟩; refine ⟨_, rfl, ?_⟩; replace BK102 := zbb_ (g := gb102) (o := .cells #[.int .i64 a0_0, .int .i64 a0_1, .string a0_2, .int .i64 a0_3, .int .i64 a0_4, .string a0_5] 45 (0, 0)) hb d1_6; replace HB := ak (below_step d1_5 hb); (try clear hb)))
   go_ret; exact ⟨c1_2, c1_5⟩
  ·rw [if_neg c4] at H
   have c4b0 : decide (t103 < 0) = false := decide_eq_false c4; clear c4; obtain ⟨t104, A8, H⟩ := zbi_ H; (try dsimp -simprocs only at H); by_cases c9 : t104 < 0
   ·rw [if_pos c9] at H
    have c9b0 : decide (t104 < 0) = true := decide_eq_true c9; clear c9; obtain rfl := Option.some.inj H; go_enter Tryd.func17, Tryd.ntmps17
    go_wp2_with (first | ((with_reducible refine gate_dst (N := 2) rfl ?_); refine box_event ?hg (N := 2) ?hd (cs := #[.int .i64 a0_0, .int .i64 a0_1, .string a0_2, .int .i64 a0_3, .int .i64 a0_4, .string a0_5]) (t := 45) ?hr ?_; (case hd => rfl); (case hg => rfl); (case hr => first | (go_simp; done) | (go_simp; rfl)); intro gb102 hg w10 hbox hb; have BK102 := ak (hbox); have GW102 := ak ((d1_7 : w.heap.size ≤ gb102)); have GE102 := ak ((d1_7 : w.heap.size ≤ gb102)); replace HB := ak (below_step d1_1 hb); clear hb hbox hg; obtain ⟨hcz11_0, hcz11_1, hcz11_2, hcz11_3, hcz11_4, hcz11_5, hfz11_0, hfz11_1, hfz11_2, hfz11_3, hfz11_4, hfz11_5⟩ := zx6_ BK102.out) | ((with_reducible refine gate_callee (f := 34) rfl ?_); refine zgo_ 8 Tryd.func34 #[.agg #[.int .i64 a0_0, .int .i64 a0_1, .string a0_2], .int .i64 a1] ?_ (e := d1_2); (with_reducible refine (laws_szValue.calls a0_0 a0_1 a0_2 a1 t103 _ A3.out).mono ?_); rintro e w12 ⟨rfl, hb⟩; refine ⟨_, rfl, ?_⟩; replace BK102 := zbb_ (g := gb102) (o := .cells #[.int .i64 a0_0, .int .i64 a0_1, .string a0_2, .int .i64 a0_3, .int .i64 a0_4, .string a0_5] 45 (0, 0)) hb d1_6; replace HB := ak (below_step d1_5 hb); (try clear hb); obtain ⟨hcz13_0, hcz13_1, hcz13_2, hcz13_3, hcz13_4, hcz13_5, hfz13_0, hfz13_1, hfz13_2, hfz13_3, hfz13_4, hfz13_5⟩ := zx6_ BK102.out) | ((with_reducible refine gate_callee (f := 34) rfl ?_); refine zgo_ 14 Tryd.func34 #[.agg #[.int .i64 a0_3, .int .i64 a0_4, .string a0_5], .int .i64 t103] ?_ (e := d1_2); (with_reducible refine (laws_szValue.calls a0_3 a0_4 a0_5 t103 t104 _ A8.out).mono ?_); rintro e w14 ⟨rfl, hb⟩; refine ⟨_, rfl, ?_⟩; replace BK102 := zbb_ (g := gb102) (o := .cells #[.int .i64 a0_0, .int .i64 a0_1, .string a0_2, .int .i64 a0_3, .int .i64 a0_4, .string a0_5] 45 (0, 0)) hb d1_6; replace HB := ak (below_step d1_5 hb); (try clear hb)))
    go_ret; exact ⟨c1_2, c1_5⟩
   ·rw [if_neg c9] at H
    have c9b0 : decide (t104 < 0) = false := decide_eq_false c9; clear c9; obtain rfl := Option.some.inj H; go_enter Tryd.func17, Tryd.ntmps17
    go_wp2_with (first | ((with_reducible refine gate_dst (N := 2) rfl ?_); refine box_event ?hg (N := 2) ?hd (cs := #[.int .i64 a0_0, .int .i64 a0_1, .string a0_2, .int .i64 a0_3, .int .i64 a0_4, .string a0_5]) (t := 45) ?hr ?_; (case hd => rfl); (case hg => rfl); (case hr => first | (go_simp; done) | (go_simp; rfl)); intro gb102 hg w15 hbox hb; have BK102 := ak (hbox); have GW102 := ak ((d1_7 : w.heap.size ≤ gb102)); have GE102 := ak ((d1_7 : w.heap.size ≤ gb102)); replace HB := ak (below_step d1_1 hb); clear hb hbox hg; obtain ⟨hcz16_0, hcz16_1, hcz16_2, hcz16_3, hcz16_4, hcz16_5, hfz16_0, hfz16_1, hfz16_2, hfz16_3, hfz16_4, hfz16_5⟩ := zx6_ BK102.out) | ((with_reducible refine gate_callee (f := 34) rfl ?_); refine zgo_ 8 Tryd.func34 #[.agg #[.int .i64 a0_0, .int .i64 a0_1, .string a0_2], .int .i64 a1] ?_ (e := d1_2); (with_reducible refine (laws_szValue.calls a0_0 a0_1 a0_2 a1 t103 _ A3.out).mono ?_); rintro e w17 ⟨rfl, hb⟩; refine ⟨_, rfl, ?_⟩; replace BK102 := zbb_ (g := gb102) (o := .cells #[.int .i64 a0_0, .int .i64 a0_1, .string a0_2, .int .i64 a0_3, .int .i64 a0_4, .string a0_5] 45 (0, 0)) hb d1_6; replace HB := ak (below_step d1_5 hb); (try clear hb); obtain ⟨hcz18_0, hcz18_1, hcz18_2, hcz18_3, hcz18_4, hcz18_5, hfz18_0, hfz18_1, hfz18_2, hfz18_3, hfz18_4, hfz18_5⟩ := zx6_ BK102.out) | ((with_reducible refine gate_callee (f := 34) rfl ?_); refine zgo_ 14 Tryd.func34 #[.agg #[.int .i64 a0_3, .int .i64 a0_4, .string a0_5], .int .i64 t103] ?_ (e := d1_2); (with_reducible refine (laws_szValue.calls a0_3 a0_4 a0_5 t103 t104 _ A8.out).mono ?_); rintro e w19 ⟨rfl, hb⟩; refine ⟨_, rfl, ?_⟩; replace BK102 := zbb_ (g := gb102) (o := .cells #[.int .i64 a0_0, .int .i64 a0_1, .string a0_2, .int .i64 a0_3, .int .i64 a0_4, .string a0_5] 45 (0, 0)) hb d1_6; replace HB := ak (below_step d1_5 hb); (try clear hb)))
    go_ret; exact ⟨c1_2, c1_5⟩

/-! ### laws_szPairS: function 4 -/
def laws_szPairS.l0 : Nat → List (S45) → Int → Int → Option (Int)
  | 0, _, _, _ => none
  | k + 1, x0, x1, x5 => if x5 < (x0.length : Int) then (if 0 ≤ x5 then ((laws_szPair.f ((rd_T45 x0 x5).f0.f0) ((rd_T45 x0 x5).f0.f1) ((rd_T45 x0 x5).f0.f2) ((rd_T45 x0 x5).f1.f0) ((rd_T45 x0 x5).f1.f1) ((rd_T45 x0 x5).f1.f2) x1).bind fun t106 => (if t106 < 0 then (some (-1)) else (laws_szPairS.l0 k x0 t106 (wrap64 (x5 + 1))))) else (none)) else (some x1)
def laws_szPairS.f (k : Nat) (l0 : List (S45)) (a1 : Int) : Option (Int) := if (wrap64 (a1 - (l0.length : Int))) < 0 then (some (-1)) else (laws_szPairS.l0 k l0 (wrap64 (a1 - (l0.length : Int))) 0)
theorem laws_szPairS.mono_l : ∀ k, (∀ y0 y1 y2, LeO (laws_szPairS.l0 k y0 y1 y2) (laws_szPairS.l0 (k + 1) y0 y1 y2))
  | 0 => fun _ _ _ r h => by simp [laws_szPairS.l0] at h
  | k + 1 => by
    have ih0 := laws_szPairS.mono_l k
    · intro y0 y1 y2
      unfold laws_szPairS.l0
      exact zm1_0
theorem laws_szPairS.mono : ∀ a0 a1 k, LeO (laws_szPairS.f k a0 a1) (laws_szPairS.f (k + 1) a0 a1) := by
  intro a0 a1 k; have ih0 := laws_szPairS.mono_l k; unfold laws_szPairS.f
  exact zm1_0
theorem laws_szPairS.calls (k : Nat) (A0 : Option Addr) (c0 : Nat) (l0 : List (S45)) (a1 : Int) (r : Int) (w : World) (hr0 : Kd.C k45 w A0 l0.length l0) (hc0 : l0.length ≤ c0) (h : laws_szPairS.f k l0 a1 = some r) :
    Calls Tryd.prog 4 #[.slice A0 l0.length c0, .int .i64 a1] w fun e w' => e = .returned (.int .i64 r) ∧ Below w.heap.size w w' := by
  have hu45 := Tryd.underlying45; have HR0 := ak hr0; have HC0 := ak hc0; clear hr0 hc0; have HB := ak (Below.refl w.heap.size w); have H := h; clear h; unfold laws_szPairS.f at H; by_cases c3 : (wrap64 (a1 - (l0.length : Int))) < 0
  ·rw [if_pos c3] at H
   have c3b0 : decide ((wrap64 (a1 - (l0.length : Int))) < 0) = true := decide_eq_true c3; clear c3; obtain rfl := Option.some.inj H; go_enter Tryd.func4, Tryd.ntmps4; go_wp2; go_ret; exact ⟨c1_2, c1_1⟩
  ·rw [if_neg c3] at H
   have c3b0 : decide ((wrap64 (a1 - (l0.length : Int))) < 0) = false := decide_eq_false c3; clear c3; have H' := ak H; clear H; go_enter Tryd.func4, Tryd.ntmps4; go_wp2; go_loopg [1, 5] k (fun kq v1 v5 w' => ∃ (x1_1 : Int) (x5_1 : Int), v1 = .int .i64 x1_1 ∧ v5 = .int .i64 x5_1 ∧ Aside0 (laws_szPairS.l0 kq l0 x1_1 x5_1 = some r) ∧ Aside0 (kq ≤ k) ∧ Aside0 (Below w.heap.size w w'))
   case atStart => exact ⟨(wrap64 (a1 - (l0.length : Int))), (0), d1_3, d1_3, H', ⟨Nat.le_refl _⟩, ⟨c1_1⟩⟩
   case round =>
    clear H'
    (try clear p2); (try clear c3 c3b0)
    obtain ⟨x1_1, x5_1, rfl, rfl, HA, HK1, HB⟩ := hrel
    cases gk with
    | zero => exact absurd HA.out (by simp [laws_szPairS.l0])
    | succ k1 =>
     have H := HA.out; clear HA; simp only [laws_szPairS.l0] at H; by_cases c4 : x5_1 < (l0.length : Int)
     ·rw [if_pos c4] at H
      have c4b0 : decide (x5_1 < (l0.length : Int)) = true := decide_eq_true c4; clear c4; by_cases c5 : 0 ≤ x5_1
      ·rw [if_pos c5] at H
       have c5b0 : decide (0 ≤ x5_1) = true := decide_eq_true c5; clear c5; obtain ⟨t106, A6, H⟩ := zbi_ H; (try dsimp -simprocs only at H); by_cases c7 : t106 < 0
       ·rw [if_pos c7] at H
        have c7b0 : decide (t106 < 0) = true := decide_eq_true c7; clear c7; obtain rfl := Option.some.inj H; have p105 : 0 ≤ (x5_1 : Int) := of_decide_eq_true d1_4; have q105 : x5_1 < (l0.length : Int) := of_decide_eq_true d1_4; obtain ⟨ad105, e105, hx105_0, hx105_1, hx105_2, hx105_3, hx105_4, hx105_5⟩ := at_T45 HR0.out x5_1 p105 q105
        cases e105
        replace hx105_0 := zkc_ HB.out hx105_0; replace hx105_1 := zkc_ HB.out hx105_1; replace hx105_2 := zkc_ HB.out hx105_2; replace hx105_3 := zkc_ HB.out hx105_3; replace hx105_4 := zkc_ HB.out hx105_4; replace hx105_5 := zkc_ HB.out hx105_5; replace p105 := eq_true p105; replace q105 := eq_true q105; go_wp2_with (first | ((with_reducible refine gate_callee (f := 17) rfl ?_); refine zgo_ 23 Tryd.func17 #[.agg #[.int .i64 ((rd_T45 l0 x5_1).f0.f0), .int .i64 ((rd_T45 l0 x5_1).f0.f1), .string ((rd_T45 l0 x5_1).f0.f2), .int .i64 ((rd_T45 l0 x5_1).f1.f0), .int .i64 ((rd_T45 l0 x5_1).f1.f1), .string ((rd_T45 l0 x5_1).f1.f2)], .int .i64 x1_1] ?_ (e := d1_2); (with_reducible refine (laws_szPair.calls ((rd_T45 l0 x5_1).f0.f0) ((rd_T45 l0 x5_1).f0.f1) ((rd_T45 l0 x5_1).f0.f2) ((rd_T45 l0 x5_1).f1.f0) ((rd_T45 l0 x5_1).f1.f1) ((rd_T45 l0 x5_1).f1.f2) x1_1 t106 _ A6.out).mono ?_); rintro e w8 ⟨rfl, hb⟩; refine ⟨_, rfl, ?_⟩; replace HB := ak (below_step d1_1 hb); (try clear hb))); go_ret; exact ⟨c1_2, c1_1⟩
       ·rw [if_neg c7] at H
        have c7b0 : decide (t106 < 0) = false := decide_eq_false c7; clear c7; have H' := ak H; clear H; have p105 : 0 ≤ (x5_1 : Int) := of_decide_eq_true d1_4; have q105 : x5_1 < (l0.length : Int) := of_decide_eq_true d1_4; obtain ⟨ad105, e105, hx105_0, hx105_1, hx105_2, hx105_3, hx105_4, hx105_5⟩ := at_T45 HR0.out x5_1 p105 q105
        cases e105
        replace hx105_0 := zkc_ HB.out hx105_0; replace hx105_1 := zkc_ HB.out hx105_1; replace hx105_2 := zkc_ HB.out hx105_2; replace hx105_3 := zkc_ HB.out hx105_3; replace hx105_4 := zkc_ HB.out hx105_4; replace hx105_5 := zkc_ HB.out hx105_5; replace p105 := eq_true p105; replace q105 := eq_true q105; go_wp2_with (first | ((with_reducible refine gate_callee (f := 17) rfl ?_); refine zgo_ 23 Tryd.func17 #[.agg #[.int .i64 ((rd_T45 l0 x5_1).f0.f0), .int .i64 ((rd_T45 l0 x5_1).f0.f1), .string ((rd_T45 l0 x5_1).f0.f2), .int .i64 ((rd_T45 l0 x5_1).f1.f0), .int .i64 ((rd_T45 l0 x5_1).f1.f1), .string ((rd_T45 l0 x5_1).f1.f2)], .int .i64 x1_1] ?_ (e := d1_2); (with_reducible refine (laws_szPair.calls ((rd_T45 l0 x5_1).f0.f0) ((rd_T45 l0 x5_1).f0.f1) ((rd_T45 l0 x5_1).f0.f2) ((rd_T45 l0 x5_1).f1.f0) ((rd_T45 l0 x5_1).f1.f1) ((rd_T45 l0 x5_1).f1.f2) x1_1 t106 _ A6.out).mono ?_); rintro e w9 ⟨rfl, hb⟩; refine ⟨_, rfl, ?_⟩; replace HB := ak (below_step d1_1 hb); (try clear hb))); go_roundg k1
        case measure => have := HK1.out; omega
        case rel => exact ⟨(t106), (wrap64 (x5_1 + 1)), d1_3, d1_3, H', ⟨by have := HK1.out; omega⟩, ⟨c1_1⟩⟩
      ·rw [if_neg c5] at H
       exact absurd H (by simp)
     ·rw [if_neg c4] at H
      have c4b0 : decide (x5_1 < (l0.length : Int)) = false := decide_eq_false c4; clear c4; obtain rfl := Option.some.inj H; go_wp2; go_ret; exact ⟨c1_2, c1_1⟩

/-! ### laws_szDatum: function 18 -/
def laws_szDatum.f (a0_0 : Int) (a0_1 : Int) (a0_2 : Int) (a0_3 : ByteArray) (a1 : Int) : Option (Int) := if (wrap64 (a1 - (a0_3.size : Int))) < 0 then (some (-1)) else (some (wrap64 (a1 - (a0_3.size : Int))))
theorem laws_szDatum.calls (a0_0 : Int) (a0_1 : Int) (a0_2 : Int) (a0_3 : ByteArray) (a1 : Int) (r : Int) (w : World) (h : laws_szDatum.f a0_0 a0_1 a0_2 a0_3 a1 = some r) :
    Calls Tryd.prog 18 #[.agg #[.int .i64 a0_0, .int .i64 a0_1, .int .i64 a0_2, .string a0_3], .int .i64 a1] w fun e w' => e = .returned (.int .i64 r) ∧ Below w.heap.size w w' := by
  have hu48 := Tryd.underlying48; have HB := ak (Below.refl w.heap.size w); have H := h; clear h; unfold laws_szDatum.f at H; by_cases c3 : (wrap64 (a1 - (a0_3.size : Int))) < 0
  ·rw [if_pos c3] at H
   have c3b0 : decide ((wrap64 (a1 - (a0_3.size : Int))) < 0) = true := decide_eq_true c3; clear c3; obtain rfl := Option.some.inj H; go_enter Tryd.func18, Tryd.ntmps18; go_wp2_with (first | ((with_reducible refine gate_dst (N := 2) rfl ?_); refine box_event ?hg (N := 2) ?hd (cs := #[.int .i64 a0_0, .int .i64 a0_1, .int .i64 a0_2, .string a0_3]) (t := 48) ?hr ?_; (case hd => rfl); (case hg => rfl); (case hr => first | (go_simp; done) | (go_simp; rfl)); intro gb107 hg w4 hbox hb; have BK107 := ak (hbox); have GW107 := ak ((d1_7 : w.heap.size ≤ gb107)); have GE107 := ak ((d1_7 : w.heap.size ≤ gb107)); replace HB := ak (below_step d1_1 hb); clear hb hbox hg; obtain ⟨hcz5_0, hcz5_1, hcz5_2, hcz5_3, hfz5_0, hfz5_1, hfz5_2, hfz5_3⟩ := zx4_ BK107.out)); go_ret; exact ⟨c1_2, by repeat (first | (with_reducible first | exact HB.out | apply below_alloc | apply pw_below_drewN | apply below_drew1 | refine below_set ?_ GE107.out) | exact HB.out)⟩
  ·rw [if_neg c3] at H
   have c3b0 : decide ((wrap64 (a1 - (a0_3.size : Int))) < 0) = false := decide_eq_false c3; clear c3; obtain rfl := Option.some.inj H; go_enter Tryd.func18, Tryd.ntmps18; go_wp2_with (first | ((with_reducible refine gate_dst (N := 2) rfl ?_); refine box_event ?hg (N := 2) ?hd (cs := #[.int .i64 a0_0, .int .i64 a0_1, .int .i64 a0_2, .string a0_3]) (t := 48) ?hr ?_; (case hd => rfl); (case hg => rfl); (case hr => first | (go_simp; done) | (go_simp; rfl)); intro gb107 hg w6 hbox hb; have BK107 := ak (hbox); have GW107 := ak ((d1_7 : w.heap.size ≤ gb107)); have GE107 := ak ((d1_7 : w.heap.size ≤ gb107)); replace HB := ak (below_step d1_1 hb); clear hb hbox hg; obtain ⟨hcz7_0, hcz7_1, hcz7_2, hcz7_3, hfz7_0, hfz7_1, hfz7_2, hfz7_3⟩ := zx4_ BK107.out)); go_ret; exact ⟨c1_2, by repeat (first | (with_reducible first | exact HB.out | apply below_alloc | apply pw_below_drewN | apply below_drew1 | refine below_set ?_ GE107.out) | exact HB.out)⟩

/-! ### laws_szDatumS: function 5 -/
def laws_szDatumS.l0 : Nat → List (S48) → Int → Int → Option (Int)
  | 0, _, _, _ => none
  | k + 1, x0, x1, x5 => if x5 < (x0.length : Int) then (if 0 ≤ x5 then ((laws_szDatum.f ((rd_T48 x0 x5).f0) ((rd_T48 x0 x5).f1) ((rd_T48 x0 x5).f2) ((rd_T48 x0 x5).f3) x1).bind fun t109 => (if t109 < 0 then (some (-1)) else (laws_szDatumS.l0 k x0 t109 (wrap64 (x5 + 1))))) else (none)) else (some x1)
def laws_szDatumS.f (k : Nat) (l0 : List (S48)) (a1 : Int) : Option (Int) := if (wrap64 (a1 - (l0.length : Int))) < 0 then (some (-1)) else (laws_szDatumS.l0 k l0 (wrap64 (a1 - (l0.length : Int))) 0)
theorem laws_szDatumS.mono_l : ∀ k, (∀ y0 y1 y2, LeO (laws_szDatumS.l0 k y0 y1 y2) (laws_szDatumS.l0 (k + 1) y0 y1 y2))
  | 0 => fun _ _ _ r h => by simp [laws_szDatumS.l0] at h
  | k + 1 => by
    have ih0 := laws_szDatumS.mono_l k
    · intro y0 y1 y2
      unfold laws_szDatumS.l0
      exact zm1_0
theorem laws_szDatumS.mono : ∀ a0 a1 k, LeO (laws_szDatumS.f k a0 a1) (laws_szDatumS.f (k + 1) a0 a1) := by
  intro a0 a1 k; have ih0 := laws_szDatumS.mono_l k; unfold laws_szDatumS.f
  exact zm1_0
theorem laws_szDatumS.calls (k : Nat) (A0 : Option Addr) (c0 : Nat) (l0 : List (S48)) (a1 : Int) (r : Int) (w : World) (hr0 : Kd.C k48 w A0 l0.length l0) (hc0 : l0.length ≤ c0) (h : laws_szDatumS.f k l0 a1 = some r) :
    Calls Tryd.prog 5 #[.slice A0 l0.length c0, .int .i64 a1] w fun e w' => e = .returned (.int .i64 r) ∧ Below w.heap.size w w' := by
  have hu48 := Tryd.underlying48; have HR0 := ak hr0; have HC0 := ak hc0; clear hr0 hc0; have HB := ak (Below.refl w.heap.size w); have H := h; clear h; unfold laws_szDatumS.f at H; by_cases c3 : (wrap64 (a1 - (l0.length : Int))) < 0
  ·rw [if_pos c3] at H
   have c3b0 : decide ((wrap64 (a1 - (l0.length : Int))) < 0) = true := decide_eq_true c3; clear c3; obtain rfl := Option.some.inj H; go_enter Tryd.func5, Tryd.ntmps5; go_wp2; go_ret; exact ⟨c1_2, c1_1⟩
  ·rw [if_neg c3] at H
   have c3b0 : decide ((wrap64 (a1 - (l0.length : Int))) < 0) = false := decide_eq_false c3; clear c3; have H' := ak H; clear H; go_enter Tryd.func5, Tryd.ntmps5; go_wp2; go_loopg [1, 5] k (fun kq v1 v5 w' => ∃ (x1_1 : Int) (x5_1 : Int), v1 = .int .i64 x1_1 ∧ v5 = .int .i64 x5_1 ∧ Aside0 (laws_szDatumS.l0 kq l0 x1_1 x5_1 = some r) ∧ Aside0 (kq ≤ k) ∧ Aside0 (Below w.heap.size w w'))
   case atStart => exact ⟨(wrap64 (a1 - (l0.length : Int))), (0), d1_3, d1_3, H', ⟨Nat.le_refl _⟩, ⟨c1_1⟩⟩
   case round =>
    clear H'
    (try clear p2); (try clear c3 c3b0)
    obtain ⟨x1_1, x5_1, rfl, rfl, HA, HK1, HB⟩ := hrel
    cases gk with
    | zero => exact absurd HA.out (by simp [laws_szDatumS.l0])
    | succ k1 =>
     have H := HA.out; clear HA; simp only [laws_szDatumS.l0] at H; by_cases c4 : x5_1 < (l0.length : Int)
     ·rw [if_pos c4] at H
      have c4b0 : decide (x5_1 < (l0.length : Int)) = true := decide_eq_true c4; clear c4; by_cases c5 : 0 ≤ x5_1
      ·rw [if_pos c5] at H
       have c5b0 : decide (0 ≤ x5_1) = true := decide_eq_true c5; clear c5; obtain ⟨t109, A6, H⟩ := zbi_ H; (try dsimp -simprocs only at H); by_cases c7 : t109 < 0
       ·rw [if_pos c7] at H
        have c7b0 : decide (t109 < 0) = true := decide_eq_true c7; clear c7; obtain rfl := Option.some.inj H; have p108 : 0 ≤ (x5_1 : Int) := of_decide_eq_true d1_4; have q108 : x5_1 < (l0.length : Int) := of_decide_eq_true d1_4; obtain ⟨ad108, e108, hx108_0, hx108_1, hx108_2, hx108_3⟩ := at_T48 HR0.out x5_1 p108 q108
        cases e108
        replace hx108_0 := zkc_ HB.out hx108_0; replace hx108_1 := zkc_ HB.out hx108_1; replace hx108_2 := zkc_ HB.out hx108_2; replace hx108_3 := zkc_ HB.out hx108_3; replace p108 := eq_true p108; replace q108 := eq_true q108; go_wp2_with (first | ((with_reducible refine gate_callee (f := 18) rfl ?_); refine zgo_ 23 Tryd.func18 #[.agg #[.int .i64 ((rd_T48 l0 x5_1).f0), .int .i64 ((rd_T48 l0 x5_1).f1), .int .i64 ((rd_T48 l0 x5_1).f2), .string ((rd_T48 l0 x5_1).f3)], .int .i64 x1_1] ?_ (e := d1_2); (with_reducible refine (laws_szDatum.calls ((rd_T48 l0 x5_1).f0) ((rd_T48 l0 x5_1).f1) ((rd_T48 l0 x5_1).f2) ((rd_T48 l0 x5_1).f3) x1_1 t109 _ A6.out).mono ?_); rintro e w8 ⟨rfl, hb⟩; refine ⟨_, rfl, ?_⟩; replace HB := ak (below_step d1_1 hb); (try clear hb))); go_ret; exact ⟨c1_2, c1_1⟩
       ·rw [if_neg c7] at H
        have c7b0 : decide (t109 < 0) = false := decide_eq_false c7; clear c7; have H' := ak H; clear H; have p108 : 0 ≤ (x5_1 : Int) := of_decide_eq_true d1_4; have q108 : x5_1 < (l0.length : Int) := of_decide_eq_true d1_4; obtain ⟨ad108, e108, hx108_0, hx108_1, hx108_2, hx108_3⟩ := at_T48 HR0.out x5_1 p108 q108
        cases e108
        replace hx108_0 := zkc_ HB.out hx108_0; replace hx108_1 := zkc_ HB.out hx108_1; replace hx108_2 := zkc_ HB.out hx108_2; replace hx108_3 := zkc_ HB.out hx108_3; replace p108 := eq_true p108; replace q108 := eq_true q108; go_wp2_with (first | ((with_reducible refine gate_callee (f := 18) rfl ?_); refine zgo_ 23 Tryd.func18 #[.agg #[.int .i64 ((rd_T48 l0 x5_1).f0), .int .i64 ((rd_T48 l0 x5_1).f1), .int .i64 ((rd_T48 l0 x5_1).f2), .string ((rd_T48 l0 x5_1).f3)], .int .i64 x1_1] ?_ (e := d1_2); (with_reducible refine (laws_szDatum.calls ((rd_T48 l0 x5_1).f0) ((rd_T48 l0 x5_1).f1) ((rd_T48 l0 x5_1).f2) ((rd_T48 l0 x5_1).f3) x1_1 t109 _ A6.out).mono ?_); rintro e w9 ⟨rfl, hb⟩; refine ⟨_, rfl, ?_⟩; replace HB := ak (below_step d1_1 hb); (try clear hb))); go_roundg k1
        case measure => have := HK1.out; omega
        case rel => exact ⟨(t109), (wrap64 (x5_1 + 1)), d1_3, d1_3, H', ⟨by have := HK1.out; omega⟩, ⟨c1_1⟩⟩
      ·rw [if_neg c5] at H
       exact absurd H (by simp)
     ·rw [if_neg c4] at H
      have c4b0 : decide (x5_1 < (l0.length : Int)) = false := decide_eq_false c4; clear c4; obtain rfl := Option.some.inj H; go_wp2; go_ret; exact ⟨c1_2, c1_1⟩

/-! ### spec_l1In: function 39 -/
def spec_l1In.f (a0 : Int) (a1 : Int) (a2 : Int) : Option (Bool) := if a0 ≥ a1 then (some (decide (a0 ≤ a2))) else (some false)
theorem spec_l1In.calls (a0 : Int) (a1 : Int) (a2 : Int) (r : Bool) (w : World) (h : spec_l1In.f a0 a1 a2 = some r) :
    Calls Tryd.prog 39 #[.int .i64 a0, .int .i64 a1, .int .i64 a2] w fun e w' => e = .returned (.bool r) ∧ Drawn0 w w' := by
  have H := h; clear h; unfold spec_l1In.f at H; by_cases c4 : a0 ≥ a1
  ·rw [if_pos c4] at H
   have c4b0 : decide (a1 ≤ a0) = true := decide_eq_true c4; clear c4; obtain rfl := Option.some.inj H; go_enter Tryd.func39, Tryd.ntmps39; go_wp2; go_ret; exact ⟨c1_4, c1_3⟩
  ·rw [if_neg c4] at H
   have c4b0 : decide (a1 ≤ a0) = false := decide_eq_false c4; clear c4; obtain rfl := Option.some.inj H; go_enter Tryd.func39, Tryd.ntmps39; go_wp2; go_ret; exact ⟨c1_4, c1_3⟩

/-! ### spec_l1Num: function 38 -/
def spec_l1Num.f (a0 : Int) : Option (Bool) := (spec_l1In.f a0 (-1000000000) 1000000000).bind fun t110 => (some t110)
theorem spec_l1Num.calls (a0 : Int) (r : Bool) (w : World) (h : spec_l1Num.f a0 = some r) :
    Calls Tryd.prog 38 #[.int .i64 a0] w fun e w' => e = .returned (.bool r) ∧ Drawn0 w w' := by
  have H := h; clear h; unfold spec_l1Num.f at H; obtain ⟨t110, A2, H⟩ := zbi_ H; (try dsimp -simprocs only at H); obtain rfl := Option.some.inj H; go_enter Tryd.func38, Tryd.ntmps38; go_wp2_with (first | ((with_reducible refine gate_callee (f := 39) rfl ?_); refine zgo_ 4 Tryd.func39 #[.int .i64 a0, .int .i64 (-1000000000), .int .i64 1000000000] ?_ (e := d1_2); (with_reducible refine (spec_l1In.calls a0 (-1000000000) 1000000000 t110 _ A2.out).mono ?_); rintro e w' ⟨rfl, ⟨nd, rfl⟩⟩; refine ⟨_, rfl, ?_⟩)); go_ret; exact ⟨c1_4, c1_3⟩

/-! ### spec_l2Byte: function 51 -/
mutual
def spec_l2Byte.j0 : Nat → Int → Bool → Option (Bool)
  | 0, _, _ => none
  | k + 1, x0, x10 => if x10 = true then (some true) else (spec_l2Byte.l0 k x0 (⟨#[43, 45, 42, 47, 60, 61, 63, 33]⟩ : ByteArray) 0)
def spec_l2Byte.l0 : Nat → Int → ByteArray → Int → Option (Bool)
  | 0, _, _, _ => none
  | k + 1, x0, x3, x4 => if x4 < (x3.size : Int) then (if 0 ≤ x4 then (if (bt x3 x4) = x0 then (some true) else (spec_l2Byte.l0 k x0 x3 (wrap64 (x4 + 1)))) else (none)) else (some false)
end
def spec_l2Byte.f (k : Nat) (a0 : Int) : Option (Bool) := if a0 ≥ 97 then (spec_l2Byte.j0 k a0 (decide (a0 ≤ 122))) else (spec_l2Byte.j0 k a0 false)
theorem spec_l2Byte.mono_l : ∀ k, (∀ y0 y1, LeO (spec_l2Byte.j0 k y0 y1) (spec_l2Byte.j0 (k + 1) y0 y1)) ∧ (∀ y0 y1 y2, LeO (spec_l2Byte.l0 k y0 y1 y2) (spec_l2Byte.l0 (k + 1) y0 y1 y2))
  | 0 => ⟨fun _ _ r h => by simp [spec_l2Byte.j0] at h, fun _ _ _ r h => by simp [spec_l2Byte.l0] at h⟩
  | k + 1 => by
    obtain ⟨ih0, ih1⟩ := spec_l2Byte.mono_l k; refine ⟨?_, ?_⟩
    all_goals
      intros
      first | unfold spec_l2Byte.j0 | unfold spec_l2Byte.l0
      exact zm1_1
theorem spec_l2Byte.mono : ∀ a0 k, LeO (spec_l2Byte.f k a0) (spec_l2Byte.f (k + 1) a0) := by
  intro a0 k; obtain ⟨ih0, ih1⟩ := spec_l2Byte.mono_l k; unfold spec_l2Byte.f
  exact zm1_1
theorem spec_l2Byte.calls (k : Nat) (a0 : Int) (r : Bool) (w : World) (h : spec_l2Byte.f k a0 = some r) :
    Calls Tryd.prog 51 #[.int .u8 a0] w fun e w' => e = .returned (.bool r) ∧ Drawn0 w w' := by
  have H := h; clear h; unfold spec_l2Byte.f at H; have HC2 := ak H; clear H; go_enter Tryd.func51, Tryd.ntmps51; go_upto_region 1 with (fail); go_cut [10] (fun v10 wc => ∃ (kq : Nat) (x10_1 : Bool), v10 = .bool x10_1 ∧ Aside0 (spec_l2Byte.j0 kq a0 x10_1 = some r) ∧ Aside0 (kq ≤ k) ∧ Drawn0 w wc)
  case first =>
   have H := HC2.out; clear HC2; by_cases c3 : a0 ≥ 97
   ·rw [if_pos c3] at H
    have c3b0 : decide (97 ≤ a0) = true := decide_eq_true c3; clear c3
    (first | rw [c3b0] | (simp only [i64_w, i32_w]; rw [c3b0]) | skip)
    have H' := ak H; clear H; go_wp2; go_meet
    case rel => exact ⟨_, (decide (a0 ≤ 122)), d1_3, H', ⟨by first | exact Nat.le_refl _ | omega⟩, c1_3⟩
   ·rw [if_neg c3] at H
    have c3b0 : decide (97 ≤ a0) = false := decide_eq_false c3; clear c3
    (first | rw [c3b0] | (simp only [i64_w, i32_w]; rw [c3b0]) | skip)
    have H' := ak H; clear H; go_wp2; go_meet
    case rel => exact ⟨_, (false), d1_3, H', ⟨by first | exact Nat.le_refl _ | omega⟩, c1_3⟩
  case rest =>
   clear HC2; obtain ⟨kq, x10_1, rfl, HA, HJ1, ⟨mc1, rfl⟩⟩ := hcut
   cases kq with
   | zero => exact absurd HA.out (by simp [spec_l2Byte.j0])
   | succ kj1 =>
    have H := HA.out; clear HA; simp only [spec_l2Byte.j0] at H; by_cases c4 : x10_1 = true
    ·subst c4
     rw [if_pos rfl] at H; obtain rfl := Option.some.inj H; go_wp2; go_ret; exact ⟨c1_4, c1_3⟩
    ·replace c4 := Bool.eq_false_iff.mpr c4
     subst c4; rw [if_neg (show ¬ (false = true) by decide)] at H; have H' := ak H; clear H; go_wp2; go_loopg [4] kj1 (fun kq v4 w' => ∃ (x4_2 : Int), v4 = .int .i64 x4_2 ∧ Aside0 (spec_l2Byte.l0 kq a0 (⟨#[43, 45, 42, 47, 60, 61, 63, 33]⟩ : ByteArray) x4_2 = some r) ∧ Aside0 (kq ≤ kj1) ∧ Drawn0 w w')
     case atStart => exact ⟨(0), d1_3, H', ⟨Nat.le_refl _⟩, c1_3⟩
     case round =>
      clear H'
      (try clear c1); (try clear p2); (try clear c3 c3b0); (try clear c4)
      obtain ⟨x4_2, rfl, HA, HK2, ⟨m2, rfl⟩⟩ := hrel
      cases gk with
      | zero => exact absurd HA.out (by simp [spec_l2Byte.l0])
      | succ k2 =>
       have H := HA.out; clear HA; simp only [spec_l2Byte.l0] at H; by_cases c5 : x4_2 < ((⟨#[43, 45, 42, 47, 60, 61, 63, 33]⟩ : ByteArray).size : Int)
       ·rw [if_pos c5] at H
        have c5b0 : decide (x4_2 < ((⟨#[43, 45, 42, 47, 60, 61, 63, 33]⟩ : ByteArray).size : Int)) = true := decide_eq_true c5; have c5b1 : decide (x4_2 < (8 : Int)) = true := decide_eq_true c5; clear c5; by_cases c6 : 0 ≤ x4_2
        ·rw [if_pos c6] at H
         have c6b0 : decide (0 ≤ x4_2) = true := decide_eq_true c6; clear c6; by_cases c8 : (bt (⟨#[43, 45, 42, 47, 60, 61, 63, 33]⟩ : ByteArray) x4_2) = a0
         ·rw [if_pos c8] at H
          obtain ⟨c8b0, c8b1⟩ := zbt_ c8; clear c8; obtain rfl := Option.some.inj H; have p7 : 0 ≤ (x4_2 : Int) := of_decide_eq_true d1_4; have q7 : x4_2 < (8 : Int) := of_decide_eq_true d1_4; have hx7 := bt_at (⟨#[43, 45, 42, 47, 60, 61, 63, 33]⟩ : ByteArray) x4_2; replace p7 := eq_true p7; replace q7 := eq_true q7; go_wp2; go_ret; exact ⟨c1_4, c1_3⟩
         ·rw [if_neg c8] at H
          obtain ⟨c8b0, c8b1⟩ := zbf_ c8; have H' := ak H; clear H; have p7 : 0 ≤ (x4_2 : Int) := of_decide_eq_true d1_4; have q7 : x4_2 < (8 : Int) := of_decide_eq_true d1_4; have hx7 := bt_at (⟨#[43, 45, 42, 47, 60, 61, 63, 33]⟩ : ByteArray) x4_2; replace p7 := eq_true p7; replace q7 := eq_true q7; go_wp2; go_roundg k2
          case measure => have := HJ1.out; have := HK2.out; omega
          case rel => exact ⟨(wrap64 (x4_2 + 1)), d1_3, H', ⟨by have := HJ1.out; have := HK2.out; omega⟩, c1_3⟩
        ·rw [if_neg c6] at H
         exact absurd H (by simp)
       ·rw [if_neg c5] at H
        have c5b0 : decide (x4_2 < ((⟨#[43, 45, 42, 47, 60, 61, 63, 33]⟩ : ByteArray).size : Int)) = false := decide_eq_false c5; have c5b1 : decide (x4_2 < (8 : Int)) = false := decide_eq_false c5; clear c5; obtain rfl := Option.some.inj H; go_wp2; go_ret; exact ⟨c1_4, c1_3⟩

/-! ### spec_l2Sym: function 40 -/
def spec_l2Sym.l0 : Nat → ByteArray → Int → Option (Bool)
  | 0, _, _ => none
  | k + 1, x0, x3 => if x3 < (x0.size : Int) then (if 0 ≤ x3 then ((spec_l2Byte.f k (bt x0 x3)).bind fun t111 => (if t111 = true then (spec_l2Sym.l0 k x0 (wrap64 (x3 + 1))) else (some false))) else (none)) else ((spec_l1In.f (x0.size : Int) 1 12).bind fun t112 => (some t112))
def spec_l2Sym.f (k : Nat) (a0 : ByteArray) : Option (Bool) := spec_l2Sym.l0 k a0 0
theorem spec_l2Sym.mono_l : ∀ k, (∀ y0 y1, LeO (spec_l2Sym.l0 k y0 y1) (spec_l2Sym.l0 (k + 1) y0 y1))
  | 0 => fun _ _ r h => by simp [spec_l2Sym.l0] at h
  | k + 1 => by
    have ih0 := spec_l2Sym.mono_l k
    · intro y0 y1
      unfold spec_l2Sym.l0
      exact zm1_2
theorem spec_l2Sym.mono : ∀ a0 k, LeO (spec_l2Sym.f k a0) (spec_l2Sym.f (k + 1) a0) := by
  intro a0 k; have ih0 := spec_l2Sym.mono_l k; unfold spec_l2Sym.f
  exact zm1_2
theorem spec_l2Sym.calls (k : Nat) (a0 : ByteArray) (r : Bool) (w : World) (h : spec_l2Sym.f k a0 = some r) :
    Calls Tryd.prog 40 #[.string a0] w fun e w' => e = .returned (.bool r) ∧ Drawn0 w w' := by
  have H := h; clear h; unfold spec_l2Sym.f at H; have H' := ak H; clear H; go_enter Tryd.func40, Tryd.ntmps40; go_wp2; go_loopg [3] k (fun kq v3 w' => ∃ (x3_1 : Int), v3 = .int .i64 x3_1 ∧ Aside0 (spec_l2Sym.l0 kq a0 x3_1 = some r) ∧ Aside0 (kq ≤ k) ∧ Drawn0 w w')
  case atStart => exact ⟨(0), d1_3, H', ⟨Nat.le_refl _⟩, c1_3⟩
  case round =>
   clear H'; obtain ⟨x3_1, rfl, HA, HK1, ⟨m1, rfl⟩⟩ := hrel
   cases gk with
   | zero => exact absurd HA.out (by simp [spec_l2Sym.l0])
   | succ k1 =>
    have H := HA.out; clear HA; simp only [spec_l2Sym.l0] at H; by_cases c2 : x3_1 < (a0.size : Int)
    ·rw [if_pos c2] at H
     have c2b0 : decide (x3_1 < (a0.size : Int)) = true := decide_eq_true c2; clear c2; by_cases c3 : 0 ≤ x3_1
     ·rw [if_pos c3] at H
      have c3b0 : decide (0 ≤ x3_1) = true := decide_eq_true c3; clear c3; obtain ⟨t111, A5, H⟩ := zbi_ H; (try dsimp -simprocs only at H); by_cases c6 : t111 = true
      ·subst c6
       rw [if_pos rfl] at H; have H' := ak H; clear H; have p4 : 0 ≤ (x3_1 : Int) := of_decide_eq_true d1_4; have q4 : x3_1 < (a0.size : Int) := of_decide_eq_true d1_4; have hx4 := bt_at a0 x3_1; replace p4 := eq_true p4; replace q4 := eq_true q4; go_wp2_with (first | ((with_reducible refine gate_callee (f := 51) rfl ?_); refine zgo_ 13 Tryd.func51 #[.int .u8 (bt a0 x3_1)] ?_ (e := d1_2); (with_reducible refine (spec_l2Byte.calls k1 (bt a0 x3_1) true _ A5.out).mono ?_); rintro e w' ⟨rfl, ⟨nd, rfl⟩⟩; refine ⟨_, rfl, ?_⟩)); go_roundg k1
       case measure => have := HK1.out; omega
       case rel => exact ⟨(wrap64 (x3_1 + 1)), d1_3, H', ⟨by have := HK1.out; omega⟩, c1_3⟩
      ·replace c6 := Bool.eq_false_iff.mpr c6
       subst c6; rw [if_neg (show ¬ (false = true) by decide)] at H; obtain rfl := Option.some.inj H; have p4 : 0 ≤ (x3_1 : Int) := of_decide_eq_true d1_4; have q4 : x3_1 < (a0.size : Int) := of_decide_eq_true d1_4; have hx4 := bt_at a0 x3_1; replace p4 := eq_true p4; replace q4 := eq_true q4; go_wp2_with (first | ((with_reducible refine gate_callee (f := 51) rfl ?_); refine zgo_ 13 Tryd.func51 #[.int .u8 (bt a0 x3_1)] ?_ (e := d1_2); (with_reducible refine (spec_l2Byte.calls k1 (bt a0 x3_1) false _ A5.out).mono ?_); rintro e w' ⟨rfl, ⟨nd, rfl⟩⟩; refine ⟨_, rfl, ?_⟩)); go_ret; exact ⟨c1_4, c1_3⟩
     ·rw [if_neg c3] at H
      exact absurd H (by simp)
    ·rw [if_neg c2] at H
     have c2b0 : decide (x3_1 < (a0.size : Int)) = false := decide_eq_false c2; clear c2; obtain ⟨t112, A7, H⟩ := zbi_ H; (try dsimp -simprocs only at H); obtain rfl := Option.some.inj H; go_wp2_with (first | ((with_reducible refine gate_callee (f := 39) rfl ?_); refine zgo_ 17 Tryd.func39 #[.int .i64 (a0.size : Int), .int .i64 1, .int .i64 12] ?_ (e := d1_2); (with_reducible refine (spec_l1In.calls (a0.size : Int) 1 12 t112 _ A7.out).mono ?_); rintro e w' ⟨rfl, ⟨nd, rfl⟩⟩; refine ⟨_, rfl, ?_⟩)); go_ret; exact ⟨c1_4, c1_3⟩

/-! ### spec_l5Placed: function 50 -/
def spec_l5Placed.f (a0 : Int) : Option (Bool) := (spec_l1In.f a0 5 8).bind fun t113 => (some t113)
theorem spec_l5Placed.calls (a0 : Int) (r : Bool) (w : World) (h : spec_l5Placed.f a0 = some r) :
    Calls Tryd.prog 50 #[.int .i64 a0] w fun e w' => e = .returned (.bool r) ∧ Drawn0 w w' := by
  have H := h; clear h; unfold spec_l5Placed.f at H; obtain ⟨t113, A2, H⟩ := zbi_ H; (try dsimp -simprocs only at H); obtain rfl := Option.some.inj H; go_enter Tryd.func50, Tryd.ntmps50; go_wp2_with (first | ((with_reducible refine gate_callee (f := 39) rfl ?_); refine zgo_ 4 Tryd.func39 #[.int .i64 a0, .int .i64 5, .int .i64 8] ?_ (e := d1_2); (with_reducible refine (spec_l1In.calls a0 5 8 t113 _ A2.out).mono ?_); rintro e w' ⟨rfl, ⟨nd, rfl⟩⟩; refine ⟨_, rfl, ?_⟩)); go_ret; exact ⟨c1_4, c1_3⟩

end Go.Proofs.YtolhanigjmhkgabDoor.A
