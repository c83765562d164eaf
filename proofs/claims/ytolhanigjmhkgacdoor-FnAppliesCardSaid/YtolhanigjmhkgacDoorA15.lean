/- Walks of the program's functions: each Go function's answer as a plain Lean function, and that the call comes to it. Written by a program. Conditions: those in each theorem's own head. -/
import Derived.Test.YtolhanigjmhkgacDoorA0
import Derived.Test.YtolhanigjmhkgacDoorA13
import Derived.Test.YtolhanigjmhkgacDoorA14
namespace Go.Proofs.YtolhanigjmhkgacDoor.A
open Go.RowKit Go.Proofs.YtolhanigjmhkgacDoorW.PrintWords Go.Proofs.YtolhanigjmhkgacDoorW.PrintLast Go.Proofs.YtolhanigjmhkgacDoorW.PrintMore
attribute [local go_sem] max2_int min2_int max_two min_two max_three min_three max_four min_four   -- for this text's walks alone
set_option linter.unusedVariables false
set_option linter.unusedSimpArgs false

theorem b15N {w : World} {g : Nat} {o : Obj} (h : w.heap[g]? = some o) (n : Nat) : (w.drewN n).heap[g]? = some o := h
theorem b15D {w : World} {g : Nat} {o : Obj} (h : w.heap[g]? = some o) : (w.drew).heap[g]? = some o := h
theorem b15L {w : World} {g : Nat} {o : Obj} (h : w.heap[g]? = some o) (o' : Obj) : (w.alloc o').heap[g]? = some o := blk_alloc h o'
theorem d15_1 {p : Prop} (h : p := by repeat (first | (with_reducible first | exact HB.out | apply below_alloc | apply pw_below_drewN | apply below_drew1 | refine below_set ?_ GE515.out | refine below_set ?_ GE518.out) | exact HB.out)) : p := h
theorem d15_2 {p : Prop} (h : p := by (with_reducible repeat first | apply b15N | apply b15D | apply b15L); exact BK515.out) : p := h
theorem d15_3 {p : Prop} (h : p := by (try simp only [List.map_toArray, List.map_cons, List.map_nil]); first | done | rfl | (simp only [List.length_drop, List.length_take]; rfl)) : p := h
theorem d15_4 {p : Prop} (h : p := by (with_reducible repeat first | apply b15N | apply b15D | apply b15L); exact BK518.out) : p := h
theorem d15_5 {p : Prop} (h : p := by repeat (first | (with_reducible first | exact HB.out | apply below_alloc | apply pw_below_drewN | apply below_drew1 | refine below_set ?_ GE515.out) | exact HB.out)) : p := h
theorem c15_1 {p : Prop} (h : p := by (with_reducible repeat first | apply b15N | apply b15D | apply b15L); refine blk_far ?_ NB515_518.out _; (with_reducible repeat first | apply b15N | apply b15D | apply b15L); refine blk_far ?_ NB515_518.out _; (with_reducible repeat first | apply b15N | apply b15D | apply b15L); exact BK515.out) : p := h
theorem c15_2 {p : Prop} (h : p := by repeat (first | (with_reducible first | exact HB.out | apply below_alloc | apply pw_below_drewN | apply below_drew1 | refine below_set ?_ GE515.out | refine below_set ?_ GE518.out) | exact HB.out)) : p := h
theorem c15_3 {p : Prop} (h : p := by repeat (first | (with_reducible first | exact HB.out | apply below_alloc | apply pw_below_drewN | apply below_drew1 | refine below_set ?_ GE515.out) | exact HB.out)) : p := h
set_option maxHeartbeats 8000000
set_option maxRecDepth 100000
theorem z15c {w : World} {g : Nat} {t : TypeId} {cs : Array Value} (h : w.heap[g]? = some (.cells cs t (0, 0))) (i : Nat) {v : Value} (e : cs[i]? = some v) : w.cell? ⟨g, i, none⟩ = some v := (blk_cell h i).trans e
theorem pa15_1 {α : Type} (l : List α) (i : Nat) (a : α) : l.toArray.setIfInBounds i a = (l.set i a).toArray := List.setIfInBounds_toArray l i a
theorem pa15_2 {α : Type} (a : α) (l : List α) (b : α) : (a :: l).set 0 b = b :: l := rfl
theorem pa15_3 {α : Type} (a : α) (l : List α) (n : Nat) (b : α) : (a :: l).set (n + 1) b = a :: l.set n b := rfl

theorem hb15_2 {w : World} {g0 : Nat} {t0 : TypeId} {a0_0 a0_1 : Value} (h0 : w.heap[g0]? = some (.cells #[a0_0, a0_1] t0 (0, 0))) : w.cell? ⟨g0, 0, none⟩ = some a0_0 ∧ w.cell? ⟨g0, 1, none⟩ = some a0_1 := ⟨(blk_cell h0 0).trans rfl, (blk_cell h0 1).trans rfl⟩
theorem zm15_0 {p : Prop} (h : p := by repeat' first | (with_reducible first | apply ih0 | apply ih1 | exact LeO.refl _ | exact LeO.none _ | refine LeO.ite ?_ ?_ | refine LeO.bind ?_ (fun _ => ?_)) | apply ih0 | apply ih1 | exact LeO.none _ | refine LeO.ite ?_ ?_ | refine LeO.bind ?_ (fun _ => ?_)) : p := h

/-! ### spec_l6Num: function 46 -/
mutual
def spec_l6Num.j0 : Nat → Int → Bool → Int → Int → ByteArray → Int → Int → ByteArray → Option (Int × Int × ByteArray × Int)
  | 0, _, _, _, _, _, _, _, _ => none
  | k + 1, x0, x20, x2000, x2001, x2002, x3000, x3001, x3002 => if x20 = true then (some (0, 0, (⟨#[]⟩ : ByteArray), 6)) else (if x0 = 0 then ((spec_AddNum.f x2001 x3001).bind fun bt521 => (spec_l6Num.j1 k bt521.1 bt521.2)) else (if x0 = 1 then ((spec_SubNum.f x2001 x3001).bind fun bt525 => (spec_l6Num.j1 k bt525.1 bt525.2)) else (if x0 = 2 then ((spec_MulNum.f x2001 x3001).bind fun bt529 => (spec_l6Num.j1 k bt529.1 bt529.2)) else (if x0 = 3 then ((spec_QuoNum.f x2001 x3001).bind fun bt533 => (spec_l6Num.j1 k bt533.1 bt533.2)) else (if x0 = 4 then ((spec_RemNum.f x2001 x3001).bind fun bt537 => (spec_l6Num.j1 k bt537.1 bt537.2)) else (if x0 = 5 then ((spec_l6Bool.f (decide (x2001 < x3001))).bind fun bt541 => (some (bt541.1, bt541.2.1, bt541.2.2, 0))) else ((spec_l6Bool.f (x2001 == x3001)).bind fun bt546 => (some (bt546.1, bt546.2.1, bt546.2.2, 0)))))))))
def spec_l6Num.j1 : Nat → Int → Int → Option (Int × Int × ByteArray × Int)
  | 0, _, _ => none
  | k + 1, x519000, x519001 => some (1, x519001, (⟨#[]⟩ : ByteArray), x519000)
end
def spec_l6Num.f (k : Nat) (a0 : Int) (a1_0 : Int) (a1_1 : Int) (a1_2 : ByteArray) (a2_0 : Int) (a2_1 : Int) (a2_2 : ByteArray) : Option (Int × Int × ByteArray × Int) := if a1_0 = 1 then (spec_l6Num.j0 k a0 (a2_0 != 1) a1_0 a1_1 a1_2 a2_0 a2_1 a2_2) else (spec_l6Num.j0 k a0 true a1_0 a1_1 a1_2 a2_0 a2_1 a2_2)
theorem spec_l6Num.mono_l : ∀ k, (∀ y0 y1 y2 y3 y4 y5 y6 y7, LeO (spec_l6Num.j0 k y0 y1 y2 y3 y4 y5 y6 y7) (spec_l6Num.j0 (k + 1) y0 y1 y2 y3 y4 y5 y6 y7)) ∧ (∀ y0 y1, LeO (spec_l6Num.j1 k y0 y1) (spec_l6Num.j1 (k + 1) y0 y1))
  | 0 => ⟨fun _ _ _ _ _ _ _ _ r h => by simp [spec_l6Num.j0] at h, fun _ _ r h => by simp [spec_l6Num.j1] at h⟩
  | k + 1 => by
    obtain ⟨ih0, ih1⟩ := spec_l6Num.mono_l k; refine ⟨?_, ?_⟩
    all_goals
      intros
      first | unfold spec_l6Num.j0 | unfold spec_l6Num.j1
      exact zm15_0
theorem spec_l6Num.mono : ∀ a0 a1 a2 a3 a4 a5 a6 k, LeO (spec_l6Num.f k a0 a1 a2 a3 a4 a5 a6) (spec_l6Num.f (k + 1) a0 a1 a2 a3 a4 a5 a6) := by
  intro a0 a1 a2 a3 a4 a5 a6 k; obtain ⟨ih0, ih1⟩ := spec_l6Num.mono_l k; unfold spec_l6Num.f
  exact zm15_0
def spec_l6Num.T5 : Bool × List (List Nat × List Nat) := (true, [([], []), ([0], [0]), ([1], [1]), ([2], [2]), ([], []), ([4], [4]), ([5], [5]), ([6], [6]), ([3, 7], [3, 7]), ([8], [8]), ([9, 9, 0, 1, 2, 3, 4, 5, 6, 7, 8, 9], [9]), ([10, 0, 1, 2, 3, 4, 5, 6, 7, 8, 9, 10], [])])
def spec_l6Num.B5 : List Nat := [0, 1, 3, 7, 0, 16, 48, 112, 255, 511, 1023, 2047]
theorem spec_l6Num.tab5 : rtab .any (opsOf Tryd.f46 5) = spec_l6Num.T5 := by kernel_rfl
theorem spec_l6Num.bits5 : waitsOk spec_l6Num.T5.2 spec_l6Num.B5 = true := by kernel_rfl
def spec_l6Num.T7 : Bool × List (List Nat × List Nat) := (true, [([], []), ([0], [0]), ([1], [1]), ([2], [2]), ([], []), ([4], [4]), ([5], [5]), ([6], [6]), ([3, 7], [3, 7]), ([8, 8, 0, 1, 2, 3, 4, 5, 6, 7, 8], [8])])
def spec_l6Num.B7 : List Nat := [0, 1, 3, 7, 0, 16, 48, 112, 255, 511]
theorem spec_l6Num.tab7 : rtab .any (opsOf Tryd.f46 7) = spec_l6Num.T7 := by kernel_rfl
theorem spec_l6Num.bits7 : waitsOk spec_l6Num.T7.2 spec_l6Num.B7 = true := by kernel_rfl
def spec_l6Num.T9 : Bool × List (List Nat × List Nat) := (true, [([], []), ([0], [0]), ([1], [1]), ([2], [2]), ([], []), ([4], [4]), ([5], [5]), ([6], [6]), ([3, 7], [3, 7]), ([8, 8, 0, 1, 2, 3, 4, 5, 6, 7, 8], [8])])
def spec_l6Num.B9 : List Nat := [0, 1, 3, 7, 0, 16, 48, 112, 255, 511]
theorem spec_l6Num.tab9 : rtab .any (opsOf Tryd.f46 9) = spec_l6Num.T9 := by kernel_rfl
theorem spec_l6Num.bits9 : waitsOk spec_l6Num.T9.2 spec_l6Num.B9 = true := by kernel_rfl
def spec_l6Num.T11 : Bool × List (List Nat × List Nat) := (true, [([], []), ([0], [0]), ([1], [1]), ([2], [2]), ([], []), ([4], [4]), ([5], [5]), ([6], [6]), ([3, 7], [3, 7]), ([8, 8, 0, 1, 2, 3, 4, 5, 6, 7, 8], [8])])
def spec_l6Num.B11 : List Nat := [0, 1, 3, 7, 0, 16, 48, 112, 255, 511]
theorem spec_l6Num.tab11 : rtab .any (opsOf Tryd.f46 11) = spec_l6Num.T11 := by kernel_rfl
theorem spec_l6Num.bits11 : waitsOk spec_l6Num.T11.2 spec_l6Num.B11 = true := by kernel_rfl
def spec_l6Num.T13 : Bool × List (List Nat × List Nat) := (true, [([], []), ([0], [0]), ([1], [1]), ([2], [2]), ([], []), ([4], [4]), ([5], [5]), ([6], [6]), ([3, 7], [3, 7]), ([8, 8, 0, 1, 2, 3, 4, 5, 6, 7, 8], [8])])
def spec_l6Num.B13 : List Nat := [0, 1, 3, 7, 0, 16, 48, 112, 255, 511]
theorem spec_l6Num.tab13 : rtab .any (opsOf Tryd.f46 13) = spec_l6Num.T13 := by kernel_rfl
theorem spec_l6Num.bits13 : waitsOk spec_l6Num.T13.2 spec_l6Num.B13 = true := by kernel_rfl
def spec_l6Num.T15 : Bool × List (List Nat × List Nat) := (true, [([], []), ([0], [0]), ([1], [1]), ([2], [2]), ([], []), ([4], [4]), ([5], [5]), ([6], [6]), ([3, 7], [3, 7]), ([8, 8, 0, 1, 2, 3, 4, 5, 6, 7, 8], [8])])
def spec_l6Num.B15 : List Nat := [0, 1, 3, 7, 0, 16, 48, 112, 255, 511]
theorem spec_l6Num.tab15 : rtab .any (opsOf Tryd.f46 15) = spec_l6Num.T15 := by kernel_rfl
theorem spec_l6Num.bits15 : waitsOk spec_l6Num.T15.2 spec_l6Num.B15 = true := by kernel_rfl
def spec_l6Num.T17 : Bool × List (List Nat × List Nat) := (true, [([], []), ([0], [0]), ([1], [1]), ([2], [2]), ([], []), ([4], [4]), ([5], [5]), ([6], [6]), ([3, 7], [3, 7]), ([8], [8]), ([9, 9, 0, 1, 2, 3, 4, 5, 6, 7, 8, 9], [9]), ([10, 0, 1, 2, 3, 4, 5, 6, 7, 8, 9, 10], [])])
def spec_l6Num.B17 : List Nat := [0, 1, 3, 7, 0, 16, 48, 112, 255, 511, 1023, 2047]
theorem spec_l6Num.tab17 : rtab .any (opsOf Tryd.f46 17) = spec_l6Num.T17 := by kernel_rfl
theorem spec_l6Num.bits17 : waitsOk spec_l6Num.T17.2 spec_l6Num.B17 = true := by kernel_rfl
theorem spec_l6Num.calls (k : Nat) (a0 : Int) (P1_ : Addr) (a1_0 : Int) (a1_1 : Int) (a1_2 : ByteArray) (P2_ : Addr) (a2_0 : Int) (a2_1 : Int) (a2_2 : ByteArray) (r1 : Int) (r2 : Int) (r3 : ByteArray) (r4 : Int) (w : World) (hq1_0 : w.cell? P1_ = some (.int .i64 a1_0)) (hq1_1 : w.cell? ⟨P1_.block, P1_.off + 1, none⟩ = some (.int .i64 a1_1)) (hq1_2 : w.cell? ⟨P1_.block, P1_.off + 2, none⟩ = some (.string a1_2)) (hq2_0 : w.cell? P2_ = some (.int .i64 a2_0)) (hq2_1 : w.cell? ⟨P2_.block, P2_.off + 1, none⟩ = some (.int .i64 a2_1)) (hq2_2 : w.cell? ⟨P2_.block, P2_.off + 2, none⟩ = some (.string a2_2)) (h : spec_l6Num.f k a0 a1_0 a1_1 a1_2 a2_0 a2_1 a2_2 = some (r1, r2, r3, r4)) :
    Calls Tryd.prog 46 #[.int .i64 a0, .pointer (some P1_), .pointer (some P2_)] w fun e w' => e = .returned (.tuple #[.agg #[.int .i64 r1, .int .i64 r2, .string r3], .int .i64 r4]) ∧ Below w.heap.size w w' := by
  have hu29 := Tryd.underlying29; have hu83 := Tryd.underlying83; have HQ1_0 := ak hq1_0; clear hq1_0; have HQ1_1 := ak hq1_1; clear hq1_1; have HQ1_2 := ak hq1_2; clear hq1_2; have HQ2_0 := ak hq2_0; clear hq2_0; have HQ2_1 := ak hq2_1; clear hq2_1; have HQ2_2 := ak hq2_2; clear hq2_2; have HB := ak (Below.refl w.heap.size w); have H := h; clear h; unfold spec_l6Num.f at H; have HC4 := ak H; clear H; go_enter Tryd.func46, Tryd.ntmps46; go_upto_region 1 with (first | ((with_reducible refine gate_dst (N := 6) rfl ?_); refine box_event ?hg (N := 6) ?hd (cs := #[.int .i64 0, .int .i64 0, .string (⟨#[]⟩ : ByteArray)]) (t := 29) ?hr ?_; (case hd => rfl); (case hg => rfl); (case hr => first | (go_simp; done) | (go_simp; rfl)); intro gb515 hg w5 hbox hb; have BK515 := ak (hbox); have GW515 := ak ((by rw [hg]; exact (below_size (by repeat (first | (with_reducible first | exact HB.out | apply below_alloc | apply pw_below_drewN | apply below_drew1) | exact HB.out))) : w.heap.size ≤ gb515)); have GE515 := ak ((by rw [hg]; exact (below_size (by repeat (first | (with_reducible first | exact HB.out | apply below_alloc | apply pw_below_drewN | apply below_drew1) | exact HB.out))) : w.heap.size ≤ gb515)); replace HB := ak (below_step (by repeat (first | (with_reducible first | exact HB.out | apply below_alloc | apply pw_below_drewN | apply below_drew1) | exact HB.out)) hb); clear hb hbox hg))
  (try simp only [Act.put, pa15_1, pa15_2, pa15_3])
  go_cut [20] (fun v20 wc => ∃ (kq : Nat) (x20_3 : Bool), v20 = .bool x20_3 ∧ Aside0 (spec_l6Num.j0 kq a0 x20_3 a1_0 a1_1 a1_2 a2_0 a2_1 a2_2 = some (r1, r2, r3, r4)) ∧ Aside0 (kq ≤ k) ∧ Aside0 (wc.heap[gb515]? = some (.cells #[.int .i64 0, .int .i64 0, .string (⟨#[]⟩ : ByteArray)] 29 (0, 0))) ∧ Aside0 (Below w.heap.size w wc))
  case first =>
   have H := HC4.out; clear HC4; by_cases c6 : a1_0 = 1
   ·rw [if_pos c6] at H
    obtain ⟨c6b0, c6b1⟩ := zbt_ c6; clear c6
    (first | rw [c6b0] | (simp only [i64_w, i32_w]; rw [c6b0]) | skip)
    have H' := ak H; clear H; have hx516_0 := HQ1_0.out; replace hx516_0 := zkc_ HB.out hx516_0; have hx516_1 := HQ1_1.out; replace hx516_1 := zkc_ HB.out hx516_1; have hx516_2 := HQ1_2.out; replace hx516_2 := zkc_ HB.out hx516_2; have hx517_0 := HQ2_0.out; replace hx517_0 := zkc_ HB.out hx517_0; have hx517_1 := HQ2_1.out; replace hx517_1 := zkc_ HB.out hx517_1; have hx517_2 := HQ2_2.out; replace hx517_2 := zkc_ HB.out hx517_2; go_wp2; go_meet
    case rel => exact ⟨_, ((a2_0 != 1)), (by first | rfl | (simp; done) | (simp [*]; done) | (simp [ne_nil_b, eq_nil_b]; done)), H', ⟨by first | exact Nat.le_refl _ | omega⟩, ⟨zpl_ BK515.out⟩, ⟨c15_3⟩⟩
   ·rw [if_neg c6] at H
    obtain ⟨c6b0, c6b1⟩ := zbf_ c6
    (first | rw [c6b0] | (simp only [i64_w, i32_w]; rw [c6b0]) | skip)
    have H' := ak H; clear H; have hx516_0 := HQ1_0.out; replace hx516_0 := zkc_ HB.out hx516_0; have hx516_1 := HQ1_1.out; replace hx516_1 := zkc_ HB.out hx516_1; have hx516_2 := HQ1_2.out; replace hx516_2 := zkc_ HB.out hx516_2; go_wp2; go_meet
    case rel => exact ⟨_, (true), (by first | rfl | (simp; done) | (simp [*]; done) | (simp [ne_nil_b, eq_nil_b]; done)), H', ⟨by first | exact Nat.le_refl _ | omega⟩, ⟨zpl_ BK515.out⟩, ⟨c15_3⟩⟩
  case rest =>
   clear HC4
   (try clear q1); (try clear q2); (try clear c4)
   obtain ⟨kq, x20_3, rfl, HA, HJ3, BK515, HB⟩ := hcut
   cases kq with
   | zero => exact absurd HA.out (by simp [spec_l6Num.j0])
   | succ kj3 =>
    have H := HA.out; clear HA; simp only [spec_l6Num.j0] at H; by_cases c7 : x20_3 = true
    ·subst c7
     rw [if_pos rfl] at H; simp only [Option.some.injEq, Prod.mk.injEq] at H; obtain ⟨rfl, rfl, rfl, rfl⟩ := H; obtain ⟨hcz8_0, hcz8_1, hcz8_2, hfz8_0, hfz8_1, hfz8_2⟩ := zx3_ BK515.out; go_wp2; refine bodyPost_ret (results_ct rfl _ _ gb515 29 #[.int .i64 0, .int .i64 0, .string (⟨#[]⟩ : ByteArray)] (0, 0) _ rfl (by refine zpl_ ?_; refine zp3_ (.int .i64 0) (.int .i64 0) (.string (⟨#[]⟩ : ByteArray)) ?_; refine zpl_ ?_; exact BK515.out) Tryd.underlying29 rfl (by kernel_rfl)) rfl ?_; exact ⟨by first | rfl | (simp [errW_none, errW_some] <;> rfl) | (simp [*, errW_none, errW_some] <;> rfl), c15_3⟩
    ·replace c7 := Bool.eq_false_iff.mpr c7
     subst c7; rw [if_neg (show ¬ (false = true) by decide)] at H; have HC9 := ak H; clear H
     go_upto_block 0 with (first | ((with_reducible refine gate_dst (N := 8) rfl ?_); refine box_event ?hg (N := 8) ?hd (cs := #[.int .i64 0, .int .i64 0]) (t := 83) ?hr ?_; (case hd => rfl); (case hg => rfl); (case hr => first | (go_simp; done) | (go_simp; rfl)); intro gb518 hg w10 hbox hb; have BK518 := ak (hbox); have GW518 := ak ((by rw [hg]; exact (below_size d15_5) : w.heap.size ≤ gb518)); have GE518 := ak ((by rw [hg]; exact (below_size d15_5) : w.heap.size ≤ gb518)); obtain ⟨NB515_518, NB518_515⟩ := zne_ (g := gb515) hg d15_2; replace BK515 := zbb_ (g := gb515) hb d15_2; replace HB := ak (below_step d15_5 hb); clear hb hbox hg; have hnb11 := NB518_515.out; have hnc11 := NB515_518.out; obtain ⟨hcz12_0, hcz12_1, hfz12_0, hfz12_1⟩ := zx2_ BK518.out))
     (try simp only [Act.put, pa15_1, pa15_2, pa15_3])
     go_cut [] (fun wc => ∃ (kq : Nat) (x516000_8 : Int) (x516001_8 : Int) (x516002_8 : ByteArray) (x519000_8 : Int) (x519001_8 : Int), Aside0 (spec_l6Num.j1 kq x519000_8 x519001_8 = some (r1, r2, r3, r4)) ∧ Aside0 (kq ≤ kj3) ∧ Aside0 (wc.heap[gb515]? = some (.cells #[.int .i64 x516000_8, .int .i64 x516001_8, .string x516002_8] 29 (0, 0))) ∧ Aside0 (wc.heap[gb518]? = some (.cells #[.int .i64 x519000_8, .int .i64 x519001_8] 83 (0, 0))) ∧ Aside0 (Below w.heap.size w wc))
     case first =>
      have H := HC9.out; clear HC9; by_cases c13 : a0 = 0
      ·rw [if_pos c13] at H
       obtain ⟨c13b0, c13b1⟩ := zbt_ c13; clear c13
       (first | rw [c13b0] | (simp only [i64_w, i32_w]; rw [c13b0]) | skip)
       obtain ⟨⟨t521, t522⟩, A14, H⟩ := zbi_ H; (try dsimp -simprocs only at H); have H' := ak H; clear H
       try go_wp2
       generalize hw_ : ((w10.setCell ⟨gb518, 0, none⟩ (.int .i64 0)).setCell ⟨gb518, 1, none⟩ (.int .i64 0)) = w15; have n0_ : Aside0 (w15.heap[gb515]? = some (.cells #[.int .i64 0, .int .i64 0, .string (⟨#[]⟩ : ByteArray)] 29 (0, 0))) := ⟨by rw [← hw_]; exact c15_1⟩; have n1_ : Aside0 (w15.heap[gb518]? = some (.cells #[.int .i64 0, .int .i64 0] 83 (0, 0))) := ⟨by rw [← hw_]; refine zpl_ ?_; refine zp2_ (.int .i64 0) (.int .i64 0) ?_; refine zpl_ ?_; exact BK518.out⟩; have n2_ : Aside0 (Below w.heap.size w w15) := ⟨by rw [← hw_]; exact c15_2⟩
       (try clear BK515)
       (try clear BK518)
       (try clear HB)
       clear hw_; have BK515 := n0_; have BK518 := n1_; have HB := n2_; clear n0_ n1_ n2_; have n0_ := ak (blk_drew BK515.out); have n1_ := ak (blk_drew BK518.out); have n2_ := ak (below_drew1 HB.out); clear BK515; clear BK518; clear HB; have BK515 := n0_; have BK518 := n1_; have HB := n2_; clear n0_ n1_ n2_; have hw519_0 := HQ1_0.out; have hw519_1 := HQ1_1.out; have hw519_2 := HQ1_2.out; have hw520_0 := HQ2_0.out; have hw520_1 := HQ2_1.out; have hw520_2 := HQ2_2.out
       refine start_ (n := 10) (S := fun w' => w'.cell? P1_ = some (.int .i64 a1_0) ∧ w'.cell? ⟨P1_.block, P1_.off + 1, none⟩ = some (.int .i64 a1_1) ∧ w'.cell? ⟨P1_.block, P1_.off + 2, none⟩ = some (.string a1_2) ∧ w'.cell? P2_ = some (.int .i64 a2_0) ∧ w'.cell? ⟨P2_.block, P2_.off + 1, none⟩ = some (.int .i64 a2_1) ∧ w'.cell? ⟨P2_.block, P2_.off + 2, none⟩ = some (.string a2_2)) (ds := []) #[false, false, false, false, false, false, false, false, false, false] (by kernel_rfl) rfl rfl ⟨(zkc_ HB.out hw519_0), (zkc_ HB.out hw519_1), (zkc_ HB.out hw519_2), (zkc_ HB.out hw520_0), (zkc_ HB.out hw520_1), (zkc_ HB.out hw520_2)⟩ (fun hHeld => ?_); refine with_tabW spec_l6Num.tab7 spec_l6Num.bits7 (fun HT_ HW_ => ?_); generalize w15.drew = w16 at BK515 BK518 HB hHeld ⊢; refine pu5_ 0 36 (ab5_ 10 1) HT_ ?_; refine pu5_ 1 37 (ab5_ 10 3) HT_ ?_; refine pu5_ 2 38 (ab5_ 10 7) HT_ ?_; refine pu5_ 4 40 (ab5_ 10 23) HT_ ?_
       refine pu5_ 5 41 (ab5_ 10 55) HT_ ?_; refine pu5_ 6 42 (ab5_ 10 119) HT_ ?_; refine ta5_ 3 39 (ab5_ 10 127) HT_ HW_ hHeld ?_; refine ta5_ 7 43 (ab5_ 10 255) HT_ HW_ hHeld ?_; refine one_ (i := 8) (N := some 44) #[true, true, true, true, true, true, true, true, true, false] rfl rfl (one_of HT_.out (by kernel_rfl)) (by decide) (fun K hK => ?_); refine goes_ Tryd.func58 (by kernel_rfl) rfl #[.int .i64 a1_1, .int .i64 a2_1] (by rfl) rfl rfl d15_3 ?_; (with_reducible refine (spec_AddNum.calls a1_1 a2_1 t521 t522 _ A14.out).mono ?_); rintro e w17 ⟨rfl, hb⟩; refine ⟨_, rfl, ?_⟩; have n0_ := zbb_ (g := gb515) hb d15_2; have n1_ := zbb_ (g := gb518) hb d15_4; have n2_ := ak (below_step d15_1 hb); clear BK515; clear BK518; clear HB; have BK515 := n0_; have BK518 := n1_; have HB := n2_; clear n0_ n1_ n2_
       (try clear hb)
       (try clear hb2)
       (try clear hk)
       (try clear hi)
       refine hK.out _ _ ⟨(zkc_ HB.out hw519_0), (zkc_ HB.out hw519_1), (zkc_ HB.out hw519_2), (zkc_ HB.out hw520_0), (zkc_ HB.out hw520_1), (zkc_ HB.out hw520_2)⟩ (fun hHeld => ?_); clear hK K; refine no5_ 44 ?_; refine one_ (i := 9) (N := none) #[true, true, true, true, true, true, true, true, true, true] rfl rfl (one_of HT_.out (by kernel_rfl)) (by decide) (fun K hK => ?_); have hs18 : w17.cell? ⟨gb518, 0, none⟩ = some (.int .i64 0) := (blk_cell BK518.out 0).trans rfl; have hfs18 := blk_frozen BK518.out 0; have hns18_0 := NB515_518.out; have hms18_0 := NB518_515.out; have hs19 : w17.cell? ⟨gb518, 1, none⟩ = some (.int .i64 0) := (blk_cell BK518.out 1).trans rfl; have hfs19 := blk_frozen BK518.out 1; have hns19_0 := NB515_518.out; have hms19_0 := NB518_515.out; refine skip_ (w1 := ?_) (by rfl) rfl ?_ ?_; rotate_left
       · go_simp
         rfl
       refine hK.out _ _ ⟨(zf2_ hw519_0 GW518.out hHeld.1), (zf2_ hw519_1 GW518.out hHeld.2.1), (zf2_ hw519_2 GW518.out hHeld.2.2.1), (zf2_ hw520_0 GW518.out hHeld.2.2.2.1), (zf2_ hw520_1 GW518.out hHeld.2.2.2.2.1), (zf2_ hw520_2 GW518.out hHeld.2.2.2.2.2)⟩ (fun hHeld => ?_)
       clear hK K; refine done_ (done_of HT_.out (by kernel_rfl)) ?_
       try go_wp2
       go_meet
       case rel => exact ⟨_, (0), (0), ((⟨#[]⟩ : ByteArray)), (t521), (t522), H', ⟨by have := HJ3.out; first | exact Nat.le_refl _ | omega⟩, ⟨c15_1⟩, ⟨by refine zpl_ ?_; refine zp2_ (.int .i64 0) (.int .i64 0) ?_; refine zpl_ ?_; exact BK518.out⟩, ⟨c15_2⟩⟩
      ·rw [if_neg c13] at H
       obtain ⟨c13b0, c13b1⟩ := zbf_ c13
       (first | rw [c13b0] | (simp only [i64_w, i32_w]; rw [c13b0]) | skip)
       by_cases c20 : a0 = 1
       ·rw [if_pos c20] at H
        obtain ⟨c20b0, c20b1⟩ := zbt_ c20; clear c20; obtain ⟨⟨t525, t526⟩, A21, H⟩ := zbi_ H; (try dsimp -simprocs only at H); have H' := ak H; clear H
        try go_wp2
        generalize hw_ : ((w10.setCell ⟨gb518, 0, none⟩ (.int .i64 0)).setCell ⟨gb518, 1, none⟩ (.int .i64 0)) = w22; have n0_ : Aside0 (w22.heap[gb515]? = some (.cells #[.int .i64 0, .int .i64 0, .string (⟨#[]⟩ : ByteArray)] 29 (0, 0))) := ⟨by rw [← hw_]; exact c15_1⟩; have n1_ : Aside0 (w22.heap[gb518]? = some (.cells #[.int .i64 0, .int .i64 0] 83 (0, 0))) := ⟨by rw [← hw_]; refine zpl_ ?_; refine zp2_ (.int .i64 0) (.int .i64 0) ?_; refine zpl_ ?_; exact BK518.out⟩; have n2_ : Aside0 (Below w.heap.size w w22) := ⟨by rw [← hw_]; exact c15_2⟩
        (try clear BK515)
        (try clear BK518)
        (try clear HB)
        clear hw_; have BK515 := n0_; have BK518 := n1_; have HB := n2_; clear n0_ n1_ n2_; have n0_ := ak (blk_drew BK515.out); have n1_ := ak (blk_drew BK518.out); have n2_ := ak (below_drew1 HB.out); clear BK515; clear BK518; clear HB; have BK515 := n0_; have BK518 := n1_; have HB := n2_; clear n0_ n1_ n2_; have hw523_0 := HQ1_0.out; have hw523_1 := HQ1_1.out; have hw523_2 := HQ1_2.out; have hw524_0 := HQ2_0.out; have hw524_1 := HQ2_1.out; have hw524_2 := HQ2_2.out
        refine start_ (n := 10) (S := fun w' => w'.cell? P1_ = some (.int .i64 a1_0) ∧ w'.cell? ⟨P1_.block, P1_.off + 1, none⟩ = some (.int .i64 a1_1) ∧ w'.cell? ⟨P1_.block, P1_.off + 2, none⟩ = some (.string a1_2) ∧ w'.cell? P2_ = some (.int .i64 a2_0) ∧ w'.cell? ⟨P2_.block, P2_.off + 1, none⟩ = some (.int .i64 a2_1) ∧ w'.cell? ⟨P2_.block, P2_.off + 2, none⟩ = some (.string a2_2)) (ds := []) #[false, false, false, false, false, false, false, false, false, false] (by kernel_rfl) rfl rfl ⟨(zkc_ HB.out hw523_0), (zkc_ HB.out hw523_1), (zkc_ HB.out hw523_2), (zkc_ HB.out hw524_0), (zkc_ HB.out hw524_1), (zkc_ HB.out hw524_2)⟩ (fun hHeld => ?_); refine with_tabW spec_l6Num.tab9 spec_l6Num.bits9 (fun HT_ HW_ => ?_); generalize w22.drew = w23 at BK515 BK518 HB hHeld ⊢; refine pu5_ 0 47 (ab5_ 10 1) HT_ ?_; refine pu5_ 1 48 (ab5_ 10 3) HT_ ?_; refine pu5_ 2 49 (ab5_ 10 7) HT_ ?_; refine pu5_ 4 51 (ab5_ 10 23) HT_ ?_
        refine pu5_ 5 52 (ab5_ 10 55) HT_ ?_; refine pu5_ 6 53 (ab5_ 10 119) HT_ ?_; refine ta5_ 3 50 (ab5_ 10 127) HT_ HW_ hHeld ?_; refine ta5_ 7 54 (ab5_ 10 255) HT_ HW_ hHeld ?_; refine one_ (i := 8) (N := some 55) #[true, true, true, true, true, true, true, true, true, false] rfl rfl (one_of HT_.out (by kernel_rfl)) (by decide) (fun K hK => ?_); refine goes_ Tryd.func59 (by kernel_rfl) rfl #[.int .i64 a1_1, .int .i64 a2_1] (by rfl) rfl rfl d15_3 ?_; (with_reducible refine (spec_SubNum.calls a1_1 a2_1 t525 t526 _ A21.out).mono ?_); rintro e w24 ⟨rfl, hb⟩; refine ⟨_, rfl, ?_⟩; have n0_ := zbb_ (g := gb515) hb d15_2; have n1_ := zbb_ (g := gb518) hb d15_4; have n2_ := ak (below_step d15_1 hb); clear BK515; clear BK518; clear HB; have BK515 := n0_; have BK518 := n1_; have HB := n2_; clear n0_ n1_ n2_
        (try clear hb)
        (try clear hb2)
        (try clear hk)
        (try clear hi)
        refine hK.out _ _ ⟨(zkc_ HB.out hw523_0), (zkc_ HB.out hw523_1), (zkc_ HB.out hw523_2), (zkc_ HB.out hw524_0), (zkc_ HB.out hw524_1), (zkc_ HB.out hw524_2)⟩ (fun hHeld => ?_); clear hK K; refine no5_ 55 ?_; refine one_ (i := 9) (N := none) #[true, true, true, true, true, true, true, true, true, true] rfl rfl (one_of HT_.out (by kernel_rfl)) (by decide) (fun K hK => ?_); have hs25 : w24.cell? ⟨gb518, 0, none⟩ = some (.int .i64 0) := (blk_cell BK518.out 0).trans rfl; have hfs25 := blk_frozen BK518.out 0; have hns25_0 := NB515_518.out; have hms25_0 := NB518_515.out; have hs26 : w24.cell? ⟨gb518, 1, none⟩ = some (.int .i64 0) := (blk_cell BK518.out 1).trans rfl; have hfs26 := blk_frozen BK518.out 1; have hns26_0 := NB515_518.out; have hms26_0 := NB518_515.out; refine skip_ (w1 := ?_) (by rfl) rfl ?_ ?_; rotate_left
        · go_simp
          rfl
        refine hK.out _ _ ⟨(zf2_ hw523_0 GW518.out hHeld.1), (zf2_ hw523_1 GW518.out hHeld.2.1), (zf2_ hw523_2 GW518.out hHeld.2.2.1), (zf2_ hw524_0 GW518.out hHeld.2.2.2.1), (zf2_ hw524_1 GW518.out hHeld.2.2.2.2.1), (zf2_ hw524_2 GW518.out hHeld.2.2.2.2.2)⟩ (fun hHeld => ?_)
        clear hK K; refine done_ (done_of HT_.out (by kernel_rfl)) ?_
        try go_wp2
        go_meet
        case rel => exact ⟨_, (0), (0), ((⟨#[]⟩ : ByteArray)), (t525), (t526), H', ⟨by have := HJ3.out; first | exact Nat.le_refl _ | omega⟩, ⟨c15_1⟩, ⟨by refine zpl_ ?_; refine zp2_ (.int .i64 0) (.int .i64 0) ?_; refine zpl_ ?_; exact BK518.out⟩, ⟨c15_2⟩⟩
       ·rw [if_neg c20] at H
        obtain ⟨c20b0, c20b1⟩ := zbf_ c20; by_cases c27 : a0 = 2
        ·rw [if_pos c27] at H
         obtain ⟨c27b0, c27b1⟩ := zbt_ c27; clear c27; obtain ⟨⟨t529, t530⟩, A28, H⟩ := zbi_ H; (try dsimp -simprocs only at H); have H' := ak H; clear H
         try go_wp2
         generalize hw_ : ((w10.setCell ⟨gb518, 0, none⟩ (.int .i64 0)).setCell ⟨gb518, 1, none⟩ (.int .i64 0)) = w29; have n0_ : Aside0 (w29.heap[gb515]? = some (.cells #[.int .i64 0, .int .i64 0, .string (⟨#[]⟩ : ByteArray)] 29 (0, 0))) := ⟨by rw [← hw_]; exact c15_1⟩; have n1_ : Aside0 (w29.heap[gb518]? = some (.cells #[.int .i64 0, .int .i64 0] 83 (0, 0))) := ⟨by rw [← hw_]; refine zpl_ ?_; refine zp2_ (.int .i64 0) (.int .i64 0) ?_; refine zpl_ ?_; exact BK518.out⟩; have n2_ : Aside0 (Below w.heap.size w w29) := ⟨by rw [← hw_]; exact c15_2⟩
         (try clear BK515)
         (try clear BK518)
         (try clear HB)
         clear hw_; have BK515 := n0_; have BK518 := n1_; have HB := n2_; clear n0_ n1_ n2_; have n0_ := ak (blk_drew BK515.out); have n1_ := ak (blk_drew BK518.out); have n2_ := ak (below_drew1 HB.out); clear BK515; clear BK518; clear HB; have BK515 := n0_; have BK518 := n1_; have HB := n2_; clear n0_ n1_ n2_; have hw527_0 := HQ1_0.out; have hw527_1 := HQ1_1.out; have hw527_2 := HQ1_2.out; have hw528_0 := HQ2_0.out; have hw528_1 := HQ2_1.out; have hw528_2 := HQ2_2.out
         refine start_ (n := 10) (S := fun w' => w'.cell? P1_ = some (.int .i64 a1_0) ∧ w'.cell? ⟨P1_.block, P1_.off + 1, none⟩ = some (.int .i64 a1_1) ∧ w'.cell? ⟨P1_.block, P1_.off + 2, none⟩ = some (.string a1_2) ∧ w'.cell? P2_ = some (.int .i64 a2_0) ∧ w'.cell? ⟨P2_.block, P2_.off + 1, none⟩ = some (.int .i64 a2_1) ∧ w'.cell? ⟨P2_.block, P2_.off + 2, none⟩ = some (.string a2_2)) (ds := []) #[false, false, false, false, false, false, false, false, false, false] (by kernel_rfl) rfl rfl ⟨(zkc_ HB.out hw527_0), (zkc_ HB.out hw527_1), (zkc_ HB.out hw527_2), (zkc_ HB.out hw528_0), (zkc_ HB.out hw528_1), (zkc_ HB.out hw528_2)⟩ (fun hHeld => ?_); refine with_tabW spec_l6Num.tab11 spec_l6Num.bits11 (fun HT_ HW_ => ?_); generalize w29.drew = w30 at BK515 BK518 HB hHeld ⊢; refine pu5_ 0 58 (ab5_ 10 1) HT_ ?_; refine pu5_ 1 59 (ab5_ 10 3) HT_ ?_; refine pu5_ 2 60 (ab5_ 10 7) HT_ ?_; refine pu5_ 4 62 (ab5_ 10 23) HT_ ?_
         refine pu5_ 5 63 (ab5_ 10 55) HT_ ?_; refine pu5_ 6 64 (ab5_ 10 119) HT_ ?_; refine ta5_ 3 61 (ab5_ 10 127) HT_ HW_ hHeld ?_; refine ta5_ 7 65 (ab5_ 10 255) HT_ HW_ hHeld ?_; refine one_ (i := 8) (N := some 66) #[true, true, true, true, true, true, true, true, true, false] rfl rfl (one_of HT_.out (by kernel_rfl)) (by decide) (fun K hK => ?_); refine goes_ Tryd.func60 (by kernel_rfl) rfl #[.int .i64 a1_1, .int .i64 a2_1] (by rfl) rfl rfl d15_3 ?_; (with_reducible refine (spec_MulNum.calls a1_1 a2_1 t529 t530 _ A28.out).mono ?_); rintro e w31 ⟨rfl, hb⟩; refine ⟨_, rfl, ?_⟩; have n0_ := zbb_ (g := gb515) hb d15_2; have n1_ := zbb_ (g := gb518) hb d15_4; have n2_ := ak (below_step d15_1 hb); clear BK515; clear BK518; clear HB; have BK515 := n0_; have BK518 := n1_; have HB := n2_; clear n0_ n1_ n2_
         (try clear hb)
         (try clear hb2)
         (try clear hk)
         (try clear hi)
         refine hK.out _ _ ⟨(zkc_ HB.out hw527_0), (zkc_ HB.out hw527_1), (zkc_ HB.out hw527_2), (zkc_ HB.out hw528_0), (zkc_ HB.out hw528_1), (zkc_ HB.out hw528_2)⟩ (fun hHeld => ?_); clear hK K; refine no5_ 66 ?_; refine one_ (i := 9) (N := none) #[true, true, true, true, true, true, true, true, true, true] rfl rfl (one_of HT_.out (by kernel_rfl)) (by decide) (fun K hK => ?_); have hs32 : w31.cell? ⟨gb518, 0, none⟩ = some (.int .i64 0) := (blk_cell BK518.out 0).trans rfl; have hfs32 := blk_frozen BK518.out 0; have hns32_0 := NB515_518.out; have hms32_0 := NB518_515.out; have hs33 : w31.cell? ⟨gb518, 1, none⟩ = some (.int .i64 0) := (blk_cell BK518.out 1).trans rfl; have hfs33 := blk_frozen BK518.out 1; have hns33_0 := NB515_518.out; have hms33_0 := NB518_515.out; refine skip_ (w1 := ?_) (by rfl) rfl ?_ ?_; rotate_left
         · go_simp
           rfl
         refine hK.out _ _ ⟨(zf2_ hw527_0 GW518.out hHeld.1), (zf2_ hw527_1 GW518.out hHeld.2.1), (zf2_ hw527_2 GW518.out hHeld.2.2.1), (zf2_ hw528_0 GW518.out hHeld.2.2.2.1), (zf2_ hw528_1 GW518.out hHeld.2.2.2.2.1), (zf2_ hw528_2 GW518.out hHeld.2.2.2.2.2)⟩ (fun hHeld => ?_)
         clear hK K; refine done_ (done_of HT_.out (by kernel_rfl)) ?_
         try go_wp2
         go_meet
         case rel => exact ⟨_, (0), (0), ((⟨#[]⟩ : ByteArray)), (t529), (t530), H', ⟨by have := HJ3.out; first | exact Nat.le_refl _ | omega⟩, ⟨c15_1⟩, ⟨by refine zpl_ ?_; refine zp2_ (.int .i64 0) (.int .i64 0) ?_; refine zpl_ ?_; exact BK518.out⟩, ⟨c15_2⟩⟩
        ·rw [if_neg c27] at H
         obtain ⟨c27b0, c27b1⟩ := zbf_ c27; by_cases c34 : a0 = 3
         ·rw [if_pos c34] at H
          obtain ⟨c34b0, c34b1⟩ := zbt_ c34; clear c34; obtain ⟨⟨t533, t534⟩, A35, H⟩ := zbi_ H; (try dsimp -simprocs only at H); have H' := ak H; clear H
          try go_wp2
          generalize hw_ : ((w10.setCell ⟨gb518, 0, none⟩ (.int .i64 0)).setCell ⟨gb518, 1, none⟩ (.int .i64 0)) = w36; have n0_ : Aside0 (w36.heap[gb515]? = some (.cells #[.int .i64 0, .int .i64 0, .string (⟨#[]⟩ : ByteArray)] 29 (0, 0))) := ⟨by rw [← hw_]; exact c15_1⟩; have n1_ : Aside0 (w36.heap[gb518]? = some (.cells #[.int .i64 0, .int .i64 0] 83 (0, 0))) := ⟨by rw [← hw_]; refine zpl_ ?_; refine zp2_ (.int .i64 0) (.int .i64 0) ?_; refine zpl_ ?_; exact BK518.out⟩; have n2_ : Aside0 (Below w.heap.size w w36) := ⟨by rw [← hw_]; exact c15_2⟩
          (try clear BK515)
          (try clear BK518)
          (try clear HB)
          clear hw_; have BK515 := n0_; have BK518 := n1_; have HB := n2_; clear n0_ n1_ n2_; have n0_ := ak (blk_drew BK515.out); have n1_ := ak (blk_drew BK518.out); have n2_ := ak (below_drew1 HB.out); clear BK515; clear BK518; clear HB; have BK515 := n0_; have BK518 := n1_; have HB := n2_; clear n0_ n1_ n2_; have hw531_0 := HQ1_0.out; have hw531_1 := HQ1_1.out; have hw531_2 := HQ1_2.out; have hw532_0 := HQ2_0.out; have hw532_1 := HQ2_1.out; have hw532_2 := HQ2_2.out
          refine start_ (n := 10) (S := fun w' => w'.cell? P1_ = some (.int .i64 a1_0) ∧ w'.cell? ⟨P1_.block, P1_.off + 1, none⟩ = some (.int .i64 a1_1) ∧ w'.cell? ⟨P1_.block, P1_.off + 2, none⟩ = some (.string a1_2) ∧ w'.cell? P2_ = some (.int .i64 a2_0) ∧ w'.cell? ⟨P2_.block, P2_.off + 1, none⟩ = some (.int .i64 a2_1) ∧ w'.cell? ⟨P2_.block, P2_.off + 2, none⟩ = some (.string a2_2)) (ds := []) #[false, false, false, false, false, false, false, false, false, false] (by kernel_rfl) rfl rfl ⟨(zkc_ HB.out hw531_0), (zkc_ HB.out hw531_1), (zkc_ HB.out hw531_2), (zkc_ HB.out hw532_0), (zkc_ HB.out hw532_1), (zkc_ HB.out hw532_2)⟩ (fun hHeld => ?_); refine with_tabW spec_l6Num.tab13 spec_l6Num.bits13 (fun HT_ HW_ => ?_); generalize w36.drew = w37 at BK515 BK518 HB hHeld ⊢; refine pu5_ 0 69 (ab5_ 10 1) HT_ ?_; refine pu5_ 1 70 (ab5_ 10 3) HT_ ?_; refine pu5_ 2 71 (ab5_ 10 7) HT_ ?_; refine pu5_ 4 73 (ab5_ 10 23) HT_ ?_
          refine pu5_ 5 74 (ab5_ 10 55) HT_ ?_; refine pu5_ 6 75 (ab5_ 10 119) HT_ ?_; refine ta5_ 3 72 (ab5_ 10 127) HT_ HW_ hHeld ?_; refine ta5_ 7 76 (ab5_ 10 255) HT_ HW_ hHeld ?_; refine one_ (i := 8) (N := some 77) #[true, true, true, true, true, true, true, true, true, false] rfl rfl (one_of HT_.out (by kernel_rfl)) (by decide) (fun K hK => ?_); refine goes_ Tryd.func61 (by kernel_rfl) rfl #[.int .i64 a1_1, .int .i64 a2_1] (by rfl) rfl rfl d15_3 ?_; (with_reducible refine (spec_QuoNum.calls a1_1 a2_1 t533 t534 _ A35.out).mono ?_); rintro e w38 ⟨rfl, hb⟩; refine ⟨_, rfl, ?_⟩; have n0_ := zbb_ (g := gb515) hb d15_2; have n1_ := zbb_ (g := gb518) hb d15_4; have n2_ := ak (below_step d15_1 hb); clear BK515; clear BK518; clear HB; have BK515 := n0_; have BK518 := n1_; have HB := n2_; clear n0_ n1_ n2_
          (try clear hb)
          (try clear hb2)
          (try clear hk)
          (try clear hi)
          refine hK.out _ _ ⟨(zkc_ HB.out hw531_0), (zkc_ HB.out hw531_1), (zkc_ HB.out hw531_2), (zkc_ HB.out hw532_0), (zkc_ HB.out hw532_1), (zkc_ HB.out hw532_2)⟩ (fun hHeld => ?_); clear hK K; refine no5_ 77 ?_; refine one_ (i := 9) (N := none) #[true, true, true, true, true, true, true, true, true, true] rfl rfl (one_of HT_.out (by kernel_rfl)) (by decide) (fun K hK => ?_); have hs39 : w38.cell? ⟨gb518, 0, none⟩ = some (.int .i64 0) := (blk_cell BK518.out 0).trans rfl; have hfs39 := blk_frozen BK518.out 0; have hns39_0 := NB515_518.out; have hms39_0 := NB518_515.out; have hs40 : w38.cell? ⟨gb518, 1, none⟩ = some (.int .i64 0) := (blk_cell BK518.out 1).trans rfl; have hfs40 := blk_frozen BK518.out 1; have hns40_0 := NB515_518.out; have hms40_0 := NB518_515.out; refine skip_ (w1 := ?_) (by rfl) rfl ?_ ?_; rotate_left
          · go_simp
            rfl
          refine hK.out _ _ ⟨(zf2_ hw531_0 GW518.out hHeld.1), (zf2_ hw531_1 GW518.out hHeld.2.1), (zf2_ hw531_2 GW518.out hHeld.2.2.1), (zf2_ hw532_0 GW518.out hHeld.2.2.2.1), (zf2_ hw532_1 GW518.out hHeld.2.2.2.2.1), (zf2_ hw532_2 GW518.out hHeld.2.2.2.2.2)⟩ (fun hHeld => ?_)
          clear hK K; refine done_ (done_of HT_.out (by kernel_rfl)) ?_
          try go_wp2
          go_meet
          case rel => exact ⟨_, (0), (0), ((⟨#[]⟩ : ByteArray)), (t533), (t534), H', ⟨by have := HJ3.out; first | exact Nat.le_refl _ | omega⟩, ⟨c15_1⟩, ⟨by refine zpl_ ?_; refine zp2_ (.int .i64 0) (.int .i64 0) ?_; refine zpl_ ?_; exact BK518.out⟩, ⟨c15_2⟩⟩
         ·rw [if_neg c34] at H
          obtain ⟨c34b0, c34b1⟩ := zbf_ c34; by_cases c41 : a0 = 4
          ·rw [if_pos c41] at H
           obtain ⟨c41b0, c41b1⟩ := zbt_ c41; clear c41; obtain ⟨⟨t537, t538⟩, A42, H⟩ := zbi_ H; (try dsimp -simprocs only at H); have H' := ak H; clear H
           try go_wp2
           generalize hw_ : ((w10.setCell ⟨gb518, 0, none⟩ (.int .i64 0)).setCell ⟨gb518, 1, none⟩ (.int .i64 0)) = w43; have n0_ : Aside0 (w43.heap[gb515]? = some (.cells #[.int .i64 0, .int .i64 0, .string (⟨#[]⟩ : ByteArray)] 29 (0, 0))) := ⟨by rw [← hw_]; exact c15_1⟩; have n1_ : Aside0 (w43.heap[gb518]? = some (.cells #[.int .i64 0, .int .i64 0] 83 (0, 0))) := ⟨by rw [← hw_]; refine zpl_ ?_; refine zp2_ (.int .i64 0) (.int .i64 0) ?_; refine zpl_ ?_; exact BK518.out⟩; have n2_ : Aside0 (Below w.heap.size w w43) := ⟨by rw [← hw_]; exact c15_2⟩
           (try clear BK515)
           (try clear BK518)
           (try clear HB)
           clear hw_; have BK515 := n0_; have BK518 := n1_; have HB := n2_; clear n0_ n1_ n2_; have n0_ := ak (blk_drew BK515.out); have n1_ := ak (blk_drew BK518.out); have n2_ := ak (below_drew1 HB.out); clear BK515; clear BK518; clear HB; have BK515 := n0_; have BK518 := n1_; have HB := n2_; clear n0_ n1_ n2_; have hw535_0 := HQ1_0.out; have hw535_1 := HQ1_1.out; have hw535_2 := HQ1_2.out; have hw536_0 := HQ2_0.out; have hw536_1 := HQ2_1.out; have hw536_2 := HQ2_2.out
           refine start_ (n := 10) (S := fun w' => w'.cell? P1_ = some (.int .i64 a1_0) ∧ w'.cell? ⟨P1_.block, P1_.off + 1, none⟩ = some (.int .i64 a1_1) ∧ w'.cell? ⟨P1_.block, P1_.off + 2, none⟩ = some (.string a1_2) ∧ w'.cell? P2_ = some (.int .i64 a2_0) ∧ w'.cell? ⟨P2_.block, P2_.off + 1, none⟩ = some (.int .i64 a2_1) ∧ w'.cell? ⟨P2_.block, P2_.off + 2, none⟩ = some (.string a2_2)) (ds := []) #[false, false, false, false, false, false, false, false, false, false] (by kernel_rfl) rfl rfl ⟨(zkc_ HB.out hw535_0), (zkc_ HB.out hw535_1), (zkc_ HB.out hw535_2), (zkc_ HB.out hw536_0), (zkc_ HB.out hw536_1), (zkc_ HB.out hw536_2)⟩ (fun hHeld => ?_); refine with_tabW spec_l6Num.tab15 spec_l6Num.bits15 (fun HT_ HW_ => ?_); generalize w43.drew = w44 at BK515 BK518 HB hHeld ⊢; refine pu5_ 0 80 (ab5_ 10 1) HT_ ?_; refine pu5_ 1 81 (ab5_ 10 3) HT_ ?_; refine pu5_ 2 82 (ab5_ 10 7) HT_ ?_; refine pu5_ 4 84 (ab5_ 10 23) HT_ ?_
           refine pu5_ 5 85 (ab5_ 10 55) HT_ ?_; refine pu5_ 6 86 (ab5_ 10 119) HT_ ?_; refine ta5_ 3 83 (ab5_ 10 127) HT_ HW_ hHeld ?_; refine ta5_ 7 87 (ab5_ 10 255) HT_ HW_ hHeld ?_; refine one_ (i := 8) (N := some 88) #[true, true, true, true, true, true, true, true, true, false] rfl rfl (one_of HT_.out (by kernel_rfl)) (by decide) (fun K hK => ?_); refine goes_ Tryd.func62 (by kernel_rfl) rfl #[.int .i64 a1_1, .int .i64 a2_1] (by rfl) rfl rfl d15_3 ?_; (with_reducible refine (spec_RemNum.calls a1_1 a2_1 t537 t538 _ A42.out).mono ?_); rintro e w45 ⟨rfl, hb⟩; refine ⟨_, rfl, ?_⟩; have n0_ := zbb_ (g := gb515) hb d15_2; have n1_ := zbb_ (g := gb518) hb d15_4; have n2_ := ak (below_step d15_1 hb); clear BK515; clear BK518; clear HB; have BK515 := n0_; have BK518 := n1_; have HB := n2_; clear n0_ n1_ n2_
           (try clear hb)
           (try clear hb2)
           (try clear hk)
           (try clear hi)
           refine hK.out _ _ ⟨(zkc_ HB.out hw535_0), (zkc_ HB.out hw535_1), (zkc_ HB.out hw535_2), (zkc_ HB.out hw536_0), (zkc_ HB.out hw536_1), (zkc_ HB.out hw536_2)⟩ (fun hHeld => ?_); clear hK K; refine no5_ 88 ?_; refine one_ (i := 9) (N := none) #[true, true, true, true, true, true, true, true, true, true] rfl rfl (one_of HT_.out (by kernel_rfl)) (by decide) (fun K hK => ?_); have hs46 : w45.cell? ⟨gb518, 0, none⟩ = some (.int .i64 0) := (blk_cell BK518.out 0).trans rfl; have hfs46 := blk_frozen BK518.out 0; have hns46_0 := NB515_518.out; have hms46_0 := NB518_515.out; have hs47 : w45.cell? ⟨gb518, 1, none⟩ = some (.int .i64 0) := (blk_cell BK518.out 1).trans rfl; have hfs47 := blk_frozen BK518.out 1; have hns47_0 := NB515_518.out; have hms47_0 := NB518_515.out; refine skip_ (w1 := ?_) (by rfl) rfl ?_ ?_; rotate_left
           · go_simp
             rfl
           refine hK.out _ _ ⟨(zf2_ hw535_0 GW518.out hHeld.1), (zf2_ hw535_1 GW518.out hHeld.2.1), (zf2_ hw535_2 GW518.out hHeld.2.2.1), (zf2_ hw536_0 GW518.out hHeld.2.2.2.1), (zf2_ hw536_1 GW518.out hHeld.2.2.2.2.1), (zf2_ hw536_2 GW518.out hHeld.2.2.2.2.2)⟩ (fun hHeld => ?_)
           clear hK K; refine done_ (done_of HT_.out (by kernel_rfl)) ?_
           try go_wp2
           go_meet
           case rel => exact ⟨_, (0), (0), ((⟨#[]⟩ : ByteArray)), (t537), (t538), H', ⟨by have := HJ3.out; first | exact Nat.le_refl _ | omega⟩, ⟨c15_1⟩, ⟨by refine zpl_ ?_; refine zp2_ (.int .i64 0) (.int .i64 0) ?_; refine zpl_ ?_; exact BK518.out⟩, ⟨c15_2⟩⟩
          ·rw [if_neg c41] at H
           obtain ⟨c41b0, c41b1⟩ := zbf_ c41; by_cases c48 : a0 = 5
           ·rw [if_pos c48] at H
            obtain ⟨c48b0, c48b1⟩ := zbt_ c48; clear c48; obtain ⟨⟨t541, t542, t543⟩, A49, H⟩ := zbi_ H; (try dsimp -simprocs only at H); simp only [Option.some.injEq, Prod.mk.injEq] at H; obtain ⟨rfl, rfl, rfl, rfl⟩ := H
            try go_wp2
            generalize hw_ : ((w10.setCell ⟨gb518, 0, none⟩ (.int .i64 0)).setCell ⟨gb518, 1, none⟩ (.int .i64 0)) = w50; have n0_ : Aside0 (w50.heap[gb515]? = some (.cells #[.int .i64 0, .int .i64 0, .string (⟨#[]⟩ : ByteArray)] 29 (0, 0))) := ⟨by rw [← hw_]; exact c15_1⟩; have n1_ : Aside0 (w50.heap[gb518]? = some (.cells #[.int .i64 0, .int .i64 0] 83 (0, 0))) := ⟨by rw [← hw_]; refine zpl_ ?_; refine zp2_ (.int .i64 0) (.int .i64 0) ?_; refine zpl_ ?_; exact BK518.out⟩; have n2_ : Aside0 (Below w.heap.size w w50) := ⟨by rw [← hw_]; exact c15_2⟩
            (try clear BK515)
            (try clear BK518)
            (try clear HB)
            clear hw_; have BK515 := n0_; have BK518 := n1_; have HB := n2_; clear n0_ n1_ n2_; have n0_ := ak (blk_drew BK515.out); have n1_ := ak (blk_drew BK518.out); have n2_ := ak (below_drew1 HB.out); clear BK515; clear BK518; clear HB; have BK515 := n0_; have BK518 := n1_; have HB := n2_; clear n0_ n1_ n2_; have hw539_0 := HQ1_0.out; have hw539_1 := HQ1_1.out; have hw539_2 := HQ1_2.out; have hw540_0 := HQ2_0.out; have hw540_1 := HQ2_1.out; have hw540_2 := HQ2_2.out
            refine start_ (n := 12) (S := fun w' => w'.cell? P1_ = some (.int .i64 a1_0) ∧ w'.cell? ⟨P1_.block, P1_.off + 1, none⟩ = some (.int .i64 a1_1) ∧ w'.cell? ⟨P1_.block, P1_.off + 2, none⟩ = some (.string a1_2) ∧ w'.cell? P2_ = some (.int .i64 a2_0) ∧ w'.cell? ⟨P2_.block, P2_.off + 1, none⟩ = some (.int .i64 a2_1) ∧ w'.cell? ⟨P2_.block, P2_.off + 2, none⟩ = some (.string a2_2)) (ds := []) #[false, false, false, false, false, false, false, false, false, false, false, false] (by kernel_rfl) rfl rfl ⟨(zkc_ HB.out hw539_0), (zkc_ HB.out hw539_1), (zkc_ HB.out hw539_2), (zkc_ HB.out hw540_0), (zkc_ HB.out hw540_1), (zkc_ HB.out hw540_2)⟩ (fun hHeld => ?_); refine with_tabW spec_l6Num.tab17 spec_l6Num.bits17 (fun HT_ HW_ => ?_); generalize w50.drew = w51 at BK515 BK518 HB hHeld ⊢; refine pu5_ 0 91 (ab5_ 12 1) HT_ ?_; refine pu5_ 1 92 (ab5_ 12 3) HT_ ?_; refine pu5_ 2 93 (ab5_ 12 7) HT_ ?_
            refine pu5_ 4 95 (ab5_ 12 23) HT_ ?_; refine pu5_ 5 96 (ab5_ 12 55) HT_ ?_; refine pu5_ 6 97 (ab5_ 12 119) HT_ ?_; refine ta5_ 3 94 (ab5_ 12 127) HT_ HW_ hHeld ?_; refine ta5_ 7 98 (ab5_ 12 255) HT_ HW_ hHeld ?_; refine pu5_ 8 99 (ab5_ 12 511) HT_ ?_; refine one_ (i := 9) (N := some 100) #[true, true, true, true, true, true, true, true, true, true, false, false] rfl rfl (one_of HT_.out (by kernel_rfl)) (by decide) (fun K hK => ?_); refine goes_ Tryd.func43 (by kernel_rfl) rfl #[.bool (decide (a1_1 < a2_1))] (by rfl) rfl rfl d15_3 ?_; (with_reducible refine (spec_l6Bool.calls (decide (a1_1 < a2_1)) t541 t542 t543 _ A49.out).mono ?_); rintro e w52 ⟨rfl, hb⟩; refine ⟨_, rfl, ?_⟩; have n0_ := zbb_ (g := gb515) hb d15_2; have n1_ := zbb_ (g := gb518) hb d15_4; have n2_ := ak (below_step d15_1 hb); clear BK515; clear BK518; clear HB; have BK515 := n0_; have BK518 := n1_; have HB := n2_; clear n0_ n1_ n2_
            (try clear hb)
            (try clear hb2)
            (try clear hk)
            (try clear hi)
            refine hK.out _ _ ⟨(zkc_ HB.out hw539_0), (zkc_ HB.out hw539_1), (zkc_ HB.out hw539_2), (zkc_ HB.out hw540_0), (zkc_ HB.out hw540_1), (zkc_ HB.out hw540_2)⟩ (fun hHeld => ?_); clear hK K; refine no5_ 100 ?_; refine one_ (i := 10) (N := none) #[true, true, true, true, true, true, true, true, true, true, true, false] rfl rfl (one_of HT_.out (by kernel_rfl)) (by decide) (fun K hK => ?_); have hs53 : w52.cell? ⟨gb515, 0, none⟩ = some (.int .i64 0) := (blk_cell BK515.out 0).trans rfl; have hfs53 := blk_frozen BK515.out 0; have hns53_1 := NB518_515.out; have hms53_1 := NB515_518.out; have hs54 : w52.cell? ⟨gb515, 1, none⟩ = some (.int .i64 0) := (blk_cell BK515.out 1).trans rfl; have hfs54 := blk_frozen BK515.out 1; have hns54_1 := NB518_515.out; have hms54_1 := NB515_518.out; have hs55 : w52.cell? ⟨gb515, 2, none⟩ = some (.string (⟨#[]⟩ : ByteArray)) := (blk_cell BK515.out 2).trans rfl; have hfs55 := blk_frozen BK515.out 2; have hns55_1 := NB518_515.out; have hms55_1 := NB515_518.out; refine skip_ (w1 := ?_) (by rfl) rfl ?_ ?_; rotate_left
            · go_simp
              rfl
            refine hK.out _ _ ⟨(zf3_ hw539_0 GW515.out hHeld.1), (zf3_ hw539_1 GW515.out hHeld.2.1), (zf3_ hw539_2 GW515.out hHeld.2.2.1), (zf3_ hw540_0 GW515.out hHeld.2.2.2.1), (zf3_ hw540_1 GW515.out hHeld.2.2.2.2.1), (zf3_ hw540_2 GW515.out hHeld.2.2.2.2.2)⟩ (fun hHeld => ?_)
            clear hK K; refine pu5_ 11 7 (ab5_ 12 4095) HT_ ?_; refine done_ (done_of HT_.out (by kernel_rfl)) ?_
            try go_wp2
            refine bodyPost_ret (results_ct rfl _ _ gb515 29 #[.int .i64 t541, .int .i64 t542, .string t543] (0, 0) _ rfl (by refine zpl_ ?_; refine zp3_ (.int .i64 0) (.int .i64 0) (.string (⟨#[]⟩ : ByteArray)) ?_; refine zpl_ ?_; exact BK515.out) Tryd.underlying29 rfl (by kernel_rfl)) rfl ?_; exact ⟨by first | rfl | (simp [errW_none, errW_some] <;> rfl) | (simp [*, errW_none, errW_some] <;> rfl), c15_2⟩
           ·rw [if_neg c48] at H
            obtain ⟨c48b0, c48b1⟩ := zbf_ c48; obtain ⟨⟨t546, t547, t548⟩, A56, H⟩ := zbi_ H; (try dsimp -simprocs only at H); simp only [Option.some.injEq, Prod.mk.injEq] at H; obtain ⟨rfl, rfl, rfl, rfl⟩ := H
            try go_wp2
            generalize hw_ : ((w10.setCell ⟨gb518, 0, none⟩ (.int .i64 0)).setCell ⟨gb518, 1, none⟩ (.int .i64 0)) = w57; have n0_ : Aside0 (w57.heap[gb515]? = some (.cells #[.int .i64 0, .int .i64 0, .string (⟨#[]⟩ : ByteArray)] 29 (0, 0))) := ⟨by rw [← hw_]; exact c15_1⟩; have n1_ : Aside0 (w57.heap[gb518]? = some (.cells #[.int .i64 0, .int .i64 0] 83 (0, 0))) := ⟨by rw [← hw_]; refine zpl_ ?_; refine zp2_ (.int .i64 0) (.int .i64 0) ?_; refine zpl_ ?_; exact BK518.out⟩; have n2_ : Aside0 (Below w.heap.size w w57) := ⟨by rw [← hw_]; exact c15_2⟩
            (try clear BK515)
            (try clear BK518)
            (try clear HB)
            clear hw_; have BK515 := n0_; have BK518 := n1_; have HB := n2_; clear n0_ n1_ n2_; have n0_ := ak (blk_drew BK515.out); have n1_ := ak (blk_drew BK518.out); have n2_ := ak (below_drew1 HB.out); clear BK515; clear BK518; clear HB; have BK515 := n0_; have BK518 := n1_; have HB := n2_; clear n0_ n1_ n2_; have hw544_0 := HQ1_0.out; have hw544_1 := HQ1_1.out; have hw544_2 := HQ1_2.out; have hw545_0 := HQ2_0.out; have hw545_1 := HQ2_1.out; have hw545_2 := HQ2_2.out
            refine start_ (n := 12) (S := fun w' => w'.cell? P1_ = some (.int .i64 a1_0) ∧ w'.cell? ⟨P1_.block, P1_.off + 1, none⟩ = some (.int .i64 a1_1) ∧ w'.cell? ⟨P1_.block, P1_.off + 2, none⟩ = some (.string a1_2) ∧ w'.cell? P2_ = some (.int .i64 a2_0) ∧ w'.cell? ⟨P2_.block, P2_.off + 1, none⟩ = some (.int .i64 a2_1) ∧ w'.cell? ⟨P2_.block, P2_.off + 2, none⟩ = some (.string a2_2)) (ds := []) #[false, false, false, false, false, false, false, false, false, false, false, false] (by kernel_rfl) rfl rfl ⟨(zkc_ HB.out hw544_0), (zkc_ HB.out hw544_1), (zkc_ HB.out hw544_2), (zkc_ HB.out hw545_0), (zkc_ HB.out hw545_1), (zkc_ HB.out hw545_2)⟩ (fun hHeld => ?_); refine with_tabW spec_l6Num.tab5 spec_l6Num.bits5 (fun HT_ HW_ => ?_); generalize w57.drew = w58 at BK515 BK518 HB hHeld ⊢; refine pu5_ 0 24 (ab5_ 12 1) HT_ ?_; refine pu5_ 1 25 (ab5_ 12 3) HT_ ?_; refine pu5_ 2 26 (ab5_ 12 7) HT_ ?_
            refine pu5_ 4 28 (ab5_ 12 23) HT_ ?_; refine pu5_ 5 29 (ab5_ 12 55) HT_ ?_; refine pu5_ 6 30 (ab5_ 12 119) HT_ ?_; refine ta5_ 3 27 (ab5_ 12 127) HT_ HW_ hHeld ?_; refine ta5_ 7 31 (ab5_ 12 255) HT_ HW_ hHeld ?_; refine pu5_ 8 32 (ab5_ 12 511) HT_ ?_; refine one_ (i := 9) (N := some 33) #[true, true, true, true, true, true, true, true, true, true, false, false] rfl rfl (one_of HT_.out (by kernel_rfl)) (by decide) (fun K hK => ?_); refine goes_ Tryd.func43 (by kernel_rfl) rfl #[.bool (a1_1 == a2_1)] (by rfl) rfl rfl d15_3 ?_; (with_reducible refine (spec_l6Bool.calls (a1_1 == a2_1) t546 t547 t548 _ A56.out).mono ?_); rintro e w59 ⟨rfl, hb⟩; refine ⟨_, rfl, ?_⟩; have n0_ := zbb_ (g := gb515) hb d15_2; have n1_ := zbb_ (g := gb518) hb d15_4; have n2_ := ak (below_step d15_1 hb); clear BK515; clear BK518; clear HB; have BK515 := n0_; have BK518 := n1_; have HB := n2_; clear n0_ n1_ n2_
            (try clear hb)
            (try clear hb2)
            (try clear hk)
            (try clear hi)
            refine hK.out _ _ ⟨(zkc_ HB.out hw544_0), (zkc_ HB.out hw544_1), (zkc_ HB.out hw544_2), (zkc_ HB.out hw545_0), (zkc_ HB.out hw545_1), (zkc_ HB.out hw545_2)⟩ (fun hHeld => ?_); clear hK K; refine no5_ 33 ?_; refine one_ (i := 10) (N := none) #[true, true, true, true, true, true, true, true, true, true, true, false] rfl rfl (one_of HT_.out (by kernel_rfl)) (by decide) (fun K hK => ?_); have hs60 : w59.cell? ⟨gb515, 0, none⟩ = some (.int .i64 0) := (blk_cell BK515.out 0).trans rfl; have hfs60 := blk_frozen BK515.out 0; have hns60_1 := NB518_515.out; have hms60_1 := NB515_518.out; have hs61 : w59.cell? ⟨gb515, 1, none⟩ = some (.int .i64 0) := (blk_cell BK515.out 1).trans rfl; have hfs61 := blk_frozen BK515.out 1; have hns61_1 := NB518_515.out; have hms61_1 := NB515_518.out; have hs62 : w59.cell? ⟨gb515, 2, none⟩ = some (.string (⟨#[]⟩ : ByteArray)) := (blk_cell BK515.out 2).trans rfl; have hfs62 := blk_frozen BK515.out 2; have hns62_1 := NB518_515.out; have hms62_1 := NB515_518.out; refine skip_ (w1 := ?_) (by rfl) rfl ?_ ?_; rotate_left
            · go_simp
              rfl
            refine hK.out _ _ ⟨(zf3_ hw544_0 GW515.out hHeld.1), (zf3_ hw544_1 GW515.out hHeld.2.1), (zf3_ hw544_2 GW515.out hHeld.2.2.1), (zf3_ hw545_0 GW515.out hHeld.2.2.2.1), (zf3_ hw545_1 GW515.out hHeld.2.2.2.2.1), (zf3_ hw545_2 GW515.out hHeld.2.2.2.2.2)⟩ (fun hHeld => ?_)
            clear hK K; refine pu5_ 11 7 (ab5_ 12 4095) HT_ ?_; refine done_ (done_of HT_.out (by kernel_rfl)) ?_
            try go_wp2
            refine bodyPost_ret (results_ct rfl _ _ gb515 29 #[.int .i64 t546, .int .i64 t547, .string t548] (0, 0) _ rfl (by refine zpl_ ?_; refine zp3_ (.int .i64 0) (.int .i64 0) (.string (⟨#[]⟩ : ByteArray)) ?_; refine zpl_ ?_; exact BK515.out) Tryd.underlying29 rfl (by kernel_rfl)) rfl ?_; exact ⟨by first | rfl | (simp [errW_none, errW_some] <;> rfl) | (simp [*, errW_none, errW_some] <;> rfl), c15_2⟩
     case rest =>
      clear HC9
      (try clear c1); (try clear q1 q1); (try clear p2); (try clear q2 q2); (try clear c4); (try clear hx5); (try clear c6 c6b0 c6b1); (try clear c7); (try clear c11); (try clear c46); (try clear hx51); (try clear hcz12_0 hcz12_1 hfz12_0 hfz12_1); (try clear hcz8_0 hcz8_1 hcz8_2 hfz8_0 hfz8_1 hfz8_2); (try clear hx516_0); (try clear hx516_1); (try clear hx516_2); (try clear hx517_0); (try clear hx517_1); (try clear hx517_2)
      obtain ⟨kq, x516000_8, x516001_8, x516002_8, x519000_8, x519001_8, HA, HJ8, BK515, BK518, HB⟩ := hcut
      cases kq with
      | zero => exact absurd HA.out (by simp [spec_l6Num.j1])
      | succ kj8 =>
       have H := HA.out; clear HA; simp only [spec_l6Num.j1] at H; simp only [Option.some.injEq, Prod.mk.injEq] at H; obtain ⟨rfl, rfl, rfl, rfl⟩ := H
       try go_wp2
       have n0_ := ak (blk_drew BK515.out); have n1_ := ak (blk_drew BK518.out); have n2_ := ak (below_drew1 HB.out); clear BK515; clear BK518; clear HB; have BK515 := n0_; have BK518 := n1_; have HB := n2_; clear n0_ n1_ n2_; refine start_ (n := 7) (S := fun w' => w'.cell? ⟨gb518, 0, none⟩ = some (.int .i64 x519000_8) ∧ w'.cell? ⟨gb518, 1, none⟩ = some (.int .i64 x519001_8)) (ds := []) #[false, false, false, false, false, false, false] (by kernel_rfl) rfl rfl (hb15_2 BK518.out) (fun hHeld => ?_); generalize wc.drew = w63 at BK515 BK518 HB hHeld ⊢; refine puk5_ 0 101 (ab5_ 7 1) ?_; refine puk5_ 3 104 (ab5_ 7 9) ?_; refine tak5_ 1 102 (ab5_ 7 11) hHeld ?_; refine puk5_ 2 103 (ab5_ 7 15) ?_; refine tak5_ 4 105 (ab5_ 7 31) hHeld ?_
       refine one_ (i := 5) (N := none) #[true, true, true, true, true, true, false] rfl rfl (by kernel_rfl) (by decide) (fun K hK => ?_); have hs64 : w63.cell? ⟨gb515, 0, none⟩ = some (.int .i64 x516000_8) := (blk_cell BK515.out 0).trans rfl; have hfs64 := blk_frozen BK515.out 0; have hns64_1 := NB518_515.out; have hms64_1 := NB515_518.out; have hs65 : w63.cell? ⟨gb515, 1, none⟩ = some (.int .i64 x516001_8) := (blk_cell BK515.out 1).trans rfl; have hfs65 := blk_frozen BK515.out 1; have hns65_1 := NB518_515.out; have hms65_1 := NB515_518.out; have hs66 : w63.cell? ⟨gb515, 2, none⟩ = some (.string x516002_8) := (blk_cell BK515.out 2).trans rfl; have hfs66 := blk_frozen BK515.out 2; have hns66_1 := NB518_515.out; have hms66_1 := NB515_518.out; refine skip_ (w1 := ?_) (by rfl) rfl ?_ ?_; rotate_left
       · go_simp
         rfl
       refine hK.out _ _ ⟨(zn3_ NB518_515.out hHeld.1), (zn3_ NB518_515.out hHeld.2)⟩ (fun hHeld => ?_); clear hK K; refine puk5_ 6 7 (ab5_ 7 127) ?_; refine done_ (by kernel_rfl) ?_
       try go_wp2
       refine bodyPost_ret (results_ct rfl _ _ gb515 29 #[.int .i64 1, .int .i64 x519001_8, .string (⟨#[]⟩ : ByteArray)] (0, 0) _ rfl (by refine zpl_ ?_; refine zp3_ (.int .i64 x516000_8) (.int .i64 x516001_8) (.string x516002_8) ?_; refine zpl_ ?_; exact BK515.out) Tryd.underlying29 rfl (by kernel_rfl)) rfl ?_; exact ⟨by first | rfl | (simp [errW_none, errW_some] <;> rfl) | (simp [*, errW_none, errW_some] <;> rfl), c15_2⟩

end Go.Proofs.YtolhanigjmhkgacDoor.A
