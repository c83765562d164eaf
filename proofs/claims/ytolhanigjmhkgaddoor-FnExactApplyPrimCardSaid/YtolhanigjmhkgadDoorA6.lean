/- Walks of the program's functions: each Go function's answer as a plain Lean function, and that the call comes to it. Written by a program. Conditions: those in each theorem's own head. -/
import Derived.Test.YtolhanigjmhkgadDoorA0
import Derived.Test.YtolhanigjmhkgadDoorA4
import Derived.Test.YtolhanigjmhkgadDoorA5
namespace Go.Proofs.YtolhanigjmhkgadDoor.A
open Go.RowKit Go.Proofs.YtolhanigjmhkgadDoorW.PrintWords Go.Proofs.YtolhanigjmhkgadDoorW.PrintLast Go.Proofs.YtolhanigjmhkgadDoorW.PrintMore
attribute [local go_sem] max2_int min2_int max_two min_two max_three min_three max_four min_four   -- for this text's walks alone
set_option linter.unusedVariables false
set_option linter.unusedSimpArgs false

theorem b6N {w : World} {g : Nat} {o : Obj} (h : w.heap[g]? = some o) (n : Nat) : (w.drewN n).heap[g]? = some o := h
theorem b6D {w : World} {g : Nat} {o : Obj} (h : w.heap[g]? = some o) : (w.drew).heap[g]? = some o := h
theorem b6L {w : World} {g : Nat} {o : Obj} (h : w.heap[g]? = some o) (o' : Obj) : (w.alloc o').heap[g]? = some o := blk_alloc h o'
theorem d6_1 {p : Prop} (h : p := by repeat (first | (with_reducible first | exact HB.out | apply below_alloc | apply pw_below_drewN | apply below_drew1 | refine below_set ?_ GE185.out | refine below_set ?_ GE188.out) | exact HB.out)) : p := h
theorem d6_2 {p : Prop} (h : p := by (with_reducible repeat first | apply b6N | apply b6D | apply b6L); exact BK185.out) : p := h
theorem d6_3 {p : Prop} (h : p := by (try simp only [List.map_toArray, List.map_cons, List.map_nil]); first | done | rfl | (simp only [List.length_drop, List.length_take]; rfl)) : p := h
theorem d6_4 {p : Prop} (h : p := by (with_reducible repeat first | apply b6N | apply b6D | apply b6L); exact BK188.out) : p := h
theorem d6_5 {p : Prop} (h : p := by repeat (first | (with_reducible first | exact HB.out | apply below_alloc | apply pw_below_drewN | apply below_drew1 | refine below_set ?_ GE185.out) | exact HB.out)) : p := h
theorem c6_1 {p : Prop} (h : p := by (with_reducible repeat first | apply b6N | apply b6D | apply b6L); refine blk_far ?_ NB185_188.out _; (with_reducible repeat first | apply b6N | apply b6D | apply b6L); refine blk_far ?_ NB185_188.out _; (with_reducible repeat first | apply b6N | apply b6D | apply b6L); exact BK185.out) : p := h
theorem c6_2 {p : Prop} (h : p := by repeat (first | (with_reducible first | exact HB.out | apply below_alloc | apply pw_below_drewN | apply below_drew1 | refine below_set ?_ GE185.out | refine below_set ?_ GE188.out) | exact HB.out)) : p := h
theorem c6_3 {p : Prop} (h : p := by repeat (first | (with_reducible first | exact HB.out | apply below_alloc | apply pw_below_drewN | apply below_drew1 | refine below_set ?_ GE185.out) | exact HB.out)) : p := h
set_option maxHeartbeats 8000000
set_option maxRecDepth 100000
theorem z6c {w : World} {g : Nat} {t : TypeId} {cs : Array Value} (h : w.heap[g]? = some (.cells cs t (0, 0))) (i : Nat) {v : Value} (e : cs[i]? = some v) : w.cell? ⟨g, i, none⟩ = some v := (blk_cell h i).trans e
theorem pa6_1 {α : Type} (l : List α) (i : Nat) (a : α) : l.toArray.setIfInBounds i a = (l.set i a).toArray := List.setIfInBounds_toArray l i a
theorem pa6_2 {α : Type} (a : α) (l : List α) (b : α) : (a :: l).set 0 b = b :: l := rfl
theorem pa6_3 {α : Type} (a : α) (l : List α) (n : Nat) (b : α) : (a :: l).set (n + 1) b = a :: l.set n b := rfl

theorem hb6_2 {w : World} {g0 : Nat} {t0 : TypeId} {a0_0 a0_1 : Value} (h0 : w.heap[g0]? = some (.cells #[a0_0, a0_1] t0 (0, 0))) : w.cell? ⟨g0, 0, none⟩ = some a0_0 ∧ w.cell? ⟨g0, 1, none⟩ = some a0_1 := ⟨(blk_cell h0 0).trans rfl, (blk_cell h0 1).trans rfl⟩
theorem zm6_0 {p : Prop} (h : p := by repeat' first | (with_reducible first | apply ih0 | apply ih1 | exact LeO.refl _ | exact LeO.none _ | refine LeO.ite ?_ ?_ | refine LeO.bind ?_ (fun _ => ?_)) | apply ih0 | apply ih1 | exact LeO.none _ | refine LeO.ite ?_ ?_ | refine LeO.bind ?_ (fun _ => ?_)) : p := h

/-! ### spec_l6Num: function 42 -/
mutual
def spec_l6Num.j0 : Nat → Int → Bool → Int → Int → ByteArray → Int → Int → ByteArray → Option (Int × Int × ByteArray × Int)
  | 0, _, _, _, _, _, _, _, _ => none
  | k + 1, x0, x20, x2000, x2001, x2002, x3000, x3001, x3002 => if x20 = true then (some (0, 0, (⟨#[]⟩ : ByteArray), 6)) else (if x0 = 0 then ((spec_AddNum.f x2001 x3001).bind fun bt191 => (spec_l6Num.j1 k bt191.1 bt191.2)) else (if x0 = 1 then ((spec_SubNum.f x2001 x3001).bind fun bt195 => (spec_l6Num.j1 k bt195.1 bt195.2)) else (if x0 = 2 then ((spec_MulNum.f x2001 x3001).bind fun bt199 => (spec_l6Num.j1 k bt199.1 bt199.2)) else (if x0 = 3 then ((spec_QuoNum.f x2001 x3001).bind fun bt203 => (spec_l6Num.j1 k bt203.1 bt203.2)) else (if x0 = 4 then ((spec_RemNum.f x2001 x3001).bind fun bt207 => (spec_l6Num.j1 k bt207.1 bt207.2)) else (if x0 = 5 then ((spec_l6Bool.f (decide (x2001 < x3001))).bind fun bt211 => (some (bt211.1, bt211.2.1, bt211.2.2, 0))) else ((spec_l6Bool.f (x2001 == x3001)).bind fun bt216 => (some (bt216.1, bt216.2.1, bt216.2.2, 0)))))))))
def spec_l6Num.j1 : Nat → Int → Int → Option (Int × Int × ByteArray × Int)
  | 0, _, _ => none
  | k + 1, x189000, x189001 => some (1, x189001, (⟨#[]⟩ : ByteArray), x189000)
end
def spec_l6Num.f (k : Nat) (a0 : Int) (a1_0 : Int) (a1_1 : Int) (a1_2 : ByteArray) (a2_0 : Int) (a2_1 : Int) (a2_2 : ByteArray) : Option (Int × Int × ByteArray × Int) := if a1_0 = 1 then (spec_l6Num.j0 k a0 (a2_0 != 1) a1_0 a1_1 a1_2 a2_0 a2_1 a2_2) else (spec_l6Num.j0 k a0 true a1_0 a1_1 a1_2 a2_0 a2_1 a2_2)
theorem spec_l6Num.mono_l : ∀ k, (∀ y0 y1 y2 y3 y4 y5 y6 y7, LeO (spec_l6Num.j0 k y0 y1 y2 y3 y4 y5 y6 y7) (spec_l6Num.j0 (k + 1) y0 y1 y2 y3 y4 y5 y6 y7)) ∧ (∀ y0 y1, LeO (spec_l6Num.j1 k y0 y1) (spec_l6Num.j1 (k + 1) y0 y1))
  | 0 => ⟨fun _ _ _ _ _ _ _ _ r h => by simp [spec_l6Num.j0] at h, fun _ _ r h => by simp [spec_l6Num.j1] at h⟩
  | k + 1 => by
    obtain ⟨ih0, ih1⟩ := spec_l6Num.mono_l k; refine ⟨?_, ?_⟩
    all_goals
      intros
      first | unfold spec_l6Num.j0 | unfold spec_l6Num.j1
      exact zm6_0
theorem spec_l6Num.mono : ∀ a0 a1 a2 a3 a4 a5 a6 k, LeO (spec_l6Num.f k a0 a1 a2 a3 a4 a5 a6) (spec_l6Num.f (k + 1) a0 a1 a2 a3 a4 a5 a6) := by
  intro a0 a1 a2 a3 a4 a5 a6 k; obtain ⟨ih0, ih1⟩ := spec_l6Num.mono_l k; unfold spec_l6Num.f
  exact zm6_0
def spec_l6Num.T5 : Bool × List (List Nat × List Nat) := (true, [([], []), ([0], [0]), ([1], [1]), ([2], [2]), ([], []), ([4], [4]), ([5], [5]), ([6], [6]), ([3, 7], [3, 7]), ([8], [8]), ([9, 9, 0, 1, 2, 3, 4, 5, 6, 7, 8, 9], [9]), ([10, 0, 1, 2, 3, 4, 5, 6, 7, 8, 9, 10], [])])
def spec_l6Num.B5 : List Nat := [0, 1, 3, 7, 0, 16, 48, 112, 255, 511, 1023, 2047]
theorem spec_l6Num.tab5 : rtab .any (opsOf Tryd.f42 5) = spec_l6Num.T5 := by kernel_rfl
theorem spec_l6Num.bits5 : waitsOk spec_l6Num.T5.2 spec_l6Num.B5 = true := by kernel_rfl
def spec_l6Num.T7 : Bool × List (List Nat × List Nat) := (true, [([], []), ([0], [0]), ([1], [1]), ([2], [2]), ([], []), ([4], [4]), ([5], [5]), ([6], [6]), ([3, 7], [3, 7]), ([8, 8, 0, 1, 2, 3, 4, 5, 6, 7, 8], [8])])
def spec_l6Num.B7 : List Nat := [0, 1, 3, 7, 0, 16, 48, 112, 255, 511]
theorem spec_l6Num.tab7 : rtab .any (opsOf Tryd.f42 7) = spec_l6Num.T7 := by kernel_rfl
theorem spec_l6Num.bits7 : waitsOk spec_l6Num.T7.2 spec_l6Num.B7 = true := by kernel_rfl
def spec_l6Num.T9 : Bool × List (List Nat × List Nat) := (true, [([], []), ([0], [0]), ([1], [1]), ([2], [2]), ([], []), ([4], [4]), ([5], [5]), ([6], [6]), ([3, 7], [3, 7]), ([8, 8, 0, 1, 2, 3, 4, 5, 6, 7, 8], [8])])
def spec_l6Num.B9 : List Nat := [0, 1, 3, 7, 0, 16, 48, 112, 255, 511]
theorem spec_l6Num.tab9 : rtab .any (opsOf Tryd.f42 9) = spec_l6Num.T9 := by kernel_rfl
theorem spec_l6Num.bits9 : waitsOk spec_l6Num.T9.2 spec_l6Num.B9 = true := by kernel_rfl
def spec_l6Num.T11 : Bool × List (List Nat × List Nat) := (true, [([], []), ([0], [0]), ([1], [1]), ([2], [2]), ([], []), ([4], [4]), ([5], [5]), ([6], [6]), ([3, 7], [3, 7]), ([8, 8, 0, 1, 2, 3, 4, 5, 6, 7, 8], [8])])
def spec_l6Num.B11 : List Nat := [0, 1, 3, 7, 0, 16, 48, 112, 255, 511]
theorem spec_l6Num.tab11 : rtab .any (opsOf Tryd.f42 11) = spec_l6Num.T11 := by kernel_rfl
theorem spec_l6Num.bits11 : waitsOk spec_l6Num.T11.2 spec_l6Num.B11 = true := by kernel_rfl
def spec_l6Num.T13 : Bool × List (List Nat × List Nat) := (true, [([], []), ([0], [0]), ([1], [1]), ([2], [2]), ([], []), ([4], [4]), ([5], [5]), ([6], [6]), ([3, 7], [3, 7]), ([8, 8, 0, 1, 2, 3, 4, 5, 6, 7, 8], [8])])
def spec_l6Num.B13 : List Nat := [0, 1, 3, 7, 0, 16, 48, 112, 255, 511]
theorem spec_l6Num.tab13 : rtab .any (opsOf Tryd.f42 13) = spec_l6Num.T13 := by kernel_rfl
theorem spec_l6Num.bits13 : waitsOk spec_l6Num.T13.2 spec_l6Num.B13 = true := by kernel_rfl
def spec_l6Num.T15 : Bool × List (List Nat × List Nat) := (true, [([], []), ([0], [0]), ([1], [1]), ([2], [2]), ([], []), ([4], [4]), ([5], [5]), ([6], [6]), ([3, 7], [3, 7]), ([8, 8, 0, 1, 2, 3, 4, 5, 6, 7, 8], [8])])
def spec_l6Num.B15 : List Nat := [0, 1, 3, 7, 0, 16, 48, 112, 255, 511]
theorem spec_l6Num.tab15 : rtab .any (opsOf Tryd.f42 15) = spec_l6Num.T15 := by kernel_rfl
theorem spec_l6Num.bits15 : waitsOk spec_l6Num.T15.2 spec_l6Num.B15 = true := by kernel_rfl
def spec_l6Num.T17 : Bool × List (List Nat × List Nat) := (true, [([], []), ([0], [0]), ([1], [1]), ([2], [2]), ([], []), ([4], [4]), ([5], [5]), ([6], [6]), ([3, 7], [3, 7]), ([8], [8]), ([9, 9, 0, 1, 2, 3, 4, 5, 6, 7, 8, 9], [9]), ([10, 0, 1, 2, 3, 4, 5, 6, 7, 8, 9, 10], [])])
def spec_l6Num.B17 : List Nat := [0, 1, 3, 7, 0, 16, 48, 112, 255, 511, 1023, 2047]
theorem spec_l6Num.tab17 : rtab .any (opsOf Tryd.f42 17) = spec_l6Num.T17 := by kernel_rfl
theorem spec_l6Num.bits17 : waitsOk spec_l6Num.T17.2 spec_l6Num.B17 = true := by kernel_rfl
theorem spec_l6Num.calls (k : Nat) (a0 : Int) (P1_ : Addr) (a1_0 : Int) (a1_1 : Int) (a1_2 : ByteArray) (P2_ : Addr) (a2_0 : Int) (a2_1 : Int) (a2_2 : ByteArray) (r1 : Int) (r2 : Int) (r3 : ByteArray) (r4 : Int) (w : World) (hq1_0 : w.cell? P1_ = some (.int .i64 a1_0)) (hq1_1 : w.cell? ⟨P1_.block, P1_.off + 1, none⟩ = some (.int .i64 a1_1)) (hq1_2 : w.cell? ⟨P1_.block, P1_.off + 2, none⟩ = some (.string a1_2)) (hq2_0 : w.cell? P2_ = some (.int .i64 a2_0)) (hq2_1 : w.cell? ⟨P2_.block, P2_.off + 1, none⟩ = some (.int .i64 a2_1)) (hq2_2 : w.cell? ⟨P2_.block, P2_.off + 2, none⟩ = some (.string a2_2)) (h : spec_l6Num.f k a0 a1_0 a1_1 a1_2 a2_0 a2_1 a2_2 = some (r1, r2, r3, r4)) :
    Calls Tryd.prog 42 #[.int .i64 a0, .pointer (some P1_), .pointer (some P2_)] w fun e w' => e = .returned (.tuple #[.agg #[.int .i64 r1, .int .i64 r2, .string r3], .int .i64 r4]) ∧ Below w.heap.size w w' := by
  have hu28 := Tryd.underlying28; have hu88 := Tryd.underlying88; have HQ1_0 := ak hq1_0; clear hq1_0; have HQ1_1 := ak hq1_1; clear hq1_1; have HQ1_2 := ak hq1_2; clear hq1_2; have HQ2_0 := ak hq2_0; clear hq2_0; have HQ2_1 := ak hq2_1; clear hq2_1; have HQ2_2 := ak hq2_2; clear hq2_2; have HB := ak (Below.refl w.heap.size w); have H := h; clear h; unfold spec_l6Num.f at H; have HC4 := ak H; clear H; go_enter Tryd.func42, Tryd.ntmps42; go_upto_region 1 with (first | ((with_reducible refine gate_dst (N := 6) rfl ?_); refine box_event ?hg (N := 6) ?hd (cs := #[.int .i64 0, .int .i64 0, .string (⟨#[]⟩ : ByteArray)]) (t := 28) ?hr ?_; (case hd => rfl); (case hg => rfl); (case hr => first | (go_simp; done) | (go_simp; rfl)); intro gb185 hg w5 hbox hb; have BK185 := ak (hbox); have GW185 := ak ((by rw [hg]; exact (below_size (by repeat (first | (with_reducible first | exact HB.out | apply below_alloc | apply pw_below_drewN | apply below_drew1) | exact HB.out))) : w.heap.size ≤ gb185)); have GE185 := ak ((by rw [hg]; exact (below_size (by repeat (first | (with_reducible first | exact HB.out | apply below_alloc | apply pw_below_drewN | apply below_drew1) | exact HB.out))) : w.heap.size ≤ gb185)); replace HB := ak (below_step (by repeat (first | (with_reducible first | exact HB.out | apply below_alloc | apply pw_below_drewN | apply below_drew1) | exact HB.out)) hb); clear hb hbox hg))
  (try simp only [Act.put, pa6_1, pa6_2, pa6_3])
  go_cut [20] (fun v20 wc => ∃ (kq : Nat) (x20_3 : Bool), v20 = .bool x20_3 ∧ Aside0 (spec_l6Num.j0 kq a0 x20_3 a1_0 a1_1 a1_2 a2_0 a2_1 a2_2 = some (r1, r2, r3, r4)) ∧ Aside0 (kq ≤ k) ∧ Aside0 (wc.heap[gb185]? = some (.cells #[.int .i64 0, .int .i64 0, .string (⟨#[]⟩ : ByteArray)] 28 (0, 0))) ∧ Aside0 (Below w.heap.size w wc))
  case first =>
   have H := HC4.out; clear HC4; by_cases c6 : a1_0 = 1
   ·rw [if_pos c6] at H
    obtain ⟨c6b0, c6b1⟩ := zbt_ c6; clear c6
    (first | rw [c6b0] | (simp only [i64_w, i32_w]; rw [c6b0]) | skip)
    have H' := ak H; clear H; have hx186_0 := HQ1_0.out; replace hx186_0 := zkc_ HB.out hx186_0; have hx186_1 := HQ1_1.out; replace hx186_1 := zkc_ HB.out hx186_1; have hx186_2 := HQ1_2.out; replace hx186_2 := zkc_ HB.out hx186_2; have hx187_0 := HQ2_0.out; replace hx187_0 := zkc_ HB.out hx187_0; have hx187_1 := HQ2_1.out; replace hx187_1 := zkc_ HB.out hx187_1; have hx187_2 := HQ2_2.out; replace hx187_2 := zkc_ HB.out hx187_2; go_wp2; go_meet
    case rel => exact ⟨_, ((a2_0 != 1)), (by first | rfl | (simp; done) | (simp [*]; done) | (simp [ne_nil_b, eq_nil_b]; done)), H', ⟨by first | exact Nat.le_refl _ | omega⟩, ⟨by (with_reducible repeat first | apply b6N | apply b6D | apply b6L); exact BK185.out⟩, ⟨c6_3⟩⟩
   ·rw [if_neg c6] at H
    obtain ⟨c6b0, c6b1⟩ := zbf_ c6
    (first | rw [c6b0] | (simp only [i64_w, i32_w]; rw [c6b0]) | skip)
    have H' := ak H; clear H; have hx186_0 := HQ1_0.out; replace hx186_0 := zkc_ HB.out hx186_0; have hx186_1 := HQ1_1.out; replace hx186_1 := zkc_ HB.out hx186_1; have hx186_2 := HQ1_2.out; replace hx186_2 := zkc_ HB.out hx186_2; go_wp2; go_meet
    case rel => exact ⟨_, (true), (by first | rfl | (simp; done) | (simp [*]; done) | (simp [ne_nil_b, eq_nil_b]; done)), H', ⟨by first | exact Nat.le_refl _ | omega⟩, ⟨by (with_reducible repeat first | apply b6N | apply b6D | apply b6L); exact BK185.out⟩, ⟨c6_3⟩⟩
  case rest =>
   clear HC4
   (try clear q1); (try clear q2); (try clear c4)
   obtain ⟨kq, x20_3, rfl, HA, HJ3, BK185, HB⟩ := hcut
   cases kq with
   | zero => exact absurd HA.out (by simp [spec_l6Num.j0])
   | succ kj3 =>
    have H := HA.out; clear HA; simp only [spec_l6Num.j0] at H; by_cases c7 : x20_3 = true
    ·subst c7
     rw [if_pos rfl] at H; simp only [Option.some.injEq, Prod.mk.injEq] at H; obtain ⟨rfl, rfl, rfl, rfl⟩ := H; obtain ⟨hcz8_0, hcz8_1, hcz8_2, hfz8_0, hfz8_1, hfz8_2⟩ := zx3_ BK185.out; go_wp2; refine bodyPost_ret (results_ct rfl _ _ gb185 28 #[.int .i64 0, .int .i64 0, .string (⟨#[]⟩ : ByteArray)] (0, 0) _ rfl (by (with_reducible repeat first | apply b6N | apply b6D | apply b6L); refine zp3_ (.int .i64 0) (.int .i64 0) (.string (⟨#[]⟩ : ByteArray)) ?_; (with_reducible repeat first | apply b6N | apply b6D | apply b6L); exact BK185.out) Tryd.underlying28 rfl (by kernel_rfl)) rfl ?_; exact ⟨by first | rfl | (simp [errW_none, errW_some] <;> rfl) | (simp [*, errW_none, errW_some] <;> rfl), c6_3⟩
    ·replace c7 := Bool.eq_false_iff.mpr c7
     subst c7; rw [if_neg (show ¬ (false = true) by decide)] at H; have HC9 := ak H; clear H
     go_upto_block 0 with (first | ((with_reducible refine gate_dst (N := 8) rfl ?_); refine box_event ?hg (N := 8) ?hd (cs := #[.int .i64 0, .int .i64 0]) (t := 88) ?hr ?_; (case hd => rfl); (case hg => rfl); (case hr => first | (go_simp; done) | (go_simp; rfl)); intro gb188 hg w10 hbox hb; have BK188 := ak (hbox); have GW188 := ak ((by rw [hg]; exact (below_size d6_5) : w.heap.size ≤ gb188)); have GE188 := ak ((by rw [hg]; exact (below_size d6_5) : w.heap.size ≤ gb188)); obtain ⟨NB185_188, NB188_185⟩ := zne_ (g := gb185) hg d6_2; replace BK185 := zbb_ (g := gb185) hb d6_2; replace HB := ak (below_step d6_5 hb); clear hb hbox hg; have hnb11 := NB188_185.out; have hnc11 := NB185_188.out; obtain ⟨hcz12_0, hcz12_1, hfz12_0, hfz12_1⟩ := zx2_ BK188.out))
     (try simp only [Act.put, pa6_1, pa6_2, pa6_3])
     go_cut [] (fun wc => ∃ (kq : Nat) (x186000_8 : Int) (x186001_8 : Int) (x186002_8 : ByteArray) (x189000_8 : Int) (x189001_8 : Int), Aside0 (spec_l6Num.j1 kq x189000_8 x189001_8 = some (r1, r2, r3, r4)) ∧ Aside0 (kq ≤ kj3) ∧ Aside0 (wc.heap[gb185]? = some (.cells #[.int .i64 x186000_8, .int .i64 x186001_8, .string x186002_8] 28 (0, 0))) ∧ Aside0 (wc.heap[gb188]? = some (.cells #[.int .i64 x189000_8, .int .i64 x189001_8] 88 (0, 0))) ∧ Aside0 (Below w.heap.size w wc))
     case first =>
      have H := HC9.out; clear HC9; by_cases c13 : a0 = 0
      ·rw [if_pos c13] at H
       obtain ⟨c13b0, c13b1⟩ := zbt_ c13; clear c13
       (first | rw [c13b0] | (simp only [i64_w, i32_w]; rw [c13b0]) | skip)
       obtain ⟨⟨t191, t192⟩, A14, H⟩ := zbi_ H; (try dsimp -simprocs only at H); have H' := ak H; clear H
       try go_wp2
       have n0_ : Aside0 (((w10.setCell ⟨gb188, 0, none⟩ (.int .i64 0)).setCell ⟨gb188, 1, none⟩ (.int .i64 0)).heap[gb185]? = some (.cells #[.int .i64 0, .int .i64 0, .string (⟨#[]⟩ : ByteArray)] 28 (0, 0))) := ⟨c6_1⟩; have n1_ : Aside0 (((w10.setCell ⟨gb188, 0, none⟩ (.int .i64 0)).setCell ⟨gb188, 1, none⟩ (.int .i64 0)).heap[gb188]? = some (.cells #[.int .i64 0, .int .i64 0] 88 (0, 0))) := ⟨by (with_reducible repeat first | apply b6N | apply b6D | apply b6L); refine zp2_ (.int .i64 0) (.int .i64 0) ?_; (with_reducible repeat first | apply b6N | apply b6D | apply b6L); exact BK188.out⟩; have n2_ : Aside0 (Below w.heap.size w ((w10.setCell ⟨gb188, 0, none⟩ (.int .i64 0)).setCell ⟨gb188, 1, none⟩ (.int .i64 0))) := ⟨c6_2⟩
       (try clear BK185)
       (try clear BK188)
       (try clear HB)
       generalize ((w10.setCell ⟨gb188, 0, none⟩ (.int .i64 0)).setCell ⟨gb188, 1, none⟩ (.int .i64 0)) = w15 at n0_ n1_ n2_ ⊢; have BK185 := n0_; have BK188 := n1_; have HB := n2_; clear n0_ n1_ n2_; have n0_ := ak (blk_drew BK185.out); have n1_ := ak (blk_drew BK188.out); have n2_ := ak (below_drew1 HB.out); clear BK185; clear BK188; clear HB; have BK185 := n0_; have BK188 := n1_; have HB := n2_; clear n0_ n1_ n2_; have hw189_0 := HQ1_0.out; have hw189_1 := HQ1_1.out; have hw189_2 := HQ1_2.out; have hw190_0 := HQ2_0.out; have hw190_1 := HQ2_1.out; have hw190_2 := HQ2_2.out
       refine start_ (n := 10) (S := fun w' => w'.cell? P1_ = some (.int .i64 a1_0) ∧ w'.cell? ⟨P1_.block, P1_.off + 1, none⟩ = some (.int .i64 a1_1) ∧ w'.cell? ⟨P1_.block, P1_.off + 2, none⟩ = some (.string a1_2) ∧ w'.cell? P2_ = some (.int .i64 a2_0) ∧ w'.cell? ⟨P2_.block, P2_.off + 1, none⟩ = some (.int .i64 a2_1) ∧ w'.cell? ⟨P2_.block, P2_.off + 2, none⟩ = some (.string a2_2)) (ds := []) #[false, false, false, false, false, false, false, false, false, false] (by kernel_rfl) rfl rfl ⟨(zkc_ HB.out hw189_0), (zkc_ HB.out hw189_1), (zkc_ HB.out hw189_2), (zkc_ HB.out hw190_0), (zkc_ HB.out hw190_1), (zkc_ HB.out hw190_2)⟩ (fun hHeld => ?_); refine with_tabW spec_l6Num.tab7 spec_l6Num.bits7 (fun HT_ HW_ => ?_); generalize w15.drew = w16 at BK185 BK188 HB hHeld ⊢; refine pu5_ 0 36 (ab5_ 10 1) HT_ ?_; refine pu5_ 1 37 (ab5_ 10 3) HT_ ?_; refine pu5_ 2 38 (ab5_ 10 7) HT_ ?_; refine pu5_ 4 40 (ab5_ 10 23) HT_ ?_
       refine pu5_ 5 41 (ab5_ 10 55) HT_ ?_; refine pu5_ 6 42 (ab5_ 10 119) HT_ ?_; refine ta5_ 3 39 (ab5_ 10 127) HT_ HW_ hHeld ?_; refine ta5_ 7 43 (ab5_ 10 255) HT_ HW_ hHeld ?_; refine one_ (i := 8) (N := some 44) #[true, true, true, true, true, true, true, true, true, false] rfl rfl (one_of HT_.out (by kernel_rfl)) (by decide) (fun K hK => ?_); refine goes_ Tryd.func55 (by kernel_rfl) rfl #[.int .i64 a1_1, .int .i64 a2_1] (by rfl) rfl rfl d6_3 ?_; (with_reducible refine (spec_AddNum.calls a1_1 a2_1 t191 t192 _ A14.out).mono ?_); rintro e w17 ⟨rfl, hb⟩; refine ⟨_, rfl, ?_⟩; have n0_ := zbb_ (g := gb185) hb d6_2; have n1_ := zbb_ (g := gb188) hb d6_4; have n2_ := ak (below_step d6_1 hb); clear BK185; clear BK188; clear HB; have BK185 := n0_; have BK188 := n1_; have HB := n2_; clear n0_ n1_ n2_
       (try clear hb)
       (try clear hb2)
       (try clear hk)
       (try clear hi)
       refine hK.out _ _ ⟨(zkc_ HB.out hw189_0), (zkc_ HB.out hw189_1), (zkc_ HB.out hw189_2), (zkc_ HB.out hw190_0), (zkc_ HB.out hw190_1), (zkc_ HB.out hw190_2)⟩ (fun hHeld => ?_); clear hK K; refine no5_ 44 ?_; refine one_ (i := 9) (N := none) #[true, true, true, true, true, true, true, true, true, true] rfl rfl (one_of HT_.out (by kernel_rfl)) (by decide) (fun K hK => ?_); have hs18 : w17.cell? ⟨gb188, 0, none⟩ = some (.int .i64 0) := (blk_cell BK188.out 0).trans rfl; have hfs18 := blk_frozen BK188.out 0; have hns18_0 := NB185_188.out; have hms18_0 := NB188_185.out; have hs19 : w17.cell? ⟨gb188, 1, none⟩ = some (.int .i64 0) := (blk_cell BK188.out 1).trans rfl; have hfs19 := blk_frozen BK188.out 1; have hns19_0 := NB185_188.out; have hms19_0 := NB188_185.out; refine skip_ (w1 := ?_) (by rfl) rfl ?_ ?_; rotate_left
       · go_simp
         rfl
       refine hK.out _ _ ⟨((zcf_ hw189_0 GW188.out).trans (((zcf_ hw189_0 GW188.out).trans (hHeld.1)))), ((zcf_ hw189_1 GW188.out).trans (((zcf_ hw189_1 GW188.out).trans (hHeld.2.1)))), ((zcf_ hw189_2 GW188.out).trans (((zcf_ hw189_2 GW188.out).trans (hHeld.2.2.1)))), ((zcf_ hw190_0 GW188.out).trans (((zcf_ hw190_0 GW188.out).trans (hHeld.2.2.2.1)))), ((zcf_ hw190_1 GW188.out).trans (((zcf_ hw190_1 GW188.out).trans (hHeld.2.2.2.2.1)))), ((zcf_ hw190_2 GW188.out).trans (((zcf_ hw190_2 GW188.out).trans (hHeld.2.2.2.2.2))))⟩ (fun hHeld => ?_)
       clear hK K; refine done_ (done_of HT_.out (by kernel_rfl)) ?_
       try go_wp2
       go_meet
       case rel => exact ⟨_, (0), (0), ((⟨#[]⟩ : ByteArray)), (t191), (t192), H', ⟨by have := HJ3.out; first | exact Nat.le_refl _ | omega⟩, ⟨c6_1⟩, ⟨by (with_reducible repeat first | apply b6N | apply b6D | apply b6L); refine zp2_ (.int .i64 0) (.int .i64 0) ?_; (with_reducible repeat first | apply b6N | apply b6D | apply b6L); exact BK188.out⟩, ⟨c6_2⟩⟩
      ·rw [if_neg c13] at H
       obtain ⟨c13b0, c13b1⟩ := zbf_ c13
       (first | rw [c13b0] | (simp only [i64_w, i32_w]; rw [c13b0]) | skip)
       by_cases c20 : a0 = 1
       ·rw [if_pos c20] at H
        obtain ⟨c20b0, c20b1⟩ := zbt_ c20; clear c20; obtain ⟨⟨t195, t196⟩, A21, H⟩ := zbi_ H; (try dsimp -simprocs only at H); have H' := ak H; clear H
        try go_wp2
        have n0_ : Aside0 (((w10.setCell ⟨gb188, 0, none⟩ (.int .i64 0)).setCell ⟨gb188, 1, none⟩ (.int .i64 0)).heap[gb185]? = some (.cells #[.int .i64 0, .int .i64 0, .string (⟨#[]⟩ : ByteArray)] 28 (0, 0))) := ⟨c6_1⟩; have n1_ : Aside0 (((w10.setCell ⟨gb188, 0, none⟩ (.int .i64 0)).setCell ⟨gb188, 1, none⟩ (.int .i64 0)).heap[gb188]? = some (.cells #[.int .i64 0, .int .i64 0] 88 (0, 0))) := ⟨by (with_reducible repeat first | apply b6N | apply b6D | apply b6L); refine zp2_ (.int .i64 0) (.int .i64 0) ?_; (with_reducible repeat first | apply b6N | apply b6D | apply b6L); exact BK188.out⟩; have n2_ : Aside0 (Below w.heap.size w ((w10.setCell ⟨gb188, 0, none⟩ (.int .i64 0)).setCell ⟨gb188, 1, none⟩ (.int .i64 0))) := ⟨c6_2⟩
        (try clear BK185)
        (try clear BK188)
        (try clear HB)
        generalize ((w10.setCell ⟨gb188, 0, none⟩ (.int .i64 0)).setCell ⟨gb188, 1, none⟩ (.int .i64 0)) = w22 at n0_ n1_ n2_ ⊢; have BK185 := n0_; have BK188 := n1_; have HB := n2_; clear n0_ n1_ n2_; have n0_ := ak (blk_drew BK185.out); have n1_ := ak (blk_drew BK188.out); have n2_ := ak (below_drew1 HB.out); clear BK185; clear BK188; clear HB; have BK185 := n0_; have BK188 := n1_; have HB := n2_; clear n0_ n1_ n2_; have hw193_0 := HQ1_0.out; have hw193_1 := HQ1_1.out; have hw193_2 := HQ1_2.out; have hw194_0 := HQ2_0.out; have hw194_1 := HQ2_1.out; have hw194_2 := HQ2_2.out
        refine start_ (n := 10) (S := fun w' => w'.cell? P1_ = some (.int .i64 a1_0) ∧ w'.cell? ⟨P1_.block, P1_.off + 1, none⟩ = some (.int .i64 a1_1) ∧ w'.cell? ⟨P1_.block, P1_.off + 2, none⟩ = some (.string a1_2) ∧ w'.cell? P2_ = some (.int .i64 a2_0) ∧ w'.cell? ⟨P2_.block, P2_.off + 1, none⟩ = some (.int .i64 a2_1) ∧ w'.cell? ⟨P2_.block, P2_.off + 2, none⟩ = some (.string a2_2)) (ds := []) #[false, false, false, false, false, false, false, false, false, false] (by kernel_rfl) rfl rfl ⟨(zkc_ HB.out hw193_0), (zkc_ HB.out hw193_1), (zkc_ HB.out hw193_2), (zkc_ HB.out hw194_0), (zkc_ HB.out hw194_1), (zkc_ HB.out hw194_2)⟩ (fun hHeld => ?_); refine with_tabW spec_l6Num.tab9 spec_l6Num.bits9 (fun HT_ HW_ => ?_); generalize w22.drew = w23 at BK185 BK188 HB hHeld ⊢; refine pu5_ 0 47 (ab5_ 10 1) HT_ ?_; refine pu5_ 1 48 (ab5_ 10 3) HT_ ?_; refine pu5_ 2 49 (ab5_ 10 7) HT_ ?_; refine pu5_ 4 51 (ab5_ 10 23) HT_ ?_
        refine pu5_ 5 52 (ab5_ 10 55) HT_ ?_; refine pu5_ 6 53 (ab5_ 10 119) HT_ ?_; refine ta5_ 3 50 (ab5_ 10 127) HT_ HW_ hHeld ?_; refine ta5_ 7 54 (ab5_ 10 255) HT_ HW_ hHeld ?_; refine one_ (i := 8) (N := some 55) #[true, true, true, true, true, true, true, true, true, false] rfl rfl (one_of HT_.out (by kernel_rfl)) (by decide) (fun K hK => ?_); refine goes_ Tryd.func56 (by kernel_rfl) rfl #[.int .i64 a1_1, .int .i64 a2_1] (by rfl) rfl rfl d6_3 ?_; (with_reducible refine (spec_SubNum.calls a1_1 a2_1 t195 t196 _ A21.out).mono ?_); rintro e w24 ⟨rfl, hb⟩; refine ⟨_, rfl, ?_⟩; have n0_ := zbb_ (g := gb185) hb d6_2; have n1_ := zbb_ (g := gb188) hb d6_4; have n2_ := ak (below_step d6_1 hb); clear BK185; clear BK188; clear HB; have BK185 := n0_; have BK188 := n1_; have HB := n2_; clear n0_ n1_ n2_
        (try clear hb)
        (try clear hb2)
        (try clear hk)
        (try clear hi)
        refine hK.out _ _ ⟨(zkc_ HB.out hw193_0), (zkc_ HB.out hw193_1), (zkc_ HB.out hw193_2), (zkc_ HB.out hw194_0), (zkc_ HB.out hw194_1), (zkc_ HB.out hw194_2)⟩ (fun hHeld => ?_); clear hK K; refine no5_ 55 ?_; refine one_ (i := 9) (N := none) #[true, true, true, true, true, true, true, true, true, true] rfl rfl (one_of HT_.out (by kernel_rfl)) (by decide) (fun K hK => ?_); have hs25 : w24.cell? ⟨gb188, 0, none⟩ = some (.int .i64 0) := (blk_cell BK188.out 0).trans rfl; have hfs25 := blk_frozen BK188.out 0; have hns25_0 := NB185_188.out; have hms25_0 := NB188_185.out; have hs26 : w24.cell? ⟨gb188, 1, none⟩ = some (.int .i64 0) := (blk_cell BK188.out 1).trans rfl; have hfs26 := blk_frozen BK188.out 1; have hns26_0 := NB185_188.out; have hms26_0 := NB188_185.out; refine skip_ (w1 := ?_) (by rfl) rfl ?_ ?_; rotate_left
        · go_simp
          rfl
        refine hK.out _ _ ⟨((zcf_ hw193_0 GW188.out).trans (((zcf_ hw193_0 GW188.out).trans (hHeld.1)))), ((zcf_ hw193_1 GW188.out).trans (((zcf_ hw193_1 GW188.out).trans (hHeld.2.1)))), ((zcf_ hw193_2 GW188.out).trans (((zcf_ hw193_2 GW188.out).trans (hHeld.2.2.1)))), ((zcf_ hw194_0 GW188.out).trans (((zcf_ hw194_0 GW188.out).trans (hHeld.2.2.2.1)))), ((zcf_ hw194_1 GW188.out).trans (((zcf_ hw194_1 GW188.out).trans (hHeld.2.2.2.2.1)))), ((zcf_ hw194_2 GW188.out).trans (((zcf_ hw194_2 GW188.out).trans (hHeld.2.2.2.2.2))))⟩ (fun hHeld => ?_)
        clear hK K; refine done_ (done_of HT_.out (by kernel_rfl)) ?_
        try go_wp2
        go_meet
        case rel => exact ⟨_, (0), (0), ((⟨#[]⟩ : ByteArray)), (t195), (t196), H', ⟨by have := HJ3.out; first | exact Nat.le_refl _ | omega⟩, ⟨c6_1⟩, ⟨by (with_reducible repeat first | apply b6N | apply b6D | apply b6L); refine zp2_ (.int .i64 0) (.int .i64 0) ?_; (with_reducible repeat first | apply b6N | apply b6D | apply b6L); exact BK188.out⟩, ⟨c6_2⟩⟩
       ·rw [if_neg c20] at H
        obtain ⟨c20b0, c20b1⟩ := zbf_ c20; by_cases c27 : a0 = 2
        ·rw [if_pos c27] at H
         obtain ⟨c27b0, c27b1⟩ := zbt_ c27; clear c27; obtain ⟨⟨t199, t200⟩, A28, H⟩ := zbi_ H; (try dsimp -simprocs only at H); have H' := ak H; clear H
         try go_wp2
         have n0_ : Aside0 (((w10.setCell ⟨gb188, 0, none⟩ (.int .i64 0)).setCell ⟨gb188, 1, none⟩ (.int .i64 0)).heap[gb185]? = some (.cells #[.int .i64 0, .int .i64 0, .string (⟨#[]⟩ : ByteArray)] 28 (0, 0))) := ⟨c6_1⟩; have n1_ : Aside0 (((w10.setCell ⟨gb188, 0, none⟩ (.int .i64 0)).setCell ⟨gb188, 1, none⟩ (.int .i64 0)).heap[gb188]? = some (.cells #[.int .i64 0, .int .i64 0] 88 (0, 0))) := ⟨by (with_reducible repeat first | apply b6N | apply b6D | apply b6L); refine zp2_ (.int .i64 0) (.int .i64 0) ?_; (with_reducible repeat first | apply b6N | apply b6D | apply b6L); exact BK188.out⟩; have n2_ : Aside0 (Below w.heap.size w ((w10.setCell ⟨gb188, 0, none⟩ (.int .i64 0)).setCell ⟨gb188, 1, none⟩ (.int .i64 0))) := ⟨c6_2⟩
         (try clear BK185)
         (try clear BK188)
         (try clear HB)
         generalize ((w10.setCell ⟨gb188, 0, none⟩ (.int .i64 0)).setCell ⟨gb188, 1, none⟩ (.int .i64 0)) = w29 at n0_ n1_ n2_ ⊢; have BK185 := n0_; have BK188 := n1_; have HB := n2_; clear n0_ n1_ n2_; have n0_ := ak (blk_drew BK185.out); have n1_ := ak (blk_drew BK188.out); have n2_ := ak (below_drew1 HB.out); clear BK185; clear BK188; clear HB; have BK185 := n0_; have BK188 := n1_; have HB := n2_; clear n0_ n1_ n2_; have hw197_0 := HQ1_0.out; have hw197_1 := HQ1_1.out; have hw197_2 := HQ1_2.out; have hw198_0 := HQ2_0.out; have hw198_1 := HQ2_1.out; have hw198_2 := HQ2_2.out
         refine start_ (n := 10) (S := fun w' => w'.cell? P1_ = some (.int .i64 a1_0) ∧ w'.cell? ⟨P1_.block, P1_.off + 1, none⟩ = some (.int .i64 a1_1) ∧ w'.cell? ⟨P1_.block, P1_.off + 2, none⟩ = some (.string a1_2) ∧ w'.cell? P2_ = some (.int .i64 a2_0) ∧ w'.cell? ⟨P2_.block, P2_.off + 1, none⟩ = some (.int .i64 a2_1) ∧ w'.cell? ⟨P2_.block, P2_.off + 2, none⟩ = some (.string a2_2)) (ds := []) #[false, false, false, false, false, false, false, false, false, false] (by kernel_rfl) rfl rfl ⟨(zkc_ HB.out hw197_0), (zkc_ HB.out hw197_1), (zkc_ HB.out hw197_2), (zkc_ HB.out hw198_0), (zkc_ HB.out hw198_1), (zkc_ HB.out hw198_2)⟩ (fun hHeld => ?_); refine with_tabW spec_l6Num.tab11 spec_l6Num.bits11 (fun HT_ HW_ => ?_); generalize w29.drew = w30 at BK185 BK188 HB hHeld ⊢; refine pu5_ 0 58 (ab5_ 10 1) HT_ ?_; refine pu5_ 1 59 (ab5_ 10 3) HT_ ?_; refine pu5_ 2 60 (ab5_ 10 7) HT_ ?_; refine pu5_ 4 62 (ab5_ 10 23) HT_ ?_
         refine pu5_ 5 63 (ab5_ 10 55) HT_ ?_; refine pu5_ 6 64 (ab5_ 10 119) HT_ ?_; refine ta5_ 3 61 (ab5_ 10 127) HT_ HW_ hHeld ?_; refine ta5_ 7 65 (ab5_ 10 255) HT_ HW_ hHeld ?_; refine one_ (i := 8) (N := some 66) #[true, true, true, true, true, true, true, true, true, false] rfl rfl (one_of HT_.out (by kernel_rfl)) (by decide) (fun K hK => ?_); refine goes_ Tryd.func57 (by kernel_rfl) rfl #[.int .i64 a1_1, .int .i64 a2_1] (by rfl) rfl rfl d6_3 ?_; (with_reducible refine (spec_MulNum.calls a1_1 a2_1 t199 t200 _ A28.out).mono ?_); rintro e w31 ⟨rfl, hb⟩; refine ⟨_, rfl, ?_⟩; have n0_ := zbb_ (g := gb185) hb d6_2; have n1_ := zbb_ (g := gb188) hb d6_4; have n2_ := ak (below_step d6_1 hb); clear BK185; clear BK188; clear HB; have BK185 := n0_; have BK188 := n1_; have HB := n2_; clear n0_ n1_ n2_
         (try clear hb)
         (try clear hb2)
         (try clear hk)
         (try clear hi)
         refine hK.out _ _ ⟨(zkc_ HB.out hw197_0), (zkc_ HB.out hw197_1), (zkc_ HB.out hw197_2), (zkc_ HB.out hw198_0), (zkc_ HB.out hw198_1), (zkc_ HB.out hw198_2)⟩ (fun hHeld => ?_); clear hK K; refine no5_ 66 ?_; refine one_ (i := 9) (N := none) #[true, true, true, true, true, true, true, true, true, true] rfl rfl (one_of HT_.out (by kernel_rfl)) (by decide) (fun K hK => ?_); have hs32 : w31.cell? ⟨gb188, 0, none⟩ = some (.int .i64 0) := (blk_cell BK188.out 0).trans rfl; have hfs32 := blk_frozen BK188.out 0; have hns32_0 := NB185_188.out; have hms32_0 := NB188_185.out; have hs33 : w31.cell? ⟨gb188, 1, none⟩ = some (.int .i64 0) := (blk_cell BK188.out 1).trans rfl; have hfs33 := blk_frozen BK188.out 1; have hns33_0 := NB185_188.out; have hms33_0 := NB188_185.out; refine skip_ (w1 := ?_) (by rfl) rfl ?_ ?_; rotate_left
         · go_simp
           rfl
         refine hK.out _ _ ⟨((zcf_ hw197_0 GW188.out).trans (((zcf_ hw197_0 GW188.out).trans (hHeld.1)))), ((zcf_ hw197_1 GW188.out).trans (((zcf_ hw197_1 GW188.out).trans (hHeld.2.1)))), ((zcf_ hw197_2 GW188.out).trans (((zcf_ hw197_2 GW188.out).trans (hHeld.2.2.1)))), ((zcf_ hw198_0 GW188.out).trans (((zcf_ hw198_0 GW188.out).trans (hHeld.2.2.2.1)))), ((zcf_ hw198_1 GW188.out).trans (((zcf_ hw198_1 GW188.out).trans (hHeld.2.2.2.2.1)))), ((zcf_ hw198_2 GW188.out).trans (((zcf_ hw198_2 GW188.out).trans (hHeld.2.2.2.2.2))))⟩ (fun hHeld => ?_)
         clear hK K; refine done_ (done_of HT_.out (by kernel_rfl)) ?_
         try go_wp2
         go_meet
         case rel => exact ⟨_, (0), (0), ((⟨#[]⟩ : ByteArray)), (t199), (t200), H', ⟨by have := HJ3.out; first | exact Nat.le_refl _ | omega⟩, ⟨c6_1⟩, ⟨by (with_reducible repeat first | apply b6N | apply b6D | apply b6L); refine zp2_ (.int .i64 0) (.int .i64 0) ?_; (with_reducible repeat first | apply b6N | apply b6D | apply b6L); exact BK188.out⟩, ⟨c6_2⟩⟩
        ·rw [if_neg c27] at H
         obtain ⟨c27b0, c27b1⟩ := zbf_ c27; by_cases c34 : a0 = 3
         ·rw [if_pos c34] at H
          obtain ⟨c34b0, c34b1⟩ := zbt_ c34; clear c34; obtain ⟨⟨t203, t204⟩, A35, H⟩ := zbi_ H; (try dsimp -simprocs only at H); have H' := ak H; clear H
          try go_wp2
          have n0_ : Aside0 (((w10.setCell ⟨gb188, 0, none⟩ (.int .i64 0)).setCell ⟨gb188, 1, none⟩ (.int .i64 0)).heap[gb185]? = some (.cells #[.int .i64 0, .int .i64 0, .string (⟨#[]⟩ : ByteArray)] 28 (0, 0))) := ⟨c6_1⟩; have n1_ : Aside0 (((w10.setCell ⟨gb188, 0, none⟩ (.int .i64 0)).setCell ⟨gb188, 1, none⟩ (.int .i64 0)).heap[gb188]? = some (.cells #[.int .i64 0, .int .i64 0] 88 (0, 0))) := ⟨by (with_reducible repeat first | apply b6N | apply b6D | apply b6L); refine zp2_ (.int .i64 0) (.int .i64 0) ?_; (with_reducible repeat first | apply b6N | apply b6D | apply b6L); exact BK188.out⟩; have n2_ : Aside0 (Below w.heap.size w ((w10.setCell ⟨gb188, 0, none⟩ (.int .i64 0)).setCell ⟨gb188, 1, none⟩ (.int .i64 0))) := ⟨c6_2⟩
          (try clear BK185)
          (try clear BK188)
          (try clear HB)
          generalize ((w10.setCell ⟨gb188, 0, none⟩ (.int .i64 0)).setCell ⟨gb188, 1, none⟩ (.int .i64 0)) = w36 at n0_ n1_ n2_ ⊢; have BK185 := n0_; have BK188 := n1_; have HB := n2_; clear n0_ n1_ n2_; have n0_ := ak (blk_drew BK185.out); have n1_ := ak (blk_drew BK188.out); have n2_ := ak (below_drew1 HB.out); clear BK185; clear BK188; clear HB; have BK185 := n0_; have BK188 := n1_; have HB := n2_; clear n0_ n1_ n2_; have hw201_0 := HQ1_0.out; have hw201_1 := HQ1_1.out; have hw201_2 := HQ1_2.out; have hw202_0 := HQ2_0.out; have hw202_1 := HQ2_1.out; have hw202_2 := HQ2_2.out
          refine start_ (n := 10) (S := fun w' => w'.cell? P1_ = some (.int .i64 a1_0) ∧ w'.cell? ⟨P1_.block, P1_.off + 1, none⟩ = some (.int .i64 a1_1) ∧ w'.cell? ⟨P1_.block, P1_.off + 2, none⟩ = some (.string a1_2) ∧ w'.cell? P2_ = some (.int .i64 a2_0) ∧ w'.cell? ⟨P2_.block, P2_.off + 1, none⟩ = some (.int .i64 a2_1) ∧ w'.cell? ⟨P2_.block, P2_.off + 2, none⟩ = some (.string a2_2)) (ds := []) #[false, false, false, false, false, false, false, false, false, false] (by kernel_rfl) rfl rfl ⟨(zkc_ HB.out hw201_0), (zkc_ HB.out hw201_1), (zkc_ HB.out hw201_2), (zkc_ HB.out hw202_0), (zkc_ HB.out hw202_1), (zkc_ HB.out hw202_2)⟩ (fun hHeld => ?_); refine with_tabW spec_l6Num.tab13 spec_l6Num.bits13 (fun HT_ HW_ => ?_); generalize w36.drew = w37 at BK185 BK188 HB hHeld ⊢; refine pu5_ 0 69 (ab5_ 10 1) HT_ ?_; refine pu5_ 1 70 (ab5_ 10 3) HT_ ?_; refine pu5_ 2 71 (ab5_ 10 7) HT_ ?_; refine pu5_ 4 73 (ab5_ 10 23) HT_ ?_
          refine pu5_ 5 74 (ab5_ 10 55) HT_ ?_; refine pu5_ 6 75 (ab5_ 10 119) HT_ ?_; refine ta5_ 3 72 (ab5_ 10 127) HT_ HW_ hHeld ?_; refine ta5_ 7 76 (ab5_ 10 255) HT_ HW_ hHeld ?_; refine one_ (i := 8) (N := some 77) #[true, true, true, true, true, true, true, true, true, false] rfl rfl (one_of HT_.out (by kernel_rfl)) (by decide) (fun K hK => ?_); refine goes_ Tryd.func58 (by kernel_rfl) rfl #[.int .i64 a1_1, .int .i64 a2_1] (by rfl) rfl rfl d6_3 ?_; (with_reducible refine (spec_QuoNum.calls a1_1 a2_1 t203 t204 _ A35.out).mono ?_); rintro e w38 ⟨rfl, hb⟩; refine ⟨_, rfl, ?_⟩; have n0_ := zbb_ (g := gb185) hb d6_2; have n1_ := zbb_ (g := gb188) hb d6_4; have n2_ := ak (below_step d6_1 hb); clear BK185; clear BK188; clear HB; have BK185 := n0_; have BK188 := n1_; have HB := n2_; clear n0_ n1_ n2_
          (try clear hb)
          (try clear hb2)
          (try clear hk)
          (try clear hi)
          refine hK.out _ _ ⟨(zkc_ HB.out hw201_0), (zkc_ HB.out hw201_1), (zkc_ HB.out hw201_2), (zkc_ HB.out hw202_0), (zkc_ HB.out hw202_1), (zkc_ HB.out hw202_2)⟩ (fun hHeld => ?_); clear hK K; refine no5_ 77 ?_; refine one_ (i := 9) (N := none) #[true, true, true, true, true, true, true, true, true, true] rfl rfl (one_of HT_.out (by kernel_rfl)) (by decide) (fun K hK => ?_); have hs39 : w38.cell? ⟨gb188, 0, none⟩ = some (.int .i64 0) := (blk_cell BK188.out 0).trans rfl; have hfs39 := blk_frozen BK188.out 0; have hns39_0 := NB185_188.out; have hms39_0 := NB188_185.out; have hs40 : w38.cell? ⟨gb188, 1, none⟩ = some (.int .i64 0) := (blk_cell BK188.out 1).trans rfl; have hfs40 := blk_frozen BK188.out 1; have hns40_0 := NB185_188.out; have hms40_0 := NB188_185.out; refine skip_ (w1 := ?_) (by rfl) rfl ?_ ?_; rotate_left
          · go_simp
            rfl
          refine hK.out _ _ ⟨((zcf_ hw201_0 GW188.out).trans (((zcf_ hw201_0 GW188.out).trans (hHeld.1)))), ((zcf_ hw201_1 GW188.out).trans (((zcf_ hw201_1 GW188.out).trans (hHeld.2.1)))), ((zcf_ hw201_2 GW188.out).trans (((zcf_ hw201_2 GW188.out).trans (hHeld.2.2.1)))), ((zcf_ hw202_0 GW188.out).trans (((zcf_ hw202_0 GW188.out).trans (hHeld.2.2.2.1)))), ((zcf_ hw202_1 GW188.out).trans (((zcf_ hw202_1 GW188.out).trans (hHeld.2.2.2.2.1)))), ((zcf_ hw202_2 GW188.out).trans (((zcf_ hw202_2 GW188.out).trans (hHeld.2.2.2.2.2))))⟩ (fun hHeld => ?_)
          clear hK K; refine done_ (done_of HT_.out (by kernel_rfl)) ?_
          try go_wp2
          go_meet
          case rel => exact ⟨_, (0), (0), ((⟨#[]⟩ : ByteArray)), (t203), (t204), H', ⟨by have := HJ3.out; first | exact Nat.le_refl _ | omega⟩, ⟨c6_1⟩, ⟨by (with_reducible repeat first | apply b6N | apply b6D | apply b6L); refine zp2_ (.int .i64 0) (.int .i64 0) ?_; (with_reducible repeat first | apply b6N | apply b6D | apply b6L); exact BK188.out⟩, ⟨c6_2⟩⟩
         ·rw [if_neg c34] at H
          obtain ⟨c34b0, c34b1⟩ := zbf_ c34; by_cases c41 : a0 = 4
          ·rw [if_pos c41] at H
           obtain ⟨c41b0, c41b1⟩ := zbt_ c41; clear c41; obtain ⟨⟨t207, t208⟩, A42, H⟩ := zbi_ H; (try dsimp -simprocs only at H); have H' := ak H; clear H
           try go_wp2
           have n0_ : Aside0 (((w10.setCell ⟨gb188, 0, none⟩ (.int .i64 0)).setCell ⟨gb188, 1, none⟩ (.int .i64 0)).heap[gb185]? = some (.cells #[.int .i64 0, .int .i64 0, .string (⟨#[]⟩ : ByteArray)] 28 (0, 0))) := ⟨c6_1⟩; have n1_ : Aside0 (((w10.setCell ⟨gb188, 0, none⟩ (.int .i64 0)).setCell ⟨gb188, 1, none⟩ (.int .i64 0)).heap[gb188]? = some (.cells #[.int .i64 0, .int .i64 0] 88 (0, 0))) := ⟨by (with_reducible repeat first | apply b6N | apply b6D | apply b6L); refine zp2_ (.int .i64 0) (.int .i64 0) ?_; (with_reducible repeat first | apply b6N | apply b6D | apply b6L); exact BK188.out⟩; have n2_ : Aside0 (Below w.heap.size w ((w10.setCell ⟨gb188, 0, none⟩ (.int .i64 0)).setCell ⟨gb188, 1, none⟩ (.int .i64 0))) := ⟨c6_2⟩
           (try clear BK185)
           (try clear BK188)
           (try clear HB)
           generalize ((w10.setCell ⟨gb188, 0, none⟩ (.int .i64 0)).setCell ⟨gb188, 1, none⟩ (.int .i64 0)) = w43 at n0_ n1_ n2_ ⊢; have BK185 := n0_; have BK188 := n1_; have HB := n2_; clear n0_ n1_ n2_; have n0_ := ak (blk_drew BK185.out); have n1_ := ak (blk_drew BK188.out); have n2_ := ak (below_drew1 HB.out); clear BK185; clear BK188; clear HB; have BK185 := n0_; have BK188 := n1_; have HB := n2_; clear n0_ n1_ n2_; have hw205_0 := HQ1_0.out; have hw205_1 := HQ1_1.out; have hw205_2 := HQ1_2.out; have hw206_0 := HQ2_0.out; have hw206_1 := HQ2_1.out; have hw206_2 := HQ2_2.out
           refine start_ (n := 10) (S := fun w' => w'.cell? P1_ = some (.int .i64 a1_0) ∧ w'.cell? ⟨P1_.block, P1_.off + 1, none⟩ = some (.int .i64 a1_1) ∧ w'.cell? ⟨P1_.block, P1_.off + 2, none⟩ = some (.string a1_2) ∧ w'.cell? P2_ = some (.int .i64 a2_0) ∧ w'.cell? ⟨P2_.block, P2_.off + 1, none⟩ = some (.int .i64 a2_1) ∧ w'.cell? ⟨P2_.block, P2_.off + 2, none⟩ = some (.string a2_2)) (ds := []) #[false, false, false, false, false, false, false, false, false, false] (by kernel_rfl) rfl rfl ⟨(zkc_ HB.out hw205_0), (zkc_ HB.out hw205_1), (zkc_ HB.out hw205_2), (zkc_ HB.out hw206_0), (zkc_ HB.out hw206_1), (zkc_ HB.out hw206_2)⟩ (fun hHeld => ?_); refine with_tabW spec_l6Num.tab15 spec_l6Num.bits15 (fun HT_ HW_ => ?_); generalize w43.drew = w44 at BK185 BK188 HB hHeld ⊢; refine pu5_ 0 80 (ab5_ 10 1) HT_ ?_; refine pu5_ 1 81 (ab5_ 10 3) HT_ ?_; refine pu5_ 2 82 (ab5_ 10 7) HT_ ?_; refine pu5_ 4 84 (ab5_ 10 23) HT_ ?_
           refine pu5_ 5 85 (ab5_ 10 55) HT_ ?_; refine pu5_ 6 86 (ab5_ 10 119) HT_ ?_; refine ta5_ 3 83 (ab5_ 10 127) HT_ HW_ hHeld ?_; refine ta5_ 7 87 (ab5_ 10 255) HT_ HW_ hHeld ?_; refine one_ (i := 8) (N := some 88) #[true, true, true, true, true, true, true, true, true, false] rfl rfl (one_of HT_.out (by kernel_rfl)) (by decide) (fun K hK => ?_); refine goes_ Tryd.func59 (by kernel_rfl) rfl #[.int .i64 a1_1, .int .i64 a2_1] (by rfl) rfl rfl d6_3 ?_; (with_reducible refine (spec_RemNum.calls a1_1 a2_1 t207 t208 _ A42.out).mono ?_); rintro e w45 ⟨rfl, hb⟩; refine ⟨_, rfl, ?_⟩; have n0_ := zbb_ (g := gb185) hb d6_2; have n1_ := zbb_ (g := gb188) hb d6_4; have n2_ := ak (below_step d6_1 hb); clear BK185; clear BK188; clear HB; have BK185 := n0_; have BK188 := n1_; have HB := n2_; clear n0_ n1_ n2_
           (try clear hb)
           (try clear hb2)
           (try clear hk)
           (try clear hi)
           refine hK.out _ _ ⟨(zkc_ HB.out hw205_0), (zkc_ HB.out hw205_1), (zkc_ HB.out hw205_2), (zkc_ HB.out hw206_0), (zkc_ HB.out hw206_1), (zkc_ HB.out hw206_2)⟩ (fun hHeld => ?_); clear hK K; refine no5_ 88 ?_; refine one_ (i := 9) (N := none) #[true, true, true, true, true, true, true, true, true, true] rfl rfl (one_of HT_.out (by kernel_rfl)) (by decide) (fun K hK => ?_); have hs46 : w45.cell? ⟨gb188, 0, none⟩ = some (.int .i64 0) := (blk_cell BK188.out 0).trans rfl; have hfs46 := blk_frozen BK188.out 0; have hns46_0 := NB185_188.out; have hms46_0 := NB188_185.out; have hs47 : w45.cell? ⟨gb188, 1, none⟩ = some (.int .i64 0) := (blk_cell BK188.out 1).trans rfl; have hfs47 := blk_frozen BK188.out 1; have hns47_0 := NB185_188.out; have hms47_0 := NB188_185.out; refine skip_ (w1 := ?_) (by rfl) rfl ?_ ?_; rotate_left
           · go_simp
             rfl
           refine hK.out _ _ ⟨((zcf_ hw205_0 GW188.out).trans (((zcf_ hw205_0 GW188.out).trans (hHeld.1)))), ((zcf_ hw205_1 GW188.out).trans (((zcf_ hw205_1 GW188.out).trans (hHeld.2.1)))), ((zcf_ hw205_2 GW188.out).trans (((zcf_ hw205_2 GW188.out).trans (hHeld.2.2.1)))), ((zcf_ hw206_0 GW188.out).trans (((zcf_ hw206_0 GW188.out).trans (hHeld.2.2.2.1)))), ((zcf_ hw206_1 GW188.out).trans (((zcf_ hw206_1 GW188.out).trans (hHeld.2.2.2.2.1)))), ((zcf_ hw206_2 GW188.out).trans (((zcf_ hw206_2 GW188.out).trans (hHeld.2.2.2.2.2))))⟩ (fun hHeld => ?_)
           clear hK K; refine done_ (done_of HT_.out (by kernel_rfl)) ?_
           try go_wp2
           go_meet
           case rel => exact ⟨_, (0), (0), ((⟨#[]⟩ : ByteArray)), (t207), (t208), H', ⟨by have := HJ3.out; first | exact Nat.le_refl _ | omega⟩, ⟨c6_1⟩, ⟨by (with_reducible repeat first | apply b6N | apply b6D | apply b6L); refine zp2_ (.int .i64 0) (.int .i64 0) ?_; (with_reducible repeat first | apply b6N | apply b6D | apply b6L); exact BK188.out⟩, ⟨c6_2⟩⟩
          ·rw [if_neg c41] at H
           obtain ⟨c41b0, c41b1⟩ := zbf_ c41; by_cases c48 : a0 = 5
           ·rw [if_pos c48] at H
            obtain ⟨c48b0, c48b1⟩ := zbt_ c48; clear c48; obtain ⟨⟨t211, t212, t213⟩, A49, H⟩ := zbi_ H; (try dsimp -simprocs only at H); simp only [Option.some.injEq, Prod.mk.injEq] at H; obtain ⟨rfl, rfl, rfl, rfl⟩ := H
            try go_wp2
            have n0_ : Aside0 (((w10.setCell ⟨gb188, 0, none⟩ (.int .i64 0)).setCell ⟨gb188, 1, none⟩ (.int .i64 0)).heap[gb185]? = some (.cells #[.int .i64 0, .int .i64 0, .string (⟨#[]⟩ : ByteArray)] 28 (0, 0))) := ⟨c6_1⟩; have n1_ : Aside0 (((w10.setCell ⟨gb188, 0, none⟩ (.int .i64 0)).setCell ⟨gb188, 1, none⟩ (.int .i64 0)).heap[gb188]? = some (.cells #[.int .i64 0, .int .i64 0] 88 (0, 0))) := ⟨by (with_reducible repeat first | apply b6N | apply b6D | apply b6L); refine zp2_ (.int .i64 0) (.int .i64 0) ?_; (with_reducible repeat first | apply b6N | apply b6D | apply b6L); exact BK188.out⟩; have n2_ : Aside0 (Below w.heap.size w ((w10.setCell ⟨gb188, 0, none⟩ (.int .i64 0)).setCell ⟨gb188, 1, none⟩ (.int .i64 0))) := ⟨c6_2⟩
            (try clear BK185)
            (try clear BK188)
            (try clear HB)
            generalize ((w10.setCell ⟨gb188, 0, none⟩ (.int .i64 0)).setCell ⟨gb188, 1, none⟩ (.int .i64 0)) = w50 at n0_ n1_ n2_ ⊢; have BK185 := n0_; have BK188 := n1_; have HB := n2_; clear n0_ n1_ n2_; have n0_ := ak (blk_drew BK185.out); have n1_ := ak (blk_drew BK188.out); have n2_ := ak (below_drew1 HB.out); clear BK185; clear BK188; clear HB; have BK185 := n0_; have BK188 := n1_; have HB := n2_; clear n0_ n1_ n2_; have hw209_0 := HQ1_0.out; have hw209_1 := HQ1_1.out; have hw209_2 := HQ1_2.out; have hw210_0 := HQ2_0.out; have hw210_1 := HQ2_1.out; have hw210_2 := HQ2_2.out
            refine start_ (n := 12) (S := fun w' => w'.cell? P1_ = some (.int .i64 a1_0) ∧ w'.cell? ⟨P1_.block, P1_.off + 1, none⟩ = some (.int .i64 a1_1) ∧ w'.cell? ⟨P1_.block, P1_.off + 2, none⟩ = some (.string a1_2) ∧ w'.cell? P2_ = some (.int .i64 a2_0) ∧ w'.cell? ⟨P2_.block, P2_.off + 1, none⟩ = some (.int .i64 a2_1) ∧ w'.cell? ⟨P2_.block, P2_.off + 2, none⟩ = some (.string a2_2)) (ds := []) #[false, false, false, false, false, false, false, false, false, false, false, false] (by kernel_rfl) rfl rfl ⟨(zkc_ HB.out hw209_0), (zkc_ HB.out hw209_1), (zkc_ HB.out hw209_2), (zkc_ HB.out hw210_0), (zkc_ HB.out hw210_1), (zkc_ HB.out hw210_2)⟩ (fun hHeld => ?_); refine with_tabW spec_l6Num.tab17 spec_l6Num.bits17 (fun HT_ HW_ => ?_); generalize w50.drew = w51 at BK185 BK188 HB hHeld ⊢; refine pu5_ 0 91 (ab5_ 12 1) HT_ ?_; refine pu5_ 1 92 (ab5_ 12 3) HT_ ?_; refine pu5_ 2 93 (ab5_ 12 7) HT_ ?_
            refine pu5_ 4 95 (ab5_ 12 23) HT_ ?_; refine pu5_ 5 96 (ab5_ 12 55) HT_ ?_; refine pu5_ 6 97 (ab5_ 12 119) HT_ ?_; refine ta5_ 3 94 (ab5_ 12 127) HT_ HW_ hHeld ?_; refine ta5_ 7 98 (ab5_ 12 255) HT_ HW_ hHeld ?_; refine pu5_ 8 99 (ab5_ 12 511) HT_ ?_; refine one_ (i := 9) (N := some 100) #[true, true, true, true, true, true, true, true, true, true, false, false] rfl rfl (one_of HT_.out (by kernel_rfl)) (by decide) (fun K hK => ?_); refine goes_ Tryd.func39 (by kernel_rfl) rfl #[.bool (decide (a1_1 < a2_1))] (by rfl) rfl rfl d6_3 ?_; (with_reducible refine (spec_l6Bool.calls (decide (a1_1 < a2_1)) t211 t212 t213 _ A49.out).mono ?_); rintro e w52 ⟨rfl, hb⟩; refine ⟨_, rfl, ?_⟩; have n0_ := zbb_ (g := gb185) hb d6_2; have n1_ := zbb_ (g := gb188) hb d6_4; have n2_ := ak (below_step d6_1 hb); clear BK185; clear BK188; clear HB; have BK185 := n0_; have BK188 := n1_; have HB := n2_; clear n0_ n1_ n2_
            (try clear hb)
            (try clear hb2)
            (try clear hk)
            (try clear hi)
            refine hK.out _ _ ⟨(zkc_ HB.out hw209_0), (zkc_ HB.out hw209_1), (zkc_ HB.out hw209_2), (zkc_ HB.out hw210_0), (zkc_ HB.out hw210_1), (zkc_ HB.out hw210_2)⟩ (fun hHeld => ?_); clear hK K; refine no5_ 100 ?_; refine one_ (i := 10) (N := none) #[true, true, true, true, true, true, true, true, true, true, true, false] rfl rfl (one_of HT_.out (by kernel_rfl)) (by decide) (fun K hK => ?_); have hs53 : w52.cell? ⟨gb185, 0, none⟩ = some (.int .i64 0) := (blk_cell BK185.out 0).trans rfl; have hfs53 := blk_frozen BK185.out 0; have hns53_1 := NB188_185.out; have hms53_1 := NB185_188.out; have hs54 : w52.cell? ⟨gb185, 1, none⟩ = some (.int .i64 0) := (blk_cell BK185.out 1).trans rfl; have hfs54 := blk_frozen BK185.out 1; have hns54_1 := NB188_185.out; have hms54_1 := NB185_188.out; have hs55 : w52.cell? ⟨gb185, 2, none⟩ = some (.string (⟨#[]⟩ : ByteArray)) := (blk_cell BK185.out 2).trans rfl; have hfs55 := blk_frozen BK185.out 2; have hns55_1 := NB188_185.out; have hms55_1 := NB185_188.out; refine skip_ (w1 := ?_) (by rfl) rfl ?_ ?_; rotate_left
            · go_simp
              rfl
            refine hK.out _ _ ⟨((zcf_ hw209_0 GW185.out).trans (((zcf_ hw209_0 GW185.out).trans (((zcf_ hw209_0 GW185.out).trans (hHeld.1)))))), ((zcf_ hw209_1 GW185.out).trans (((zcf_ hw209_1 GW185.out).trans (((zcf_ hw209_1 GW185.out).trans (hHeld.2.1)))))), ((zcf_ hw209_2 GW185.out).trans (((zcf_ hw209_2 GW185.out).trans (((zcf_ hw209_2 GW185.out).trans (hHeld.2.2.1)))))), ((zcf_ hw210_0 GW185.out).trans (((zcf_ hw210_0 GW185.out).trans (((zcf_ hw210_0 GW185.out).trans (hHeld.2.2.2.1)))))), ((zcf_ hw210_1 GW185.out).trans (((zcf_ hw210_1 GW185.out).trans (((zcf_ hw210_1 GW185.out).trans (hHeld.2.2.2.2.1)))))), ((zcf_ hw210_2 GW185.out).trans (((zcf_ hw210_2 GW185.out).trans (((zcf_ hw210_2 GW185.out).trans (hHeld.2.2.2.2.2))))))⟩ (fun hHeld => ?_)
            clear hK K; refine pu5_ 11 7 (ab5_ 12 4095) HT_ ?_; refine done_ (done_of HT_.out (by kernel_rfl)) ?_
            try go_wp2
            refine bodyPost_ret (results_ct rfl _ _ gb185 28 #[.int .i64 t211, .int .i64 t212, .string t213] (0, 0) _ rfl (by (with_reducible repeat first | apply b6N | apply b6D | apply b6L); refine zp3_ (.int .i64 0) (.int .i64 0) (.string (⟨#[]⟩ : ByteArray)) ?_; (with_reducible repeat first | apply b6N | apply b6D | apply b6L); exact BK185.out) Tryd.underlying28 rfl (by kernel_rfl)) rfl ?_; exact ⟨by first | rfl | (simp [errW_none, errW_some] <;> rfl) | (simp [*, errW_none, errW_some] <;> rfl), c6_2⟩
           ·rw [if_neg c48] at H
            obtain ⟨c48b0, c48b1⟩ := zbf_ c48; obtain ⟨⟨t216, t217, t218⟩, A56, H⟩ := zbi_ H; (try dsimp -simprocs only at H); simp only [Option.some.injEq, Prod.mk.injEq] at H; obtain ⟨rfl, rfl, rfl, rfl⟩ := H
            try go_wp2
            have n0_ : Aside0 (((w10.setCell ⟨gb188, 0, none⟩ (.int .i64 0)).setCell ⟨gb188, 1, none⟩ (.int .i64 0)).heap[gb185]? = some (.cells #[.int .i64 0, .int .i64 0, .string (⟨#[]⟩ : ByteArray)] 28 (0, 0))) := ⟨c6_1⟩; have n1_ : Aside0 (((w10.setCell ⟨gb188, 0, none⟩ (.int .i64 0)).setCell ⟨gb188, 1, none⟩ (.int .i64 0)).heap[gb188]? = some (.cells #[.int .i64 0, .int .i64 0] 88 (0, 0))) := ⟨by (with_reducible repeat first | apply b6N | apply b6D | apply b6L); refine zp2_ (.int .i64 0) (.int .i64 0) ?_; (with_reducible repeat first | apply b6N | apply b6D | apply b6L); exact BK188.out⟩; have n2_ : Aside0 (Below w.heap.size w ((w10.setCell ⟨gb188, 0, none⟩ (.int .i64 0)).setCell ⟨gb188, 1, none⟩ (.int .i64 0))) := ⟨c6_2⟩
            (try clear BK185)
            (try clear BK188)
            (try clear HB)
            generalize ((w10.setCell ⟨gb188, 0, none⟩ (.int .i64 0)).setCell ⟨gb188, 1, none⟩ (.int .i64 0)) = w57 at n0_ n1_ n2_ ⊢; have BK185 := n0_; have BK188 := n1_; have HB := n2_; clear n0_ n1_ n2_; have n0_ := ak (blk_drew BK185.out); have n1_ := ak (blk_drew BK188.out); have n2_ := ak (below_drew1 HB.out); clear BK185; clear BK188; clear HB; have BK185 := n0_; have BK188 := n1_; have HB := n2_; clear n0_ n1_ n2_; have hw214_0 := HQ1_0.out; have hw214_1 := HQ1_1.out; have hw214_2 := HQ1_2.out; have hw215_0 := HQ2_0.out; have hw215_1 := HQ2_1.out; have hw215_2 := HQ2_2.out
            refine start_ (n := 12) (S := fun w' => w'.cell? P1_ = some (.int .i64 a1_0) ∧ w'.cell? ⟨P1_.block, P1_.off + 1, none⟩ = some (.int .i64 a1_1) ∧ w'.cell? ⟨P1_.block, P1_.off + 2, none⟩ = some (.string a1_2) ∧ w'.cell? P2_ = some (.int .i64 a2_0) ∧ w'.cell? ⟨P2_.block, P2_.off + 1, none⟩ = some (.int .i64 a2_1) ∧ w'.cell? ⟨P2_.block, P2_.off + 2, none⟩ = some (.string a2_2)) (ds := []) #[false, false, false, false, false, false, false, false, false, false, false, false] (by kernel_rfl) rfl rfl ⟨(zkc_ HB.out hw214_0), (zkc_ HB.out hw214_1), (zkc_ HB.out hw214_2), (zkc_ HB.out hw215_0), (zkc_ HB.out hw215_1), (zkc_ HB.out hw215_2)⟩ (fun hHeld => ?_); refine with_tabW spec_l6Num.tab5 spec_l6Num.bits5 (fun HT_ HW_ => ?_); generalize w57.drew = w58 at BK185 BK188 HB hHeld ⊢; refine pu5_ 0 24 (ab5_ 12 1) HT_ ?_; refine pu5_ 1 25 (ab5_ 12 3) HT_ ?_; refine pu5_ 2 26 (ab5_ 12 7) HT_ ?_
            refine pu5_ 4 28 (ab5_ 12 23) HT_ ?_; refine pu5_ 5 29 (ab5_ 12 55) HT_ ?_; refine pu5_ 6 30 (ab5_ 12 119) HT_ ?_; refine ta5_ 3 27 (ab5_ 12 127) HT_ HW_ hHeld ?_; refine ta5_ 7 31 (ab5_ 12 255) HT_ HW_ hHeld ?_; refine pu5_ 8 32 (ab5_ 12 511) HT_ ?_; refine one_ (i := 9) (N := some 33) #[true, true, true, true, true, true, true, true, true, true, false, false] rfl rfl (one_of HT_.out (by kernel_rfl)) (by decide) (fun K hK => ?_); refine goes_ Tryd.func39 (by kernel_rfl) rfl #[.bool (a1_1 == a2_1)] (by rfl) rfl rfl d6_3 ?_; (with_reducible refine (spec_l6Bool.calls (a1_1 == a2_1) t216 t217 t218 _ A56.out).mono ?_); rintro e w59 ⟨rfl, hb⟩; refine ⟨_, rfl, ?_⟩; have n0_ := zbb_ (g := gb185) hb d6_2; have n1_ := zbb_ (g := gb188) hb d6_4; have n2_ := ak (below_step d6_1 hb); clear BK185; clear BK188; clear HB; have BK185 := n0_; have BK188 := n1_; have HB := n2_; clear n0_ n1_ n2_
            (try clear hb)
            (try clear hb2)
            (try clear hk)
            (try clear hi)
            refine hK.out _ _ ⟨(zkc_ HB.out hw214_0), (zkc_ HB.out hw214_1), (zkc_ HB.out hw214_2), (zkc_ HB.out hw215_0), (zkc_ HB.out hw215_1), (zkc_ HB.out hw215_2)⟩ (fun hHeld => ?_); clear hK K; refine no5_ 33 ?_; refine one_ (i := 10) (N := none) #[true, true, true, true, true, true, true, true, true, true, true, false] rfl rfl (one_of HT_.out (by kernel_rfl)) (by decide) (fun K hK => ?_); have hs60 : w59.cell? ⟨gb185, 0, none⟩ = some (.int .i64 0) := (blk_cell BK185.out 0).trans rfl; have hfs60 := blk_frozen BK185.out 0; have hns60_1 := NB188_185.out; have hms60_1 := NB185_188.out; have hs61 : w59.cell? ⟨gb185, 1, none⟩ = some (.int .i64 0) := (blk_cell BK185.out 1).trans rfl; have hfs61 := blk_frozen BK185.out 1; have hns61_1 := NB188_185.out; have hms61_1 := NB185_188.out; have hs62 : w59.cell? ⟨gb185, 2, none⟩ = some (.string (⟨#[]⟩ : ByteArray)) := (blk_cell BK185.out 2).trans rfl; have hfs62 := blk_frozen BK185.out 2; have hns62_1 := NB188_185.out; have hms62_1 := NB185_188.out; refine skip_ (w1 := ?_) (by rfl) rfl ?_ ?_; rotate_left
            · go_simp
              rfl
            refine hK.out _ _ ⟨((zcf_ hw214_0 GW185.out).trans (((zcf_ hw214_0 GW185.out).trans (((zcf_ hw214_0 GW185.out).trans (hHeld.1)))))), ((zcf_ hw214_1 GW185.out).trans (((zcf_ hw214_1 GW185.out).trans (((zcf_ hw214_1 GW185.out).trans (hHeld.2.1)))))), ((zcf_ hw214_2 GW185.out).trans (((zcf_ hw214_2 GW185.out).trans (((zcf_ hw214_2 GW185.out).trans (hHeld.2.2.1)))))), ((zcf_ hw215_0 GW185.out).trans (((zcf_ hw215_0 GW185.out).trans (((zcf_ hw215_0 GW185.out).trans (hHeld.2.2.2.1)))))), ((zcf_ hw215_1 GW185.out).trans (((zcf_ hw215_1 GW185.out).trans (((zcf_ hw215_1 GW185.out).trans (hHeld.2.2.2.2.1)))))), ((zcf_ hw215_2 GW185.out).trans (((zcf_ hw215_2 GW185.out).trans (((zcf_ hw215_2 GW185.out).trans (hHeld.2.2.2.2.2))))))⟩ (fun hHeld => ?_)
            clear hK K; refine pu5_ 11 7 (ab5_ 12 4095) HT_ ?_; refine done_ (done_of HT_.out (by kernel_rfl)) ?_
            try go_wp2
            refine bodyPost_ret (results_ct rfl _ _ gb185 28 #[.int .i64 t216, .int .i64 t217, .string t218] (0, 0) _ rfl (by (with_reducible repeat first | apply b6N | apply b6D | apply b6L); refine zp3_ (.int .i64 0) (.int .i64 0) (.string (⟨#[]⟩ : ByteArray)) ?_; (with_reducible repeat first | apply b6N | apply b6D | apply b6L); exact BK185.out) Tryd.underlying28 rfl (by kernel_rfl)) rfl ?_; exact ⟨by first | rfl | (simp [errW_none, errW_some] <;> rfl) | (simp [*, errW_none, errW_some] <;> rfl), c6_2⟩
     case rest =>
      clear HC9
      (try clear c1); (try clear q1); (try clear hx1); (try clear p2); (try clear q2); (try clear c4); (try clear c6); (try clear c6b0); (try clear c6b1); (try clear c7); (try clear c11); (try clear hx18); (try clear c42); (try clear hcz12_0); (try clear hcz12_1); (try clear hcz8_0); (try clear hcz8_1); (try clear hcz8_2); (try clear hfz12_0); (try clear hfz12_1); (try clear hfz8_0); (try clear hfz8_1); (try clear hfz8_2); (try clear hx186_0); (try clear hx186_1); (try clear hx186_2); (try clear hx187_0); (try clear hx187_1); (try clear hx187_2); (try clear q1); (try clear q2)
      obtain ⟨kq, x186000_8, x186001_8, x186002_8, x189000_8, x189001_8, HA, HJ8, BK185, BK188, HB⟩ := hcut
      cases kq with
      | zero => exact absurd HA.out (by simp [spec_l6Num.j1])
      | succ kj8 =>
       have H := HA.out; clear HA; simp only [spec_l6Num.j1] at H; simp only [Option.some.injEq, Prod.mk.injEq] at H; obtain ⟨rfl, rfl, rfl, rfl⟩ := H
       try go_wp2
       have n0_ := ak (blk_drew BK185.out); have n1_ := ak (blk_drew BK188.out); have n2_ := ak (below_drew1 HB.out); clear BK185; clear BK188; clear HB; have BK185 := n0_; have BK188 := n1_; have HB := n2_; clear n0_ n1_ n2_; refine start_ (n := 7) (S := fun w' => w'.cell? ⟨gb188, 0, none⟩ = some (.int .i64 x189000_8) ∧ w'.cell? ⟨gb188, 1, none⟩ = some (.int .i64 x189001_8)) (ds := []) #[false, false, false, false, false, false, false] (by kernel_rfl) rfl rfl (hb6_2 BK188.out) (fun hHeld => ?_); generalize wc.drew = w63 at BK185 BK188 HB hHeld ⊢; refine puk5_ 0 101 (ab5_ 7 1) ?_; refine puk5_ 3 104 (ab5_ 7 9) ?_; refine tak5_ 1 102 (ab5_ 7 11) hHeld ?_; refine puk5_ 2 103 (ab5_ 7 15) ?_; refine tak5_ 4 105 (ab5_ 7 31) hHeld ?_
       refine one_ (i := 5) (N := none) #[true, true, true, true, true, true, false] rfl rfl (by kernel_rfl) (by decide) (fun K hK => ?_); have hs64 : w63.cell? ⟨gb185, 0, none⟩ = some (.int .i64 x186000_8) := (blk_cell BK185.out 0).trans rfl; have hfs64 := blk_frozen BK185.out 0; have hns64_1 := NB188_185.out; have hms64_1 := NB185_188.out; have hs65 : w63.cell? ⟨gb185, 1, none⟩ = some (.int .i64 x186001_8) := (blk_cell BK185.out 1).trans rfl; have hfs65 := blk_frozen BK185.out 1; have hns65_1 := NB188_185.out; have hms65_1 := NB185_188.out; have hs66 : w63.cell? ⟨gb185, 2, none⟩ = some (.string x186002_8) := (blk_cell BK185.out 2).trans rfl; have hfs66 := blk_frozen BK185.out 2; have hns66_1 := NB188_185.out; have hms66_1 := NB185_188.out; refine skip_ (w1 := ?_) (by rfl) rfl ?_ ?_; rotate_left
       · go_simp
         rfl
       refine hK.out _ _ ⟨((zcn_ NB188_185.out).trans (((zcn_ NB188_185.out).trans (((zcn_ NB188_185.out).trans (hHeld.1)))))), ((zcn_ NB188_185.out).trans (((zcn_ NB188_185.out).trans (((zcn_ NB188_185.out).trans (hHeld.2))))))⟩ (fun hHeld => ?_); clear hK K; refine puk5_ 6 7 (ab5_ 7 127) ?_; refine done_ (by kernel_rfl) ?_
       try go_wp2
       refine bodyPost_ret (results_ct rfl _ _ gb185 28 #[.int .i64 1, .int .i64 x189001_8, .string (⟨#[]⟩ : ByteArray)] (0, 0) _ rfl (by (with_reducible repeat first | apply b6N | apply b6D | apply b6L); refine zp3_ (.int .i64 x186000_8) (.int .i64 x186001_8) (.string x186002_8) ?_; (with_reducible repeat first | apply b6N | apply b6D | apply b6L); exact BK185.out) Tryd.underlying28 rfl (by kernel_rfl)) rfl ?_; exact ⟨by first | rfl | (simp [errW_none, errW_some] <;> rfl) | (simp [*, errW_none, errW_some] <;> rfl), c6_2⟩

end Go.Proofs.YtolhanigjmhkgadDoor.A
