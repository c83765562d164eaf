/- Walks of the program's functions: each Go function's answer as a plain Lean function, and that the call comes to it. Written by a program. Conditions: those in each theorem's own head. -/
import Derived.Test.YtcliaceiijaafaaDoorC0
import Derived.Test.YtcliaceiijaafaaDoorC8
import Derived.Test.YtcliaceiijaafaaDoorC9
import Derived.Test.YtcliaceiijaafaaDoorC11
namespace Go.Proofs.YtcliaceiijaafaaDoor.C
open Go.RowKit Go.Proofs.YtcliaceiijaafaaDoorW.PrintWords Go.Proofs.YtcliaceiijaafaaDoorW.PrintLast Go.Proofs.YtcliaceiijaafaaDoorW.PrintMore
attribute [local go_sem] max2_int min2_int max_two min_two max_three min_three max_four min_four   -- for this text's walks alone
set_option linter.unusedVariables false
set_option linter.unusedSimpArgs false

theorem d12_1 {p : Prop} (h : p := by repeat (first | (with_reducible first | exact HB.out | apply below_alloc | apply pw_below_drewN | apply below_drew1 | refine below_set ?_ GE272.out | refine below_set ?_ GE274.out) | exact HB.out)) : p := h
theorem d12_2 {p : Prop} (h : p := by (with_reducible repeat (first | refine blk_drewN ?_ _ | refine blk_drew ?_ | refine blk_alloc ?_ _)); exact BK272.out) : p := h
theorem d12_3 {p : Prop} (h : p := by (with_reducible repeat (first | refine blk_drewN ?_ _ | refine blk_drew ?_ | refine blk_alloc ?_ _)); exact BK274.out) : p := h
theorem d12_4 {p : Prop} (h : p := by (try simp only [List.map_toArray, List.map_cons, List.map_nil]); first | done | rfl | (simp only [List.length_drop, List.length_take]; rfl)) : p := h
theorem d12_5 {p : Prop} (h : p := by (with_reducible repeat (first | refine blk_drewN ?_ _ | refine blk_drew ?_ | refine blk_alloc ?_ _)); refine blk_far ?_ NB272_274.out _; (with_reducible repeat (first | refine blk_drewN ?_ _ | refine blk_drew ?_ | refine blk_alloc ?_ _)); refine blk_far ?_ NB272_274.out _; (with_reducible repeat (first | refine blk_drewN ?_ _ | refine blk_drew ?_ | refine blk_alloc ?_ _)); refine blk_far ?_ NB272_274.out _; (with_reducible repeat (first | refine blk_drewN ?_ _ | refine blk_drew ?_ | refine blk_alloc ?_ _)); refine blk_far ?_ NB272_274.out _; (with_reducible repeat (first | refine blk_drewN ?_ _ | refine blk_drew ?_ | refine blk_alloc ?_ _)); refine blk_far ?_ NB272_274.out _; (with_reducible repeat (first | refine blk_drewN ?_ _ | refine blk_drew ?_ | refine blk_alloc ?_ _)); refine blk_far ?_ NB272_274.out _; (with_reducible repeat (first | refine blk_drewN ?_ _ | refine blk_drew ?_ | refine blk_alloc ?_ _)); exact BK272.out) : p := h
theorem d12_6 {p : Prop} (h : p := by first | rfl | (simp; done) | (simp [*]; done) | (simp [ne_nil_b, eq_nil_b]; done)) : p := h
theorem d12_7 {p : Prop} (h : p := by repeat (first | (with_reducible first | exact HB.out | apply below_alloc | apply pw_below_drewN | apply below_drew1 | refine below_set ?_ GE272.out) | exact HB.out)) : p := h
theorem d12_8 {p : Prop} (h : p := by (with_reducible repeat (first | apply Kd.V_alloc | apply Kd.V_drewN | apply Kd.V_drew)); exact HO290.out) : p := h

/-! ### impl_oneCoreFault: function 61 -/
mutual
def impl_oneCoreFault.j2 : Nat → Int → List (S93) → Int → Int → Int → Int → ByteArray → List (S127) → Option (Int)
  | 0, _, _, _, _, _, _, _, _ => none
  | k + 1, x1, x273000, x275000, x275001, x275002, x275003, x275004, x275005 => if x275000 = 1 then ((impl_DataFault.f k x275005).bind fun t281 => (some t281)) else (if x275000 = 8 then (if x1 > 0 then (some 1) else (some 0)) else (if x275000 = 5 then ((impl_in.f x275002 0 3).bind fun t282 => (if t282 = true then (some 0) else (some 3))) else (if x275000 = 2 then ((impl_lambdaOut.f k x273000 x1 x275002).bind fun bt283 => (if x275002 < 0 then (some 3) else (if bt283.2.2.2.2.2.2 = true then ((impl_in.f x275003 0 (wrap64 (bt283.2.2.1 - 1))).bind fun t293 => (if t293 = true then (some 0) else (some 3))) else (some 3)))) else (some 0))))
def impl_oneCoreFault.j0 : Nat → Int → Bool → List (S93) → Int → Int → Int → Int → ByteArray → List (S127) → Option (Int)
  | 0, _, _, _, _, _, _, _, _, _ => none
  | k + 1, x1, x16, x273000, x275000, x275001, x275002, x275003, x275004, x275005 => if x16 = true then (some 3) else (if x1 > 0 then ((impl_isUp__impl_oneCoreFault_1.f k x273000 (wrap64 (x1 - 1)) x275001).bind fun t278 => (impl_oneCoreFault.j1 k x1 (!t278) x273000 x275000 x275001 x275002 x275003 x275004 x275005)) else (impl_oneCoreFault.j1 k x1 false x273000 x275000 x275001 x275002 x275003 x275004 x275005))
def impl_oneCoreFault.j1 : Nat → Int → Bool → List (S93) → Int → Int → Int → Int → ByteArray → List (S127) → Option (Int)
  | 0, _, _, _, _, _, _, _, _, _ => none
  | k + 1, x1, x36, x273000, x275000, x275001, x275002, x275003, x275004, x275005 => if x36 = true then (some 1) else ((impl_named.f x275000).bind fun t279 => (if t279 = true then ((impl_isName.f k x275004).bind fun t280 => (if t280 = true then (impl_oneCoreFault.j2 k x1 x273000 x275000 x275001 x275002 x275003 x275004 x275005) else (some 5))) else (impl_oneCoreFault.j2 k x1 x273000 x275000 x275001 x275002 x275003 x275004 x275005)))
end
def impl_oneCoreFault.f (k : Nat) (l0 : List (S93)) (a1 : Int) : Option (Int) := if 0 ≤ a1 then (if a1 < (l0.length : Int) then ((impl_coreForm.f ((rd_T93 l0 a1).f0) ((rd_T93 l0 a1).f1) ((rd_T93 l0 a1).f2) ((rd_T93 l0 a1).f3) ((rd_T93 l0 a1).f4) ((rd_T93 l0 a1).f5)).bind fun t275 => (if t275 = true then (if a1 = 0 then (if ((rd_T93 l0 a1).f1) = (-1) then (if a1 > 0 then ((impl_in.f ((rd_T93 l0 a1).f1) 0 (wrap64 (a1 - 1))).bind fun t276 => (impl_oneCoreFault.j0 k a1 (!t276) l0 ((rd_T93 l0 a1).f0) ((rd_T93 l0 a1).f1) ((rd_T93 l0 a1).f2) ((rd_T93 l0 a1).f3) ((rd_T93 l0 a1).f4) ((rd_T93 l0 a1).f5))) else (impl_oneCoreFault.j0 k a1 false l0 ((rd_T93 l0 a1).f0) ((rd_T93 l0 a1).f1) ((rd_T93 l0 a1).f2) ((rd_T93 l0 a1).f3) ((rd_T93 l0 a1).f4) ((rd_T93 l0 a1).f5))) else (impl_oneCoreFault.j0 k a1 true l0 ((rd_T93 l0 a1).f0) ((rd_T93 l0 a1).f1) ((rd_T93 l0 a1).f2) ((rd_T93 l0 a1).f3) ((rd_T93 l0 a1).f4) ((rd_T93 l0 a1).f5))) else (if a1 > 0 then ((impl_in.f ((rd_T93 l0 a1).f1) 0 (wrap64 (a1 - 1))).bind fun t277 => (impl_oneCoreFault.j0 k a1 (!t277) l0 ((rd_T93 l0 a1).f0) ((rd_T93 l0 a1).f1) ((rd_T93 l0 a1).f2) ((rd_T93 l0 a1).f3) ((rd_T93 l0 a1).f4) ((rd_T93 l0 a1).f5))) else (impl_oneCoreFault.j0 k a1 false l0 ((rd_T93 l0 a1).f0) ((rd_T93 l0 a1).f1) ((rd_T93 l0 a1).f2) ((rd_T93 l0 a1).f3) ((rd_T93 l0 a1).f4) ((rd_T93 l0 a1).f5)))) else (some 1))) else (none)) else (none)
theorem impl_oneCoreFault.mono_l : ∀ k, (∀ y0 y1 y2 y3 y4 y5 y6 y7, LeO (impl_oneCoreFault.j2 k y0 y1 y2 y3 y4 y5 y6 y7) (impl_oneCoreFault.j2 (k + 1) y0 y1 y2 y3 y4 y5 y6 y7)) ∧ (∀ y0 y1 y2 y3 y4 y5 y6 y7 y8, LeO (impl_oneCoreFault.j0 k y0 y1 y2 y3 y4 y5 y6 y7 y8) (impl_oneCoreFault.j0 (k + 1) y0 y1 y2 y3 y4 y5 y6 y7 y8)) ∧ (∀ y0 y1 y2 y3 y4 y5 y6 y7 y8, LeO (impl_oneCoreFault.j1 k y0 y1 y2 y3 y4 y5 y6 y7 y8) (impl_oneCoreFault.j1 (k + 1) y0 y1 y2 y3 y4 y5 y6 y7 y8))
  | 0 => ⟨fun _ _ _ _ _ _ _ _ r h => by simp [impl_oneCoreFault.j2] at h, fun _ _ _ _ _ _ _ _ _ r h => by simp [impl_oneCoreFault.j0] at h, fun _ _ _ _ _ _ _ _ _ r h => by simp [impl_oneCoreFault.j1] at h⟩
  | k + 1 => by
    obtain ⟨ih0, ih1, ih2⟩ := impl_oneCoreFault.mono_l k
    refine ⟨?_, ?_, ?_⟩
    · intro y0 y1 y2 y3 y4 y5 y6 y7
      unfold impl_oneCoreFault.j2
      repeat' first
      | (with_reducible exact ih0 _ _ _ _ _ _ _ _)
      | (with_reducible exact ih1 _ _ _ _ _ _ _ _ _)
      | (with_reducible exact ih2 _ _ _ _ _ _ _ _ _)
      | (with_reducible exact impl_DataFault.mono _ _)
      | (with_reducible exact impl_isName.mono _ _)
      | (with_reducible exact impl_isUp__impl_oneCoreFault_1.mono _ _ _ _)
      | (with_reducible exact impl_lambdaOut.mono _ _ _ _)
      | (with_reducible exact LeO.refl _)
      | (with_reducible exact LeO.none _)
      | (with_reducible refine LeO.ite ?_ ?_)
      | (with_reducible refine LeO.bind ?_ (fun _ => ?_))
      | exact ih0 _ _ _ _ _ _ _ _
      | exact ih1 _ _ _ _ _ _ _ _ _
      | exact ih2 _ _ _ _ _ _ _ _ _
      | exact impl_DataFault.mono _ _
      | exact impl_isName.mono _ _
      | exact impl_isUp__impl_oneCoreFault_1.mono _ _ _ _
      | exact impl_lambdaOut.mono _ _ _ _
      | exact LeO.none _
      | refine LeO.ite ?_ ?_
      | refine LeO.bind ?_ (fun _ => ?_)
    · intro y0 y1 y2 y3 y4 y5 y6 y7 y8
      unfold impl_oneCoreFault.j0
      repeat' first
      | (with_reducible exact ih0 _ _ _ _ _ _ _ _)
      | (with_reducible exact ih1 _ _ _ _ _ _ _ _ _)
      | (with_reducible exact ih2 _ _ _ _ _ _ _ _ _)
      | (with_reducible exact impl_DataFault.mono _ _)
      | (with_reducible exact impl_isName.mono _ _)
      | (with_reducible exact impl_isUp__impl_oneCoreFault_1.mono _ _ _ _)
      | (with_reducible exact impl_lambdaOut.mono _ _ _ _)
      | (with_reducible exact LeO.refl _)
      | (with_reducible exact LeO.none _)
      | (with_reducible refine LeO.ite ?_ ?_)
      | (with_reducible refine LeO.bind ?_ (fun _ => ?_))
      | exact ih0 _ _ _ _ _ _ _ _
      | exact ih1 _ _ _ _ _ _ _ _ _
      | exact ih2 _ _ _ _ _ _ _ _ _
      | exact impl_DataFault.mono _ _
      | exact impl_isName.mono _ _
      | exact impl_isUp__impl_oneCoreFault_1.mono _ _ _ _
      | exact impl_lambdaOut.mono _ _ _ _
      | exact LeO.none _
      | refine LeO.ite ?_ ?_
      | refine LeO.bind ?_ (fun _ => ?_)
    · intro y0 y1 y2 y3 y4 y5 y6 y7 y8
      unfold impl_oneCoreFault.j1
      repeat' first
      | (with_reducible exact ih0 _ _ _ _ _ _ _ _)
      | (with_reducible exact ih1 _ _ _ _ _ _ _ _ _)
      | (with_reducible exact ih2 _ _ _ _ _ _ _ _ _)
      | (with_reducible exact impl_DataFault.mono _ _)
      | (with_reducible exact impl_isName.mono _ _)
      | (with_reducible exact impl_isUp__impl_oneCoreFault_1.mono _ _ _ _)
      | (with_reducible exact impl_lambdaOut.mono _ _ _ _)
      | (with_reducible exact LeO.refl _)
      | (with_reducible exact LeO.none _)
      | (with_reducible refine LeO.ite ?_ ?_)
      | (with_reducible refine LeO.bind ?_ (fun _ => ?_))
      | exact ih0 _ _ _ _ _ _ _ _
      | exact ih1 _ _ _ _ _ _ _ _ _
      | exact ih2 _ _ _ _ _ _ _ _ _
      | exact impl_DataFault.mono _ _
      | exact impl_isName.mono _ _
      | exact impl_isUp__impl_oneCoreFault_1.mono _ _ _ _
      | exact impl_lambdaOut.mono _ _ _ _
      | exact LeO.none _
      | refine LeO.ite ?_ ?_
      | refine LeO.bind ?_ (fun _ => ?_)
theorem impl_oneCoreFault.mono : ∀ a0 a1 k, LeO (impl_oneCoreFault.f k a0 a1) (impl_oneCoreFault.f (k + 1) a0 a1) := by
  intro a0 a1 k
  obtain ⟨ih0, ih1, ih2⟩ := impl_oneCoreFault.mono_l k
  unfold impl_oneCoreFault.f
  repeat' first
      | (with_reducible exact ih0 _ _ _ _ _ _ _ _)
      | (with_reducible exact ih1 _ _ _ _ _ _ _ _ _)
      | (with_reducible exact ih2 _ _ _ _ _ _ _ _ _)
      | (with_reducible exact impl_DataFault.mono _ _)
      | (with_reducible exact impl_isName.mono _ _)
      | (with_reducible exact impl_isUp__impl_oneCoreFault_1.mono _ _ _ _)
      | (with_reducible exact impl_lambdaOut.mono _ _ _ _)
      | (with_reducible exact LeO.refl _)
      | (with_reducible exact LeO.none _)
      | (with_reducible refine LeO.ite ?_ ?_)
      | (with_reducible refine LeO.bind ?_ (fun _ => ?_))
      | exact ih0 _ _ _ _ _ _ _ _
      | exact ih1 _ _ _ _ _ _ _ _ _
      | exact ih2 _ _ _ _ _ _ _ _ _
      | exact impl_DataFault.mono _ _
      | exact impl_isName.mono _ _
      | exact impl_isUp__impl_oneCoreFault_1.mono _ _ _ _
      | exact impl_lambdaOut.mono _ _ _ _
      | exact LeO.none _
      | refine LeO.ite ?_ ?_
      | refine LeO.bind ?_ (fun _ => ?_)
set_option maxHeartbeats 8000000 in
set_option maxRecDepth 100000 in
theorem impl_oneCoreFault.calls (k : Nat) (A0 : Option Addr) (c0 : Nat) (l0 : List (S93)) (a1 : Int) (r : Int) (w : World) (hr0 : Kd.C k93 w A0 l0.length l0) (hc0 : l0.length ≤ c0) (h : impl_oneCoreFault.f k l0 a1 = some r) :
    Calls Tryd.prog 61 #[.slice A0 l0.length c0, .int .i64 a1] w fun e w' => e = .returned (.int .i64 r) ∧ Below w.heap.size w w' := by
  have hu54 := Tryd.underlying54
  have hu93 := Tryd.underlying93
  have HR0 := ak hr0
  have HC0 := ak hc0
  clear hr0 hc0
  have HB := ak (Below.refl w.heap.size w)
  have H : (if 0 ≤ a1 then (if a1 < (l0.length : Int) then ((impl_coreForm.f ((rd_T93 l0 a1).f0) ((rd_T93 l0 a1).f1) ((rd_T93 l0 a1).f2) ((rd_T93 l0 a1).f3) ((rd_T93 l0 a1).f4) ((rd_T93 l0 a1).f5)).bind fun t275 => (if t275 = true then (if a1 = 0 then (if ((rd_T93 l0 a1).f1) = (-1) then (if a1 > 0 then ((impl_in.f ((rd_T93 l0 a1).f1) 0 (wrap64 (a1 - 1))).bind fun t276 => (impl_oneCoreFault.j0 k a1 (!t276) l0 ((rd_T93 l0 a1).f0) ((rd_T93 l0 a1).f1) ((rd_T93 l0 a1).f2) ((rd_T93 l0 a1).f3) ((rd_T93 l0 a1).f4) ((rd_T93 l0 a1).f5))) else (impl_oneCoreFault.j0 k a1 false l0 ((rd_T93 l0 a1).f0) ((rd_T93 l0 a1).f1) ((rd_T93 l0 a1).f2) ((rd_T93 l0 a1).f3) ((rd_T93 l0 a1).f4) ((rd_T93 l0 a1).f5))) else (impl_oneCoreFault.j0 k a1 true l0 ((rd_T93 l0 a1).f0) ((rd_T93 l0 a1).f1) ((rd_T93 l0 a1).f2) ((rd_T93 l0 a1).f3) ((rd_T93 l0 a1).f4) ((rd_T93 l0 a1).f5))) else (if a1 > 0 then ((impl_in.f ((rd_T93 l0 a1).f1) 0 (wrap64 (a1 - 1))).bind fun t277 => (impl_oneCoreFault.j0 k a1 (!t277) l0 ((rd_T93 l0 a1).f0) ((rd_T93 l0 a1).f1) ((rd_T93 l0 a1).f2) ((rd_T93 l0 a1).f3) ((rd_T93 l0 a1).f4) ((rd_T93 l0 a1).f5))) else (impl_oneCoreFault.j0 k a1 false l0 ((rd_T93 l0 a1).f0) ((rd_T93 l0 a1).f1) ((rd_T93 l0 a1).f2) ((rd_T93 l0 a1).f3) ((rd_T93 l0 a1).f4) ((rd_T93 l0 a1).f5)))) else (some 1))) else (none)) else (none)) = some r := h
  clear h
  by_cases c3 : 0 ≤ a1
  ·rw [if_pos c3] at H
   have c3b0 : decide (0 ≤ a1) = true := decide_eq_true c3
   clear c3
   by_cases c4 : a1 < (l0.length : Int)
   ·rw [if_pos c4] at H
    have c4b0 : decide (a1 < (l0.length : Int)) = true := decide_eq_true c4
    clear c4
    have HC5 := ak H
    clear H
    go_enter Tryd.func61, Tryd.ntmps61
    go_upto_block 0 with (first | ((with_reducible refine gate_dst (N := 2) rfl ?_); refine box_event ?hg (N := 2) ?hd (cs := #[.slice A0 l0.length c0]) (t := 54) ?hr ?_; (case hd => rfl); (case hg => rfl); (case hr => first | (go_simp; done) | (go_simp; rfl)); intro gb272 hg w6 hbox hb; have n0_ := ak (below_step (by repeat (first | (with_reducible first | exact HB.out | apply below_alloc | apply pw_below_drewN | apply below_drew1) | exact HB.out)) hb); have n1_ := ak (hbox); have n2_ := ak ((by rw [hg]; exact (below_size (by repeat (first | (with_reducible first | exact HB.out | apply below_alloc | apply pw_below_drewN | apply below_drew1) | exact HB.out))) : w.heap.size ≤ gb272)); have n3_ := ak ((by rw [hg]; exact (below_size (by repeat (first | (with_reducible first | exact HB.out | apply below_alloc | apply pw_below_drewN | apply below_drew1) | exact HB.out))) : w.heap.size ≤ gb272)); clear HB; have HB := n0_; have BK272 := n1_; have GW272 := n2_; have GE272 := n3_; clear n0_ n1_ n2_ n3_ hb hbox hg; have hcz7_0 : w6.cell? ⟨gb272, 0, none⟩ = some (.slice A0 l0.length c0) := (blk_cell BK272.out 0).trans rfl; have hfz7_0 := blk_frozen BK272.out 0; have p273 : 0 ≤ (a1 : Int) := of_decide_eq_true (by first | (with_reducible assumption) | assumption); have q273 : a1 < (l0.length : Int) := of_decide_eq_true (by first | (with_reducible assumption) | assumption); obtain ⟨ad273, A273_5, c273_5, e273, hx273_0, hx273_1, hx273_2, hx273_3, hx273_4, hx273_5, hl273_5, hi273_5⟩ := at_T93 HR0.out a1 p273 q273; cases e273; replace hx273_0 := (HB.out.cell (World.block_lt_of_cell? w _ hx273_0)).trans hx273_0; replace hx273_1 := (HB.out.cell (World.block_lt_of_cell? w _ hx273_1)).trans hx273_1; replace hx273_2 := (HB.out.cell (World.block_lt_of_cell? w _ hx273_2)).trans hx273_2; replace hx273_3 := (HB.out.cell (World.block_lt_of_cell? w _ hx273_3)).trans hx273_3; replace hx273_4 := (HB.out.cell (World.block_lt_of_cell? w _ hx273_4)).trans hx273_4; replace hx273_5 := (HB.out.cell (World.block_lt_of_cell? w _ hx273_5)).trans hx273_5; have HR273_5 := ak hi273_5; have HC273_5 := ak hl273_5; clear hi273_5 hl273_5; replace p273 := eq_true p273; replace q273 := eq_true q273) | ((with_reducible refine gate_dst (N := 5) rfl ?_); refine box_event ?hg (N := 5) ?hd (cs := #[.int .i64 0, .int .i64 0, .int .i64 0, .int .i64 0, .string (⟨#[]⟩ : ByteArray), .slice none 0 0]) (t := 93) ?hr ?_; (case hd => rfl); (case hg => rfl); (case hr => first | (go_simp; done) | (go_simp; rfl)); intro gb274 hg w8 hbox hb; have n0_ := ak (blk_below (g := gb272) (o := .cells #[.slice (some ad273) l0.length c0] 54 (0, 0)) d12_2 hb); have n1_ := ak (below_step d12_7 hb); have n2_ := ak (hbox); have n3_ := ak ((by rw [hg]; exact (below_size d12_7) : w.heap.size ≤ gb274)); have n4_ := ak ((by rw [hg]; exact (below_size d12_7) : w.heap.size ≤ gb274)); have n5_ := ak ((by rw [hg]; exact Nat.ne_of_lt (blk_lt (g := gb272) (o := .cells #[.slice (some ad273) l0.length c0] 54 (0, 0)) d12_2) : gb272 ≠ gb274)); have n6_ := ak ((by rw [hg]; exact Nat.ne_of_gt (blk_lt (g := gb272) (o := .cells #[.slice (some ad273) l0.length c0] 54 (0, 0)) d12_2) : gb274 ≠ gb272)); clear BK272 HB; have BK272 := n0_; have HB := n1_; have BK274 := n2_; have GW274 := n3_; have GE274 := n4_; have NB272_274 := n5_; have NB274_272 := n6_; clear n0_ n1_ n2_ n3_ n4_ n5_ n6_ hb hbox hg; have hnb9 := NB274_272.out; have hnc9 := NB272_274.out; have hcz10_0 : w8.cell? ⟨gb274, 0, none⟩ = some (.int .i64 0) := (blk_cell BK274.out 0).trans rfl; have hcz10_1 : w8.cell? ⟨gb274, 1, none⟩ = some (.int .i64 0) := (blk_cell BK274.out 1).trans rfl; have hcz10_2 : w8.cell? ⟨gb274, 2, none⟩ = some (.int .i64 0) := (blk_cell BK274.out 2).trans rfl; have hcz10_3 : w8.cell? ⟨gb274, 3, none⟩ = some (.int .i64 0) := (blk_cell BK274.out 3).trans rfl; have hcz10_4 : w8.cell? ⟨gb274, 4, none⟩ = some (.string (⟨#[]⟩ : ByteArray)) := (blk_cell BK274.out 4).trans rfl; have hcz10_5 : w8.cell? ⟨gb274, 5, none⟩ = some (.slice none 0 0) := (blk_cell BK274.out 5).trans rfl; have hfz10_0 := blk_frozen BK274.out 0; have hfz10_1 := blk_frozen BK274.out 1; have hfz10_2 := blk_frozen BK274.out 2; have hfz10_3 := blk_frozen BK274.out 3; have hfz10_4 := blk_frozen BK274.out 4; have hfz10_5 := blk_frozen BK274.out 5))
    (try simp only [Act.put, List.setIfInBounds_toArray, List.set_cons_zero, List.set_cons_succ])
    go_cut [] (fun wc => ∃ (kq : Nat), Aside0 (impl_oneCoreFault.j2 kq a1 l0 ((rd_T93 l0 a1).f0) ((rd_T93 l0 a1).f1) ((rd_T93 l0 a1).f2) ((rd_T93 l0 a1).f3) ((rd_T93 l0 a1).f4) ((rd_T93 l0 a1).f5) = some r) ∧ Aside0 (kq ≤ k) ∧ Aside0 (wc.heap[gb272]? = some (.cells #[(.slice (some ad273) l0.length c0)] 54 (0, 0))) ∧ Aside0 (wc.heap[gb274]? = some (.cells #[.int .i64 ((rd_T93 l0 a1).f0), .int .i64 ((rd_T93 l0 a1).f1), .int .i64 ((rd_T93 l0 a1).f2), .int .i64 ((rd_T93 l0 a1).f3), .string ((rd_T93 l0 a1).f4), (.slice A273_5 ((rd_T93 l0 a1).f5).length c273_5)] 93 (0, 0))) ∧ Aside0 (Below w.heap.size w wc))
    case first =>
     have H := HC5.out
     clear HC5
     replace H := Option.bind_eq_some_iff.mp H
     obtain ⟨t275, A110, H⟩ := H
     replace H : (if t275 = true then (if a1 = 0 then (if ((rd_T93 l0 a1).f1) = (-1) then (if a1 > 0 then ((impl_in.f ((rd_T93 l0 a1).f1) 0 (wrap64 (a1 - 1))).bind fun t276 => (impl_oneCoreFault.j0 k a1 (!t276) l0 ((rd_T93 l0 a1).f0) ((rd_T93 l0 a1).f1) ((rd_T93 l0 a1).f2) ((rd_T93 l0 a1).f3) ((rd_T93 l0 a1).f4) ((rd_T93 l0 a1).f5))) else (impl_oneCoreFault.j0 k a1 false l0 ((rd_T93 l0 a1).f0) ((rd_T93 l0 a1).f1) ((rd_T93 l0 a1).f2) ((rd_T93 l0 a1).f3) ((rd_T93 l0 a1).f4) ((rd_T93 l0 a1).f5))) else (impl_oneCoreFault.j0 k a1 true l0 ((rd_T93 l0 a1).f0) ((rd_T93 l0 a1).f1) ((rd_T93 l0 a1).f2) ((rd_T93 l0 a1).f3) ((rd_T93 l0 a1).f4) ((rd_T93 l0 a1).f5))) else (if a1 > 0 then ((impl_in.f ((rd_T93 l0 a1).f1) 0 (wrap64 (a1 - 1))).bind fun t277 => (impl_oneCoreFault.j0 k a1 (!t277) l0 ((rd_T93 l0 a1).f0) ((rd_T93 l0 a1).f1) ((rd_T93 l0 a1).f2) ((rd_T93 l0 a1).f3) ((rd_T93 l0 a1).f4) ((rd_T93 l0 a1).f5))) else (impl_oneCoreFault.j0 k a1 false l0 ((rd_T93 l0 a1).f0) ((rd_T93 l0 a1).f1) ((rd_T93 l0 a1).f2) ((rd_T93 l0 a1).f3) ((rd_T93 l0 a1).f4) ((rd_T93 l0 a1).f5)))) else (some 1)) = some r := H
     have A11 := ak A110
     clear A110
     by_cases c12 : t275 = true
     ·subst c12
      have H1 : (if a1 = 0 then (if ((rd_T93 l0 a1).f1) = (-1) then (if a1 > 0 then ((impl_in.f ((rd_T93 l0 a1).f1) 0 (wrap64 (a1 - 1))).bind fun t276 => (impl_oneCoreFault.j0 k a1 (!t276) l0 ((rd_T93 l0 a1).f0) ((rd_T93 l0 a1).f1) ((rd_T93 l0 a1).f2) ((rd_T93 l0 a1).f3) ((rd_T93 l0 a1).f4) ((rd_T93 l0 a1).f5))) else (impl_oneCoreFault.j0 k a1 false l0 ((rd_T93 l0 a1).f0) ((rd_T93 l0 a1).f1) ((rd_T93 l0 a1).f2) ((rd_T93 l0 a1).f3) ((rd_T93 l0 a1).f4) ((rd_T93 l0 a1).f5))) else (impl_oneCoreFault.j0 k a1 true l0 ((rd_T93 l0 a1).f0) ((rd_T93 l0 a1).f1) ((rd_T93 l0 a1).f2) ((rd_T93 l0 a1).f3) ((rd_T93 l0 a1).f4) ((rd_T93 l0 a1).f5))) else (if a1 > 0 then ((impl_in.f ((rd_T93 l0 a1).f1) 0 (wrap64 (a1 - 1))).bind fun t277 => (impl_oneCoreFault.j0 k a1 (!t277) l0 ((rd_T93 l0 a1).f0) ((rd_T93 l0 a1).f1) ((rd_T93 l0 a1).f2) ((rd_T93 l0 a1).f3) ((rd_T93 l0 a1).f4) ((rd_T93 l0 a1).f5))) else (impl_oneCoreFault.j0 k a1 false l0 ((rd_T93 l0 a1).f0) ((rd_T93 l0 a1).f1) ((rd_T93 l0 a1).f2) ((rd_T93 l0 a1).f3) ((rd_T93 l0 a1).f4) ((rd_T93 l0 a1).f5)))) = some r := by rw [if_pos rfl] at H; exact H
      clear H
      have H := H1
      clear H1
      have HC13 := ak H
      clear H
      have hnb14 := NB274_272.out
      have hnc14 := NB272_274.out
      have hcz15_0 : w8.cell? ⟨gb274, 0, none⟩ = some (.int .i64 0) := (blk_cell BK274.out 0).trans rfl
      have hcz15_1 : w8.cell? ⟨gb274, 1, none⟩ = some (.int .i64 0) := (blk_cell BK274.out 1).trans rfl
      have hcz15_2 : w8.cell? ⟨gb274, 2, none⟩ = some (.int .i64 0) := (blk_cell BK274.out 2).trans rfl
      have hcz15_3 : w8.cell? ⟨gb274, 3, none⟩ = some (.int .i64 0) := (blk_cell BK274.out 3).trans rfl
      have hcz15_4 : w8.cell? ⟨gb274, 4, none⟩ = some (.string (⟨#[]⟩ : ByteArray)) := (blk_cell BK274.out 4).trans rfl
      have hcz15_5 : w8.cell? ⟨gb274, 5, none⟩ = some (.slice none 0 0) := (blk_cell BK274.out 5).trans rfl
      have hfz15_0 := blk_frozen BK274.out 0
      have hfz15_1 := blk_frozen BK274.out 1
      have hfz15_2 := blk_frozen BK274.out 2
      have hfz15_3 := blk_frozen BK274.out 3
      have hfz15_4 := blk_frozen BK274.out 4
      have hfz15_5 := blk_frozen BK274.out 5
      go_upto_region 4 with (first | ((with_reducible refine gate_callee (f := 94) rfl ?_); refine goesL_ (some 14) rfl rfl Tryd.func94 (by kernel_rfl) rfl #[.agg #[.int .i64 ((rd_T93 l0 a1).f0), .int .i64 ((rd_T93 l0 a1).f1), .int .i64 ((rd_T93 l0 a1).f2), .int .i64 ((rd_T93 l0 a1).f3), .string ((rd_T93 l0 a1).f4), .slice A273_5 ((rd_T93 l0 a1).f5).length c273_5]] rfl d12_4 ?_; (with_reducible refine (impl_coreForm.calls ((rd_T93 l0 a1).f0) ((rd_T93 l0 a1).f1) ((rd_T93 l0 a1).f2) ((rd_T93 l0 a1).f3) ((rd_T93 l0 a1).f4) _ _ ((rd_T93 l0 a1).f5) true _ ?side1 ?side2 A11.out).mono ?_); (case side1 => exact Kd.C_below HR273_5.out d12_1); (case side2 => exact HC273_5.out); rintro e w16 ⟨rfl, hb⟩; refine ⟨_, rfl, ?_⟩; have n0_ := ak (blk_below (g := gb272) (o := .cells #[.slice (some ad273) l0.length c0] 54 (0, 0)) d12_5 hb); have n1_ := ak (blk_below (g := gb274) (o := .cells #[.int .i64 ((rd_T93 l0 a1).f0), .int .i64 ((rd_T93 l0 a1).f1), .int .i64 ((rd_T93 l0 a1).f2), .int .i64 ((rd_T93 l0 a1).f3), .string ((rd_T93 l0 a1).f4), .slice A273_5 ((rd_T93 l0 a1).f5).length c273_5] 93 (0, 0)) (by (with_reducible repeat (first | refine blk_drewN ?_ _ | refine blk_drew ?_ | refine blk_alloc ?_ _)); refine blk_put (cs := #[.int .i64 ((rd_T93 l0 a1).f0), .int .i64 ((rd_T93 l0 a1).f1), .int .i64 ((rd_T93 l0 a1).f2), .int .i64 ((rd_T93 l0 a1).f3), .string ((rd_T93 l0 a1).f4), .slice none 0 0]) ?_ 5 _ rfl; (with_reducible repeat (first | refine blk_drewN ?_ _ | refine blk_drew ?_ | refine blk_alloc ?_ _)); refine blk_put (cs := #[.int .i64 ((rd_T93 l0 a1).f0), .int .i64 ((rd_T93 l0 a1).f1), .int .i64 ((rd_T93 l0 a1).f2), .int .i64 ((rd_T93 l0 a1).f3), .string (⟨#[]⟩ : ByteArray), .slice none 0 0]) ?_ 4 _ rfl; (with_reducible repeat (first | refine blk_drewN ?_ _ | refine blk_drew ?_ | refine blk_alloc ?_ _)); refine blk_put (cs := #[.int .i64 ((rd_T93 l0 a1).f0), .int .i64 ((rd_T93 l0 a1).f1), .int .i64 ((rd_T93 l0 a1).f2), .int .i64 0, .string (⟨#[]⟩ : ByteArray), .slice none 0 0]) ?_ 3 _ rfl; (with_reducible repeat (first | refine blk_drewN ?_ _ | refine blk_drew ?_ | refine blk_alloc ?_ _)); refine blk_put (cs := #[.int .i64 ((rd_T93 l0 a1).f0), .int .i64 ((rd_T93 l0 a1).f1), .int .i64 0, .int .i64 0, .string (⟨#[]⟩ : ByteArray), .slice none 0 0]) ?_ 2 _ rfl; (with_reducible repeat (first | refine blk_drewN ?_ _ | refine blk_drew ?_ | refine blk_alloc ?_ _)); refine blk_put (cs := #[.int .i64 ((rd_T93 l0 a1).f0), .int .i64 0, .int .i64 0, .int .i64 0, .string (⟨#[]⟩ : ByteArray), .slice none 0 0]) ?_ 1 _ rfl; (with_reducible repeat (first | refine blk_drewN ?_ _ | refine blk_drew ?_ | refine blk_alloc ?_ _)); refine blk_put (cs := #[.int .i64 0, .int .i64 0, .int .i64 0, .int .i64 0, .string (⟨#[]⟩ : ByteArray), .slice none 0 0]) ?_ 0 _ rfl; (with_reducible repeat (first | refine blk_drewN ?_ _ | refine blk_drew ?_ | refine blk_alloc ?_ _)); exact BK274.out) hb); have n2_ := ak (below_step d12_1 hb); clear BK272 BK274 HB; have BK272 := n0_; have BK274 := n1_; have HB := n2_; clear n0_ n1_ n2_; (try clear hb)))
      (try simp only [Act.put, List.setIfInBounds_toArray, List.set_cons_zero, List.set_cons_succ])
      go_cut [16] (fun v16 wc => ∃ (kq : Nat) (x16_12 : Bool), v16 = .bool x16_12 ∧ Aside0 (impl_oneCoreFault.j0 kq a1 x16_12 l0 ((rd_T93 l0 a1).f0) ((rd_T93 l0 a1).f1) ((rd_T93 l0 a1).f2) ((rd_T93 l0 a1).f3) ((rd_T93 l0 a1).f4) ((rd_T93 l0 a1).f5) = some r) ∧ Aside0 (kq ≤ k) ∧ Aside0 (wc.heap[gb272]? = some (.cells #[(.slice (some ad273) l0.length c0)] 54 (0, 0))) ∧ Aside0 (wc.heap[gb274]? = some (.cells #[.int .i64 ((rd_T93 l0 a1).f0), .int .i64 ((rd_T93 l0 a1).f1), .int .i64 ((rd_T93 l0 a1).f2), .int .i64 ((rd_T93 l0 a1).f3), .string ((rd_T93 l0 a1).f4), (.slice A273_5 ((rd_T93 l0 a1).f5).length c273_5)] 93 (0, 0))) ∧ Aside0 (Below w.heap.size w wc))
      case first =>
       have H := HC13.out
       clear HC13
       by_cases c17 : a1 = 0
       ·rw [if_pos c17] at H
        have c17b0 : (a1 == 0) = true := beq_iff_eq.mpr c17
        have c17b1 : (a1 != 0) = false := bne_eq_false_iff_eq.mpr c17
        clear c17
        (first | rw [c17b0] | (simp only [i64_w, i32_w]; rw [c17b0]) | skip)
        by_cases c18 : ((rd_T93 l0 a1).f1) = (-1)
        ·rw [if_pos c18] at H
         have c18b0 : (((rd_T93 l0 a1).f1) == (-1)) = true := beq_iff_eq.mpr c18
         have c18b1 : (((rd_T93 l0 a1).f1) != (-1)) = false := bne_eq_false_iff_eq.mpr c18
         clear c18
         by_cases c19 : a1 > 0
         ·rw [if_pos c19] at H
          have c19b0 : decide (0 < a1) = true := decide_eq_true c19
          clear c19
          replace H := Option.bind_eq_some_iff.mp H
          obtain ⟨t276, A200, H⟩ := H
          replace H : (impl_oneCoreFault.j0 k a1 (!t276) l0 ((rd_T93 l0 a1).f0) ((rd_T93 l0 a1).f1) ((rd_T93 l0 a1).f2) ((rd_T93 l0 a1).f3) ((rd_T93 l0 a1).f4) ((rd_T93 l0 a1).f5)) = some r := H
          have A20 := ak A200
          clear A200
          have H' := ak H
          clear H
          have hnb21 := NB274_272.out
          have hnc21 := NB272_274.out
          have hcz22_0 : w16.cell? ⟨gb274, 0, none⟩ = some (.int .i64 ((rd_T93 l0 a1).f0)) := (blk_cell BK274.out 0).trans rfl
          have hcz22_1 : w16.cell? ⟨gb274, 1, none⟩ = some (.int .i64 ((rd_T93 l0 a1).f1)) := (blk_cell BK274.out 1).trans rfl
          have hcz22_2 : w16.cell? ⟨gb274, 2, none⟩ = some (.int .i64 ((rd_T93 l0 a1).f2)) := (blk_cell BK274.out 2).trans rfl
          have hcz22_3 : w16.cell? ⟨gb274, 3, none⟩ = some (.int .i64 ((rd_T93 l0 a1).f3)) := (blk_cell BK274.out 3).trans rfl
          have hcz22_4 : w16.cell? ⟨gb274, 4, none⟩ = some (.string ((rd_T93 l0 a1).f4)) := (blk_cell BK274.out 4).trans rfl
          have hcz22_5 : w16.cell? ⟨gb274, 5, none⟩ = some (.slice A273_5 ((rd_T93 l0 a1).f5).length c273_5) := (blk_cell BK274.out 5).trans rfl
          have hfz22_0 := blk_frozen BK274.out 0
          have hfz22_1 := blk_frozen BK274.out 1
          have hfz22_2 := blk_frozen BK274.out 2
          have hfz22_3 := blk_frozen BK274.out 3
          have hfz22_4 := blk_frozen BK274.out 4
          have hfz22_5 := blk_frozen BK274.out 5
          go_wp2_with (first | (go_at_call 37; (with_reducible refine (impl_in.calls ((rd_T93 l0 a1).f1) 0 (wrap64 (a1 - 1)) t276 _ A20.out).mono ?_); rintro e w' ⟨rfl, ⟨nd, rfl⟩⟩))
          go_meet
          case rel => exact ⟨_, (!t276), d12_6, H', ⟨by first | omega | exact Nat.le_refl _⟩, ⟨by (with_reducible repeat (first | refine blk_drewN ?_ _ | refine blk_drew ?_ | refine blk_alloc ?_ _)); exact BK272.out⟩, ⟨by (with_reducible repeat (first | refine blk_drewN ?_ _ | refine blk_drew ?_ | refine blk_alloc ?_ _)); exact BK274.out⟩, ⟨by repeat (first | (with_reducible first | exact HB.out | apply below_alloc | apply pw_below_drewN | apply below_drew1 | refine below_set ?_ GE272.out | refine below_set ?_ GE274.out) | exact HB.out)⟩⟩
         ·rw [if_neg c19] at H
          have c19b0 : decide (0 < a1) = false := decide_eq_false c19
          clear c19
          have H' := ak H
          clear H
          have hnb23 := NB274_272.out
          have hnc23 := NB272_274.out
          have hcz24_0 : w16.cell? ⟨gb274, 0, none⟩ = some (.int .i64 ((rd_T93 l0 a1).f0)) := (blk_cell BK274.out 0).trans rfl
          have hcz24_1 : w16.cell? ⟨gb274, 1, none⟩ = some (.int .i64 ((rd_T93 l0 a1).f1)) := (blk_cell BK274.out 1).trans rfl
          have hcz24_2 : w16.cell? ⟨gb274, 2, none⟩ = some (.int .i64 ((rd_T93 l0 a1).f2)) := (blk_cell BK274.out 2).trans rfl
          have hcz24_3 : w16.cell? ⟨gb274, 3, none⟩ = some (.int .i64 ((rd_T93 l0 a1).f3)) := (blk_cell BK274.out 3).trans rfl
          have hcz24_4 : w16.cell? ⟨gb274, 4, none⟩ = some (.string ((rd_T93 l0 a1).f4)) := (blk_cell BK274.out 4).trans rfl
          have hcz24_5 : w16.cell? ⟨gb274, 5, none⟩ = some (.slice A273_5 ((rd_T93 l0 a1).f5).length c273_5) := (blk_cell BK274.out 5).trans rfl
          have hfz24_0 := blk_frozen BK274.out 0
          have hfz24_1 := blk_frozen BK274.out 1
          have hfz24_2 := blk_frozen BK274.out 2
          have hfz24_3 := blk_frozen BK274.out 3
          have hfz24_4 := blk_frozen BK274.out 4
          have hfz24_5 := blk_frozen BK274.out 5
          go_wp2
          go_meet
          case rel => exact ⟨_, (false), d12_6, H', ⟨by first | omega | exact Nat.le_refl _⟩, ⟨by (with_reducible repeat (first | refine blk_drewN ?_ _ | refine blk_drew ?_ | refine blk_alloc ?_ _)); exact BK272.out⟩, ⟨by (with_reducible repeat (first | refine blk_drewN ?_ _ | refine blk_drew ?_ | refine blk_alloc ?_ _)); exact BK274.out⟩, ⟨by repeat (first | (with_reducible first | exact HB.out | apply below_alloc | apply pw_below_drewN | apply below_drew1 | refine below_set ?_ GE272.out | refine below_set ?_ GE274.out) | exact HB.out)⟩⟩
        ·rw [if_neg c18] at H
         have c18b0 : (((rd_T93 l0 a1).f1) == (-1)) = false := beq_eq_false_iff_ne.mpr c18
         have c18b1 : (((rd_T93 l0 a1).f1) != (-1)) = true := bne_iff_ne.mpr c18
         have H' := ak H
         clear H
         have hnb25 := NB274_272.out
         have hnc25 := NB272_274.out
         have hcz26_0 : w16.cell? ⟨gb274, 0, none⟩ = some (.int .i64 ((rd_T93 l0 a1).f0)) := (blk_cell BK274.out 0).trans rfl
         have hcz26_1 : w16.cell? ⟨gb274, 1, none⟩ = some (.int .i64 ((rd_T93 l0 a1).f1)) := (blk_cell BK274.out 1).trans rfl
         have hcz26_2 : w16.cell? ⟨gb274, 2, none⟩ = some (.int .i64 ((rd_T93 l0 a1).f2)) := (blk_cell BK274.out 2).trans rfl
         have hcz26_3 : w16.cell? ⟨gb274, 3, none⟩ = some (.int .i64 ((rd_T93 l0 a1).f3)) := (blk_cell BK274.out 3).trans rfl
         have hcz26_4 : w16.cell? ⟨gb274, 4, none⟩ = some (.string ((rd_T93 l0 a1).f4)) := (blk_cell BK274.out 4).trans rfl
         have hcz26_5 : w16.cell? ⟨gb274, 5, none⟩ = some (.slice A273_5 ((rd_T93 l0 a1).f5).length c273_5) := (blk_cell BK274.out 5).trans rfl
         have hfz26_0 := blk_frozen BK274.out 0
         have hfz26_1 := blk_frozen BK274.out 1
         have hfz26_2 := blk_frozen BK274.out 2
         have hfz26_3 := blk_frozen BK274.out 3
         have hfz26_4 := blk_frozen BK274.out 4
         have hfz26_5 := blk_frozen BK274.out 5
         go_wp2
         go_meet
         case rel => exact ⟨_, (true), d12_6, H', ⟨by first | omega | exact Nat.le_refl _⟩, ⟨by (with_reducible repeat (first | refine blk_drewN ?_ _ | refine blk_drew ?_ | refine blk_alloc ?_ _)); exact BK272.out⟩, ⟨by (with_reducible repeat (first | refine blk_drewN ?_ _ | refine blk_drew ?_ | refine blk_alloc ?_ _)); exact BK274.out⟩, ⟨by repeat (first | (with_reducible first | exact HB.out | apply below_alloc | apply pw_below_drewN | apply below_drew1 | refine below_set ?_ GE272.out | refine below_set ?_ GE274.out) | exact HB.out)⟩⟩
       ·rw [if_neg c17] at H
        have c17b0 : (a1 == 0) = false := beq_eq_false_iff_ne.mpr c17
        have c17b1 : (a1 != 0) = true := bne_iff_ne.mpr c17
        (first | rw [c17b0] | (simp only [i64_w, i32_w]; rw [c17b0]) | skip)
        by_cases c27 : a1 > 0
        ·rw [if_pos c27] at H
         have c27b0 : decide (0 < a1) = true := decide_eq_true c27
         clear c27
         replace H := Option.bind_eq_some_iff.mp H
         obtain ⟨t277, A280, H⟩ := H
         replace H : (impl_oneCoreFault.j0 k a1 (!t277) l0 ((rd_T93 l0 a1).f0) ((rd_T93 l0 a1).f1) ((rd_T93 l0 a1).f2) ((rd_T93 l0 a1).f3) ((rd_T93 l0 a1).f4) ((rd_T93 l0 a1).f5)) = some r := H
         have A28 := ak A280
         clear A280
         have H' := ak H
         clear H
         have hnb29 := NB274_272.out
         have hnc29 := NB272_274.out
         have hcz30_0 : w16.cell? ⟨gb274, 0, none⟩ = some (.int .i64 ((rd_T93 l0 a1).f0)) := (blk_cell BK274.out 0).trans rfl
         have hcz30_1 : w16.cell? ⟨gb274, 1, none⟩ = some (.int .i64 ((rd_T93 l0 a1).f1)) := (blk_cell BK274.out 1).trans rfl
         have hcz30_2 : w16.cell? ⟨gb274, 2, none⟩ = some (.int .i64 ((rd_T93 l0 a1).f2)) := (blk_cell BK274.out 2).trans rfl
         have hcz30_3 : w16.cell? ⟨gb274, 3, none⟩ = some (.int .i64 ((rd_T93 l0 a1).f3)) := (blk_cell BK274.out 3).trans rfl
         have hcz30_4 : w16.cell? ⟨gb274, 4, none⟩ = some (.string ((rd_T93 l0 a1).f4)) := (blk_cell BK274.out 4).trans rfl
         have hcz30_5 : w16.cell? ⟨gb274, 5, none⟩ = some (.slice A273_5 ((rd_T93 l0 a1).f5).length c273_5) := (blk_cell BK274.out 5).trans rfl
         have hfz30_0 := blk_frozen BK274.out 0
         have hfz30_1 := blk_frozen BK274.out 1
         have hfz30_2 := blk_frozen BK274.out 2
         have hfz30_3 := blk_frozen BK274.out 3
         have hfz30_4 := blk_frozen BK274.out 4
         have hfz30_5 := blk_frozen BK274.out 5
         go_wp2_with (first | (go_at_call 37; (with_reducible refine (impl_in.calls ((rd_T93 l0 a1).f1) 0 (wrap64 (a1 - 1)) t277 _ A28.out).mono ?_); rintro e w' ⟨rfl, ⟨nd, rfl⟩⟩))
         go_meet
         case rel => exact ⟨_, (!t277), d12_6, H', ⟨by first | omega | exact Nat.le_refl _⟩, ⟨by (with_reducible repeat (first | refine blk_drewN ?_ _ | refine blk_drew ?_ | refine blk_alloc ?_ _)); exact BK272.out⟩, ⟨by (with_reducible repeat (first | refine blk_drewN ?_ _ | refine blk_drew ?_ | refine blk_alloc ?_ _)); exact BK274.out⟩, ⟨by repeat (first | (with_reducible first | exact HB.out | apply below_alloc | apply pw_below_drewN | apply below_drew1 | refine below_set ?_ GE272.out | refine below_set ?_ GE274.out) | exact HB.out)⟩⟩
        ·rw [if_neg c27] at H
         have c27b0 : decide (0 < a1) = false := decide_eq_false c27
         clear c27
         have H' := ak H
         clear H
         go_wp2
         go_meet
         case rel => exact ⟨_, (false), d12_6, H', ⟨by first | omega | exact Nat.le_refl _⟩, ⟨by (with_reducible repeat (first | refine blk_drewN ?_ _ | refine blk_drew ?_ | refine blk_alloc ?_ _)); exact BK272.out⟩, ⟨by (with_reducible repeat (first | refine blk_drewN ?_ _ | refine blk_drew ?_ | refine blk_alloc ?_ _)); exact BK274.out⟩, ⟨by repeat (first | (with_reducible first | exact HB.out | apply below_alloc | apply pw_below_drewN | apply below_drew1 | refine below_set ?_ GE272.out | refine below_set ?_ GE274.out) | exact HB.out)⟩⟩
      case rest =>
       clear HC13
       try clear c1
       try clear c2
       try clear p2
       try clear q2
       try clear hx2
       try clear c3
       try clear c3b0
       try clear c4
       try clear c4b0
       try clear c6
       try clear p6
       try clear c9
       try clear c12
       try clear c14
       try clear c27
       try clear p27
       try clear q27
       try clear hx27
       try clear hcz10_0
       try clear hcz10_1
       try clear hcz10_2
       try clear hcz10_3
       try clear hcz10_4
       try clear hcz10_5
       try clear hcz15_0
       try clear hcz15_1
       try clear hcz15_2
       try clear hcz15_3
       try clear hcz15_4
       try clear hcz15_5
       try clear hcz7_0
       try clear hfz10_0
       try clear hfz10_1
       try clear hfz10_2
       try clear hfz10_3
       try clear hfz10_4
       try clear hfz10_5
       try clear hfz15_0
       try clear hfz15_1
       try clear hfz15_2
       try clear hfz15_3
       try clear hfz15_4
       try clear hfz15_5
       try clear hfz7_0
       try clear hx273_0
       try clear hx273_1
       try clear hx273_2
       try clear hx273_3
       try clear hx273_4
       try clear hx273_5
       try clear p273
       try clear q273
       obtain ⟨kq, x16_12, rfl, HA, HJ12, BK272, BK274, HB⟩ := hcut
       cases kq with
       | zero => exact absurd HA.out (by simp [impl_oneCoreFault.j0])
       | succ kj12 =>
        have H := HA.out
        clear HA
        simp only [impl_oneCoreFault.j0] at H
        by_cases c31 : x16_12 = true
        ·subst c31
         have H1 : (some 3) = some r := by rw [if_pos rfl] at H; exact H
         clear H
         have H := H1
         clear H1
         obtain rfl := Option.some.inj H
         go_wp2
         go_ret
         exact ⟨by first | rfl | (simp [errW_none, errW_some] <;> rfl) | (simp [*, errW_none, errW_some] <;> rfl), by repeat (first | (with_reducible first | exact HB.out | apply below_alloc | apply pw_below_drewN | apply below_drew1 | refine below_set ?_ GE272.out | refine below_set ?_ GE274.out) | exact HB.out)⟩
        ·replace c31 := Bool.eq_false_iff.mpr c31
         subst c31
         have H1 : (if a1 > 0 then ((impl_isUp__impl_oneCoreFault_1.f kj12 l0 (wrap64 (a1 - 1)) ((rd_T93 l0 a1).f1)).bind fun t278 => (impl_oneCoreFault.j1 kj12 a1 (!t278) l0 ((rd_T93 l0 a1).f0) ((rd_T93 l0 a1).f1) ((rd_T93 l0 a1).f2) ((rd_T93 l0 a1).f3) ((rd_T93 l0 a1).f4) ((rd_T93 l0 a1).f5))) else (impl_oneCoreFault.j1 kj12 a1 false l0 ((rd_T93 l0 a1).f0) ((rd_T93 l0 a1).f1) ((rd_T93 l0 a1).f2) ((rd_T93 l0 a1).f3) ((rd_T93 l0 a1).f4) ((rd_T93 l0 a1).f5))) = some r := by rw [if_neg (show ¬ (false = true) by decide)] at H; exact H
         clear H
         have H := H1
         clear H1
         have HC32 := ak H
         clear H
         go_upto_region 6 with (fail)
         go_cut [36] (fun v36 wc => ∃ (kq : Nat) (x36_31 : Bool), v36 = .bool x36_31 ∧ Aside0 (impl_oneCoreFault.j1 kq a1 x36_31 l0 ((rd_T93 l0 a1).f0) ((rd_T93 l0 a1).f1) ((rd_T93 l0 a1).f2) ((rd_T93 l0 a1).f3) ((rd_T93 l0 a1).f4) ((rd_T93 l0 a1).f5) = some r) ∧ Aside0 (kq ≤ kj12) ∧ Aside0 (wc.heap[gb272]? = some (.cells #[(.slice (some ad273) l0.length c0)] 54 (0, 0))) ∧ Aside0 (wc.heap[gb274]? = some (.cells #[.int .i64 ((rd_T93 l0 a1).f0), .int .i64 ((rd_T93 l0 a1).f1), .int .i64 ((rd_T93 l0 a1).f2), .int .i64 ((rd_T93 l0 a1).f3), .string ((rd_T93 l0 a1).f4), (.slice A273_5 ((rd_T93 l0 a1).f5).length c273_5)] 93 (0, 0))) ∧ Aside0 (Below w.heap.size w wc))
         case first =>
          have H := HC32.out
          clear HC32
          by_cases c33 : a1 > 0
          ·rw [if_pos c33] at H
           have c33b0 : decide (0 < a1) = true := decide_eq_true c33
           clear c33
           (first | rw [c33b0] | (simp only [i64_w, i32_w]; rw [c33b0]) | skip)
           replace H := Option.bind_eq_some_iff.mp H
           obtain ⟨t278, A340, H⟩ := H
           replace H : (impl_oneCoreFault.j1 kj12 a1 (!t278) l0 ((rd_T93 l0 a1).f0) ((rd_T93 l0 a1).f1) ((rd_T93 l0 a1).f2) ((rd_T93 l0 a1).f3) ((rd_T93 l0 a1).f4) ((rd_T93 l0 a1).f5)) = some r := H
           have A34 := ak A340
           clear A340
           have H' := ak H
           clear H
           have hnb35 := NB274_272.out
           have hnc35 := NB272_274.out
           have hcz36_0 : wc.cell? ⟨gb274, 0, none⟩ = some (.int .i64 ((rd_T93 l0 a1).f0)) := (blk_cell BK274.out 0).trans rfl
           have hcz36_1 : wc.cell? ⟨gb274, 1, none⟩ = some (.int .i64 ((rd_T93 l0 a1).f1)) := (blk_cell BK274.out 1).trans rfl
           have hcz36_2 : wc.cell? ⟨gb274, 2, none⟩ = some (.int .i64 ((rd_T93 l0 a1).f2)) := (blk_cell BK274.out 2).trans rfl
           have hcz36_3 : wc.cell? ⟨gb274, 3, none⟩ = some (.int .i64 ((rd_T93 l0 a1).f3)) := (blk_cell BK274.out 3).trans rfl
           have hcz36_4 : wc.cell? ⟨gb274, 4, none⟩ = some (.string ((rd_T93 l0 a1).f4)) := (blk_cell BK274.out 4).trans rfl
           have hcz36_5 : wc.cell? ⟨gb274, 5, none⟩ = some (.slice A273_5 ((rd_T93 l0 a1).f5).length c273_5) := (blk_cell BK274.out 5).trans rfl
           have hfz36_0 := blk_frozen BK274.out 0
           have hfz36_1 := blk_frozen BK274.out 1
           have hfz36_2 := blk_frozen BK274.out 2
           have hfz36_3 := blk_frozen BK274.out 3
           have hfz36_4 := blk_frozen BK274.out 4
           have hfz36_5 := blk_frozen BK274.out 5
           have hcz37_0 : wc.cell? ⟨gb272, 0, none⟩ = some (.slice (some ad273) l0.length c0) := (blk_cell BK272.out 0).trans rfl
           have hfz37_0 := blk_frozen BK272.out 0
           go_wp2_with (first | (go_at_call 95; (with_reducible refine (impl_isUp__impl_oneCoreFault_1.calls kj12 _ (some ad273) c0 l0 (wrap64 (a1 - 1)) ((rd_T93 l0 a1).f1) t278 _ ?side1 ?side2 ?side3 A34.out).mono ?_); (case side1 => first | exact hcz37_0 | (refine Eq.trans ?_ hcz37_0; simp only [go_sem]) | exact ((blk_cell d12_2 0).trans rfl) | (refine Eq.trans ?_ ((blk_cell d12_2 0).trans rfl); simp only [go_sem])); (case side2 => repeat (first | exact (Kd.C_below HR0.out HB.out) | (with_reducible refine Kd.C_alloc ?_ _) | (with_reducible refine Kd.C_drewN ?_ _) | (with_reducible refine Kd.C_drew ?_))); (case side3 => exact HC0.out); rintro e w' ⟨rfl, ⟨nd, rfl⟩⟩))
           go_meet
           case rel => exact ⟨_, (!t278), d12_6, H', ⟨by have := HJ12.out; first | omega | exact Nat.le_refl _⟩, ⟨by (with_reducible repeat (first | refine blk_drewN ?_ _ | refine blk_drew ?_ | refine blk_alloc ?_ _)); exact BK272.out⟩, ⟨by (with_reducible repeat (first | refine blk_drewN ?_ _ | refine blk_drew ?_ | refine blk_alloc ?_ _)); exact BK274.out⟩, ⟨by repeat (first | (with_reducible first | exact HB.out | apply below_alloc | apply pw_below_drewN | apply below_drew1 | refine below_set ?_ GE272.out | refine below_set ?_ GE274.out) | exact HB.out)⟩⟩
          ·rw [if_neg c33] at H
           have c33b0 : decide (0 < a1) = false := decide_eq_false c33
           clear c33
           (first | rw [c33b0] | (simp only [i64_w, i32_w]; rw [c33b0]) | skip)
           have H' := ak H
           clear H
           go_wp2
           go_meet
           case rel => exact ⟨_, (false), d12_6, H', ⟨by have := HJ12.out; first | omega | exact Nat.le_refl _⟩, ⟨by (with_reducible repeat (first | refine blk_drewN ?_ _ | refine blk_drew ?_ | refine blk_alloc ?_ _)); exact BK272.out⟩, ⟨by (with_reducible repeat (first | refine blk_drewN ?_ _ | refine blk_drew ?_ | refine blk_alloc ?_ _)); exact BK274.out⟩, ⟨by repeat (first | (with_reducible first | exact HB.out | apply below_alloc | apply pw_below_drewN | apply below_drew1 | refine below_set ?_ GE272.out | refine below_set ?_ GE274.out) | exact HB.out)⟩⟩
         case rest =>
          clear HC32
          try clear c1
          try clear c2
          try clear p2
          try clear q2
          try clear hx2
          try clear c3
          try clear c3b0
          try clear c4
          try clear c4b0
          try clear c6
          try clear p6
          try clear c9
          try clear c12
          try clear c14
          try clear c17
          try clear c17b0
          try clear c17b1
          try clear c18
          try clear c18b0
          try clear c18b1
          try clear c19
          try clear c19b0
          try clear c21
          try clear c23
          try clear c25
          try clear c27
          try clear c27b0
          try clear p27
          try clear q27
          try clear hx27
          try clear c29
          try clear c31
          try clear hcz10_0
          try clear hcz10_1
          try clear hcz10_2
          try clear hcz10_3
          try clear hcz10_4
          try clear hcz10_5
          try clear hcz15_0
          try clear hcz15_1
          try clear hcz15_2
          try clear hcz15_3
          try clear hcz15_4
          try clear hcz15_5
          try clear hcz22_0
          try clear hcz22_1
          try clear hcz22_2
          try clear hcz22_3
          try clear hcz22_4
          try clear hcz22_5
          try clear hcz24_0
          try clear hcz24_1
          try clear hcz24_2
          try clear hcz24_3
          try clear hcz24_4
          try clear hcz24_5
          try clear hcz26_0
          try clear hcz26_1
          try clear hcz26_2
          try clear hcz26_3
          try clear hcz26_4
          try clear hcz26_5
          try clear hcz30_0
          try clear hcz30_1
          try clear hcz30_2
          try clear hcz30_3
          try clear hcz30_4
          try clear hcz30_5
          try clear hcz7_0
          try clear hfz10_0
          try clear hfz10_1
          try clear hfz10_2
          try clear hfz10_3
          try clear hfz10_4
          try clear hfz10_5
          try clear hfz15_0
          try clear hfz15_1
          try clear hfz15_2
          try clear hfz15_3
          try clear hfz15_4
          try clear hfz15_5
          try clear hfz22_0
          try clear hfz22_1
          try clear hfz22_2
          try clear hfz22_3
          try clear hfz22_4
          try clear hfz22_5
          try clear hfz24_0
          try clear hfz24_1
          try clear hfz24_2
          try clear hfz24_3
          try clear hfz24_4
          try clear hfz24_5
          try clear hfz26_0
          try clear hfz26_1
          try clear hfz26_2
          try clear hfz26_3
          try clear hfz26_4
          try clear hfz26_5
          try clear hfz30_0
          try clear hfz30_1
          try clear hfz30_2
          try clear hfz30_3
          try clear hfz30_4
          try clear hfz30_5
          try clear hfz7_0
          try clear hx273_0
          try clear hx273_1
          try clear hx273_2
          try clear hx273_3
          try clear hx273_4
          try clear hx273_5
          try clear p2
          try clear p27
          try clear p273
          try clear p6
          try clear q2
          try clear q27
          try clear q273
          obtain ⟨kq, x36_31, rfl, HA, HJ31, BK272, BK274, HB⟩ := hcut
          cases kq with
          | zero => exact absurd HA.out (by simp [impl_oneCoreFault.j1])
          | succ kj31 =>
           have H := HA.out
           clear HA
           simp only [impl_oneCoreFault.j1] at H
           by_cases c38 : x36_31 = true
           ·subst c38
            have H1 : (some 1) = some r := by rw [if_pos rfl] at H; exact H
            clear H
            have H := H1
            clear H1
            obtain rfl := Option.some.inj H
            go_wp2
            go_ret
            exact ⟨by first | rfl | (simp [errW_none, errW_some] <;> rfl) | (simp [*, errW_none, errW_some] <;> rfl), by repeat (first | (with_reducible first | exact HB.out | apply below_alloc | apply pw_below_drewN | apply below_drew1 | refine below_set ?_ GE272.out | refine below_set ?_ GE274.out) | exact HB.out)⟩
           ·replace c38 := Bool.eq_false_iff.mpr c38
            subst c38
            have H1 : ((impl_named.f ((rd_T93 l0 a1).f0)).bind fun t279 => (if t279 = true then ((impl_isName.f kj31 ((rd_T93 l0 a1).f4)).bind fun t280 => (if t280 = true then (impl_oneCoreFault.j2 kj31 a1 l0 ((rd_T93 l0 a1).f0) ((rd_T93 l0 a1).f1) ((rd_T93 l0 a1).f2) ((rd_T93 l0 a1).f3) ((rd_T93 l0 a1).f4) ((rd_T93 l0 a1).f5)) else (some 5))) else (impl_oneCoreFault.j2 kj31 a1 l0 ((rd_T93 l0 a1).f0) ((rd_T93 l0 a1).f1) ((rd_T93 l0 a1).f2) ((rd_T93 l0 a1).f3) ((rd_T93 l0 a1).f4) ((rd_T93 l0 a1).f5)))) = some r := by rw [if_neg (show ¬ (false = true) by decide)] at H; exact H
            clear H
            have H := H1
            clear H1
            replace H := Option.bind_eq_some_iff.mp H
            obtain ⟨t279, A390, H⟩ := H
            replace H : (if t279 = true then ((impl_isName.f kj31 ((rd_T93 l0 a1).f4)).bind fun t280 => (if t280 = true then (impl_oneCoreFault.j2 kj31 a1 l0 ((rd_T93 l0 a1).f0) ((rd_T93 l0 a1).f1) ((rd_T93 l0 a1).f2) ((rd_T93 l0 a1).f3) ((rd_T93 l0 a1).f4) ((rd_T93 l0 a1).f5)) else (some 5))) else (impl_oneCoreFault.j2 kj31 a1 l0 ((rd_T93 l0 a1).f0) ((rd_T93 l0 a1).f1) ((rd_T93 l0 a1).f2) ((rd_T93 l0 a1).f3) ((rd_T93 l0 a1).f4) ((rd_T93 l0 a1).f5))) = some r := H
            have A39 := ak A390
            clear A390
            by_cases c40 : t279 = true
            ·subst c40
             have H1 : ((impl_isName.f kj31 ((rd_T93 l0 a1).f4)).bind fun t280 => (if t280 = true then (impl_oneCoreFault.j2 kj31 a1 l0 ((rd_T93 l0 a1).f0) ((rd_T93 l0 a1).f1) ((rd_T93 l0 a1).f2) ((rd_T93 l0 a1).f3) ((rd_T93 l0 a1).f4) ((rd_T93 l0 a1).f5)) else (some 5))) = some r := by rw [if_pos rfl] at H; exact H
             clear H
             have H := H1
             clear H1
             replace H := Option.bind_eq_some_iff.mp H
             obtain ⟨t280, A410, H⟩ := H
             replace H : (if t280 = true then (impl_oneCoreFault.j2 kj31 a1 l0 ((rd_T93 l0 a1).f0) ((rd_T93 l0 a1).f1) ((rd_T93 l0 a1).f2) ((rd_T93 l0 a1).f3) ((rd_T93 l0 a1).f4) ((rd_T93 l0 a1).f5)) else (some 5)) = some r := H
             have A41 := ak A410
             clear A410
             by_cases c42 : t280 = true
             ·subst c42
              have H1 : (impl_oneCoreFault.j2 kj31 a1 l0 ((rd_T93 l0 a1).f0) ((rd_T93 l0 a1).f1) ((rd_T93 l0 a1).f2) ((rd_T93 l0 a1).f3) ((rd_T93 l0 a1).f4) ((rd_T93 l0 a1).f5)) = some r := by rw [if_pos rfl] at H; exact H
              clear H
              have H := H1
              clear H1
              have H' := ak H
              clear H
              have hnb43 := NB274_272.out
              have hnc43 := NB272_274.out
              have hcz44_0 : wc.cell? ⟨gb274, 0, none⟩ = some (.int .i64 ((rd_T93 l0 a1).f0)) := (blk_cell BK274.out 0).trans rfl
              have hcz44_1 : wc.cell? ⟨gb274, 1, none⟩ = some (.int .i64 ((rd_T93 l0 a1).f1)) := (blk_cell BK274.out 1).trans rfl
              have hcz44_2 : wc.cell? ⟨gb274, 2, none⟩ = some (.int .i64 ((rd_T93 l0 a1).f2)) := (blk_cell BK274.out 2).trans rfl
              have hcz44_3 : wc.cell? ⟨gb274, 3, none⟩ = some (.int .i64 ((rd_T93 l0 a1).f3)) := (blk_cell BK274.out 3).trans rfl
              have hcz44_4 : wc.cell? ⟨gb274, 4, none⟩ = some (.string ((rd_T93 l0 a1).f4)) := (blk_cell BK274.out 4).trans rfl
              have hcz44_5 : wc.cell? ⟨gb274, 5, none⟩ = some (.slice A273_5 ((rd_T93 l0 a1).f5).length c273_5) := (blk_cell BK274.out 5).trans rfl
              have hfz44_0 := blk_frozen BK274.out 0
              have hfz44_1 := blk_frozen BK274.out 1
              have hfz44_2 := blk_frozen BK274.out 2
              have hfz44_3 := blk_frozen BK274.out 3
              have hfz44_4 := blk_frozen BK274.out 4
              have hfz44_5 := blk_frozen BK274.out 5
              go_wp2_with (first | ((with_reducible refine gate_callee (f := 66) rfl ?_); refine goesL_ (some 51) rfl rfl Tryd.func66 (by kernel_rfl) rfl #[.int .i64 ((rd_T93 l0 a1).f0)] rfl d12_4 ?_; (with_reducible refine (impl_named.calls ((rd_T93 l0 a1).f0) true _ A39.out).mono ?_); rintro e w' ⟨rfl, ⟨nd, rfl⟩⟩; refine ⟨_, rfl, ?_⟩) | (go_at_call 97; (with_reducible refine (impl_isName.calls kj31 ((rd_T93 l0 a1).f4) true _ A41.out).mono ?_); rintro e w45 ⟨rfl, hb⟩; have n0_ := ak (blk_below (g := gb272) (o := .cells #[.slice (some ad273) l0.length c0] 54 (0, 0)) d12_2 hb); have n1_ := ak (blk_below (g := gb274) (o := .cells #[.int .i64 ((rd_T93 l0 a1).f0), .int .i64 ((rd_T93 l0 a1).f1), .int .i64 ((rd_T93 l0 a1).f2), .int .i64 ((rd_T93 l0 a1).f3), .string ((rd_T93 l0 a1).f4), .slice A273_5 ((rd_T93 l0 a1).f5).length c273_5] 93 (0, 0)) d12_3 hb); have n2_ := ak (below_step d12_1 hb); clear BK272 BK274 HB; have BK272 := n0_; have BK274 := n1_; have HB := n2_; clear n0_ n1_ n2_; (try clear hb)))
              go_meet
              case rel => exact ⟨_, H', ⟨by have := HJ12.out; have := HJ31.out; first | omega | exact Nat.le_refl _⟩, ⟨by (with_reducible repeat (first | refine blk_drewN ?_ _ | refine blk_drew ?_ | refine blk_alloc ?_ _)); exact BK272.out⟩, ⟨by (with_reducible repeat (first | refine blk_drewN ?_ _ | refine blk_drew ?_ | refine blk_alloc ?_ _)); exact BK274.out⟩, ⟨by repeat (first | (with_reducible first | exact HB.out | apply below_alloc | apply pw_below_drewN | apply below_drew1 | refine below_set ?_ GE272.out | refine below_set ?_ GE274.out) | exact HB.out)⟩⟩
             ·replace c42 := Bool.eq_false_iff.mpr c42
              subst c42
              have H1 : (some 5) = some r := by rw [if_neg (show ¬ (false = true) by decide)] at H; exact H
              clear H
              have H := H1
              clear H1
              obtain rfl := Option.some.inj H
              have hnb46 := NB274_272.out
              have hnc46 := NB272_274.out
              have hcz47_0 : wc.cell? ⟨gb274, 0, none⟩ = some (.int .i64 ((rd_T93 l0 a1).f0)) := (blk_cell BK274.out 0).trans rfl
              have hcz47_1 : wc.cell? ⟨gb274, 1, none⟩ = some (.int .i64 ((rd_T93 l0 a1).f1)) := (blk_cell BK274.out 1).trans rfl
              have hcz47_2 : wc.cell? ⟨gb274, 2, none⟩ = some (.int .i64 ((rd_T93 l0 a1).f2)) := (blk_cell BK274.out 2).trans rfl
              have hcz47_3 : wc.cell? ⟨gb274, 3, none⟩ = some (.int .i64 ((rd_T93 l0 a1).f3)) := (blk_cell BK274.out 3).trans rfl
              have hcz47_4 : wc.cell? ⟨gb274, 4, none⟩ = some (.string ((rd_T93 l0 a1).f4)) := (blk_cell BK274.out 4).trans rfl
              have hcz47_5 : wc.cell? ⟨gb274, 5, none⟩ = some (.slice A273_5 ((rd_T93 l0 a1).f5).length c273_5) := (blk_cell BK274.out 5).trans rfl
              have hfz47_0 := blk_frozen BK274.out 0
              have hfz47_1 := blk_frozen BK274.out 1
              have hfz47_2 := blk_frozen BK274.out 2
              have hfz47_3 := blk_frozen BK274.out 3
              have hfz47_4 := blk_frozen BK274.out 4
              have hfz47_5 := blk_frozen BK274.out 5
              go_wp2_with (first | ((with_reducible refine gate_callee (f := 66) rfl ?_); refine goesL_ (some 51) rfl rfl Tryd.func66 (by kernel_rfl) rfl #[.int .i64 ((rd_T93 l0 a1).f0)] rfl d12_4 ?_; (with_reducible refine (impl_named.calls ((rd_T93 l0 a1).f0) true _ A39.out).mono ?_); rintro e w' ⟨rfl, ⟨nd, rfl⟩⟩; refine ⟨_, rfl, ?_⟩) | (go_at_call 97; (with_reducible refine (impl_isName.calls kj31 ((rd_T93 l0 a1).f4) false _ A41.out).mono ?_); rintro e w48 ⟨rfl, hb⟩; have n0_ := ak (blk_below (g := gb272) (o := .cells #[.slice (some ad273) l0.length c0] 54 (0, 0)) d12_2 hb); have n1_ := ak (blk_below (g := gb274) (o := .cells #[.int .i64 ((rd_T93 l0 a1).f0), .int .i64 ((rd_T93 l0 a1).f1), .int .i64 ((rd_T93 l0 a1).f2), .int .i64 ((rd_T93 l0 a1).f3), .string ((rd_T93 l0 a1).f4), .slice A273_5 ((rd_T93 l0 a1).f5).length c273_5] 93 (0, 0)) d12_3 hb); have n2_ := ak (below_step d12_1 hb); clear BK272 BK274 HB; have BK272 := n0_; have BK274 := n1_; have HB := n2_; clear n0_ n1_ n2_; (try clear hb)))
              go_ret
              exact ⟨by first | rfl | (simp [errW_none, errW_some] <;> rfl) | (simp [*, errW_none, errW_some] <;> rfl), by repeat (first | (with_reducible first | exact HB.out | apply below_alloc | apply pw_below_drewN | apply below_drew1 | refine below_set ?_ GE272.out | refine below_set ?_ GE274.out) | exact HB.out)⟩
            ·replace c40 := Bool.eq_false_iff.mpr c40
             subst c40
             have H1 : (impl_oneCoreFault.j2 kj31 a1 l0 ((rd_T93 l0 a1).f0) ((rd_T93 l0 a1).f1) ((rd_T93 l0 a1).f2) ((rd_T93 l0 a1).f3) ((rd_T93 l0 a1).f4) ((rd_T93 l0 a1).f5)) = some r := by rw [if_neg (show ¬ (false = true) by decide)] at H; exact H
             clear H
             have H := H1
             clear H1
             have H' := ak H
             clear H
             have hnb49 := NB274_272.out
             have hnc49 := NB272_274.out
             have hcz50_0 : wc.cell? ⟨gb274, 0, none⟩ = some (.int .i64 ((rd_T93 l0 a1).f0)) := (blk_cell BK274.out 0).trans rfl
             have hcz50_1 : wc.cell? ⟨gb274, 1, none⟩ = some (.int .i64 ((rd_T93 l0 a1).f1)) := (blk_cell BK274.out 1).trans rfl
             have hcz50_2 : wc.cell? ⟨gb274, 2, none⟩ = some (.int .i64 ((rd_T93 l0 a1).f2)) := (blk_cell BK274.out 2).trans rfl
             have hcz50_3 : wc.cell? ⟨gb274, 3, none⟩ = some (.int .i64 ((rd_T93 l0 a1).f3)) := (blk_cell BK274.out 3).trans rfl
             have hcz50_4 : wc.cell? ⟨gb274, 4, none⟩ = some (.string ((rd_T93 l0 a1).f4)) := (blk_cell BK274.out 4).trans rfl
             have hcz50_5 : wc.cell? ⟨gb274, 5, none⟩ = some (.slice A273_5 ((rd_T93 l0 a1).f5).length c273_5) := (blk_cell BK274.out 5).trans rfl
             have hfz50_0 := blk_frozen BK274.out 0
             have hfz50_1 := blk_frozen BK274.out 1
             have hfz50_2 := blk_frozen BK274.out 2
             have hfz50_3 := blk_frozen BK274.out 3
             have hfz50_4 := blk_frozen BK274.out 4
             have hfz50_5 := blk_frozen BK274.out 5
             go_wp2_with (first | ((with_reducible refine gate_callee (f := 66) rfl ?_); refine goesL_ (some 51) rfl rfl Tryd.func66 (by kernel_rfl) rfl #[.int .i64 ((rd_T93 l0 a1).f0)] rfl d12_4 ?_; (with_reducible refine (impl_named.calls ((rd_T93 l0 a1).f0) false _ A39.out).mono ?_); rintro e w' ⟨rfl, ⟨nd, rfl⟩⟩; refine ⟨_, rfl, ?_⟩))
             go_meet
             case rel => exact ⟨_, H', ⟨by have := HJ12.out; have := HJ31.out; first | omega | exact Nat.le_refl _⟩, ⟨by (with_reducible repeat (first | refine blk_drewN ?_ _ | refine blk_drew ?_ | refine blk_alloc ?_ _)); exact BK272.out⟩, ⟨by (with_reducible repeat (first | refine blk_drewN ?_ _ | refine blk_drew ?_ | refine blk_alloc ?_ _)); exact BK274.out⟩, ⟨by repeat (first | (with_reducible first | exact HB.out | apply below_alloc | apply pw_below_drewN | apply below_drew1 | refine below_set ?_ GE272.out | refine below_set ?_ GE274.out) | exact HB.out)⟩⟩
     ·replace c12 := Bool.eq_false_iff.mpr c12
      subst c12
      have H1 : (some 1) = some r := by rw [if_neg (show ¬ (false = true) by decide)] at H; exact H
      clear H
      have H := H1
      clear H1
      obtain rfl := Option.some.inj H
      have hnb51 := NB274_272.out
      have hnc51 := NB272_274.out
      have hcz52_0 : w8.cell? ⟨gb274, 0, none⟩ = some (.int .i64 0) := (blk_cell BK274.out 0).trans rfl
      have hcz52_1 : w8.cell? ⟨gb274, 1, none⟩ = some (.int .i64 0) := (blk_cell BK274.out 1).trans rfl
      have hcz52_2 : w8.cell? ⟨gb274, 2, none⟩ = some (.int .i64 0) := (blk_cell BK274.out 2).trans rfl
      have hcz52_3 : w8.cell? ⟨gb274, 3, none⟩ = some (.int .i64 0) := (blk_cell BK274.out 3).trans rfl
      have hcz52_4 : w8.cell? ⟨gb274, 4, none⟩ = some (.string (⟨#[]⟩ : ByteArray)) := (blk_cell BK274.out 4).trans rfl
      have hcz52_5 : w8.cell? ⟨gb274, 5, none⟩ = some (.slice none 0 0) := (blk_cell BK274.out 5).trans rfl
      have hfz52_0 := blk_frozen BK274.out 0
      have hfz52_1 := blk_frozen BK274.out 1
      have hfz52_2 := blk_frozen BK274.out 2
      have hfz52_3 := blk_frozen BK274.out 3
      have hfz52_4 := blk_frozen BK274.out 4
      have hfz52_5 := blk_frozen BK274.out 5
      go_wp2_with (first | ((with_reducible refine gate_callee (f := 94) rfl ?_); refine goesL_ (some 14) rfl rfl Tryd.func94 (by kernel_rfl) rfl #[.agg #[.int .i64 ((rd_T93 l0 a1).f0), .int .i64 ((rd_T93 l0 a1).f1), .int .i64 ((rd_T93 l0 a1).f2), .int .i64 ((rd_T93 l0 a1).f3), .string ((rd_T93 l0 a1).f4), .slice A273_5 ((rd_T93 l0 a1).f5).length c273_5]] rfl d12_4 ?_; (with_reducible refine (impl_coreForm.calls ((rd_T93 l0 a1).f0) ((rd_T93 l0 a1).f1) ((rd_T93 l0 a1).f2) ((rd_T93 l0 a1).f3) ((rd_T93 l0 a1).f4) _ _ ((rd_T93 l0 a1).f5) false _ ?side1 ?side2 A11.out).mono ?_); (case side1 => exact Kd.C_below HR273_5.out d12_1); (case side2 => exact HC273_5.out); rintro e w53 ⟨rfl, hb⟩; refine ⟨_, rfl, ?_⟩; have n0_ := ak (blk_below (g := gb272) (o := .cells #[.slice (some ad273) l0.length c0] 54 (0, 0)) d12_5 hb); have n1_ := ak (blk_below (g := gb274) (o := .cells #[.int .i64 ((rd_T93 l0 a1).f0), .int .i64 ((rd_T93 l0 a1).f1), .int .i64 ((rd_T93 l0 a1).f2), .int .i64 ((rd_T93 l0 a1).f3), .string ((rd_T93 l0 a1).f4), .slice A273_5 ((rd_T93 l0 a1).f5).length c273_5] 93 (0, 0)) (by (with_reducible repeat (first | refine blk_drewN ?_ _ | refine blk_drew ?_ | refine blk_alloc ?_ _)); refine blk_put (cs := #[.int .i64 ((rd_T93 l0 a1).f0), .int .i64 ((rd_T93 l0 a1).f1), .int .i64 ((rd_T93 l0 a1).f2), .int .i64 ((rd_T93 l0 a1).f3), .string ((rd_T93 l0 a1).f4), .slice none 0 0]) ?_ 5 _ rfl; (with_reducible repeat (first | refine blk_drewN ?_ _ | refine blk_drew ?_ | refine blk_alloc ?_ _)); refine blk_put (cs := #[.int .i64 ((rd_T93 l0 a1).f0), .int .i64 ((rd_T93 l0 a1).f1), .int .i64 ((rd_T93 l0 a1).f2), .int .i64 ((rd_T93 l0 a1).f3), .string (⟨#[]⟩ : ByteArray), .slice none 0 0]) ?_ 4 _ rfl; (with_reducible repeat (first | refine blk_drewN ?_ _ | refine blk_drew ?_ | refine blk_alloc ?_ _)); refine blk_put (cs := #[.int .i64 ((rd_T93 l0 a1).f0), .int .i64 ((rd_T93 l0 a1).f1), .int .i64 ((rd_T93 l0 a1).f2), .int .i64 0, .string (⟨#[]⟩ : ByteArray), .slice none 0 0]) ?_ 3 _ rfl; (with_reducible repeat (first | refine blk_drewN ?_ _ | refine blk_drew ?_ | refine blk_alloc ?_ _)); refine blk_put (cs := #[.int .i64 ((rd_T93 l0 a1).f0), .int .i64 ((rd_T93 l0 a1).f1), .int .i64 0, .int .i64 0, .string (⟨#[]⟩ : ByteArray), .slice none 0 0]) ?_ 2 _ rfl; (with_reducible repeat (first | refine blk_drewN ?_ _ | refine blk_drew ?_ | refine blk_alloc ?_ _)); refine blk_put (cs := #[.int .i64 ((rd_T93 l0 a1).f0), .int .i64 0, .int .i64 0, .int .i64 0, .string (⟨#[]⟩ : ByteArray), .slice none 0 0]) ?_ 1 _ rfl; (with_reducible repeat (first | refine blk_drewN ?_ _ | refine blk_drew ?_ | refine blk_alloc ?_ _)); refine blk_put (cs := #[.int .i64 0, .int .i64 0, .int .i64 0, .int .i64 0, .string (⟨#[]⟩ : ByteArray), .slice none 0 0]) ?_ 0 _ rfl; (with_reducible repeat (first | refine blk_drewN ?_ _ | refine blk_drew ?_ | refine blk_alloc ?_ _)); exact BK274.out) hb); have n2_ := ak (below_step d12_1 hb); clear BK272 BK274 HB; have BK272 := n0_; have BK274 := n1_; have HB := n2_; clear n0_ n1_ n2_; (try clear hb)))
      go_ret
      exact ⟨by first | rfl | (simp [errW_none, errW_some] <;> rfl) | (simp [*, errW_none, errW_some] <;> rfl), by repeat (first | (with_reducible first | exact HB.out | apply below_alloc | apply pw_below_drewN | apply below_drew1 | refine below_set ?_ GE272.out | refine below_set ?_ GE274.out) | exact HB.out)⟩
    case rest =>
     clear HC5
     try clear c2
     try clear p2
     try clear q2
     try clear hx2
     try clear c3
     try clear c3b0
     try clear c4
     try clear c4b0
     try clear c6
     try clear p6
     try clear c9
     try clear c27
     try clear p27
     try clear q27
     try clear hx27
     try clear hcz10_0
     try clear hcz10_1
     try clear hcz10_2
     try clear hcz10_3
     try clear hcz10_4
     try clear hcz10_5
     try clear hcz7_0
     try clear hfz10_0
     try clear hfz10_1
     try clear hfz10_2
     try clear hfz10_3
     try clear hfz10_4
     try clear hfz10_5
     try clear hfz7_0
     try clear hx273_0
     try clear hx273_1
     try clear hx273_2
     try clear hx273_3
     try clear hx273_4
     try clear hx273_5
     try clear p273
     try clear q273
     obtain ⟨kq, HA, HJ4, BK272, BK274, HB⟩ := hcut
     cases kq with
     | zero => exact absurd HA.out (by simp [impl_oneCoreFault.j2])
     | succ kj4 =>
      have H := HA.out
      clear HA
      simp only [impl_oneCoreFault.j2] at H
      by_cases c54 : ((rd_T93 l0 a1).f0) = 1
      ·rw [if_pos c54] at H
       have c54b0 : (((rd_T93 l0 a1).f0) == 1) = true := beq_iff_eq.mpr c54
       have c54b1 : (((rd_T93 l0 a1).f0) != 1) = false := bne_eq_false_iff_eq.mpr c54
       clear c54
       replace H := Option.bind_eq_some_iff.mp H
       obtain ⟨t281, A550, H⟩ := H
       replace H : (some t281) = some r := H
       have A55 := ak A550
       clear A550
       obtain rfl := Option.some.inj H
       have hnb56 := NB274_272.out
       have hnc56 := NB272_274.out
       have hcz57_0 : wc.cell? ⟨gb274, 0, none⟩ = some (.int .i64 ((rd_T93 l0 a1).f0)) := (blk_cell BK274.out 0).trans rfl
       have hcz57_1 : wc.cell? ⟨gb274, 1, none⟩ = some (.int .i64 ((rd_T93 l0 a1).f1)) := (blk_cell BK274.out 1).trans rfl
       have hcz57_2 : wc.cell? ⟨gb274, 2, none⟩ = some (.int .i64 ((rd_T93 l0 a1).f2)) := (blk_cell BK274.out 2).trans rfl
       have hcz57_3 : wc.cell? ⟨gb274, 3, none⟩ = some (.int .i64 ((rd_T93 l0 a1).f3)) := (blk_cell BK274.out 3).trans rfl
       have hcz57_4 : wc.cell? ⟨gb274, 4, none⟩ = some (.string ((rd_T93 l0 a1).f4)) := (blk_cell BK274.out 4).trans rfl
       have hcz57_5 : wc.cell? ⟨gb274, 5, none⟩ = some (.slice A273_5 ((rd_T93 l0 a1).f5).length c273_5) := (blk_cell BK274.out 5).trans rfl
       have hfz57_0 := blk_frozen BK274.out 0
       have hfz57_1 := blk_frozen BK274.out 1
       have hfz57_2 := blk_frozen BK274.out 2
       have hfz57_3 := blk_frozen BK274.out 3
       have hfz57_4 := blk_frozen BK274.out 4
       have hfz57_5 := blk_frozen BK274.out 5
       go_wp2_with (first | ((with_reducible refine gate_callee (f := 98) rfl ?_); refine goesL_ (some 64) rfl rfl Tryd.func98 (by kernel_rfl) rfl #[.slice A273_5 ((rd_T93 l0 a1).f5).length c273_5] rfl d12_4 ?_; (with_reducible refine (impl_DataFault.calls kj4 _ _ ((rd_T93 l0 a1).f5) t281 _ ?side1 ?side2 A55.out).mono ?_); (case side1 => repeat (first | exact (Kd.C_below HR273_5.out HB.out) | (with_reducible refine Kd.C_alloc ?_ _) | (with_reducible refine Kd.C_drewN ?_ _) | (with_reducible refine Kd.C_drew ?_))); (case side2 => exact HC273_5.out); rintro e w58 ⟨rfl, hb⟩; refine ⟨_, rfl, ?_⟩; have n0_ := ak (blk_below (g := gb272) (o := .cells #[.slice (some ad273) l0.length c0] 54 (0, 0)) d12_2 hb); have n1_ := ak (blk_below (g := gb274) (o := .cells #[.int .i64 ((rd_T93 l0 a1).f0), .int .i64 ((rd_T93 l0 a1).f1), .int .i64 ((rd_T93 l0 a1).f2), .int .i64 ((rd_T93 l0 a1).f3), .string ((rd_T93 l0 a1).f4), .slice A273_5 ((rd_T93 l0 a1).f5).length c273_5] 93 (0, 0)) d12_3 hb); have n2_ := ak (below_step d12_1 hb); clear BK272 BK274 HB; have BK272 := n0_; have BK274 := n1_; have HB := n2_; clear n0_ n1_ n2_; (try clear hb)))
       go_ret
       exact ⟨by first | rfl | (simp [errW_none, errW_some] <;> rfl) | (simp [*, errW_none, errW_some] <;> rfl), by repeat (first | (with_reducible first | exact HB.out | apply below_alloc | apply pw_below_drewN | apply below_drew1 | refine below_set ?_ GE272.out | refine below_set ?_ GE274.out) | exact HB.out)⟩
      ·rw [if_neg c54] at H
       have c54b0 : (((rd_T93 l0 a1).f0) == 1) = false := beq_eq_false_iff_ne.mpr c54
       have c54b1 : (((rd_T93 l0 a1).f0) != 1) = true := bne_iff_ne.mpr c54
       by_cases c59 : ((rd_T93 l0 a1).f0) = 8
       ·rw [if_pos c59] at H
        have c59b0 : (((rd_T93 l0 a1).f0) == 8) = true := beq_iff_eq.mpr c59
        have c59b1 : (((rd_T93 l0 a1).f0) != 8) = false := bne_eq_false_iff_eq.mpr c59
        clear c59
        by_cases c60 : a1 > 0
        ·rw [if_pos c60] at H
         have c60b0 : decide (0 < a1) = true := decide_eq_true c60
         clear c60
         obtain rfl := Option.some.inj H
         have hnb61 := NB274_272.out
         have hnc61 := NB272_274.out
         have hcz62_0 : wc.cell? ⟨gb274, 0, none⟩ = some (.int .i64 ((rd_T93 l0 a1).f0)) := (blk_cell BK274.out 0).trans rfl
         have hcz62_1 : wc.cell? ⟨gb274, 1, none⟩ = some (.int .i64 ((rd_T93 l0 a1).f1)) := (blk_cell BK274.out 1).trans rfl
         have hcz62_2 : wc.cell? ⟨gb274, 2, none⟩ = some (.int .i64 ((rd_T93 l0 a1).f2)) := (blk_cell BK274.out 2).trans rfl
         have hcz62_3 : wc.cell? ⟨gb274, 3, none⟩ = some (.int .i64 ((rd_T93 l0 a1).f3)) := (blk_cell BK274.out 3).trans rfl
         have hcz62_4 : wc.cell? ⟨gb274, 4, none⟩ = some (.string ((rd_T93 l0 a1).f4)) := (blk_cell BK274.out 4).trans rfl
         have hcz62_5 : wc.cell? ⟨gb274, 5, none⟩ = some (.slice A273_5 ((rd_T93 l0 a1).f5).length c273_5) := (blk_cell BK274.out 5).trans rfl
         have hfz62_0 := blk_frozen BK274.out 0
         have hfz62_1 := blk_frozen BK274.out 1
         have hfz62_2 := blk_frozen BK274.out 2
         have hfz62_3 := blk_frozen BK274.out 3
         have hfz62_4 := blk_frozen BK274.out 4
         have hfz62_5 := blk_frozen BK274.out 5
         go_wp2
         go_ret
         exact ⟨by first | rfl | (simp [errW_none, errW_some] <;> rfl) | (simp [*, errW_none, errW_some] <;> rfl), by repeat (first | (with_reducible first | exact HB.out | apply below_alloc | apply pw_below_drewN | apply below_drew1 | refine below_set ?_ GE272.out | refine below_set ?_ GE274.out) | exact HB.out)⟩
        ·rw [if_neg c60] at H
         have c60b0 : decide (0 < a1) = false := decide_eq_false c60
         clear c60
         obtain rfl := Option.some.inj H
         have hnb63 := NB274_272.out
         have hnc63 := NB272_274.out
         have hcz64_0 : wc.cell? ⟨gb274, 0, none⟩ = some (.int .i64 ((rd_T93 l0 a1).f0)) := (blk_cell BK274.out 0).trans rfl
         have hcz64_1 : wc.cell? ⟨gb274, 1, none⟩ = some (.int .i64 ((rd_T93 l0 a1).f1)) := (blk_cell BK274.out 1).trans rfl
         have hcz64_2 : wc.cell? ⟨gb274, 2, none⟩ = some (.int .i64 ((rd_T93 l0 a1).f2)) := (blk_cell BK274.out 2).trans rfl
         have hcz64_3 : wc.cell? ⟨gb274, 3, none⟩ = some (.int .i64 ((rd_T93 l0 a1).f3)) := (blk_cell BK274.out 3).trans rfl
         have hcz64_4 : wc.cell? ⟨gb274, 4, none⟩ = some (.string ((rd_T93 l0 a1).f4)) := (blk_cell BK274.out 4).trans rfl
         have hcz64_5 : wc.cell? ⟨gb274, 5, none⟩ = some (.slice A273_5 ((rd_T93 l0 a1).f5).length c273_5) := (blk_cell BK274.out 5).trans rfl
         have hfz64_0 := blk_frozen BK274.out 0
         have hfz64_1 := blk_frozen BK274.out 1
         have hfz64_2 := blk_frozen BK274.out 2
         have hfz64_3 := blk_frozen BK274.out 3
         have hfz64_4 := blk_frozen BK274.out 4
         have hfz64_5 := blk_frozen BK274.out 5
         go_wp2
         go_ret
         exact ⟨by first | rfl | (simp [errW_none, errW_some] <;> rfl) | (simp [*, errW_none, errW_some] <;> rfl), by repeat (first | (with_reducible first | exact HB.out | apply below_alloc | apply pw_below_drewN | apply below_drew1 | refine below_set ?_ GE272.out | refine below_set ?_ GE274.out) | exact HB.out)⟩
       ·rw [if_neg c59] at H
        have c59b0 : (((rd_T93 l0 a1).f0) == 8) = false := beq_eq_false_iff_ne.mpr c59
        have c59b1 : (((rd_T93 l0 a1).f0) != 8) = true := bne_iff_ne.mpr c59
        by_cases c65 : ((rd_T93 l0 a1).f0) = 5
        ·rw [if_pos c65] at H
         have c65b0 : (((rd_T93 l0 a1).f0) == 5) = true := beq_iff_eq.mpr c65
         have c65b1 : (((rd_T93 l0 a1).f0) != 5) = false := bne_eq_false_iff_eq.mpr c65
         clear c65
         replace H := Option.bind_eq_some_iff.mp H
         obtain ⟨t282, A660, H⟩ := H
         replace H : (if t282 = true then (some 0) else (some 3)) = some r := H
         have A66 := ak A660
         clear A660
         by_cases c67 : t282 = true
         ·subst c67
          have H1 : (some 0) = some r := by rw [if_pos rfl] at H; exact H
          clear H
          have H := H1
          clear H1
          obtain rfl := Option.some.inj H
          have hnb68 := NB274_272.out
          have hnc68 := NB272_274.out
          have hcz69_0 : wc.cell? ⟨gb274, 0, none⟩ = some (.int .i64 ((rd_T93 l0 a1).f0)) := (blk_cell BK274.out 0).trans rfl
          have hcz69_1 : wc.cell? ⟨gb274, 1, none⟩ = some (.int .i64 ((rd_T93 l0 a1).f1)) := (blk_cell BK274.out 1).trans rfl
          have hcz69_2 : wc.cell? ⟨gb274, 2, none⟩ = some (.int .i64 ((rd_T93 l0 a1).f2)) := (blk_cell BK274.out 2).trans rfl
          have hcz69_3 : wc.cell? ⟨gb274, 3, none⟩ = some (.int .i64 ((rd_T93 l0 a1).f3)) := (blk_cell BK274.out 3).trans rfl
          have hcz69_4 : wc.cell? ⟨gb274, 4, none⟩ = some (.string ((rd_T93 l0 a1).f4)) := (blk_cell BK274.out 4).trans rfl
          have hcz69_5 : wc.cell? ⟨gb274, 5, none⟩ = some (.slice A273_5 ((rd_T93 l0 a1).f5).length c273_5) := (blk_cell BK274.out 5).trans rfl
          have hfz69_0 := blk_frozen BK274.out 0
          have hfz69_1 := blk_frozen BK274.out 1
          have hfz69_2 := blk_frozen BK274.out 2
          have hfz69_3 := blk_frozen BK274.out 3
          have hfz69_4 := blk_frozen BK274.out 4
          have hfz69_5 := blk_frozen BK274.out 5
          go_wp2_with (first | ((with_reducible refine gate_callee (f := 37) rfl ?_); refine goesL_ (some 73) rfl rfl Tryd.func37 (by kernel_rfl) rfl #[.int .i64 ((rd_T93 l0 a1).f2), .int .i64 0, .int .i64 3] rfl d12_4 ?_; (with_reducible refine (impl_in.calls ((rd_T93 l0 a1).f2) 0 3 true _ A66.out).mono ?_); rintro e w' ⟨rfl, ⟨nd, rfl⟩⟩; refine ⟨_, rfl, ?_⟩))
          go_ret
          exact ⟨by first | rfl | (simp [errW_none, errW_some] <;> rfl) | (simp [*, errW_none, errW_some] <;> rfl), by repeat (first | (with_reducible first | exact HB.out | apply below_alloc | apply pw_below_drewN | apply below_drew1 | refine below_set ?_ GE272.out | refine below_set ?_ GE274.out) | exact HB.out)⟩
         ·replace c67 := Bool.eq_false_iff.mpr c67
          subst c67
          have H1 : (some 3) = some r := by rw [if_neg (show ¬ (false = true) by decide)] at H; exact H
          clear H
          have H := H1
          clear H1
          obtain rfl := Option.some.inj H
          have hnb70 := NB274_272.out
          have hnc70 := NB272_274.out
          have hcz71_0 : wc.cell? ⟨gb274, 0, none⟩ = some (.int .i64 ((rd_T93 l0 a1).f0)) := (blk_cell BK274.out 0).trans rfl
          have hcz71_1 : wc.cell? ⟨gb274, 1, none⟩ = some (.int .i64 ((rd_T93 l0 a1).f1)) := (blk_cell BK274.out 1).trans rfl
          have hcz71_2 : wc.cell? ⟨gb274, 2, none⟩ = some (.int .i64 ((rd_T93 l0 a1).f2)) := (blk_cell BK274.out 2).trans rfl
          have hcz71_3 : wc.cell? ⟨gb274, 3, none⟩ = some (.int .i64 ((rd_T93 l0 a1).f3)) := (blk_cell BK274.out 3).trans rfl
          have hcz71_4 : wc.cell? ⟨gb274, 4, none⟩ = some (.string ((rd_T93 l0 a1).f4)) := (blk_cell BK274.out 4).trans rfl
          have hcz71_5 : wc.cell? ⟨gb274, 5, none⟩ = some (.slice A273_5 ((rd_T93 l0 a1).f5).length c273_5) := (blk_cell BK274.out 5).trans rfl
          have hfz71_0 := blk_frozen BK274.out 0
          have hfz71_1 := blk_frozen BK274.out 1
          have hfz71_2 := blk_frozen BK274.out 2
          have hfz71_3 := blk_frozen BK274.out 3
          have hfz71_4 := blk_frozen BK274.out 4
          have hfz71_5 := blk_frozen BK274.out 5
          go_wp2_with (first | ((with_reducible refine gate_callee (f := 37) rfl ?_); refine goesL_ (some 73) rfl rfl Tryd.func37 (by kernel_rfl) rfl #[.int .i64 ((rd_T93 l0 a1).f2), .int .i64 0, .int .i64 3] rfl d12_4 ?_; (with_reducible refine (impl_in.calls ((rd_T93 l0 a1).f2) 0 3 false _ A66.out).mono ?_); rintro e w' ⟨rfl, ⟨nd, rfl⟩⟩; refine ⟨_, rfl, ?_⟩))
          go_ret
          exact ⟨by first | rfl | (simp [errW_none, errW_some] <;> rfl) | (simp [*, errW_none, errW_some] <;> rfl), by repeat (first | (with_reducible first | exact HB.out | apply below_alloc | apply pw_below_drewN | apply below_drew1 | refine below_set ?_ GE272.out | refine below_set ?_ GE274.out) | exact HB.out)⟩
        ·rw [if_neg c65] at H
         have c65b0 : (((rd_T93 l0 a1).f0) == 5) = false := beq_eq_false_iff_ne.mpr c65
         have c65b1 : (((rd_T93 l0 a1).f0) != 5) = true := bne_iff_ne.mpr c65
         by_cases c72 : ((rd_T93 l0 a1).f0) = 2
         ·rw [if_pos c72] at H
          have c72b0 : (((rd_T93 l0 a1).f0) == 2) = true := beq_iff_eq.mpr c72
          have c72b1 : (((rd_T93 l0 a1).f0) != 2) = false := bne_eq_false_iff_eq.mpr c72
          clear c72
          replace H := Option.bind_eq_some_iff.mp H
          obtain ⟨⟨t283, t284, t285, t286, t287, t288, t291⟩, A730, H⟩ := H
          replace H : (if ((rd_T93 l0 a1).f2) < 0 then (some 3) else (if t291 = true then ((impl_in.f ((rd_T93 l0 a1).f3) 0 (wrap64 (t285 - 1))).bind fun t293 => (if t293 = true then (some 0) else (some 3))) else (some 3))) = some r := H
          have A73 := ak A730
          clear A730
          by_cases c74 : ((rd_T93 l0 a1).f2) < 0
          ·rw [if_pos c74] at H
           have c74b0 : decide (((rd_T93 l0 a1).f2) < 0) = true := decide_eq_true c74
           clear c74
           obtain rfl := Option.some.inj H
           have hnb75 := NB274_272.out
           have hnc75 := NB272_274.out
           have hcz76_0 : wc.cell? ⟨gb274, 0, none⟩ = some (.int .i64 ((rd_T93 l0 a1).f0)) := (blk_cell BK274.out 0).trans rfl
           have hcz76_1 : wc.cell? ⟨gb274, 1, none⟩ = some (.int .i64 ((rd_T93 l0 a1).f1)) := (blk_cell BK274.out 1).trans rfl
           have hcz76_2 : wc.cell? ⟨gb274, 2, none⟩ = some (.int .i64 ((rd_T93 l0 a1).f2)) := (blk_cell BK274.out 2).trans rfl
           have hcz76_3 : wc.cell? ⟨gb274, 3, none⟩ = some (.int .i64 ((rd_T93 l0 a1).f3)) := (blk_cell BK274.out 3).trans rfl
           have hcz76_4 : wc.cell? ⟨gb274, 4, none⟩ = some (.string ((rd_T93 l0 a1).f4)) := (blk_cell BK274.out 4).trans rfl
           have hcz76_5 : wc.cell? ⟨gb274, 5, none⟩ = some (.slice A273_5 ((rd_T93 l0 a1).f5).length c273_5) := (blk_cell BK274.out 5).trans rfl
           have hfz76_0 := blk_frozen BK274.out 0
           have hfz76_1 := blk_frozen BK274.out 1
           have hfz76_2 := blk_frozen BK274.out 2
           have hfz76_3 := blk_frozen BK274.out 3
           have hfz76_4 := blk_frozen BK274.out 4
           have hfz76_5 := blk_frozen BK274.out 5
           have hcz77_0 : wc.cell? ⟨gb272, 0, none⟩ = some (.slice (some ad273) l0.length c0) := (blk_cell BK272.out 0).trans rfl
           have hfz77_0 := blk_frozen BK272.out 0
           go_wp2_with (first | ((with_reducible refine gate_callee (f := 99) rfl ?_); refine goesL_ (some 82) rfl rfl Tryd.func99 (by kernel_rfl) rfl #[.slice (some ad273) l0.length c0, .int .i64 a1, .int .i64 ((rd_T93 l0 a1).f2)] rfl d12_4 ?_; (with_reducible refine (impl_lambdaOut.calls kj4 (fun k_ => k_ < w.heap.size) _ _ l0 a1 ((rd_T93 l0 a1).f2) t283 t284 t285 t286 t287 t288 t291 _ ?side1 A73.out).mono ?_); (case side1 => exact Kd.V_mk HC0.out (Kd.F_below (Kd.C_F k93_heap HR0.out) d12_1)); rintro e w78 ⟨v289, rfl, ho0, hb⟩; refine ⟨_, rfl, ?_⟩; have n0_ := ak (Kd.V_lower (Kd.V_mono (ok' := fun k_ => k_ ≠ gb272 ∧ k_ ≠ gb274) ho0 (fun k_ hk_ => ⟨Or.elim hk_ (fun hs_ => fun e_ => Nat.not_le.2 hs_ (by rw [e_]; exact GW272.out)) (fun hn_ => (Kd.freshB (g := gb272) (o := .cells #[.slice (some ad273) l0.length c0] 54 (0, 0)) d12_2 k_ hn_)), Or.elim hk_ (fun hs_ => fun e_ => Nat.not_le.2 hs_ (by rw [e_]; exact GW274.out)) (fun hn_ => (Kd.freshB (g := gb274) (o := .cells #[.int .i64 ((rd_T93 l0 a1).f0), .int .i64 ((rd_T93 l0 a1).f1), .int .i64 ((rd_T93 l0 a1).f2), .int .i64 ((rd_T93 l0 a1).f3), .string ((rd_T93 l0 a1).f4), .slice A273_5 ((rd_T93 l0 a1).f5).length c273_5] 93 (0, 0)) d12_3 k_ hn_))⟩)) (below_size d12_1)); have n1_ := ak (blk_below (g := gb272) (o := .cells #[.slice (some ad273) l0.length c0] 54 (0, 0)) d12_2 hb); have n2_ := ak (blk_below (g := gb274) (o := .cells #[.int .i64 ((rd_T93 l0 a1).f0), .int .i64 ((rd_T93 l0 a1).f1), .int .i64 ((rd_T93 l0 a1).f2), .int .i64 ((rd_T93 l0 a1).f3), .string ((rd_T93 l0 a1).f4), .slice A273_5 ((rd_T93 l0 a1).f5).length c273_5] 93 (0, 0)) d12_3 hb); have n3_ := ak (below_step d12_1 hb); clear BK272 BK274 HB; have HO290 := n0_; have BK272 := n1_; have BK274 := n2_; have HB := n3_; clear n0_ n1_ n2_ n3_; (try clear hb); (try clear ho0)) | ((with_reducible refine gate_dst (N := 6) rfl ?_); refine box_event ?hg (N := 6) ?hd (cs := #[.int .i64 0, .int .i64 0, .int .i64 0, .int .i64 0, .string (⟨#[]⟩ : ByteArray), .slice none 0 0]) (t := 93) ?hr ?_; (case hd => rfl); (case hg => rfl); (case hr => first | (go_simp; done) | (go_simp; rfl)); intro gb292 hg w79 hbox hb; have n0_ := ak (Kd.V_below (Kd.V_elderB d12_8 gb292 (Nat.le_of_eq hg.symm)) hb); have n1_ := ak (blk_below (g := gb272) (o := .cells #[.slice (some ad273) l0.length c0] 54 (0, 0)) d12_2 hb); have n2_ := ak (blk_below (g := gb274) (o := .cells #[.int .i64 ((rd_T93 l0 a1).f0), .int .i64 ((rd_T93 l0 a1).f1), .int .i64 ((rd_T93 l0 a1).f2), .int .i64 ((rd_T93 l0 a1).f3), .string ((rd_T93 l0 a1).f4), .slice A273_5 ((rd_T93 l0 a1).f5).length c273_5] 93 (0, 0)) d12_3 hb); have n3_ := ak (below_step d12_1 hb); have n4_ := ak (hbox); have n5_ := ak ((by rw [hg]; exact (below_size d12_1) : w.heap.size ≤ gb292)); have n6_ := ak ((by rw [hg]; exact (below_size d12_1) : w.heap.size ≤ gb292)); have n7_ := ak ((by rw [hg]; exact Nat.ne_of_lt (blk_lt (g := gb272) (o := .cells #[.slice (some ad273) l0.length c0] 54 (0, 0)) d12_2) : gb272 ≠ gb292)); have n8_ := ak ((by rw [hg]; exact Nat.ne_of_gt (blk_lt (g := gb272) (o := .cells #[.slice (some ad273) l0.length c0] 54 (0, 0)) d12_2) : gb292 ≠ gb272)); have n9_ := ak ((by rw [hg]; exact Nat.ne_of_lt (blk_lt (g := gb274) (o := .cells #[.int .i64 ((rd_T93 l0 a1).f0), .int .i64 ((rd_T93 l0 a1).f1), .int .i64 ((rd_T93 l0 a1).f2), .int .i64 ((rd_T93 l0 a1).f3), .string ((rd_T93 l0 a1).f4), .slice A273_5 ((rd_T93 l0 a1).f5).length c273_5] 93 (0, 0)) d12_3) : gb274 ≠ gb292)); have n10_ := ak ((by rw [hg]; exact Nat.ne_of_gt (blk_lt (g := gb274) (o := .cells #[.int .i64 ((rd_T93 l0 a1).f0), .int .i64 ((rd_T93 l0 a1).f1), .int .i64 ((rd_T93 l0 a1).f2), .int .i64 ((rd_T93 l0 a1).f3), .string ((rd_T93 l0 a1).f4), .slice A273_5 ((rd_T93 l0 a1).f5).length c273_5] 93 (0, 0)) d12_3) : gb292 ≠ gb274)); clear HO290 BK272 BK274 HB; have HO290 := n0_; have BK272 := n1_; have BK274 := n2_; have HB := n3_; have BK292 := n4_; have GW292 := n5_; have GE292 := n6_; have NB272_292 := n7_; have NB292_272 := n8_; have NB274_292 := n9_; have NB292_274 := n10_; clear n0_ n1_ n2_ n3_ n4_ n5_ n6_ n7_ n8_ n9_ n10_ hb hbox hg; have hnb80 := NB292_272.out; have hnc80 := NB272_292.out; have hnb81 := NB292_274.out; have hnc81 := NB274_292.out; have hcz82_0 : w79.cell? ⟨gb292, 0, none⟩ = some (.int .i64 0) := (blk_cell BK292.out 0).trans rfl; have hcz82_1 : w79.cell? ⟨gb292, 1, none⟩ = some (.int .i64 0) := (blk_cell BK292.out 1).trans rfl; have hcz82_2 : w79.cell? ⟨gb292, 2, none⟩ = some (.int .i64 0) := (blk_cell BK292.out 2).trans rfl; have hcz82_3 : w79.cell? ⟨gb292, 3, none⟩ = some (.int .i64 0) := (blk_cell BK292.out 3).trans rfl; have hcz82_4 : w79.cell? ⟨gb292, 4, none⟩ = some (.string (⟨#[]⟩ : ByteArray)) := (blk_cell BK292.out 4).trans rfl; have hcz82_5 : w79.cell? ⟨gb292, 5, none⟩ = some (.slice none 0 0) := (blk_cell BK292.out 5).trans rfl; have hfz82_0 := blk_frozen BK292.out 0; have hfz82_1 := blk_frozen BK292.out 1; have hfz82_2 := blk_frozen BK292.out 2; have hfz82_3 := blk_frozen BK292.out 3; have hfz82_4 := blk_frozen BK292.out 4; have hfz82_5 := blk_frozen BK292.out 5; obtain ⟨Ao83, co83, eo83⟩ := Kd.V_slice HO290.out; subst eo83; have hcz84_0 : w79.cell? ⟨gb274, 0, none⟩ = some (.int .i64 ((rd_T93 l0 a1).f0)) := (blk_cell BK274.out 0).trans rfl; have hcz84_1 : w79.cell? ⟨gb274, 1, none⟩ = some (.int .i64 ((rd_T93 l0 a1).f1)) := (blk_cell BK274.out 1).trans rfl; have hcz84_2 : w79.cell? ⟨gb274, 2, none⟩ = some (.int .i64 ((rd_T93 l0 a1).f2)) := (blk_cell BK274.out 2).trans rfl; have hcz84_3 : w79.cell? ⟨gb274, 3, none⟩ = some (.int .i64 ((rd_T93 l0 a1).f3)) := (blk_cell BK274.out 3).trans rfl; have hcz84_4 : w79.cell? ⟨gb274, 4, none⟩ = some (.string ((rd_T93 l0 a1).f4)) := (blk_cell BK274.out 4).trans rfl; have hcz84_5 : w79.cell? ⟨gb274, 5, none⟩ = some (.slice A273_5 ((rd_T93 l0 a1).f5).length c273_5) := (blk_cell BK274.out 5).trans rfl; have hfz84_0 := blk_frozen BK274.out 0; have hfz84_1 := blk_frozen BK274.out 1; have hfz84_2 := blk_frozen BK274.out 2; have hfz84_3 := blk_frozen BK274.out 3; have hfz84_4 := blk_frozen BK274.out 4; have hfz84_5 := blk_frozen BK274.out 5))
           go_ret
           exact ⟨by first | rfl | (simp [errW_none, errW_some] <;> rfl) | (simp [*, errW_none, errW_some] <;> rfl), by repeat (first | (with_reducible first | exact HB.out | apply below_alloc | apply pw_below_drewN | apply below_drew1 | refine below_set ?_ GE272.out | refine below_set ?_ GE274.out | refine below_set ?_ GE292.out) | exact HB.out)⟩
          ·rw [if_neg c74] at H
           have c74b0 : decide (((rd_T93 l0 a1).f2) < 0) = false := decide_eq_false c74
           clear c74
           by_cases c85 : t291 = true
           ·subst c85
            have H1 : ((impl_in.f ((rd_T93 l0 a1).f3) 0 (wrap64 (t285 - 1))).bind fun t293 => (if t293 = true then (some 0) else (some 3))) = some r := by rw [if_pos rfl] at H; exact H
            clear H
            have H := H1
            clear H1
            replace H := Option.bind_eq_some_iff.mp H
            obtain ⟨t293, A860, H⟩ := H
            replace H : (if t293 = true then (some 0) else (some 3)) = some r := H
            have A86 := ak A860
            clear A860
            by_cases c87 : t293 = true
            ·subst c87
             have H1 : (some 0) = some r := by rw [if_pos rfl] at H; exact H
             clear H
             have H := H1
             clear H1
             obtain rfl := Option.some.inj H
             have hnb88 := NB274_272.out
             have hnc88 := NB272_274.out
             have hcz89_0 : wc.cell? ⟨gb274, 0, none⟩ = some (.int .i64 ((rd_T93 l0 a1).f0)) := (blk_cell BK274.out 0).trans rfl
             have hcz89_1 : wc.cell? ⟨gb274, 1, none⟩ = some (.int .i64 ((rd_T93 l0 a1).f1)) := (blk_cell BK274.out 1).trans rfl
             have hcz89_2 : wc.cell? ⟨gb274, 2, none⟩ = some (.int .i64 ((rd_T93 l0 a1).f2)) := (blk_cell BK274.out 2).trans rfl
             have hcz89_3 : wc.cell? ⟨gb274, 3, none⟩ = some (.int .i64 ((rd_T93 l0 a1).f3)) := (blk_cell BK274.out 3).trans rfl
             have hcz89_4 : wc.cell? ⟨gb274, 4, none⟩ = some (.string ((rd_T93 l0 a1).f4)) := (blk_cell BK274.out 4).trans rfl
             have hcz89_5 : wc.cell? ⟨gb274, 5, none⟩ = some (.slice A273_5 ((rd_T93 l0 a1).f5).length c273_5) := (blk_cell BK274.out 5).trans rfl
             have hfz89_0 := blk_frozen BK274.out 0
             have hfz89_1 := blk_frozen BK274.out 1
             have hfz89_2 := blk_frozen BK274.out 2
             have hfz89_3 := blk_frozen BK274.out 3
             have hfz89_4 := blk_frozen BK274.out 4
             have hfz89_5 := blk_frozen BK274.out 5
             have hcz90_0 : wc.cell? ⟨gb272, 0, none⟩ = some (.slice (some ad273) l0.length c0) := (blk_cell BK272.out 0).trans rfl
             have hfz90_0 := blk_frozen BK272.out 0
             go_wp2_with (first | ((with_reducible refine gate_callee (f := 99) rfl ?_); refine goesL_ (some 82) rfl rfl Tryd.func99 (by kernel_rfl) rfl #[.slice (some ad273) l0.length c0, .int .i64 a1, .int .i64 ((rd_T93 l0 a1).f2)] rfl d12_4 ?_; (with_reducible refine (impl_lambdaOut.calls kj4 (fun k_ => k_ < w.heap.size) _ _ l0 a1 ((rd_T93 l0 a1).f2) t283 t284 t285 t286 t287 t288 true _ ?side1 A73.out).mono ?_); (case side1 => exact Kd.V_mk HC0.out (Kd.F_below (Kd.C_F k93_heap HR0.out) d12_1)); rintro e w91 ⟨v289, rfl, ho0, hb⟩; refine ⟨_, rfl, ?_⟩; have n0_ := ak (Kd.V_lower (Kd.V_mono (ok' := fun k_ => k_ ≠ gb272 ∧ k_ ≠ gb274) ho0 (fun k_ hk_ => ⟨Or.elim hk_ (fun hs_ => fun e_ => Nat.not_le.2 hs_ (by rw [e_]; exact GW272.out)) (fun hn_ => (Kd.freshB (g := gb272) (o := .cells #[.slice (some ad273) l0.length c0] 54 (0, 0)) d12_2 k_ hn_)), Or.elim hk_ (fun hs_ => fun e_ => Nat.not_le.2 hs_ (by rw [e_]; exact GW274.out)) (fun hn_ => (Kd.freshB (g := gb274) (o := .cells #[.int .i64 ((rd_T93 l0 a1).f0), .int .i64 ((rd_T93 l0 a1).f1), .int .i64 ((rd_T93 l0 a1).f2), .int .i64 ((rd_T93 l0 a1).f3), .string ((rd_T93 l0 a1).f4), .slice A273_5 ((rd_T93 l0 a1).f5).length c273_5] 93 (0, 0)) d12_3 k_ hn_))⟩)) (below_size d12_1)); have n1_ := ak (blk_below (g := gb272) (o := .cells #[.slice (some ad273) l0.length c0] 54 (0, 0)) d12_2 hb); have n2_ := ak (blk_below (g := gb274) (o := .cells #[.int .i64 ((rd_T93 l0 a1).f0), .int .i64 ((rd_T93 l0 a1).f1), .int .i64 ((rd_T93 l0 a1).f2), .int .i64 ((rd_T93 l0 a1).f3), .string ((rd_T93 l0 a1).f4), .slice A273_5 ((rd_T93 l0 a1).f5).length c273_5] 93 (0, 0)) d12_3 hb); have n3_ := ak (below_step d12_1 hb); clear BK272 BK274 HB; have HO290 := n0_; have BK272 := n1_; have BK274 := n2_; have HB := n3_; clear n0_ n1_ n2_ n3_; (try clear hb); (try clear ho0)) | ((with_reducible refine gate_dst (N := 6) rfl ?_); refine box_event ?hg (N := 6) ?hd (cs := #[.int .i64 0, .int .i64 0, .int .i64 0, .int .i64 0, .string (⟨#[]⟩ : ByteArray), .slice none 0 0]) (t := 93) ?hr ?_; (case hd => rfl); (case hg => rfl); (case hr => first | (go_simp; done) | (go_simp; rfl)); intro gb292 hg w92 hbox hb; have n0_ := ak (Kd.V_below (Kd.V_elderB d12_8 gb292 (Nat.le_of_eq hg.symm)) hb); have n1_ := ak (blk_below (g := gb272) (o := .cells #[.slice (some ad273) l0.length c0] 54 (0, 0)) d12_2 hb); have n2_ := ak (blk_below (g := gb274) (o := .cells #[.int .i64 ((rd_T93 l0 a1).f0), .int .i64 ((rd_T93 l0 a1).f1), .int .i64 ((rd_T93 l0 a1).f2), .int .i64 ((rd_T93 l0 a1).f3), .string ((rd_T93 l0 a1).f4), .slice A273_5 ((rd_T93 l0 a1).f5).length c273_5] 93 (0, 0)) d12_3 hb); have n3_ := ak (below_step d12_1 hb); have n4_ := ak (hbox); have n5_ := ak ((by rw [hg]; exact (below_size d12_1) : w.heap.size ≤ gb292)); have n6_ := ak ((by rw [hg]; exact (below_size d12_1) : w.heap.size ≤ gb292)); have n7_ := ak ((by rw [hg]; exact Nat.ne_of_lt (blk_lt (g := gb272) (o := .cells #[.slice (some ad273) l0.length c0] 54 (0, 0)) d12_2) : gb272 ≠ gb292)); have n8_ := ak ((by rw [hg]; exact Nat.ne_of_gt (blk_lt (g := gb272) (o := .cells #[.slice (some ad273) l0.length c0] 54 (0, 0)) d12_2) : gb292 ≠ gb272)); have n9_ := ak ((by rw [hg]; exact Nat.ne_of_lt (blk_lt (g := gb274) (o := .cells #[.int .i64 ((rd_T93 l0 a1).f0), .int .i64 ((rd_T93 l0 a1).f1), .int .i64 ((rd_T93 l0 a1).f2), .int .i64 ((rd_T93 l0 a1).f3), .string ((rd_T93 l0 a1).f4), .slice A273_5 ((rd_T93 l0 a1).f5).length c273_5] 93 (0, 0)) d12_3) : gb274 ≠ gb292)); have n10_ := ak ((by rw [hg]; exact Nat.ne_of_gt (blk_lt (g := gb274) (o := .cells #[.int .i64 ((rd_T93 l0 a1).f0), .int .i64 ((rd_T93 l0 a1).f1), .int .i64 ((rd_T93 l0 a1).f2), .int .i64 ((rd_T93 l0 a1).f3), .string ((rd_T93 l0 a1).f4), .slice A273_5 ((rd_T93 l0 a1).f5).length c273_5] 93 (0, 0)) d12_3) : gb292 ≠ gb274)); clear HO290 BK272 BK274 HB; have HO290 := n0_; have BK272 := n1_; have BK274 := n2_; have HB := n3_; have BK292 := n4_; have GW292 := n5_; have GE292 := n6_; have NB272_292 := n7_; have NB292_272 := n8_; have NB274_292 := n9_; have NB292_274 := n10_; clear n0_ n1_ n2_ n3_ n4_ n5_ n6_ n7_ n8_ n9_ n10_ hb hbox hg; have hnb93 := NB292_272.out; have hnc93 := NB272_292.out; have hnb94 := NB292_274.out; have hnc94 := NB274_292.out; have hcz95_0 : w92.cell? ⟨gb292, 0, none⟩ = some (.int .i64 0) := (blk_cell BK292.out 0).trans rfl; have hcz95_1 : w92.cell? ⟨gb292, 1, none⟩ = some (.int .i64 0) := (blk_cell BK292.out 1).trans rfl; have hcz95_2 : w92.cell? ⟨gb292, 2, none⟩ = some (.int .i64 0) := (blk_cell BK292.out 2).trans rfl; have hcz95_3 : w92.cell? ⟨gb292, 3, none⟩ = some (.int .i64 0) := (blk_cell BK292.out 3).trans rfl; have hcz95_4 : w92.cell? ⟨gb292, 4, none⟩ = some (.string (⟨#[]⟩ : ByteArray)) := (blk_cell BK292.out 4).trans rfl; have hcz95_5 : w92.cell? ⟨gb292, 5, none⟩ = some (.slice none 0 0) := (blk_cell BK292.out 5).trans rfl; have hfz95_0 := blk_frozen BK292.out 0; have hfz95_1 := blk_frozen BK292.out 1; have hfz95_2 := blk_frozen BK292.out 2; have hfz95_3 := blk_frozen BK292.out 3; have hfz95_4 := blk_frozen BK292.out 4; have hfz95_5 := blk_frozen BK292.out 5; obtain ⟨Ao96, co96, eo96⟩ := Kd.V_slice HO290.out; subst eo96; have hcz97_0 : w92.cell? ⟨gb274, 0, none⟩ = some (.int .i64 ((rd_T93 l0 a1).f0)) := (blk_cell BK274.out 0).trans rfl; have hcz97_1 : w92.cell? ⟨gb274, 1, none⟩ = some (.int .i64 ((rd_T93 l0 a1).f1)) := (blk_cell BK274.out 1).trans rfl; have hcz97_2 : w92.cell? ⟨gb274, 2, none⟩ = some (.int .i64 ((rd_T93 l0 a1).f2)) := (blk_cell BK274.out 2).trans rfl; have hcz97_3 : w92.cell? ⟨gb274, 3, none⟩ = some (.int .i64 ((rd_T93 l0 a1).f3)) := (blk_cell BK274.out 3).trans rfl; have hcz97_4 : w92.cell? ⟨gb274, 4, none⟩ = some (.string ((rd_T93 l0 a1).f4)) := (blk_cell BK274.out 4).trans rfl; have hcz97_5 : w92.cell? ⟨gb274, 5, none⟩ = some (.slice A273_5 ((rd_T93 l0 a1).f5).length c273_5) := (blk_cell BK274.out 5).trans rfl; have hfz97_0 := blk_frozen BK274.out 0; have hfz97_1 := blk_frozen BK274.out 1; have hfz97_2 := blk_frozen BK274.out 2; have hfz97_3 := blk_frozen BK274.out 3; have hfz97_4 := blk_frozen BK274.out 4; have hfz97_5 := blk_frozen BK274.out 5) | (go_at_call 37; (with_reducible refine (impl_in.calls ((rd_T93 l0 a1).f3) 0 (wrap64 (t285 - 1)) true _ A86.out).mono ?_); rintro e w' ⟨rfl, ⟨nd, rfl⟩⟩))
             go_ret
             exact ⟨by first | rfl | (simp [errW_none, errW_some] <;> rfl) | (simp [*, errW_none, errW_some] <;> rfl), by repeat (first | (with_reducible first | exact HB.out | apply below_alloc | apply pw_below_drewN | apply below_drew1 | refine below_set ?_ GE272.out | refine below_set ?_ GE274.out | refine below_set ?_ GE292.out) | exact HB.out)⟩
            ·replace c87 := Bool.eq_false_iff.mpr c87
             subst c87
             have H1 : (some 3) = some r := by rw [if_neg (show ¬ (false = true) by decide)] at H; exact H
             clear H
             have H := H1
             clear H1
             obtain rfl := Option.some.inj H
             have hnb98 := NB274_272.out
             have hnc98 := NB272_274.out
             have hcz99_0 : wc.cell? ⟨gb274, 0, none⟩ = some (.int .i64 ((rd_T93 l0 a1).f0)) := (blk_cell BK274.out 0).trans rfl
             have hcz99_1 : wc.cell? ⟨gb274, 1, none⟩ = some (.int .i64 ((rd_T93 l0 a1).f1)) := (blk_cell BK274.out 1).trans rfl
             have hcz99_2 : wc.cell? ⟨gb274, 2, none⟩ = some (.int .i64 ((rd_T93 l0 a1).f2)) := (blk_cell BK274.out 2).trans rfl
             have hcz99_3 : wc.cell? ⟨gb274, 3, none⟩ = some (.int .i64 ((rd_T93 l0 a1).f3)) := (blk_cell BK274.out 3).trans rfl
             have hcz99_4 : wc.cell? ⟨gb274, 4, none⟩ = some (.string ((rd_T93 l0 a1).f4)) := (blk_cell BK274.out 4).trans rfl
             have hcz99_5 : wc.cell? ⟨gb274, 5, none⟩ = some (.slice A273_5 ((rd_T93 l0 a1).f5).length c273_5) := (blk_cell BK274.out 5).trans rfl
             have hfz99_0 := blk_frozen BK274.out 0
             have hfz99_1 := blk_frozen BK274.out 1
             have hfz99_2 := blk_frozen BK274.out 2
             have hfz99_3 := blk_frozen BK274.out 3
             have hfz99_4 := blk_frozen BK274.out 4
             have hfz99_5 := blk_frozen BK274.out 5
             have hcz100_0 : wc.cell? ⟨gb272, 0, none⟩ = some (.slice (some ad273) l0.length c0) := (blk_cell BK272.out 0).trans rfl
             have hfz100_0 := blk_frozen BK272.out 0
             go_wp2_with (first | ((with_reducible refine gate_callee (f := 99) rfl ?_); refine goesL_ (some 82) rfl rfl Tryd.func99 (by kernel_rfl) rfl #[.slice (some ad273) l0.length c0, .int .i64 a1, .int .i64 ((rd_T93 l0 a1).f2)] rfl d12_4 ?_; (with_reducible refine (impl_lambdaOut.calls kj4 (fun k_ => k_ < w.heap.size) _ _ l0 a1 ((rd_T93 l0 a1).f2) t283 t284 t285 t286 t287 t288 true _ ?side1 A73.out).mono ?_); (case side1 => exact Kd.V_mk HC0.out (Kd.F_below (Kd.C_F k93_heap HR0.out) d12_1)); rintro e w101 ⟨v289, rfl, ho0, hb⟩; refine ⟨_, rfl, ?_⟩; have n0_ := ak (Kd.V_lower (Kd.V_mono (ok' := fun k_ => k_ ≠ gb272 ∧ k_ ≠ gb274) ho0 (fun k_ hk_ => ⟨Or.elim hk_ (fun hs_ => fun e_ => Nat.not_le.2 hs_ (by rw [e_]; exact GW272.out)) (fun hn_ => (Kd.freshB (g := gb272) (o := .cells #[.slice (some ad273) l0.length c0] 54 (0, 0)) d12_2 k_ hn_)), Or.elim hk_ (fun hs_ => fun e_ => Nat.not_le.2 hs_ (by rw [e_]; exact GW274.out)) (fun hn_ => (Kd.freshB (g := gb274) (o := .cells #[.int .i64 ((rd_T93 l0 a1).f0), .int .i64 ((rd_T93 l0 a1).f1), .int .i64 ((rd_T93 l0 a1).f2), .int .i64 ((rd_T93 l0 a1).f3), .string ((rd_T93 l0 a1).f4), .slice A273_5 ((rd_T93 l0 a1).f5).length c273_5] 93 (0, 0)) d12_3 k_ hn_))⟩)) (below_size d12_1)); have n1_ := ak (blk_below (g := gb272) (o := .cells #[.slice (some ad273) l0.length c0] 54 (0, 0)) d12_2 hb); have n2_ := ak (blk_below (g := gb274) (o := .cells #[.int .i64 ((rd_T93 l0 a1).f0), .int .i64 ((rd_T93 l0 a1).f1), .int .i64 ((rd_T93 l0 a1).f2), .int .i64 ((rd_T93 l0 a1).f3), .string ((rd_T93 l0 a1).f4), .slice A273_5 ((rd_T93 l0 a1).f5).length c273_5] 93 (0, 0)) d12_3 hb); have n3_ := ak (below_step d12_1 hb); clear BK272 BK274 HB; have HO290 := n0_; have BK272 := n1_; have BK274 := n2_; have HB := n3_; clear n0_ n1_ n2_ n3_; (try clear hb); (try clear ho0)) | ((with_reducible refine gate_dst (N := 6) rfl ?_); refine box_event ?hg (N := 6) ?hd (cs := #[.int .i64 0, .int .i64 0, .int .i64 0, .int .i64 0, .string (⟨#[]⟩ : ByteArray), .slice none 0 0]) (t := 93) ?hr ?_; (case hd => rfl); (case hg => rfl); (case hr => first | (go_simp; done) | (go_simp; rfl)); intro gb292 hg w102 hbox hb; have n0_ := ak (Kd.V_below (Kd.V_elderB d12_8 gb292 (Nat.le_of_eq hg.symm)) hb); have n1_ := ak (blk_below (g := gb272) (o := .cells #[.slice (some ad273) l0.length c0] 54 (0, 0)) d12_2 hb); have n2_ := ak (blk_below (g := gb274) (o := .cells #[.int .i64 ((rd_T93 l0 a1).f0), .int .i64 ((rd_T93 l0 a1).f1), .int .i64 ((rd_T93 l0 a1).f2), .int .i64 ((rd_T93 l0 a1).f3), .string ((rd_T93 l0 a1).f4), .slice A273_5 ((rd_T93 l0 a1).f5).length c273_5] 93 (0, 0)) d12_3 hb); have n3_ := ak (below_step d12_1 hb); have n4_ := ak (hbox); have n5_ := ak ((by rw [hg]; exact (below_size d12_1) : w.heap.size ≤ gb292)); have n6_ := ak ((by rw [hg]; exact (below_size d12_1) : w.heap.size ≤ gb292)); have n7_ := ak ((by rw [hg]; exact Nat.ne_of_lt (blk_lt (g := gb272) (o := .cells #[.slice (some ad273) l0.length c0] 54 (0, 0)) d12_2) : gb272 ≠ gb292)); have n8_ := ak ((by rw [hg]; exact Nat.ne_of_gt (blk_lt (g := gb272) (o := .cells #[.slice (some ad273) l0.length c0] 54 (0, 0)) d12_2) : gb292 ≠ gb272)); have n9_ := ak ((by rw [hg]; exact Nat.ne_of_lt (blk_lt (g := gb274) (o := .cells #[.int .i64 ((rd_T93 l0 a1).f0), .int .i64 ((rd_T93 l0 a1).f1), .int .i64 ((rd_T93 l0 a1).f2), .int .i64 ((rd_T93 l0 a1).f3), .string ((rd_T93 l0 a1).f4), .slice A273_5 ((rd_T93 l0 a1).f5).length c273_5] 93 (0, 0)) d12_3) : gb274 ≠ gb292)); have n10_ := ak ((by rw [hg]; exact Nat.ne_of_gt (blk_lt (g := gb274) (o := .cells #[.int .i64 ((rd_T93 l0 a1).f0), .int .i64 ((rd_T93 l0 a1).f1), .int .i64 ((rd_T93 l0 a1).f2), .int .i64 ((rd_T93 l0 a1).f3), .string ((rd_T93 l0 a1).f4), .slice A273_5 ((rd_T93 l0 a1).f5).length c273_5] 93 (0, 0)) d12_3) : gb292 ≠ gb274)); clear HO290 BK272 BK274 HB; have HO290 := n0_; have BK272 := n1_; have BK274 := n2_; have HB := n3_; have BK292 := n4_; have GW292 := n5_; have GE292 := n6_; have NB272_292 := n7_; have NB292_272 := n8_; have NB274_292 := n9_; have NB292_274 := n10_; clear n0_ n1_ n2_ n3_ n4_ n5_ n6_ n7_ n8_ n9_ n10_ hb hbox hg; have hnb103 := NB292_272.out; have hnc103 := NB272_292.out; have hnb104 := NB292_274.out; have hnc104 := NB274_292.out; have hcz105_0 : w102.cell? ⟨gb292, 0, none⟩ = some (.int .i64 0) := (blk_cell BK292.out 0).trans rfl; have hcz105_1 : w102.cell? ⟨gb292, 1, none⟩ = some (.int .i64 0) := (blk_cell BK292.out 1).trans rfl; have hcz105_2 : w102.cell? ⟨gb292, 2, none⟩ = some (.int .i64 0) := (blk_cell BK292.out 2).trans rfl; have hcz105_3 : w102.cell? ⟨gb292, 3, none⟩ = some (.int .i64 0) := (blk_cell BK292.out 3).trans rfl; have hcz105_4 : w102.cell? ⟨gb292, 4, none⟩ = some (.string (⟨#[]⟩ : ByteArray)) := (blk_cell BK292.out 4).trans rfl; have hcz105_5 : w102.cell? ⟨gb292, 5, none⟩ = some (.slice none 0 0) := (blk_cell BK292.out 5).trans rfl; have hfz105_0 := blk_frozen BK292.out 0; have hfz105_1 := blk_frozen BK292.out 1; have hfz105_2 := blk_frozen BK292.out 2; have hfz105_3 := blk_frozen BK292.out 3; have hfz105_4 := blk_frozen BK292.out 4; have hfz105_5 := blk_frozen BK292.out 5; obtain ⟨Ao106, co106, eo106⟩ := Kd.V_slice HO290.out; subst eo106; have hcz107_0 : w102.cell? ⟨gb274, 0, none⟩ = some (.int .i64 ((rd_T93 l0 a1).f0)) := (blk_cell BK274.out 0).trans rfl; have hcz107_1 : w102.cell? ⟨gb274, 1, none⟩ = some (.int .i64 ((rd_T93 l0 a1).f1)) := (blk_cell BK274.out 1).trans rfl; have hcz107_2 : w102.cell? ⟨gb274, 2, none⟩ = some (.int .i64 ((rd_T93 l0 a1).f2)) := (blk_cell BK274.out 2).trans rfl; have hcz107_3 : w102.cell? ⟨gb274, 3, none⟩ = some (.int .i64 ((rd_T93 l0 a1).f3)) := (blk_cell BK274.out 3).trans rfl; have hcz107_4 : w102.cell? ⟨gb274, 4, none⟩ = some (.string ((rd_T93 l0 a1).f4)) := (blk_cell BK274.out 4).trans rfl; have hcz107_5 : w102.cell? ⟨gb274, 5, none⟩ = some (.slice A273_5 ((rd_T93 l0 a1).f5).length c273_5) := (blk_cell BK274.out 5).trans rfl; have hfz107_0 := blk_frozen BK274.out 0; have hfz107_1 := blk_frozen BK274.out 1; have hfz107_2 := blk_frozen BK274.out 2; have hfz107_3 := blk_frozen BK274.out 3; have hfz107_4 := blk_frozen BK274.out 4; have hfz107_5 := blk_frozen BK274.out 5) | (go_at_call 37; (with_reducible refine (impl_in.calls ((rd_T93 l0 a1).f3) 0 (wrap64 (t285 - 1)) false _ A86.out).mono ?_); rintro e w' ⟨rfl, ⟨nd, rfl⟩⟩))
             go_ret
             exact ⟨by first | rfl | (simp [errW_none, errW_some] <;> rfl) | (simp [*, errW_none, errW_some] <;> rfl), by repeat (first | (with_reducible first | exact HB.out | apply below_alloc | apply pw_below_drewN | apply below_drew1 | refine below_set ?_ GE272.out | refine below_set ?_ GE274.out | refine below_set ?_ GE292.out) | exact HB.out)⟩
           ·replace c85 := Bool.eq_false_iff.mpr c85
            subst c85
            have H1 : (some 3) = some r := by rw [if_neg (show ¬ (false = true) by decide)] at H; exact H
            clear H
            have H := H1
            clear H1
            obtain rfl := Option.some.inj H
            have hnb108 := NB274_272.out
            have hnc108 := NB272_274.out
            have hcz109_0 : wc.cell? ⟨gb274, 0, none⟩ = some (.int .i64 ((rd_T93 l0 a1).f0)) := (blk_cell BK274.out 0).trans rfl
            have hcz109_1 : wc.cell? ⟨gb274, 1, none⟩ = some (.int .i64 ((rd_T93 l0 a1).f1)) := (blk_cell BK274.out 1).trans rfl
            have hcz109_2 : wc.cell? ⟨gb274, 2, none⟩ = some (.int .i64 ((rd_T93 l0 a1).f2)) := (blk_cell BK274.out 2).trans rfl
            have hcz109_3 : wc.cell? ⟨gb274, 3, none⟩ = some (.int .i64 ((rd_T93 l0 a1).f3)) := (blk_cell BK274.out 3).trans rfl
            have hcz109_4 : wc.cell? ⟨gb274, 4, none⟩ = some (.string ((rd_T93 l0 a1).f4)) := (blk_cell BK274.out 4).trans rfl
            have hcz109_5 : wc.cell? ⟨gb274, 5, none⟩ = some (.slice A273_5 ((rd_T93 l0 a1).f5).length c273_5) := (blk_cell BK274.out 5).trans rfl
            have hfz109_0 := blk_frozen BK274.out 0
            have hfz109_1 := blk_frozen BK274.out 1
            have hfz109_2 := blk_frozen BK274.out 2
            have hfz109_3 := blk_frozen BK274.out 3
            have hfz109_4 := blk_frozen BK274.out 4
            have hfz109_5 := blk_frozen BK274.out 5
            have hcz110_0 : wc.cell? ⟨gb272, 0, none⟩ = some (.slice (some ad273) l0.length c0) := (blk_cell BK272.out 0).trans rfl
            have hfz110_0 := blk_frozen BK272.out 0
            go_wp2_with (first | ((with_reducible refine gate_callee (f := 99) rfl ?_); refine goesL_ (some 82) rfl rfl Tryd.func99 (by kernel_rfl) rfl #[.slice (some ad273) l0.length c0, .int .i64 a1, .int .i64 ((rd_T93 l0 a1).f2)] rfl d12_4 ?_; (with_reducible refine (impl_lambdaOut.calls kj4 (fun k_ => k_ < w.heap.size) _ _ l0 a1 ((rd_T93 l0 a1).f2) t283 t284 t285 t286 t287 t288 false _ ?side1 A73.out).mono ?_); (case side1 => exact Kd.V_mk HC0.out (Kd.F_below (Kd.C_F k93_heap HR0.out) d12_1)); rintro e w111 ⟨v289, rfl, ho0, hb⟩; refine ⟨_, rfl, ?_⟩; have n0_ := ak (Kd.V_lower (Kd.V_mono (ok' := fun k_ => k_ ≠ gb272 ∧ k_ ≠ gb274) ho0 (fun k_ hk_ => ⟨Or.elim hk_ (fun hs_ => fun e_ => Nat.not_le.2 hs_ (by rw [e_]; exact GW272.out)) (fun hn_ => (Kd.freshB (g := gb272) (o := .cells #[.slice (some ad273) l0.length c0] 54 (0, 0)) d12_2 k_ hn_)), Or.elim hk_ (fun hs_ => fun e_ => Nat.not_le.2 hs_ (by rw [e_]; exact GW274.out)) (fun hn_ => (Kd.freshB (g := gb274) (o := .cells #[.int .i64 ((rd_T93 l0 a1).f0), .int .i64 ((rd_T93 l0 a1).f1), .int .i64 ((rd_T93 l0 a1).f2), .int .i64 ((rd_T93 l0 a1).f3), .string ((rd_T93 l0 a1).f4), .slice A273_5 ((rd_T93 l0 a1).f5).length c273_5] 93 (0, 0)) d12_3 k_ hn_))⟩)) (below_size d12_1)); have n1_ := ak (blk_below (g := gb272) (o := .cells #[.slice (some ad273) l0.length c0] 54 (0, 0)) d12_2 hb); have n2_ := ak (blk_below (g := gb274) (o := .cells #[.int .i64 ((rd_T93 l0 a1).f0), .int .i64 ((rd_T93 l0 a1).f1), .int .i64 ((rd_T93 l0 a1).f2), .int .i64 ((rd_T93 l0 a1).f3), .string ((rd_T93 l0 a1).f4), .slice A273_5 ((rd_T93 l0 a1).f5).length c273_5] 93 (0, 0)) d12_3 hb); have n3_ := ak (below_step d12_1 hb); clear BK272 BK274 HB; have HO290 := n0_; have BK272 := n1_; have BK274 := n2_; have HB := n3_; clear n0_ n1_ n2_ n3_; (try clear hb); (try clear ho0)) | ((with_reducible refine gate_dst (N := 6) rfl ?_); refine box_event ?hg (N := 6) ?hd (cs := #[.int .i64 0, .int .i64 0, .int .i64 0, .int .i64 0, .string (⟨#[]⟩ : ByteArray), .slice none 0 0]) (t := 93) ?hr ?_; (case hd => rfl); (case hg => rfl); (case hr => first | (go_simp; done) | (go_simp; rfl)); intro gb292 hg w112 hbox hb; have n0_ := ak (Kd.V_below (Kd.V_elderB d12_8 gb292 (Nat.le_of_eq hg.symm)) hb); have n1_ := ak (blk_below (g := gb272) (o := .cells #[.slice (some ad273) l0.length c0] 54 (0, 0)) d12_2 hb); have n2_ := ak (blk_below (g := gb274) (o := .cells #[.int .i64 ((rd_T93 l0 a1).f0), .int .i64 ((rd_T93 l0 a1).f1), .int .i64 ((rd_T93 l0 a1).f2), .int .i64 ((rd_T93 l0 a1).f3), .string ((rd_T93 l0 a1).f4), .slice A273_5 ((rd_T93 l0 a1).f5).length c273_5] 93 (0, 0)) d12_3 hb); have n3_ := ak (below_step d12_1 hb); have n4_ := ak (hbox); have n5_ := ak ((by rw [hg]; exact (below_size d12_1) : w.heap.size ≤ gb292)); have n6_ := ak ((by rw [hg]; exact (below_size d12_1) : w.heap.size ≤ gb292)); have n7_ := ak ((by rw [hg]; exact Nat.ne_of_lt (blk_lt (g := gb272) (o := .cells #[.slice (some ad273) l0.length c0] 54 (0, 0)) d12_2) : gb272 ≠ gb292)); have n8_ := ak ((by rw [hg]; exact Nat.ne_of_gt (blk_lt (g := gb272) (o := .cells #[.slice (some ad273) l0.length c0] 54 (0, 0)) d12_2) : gb292 ≠ gb272)); have n9_ := ak ((by rw [hg]; exact Nat.ne_of_lt (blk_lt (g := gb274) (o := .cells #[.int .i64 ((rd_T93 l0 a1).f0), .int .i64 ((rd_T93 l0 a1).f1), .int .i64 ((rd_T93 l0 a1).f2), .int .i64 ((rd_T93 l0 a1).f3), .string ((rd_T93 l0 a1).f4), .slice A273_5 ((rd_T93 l0 a1).f5).length c273_5] 93 (0, 0)) d12_3) : gb274 ≠ gb292)); have n10_ := ak ((by rw [hg]; exact Nat.ne_of_gt (blk_lt (g := gb274) (o := .cells #[.int .i64 ((rd_T93 l0 a1).f0), .int .i64 ((rd_T93 l0 a1).f1), .int .i64 ((rd_T93 l0 a1).f2), .int .i64 ((rd_T93 l0 a1).f3), .string ((rd_T93 l0 a1).f4), .slice A273_5 ((rd_T93 l0 a1).f5).length c273_5] 93 (0, 0)) d12_3) : gb292 ≠ gb274)); clear HO290 BK272 BK274 HB; have HO290 := n0_; have BK272 := n1_; have BK274 := n2_; have HB := n3_; have BK292 := n4_; have GW292 := n5_; have GE292 := n6_; have NB272_292 := n7_; have NB292_272 := n8_; have NB274_292 := n9_; have NB292_274 := n10_; clear n0_ n1_ n2_ n3_ n4_ n5_ n6_ n7_ n8_ n9_ n10_ hb hbox hg; have hnb113 := NB292_272.out; have hnc113 := NB272_292.out; have hnb114 := NB292_274.out; have hnc114 := NB274_292.out; have hcz115_0 : w112.cell? ⟨gb292, 0, none⟩ = some (.int .i64 0) := (blk_cell BK292.out 0).trans rfl; have hcz115_1 : w112.cell? ⟨gb292, 1, none⟩ = some (.int .i64 0) := (blk_cell BK292.out 1).trans rfl; have hcz115_2 : w112.cell? ⟨gb292, 2, none⟩ = some (.int .i64 0) := (blk_cell BK292.out 2).trans rfl; have hcz115_3 : w112.cell? ⟨gb292, 3, none⟩ = some (.int .i64 0) := (blk_cell BK292.out 3).trans rfl; have hcz115_4 : w112.cell? ⟨gb292, 4, none⟩ = some (.string (⟨#[]⟩ : ByteArray)) := (blk_cell BK292.out 4).trans rfl; have hcz115_5 : w112.cell? ⟨gb292, 5, none⟩ = some (.slice none 0 0) := (blk_cell BK292.out 5).trans rfl; have hfz115_0 := blk_frozen BK292.out 0; have hfz115_1 := blk_frozen BK292.out 1; have hfz115_2 := blk_frozen BK292.out 2; have hfz115_3 := blk_frozen BK292.out 3; have hfz115_4 := blk_frozen BK292.out 4; have hfz115_5 := blk_frozen BK292.out 5; obtain ⟨Ao116, co116, eo116⟩ := Kd.V_slice HO290.out; subst eo116; have hcz117_0 : w112.cell? ⟨gb274, 0, none⟩ = some (.int .i64 ((rd_T93 l0 a1).f0)) := (blk_cell BK274.out 0).trans rfl; have hcz117_1 : w112.cell? ⟨gb274, 1, none⟩ = some (.int .i64 ((rd_T93 l0 a1).f1)) := (blk_cell BK274.out 1).trans rfl; have hcz117_2 : w112.cell? ⟨gb274, 2, none⟩ = some (.int .i64 ((rd_T93 l0 a1).f2)) := (blk_cell BK274.out 2).trans rfl; have hcz117_3 : w112.cell? ⟨gb274, 3, none⟩ = some (.int .i64 ((rd_T93 l0 a1).f3)) := (blk_cell BK274.out 3).trans rfl; have hcz117_4 : w112.cell? ⟨gb274, 4, none⟩ = some (.string ((rd_T93 l0 a1).f4)) := (blk_cell BK274.out 4).trans rfl; have hcz117_5 : w112.cell? ⟨gb274, 5, none⟩ = some (.slice A273_5 ((rd_T93 l0 a1).f5).length c273_5) := (blk_cell BK274.out 5).trans rfl; have hfz117_0 := blk_frozen BK274.out 0; have hfz117_1 := blk_frozen BK274.out 1; have hfz117_2 := blk_frozen BK274.out 2; have hfz117_3 := blk_frozen BK274.out 3; have hfz117_4 := blk_frozen BK274.out 4; have hfz117_5 := blk_frozen BK274.out 5))
            go_ret
            exact ⟨by first | rfl | (simp [errW_none, errW_some] <;> rfl) | (simp [*, errW_none, errW_some] <;> rfl), by repeat (first | (with_reducible first | exact HB.out | apply below_alloc | apply pw_below_drewN | apply below_drew1 | refine below_set ?_ GE272.out | refine below_set ?_ GE274.out | refine below_set ?_ GE292.out) | exact HB.out)⟩
         ·rw [if_neg c72] at H
          have c72b0 : (((rd_T93 l0 a1).f0) == 2) = false := beq_eq_false_iff_ne.mpr c72
          have c72b1 : (((rd_T93 l0 a1).f0) != 2) = true := bne_iff_ne.mpr c72
          obtain rfl := Option.some.inj H
          have hnb118 := NB274_272.out
          have hnc118 := NB272_274.out
          have hcz119_0 : wc.cell? ⟨gb274, 0, none⟩ = some (.int .i64 ((rd_T93 l0 a1).f0)) := (blk_cell BK274.out 0).trans rfl
          have hcz119_1 : wc.cell? ⟨gb274, 1, none⟩ = some (.int .i64 ((rd_T93 l0 a1).f1)) := (blk_cell BK274.out 1).trans rfl
          have hcz119_2 : wc.cell? ⟨gb274, 2, none⟩ = some (.int .i64 ((rd_T93 l0 a1).f2)) := (blk_cell BK274.out 2).trans rfl
          have hcz119_3 : wc.cell? ⟨gb274, 3, none⟩ = some (.int .i64 ((rd_T93 l0 a1).f3)) := (blk_cell BK274.out 3).trans rfl
          have hcz119_4 : wc.cell? ⟨gb274, 4, none⟩ = some (.string ((rd_T93 l0 a1).f4)) := (blk_cell BK274.out 4).trans rfl
          have hcz119_5 : wc.cell? ⟨gb274, 5, none⟩ = some (.slice A273_5 ((rd_T93 l0 a1).f5).length c273_5) := (blk_cell BK274.out 5).trans rfl
          have hfz119_0 := blk_frozen BK274.out 0
          have hfz119_1 := blk_frozen BK274.out 1
          have hfz119_2 := blk_frozen BK274.out 2
          have hfz119_3 := blk_frozen BK274.out 3
          have hfz119_4 := blk_frozen BK274.out 4
          have hfz119_5 := blk_frozen BK274.out 5
          go_wp2
          go_ret
          exact ⟨by first | rfl | (simp [errW_none, errW_some] <;> rfl) | (simp [*, errW_none, errW_some] <;> rfl), by repeat (first | (with_reducible first | exact HB.out | apply below_alloc | apply pw_below_drewN | apply below_drew1 | refine below_set ?_ GE272.out | refine below_set ?_ GE274.out) | exact HB.out)⟩
   ·rw [if_neg c4] at H
    exact absurd H (by simp)
  ·rw [if_neg c3] at H
   exact absurd H (by simp)

end Go.Proofs.YtcliaceiijaafaaDoor.C
