/- Walks of the program's functions: each Go function's answer as a plain Lean function, and that the call comes to it. Written by a program. Conditions: those in each theorem's own head. -/
import Derived.Test.YtgnenhehcdekkacDoorA0
import Derived.Test.YtgnenhehcdekkacDoorA5
namespace Go.Proofs.YtgnenhehcdekkacDoor.A
open Go.RowKit Go.Proofs.YtgnenhehcdekkacDoorW.PrintWords Go.Proofs.YtgnenhehcdekkacDoorW.PrintLast Go.Proofs.YtgnenhehcdekkacDoorW.PrintMore
attribute [local go_sem] max2_int min2_int max_two min_two max_three min_three max_four min_four   -- for this text's walks alone
set_option linter.unusedVariables false
set_option linter.unusedSimpArgs false

theorem b6N {w : World} {g : Nat} {o : Obj} (h : w.heap[g]? = some o) (n : Nat) : (w.drewN n).heap[g]? = some o := h
theorem b6D {w : World} {g : Nat} {o : Obj} (h : w.heap[g]? = some o) : (w.drew).heap[g]? = some o := h
theorem b6L {w : World} {g : Nat} {o : Obj} (h : w.heap[g]? = some o) (o' : Obj) : (w.alloc o').heap[g]? = some o := blk_alloc h o'
theorem d6_1 {p : Prop} (h : p := by (try simp only [List.map_toArray, List.map_cons, List.map_nil]); first | done | rfl | (simp only [List.length_drop, List.length_take]; rfl)) : p := h
theorem d6_2 {p : Prop} (h : p := by (with_reducible repeat first | apply b6N | apply b6D | apply b6L); exact BK189.out) : p := h
theorem d6_3 {p : Prop} (h : p := by repeat (first | (with_reducible first | exact HB.out | apply below_alloc | apply pw_below_drewN | apply below_drew1 | refine below_set ?_ GE189.out | refine below_set ?_ GE191.out) | exact HB.out)) : p := h
theorem d6_4 {p : Prop} (h : p := by (with_reducible repeat first | apply b6N | apply b6D | apply b6L); exact BK191.out) : p := h
theorem d6_5 {p : Prop} (h : p := by repeat (first | (with_reducible first | exact HB.out | apply below_alloc | apply pw_below_drewN | apply below_drew1 | refine below_set ?_ GE189.out) | exact HB.out)) : p := h
theorem c6_1 {p : Prop} (h : p := by repeat (first | (with_reducible first | exact HB.out | apply below_alloc | apply pw_below_drewN | apply below_drew1 | refine below_set ?_ GE189.out | refine below_set ?_ GE191.out) | exact HB.out)) : p := h
theorem c6_2 {p : Prop} (h : p := by (with_reducible repeat first | apply b6N | apply b6D | apply b6L); refine blk_far ?_ NB189_191.out _; (with_reducible repeat first | apply b6N | apply b6D | apply b6L); refine blk_far ?_ NB189_191.out _; (with_reducible repeat first | apply b6N | apply b6D | apply b6L); refine blk_far ?_ NB189_191.out _; (with_reducible repeat first | apply b6N | apply b6D | apply b6L); refine blk_far ?_ NB189_191.out _; (with_reducible repeat first | apply b6N | apply b6D | apply b6L); exact BK189.out) : p := h
theorem c6_3 {p : Prop} (h : p := by first | rfl | (simp [errW_none, errW_some] <;> rfl) | (simp [*, errW_none, errW_some] <;> rfl)) : p := h
theorem c6_4 {p : Prop} (h : p := by repeat (first | exact (Kd.C_below HR0.out HB.out) | (with_reducible refine Kd.C_alloc ?_ _) | (with_reducible refine Kd.C_drewN ?_ _) | (with_reducible refine Kd.C_drew ?_))) : p := h

/-! ### impl_datumFault: function 26 -/
mutual
def impl_datumFault.j0 : Nat → Int → List (S37) → Int → Int → Int → ByteArray → Option (Int)
  | 0, _, _, _, _, _, _ => none
  | k + 1, x1, x190000, x192000, x192001, x192002, x192003 => (impl_kindFault.f x192000 1 3 2 x192002 x192003).bind fun t193 => (if t193 = 0 then (if x1 = 0 then (if x192001 = (-1) then (some 0) else (some 3)) else ((impl_in.f x192001 0 (wrap64 (x1 - 1))).bind fun t194 => (if t194 = true then (if 0 ≤ x192001 then (if x192001 < (x190000.length : Int) then (if ((rd_T37 x190000 x192001).f0) = 4 then ((impl_isUp__impl_datumFault_1.f k x190000 (wrap64 (x1 - 1)) x192001).bind fun t196 => (impl_datumFault.j1 k x1 (!t196) x190000)) else (impl_datumFault.j1 k x1 true x190000)) else (none)) else (none)) else (some 3)))) else (some t193))
def impl_datumFault.j1 : Nat → Int → Bool → List (S37) → Option (Int)
  | 0, _, _, _ => none
  | k + 1, x1, x63, x190000 => if x63 = true then (some 1) else ((impl_deep.f k x190000 x1).bind fun t197 => (if t197 > 12 then (some 2) else (some 0)))
end
def impl_datumFault.f (k : Nat) (l0 : List (S37)) (a1 : Int) : Option (Int) := if 0 ≤ a1 then (if a1 < (l0.length : Int) then ((impl_in.f ((rd_T37 l0 a1).f0) 1 4).bind fun t192 => (if t192 = true then (if ((rd_T37 l0 a1).f2) = 0 then (if ((rd_T37 l0 a1).f3).toList = ([] : List UInt8) then (impl_datumFault.j0 k a1 l0 ((rd_T37 l0 a1).f0) ((rd_T37 l0 a1).f1) ((rd_T37 l0 a1).f2) ((rd_T37 l0 a1).f3)) else (if ((rd_T37 l0 a1).f0) = 3 then (impl_datumFault.j0 k a1 l0 ((rd_T37 l0 a1).f0) ((rd_T37 l0 a1).f1) ((rd_T37 l0 a1).f2) ((rd_T37 l0 a1).f3)) else (some 1))) else (if ((rd_T37 l0 a1).f0) = 1 then (if ((rd_T37 l0 a1).f3).toList = ([] : List UInt8) then (impl_datumFault.j0 k a1 l0 ((rd_T37 l0 a1).f0) ((rd_T37 l0 a1).f1) ((rd_T37 l0 a1).f2) ((rd_T37 l0 a1).f3)) else (if ((rd_T37 l0 a1).f0) = 3 then (impl_datumFault.j0 k a1 l0 ((rd_T37 l0 a1).f0) ((rd_T37 l0 a1).f1) ((rd_T37 l0 a1).f2) ((rd_T37 l0 a1).f3)) else (some 1))) else (if ((rd_T37 l0 a1).f0) = 2 then (if ((rd_T37 l0 a1).f3).toList = ([] : List UInt8) then (impl_datumFault.j0 k a1 l0 ((rd_T37 l0 a1).f0) ((rd_T37 l0 a1).f1) ((rd_T37 l0 a1).f2) ((rd_T37 l0 a1).f3)) else (if ((rd_T37 l0 a1).f0) = 3 then (impl_datumFault.j0 k a1 l0 ((rd_T37 l0 a1).f0) ((rd_T37 l0 a1).f1) ((rd_T37 l0 a1).f2) ((rd_T37 l0 a1).f3)) else (some 1))) else (some 1)))) else (some 1))) else (none)) else (none)
theorem impl_datumFault.mono_l : ∀ k, (∀ y0 y1 y2 y3 y4 y5, LeO (impl_datumFault.j0 k y0 y1 y2 y3 y4 y5) (impl_datumFault.j0 (k + 1) y0 y1 y2 y3 y4 y5)) ∧ (∀ y0 y1 y2, LeO (impl_datumFault.j1 k y0 y1 y2) (impl_datumFault.j1 (k + 1) y0 y1 y2))
  | 0 => ⟨fun _ _ _ _ _ _ r h => by simp [impl_datumFault.j0] at h, fun _ _ _ r h => by simp [impl_datumFault.j1] at h⟩
  | k + 1 => by
    obtain ⟨ih0, ih1⟩ := impl_datumFault.mono_l k; refine ⟨?_, ?_⟩
    · intro y0 y1 y2 y3 y4 y5
      unfold impl_datumFault.j0
      repeat' first
      | (with_reducible exact ih0 _ _ _ _ _ _)
      | (with_reducible exact ih1 _ _ _)
      | (with_reducible exact impl_deep.mono _ _ _)
      | (with_reducible exact impl_isUp__impl_datumFault_1.mono _ _ _ _)
      | (with_reducible exact LeO.refl _)
      | (with_reducible exact LeO.none _)
      | (with_reducible refine LeO.ite ?_ ?_)
      | (with_reducible refine LeO.bind ?_ (fun _ => ?_))
      | exact ih0 _ _ _ _ _ _
      | exact ih1 _ _ _
      | exact impl_deep.mono _ _ _
      | exact impl_isUp__impl_datumFault_1.mono _ _ _ _
      | exact LeO.none _
      | refine LeO.ite ?_ ?_
      | refine LeO.bind ?_ (fun _ => ?_)
    · intro y0 y1 y2
      unfold impl_datumFault.j1
      repeat' first
      | (with_reducible exact ih0 _ _ _ _ _ _)
      | (with_reducible exact ih1 _ _ _)
      | (with_reducible exact impl_deep.mono _ _ _)
      | (with_reducible exact impl_isUp__impl_datumFault_1.mono _ _ _ _)
      | (with_reducible exact LeO.refl _)
      | (with_reducible exact LeO.none _)
      | (with_reducible refine LeO.ite ?_ ?_)
      | (with_reducible refine LeO.bind ?_ (fun _ => ?_))
      | exact ih0 _ _ _ _ _ _
      | exact ih1 _ _ _
      | exact impl_deep.mono _ _ _
      | exact impl_isUp__impl_datumFault_1.mono _ _ _ _
      | exact LeO.none _
      | refine LeO.ite ?_ ?_
      | refine LeO.bind ?_ (fun _ => ?_)
theorem impl_datumFault.mono : ∀ a0 a1 k, LeO (impl_datumFault.f k a0 a1) (impl_datumFault.f (k + 1) a0 a1) := by
  intro a0 a1 k; obtain ⟨ih0, ih1⟩ := impl_datumFault.mono_l k; unfold impl_datumFault.f
  repeat' first
      | (with_reducible exact ih0 _ _ _ _ _ _)
      | (with_reducible exact ih1 _ _ _)
      | (with_reducible exact impl_deep.mono _ _ _)
      | (with_reducible exact impl_isUp__impl_datumFault_1.mono _ _ _ _)
      | (with_reducible exact LeO.refl _)
      | (with_reducible exact LeO.none _)
      | (with_reducible refine LeO.ite ?_ ?_)
      | (with_reducible refine LeO.bind ?_ (fun _ => ?_))
      | exact ih0 _ _ _ _ _ _
      | exact ih1 _ _ _
      | exact impl_deep.mono _ _ _
      | exact impl_isUp__impl_datumFault_1.mono _ _ _ _
      | exact LeO.none _
      | refine LeO.ite ?_ ?_
      | refine LeO.bind ?_ (fun _ => ?_)
set_option maxHeartbeats 8000000 in
set_option maxRecDepth 100000 in
theorem impl_datumFault.calls (k : Nat) (A0 : Option Addr) (c0 : Nat) (l0 : List (S37)) (a1 : Int) (r : Int) (w : World) (hr0 : Kd.C k37 w A0 l0.length l0) (hc0 : l0.length ≤ c0) (h : impl_datumFault.f k l0 a1 = some r) :
    Calls Tryd.prog 26 #[.slice A0 l0.length c0, .int .i64 a1] w fun e w' => e = .returned (.int .i64 r) ∧ Below w.heap.size w w' := by
  have hu27 := Tryd.underlying27; have hu37 := Tryd.underlying37; have HR0 := ak hr0; have HC0 := ak hc0; clear hr0 hc0; have HB := ak (Below.refl w.heap.size w); have H : (if 0 ≤ a1 then (if a1 < (l0.length : Int) then ((impl_in.f ((rd_T37 l0 a1).f0) 1 4).bind fun t192 => (if t192 = true then (if ((rd_T37 l0 a1).f2) = 0 then (if ((rd_T37 l0 a1).f3).toList = ([] : List UInt8) then (impl_datumFault.j0 k a1 l0 ((rd_T37 l0 a1).f0) ((rd_T37 l0 a1).f1) ((rd_T37 l0 a1).f2) ((rd_T37 l0 a1).f3)) else (if ((rd_T37 l0 a1).f0) = 3 then (impl_datumFault.j0 k a1 l0 ((rd_T37 l0 a1).f0) ((rd_T37 l0 a1).f1) ((rd_T37 l0 a1).f2) ((rd_T37 l0 a1).f3)) else (some 1))) else (if ((rd_T37 l0 a1).f0) = 1 then (if ((rd_T37 l0 a1).f3).toList = ([] : List UInt8) then (impl_datumFault.j0 k a1 l0 ((rd_T37 l0 a1).f0) ((rd_T37 l0 a1).f1) ((rd_T37 l0 a1).f2) ((rd_T37 l0 a1).f3)) else (if ((rd_T37 l0 a1).f0) = 3 then (impl_datumFault.j0 k a1 l0 ((rd_T37 l0 a1).f0) ((rd_T37 l0 a1).f1) ((rd_T37 l0 a1).f2) ((rd_T37 l0 a1).f3)) else (some 1))) else (if ((rd_T37 l0 a1).f0) = 2 then (if ((rd_T37 l0 a1).f3).toList = ([] : List UInt8) then (impl_datumFault.j0 k a1 l0 ((rd_T37 l0 a1).f0) ((rd_T37 l0 a1).f1) ((rd_T37 l0 a1).f2) ((rd_T37 l0 a1).f3)) else (if ((rd_T37 l0 a1).f0) = 3 then (impl_datumFault.j0 k a1 l0 ((rd_T37 l0 a1).f0) ((rd_T37 l0 a1).f1) ((rd_T37 l0 a1).f2) ((rd_T37 l0 a1).f3)) else (some 1))) else (some 1)))) else (some 1))) else (none)) else (none)) = some r := h; clear h; by_cases c3 : 0 ≤ a1
  ·rw [if_pos c3] at H
   have c3b0 : decide (0 ≤ a1) = true := decide_eq_true c3; clear c3; by_cases c4 : a1 < (l0.length : Int)
   ·rw [if_pos c4] at H
    have c4b0 : decide (a1 < (l0.length : Int)) = true := decide_eq_true c4; clear c4; have HC5 := ak H; clear H; go_enter Tryd.func26, Tryd.ntmps26
    go_upto_block 0 with (first | ((with_reducible refine gate_dst (N := 2) rfl ?_); refine box_event ?hg (N := 2) ?hd (cs := #[.slice A0 l0.length c0]) (t := 27) ?hr ?_; (case hd => rfl); (case hg => rfl); (case hr => first | (go_simp; done) | (go_simp; rfl)); intro gb189 hg w6 hbox hb; have n0_ := ak (below_step (by repeat (first | (with_reducible first | exact HB.out | apply below_alloc | apply pw_below_drewN | apply below_drew1) | exact HB.out)) hb); have n1_ := ak (hbox); have n2_ := ak ((by rw [hg]; exact (below_size (by repeat (first | (with_reducible first | exact HB.out | apply below_alloc | apply pw_below_drewN | apply below_drew1) | exact HB.out))) : w.heap.size ≤ gb189)); have n3_ := ak ((by rw [hg]; exact (below_size (by repeat (first | (with_reducible first | exact HB.out | apply below_alloc | apply pw_below_drewN | apply below_drew1) | exact HB.out))) : w.heap.size ≤ gb189)); clear HB; have HB := n0_; have BK189 := n1_; have GW189 := n2_; have GE189 := n3_; clear n0_ n1_ n2_ n3_ hb hbox hg; have hcz7_0 : w6.cell? ⟨gb189, 0, none⟩ = some (.slice A0 l0.length c0) := (blk_cell BK189.out 0).trans rfl; have hfz7_0 := blk_frozen BK189.out 0; have p190 : 0 ≤ (a1 : Int) := of_decide_eq_true (by first | (with_reducible assumption) | assumption); have q190 : a1 < (l0.length : Int) := of_decide_eq_true (by first | (with_reducible assumption) | assumption); obtain ⟨ad190, e190, hx190_0, hx190_1, hx190_2, hx190_3⟩ := at_T37 HR0.out a1 p190 q190; cases e190; replace hx190_0 := (HB.out.cell (World.block_lt_of_cell? w _ hx190_0)).trans hx190_0; replace hx190_1 := (HB.out.cell (World.block_lt_of_cell? w _ hx190_1)).trans hx190_1; replace hx190_2 := (HB.out.cell (World.block_lt_of_cell? w _ hx190_2)).trans hx190_2; replace hx190_3 := (HB.out.cell (World.block_lt_of_cell? w _ hx190_3)).trans hx190_3; replace p190 := eq_true p190; replace q190 := eq_true q190) | ((with_reducible refine gate_dst (N := 5) rfl ?_); refine box_event ?hg (N := 5) ?hd (cs := #[.int .i64 0, .int .i64 0, .int .i64 0, .string (⟨#[]⟩ : ByteArray)]) (t := 37) ?hr ?_; (case hd => rfl); (case hg => rfl); (case hr => first | (go_simp; done) | (go_simp; rfl)); intro gb191 hg w8 hbox hb; have n0_ := ak (blk_below (g := gb189) (o := .cells #[.slice (some ad190) l0.length c0] 27 (0, 0)) d6_2 hb); have n1_ := ak (below_step d6_5 hb); have n2_ := ak (hbox); have n3_ := ak ((by rw [hg]; exact (below_size d6_5) : w.heap.size ≤ gb191)); have n4_ := ak ((by rw [hg]; exact (below_size d6_5) : w.heap.size ≤ gb191)); have n5_ := ak ((by rw [hg]; exact Nat.ne_of_lt (blk_lt (g := gb189) (o := .cells #[.slice (some ad190) l0.length c0] 27 (0, 0)) d6_2) : gb189 ≠ gb191)); have n6_ := ak ((by rw [hg]; exact Nat.ne_of_gt (blk_lt (g := gb189) (o := .cells #[.slice (some ad190) l0.length c0] 27 (0, 0)) d6_2) : gb191 ≠ gb189)); clear BK189 HB; have BK189 := n0_; have HB := n1_; have BK191 := n2_; have GW191 := n3_; have GE191 := n4_; have NB189_191 := n5_; have NB191_189 := n6_; clear n0_ n1_ n2_ n3_ n4_ n5_ n6_ hb hbox hg; have hnb9 := NB191_189.out; have hnc9 := NB189_191.out; have hcz10_0 : w8.cell? ⟨gb191, 0, none⟩ = some (.int .i64 0) := (blk_cell BK191.out 0).trans rfl; have hcz10_1 : w8.cell? ⟨gb191, 1, none⟩ = some (.int .i64 0) := (blk_cell BK191.out 1).trans rfl; have hcz10_2 : w8.cell? ⟨gb191, 2, none⟩ = some (.int .i64 0) := (blk_cell BK191.out 2).trans rfl; have hcz10_3 : w8.cell? ⟨gb191, 3, none⟩ = some (.string (⟨#[]⟩ : ByteArray)) := (blk_cell BK191.out 3).trans rfl; have hfz10_0 := blk_frozen BK191.out 0; have hfz10_1 := blk_frozen BK191.out 1; have hfz10_2 := blk_frozen BK191.out 2; have hfz10_3 := blk_frozen BK191.out 3))
    (try simp only [Act.put, List.setIfInBounds_toArray, List.set_cons_zero, List.set_cons_succ])
    go_cut [] (fun wc => ∃ (kq : Nat), Aside0 (impl_datumFault.j0 kq a1 l0 ((rd_T37 l0 a1).f0) ((rd_T37 l0 a1).f1) ((rd_T37 l0 a1).f2) ((rd_T37 l0 a1).f3) = some r) ∧ Aside0 (kq ≤ k) ∧ Aside0 (wc.heap[gb189]? = some (.cells #[(.slice (some ad190) l0.length c0)] 27 (0, 0))) ∧ Aside0 (wc.heap[gb191]? = some (.cells #[.int .i64 ((rd_T37 l0 a1).f0), .int .i64 ((rd_T37 l0 a1).f1), .int .i64 ((rd_T37 l0 a1).f2), .string ((rd_T37 l0 a1).f3)] 37 (0, 0))) ∧ Aside0 (Below w.heap.size w wc))
    case first =>
     have H := HC5.out; clear HC5; replace H := Option.bind_eq_some_iff.mp H; obtain ⟨t192, A110, H⟩ := H; replace H : (if t192 = true then (if ((rd_T37 l0 a1).f2) = 0 then (if ((rd_T37 l0 a1).f3).toList = ([] : List UInt8) then (impl_datumFault.j0 k a1 l0 ((rd_T37 l0 a1).f0) ((rd_T37 l0 a1).f1) ((rd_T37 l0 a1).f2) ((rd_T37 l0 a1).f3)) else (if ((rd_T37 l0 a1).f0) = 3 then (impl_datumFault.j0 k a1 l0 ((rd_T37 l0 a1).f0) ((rd_T37 l0 a1).f1) ((rd_T37 l0 a1).f2) ((rd_T37 l0 a1).f3)) else (some 1))) else (if ((rd_T37 l0 a1).f0) = 1 then (if ((rd_T37 l0 a1).f3).toList = ([] : List UInt8) then (impl_datumFault.j0 k a1 l0 ((rd_T37 l0 a1).f0) ((rd_T37 l0 a1).f1) ((rd_T37 l0 a1).f2) ((rd_T37 l0 a1).f3)) else (if ((rd_T37 l0 a1).f0) = 3 then (impl_datumFault.j0 k a1 l0 ((rd_T37 l0 a1).f0) ((rd_T37 l0 a1).f1) ((rd_T37 l0 a1).f2) ((rd_T37 l0 a1).f3)) else (some 1))) else (if ((rd_T37 l0 a1).f0) = 2 then (if ((rd_T37 l0 a1).f3).toList = ([] : List UInt8) then (impl_datumFault.j0 k a1 l0 ((rd_T37 l0 a1).f0) ((rd_T37 l0 a1).f1) ((rd_T37 l0 a1).f2) ((rd_T37 l0 a1).f3)) else (if ((rd_T37 l0 a1).f0) = 3 then (impl_datumFault.j0 k a1 l0 ((rd_T37 l0 a1).f0) ((rd_T37 l0 a1).f1) ((rd_T37 l0 a1).f2) ((rd_T37 l0 a1).f3)) else (some 1))) else (some 1)))) else (some 1)) = some r := H; have A11 := ak A110; clear A110; by_cases c12 : t192 = true
     ·subst c12
      have H1 : (if ((rd_T37 l0 a1).f2) = 0 then (if ((rd_T37 l0 a1).f3).toList = ([] : List UInt8) then (impl_datumFault.j0 k a1 l0 ((rd_T37 l0 a1).f0) ((rd_T37 l0 a1).f1) ((rd_T37 l0 a1).f2) ((rd_T37 l0 a1).f3)) else (if ((rd_T37 l0 a1).f0) = 3 then (impl_datumFault.j0 k a1 l0 ((rd_T37 l0 a1).f0) ((rd_T37 l0 a1).f1) ((rd_T37 l0 a1).f2) ((rd_T37 l0 a1).f3)) else (some 1))) else (if ((rd_T37 l0 a1).f0) = 1 then (if ((rd_T37 l0 a1).f3).toList = ([] : List UInt8) then (impl_datumFault.j0 k a1 l0 ((rd_T37 l0 a1).f0) ((rd_T37 l0 a1).f1) ((rd_T37 l0 a1).f2) ((rd_T37 l0 a1).f3)) else (if ((rd_T37 l0 a1).f0) = 3 then (impl_datumFault.j0 k a1 l0 ((rd_T37 l0 a1).f0) ((rd_T37 l0 a1).f1) ((rd_T37 l0 a1).f2) ((rd_T37 l0 a1).f3)) else (some 1))) else (if ((rd_T37 l0 a1).f0) = 2 then (if ((rd_T37 l0 a1).f3).toList = ([] : List UInt8) then (impl_datumFault.j0 k a1 l0 ((rd_T37 l0 a1).f0) ((rd_T37 l0 a1).f1) ((rd_T37 l0 a1).f2) ((rd_T37 l0 a1).f3)) else (if ((rd_T37 l0 a1).f0) = 3 then (impl_datumFault.j0 k a1 l0 ((rd_T37 l0 a1).f0) ((rd_T37 l0 a1).f1) ((rd_T37 l0 a1).f2) ((rd_T37 l0 a1).f3)) else (some 1))) else (some 1)))) = some r := by rw [if_pos rfl] at H; exact H
      clear H; have H := H1; clear H1; by_cases c13 : ((rd_T37 l0 a1).f2) = 0
      ·rw [if_pos c13] at H
       have c13b0 : (((rd_T37 l0 a1).f2) == 0) = true := beq_iff_eq.mpr c13; have c13b1 : (((rd_T37 l0 a1).f2) != 0) = false := bne_eq_false_iff_eq.mpr c13; clear c13
       (first | rw [c13b0] | (simp only [i64_w, i32_w]; rw [c13b0]) | skip)
       by_cases c14 : ((rd_T37 l0 a1).f3).toList = ([] : List UInt8)
       ·rw [if_pos c14] at H
        have c14b0 : (((rd_T37 l0 a1).f3).toList == ([] : List UInt8)) = true := beq_iff_eq.mpr c14; have c14b1 : (((rd_T37 l0 a1).f3).toList != ([] : List UInt8)) = false := bne_eq_false_iff_eq.mpr c14; clear c14; have H' := ak H; clear H; have hnb15 := NB191_189.out; have hnc15 := NB189_191.out; have hcz16_0 : w8.cell? ⟨gb191, 0, none⟩ = some (.int .i64 0) := (blk_cell BK191.out 0).trans rfl; have hcz16_1 : w8.cell? ⟨gb191, 1, none⟩ = some (.int .i64 0) := (blk_cell BK191.out 1).trans rfl; have hcz16_2 : w8.cell? ⟨gb191, 2, none⟩ = some (.int .i64 0) := (blk_cell BK191.out 2).trans rfl; have hcz16_3 : w8.cell? ⟨gb191, 3, none⟩ = some (.string (⟨#[]⟩ : ByteArray)) := (blk_cell BK191.out 3).trans rfl; have hfz16_0 := blk_frozen BK191.out 0; have hfz16_1 := blk_frozen BK191.out 1; have hfz16_2 := blk_frozen BK191.out 2; have hfz16_3 := blk_frozen BK191.out 3; go_wp2_with (first | ((with_reducible refine gate_callee (f := 25) rfl ?_); refine goesL_ (some 14) rfl rfl Tryd.func25 (by kernel_rfl) rfl #[.int .i64 ((rd_T37 l0 a1).f0), .int .i64 1, .int .i64 4] rfl d6_1 ?_; (with_reducible refine (impl_in.calls ((rd_T37 l0 a1).f0) 1 4 true _ A11.out).mono ?_); rintro e w' ⟨rfl, ⟨nd, rfl⟩⟩; refine ⟨_, rfl, ?_⟩)); go_meet
        case rel => exact ⟨_, H', ⟨by first | omega | exact Nat.le_refl _⟩, ⟨c6_2⟩, ⟨by (with_reducible repeat first | apply b6N | apply b6D | apply b6L); refine blk_put (cs := #[.int .i64 ((rd_T37 l0 a1).f0), .int .i64 ((rd_T37 l0 a1).f1), .int .i64 ((rd_T37 l0 a1).f2), .string (⟨#[]⟩ : ByteArray)]) ?_ 3 _ rfl; (with_reducible repeat first | apply b6N | apply b6D | apply b6L); refine blk_put (cs := #[.int .i64 ((rd_T37 l0 a1).f0), .int .i64 ((rd_T37 l0 a1).f1), .int .i64 0, .string (⟨#[]⟩ : ByteArray)]) ?_ 2 _ rfl; (with_reducible repeat first | apply b6N | apply b6D | apply b6L); refine blk_put (cs := #[.int .i64 ((rd_T37 l0 a1).f0), .int .i64 0, .int .i64 0, .string (⟨#[]⟩ : ByteArray)]) ?_ 1 _ rfl; (with_reducible repeat first | apply b6N | apply b6D | apply b6L); refine blk_put (cs := #[.int .i64 0, .int .i64 0, .int .i64 0, .string (⟨#[]⟩ : ByteArray)]) ?_ 0 _ rfl; (with_reducible repeat first | apply b6N | apply b6D | apply b6L); exact BK191.out⟩, ⟨c6_1⟩⟩
       ·rw [if_neg c14] at H
        have c14b0 : (((rd_T37 l0 a1).f3).toList == ([] : List UInt8)) = false := beq_eq_false_iff_ne.mpr c14; have c14b1 : (((rd_T37 l0 a1).f3).toList != ([] : List UInt8)) = true := bne_iff_ne.mpr c14; by_cases c17 : ((rd_T37 l0 a1).f0) = 3
        ·rw [if_pos c17] at H
         have c17b0 : (((rd_T37 l0 a1).f0) == 3) = true := beq_iff_eq.mpr c17; have c17b1 : (((rd_T37 l0 a1).f0) != 3) = false := bne_eq_false_iff_eq.mpr c17; clear c17; have H' := ak H; clear H; have hnb18 := NB191_189.out; have hnc18 := NB189_191.out; have hcz19_0 : w8.cell? ⟨gb191, 0, none⟩ = some (.int .i64 0) := (blk_cell BK191.out 0).trans rfl; have hcz19_1 : w8.cell? ⟨gb191, 1, none⟩ = some (.int .i64 0) := (blk_cell BK191.out 1).trans rfl; have hcz19_2 : w8.cell? ⟨gb191, 2, none⟩ = some (.int .i64 0) := (blk_cell BK191.out 2).trans rfl; have hcz19_3 : w8.cell? ⟨gb191, 3, none⟩ = some (.string (⟨#[]⟩ : ByteArray)) := (blk_cell BK191.out 3).trans rfl; have hfz19_0 := blk_frozen BK191.out 0; have hfz19_1 := blk_frozen BK191.out 1; have hfz19_2 := blk_frozen BK191.out 2; have hfz19_3 := blk_frozen BK191.out 3; go_wp2_with (first | ((with_reducible refine gate_callee (f := 25) rfl ?_); refine goesL_ (some 14) rfl rfl Tryd.func25 (by kernel_rfl) rfl #[.int .i64 ((rd_T37 l0 a1).f0), .int .i64 1, .int .i64 4] rfl d6_1 ?_; (with_reducible refine (impl_in.calls ((rd_T37 l0 a1).f0) 1 4 true _ A11.out).mono ?_); rintro e w' ⟨rfl, ⟨nd, rfl⟩⟩; refine ⟨_, rfl, ?_⟩)); go_meet
         case rel => exact ⟨_, H', ⟨by first | omega | exact Nat.le_refl _⟩, ⟨c6_2⟩, ⟨by (with_reducible repeat first | apply b6N | apply b6D | apply b6L); refine blk_put (cs := #[.int .i64 ((rd_T37 l0 a1).f0), .int .i64 ((rd_T37 l0 a1).f1), .int .i64 ((rd_T37 l0 a1).f2), .string (⟨#[]⟩ : ByteArray)]) ?_ 3 _ rfl; (with_reducible repeat first | apply b6N | apply b6D | apply b6L); refine blk_put (cs := #[.int .i64 ((rd_T37 l0 a1).f0), .int .i64 ((rd_T37 l0 a1).f1), .int .i64 0, .string (⟨#[]⟩ : ByteArray)]) ?_ 2 _ rfl; (with_reducible repeat first | apply b6N | apply b6D | apply b6L); refine blk_put (cs := #[.int .i64 ((rd_T37 l0 a1).f0), .int .i64 0, .int .i64 0, .string (⟨#[]⟩ : ByteArray)]) ?_ 1 _ rfl; (with_reducible repeat first | apply b6N | apply b6D | apply b6L); refine blk_put (cs := #[.int .i64 0, .int .i64 0, .int .i64 0, .string (⟨#[]⟩ : ByteArray)]) ?_ 0 _ rfl; (with_reducible repeat first | apply b6N | apply b6D | apply b6L); exact BK191.out⟩, ⟨c6_1⟩⟩
        ·rw [if_neg c17] at H
         have c17b0 : (((rd_T37 l0 a1).f0) == 3) = false := beq_eq_false_iff_ne.mpr c17; have c17b1 : (((rd_T37 l0 a1).f0) != 3) = true := bne_iff_ne.mpr c17; obtain rfl := Option.some.inj H; have hnb20 := NB191_189.out; have hnc20 := NB189_191.out; have hcz21_0 : w8.cell? ⟨gb191, 0, none⟩ = some (.int .i64 0) := (blk_cell BK191.out 0).trans rfl; have hcz21_1 : w8.cell? ⟨gb191, 1, none⟩ = some (.int .i64 0) := (blk_cell BK191.out 1).trans rfl; have hcz21_2 : w8.cell? ⟨gb191, 2, none⟩ = some (.int .i64 0) := (blk_cell BK191.out 2).trans rfl; have hcz21_3 : w8.cell? ⟨gb191, 3, none⟩ = some (.string (⟨#[]⟩ : ByteArray)) := (blk_cell BK191.out 3).trans rfl; have hfz21_0 := blk_frozen BK191.out 0; have hfz21_1 := blk_frozen BK191.out 1; have hfz21_2 := blk_frozen BK191.out 2; have hfz21_3 := blk_frozen BK191.out 3; go_wp2_with (first | ((with_reducible refine gate_callee (f := 25) rfl ?_); refine goesL_ (some 14) rfl rfl Tryd.func25 (by kernel_rfl) rfl #[.int .i64 ((rd_T37 l0 a1).f0), .int .i64 1, .int .i64 4] rfl d6_1 ?_; (with_reducible refine (impl_in.calls ((rd_T37 l0 a1).f0) 1 4 true _ A11.out).mono ?_); rintro e w' ⟨rfl, ⟨nd, rfl⟩⟩; refine ⟨_, rfl, ?_⟩)); go_ret; exact ⟨c6_3, c6_1⟩
      ·rw [if_neg c13] at H
       have c13b0 : (((rd_T37 l0 a1).f2) == 0) = false := beq_eq_false_iff_ne.mpr c13; have c13b1 : (((rd_T37 l0 a1).f2) != 0) = true := bne_iff_ne.mpr c13
       (first | rw [c13b0] | (simp only [i64_w, i32_w]; rw [c13b0]) | skip)
       by_cases c22 : ((rd_T37 l0 a1).f0) = 1
       ·rw [if_pos c22] at H
        have c22b0 : (((rd_T37 l0 a1).f0) == 1) = true := beq_iff_eq.mpr c22; have c22b1 : (((rd_T37 l0 a1).f0) != 1) = false := bne_eq_false_iff_eq.mpr c22; clear c22; by_cases c23 : ((rd_T37 l0 a1).f3).toList = ([] : List UInt8)
        ·rw [if_pos c23] at H
         have c23b0 : (((rd_T37 l0 a1).f3).toList == ([] : List UInt8)) = true := beq_iff_eq.mpr c23; have c23b1 : (((rd_T37 l0 a1).f3).toList != ([] : List UInt8)) = false := bne_eq_false_iff_eq.mpr c23; clear c23; have H' := ak H; clear H; have hnb24 := NB191_189.out; have hnc24 := NB189_191.out; have hcz25_0 : w8.cell? ⟨gb191, 0, none⟩ = some (.int .i64 0) := (blk_cell BK191.out 0).trans rfl; have hcz25_1 : w8.cell? ⟨gb191, 1, none⟩ = some (.int .i64 0) := (blk_cell BK191.out 1).trans rfl; have hcz25_2 : w8.cell? ⟨gb191, 2, none⟩ = some (.int .i64 0) := (blk_cell BK191.out 2).trans rfl; have hcz25_3 : w8.cell? ⟨gb191, 3, none⟩ = some (.string (⟨#[]⟩ : ByteArray)) := (blk_cell BK191.out 3).trans rfl; have hfz25_0 := blk_frozen BK191.out 0; have hfz25_1 := blk_frozen BK191.out 1; have hfz25_2 := blk_frozen BK191.out 2; have hfz25_3 := blk_frozen BK191.out 3; go_wp2_with (first | ((with_reducible refine gate_callee (f := 25) rfl ?_); refine goesL_ (some 14) rfl rfl Tryd.func25 (by kernel_rfl) rfl #[.int .i64 ((rd_T37 l0 a1).f0), .int .i64 1, .int .i64 4] rfl d6_1 ?_; (with_reducible refine (impl_in.calls ((rd_T37 l0 a1).f0) 1 4 true _ A11.out).mono ?_); rintro e w' ⟨rfl, ⟨nd, rfl⟩⟩; refine ⟨_, rfl, ?_⟩)); go_meet
         case rel => exact ⟨_, H', ⟨by first | omega | exact Nat.le_refl _⟩, ⟨c6_2⟩, ⟨by (with_reducible repeat first | apply b6N | apply b6D | apply b6L); refine blk_put (cs := #[.int .i64 ((rd_T37 l0 a1).f0), .int .i64 ((rd_T37 l0 a1).f1), .int .i64 ((rd_T37 l0 a1).f2), .string (⟨#[]⟩ : ByteArray)]) ?_ 3 _ rfl; (with_reducible repeat first | apply b6N | apply b6D | apply b6L); refine blk_put (cs := #[.int .i64 ((rd_T37 l0 a1).f0), .int .i64 ((rd_T37 l0 a1).f1), .int .i64 0, .string (⟨#[]⟩ : ByteArray)]) ?_ 2 _ rfl; (with_reducible repeat first | apply b6N | apply b6D | apply b6L); refine blk_put (cs := #[.int .i64 ((rd_T37 l0 a1).f0), .int .i64 0, .int .i64 0, .string (⟨#[]⟩ : ByteArray)]) ?_ 1 _ rfl; (with_reducible repeat first | apply b6N | apply b6D | apply b6L); refine blk_put (cs := #[.int .i64 0, .int .i64 0, .int .i64 0, .string (⟨#[]⟩ : ByteArray)]) ?_ 0 _ rfl; (with_reducible repeat first | apply b6N | apply b6D | apply b6L); exact BK191.out⟩, ⟨c6_1⟩⟩
        ·rw [if_neg c23] at H
         have c23b0 : (((rd_T37 l0 a1).f3).toList == ([] : List UInt8)) = false := beq_eq_false_iff_ne.mpr c23; have c23b1 : (((rd_T37 l0 a1).f3).toList != ([] : List UInt8)) = true := bne_iff_ne.mpr c23; by_cases c26 : ((rd_T37 l0 a1).f0) = 3
         ·rw [if_pos c26] at H
          have c26b0 : (((rd_T37 l0 a1).f0) == 3) = true := beq_iff_eq.mpr c26; have c26b1 : (((rd_T37 l0 a1).f0) != 3) = false := bne_eq_false_iff_eq.mpr c26; clear c26; have H' := ak H; clear H; have hnb27 := NB191_189.out; have hnc27 := NB189_191.out; have hcz28_0 : w8.cell? ⟨gb191, 0, none⟩ = some (.int .i64 0) := (blk_cell BK191.out 0).trans rfl; have hcz28_1 : w8.cell? ⟨gb191, 1, none⟩ = some (.int .i64 0) := (blk_cell BK191.out 1).trans rfl; have hcz28_2 : w8.cell? ⟨gb191, 2, none⟩ = some (.int .i64 0) := (blk_cell BK191.out 2).trans rfl; have hcz28_3 : w8.cell? ⟨gb191, 3, none⟩ = some (.string (⟨#[]⟩ : ByteArray)) := (blk_cell BK191.out 3).trans rfl; have hfz28_0 := blk_frozen BK191.out 0; have hfz28_1 := blk_frozen BK191.out 1; have hfz28_2 := blk_frozen BK191.out 2; have hfz28_3 := blk_frozen BK191.out 3; go_wp2_with (first | ((with_reducible refine gate_callee (f := 25) rfl ?_); refine goesL_ (some 14) rfl rfl Tryd.func25 (by kernel_rfl) rfl #[.int .i64 ((rd_T37 l0 a1).f0), .int .i64 1, .int .i64 4] rfl d6_1 ?_; (with_reducible refine (impl_in.calls ((rd_T37 l0 a1).f0) 1 4 true _ A11.out).mono ?_); rintro e w' ⟨rfl, ⟨nd, rfl⟩⟩; refine ⟨_, rfl, ?_⟩)); go_meet
          case rel => exact ⟨_, H', ⟨by first | omega | exact Nat.le_refl _⟩, ⟨c6_2⟩, ⟨by (with_reducible repeat first | apply b6N | apply b6D | apply b6L); refine blk_put (cs := #[.int .i64 ((rd_T37 l0 a1).f0), .int .i64 ((rd_T37 l0 a1).f1), .int .i64 ((rd_T37 l0 a1).f2), .string (⟨#[]⟩ : ByteArray)]) ?_ 3 _ rfl; (with_reducible repeat first | apply b6N | apply b6D | apply b6L); refine blk_put (cs := #[.int .i64 ((rd_T37 l0 a1).f0), .int .i64 ((rd_T37 l0 a1).f1), .int .i64 0, .string (⟨#[]⟩ : ByteArray)]) ?_ 2 _ rfl; (with_reducible repeat first | apply b6N | apply b6D | apply b6L); refine blk_put (cs := #[.int .i64 ((rd_T37 l0 a1).f0), .int .i64 0, .int .i64 0, .string (⟨#[]⟩ : ByteArray)]) ?_ 1 _ rfl; (with_reducible repeat first | apply b6N | apply b6D | apply b6L); refine blk_put (cs := #[.int .i64 0, .int .i64 0, .int .i64 0, .string (⟨#[]⟩ : ByteArray)]) ?_ 0 _ rfl; (with_reducible repeat first | apply b6N | apply b6D | apply b6L); exact BK191.out⟩, ⟨c6_1⟩⟩
         ·rw [if_neg c26] at H
          have c26b0 : (((rd_T37 l0 a1).f0) == 3) = false := beq_eq_false_iff_ne.mpr c26; have c26b1 : (((rd_T37 l0 a1).f0) != 3) = true := bne_iff_ne.mpr c26; obtain rfl := Option.some.inj H; have hnb29 := NB191_189.out; have hnc29 := NB189_191.out; have hcz30_0 : w8.cell? ⟨gb191, 0, none⟩ = some (.int .i64 0) := (blk_cell BK191.out 0).trans rfl; have hcz30_1 : w8.cell? ⟨gb191, 1, none⟩ = some (.int .i64 0) := (blk_cell BK191.out 1).trans rfl; have hcz30_2 : w8.cell? ⟨gb191, 2, none⟩ = some (.int .i64 0) := (blk_cell BK191.out 2).trans rfl; have hcz30_3 : w8.cell? ⟨gb191, 3, none⟩ = some (.string (⟨#[]⟩ : ByteArray)) := (blk_cell BK191.out 3).trans rfl; have hfz30_0 := blk_frozen BK191.out 0; have hfz30_1 := blk_frozen BK191.out 1; have hfz30_2 := blk_frozen BK191.out 2; have hfz30_3 := blk_frozen BK191.out 3; go_wp2_with (first | ((with_reducible refine gate_callee (f := 25) rfl ?_); refine goesL_ (some 14) rfl rfl Tryd.func25 (by kernel_rfl) rfl #[.int .i64 ((rd_T37 l0 a1).f0), .int .i64 1, .int .i64 4] rfl d6_1 ?_; (with_reducible refine (impl_in.calls ((rd_T37 l0 a1).f0) 1 4 true _ A11.out).mono ?_); rintro e w' ⟨rfl, ⟨nd, rfl⟩⟩; refine ⟨_, rfl, ?_⟩)); go_ret; exact ⟨c6_3, c6_1⟩
       ·rw [if_neg c22] at H
        have c22b0 : (((rd_T37 l0 a1).f0) == 1) = false := beq_eq_false_iff_ne.mpr c22; have c22b1 : (((rd_T37 l0 a1).f0) != 1) = true := bne_iff_ne.mpr c22; by_cases c31 : ((rd_T37 l0 a1).f0) = 2
        ·rw [if_pos c31] at H
         have c31b0 : (((rd_T37 l0 a1).f0) == 2) = true := beq_iff_eq.mpr c31; have c31b1 : (((rd_T37 l0 a1).f0) != 2) = false := bne_eq_false_iff_eq.mpr c31; clear c31; by_cases c32 : ((rd_T37 l0 a1).f3).toList = ([] : List UInt8)
         ·rw [if_pos c32] at H
          have c32b0 : (((rd_T37 l0 a1).f3).toList == ([] : List UInt8)) = true := beq_iff_eq.mpr c32; have c32b1 : (((rd_T37 l0 a1).f3).toList != ([] : List UInt8)) = false := bne_eq_false_iff_eq.mpr c32; clear c32; have H' := ak H; clear H; have hnb33 := NB191_189.out; have hnc33 := NB189_191.out; have hcz34_0 : w8.cell? ⟨gb191, 0, none⟩ = some (.int .i64 0) := (blk_cell BK191.out 0).trans rfl; have hcz34_1 : w8.cell? ⟨gb191, 1, none⟩ = some (.int .i64 0) := (blk_cell BK191.out 1).trans rfl; have hcz34_2 : w8.cell? ⟨gb191, 2, none⟩ = some (.int .i64 0) := (blk_cell BK191.out 2).trans rfl; have hcz34_3 : w8.cell? ⟨gb191, 3, none⟩ = some (.string (⟨#[]⟩ : ByteArray)) := (blk_cell BK191.out 3).trans rfl; have hfz34_0 := blk_frozen BK191.out 0; have hfz34_1 := blk_frozen BK191.out 1; have hfz34_2 := blk_frozen BK191.out 2; have hfz34_3 := blk_frozen BK191.out 3; go_wp2_with (first | ((with_reducible refine gate_callee (f := 25) rfl ?_); refine goesL_ (some 14) rfl rfl Tryd.func25 (by kernel_rfl) rfl #[.int .i64 ((rd_T37 l0 a1).f0), .int .i64 1, .int .i64 4] rfl d6_1 ?_; (with_reducible refine (impl_in.calls ((rd_T37 l0 a1).f0) 1 4 true _ A11.out).mono ?_); rintro e w' ⟨rfl, ⟨nd, rfl⟩⟩; refine ⟨_, rfl, ?_⟩)); go_meet
          case rel => exact ⟨_, H', ⟨by first | omega | exact Nat.le_refl _⟩, ⟨c6_2⟩, ⟨by (with_reducible repeat first | apply b6N | apply b6D | apply b6L); refine blk_put (cs := #[.int .i64 ((rd_T37 l0 a1).f0), .int .i64 ((rd_T37 l0 a1).f1), .int .i64 ((rd_T37 l0 a1).f2), .string (⟨#[]⟩ : ByteArray)]) ?_ 3 _ rfl; (with_reducible repeat first | apply b6N | apply b6D | apply b6L); refine blk_put (cs := #[.int .i64 ((rd_T37 l0 a1).f0), .int .i64 ((rd_T37 l0 a1).f1), .int .i64 0, .string (⟨#[]⟩ : ByteArray)]) ?_ 2 _ rfl; (with_reducible repeat first | apply b6N | apply b6D | apply b6L); refine blk_put (cs := #[.int .i64 ((rd_T37 l0 a1).f0), .int .i64 0, .int .i64 0, .string (⟨#[]⟩ : ByteArray)]) ?_ 1 _ rfl; (with_reducible repeat first | apply b6N | apply b6D | apply b6L); refine blk_put (cs := #[.int .i64 0, .int .i64 0, .int .i64 0, .string (⟨#[]⟩ : ByteArray)]) ?_ 0 _ rfl; (with_reducible repeat first | apply b6N | apply b6D | apply b6L); exact BK191.out⟩, ⟨c6_1⟩⟩
         ·rw [if_neg c32] at H
          have c32b0 : (((rd_T37 l0 a1).f3).toList == ([] : List UInt8)) = false := beq_eq_false_iff_ne.mpr c32; have c32b1 : (((rd_T37 l0 a1).f3).toList != ([] : List UInt8)) = true := bne_iff_ne.mpr c32; by_cases c35 : ((rd_T37 l0 a1).f0) = 3
          ·rw [if_pos c35] at H
           have c35b0 : (((rd_T37 l0 a1).f0) == 3) = true := beq_iff_eq.mpr c35; have c35b1 : (((rd_T37 l0 a1).f0) != 3) = false := bne_eq_false_iff_eq.mpr c35; clear c35; have H' := ak H; clear H; have hnb36 := NB191_189.out; have hnc36 := NB189_191.out; have hcz37_0 : w8.cell? ⟨gb191, 0, none⟩ = some (.int .i64 0) := (blk_cell BK191.out 0).trans rfl; have hcz37_1 : w8.cell? ⟨gb191, 1, none⟩ = some (.int .i64 0) := (blk_cell BK191.out 1).trans rfl; have hcz37_2 : w8.cell? ⟨gb191, 2, none⟩ = some (.int .i64 0) := (blk_cell BK191.out 2).trans rfl; have hcz37_3 : w8.cell? ⟨gb191, 3, none⟩ = some (.string (⟨#[]⟩ : ByteArray)) := (blk_cell BK191.out 3).trans rfl; have hfz37_0 := blk_frozen BK191.out 0; have hfz37_1 := blk_frozen BK191.out 1; have hfz37_2 := blk_frozen BK191.out 2; have hfz37_3 := blk_frozen BK191.out 3; go_wp2_with (first | ((with_reducible refine gate_callee (f := 25) rfl ?_); refine goesL_ (some 14) rfl rfl Tryd.func25 (by kernel_rfl) rfl #[.int .i64 ((rd_T37 l0 a1).f0), .int .i64 1, .int .i64 4] rfl d6_1 ?_; (with_reducible refine (impl_in.calls ((rd_T37 l0 a1).f0) 1 4 true _ A11.out).mono ?_); rintro e w' ⟨rfl, ⟨nd, rfl⟩⟩; refine ⟨_, rfl, ?_⟩)); go_meet
           case rel => exact ⟨_, H', ⟨by first | omega | exact Nat.le_refl _⟩, ⟨c6_2⟩, ⟨by (with_reducible repeat first | apply b6N | apply b6D | apply b6L); refine blk_put (cs := #[.int .i64 ((rd_T37 l0 a1).f0), .int .i64 ((rd_T37 l0 a1).f1), .int .i64 ((rd_T37 l0 a1).f2), .string (⟨#[]⟩ : ByteArray)]) ?_ 3 _ rfl; (with_reducible repeat first | apply b6N | apply b6D | apply b6L); refine blk_put (cs := #[.int .i64 ((rd_T37 l0 a1).f0), .int .i64 ((rd_T37 l0 a1).f1), .int .i64 0, .string (⟨#[]⟩ : ByteArray)]) ?_ 2 _ rfl; (with_reducible repeat first | apply b6N | apply b6D | apply b6L); refine blk_put (cs := #[.int .i64 ((rd_T37 l0 a1).f0), .int .i64 0, .int .i64 0, .string (⟨#[]⟩ : ByteArray)]) ?_ 1 _ rfl; (with_reducible repeat first | apply b6N | apply b6D | apply b6L); refine blk_put (cs := #[.int .i64 0, .int .i64 0, .int .i64 0, .string (⟨#[]⟩ : ByteArray)]) ?_ 0 _ rfl; (with_reducible repeat first | apply b6N | apply b6D | apply b6L); exact BK191.out⟩, ⟨c6_1⟩⟩
          ·rw [if_neg c35] at H
           have c35b0 : (((rd_T37 l0 a1).f0) == 3) = false := beq_eq_false_iff_ne.mpr c35; have c35b1 : (((rd_T37 l0 a1).f0) != 3) = true := bne_iff_ne.mpr c35; obtain rfl := Option.some.inj H; have hnb38 := NB191_189.out; have hnc38 := NB189_191.out; have hcz39_0 : w8.cell? ⟨gb191, 0, none⟩ = some (.int .i64 0) := (blk_cell BK191.out 0).trans rfl; have hcz39_1 : w8.cell? ⟨gb191, 1, none⟩ = some (.int .i64 0) := (blk_cell BK191.out 1).trans rfl; have hcz39_2 : w8.cell? ⟨gb191, 2, none⟩ = some (.int .i64 0) := (blk_cell BK191.out 2).trans rfl; have hcz39_3 : w8.cell? ⟨gb191, 3, none⟩ = some (.string (⟨#[]⟩ : ByteArray)) := (blk_cell BK191.out 3).trans rfl; have hfz39_0 := blk_frozen BK191.out 0; have hfz39_1 := blk_frozen BK191.out 1; have hfz39_2 := blk_frozen BK191.out 2; have hfz39_3 := blk_frozen BK191.out 3; go_wp2_with (first | ((with_reducible refine gate_callee (f := 25) rfl ?_); refine goesL_ (some 14) rfl rfl Tryd.func25 (by kernel_rfl) rfl #[.int .i64 ((rd_T37 l0 a1).f0), .int .i64 1, .int .i64 4] rfl d6_1 ?_; (with_reducible refine (impl_in.calls ((rd_T37 l0 a1).f0) 1 4 true _ A11.out).mono ?_); rintro e w' ⟨rfl, ⟨nd, rfl⟩⟩; refine ⟨_, rfl, ?_⟩)); go_ret
           exact ⟨c6_3, c6_1⟩
        ·rw [if_neg c31] at H
         have c31b0 : (((rd_T37 l0 a1).f0) == 2) = false := beq_eq_false_iff_ne.mpr c31; have c31b1 : (((rd_T37 l0 a1).f0) != 2) = true := bne_iff_ne.mpr c31; obtain rfl := Option.some.inj H; have hnb40 := NB191_189.out; have hnc40 := NB189_191.out; have hcz41_0 : w8.cell? ⟨gb191, 0, none⟩ = some (.int .i64 0) := (blk_cell BK191.out 0).trans rfl; have hcz41_1 : w8.cell? ⟨gb191, 1, none⟩ = some (.int .i64 0) := (blk_cell BK191.out 1).trans rfl; have hcz41_2 : w8.cell? ⟨gb191, 2, none⟩ = some (.int .i64 0) := (blk_cell BK191.out 2).trans rfl; have hcz41_3 : w8.cell? ⟨gb191, 3, none⟩ = some (.string (⟨#[]⟩ : ByteArray)) := (blk_cell BK191.out 3).trans rfl; have hfz41_0 := blk_frozen BK191.out 0; have hfz41_1 := blk_frozen BK191.out 1; have hfz41_2 := blk_frozen BK191.out 2; have hfz41_3 := blk_frozen BK191.out 3; go_wp2_with (first | ((with_reducible refine gate_callee (f := 25) rfl ?_); refine goesL_ (some 14) rfl rfl Tryd.func25 (by kernel_rfl) rfl #[.int .i64 ((rd_T37 l0 a1).f0), .int .i64 1, .int .i64 4] rfl d6_1 ?_; (with_reducible refine (impl_in.calls ((rd_T37 l0 a1).f0) 1 4 true _ A11.out).mono ?_); rintro e w' ⟨rfl, ⟨nd, rfl⟩⟩; refine ⟨_, rfl, ?_⟩)); go_ret; exact ⟨c6_3, c6_1⟩
     ·replace c12 := Bool.eq_false_iff.mpr c12
      subst c12
      have H1 : (some 1) = some r := by rw [if_neg (show ¬ (false = true) by decide)] at H; exact H
      clear H; have H := H1; clear H1; obtain rfl := Option.some.inj H; have hnb42 := NB191_189.out; have hnc42 := NB189_191.out; have hcz43_0 : w8.cell? ⟨gb191, 0, none⟩ = some (.int .i64 0) := (blk_cell BK191.out 0).trans rfl; have hcz43_1 : w8.cell? ⟨gb191, 1, none⟩ = some (.int .i64 0) := (blk_cell BK191.out 1).trans rfl; have hcz43_2 : w8.cell? ⟨gb191, 2, none⟩ = some (.int .i64 0) := (blk_cell BK191.out 2).trans rfl; have hcz43_3 : w8.cell? ⟨gb191, 3, none⟩ = some (.string (⟨#[]⟩ : ByteArray)) := (blk_cell BK191.out 3).trans rfl; have hfz43_0 := blk_frozen BK191.out 0; have hfz43_1 := blk_frozen BK191.out 1; have hfz43_2 := blk_frozen BK191.out 2; have hfz43_3 := blk_frozen BK191.out 3; go_wp2_with (first | ((with_reducible refine gate_callee (f := 25) rfl ?_); refine goesL_ (some 14) rfl rfl Tryd.func25 (by kernel_rfl) rfl #[.int .i64 ((rd_T37 l0 a1).f0), .int .i64 1, .int .i64 4] rfl d6_1 ?_; (with_reducible refine (impl_in.calls ((rd_T37 l0 a1).f0) 1 4 false _ A11.out).mono ?_); rintro e w' ⟨rfl, ⟨nd, rfl⟩⟩; refine ⟨_, rfl, ?_⟩)); go_ret; exact ⟨c6_3, c6_1⟩
    case rest =>
     clear HC5
     try clear p1
     try clear q1
     try clear hx1
     try clear c2
     try clear c3
     try clear c3b0
     try clear c4
     try clear c4b0
     try clear c9
     try clear p19
     try clear q19
     try clear hx19
     try clear c26
     try clear hcz10_0
     try clear hcz10_1
     try clear hcz10_2
     try clear hcz10_3
     try clear hcz7_0
     try clear hfz10_0
     try clear hfz10_1
     try clear hfz10_2
     try clear hfz10_3
     try clear hfz7_0
     try clear hx190_0
     try clear hx190_1
     try clear hx190_2
     try clear hx190_3
     try clear p190
     try clear q190
     obtain ⟨kq, HA, HJ4, BK189, BK191, HB⟩ := hcut
     cases kq with
     | zero => exact absurd HA.out (by simp [impl_datumFault.j0])
     | succ kj4 =>
      have H := HA.out; clear HA; simp only [impl_datumFault.j0] at H; replace H := Option.bind_eq_some_iff.mp H; obtain ⟨t193, A440, H⟩ := H; replace H : (if t193 = 0 then (if a1 = 0 then (if ((rd_T37 l0 a1).f1) = (-1) then (some 0) else (some 3)) else ((impl_in.f ((rd_T37 l0 a1).f1) 0 (wrap64 (a1 - 1))).bind fun t194 => (if t194 = true then (if 0 ≤ ((rd_T37 l0 a1).f1) then (if ((rd_T37 l0 a1).f1) < (l0.length : Int) then (if ((rd_T37 l0 ((rd_T37 l0 a1).f1)).f0) = 4 then ((impl_isUp__impl_datumFault_1.f kj4 l0 (wrap64 (a1 - 1)) ((rd_T37 l0 a1).f1)).bind fun t196 => (impl_datumFault.j1 kj4 a1 (!t196) l0)) else (impl_datumFault.j1 kj4 a1 true l0)) else (none)) else (none)) else (some 3)))) else (some t193)) = some r := H; have A44 := ak A440; clear A440; by_cases c45 : t193 = 0
      ·rw [if_pos c45] at H
       have c45b0 : (t193 == 0) = true := beq_iff_eq.mpr c45; have c45b1 : (t193 != 0) = false := bne_eq_false_iff_eq.mpr c45; clear c45; by_cases c46 : a1 = 0
       ·rw [if_pos c46] at H
        have c46b0 : (a1 == 0) = true := beq_iff_eq.mpr c46; have c46b1 : (a1 != 0) = false := bne_eq_false_iff_eq.mpr c46; clear c46; by_cases c47 : ((rd_T37 l0 a1).f1) = (-1)
        ·rw [if_pos c47] at H
         have c47b0 : (((rd_T37 l0 a1).f1) == (-1)) = true := beq_iff_eq.mpr c47; have c47b1 : (((rd_T37 l0 a1).f1) != (-1)) = false := bne_eq_false_iff_eq.mpr c47; clear c47; obtain rfl := Option.some.inj H; have hnb48 := NB191_189.out; have hnc48 := NB189_191.out; have hcz49_0 : wc.cell? ⟨gb191, 0, none⟩ = some (.int .i64 ((rd_T37 l0 a1).f0)) := (blk_cell BK191.out 0).trans rfl; have hcz49_1 : wc.cell? ⟨gb191, 1, none⟩ = some (.int .i64 ((rd_T37 l0 a1).f1)) := (blk_cell BK191.out 1).trans rfl; have hcz49_2 : wc.cell? ⟨gb191, 2, none⟩ = some (.int .i64 ((rd_T37 l0 a1).f2)) := (blk_cell BK191.out 2).trans rfl; have hcz49_3 : wc.cell? ⟨gb191, 3, none⟩ = some (.string ((rd_T37 l0 a1).f3)) := (blk_cell BK191.out 3).trans rfl; have hfz49_0 := blk_frozen BK191.out 0; have hfz49_1 := blk_frozen BK191.out 1; have hfz49_2 := blk_frozen BK191.out 2; have hfz49_3 := blk_frozen BK191.out 3
         go_wp2_with (first | ((with_reducible refine gate_callee (f := 32) rfl ?_); refine goesL_ (some 47) rfl rfl Tryd.func32 (by kernel_rfl) rfl #[.int .i64 ((rd_T37 l0 a1).f0), .int .i64 1, .int .i64 3, .int .i64 2, .int .i64 ((rd_T37 l0 a1).f2), .string ((rd_T37 l0 a1).f3)] rfl d6_1 ?_; (with_reducible refine (impl_kindFault.calls ((rd_T37 l0 a1).f0) 1 3 2 ((rd_T37 l0 a1).f2) ((rd_T37 l0 a1).f3) t193 _ A44.out).mono ?_); rintro e w50 ⟨rfl, hb⟩; refine ⟨_, rfl, ?_⟩; have n0_ := ak (blk_below (g := gb189) (o := .cells #[.slice (some ad190) l0.length c0] 27 (0, 0)) d6_2 hb); have n1_ := ak (blk_below (g := gb191) (o := .cells #[.int .i64 ((rd_T37 l0 a1).f0), .int .i64 ((rd_T37 l0 a1).f1), .int .i64 ((rd_T37 l0 a1).f2), .string ((rd_T37 l0 a1).f3)] 37 (0, 0)) d6_4 hb); have n2_ := ak (below_step d6_3 hb); clear BK189 BK191 HB; have BK189 := n0_; have BK191 := n1_; have HB := n2_; clear n0_ n1_ n2_; (try clear hb); have hcz51_0 : w50.cell? ⟨gb191, 0, none⟩ = some (.int .i64 ((rd_T37 l0 a1).f0)) := (blk_cell BK191.out 0).trans rfl; have hcz51_1 : w50.cell? ⟨gb191, 1, none⟩ = some (.int .i64 ((rd_T37 l0 a1).f1)) := (blk_cell BK191.out 1).trans rfl; have hcz51_2 : w50.cell? ⟨gb191, 2, none⟩ = some (.int .i64 ((rd_T37 l0 a1).f2)) := (blk_cell BK191.out 2).trans rfl; have hcz51_3 : w50.cell? ⟨gb191, 3, none⟩ = some (.string ((rd_T37 l0 a1).f3)) := (blk_cell BK191.out 3).trans rfl; have hfz51_0 := blk_frozen BK191.out 0; have hfz51_1 := blk_frozen BK191.out 1; have hfz51_2 := blk_frozen BK191.out 2; have hfz51_3 := blk_frozen BK191.out 3))
         go_ret; exact ⟨c6_3, c6_1⟩
        ·rw [if_neg c47] at H
         have c47b0 : (((rd_T37 l0 a1).f1) == (-1)) = false := beq_eq_false_iff_ne.mpr c47; have c47b1 : (((rd_T37 l0 a1).f1) != (-1)) = true := bne_iff_ne.mpr c47; obtain rfl := Option.some.inj H; have hnb52 := NB191_189.out; have hnc52 := NB189_191.out; have hcz53_0 : wc.cell? ⟨gb191, 0, none⟩ = some (.int .i64 ((rd_T37 l0 a1).f0)) := (blk_cell BK191.out 0).trans rfl; have hcz53_1 : wc.cell? ⟨gb191, 1, none⟩ = some (.int .i64 ((rd_T37 l0 a1).f1)) := (blk_cell BK191.out 1).trans rfl; have hcz53_2 : wc.cell? ⟨gb191, 2, none⟩ = some (.int .i64 ((rd_T37 l0 a1).f2)) := (blk_cell BK191.out 2).trans rfl; have hcz53_3 : wc.cell? ⟨gb191, 3, none⟩ = some (.string ((rd_T37 l0 a1).f3)) := (blk_cell BK191.out 3).trans rfl; have hfz53_0 := blk_frozen BK191.out 0; have hfz53_1 := blk_frozen BK191.out 1; have hfz53_2 := blk_frozen BK191.out 2; have hfz53_3 := blk_frozen BK191.out 3
         go_wp2_with (first | ((with_reducible refine gate_callee (f := 32) rfl ?_); refine goesL_ (some 47) rfl rfl Tryd.func32 (by kernel_rfl) rfl #[.int .i64 ((rd_T37 l0 a1).f0), .int .i64 1, .int .i64 3, .int .i64 2, .int .i64 ((rd_T37 l0 a1).f2), .string ((rd_T37 l0 a1).f3)] rfl d6_1 ?_; (with_reducible refine (impl_kindFault.calls ((rd_T37 l0 a1).f0) 1 3 2 ((rd_T37 l0 a1).f2) ((rd_T37 l0 a1).f3) t193 _ A44.out).mono ?_); rintro e w54 ⟨rfl, hb⟩; refine ⟨_, rfl, ?_⟩; have n0_ := ak (blk_below (g := gb189) (o := .cells #[.slice (some ad190) l0.length c0] 27 (0, 0)) d6_2 hb); have n1_ := ak (blk_below (g := gb191) (o := .cells #[.int .i64 ((rd_T37 l0 a1).f0), .int .i64 ((rd_T37 l0 a1).f1), .int .i64 ((rd_T37 l0 a1).f2), .string ((rd_T37 l0 a1).f3)] 37 (0, 0)) d6_4 hb); have n2_ := ak (below_step d6_3 hb); clear BK189 BK191 HB; have BK189 := n0_; have BK191 := n1_; have HB := n2_; clear n0_ n1_ n2_; (try clear hb); have hcz55_0 : w54.cell? ⟨gb191, 0, none⟩ = some (.int .i64 ((rd_T37 l0 a1).f0)) := (blk_cell BK191.out 0).trans rfl; have hcz55_1 : w54.cell? ⟨gb191, 1, none⟩ = some (.int .i64 ((rd_T37 l0 a1).f1)) := (blk_cell BK191.out 1).trans rfl; have hcz55_2 : w54.cell? ⟨gb191, 2, none⟩ = some (.int .i64 ((rd_T37 l0 a1).f2)) := (blk_cell BK191.out 2).trans rfl; have hcz55_3 : w54.cell? ⟨gb191, 3, none⟩ = some (.string ((rd_T37 l0 a1).f3)) := (blk_cell BK191.out 3).trans rfl; have hfz55_0 := blk_frozen BK191.out 0; have hfz55_1 := blk_frozen BK191.out 1; have hfz55_2 := blk_frozen BK191.out 2; have hfz55_3 := blk_frozen BK191.out 3))
         go_ret; exact ⟨c6_3, c6_1⟩
       ·rw [if_neg c46] at H
        have c46b0 : (a1 == 0) = false := beq_eq_false_iff_ne.mpr c46; have c46b1 : (a1 != 0) = true := bne_iff_ne.mpr c46; replace H := Option.bind_eq_some_iff.mp H; obtain ⟨t194, A560, H⟩ := H; replace H : (if t194 = true then (if 0 ≤ ((rd_T37 l0 a1).f1) then (if ((rd_T37 l0 a1).f1) < (l0.length : Int) then (if ((rd_T37 l0 ((rd_T37 l0 a1).f1)).f0) = 4 then ((impl_isUp__impl_datumFault_1.f kj4 l0 (wrap64 (a1 - 1)) ((rd_T37 l0 a1).f1)).bind fun t196 => (impl_datumFault.j1 kj4 a1 (!t196) l0)) else (impl_datumFault.j1 kj4 a1 true l0)) else (none)) else (none)) else (some 3)) = some r := H; have A56 := ak A560; clear A560; by_cases c57 : t194 = true
        ·subst c57
         have H1 : (if 0 ≤ ((rd_T37 l0 a1).f1) then (if ((rd_T37 l0 a1).f1) < (l0.length : Int) then (if ((rd_T37 l0 ((rd_T37 l0 a1).f1)).f0) = 4 then ((impl_isUp__impl_datumFault_1.f kj4 l0 (wrap64 (a1 - 1)) ((rd_T37 l0 a1).f1)).bind fun t196 => (impl_datumFault.j1 kj4 a1 (!t196) l0)) else (impl_datumFault.j1 kj4 a1 true l0)) else (none)) else (none)) = some r := by rw [if_pos rfl] at H; exact H
         clear H; have H := H1; clear H1; have HC58 := ak H; clear H; have hnb59 := NB191_189.out; have hnc59 := NB189_191.out; have hcz60_0 : wc.cell? ⟨gb191, 0, none⟩ = some (.int .i64 ((rd_T37 l0 a1).f0)) := (blk_cell BK191.out 0).trans rfl; have hcz60_1 : wc.cell? ⟨gb191, 1, none⟩ = some (.int .i64 ((rd_T37 l0 a1).f1)) := (blk_cell BK191.out 1).trans rfl; have hcz60_2 : wc.cell? ⟨gb191, 2, none⟩ = some (.int .i64 ((rd_T37 l0 a1).f2)) := (blk_cell BK191.out 2).trans rfl; have hcz60_3 : wc.cell? ⟨gb191, 3, none⟩ = some (.string ((rd_T37 l0 a1).f3)) := (blk_cell BK191.out 3).trans rfl; have hfz60_0 := blk_frozen BK191.out 0; have hfz60_1 := blk_frozen BK191.out 1; have hfz60_2 := blk_frozen BK191.out 2; have hfz60_3 := blk_frozen BK191.out 3
         go_upto_region 13 with (first | ((with_reducible refine gate_callee (f := 32) rfl ?_); refine goesL_ (some 47) rfl rfl Tryd.func32 (by kernel_rfl) rfl #[.int .i64 ((rd_T37 l0 a1).f0), .int .i64 1, .int .i64 3, .int .i64 2, .int .i64 ((rd_T37 l0 a1).f2), .string ((rd_T37 l0 a1).f3)] rfl d6_1 ?_; (with_reducible refine (impl_kindFault.calls ((rd_T37 l0 a1).f0) 1 3 2 ((rd_T37 l0 a1).f2) ((rd_T37 l0 a1).f3) t193 _ A44.out).mono ?_); rintro e w61 ⟨rfl, hb⟩; refine ⟨_, rfl, ?_⟩; have n0_ := ak (blk_below (g := gb189) (o := .cells #[.slice (some ad190) l0.length c0] 27 (0, 0)) d6_2 hb); have n1_ := ak (blk_below (g := gb191) (o := .cells #[.int .i64 ((rd_T37 l0 a1).f0), .int .i64 ((rd_T37 l0 a1).f1), .int .i64 ((rd_T37 l0 a1).f2), .string ((rd_T37 l0 a1).f3)] 37 (0, 0)) d6_4 hb); have n2_ := ak (below_step d6_3 hb); clear BK189 BK191 HB; have BK189 := n0_; have BK191 := n1_; have HB := n2_; clear n0_ n1_ n2_; (try clear hb); have hcz62_0 : w61.cell? ⟨gb191, 0, none⟩ = some (.int .i64 ((rd_T37 l0 a1).f0)) := (blk_cell BK191.out 0).trans rfl; have hcz62_1 : w61.cell? ⟨gb191, 1, none⟩ = some (.int .i64 ((rd_T37 l0 a1).f1)) := (blk_cell BK191.out 1).trans rfl; have hcz62_2 : w61.cell? ⟨gb191, 2, none⟩ = some (.int .i64 ((rd_T37 l0 a1).f2)) := (blk_cell BK191.out 2).trans rfl; have hcz62_3 : w61.cell? ⟨gb191, 3, none⟩ = some (.string ((rd_T37 l0 a1).f3)) := (blk_cell BK191.out 3).trans rfl; have hfz62_0 := blk_frozen BK191.out 0; have hfz62_1 := blk_frozen BK191.out 1; have hfz62_2 := blk_frozen BK191.out 2; have hfz62_3 := blk_frozen BK191.out 3) | ((with_reducible refine gate_callee (f := 25) rfl ?_); refine goesL_ (some 61) rfl rfl Tryd.func25 (by kernel_rfl) rfl #[.int .i64 ((rd_T37 l0 a1).f1), .int .i64 0, .int .i64 (wrap64 (a1 - 1))] rfl d6_1 ?_; (with_reducible refine (impl_in.calls ((rd_T37 l0 a1).f1) 0 (wrap64 (a1 - 1)) true _ A56.out).mono ?_); rintro e w' ⟨rfl, ⟨nd, rfl⟩⟩; refine ⟨_, rfl, ?_⟩))
         (try simp only [Act.put, List.setIfInBounds_toArray, List.set_cons_zero, List.set_cons_succ])
         go_cut [63] (fun v63 wc => ∃ (kq : Nat) (x63_57 : Bool), v63 = .bool x63_57 ∧ Aside0 (impl_datumFault.j1 kq a1 x63_57 l0 = some r) ∧ Aside0 (kq ≤ kj4) ∧ Aside0 (wc.heap[gb189]? = some (.cells #[(.slice (some ad190) l0.length c0)] 27 (0, 0))) ∧ Aside0 (wc.heap[gb191]? = some (.cells #[.int .i64 ((rd_T37 l0 a1).f0), .int .i64 ((rd_T37 l0 a1).f1), .int .i64 ((rd_T37 l0 a1).f2), .string ((rd_T37 l0 a1).f3)] 37 (0, 0))) ∧ Aside0 (Below w.heap.size w wc))
         case first =>
          have H := HC58.out; clear HC58; by_cases c63 : 0 ≤ ((rd_T37 l0 a1).f1)
          ·rw [if_pos c63] at H
           have c63b0 : decide (0 ≤ ((rd_T37 l0 a1).f1)) = true := decide_eq_true c63; clear c63
           (first | rw [c63b0] | (simp only [i64_w, i32_w]; rw [c63b0]) | skip)
           by_cases c64 : ((rd_T37 l0 a1).f1) < (l0.length : Int)
           ·rw [if_pos c64] at H
            have c64b0 : decide (((rd_T37 l0 a1).f1) < (l0.length : Int)) = true := decide_eq_true c64; clear c64; by_cases c65 : ((rd_T37 l0 ((rd_T37 l0 a1).f1)).f0) = 4
            ·rw [if_pos c65] at H
             have c65b0 : (((rd_T37 l0 ((rd_T37 l0 a1).f1)).f0) == 4) = true := beq_iff_eq.mpr c65; have c65b1 : (((rd_T37 l0 ((rd_T37 l0 a1).f1)).f0) != 4) = false := bne_eq_false_iff_eq.mpr c65; clear c65; replace H := Option.bind_eq_some_iff.mp H; obtain ⟨t196, A660, H⟩ := H; replace H : (impl_datumFault.j1 kj4 a1 (!t196) l0) = some r := H; have A66 := ak A660; clear A660; have H' := ak H; clear H; have hnb67 := NB189_191.out; have hnc67 := NB191_189.out; have hcz68_0 : w61.cell? ⟨gb189, 0, none⟩ = some (.slice (some ad190) l0.length c0) := (blk_cell BK189.out 0).trans rfl; have hfz68_0 := blk_frozen BK189.out 0; have hcz69_0 : w61.cell? ⟨gb191, 0, none⟩ = some (.int .i64 ((rd_T37 l0 a1).f0)) := (blk_cell BK191.out 0).trans rfl; have hcz69_1 : w61.cell? ⟨gb191, 1, none⟩ = some (.int .i64 ((rd_T37 l0 a1).f1)) := (blk_cell BK191.out 1).trans rfl; have hcz69_2 : w61.cell? ⟨gb191, 2, none⟩ = some (.int .i64 ((rd_T37 l0 a1).f2)) := (blk_cell BK191.out 2).trans rfl; have hcz69_3 : w61.cell? ⟨gb191, 3, none⟩ = some (.string ((rd_T37 l0 a1).f3)) := (blk_cell BK191.out 3).trans rfl; have hfz69_0 := blk_frozen BK191.out 0; have hfz69_1 := blk_frozen BK191.out 1; have hfz69_2 := blk_frozen BK191.out 2; have hfz69_3 := blk_frozen BK191.out 3; have p195 : 0 ≤ (((rd_T37 l0 a1).f1) : Int) := of_decide_eq_true (by first | (with_reducible assumption) | assumption)
             have q195 : ((rd_T37 l0 a1).f1) < (l0.length : Int) := of_decide_eq_true (by first | (with_reducible assumption) | assumption); obtain ⟨ad195, e195, hx195_0, hx195_1, hx195_2, hx195_3⟩ := at_T37 HR0.out ((rd_T37 l0 a1).f1) p195 q195; obtain rfl : ad190 = ad195 := (by injection e195); replace hx195_0 := (HB.out.cell (World.block_lt_of_cell? w _ hx195_0)).trans hx195_0; replace hx195_1 := (HB.out.cell (World.block_lt_of_cell? w _ hx195_1)).trans hx195_1; replace hx195_2 := (HB.out.cell (World.block_lt_of_cell? w _ hx195_2)).trans hx195_2; replace hx195_3 := (HB.out.cell (World.block_lt_of_cell? w _ hx195_3)).trans hx195_3; replace p195 := eq_true p195; replace q195 := eq_true q195; go_wp2_with (first | (go_at_call 33; (with_reducible refine (impl_isUp__impl_datumFault_1.calls kj4 _ (some ad190) c0 l0 (wrap64 (a1 - 1)) ((rd_T37 l0 a1).f1) t196 _ ?side1 ?side2 ?side3 A66.out).mono ?_); (case side1 => first | exact hcz68_0 | (refine Eq.trans ?_ hcz68_0; simp only [go_sem]) | exact ((blk_cell d6_2 0).trans rfl) | (refine Eq.trans ?_ ((blk_cell d6_2 0).trans rfl); simp only [go_sem])); (case side2 => exact c6_4); (case side3 => exact HC0.out); rintro e w' ⟨rfl, ⟨nd, rfl⟩⟩)); go_meet
             case rel => exact ⟨_, (!t196), (by first | rfl | (simp; done) | (simp [*]; done) | (simp [ne_nil_b, eq_nil_b]; done)), H', ⟨by have := HJ4.out; first | omega | exact Nat.le_refl _⟩, ⟨by (with_reducible repeat first | apply b6N | apply b6D | apply b6L); exact BK189.out⟩, ⟨by (with_reducible repeat first | apply b6N | apply b6D | apply b6L); exact BK191.out⟩, ⟨c6_1⟩⟩
            ·rw [if_neg c65] at H
             have c65b0 : (((rd_T37 l0 ((rd_T37 l0 a1).f1)).f0) == 4) = false := beq_eq_false_iff_ne.mpr c65; have c65b1 : (((rd_T37 l0 ((rd_T37 l0 a1).f1)).f0) != 4) = true := bne_iff_ne.mpr c65; have H' := ak H; clear H; have hnb70 := NB189_191.out; have hnc70 := NB191_189.out; have hcz71_0 : w61.cell? ⟨gb189, 0, none⟩ = some (.slice (some ad190) l0.length c0) := (blk_cell BK189.out 0).trans rfl; have hfz71_0 := blk_frozen BK189.out 0; have hcz72_0 : w61.cell? ⟨gb191, 0, none⟩ = some (.int .i64 ((rd_T37 l0 a1).f0)) := (blk_cell BK191.out 0).trans rfl; have hcz72_1 : w61.cell? ⟨gb191, 1, none⟩ = some (.int .i64 ((rd_T37 l0 a1).f1)) := (blk_cell BK191.out 1).trans rfl; have hcz72_2 : w61.cell? ⟨gb191, 2, none⟩ = some (.int .i64 ((rd_T37 l0 a1).f2)) := (blk_cell BK191.out 2).trans rfl; have hcz72_3 : w61.cell? ⟨gb191, 3, none⟩ = some (.string ((rd_T37 l0 a1).f3)) := (blk_cell BK191.out 3).trans rfl; have hfz72_0 := blk_frozen BK191.out 0; have hfz72_1 := blk_frozen BK191.out 1; have hfz72_2 := blk_frozen BK191.out 2; have hfz72_3 := blk_frozen BK191.out 3; have p195 : 0 ≤ (((rd_T37 l0 a1).f1) : Int) := of_decide_eq_true (by first | (with_reducible assumption) | assumption); have q195 : ((rd_T37 l0 a1).f1) < (l0.length : Int) := of_decide_eq_true (by first | (with_reducible assumption) | assumption); obtain ⟨ad195, e195, hx195_0, hx195_1, hx195_2, hx195_3⟩ := at_T37 HR0.out ((rd_T37 l0 a1).f1) p195 q195; obtain rfl : ad190 = ad195 := (by injection e195)
             replace hx195_0 := (HB.out.cell (World.block_lt_of_cell? w _ hx195_0)).trans hx195_0; replace hx195_1 := (HB.out.cell (World.block_lt_of_cell? w _ hx195_1)).trans hx195_1; replace hx195_2 := (HB.out.cell (World.block_lt_of_cell? w _ hx195_2)).trans hx195_2; replace hx195_3 := (HB.out.cell (World.block_lt_of_cell? w _ hx195_3)).trans hx195_3; replace p195 := eq_true p195; replace q195 := eq_true q195; go_wp2; go_meet
             case rel => exact ⟨_, (true), (by first | rfl | (simp; done) | (simp [*]; done) | (simp [ne_nil_b, eq_nil_b]; done)), H', ⟨by have := HJ4.out; first | omega | exact Nat.le_refl _⟩, ⟨by (with_reducible repeat first | apply b6N | apply b6D | apply b6L); exact BK189.out⟩, ⟨by (with_reducible repeat first | apply b6N | apply b6D | apply b6L); exact BK191.out⟩, ⟨c6_1⟩⟩
           ·rw [if_neg c64] at H
            exact absurd H (by simp)
          ·rw [if_neg c63] at H
           exact absurd H (by simp)
         case rest =>
          clear HC58
          try clear c1
          try clear p1
          try clear q1
          try clear hx1
          try clear c2
          try clear p2
          try clear c3
          try clear c3b0
          try clear c4
          try clear c4b0
          try clear c5
          try clear p6
          try clear c9
          try clear c12
          try clear c13
          try clear c13b0
          try clear c13b1
          try clear c14
          try clear c14b0
          try clear c14b1
          try clear c15
          try clear c17
          try clear c17b0
          try clear c17b1
          try clear c18
          try clear p19
          try clear q19
          try clear hx19
          try clear c20
          try clear c22
          try clear c22b0
          try clear c22b1
          try clear c23
          try clear c23b0
          try clear c23b1
          try clear c24
          try clear c25
          try clear c26
          try clear c26b0
          try clear c26b1
          try clear c27
          try clear c29
          try clear c31
          try clear c31b0
          try clear c31b1
          try clear c32
          try clear c32b0
          try clear c32b1
          try clear c33
          try clear c35
          try clear c35b0
          try clear c35b1
          try clear c36
          try clear c38
          try clear c40
          try clear c42
          try clear c45
          try clear c45b0
          try clear c45b1
          try clear c46
          try clear c46b0
          try clear c46b1
          try clear c47
          try clear c47b0
          try clear c47b1
          try clear c48
          try clear c52
          try clear c57
          try clear c59
          try clear p64
          try clear hcz10_0
          try clear hcz10_1
          try clear hcz10_2
          try clear hcz10_3
          try clear hcz16_0
          try clear hcz16_1
          try clear hcz16_2
          try clear hcz16_3
          try clear hcz19_0
          try clear hcz19_1
          try clear hcz19_2
          try clear hcz19_3
          try clear hcz21_0
          try clear hcz21_1
          try clear hcz21_2
          try clear hcz21_3
          try clear hcz25_0
          try clear hcz25_1
          try clear hcz25_2
          try clear hcz25_3
          try clear hcz28_0
          try clear hcz28_1
          try clear hcz28_2
          try clear hcz28_3
          try clear hcz30_0
          try clear hcz30_1
          try clear hcz30_2
          try clear hcz30_3
          try clear hcz34_0
          try clear hcz34_1
          try clear hcz34_2
          try clear hcz34_3
          try clear hcz37_0
          try clear hcz37_1
          try clear hcz37_2
          try clear hcz37_3
          try clear hcz39_0
          try clear hcz39_1
          try clear hcz39_2
          try clear hcz39_3
          try clear hcz41_0
          try clear hcz41_1
          try clear hcz41_2
          try clear hcz41_3
          try clear hcz43_0
          try clear hcz43_1
          try clear hcz43_2
          try clear hcz43_3
          try clear hcz49_0
          try clear hcz49_1
          try clear hcz49_2
          try clear hcz49_3
          try clear hcz51_0
          try clear hcz51_1
          try clear hcz51_2
          try clear hcz51_3
          try clear hcz53_0
          try clear hcz53_1
          try clear hcz53_2
          try clear hcz53_3
          try clear hcz55_0
          try clear hcz55_1
          try clear hcz55_2
          try clear hcz55_3
          try clear hcz60_0
          try clear hcz60_1
          try clear hcz60_2
          try clear hcz60_3
          try clear hcz62_0
          try clear hcz62_1
          try clear hcz62_2
          try clear hcz62_3
          try clear hcz7_0
          try clear hfz10_0
          try clear hfz10_1
          try clear hfz10_2
          try clear hfz10_3
          try clear hfz16_0
          try clear hfz16_1
          try clear hfz16_2
          try clear hfz16_3
          try clear hfz19_0
          try clear hfz19_1
          try clear hfz19_2
          try clear hfz19_3
          try clear hfz21_0
          try clear hfz21_1
          try clear hfz21_2
          try clear hfz21_3
          try clear hfz25_0
          try clear hfz25_1
          try clear hfz25_2
          try clear hfz25_3
          try clear hfz28_0
          try clear hfz28_1
          try clear hfz28_2
          try clear hfz28_3
          try clear hfz30_0
          try clear hfz30_1
          try clear hfz30_2
          try clear hfz30_3
          try clear hfz34_0
          try clear hfz34_1
          try clear hfz34_2
          try clear hfz34_3
          try clear hfz37_0
          try clear hfz37_1
          try clear hfz37_2
          try clear hfz37_3
          try clear hfz39_0
          try clear hfz39_1
          try clear hfz39_2
          try clear hfz39_3
          try clear hfz41_0
          try clear hfz41_1
          try clear hfz41_2
          try clear hfz41_3
          try clear hfz43_0
          try clear hfz43_1
          try clear hfz43_2
          try clear hfz43_3
          try clear hfz49_0
          try clear hfz49_1
          try clear hfz49_2
          try clear hfz49_3
          try clear hfz51_0
          try clear hfz51_1
          try clear hfz51_2
          try clear hfz51_3
          try clear hfz53_0
          try clear hfz53_1
          try clear hfz53_2
          try clear hfz53_3
          try clear hfz55_0
          try clear hfz55_1
          try clear hfz55_2
          try clear hfz55_3
          try clear hfz60_0
          try clear hfz60_1
          try clear hfz60_2
          try clear hfz60_3
          try clear hfz62_0
          try clear hfz62_1
          try clear hfz62_2
          try clear hfz62_3
          try clear hfz7_0
          try clear hx190_0
          try clear hx190_1
          try clear hx190_2
          try clear hx190_3
          try clear p1
          try clear p19
          try clear p190
          try clear q1
          try clear q19
          try clear q190
          obtain ⟨kq, x63_57, rfl, HA, HJ57, BK189, BK191, HB⟩ := hcut
          cases kq with
          | zero => exact absurd HA.out (by simp [impl_datumFault.j1])
          | succ kj57 =>
           have H := HA.out; clear HA; simp only [impl_datumFault.j1] at H; by_cases c73 : x63_57 = true
           ·subst c73
            have H1 : (some 1) = some r := by rw [if_pos rfl] at H; exact H
            clear H; have H := H1; clear H1; obtain rfl := Option.some.inj H; go_wp2; go_ret; exact ⟨c6_3, c6_1⟩
           ·replace c73 := Bool.eq_false_iff.mpr c73
            subst c73
            have H1 : ((impl_deep.f kj57 l0 a1).bind fun t197 => (if t197 > 12 then (some 2) else (some 0))) = some r := by rw [if_neg (show ¬ (false = true) by decide)] at H; exact H
            clear H; have H := H1; clear H1; replace H := Option.bind_eq_some_iff.mp H; obtain ⟨t197, A740, H⟩ := H; replace H : (if t197 > 12 then (some 2) else (some 0)) = some r := H; have A74 := ak A740; clear A740; by_cases c75 : t197 > 12
            ·rw [if_pos c75] at H
             have c75b0 : decide (12 < t197) = true := decide_eq_true c75; clear c75; obtain rfl := Option.some.inj H; have hnb76 := NB189_191.out; have hnc76 := NB191_189.out; have hcz77_0 : wc.cell? ⟨gb189, 0, none⟩ = some (.slice (some ad190) l0.length c0) := (blk_cell BK189.out 0).trans rfl; have hfz77_0 := blk_frozen BK189.out 0; go_wp2_with (first | ((with_reducible refine gate_callee (f := 35) rfl ?_); refine goesL_ (some 83) rfl rfl Tryd.func35 (by kernel_rfl) rfl #[.slice (some ad190) l0.length c0, .int .i64 a1] rfl d6_1 ?_; (with_reducible refine (impl_deep.calls kj57 _ _ l0 a1 t197 _ ?side1 ?side2 A74.out).mono ?_); (case side1 => exact c6_4); (case side2 => exact HC0.out); rintro e w' ⟨rfl, ⟨nd, rfl⟩⟩; refine ⟨_, rfl, ?_⟩)); go_ret; exact ⟨c6_3, c6_1⟩
            ·rw [if_neg c75] at H
             have c75b0 : decide (12 < t197) = false := decide_eq_false c75; clear c75; obtain rfl := Option.some.inj H; have hnb78 := NB189_191.out; have hnc78 := NB191_189.out; have hcz79_0 : wc.cell? ⟨gb189, 0, none⟩ = some (.slice (some ad190) l0.length c0) := (blk_cell BK189.out 0).trans rfl; have hfz79_0 := blk_frozen BK189.out 0; go_wp2_with (first | ((with_reducible refine gate_callee (f := 35) rfl ?_); refine goesL_ (some 83) rfl rfl Tryd.func35 (by kernel_rfl) rfl #[.slice (some ad190) l0.length c0, .int .i64 a1] rfl d6_1 ?_; (with_reducible refine (impl_deep.calls kj57 _ _ l0 a1 t197 _ ?side1 ?side2 A74.out).mono ?_); (case side1 => exact c6_4); (case side2 => exact HC0.out); rintro e w' ⟨rfl, ⟨nd, rfl⟩⟩; refine ⟨_, rfl, ?_⟩)); go_ret; exact ⟨c6_3, c6_1⟩
        ·replace c57 := Bool.eq_false_iff.mpr c57
         subst c57
         have H1 : (some 3) = some r := by rw [if_neg (show ¬ (false = true) by decide)] at H; exact H
         clear H; have H := H1; clear H1; obtain rfl := Option.some.inj H; have hnb80 := NB191_189.out; have hnc80 := NB189_191.out; have hcz81_0 : wc.cell? ⟨gb191, 0, none⟩ = some (.int .i64 ((rd_T37 l0 a1).f0)) := (blk_cell BK191.out 0).trans rfl; have hcz81_1 : wc.cell? ⟨gb191, 1, none⟩ = some (.int .i64 ((rd_T37 l0 a1).f1)) := (blk_cell BK191.out 1).trans rfl; have hcz81_2 : wc.cell? ⟨gb191, 2, none⟩ = some (.int .i64 ((rd_T37 l0 a1).f2)) := (blk_cell BK191.out 2).trans rfl; have hcz81_3 : wc.cell? ⟨gb191, 3, none⟩ = some (.string ((rd_T37 l0 a1).f3)) := (blk_cell BK191.out 3).trans rfl; have hfz81_0 := blk_frozen BK191.out 0; have hfz81_1 := blk_frozen BK191.out 1; have hfz81_2 := blk_frozen BK191.out 2; have hfz81_3 := blk_frozen BK191.out 3
         go_wp2_with (first | ((with_reducible refine gate_callee (f := 32) rfl ?_); refine goesL_ (some 47) rfl rfl Tryd.func32 (by kernel_rfl) rfl #[.int .i64 ((rd_T37 l0 a1).f0), .int .i64 1, .int .i64 3, .int .i64 2, .int .i64 ((rd_T37 l0 a1).f2), .string ((rd_T37 l0 a1).f3)] rfl d6_1 ?_; (with_reducible refine (impl_kindFault.calls ((rd_T37 l0 a1).f0) 1 3 2 ((rd_T37 l0 a1).f2) ((rd_T37 l0 a1).f3) t193 _ A44.out).mono ?_); rintro e w82 ⟨rfl, hb⟩; refine ⟨_, rfl, ?_⟩; have n0_ := ak (blk_below (g := gb189) (o := .cells #[.slice (some ad190) l0.length c0] 27 (0, 0)) d6_2 hb); have n1_ := ak (blk_below (g := gb191) (o := .cells #[.int .i64 ((rd_T37 l0 a1).f0), .int .i64 ((rd_T37 l0 a1).f1), .int .i64 ((rd_T37 l0 a1).f2), .string ((rd_T37 l0 a1).f3)] 37 (0, 0)) d6_4 hb); have n2_ := ak (below_step d6_3 hb); clear BK189 BK191 HB; have BK189 := n0_; have BK191 := n1_; have HB := n2_; clear n0_ n1_ n2_; (try clear hb); have hcz83_0 : w82.cell? ⟨gb191, 0, none⟩ = some (.int .i64 ((rd_T37 l0 a1).f0)) := (blk_cell BK191.out 0).trans rfl; have hcz83_1 : w82.cell? ⟨gb191, 1, none⟩ = some (.int .i64 ((rd_T37 l0 a1).f1)) := (blk_cell BK191.out 1).trans rfl; have hcz83_2 : w82.cell? ⟨gb191, 2, none⟩ = some (.int .i64 ((rd_T37 l0 a1).f2)) := (blk_cell BK191.out 2).trans rfl; have hcz83_3 : w82.cell? ⟨gb191, 3, none⟩ = some (.string ((rd_T37 l0 a1).f3)) := (blk_cell BK191.out 3).trans rfl; have hfz83_0 := blk_frozen BK191.out 0; have hfz83_1 := blk_frozen BK191.out 1; have hfz83_2 := blk_frozen BK191.out 2; have hfz83_3 := blk_frozen BK191.out 3) | ((with_reducible refine gate_callee (f := 25) rfl ?_); refine goesL_ (some 61) rfl rfl Tryd.func25 (by kernel_rfl) rfl #[.int .i64 ((rd_T37 l0 a1).f1), .int .i64 0, .int .i64 (wrap64 (a1 - 1))] rfl d6_1 ?_; (with_reducible refine (impl_in.calls ((rd_T37 l0 a1).f1) 0 (wrap64 (a1 - 1)) false _ A56.out).mono ?_); rintro e w' ⟨rfl, ⟨nd, rfl⟩⟩; refine ⟨_, rfl, ?_⟩))
         go_ret; exact ⟨c6_3, c6_1⟩
      ·rw [if_neg c45] at H
       have c45b0 : (t193 == 0) = false := beq_eq_false_iff_ne.mpr c45; have c45b1 : (t193 != 0) = true := bne_iff_ne.mpr c45; obtain rfl := Option.some.inj H; have hnb84 := NB191_189.out; have hnc84 := NB189_191.out; have hcz85_0 : wc.cell? ⟨gb191, 0, none⟩ = some (.int .i64 ((rd_T37 l0 a1).f0)) := (blk_cell BK191.out 0).trans rfl; have hcz85_1 : wc.cell? ⟨gb191, 1, none⟩ = some (.int .i64 ((rd_T37 l0 a1).f1)) := (blk_cell BK191.out 1).trans rfl; have hcz85_2 : wc.cell? ⟨gb191, 2, none⟩ = some (.int .i64 ((rd_T37 l0 a1).f2)) := (blk_cell BK191.out 2).trans rfl; have hcz85_3 : wc.cell? ⟨gb191, 3, none⟩ = some (.string ((rd_T37 l0 a1).f3)) := (blk_cell BK191.out 3).trans rfl; have hfz85_0 := blk_frozen BK191.out 0; have hfz85_1 := blk_frozen BK191.out 1; have hfz85_2 := blk_frozen BK191.out 2; have hfz85_3 := blk_frozen BK191.out 3
       go_wp2_with (first | ((with_reducible refine gate_callee (f := 32) rfl ?_); refine goesL_ (some 47) rfl rfl Tryd.func32 (by kernel_rfl) rfl #[.int .i64 ((rd_T37 l0 a1).f0), .int .i64 1, .int .i64 3, .int .i64 2, .int .i64 ((rd_T37 l0 a1).f2), .string ((rd_T37 l0 a1).f3)] rfl d6_1 ?_; (with_reducible refine (impl_kindFault.calls ((rd_T37 l0 a1).f0) 1 3 2 ((rd_T37 l0 a1).f2) ((rd_T37 l0 a1).f3) t193 _ A44.out).mono ?_); rintro e w86 ⟨rfl, hb⟩; refine ⟨_, rfl, ?_⟩; have n0_ := ak (blk_below (g := gb189) (o := .cells #[.slice (some ad190) l0.length c0] 27 (0, 0)) d6_2 hb); have n1_ := ak (blk_below (g := gb191) (o := .cells #[.int .i64 ((rd_T37 l0 a1).f0), .int .i64 ((rd_T37 l0 a1).f1), .int .i64 ((rd_T37 l0 a1).f2), .string ((rd_T37 l0 a1).f3)] 37 (0, 0)) d6_4 hb); have n2_ := ak (below_step d6_3 hb); clear BK189 BK191 HB; have BK189 := n0_; have BK191 := n1_; have HB := n2_; clear n0_ n1_ n2_; (try clear hb))); go_ret; exact ⟨c6_3, c6_1⟩
   ·rw [if_neg c4] at H
    exact absurd H (by simp)
  ·rw [if_neg c3] at H
   exact absurd H (by simp)

end Go.Proofs.YtgnenhehcdekkacDoor.A
