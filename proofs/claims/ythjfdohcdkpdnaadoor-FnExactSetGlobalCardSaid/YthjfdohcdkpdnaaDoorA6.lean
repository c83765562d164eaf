/- Walks of the program's functions: each Go function's answer as a plain Lean function, and that the call comes to it. Written by a program. Conditions: those in each theorem's own head. -/
import Derived.Test.YthjfdohcdkpdnaaDoorA0
import Derived.Test.YthjfdohcdkpdnaaDoorA1
import Derived.Test.YthjfdohcdkpdnaaDoorA5
namespace Go.Proofs.YthjfdohcdkpdnaaDoor.A
open Go.RowKit Go.Proofs.YthjfdohcdkpdnaaDoorW.PrintWords Go.Proofs.YthjfdohcdkpdnaaDoorW.PrintLast Go.Proofs.YthjfdohcdkpdnaaDoorW.PrintMore
attribute [local go_sem] max2_int min2_int max_two min_two max_three min_three max_four min_four   -- for this text's walks alone
set_option linter.unusedVariables false
set_option linter.unusedSimpArgs false

theorem d6_1 {p : Prop} (h : p := by repeat (first | (with_reducible first | exact HB.out | apply below_alloc | apply pw_below_drewN | apply below_drew1) | exact HB.out)) : p := h
theorem d6_2 {p : Prop} (h : p := by (try simp only [List.map_toArray, List.map_cons, List.map_nil]); first | done | rfl | (simp only [List.length_drop, List.length_take]; rfl)) : p := h
theorem d6_3 {p : Prop} (h : p := by repeat (first | (with_reducible first | exact HB.out | apply below_alloc | apply pw_below_drewN | apply below_drew1 | refine below_set ?_ GE353.out) | exact HB.out)) : p := h
theorem d6_4 {p : Prop} (h : p := by (with_reducible repeat (first | refine blk_drewN ?_ _ | refine blk_drew ?_ | refine blk_alloc ?_ _)); exact BK353.out) : p := h
theorem d6_5 {p : Prop} (h : p := by first | (with_reducible assumption) | assumption) : p := h

/-! ### impl_GlobalsFault: function 115 -/
def impl_GlobalsFault.l0 : Nat → List (S98) → List (S98) → Int → Int → Option (Int)
  | 0, _, _, _, _ => none
  | k + 1, x0, x9, x10, x11 => if x11 < x10 then (if 0 ≤ x11 then (if x11 < (x9.length : Int) then ((impl_SymFault.f ((rd_T98 x9 x11).f0)).bind fun t354 => (if t354 = 0 then ((impl_ValueFault.f k ((rd_T98 x9 x11).f1.f0) ((rd_T98 x9 x11).f1.f1) ((rd_T98 x9 x11).f1.f2)).bind fun t355 => (if t355 = 0 then ((impl_in.f ((rd_T98 x9 x11).f2) 1 99999).bind fun t356 => (if t356 = true then (if x11 ≤ (x0.length : Int) then ((impl_globalAt.f k (x0.take (x11 : Int).toNat) ((rd_T98 x9 x11).f0)).bind fun t361 => (if t361 ≥ 0 then (some 1) else (impl_GlobalsFault.l0 k x0 x9 x10 (wrap64 (x11 + 1))))) else (none)) else (some 3))) else (some t355))) else (some 5))) else (none)) else (none)) else (some 0)
def impl_GlobalsFault.f (k : Nat) (l0 : List (S98)) : Option (Int) := if (l0.length : Int) > 60 then (some 2) else (impl_GlobalsFault.l0 k l0 l0 (l0.length : Int) 0)
theorem impl_GlobalsFault.mono_l : ∀ k, (∀ y0 y1 y2 y3, LeO (impl_GlobalsFault.l0 k y0 y1 y2 y3) (impl_GlobalsFault.l0 (k + 1) y0 y1 y2 y3))
  | 0 => fun _ _ _ _ r h => by simp [impl_GlobalsFault.l0] at h
  | k + 1 => by
    have ih0 := impl_GlobalsFault.mono_l k
    · intro y0 y1 y2 y3
      unfold impl_GlobalsFault.l0
      repeat' first
      | (with_reducible exact ih0 _ _ _ _)
      | (with_reducible exact impl_ValueFault.mono _ _ _ _)
      | (with_reducible exact impl_globalAt.mono _ _ _)
      | (with_reducible exact LeO.refl _)
      | (with_reducible exact LeO.none _)
      | (with_reducible refine LeO.ite ?_ ?_)
      | (with_reducible refine LeO.bind ?_ (fun _ => ?_))
      | exact ih0 _ _ _ _
      | exact impl_ValueFault.mono _ _ _ _
      | exact impl_globalAt.mono _ _ _
      | exact LeO.none _
      | refine LeO.ite ?_ ?_
      | refine LeO.bind ?_ (fun _ => ?_)
theorem impl_GlobalsFault.mono : ∀ a0 k, LeO (impl_GlobalsFault.f k a0) (impl_GlobalsFault.f (k + 1) a0) := by
  intro a0 k
  have ih0 := impl_GlobalsFault.mono_l k
  unfold impl_GlobalsFault.f
  repeat' first
      | (with_reducible exact ih0 _ _ _ _)
      | (with_reducible exact impl_ValueFault.mono _ _ _ _)
      | (with_reducible exact impl_globalAt.mono _ _ _)
      | (with_reducible exact LeO.refl _)
      | (with_reducible exact LeO.none _)
      | (with_reducible refine LeO.ite ?_ ?_)
      | (with_reducible refine LeO.bind ?_ (fun _ => ?_))
      | exact ih0 _ _ _ _
      | exact impl_ValueFault.mono _ _ _ _
      | exact impl_globalAt.mono _ _ _
      | exact LeO.none _
      | refine LeO.ite ?_ ?_
      | refine LeO.bind ?_ (fun _ => ?_)
def impl_GlobalsFault.T13 : Bool × List (List Nat × List Nat) := (true, [([], []), ([], []), ([0, 1], [0, 1]), ([], []), ([3], [3]), ([2, 4], [2, 4]), ([5], [5]), ([6, 5], [6])])
def impl_GlobalsFault.B13 : List Nat := [0, 0, 3, 0, 8, 31, 63, 127]
theorem impl_GlobalsFault.tab13 : rtab .any (opsOf Tryd.f115 13) = impl_GlobalsFault.T13 := by kernel_rfl
theorem impl_GlobalsFault.bits13 : waitsOk impl_GlobalsFault.T13.2 impl_GlobalsFault.B13 = true := by kernel_rfl
set_option maxHeartbeats 8000000 in
set_option maxRecDepth 100000 in
theorem impl_GlobalsFault.calls (k : Nat) (A0 : Option Addr) (c0 : Nat) (l0 : List (S98)) (r : Int) (w : World) (hr0 : Kd.C k98 w A0 l0.length l0) (hc0 : l0.length ≤ c0) (h : impl_GlobalsFault.f k l0 = some r) :
    Calls Tryd.prog 115 #[.slice A0 l0.length c0] w fun e w' => e = .returned (.int .i64 r) ∧ Below w.heap.size w w' := by
  have hu98 := Tryd.underlying98
  have hu55 := Tryd.underlying55
  have HR0 := ak hr0
  have HC0 := ak hc0
  clear hr0 hc0
  have HB := ak (Below.refl w.heap.size w)
  have H : (if (l0.length : Int) > 60 then (some 2) else (impl_GlobalsFault.l0 k l0 l0 (l0.length : Int) 0)) = some r := h
  clear h
  by_cases c2 : (l0.length : Int) > 60
  ·rw [if_pos c2] at H
   have c2b0 : decide (60 < (l0.length : Int)) = true := decide_eq_true c2
   have c2b1 : decide (60 < l0.length) = true := decide_eq_true (by omega)
   clear c2
   obtain rfl := Option.some.inj H
   go_enter Tryd.func115, Tryd.ntmps115
   go_wp2
   go_ret
   exact ⟨by first | rfl | (simp [errW_none, errW_some] <;> rfl) | (simp [*, errW_none, errW_some] <;> rfl), by repeat (first | (with_reducible first | exact HB.out | apply below_alloc | apply pw_below_drewN | apply below_drew1) | exact HB.out)⟩
  ·rw [if_neg c2] at H
   have c2b0 : decide (60 < (l0.length : Int)) = false := decide_eq_false c2
   have c2b1 : decide (60 < l0.length) = false := decide_eq_false (by omega)
   clear c2
   have H' := ak H
   clear H
   go_enter Tryd.func115, Tryd.ntmps115
   go_wp2
   go_loopg [11] k (fun kq v11 w' => ∃ (x11_1 : Int), v11 = .int .i64 x11_1 ∧ Aside0 (impl_GlobalsFault.l0 kq l0 l0 (l0.length : Int) x11_1 = some r) ∧ Aside0 (kq ≤ k) ∧ Aside0 (Below w.heap.size w w'))
   case atStart => exact ⟨(0), (by first | rfl | (simp; done) | (simp [*]; done) | (simp [ne_nil_b, eq_nil_b]; done)), H', ⟨Nat.le_refl _⟩, ⟨by repeat (first | (with_reducible first | exact HB.out | apply below_alloc | apply pw_below_drewN | apply below_drew1) | exact HB.out)⟩⟩
   case round =>
    clear H'
    try clear c1
    try clear c2
    try clear c2b0
    try clear c2b1
    try clear p2
    obtain ⟨x11_1, rfl, HA, HK1, HB⟩ := hrel
    cases gk with
    | zero => exact absurd HA.out (by simp [impl_GlobalsFault.l0])
    | succ k1 =>
     have H := HA.out
     clear HA
     simp only [impl_GlobalsFault.l0] at H
     by_cases c3 : x11_1 < (l0.length : Int)
     ·rw [if_pos c3] at H
      have c3b0 : decide (x11_1 < (l0.length : Int)) = true := decide_eq_true c3
      clear c3
      by_cases c4 : 0 ≤ x11_1
      ·rw [if_pos c4] at H
       have c4b0 : decide (0 ≤ x11_1) = true := decide_eq_true c4
       clear c4
       by_cases c5 : x11_1 < (l0.length : Int)
       ·rw [if_pos c5] at H
        have c5b0 : decide (x11_1 < (l0.length : Int)) = true := decide_eq_true c5
        clear c5
        replace H := Option.bind_eq_some_iff.mp H
        obtain ⟨t354, A60, H⟩ := H
        replace H : (if t354 = 0 then ((impl_ValueFault.f k1 ((rd_T98 l0 x11_1).f1.f0) ((rd_T98 l0 x11_1).f1.f1) ((rd_T98 l0 x11_1).f1.f2)).bind fun t355 => (if t355 = 0 then ((impl_in.f ((rd_T98 l0 x11_1).f2) 1 99999).bind fun t356 => (if t356 = true then (if x11_1 ≤ (l0.length : Int) then ((impl_globalAt.f k1 (l0.take (x11_1 : Int).toNat) ((rd_T98 l0 x11_1).f0)).bind fun t361 => (if t361 ≥ 0 then (some 1) else (impl_GlobalsFault.l0 k1 l0 l0 (l0.length : Int) (wrap64 (x11_1 + 1))))) else (none)) else (some 3))) else (some t355))) else (some 5)) = some r := H
        have A6 := ak A60
        clear A60
        by_cases c7 : t354 = 0
        ·rw [if_pos c7] at H
         have c7b0 : (t354 == 0) = true := beq_iff_eq.mpr c7
         have c7b1 : (t354 != 0) = false := bne_eq_false_iff_eq.mpr c7
         clear c7
         replace H := Option.bind_eq_some_iff.mp H
         obtain ⟨t355, A80, H⟩ := H
         replace H : (if t355 = 0 then ((impl_in.f ((rd_T98 l0 x11_1).f2) 1 99999).bind fun t356 => (if t356 = true then (if x11_1 ≤ (l0.length : Int) then ((impl_globalAt.f k1 (l0.take (x11_1 : Int).toNat) ((rd_T98 l0 x11_1).f0)).bind fun t361 => (if t361 ≥ 0 then (some 1) else (impl_GlobalsFault.l0 k1 l0 l0 (l0.length : Int) (wrap64 (x11_1 + 1))))) else (none)) else (some 3))) else (some t355)) = some r := H
         have A8 := ak A80
         clear A80
         by_cases c9 : t355 = 0
         ·rw [if_pos c9] at H
          have c9b0 : (t355 == 0) = true := beq_iff_eq.mpr c9
          have c9b1 : (t355 != 0) = false := bne_eq_false_iff_eq.mpr c9
          clear c9
          replace H := Option.bind_eq_some_iff.mp H
          obtain ⟨t356, A100, H⟩ := H
          replace H : (if t356 = true then (if x11_1 ≤ (l0.length : Int) then ((impl_globalAt.f k1 (l0.take (x11_1 : Int).toNat) ((rd_T98 l0 x11_1).f0)).bind fun t361 => (if t361 ≥ 0 then (some 1) else (impl_GlobalsFault.l0 k1 l0 l0 (l0.length : Int) (wrap64 (x11_1 + 1))))) else (none)) else (some 3)) = some r := H
          have A10 := ak A100
          clear A100
          by_cases c11 : t356 = true
          ·subst c11
           have H1 : (if x11_1 ≤ (l0.length : Int) then ((impl_globalAt.f k1 (l0.take (x11_1 : Int).toNat) ((rd_T98 l0 x11_1).f0)).bind fun t361 => (if t361 ≥ 0 then (some 1) else (impl_GlobalsFault.l0 k1 l0 l0 (l0.length : Int) (wrap64 (x11_1 + 1))))) else (none)) = some r := by rw [if_pos rfl] at H; exact H
           clear H
           have H := H1
           clear H1
           have c12b0 := eq_true (of_decide_eq_true d6_5 : 0 ≤ x11_1)
           by_cases c13 : x11_1 ≤ (l0.length : Int)
           ·rw [if_pos c13] at H
            have c13b0 := eq_true c13
            have c13b1 : decide (x11_1 ≤ (l0.length : Int)) = true := decide_eq_true c13
            clear c13
            obtain ⟨y357, hy357⟩ : ∃ y_ : List (S98), y_ = (l0.take (x11_1 : Int).toNat) := ⟨_, rfl⟩
            replace H : ((impl_globalAt.f k1 y357 ((rd_T98 l0 x11_1).f0)).bind fun t361 => (if t361 ≥ 0 then (some 1) else (impl_GlobalsFault.l0 k1 l0 l0 (l0.length : Int) (wrap64 (x11_1 + 1))))) = some r := by first | (rw [hy357]; with_reducible exact H) | (have H2_ := (Option.bind_some _ _).symm.trans H; rw [hy357]; with_reducible exact H2_) | (have H2_ := (Option.bind_some _ _).symm.trans H; with_reducible exact H2_) | with_reducible exact H | (rw [hy357]; exact H) | exact H
            have Ny357 := ak hy357
            clear hy357
            replace H := Option.bind_eq_some_iff.mp H
            obtain ⟨t361, A140, H⟩ := H
            replace H : (if t361 ≥ 0 then (some 1) else (impl_GlobalsFault.l0 k1 l0 l0 (l0.length : Int) (wrap64 (x11_1 + 1)))) = some r := H
            have A14 := ak A140
            clear A140
            by_cases c15 : t361 ≥ 0
            ·rw [if_pos c15] at H
             have c15b0 : decide (0 ≤ t361) = true := decide_eq_true c15
             clear c15
             obtain rfl := Option.some.inj H
             have p352 : 0 ≤ (x11_1 : Int) := of_decide_eq_true d6_5
             have q352 : x11_1 < (l0.length : Int) := of_decide_eq_true d6_5
             obtain ⟨ad352, e352, hx352_0, hx352_1, hx352_2, hx352_3, hx352_4⟩ := at_T98 HR0.out x11_1 p352 q352
             cases e352
             replace hx352_0 := (HB.out.cell (World.block_lt_of_cell? w _ hx352_0)).trans hx352_0
             replace hx352_1 := (HB.out.cell (World.block_lt_of_cell? w _ hx352_1)).trans hx352_1
             replace hx352_2 := (HB.out.cell (World.block_lt_of_cell? w _ hx352_2)).trans hx352_2
             replace hx352_3 := (HB.out.cell (World.block_lt_of_cell? w _ hx352_3)).trans hx352_3
             replace hx352_4 := (HB.out.cell (World.block_lt_of_cell? w _ hx352_4)).trans hx352_4
             replace p352 := eq_true p352
             replace q352 := eq_true q352
             try go_wp2_with (first | ((with_reducible refine gate_dst (N := 4) rfl ?_); refine box_event ?hg (N := 4) ?hd (cs := #[.string (⟨#[]⟩ : ByteArray), .int .i64 0, .int .i64 0, .string (⟨#[]⟩ : ByteArray), .int .i64 0]) (t := 98) ?hr ?_; (case hd => rfl); (case hg => rfl); (case hr => first | (go_simp; done) | (go_simp; rfl)); intro gb353 hg w16 hbox hb; have n0_ := ak (below_step d6_1 hb); have n1_ := ak (hbox); have n2_ := ak ((by rw [hg]; exact (below_size d6_1) : w.heap.size ≤ gb353)); have n3_ := ak ((by rw [hg]; exact (below_size d6_1) : w.heap.size ≤ gb353)); clear HB; have HB := n0_; have BK353 := n1_; have GW353 := n2_; have GE353 := n3_; clear n0_ n1_ n2_ n3_ hb hbox hg; have hcz17_0 : w16.cell? ⟨gb353, 0, none⟩ = some (.string (⟨#[]⟩ : ByteArray)) := (blk_cell BK353.out 0).trans rfl; have hcz17_1 : w16.cell? ⟨gb353, 1, none⟩ = some (.int .i64 0) := (blk_cell BK353.out 1).trans rfl; have hcz17_2 : w16.cell? ⟨gb353, 2, none⟩ = some (.int .i64 0) := (blk_cell BK353.out 2).trans rfl; have hcz17_3 : w16.cell? ⟨gb353, 3, none⟩ = some (.string (⟨#[]⟩ : ByteArray)) := (blk_cell BK353.out 3).trans rfl; have hcz17_4 : w16.cell? ⟨gb353, 4, none⟩ = some (.int .i64 0) := (blk_cell BK353.out 4).trans rfl; have hfz17_0 := blk_frozen BK353.out 0; have hfz17_1 := blk_frozen BK353.out 1; have hfz17_2 := blk_frozen BK353.out 2; have hfz17_3 := blk_frozen BK353.out 3; have hfz17_4 := blk_frozen BK353.out 4) | ((with_reducible refine gate_callee (f := 75) rfl ?_); refine goesL_ (some 18) rfl rfl Tryd.func75 (by kernel_rfl) rfl #[.string ((rd_T98 l0 x11_1).f0)] rfl d6_2 ?_; (with_reducible refine (impl_SymFault.calls ((rd_T98 l0 x11_1).f0) t354 _ A6.out).mono ?_); rintro e w18 ⟨rfl, hb⟩; refine ⟨_, rfl, ?_⟩; have n0_ := ak (blk_below (g := gb353) (o := .cells #[.string ((rd_T98 l0 x11_1).f0), .int .i64 ((rd_T98 l0 x11_1).f1.f0), .int .i64 ((rd_T98 l0 x11_1).f1.f1), .string ((rd_T98 l0 x11_1).f1.f2), .int .i64 ((rd_T98 l0 x11_1).f2)] 98 (0, 0)) (by (with_reducible repeat (first | refine blk_drewN ?_ _ | refine blk_drew ?_ | refine blk_alloc ?_ _)); refine blk_put (cs := #[.string ((rd_T98 l0 x11_1).f0), .int .i64 ((rd_T98 l0 x11_1).f1.f0), .int .i64 ((rd_T98 l0 x11_1).f1.f1), .string ((rd_T98 l0 x11_1).f1.f2), .int .i64 0]) ?_ 4 _ rfl; (with_reducible repeat (first | refine blk_drewN ?_ _ | refine blk_drew ?_ | refine blk_alloc ?_ _)); refine blk_put (cs := #[.string ((rd_T98 l0 x11_1).f0), .int .i64 ((rd_T98 l0 x11_1).f1.f0), .int .i64 ((rd_T98 l0 x11_1).f1.f1), .string (⟨#[]⟩ : ByteArray), .int .i64 0]) ?_ 3 _ rfl; (with_reducible repeat (first | refine blk_drewN ?_ _ | refine blk_drew ?_ | refine blk_alloc ?_ _)); refine blk_put (cs := #[.string ((rd_T98 l0 x11_1).f0), .int .i64 ((rd_T98 l0 x11_1).f1.f0), .int .i64 0, .string (⟨#[]⟩ : ByteArray), .int .i64 0]) ?_ 2 _ rfl; (with_reducible repeat (first | refine blk_drewN ?_ _ | refine blk_drew ?_ | refine blk_alloc ?_ _)); refine blk_put (cs := #[.string ((rd_T98 l0 x11_1).f0), .int .i64 0, .int .i64 0, .string (⟨#[]⟩ : ByteArray), .int .i64 0]) ?_ 1 _ rfl; (with_reducible repeat (first | refine blk_drewN ?_ _ | refine blk_drew ?_ | refine blk_alloc ?_ _)); refine blk_put (cs := #[.string (⟨#[]⟩ : ByteArray), .int .i64 0, .int .i64 0, .string (⟨#[]⟩ : ByteArray), .int .i64 0]) ?_ 0 _ rfl; (with_reducible repeat (first | refine blk_drewN ?_ _ | refine blk_drew ?_ | refine blk_alloc ?_ _)); exact BK353.out) hb); have n1_ := ak (below_step d6_3 hb); clear BK353 HB; have BK353 := n0_; have HB := n1_; clear n0_ n1_; (try clear hb); have hcz19_0 : w18.cell? ⟨gb353, 0, none⟩ = some (.string ((rd_T98 l0 x11_1).f0)) := (blk_cell BK353.out 0).trans rfl; have hcz19_1 : w18.cell? ⟨gb353, 1, none⟩ = some (.int .i64 ((rd_T98 l0 x11_1).f1.f0)) := (blk_cell BK353.out 1).trans rfl; have hcz19_2 : w18.cell? ⟨gb353, 2, none⟩ = some (.int .i64 ((rd_T98 l0 x11_1).f1.f1)) := (blk_cell BK353.out 2).trans rfl; have hcz19_3 : w18.cell? ⟨gb353, 3, none⟩ = some (.string ((rd_T98 l0 x11_1).f1.f2)) := (blk_cell BK353.out 3).trans rfl; have hcz19_4 : w18.cell? ⟨gb353, 4, none⟩ = some (.int .i64 ((rd_T98 l0 x11_1).f2)) := (blk_cell BK353.out 4).trans rfl; have hfz19_0 := blk_frozen BK353.out 0; have hfz19_1 := blk_frozen BK353.out 1; have hfz19_2 := blk_frozen BK353.out 2; have hfz19_3 := blk_frozen BK353.out 3; have hfz19_4 := blk_frozen BK353.out 4) | ((with_reducible refine gate_callee (f := 91) rfl ?_); refine goesL_ (some 22) rfl rfl Tryd.func91 (by kernel_rfl) rfl #[.agg #[.int .i64 ((rd_T98 l0 x11_1).f1.f0), .int .i64 ((rd_T98 l0 x11_1).f1.f1), .string ((rd_T98 l0 x11_1).f1.f2)]] rfl d6_2 ?_; (with_reducible refine (impl_ValueFault.calls k1 ((rd_T98 l0 x11_1).f1.f0) ((rd_T98 l0 x11_1).f1.f1) ((rd_T98 l0 x11_1).f1.f2) t355 _ A8.out).mono ?_); rintro e w20 ⟨rfl, hb⟩; refine ⟨_, rfl, ?_⟩; have n0_ := ak (blk_below (g := gb353) (o := .cells #[.string ((rd_T98 l0 x11_1).f0), .int .i64 ((rd_T98 l0 x11_1).f1.f0), .int .i64 ((rd_T98 l0 x11_1).f1.f1), .string ((rd_T98 l0 x11_1).f1.f2), .int .i64 ((rd_T98 l0 x11_1).f2)] 98 (0, 0)) d6_4 hb); have n1_ := ak (below_step d6_3 hb); clear BK353 HB; have BK353 := n0_; have HB := n1_; clear n0_ n1_; (try clear hb); have hcz21_0 : w20.cell? ⟨gb353, 0, none⟩ = some (.string ((rd_T98 l0 x11_1).f0)) := (blk_cell BK353.out 0).trans rfl; have hcz21_1 : w20.cell? ⟨gb353, 1, none⟩ = some (.int .i64 ((rd_T98 l0 x11_1).f1.f0)) := (blk_cell BK353.out 1).trans rfl; have hcz21_2 : w20.cell? ⟨gb353, 2, none⟩ = some (.int .i64 ((rd_T98 l0 x11_1).f1.f1)) := (blk_cell BK353.out 2).trans rfl; have hcz21_3 : w20.cell? ⟨gb353, 3, none⟩ = some (.string ((rd_T98 l0 x11_1).f1.f2)) := (blk_cell BK353.out 3).trans rfl; have hcz21_4 : w20.cell? ⟨gb353, 4, none⟩ = some (.int .i64 ((rd_T98 l0 x11_1).f2)) := (blk_cell BK353.out 4).trans rfl; have hfz21_0 := blk_frozen BK353.out 0; have hfz21_1 := blk_frozen BK353.out 1; have hfz21_2 := blk_frozen BK353.out 2; have hfz21_3 := blk_frozen BK353.out 3; have hfz21_4 := blk_frozen BK353.out 4) | ((with_reducible refine gate_callee (f := 51) rfl ?_); refine goesL_ (some 29) rfl rfl Tryd.func51 (by kernel_rfl) rfl #[.int .i64 ((rd_T98 l0 x11_1).f2), .int .i64 1, .int .i64 99999] rfl d6_2 ?_; (with_reducible refine (impl_in.calls ((rd_T98 l0 x11_1).f2) 1 99999 true _ A10.out).mono ?_); rintro e w' ⟨rfl, ⟨nd, rfl⟩⟩; refine ⟨_, rfl, ?_⟩))
             (try (rw [drewN_self w20]; generalize hq_ : World.drewN w20 _ = w20; have n0_ : Aside0 (w20.heap[gb353]? = some (.cells #[.string ((rd_T98 l0 x11_1).f0), .int .i64 ((rd_T98 l0 x11_1).f1.f0), .int .i64 ((rd_T98 l0 x11_1).f1.f1), .string ((rd_T98 l0 x11_1).f1.f2), .int .i64 ((rd_T98 l0 x11_1).f2)] 98 (0, 0))) := ⟨by rw [← hq_]; exact d6_4⟩; have n1_ : Aside0 (Below w.heap.size w w20) := ⟨by rw [← hq_]; exact d6_3⟩; clear BK353 HB hq_; have BK353 := n0_; have HB := n1_; clear n0_ n1_))
             have n0_ := ak (blk_drew BK353.out)
             have n1_ := ak (below_drew1 HB.out)
             clear BK353
             clear HB
             have BK353 := n0_
             have HB := n1_
             clear n0_ n1_
             have q23 : (x11_1 : Int) ≤ ((l0.length : Int) : Int) := of_decide_eq_true d6_5
             obtain ⟨i023, hi023, _, hsz23, _⟩ := info_parts info98
             have hroom23 : l0.length ≤ c0 := HC0.out
             have hC23 : Kd.C k98 _ (some ad352) l0.length l0 := HR0.out
             have hcut23 := cut_to (P := Tryd.prog) 50 98 .i64 Tryd.underlying50 hi023 (some ad352) l0.length c0 x11_1 (of_decide_eq_true d6_5) q23 hroom23
             have hr23 := Kd.C_take (m := (x11_1 : Int).toNat) hC23 (by omega)
             have hy23 : y357.length = (x11_1 : Int).toNat := (by rw [Ny357.out, List.length_take]; omega)
             rw [← Ny357.out] at hr23
             rw [← hy23] at hcut23
             have HR360 := ak hr23
             have HC360 := ak (show y357.length ≤ c0 from by omega)
             clear hr23 hC23 hroom23 hi023 hsz23
             have KY23 := ak hy23
             clear hy23
             replace q23 := eq_true q23
             refine start_ (n := 8) (S := fun w' => w'.cell? ⟨gb353, 0, none⟩ = some (.string ((rd_T98 l0 x11_1).f0)) ∧ w'.cell? ⟨gb353, 1, none⟩ = some (.int .i64 ((rd_T98 l0 x11_1).f1.f0)) ∧ w'.cell? ⟨gb353, 2, none⟩ = some (.int .i64 ((rd_T98 l0 x11_1).f1.f1)) ∧ w'.cell? ⟨gb353, 3, none⟩ = some (.string ((rd_T98 l0 x11_1).f1.f2)) ∧ w'.cell? ⟨gb353, 4, none⟩ = some (.int .i64 ((rd_T98 l0 x11_1).f2))) (ds := []) #[false, false, false, false, false, false, false, false] (by kernel_rfl) rfl rfl ⟨(blk_cell BK353.out 0).trans rfl, (blk_cell BK353.out 1).trans rfl, (blk_cell BK353.out 2).trans rfl, (blk_cell BK353.out 3).trans rfl, (blk_cell BK353.out 4).trans rfl⟩ (fun hHeld => ?_); refine with_tabW impl_GlobalsFault.tab13 impl_GlobalsFault.bits13 (fun HT_ HW_ => ?_)
             generalize w20.drew = w22 at BK353 HB HR360 hHeld ⊢
             refine pure_ (i := 0) (N := some 32) (v := ?_) (a' := ?_) #[true, false, false, false, false, false, false, false] rfl rfl (any_of HT_.out (by kernel_rfl)) (fun _ _ _ h => h) (Or.inl ⟨by rfl, ?_⟩) ?_ ?_
             rotate_left
             · intro w'
               go_simp
               with_reducible rfl
             rotate_left
             · simp only [Act.put, List.setIfInBounds_toArray, List.set_cons_zero, List.set_cons_succ, i64_w, i32_w]
               rfl
             refine pure_ (i := 1) (N := some 33) (v := ?_) (a' := ?_) #[true, true, false, false, false, false, false, false] rfl rfl (any_of HT_.out (by kernel_rfl)) (fun _ _ _ h => h) (Or.inl ⟨by rfl, ?_⟩) ?_ ?_
             rotate_left
             · intro w'
               go_simp
               with_reducible rfl
             rotate_left
             · simp only [Act.put, List.setIfInBounds_toArray, List.set_cons_zero, List.set_cons_succ, i64_w, i32_w]
               rfl
             refine pure_ (i := 2) (N := some 34) (v := ?_) (a' := ?_) #[true, true, true, false, false, false, false, false] rfl rfl (any_of HT_.out (by kernel_rfl)) (fun _ _ _ h => h) (Or.inl ⟨by rfl, ?_⟩) ?_ ?_
             rotate_left
             · intro w'
               go_simp
               with_reducible rfl
             rotate_left
             · simp only [Act.put, List.setIfInBounds_toArray, List.set_cons_zero, List.set_cons_succ, i64_w, i32_w]
               rfl
             refine pure_ (i := 3) (N := some 35) (v := ?_) (a' := ?_) #[true, true, true, true, false, false, false, false] rfl rfl (any_of HT_.out (by kernel_rfl)) (fun _ _ _ h => h) (Or.inl ⟨by rfl, ?_⟩) ?_ ?_
             rotate_left
             · intro w'
               go_simp
               with_reducible rfl
             rotate_left
             · simp only [Act.put, List.setIfInBounds_toArray, List.set_cons_zero, List.set_cons_succ, i64_w, i32_w]
               rfl
             refine take_ (i := 4) (N := some 36) (v := ?_) (a' := ?_) #[true, true, true, true, true, false, false, false] rfl rfl (take_ofW HT_.out HW_.out (by kernel_rfl)) (fun _ _ _ h => h) (Or.inl ⟨by rfl, ?_⟩) hHeld ?_ ?_
             rotate_left
             · rintro w' ⟨s0, s1, s2, s3, s4⟩
               go_simp
               with_reducible rfl
             rotate_left
             · simp only [Act.put, List.setIfInBounds_toArray, List.set_cons_zero, List.set_cons_succ, i64_w, i32_w]
               rfl
             refine one_ (i := 5) (N := some 37) #[true, true, true, true, true, true, false, false] rfl rfl (one_of HT_.out (by kernel_rfl)) (by decide) (fun K hK => ?_)
             refine goes_ Tryd.func117 (by kernel_rfl) rfl #[.slice (some ad352) y357.length c0, .string ((rd_T98 l0 x11_1).f0)] (by rfl) rfl rfl d6_2 ?_
             with_reducible refine (impl_globalAt.calls k1 _ _ y357 ((rd_T98 l0 x11_1).f0) t361 _ ?side1 ?side2 A14.out).mono ?_
             (case side1 => repeat (first | exact (Kd.C_below HR360.out HB.out) | (with_reducible refine Kd.C_alloc ?_ _) | (with_reducible refine Kd.C_drewN ?_ _) | (with_reducible refine Kd.C_drew ?_)))
             (case side2 => exact HC360.out)
             rintro e w24 ⟨rfl, hb⟩
             refine ⟨_, rfl, ?_⟩
             have n0_ := ak (blk_below (g := gb353) (o := .cells #[.string ((rd_T98 l0 x11_1).f0), .int .i64 ((rd_T98 l0 x11_1).f1.f0), .int .i64 ((rd_T98 l0 x11_1).f1.f1), .string ((rd_T98 l0 x11_1).f1.f2), .int .i64 ((rd_T98 l0 x11_1).f2)] 98 (0, 0)) d6_4 hb)
             have n1_ := ak (below_step d6_3 hb)
             clear BK353
             clear HB
             have BK353 := n0_
             have HB := n1_
             clear n0_ n1_
             (try clear hb)
             (try clear hb2)
             (try clear hk)
             (try clear hi)
             refine hK.out _ _ ⟨(blk_cell BK353.out 0).trans rfl, (blk_cell BK353.out 1).trans rfl, (blk_cell BK353.out 2).trans rfl, (blk_cell BK353.out 3).trans rfl, (blk_cell BK353.out 4).trans rfl⟩ (fun hHeld => ?_)
             clear hK K
             refine norm_ (a' := ?_) ?_ ?_
             rotate_left
             · show Act.put _ (some 37) _ = _
               simp only [Act.put, List.setIfInBounds_toArray, List.set_cons_zero, List.set_cons_succ, i64_w, i32_w]
               rfl
             refine pure_ (i := 6) (N := some 38) (v := ?_) (a' := ?_) #[true, true, true, true, true, true, true, false] rfl rfl (any_of HT_.out (by kernel_rfl)) (fun _ _ _ h => h) (Or.inl ⟨by rfl, ?_⟩) ?_ ?_
             rotate_left
             · intro w'
               go_simp
               with_reducible rfl
             rotate_left
             · simp only [Act.put, List.setIfInBounds_toArray, List.set_cons_zero, List.set_cons_succ, i64_w, i32_w]
               rfl
             refine pure_ (i := 7) (N := some 31) (v := ?_) (a' := ?_) #[true, true, true, true, true, true, true, true] rfl rfl (any_of HT_.out (by kernel_rfl)) (fun _ _ _ h => h) (Or.inl ⟨by rfl, ?_⟩) ?_ ?_
             rotate_left
             · intro w'
               go_simp
               with_reducible rfl
             rotate_left
             · simp only [Act.put, List.setIfInBounds_toArray, List.set_cons_zero, List.set_cons_succ, i64_w, i32_w]
               rfl
             refine done_ (done_of HT_.out (by kernel_rfl)) ?_
             try go_wp2
             go_ret
             exact ⟨by first | rfl | (simp [errW_none, errW_some] <;> rfl) | (simp [*, errW_none, errW_some] <;> rfl), by repeat (first | (with_reducible first | exact HB.out | apply below_alloc | apply pw_below_drewN | apply below_drew1 | refine below_set ?_ GE353.out) | exact HB.out)⟩
            ·rw [if_neg c15] at H
             have c15b0 : decide (0 ≤ t361) = false := decide_eq_false c15
             clear c15
             have H' := ak H
             clear H
             have p352 : 0 ≤ (x11_1 : Int) := of_decide_eq_true d6_5
             have q352 : x11_1 < (l0.length : Int) := of_decide_eq_true d6_5
             obtain ⟨ad352, e352, hx352_0, hx352_1, hx352_2, hx352_3, hx352_4⟩ := at_T98 HR0.out x11_1 p352 q352
             cases e352
             replace hx352_0 := (HB.out.cell (World.block_lt_of_cell? w _ hx352_0)).trans hx352_0
             replace hx352_1 := (HB.out.cell (World.block_lt_of_cell? w _ hx352_1)).trans hx352_1
             replace hx352_2 := (HB.out.cell (World.block_lt_of_cell? w _ hx352_2)).trans hx352_2
             replace hx352_3 := (HB.out.cell (World.block_lt_of_cell? w _ hx352_3)).trans hx352_3
             replace hx352_4 := (HB.out.cell (World.block_lt_of_cell? w _ hx352_4)).trans hx352_4
             replace p352 := eq_true p352
             replace q352 := eq_true q352
             try go_wp2_with (first | ((with_reducible refine gate_dst (N := 4) rfl ?_); refine box_event ?hg (N := 4) ?hd (cs := #[.string (⟨#[]⟩ : ByteArray), .int .i64 0, .int .i64 0, .string (⟨#[]⟩ : ByteArray), .int .i64 0]) (t := 98) ?hr ?_; (case hd => rfl); (case hg => rfl); (case hr => first | (go_simp; done) | (go_simp; rfl)); intro gb353 hg w25 hbox hb; have n0_ := ak (below_step d6_1 hb); have n1_ := ak (hbox); have n2_ := ak ((by rw [hg]; exact (below_size d6_1) : w.heap.size ≤ gb353)); have n3_ := ak ((by rw [hg]; exact (below_size d6_1) : w.heap.size ≤ gb353)); clear HB; have HB := n0_; have BK353 := n1_; have GW353 := n2_; have GE353 := n3_; clear n0_ n1_ n2_ n3_ hb hbox hg; have hcz26_0 : w25.cell? ⟨gb353, 0, none⟩ = some (.string (⟨#[]⟩ : ByteArray)) := (blk_cell BK353.out 0).trans rfl; have hcz26_1 : w25.cell? ⟨gb353, 1, none⟩ = some (.int .i64 0) := (blk_cell BK353.out 1).trans rfl; have hcz26_2 : w25.cell? ⟨gb353, 2, none⟩ = some (.int .i64 0) := (blk_cell BK353.out 2).trans rfl; have hcz26_3 : w25.cell? ⟨gb353, 3, none⟩ = some (.string (⟨#[]⟩ : ByteArray)) := (blk_cell BK353.out 3).trans rfl; have hcz26_4 : w25.cell? ⟨gb353, 4, none⟩ = some (.int .i64 0) := (blk_cell BK353.out 4).trans rfl; have hfz26_0 := blk_frozen BK353.out 0; have hfz26_1 := blk_frozen BK353.out 1; have hfz26_2 := blk_frozen BK353.out 2; have hfz26_3 := blk_frozen BK353.out 3; have hfz26_4 := blk_frozen BK353.out 4) | ((with_reducible refine gate_callee (f := 75) rfl ?_); refine goesL_ (some 18) rfl rfl Tryd.func75 (by kernel_rfl) rfl #[.string ((rd_T98 l0 x11_1).f0)] rfl d6_2 ?_; (with_reducible refine (impl_SymFault.calls ((rd_T98 l0 x11_1).f0) t354 _ A6.out).mono ?_); rintro e w27 ⟨rfl, hb⟩; refine ⟨_, rfl, ?_⟩; have n0_ := ak (blk_below (g := gb353) (o := .cells #[.string ((rd_T98 l0 x11_1).f0), .int .i64 ((rd_T98 l0 x11_1).f1.f0), .int .i64 ((rd_T98 l0 x11_1).f1.f1), .string ((rd_T98 l0 x11_1).f1.f2), .int .i64 ((rd_T98 l0 x11_1).f2)] 98 (0, 0)) (by (with_reducible repeat (first | refine blk_drewN ?_ _ | refine blk_drew ?_ | refine blk_alloc ?_ _)); refine blk_put (cs := #[.string ((rd_T98 l0 x11_1).f0), .int .i64 ((rd_T98 l0 x11_1).f1.f0), .int .i64 ((rd_T98 l0 x11_1).f1.f1), .string ((rd_T98 l0 x11_1).f1.f2), .int .i64 0]) ?_ 4 _ rfl; (with_reducible repeat (first | refine blk_drewN ?_ _ | refine blk_drew ?_ | refine blk_alloc ?_ _)); refine blk_put (cs := #[.string ((rd_T98 l0 x11_1).f0), .int .i64 ((rd_T98 l0 x11_1).f1.f0), .int .i64 ((rd_T98 l0 x11_1).f1.f1), .string (⟨#[]⟩ : ByteArray), .int .i64 0]) ?_ 3 _ rfl; (with_reducible repeat (first | refine blk_drewN ?_ _ | refine blk_drew ?_ | refine blk_alloc ?_ _)); refine blk_put (cs := #[.string ((rd_T98 l0 x11_1).f0), .int .i64 ((rd_T98 l0 x11_1).f1.f0), .int .i64 0, .string (⟨#[]⟩ : ByteArray), .int .i64 0]) ?_ 2 _ rfl; (with_reducible repeat (first | refine blk_drewN ?_ _ | refine blk_drew ?_ | refine blk_alloc ?_ _)); refine blk_put (cs := #[.string ((rd_T98 l0 x11_1).f0), .int .i64 0, .int .i64 0, .string (⟨#[]⟩ : ByteArray), .int .i64 0]) ?_ 1 _ rfl; (with_reducible repeat (first | refine blk_drewN ?_ _ | refine blk_drew ?_ | refine blk_alloc ?_ _)); refine blk_put (cs := #[.string (⟨#[]⟩ : ByteArray), .int .i64 0, .int .i64 0, .string (⟨#[]⟩ : ByteArray), .int .i64 0]) ?_ 0 _ rfl; (with_reducible repeat (first | refine blk_drewN ?_ _ | refine blk_drew ?_ | refine blk_alloc ?_ _)); exact BK353.out) hb); have n1_ := ak (below_step d6_3 hb); clear BK353 HB; have BK353 := n0_; have HB := n1_; clear n0_ n1_; (try clear hb); have hcz28_0 : w27.cell? ⟨gb353, 0, none⟩ = some (.string ((rd_T98 l0 x11_1).f0)) := (blk_cell BK353.out 0).trans rfl; have hcz28_1 : w27.cell? ⟨gb353, 1, none⟩ = some (.int .i64 ((rd_T98 l0 x11_1).f1.f0)) := (blk_cell BK353.out 1).trans rfl; have hcz28_2 : w27.cell? ⟨gb353, 2, none⟩ = some (.int .i64 ((rd_T98 l0 x11_1).f1.f1)) := (blk_cell BK353.out 2).trans rfl; have hcz28_3 : w27.cell? ⟨gb353, 3, none⟩ = some (.string ((rd_T98 l0 x11_1).f1.f2)) := (blk_cell BK353.out 3).trans rfl; have hcz28_4 : w27.cell? ⟨gb353, 4, none⟩ = some (.int .i64 ((rd_T98 l0 x11_1).f2)) := (blk_cell BK353.out 4).trans rfl; have hfz28_0 := blk_frozen BK353.out 0; have hfz28_1 := blk_frozen BK353.out 1; have hfz28_2 := blk_frozen BK353.out 2; have hfz28_3 := blk_frozen BK353.out 3; have hfz28_4 := blk_frozen BK353.out 4) | ((with_reducible refine gate_callee (f := 91) rfl ?_); refine goesL_ (some 22) rfl rfl Tryd.func91 (by kernel_rfl) rfl #[.agg #[.int .i64 ((rd_T98 l0 x11_1).f1.f0), .int .i64 ((rd_T98 l0 x11_1).f1.f1), .string ((rd_T98 l0 x11_1).f1.f2)]] rfl d6_2 ?_; (with_reducible refine (impl_ValueFault.calls k1 ((rd_T98 l0 x11_1).f1.f0) ((rd_T98 l0 x11_1).f1.f1) ((rd_T98 l0 x11_1).f1.f2) t355 _ A8.out).mono ?_); rintro e w29 ⟨rfl, hb⟩; refine ⟨_, rfl, ?_⟩; have n0_ := ak (blk_below (g := gb353) (o := .cells #[.string ((rd_T98 l0 x11_1).f0), .int .i64 ((rd_T98 l0 x11_1).f1.f0), .int .i64 ((rd_T98 l0 x11_1).f1.f1), .string ((rd_T98 l0 x11_1).f1.f2), .int .i64 ((rd_T98 l0 x11_1).f2)] 98 (0, 0)) d6_4 hb); have n1_ := ak (below_step d6_3 hb); clear BK353 HB; have BK353 := n0_; have HB := n1_; clear n0_ n1_; (try clear hb); have hcz30_0 : w29.cell? ⟨gb353, 0, none⟩ = some (.string ((rd_T98 l0 x11_1).f0)) := (blk_cell BK353.out 0).trans rfl; have hcz30_1 : w29.cell? ⟨gb353, 1, none⟩ = some (.int .i64 ((rd_T98 l0 x11_1).f1.f0)) := (blk_cell BK353.out 1).trans rfl; have hcz30_2 : w29.cell? ⟨gb353, 2, none⟩ = some (.int .i64 ((rd_T98 l0 x11_1).f1.f1)) := (blk_cell BK353.out 2).trans rfl; have hcz30_3 : w29.cell? ⟨gb353, 3, none⟩ = some (.string ((rd_T98 l0 x11_1).f1.f2)) := (blk_cell BK353.out 3).trans rfl; have hcz30_4 : w29.cell? ⟨gb353, 4, none⟩ = some (.int .i64 ((rd_T98 l0 x11_1).f2)) := (blk_cell BK353.out 4).trans rfl; have hfz30_0 := blk_frozen BK353.out 0; have hfz30_1 := blk_frozen BK353.out 1; have hfz30_2 := blk_frozen BK353.out 2; have hfz30_3 := blk_frozen BK353.out 3; have hfz30_4 := blk_frozen BK353.out 4) | ((with_reducible refine gate_callee (f := 51) rfl ?_); refine goesL_ (some 29) rfl rfl Tryd.func51 (by kernel_rfl) rfl #[.int .i64 ((rd_T98 l0 x11_1).f2), .int .i64 1, .int .i64 99999] rfl d6_2 ?_; (with_reducible refine (impl_in.calls ((rd_T98 l0 x11_1).f2) 1 99999 true _ A10.out).mono ?_); rintro e w' ⟨rfl, ⟨nd, rfl⟩⟩; refine ⟨_, rfl, ?_⟩))
             (try (rw [drewN_self w29]; generalize hq_ : World.drewN w29 _ = w29; have n0_ : Aside0 (w29.heap[gb353]? = some (.cells #[.string ((rd_T98 l0 x11_1).f0), .int .i64 ((rd_T98 l0 x11_1).f1.f0), .int .i64 ((rd_T98 l0 x11_1).f1.f1), .string ((rd_T98 l0 x11_1).f1.f2), .int .i64 ((rd_T98 l0 x11_1).f2)] 98 (0, 0))) := ⟨by rw [← hq_]; exact d6_4⟩; have n1_ : Aside0 (Below w.heap.size w w29) := ⟨by rw [← hq_]; exact d6_3⟩; clear BK353 HB hq_; have BK353 := n0_; have HB := n1_; clear n0_ n1_))
             have n0_ := ak (blk_drew BK353.out)
             have n1_ := ak (below_drew1 HB.out)
             clear BK353
             clear HB
             have BK353 := n0_
             have HB := n1_
             clear n0_ n1_
             have q32 : (x11_1 : Int) ≤ ((l0.length : Int) : Int) := of_decide_eq_true d6_5
             obtain ⟨i032, hi032, _, hsz32, _⟩ := info_parts info98
             have hroom32 : l0.length ≤ c0 := HC0.out
             have hC32 : Kd.C k98 _ (some ad352) l0.length l0 := HR0.out
             have hcut32 := cut_to (P := Tryd.prog) 50 98 .i64 Tryd.underlying50 hi032 (some ad352) l0.length c0 x11_1 (of_decide_eq_true d6_5) q32 hroom32
             have hr32 := Kd.C_take (m := (x11_1 : Int).toNat) hC32 (by omega)
             have hy32 : y357.length = (x11_1 : Int).toNat := (by rw [Ny357.out, List.length_take]; omega)
             rw [← Ny357.out] at hr32
             rw [← hy32] at hcut32
             have HR360 := ak hr32
             have HC360 := ak (show y357.length ≤ c0 from by omega)
             clear hr32 hC32 hroom32 hi032 hsz32
             have KY32 := ak hy32
             clear hy32
             replace q32 := eq_true q32
             refine start_ (n := 8) (S := fun w' => w'.cell? ⟨gb353, 0, none⟩ = some (.string ((rd_T98 l0 x11_1).f0)) ∧ w'.cell? ⟨gb353, 1, none⟩ = some (.int .i64 ((rd_T98 l0 x11_1).f1.f0)) ∧ w'.cell? ⟨gb353, 2, none⟩ = some (.int .i64 ((rd_T98 l0 x11_1).f1.f1)) ∧ w'.cell? ⟨gb353, 3, none⟩ = some (.string ((rd_T98 l0 x11_1).f1.f2)) ∧ w'.cell? ⟨gb353, 4, none⟩ = some (.int .i64 ((rd_T98 l0 x11_1).f2))) (ds := []) #[false, false, false, false, false, false, false, false] (by kernel_rfl) rfl rfl ⟨(blk_cell BK353.out 0).trans rfl, (blk_cell BK353.out 1).trans rfl, (blk_cell BK353.out 2).trans rfl, (blk_cell BK353.out 3).trans rfl, (blk_cell BK353.out 4).trans rfl⟩ (fun hHeld => ?_); refine with_tabW impl_GlobalsFault.tab13 impl_GlobalsFault.bits13 (fun HT_ HW_ => ?_)
             generalize w29.drew = w31 at BK353 HB HR360 hHeld ⊢
             refine pure_ (i := 0) (N := some 32) (v := ?_) (a' := ?_) #[true, false, false, false, false, false, false, false] rfl rfl (any_of HT_.out (by kernel_rfl)) (fun _ _ _ h => h) (Or.inl ⟨by rfl, ?_⟩) ?_ ?_
             rotate_left
             · intro w'
               go_simp
               with_reducible rfl
             rotate_left
             · simp only [Act.put, List.setIfInBounds_toArray, List.set_cons_zero, List.set_cons_succ, i64_w, i32_w]
               rfl
             refine pure_ (i := 1) (N := some 33) (v := ?_) (a' := ?_) #[true, true, false, false, false, false, false, false] rfl rfl (any_of HT_.out (by kernel_rfl)) (fun _ _ _ h => h) (Or.inl ⟨by rfl, ?_⟩) ?_ ?_
             rotate_left
             · intro w'
               go_simp
               with_reducible rfl
             rotate_left
             · simp only [Act.put, List.setIfInBounds_toArray, List.set_cons_zero, List.set_cons_succ, i64_w, i32_w]
               rfl
             refine pure_ (i := 2) (N := some 34) (v := ?_) (a' := ?_) #[true, true, true, false, false, false, false, false] rfl rfl (any_of HT_.out (by kernel_rfl)) (fun _ _ _ h => h) (Or.inl ⟨by rfl, ?_⟩) ?_ ?_
             rotate_left
             · intro w'
               go_simp
               with_reducible rfl
             rotate_left
             · simp only [Act.put, List.setIfInBounds_toArray, List.set_cons_zero, List.set_cons_succ, i64_w, i32_w]
               rfl
             refine pure_ (i := 3) (N := some 35) (v := ?_) (a' := ?_) #[true, true, true, true, false, false, false, false] rfl rfl (any_of HT_.out (by kernel_rfl)) (fun _ _ _ h => h) (Or.inl ⟨by rfl, ?_⟩) ?_ ?_
             rotate_left
             · intro w'
               go_simp
               with_reducible rfl
             rotate_left
             · simp only [Act.put, List.setIfInBounds_toArray, List.set_cons_zero, List.set_cons_succ, i64_w, i32_w]
               rfl
             refine take_ (i := 4) (N := some 36) (v := ?_) (a' := ?_) #[true, true, true, true, true, false, false, false] rfl rfl (take_ofW HT_.out HW_.out (by kernel_rfl)) (fun _ _ _ h => h) (Or.inl ⟨by rfl, ?_⟩) hHeld ?_ ?_
             rotate_left
             · rintro w' ⟨s0, s1, s2, s3, s4⟩
               go_simp
               with_reducible rfl
             rotate_left
             · simp only [Act.put, List.setIfInBounds_toArray, List.set_cons_zero, List.set_cons_succ, i64_w, i32_w]
               rfl
             refine one_ (i := 5) (N := some 37) #[true, true, true, true, true, true, false, false] rfl rfl (one_of HT_.out (by kernel_rfl)) (by decide) (fun K hK => ?_)
             refine goes_ Tryd.func117 (by kernel_rfl) rfl #[.slice (some ad352) y357.length c0, .string ((rd_T98 l0 x11_1).f0)] (by rfl) rfl rfl d6_2 ?_
             with_reducible refine (impl_globalAt.calls k1 _ _ y357 ((rd_T98 l0 x11_1).f0) t361 _ ?side1 ?side2 A14.out).mono ?_
             (case side1 => repeat (first | exact (Kd.C_below HR360.out HB.out) | (with_reducible refine Kd.C_alloc ?_ _) | (with_reducible refine Kd.C_drewN ?_ _) | (with_reducible refine Kd.C_drew ?_)))
             (case side2 => exact HC360.out)
             rintro e w33 ⟨rfl, hb⟩
             refine ⟨_, rfl, ?_⟩
             have n0_ := ak (blk_below (g := gb353) (o := .cells #[.string ((rd_T98 l0 x11_1).f0), .int .i64 ((rd_T98 l0 x11_1).f1.f0), .int .i64 ((rd_T98 l0 x11_1).f1.f1), .string ((rd_T98 l0 x11_1).f1.f2), .int .i64 ((rd_T98 l0 x11_1).f2)] 98 (0, 0)) d6_4 hb)
             have n1_ := ak (below_step d6_3 hb)
             clear BK353
             clear HB
             have BK353 := n0_
             have HB := n1_
             clear n0_ n1_
             (try clear hb)
             (try clear hb2)
             (try clear hk)
             (try clear hi)
             refine hK.out _ _ ⟨(blk_cell BK353.out 0).trans rfl, (blk_cell BK353.out 1).trans rfl, (blk_cell BK353.out 2).trans rfl, (blk_cell BK353.out 3).trans rfl, (blk_cell BK353.out 4).trans rfl⟩ (fun hHeld => ?_)
             clear hK K
             refine norm_ (a' := ?_) ?_ ?_
             rotate_left
             · show Act.put _ (some 37) _ = _
               simp only [Act.put, List.setIfInBounds_toArray, List.set_cons_zero, List.set_cons_succ, i64_w, i32_w]
               rfl
             refine pure_ (i := 6) (N := some 38) (v := ?_) (a' := ?_) #[true, true, true, true, true, true, true, false] rfl rfl (any_of HT_.out (by kernel_rfl)) (fun _ _ _ h => h) (Or.inl ⟨by rfl, ?_⟩) ?_ ?_
             rotate_left
             · intro w'
               go_simp
               with_reducible rfl
             rotate_left
             · simp only [Act.put, List.setIfInBounds_toArray, List.set_cons_zero, List.set_cons_succ, i64_w, i32_w]
               rfl
             refine pure_ (i := 7) (N := some 31) (v := ?_) (a' := ?_) #[true, true, true, true, true, true, true, true] rfl rfl (any_of HT_.out (by kernel_rfl)) (fun _ _ _ h => h) (Or.inl ⟨by rfl, ?_⟩) ?_ ?_
             rotate_left
             · intro w'
               go_simp
               with_reducible rfl
             rotate_left
             · simp only [Act.put, List.setIfInBounds_toArray, List.set_cons_zero, List.set_cons_succ, i64_w, i32_w]
               rfl
             refine done_ (done_of HT_.out (by kernel_rfl)) ?_
             try go_wp2
             go_roundg k1
             case measure => have := HK1.out; omega
             case rel => exact ⟨(wrap64 (x11_1 + 1)), (by first | rfl | (simp; done) | (simp [*]; done) | (simp [ne_nil_b, eq_nil_b]; done)), H', ⟨by have := HK1.out; omega⟩, ⟨by repeat (first | (with_reducible first | exact HB.out | apply below_alloc | apply pw_below_drewN | apply below_drew1 | refine below_set ?_ GE353.out) | exact HB.out)⟩⟩
           ·rw [if_neg c13] at H
            exact absurd H (by simp)
          ·replace c11 := Bool.eq_false_iff.mpr c11
           subst c11
           have H1 : (some 3) = some r := by rw [if_neg (show ¬ (false = true) by decide)] at H; exact H
           clear H
           have H := H1
           clear H1
           obtain rfl := Option.some.inj H
           have p352 : 0 ≤ (x11_1 : Int) := of_decide_eq_true d6_5
           have q352 : x11_1 < (l0.length : Int) := of_decide_eq_true d6_5
           obtain ⟨ad352, e352, hx352_0, hx352_1, hx352_2, hx352_3, hx352_4⟩ := at_T98 HR0.out x11_1 p352 q352
           cases e352
           replace hx352_0 := (HB.out.cell (World.block_lt_of_cell? w _ hx352_0)).trans hx352_0
           replace hx352_1 := (HB.out.cell (World.block_lt_of_cell? w _ hx352_1)).trans hx352_1
           replace hx352_2 := (HB.out.cell (World.block_lt_of_cell? w _ hx352_2)).trans hx352_2
           replace hx352_3 := (HB.out.cell (World.block_lt_of_cell? w _ hx352_3)).trans hx352_3
           replace hx352_4 := (HB.out.cell (World.block_lt_of_cell? w _ hx352_4)).trans hx352_4
           replace p352 := eq_true p352
           replace q352 := eq_true q352
           go_wp2_with (first | ((with_reducible refine gate_dst (N := 4) rfl ?_); refine box_event ?hg (N := 4) ?hd (cs := #[.string (⟨#[]⟩ : ByteArray), .int .i64 0, .int .i64 0, .string (⟨#[]⟩ : ByteArray), .int .i64 0]) (t := 98) ?hr ?_; (case hd => rfl); (case hg => rfl); (case hr => first | (go_simp; done) | (go_simp; rfl)); intro gb353 hg w34 hbox hb; have n0_ := ak (below_step d6_1 hb); have n1_ := ak (hbox); have n2_ := ak ((by rw [hg]; exact (below_size d6_1) : w.heap.size ≤ gb353)); have n3_ := ak ((by rw [hg]; exact (below_size d6_1) : w.heap.size ≤ gb353)); clear HB; have HB := n0_; have BK353 := n1_; have GW353 := n2_; have GE353 := n3_; clear n0_ n1_ n2_ n3_ hb hbox hg; have hcz35_0 : w34.cell? ⟨gb353, 0, none⟩ = some (.string (⟨#[]⟩ : ByteArray)) := (blk_cell BK353.out 0).trans rfl; have hcz35_1 : w34.cell? ⟨gb353, 1, none⟩ = some (.int .i64 0) := (blk_cell BK353.out 1).trans rfl; have hcz35_2 : w34.cell? ⟨gb353, 2, none⟩ = some (.int .i64 0) := (blk_cell BK353.out 2).trans rfl; have hcz35_3 : w34.cell? ⟨gb353, 3, none⟩ = some (.string (⟨#[]⟩ : ByteArray)) := (blk_cell BK353.out 3).trans rfl; have hcz35_4 : w34.cell? ⟨gb353, 4, none⟩ = some (.int .i64 0) := (blk_cell BK353.out 4).trans rfl; have hfz35_0 := blk_frozen BK353.out 0; have hfz35_1 := blk_frozen BK353.out 1; have hfz35_2 := blk_frozen BK353.out 2; have hfz35_3 := blk_frozen BK353.out 3; have hfz35_4 := blk_frozen BK353.out 4) | ((with_reducible refine gate_callee (f := 75) rfl ?_); refine goesL_ (some 18) rfl rfl Tryd.func75 (by kernel_rfl) rfl #[.string ((rd_T98 l0 x11_1).f0)] rfl d6_2 ?_; (with_reducible refine (impl_SymFault.calls ((rd_T98 l0 x11_1).f0) t354 _ A6.out).mono ?_); rintro e w36 ⟨rfl, hb⟩; refine ⟨_, rfl, ?_⟩; have n0_ := ak (blk_below (g := gb353) (o := .cells #[.string ((rd_T98 l0 x11_1).f0), .int .i64 ((rd_T98 l0 x11_1).f1.f0), .int .i64 ((rd_T98 l0 x11_1).f1.f1), .string ((rd_T98 l0 x11_1).f1.f2), .int .i64 ((rd_T98 l0 x11_1).f2)] 98 (0, 0)) (by (with_reducible repeat (first | refine blk_drewN ?_ _ | refine blk_drew ?_ | refine blk_alloc ?_ _)); refine blk_put (cs := #[.string ((rd_T98 l0 x11_1).f0), .int .i64 ((rd_T98 l0 x11_1).f1.f0), .int .i64 ((rd_T98 l0 x11_1).f1.f1), .string ((rd_T98 l0 x11_1).f1.f2), .int .i64 0]) ?_ 4 _ rfl; (with_reducible repeat (first | refine blk_drewN ?_ _ | refine blk_drew ?_ | refine blk_alloc ?_ _)); refine blk_put (cs := #[.string ((rd_T98 l0 x11_1).f0), .int .i64 ((rd_T98 l0 x11_1).f1.f0), .int .i64 ((rd_T98 l0 x11_1).f1.f1), .string (⟨#[]⟩ : ByteArray), .int .i64 0]) ?_ 3 _ rfl; (with_reducible repeat (first | refine blk_drewN ?_ _ | refine blk_drew ?_ | refine blk_alloc ?_ _)); refine blk_put (cs := #[.string ((rd_T98 l0 x11_1).f0), .int .i64 ((rd_T98 l0 x11_1).f1.f0), .int .i64 0, .string (⟨#[]⟩ : ByteArray), .int .i64 0]) ?_ 2 _ rfl; (with_reducible repeat (first | refine blk_drewN ?_ _ | refine blk_drew ?_ | refine blk_alloc ?_ _)); refine blk_put (cs := #[.string ((rd_T98 l0 x11_1).f0), .int .i64 0, .int .i64 0, .string (⟨#[]⟩ : ByteArray), .int .i64 0]) ?_ 1 _ rfl; (with_reducible repeat (first | refine blk_drewN ?_ _ | refine blk_drew ?_ | refine blk_alloc ?_ _)); refine blk_put (cs := #[.string (⟨#[]⟩ : ByteArray), .int .i64 0, .int .i64 0, .string (⟨#[]⟩ : ByteArray), .int .i64 0]) ?_ 0 _ rfl; (with_reducible repeat (first | refine blk_drewN ?_ _ | refine blk_drew ?_ | refine blk_alloc ?_ _)); exact BK353.out) hb); have n1_ := ak (below_step d6_3 hb); clear BK353 HB; have BK353 := n0_; have HB := n1_; clear n0_ n1_; (try clear hb); have hcz37_0 : w36.cell? ⟨gb353, 0, none⟩ = some (.string ((rd_T98 l0 x11_1).f0)) := (blk_cell BK353.out 0).trans rfl; have hcz37_1 : w36.cell? ⟨gb353, 1, none⟩ = some (.int .i64 ((rd_T98 l0 x11_1).f1.f0)) := (blk_cell BK353.out 1).trans rfl; have hcz37_2 : w36.cell? ⟨gb353, 2, none⟩ = some (.int .i64 ((rd_T98 l0 x11_1).f1.f1)) := (blk_cell BK353.out 2).trans rfl; have hcz37_3 : w36.cell? ⟨gb353, 3, none⟩ = some (.string ((rd_T98 l0 x11_1).f1.f2)) := (blk_cell BK353.out 3).trans rfl; have hcz37_4 : w36.cell? ⟨gb353, 4, none⟩ = some (.int .i64 ((rd_T98 l0 x11_1).f2)) := (blk_cell BK353.out 4).trans rfl; have hfz37_0 := blk_frozen BK353.out 0; have hfz37_1 := blk_frozen BK353.out 1; have hfz37_2 := blk_frozen BK353.out 2; have hfz37_3 := blk_frozen BK353.out 3; have hfz37_4 := blk_frozen BK353.out 4) | ((with_reducible refine gate_callee (f := 91) rfl ?_); refine goesL_ (some 22) rfl rfl Tryd.func91 (by kernel_rfl) rfl #[.agg #[.int .i64 ((rd_T98 l0 x11_1).f1.f0), .int .i64 ((rd_T98 l0 x11_1).f1.f1), .string ((rd_T98 l0 x11_1).f1.f2)]] rfl d6_2 ?_; (with_reducible refine (impl_ValueFault.calls k1 ((rd_T98 l0 x11_1).f1.f0) ((rd_T98 l0 x11_1).f1.f1) ((rd_T98 l0 x11_1).f1.f2) t355 _ A8.out).mono ?_); rintro e w38 ⟨rfl, hb⟩; refine ⟨_, rfl, ?_⟩; have n0_ := ak (blk_below (g := gb353) (o := .cells #[.string ((rd_T98 l0 x11_1).f0), .int .i64 ((rd_T98 l0 x11_1).f1.f0), .int .i64 ((rd_T98 l0 x11_1).f1.f1), .string ((rd_T98 l0 x11_1).f1.f2), .int .i64 ((rd_T98 l0 x11_1).f2)] 98 (0, 0)) d6_4 hb); have n1_ := ak (below_step d6_3 hb); clear BK353 HB; have BK353 := n0_; have HB := n1_; clear n0_ n1_; (try clear hb); have hcz39_0 : w38.cell? ⟨gb353, 0, none⟩ = some (.string ((rd_T98 l0 x11_1).f0)) := (blk_cell BK353.out 0).trans rfl; have hcz39_1 : w38.cell? ⟨gb353, 1, none⟩ = some (.int .i64 ((rd_T98 l0 x11_1).f1.f0)) := (blk_cell BK353.out 1).trans rfl; have hcz39_2 : w38.cell? ⟨gb353, 2, none⟩ = some (.int .i64 ((rd_T98 l0 x11_1).f1.f1)) := (blk_cell BK353.out 2).trans rfl; have hcz39_3 : w38.cell? ⟨gb353, 3, none⟩ = some (.string ((rd_T98 l0 x11_1).f1.f2)) := (blk_cell BK353.out 3).trans rfl; have hcz39_4 : w38.cell? ⟨gb353, 4, none⟩ = some (.int .i64 ((rd_T98 l0 x11_1).f2)) := (blk_cell BK353.out 4).trans rfl; have hfz39_0 := blk_frozen BK353.out 0; have hfz39_1 := blk_frozen BK353.out 1; have hfz39_2 := blk_frozen BK353.out 2; have hfz39_3 := blk_frozen BK353.out 3; have hfz39_4 := blk_frozen BK353.out 4) | ((with_reducible refine gate_callee (f := 51) rfl ?_); refine goesL_ (some 29) rfl rfl Tryd.func51 (by kernel_rfl) rfl #[.int .i64 ((rd_T98 l0 x11_1).f2), .int .i64 1, .int .i64 99999] rfl d6_2 ?_; (with_reducible refine (impl_in.calls ((rd_T98 l0 x11_1).f2) 1 99999 false _ A10.out).mono ?_); rintro e w' ⟨rfl, ⟨nd, rfl⟩⟩; refine ⟨_, rfl, ?_⟩))
           go_ret
           exact ⟨by first | rfl | (simp [errW_none, errW_some] <;> rfl) | (simp [*, errW_none, errW_some] <;> rfl), by repeat (first | (with_reducible first | exact HB.out | apply below_alloc | apply pw_below_drewN | apply below_drew1 | refine below_set ?_ GE353.out) | exact HB.out)⟩
         ·rw [if_neg c9] at H
          have c9b0 : (t355 == 0) = false := beq_eq_false_iff_ne.mpr c9
          have c9b1 : (t355 != 0) = true := bne_iff_ne.mpr c9
          obtain rfl := Option.some.inj H
          have p352 : 0 ≤ (x11_1 : Int) := of_decide_eq_true d6_5
          have q352 : x11_1 < (l0.length : Int) := of_decide_eq_true d6_5
          obtain ⟨ad352, e352, hx352_0, hx352_1, hx352_2, hx352_3, hx352_4⟩ := at_T98 HR0.out x11_1 p352 q352
          cases e352
          replace hx352_0 := (HB.out.cell (World.block_lt_of_cell? w _ hx352_0)).trans hx352_0
          replace hx352_1 := (HB.out.cell (World.block_lt_of_cell? w _ hx352_1)).trans hx352_1
          replace hx352_2 := (HB.out.cell (World.block_lt_of_cell? w _ hx352_2)).trans hx352_2
          replace hx352_3 := (HB.out.cell (World.block_lt_of_cell? w _ hx352_3)).trans hx352_3
          replace hx352_4 := (HB.out.cell (World.block_lt_of_cell? w _ hx352_4)).trans hx352_4
          replace p352 := eq_true p352
          replace q352 := eq_true q352
          go_wp2_with (first | ((with_reducible refine gate_dst (N := 4) rfl ?_); refine box_event ?hg (N := 4) ?hd (cs := #[.string (⟨#[]⟩ : ByteArray), .int .i64 0, .int .i64 0, .string (⟨#[]⟩ : ByteArray), .int .i64 0]) (t := 98) ?hr ?_; (case hd => rfl); (case hg => rfl); (case hr => first | (go_simp; done) | (go_simp; rfl)); intro gb353 hg w40 hbox hb; have n0_ := ak (below_step d6_1 hb); have n1_ := ak (hbox); have n2_ := ak ((by rw [hg]; exact (below_size d6_1) : w.heap.size ≤ gb353)); have n3_ := ak ((by rw [hg]; exact (below_size d6_1) : w.heap.size ≤ gb353)); clear HB; have HB := n0_; have BK353 := n1_; have GW353 := n2_; have GE353 := n3_; clear n0_ n1_ n2_ n3_ hb hbox hg; have hcz41_0 : w40.cell? ⟨gb353, 0, none⟩ = some (.string (⟨#[]⟩ : ByteArray)) := (blk_cell BK353.out 0).trans rfl; have hcz41_1 : w40.cell? ⟨gb353, 1, none⟩ = some (.int .i64 0) := (blk_cell BK353.out 1).trans rfl; have hcz41_2 : w40.cell? ⟨gb353, 2, none⟩ = some (.int .i64 0) := (blk_cell BK353.out 2).trans rfl; have hcz41_3 : w40.cell? ⟨gb353, 3, none⟩ = some (.string (⟨#[]⟩ : ByteArray)) := (blk_cell BK353.out 3).trans rfl; have hcz41_4 : w40.cell? ⟨gb353, 4, none⟩ = some (.int .i64 0) := (blk_cell BK353.out 4).trans rfl; have hfz41_0 := blk_frozen BK353.out 0; have hfz41_1 := blk_frozen BK353.out 1; have hfz41_2 := blk_frozen BK353.out 2; have hfz41_3 := blk_frozen BK353.out 3; have hfz41_4 := blk_frozen BK353.out 4) | ((with_reducible refine gate_callee (f := 75) rfl ?_); refine goesL_ (some 18) rfl rfl Tryd.func75 (by kernel_rfl) rfl #[.string ((rd_T98 l0 x11_1).f0)] rfl d6_2 ?_; (with_reducible refine (impl_SymFault.calls ((rd_T98 l0 x11_1).f0) t354 _ A6.out).mono ?_); rintro e w42 ⟨rfl, hb⟩; refine ⟨_, rfl, ?_⟩; have n0_ := ak (blk_below (g := gb353) (o := .cells #[.string ((rd_T98 l0 x11_1).f0), .int .i64 ((rd_T98 l0 x11_1).f1.f0), .int .i64 ((rd_T98 l0 x11_1).f1.f1), .string ((rd_T98 l0 x11_1).f1.f2), .int .i64 ((rd_T98 l0 x11_1).f2)] 98 (0, 0)) (by (with_reducible repeat (first | refine blk_drewN ?_ _ | refine blk_drew ?_ | refine blk_alloc ?_ _)); refine blk_put (cs := #[.string ((rd_T98 l0 x11_1).f0), .int .i64 ((rd_T98 l0 x11_1).f1.f0), .int .i64 ((rd_T98 l0 x11_1).f1.f1), .string ((rd_T98 l0 x11_1).f1.f2), .int .i64 0]) ?_ 4 _ rfl; (with_reducible repeat (first | refine blk_drewN ?_ _ | refine blk_drew ?_ | refine blk_alloc ?_ _)); refine blk_put (cs := #[.string ((rd_T98 l0 x11_1).f0), .int .i64 ((rd_T98 l0 x11_1).f1.f0), .int .i64 ((rd_T98 l0 x11_1).f1.f1), .string (⟨#[]⟩ : ByteArray), .int .i64 0]) ?_ 3 _ rfl; (with_reducible repeat (first | refine blk_drewN ?_ _ | refine blk_drew ?_ | refine blk_alloc ?_ _)); refine blk_put (cs := #[.string ((rd_T98 l0 x11_1).f0), .int .i64 ((rd_T98 l0 x11_1).f1.f0), .int .i64 0, .string (⟨#[]⟩ : ByteArray), .int .i64 0]) ?_ 2 _ rfl; (with_reducible repeat (first | refine blk_drewN ?_ _ | refine blk_drew ?_ | refine blk_alloc ?_ _)); refine blk_put (cs := #[.string ((rd_T98 l0 x11_1).f0), .int .i64 0, .int .i64 0, .string (⟨#[]⟩ : ByteArray), .int .i64 0]) ?_ 1 _ rfl; (with_reducible repeat (first | refine blk_drewN ?_ _ | refine blk_drew ?_ | refine blk_alloc ?_ _)); refine blk_put (cs := #[.string (⟨#[]⟩ : ByteArray), .int .i64 0, .int .i64 0, .string (⟨#[]⟩ : ByteArray), .int .i64 0]) ?_ 0 _ rfl; (with_reducible repeat (first | refine blk_drewN ?_ _ | refine blk_drew ?_ | refine blk_alloc ?_ _)); exact BK353.out) hb); have n1_ := ak (below_step d6_3 hb); clear BK353 HB; have BK353 := n0_; have HB := n1_; clear n0_ n1_; (try clear hb); have hcz43_0 : w42.cell? ⟨gb353, 0, none⟩ = some (.string ((rd_T98 l0 x11_1).f0)) := (blk_cell BK353.out 0).trans rfl; have hcz43_1 : w42.cell? ⟨gb353, 1, none⟩ = some (.int .i64 ((rd_T98 l0 x11_1).f1.f0)) := (blk_cell BK353.out 1).trans rfl; have hcz43_2 : w42.cell? ⟨gb353, 2, none⟩ = some (.int .i64 ((rd_T98 l0 x11_1).f1.f1)) := (blk_cell BK353.out 2).trans rfl; have hcz43_3 : w42.cell? ⟨gb353, 3, none⟩ = some (.string ((rd_T98 l0 x11_1).f1.f2)) := (blk_cell BK353.out 3).trans rfl; have hcz43_4 : w42.cell? ⟨gb353, 4, none⟩ = some (.int .i64 ((rd_T98 l0 x11_1).f2)) := (blk_cell BK353.out 4).trans rfl; have hfz43_0 := blk_frozen BK353.out 0; have hfz43_1 := blk_frozen BK353.out 1; have hfz43_2 := blk_frozen BK353.out 2; have hfz43_3 := blk_frozen BK353.out 3; have hfz43_4 := blk_frozen BK353.out 4) | ((with_reducible refine gate_callee (f := 91) rfl ?_); refine goesL_ (some 22) rfl rfl Tryd.func91 (by kernel_rfl) rfl #[.agg #[.int .i64 ((rd_T98 l0 x11_1).f1.f0), .int .i64 ((rd_T98 l0 x11_1).f1.f1), .string ((rd_T98 l0 x11_1).f1.f2)]] rfl d6_2 ?_; (with_reducible refine (impl_ValueFault.calls k1 ((rd_T98 l0 x11_1).f1.f0) ((rd_T98 l0 x11_1).f1.f1) ((rd_T98 l0 x11_1).f1.f2) t355 _ A8.out).mono ?_); rintro e w44 ⟨rfl, hb⟩; refine ⟨_, rfl, ?_⟩; have n0_ := ak (blk_below (g := gb353) (o := .cells #[.string ((rd_T98 l0 x11_1).f0), .int .i64 ((rd_T98 l0 x11_1).f1.f0), .int .i64 ((rd_T98 l0 x11_1).f1.f1), .string ((rd_T98 l0 x11_1).f1.f2), .int .i64 ((rd_T98 l0 x11_1).f2)] 98 (0, 0)) d6_4 hb); have n1_ := ak (below_step d6_3 hb); clear BK353 HB; have BK353 := n0_; have HB := n1_; clear n0_ n1_; (try clear hb)))
          go_ret
          exact ⟨by first | rfl | (simp [errW_none, errW_some] <;> rfl) | (simp [*, errW_none, errW_some] <;> rfl), by repeat (first | (with_reducible first | exact HB.out | apply below_alloc | apply pw_below_drewN | apply below_drew1 | refine below_set ?_ GE353.out) | exact HB.out)⟩
        ·rw [if_neg c7] at H
         have c7b0 : (t354 == 0) = false := beq_eq_false_iff_ne.mpr c7
         have c7b1 : (t354 != 0) = true := bne_iff_ne.mpr c7
         obtain rfl := Option.some.inj H
         have p352 : 0 ≤ (x11_1 : Int) := of_decide_eq_true d6_5
         have q352 : x11_1 < (l0.length : Int) := of_decide_eq_true d6_5
         obtain ⟨ad352, e352, hx352_0, hx352_1, hx352_2, hx352_3, hx352_4⟩ := at_T98 HR0.out x11_1 p352 q352
         cases e352
         replace hx352_0 := (HB.out.cell (World.block_lt_of_cell? w _ hx352_0)).trans hx352_0
         replace hx352_1 := (HB.out.cell (World.block_lt_of_cell? w _ hx352_1)).trans hx352_1
         replace hx352_2 := (HB.out.cell (World.block_lt_of_cell? w _ hx352_2)).trans hx352_2
         replace hx352_3 := (HB.out.cell (World.block_lt_of_cell? w _ hx352_3)).trans hx352_3
         replace hx352_4 := (HB.out.cell (World.block_lt_of_cell? w _ hx352_4)).trans hx352_4
         replace p352 := eq_true p352
         replace q352 := eq_true q352
         go_wp2_with (first | ((with_reducible refine gate_dst (N := 4) rfl ?_); refine box_event ?hg (N := 4) ?hd (cs := #[.string (⟨#[]⟩ : ByteArray), .int .i64 0, .int .i64 0, .string (⟨#[]⟩ : ByteArray), .int .i64 0]) (t := 98) ?hr ?_; (case hd => rfl); (case hg => rfl); (case hr => first | (go_simp; done) | (go_simp; rfl)); intro gb353 hg w45 hbox hb; have n0_ := ak (below_step d6_1 hb); have n1_ := ak (hbox); have n2_ := ak ((by rw [hg]; exact (below_size d6_1) : w.heap.size ≤ gb353)); have n3_ := ak ((by rw [hg]; exact (below_size d6_1) : w.heap.size ≤ gb353)); clear HB; have HB := n0_; have BK353 := n1_; have GW353 := n2_; have GE353 := n3_; clear n0_ n1_ n2_ n3_ hb hbox hg; have hcz46_0 : w45.cell? ⟨gb353, 0, none⟩ = some (.string (⟨#[]⟩ : ByteArray)) := (blk_cell BK353.out 0).trans rfl; have hcz46_1 : w45.cell? ⟨gb353, 1, none⟩ = some (.int .i64 0) := (blk_cell BK353.out 1).trans rfl; have hcz46_2 : w45.cell? ⟨gb353, 2, none⟩ = some (.int .i64 0) := (blk_cell BK353.out 2).trans rfl; have hcz46_3 : w45.cell? ⟨gb353, 3, none⟩ = some (.string (⟨#[]⟩ : ByteArray)) := (blk_cell BK353.out 3).trans rfl; have hcz46_4 : w45.cell? ⟨gb353, 4, none⟩ = some (.int .i64 0) := (blk_cell BK353.out 4).trans rfl; have hfz46_0 := blk_frozen BK353.out 0; have hfz46_1 := blk_frozen BK353.out 1; have hfz46_2 := blk_frozen BK353.out 2; have hfz46_3 := blk_frozen BK353.out 3; have hfz46_4 := blk_frozen BK353.out 4) | ((with_reducible refine gate_callee (f := 75) rfl ?_); refine goesL_ (some 18) rfl rfl Tryd.func75 (by kernel_rfl) rfl #[.string ((rd_T98 l0 x11_1).f0)] rfl d6_2 ?_; (with_reducible refine (impl_SymFault.calls ((rd_T98 l0 x11_1).f0) t354 _ A6.out).mono ?_); rintro e w47 ⟨rfl, hb⟩; refine ⟨_, rfl, ?_⟩; have n0_ := ak (blk_below (g := gb353) (o := .cells #[.string ((rd_T98 l0 x11_1).f0), .int .i64 ((rd_T98 l0 x11_1).f1.f0), .int .i64 ((rd_T98 l0 x11_1).f1.f1), .string ((rd_T98 l0 x11_1).f1.f2), .int .i64 ((rd_T98 l0 x11_1).f2)] 98 (0, 0)) (by (with_reducible repeat (first | refine blk_drewN ?_ _ | refine blk_drew ?_ | refine blk_alloc ?_ _)); refine blk_put (cs := #[.string ((rd_T98 l0 x11_1).f0), .int .i64 ((rd_T98 l0 x11_1).f1.f0), .int .i64 ((rd_T98 l0 x11_1).f1.f1), .string ((rd_T98 l0 x11_1).f1.f2), .int .i64 0]) ?_ 4 _ rfl; (with_reducible repeat (first | refine blk_drewN ?_ _ | refine blk_drew ?_ | refine blk_alloc ?_ _)); refine blk_put (cs := #[.string ((rd_T98 l0 x11_1).f0), .int .i64 ((rd_T98 l0 x11_1).f1.f0), .int .i64 ((rd_T98 l0 x11_1).f1.f1), .string (⟨#[]⟩ : ByteArray), .int .i64 0]) ?_ 3 _ rfl; (with_reducible repeat (first | refine blk_drewN ?_ _ | refine blk_drew ?_ | refine blk_alloc ?_ _)); refine blk_put (cs := #[.string ((rd_T98 l0 x11_1).f0), .int .i64 ((rd_T98 l0 x11_1).f1.f0), .int .i64 0, .string (⟨#[]⟩ : ByteArray), .int .i64 0]) ?_ 2 _ rfl; (with_reducible repeat (first | refine blk_drewN ?_ _ | refine blk_drew ?_ | refine blk_alloc ?_ _)); refine blk_put (cs := #[.string ((rd_T98 l0 x11_1).f0), .int .i64 0, .int .i64 0, .string (⟨#[]⟩ : ByteArray), .int .i64 0]) ?_ 1 _ rfl; (with_reducible repeat (first | refine blk_drewN ?_ _ | refine blk_drew ?_ | refine blk_alloc ?_ _)); refine blk_put (cs := #[.string (⟨#[]⟩ : ByteArray), .int .i64 0, .int .i64 0, .string (⟨#[]⟩ : ByteArray), .int .i64 0]) ?_ 0 _ rfl; (with_reducible repeat (first | refine blk_drewN ?_ _ | refine blk_drew ?_ | refine blk_alloc ?_ _)); exact BK353.out) hb); have n1_ := ak (below_step d6_3 hb); clear BK353 HB; have BK353 := n0_; have HB := n1_; clear n0_ n1_; (try clear hb)))
         go_ret
         exact ⟨by first | rfl | (simp [errW_none, errW_some] <;> rfl) | (simp [*, errW_none, errW_some] <;> rfl), by repeat (first | (with_reducible first | exact HB.out | apply below_alloc | apply pw_below_drewN | apply below_drew1 | refine below_set ?_ GE353.out) | exact HB.out)⟩
       ·rw [if_neg c5] at H
        exact absurd H (by simp)
      ·rw [if_neg c4] at H
       exact absurd H (by simp)
     ·rw [if_neg c3] at H
      have c3b0 : decide (x11_1 < (l0.length : Int)) = false := decide_eq_false c3
      clear c3
      obtain rfl := Option.some.inj H
      go_wp2
      go_ret
      exact ⟨by first | rfl | (simp [errW_none, errW_some] <;> rfl) | (simp [*, errW_none, errW_some] <;> rfl), by repeat (first | (with_reducible first | exact HB.out | apply below_alloc | apply pw_below_drewN | apply below_drew1) | exact HB.out)⟩

/-! ### impl_nameFault: function 90 -/
def impl_nameFault.f (k : Nat) (l0 : List (S98)) (a1 : ByteArray) : Option (Int) := (impl_GlobalsFault.f k l0).bind fun t362 => (if t362 = 0 then ((impl_SymFault.f a1).bind fun t363 => (some t363)) else (some t362))
theorem impl_nameFault.mono : ∀ a0 a1 k, LeO (impl_nameFault.f k a0 a1) (impl_nameFault.f (k + 1) a0 a1) := by
  intro a0 a1 k
  unfold impl_nameFault.f
  repeat' first
      | (with_reducible exact impl_GlobalsFault.mono _ _)
      | (with_reducible exact LeO.refl _)
      | (with_reducible exact LeO.none _)
      | (with_reducible refine LeO.ite ?_ ?_)
      | (with_reducible refine LeO.bind ?_ (fun _ => ?_))
      | exact impl_GlobalsFault.mono _ _
      | exact LeO.none _
      | refine LeO.ite ?_ ?_
      | refine LeO.bind ?_ (fun _ => ?_)
set_option maxHeartbeats 8000000 in
set_option maxRecDepth 100000 in
theorem impl_nameFault.calls (k : Nat) (A0 : Option Addr) (c0 : Nat) (l0 : List (S98)) (a1 : ByteArray) (r : Int) (w : World) (hr0 : Kd.C k98 w A0 l0.length l0) (hc0 : l0.length ≤ c0) (h : impl_nameFault.f k l0 a1 = some r) :
    Calls Tryd.prog 90 #[.slice A0 l0.length c0, .string a1] w fun e w' => e = .returned (.int .i64 r) ∧ Below w.heap.size w w' := by
  have HR0 := ak hr0
  have HC0 := ak hc0
  clear hr0 hc0
  have HB := ak (Below.refl w.heap.size w)
  have H : ((impl_GlobalsFault.f k l0).bind fun t362 => (if t362 = 0 then ((impl_SymFault.f a1).bind fun t363 => (some t363)) else (some t362))) = some r := h
  clear h
  replace H := Option.bind_eq_some_iff.mp H
  obtain ⟨t362, A30, H⟩ := H
  replace H : (if t362 = 0 then ((impl_SymFault.f a1).bind fun t363 => (some t363)) else (some t362)) = some r := H
  have A3 := ak A30
  clear A30
  by_cases c4 : t362 = 0
  ·rw [if_pos c4] at H
   have c4b0 : (t362 == 0) = true := beq_iff_eq.mpr c4
   have c4b1 : (t362 != 0) = false := bne_eq_false_iff_eq.mpr c4
   clear c4
   replace H := Option.bind_eq_some_iff.mp H
   obtain ⟨t363, A50, H⟩ := H
   replace H : (some t363) = some r := H
   have A5 := ak A50
   clear A50
   obtain rfl := Option.some.inj H
   go_enter Tryd.func90, Tryd.ntmps90
   go_wp2_with (first | ((with_reducible refine gate_callee (f := 115) rfl ?_); refine goesL_ (some 7) rfl rfl Tryd.func115 (by kernel_rfl) rfl #[.slice A0 l0.length c0] rfl d6_2 ?_; (with_reducible refine (impl_GlobalsFault.calls k _ _ l0 t362 _ ?side1 ?side2 A3.out).mono ?_); (case side1 => repeat (first | exact HR0.out | (with_reducible refine Kd.C_alloc ?_ _) | (with_reducible refine Kd.C_drewN ?_ _) | (with_reducible refine Kd.C_drew ?_))); (case side2 => exact HC0.out); rintro e w6 ⟨rfl, hb⟩; refine ⟨_, rfl, ?_⟩; have n0_ := ak (below_step d6_1 hb); clear HB; have HB := n0_; clear n0_; (try clear hb)) | ((with_reducible refine gate_callee (f := 75) rfl ?_); refine goesL_ (some 12) rfl rfl Tryd.func75 (by kernel_rfl) rfl #[.string a1] rfl d6_2 ?_; (with_reducible refine (impl_SymFault.calls a1 t363 _ A5.out).mono ?_); rintro e w7 ⟨rfl, hb⟩; refine ⟨_, rfl, ?_⟩; have n0_ := ak (below_step d6_1 hb); clear HB; have HB := n0_; clear n0_; (try clear hb)))
   go_ret
   exact ⟨by first | rfl | (simp [errW_none, errW_some] <;> rfl) | (simp [*, errW_none, errW_some] <;> rfl), by repeat (first | (with_reducible first | exact HB.out | apply below_alloc | apply pw_below_drewN | apply below_drew1) | exact HB.out)⟩
  ·rw [if_neg c4] at H
   have c4b0 : (t362 == 0) = false := beq_eq_false_iff_ne.mpr c4
   have c4b1 : (t362 != 0) = true := bne_iff_ne.mpr c4
   obtain rfl := Option.some.inj H
   go_enter Tryd.func90, Tryd.ntmps90
   go_wp2_with (first | ((with_reducible refine gate_callee (f := 115) rfl ?_); refine goesL_ (some 7) rfl rfl Tryd.func115 (by kernel_rfl) rfl #[.slice A0 l0.length c0] rfl d6_2 ?_; (with_reducible refine (impl_GlobalsFault.calls k _ _ l0 t362 _ ?side1 ?side2 A3.out).mono ?_); (case side1 => repeat (first | exact HR0.out | (with_reducible refine Kd.C_alloc ?_ _) | (with_reducible refine Kd.C_drewN ?_ _) | (with_reducible refine Kd.C_drew ?_))); (case side2 => exact HC0.out); rintro e w8 ⟨rfl, hb⟩; refine ⟨_, rfl, ?_⟩; have n0_ := ak (below_step d6_1 hb); clear HB; have HB := n0_; clear n0_; (try clear hb)))
   go_ret
   exact ⟨by first | rfl | (simp [errW_none, errW_some] <;> rfl) | (simp [*, errW_none, errW_some] <;> rfl), by repeat (first | (with_reducible first | exact HB.out | apply below_alloc | apply pw_below_drewN | apply below_drew1) | exact HB.out)⟩

/-! ### impl_Global_118: function 118 -/
def impl_Global_118.f (l0 : List (S98)) : Option ((List (S98))) := (some (([] : List (S98)) : List (S98))).bind fun y364 => (if y364.length + l0.length < 2513169434916 then (some (y364 ++ l0)) else (none))
set_option maxHeartbeats 8000000 in
set_option maxRecDepth 100000 in
theorem impl_Global_118.calls1 (A0 : Option Addr) (c0 : Nat) (l0 : List (S98)) (r : List (S98)) (w : World) (hr0 : Kd.C k98 w A0 l0.length l0) (hc0 : l0.length ≤ c0) (hA0 : A0.isNone = false) (h : impl_Global_118.f l0 = some r) :
    Calls Tryd.prog 118 #[.slice A0 l0.length c0] w fun e w' => ∃ v0_ : Value, e = .returned (v0_) ∧ Kd.R k98 98 w' w.heap.size (fun _ => True) v0_ r ∧ Below w.heap.size w w' := by
  have q_ := fun (w : World) (a : Option Addr) (n c n' c' : Nat) => Lib.run_eql_slice_nil w 50 98 a n c n' c' Tryd.underlying50
  have HR0 := ak hr0
  have HC0 := ak hc0
  clear hr0 hc0
  have HB := ak (Below.refl w.heap.size w)
  have H : ((some (([] : List (S98)) : List (S98))).bind fun y364 => (if y364.length + l0.length < 2513169434916 then (some (y364 ++ l0)) else (none))) = some r := h
  clear h
  obtain ⟨y364, hy364⟩ : ∃ y_ : List (S98), y_ = (([] : List (S98))) := ⟨_, rfl⟩
  replace H : (if y364.length + l0.length < 2513169434916 then (some (y364 ++ l0)) else (none)) = some r := by first | (rw [hy364]; with_reducible exact H) | (have H2_ := (Option.bind_some _ _).symm.trans H; rw [hy364]; with_reducible exact H2_) | (have H2_ := (Option.bind_some _ _).symm.trans H; with_reducible exact H2_) | with_reducible exact H | (rw [hy364]; exact H) | exact H
  have Ny364 := ak hy364
  clear hy364
  by_cases c2 : y364.length + l0.length < 2513169434916
  ·rw [if_pos c2] at H
   have LMc2 := ak c2
   clear c2
   obtain ⟨y367, hy367⟩ : ∃ y_ : List (S98), y_ = (y364 ++ l0) := ⟨_, rfl⟩
   replace H : (some y367) = some r := by first | (rw [hy367]; with_reducible exact H) | (have H2_ := (Option.bind_some _ _).symm.trans H; rw [hy367]; with_reducible exact H2_) | (have H2_ := (Option.bind_some _ _).symm.trans H; with_reducible exact H2_) | with_reducible exact H | (rw [hy367]; exact H) | exact H
   have Ny367 := ak hy367
   clear hy367
   obtain rfl := Option.some.inj H
   go_enter Tryd.func118, Tryd.ntmps118
   go_wp2_with (first | ((with_reducible refine gate_dst (N := 5) rfl ?_); refine Kd.R_lit k98 _ 98 ?hg (N := 5) ?hd (xs := ([] : List (S98))) (inner := []) (ok := fun _ => True) (okp := fun _ => True) ?hr ?hp (fun _ hk => hk) trivial (Below.refl _ _) (Nat.le_refl _) (by simp) ?_; (case hd => rfl); (case hg => rfl); (case hr => first | (go_simp; done) | (go_simp; rfl)); (case hp => exact (Reps.none _ _)); intro v365 w3 ho4 hb hg_ hnew_; clear hg_ hnew_; (first | rw [← Ny364.out] at ho4 | (simp only [Int.reduceToNat] at ho4; rw [← Ny364.out] at ho4)); have n0_ := ak (Kd.R_lower ho4 (below_size d6_1)); have n1_ := ak (below_step d6_1 hb); clear HB; have HO366 := n0_; have HB := n1_; clear n0_ n1_ hb ho4) | ((with_reducible refine gate_builtin (b := .append) (xs := #[.tmp 5, .tmp 6]) rfl ?_); at_builtin; refine Kd.R_append_rows k98 (w0 := w) w.heap.size rfl (.tmp 5) (.tmp 6) 50 98 (.agg #[(.string ⟨#[]⟩), (.int .i64 0), (.int .i64 0), (.string ⟨#[]⟩), (.int .i64 0)]) 56 rfl Tryd.underlying50 info98 rfl (by decide) (by omega) v365 y364 l0 _ _ _ (fun _ => True) (fun _ => False) rfl rfl ?aO ?aR (fun _ _ h => h) (fun _ h => h.elim) ?aF ?aB ?aS ?aL ?_; (case aR => repeat (first | exact (Kd.C_below HR0.out HB.out) | (with_reducible refine Kd.C_alloc ?_ _) | (with_reducible refine Kd.C_drewN ?_ _) | (with_reducible refine Kd.C_drew ?_))); (case aB => exact d6_1); (case aF => exact (fun _ _ => trivial)); (case aO => exact (by (with_reducible repeat (first | apply Kd.R_alloc | apply Kd.R_drewN | apply Kd.R_drew)); exact HO366.out)); (case aS => exact (below_size d6_1)); (case aL => have := LMc2.out; omega); intro v368 w5 ho hb hg hat; rw [← Ny367.out] at ho; have n0_ := ak (hb); have n1_ := ak (ho); clear HB HO366; have HB := n0_; have HO369 := n1_; clear n0_ n1_ ho hb hg hat))
   go_ret
   exact ⟨_, by first | rfl | (simp [errW_none, errW_some] <;> rfl) | (simp [*, errW_none, errW_some] <;> rfl), by (with_reducible repeat (first | apply Kd.R_alloc | apply Kd.R_drewN | apply Kd.R_drew)); exact HO369.out, by repeat (first | (with_reducible first | exact HB.out | apply below_alloc | apply pw_below_drewN | apply below_drew1) | exact HB.out)⟩
  ·rw [if_neg c2] at H
   exact absurd H (by simp)
theorem impl_Global_118.calls (A0 : Option Addr) (c0 : Nat) (l0 : List (S98)) (r : List (S98)) (w : World) (hr0 : Kd.C k98 w A0 l0.length l0) (hc0 : l0.length ≤ c0) (h : impl_Global_118.f l0 = some r) :
    Calls Tryd.prog 118 #[.slice A0 l0.length c0] w fun e w' => ∃ v0_ : Value, e = .returned (v0_) ∧ Kd.R k98 98 w' w.heap.size (fun _ => True) v0_ r ∧ Below w.heap.size w w' := by
  by_cases hA0 : A0.isNone = false
  · exact impl_Global_118.calls1 A0 c0 l0 r w hr0 hc0 hA0 h
  · obtain rfl : A0 = none := by
      cases A0 with
      | none => rfl
      | some a => exact absurd rfl hA0
    obtain rfl : l0 = [] := by
      cases l0 with
      | nil => rfl
      | cons x t => obtain ⟨ad, he, _⟩ := hr0.2.2 (by simp); cases he
    obtain rfl : [] = r := by simpa [impl_Global_118.f] using h
    clear hA0 hr0 hc0 h
    have q_ := fun (w : World) (a : Option Addr) (n c n' c' : Nat) => Lib.run_eql_slice_nil w 50 98 a n c n' c' Tryd.underlying50
    go_enter Tryd.func118, Tryd.ntmps118
    go_wp2
    go_ret
    exact ⟨_, rfl, Kd.R_nil _ _ _ _ _, Below.refl _ _⟩


end Go.Proofs.YthjfdohcdkpdnaaDoor.A
