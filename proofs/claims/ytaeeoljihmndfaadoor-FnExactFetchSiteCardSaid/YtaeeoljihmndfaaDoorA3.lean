/- Walks of the program's functions: each Go function's answer as a plain Lean function, and that the call comes to it. Written by a program. Conditions: those in each theorem's own head. -/
import Derived.Test.YtaeeoljihmndfaaDoorA0
import Derived.Test.YtaeeoljihmndfaaDoorA2
namespace Go.Proofs.YtaeeoljihmndfaaDoor.A
open Go.RowKit Go.Proofs.YtaeeoljihmndfaaDoorW.PrintWords Go.Proofs.YtaeeoljihmndfaaDoorW.PrintLast Go.Proofs.YtaeeoljihmndfaaDoorW.PrintMore
attribute [local go_sem] max2_int min2_int max_two min_two max_three min_three max_four min_four   -- for this text's walks alone
set_option linter.unusedVariables false
set_option linter.unusedSimpArgs false

theorem d3_1 {p : Prop} (h : p := by first | rfl | (simp; done) | (simp [*]; done) | (simp [ne_nil_b, eq_nil_b]; done)) : p := h
theorem d3_2 {p : Prop} (h : p := by repeat (first | (with_reducible first | exact HB.out | apply below_alloc | apply pw_below_drewN | apply below_drew1) | exact HB.out)) : p := h
theorem d3_3 {p : Prop} (h : p := by (try simp only [List.map_toArray, List.map_cons, List.map_nil]); first | done | rfl | (simp only [List.length_drop, List.length_take]; rfl)) : p := h
theorem d3_4 {p : Prop} (h : p := by (with_reducible repeat (first | refine blk_drewN ?_ _ | refine blk_drew ?_ | refine blk_alloc ?_ _)); exact BK158.out) : p := h
theorem d3_5 {p : Prop} (h : p := by repeat (first | (with_reducible first | exact HB.out | apply below_alloc | apply pw_below_drewN | apply below_drew1 | refine below_set ?_ GE158.out | refine below_set ?_ GE159.out) | exact HB.out)) : p := h
theorem d3_6 {p : Prop} (h : p := by repeat (first | (with_reducible first | exact HB.out | apply below_alloc | apply pw_below_drewN | apply below_drew1 | refine below_set ?_ GE158.out) | exact HB.out)) : p := h

/-! ### laws_szValue: function 31 -/
def laws_szValue.f (a0_0 : Int) (a0_1 : Int) (a0_2 : ByteArray) (a1 : Int) : Option (Int) := if (wrap64 (a1 - (a0_2.size : Int))) < 0 then (some (-1)) else (some (wrap64 (a1 - (a0_2.size : Int))))
set_option maxHeartbeats 8000000 in
set_option maxRecDepth 100000 in
theorem laws_szValue.calls (a0_0 : Int) (a0_1 : Int) (a0_2 : ByteArray) (a1 : Int) (r : Int) (w : World) (h : laws_szValue.f a0_0 a0_1 a0_2 a1 = some r) :
    Calls Tryd.prog 31 #[.agg #[.int .i64 a0_0, .int .i64 a0_1, .string a0_2], .int .i64 a1] w fun e w' => e = .returned (.int .i64 r) ∧ Below w.heap.size w w' := by
  have hu24 := Tryd.underlying24
  have HB := ak (Below.refl w.heap.size w)
  have H : (if (wrap64 (a1 - (a0_2.size : Int))) < 0 then (some (-1)) else (some (wrap64 (a1 - (a0_2.size : Int))))) = some r := h
  clear h
  by_cases c3 : (wrap64 (a1 - (a0_2.size : Int))) < 0
  ·rw [if_pos c3] at H
   have c3b0 : decide ((wrap64 (a1 - (a0_2.size : Int))) < 0) = true := decide_eq_true c3
   clear c3
   obtain rfl := Option.some.inj H
   go_enter Tryd.func31, Tryd.ntmps31
   go_wp2_with (first | ((with_reducible refine gate_dst (N := 2) rfl ?_); refine box_event ?hg (N := 2) ?hd (cs := #[.int .i64 a0_0, .int .i64 a0_1, .string a0_2]) (t := 24) ?hr ?_; (case hd => rfl); (case hg => rfl); (case hr => first | (go_simp; done) | (go_simp; rfl)); intro gb101 hg w4 hbox hb; have n0_ := ak (below_step d3_2 hb); have n1_ := ak (hbox); have n2_ := ak ((by rw [hg]; exact (below_size d3_2) : w.heap.size ≤ gb101)); have n3_ := ak ((by rw [hg]; exact (below_size d3_2) : w.heap.size ≤ gb101)); clear HB; have HB := n0_; have BK101 := n1_; have GW101 := n2_; have GE101 := n3_; clear n0_ n1_ n2_ n3_ hb hbox hg; have hcz5_0 : w4.cell? ⟨gb101, 0, none⟩ = some (.int .i64 a0_0) := (blk_cell BK101.out 0).trans rfl; have hcz5_1 : w4.cell? ⟨gb101, 1, none⟩ = some (.int .i64 a0_1) := (blk_cell BK101.out 1).trans rfl; have hcz5_2 : w4.cell? ⟨gb101, 2, none⟩ = some (.string a0_2) := (blk_cell BK101.out 2).trans rfl; have hfz5_0 := blk_frozen BK101.out 0; have hfz5_1 := blk_frozen BK101.out 1; have hfz5_2 := blk_frozen BK101.out 2))
   go_ret
   exact ⟨by first | rfl | (simp [errW_none, errW_some] <;> rfl) | (simp [*, errW_none, errW_some] <;> rfl), by repeat (first | (with_reducible first | exact HB.out | apply below_alloc | apply pw_below_drewN | apply below_drew1 | refine below_set ?_ GE101.out) | exact HB.out)⟩
  ·rw [if_neg c3] at H
   have c3b0 : decide ((wrap64 (a1 - (a0_2.size : Int))) < 0) = false := decide_eq_false c3
   clear c3
   obtain rfl := Option.some.inj H
   go_enter Tryd.func31, Tryd.ntmps31
   go_wp2_with (first | ((with_reducible refine gate_dst (N := 2) rfl ?_); refine box_event ?hg (N := 2) ?hd (cs := #[.int .i64 a0_0, .int .i64 a0_1, .string a0_2]) (t := 24) ?hr ?_; (case hd => rfl); (case hg => rfl); (case hr => first | (go_simp; done) | (go_simp; rfl)); intro gb101 hg w6 hbox hb; have n0_ := ak (below_step d3_2 hb); have n1_ := ak (hbox); have n2_ := ak ((by rw [hg]; exact (below_size d3_2) : w.heap.size ≤ gb101)); have n3_ := ak ((by rw [hg]; exact (below_size d3_2) : w.heap.size ≤ gb101)); clear HB; have HB := n0_; have BK101 := n1_; have GW101 := n2_; have GE101 := n3_; clear n0_ n1_ n2_ n3_ hb hbox hg; have hcz7_0 : w6.cell? ⟨gb101, 0, none⟩ = some (.int .i64 a0_0) := (blk_cell BK101.out 0).trans rfl; have hcz7_1 : w6.cell? ⟨gb101, 1, none⟩ = some (.int .i64 a0_1) := (blk_cell BK101.out 1).trans rfl; have hcz7_2 : w6.cell? ⟨gb101, 2, none⟩ = some (.string a0_2) := (blk_cell BK101.out 2).trans rfl; have hfz7_0 := blk_frozen BK101.out 0; have hfz7_1 := blk_frozen BK101.out 1; have hfz7_2 := blk_frozen BK101.out 2))
   go_ret
   exact ⟨by first | rfl | (simp [errW_none, errW_some] <;> rfl) | (simp [*, errW_none, errW_some] <;> rfl), by repeat (first | (with_reducible first | exact HB.out | apply below_alloc | apply pw_below_drewN | apply below_drew1 | refine below_set ?_ GE101.out) | exact HB.out)⟩

/-! ### spec_l5Placed: function 106 -/
def spec_l5Placed.f (a0 : Int) : Option (Bool) := (spec_l1In.f a0 5 8).bind fun t111 => (some t111)
set_option maxHeartbeats 8000000 in
set_option maxRecDepth 100000 in
theorem spec_l5Placed.calls (a0 : Int) (r : Bool) (w : World) (h : spec_l5Placed.f a0 = some r) :
    Calls Tryd.prog 106 #[.int .i64 a0] w fun e w' => e = .returned (.bool r) ∧ Drawn0 w w' := by
  have H : ((spec_l1In.f a0 5 8).bind fun t111 => (some t111)) = some r := h
  clear h
  replace H := Option.bind_eq_some_iff.mp H
  obtain ⟨t111, A20, H⟩ := H
  replace H : (some t111) = some r := H
  have A2 := ak A20
  clear A20
  obtain rfl := Option.some.inj H
  go_enter Tryd.func106, Tryd.ntmps106
  go_wp2_with (first | ((with_reducible refine gate_callee (f := 89) rfl ?_); refine goesL_ (some 4) rfl rfl Tryd.func89 (by kernel_rfl) rfl #[.int .i64 a0, .int .i64 5, .int .i64 8] rfl d3_3 ?_; (with_reducible refine (spec_l1In.calls a0 5 8 t111 _ A2.out).mono ?_); rintro e w' ⟨rfl, ⟨nd, rfl⟩⟩; refine ⟨_, rfl, ?_⟩))
  go_ret
  exact ⟨by first | rfl | (simp; done) | (simp [*]; done) | (simp [ne_nil_b, eq_nil_b]; done), by repeat (first | exact Drawn0.refl _ | apply Drawn0.step)⟩

/-! ### spec_l5Fault: function 90 -/
mutual
def spec_l5Fault.j0 : Nat → Bool → Int → Int → ByteArray → Option (Int)
  | 0, _, _, _, _ => none
  | k + 1, x3, x1000, x1001, x1002 => (spec_l1In.f x1000 1 9).bind fun t116 => (if t116 = true then (if x3 = true then (if x1000 = 4 then (spec_l5Fault.j1 k false x1000 x1001 x1002) else (spec_l5Fault.j1 k (x1002.toList != ([] : List UInt8)) x1000 x1001 x1002)) else (if x1001 = 0 then (if x1000 = 4 then (spec_l5Fault.j1 k false x1000 x1001 x1002) else (spec_l5Fault.j1 k (x1002.toList != ([] : List UInt8)) x1000 x1001 x1002)) else (spec_l5Fault.j1 k true x1000 x1001 x1002))) else (spec_l5Fault.j1 k true x1000 x1001 x1002))
def spec_l5Fault.j1 : Nat → Bool → Int → Int → ByteArray → Option (Int)
  | 0, _, _, _, _ => none
  | k + 1, x53, x1000, x1001, x1002 => if x53 = true then (some 1) else (if x1000 = 1 then ((spec_l1Num.f x1001).bind fun t118 => (if t118 = true then (if x1000 = 2 then ((spec_l1In.f x1001 0 1).bind fun t119 => (if t119 = true then ((spec_l5Placed.f x1000).bind fun t120 => (if t120 = true then ((spec_l1In.f x1001 0 99999).bind fun t121 => (spec_l5Fault.j2 k (!t121) x1000 x1001 x1002)) else (spec_l5Fault.j2 k false x1000 x1001 x1002))) else (spec_l5Fault.j2 k true x1000 x1001 x1002))) else ((spec_l5Placed.f x1000).bind fun t122 => (if t122 = true then ((spec_l1In.f x1001 0 99999).bind fun t123 => (spec_l5Fault.j2 k (!t123) x1000 x1001 x1002)) else (spec_l5Fault.j2 k false x1000 x1001 x1002)))) else (spec_l5Fault.j2 k true x1000 x1001 x1002))) else (if x1000 = 2 then ((spec_l1In.f x1001 0 1).bind fun t124 => (if t124 = true then ((spec_l5Placed.f x1000).bind fun t125 => (if t125 = true then ((spec_l1In.f x1001 0 99999).bind fun t126 => (spec_l5Fault.j2 k (!t126) x1000 x1001 x1002)) else (spec_l5Fault.j2 k false x1000 x1001 x1002))) else (spec_l5Fault.j2 k true x1000 x1001 x1002))) else ((spec_l5Placed.f x1000).bind fun t127 => (if t127 = true then ((spec_l1In.f x1001 0 99999).bind fun t128 => (spec_l5Fault.j2 k (!t128) x1000 x1001 x1002)) else (spec_l5Fault.j2 k false x1000 x1001 x1002)))))
def spec_l5Fault.j2 : Nat → Bool → Int → Int → ByteArray → Option (Int)
  | 0, _, _, _, _ => none
  | k + 1, x96, x1000, x1001, x1002 => if x96 = true then (some 3) else (if x1000 = 4 then ((spec_l2Sym.f k x1002).bind fun t130 => (if t130 = true then (some 0) else (some 5))) else (some 0))
end
def spec_l5Fault.f (k : Nat) (a0_0 : Int) (a0_1 : Int) (a0_2 : ByteArray) : Option (Int) := if a0_0 = 1 then (spec_l5Fault.j0 k true a0_0 a0_1 a0_2) else (if a0_0 = 2 then (spec_l5Fault.j0 k true a0_0 a0_1 a0_2) else ((spec_l5Placed.f a0_0).bind fun t114 => (spec_l5Fault.j0 k t114 a0_0 a0_1 a0_2)))
theorem spec_l5Fault.mono_l : ∀ k, (∀ y0 y1 y2 y3, LeO (spec_l5Fault.j0 k y0 y1 y2 y3) (spec_l5Fault.j0 (k + 1) y0 y1 y2 y3)) ∧ (∀ y0 y1 y2 y3, LeO (spec_l5Fault.j1 k y0 y1 y2 y3) (spec_l5Fault.j1 (k + 1) y0 y1 y2 y3)) ∧ (∀ y0 y1 y2 y3, LeO (spec_l5Fault.j2 k y0 y1 y2 y3) (spec_l5Fault.j2 (k + 1) y0 y1 y2 y3))
  | 0 => ⟨fun _ _ _ _ r h => by simp [spec_l5Fault.j0] at h, fun _ _ _ _ r h => by simp [spec_l5Fault.j1] at h, fun _ _ _ _ r h => by simp [spec_l5Fault.j2] at h⟩
  | k + 1 => by
    obtain ⟨ih0, ih1, ih2⟩ := spec_l5Fault.mono_l k
    refine ⟨?_, ?_, ?_⟩
    · intro y0 y1 y2 y3
      unfold spec_l5Fault.j0
      repeat' first
      | (with_reducible exact ih0 _ _ _ _)
      | (with_reducible exact ih1 _ _ _ _)
      | (with_reducible exact ih2 _ _ _ _)
      | (with_reducible exact spec_l2Sym.mono _ _)
      | (with_reducible exact LeO.refl _)
      | (with_reducible exact LeO.none _)
      | (with_reducible refine LeO.ite ?_ ?_)
      | (with_reducible refine LeO.bind ?_ (fun _ => ?_))
      | exact ih0 _ _ _ _
      | exact ih1 _ _ _ _
      | exact ih2 _ _ _ _
      | exact spec_l2Sym.mono _ _
      | exact LeO.none _
      | refine LeO.ite ?_ ?_
      | refine LeO.bind ?_ (fun _ => ?_)
    · intro y0 y1 y2 y3
      unfold spec_l5Fault.j1
      repeat' first
      | (with_reducible exact ih0 _ _ _ _)
      | (with_reducible exact ih1 _ _ _ _)
      | (with_reducible exact ih2 _ _ _ _)
      | (with_reducible exact spec_l2Sym.mono _ _)
      | (with_reducible exact LeO.refl _)
      | (with_reducible exact LeO.none _)
      | (with_reducible refine LeO.ite ?_ ?_)
      | (with_reducible refine LeO.bind ?_ (fun _ => ?_))
      | exact ih0 _ _ _ _
      | exact ih1 _ _ _ _
      | exact ih2 _ _ _ _
      | exact spec_l2Sym.mono _ _
      | exact LeO.none _
      | refine LeO.ite ?_ ?_
      | refine LeO.bind ?_ (fun _ => ?_)
    · intro y0 y1 y2 y3
      unfold spec_l5Fault.j2
      repeat' first
      | (with_reducible exact ih0 _ _ _ _)
      | (with_reducible exact ih1 _ _ _ _)
      | (with_reducible exact ih2 _ _ _ _)
      | (with_reducible exact spec_l2Sym.mono _ _)
      | (with_reducible exact LeO.refl _)
      | (with_reducible exact LeO.none _)
      | (with_reducible refine LeO.ite ?_ ?_)
      | (with_reducible refine LeO.bind ?_ (fun _ => ?_))
      | exact ih0 _ _ _ _
      | exact ih1 _ _ _ _
      | exact ih2 _ _ _ _
      | exact spec_l2Sym.mono _ _
      | exact LeO.none _
      | refine LeO.ite ?_ ?_
      | refine LeO.bind ?_ (fun _ => ?_)
theorem spec_l5Fault.mono : ∀ a0 a1 a2 k, LeO (spec_l5Fault.f k a0 a1 a2) (spec_l5Fault.f (k + 1) a0 a1 a2) := by
  intro a0 a1 a2 k
  obtain ⟨ih0, ih1, ih2⟩ := spec_l5Fault.mono_l k
  unfold spec_l5Fault.f
  repeat' first
      | (with_reducible exact ih0 _ _ _ _)
      | (with_reducible exact ih1 _ _ _ _)
      | (with_reducible exact ih2 _ _ _ _)
      | (with_reducible exact spec_l2Sym.mono _ _)
      | (with_reducible exact LeO.refl _)
      | (with_reducible exact LeO.none _)
      | (with_reducible refine LeO.ite ?_ ?_)
      | (with_reducible refine LeO.bind ?_ (fun _ => ?_))
      | exact ih0 _ _ _ _
      | exact ih1 _ _ _ _
      | exact ih2 _ _ _ _
      | exact spec_l2Sym.mono _ _
      | exact LeO.none _
      | refine LeO.ite ?_ ?_
      | refine LeO.bind ?_ (fun _ => ?_)
set_option maxHeartbeats 8000000 in
set_option maxRecDepth 100000 in
theorem spec_l5Fault.calls (k : Nat) (P0_ : Addr) (a0_0 : Int) (a0_1 : Int) (a0_2 : ByteArray) (r : Int) (w : World) (hq0_0 : w.cell? P0_ = some (.int .i64 a0_0)) (hq0_1 : w.cell? ⟨P0_.block, P0_.off + 1, none⟩ = some (.int .i64 a0_1)) (hq0_2 : w.cell? ⟨P0_.block, P0_.off + 2, none⟩ = some (.string a0_2)) (h : spec_l5Fault.f k a0_0 a0_1 a0_2 = some r) :
    Calls Tryd.prog 90 #[.pointer (some P0_)] w fun e w' => e = .returned (.int .i64 r) ∧ Drawn0 w w' := by
  have HQ0_0 := ak hq0_0
  clear hq0_0
  have HQ0_1 := ak hq0_1
  clear hq0_1
  have HQ0_2 := ak hq0_2
  clear hq0_2
  have H : (if a0_0 = 1 then (spec_l5Fault.j0 k true a0_0 a0_1 a0_2) else (if a0_0 = 2 then (spec_l5Fault.j0 k true a0_0 a0_1 a0_2) else ((spec_l5Placed.f a0_0).bind fun t114 => (spec_l5Fault.j0 k t114 a0_0 a0_1 a0_2)))) = some r := h
  clear h
  have HC2 := ak H
  clear H
  go_enter Tryd.func90, Tryd.ntmps90
  go_upto_region 1 with (fail)
  go_cut [3] (fun v3 wc => ∃ (kq : Nat) (x3_1 : Bool), v3 = .bool x3_1 ∧ Aside0 (spec_l5Fault.j0 kq x3_1 a0_0 a0_1 a0_2 = some r) ∧ Aside0 (kq ≤ k) ∧ Drawn0 w wc)
  case first =>
   have H := HC2.out
   clear HC2
   by_cases c3 : a0_0 = 1
   ·rw [if_pos c3] at H
    have c3b0 : (a0_0 == 1) = true := beq_iff_eq.mpr c3
    have c3b1 : (a0_0 != 1) = false := bne_eq_false_iff_eq.mpr c3
    clear c3
    (first | rw [c3b0] | (simp only [i64_w, i32_w]; rw [c3b0]) | skip)
    have H' := ak H
    clear H
    have hx113_0 := HQ0_0.out
    have hx113_1 := HQ0_1.out
    have hx113_2 := HQ0_2.out
    go_wp2
    go_meet
    case rel => exact ⟨_, (true), d3_1, H', ⟨by first | omega | exact Nat.le_refl _⟩, by repeat (first | exact Drawn0.refl _ | apply Drawn0.step)⟩
   ·rw [if_neg c3] at H
    have c3b0 : (a0_0 == 1) = false := beq_eq_false_iff_ne.mpr c3
    have c3b1 : (a0_0 != 1) = true := bne_iff_ne.mpr c3
    (first | rw [c3b0] | (simp only [i64_w, i32_w]; rw [c3b0]) | skip)
    by_cases c4 : a0_0 = 2
    ·rw [if_pos c4] at H
     have c4b0 : (a0_0 == 2) = true := beq_iff_eq.mpr c4
     have c4b1 : (a0_0 != 2) = false := bne_eq_false_iff_eq.mpr c4
     clear c4
     have H' := ak H
     clear H
     have hx113_0 := HQ0_0.out
     have hx113_1 := HQ0_1.out
     have hx113_2 := HQ0_2.out
     go_wp2
     go_meet
     case rel => exact ⟨_, (true), d3_1, H', ⟨by first | omega | exact Nat.le_refl _⟩, by repeat (first | exact Drawn0.refl _ | apply Drawn0.step)⟩
    ·rw [if_neg c4] at H
     have c4b0 : (a0_0 == 2) = false := beq_eq_false_iff_ne.mpr c4
     have c4b1 : (a0_0 != 2) = true := bne_iff_ne.mpr c4
     replace H := Option.bind_eq_some_iff.mp H
     obtain ⟨t114, A50, H⟩ := H
     replace H : (spec_l5Fault.j0 k t114 a0_0 a0_1 a0_2) = some r := H
     have A5 := ak A50
     clear A50
     have H' := ak H
     clear H
     have hx113_0 := HQ0_0.out
     have hx113_1 := HQ0_1.out
     have hx113_2 := HQ0_2.out
     go_wp2_with (first | (go_at_call 106; (with_reducible refine (spec_l5Placed.calls a0_0 t114 _ A5.out).mono ?_); rintro e w' ⟨rfl, ⟨nd, rfl⟩⟩))
     go_meet
     case rel => exact ⟨_, (t114), d3_1, H', ⟨by first | omega | exact Nat.le_refl _⟩, by repeat (first | exact Drawn0.refl _ | apply Drawn0.step)⟩
  case rest =>
   clear HC2
   obtain ⟨kq, x3_1, rfl, HA, HJ1, ⟨mc1, rfl⟩⟩ := hcut
   cases kq with
   | zero => exact absurd HA.out (by simp [spec_l5Fault.j0])
   | succ kj1 =>
    have H := HA.out
    clear HA
    simp only [spec_l5Fault.j0] at H
    have HC6 := ak H
    clear H
    go_upto_region 2 with (fail)
    go_cut [53] (fun v53 wc => ∃ (kq : Nat) (x53_5 : Bool), v53 = .bool x53_5 ∧ Aside0 (spec_l5Fault.j1 kq x53_5 a0_0 a0_1 a0_2 = some r) ∧ Aside0 (kq ≤ kj1) ∧ Drawn0 w wc)
    case first =>
     have H := HC6.out
     clear HC6
     replace H := Option.bind_eq_some_iff.mp H
     obtain ⟨t116, A70, H⟩ := H
     replace H : (if t116 = true then (if x3_1 = true then (if a0_0 = 4 then (spec_l5Fault.j1 kj1 false a0_0 a0_1 a0_2) else (spec_l5Fault.j1 kj1 (a0_2.toList != ([] : List UInt8)) a0_0 a0_1 a0_2)) else (if a0_1 = 0 then (if a0_0 = 4 then (spec_l5Fault.j1 kj1 false a0_0 a0_1 a0_2) else (spec_l5Fault.j1 kj1 (a0_2.toList != ([] : List UInt8)) a0_0 a0_1 a0_2)) else (spec_l5Fault.j1 kj1 true a0_0 a0_1 a0_2))) else (spec_l5Fault.j1 kj1 true a0_0 a0_1 a0_2)) = some r := H
     have A7 := ak A70
     clear A70
     by_cases c8 : t116 = true
     ·subst c8
      have H1 : (if x3_1 = true then (if a0_0 = 4 then (spec_l5Fault.j1 kj1 false a0_0 a0_1 a0_2) else (spec_l5Fault.j1 kj1 (a0_2.toList != ([] : List UInt8)) a0_0 a0_1 a0_2)) else (if a0_1 = 0 then (if a0_0 = 4 then (spec_l5Fault.j1 kj1 false a0_0 a0_1 a0_2) else (spec_l5Fault.j1 kj1 (a0_2.toList != ([] : List UInt8)) a0_0 a0_1 a0_2)) else (spec_l5Fault.j1 kj1 true a0_0 a0_1 a0_2))) = some r := by rw [if_pos rfl] at H; exact H
      clear H
      have H := H1
      clear H1
      by_cases c9 : x3_1 = true
      ·subst c9
       have H1 : (if a0_0 = 4 then (spec_l5Fault.j1 kj1 false a0_0 a0_1 a0_2) else (spec_l5Fault.j1 kj1 (a0_2.toList != ([] : List UInt8)) a0_0 a0_1 a0_2)) = some r := by rw [if_pos rfl] at H; exact H
       clear H
       have H := H1
       clear H1
       by_cases c10 : a0_0 = 4
       ·rw [if_pos c10] at H
        have c10b0 : (a0_0 == 4) = true := beq_iff_eq.mpr c10
        have c10b1 : (a0_0 != 4) = false := bne_eq_false_iff_eq.mpr c10
        clear c10
        (first | rw [c10b0] | (simp only [i64_w, i32_w]; rw [c10b0]) | skip)
        have H' := ak H
        clear H
        have hx115_0 := HQ0_0.out
        have hx115_1 := HQ0_1.out
        have hx115_2 := HQ0_2.out
        go_wp2_with (first | ((with_reducible refine gate_callee (f := 89) rfl ?_); refine goesL_ (some 27) rfl rfl Tryd.func89 (by kernel_rfl) rfl #[.int .i64 a0_0, .int .i64 1, .int .i64 9] rfl d3_3 ?_; (with_reducible refine (spec_l1In.calls a0_0 1 9 true _ A7.out).mono ?_); rintro e w' ⟨rfl, ⟨nd, rfl⟩⟩; refine ⟨_, rfl, ?_⟩))
        go_meet
        case rel => exact ⟨_, (false), d3_1, H', ⟨by have := HJ1.out; first | omega | exact Nat.le_refl _⟩, by repeat (first | exact Drawn0.refl _ | apply Drawn0.step)⟩
       ·rw [if_neg c10] at H
        have c10b0 : (a0_0 == 4) = false := beq_eq_false_iff_ne.mpr c10
        have c10b1 : (a0_0 != 4) = true := bne_iff_ne.mpr c10
        (first | rw [c10b0] | (simp only [i64_w, i32_w]; rw [c10b0]) | skip)
        have H' := ak H
        clear H
        have hx115_0 := HQ0_0.out
        have hx115_1 := HQ0_1.out
        have hx115_2 := HQ0_2.out
        go_wp2_with (first | ((with_reducible refine gate_callee (f := 89) rfl ?_); refine goesL_ (some 27) rfl rfl Tryd.func89 (by kernel_rfl) rfl #[.int .i64 a0_0, .int .i64 1, .int .i64 9] rfl d3_3 ?_; (with_reducible refine (spec_l1In.calls a0_0 1 9 true _ A7.out).mono ?_); rintro e w' ⟨rfl, ⟨nd, rfl⟩⟩; refine ⟨_, rfl, ?_⟩))
        go_meet
        case rel => exact ⟨_, ((a0_2.toList != ([] : List UInt8))), d3_1, H', ⟨by have := HJ1.out; first | omega | exact Nat.le_refl _⟩, by repeat (first | exact Drawn0.refl _ | apply Drawn0.step)⟩
      ·replace c9 := Bool.eq_false_iff.mpr c9
       subst c9
       have H1 : (if a0_1 = 0 then (if a0_0 = 4 then (spec_l5Fault.j1 kj1 false a0_0 a0_1 a0_2) else (spec_l5Fault.j1 kj1 (a0_2.toList != ([] : List UInt8)) a0_0 a0_1 a0_2)) else (spec_l5Fault.j1 kj1 true a0_0 a0_1 a0_2)) = some r := by rw [if_neg (show ¬ (false = true) by decide)] at H; exact H
       clear H
       have H := H1
       clear H1
       by_cases c11 : a0_1 = 0
       ·rw [if_pos c11] at H
        have c11b0 : (a0_1 == 0) = true := beq_iff_eq.mpr c11
        have c11b1 : (a0_1 != 0) = false := bne_eq_false_iff_eq.mpr c11
        clear c11
        by_cases c12 : a0_0 = 4
        ·rw [if_pos c12] at H
         have c12b0 : (a0_0 == 4) = true := beq_iff_eq.mpr c12
         have c12b1 : (a0_0 != 4) = false := bne_eq_false_iff_eq.mpr c12
         clear c12
         have H' := ak H
         clear H
         have hx115_0 := HQ0_0.out
         have hx115_1 := HQ0_1.out
         have hx115_2 := HQ0_2.out
         go_wp2_with (first | ((with_reducible refine gate_callee (f := 89) rfl ?_); refine goesL_ (some 27) rfl rfl Tryd.func89 (by kernel_rfl) rfl #[.int .i64 a0_0, .int .i64 1, .int .i64 9] rfl d3_3 ?_; (with_reducible refine (spec_l1In.calls a0_0 1 9 true _ A7.out).mono ?_); rintro e w' ⟨rfl, ⟨nd, rfl⟩⟩; refine ⟨_, rfl, ?_⟩))
         go_meet
         case rel => exact ⟨_, (false), d3_1, H', ⟨by have := HJ1.out; first | omega | exact Nat.le_refl _⟩, by repeat (first | exact Drawn0.refl _ | apply Drawn0.step)⟩
        ·rw [if_neg c12] at H
         have c12b0 : (a0_0 == 4) = false := beq_eq_false_iff_ne.mpr c12
         have c12b1 : (a0_0 != 4) = true := bne_iff_ne.mpr c12
         have H' := ak H
         clear H
         have hx115_0 := HQ0_0.out
         have hx115_1 := HQ0_1.out
         have hx115_2 := HQ0_2.out
         go_wp2_with (first | ((with_reducible refine gate_callee (f := 89) rfl ?_); refine goesL_ (some 27) rfl rfl Tryd.func89 (by kernel_rfl) rfl #[.int .i64 a0_0, .int .i64 1, .int .i64 9] rfl d3_3 ?_; (with_reducible refine (spec_l1In.calls a0_0 1 9 true _ A7.out).mono ?_); rintro e w' ⟨rfl, ⟨nd, rfl⟩⟩; refine ⟨_, rfl, ?_⟩))
         go_meet
         case rel => exact ⟨_, ((a0_2.toList != ([] : List UInt8))), d3_1, H', ⟨by have := HJ1.out; first | omega | exact Nat.le_refl _⟩, by repeat (first | exact Drawn0.refl _ | apply Drawn0.step)⟩
       ·rw [if_neg c11] at H
        have c11b0 : (a0_1 == 0) = false := beq_eq_false_iff_ne.mpr c11
        have c11b1 : (a0_1 != 0) = true := bne_iff_ne.mpr c11
        have H' := ak H
        clear H
        have hx115_0 := HQ0_0.out
        have hx115_1 := HQ0_1.out
        have hx115_2 := HQ0_2.out
        go_wp2_with (first | ((with_reducible refine gate_callee (f := 89) rfl ?_); refine goesL_ (some 27) rfl rfl Tryd.func89 (by kernel_rfl) rfl #[.int .i64 a0_0, .int .i64 1, .int .i64 9] rfl d3_3 ?_; (with_reducible refine (spec_l1In.calls a0_0 1 9 true _ A7.out).mono ?_); rintro e w' ⟨rfl, ⟨nd, rfl⟩⟩; refine ⟨_, rfl, ?_⟩))
        go_meet
        case rel => exact ⟨_, (true), d3_1, H', ⟨by have := HJ1.out; first | omega | exact Nat.le_refl _⟩, by repeat (first | exact Drawn0.refl _ | apply Drawn0.step)⟩
     ·replace c8 := Bool.eq_false_iff.mpr c8
      subst c8
      have H1 : (spec_l5Fault.j1 kj1 true a0_0 a0_1 a0_2) = some r := by rw [if_neg (show ¬ (false = true) by decide)] at H; exact H
      clear H
      have H := H1
      clear H1
      have H' := ak H
      clear H
      have hx115_0 := HQ0_0.out
      have hx115_1 := HQ0_1.out
      have hx115_2 := HQ0_2.out
      go_wp2_with (first | ((with_reducible refine gate_callee (f := 89) rfl ?_); refine goesL_ (some 27) rfl rfl Tryd.func89 (by kernel_rfl) rfl #[.int .i64 a0_0, .int .i64 1, .int .i64 9] rfl d3_3 ?_; (with_reducible refine (spec_l1In.calls a0_0 1 9 false _ A7.out).mono ?_); rintro e w' ⟨rfl, ⟨nd, rfl⟩⟩; refine ⟨_, rfl, ?_⟩))
      go_meet
      case rel => exact ⟨_, (true), d3_1, H', ⟨by have := HJ1.out; first | omega | exact Nat.le_refl _⟩, by repeat (first | exact Drawn0.refl _ | apply Drawn0.step)⟩
    case rest =>
     clear HC6
     try clear c1
     try clear hx1
     try clear p2
     try clear c3
     try clear c3b0
     try clear c3b1
     try clear c4
     try clear c4b0
     try clear c4b1
     try clear c9
     try clear hx11
     try clear hx113_0
     try clear hx113_1
     try clear hx113_2
     obtain ⟨kq, x53_5, rfl, HA, HJ5, ⟨mc5, rfl⟩⟩ := hcut
     cases kq with
     | zero => exact absurd HA.out (by simp [spec_l5Fault.j1])
     | succ kj5 =>
      have H := HA.out
      clear HA
      simp only [spec_l5Fault.j1] at H
      by_cases c13 : x53_5 = true
      ·subst c13
       have H1 : (some 1) = some r := by rw [if_pos rfl] at H; exact H
       clear H
       have H := H1
       clear H1
       obtain rfl := Option.some.inj H
       go_wp2
       go_ret
       exact ⟨by first | rfl | (simp; done) | (simp [*]; done) | (simp [ne_nil_b, eq_nil_b]; done), by repeat (first | exact Drawn0.refl _ | apply Drawn0.step)⟩
      ·replace c13 := Bool.eq_false_iff.mpr c13
       subst c13
       have H1 : (if a0_0 = 1 then ((spec_l1Num.f a0_1).bind fun t118 => (if t118 = true then (if a0_0 = 2 then ((spec_l1In.f a0_1 0 1).bind fun t119 => (if t119 = true then ((spec_l5Placed.f a0_0).bind fun t120 => (if t120 = true then ((spec_l1In.f a0_1 0 99999).bind fun t121 => (spec_l5Fault.j2 kj5 (!t121) a0_0 a0_1 a0_2)) else (spec_l5Fault.j2 kj5 false a0_0 a0_1 a0_2))) else (spec_l5Fault.j2 kj5 true a0_0 a0_1 a0_2))) else ((spec_l5Placed.f a0_0).bind fun t122 => (if t122 = true then ((spec_l1In.f a0_1 0 99999).bind fun t123 => (spec_l5Fault.j2 kj5 (!t123) a0_0 a0_1 a0_2)) else (spec_l5Fault.j2 kj5 false a0_0 a0_1 a0_2)))) else (spec_l5Fault.j2 kj5 true a0_0 a0_1 a0_2))) else (if a0_0 = 2 then ((spec_l1In.f a0_1 0 1).bind fun t124 => (if t124 = true then ((spec_l5Placed.f a0_0).bind fun t125 => (if t125 = true then ((spec_l1In.f a0_1 0 99999).bind fun t126 => (spec_l5Fault.j2 kj5 (!t126) a0_0 a0_1 a0_2)) else (spec_l5Fault.j2 kj5 false a0_0 a0_1 a0_2))) else (spec_l5Fault.j2 kj5 true a0_0 a0_1 a0_2))) else ((spec_l5Placed.f a0_0).bind fun t127 => (if t127 = true then ((spec_l1In.f a0_1 0 99999).bind fun t128 => (spec_l5Fault.j2 kj5 (!t128) a0_0 a0_1 a0_2)) else (spec_l5Fault.j2 kj5 false a0_0 a0_1 a0_2))))) = some r := by rw [if_neg (show ¬ (false = true) by decide)] at H; exact H
       clear H
       have H := H1
       clear H1
       have HC14 := ak H
       clear H
       go_upto_region 4 with (fail)
       go_cut [96] (fun v96 wc => ∃ (kq : Nat) (x96_13 : Bool), v96 = .bool x96_13 ∧ Aside0 (spec_l5Fault.j2 kq x96_13 a0_0 a0_1 a0_2 = some r) ∧ Aside0 (kq ≤ kj5) ∧ Drawn0 w wc)
       case first =>
        have H := HC14.out
        clear HC14
        by_cases c15 : a0_0 = 1
        ·rw [if_pos c15] at H
         have c15b0 : (a0_0 == 1) = true := beq_iff_eq.mpr c15
         have c15b1 : (a0_0 != 1) = false := bne_eq_false_iff_eq.mpr c15
         clear c15
         (first | rw [c15b0] | (simp only [i64_w, i32_w]; rw [c15b0]) | skip)
         replace H := Option.bind_eq_some_iff.mp H
         obtain ⟨t118, A160, H⟩ := H
         replace H : (if t118 = true then (if a0_0 = 2 then ((spec_l1In.f a0_1 0 1).bind fun t119 => (if t119 = true then ((spec_l5Placed.f a0_0).bind fun t120 => (if t120 = true then ((spec_l1In.f a0_1 0 99999).bind fun t121 => (spec_l5Fault.j2 kj5 (!t121) a0_0 a0_1 a0_2)) else (spec_l5Fault.j2 kj5 false a0_0 a0_1 a0_2))) else (spec_l5Fault.j2 kj5 true a0_0 a0_1 a0_2))) else ((spec_l5Placed.f a0_0).bind fun t122 => (if t122 = true then ((spec_l1In.f a0_1 0 99999).bind fun t123 => (spec_l5Fault.j2 kj5 (!t123) a0_0 a0_1 a0_2)) else (spec_l5Fault.j2 kj5 false a0_0 a0_1 a0_2)))) else (spec_l5Fault.j2 kj5 true a0_0 a0_1 a0_2)) = some r := H
         have A16 := ak A160
         clear A160
         by_cases c17 : t118 = true
         ·subst c17
          have H1 : (if a0_0 = 2 then ((spec_l1In.f a0_1 0 1).bind fun t119 => (if t119 = true then ((spec_l5Placed.f a0_0).bind fun t120 => (if t120 = true then ((spec_l1In.f a0_1 0 99999).bind fun t121 => (spec_l5Fault.j2 kj5 (!t121) a0_0 a0_1 a0_2)) else (spec_l5Fault.j2 kj5 false a0_0 a0_1 a0_2))) else (spec_l5Fault.j2 kj5 true a0_0 a0_1 a0_2))) else ((spec_l5Placed.f a0_0).bind fun t122 => (if t122 = true then ((spec_l1In.f a0_1 0 99999).bind fun t123 => (spec_l5Fault.j2 kj5 (!t123) a0_0 a0_1 a0_2)) else (spec_l5Fault.j2 kj5 false a0_0 a0_1 a0_2)))) = some r := by rw [if_pos rfl] at H; exact H
          clear H
          have H := H1
          clear H1
          by_cases c18 : a0_0 = 2
          ·rw [if_pos c18] at H
           have c18b0 : (a0_0 == 2) = true := beq_iff_eq.mpr c18
           have c18b1 : (a0_0 != 2) = false := bne_eq_false_iff_eq.mpr c18
           clear c18
           replace H := Option.bind_eq_some_iff.mp H
           obtain ⟨t119, A190, H⟩ := H
           replace H : (if t119 = true then ((spec_l5Placed.f a0_0).bind fun t120 => (if t120 = true then ((spec_l1In.f a0_1 0 99999).bind fun t121 => (spec_l5Fault.j2 kj5 (!t121) a0_0 a0_1 a0_2)) else (spec_l5Fault.j2 kj5 false a0_0 a0_1 a0_2))) else (spec_l5Fault.j2 kj5 true a0_0 a0_1 a0_2)) = some r := H
           have A19 := ak A190
           clear A190
           by_cases c20 : t119 = true
           ·subst c20
            have H1 : ((spec_l5Placed.f a0_0).bind fun t120 => (if t120 = true then ((spec_l1In.f a0_1 0 99999).bind fun t121 => (spec_l5Fault.j2 kj5 (!t121) a0_0 a0_1 a0_2)) else (spec_l5Fault.j2 kj5 false a0_0 a0_1 a0_2))) = some r := by rw [if_pos rfl] at H; exact H
            clear H
            have H := H1
            clear H1
            replace H := Option.bind_eq_some_iff.mp H
            obtain ⟨t120, A210, H⟩ := H
            replace H : (if t120 = true then ((spec_l1In.f a0_1 0 99999).bind fun t121 => (spec_l5Fault.j2 kj5 (!t121) a0_0 a0_1 a0_2)) else (spec_l5Fault.j2 kj5 false a0_0 a0_1 a0_2)) = some r := H
            have A21 := ak A210
            clear A210
            by_cases c22 : t120 = true
            ·subst c22
             have H1 : ((spec_l1In.f a0_1 0 99999).bind fun t121 => (spec_l5Fault.j2 kj5 (!t121) a0_0 a0_1 a0_2)) = some r := by rw [if_pos rfl] at H; exact H
             clear H
             have H := H1
             clear H1
             replace H := Option.bind_eq_some_iff.mp H
             obtain ⟨t121, A230, H⟩ := H
             replace H : (spec_l5Fault.j2 kj5 (!t121) a0_0 a0_1 a0_2) = some r := H
             have A23 := ak A230
             clear A230
             have H' := ak H
             clear H
             have hx117_0 := HQ0_0.out
             have hx117_1 := HQ0_1.out
             have hx117_2 := HQ0_2.out
             go_wp2_with (first | (go_at_call 107; (with_reducible refine (spec_l1Num.calls a0_1 true _ A16.out).mono ?_); rintro e w' ⟨rfl, ⟨nd, rfl⟩⟩) | (go_at_call 89; (with_reducible refine (spec_l1In.calls a0_1 0 1 true _ A19.out).mono ?_); rintro e w' ⟨rfl, ⟨nd, rfl⟩⟩) | (go_at_call 106; (with_reducible refine (spec_l5Placed.calls a0_0 true _ A21.out).mono ?_); rintro e w' ⟨rfl, ⟨nd, rfl⟩⟩) | (go_at_call 89; (with_reducible refine (spec_l1In.calls a0_1 0 99999 t121 _ A23.out).mono ?_); rintro e w' ⟨rfl, ⟨nd, rfl⟩⟩))
             go_meet
             case rel => exact ⟨_, (!t121), d3_1, H', ⟨by have := HJ1.out; have := HJ5.out; first | omega | exact Nat.le_refl _⟩, by repeat (first | exact Drawn0.refl _ | apply Drawn0.step)⟩
            ·replace c22 := Bool.eq_false_iff.mpr c22
             subst c22
             have H1 : (spec_l5Fault.j2 kj5 false a0_0 a0_1 a0_2) = some r := by rw [if_neg (show ¬ (false = true) by decide)] at H; exact H
             clear H
             have H := H1
             clear H1
             have H' := ak H
             clear H
             have hx117_0 := HQ0_0.out
             have hx117_1 := HQ0_1.out
             have hx117_2 := HQ0_2.out
             go_wp2_with (first | (go_at_call 107; (with_reducible refine (spec_l1Num.calls a0_1 true _ A16.out).mono ?_); rintro e w' ⟨rfl, ⟨nd, rfl⟩⟩) | (go_at_call 89; (with_reducible refine (spec_l1In.calls a0_1 0 1 true _ A19.out).mono ?_); rintro e w' ⟨rfl, ⟨nd, rfl⟩⟩) | (go_at_call 106; (with_reducible refine (spec_l5Placed.calls a0_0 false _ A21.out).mono ?_); rintro e w' ⟨rfl, ⟨nd, rfl⟩⟩))
             go_meet
             case rel => exact ⟨_, (false), d3_1, H', ⟨by have := HJ1.out; have := HJ5.out; first | omega | exact Nat.le_refl _⟩, by repeat (first | exact Drawn0.refl _ | apply Drawn0.step)⟩
           ·replace c20 := Bool.eq_false_iff.mpr c20
            subst c20
            have H1 : (spec_l5Fault.j2 kj5 true a0_0 a0_1 a0_2) = some r := by rw [if_neg (show ¬ (false = true) by decide)] at H; exact H
            clear H
            have H := H1
            clear H1
            have H' := ak H
            clear H
            have hx117_0 := HQ0_0.out
            have hx117_1 := HQ0_1.out
            have hx117_2 := HQ0_2.out
            go_wp2_with (first | (go_at_call 107; (with_reducible refine (spec_l1Num.calls a0_1 true _ A16.out).mono ?_); rintro e w' ⟨rfl, ⟨nd, rfl⟩⟩) | (go_at_call 89; (with_reducible refine (spec_l1In.calls a0_1 0 1 false _ A19.out).mono ?_); rintro e w' ⟨rfl, ⟨nd, rfl⟩⟩))
            go_meet
            case rel => exact ⟨_, (true), d3_1, H', ⟨by have := HJ1.out; have := HJ5.out; first | omega | exact Nat.le_refl _⟩, by repeat (first | exact Drawn0.refl _ | apply Drawn0.step)⟩
          ·rw [if_neg c18] at H
           have c18b0 : (a0_0 == 2) = false := beq_eq_false_iff_ne.mpr c18
           have c18b1 : (a0_0 != 2) = true := bne_iff_ne.mpr c18
           replace H := Option.bind_eq_some_iff.mp H
           obtain ⟨t122, A240, H⟩ := H
           replace H : (if t122 = true then ((spec_l1In.f a0_1 0 99999).bind fun t123 => (spec_l5Fault.j2 kj5 (!t123) a0_0 a0_1 a0_2)) else (spec_l5Fault.j2 kj5 false a0_0 a0_1 a0_2)) = some r := H
           have A24 := ak A240
           clear A240
           by_cases c25 : t122 = true
           ·subst c25
            have H1 : ((spec_l1In.f a0_1 0 99999).bind fun t123 => (spec_l5Fault.j2 kj5 (!t123) a0_0 a0_1 a0_2)) = some r := by rw [if_pos rfl] at H; exact H
            clear H
            have H := H1
            clear H1
            replace H := Option.bind_eq_some_iff.mp H
            obtain ⟨t123, A260, H⟩ := H
            replace H : (spec_l5Fault.j2 kj5 (!t123) a0_0 a0_1 a0_2) = some r := H
            have A26 := ak A260
            clear A260
            have H' := ak H
            clear H
            have hx117_0 := HQ0_0.out
            have hx117_1 := HQ0_1.out
            have hx117_2 := HQ0_2.out
            go_wp2_with (first | (go_at_call 107; (with_reducible refine (spec_l1Num.calls a0_1 true _ A16.out).mono ?_); rintro e w' ⟨rfl, ⟨nd, rfl⟩⟩) | (go_at_call 106; (with_reducible refine (spec_l5Placed.calls a0_0 true _ A24.out).mono ?_); rintro e w' ⟨rfl, ⟨nd, rfl⟩⟩) | (go_at_call 89; (with_reducible refine (spec_l1In.calls a0_1 0 99999 t123 _ A26.out).mono ?_); rintro e w' ⟨rfl, ⟨nd, rfl⟩⟩))
            go_meet
            case rel => exact ⟨_, (!t123), d3_1, H', ⟨by have := HJ1.out; have := HJ5.out; first | omega | exact Nat.le_refl _⟩, by repeat (first | exact Drawn0.refl _ | apply Drawn0.step)⟩
           ·replace c25 := Bool.eq_false_iff.mpr c25
            subst c25
            have H1 : (spec_l5Fault.j2 kj5 false a0_0 a0_1 a0_2) = some r := by rw [if_neg (show ¬ (false = true) by decide)] at H; exact H
            clear H
            have H := H1
            clear H1
            have H' := ak H
            clear H
            have hx117_0 := HQ0_0.out
            have hx117_1 := HQ0_1.out
            have hx117_2 := HQ0_2.out
            go_wp2_with (first | (go_at_call 107; (with_reducible refine (spec_l1Num.calls a0_1 true _ A16.out).mono ?_); rintro e w' ⟨rfl, ⟨nd, rfl⟩⟩) | (go_at_call 106; (with_reducible refine (spec_l5Placed.calls a0_0 false _ A24.out).mono ?_); rintro e w' ⟨rfl, ⟨nd, rfl⟩⟩))
            go_meet
            case rel => exact ⟨_, (false), d3_1, H', ⟨by have := HJ1.out; have := HJ5.out; first | omega | exact Nat.le_refl _⟩, by repeat (first | exact Drawn0.refl _ | apply Drawn0.step)⟩
         ·replace c17 := Bool.eq_false_iff.mpr c17
          subst c17
          have H1 : (spec_l5Fault.j2 kj5 true a0_0 a0_1 a0_2) = some r := by rw [if_neg (show ¬ (false = true) by decide)] at H; exact H
          clear H
          have H := H1
          clear H1
          have H' := ak H
          clear H
          have hx117_0 := HQ0_0.out
          have hx117_1 := HQ0_1.out
          have hx117_2 := HQ0_2.out
          go_wp2_with (first | (go_at_call 107; (with_reducible refine (spec_l1Num.calls a0_1 false _ A16.out).mono ?_); rintro e w' ⟨rfl, ⟨nd, rfl⟩⟩))
          go_meet
          case rel => exact ⟨_, (true), d3_1, H', ⟨by have := HJ1.out; have := HJ5.out; first | omega | exact Nat.le_refl _⟩, by repeat (first | exact Drawn0.refl _ | apply Drawn0.step)⟩
        ·rw [if_neg c15] at H
         have c15b0 : (a0_0 == 1) = false := beq_eq_false_iff_ne.mpr c15
         have c15b1 : (a0_0 != 1) = true := bne_iff_ne.mpr c15
         (first | rw [c15b0] | (simp only [i64_w, i32_w]; rw [c15b0]) | skip)
         by_cases c27 : a0_0 = 2
         ·rw [if_pos c27] at H
          have c27b0 : (a0_0 == 2) = true := beq_iff_eq.mpr c27
          have c27b1 : (a0_0 != 2) = false := bne_eq_false_iff_eq.mpr c27
          clear c27
          replace H := Option.bind_eq_some_iff.mp H
          obtain ⟨t124, A280, H⟩ := H
          replace H : (if t124 = true then ((spec_l5Placed.f a0_0).bind fun t125 => (if t125 = true then ((spec_l1In.f a0_1 0 99999).bind fun t126 => (spec_l5Fault.j2 kj5 (!t126) a0_0 a0_1 a0_2)) else (spec_l5Fault.j2 kj5 false a0_0 a0_1 a0_2))) else (spec_l5Fault.j2 kj5 true a0_0 a0_1 a0_2)) = some r := H
          have A28 := ak A280
          clear A280
          by_cases c29 : t124 = true
          ·subst c29
           have H1 : ((spec_l5Placed.f a0_0).bind fun t125 => (if t125 = true then ((spec_l1In.f a0_1 0 99999).bind fun t126 => (spec_l5Fault.j2 kj5 (!t126) a0_0 a0_1 a0_2)) else (spec_l5Fault.j2 kj5 false a0_0 a0_1 a0_2))) = some r := by rw [if_pos rfl] at H; exact H
           clear H
           have H := H1
           clear H1
           replace H := Option.bind_eq_some_iff.mp H
           obtain ⟨t125, A300, H⟩ := H
           replace H : (if t125 = true then ((spec_l1In.f a0_1 0 99999).bind fun t126 => (spec_l5Fault.j2 kj5 (!t126) a0_0 a0_1 a0_2)) else (spec_l5Fault.j2 kj5 false a0_0 a0_1 a0_2)) = some r := H
           have A30 := ak A300
           clear A300
           by_cases c31 : t125 = true
           ·subst c31
            have H1 : ((spec_l1In.f a0_1 0 99999).bind fun t126 => (spec_l5Fault.j2 kj5 (!t126) a0_0 a0_1 a0_2)) = some r := by rw [if_pos rfl] at H; exact H
            clear H
            have H := H1
            clear H1
            replace H := Option.bind_eq_some_iff.mp H
            obtain ⟨t126, A320, H⟩ := H
            replace H : (spec_l5Fault.j2 kj5 (!t126) a0_0 a0_1 a0_2) = some r := H
            have A32 := ak A320
            clear A320
            have H' := ak H
            clear H
            have hx117_0 := HQ0_0.out
            have hx117_1 := HQ0_1.out
            have hx117_2 := HQ0_2.out
            go_wp2_with (first | (go_at_call 89; (with_reducible refine (spec_l1In.calls a0_1 0 1 true _ A28.out).mono ?_); rintro e w' ⟨rfl, ⟨nd, rfl⟩⟩) | (go_at_call 106; (with_reducible refine (spec_l5Placed.calls a0_0 true _ A30.out).mono ?_); rintro e w' ⟨rfl, ⟨nd, rfl⟩⟩) | (go_at_call 89; (with_reducible refine (spec_l1In.calls a0_1 0 99999 t126 _ A32.out).mono ?_); rintro e w' ⟨rfl, ⟨nd, rfl⟩⟩))
            go_meet
            case rel => exact ⟨_, (!t126), d3_1, H', ⟨by have := HJ1.out; have := HJ5.out; first | omega | exact Nat.le_refl _⟩, by repeat (first | exact Drawn0.refl _ | apply Drawn0.step)⟩
           ·replace c31 := Bool.eq_false_iff.mpr c31
            subst c31
            have H1 : (spec_l5Fault.j2 kj5 false a0_0 a0_1 a0_2) = some r := by rw [if_neg (show ¬ (false = true) by decide)] at H; exact H
            clear H
            have H := H1
            clear H1
            have H' := ak H
            clear H
            have hx117_0 := HQ0_0.out
            have hx117_1 := HQ0_1.out
            have hx117_2 := HQ0_2.out
            go_wp2_with (first | (go_at_call 89; (with_reducible refine (spec_l1In.calls a0_1 0 1 true _ A28.out).mono ?_); rintro e w' ⟨rfl, ⟨nd, rfl⟩⟩) | (go_at_call 106; (with_reducible refine (spec_l5Placed.calls a0_0 false _ A30.out).mono ?_); rintro e w' ⟨rfl, ⟨nd, rfl⟩⟩))
            go_meet
            case rel => exact ⟨_, (false), d3_1, H', ⟨by have := HJ1.out; have := HJ5.out; first | omega | exact Nat.le_refl _⟩, by repeat (first | exact Drawn0.refl _ | apply Drawn0.step)⟩
          ·replace c29 := Bool.eq_false_iff.mpr c29
           subst c29
           have H1 : (spec_l5Fault.j2 kj5 true a0_0 a0_1 a0_2) = some r := by rw [if_neg (show ¬ (false = true) by decide)] at H; exact H
           clear H
           have H := H1
           clear H1
           have H' := ak H
           clear H
           have hx117_0 := HQ0_0.out
           have hx117_1 := HQ0_1.out
           have hx117_2 := HQ0_2.out
           go_wp2_with (first | (go_at_call 89; (with_reducible refine (spec_l1In.calls a0_1 0 1 false _ A28.out).mono ?_); rintro e w' ⟨rfl, ⟨nd, rfl⟩⟩))
           go_meet
           case rel => exact ⟨_, (true), d3_1, H', ⟨by have := HJ1.out; have := HJ5.out; first | omega | exact Nat.le_refl _⟩, by repeat (first | exact Drawn0.refl _ | apply Drawn0.step)⟩
         ·rw [if_neg c27] at H
          have c27b0 : (a0_0 == 2) = false := beq_eq_false_iff_ne.mpr c27
          have c27b1 : (a0_0 != 2) = true := bne_iff_ne.mpr c27
          replace H := Option.bind_eq_some_iff.mp H
          obtain ⟨t127, A330, H⟩ := H
          replace H : (if t127 = true then ((spec_l1In.f a0_1 0 99999).bind fun t128 => (spec_l5Fault.j2 kj5 (!t128) a0_0 a0_1 a0_2)) else (spec_l5Fault.j2 kj5 false a0_0 a0_1 a0_2)) = some r := H
          have A33 := ak A330
          clear A330
          by_cases c34 : t127 = true
          ·subst c34
           have H1 : ((spec_l1In.f a0_1 0 99999).bind fun t128 => (spec_l5Fault.j2 kj5 (!t128) a0_0 a0_1 a0_2)) = some r := by rw [if_pos rfl] at H; exact H
           clear H
           have H := H1
           clear H1
           replace H := Option.bind_eq_some_iff.mp H
           obtain ⟨t128, A350, H⟩ := H
           replace H : (spec_l5Fault.j2 kj5 (!t128) a0_0 a0_1 a0_2) = some r := H
           have A35 := ak A350
           clear A350
           have H' := ak H
           clear H
           have hx117_0 := HQ0_0.out
           have hx117_1 := HQ0_1.out
           have hx117_2 := HQ0_2.out
           go_wp2_with (first | (go_at_call 106; (with_reducible refine (spec_l5Placed.calls a0_0 true _ A33.out).mono ?_); rintro e w' ⟨rfl, ⟨nd, rfl⟩⟩) | (go_at_call 89; (with_reducible refine (spec_l1In.calls a0_1 0 99999 t128 _ A35.out).mono ?_); rintro e w' ⟨rfl, ⟨nd, rfl⟩⟩))
           go_meet
           case rel => exact ⟨_, (!t128), d3_1, H', ⟨by have := HJ1.out; have := HJ5.out; first | omega | exact Nat.le_refl _⟩, by repeat (first | exact Drawn0.refl _ | apply Drawn0.step)⟩
          ·replace c34 := Bool.eq_false_iff.mpr c34
           subst c34
           have H1 : (spec_l5Fault.j2 kj5 false a0_0 a0_1 a0_2) = some r := by rw [if_neg (show ¬ (false = true) by decide)] at H; exact H
           clear H
           have H := H1
           clear H1
           have H' := ak H
           clear H
           have hx117_0 := HQ0_0.out
           have hx117_1 := HQ0_1.out
           have hx117_2 := HQ0_2.out
           go_wp2_with (first | (go_at_call 106; (with_reducible refine (spec_l5Placed.calls a0_0 false _ A33.out).mono ?_); rintro e w' ⟨rfl, ⟨nd, rfl⟩⟩))
           go_meet
           case rel => exact ⟨_, (false), d3_1, H', ⟨by have := HJ1.out; have := HJ5.out; first | omega | exact Nat.le_refl _⟩, by repeat (first | exact Drawn0.refl _ | apply Drawn0.step)⟩
       case rest =>
        clear HC14
        try clear c1
        try clear hx1
        try clear p2
        try clear c3
        try clear c3b0
        try clear c3b1
        try clear c4
        try clear c4b0
        try clear c4b1
        try clear c5
        try clear c8
        try clear c9
        try clear c10
        try clear c10b0
        try clear c10b1
        try clear c11
        try clear c11b0
        try clear c11b1
        try clear hx11
        try clear c12
        try clear c12b0
        try clear c12b1
        try clear c13
        try clear hx113_0
        try clear hx113_1
        try clear hx113_2
        try clear hx115_0
        try clear hx115_1
        try clear hx115_2
        try clear p2
        obtain ⟨kq, x96_13, rfl, HA, HJ13, ⟨mc13, rfl⟩⟩ := hcut
        cases kq with
        | zero => exact absurd HA.out (by simp [spec_l5Fault.j2])
        | succ kj13 =>
         have H := HA.out
         clear HA
         simp only [spec_l5Fault.j2] at H
         by_cases c36 : x96_13 = true
         ·subst c36
          have H1 : (some 3) = some r := by rw [if_pos rfl] at H; exact H
          clear H
          have H := H1
          clear H1
          obtain rfl := Option.some.inj H
          go_wp2
          go_ret
          exact ⟨by first | rfl | (simp; done) | (simp [*]; done) | (simp [ne_nil_b, eq_nil_b]; done), by repeat (first | exact Drawn0.refl _ | apply Drawn0.step)⟩
         ·replace c36 := Bool.eq_false_iff.mpr c36
          subst c36
          have H1 : (if a0_0 = 4 then ((spec_l2Sym.f kj13 a0_2).bind fun t130 => (if t130 = true then (some 0) else (some 5))) else (some 0)) = some r := by rw [if_neg (show ¬ (false = true) by decide)] at H; exact H
          clear H
          have H := H1
          clear H1
          by_cases c37 : a0_0 = 4
          ·rw [if_pos c37] at H
           have c37b0 : (a0_0 == 4) = true := beq_iff_eq.mpr c37
           have c37b1 : (a0_0 != 4) = false := bne_eq_false_iff_eq.mpr c37
           clear c37
           replace H := Option.bind_eq_some_iff.mp H
           obtain ⟨t130, A380, H⟩ := H
           replace H : (if t130 = true then (some 0) else (some 5)) = some r := H
           have A38 := ak A380
           clear A380
           by_cases c39 : t130 = true
           ·subst c39
            have H1 : (some 0) = some r := by rw [if_pos rfl] at H; exact H
            clear H
            have H := H1
            clear H1
            obtain rfl := Option.some.inj H
            have hx129_0 := HQ0_0.out
            have hx129_1 := HQ0_1.out
            have hx129_2 := HQ0_2.out
            go_wp2_with (first | (go_at_call 104; (with_reducible refine (spec_l2Sym.calls kj13 a0_2 true _ A38.out).mono ?_); rintro e w' ⟨rfl, ⟨nd, rfl⟩⟩))
            go_ret
            exact ⟨by first | rfl | (simp; done) | (simp [*]; done) | (simp [ne_nil_b, eq_nil_b]; done), by repeat (first | exact Drawn0.refl _ | apply Drawn0.step)⟩
           ·replace c39 := Bool.eq_false_iff.mpr c39
            subst c39
            have H1 : (some 5) = some r := by rw [if_neg (show ¬ (false = true) by decide)] at H; exact H
            clear H
            have H := H1
            clear H1
            obtain rfl := Option.some.inj H
            have hx129_0 := HQ0_0.out
            have hx129_1 := HQ0_1.out
            have hx129_2 := HQ0_2.out
            go_wp2_with (first | (go_at_call 104; (with_reducible refine (spec_l2Sym.calls kj13 a0_2 false _ A38.out).mono ?_); rintro e w' ⟨rfl, ⟨nd, rfl⟩⟩))
            go_ret
            exact ⟨by first | rfl | (simp; done) | (simp [*]; done) | (simp [ne_nil_b, eq_nil_b]; done), by repeat (first | exact Drawn0.refl _ | apply Drawn0.step)⟩
          ·rw [if_neg c37] at H
           have c37b0 : (a0_0 == 4) = false := beq_eq_false_iff_ne.mpr c37
           have c37b1 : (a0_0 != 4) = true := bne_iff_ne.mpr c37
           obtain rfl := Option.some.inj H
           have hx129_0 := HQ0_0.out
           have hx129_1 := HQ0_1.out
           have hx129_2 := HQ0_2.out
           go_wp2
           go_ret
           exact ⟨by first | rfl | (simp; done) | (simp [*]; done) | (simp [ne_nil_b, eq_nil_b]; done), by repeat (first | exact Drawn0.refl _ | apply Drawn0.step)⟩

/-! ### laws_toValue: function 34 -/
def laws_toValue.f (a0_0 : Int) (a0_1 : Int) (a0_2 : ByteArray) : Option (Int × Int × ByteArray) := some (a0_0, a0_1, a0_2)
set_option maxHeartbeats 8000000 in
set_option maxRecDepth 100000 in
theorem laws_toValue.calls (a0_0 : Int) (a0_1 : Int) (a0_2 : ByteArray) (r1 : Int) (r2 : Int) (r3 : ByteArray) (w : World) (h : laws_toValue.f a0_0 a0_1 a0_2 = some (r1, r2, r3)) :
    Calls Tryd.prog 34 #[.agg #[.int .i64 a0_0, .int .i64 a0_1, .string a0_2]] w fun e w' => e = .returned (.agg #[.int .i64 r1, .int .i64 r2, .string r3]) ∧ Below w.heap.size w w' := by
  have hu24 := Tryd.underlying24
  have hu32 := Tryd.underlying32
  have HB := ak (Below.refl w.heap.size w)
  have H : (some (a0_0, a0_1, a0_2)) = some (r1, r2, r3) := h
  clear h
  simp only [Option.some.injEq, Prod.mk.injEq] at H
  obtain ⟨rfl, rfl, rfl⟩ := H
  go_enter Tryd.func34, Tryd.ntmps34
  go_wp2_with (first | ((with_reducible refine gate_dst (N := 1) rfl ?_); refine box_event ?hg (N := 1) ?hd (cs := #[.int .i64 a0_0, .int .i64 a0_1, .string a0_2]) (t := 24) ?hr ?_; (case hd => rfl); (case hg => rfl); (case hr => first | (go_simp; done) | (go_simp; rfl)); intro gb158 hg w2 hbox hb; have n0_ := ak (below_step d3_2 hb); have n1_ := ak (hbox); have n2_ := ak ((by rw [hg]; exact (below_size d3_2) : w.heap.size ≤ gb158)); have n3_ := ak ((by rw [hg]; exact (below_size d3_2) : w.heap.size ≤ gb158)); clear HB; have HB := n0_; have BK158 := n1_; have GW158 := n2_; have GE158 := n3_; clear n0_ n1_ n2_ n3_ hb hbox hg) | ((with_reducible refine gate_dst (N := 2) rfl ?_); refine box_event ?hg (N := 2) ?hd (cs := #[.int .i64 0, .int .i64 0, .string (⟨#[]⟩ : ByteArray)]) (t := 32) ?hr ?_; (case hd => rfl); (case hg => rfl); (case hr => first | (go_simp; done) | (go_simp; rfl)); intro gb159 hg w3 hbox hb; have n0_ := ak (blk_below (g := gb158) (o := .cells #[.int .i64 a0_0, .int .i64 a0_1, .string a0_2] 24 (0, 0)) d3_4 hb); have n1_ := ak (below_step d3_6 hb); have n2_ := ak (hbox); have n3_ := ak ((by rw [hg]; exact (below_size d3_6) : w.heap.size ≤ gb159)); have n4_ := ak ((by rw [hg]; exact (below_size d3_6) : w.heap.size ≤ gb159)); have n5_ := ak ((by rw [hg]; exact Nat.ne_of_lt (blk_lt (g := gb158) (o := .cells #[.int .i64 a0_0, .int .i64 a0_1, .string a0_2] 24 (0, 0)) d3_4) : gb158 ≠ gb159)); have n6_ := ak ((by rw [hg]; exact Nat.ne_of_gt (blk_lt (g := gb158) (o := .cells #[.int .i64 a0_0, .int .i64 a0_1, .string a0_2] 24 (0, 0)) d3_4) : gb159 ≠ gb158)); clear BK158 HB; have BK158 := n0_; have HB := n1_; have BK159 := n2_; have GW159 := n3_; have GE159 := n4_; have NB158_159 := n5_; have NB159_158 := n6_; clear n0_ n1_ n2_ n3_ n4_ n5_ n6_ hb hbox hg) | ((with_reducible refine gate_dst (N := 3) rfl ?_); refine box_event ?hg (N := 3) ?hd (cs := #[.int .i64 0, .int .i64 0, .string (⟨#[]⟩ : ByteArray)]) (t := 32) ?hr ?_; (case hd => rfl); (case hg => rfl); (case hr => first | (go_simp; done) | (go_simp; rfl)); intro gb160 hg w4 hbox hb; have n0_ := ak (blk_below (g := gb158) (o := .cells #[.int .i64 a0_0, .int .i64 a0_1, .string a0_2] 24 (0, 0)) d3_4 hb); have n1_ := ak (blk_below (g := gb159) (o := .cells #[.int .i64 0, .int .i64 0, .string (⟨#[]⟩ : ByteArray)] 32 (0, 0)) (by (with_reducible repeat (first | refine blk_drewN ?_ _ | refine blk_drew ?_ | refine blk_alloc ?_ _)); exact BK159.out) hb); have n2_ := ak (below_step d3_5 hb); have n3_ := ak (hbox); have n4_ := ak ((by rw [hg]; exact (below_size d3_5) : w.heap.size ≤ gb160)); have n5_ := ak ((by rw [hg]; exact (below_size d3_5) : w.heap.size ≤ gb160)); have n6_ := ak ((by rw [hg]; exact Nat.ne_of_lt (blk_lt (g := gb158) (o := .cells #[.int .i64 a0_0, .int .i64 a0_1, .string a0_2] 24 (0, 0)) d3_4) : gb158 ≠ gb160)); have n7_ := ak ((by rw [hg]; exact Nat.ne_of_gt (blk_lt (g := gb158) (o := .cells #[.int .i64 a0_0, .int .i64 a0_1, .string a0_2] 24 (0, 0)) d3_4) : gb160 ≠ gb158)); have n8_ := ak ((by rw [hg]; exact Nat.ne_of_lt (blk_lt (g := gb159) (o := .cells #[.int .i64 0, .int .i64 0, .string (⟨#[]⟩ : ByteArray)] 32 (0, 0)) (by (with_reducible repeat (first | refine blk_drewN ?_ _ | refine blk_drew ?_ | refine blk_alloc ?_ _)); exact BK159.out)) : gb159 ≠ gb160)); have n9_ := ak ((by rw [hg]; exact Nat.ne_of_gt (blk_lt (g := gb159) (o := .cells #[.int .i64 0, .int .i64 0, .string (⟨#[]⟩ : ByteArray)] 32 (0, 0)) (by (with_reducible repeat (first | refine blk_drewN ?_ _ | refine blk_drew ?_ | refine blk_alloc ?_ _)); exact BK159.out)) : gb160 ≠ gb159)); clear BK158 BK159 HB; have BK158 := n0_; have BK159 := n1_; have HB := n2_; have BK160 := n3_; have GW160 := n4_; have GE160 := n5_; have NB158_160 := n6_; have NB160_158 := n7_; have NB159_160 := n8_; have NB160_159 := n9_; clear n0_ n1_ n2_ n3_ n4_ n5_ n6_ n7_ n8_ n9_ hb hbox hg; have hnb5 := NB158_159.out; have hnc5 := NB159_158.out; have hnb6 := NB158_160.out; have hnc6 := NB160_158.out; have hcz7_0 : w4.cell? ⟨gb158, 0, none⟩ = some (.int .i64 a0_0) := (blk_cell BK158.out 0).trans rfl; have hcz7_1 : w4.cell? ⟨gb158, 1, none⟩ = some (.int .i64 a0_1) := (blk_cell BK158.out 1).trans rfl; have hcz7_2 : w4.cell? ⟨gb158, 2, none⟩ = some (.string a0_2) := (blk_cell BK158.out 2).trans rfl; have hfz7_0 := blk_frozen BK158.out 0; have hfz7_1 := blk_frozen BK158.out 1; have hfz7_2 := blk_frozen BK158.out 2; have hnb8 := NB160_159.out; have hnc8 := NB159_160.out; have hcz9_0 : w4.cell? ⟨gb160, 0, none⟩ = some (.int .i64 0) := (blk_cell BK160.out 0).trans rfl; have hcz9_1 : w4.cell? ⟨gb160, 1, none⟩ = some (.int .i64 0) := (blk_cell BK160.out 1).trans rfl; have hcz9_2 : w4.cell? ⟨gb160, 2, none⟩ = some (.string (⟨#[]⟩ : ByteArray)) := (blk_cell BK160.out 2).trans rfl; have hfz9_0 := blk_frozen BK160.out 0; have hfz9_1 := blk_frozen BK160.out 1; have hfz9_2 := blk_frozen BK160.out 2; have hcz10_0 : w4.cell? ⟨gb159, 0, none⟩ = some (.int .i64 0) := (blk_cell BK159.out 0).trans rfl; have hcz10_1 : w4.cell? ⟨gb159, 1, none⟩ = some (.int .i64 0) := (blk_cell BK159.out 1).trans rfl; have hcz10_2 : w4.cell? ⟨gb159, 2, none⟩ = some (.string (⟨#[]⟩ : ByteArray)) := (blk_cell BK159.out 2).trans rfl; have hfz10_0 := blk_frozen BK159.out 0; have hfz10_1 := blk_frozen BK159.out 1; have hfz10_2 := blk_frozen BK159.out 2))
  refine bodyPost_ret (results_cell_row rfl _ _ gb159 32 #[.int .i64 a0_0, .int .i64 a0_1, .string a0_2] (0, 0) _ rfl (by (with_reducible repeat (first | refine blk_drewN ?_ _ | refine blk_drew ?_ | refine blk_alloc ?_ _)); refine blk_put (cs := #[.int .i64 a0_0, .int .i64 a0_1, .string (⟨#[]⟩ : ByteArray)]) ?_ 2 _ rfl; (with_reducible repeat (first | refine blk_drewN ?_ _ | refine blk_drew ?_ | refine blk_alloc ?_ _)); refine blk_put (cs := #[.int .i64 a0_0, .int .i64 0, .string (⟨#[]⟩ : ByteArray)]) ?_ 1 _ rfl; (with_reducible repeat (first | refine blk_drewN ?_ _ | refine blk_drew ?_ | refine blk_alloc ?_ _)); refine blk_put (cs := #[.int .i64 0, .int .i64 0, .string (⟨#[]⟩ : ByteArray)]) ?_ 0 _ rfl; (with_reducible repeat (first | refine blk_drewN ?_ _ | refine blk_drew ?_ | refine blk_alloc ?_ _)); refine blk_far ?_ NB159_160.out _; (with_reducible repeat (first | refine blk_drewN ?_ _ | refine blk_drew ?_ | refine blk_alloc ?_ _)); refine blk_far ?_ NB159_160.out _; (with_reducible repeat (first | refine blk_drewN ?_ _ | refine blk_drew ?_ | refine blk_alloc ?_ _)); refine blk_far ?_ NB159_160.out _; (with_reducible repeat (first | refine blk_drewN ?_ _ | refine blk_drew ?_ | refine blk_alloc ?_ _)); exact BK159.out) Tryd.underlying32 rfl (by kernel_rfl)) rfl ?_
  exact ⟨by first | rfl | (simp [errW_none, errW_some] <;> rfl) | (simp [*, errW_none, errW_some] <;> rfl), by repeat (first | (with_reducible first | exact HB.out | apply below_alloc | apply pw_below_drewN | apply below_drew1 | refine below_set ?_ GE158.out | refine below_set ?_ GE159.out | refine below_set ?_ GE160.out) | exact HB.out)⟩

/-! ### impl_isPlaced: function 93 -/
def impl_isPlaced.f (a0 : Int) : Option (Bool) := (impl_in.f a0 5 8).bind fun t183 => (some t183)
set_option maxHeartbeats 8000000 in
set_option maxRecDepth 100000 in
theorem impl_isPlaced.calls (a0 : Int) (r : Bool) (w : World) (h : impl_isPlaced.f a0 = some r) :
    Calls Tryd.prog 93 #[.int .i64 a0] w fun e w' => e = .returned (.bool r) ∧ Drawn0 w w' := by
  have H : ((impl_in.f a0 5 8).bind fun t183 => (some t183)) = some r := h
  clear h
  replace H := Option.bind_eq_some_iff.mp H
  obtain ⟨t183, A20, H⟩ := H
  replace H : (some t183) = some r := H
  have A2 := ak A20
  clear A20
  obtain rfl := Option.some.inj H
  go_enter Tryd.func93, Tryd.ntmps93
  go_wp2_with (first | ((with_reducible refine gate_callee (f := 54) rfl ?_); refine goesL_ (some 4) rfl rfl Tryd.func54 (by kernel_rfl) rfl #[.int .i64 a0, .int .i64 5, .int .i64 8] rfl d3_3 ?_; (with_reducible refine (impl_in.calls a0 5 8 t183 _ A2.out).mono ?_); rintro e w' ⟨rfl, ⟨nd, rfl⟩⟩; refine ⟨_, rfl, ?_⟩))
  go_ret
  exact ⟨by first | rfl | (simp; done) | (simp [*]; done) | (simp [ne_nil_b, eq_nil_b]; done), by repeat (first | exact Drawn0.refl _ | apply Drawn0.step)⟩

end Go.Proofs.YtaeeoljihmndfaaDoor.A
