/- Walks of the program's functions: each Go function's answer as a plain Lean function, and that the call comes to it. Written by a program. Conditions: those in each theorem's own head. -/
import Derived.Test.YthjfdohcdkpdnaaDoorA0
import Derived.Test.YthjfdohcdkpdnaaDoorA1
import Derived.Test.YthjfdohcdkpdnaaDoorA19
import Derived.Test.YthjfdohcdkpdnaaDoorA21
namespace Go.Proofs.YthjfdohcdkpdnaaDoor.A
open Go.RowKit Go.Proofs.YthjfdohcdkpdnaaDoorW.PrintWords Go.Proofs.YthjfdohcdkpdnaaDoorW.PrintLast Go.Proofs.YthjfdohcdkpdnaaDoorW.PrintMore
attribute [local go_sem] max2_int min2_int max_two min_two max_three min_three max_four min_four   -- for this text's walks alone
set_option linter.unusedVariables false
set_option linter.unusedSimpArgs false

theorem d22_1 {p : Prop} (h : p := by repeat (first | (with_reducible first | exact HB.out | apply below_alloc | apply pw_below_drewN | apply below_drew1 | refine below_set ?_ GE687.out) | exact HB.out)) : p := h
theorem d22_2 {p : Prop} (h : p := by repeat (first | (with_reducible first | exact HB.out | apply below_alloc | apply pw_below_drewN | apply below_drew1) | exact HB.out)) : p := h
theorem d22_3 {p : Prop} (h : p := by (try simp only [List.map_toArray, List.map_cons, List.map_nil]); first | done | rfl | (simp only [List.length_drop, List.length_take]; rfl)) : p := h
theorem d22_4 {p : Prop} (h : p := by (with_reducible repeat (first | refine blk_drewN ?_ _ | refine blk_drew ?_ | refine blk_alloc ?_ _)); exact BK687.out) : p := h
theorem d22_5 {p : Prop} (h : p := by repeat (first | (with_reducible exact HR677.out) | (with_reducible refine Kd.C_alloc ?_ _) | (with_reducible refine Kd.C_drewN ?_ _) | (with_reducible refine Kd.C_drew ?_) | exact HR677.out)) : p := h
theorem d22_6 {p : Prop} (h : p := by first | rfl | (simp; done) | (simp [*]; done) | (simp [ne_nil_b, eq_nil_b]; done)) : p := h
theorem d22_7 {p : Prop} (h : p := by repeat (first | (with_reducible first | exact HB.out | apply below_alloc | apply pw_below_drewN | apply below_drew1 | refine below_set ?_ GE668.out) | exact HB.out)) : p := h
theorem d22_8 {p : Prop} (h : p := by first | (with_reducible assumption) | assumption) : p := h
theorem d22_9 {p : Prop} (h : p := by rw [hg]; exact (below_size d22_2)) : p := h

/-! ### impl_OpFault: function 41 -/
mutual
def impl_OpFault.j0 : Nat → List Int → Bool → Int → Int → Int → Int → Int → ByteArray → List (S132) → Option (Int)
  | 0, _, _, _, _, _, _, _, _, _ => none
  | k + 1, x3, x14, x669000, x669001, x669002, x669003, x669004, x669005, x669006 => if x14 = true then (some 1) else ((slices_ContainsFunc_int64_int64__impl_OpFault_2.f k x3).bind fun t682 => (if t682 = true then (impl_OpFault.j1 k true x669000 x669001 x669002 x669003 x669004 x669005 x669006) else (if x669000 = 10 then (impl_OpFault.j1 k (decide (x669001 > 3)) x669000 x669001 x669002 x669003 x669004 x669005 x669006) else (if x669000 = 11 then (impl_OpFault.j1 k (decide (x669001 > 3)) x669000 x669001 x669002 x669003 x669004 x669005 x669006) else (impl_OpFault.j1 k false x669000 x669001 x669002 x669003 x669004 x669005 x669006)))))
def impl_OpFault.j1 : Nat → Bool → Int → Int → Int → Int → Int → ByteArray → List (S132) → Option (Int)
  | 0, _, _, _, _, _, _, _, _ => none
  | k + 1, x51, x669000, x669001, x669002, x669003, x669004, x669005, x669006 => if x51 = true then (some 3) else ((impl_opNamed.f x669000).bind fun t683 => (if t683 = true then ((impl_SymFault.f x669005).bind fun t684 => (some t684)) else ((impl_opData.f x669000).bind fun t685 => (if t685 = true then ((impl_DataFault.f k x669006).bind fun t686 => (some t686)) else (some 0)))))
end
def impl_OpFault.f (k : Nat) (a0_0 : Int) (a0_1 : Int) (a0_2 : Int) (a0_3 : Int) (a0_4 : Int) (a0_5 : ByteArray) (l0_6 : List (S132)) : Option (Int) := (some (([a0_1, a0_2, a0_3, a0_4] : List Int) : List Int)).bind fun y669 => ((impl_in.f a0_0 1 16).bind fun t672 => (if t672 = true then ((impl_opNums.f k a0_0).bind fun t673 => (if 0 ≤ t673 then (if t673 ≤ (y669.length : Int) then ((slices_ContainsFunc_int64_int64__impl_OpFault_1.f k (y669.drop (t673 : Int).toNat)).bind fun t678 => (if t678 = true then (impl_OpFault.j0 k y669 true a0_0 a0_1 a0_2 a0_3 a0_4 a0_5 l0_6) else (if a0_5.toList = ([] : List UInt8) then (if (l0_6.length : Int) > 0 then ((impl_opData.f a0_0).bind fun t679 => (impl_OpFault.j0 k y669 (!t679) a0_0 a0_1 a0_2 a0_3 a0_4 a0_5 l0_6)) else (impl_OpFault.j0 k y669 false a0_0 a0_1 a0_2 a0_3 a0_4 a0_5 l0_6)) else ((impl_opNamed.f a0_0).bind fun t680 => (if t680 = true then (if (l0_6.length : Int) > 0 then ((impl_opData.f a0_0).bind fun t681 => (impl_OpFault.j0 k y669 (!t681) a0_0 a0_1 a0_2 a0_3 a0_4 a0_5 l0_6)) else (impl_OpFault.j0 k y669 false a0_0 a0_1 a0_2 a0_3 a0_4 a0_5 l0_6)) else (impl_OpFault.j0 k y669 true a0_0 a0_1 a0_2 a0_3 a0_4 a0_5 l0_6)))))) else (none)) else (none))) else (impl_OpFault.j0 k y669 true a0_0 a0_1 a0_2 a0_3 a0_4 a0_5 l0_6)))
theorem impl_OpFault.mono_l : ∀ k, (∀ y0 y1 y2 y3 y4 y5 y6 y7 y8, LeO (impl_OpFault.j0 k y0 y1 y2 y3 y4 y5 y6 y7 y8) (impl_OpFault.j0 (k + 1) y0 y1 y2 y3 y4 y5 y6 y7 y8)) ∧ (∀ y0 y1 y2 y3 y4 y5 y6 y7, LeO (impl_OpFault.j1 k y0 y1 y2 y3 y4 y5 y6 y7) (impl_OpFault.j1 (k + 1) y0 y1 y2 y3 y4 y5 y6 y7))
  | 0 => ⟨fun _ _ _ _ _ _ _ _ _ r h => by simp [impl_OpFault.j0] at h, fun _ _ _ _ _ _ _ _ r h => by simp [impl_OpFault.j1] at h⟩
  | k + 1 => by
    obtain ⟨ih0, ih1⟩ := impl_OpFault.mono_l k
    refine ⟨?_, ?_⟩
    · intro y0 y1 y2 y3 y4 y5 y6 y7 y8
      unfold impl_OpFault.j0
      repeat' first
      | (with_reducible exact ih0 _ _ _ _ _ _ _ _ _)
      | (with_reducible exact ih1 _ _ _ _ _ _ _ _)
      | (with_reducible exact impl_DataFault.mono _ _)
      | (with_reducible exact impl_opNums.mono _ _)
      | (with_reducible exact slices_ContainsFunc_int64_int64__impl_OpFault_1.mono _ _)
      | (with_reducible exact slices_ContainsFunc_int64_int64__impl_OpFault_2.mono _ _)
      | (with_reducible exact LeO.refl _)
      | (with_reducible exact LeO.none _)
      | (with_reducible refine LeO.ite ?_ ?_)
      | (with_reducible refine LeO.bind ?_ (fun _ => ?_))
      | exact ih0 _ _ _ _ _ _ _ _ _
      | exact ih1 _ _ _ _ _ _ _ _
      | exact impl_DataFault.mono _ _
      | exact impl_opNums.mono _ _
      | exact slices_ContainsFunc_int64_int64__impl_OpFault_1.mono _ _
      | exact slices_ContainsFunc_int64_int64__impl_OpFault_2.mono _ _
      | exact LeO.none _
      | refine LeO.ite ?_ ?_
      | refine LeO.bind ?_ (fun _ => ?_)
    · intro y0 y1 y2 y3 y4 y5 y6 y7
      unfold impl_OpFault.j1
      repeat' first
      | (with_reducible exact ih0 _ _ _ _ _ _ _ _ _)
      | (with_reducible exact ih1 _ _ _ _ _ _ _ _)
      | (with_reducible exact impl_DataFault.mono _ _)
      | (with_reducible exact impl_opNums.mono _ _)
      | (with_reducible exact slices_ContainsFunc_int64_int64__impl_OpFault_1.mono _ _)
      | (with_reducible exact slices_ContainsFunc_int64_int64__impl_OpFault_2.mono _ _)
      | (with_reducible exact LeO.refl _)
      | (with_reducible exact LeO.none _)
      | (with_reducible refine LeO.ite ?_ ?_)
      | (with_reducible refine LeO.bind ?_ (fun _ => ?_))
      | exact ih0 _ _ _ _ _ _ _ _ _
      | exact ih1 _ _ _ _ _ _ _ _
      | exact impl_DataFault.mono _ _
      | exact impl_opNums.mono _ _
      | exact slices_ContainsFunc_int64_int64__impl_OpFault_1.mono _ _
      | exact slices_ContainsFunc_int64_int64__impl_OpFault_2.mono _ _
      | exact LeO.none _
      | refine LeO.ite ?_ ?_
      | refine LeO.bind ?_ (fun _ => ?_)
theorem impl_OpFault.mono : ∀ a0 a1 a2 a3 a4 a5 a6 k, LeO (impl_OpFault.f k a0 a1 a2 a3 a4 a5 a6) (impl_OpFault.f (k + 1) a0 a1 a2 a3 a4 a5 a6) := by
  intro a0 a1 a2 a3 a4 a5 a6 k
  obtain ⟨ih0, ih1⟩ := impl_OpFault.mono_l k
  unfold impl_OpFault.f
  repeat' first
      | (with_reducible exact ih0 _ _ _ _ _ _ _ _ _)
      | (with_reducible exact ih1 _ _ _ _ _ _ _ _)
      | (with_reducible exact impl_DataFault.mono _ _)
      | (with_reducible exact impl_opNums.mono _ _)
      | (with_reducible exact slices_ContainsFunc_int64_int64__impl_OpFault_1.mono _ _)
      | (with_reducible exact slices_ContainsFunc_int64_int64__impl_OpFault_2.mono _ _)
      | (with_reducible exact LeO.refl _)
      | (with_reducible exact LeO.none _)
      | (with_reducible refine LeO.ite ?_ ?_)
      | (with_reducible refine LeO.bind ?_ (fun _ => ?_))
      | exact ih0 _ _ _ _ _ _ _ _ _
      | exact ih1 _ _ _ _ _ _ _ _
      | exact impl_DataFault.mono _ _
      | exact impl_opNums.mono _ _
      | exact slices_ContainsFunc_int64_int64__impl_OpFault_1.mono _ _
      | exact slices_ContainsFunc_int64_int64__impl_OpFault_2.mono _ _
      | exact LeO.none _
      | refine LeO.ite ?_ ?_
      | refine LeO.bind ?_ (fun _ => ?_)
set_option maxHeartbeats 8000000 in
set_option maxRecDepth 100000 in
theorem impl_OpFault.calls (k : Nat) (a0_0 : Int) (a0_1 : Int) (a0_2 : Int) (a0_3 : Int) (a0_4 : Int) (a0_5 : ByteArray) (A0_6 : Option Addr) (c0_6 : Nat) (l0_6 : List (S132)) (r : Int) (w : World) (hr0_6 : Kd.C k132 w A0_6 l0_6.length l0_6) (hc0_6 : l0_6.length ≤ c0_6) (h : impl_OpFault.f k a0_0 a0_1 a0_2 a0_3 a0_4 a0_5 l0_6 = some r) :
    Calls Tryd.prog 41 #[.agg #[.int .i64 a0_0, .int .i64 a0_1, .int .i64 a0_2, .int .i64 a0_3, .int .i64 a0_4, .string a0_5, .slice A0_6 l0_6.length c0_6]] w fun e w' => e = .returned (.int .i64 r) ∧ Below w.heap.size w w' := by
  have hu69 := Tryd.underlying69
  have HR0_6 := ak hr0_6
  have HC0_6 := ak hc0_6
  clear hr0_6 hc0_6
  have HB := ak (Below.refl w.heap.size w)
  have H : ((some (([a0_1, a0_2, a0_3, a0_4] : List Int) : List Int)).bind fun y669 => ((impl_in.f a0_0 1 16).bind fun t672 => (if t672 = true then ((impl_opNums.f k a0_0).bind fun t673 => (if 0 ≤ t673 then (if t673 ≤ (y669.length : Int) then ((slices_ContainsFunc_int64_int64__impl_OpFault_1.f k (y669.drop (t673 : Int).toNat)).bind fun t678 => (if t678 = true then (impl_OpFault.j0 k y669 true a0_0 a0_1 a0_2 a0_3 a0_4 a0_5 l0_6) else (if a0_5.toList = ([] : List UInt8) then (if (l0_6.length : Int) > 0 then ((impl_opData.f a0_0).bind fun t679 => (impl_OpFault.j0 k y669 (!t679) a0_0 a0_1 a0_2 a0_3 a0_4 a0_5 l0_6)) else (impl_OpFault.j0 k y669 false a0_0 a0_1 a0_2 a0_3 a0_4 a0_5 l0_6)) else ((impl_opNamed.f a0_0).bind fun t680 => (if t680 = true then (if (l0_6.length : Int) > 0 then ((impl_opData.f a0_0).bind fun t681 => (impl_OpFault.j0 k y669 (!t681) a0_0 a0_1 a0_2 a0_3 a0_4 a0_5 l0_6)) else (impl_OpFault.j0 k y669 false a0_0 a0_1 a0_2 a0_3 a0_4 a0_5 l0_6)) else (impl_OpFault.j0 k y669 true a0_0 a0_1 a0_2 a0_3 a0_4 a0_5 l0_6)))))) else (none)) else (none))) else (impl_OpFault.j0 k y669 true a0_0 a0_1 a0_2 a0_3 a0_4 a0_5 l0_6)))) = some r := h
  clear h
  obtain ⟨y669, hy669⟩ : ∃ y_ : List Int, y_ = (([a0_1, a0_2, a0_3, a0_4] : List Int)) := ⟨_, rfl⟩
  replace H : ((impl_in.f a0_0 1 16).bind fun t672 => (if t672 = true then ((impl_opNums.f k a0_0).bind fun t673 => (if 0 ≤ t673 then (if t673 ≤ (y669.length : Int) then ((slices_ContainsFunc_int64_int64__impl_OpFault_1.f k (y669.drop (t673 : Int).toNat)).bind fun t678 => (if t678 = true then (impl_OpFault.j0 k y669 true a0_0 a0_1 a0_2 a0_3 a0_4 a0_5 l0_6) else (if a0_5.toList = ([] : List UInt8) then (if (l0_6.length : Int) > 0 then ((impl_opData.f a0_0).bind fun t679 => (impl_OpFault.j0 k y669 (!t679) a0_0 a0_1 a0_2 a0_3 a0_4 a0_5 l0_6)) else (impl_OpFault.j0 k y669 false a0_0 a0_1 a0_2 a0_3 a0_4 a0_5 l0_6)) else ((impl_opNamed.f a0_0).bind fun t680 => (if t680 = true then (if (l0_6.length : Int) > 0 then ((impl_opData.f a0_0).bind fun t681 => (impl_OpFault.j0 k y669 (!t681) a0_0 a0_1 a0_2 a0_3 a0_4 a0_5 l0_6)) else (impl_OpFault.j0 k y669 false a0_0 a0_1 a0_2 a0_3 a0_4 a0_5 l0_6)) else (impl_OpFault.j0 k y669 true a0_0 a0_1 a0_2 a0_3 a0_4 a0_5 l0_6)))))) else (none)) else (none))) else (impl_OpFault.j0 k y669 true a0_0 a0_1 a0_2 a0_3 a0_4 a0_5 l0_6))) = some r := by first | (rw [hy669]; with_reducible exact H) | (have H2_ := (Option.bind_some _ _).symm.trans H; rw [hy669]; with_reducible exact H2_) | (have H2_ := (Option.bind_some _ _).symm.trans H; with_reducible exact H2_) | with_reducible exact H | (rw [hy669]; exact H) | exact H
  have Ny669 := ak hy669
  clear hy669
  have HC2 := ak H
  clear H
  go_enter Tryd.func41, Tryd.ntmps41
  go_upto_region 3 with (first | ((with_reducible refine gate_dst (N := 1) rfl ?_); refine box_event ?hg (N := 1) ?hd (cs := #[.int .i64 a0_0, .int .i64 a0_1, .int .i64 a0_2, .int .i64 a0_3, .int .i64 a0_4, .string a0_5, .slice A0_6 l0_6.length c0_6]) (t := 69) ?hr ?_; (case hd => rfl); (case hg => rfl); (case hr => first | (go_simp; done) | (go_simp; rfl)); intro gb668 hg w3 hbox hb; have n0_ := ak (below_step d22_2 hb); have n1_ := ak (hbox); have n2_ := ak ((d22_9 : w.heap.size ≤ gb668)); have n3_ := ak ((d22_9 : w.heap.size ≤ gb668)); clear HB; have HB := n0_; have BK668 := n1_; have GW668 := n2_; have GE668 := n3_; clear n0_ n1_ n2_ n3_ hb hbox hg; have hcz4_0 : w3.cell? ⟨gb668, 0, none⟩ = some (.int .i64 a0_0) := (blk_cell BK668.out 0).trans rfl; have hcz4_1 : w3.cell? ⟨gb668, 1, none⟩ = some (.int .i64 a0_1) := (blk_cell BK668.out 1).trans rfl; have hcz4_2 : w3.cell? ⟨gb668, 2, none⟩ = some (.int .i64 a0_2) := (blk_cell BK668.out 2).trans rfl; have hcz4_3 : w3.cell? ⟨gb668, 3, none⟩ = some (.int .i64 a0_3) := (blk_cell BK668.out 3).trans rfl; have hcz4_4 : w3.cell? ⟨gb668, 4, none⟩ = some (.int .i64 a0_4) := (blk_cell BK668.out 4).trans rfl; have hcz4_5 : w3.cell? ⟨gb668, 5, none⟩ = some (.string a0_5) := (blk_cell BK668.out 5).trans rfl; have hcz4_6 : w3.cell? ⟨gb668, 6, none⟩ = some (.slice A0_6 l0_6.length c0_6) := (blk_cell BK668.out 6).trans rfl; have hfz4_0 := blk_frozen BK668.out 0; have hfz4_1 := blk_frozen BK668.out 1; have hfz4_2 := blk_frozen BK668.out 2; have hfz4_3 := blk_frozen BK668.out 3; have hfz4_4 := blk_frozen BK668.out 4; have hfz4_5 := blk_frozen BK668.out 5; have hfz4_6 := blk_frozen BK668.out 6) | ((with_reducible refine gate_dst (N := 13) rfl ?_); refine Kd.R_lit (Kd.int .i64) _ 2 ?hg (N := 13) ?hd (xs := ([a0_1, a0_2, a0_3, a0_4] : List Int)) (inner := [.int .i64 a0_1, .int .i64 a0_2, .int .i64 a0_3, .int .i64 a0_4]) (ok := fun _ => True) (okp := fun _ => True) ?hr ?hp (fun _ hk => hk) trivial (Below.refl _ _) (Nat.le_refl _) (by simp) ?_; (case hd => rfl); (case hg => rfl); (case hr => first | (go_simp; done) | (go_simp; rfl)); (case hp => exact (Reps.one (show Kd.M (Kd.int .i64) _ _ _ a0_1 [.int .i64 a0_1] from rfl) (Reps.one (show Kd.M (Kd.int .i64) _ _ _ a0_2 [.int .i64 a0_2] from rfl) (Reps.one (show Kd.M (Kd.int .i64) _ _ _ a0_3 [.int .i64 a0_3] from rfl) (Reps.one (show Kd.M (Kd.int .i64) _ _ _ a0_4 [.int .i64 a0_4] from rfl) (Reps.none _ _)))))); intro v670 w5 ho6 hb hg_ hnew_; clear hg_ hnew_; (first | rw [← Ny669.out] at ho6 | (simp only [Int.reduceToNat] at ho6; rw [← Ny669.out] at ho6)); have n0_ := ak (Kd.R_lower ho6 (below_size d22_7)); have n1_ := ak (blk_below (g := gb668) (o := .cells #[.int .i64 a0_0, .int .i64 a0_1, .int .i64 a0_2, .int .i64 a0_3, .int .i64 a0_4, .string a0_5, .slice A0_6 l0_6.length c0_6] 69 (0, 0)) (by (with_reducible repeat (first | refine blk_drewN ?_ _ | refine blk_drew ?_ | refine blk_alloc ?_ _)); exact BK668.out) hb); have n2_ := ak (below_step d22_7 hb); clear BK668 HB; have HO671 := n0_; have BK668 := n1_; have HB := n2_; clear n0_ n1_ n2_ hb ho6))
  (try simp only [Act.put, List.setIfInBounds_toArray, List.set_cons_zero, List.set_cons_succ])
  go_cut [14] (fun v14 wc => ∃ (kq : Nat) (x14_1 : Bool), v14 = .bool x14_1 ∧ Aside0 (impl_OpFault.j0 kq y669 x14_1 a0_0 a0_1 a0_2 a0_3 a0_4 a0_5 l0_6 = some r) ∧ Aside0 (kq ≤ k) ∧ Aside0 (Kd.R (Kd.int .i64) 2 wc w.heap.size (fun _ => True) v670 y669) ∧ Aside0 (wc.heap[gb668]? = some (.cells #[.int .i64 a0_0, .int .i64 a0_1, .int .i64 a0_2, .int .i64 a0_3, .int .i64 a0_4, .string a0_5, (.slice A0_6 l0_6.length c0_6)] 69 (0, 0))) ∧ Aside0 (Below w.heap.size w wc))
  case first =>
   have H := HC2.out
   clear HC2
   replace H := Option.bind_eq_some_iff.mp H
   obtain ⟨t672, A70, H⟩ := H
   replace H : (if t672 = true then ((impl_opNums.f k a0_0).bind fun t673 => (if 0 ≤ t673 then (if t673 ≤ (y669.length : Int) then ((slices_ContainsFunc_int64_int64__impl_OpFault_1.f k (y669.drop (t673 : Int).toNat)).bind fun t678 => (if t678 = true then (impl_OpFault.j0 k y669 true a0_0 a0_1 a0_2 a0_3 a0_4 a0_5 l0_6) else (if a0_5.toList = ([] : List UInt8) then (if (l0_6.length : Int) > 0 then ((impl_opData.f a0_0).bind fun t679 => (impl_OpFault.j0 k y669 (!t679) a0_0 a0_1 a0_2 a0_3 a0_4 a0_5 l0_6)) else (impl_OpFault.j0 k y669 false a0_0 a0_1 a0_2 a0_3 a0_4 a0_5 l0_6)) else ((impl_opNamed.f a0_0).bind fun t680 => (if t680 = true then (if (l0_6.length : Int) > 0 then ((impl_opData.f a0_0).bind fun t681 => (impl_OpFault.j0 k y669 (!t681) a0_0 a0_1 a0_2 a0_3 a0_4 a0_5 l0_6)) else (impl_OpFault.j0 k y669 false a0_0 a0_1 a0_2 a0_3 a0_4 a0_5 l0_6)) else (impl_OpFault.j0 k y669 true a0_0 a0_1 a0_2 a0_3 a0_4 a0_5 l0_6)))))) else (none)) else (none))) else (impl_OpFault.j0 k y669 true a0_0 a0_1 a0_2 a0_3 a0_4 a0_5 l0_6)) = some r := H
   have A7 := ak A70
   clear A70
   by_cases c8 : t672 = true
   ·subst c8
    have H1 : ((impl_opNums.f k a0_0).bind fun t673 => (if 0 ≤ t673 then (if t673 ≤ (y669.length : Int) then ((slices_ContainsFunc_int64_int64__impl_OpFault_1.f k (y669.drop (t673 : Int).toNat)).bind fun t678 => (if t678 = true then (impl_OpFault.j0 k y669 true a0_0 a0_1 a0_2 a0_3 a0_4 a0_5 l0_6) else (if a0_5.toList = ([] : List UInt8) then (if (l0_6.length : Int) > 0 then ((impl_opData.f a0_0).bind fun t679 => (impl_OpFault.j0 k y669 (!t679) a0_0 a0_1 a0_2 a0_3 a0_4 a0_5 l0_6)) else (impl_OpFault.j0 k y669 false a0_0 a0_1 a0_2 a0_3 a0_4 a0_5 l0_6)) else ((impl_opNamed.f a0_0).bind fun t680 => (if t680 = true then (if (l0_6.length : Int) > 0 then ((impl_opData.f a0_0).bind fun t681 => (impl_OpFault.j0 k y669 (!t681) a0_0 a0_1 a0_2 a0_3 a0_4 a0_5 l0_6)) else (impl_OpFault.j0 k y669 false a0_0 a0_1 a0_2 a0_3 a0_4 a0_5 l0_6)) else (impl_OpFault.j0 k y669 true a0_0 a0_1 a0_2 a0_3 a0_4 a0_5 l0_6)))))) else (none)) else (none))) = some r := by rw [if_pos rfl] at H; exact H
    clear H
    have H := H1
    clear H1
    replace H := Option.bind_eq_some_iff.mp H
    obtain ⟨t673, A90, H⟩ := H
    replace H : (if 0 ≤ t673 then (if t673 ≤ (y669.length : Int) then ((slices_ContainsFunc_int64_int64__impl_OpFault_1.f k (y669.drop (t673 : Int).toNat)).bind fun t678 => (if t678 = true then (impl_OpFault.j0 k y669 true a0_0 a0_1 a0_2 a0_3 a0_4 a0_5 l0_6) else (if a0_5.toList = ([] : List UInt8) then (if (l0_6.length : Int) > 0 then ((impl_opData.f a0_0).bind fun t679 => (impl_OpFault.j0 k y669 (!t679) a0_0 a0_1 a0_2 a0_3 a0_4 a0_5 l0_6)) else (impl_OpFault.j0 k y669 false a0_0 a0_1 a0_2 a0_3 a0_4 a0_5 l0_6)) else ((impl_opNamed.f a0_0).bind fun t680 => (if t680 = true then (if (l0_6.length : Int) > 0 then ((impl_opData.f a0_0).bind fun t681 => (impl_OpFault.j0 k y669 (!t681) a0_0 a0_1 a0_2 a0_3 a0_4 a0_5 l0_6)) else (impl_OpFault.j0 k y669 false a0_0 a0_1 a0_2 a0_3 a0_4 a0_5 l0_6)) else (impl_OpFault.j0 k y669 true a0_0 a0_1 a0_2 a0_3 a0_4 a0_5 l0_6)))))) else (none)) else (none)) = some r := H
    have A9 := ak A90
    clear A90
    by_cases c10 : 0 ≤ t673
    ·rw [if_pos c10] at H
     have c10b0 := eq_true c10
     have c10b1 : decide (0 ≤ t673) = true := decide_eq_true c10
     clear c10
     by_cases c11 : t673 ≤ (y669.length : Int)
     ·rw [if_pos c11] at H
      have c11b0 := eq_true c11
      have c11b1 : decide (t673 ≤ (y669.length : Int)) = true := decide_eq_true c11
      clear c11
      obtain ⟨y674, hy674⟩ : ∃ y_ : List Int, y_ = (y669.drop (t673 : Int).toNat) := ⟨_, rfl⟩
      replace H : ((slices_ContainsFunc_int64_int64__impl_OpFault_1.f k y674).bind fun t678 => (if t678 = true then (impl_OpFault.j0 k y669 true a0_0 a0_1 a0_2 a0_3 a0_4 a0_5 l0_6) else (if a0_5.toList = ([] : List UInt8) then (if (l0_6.length : Int) > 0 then ((impl_opData.f a0_0).bind fun t679 => (impl_OpFault.j0 k y669 (!t679) a0_0 a0_1 a0_2 a0_3 a0_4 a0_5 l0_6)) else (impl_OpFault.j0 k y669 false a0_0 a0_1 a0_2 a0_3 a0_4 a0_5 l0_6)) else ((impl_opNamed.f a0_0).bind fun t680 => (if t680 = true then (if (l0_6.length : Int) > 0 then ((impl_opData.f a0_0).bind fun t681 => (impl_OpFault.j0 k y669 (!t681) a0_0 a0_1 a0_2 a0_3 a0_4 a0_5 l0_6)) else (impl_OpFault.j0 k y669 false a0_0 a0_1 a0_2 a0_3 a0_4 a0_5 l0_6)) else (impl_OpFault.j0 k y669 true a0_0 a0_1 a0_2 a0_3 a0_4 a0_5 l0_6)))))) = some r := by first | (rw [hy674]; with_reducible exact H) | (have H2_ := (Option.bind_some _ _).symm.trans H; rw [hy674]; with_reducible exact H2_) | (have H2_ := (Option.bind_some _ _).symm.trans H; with_reducible exact H2_) | with_reducible exact H | (rw [hy674]; exact H) | exact H
      have Ny674 := ak hy674
      clear hy674
      replace H := Option.bind_eq_some_iff.mp H
      obtain ⟨t678, A120, H⟩ := H
      replace H : (if t678 = true then (impl_OpFault.j0 k y669 true a0_0 a0_1 a0_2 a0_3 a0_4 a0_5 l0_6) else (if a0_5.toList = ([] : List UInt8) then (if (l0_6.length : Int) > 0 then ((impl_opData.f a0_0).bind fun t679 => (impl_OpFault.j0 k y669 (!t679) a0_0 a0_1 a0_2 a0_3 a0_4 a0_5 l0_6)) else (impl_OpFault.j0 k y669 false a0_0 a0_1 a0_2 a0_3 a0_4 a0_5 l0_6)) else ((impl_opNamed.f a0_0).bind fun t680 => (if t680 = true then (if (l0_6.length : Int) > 0 then ((impl_opData.f a0_0).bind fun t681 => (impl_OpFault.j0 k y669 (!t681) a0_0 a0_1 a0_2 a0_3 a0_4 a0_5 l0_6)) else (impl_OpFault.j0 k y669 false a0_0 a0_1 a0_2 a0_3 a0_4 a0_5 l0_6)) else (impl_OpFault.j0 k y669 true a0_0 a0_1 a0_2 a0_3 a0_4 a0_5 l0_6))))) = some r := H
      have A12 := ak A120
      clear A120
      by_cases c13 : t678 = true
      ·subst c13
       have H1 : (impl_OpFault.j0 k y669 true a0_0 a0_1 a0_2 a0_3 a0_4 a0_5 l0_6) = some r := by rw [if_pos rfl] at H; exact H
       clear H
       have H := H1
       clear H1
       have H' := ak H
       clear H
       have hcz14_0 : w5.cell? ⟨gb668, 0, none⟩ = some (.int .i64 a0_0) := (blk_cell BK668.out 0).trans rfl
       have hcz14_1 : w5.cell? ⟨gb668, 1, none⟩ = some (.int .i64 a0_1) := (blk_cell BK668.out 1).trans rfl
       have hcz14_2 : w5.cell? ⟨gb668, 2, none⟩ = some (.int .i64 a0_2) := (blk_cell BK668.out 2).trans rfl
       have hcz14_3 : w5.cell? ⟨gb668, 3, none⟩ = some (.int .i64 a0_3) := (blk_cell BK668.out 3).trans rfl
       have hcz14_4 : w5.cell? ⟨gb668, 4, none⟩ = some (.int .i64 a0_4) := (blk_cell BK668.out 4).trans rfl
       have hcz14_5 : w5.cell? ⟨gb668, 5, none⟩ = some (.string a0_5) := (blk_cell BK668.out 5).trans rfl
       have hcz14_6 : w5.cell? ⟨gb668, 6, none⟩ = some (.slice A0_6 l0_6.length c0_6) := (blk_cell BK668.out 6).trans rfl
       have hfz14_0 := blk_frozen BK668.out 0
       have hfz14_1 := blk_frozen BK668.out 1
       have hfz14_2 := blk_frozen BK668.out 2
       have hfz14_3 := blk_frozen BK668.out 3
       have hfz14_4 := blk_frozen BK668.out 4
       have hfz14_5 := blk_frozen BK668.out 5
       have hfz14_6 := blk_frozen BK668.out 6
       go_wp2_with (first | ((with_reducible refine gate_callee (f := 51) rfl ?_); refine goesL_ (some 17) rfl rfl Tryd.func51 (by kernel_rfl) rfl #[.int .i64 a0_0, .int .i64 1, .int .i64 16] rfl d22_3 ?_; (with_reducible refine (impl_in.calls a0_0 1 16 true _ A7.out).mono ?_); rintro e w' ⟨rfl, ⟨nd, rfl⟩⟩; refine ⟨_, rfl, ?_⟩) | (go_at_call 71; (with_reducible refine (impl_opNums.calls k a0_0 t673 _ A9.out).mono ?_); rintro e w' ⟨rfl, ⟨nd, rfl⟩⟩; obtain ⟨Ao16, co16, eo16⟩ := Kd.R_slice HO671.out; subst eo16; have q15 : (t673 : Int) ≤ ((y669.length : Int) : Int) := of_decide_eq_true d22_8; obtain ⟨i015, hi015, _, hsz15, _⟩ := info_parts info2; have hroom15 : y669.length ≤ co16 := (Kd.R_reads' HO671.out).2.1; have hC15 : Kd.C (Kd.int .i64) _ Ao16 y669.length y669 := (Kd.R_reads' HO671.out).2.2; have q015 : (0 : Int) ≤ (t673 : Int) := of_decide_eq_true d22_8; have hcut15 := cut_from (P := Tryd.prog) 108 2 .i64 Tryd.underlying108 hi015 1 hsz15 Ao16 y669.length co16 t673 q015 q15; have hr15 := Kd.C_drop (m := (t673 : Int).toNat) (c := co16) hC15 (by omega) hroom15; obtain ⟨A15, hA15⟩ : ∃ A1, A1 = (if co16 = (t673 : Int).toNat then Ao16 else (Ao16 : Option Addr).map (·.add ((t673 : Int).toNat * 1))) := ⟨_, rfl⟩; obtain ⟨c15, hc15⟩ : ∃ c1, c1 = co16 - (t673 : Int).toNat := ⟨_, rfl⟩; have hy15 : y674.length = y669.length - (t673 : Int).toNat := (by rw [Ny674.out, List.length_drop] <;> omega); rw [show (y669).drop (t673 : Int).toNat = y674 from Ny674.out.symm] at hr15; replace hr15 : Kd.C (Kd.int .i64) _ A15 y674.length y674 := (by rw [hA15]; exact hr15); rw [← hy15, ← hA15, ← hc15] at hcut15; have HR677 := ak hr15; have HC677 := ak (show y674.length ≤ c15 from by rw [hy15, hc15]; exact Nat.sub_le_sub_right hroom15 _); clear hr15 hC15 hroom15 hi015 hsz15 hc15; have KY15 := ak hy15; have KA15 := ak hA15; clear hy15 hA15; have KL15 := ak (show (t673 : Int).toNat ≤ y669.length from by omega); replace q15 := eq_true q15) | (go_at_call 70; (with_reducible refine (slices_ContainsFunc_int64_int64__impl_OpFault_1.calls k _ _ y674  true _ ?side1 ?side2 A12.out).mono ?_); (case side1 => repeat (first | exact d22_5 | (with_reducible refine Kd.C_alloc ?_ _) | (with_reducible refine Kd.C_drewN ?_ _) | (with_reducible refine Kd.C_drew ?_))); (case side2 => exact HC677.out); rintro e w' ⟨rfl, ⟨nd, rfl⟩⟩))
       go_meet
       case rel => exact ⟨_, (true), d22_6, H', ⟨by first | omega | exact Nat.le_refl _⟩, ⟨by (with_reducible repeat (first | apply Kd.R_alloc | apply Kd.R_drewN | apply Kd.R_drew)); exact HO671.out⟩, ⟨by (with_reducible repeat (first | refine blk_drewN ?_ _ | refine blk_drew ?_ | refine blk_alloc ?_ _)); exact BK668.out⟩, ⟨by repeat (first | (with_reducible first | exact HB.out | apply below_alloc | apply pw_below_drewN | apply below_drew1 | refine below_set ?_ GE668.out) | exact HB.out)⟩⟩
      ·replace c13 := Bool.eq_false_iff.mpr c13
       subst c13
       have H1 : (if a0_5.toList = ([] : List UInt8) then (if (l0_6.length : Int) > 0 then ((impl_opData.f a0_0).bind fun t679 => (impl_OpFault.j0 k y669 (!t679) a0_0 a0_1 a0_2 a0_3 a0_4 a0_5 l0_6)) else (impl_OpFault.j0 k y669 false a0_0 a0_1 a0_2 a0_3 a0_4 a0_5 l0_6)) else ((impl_opNamed.f a0_0).bind fun t680 => (if t680 = true then (if (l0_6.length : Int) > 0 then ((impl_opData.f a0_0).bind fun t681 => (impl_OpFault.j0 k y669 (!t681) a0_0 a0_1 a0_2 a0_3 a0_4 a0_5 l0_6)) else (impl_OpFault.j0 k y669 false a0_0 a0_1 a0_2 a0_3 a0_4 a0_5 l0_6)) else (impl_OpFault.j0 k y669 true a0_0 a0_1 a0_2 a0_3 a0_4 a0_5 l0_6)))) = some r := by rw [if_neg (show ¬ (false = true) by decide)] at H; exact H
       clear H
       have H := H1
       clear H1
       by_cases c17 : a0_5.toList = ([] : List UInt8)
       ·rw [if_pos c17] at H
        have c17b0 : (a0_5.toList == ([] : List UInt8)) = true := beq_iff_eq.mpr c17
        have c17b1 : (a0_5.toList != ([] : List UInt8)) = false := bne_eq_false_iff_eq.mpr c17
        clear c17
        (first | rw [c17b0] | (simp only [i64_w, i32_w]; rw [c17b0]) | skip)
        by_cases c18 : (l0_6.length : Int) > 0
        ·rw [if_pos c18] at H
         have c18b0 : decide (0 < (l0_6.length : Int)) = true := decide_eq_true c18
         have c18b1 : decide (0 < l0_6.length) = true := decide_eq_true (by omega)
         clear c18
         replace H := Option.bind_eq_some_iff.mp H
         obtain ⟨t679, A190, H⟩ := H
         replace H : (impl_OpFault.j0 k y669 (!t679) a0_0 a0_1 a0_2 a0_3 a0_4 a0_5 l0_6) = some r := H
         have A19 := ak A190
         clear A190
         have H' := ak H
         clear H
         have hcz20_0 : w5.cell? ⟨gb668, 0, none⟩ = some (.int .i64 a0_0) := (blk_cell BK668.out 0).trans rfl
         have hcz20_1 : w5.cell? ⟨gb668, 1, none⟩ = some (.int .i64 a0_1) := (blk_cell BK668.out 1).trans rfl
         have hcz20_2 : w5.cell? ⟨gb668, 2, none⟩ = some (.int .i64 a0_2) := (blk_cell BK668.out 2).trans rfl
         have hcz20_3 : w5.cell? ⟨gb668, 3, none⟩ = some (.int .i64 a0_3) := (blk_cell BK668.out 3).trans rfl
         have hcz20_4 : w5.cell? ⟨gb668, 4, none⟩ = some (.int .i64 a0_4) := (blk_cell BK668.out 4).trans rfl
         have hcz20_5 : w5.cell? ⟨gb668, 5, none⟩ = some (.string a0_5) := (blk_cell BK668.out 5).trans rfl
         have hcz20_6 : w5.cell? ⟨gb668, 6, none⟩ = some (.slice A0_6 l0_6.length c0_6) := (blk_cell BK668.out 6).trans rfl
         have hfz20_0 := blk_frozen BK668.out 0
         have hfz20_1 := blk_frozen BK668.out 1
         have hfz20_2 := blk_frozen BK668.out 2
         have hfz20_3 := blk_frozen BK668.out 3
         have hfz20_4 := blk_frozen BK668.out 4
         have hfz20_5 := blk_frozen BK668.out 5
         have hfz20_6 := blk_frozen BK668.out 6
         go_wp2_with (first | ((with_reducible refine gate_callee (f := 51) rfl ?_); refine goesL_ (some 17) rfl rfl Tryd.func51 (by kernel_rfl) rfl #[.int .i64 a0_0, .int .i64 1, .int .i64 16] rfl d22_3 ?_; (with_reducible refine (impl_in.calls a0_0 1 16 true _ A7.out).mono ?_); rintro e w' ⟨rfl, ⟨nd, rfl⟩⟩; refine ⟨_, rfl, ?_⟩) | (go_at_call 71; (with_reducible refine (impl_opNums.calls k a0_0 t673 _ A9.out).mono ?_); rintro e w' ⟨rfl, ⟨nd, rfl⟩⟩; obtain ⟨Ao22, co22, eo22⟩ := Kd.R_slice HO671.out; subst eo22; have q21 : (t673 : Int) ≤ ((y669.length : Int) : Int) := of_decide_eq_true d22_8; obtain ⟨i021, hi021, _, hsz21, _⟩ := info_parts info2; have hroom21 : y669.length ≤ co22 := (Kd.R_reads' HO671.out).2.1; have hC21 : Kd.C (Kd.int .i64) _ Ao22 y669.length y669 := (Kd.R_reads' HO671.out).2.2; have q021 : (0 : Int) ≤ (t673 : Int) := of_decide_eq_true d22_8; have hcut21 := cut_from (P := Tryd.prog) 108 2 .i64 Tryd.underlying108 hi021 1 hsz21 Ao22 y669.length co22 t673 q021 q21; have hr21 := Kd.C_drop (m := (t673 : Int).toNat) (c := co22) hC21 (by omega) hroom21; obtain ⟨A21, hA21⟩ : ∃ A1, A1 = (if co22 = (t673 : Int).toNat then Ao22 else (Ao22 : Option Addr).map (·.add ((t673 : Int).toNat * 1))) := ⟨_, rfl⟩; obtain ⟨c21, hc21⟩ : ∃ c1, c1 = co22 - (t673 : Int).toNat := ⟨_, rfl⟩; have hy21 : y674.length = y669.length - (t673 : Int).toNat := (by rw [Ny674.out, List.length_drop] <;> omega); rw [show (y669).drop (t673 : Int).toNat = y674 from Ny674.out.symm] at hr21; replace hr21 : Kd.C (Kd.int .i64) _ A21 y674.length y674 := (by rw [hA21]; exact hr21); rw [← hy21, ← hA21, ← hc21] at hcut21; have HR677 := ak hr21; have HC677 := ak (show y674.length ≤ c21 from by rw [hy21, hc21]; exact Nat.sub_le_sub_right hroom21 _); clear hr21 hC21 hroom21 hi021 hsz21 hc21; have KY21 := ak hy21; have KA21 := ak hA21; clear hy21 hA21; have KL21 := ak (show (t673 : Int).toNat ≤ y669.length from by omega); replace q21 := eq_true q21) | (go_at_call 70; (with_reducible refine (slices_ContainsFunc_int64_int64__impl_OpFault_1.calls k _ _ y674  false _ ?side1 ?side2 A12.out).mono ?_); (case side1 => repeat (first | exact d22_5 | (with_reducible refine Kd.C_alloc ?_ _) | (with_reducible refine Kd.C_drewN ?_ _) | (with_reducible refine Kd.C_drew ?_))); (case side2 => exact HC677.out); rintro e w' ⟨rfl, ⟨nd, rfl⟩⟩) | (go_at_call 73; (with_reducible refine (impl_opData.calls a0_0 t679 _ A19.out).mono ?_); rintro e w' ⟨rfl, ⟨nd, rfl⟩⟩))
         go_meet
         case rel => exact ⟨_, (!t679), d22_6, H', ⟨by first | omega | exact Nat.le_refl _⟩, ⟨by (with_reducible repeat (first | apply Kd.R_alloc | apply Kd.R_drewN | apply Kd.R_drew)); exact HO671.out⟩, ⟨by (with_reducible repeat (first | refine blk_drewN ?_ _ | refine blk_drew ?_ | refine blk_alloc ?_ _)); exact BK668.out⟩, ⟨by repeat (first | (with_reducible first | exact HB.out | apply below_alloc | apply pw_below_drewN | apply below_drew1 | refine below_set ?_ GE668.out) | exact HB.out)⟩⟩
        ·rw [if_neg c18] at H
         have c18b0 : decide (0 < (l0_6.length : Int)) = false := decide_eq_false c18
         have c18b1 : decide (0 < l0_6.length) = false := decide_eq_false (by omega)
         clear c18
         have H' := ak H
         clear H
         have hcz23_0 : w5.cell? ⟨gb668, 0, none⟩ = some (.int .i64 a0_0) := (blk_cell BK668.out 0).trans rfl
         have hcz23_1 : w5.cell? ⟨gb668, 1, none⟩ = some (.int .i64 a0_1) := (blk_cell BK668.out 1).trans rfl
         have hcz23_2 : w5.cell? ⟨gb668, 2, none⟩ = some (.int .i64 a0_2) := (blk_cell BK668.out 2).trans rfl
         have hcz23_3 : w5.cell? ⟨gb668, 3, none⟩ = some (.int .i64 a0_3) := (blk_cell BK668.out 3).trans rfl
         have hcz23_4 : w5.cell? ⟨gb668, 4, none⟩ = some (.int .i64 a0_4) := (blk_cell BK668.out 4).trans rfl
         have hcz23_5 : w5.cell? ⟨gb668, 5, none⟩ = some (.string a0_5) := (blk_cell BK668.out 5).trans rfl
         have hcz23_6 : w5.cell? ⟨gb668, 6, none⟩ = some (.slice A0_6 l0_6.length c0_6) := (blk_cell BK668.out 6).trans rfl
         have hfz23_0 := blk_frozen BK668.out 0
         have hfz23_1 := blk_frozen BK668.out 1
         have hfz23_2 := blk_frozen BK668.out 2
         have hfz23_3 := blk_frozen BK668.out 3
         have hfz23_4 := blk_frozen BK668.out 4
         have hfz23_5 := blk_frozen BK668.out 5
         have hfz23_6 := blk_frozen BK668.out 6
         go_wp2_with (first | ((with_reducible refine gate_callee (f := 51) rfl ?_); refine goesL_ (some 17) rfl rfl Tryd.func51 (by kernel_rfl) rfl #[.int .i64 a0_0, .int .i64 1, .int .i64 16] rfl d22_3 ?_; (with_reducible refine (impl_in.calls a0_0 1 16 true _ A7.out).mono ?_); rintro e w' ⟨rfl, ⟨nd, rfl⟩⟩; refine ⟨_, rfl, ?_⟩) | (go_at_call 71; (with_reducible refine (impl_opNums.calls k a0_0 t673 _ A9.out).mono ?_); rintro e w' ⟨rfl, ⟨nd, rfl⟩⟩; obtain ⟨Ao25, co25, eo25⟩ := Kd.R_slice HO671.out; subst eo25; have q24 : (t673 : Int) ≤ ((y669.length : Int) : Int) := of_decide_eq_true d22_8; obtain ⟨i024, hi024, _, hsz24, _⟩ := info_parts info2; have hroom24 : y669.length ≤ co25 := (Kd.R_reads' HO671.out).2.1; have hC24 : Kd.C (Kd.int .i64) _ Ao25 y669.length y669 := (Kd.R_reads' HO671.out).2.2; have q024 : (0 : Int) ≤ (t673 : Int) := of_decide_eq_true d22_8; have hcut24 := cut_from (P := Tryd.prog) 108 2 .i64 Tryd.underlying108 hi024 1 hsz24 Ao25 y669.length co25 t673 q024 q24; have hr24 := Kd.C_drop (m := (t673 : Int).toNat) (c := co25) hC24 (by omega) hroom24; obtain ⟨A24, hA24⟩ : ∃ A1, A1 = (if co25 = (t673 : Int).toNat then Ao25 else (Ao25 : Option Addr).map (·.add ((t673 : Int).toNat * 1))) := ⟨_, rfl⟩; obtain ⟨c24, hc24⟩ : ∃ c1, c1 = co25 - (t673 : Int).toNat := ⟨_, rfl⟩; have hy24 : y674.length = y669.length - (t673 : Int).toNat := (by rw [Ny674.out, List.length_drop] <;> omega); rw [show (y669).drop (t673 : Int).toNat = y674 from Ny674.out.symm] at hr24; replace hr24 : Kd.C (Kd.int .i64) _ A24 y674.length y674 := (by rw [hA24]; exact hr24); rw [← hy24, ← hA24, ← hc24] at hcut24; have HR677 := ak hr24; have HC677 := ak (show y674.length ≤ c24 from by rw [hy24, hc24]; exact Nat.sub_le_sub_right hroom24 _); clear hr24 hC24 hroom24 hi024 hsz24 hc24; have KY24 := ak hy24; have KA24 := ak hA24; clear hy24 hA24; have KL24 := ak (show (t673 : Int).toNat ≤ y669.length from by omega); replace q24 := eq_true q24) | (go_at_call 70; (with_reducible refine (slices_ContainsFunc_int64_int64__impl_OpFault_1.calls k _ _ y674  false _ ?side1 ?side2 A12.out).mono ?_); (case side1 => repeat (first | exact d22_5 | (with_reducible refine Kd.C_alloc ?_ _) | (with_reducible refine Kd.C_drewN ?_ _) | (with_reducible refine Kd.C_drew ?_))); (case side2 => exact HC677.out); rintro e w' ⟨rfl, ⟨nd, rfl⟩⟩))
         go_meet
         case rel => exact ⟨_, (false), d22_6, H', ⟨by first | omega | exact Nat.le_refl _⟩, ⟨by (with_reducible repeat (first | apply Kd.R_alloc | apply Kd.R_drewN | apply Kd.R_drew)); exact HO671.out⟩, ⟨by (with_reducible repeat (first | refine blk_drewN ?_ _ | refine blk_drew ?_ | refine blk_alloc ?_ _)); exact BK668.out⟩, ⟨by repeat (first | (with_reducible first | exact HB.out | apply below_alloc | apply pw_below_drewN | apply below_drew1 | refine below_set ?_ GE668.out) | exact HB.out)⟩⟩
       ·rw [if_neg c17] at H
        have c17b0 : (a0_5.toList == ([] : List UInt8)) = false := beq_eq_false_iff_ne.mpr c17
        have c17b1 : (a0_5.toList != ([] : List UInt8)) = true := bne_iff_ne.mpr c17
        (first | rw [c17b0] | (simp only [i64_w, i32_w]; rw [c17b0]) | skip)
        replace H := Option.bind_eq_some_iff.mp H
        obtain ⟨t680, A260, H⟩ := H
        replace H : (if t680 = true then (if (l0_6.length : Int) > 0 then ((impl_opData.f a0_0).bind fun t681 => (impl_OpFault.j0 k y669 (!t681) a0_0 a0_1 a0_2 a0_3 a0_4 a0_5 l0_6)) else (impl_OpFault.j0 k y669 false a0_0 a0_1 a0_2 a0_3 a0_4 a0_5 l0_6)) else (impl_OpFault.j0 k y669 true a0_0 a0_1 a0_2 a0_3 a0_4 a0_5 l0_6)) = some r := H
        have A26 := ak A260
        clear A260
        by_cases c27 : t680 = true
        ·subst c27
         have H1 : (if (l0_6.length : Int) > 0 then ((impl_opData.f a0_0).bind fun t681 => (impl_OpFault.j0 k y669 (!t681) a0_0 a0_1 a0_2 a0_3 a0_4 a0_5 l0_6)) else (impl_OpFault.j0 k y669 false a0_0 a0_1 a0_2 a0_3 a0_4 a0_5 l0_6)) = some r := by rw [if_pos rfl] at H; exact H
         clear H
         have H := H1
         clear H1
         by_cases c28 : (l0_6.length : Int) > 0
         ·rw [if_pos c28] at H
          have c28b0 : decide (0 < (l0_6.length : Int)) = true := decide_eq_true c28
          have c28b1 : decide (0 < l0_6.length) = true := decide_eq_true (by omega)
          clear c28
          replace H := Option.bind_eq_some_iff.mp H
          obtain ⟨t681, A290, H⟩ := H
          replace H : (impl_OpFault.j0 k y669 (!t681) a0_0 a0_1 a0_2 a0_3 a0_4 a0_5 l0_6) = some r := H
          have A29 := ak A290
          clear A290
          have H' := ak H
          clear H
          have hcz30_0 : w5.cell? ⟨gb668, 0, none⟩ = some (.int .i64 a0_0) := (blk_cell BK668.out 0).trans rfl
          have hcz30_1 : w5.cell? ⟨gb668, 1, none⟩ = some (.int .i64 a0_1) := (blk_cell BK668.out 1).trans rfl
          have hcz30_2 : w5.cell? ⟨gb668, 2, none⟩ = some (.int .i64 a0_2) := (blk_cell BK668.out 2).trans rfl
          have hcz30_3 : w5.cell? ⟨gb668, 3, none⟩ = some (.int .i64 a0_3) := (blk_cell BK668.out 3).trans rfl
          have hcz30_4 : w5.cell? ⟨gb668, 4, none⟩ = some (.int .i64 a0_4) := (blk_cell BK668.out 4).trans rfl
          have hcz30_5 : w5.cell? ⟨gb668, 5, none⟩ = some (.string a0_5) := (blk_cell BK668.out 5).trans rfl
          have hcz30_6 : w5.cell? ⟨gb668, 6, none⟩ = some (.slice A0_6 l0_6.length c0_6) := (blk_cell BK668.out 6).trans rfl
          have hfz30_0 := blk_frozen BK668.out 0
          have hfz30_1 := blk_frozen BK668.out 1
          have hfz30_2 := blk_frozen BK668.out 2
          have hfz30_3 := blk_frozen BK668.out 3
          have hfz30_4 := blk_frozen BK668.out 4
          have hfz30_5 := blk_frozen BK668.out 5
          have hfz30_6 := blk_frozen BK668.out 6
          go_wp2_with (first | ((with_reducible refine gate_callee (f := 51) rfl ?_); refine goesL_ (some 17) rfl rfl Tryd.func51 (by kernel_rfl) rfl #[.int .i64 a0_0, .int .i64 1, .int .i64 16] rfl d22_3 ?_; (with_reducible refine (impl_in.calls a0_0 1 16 true _ A7.out).mono ?_); rintro e w' ⟨rfl, ⟨nd, rfl⟩⟩; refine ⟨_, rfl, ?_⟩) | (go_at_call 71; (with_reducible refine (impl_opNums.calls k a0_0 t673 _ A9.out).mono ?_); rintro e w' ⟨rfl, ⟨nd, rfl⟩⟩; obtain ⟨Ao32, co32, eo32⟩ := Kd.R_slice HO671.out; subst eo32; have q31 : (t673 : Int) ≤ ((y669.length : Int) : Int) := of_decide_eq_true d22_8; obtain ⟨i031, hi031, _, hsz31, _⟩ := info_parts info2; have hroom31 : y669.length ≤ co32 := (Kd.R_reads' HO671.out).2.1; have hC31 : Kd.C (Kd.int .i64) _ Ao32 y669.length y669 := (Kd.R_reads' HO671.out).2.2; have q031 : (0 : Int) ≤ (t673 : Int) := of_decide_eq_true d22_8; have hcut31 := cut_from (P := Tryd.prog) 108 2 .i64 Tryd.underlying108 hi031 1 hsz31 Ao32 y669.length co32 t673 q031 q31; have hr31 := Kd.C_drop (m := (t673 : Int).toNat) (c := co32) hC31 (by omega) hroom31; obtain ⟨A31, hA31⟩ : ∃ A1, A1 = (if co32 = (t673 : Int).toNat then Ao32 else (Ao32 : Option Addr).map (·.add ((t673 : Int).toNat * 1))) := ⟨_, rfl⟩; obtain ⟨c31, hc31⟩ : ∃ c1, c1 = co32 - (t673 : Int).toNat := ⟨_, rfl⟩; have hy31 : y674.length = y669.length - (t673 : Int).toNat := (by rw [Ny674.out, List.length_drop] <;> omega); rw [show (y669).drop (t673 : Int).toNat = y674 from Ny674.out.symm] at hr31; replace hr31 : Kd.C (Kd.int .i64) _ A31 y674.length y674 := (by rw [hA31]; exact hr31); rw [← hy31, ← hA31, ← hc31] at hcut31; have HR677 := ak hr31; have HC677 := ak (show y674.length ≤ c31 from by rw [hy31, hc31]; exact Nat.sub_le_sub_right hroom31 _); clear hr31 hC31 hroom31 hi031 hsz31 hc31; have KY31 := ak hy31; have KA31 := ak hA31; clear hy31 hA31; have KL31 := ak (show (t673 : Int).toNat ≤ y669.length from by omega); replace q31 := eq_true q31) | (go_at_call 70; (with_reducible refine (slices_ContainsFunc_int64_int64__impl_OpFault_1.calls k _ _ y674  false _ ?side1 ?side2 A12.out).mono ?_); (case side1 => repeat (first | exact d22_5 | (with_reducible refine Kd.C_alloc ?_ _) | (with_reducible refine Kd.C_drewN ?_ _) | (with_reducible refine Kd.C_drew ?_))); (case side2 => exact HC677.out); rintro e w' ⟨rfl, ⟨nd, rfl⟩⟩) | (go_at_call 72; (with_reducible refine (impl_opNamed.calls a0_0 true _ A26.out).mono ?_); rintro e w' ⟨rfl, ⟨nd, rfl⟩⟩) | (go_at_call 73; (with_reducible refine (impl_opData.calls a0_0 t681 _ A29.out).mono ?_); rintro e w' ⟨rfl, ⟨nd, rfl⟩⟩))
          go_meet
          case rel => exact ⟨_, (!t681), d22_6, H', ⟨by first | omega | exact Nat.le_refl _⟩, ⟨by (with_reducible repeat (first | apply Kd.R_alloc | apply Kd.R_drewN | apply Kd.R_drew)); exact HO671.out⟩, ⟨by (with_reducible repeat (first | refine blk_drewN ?_ _ | refine blk_drew ?_ | refine blk_alloc ?_ _)); exact BK668.out⟩, ⟨by repeat (first | (with_reducible first | exact HB.out | apply below_alloc | apply pw_below_drewN | apply below_drew1 | refine below_set ?_ GE668.out) | exact HB.out)⟩⟩
         ·rw [if_neg c28] at H
          have c28b0 : decide (0 < (l0_6.length : Int)) = false := decide_eq_false c28
          have c28b1 : decide (0 < l0_6.length) = false := decide_eq_false (by omega)
          clear c28
          have H' := ak H
          clear H
          have hcz33_0 : w5.cell? ⟨gb668, 0, none⟩ = some (.int .i64 a0_0) := (blk_cell BK668.out 0).trans rfl
          have hcz33_1 : w5.cell? ⟨gb668, 1, none⟩ = some (.int .i64 a0_1) := (blk_cell BK668.out 1).trans rfl
          have hcz33_2 : w5.cell? ⟨gb668, 2, none⟩ = some (.int .i64 a0_2) := (blk_cell BK668.out 2).trans rfl
          have hcz33_3 : w5.cell? ⟨gb668, 3, none⟩ = some (.int .i64 a0_3) := (blk_cell BK668.out 3).trans rfl
          have hcz33_4 : w5.cell? ⟨gb668, 4, none⟩ = some (.int .i64 a0_4) := (blk_cell BK668.out 4).trans rfl
          have hcz33_5 : w5.cell? ⟨gb668, 5, none⟩ = some (.string a0_5) := (blk_cell BK668.out 5).trans rfl
          have hcz33_6 : w5.cell? ⟨gb668, 6, none⟩ = some (.slice A0_6 l0_6.length c0_6) := (blk_cell BK668.out 6).trans rfl
          have hfz33_0 := blk_frozen BK668.out 0
          have hfz33_1 := blk_frozen BK668.out 1
          have hfz33_2 := blk_frozen BK668.out 2
          have hfz33_3 := blk_frozen BK668.out 3
          have hfz33_4 := blk_frozen BK668.out 4
          have hfz33_5 := blk_frozen BK668.out 5
          have hfz33_6 := blk_frozen BK668.out 6
          go_wp2_with (first | ((with_reducible refine gate_callee (f := 51) rfl ?_); refine goesL_ (some 17) rfl rfl Tryd.func51 (by kernel_rfl) rfl #[.int .i64 a0_0, .int .i64 1, .int .i64 16] rfl d22_3 ?_; (with_reducible refine (impl_in.calls a0_0 1 16 true _ A7.out).mono ?_); rintro e w' ⟨rfl, ⟨nd, rfl⟩⟩; refine ⟨_, rfl, ?_⟩) | (go_at_call 71; (with_reducible refine (impl_opNums.calls k a0_0 t673 _ A9.out).mono ?_); rintro e w' ⟨rfl, ⟨nd, rfl⟩⟩; obtain ⟨Ao35, co35, eo35⟩ := Kd.R_slice HO671.out; subst eo35; have q34 : (t673 : Int) ≤ ((y669.length : Int) : Int) := of_decide_eq_true d22_8; obtain ⟨i034, hi034, _, hsz34, _⟩ := info_parts info2; have hroom34 : y669.length ≤ co35 := (Kd.R_reads' HO671.out).2.1; have hC34 : Kd.C (Kd.int .i64) _ Ao35 y669.length y669 := (Kd.R_reads' HO671.out).2.2; have q034 : (0 : Int) ≤ (t673 : Int) := of_decide_eq_true d22_8; have hcut34 := cut_from (P := Tryd.prog) 108 2 .i64 Tryd.underlying108 hi034 1 hsz34 Ao35 y669.length co35 t673 q034 q34; have hr34 := Kd.C_drop (m := (t673 : Int).toNat) (c := co35) hC34 (by omega) hroom34; obtain ⟨A34, hA34⟩ : ∃ A1, A1 = (if co35 = (t673 : Int).toNat then Ao35 else (Ao35 : Option Addr).map (·.add ((t673 : Int).toNat * 1))) := ⟨_, rfl⟩; obtain ⟨c34, hc34⟩ : ∃ c1, c1 = co35 - (t673 : Int).toNat := ⟨_, rfl⟩; have hy34 : y674.length = y669.length - (t673 : Int).toNat := (by rw [Ny674.out, List.length_drop] <;> omega); rw [show (y669).drop (t673 : Int).toNat = y674 from Ny674.out.symm] at hr34; replace hr34 : Kd.C (Kd.int .i64) _ A34 y674.length y674 := (by rw [hA34]; exact hr34); rw [← hy34, ← hA34, ← hc34] at hcut34; have HR677 := ak hr34; have HC677 := ak (show y674.length ≤ c34 from by rw [hy34, hc34]; exact Nat.sub_le_sub_right hroom34 _); clear hr34 hC34 hroom34 hi034 hsz34 hc34; have KY34 := ak hy34; have KA34 := ak hA34; clear hy34 hA34; have KL34 := ak (show (t673 : Int).toNat ≤ y669.length from by omega); replace q34 := eq_true q34) | (go_at_call 70; (with_reducible refine (slices_ContainsFunc_int64_int64__impl_OpFault_1.calls k _ _ y674  false _ ?side1 ?side2 A12.out).mono ?_); (case side1 => repeat (first | exact d22_5 | (with_reducible refine Kd.C_alloc ?_ _) | (with_reducible refine Kd.C_drewN ?_ _) | (with_reducible refine Kd.C_drew ?_))); (case side2 => exact HC677.out); rintro e w' ⟨rfl, ⟨nd, rfl⟩⟩) | (go_at_call 72; (with_reducible refine (impl_opNamed.calls a0_0 true _ A26.out).mono ?_); rintro e w' ⟨rfl, ⟨nd, rfl⟩⟩))
          go_meet
          case rel => exact ⟨_, (false), d22_6, H', ⟨by first | omega | exact Nat.le_refl _⟩, ⟨by (with_reducible repeat (first | apply Kd.R_alloc | apply Kd.R_drewN | apply Kd.R_drew)); exact HO671.out⟩, ⟨by (with_reducible repeat (first | refine blk_drewN ?_ _ | refine blk_drew ?_ | refine blk_alloc ?_ _)); exact BK668.out⟩, ⟨by repeat (first | (with_reducible first | exact HB.out | apply below_alloc | apply pw_below_drewN | apply below_drew1 | refine below_set ?_ GE668.out) | exact HB.out)⟩⟩
        ·replace c27 := Bool.eq_false_iff.mpr c27
         subst c27
         have H1 : (impl_OpFault.j0 k y669 true a0_0 a0_1 a0_2 a0_3 a0_4 a0_5 l0_6) = some r := by rw [if_neg (show ¬ (false = true) by decide)] at H; exact H
         clear H
         have H := H1
         clear H1
         have H' := ak H
         clear H
         have hcz36_0 : w5.cell? ⟨gb668, 0, none⟩ = some (.int .i64 a0_0) := (blk_cell BK668.out 0).trans rfl
         have hcz36_1 : w5.cell? ⟨gb668, 1, none⟩ = some (.int .i64 a0_1) := (blk_cell BK668.out 1).trans rfl
         have hcz36_2 : w5.cell? ⟨gb668, 2, none⟩ = some (.int .i64 a0_2) := (blk_cell BK668.out 2).trans rfl
         have hcz36_3 : w5.cell? ⟨gb668, 3, none⟩ = some (.int .i64 a0_3) := (blk_cell BK668.out 3).trans rfl
         have hcz36_4 : w5.cell? ⟨gb668, 4, none⟩ = some (.int .i64 a0_4) := (blk_cell BK668.out 4).trans rfl
         have hcz36_5 : w5.cell? ⟨gb668, 5, none⟩ = some (.string a0_5) := (blk_cell BK668.out 5).trans rfl
         have hcz36_6 : w5.cell? ⟨gb668, 6, none⟩ = some (.slice A0_6 l0_6.length c0_6) := (blk_cell BK668.out 6).trans rfl
         have hfz36_0 := blk_frozen BK668.out 0
         have hfz36_1 := blk_frozen BK668.out 1
         have hfz36_2 := blk_frozen BK668.out 2
         have hfz36_3 := blk_frozen BK668.out 3
         have hfz36_4 := blk_frozen BK668.out 4
         have hfz36_5 := blk_frozen BK668.out 5
         have hfz36_6 := blk_frozen BK668.out 6
         go_wp2_with (first | ((with_reducible refine gate_callee (f := 51) rfl ?_); refine goesL_ (some 17) rfl rfl Tryd.func51 (by kernel_rfl) rfl #[.int .i64 a0_0, .int .i64 1, .int .i64 16] rfl d22_3 ?_; (with_reducible refine (impl_in.calls a0_0 1 16 true _ A7.out).mono ?_); rintro e w' ⟨rfl, ⟨nd, rfl⟩⟩; refine ⟨_, rfl, ?_⟩) | (go_at_call 71; (with_reducible refine (impl_opNums.calls k a0_0 t673 _ A9.out).mono ?_); rintro e w' ⟨rfl, ⟨nd, rfl⟩⟩; obtain ⟨Ao38, co38, eo38⟩ := Kd.R_slice HO671.out; subst eo38; have q37 : (t673 : Int) ≤ ((y669.length : Int) : Int) := of_decide_eq_true d22_8; obtain ⟨i037, hi037, _, hsz37, _⟩ := info_parts info2; have hroom37 : y669.length ≤ co38 := (Kd.R_reads' HO671.out).2.1; have hC37 : Kd.C (Kd.int .i64) _ Ao38 y669.length y669 := (Kd.R_reads' HO671.out).2.2; have q037 : (0 : Int) ≤ (t673 : Int) := of_decide_eq_true d22_8; have hcut37 := cut_from (P := Tryd.prog) 108 2 .i64 Tryd.underlying108 hi037 1 hsz37 Ao38 y669.length co38 t673 q037 q37; have hr37 := Kd.C_drop (m := (t673 : Int).toNat) (c := co38) hC37 (by omega) hroom37; obtain ⟨A37, hA37⟩ : ∃ A1, A1 = (if co38 = (t673 : Int).toNat then Ao38 else (Ao38 : Option Addr).map (·.add ((t673 : Int).toNat * 1))) := ⟨_, rfl⟩; obtain ⟨c37, hc37⟩ : ∃ c1, c1 = co38 - (t673 : Int).toNat := ⟨_, rfl⟩; have hy37 : y674.length = y669.length - (t673 : Int).toNat := (by rw [Ny674.out, List.length_drop] <;> omega); rw [show (y669).drop (t673 : Int).toNat = y674 from Ny674.out.symm] at hr37; replace hr37 : Kd.C (Kd.int .i64) _ A37 y674.length y674 := (by rw [hA37]; exact hr37); rw [← hy37, ← hA37, ← hc37] at hcut37; have HR677 := ak hr37; have HC677 := ak (show y674.length ≤ c37 from by rw [hy37, hc37]; exact Nat.sub_le_sub_right hroom37 _); clear hr37 hC37 hroom37 hi037 hsz37 hc37; have KY37 := ak hy37; have KA37 := ak hA37; clear hy37 hA37; have KL37 := ak (show (t673 : Int).toNat ≤ y669.length from by omega); replace q37 := eq_true q37) | (go_at_call 70; (with_reducible refine (slices_ContainsFunc_int64_int64__impl_OpFault_1.calls k _ _ y674  false _ ?side1 ?side2 A12.out).mono ?_); (case side1 => repeat (first | exact d22_5 | (with_reducible refine Kd.C_alloc ?_ _) | (with_reducible refine Kd.C_drewN ?_ _) | (with_reducible refine Kd.C_drew ?_))); (case side2 => exact HC677.out); rintro e w' ⟨rfl, ⟨nd, rfl⟩⟩) | (go_at_call 72; (with_reducible refine (impl_opNamed.calls a0_0 false _ A26.out).mono ?_); rintro e w' ⟨rfl, ⟨nd, rfl⟩⟩))
         go_meet
         case rel => exact ⟨_, (true), d22_6, H', ⟨by first | omega | exact Nat.le_refl _⟩, ⟨by (with_reducible repeat (first | apply Kd.R_alloc | apply Kd.R_drewN | apply Kd.R_drew)); exact HO671.out⟩, ⟨by (with_reducible repeat (first | refine blk_drewN ?_ _ | refine blk_drew ?_ | refine blk_alloc ?_ _)); exact BK668.out⟩, ⟨by repeat (first | (with_reducible first | exact HB.out | apply below_alloc | apply pw_below_drewN | apply below_drew1 | refine below_set ?_ GE668.out) | exact HB.out)⟩⟩
     ·rw [if_neg c11] at H
      exact absurd H (by simp)
    ·rw [if_neg c10] at H
     exact absurd H (by simp)
   ·replace c8 := Bool.eq_false_iff.mpr c8
    subst c8
    have H1 : (impl_OpFault.j0 k y669 true a0_0 a0_1 a0_2 a0_3 a0_4 a0_5 l0_6) = some r := by rw [if_neg (show ¬ (false = true) by decide)] at H; exact H
    clear H
    have H := H1
    clear H1
    have H' := ak H
    clear H
    have hcz39_0 : w5.cell? ⟨gb668, 0, none⟩ = some (.int .i64 a0_0) := (blk_cell BK668.out 0).trans rfl
    have hcz39_1 : w5.cell? ⟨gb668, 1, none⟩ = some (.int .i64 a0_1) := (blk_cell BK668.out 1).trans rfl
    have hcz39_2 : w5.cell? ⟨gb668, 2, none⟩ = some (.int .i64 a0_2) := (blk_cell BK668.out 2).trans rfl
    have hcz39_3 : w5.cell? ⟨gb668, 3, none⟩ = some (.int .i64 a0_3) := (blk_cell BK668.out 3).trans rfl
    have hcz39_4 : w5.cell? ⟨gb668, 4, none⟩ = some (.int .i64 a0_4) := (blk_cell BK668.out 4).trans rfl
    have hcz39_5 : w5.cell? ⟨gb668, 5, none⟩ = some (.string a0_5) := (blk_cell BK668.out 5).trans rfl
    have hcz39_6 : w5.cell? ⟨gb668, 6, none⟩ = some (.slice A0_6 l0_6.length c0_6) := (blk_cell BK668.out 6).trans rfl
    have hfz39_0 := blk_frozen BK668.out 0
    have hfz39_1 := blk_frozen BK668.out 1
    have hfz39_2 := blk_frozen BK668.out 2
    have hfz39_3 := blk_frozen BK668.out 3
    have hfz39_4 := blk_frozen BK668.out 4
    have hfz39_5 := blk_frozen BK668.out 5
    have hfz39_6 := blk_frozen BK668.out 6
    go_wp2_with (first | ((with_reducible refine gate_callee (f := 51) rfl ?_); refine goesL_ (some 17) rfl rfl Tryd.func51 (by kernel_rfl) rfl #[.int .i64 a0_0, .int .i64 1, .int .i64 16] rfl d22_3 ?_; (with_reducible refine (impl_in.calls a0_0 1 16 false _ A7.out).mono ?_); rintro e w' ⟨rfl, ⟨nd, rfl⟩⟩; refine ⟨_, rfl, ?_⟩))
    go_meet
    case rel => exact ⟨_, (true), d22_6, H', ⟨by first | omega | exact Nat.le_refl _⟩, ⟨by (with_reducible repeat (first | apply Kd.R_alloc | apply Kd.R_drewN | apply Kd.R_drew)); exact HO671.out⟩, ⟨by (with_reducible repeat (first | refine blk_drewN ?_ _ | refine blk_drew ?_ | refine blk_alloc ?_ _)); exact BK668.out⟩, ⟨by repeat (first | (with_reducible first | exact HB.out | apply below_alloc | apply pw_below_drewN | apply below_drew1 | refine below_set ?_ GE668.out) | exact HB.out)⟩⟩
  case rest =>
   clear HC2
   try clear c4
   try clear hcz4_0
   try clear hcz4_1
   try clear hcz4_2
   try clear hcz4_3
   try clear hcz4_4
   try clear hcz4_5
   try clear hcz4_6
   try clear hfz4_0
   try clear hfz4_1
   try clear hfz4_2
   try clear hfz4_3
   try clear hfz4_4
   try clear hfz4_5
   try clear hfz4_6
   obtain ⟨kq, x14_1, rfl, HA, HJ1, HO_3, BK668, HB⟩ := hcut
   cases kq with
   | zero => exact absurd HA.out (by simp [impl_OpFault.j0])
   | succ kj1 =>
    have H := HA.out
    clear HA
    simp only [impl_OpFault.j0] at H
    by_cases c40 : x14_1 = true
    ·subst c40
     have H1 : (some 1) = some r := by rw [if_pos rfl] at H; exact H
     clear H
     have H := H1
     clear H1
     obtain rfl := Option.some.inj H
     go_wp2
     go_ret
     exact ⟨by first | rfl | (simp [errW_none, errW_some] <;> rfl) | (simp [*, errW_none, errW_some] <;> rfl), by repeat (first | (with_reducible first | exact HB.out | apply below_alloc | apply pw_below_drewN | apply below_drew1 | refine below_set ?_ GE668.out) | exact HB.out)⟩
    ·replace c40 := Bool.eq_false_iff.mpr c40
     subst c40
     have H1 : ((slices_ContainsFunc_int64_int64__impl_OpFault_2.f kj1 y669).bind fun t682 => (if t682 = true then (impl_OpFault.j1 kj1 true a0_0 a0_1 a0_2 a0_3 a0_4 a0_5 l0_6) else (if a0_0 = 10 then (impl_OpFault.j1 kj1 (decide (a0_1 > 3)) a0_0 a0_1 a0_2 a0_3 a0_4 a0_5 l0_6) else (if a0_0 = 11 then (impl_OpFault.j1 kj1 (decide (a0_1 > 3)) a0_0 a0_1 a0_2 a0_3 a0_4 a0_5 l0_6) else (impl_OpFault.j1 kj1 false a0_0 a0_1 a0_2 a0_3 a0_4 a0_5 l0_6))))) = some r := by rw [if_neg (show ¬ (false = true) by decide)] at H; exact H
     clear H
     have H := H1
     clear H1
     have HC41 := ak H
     clear H
     go_upto_region 5 with (fail)
     go_cut [51] (fun v51 wc => ∃ (kq : Nat) (x51_40 : Bool), v51 = .bool x51_40 ∧ Aside0 (impl_OpFault.j1 kq x51_40 a0_0 a0_1 a0_2 a0_3 a0_4 a0_5 l0_6 = some r) ∧ Aside0 (kq ≤ kj1) ∧ Aside0 (wc.heap[gb668]? = some (.cells #[.int .i64 a0_0, .int .i64 a0_1, .int .i64 a0_2, .int .i64 a0_3, .int .i64 a0_4, .string a0_5, (.slice A0_6 l0_6.length c0_6)] 69 (0, 0))) ∧ Aside0 (Below w.heap.size w wc))
     case first =>
      have H := HC41.out
      clear HC41
      replace H := Option.bind_eq_some_iff.mp H
      obtain ⟨t682, A420, H⟩ := H
      replace H : (if t682 = true then (impl_OpFault.j1 kj1 true a0_0 a0_1 a0_2 a0_3 a0_4 a0_5 l0_6) else (if a0_0 = 10 then (impl_OpFault.j1 kj1 (decide (a0_1 > 3)) a0_0 a0_1 a0_2 a0_3 a0_4 a0_5 l0_6) else (if a0_0 = 11 then (impl_OpFault.j1 kj1 (decide (a0_1 > 3)) a0_0 a0_1 a0_2 a0_3 a0_4 a0_5 l0_6) else (impl_OpFault.j1 kj1 false a0_0 a0_1 a0_2 a0_3 a0_4 a0_5 l0_6)))) = some r := H
      have A42 := ak A420
      clear A420
      by_cases c43 : t682 = true
      ·subst c43
       have H1 : (impl_OpFault.j1 kj1 true a0_0 a0_1 a0_2 a0_3 a0_4 a0_5 l0_6) = some r := by rw [if_pos rfl] at H; exact H
       clear H
       have H := H1
       clear H1
       have H' := ak H
       clear H
       obtain ⟨Ao44, co44, eo44⟩ := Kd.R_slice HO_3.out
       subst eo44
       go_wp2_with (first | (go_at_call 70; (with_reducible refine (slices_ContainsFunc_int64_int64__impl_OpFault_2.calls kj1 _ _ y669  true _ ?side1 ?side2 A42.out).mono ?_); (case side1 => repeat (first | exact (Kd.R_reads' HO_3.out).2.2 | (with_reducible refine Kd.C_alloc ?_ _) | (with_reducible refine Kd.C_drewN ?_ _) | (with_reducible refine Kd.C_drew ?_))); (case side2 => exact (Kd.R_reads' HO_3.out).2.1); rintro e w' ⟨rfl, ⟨nd, rfl⟩⟩))
       go_meet
       case rel => exact ⟨_, (true), d22_6, H', ⟨by have := HJ1.out; first | omega | exact Nat.le_refl _⟩, ⟨by (with_reducible repeat (first | refine blk_drewN ?_ _ | refine blk_drew ?_ | refine blk_alloc ?_ _)); exact BK668.out⟩, ⟨by repeat (first | (with_reducible first | exact HB.out | apply below_alloc | apply pw_below_drewN | apply below_drew1 | refine below_set ?_ GE668.out) | exact HB.out)⟩⟩
      ·replace c43 := Bool.eq_false_iff.mpr c43
       subst c43
       have H1 : (if a0_0 = 10 then (impl_OpFault.j1 kj1 (decide (a0_1 > 3)) a0_0 a0_1 a0_2 a0_3 a0_4 a0_5 l0_6) else (if a0_0 = 11 then (impl_OpFault.j1 kj1 (decide (a0_1 > 3)) a0_0 a0_1 a0_2 a0_3 a0_4 a0_5 l0_6) else (impl_OpFault.j1 kj1 false a0_0 a0_1 a0_2 a0_3 a0_4 a0_5 l0_6))) = some r := by rw [if_neg (show ¬ (false = true) by decide)] at H; exact H
       clear H
       have H := H1
       clear H1
       by_cases c45 : a0_0 = 10
       ·rw [if_pos c45] at H
        have c45b0 : (a0_0 == 10) = true := beq_iff_eq.mpr c45
        have c45b1 : (a0_0 != 10) = false := bne_eq_false_iff_eq.mpr c45
        clear c45
        (first | rw [c45b0] | (simp only [i64_w, i32_w]; rw [c45b0]) | skip)
        have H' := ak H
        clear H
        obtain ⟨Ao46, co46, eo46⟩ := Kd.R_slice HO_3.out
        subst eo46
        go_wp2_with (first | (go_at_call 70; (with_reducible refine (slices_ContainsFunc_int64_int64__impl_OpFault_2.calls kj1 _ _ y669  false _ ?side1 ?side2 A42.out).mono ?_); (case side1 => repeat (first | exact (Kd.R_reads' HO_3.out).2.2 | (with_reducible refine Kd.C_alloc ?_ _) | (with_reducible refine Kd.C_drewN ?_ _) | (with_reducible refine Kd.C_drew ?_))); (case side2 => exact (Kd.R_reads' HO_3.out).2.1); rintro e w' ⟨rfl, ⟨nd, rfl⟩⟩; have hcz47_0 : wc.cell? ⟨gb668, 0, none⟩ = some (.int .i64 a0_0) := (blk_cell BK668.out 0).trans rfl; have hcz47_1 : wc.cell? ⟨gb668, 1, none⟩ = some (.int .i64 a0_1) := (blk_cell BK668.out 1).trans rfl; have hcz47_2 : wc.cell? ⟨gb668, 2, none⟩ = some (.int .i64 a0_2) := (blk_cell BK668.out 2).trans rfl; have hcz47_3 : wc.cell? ⟨gb668, 3, none⟩ = some (.int .i64 a0_3) := (blk_cell BK668.out 3).trans rfl; have hcz47_4 : wc.cell? ⟨gb668, 4, none⟩ = some (.int .i64 a0_4) := (blk_cell BK668.out 4).trans rfl; have hcz47_5 : wc.cell? ⟨gb668, 5, none⟩ = some (.string a0_5) := (blk_cell BK668.out 5).trans rfl; have hcz47_6 : wc.cell? ⟨gb668, 6, none⟩ = some (.slice A0_6 l0_6.length c0_6) := (blk_cell BK668.out 6).trans rfl; have hfz47_0 := blk_frozen BK668.out 0; have hfz47_1 := blk_frozen BK668.out 1; have hfz47_2 := blk_frozen BK668.out 2; have hfz47_3 := blk_frozen BK668.out 3; have hfz47_4 := blk_frozen BK668.out 4; have hfz47_5 := blk_frozen BK668.out 5; have hfz47_6 := blk_frozen BK668.out 6))
        go_meet
        case rel => exact ⟨_, (decide (a0_1 > 3)), d22_6, H', ⟨by have := HJ1.out; first | omega | exact Nat.le_refl _⟩, ⟨by (with_reducible repeat (first | refine blk_drewN ?_ _ | refine blk_drew ?_ | refine blk_alloc ?_ _)); exact BK668.out⟩, ⟨by repeat (first | (with_reducible first | exact HB.out | apply below_alloc | apply pw_below_drewN | apply below_drew1 | refine below_set ?_ GE668.out) | exact HB.out)⟩⟩
       ·rw [if_neg c45] at H
        have c45b0 : (a0_0 == 10) = false := beq_eq_false_iff_ne.mpr c45
        have c45b1 : (a0_0 != 10) = true := bne_iff_ne.mpr c45
        (first | rw [c45b0] | (simp only [i64_w, i32_w]; rw [c45b0]) | skip)
        by_cases c48 : a0_0 = 11
        ·rw [if_pos c48] at H
         have c48b0 : (a0_0 == 11) = true := beq_iff_eq.mpr c48
         have c48b1 : (a0_0 != 11) = false := bne_eq_false_iff_eq.mpr c48
         clear c48
         have H' := ak H
         clear H
         obtain ⟨Ao49, co49, eo49⟩ := Kd.R_slice HO_3.out
         subst eo49
         go_wp2_with (first | (go_at_call 70; (with_reducible refine (slices_ContainsFunc_int64_int64__impl_OpFault_2.calls kj1 _ _ y669  false _ ?side1 ?side2 A42.out).mono ?_); (case side1 => repeat (first | exact (Kd.R_reads' HO_3.out).2.2 | (with_reducible refine Kd.C_alloc ?_ _) | (with_reducible refine Kd.C_drewN ?_ _) | (with_reducible refine Kd.C_drew ?_))); (case side2 => exact (Kd.R_reads' HO_3.out).2.1); rintro e w' ⟨rfl, ⟨nd, rfl⟩⟩; have hcz50_0 : wc.cell? ⟨gb668, 0, none⟩ = some (.int .i64 a0_0) := (blk_cell BK668.out 0).trans rfl; have hcz50_1 : wc.cell? ⟨gb668, 1, none⟩ = some (.int .i64 a0_1) := (blk_cell BK668.out 1).trans rfl; have hcz50_2 : wc.cell? ⟨gb668, 2, none⟩ = some (.int .i64 a0_2) := (blk_cell BK668.out 2).trans rfl; have hcz50_3 : wc.cell? ⟨gb668, 3, none⟩ = some (.int .i64 a0_3) := (blk_cell BK668.out 3).trans rfl; have hcz50_4 : wc.cell? ⟨gb668, 4, none⟩ = some (.int .i64 a0_4) := (blk_cell BK668.out 4).trans rfl; have hcz50_5 : wc.cell? ⟨gb668, 5, none⟩ = some (.string a0_5) := (blk_cell BK668.out 5).trans rfl; have hcz50_6 : wc.cell? ⟨gb668, 6, none⟩ = some (.slice A0_6 l0_6.length c0_6) := (blk_cell BK668.out 6).trans rfl; have hfz50_0 := blk_frozen BK668.out 0; have hfz50_1 := blk_frozen BK668.out 1; have hfz50_2 := blk_frozen BK668.out 2; have hfz50_3 := blk_frozen BK668.out 3; have hfz50_4 := blk_frozen BK668.out 4; have hfz50_5 := blk_frozen BK668.out 5; have hfz50_6 := blk_frozen BK668.out 6))
         go_meet
         case rel => exact ⟨_, (decide (a0_1 > 3)), d22_6, H', ⟨by have := HJ1.out; first | omega | exact Nat.le_refl _⟩, ⟨by (with_reducible repeat (first | refine blk_drewN ?_ _ | refine blk_drew ?_ | refine blk_alloc ?_ _)); exact BK668.out⟩, ⟨by repeat (first | (with_reducible first | exact HB.out | apply below_alloc | apply pw_below_drewN | apply below_drew1 | refine below_set ?_ GE668.out) | exact HB.out)⟩⟩
        ·rw [if_neg c48] at H
         have c48b0 : (a0_0 == 11) = false := beq_eq_false_iff_ne.mpr c48
         have c48b1 : (a0_0 != 11) = true := bne_iff_ne.mpr c48
         have H' := ak H
         clear H
         obtain ⟨Ao51, co51, eo51⟩ := Kd.R_slice HO_3.out
         subst eo51
         go_wp2_with (first | (go_at_call 70; (with_reducible refine (slices_ContainsFunc_int64_int64__impl_OpFault_2.calls kj1 _ _ y669  false _ ?side1 ?side2 A42.out).mono ?_); (case side1 => repeat (first | exact (Kd.R_reads' HO_3.out).2.2 | (with_reducible refine Kd.C_alloc ?_ _) | (with_reducible refine Kd.C_drewN ?_ _) | (with_reducible refine Kd.C_drew ?_))); (case side2 => exact (Kd.R_reads' HO_3.out).2.1); rintro e w' ⟨rfl, ⟨nd, rfl⟩⟩; have hcz52_0 : wc.cell? ⟨gb668, 0, none⟩ = some (.int .i64 a0_0) := (blk_cell BK668.out 0).trans rfl; have hcz52_1 : wc.cell? ⟨gb668, 1, none⟩ = some (.int .i64 a0_1) := (blk_cell BK668.out 1).trans rfl; have hcz52_2 : wc.cell? ⟨gb668, 2, none⟩ = some (.int .i64 a0_2) := (blk_cell BK668.out 2).trans rfl; have hcz52_3 : wc.cell? ⟨gb668, 3, none⟩ = some (.int .i64 a0_3) := (blk_cell BK668.out 3).trans rfl; have hcz52_4 : wc.cell? ⟨gb668, 4, none⟩ = some (.int .i64 a0_4) := (blk_cell BK668.out 4).trans rfl; have hcz52_5 : wc.cell? ⟨gb668, 5, none⟩ = some (.string a0_5) := (blk_cell BK668.out 5).trans rfl; have hcz52_6 : wc.cell? ⟨gb668, 6, none⟩ = some (.slice A0_6 l0_6.length c0_6) := (blk_cell BK668.out 6).trans rfl; have hfz52_0 := blk_frozen BK668.out 0; have hfz52_1 := blk_frozen BK668.out 1; have hfz52_2 := blk_frozen BK668.out 2; have hfz52_3 := blk_frozen BK668.out 3; have hfz52_4 := blk_frozen BK668.out 4; have hfz52_5 := blk_frozen BK668.out 5; have hfz52_6 := blk_frozen BK668.out 6))
         go_meet
         case rel => exact ⟨_, (false), d22_6, H', ⟨by have := HJ1.out; first | omega | exact Nat.le_refl _⟩, ⟨by (with_reducible repeat (first | refine blk_drewN ?_ _ | refine blk_drew ?_ | refine blk_alloc ?_ _)); exact BK668.out⟩, ⟨by repeat (first | (with_reducible first | exact HB.out | apply below_alloc | apply pw_below_drewN | apply below_drew1 | refine below_set ?_ GE668.out) | exact HB.out)⟩⟩
     case rest =>
      clear HC41
      try clear c1
      try clear q1
      try clear c2
      try clear p2
      try clear q2
      try clear c3
      try clear q3
      try clear c4
      try clear c5
      try clear c8
      try clear c10
      try clear c10b0
      try clear c10b1
      try clear c11
      try clear c11b0
      try clear c11b1
      try clear c13
      try clear c15
      try clear q15
      try clear c17
      try clear c17b0
      try clear c17b1
      try clear c18
      try clear c18b0
      try clear c18b1
      try clear c21
      try clear q21
      try clear c24
      try clear q24
      try clear c27
      try clear c28
      try clear c28b0
      try clear c28b1
      try clear c31
      try clear q31
      try clear c34
      try clear q34
      try clear c37
      try clear q37
      try clear c40
      try clear c41
      try clear c51
      try clear hcz14_0
      try clear hcz14_1
      try clear hcz14_2
      try clear hcz14_3
      try clear hcz14_4
      try clear hcz14_5
      try clear hcz14_6
      try clear hcz20_0
      try clear hcz20_1
      try clear hcz20_2
      try clear hcz20_3
      try clear hcz20_4
      try clear hcz20_5
      try clear hcz20_6
      try clear hcz23_0
      try clear hcz23_1
      try clear hcz23_2
      try clear hcz23_3
      try clear hcz23_4
      try clear hcz23_5
      try clear hcz23_6
      try clear hcz30_0
      try clear hcz30_1
      try clear hcz30_2
      try clear hcz30_3
      try clear hcz30_4
      try clear hcz30_5
      try clear hcz30_6
      try clear hcz33_0
      try clear hcz33_1
      try clear hcz33_2
      try clear hcz33_3
      try clear hcz33_4
      try clear hcz33_5
      try clear hcz33_6
      try clear hcz36_0
      try clear hcz36_1
      try clear hcz36_2
      try clear hcz36_3
      try clear hcz36_4
      try clear hcz36_5
      try clear hcz36_6
      try clear hcz39_0
      try clear hcz39_1
      try clear hcz39_2
      try clear hcz39_3
      try clear hcz39_4
      try clear hcz39_5
      try clear hcz39_6
      try clear hcz4_0
      try clear hcz4_1
      try clear hcz4_2
      try clear hcz4_3
      try clear hcz4_4
      try clear hcz4_5
      try clear hcz4_6
      try clear hfz14_0
      try clear hfz14_1
      try clear hfz14_2
      try clear hfz14_3
      try clear hfz14_4
      try clear hfz14_5
      try clear hfz14_6
      try clear hfz20_0
      try clear hfz20_1
      try clear hfz20_2
      try clear hfz20_3
      try clear hfz20_4
      try clear hfz20_5
      try clear hfz20_6
      try clear hfz23_0
      try clear hfz23_1
      try clear hfz23_2
      try clear hfz23_3
      try clear hfz23_4
      try clear hfz23_5
      try clear hfz23_6
      try clear hfz30_0
      try clear hfz30_1
      try clear hfz30_2
      try clear hfz30_3
      try clear hfz30_4
      try clear hfz30_5
      try clear hfz30_6
      try clear hfz33_0
      try clear hfz33_1
      try clear hfz33_2
      try clear hfz33_3
      try clear hfz33_4
      try clear hfz33_5
      try clear hfz33_6
      try clear hfz36_0
      try clear hfz36_1
      try clear hfz36_2
      try clear hfz36_3
      try clear hfz36_4
      try clear hfz36_5
      try clear hfz36_6
      try clear hfz39_0
      try clear hfz39_1
      try clear hfz39_2
      try clear hfz39_3
      try clear hfz39_4
      try clear hfz39_5
      try clear hfz39_6
      try clear hfz4_0
      try clear hfz4_1
      try clear hfz4_2
      try clear hfz4_3
      try clear hfz4_4
      try clear hfz4_5
      try clear hfz4_6
      try clear q015
      try clear q021
      try clear q024
      try clear q031
      try clear q034
      try clear q037
      try clear q15
      try clear q21
      try clear q24
      try clear q31
      try clear q34
      try clear q37
      obtain ⟨kq, x51_40, rfl, HA, HJ40, BK668, HB⟩ := hcut
      cases kq with
      | zero => exact absurd HA.out (by simp [impl_OpFault.j1])
      | succ kj40 =>
       have H := HA.out
       clear HA
       simp only [impl_OpFault.j1] at H
       by_cases c53 : x51_40 = true
       ·subst c53
        have H1 : (some 3) = some r := by rw [if_pos rfl] at H; exact H
        clear H
        have H := H1
        clear H1
        obtain rfl := Option.some.inj H
        go_wp2
        go_ret
        exact ⟨by first | rfl | (simp [errW_none, errW_some] <;> rfl) | (simp [*, errW_none, errW_some] <;> rfl), by repeat (first | (with_reducible first | exact HB.out | apply below_alloc | apply pw_below_drewN | apply below_drew1 | refine below_set ?_ GE668.out) | exact HB.out)⟩
       ·replace c53 := Bool.eq_false_iff.mpr c53
        subst c53
        have H1 : ((impl_opNamed.f a0_0).bind fun t683 => (if t683 = true then ((impl_SymFault.f a0_5).bind fun t684 => (some t684)) else ((impl_opData.f a0_0).bind fun t685 => (if t685 = true then ((impl_DataFault.f kj40 l0_6).bind fun t686 => (some t686)) else (some 0))))) = some r := by rw [if_neg (show ¬ (false = true) by decide)] at H; exact H
        clear H
        have H := H1
        clear H1
        replace H := Option.bind_eq_some_iff.mp H
        obtain ⟨t683, A540, H⟩ := H
        replace H : (if t683 = true then ((impl_SymFault.f a0_5).bind fun t684 => (some t684)) else ((impl_opData.f a0_0).bind fun t685 => (if t685 = true then ((impl_DataFault.f kj40 l0_6).bind fun t686 => (some t686)) else (some 0)))) = some r := H
        have A54 := ak A540
        clear A540
        by_cases c55 : t683 = true
        ·subst c55
         have H1 : ((impl_SymFault.f a0_5).bind fun t684 => (some t684)) = some r := by rw [if_pos rfl] at H; exact H
         clear H
         have H := H1
         clear H1
         replace H := Option.bind_eq_some_iff.mp H
         obtain ⟨t684, A560, H⟩ := H
         replace H : (some t684) = some r := H
         have A56 := ak A560
         clear A560
         obtain rfl := Option.some.inj H
         have hcz57_0 : wc.cell? ⟨gb668, 0, none⟩ = some (.int .i64 a0_0) := (blk_cell BK668.out 0).trans rfl
         have hcz57_1 : wc.cell? ⟨gb668, 1, none⟩ = some (.int .i64 a0_1) := (blk_cell BK668.out 1).trans rfl
         have hcz57_2 : wc.cell? ⟨gb668, 2, none⟩ = some (.int .i64 a0_2) := (blk_cell BK668.out 2).trans rfl
         have hcz57_3 : wc.cell? ⟨gb668, 3, none⟩ = some (.int .i64 a0_3) := (blk_cell BK668.out 3).trans rfl
         have hcz57_4 : wc.cell? ⟨gb668, 4, none⟩ = some (.int .i64 a0_4) := (blk_cell BK668.out 4).trans rfl
         have hcz57_5 : wc.cell? ⟨gb668, 5, none⟩ = some (.string a0_5) := (blk_cell BK668.out 5).trans rfl
         have hcz57_6 : wc.cell? ⟨gb668, 6, none⟩ = some (.slice A0_6 l0_6.length c0_6) := (blk_cell BK668.out 6).trans rfl
         have hfz57_0 := blk_frozen BK668.out 0
         have hfz57_1 := blk_frozen BK668.out 1
         have hfz57_2 := blk_frozen BK668.out 2
         have hfz57_3 := blk_frozen BK668.out 3
         have hfz57_4 := blk_frozen BK668.out 4
         have hfz57_5 := blk_frozen BK668.out 5
         have hfz57_6 := blk_frozen BK668.out 6
         go_wp2_with (first | ((with_reducible refine gate_callee (f := 72) rfl ?_); refine goesL_ (some 72) rfl rfl Tryd.func72 (by kernel_rfl) rfl #[.int .i64 a0_0] rfl d22_3 ?_; (with_reducible refine (impl_opNamed.calls a0_0 true _ A54.out).mono ?_); rintro e w' ⟨rfl, ⟨nd, rfl⟩⟩; refine ⟨_, rfl, ?_⟩) | ((with_reducible refine gate_callee (f := 75) rfl ?_); refine goesL_ (some 75) rfl rfl Tryd.func75 (by kernel_rfl) rfl #[.string a0_5] rfl d22_3 ?_; (with_reducible refine (impl_SymFault.calls a0_5 t684 _ A56.out).mono ?_); rintro e w58 ⟨rfl, hb⟩; refine ⟨_, rfl, ?_⟩; have n0_ := ak (blk_below (g := gb668) (o := .cells #[.int .i64 a0_0, .int .i64 a0_1, .int .i64 a0_2, .int .i64 a0_3, .int .i64 a0_4, .string a0_5, .slice A0_6 l0_6.length c0_6] 69 (0, 0)) (by (with_reducible repeat (first | refine blk_drewN ?_ _ | refine blk_drew ?_ | refine blk_alloc ?_ _)); exact BK668.out) hb); have n1_ := ak (below_step d22_7 hb); clear BK668 HB; have BK668 := n0_; have HB := n1_; clear n0_ n1_; (try clear hb)))
         go_ret
         exact ⟨by first | rfl | (simp [errW_none, errW_some] <;> rfl) | (simp [*, errW_none, errW_some] <;> rfl), by repeat (first | (with_reducible first | exact HB.out | apply below_alloc | apply pw_below_drewN | apply below_drew1 | refine below_set ?_ GE668.out) | exact HB.out)⟩
        ·replace c55 := Bool.eq_false_iff.mpr c55
         subst c55
         have H1 : ((impl_opData.f a0_0).bind fun t685 => (if t685 = true then ((impl_DataFault.f kj40 l0_6).bind fun t686 => (some t686)) else (some 0))) = some r := by rw [if_neg (show ¬ (false = true) by decide)] at H; exact H
         clear H
         have H := H1
         clear H1
         replace H := Option.bind_eq_some_iff.mp H
         obtain ⟨t685, A590, H⟩ := H
         replace H : (if t685 = true then ((impl_DataFault.f kj40 l0_6).bind fun t686 => (some t686)) else (some 0)) = some r := H
         have A59 := ak A590
         clear A590
         by_cases c60 : t685 = true
         ·subst c60
          have H1 : ((impl_DataFault.f kj40 l0_6).bind fun t686 => (some t686)) = some r := by rw [if_pos rfl] at H; exact H
          clear H
          have H := H1
          clear H1
          replace H := Option.bind_eq_some_iff.mp H
          obtain ⟨t686, A610, H⟩ := H
          replace H : (some t686) = some r := H
          have A61 := ak A610
          clear A610
          obtain rfl := Option.some.inj H
          have hcz62_0 : wc.cell? ⟨gb668, 0, none⟩ = some (.int .i64 a0_0) := (blk_cell BK668.out 0).trans rfl
          have hcz62_1 : wc.cell? ⟨gb668, 1, none⟩ = some (.int .i64 a0_1) := (blk_cell BK668.out 1).trans rfl
          have hcz62_2 : wc.cell? ⟨gb668, 2, none⟩ = some (.int .i64 a0_2) := (blk_cell BK668.out 2).trans rfl
          have hcz62_3 : wc.cell? ⟨gb668, 3, none⟩ = some (.int .i64 a0_3) := (blk_cell BK668.out 3).trans rfl
          have hcz62_4 : wc.cell? ⟨gb668, 4, none⟩ = some (.int .i64 a0_4) := (blk_cell BK668.out 4).trans rfl
          have hcz62_5 : wc.cell? ⟨gb668, 5, none⟩ = some (.string a0_5) := (blk_cell BK668.out 5).trans rfl
          have hcz62_6 : wc.cell? ⟨gb668, 6, none⟩ = some (.slice A0_6 l0_6.length c0_6) := (blk_cell BK668.out 6).trans rfl
          have hfz62_0 := blk_frozen BK668.out 0
          have hfz62_1 := blk_frozen BK668.out 1
          have hfz62_2 := blk_frozen BK668.out 2
          have hfz62_3 := blk_frozen BK668.out 3
          have hfz62_4 := blk_frozen BK668.out 4
          have hfz62_5 := blk_frozen BK668.out 5
          have hfz62_6 := blk_frozen BK668.out 6
          go_wp2_with (first | ((with_reducible refine gate_callee (f := 72) rfl ?_); refine goesL_ (some 72) rfl rfl Tryd.func72 (by kernel_rfl) rfl #[.int .i64 a0_0] rfl d22_3 ?_; (with_reducible refine (impl_opNamed.calls a0_0 false _ A54.out).mono ?_); rintro e w' ⟨rfl, ⟨nd, rfl⟩⟩; refine ⟨_, rfl, ?_⟩) | ((with_reducible refine gate_callee (f := 73) rfl ?_); refine goesL_ (some 79) rfl rfl Tryd.func73 (by kernel_rfl) rfl #[.int .i64 a0_0] rfl d22_3 ?_; (with_reducible refine (impl_opData.calls a0_0 true _ A59.out).mono ?_); rintro e w' ⟨rfl, ⟨nd, rfl⟩⟩; refine ⟨_, rfl, ?_⟩) | ((with_reducible refine gate_callee (f := 76) rfl ?_); refine goesL_ (some 82) rfl rfl Tryd.func76 (by kernel_rfl) rfl #[.slice A0_6 l0_6.length c0_6] rfl d22_3 ?_; (with_reducible refine (impl_DataFault.calls kj40 _ _ l0_6 t686 _ ?side1 ?side2 A61.out).mono ?_); (case side1 => repeat (first | exact (Kd.C_below HR0_6.out d22_7) | (with_reducible refine Kd.C_alloc ?_ _) | (with_reducible refine Kd.C_drewN ?_ _) | (with_reducible refine Kd.C_drew ?_))); (case side2 => exact HC0_6.out); rintro e w63 ⟨rfl, hb⟩; refine ⟨_, rfl, ?_⟩; have n0_ := ak (blk_below (g := gb668) (o := .cells #[.int .i64 a0_0, .int .i64 a0_1, .int .i64 a0_2, .int .i64 a0_3, .int .i64 a0_4, .string a0_5, .slice A0_6 l0_6.length c0_6] 69 (0, 0)) (by (with_reducible repeat (first | refine blk_drewN ?_ _ | refine blk_drew ?_ | refine blk_alloc ?_ _)); exact BK668.out) hb); have n1_ := ak (below_step d22_7 hb); clear BK668 HB; have BK668 := n0_; have HB := n1_; clear n0_ n1_; (try clear hb)))
          go_ret
          exact ⟨by first | rfl | (simp [errW_none, errW_some] <;> rfl) | (simp [*, errW_none, errW_some] <;> rfl), by repeat (first | (with_reducible first | exact HB.out | apply below_alloc | apply pw_below_drewN | apply below_drew1 | refine below_set ?_ GE668.out) | exact HB.out)⟩
         ·replace c60 := Bool.eq_false_iff.mpr c60
          subst c60
          have H1 : (some 0) = some r := by rw [if_neg (show ¬ (false = true) by decide)] at H; exact H
          clear H
          have H := H1
          clear H1
          obtain rfl := Option.some.inj H
          have hcz64_0 : wc.cell? ⟨gb668, 0, none⟩ = some (.int .i64 a0_0) := (blk_cell BK668.out 0).trans rfl
          have hcz64_1 : wc.cell? ⟨gb668, 1, none⟩ = some (.int .i64 a0_1) := (blk_cell BK668.out 1).trans rfl
          have hcz64_2 : wc.cell? ⟨gb668, 2, none⟩ = some (.int .i64 a0_2) := (blk_cell BK668.out 2).trans rfl
          have hcz64_3 : wc.cell? ⟨gb668, 3, none⟩ = some (.int .i64 a0_3) := (blk_cell BK668.out 3).trans rfl
          have hcz64_4 : wc.cell? ⟨gb668, 4, none⟩ = some (.int .i64 a0_4) := (blk_cell BK668.out 4).trans rfl
          have hcz64_5 : wc.cell? ⟨gb668, 5, none⟩ = some (.string a0_5) := (blk_cell BK668.out 5).trans rfl
          have hcz64_6 : wc.cell? ⟨gb668, 6, none⟩ = some (.slice A0_6 l0_6.length c0_6) := (blk_cell BK668.out 6).trans rfl
          have hfz64_0 := blk_frozen BK668.out 0
          have hfz64_1 := blk_frozen BK668.out 1
          have hfz64_2 := blk_frozen BK668.out 2
          have hfz64_3 := blk_frozen BK668.out 3
          have hfz64_4 := blk_frozen BK668.out 4
          have hfz64_5 := blk_frozen BK668.out 5
          have hfz64_6 := blk_frozen BK668.out 6
          go_wp2_with (first | ((with_reducible refine gate_callee (f := 72) rfl ?_); refine goesL_ (some 72) rfl rfl Tryd.func72 (by kernel_rfl) rfl #[.int .i64 a0_0] rfl d22_3 ?_; (with_reducible refine (impl_opNamed.calls a0_0 false _ A54.out).mono ?_); rintro e w' ⟨rfl, ⟨nd, rfl⟩⟩; refine ⟨_, rfl, ?_⟩) | ((with_reducible refine gate_callee (f := 73) rfl ?_); refine goesL_ (some 79) rfl rfl Tryd.func73 (by kernel_rfl) rfl #[.int .i64 a0_0] rfl d22_3 ?_; (with_reducible refine (impl_opData.calls a0_0 false _ A59.out).mono ?_); rintro e w' ⟨rfl, ⟨nd, rfl⟩⟩; refine ⟨_, rfl, ?_⟩))
          go_ret
          exact ⟨by first | rfl | (simp [errW_none, errW_some] <;> rfl) | (simp [*, errW_none, errW_some] <;> rfl), by repeat (first | (with_reducible first | exact HB.out | apply below_alloc | apply pw_below_drewN | apply below_drew1 | refine below_set ?_ GE668.out) | exact HB.out)⟩

/-! ### laws_eqDatum: function 104 -/
def laws_eqDatum.f (a0_0 : Int) (a0_1 : Int) (a0_2 : Int) (a0_3 : ByteArray) (a1_0 : Int) (a1_1 : Int) (a1_2 : Int) (a1_3 : ByteArray) : Option (Bool) := if a0_0 = a1_0 then (if a0_1 = a1_1 then (if a0_2 = a1_2 then (if a0_3.toList = a1_3.toList then (some true) else (some false)) else (some false)) else (some false)) else (some false)
set_option maxHeartbeats 8000000 in
set_option maxRecDepth 100000 in
theorem laws_eqDatum.calls (a0_0 : Int) (a0_1 : Int) (a0_2 : Int) (a0_3 : ByteArray) (a1_0 : Int) (a1_1 : Int) (a1_2 : Int) (a1_3 : ByteArray) (r : Bool) (w : World) (h : laws_eqDatum.f a0_0 a0_1 a0_2 a0_3 a1_0 a1_1 a1_2 a1_3 = some r) :
    Calls Tryd.prog 104 #[.agg #[.int .i64 a0_0, .int .i64 a0_1, .int .i64 a0_2, .string a0_3], .agg #[.int .i64 a1_0, .int .i64 a1_1, .int .i64 a1_2, .string a1_3]] w fun e w' => e = .returned (.bool r) ∧ Below w.heap.size w w' := by
  have hu132 := Tryd.underlying132
  have HB := ak (Below.refl w.heap.size w)
  have H : (if a0_0 = a1_0 then (if a0_1 = a1_1 then (if a0_2 = a1_2 then (if a0_3.toList = a1_3.toList then (some true) else (some false)) else (some false)) else (some false)) else (some false)) = some r := h
  clear h
  by_cases c3 : a0_0 = a1_0
  ·rw [if_pos c3] at H
   have c3b0 : (a0_0 == a1_0) = true := beq_iff_eq.mpr c3
   have c3b1 : (a0_0 != a1_0) = false := bne_eq_false_iff_eq.mpr c3
   clear c3
   by_cases c4 : a0_1 = a1_1
   ·rw [if_pos c4] at H
    have c4b0 : (a0_1 == a1_1) = true := beq_iff_eq.mpr c4
    have c4b1 : (a0_1 != a1_1) = false := bne_eq_false_iff_eq.mpr c4
    clear c4
    by_cases c5 : a0_2 = a1_2
    ·rw [if_pos c5] at H
     have c5b0 : (a0_2 == a1_2) = true := beq_iff_eq.mpr c5
     have c5b1 : (a0_2 != a1_2) = false := bne_eq_false_iff_eq.mpr c5
     clear c5
     by_cases c6 : a0_3.toList = a1_3.toList
     ·rw [if_pos c6] at H
      have c6b0 : (a0_3.toList == a1_3.toList) = true := beq_iff_eq.mpr c6
      have c6b1 : (a0_3.toList != a1_3.toList) = false := bne_eq_false_iff_eq.mpr c6
      clear c6
      obtain rfl := Option.some.inj H
      go_enter Tryd.func104, Tryd.ntmps104
      go_wp2_with (first | ((with_reducible refine gate_dst (N := 2) rfl ?_); refine box_event ?hg (N := 2) ?hd (cs := #[.int .i64 a0_0, .int .i64 a0_1, .int .i64 a0_2, .string a0_3]) (t := 132) ?hr ?_; (case hd => rfl); (case hg => rfl); (case hr => first | (go_simp; done) | (go_simp; rfl)); intro gb687 hg w7 hbox hb; have n0_ := ak (below_step d22_2 hb); have n1_ := ak (hbox); have n2_ := ak ((d22_9 : w.heap.size ≤ gb687)); have n3_ := ak ((d22_9 : w.heap.size ≤ gb687)); clear HB; have HB := n0_; have BK687 := n1_; have GW687 := n2_; have GE687 := n3_; clear n0_ n1_ n2_ n3_ hb hbox hg) | ((with_reducible refine gate_dst (N := 3) rfl ?_); refine box_event ?hg (N := 3) ?hd (cs := #[.int .i64 a1_0, .int .i64 a1_1, .int .i64 a1_2, .string a1_3]) (t := 132) ?hr ?_; (case hd => rfl); (case hg => rfl); (case hr => first | (go_simp; done) | (go_simp; rfl)); intro gb688 hg w8 hbox hb; have n0_ := ak (blk_below (g := gb687) (o := .cells #[.int .i64 a0_0, .int .i64 a0_1, .int .i64 a0_2, .string a0_3] 132 (0, 0)) d22_4 hb); have n1_ := ak (below_step d22_1 hb); have n2_ := ak (hbox); have n3_ := ak ((by rw [hg]; exact (below_size d22_1) : w.heap.size ≤ gb688)); have n4_ := ak ((by rw [hg]; exact (below_size d22_1) : w.heap.size ≤ gb688)); have n5_ := ak ((by rw [hg]; exact Nat.ne_of_lt (blk_lt (g := gb687) (o := .cells #[.int .i64 a0_0, .int .i64 a0_1, .int .i64 a0_2, .string a0_3] 132 (0, 0)) d22_4) : gb687 ≠ gb688)); have n6_ := ak ((by rw [hg]; exact Nat.ne_of_gt (blk_lt (g := gb687) (o := .cells #[.int .i64 a0_0, .int .i64 a0_1, .int .i64 a0_2, .string a0_3] 132 (0, 0)) d22_4) : gb688 ≠ gb687)); clear BK687 HB; have BK687 := n0_; have HB := n1_; have BK688 := n2_; have GW688 := n3_; have GE688 := n4_; have NB687_688 := n5_; have NB688_687 := n6_; clear n0_ n1_ n2_ n3_ n4_ n5_ n6_ hb hbox hg; have hnb9 := NB687_688.out; have hnc9 := NB688_687.out; have hcz10_0 : w8.cell? ⟨gb687, 0, none⟩ = some (.int .i64 a0_0) := (blk_cell BK687.out 0).trans rfl; have hcz10_1 : w8.cell? ⟨gb687, 1, none⟩ = some (.int .i64 a0_1) := (blk_cell BK687.out 1).trans rfl; have hcz10_2 : w8.cell? ⟨gb687, 2, none⟩ = some (.int .i64 a0_2) := (blk_cell BK687.out 2).trans rfl; have hcz10_3 : w8.cell? ⟨gb687, 3, none⟩ = some (.string a0_3) := (blk_cell BK687.out 3).trans rfl; have hfz10_0 := blk_frozen BK687.out 0; have hfz10_1 := blk_frozen BK687.out 1; have hfz10_2 := blk_frozen BK687.out 2; have hfz10_3 := blk_frozen BK687.out 3; have hcz11_0 : w8.cell? ⟨gb688, 0, none⟩ = some (.int .i64 a1_0) := (blk_cell BK688.out 0).trans rfl; have hcz11_1 : w8.cell? ⟨gb688, 1, none⟩ = some (.int .i64 a1_1) := (blk_cell BK688.out 1).trans rfl; have hcz11_2 : w8.cell? ⟨gb688, 2, none⟩ = some (.int .i64 a1_2) := (blk_cell BK688.out 2).trans rfl; have hcz11_3 : w8.cell? ⟨gb688, 3, none⟩ = some (.string a1_3) := (blk_cell BK688.out 3).trans rfl; have hfz11_0 := blk_frozen BK688.out 0; have hfz11_1 := blk_frozen BK688.out 1; have hfz11_2 := blk_frozen BK688.out 2; have hfz11_3 := blk_frozen BK688.out 3))
      go_ret
      exact ⟨by first | rfl | (simp [errW_none, errW_some] <;> rfl) | (simp [*, errW_none, errW_some] <;> rfl), by repeat (first | (with_reducible first | exact HB.out | apply below_alloc | apply pw_below_drewN | apply below_drew1 | refine below_set ?_ GE687.out | refine below_set ?_ GE688.out) | exact HB.out)⟩
     ·rw [if_neg c6] at H
      have c6b0 : (a0_3.toList == a1_3.toList) = false := beq_eq_false_iff_ne.mpr c6
      have c6b1 : (a0_3.toList != a1_3.toList) = true := bne_iff_ne.mpr c6
      obtain rfl := Option.some.inj H
      go_enter Tryd.func104, Tryd.ntmps104
      go_wp2_with (first | ((with_reducible refine gate_dst (N := 2) rfl ?_); refine box_event ?hg (N := 2) ?hd (cs := #[.int .i64 a0_0, .int .i64 a0_1, .int .i64 a0_2, .string a0_3]) (t := 132) ?hr ?_; (case hd => rfl); (case hg => rfl); (case hr => first | (go_simp; done) | (go_simp; rfl)); intro gb687 hg w12 hbox hb; have n0_ := ak (below_step d22_2 hb); have n1_ := ak (hbox); have n2_ := ak ((d22_9 : w.heap.size ≤ gb687)); have n3_ := ak ((d22_9 : w.heap.size ≤ gb687)); clear HB; have HB := n0_; have BK687 := n1_; have GW687 := n2_; have GE687 := n3_; clear n0_ n1_ n2_ n3_ hb hbox hg) | ((with_reducible refine gate_dst (N := 3) rfl ?_); refine box_event ?hg (N := 3) ?hd (cs := #[.int .i64 a1_0, .int .i64 a1_1, .int .i64 a1_2, .string a1_3]) (t := 132) ?hr ?_; (case hd => rfl); (case hg => rfl); (case hr => first | (go_simp; done) | (go_simp; rfl)); intro gb688 hg w13 hbox hb; have n0_ := ak (blk_below (g := gb687) (o := .cells #[.int .i64 a0_0, .int .i64 a0_1, .int .i64 a0_2, .string a0_3] 132 (0, 0)) d22_4 hb); have n1_ := ak (below_step d22_1 hb); have n2_ := ak (hbox); have n3_ := ak ((by rw [hg]; exact (below_size d22_1) : w.heap.size ≤ gb688)); have n4_ := ak ((by rw [hg]; exact (below_size d22_1) : w.heap.size ≤ gb688)); have n5_ := ak ((by rw [hg]; exact Nat.ne_of_lt (blk_lt (g := gb687) (o := .cells #[.int .i64 a0_0, .int .i64 a0_1, .int .i64 a0_2, .string a0_3] 132 (0, 0)) d22_4) : gb687 ≠ gb688)); have n6_ := ak ((by rw [hg]; exact Nat.ne_of_gt (blk_lt (g := gb687) (o := .cells #[.int .i64 a0_0, .int .i64 a0_1, .int .i64 a0_2, .string a0_3] 132 (0, 0)) d22_4) : gb688 ≠ gb687)); clear BK687 HB; have BK687 := n0_; have HB := n1_; have BK688 := n2_; have GW688 := n3_; have GE688 := n4_; have NB687_688 := n5_; have NB688_687 := n6_; clear n0_ n1_ n2_ n3_ n4_ n5_ n6_ hb hbox hg; have hnb14 := NB687_688.out; have hnc14 := NB688_687.out; have hcz15_0 : w13.cell? ⟨gb687, 0, none⟩ = some (.int .i64 a0_0) := (blk_cell BK687.out 0).trans rfl; have hcz15_1 : w13.cell? ⟨gb687, 1, none⟩ = some (.int .i64 a0_1) := (blk_cell BK687.out 1).trans rfl; have hcz15_2 : w13.cell? ⟨gb687, 2, none⟩ = some (.int .i64 a0_2) := (blk_cell BK687.out 2).trans rfl; have hcz15_3 : w13.cell? ⟨gb687, 3, none⟩ = some (.string a0_3) := (blk_cell BK687.out 3).trans rfl; have hfz15_0 := blk_frozen BK687.out 0; have hfz15_1 := blk_frozen BK687.out 1; have hfz15_2 := blk_frozen BK687.out 2; have hfz15_3 := blk_frozen BK687.out 3; have hcz16_0 : w13.cell? ⟨gb688, 0, none⟩ = some (.int .i64 a1_0) := (blk_cell BK688.out 0).trans rfl; have hcz16_1 : w13.cell? ⟨gb688, 1, none⟩ = some (.int .i64 a1_1) := (blk_cell BK688.out 1).trans rfl; have hcz16_2 : w13.cell? ⟨gb688, 2, none⟩ = some (.int .i64 a1_2) := (blk_cell BK688.out 2).trans rfl; have hcz16_3 : w13.cell? ⟨gb688, 3, none⟩ = some (.string a1_3) := (blk_cell BK688.out 3).trans rfl; have hfz16_0 := blk_frozen BK688.out 0; have hfz16_1 := blk_frozen BK688.out 1; have hfz16_2 := blk_frozen BK688.out 2; have hfz16_3 := blk_frozen BK688.out 3))
      go_ret
      exact ⟨by first | rfl | (simp [errW_none, errW_some] <;> rfl) | (simp [*, errW_none, errW_some] <;> rfl), by repeat (first | (with_reducible first | exact HB.out | apply below_alloc | apply pw_below_drewN | apply below_drew1 | refine below_set ?_ GE687.out | refine below_set ?_ GE688.out) | exact HB.out)⟩
    ·rw [if_neg c5] at H
     have c5b0 : (a0_2 == a1_2) = false := beq_eq_false_iff_ne.mpr c5
     have c5b1 : (a0_2 != a1_2) = true := bne_iff_ne.mpr c5
     obtain rfl := Option.some.inj H
     go_enter Tryd.func104, Tryd.ntmps104
     go_wp2_with (first | ((with_reducible refine gate_dst (N := 2) rfl ?_); refine box_event ?hg (N := 2) ?hd (cs := #[.int .i64 a0_0, .int .i64 a0_1, .int .i64 a0_2, .string a0_3]) (t := 132) ?hr ?_; (case hd => rfl); (case hg => rfl); (case hr => first | (go_simp; done) | (go_simp; rfl)); intro gb687 hg w17 hbox hb; have n0_ := ak (below_step d22_2 hb); have n1_ := ak (hbox); have n2_ := ak ((d22_9 : w.heap.size ≤ gb687)); have n3_ := ak ((d22_9 : w.heap.size ≤ gb687)); clear HB; have HB := n0_; have BK687 := n1_; have GW687 := n2_; have GE687 := n3_; clear n0_ n1_ n2_ n3_ hb hbox hg) | ((with_reducible refine gate_dst (N := 3) rfl ?_); refine box_event ?hg (N := 3) ?hd (cs := #[.int .i64 a1_0, .int .i64 a1_1, .int .i64 a1_2, .string a1_3]) (t := 132) ?hr ?_; (case hd => rfl); (case hg => rfl); (case hr => first | (go_simp; done) | (go_simp; rfl)); intro gb688 hg w18 hbox hb; have n0_ := ak (blk_below (g := gb687) (o := .cells #[.int .i64 a0_0, .int .i64 a0_1, .int .i64 a0_2, .string a0_3] 132 (0, 0)) d22_4 hb); have n1_ := ak (below_step d22_1 hb); have n2_ := ak (hbox); have n3_ := ak ((by rw [hg]; exact (below_size d22_1) : w.heap.size ≤ gb688)); have n4_ := ak ((by rw [hg]; exact (below_size d22_1) : w.heap.size ≤ gb688)); have n5_ := ak ((by rw [hg]; exact Nat.ne_of_lt (blk_lt (g := gb687) (o := .cells #[.int .i64 a0_0, .int .i64 a0_1, .int .i64 a0_2, .string a0_3] 132 (0, 0)) d22_4) : gb687 ≠ gb688)); have n6_ := ak ((by rw [hg]; exact Nat.ne_of_gt (blk_lt (g := gb687) (o := .cells #[.int .i64 a0_0, .int .i64 a0_1, .int .i64 a0_2, .string a0_3] 132 (0, 0)) d22_4) : gb688 ≠ gb687)); clear BK687 HB; have BK687 := n0_; have HB := n1_; have BK688 := n2_; have GW688 := n3_; have GE688 := n4_; have NB687_688 := n5_; have NB688_687 := n6_; clear n0_ n1_ n2_ n3_ n4_ n5_ n6_ hb hbox hg; have hnb19 := NB687_688.out; have hnc19 := NB688_687.out; have hcz20_0 : w18.cell? ⟨gb687, 0, none⟩ = some (.int .i64 a0_0) := (blk_cell BK687.out 0).trans rfl; have hcz20_1 : w18.cell? ⟨gb687, 1, none⟩ = some (.int .i64 a0_1) := (blk_cell BK687.out 1).trans rfl; have hcz20_2 : w18.cell? ⟨gb687, 2, none⟩ = some (.int .i64 a0_2) := (blk_cell BK687.out 2).trans rfl; have hcz20_3 : w18.cell? ⟨gb687, 3, none⟩ = some (.string a0_3) := (blk_cell BK687.out 3).trans rfl; have hfz20_0 := blk_frozen BK687.out 0; have hfz20_1 := blk_frozen BK687.out 1; have hfz20_2 := blk_frozen BK687.out 2; have hfz20_3 := blk_frozen BK687.out 3; have hcz21_0 : w18.cell? ⟨gb688, 0, none⟩ = some (.int .i64 a1_0) := (blk_cell BK688.out 0).trans rfl; have hcz21_1 : w18.cell? ⟨gb688, 1, none⟩ = some (.int .i64 a1_1) := (blk_cell BK688.out 1).trans rfl; have hcz21_2 : w18.cell? ⟨gb688, 2, none⟩ = some (.int .i64 a1_2) := (blk_cell BK688.out 2).trans rfl; have hcz21_3 : w18.cell? ⟨gb688, 3, none⟩ = some (.string a1_3) := (blk_cell BK688.out 3).trans rfl; have hfz21_0 := blk_frozen BK688.out 0; have hfz21_1 := blk_frozen BK688.out 1; have hfz21_2 := blk_frozen BK688.out 2; have hfz21_3 := blk_frozen BK688.out 3))
     go_ret
     exact ⟨by first | rfl | (simp [errW_none, errW_some] <;> rfl) | (simp [*, errW_none, errW_some] <;> rfl), by repeat (first | (with_reducible first | exact HB.out | apply below_alloc | apply pw_below_drewN | apply below_drew1 | refine below_set ?_ GE687.out | refine below_set ?_ GE688.out) | exact HB.out)⟩
   ·rw [if_neg c4] at H
    have c4b0 : (a0_1 == a1_1) = false := beq_eq_false_iff_ne.mpr c4
    have c4b1 : (a0_1 != a1_1) = true := bne_iff_ne.mpr c4
    obtain rfl := Option.some.inj H
    go_enter Tryd.func104, Tryd.ntmps104
    go_wp2_with (first | ((with_reducible refine gate_dst (N := 2) rfl ?_); refine box_event ?hg (N := 2) ?hd (cs := #[.int .i64 a0_0, .int .i64 a0_1, .int .i64 a0_2, .string a0_3]) (t := 132) ?hr ?_; (case hd => rfl); (case hg => rfl); (case hr => first | (go_simp; done) | (go_simp; rfl)); intro gb687 hg w22 hbox hb; have n0_ := ak (below_step d22_2 hb); have n1_ := ak (hbox); have n2_ := ak ((d22_9 : w.heap.size ≤ gb687)); have n3_ := ak ((d22_9 : w.heap.size ≤ gb687)); clear HB; have HB := n0_; have BK687 := n1_; have GW687 := n2_; have GE687 := n3_; clear n0_ n1_ n2_ n3_ hb hbox hg) | ((with_reducible refine gate_dst (N := 3) rfl ?_); refine box_event ?hg (N := 3) ?hd (cs := #[.int .i64 a1_0, .int .i64 a1_1, .int .i64 a1_2, .string a1_3]) (t := 132) ?hr ?_; (case hd => rfl); (case hg => rfl); (case hr => first | (go_simp; done) | (go_simp; rfl)); intro gb688 hg w23 hbox hb; have n0_ := ak (blk_below (g := gb687) (o := .cells #[.int .i64 a0_0, .int .i64 a0_1, .int .i64 a0_2, .string a0_3] 132 (0, 0)) d22_4 hb); have n1_ := ak (below_step d22_1 hb); have n2_ := ak (hbox); have n3_ := ak ((by rw [hg]; exact (below_size d22_1) : w.heap.size ≤ gb688)); have n4_ := ak ((by rw [hg]; exact (below_size d22_1) : w.heap.size ≤ gb688)); have n5_ := ak ((by rw [hg]; exact Nat.ne_of_lt (blk_lt (g := gb687) (o := .cells #[.int .i64 a0_0, .int .i64 a0_1, .int .i64 a0_2, .string a0_3] 132 (0, 0)) d22_4) : gb687 ≠ gb688)); have n6_ := ak ((by rw [hg]; exact Nat.ne_of_gt (blk_lt (g := gb687) (o := .cells #[.int .i64 a0_0, .int .i64 a0_1, .int .i64 a0_2, .string a0_3] 132 (0, 0)) d22_4) : gb688 ≠ gb687)); clear BK687 HB; have BK687 := n0_; have HB := n1_; have BK688 := n2_; have GW688 := n3_; have GE688 := n4_; have NB687_688 := n5_; have NB688_687 := n6_; clear n0_ n1_ n2_ n3_ n4_ n5_ n6_ hb hbox hg; have hnb24 := NB687_688.out; have hnc24 := NB688_687.out; have hcz25_0 : w23.cell? ⟨gb687, 0, none⟩ = some (.int .i64 a0_0) := (blk_cell BK687.out 0).trans rfl; have hcz25_1 : w23.cell? ⟨gb687, 1, none⟩ = some (.int .i64 a0_1) := (blk_cell BK687.out 1).trans rfl; have hcz25_2 : w23.cell? ⟨gb687, 2, none⟩ = some (.int .i64 a0_2) := (blk_cell BK687.out 2).trans rfl; have hcz25_3 : w23.cell? ⟨gb687, 3, none⟩ = some (.string a0_3) := (blk_cell BK687.out 3).trans rfl; have hfz25_0 := blk_frozen BK687.out 0; have hfz25_1 := blk_frozen BK687.out 1; have hfz25_2 := blk_frozen BK687.out 2; have hfz25_3 := blk_frozen BK687.out 3; have hcz26_0 : w23.cell? ⟨gb688, 0, none⟩ = some (.int .i64 a1_0) := (blk_cell BK688.out 0).trans rfl; have hcz26_1 : w23.cell? ⟨gb688, 1, none⟩ = some (.int .i64 a1_1) := (blk_cell BK688.out 1).trans rfl; have hcz26_2 : w23.cell? ⟨gb688, 2, none⟩ = some (.int .i64 a1_2) := (blk_cell BK688.out 2).trans rfl; have hcz26_3 : w23.cell? ⟨gb688, 3, none⟩ = some (.string a1_3) := (blk_cell BK688.out 3).trans rfl; have hfz26_0 := blk_frozen BK688.out 0; have hfz26_1 := blk_frozen BK688.out 1; have hfz26_2 := blk_frozen BK688.out 2; have hfz26_3 := blk_frozen BK688.out 3))
    go_ret
    exact ⟨by first | rfl | (simp [errW_none, errW_some] <;> rfl) | (simp [*, errW_none, errW_some] <;> rfl), by repeat (first | (with_reducible first | exact HB.out | apply below_alloc | apply pw_below_drewN | apply below_drew1 | refine below_set ?_ GE687.out | refine below_set ?_ GE688.out) | exact HB.out)⟩
  ·rw [if_neg c3] at H
   have c3b0 : (a0_0 == a1_0) = false := beq_eq_false_iff_ne.mpr c3
   have c3b1 : (a0_0 != a1_0) = true := bne_iff_ne.mpr c3
   obtain rfl := Option.some.inj H
   go_enter Tryd.func104, Tryd.ntmps104
   go_wp2_with (first | ((with_reducible refine gate_dst (N := 2) rfl ?_); refine box_event ?hg (N := 2) ?hd (cs := #[.int .i64 a0_0, .int .i64 a0_1, .int .i64 a0_2, .string a0_3]) (t := 132) ?hr ?_; (case hd => rfl); (case hg => rfl); (case hr => first | (go_simp; done) | (go_simp; rfl)); intro gb687 hg w27 hbox hb; have n0_ := ak (below_step d22_2 hb); have n1_ := ak (hbox); have n2_ := ak ((d22_9 : w.heap.size ≤ gb687)); have n3_ := ak ((d22_9 : w.heap.size ≤ gb687)); clear HB; have HB := n0_; have BK687 := n1_; have GW687 := n2_; have GE687 := n3_; clear n0_ n1_ n2_ n3_ hb hbox hg) | ((with_reducible refine gate_dst (N := 3) rfl ?_); refine box_event ?hg (N := 3) ?hd (cs := #[.int .i64 a1_0, .int .i64 a1_1, .int .i64 a1_2, .string a1_3]) (t := 132) ?hr ?_; (case hd => rfl); (case hg => rfl); (case hr => first | (go_simp; done) | (go_simp; rfl)); intro gb688 hg w28 hbox hb; have n0_ := ak (blk_below (g := gb687) (o := .cells #[.int .i64 a0_0, .int .i64 a0_1, .int .i64 a0_2, .string a0_3] 132 (0, 0)) d22_4 hb); have n1_ := ak (below_step d22_1 hb); have n2_ := ak (hbox); have n3_ := ak ((by rw [hg]; exact (below_size d22_1) : w.heap.size ≤ gb688)); have n4_ := ak ((by rw [hg]; exact (below_size d22_1) : w.heap.size ≤ gb688)); have n5_ := ak ((by rw [hg]; exact Nat.ne_of_lt (blk_lt (g := gb687) (o := .cells #[.int .i64 a0_0, .int .i64 a0_1, .int .i64 a0_2, .string a0_3] 132 (0, 0)) d22_4) : gb687 ≠ gb688)); have n6_ := ak ((by rw [hg]; exact Nat.ne_of_gt (blk_lt (g := gb687) (o := .cells #[.int .i64 a0_0, .int .i64 a0_1, .int .i64 a0_2, .string a0_3] 132 (0, 0)) d22_4) : gb688 ≠ gb687)); clear BK687 HB; have BK687 := n0_; have HB := n1_; have BK688 := n2_; have GW688 := n3_; have GE688 := n4_; have NB687_688 := n5_; have NB688_687 := n6_; clear n0_ n1_ n2_ n3_ n4_ n5_ n6_ hb hbox hg; have hnb29 := NB687_688.out; have hnc29 := NB688_687.out; have hcz30_0 : w28.cell? ⟨gb687, 0, none⟩ = some (.int .i64 a0_0) := (blk_cell BK687.out 0).trans rfl; have hcz30_1 : w28.cell? ⟨gb687, 1, none⟩ = some (.int .i64 a0_1) := (blk_cell BK687.out 1).trans rfl; have hcz30_2 : w28.cell? ⟨gb687, 2, none⟩ = some (.int .i64 a0_2) := (blk_cell BK687.out 2).trans rfl; have hcz30_3 : w28.cell? ⟨gb687, 3, none⟩ = some (.string a0_3) := (blk_cell BK687.out 3).trans rfl; have hfz30_0 := blk_frozen BK687.out 0; have hfz30_1 := blk_frozen BK687.out 1; have hfz30_2 := blk_frozen BK687.out 2; have hfz30_3 := blk_frozen BK687.out 3; have hcz31_0 : w28.cell? ⟨gb688, 0, none⟩ = some (.int .i64 a1_0) := (blk_cell BK688.out 0).trans rfl; have hcz31_1 : w28.cell? ⟨gb688, 1, none⟩ = some (.int .i64 a1_1) := (blk_cell BK688.out 1).trans rfl; have hcz31_2 : w28.cell? ⟨gb688, 2, none⟩ = some (.int .i64 a1_2) := (blk_cell BK688.out 2).trans rfl; have hcz31_3 : w28.cell? ⟨gb688, 3, none⟩ = some (.string a1_3) := (blk_cell BK688.out 3).trans rfl; have hfz31_0 := blk_frozen BK688.out 0; have hfz31_1 := blk_frozen BK688.out 1; have hfz31_2 := blk_frozen BK688.out 2; have hfz31_3 := blk_frozen BK688.out 3))
   go_ret
   exact ⟨by first | rfl | (simp [errW_none, errW_some] <;> rfl) | (simp [*, errW_none, errW_some] <;> rfl), by repeat (first | (with_reducible first | exact HB.out | apply below_alloc | apply pw_below_drewN | apply below_drew1 | refine below_set ?_ GE687.out | refine below_set ?_ GE688.out) | exact HB.out)⟩

end Go.Proofs.YthjfdohcdkpdnaaDoor.A
