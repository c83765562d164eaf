/- Walks of the program's functions: each Go function's answer as a plain Lean function, and that the call comes to it. Written by a program. Conditions: those in each theorem's own head. -/
import Derived.Test.YtaeeoljihmndfaaDoorA0
import Derived.Test.YtaeeoljihmndfaaDoorA23
namespace Go.Proofs.YtaeeoljihmndfaaDoor.A
open Go.RowKit Go.Proofs.YtaeeoljihmndfaaDoorW.PrintWords Go.Proofs.YtaeeoljihmndfaaDoorW.PrintLast Go.Proofs.YtaeeoljihmndfaaDoorW.PrintMore
attribute [local go_sem] max2_int min2_int max_two min_two max_three min_three max_four min_four   -- for this text's walks alone
set_option linter.unusedVariables false
set_option linter.unusedSimpArgs false

theorem d24_1 {p : Prop} (h : p := by repeat (first | (with_reducible first | exact HB.out | apply below_alloc | apply pw_below_drewN | apply below_drew1 | refine below_set ?_ GE557.out | refine below_set ?_ GE558.out) | exact HB.out)) : p := h
theorem d24_2 {p : Prop} (h : p := by (with_reducible repeat (first | refine blk_drewN ?_ _ | refine blk_drew ?_ | refine blk_alloc ?_ _)); exact BK557.out) : p := h
theorem d24_3 {p : Prop} (h : p := by repeat (first | (with_reducible first | exact HB.out | apply below_alloc | apply pw_below_drewN | apply below_drew1 | refine below_set ?_ GE557.out) | exact HB.out)) : p := h
theorem d24_4 {p : Prop} (h : p := by (with_reducible repeat (first | refine blk_drewN ?_ _ | refine blk_drew ?_ | refine blk_alloc ?_ _)); exact BK558.out) : p := h
theorem d24_5 {p : Prop} (h : p := by repeat (first | (with_reducible first | exact HB.out | apply below_alloc | apply pw_below_drewN | apply below_drew1) | exact HB.out)) : p := h
theorem d24_6 {p : Prop} (h : p := by first | (with_reducible assumption) | assumption) : p := h
theorem d24_7 {p : Prop} (h : p := by (with_reducible repeat (first | apply Kd.R_alloc | apply Kd.R_drewN | apply Kd.R_drew)); exact HO561.out) : p := h

/-! ### impl_ListFrom: function 35 -/
def impl_ListFrom.l0 : Nat → List (S112) → List (S32) → Int → Int → ByteArray → Option (Int × (List (S32)) × Int × Int × ByteArray)
  | 0, _, _, _, _, _ => none
  | k + 1, x0, x6, x558000, x558001, x558002 => if x558000 = 5 then (if 0 ≤ x558001 then (if x558001 < (x0.length : Int) then (if x6.length < 4398046511104 then ((some (x6 ++ [(⟨(rd_T112 x0 x558001).f0.f0, (rd_T112 x0 x558001).f0.f1, (rd_T112 x0 x558001).f0.f2⟩ : S32)] : List (S32))).bind fun y567 => (if (y567.length : Int) > 200 then (some (2, ([] : List (S32)), 0, 0, (⟨#[]⟩ : ByteArray))) else (impl_ListFrom.l0 k x0 y567 ((rd_T112 x0 x558001).f1.f0) ((rd_T112 x0 x558001).f1.f1) ((rd_T112 x0 x558001).f1.f2)))) else (none)) else (none)) else (none)) else (some (0, x6, x558000, x558001, x558002))
def impl_ListFrom.f (k : Nat) (l0 : List (S112)) (a1_0 : Int) (a1_1 : Int) (a1_2 : ByteArray) : Option (Int × (List (S32)) × Int × Int × ByteArray) := (impl_heapFault.f k l0 (([(⟨a1_0, a1_1, a1_2⟩ : S32)] : List (S32)))).bind fun t562 => (if t562 = 0 then (impl_ListFrom.l0 k l0 (([] : List (S32))) a1_0 a1_1 a1_2) else (some (t562, ([] : List (S32)), 0, 0, (⟨#[]⟩ : ByteArray))))
theorem impl_ListFrom.mono_l : ∀ k, (∀ y0 y1 y2 y3 y4, LeO (impl_ListFrom.l0 k y0 y1 y2 y3 y4) (impl_ListFrom.l0 (k + 1) y0 y1 y2 y3 y4))
  | 0 => fun _ _ _ _ _ r h => by simp [impl_ListFrom.l0] at h
  | k + 1 => by
    have ih0 := impl_ListFrom.mono_l k
    · intro y0 y1 y2 y3 y4
      unfold impl_ListFrom.l0
      repeat' first
      | (with_reducible exact ih0 _ _ _ _ _)
      | (with_reducible exact impl_heapFault.mono _ _ _)
      | (with_reducible exact LeO.refl _)
      | (with_reducible exact LeO.none _)
      | (with_reducible refine LeO.ite ?_ ?_)
      | (with_reducible refine LeO.bind ?_ (fun _ => ?_))
      | exact ih0 _ _ _ _ _
      | exact impl_heapFault.mono _ _ _
      | exact LeO.none _
      | refine LeO.ite ?_ ?_
      | refine LeO.bind ?_ (fun _ => ?_)
theorem impl_ListFrom.mono : ∀ a0 a1 a2 a3 k, LeO (impl_ListFrom.f k a0 a1 a2 a3) (impl_ListFrom.f (k + 1) a0 a1 a2 a3) := by
  intro a0 a1 a2 a3 k
  have ih0 := impl_ListFrom.mono_l k
  unfold impl_ListFrom.f
  repeat' first
      | (with_reducible exact ih0 _ _ _ _ _)
      | (with_reducible exact impl_heapFault.mono _ _ _)
      | (with_reducible exact LeO.refl _)
      | (with_reducible exact LeO.none _)
      | (with_reducible refine LeO.ite ?_ ?_)
      | (with_reducible refine LeO.bind ?_ (fun _ => ?_))
      | exact ih0 _ _ _ _ _
      | exact impl_heapFault.mono _ _ _
      | exact LeO.none _
      | refine LeO.ite ?_ ?_
      | refine LeO.bind ?_ (fun _ => ?_)
def impl_ListFrom.T6 : Bool × List (List Nat × List Nat) := (true, [([], []), ([], []), ([], []), ([2], [2]), ([1, 3], [1, 3]), ([4], [4]), ([5], [5]), ([6], [6]), ([0, 7], [0, 7]), ([], []), ([], []), ([10], [10]), ([9, 11], [9, 11]), ([12], [12]), ([13], [13]), ([8, 8, 0, 1, 2, 3, 4, 5, 6, 7, 8], [0, 8]), ([14, 15, 0, 1, 2, 3, 4, 5, 6, 7, 8, 9, 10, 11, 12, 13, 14, 15], [14])])
def impl_ListFrom.B6 : List Nat := [0, 0, 0, 4, 14, 30, 62, 126, 255, 0, 0, 1024, 3584, 7680, 15872, 511, 65535]
theorem impl_ListFrom.tab6 : rtab .any (opsOf Tryd.f35 6) = impl_ListFrom.T6 := by kernel_rfl
theorem impl_ListFrom.bits6 : waitsOk impl_ListFrom.T6.2 impl_ListFrom.B6 = true := by kernel_rfl
set_option maxHeartbeats 8000000 in
set_option maxRecDepth 100000 in
theorem impl_ListFrom.calls (k : Nat) (A0 : Option Addr) (c0 : Nat) (l0 : List (S112)) (a1_0 : Int) (a1_1 : Int) (a1_2 : ByteArray) (r1 : Int) (r2 : List (S32)) (r3 : Int) (r4 : Int) (r5 : ByteArray) (w : World) (hr0 : Kd.C k112 w A0 l0.length l0) (hc0 : l0.length ≤ c0) (h : impl_ListFrom.f k l0 a1_0 a1_1 a1_2 = some (r1, r2, r3, r4, r5)) :
    Calls Tryd.prog 35 #[.slice A0 l0.length c0, .agg #[.int .i64 a1_0, .int .i64 a1_1, .string a1_2]] w fun e w' => ∃ v1_ : Value, e = .returned (.agg #[.int .i64 r1, v1_, .int .i64 r3, .int .i64 r4, .string r5]) ∧ Kd.R k32 32 w' w.heap.size (fun _ => True) v1_ r2 ∧ Below w.heap.size w w' := by
  have hu32 := Tryd.underlying32
  have hu61 := Tryd.underlying61
  have HR0 := ak hr0
  have HC0 := ak hc0
  clear hr0 hc0
  have HB := ak (Below.refl w.heap.size w)
  have H : ((impl_heapFault.f k l0 (([(⟨a1_0, a1_1, a1_2⟩ : S32)] : List (S32)))).bind fun t562 => (if t562 = 0 then (impl_ListFrom.l0 k l0 (([] : List (S32))) a1_0 a1_1 a1_2) else (some (t562, ([] : List (S32)), 0, 0, (⟨#[]⟩ : ByteArray))))) = some (r1, r2, r3, r4, r5) := h
  clear h
  obtain ⟨y559, hy559⟩ : ∃ y_ : List (S32), y_ = (([(⟨a1_0, a1_1, a1_2⟩ : S32)] : List (S32))) := ⟨_, rfl⟩
  replace H : ((impl_heapFault.f k l0 y559).bind fun t562 => (if t562 = 0 then (impl_ListFrom.l0 k l0 (([] : List (S32))) a1_0 a1_1 a1_2) else (some (t562, ([] : List (S32)), 0, 0, (⟨#[]⟩ : ByteArray))))) = some (r1, r2, r3, r4, r5) := by first | (rw [hy559]; with_reducible exact H) | (have H2_ := (Option.bind_some _ _).symm.trans H; rw [hy559]; with_reducible exact H2_) | (have H2_ := (Option.bind_some _ _).symm.trans H; with_reducible exact H2_) | with_reducible exact H | (rw [hy559]; exact H) | exact H
  have Ny559 := ak hy559
  clear hy559
  replace H := Option.bind_eq_some_iff.mp H
  obtain ⟨t562, A30, H⟩ := H
  replace H : (if t562 = 0 then (impl_ListFrom.l0 k l0 (([] : List (S32))) a1_0 a1_1 a1_2) else (some (t562, ([] : List (S32)), 0, 0, (⟨#[]⟩ : ByteArray)))) = some (r1, r2, r3, r4, r5) := H
  have A3 := ak A30
  clear A30
  by_cases c4 : t562 = 0
  ·rw [if_pos c4] at H
   have c4b0 : (t562 == 0) = true := beq_iff_eq.mpr c4
   have c4b1 : (t562 != 0) = false := bne_eq_false_iff_eq.mpr c4
   clear c4
   obtain ⟨y563, hy563⟩ : ∃ y_ : List (S32), y_ = (([] : List (S32))) := ⟨_, rfl⟩
   replace H : (impl_ListFrom.l0 k l0 y563 a1_0 a1_1 a1_2) = some (r1, r2, r3, r4, r5) := by first | (rw [hy563]; with_reducible exact H) | (have H2_ := (Option.bind_some _ _).symm.trans H; rw [hy563]; with_reducible exact H2_) | (have H2_ := (Option.bind_some _ _).symm.trans H; with_reducible exact H2_) | with_reducible exact H | (rw [hy563]; exact H) | exact H
   have Ny563 := ak hy563
   clear hy563
   have H' := ak H
   clear H
   go_enter Tryd.func35, Tryd.ntmps35
   go_wp2_with (first | ((with_reducible refine gate_dst (N := 3) rfl ?_); refine box_event ?hg (N := 3) ?hd (cs := #[.int .i64 a1_0, .int .i64 a1_1, .string a1_2]) (t := 32) ?hr ?_; (case hd => rfl); (case hg => rfl); (case hr => first | (go_simp; done) | (go_simp; rfl)); intro gb557 hg w5 hbox hb; have n0_ := ak (below_step d24_5 hb); have n1_ := ak (hbox); have n2_ := ak ((by rw [hg]; exact (below_size d24_5) : w.heap.size ≤ gb557)); have n3_ := ak ((by rw [hg]; exact (below_size d24_5) : w.heap.size ≤ gb557)); clear HB; have HB := n0_; have BK557 := n1_; have GW557 := n2_; have GE557 := n3_; clear n0_ n1_ n2_ n3_ hb hbox hg) | ((with_reducible refine gate_dst (N := 4) rfl ?_); refine box_event ?hg (N := 4) ?hd (cs := #[.int .i64 0, .slice none 0 0, .int .i64 0, .int .i64 0, .string (⟨#[]⟩ : ByteArray)]) (t := 61) ?hr ?_; (case hd => rfl); (case hg => rfl); (case hr => first | (go_simp; done) | (go_simp; rfl)); intro gb558 hg w6 hbox hb; have n0_ := ak (blk_below (g := gb557) (o := .cells #[.int .i64 a1_0, .int .i64 a1_1, .string a1_2] 32 (0, 0)) d24_2 hb); have n1_ := ak (below_step d24_3 hb); have n2_ := ak (hbox); have n3_ := ak ((by rw [hg]; exact (below_size d24_3) : w.heap.size ≤ gb558)); have n4_ := ak ((by rw [hg]; exact (below_size d24_3) : w.heap.size ≤ gb558)); have n5_ := ak ((by rw [hg]; exact Nat.ne_of_lt (blk_lt (g := gb557) (o := .cells #[.int .i64 a1_0, .int .i64 a1_1, .string a1_2] 32 (0, 0)) d24_2) : gb557 ≠ gb558)); have n6_ := ak ((by rw [hg]; exact Nat.ne_of_gt (blk_lt (g := gb557) (o := .cells #[.int .i64 a1_0, .int .i64 a1_1, .string a1_2] 32 (0, 0)) d24_2) : gb558 ≠ gb557)); clear BK557 HB; have BK557 := n0_; have HB := n1_; have BK558 := n2_; have GW558 := n3_; have GE558 := n4_; have NB557_558 := n5_; have NB558_557 := n6_; clear n0_ n1_ n2_ n3_ n4_ n5_ n6_ hb hbox hg; have hnb7 := NB557_558.out; have hnc7 := NB558_557.out; have hcz8_0 : w6.cell? ⟨gb557, 0, none⟩ = some (.int .i64 a1_0) := (blk_cell BK557.out 0).trans rfl; have hcz8_1 : w6.cell? ⟨gb557, 1, none⟩ = some (.int .i64 a1_1) := (blk_cell BK557.out 1).trans rfl; have hcz8_2 : w6.cell? ⟨gb557, 2, none⟩ = some (.string a1_2) := (blk_cell BK557.out 2).trans rfl; have hfz8_0 := blk_frozen BK557.out 0; have hfz8_1 := blk_frozen BK557.out 1; have hfz8_2 := blk_frozen BK557.out 2) | ((with_reducible refine gate_dst (N := 9) rfl ?_); refine Kd.R_lit k32 _ 32 ?hg (N := 9) ?hd (xs := ([(⟨a1_0, a1_1, a1_2⟩ : S32)] : List (S32))) (inner := [.int .i64 a1_0, .int .i64 a1_1, .string a1_2]) (ok := fun _ => True) (okp := fun _ => True) ?hr ?hp (fun _ hk => hk) trivial (Below.refl _ _) (Nat.le_refl _) (by simp) ?_; (case hd => rfl); (case hg => rfl); (case hr => first | (go_simp; done) | (go_simp; rfl)); (case hp => exact (Reps.c3 (show Kd.M k32 _ _ _ (⟨a1_0, a1_1, a1_2⟩ : S32) [.int .i64 a1_0, .int .i64 a1_1, .string a1_2] from (k32_mkM _ _ _ (⟨a1_0, a1_1, a1_2⟩ : S32) )) (Reps.none _ _))); intro v560 w9 ho10 hb hg_ hnew_; clear hg_ hnew_; (first | rw [← Ny559.out] at ho10 | (simp only [Int.reduceToNat] at ho10; rw [← Ny559.out] at ho10)); have n0_ := ak (Kd.R_lower (Kd.R_newB ho10 (g := gb557) (o := .cells #[.int .i64 a1_0, .int .i64 a1_1, .string a1_2] 32 (0, 0)) d24_2) (below_size d24_1)); have n1_ := ak (blk_below (g := gb557) (o := .cells #[.int .i64 a1_0, .int .i64 a1_1, .string a1_2] 32 (0, 0)) d24_2 hb); have n2_ := ak (blk_below (g := gb558) (o := .cells #[.int .i64 0, .slice none 0 0, .int .i64 0, .int .i64 0, .string (⟨#[]⟩ : ByteArray)] 61 (0, 0)) d24_4 hb); have n3_ := ak (below_step d24_1 hb); clear BK557 BK558 HB; have HO561 := n0_; have BK557 := n1_; have BK558 := n2_; have HB := n3_; clear n0_ n1_ n2_ n3_ hb ho10; obtain ⟨Ao11, co11, eo11⟩ := Kd.R_slice HO561.out; subst eo11) | ((with_reducible refine gate_callee (f := 75) rfl ?_); refine goesL_ (some 10) rfl rfl Tryd.func75 (by kernel_rfl) rfl #[.slice A0 l0.length c0, .slice Ao11 y559.length co11] rfl (by (try simp only [List.map_toArray, List.map_cons, List.map_nil]); first | done | rfl | (simp only [List.length_drop, List.length_take]; rfl)) ?_; (with_reducible refine (impl_heapFault.calls k _ _ l0 _ _ y559 t562 _ ?side1 ?side2 ?side3 ?side4 A3.out).mono ?_); (case side1 => repeat (first | exact (Kd.C_below HR0.out HB.out) | (with_reducible refine Kd.C_alloc ?_ _) | (with_reducible refine Kd.C_drewN ?_ _) | (with_reducible refine Kd.C_drew ?_))); (case side2 => exact HC0.out); (case side3 => repeat (first | exact (Kd.R_reads' HO561.out).2.2 | (with_reducible refine Kd.C_alloc ?_ _) | (with_reducible refine Kd.C_drewN ?_ _) | (with_reducible refine Kd.C_drew ?_))); (case side4 => exact (Kd.R_reads' HO561.out).2.1); rintro e w12 ⟨rfl, hb⟩; refine ⟨_, rfl, ?_⟩; have n0_ := ak (Kd.R_below d24_7 hb); have n1_ := ak (blk_below (g := gb557) (o := .cells #[.int .i64 a1_0, .int .i64 a1_1, .string a1_2] 32 (0, 0)) d24_2 hb); have n2_ := ak (blk_below (g := gb558) (o := .cells #[.int .i64 0, .slice none 0 0, .int .i64 0, .int .i64 0, .string (⟨#[]⟩ : ByteArray)] 61 (0, 0)) d24_4 hb); have n3_ := ak (below_step d24_1 hb); clear HO561 BK557 BK558 HB; have HO561 := n0_; have BK557 := n1_; have BK558 := n2_; have HB := n3_; clear n0_ n1_ n2_ n3_; (try clear hb); (try clear hk)) | ((with_reducible refine gate_dst (N := 15) rfl ?_); refine Kd.R_lit k32 _ 32 ?hg (N := 15) ?hd (xs := ([] : List (S32))) (inner := []) (ok := fun _ => True) (okp := fun _ => True) ?hr ?hp (fun _ hk => hk) trivial (Below.refl _ _) (Nat.le_refl _) (by simp) ?_; (case hd => rfl); (case hg => rfl); (case hr => first | (go_simp; done) | (go_simp; rfl)); (case hp => exact (Reps.none _ _)); intro v564 w13 ho14 hb hg_ hnew_; clear hg_ hnew_; (first | rw [← Ny563.out] at ho14 | (simp only [Int.reduceToNat] at ho14; rw [← Ny563.out] at ho14)); have n0_ := ak (Kd.R_elder' d24_7 (Kd.R_base ho14) hb); have n1_ := ak (Kd.R_lower (Kd.R_newB (Kd.R_new' ho14 (Kd.R_lt d24_7)) (g := gb557) (o := .cells #[.int .i64 a1_0, .int .i64 a1_1, .string a1_2] 32 (0, 0)) d24_2) (below_size d24_1)); have n2_ := ak (blk_below (g := gb557) (o := .cells #[.int .i64 a1_0, .int .i64 a1_1, .string a1_2] 32 (0, 0)) d24_2 hb); have n3_ := ak (blk_below (g := gb558) (o := .cells #[.int .i64 0, .slice none 0 0, .int .i64 0, .int .i64 0, .string (⟨#[]⟩ : ByteArray)] 61 (0, 0)) d24_4 hb); have n4_ := ak (below_step d24_1 hb); clear HO561 BK557 BK558 HB; have HO561 := n0_; have HO565 := n1_; have BK557 := n2_; have BK558 := n3_; have HB := n4_; clear n0_ n1_ n2_ n3_ n4_ hb ho14))
   go_loopg [6] k (fun kq v6 w' => ∃ (x6_1 : List (S32)) (x558000_1 : Int) (x558001_1 : Int) (x558002_1 : ByteArray) (x559000_1 : Int) (x559002_1 : Int) (x559003_1 : Int) (x559004_1 : ByteArray), Aside0 (impl_ListFrom.l0 kq l0 x6_1 x558000_1 x558001_1 x558002_1 = some (r1, r2, r3, r4, r5)) ∧ Aside0 (kq ≤ k) ∧ Aside0 (Kd.R k32 32 w' w.heap.size (fun k_ => k_ ≠ gb557) v6 x6_1) ∧ Aside0 (w'.heap[gb557]? = some (.cells #[.int .i64 x558000_1, .int .i64 x558001_1, .string x558002_1] 32 (0, 0))) ∧ Aside0 (w'.heap[gb558]? = some (.cells #[.int .i64 x559000_1, (.slice none 0 0), .int .i64 x559002_1, .int .i64 x559003_1, .string x559004_1] 61 (0, 0))) ∧ Aside0 (Below w.heap.size w w'))
   case atStart => exact ⟨(y563), (a1_0), (a1_1), (a1_2), (0), (0), (0), ((⟨#[]⟩ : ByteArray)), H', ⟨Nat.le_refl _⟩, ⟨by (with_reducible repeat (first | apply Kd.R_alloc | apply Kd.R_drewN | apply Kd.R_drew)); exact Kd.R_mono HO565.out (fun _ hk => hk.2)⟩, ⟨by (with_reducible repeat (first | refine blk_drewN ?_ _ | refine blk_drew ?_ | refine blk_alloc ?_ _)); exact BK557.out⟩, ⟨by (with_reducible repeat (first | refine blk_drewN ?_ _ | refine blk_drew ?_ | refine blk_alloc ?_ _)); exact BK558.out⟩, ⟨by repeat (first | (with_reducible first | exact HB.out | apply below_alloc | apply pw_below_drewN | apply below_drew1 | refine below_set ?_ GE557.out | refine below_set ?_ GE558.out) | exact HB.out)⟩⟩
   case round =>
    clear H'
    try clear p2
    try clear c3
    try clear c4
    try clear c4b0
    try clear c4b1
    try clear c7
    try clear hcz8_0
    try clear hcz8_1
    try clear hcz8_2
    try clear hfz8_0
    try clear hfz8_1
    try clear hfz8_2
    obtain ⟨x6_1, x558000_1, x558001_1, x558002_1, x559000_1, x559002_1, x559003_1, x559004_1, HA, HK1, HO_6, BK557, BK558, HB⟩ := hrel
    cases gk with
    | zero => exact absurd HA.out (by simp [impl_ListFrom.l0])
    | succ k1 =>
     have H := HA.out
     clear HA
     simp only [impl_ListFrom.l0] at H
     by_cases c15 : x558000_1 = 5
     ·rw [if_pos c15] at H
      have c15b0 : (x558000_1 == 5) = true := beq_iff_eq.mpr c15
      have c15b1 : (x558000_1 != 5) = false := bne_eq_false_iff_eq.mpr c15
      clear c15
      by_cases c16 : 0 ≤ x558001_1
      ·rw [if_pos c16] at H
       have c16b0 : decide (0 ≤ x558001_1) = true := decide_eq_true c16
       clear c16
       by_cases c17 : x558001_1 < (l0.length : Int)
       ·rw [if_pos c17] at H
        have c17b0 : decide (x558001_1 < (l0.length : Int)) = true := decide_eq_true c17
        clear c17
        by_cases c18 : x6_1.length < 4398046511104
        ·rw [if_pos c18] at H
         have LMc18 := ak c18
         clear c18
         obtain ⟨y567, hy567⟩ : ∃ y_ : List (S32), y_ = (x6_1 ++ [(⟨(rd_T112 l0 x558001_1).f0.f0, (rd_T112 l0 x558001_1).f0.f1, (rd_T112 l0 x558001_1).f0.f2⟩ : S32)]) := ⟨_, rfl⟩
         replace H : (if (y567.length : Int) > 200 then (some (2, ([] : List (S32)), 0, 0, (⟨#[]⟩ : ByteArray))) else (impl_ListFrom.l0 k1 l0 y567 ((rd_T112 l0 x558001_1).f1.f0) ((rd_T112 l0 x558001_1).f1.f1) ((rd_T112 l0 x558001_1).f1.f2))) = some (r1, r2, r3, r4, r5) := by first | (rw [hy567]; with_reducible exact H) | (have H2_ := (Option.bind_some _ _).symm.trans H; rw [hy567]; with_reducible exact H2_) | (have H2_ := (Option.bind_some _ _).symm.trans H; with_reducible exact H2_) | with_reducible exact H | (rw [hy567]; exact H) | exact H
         have Ny567 := ak hy567
         clear hy567
         by_cases c19 : (y567.length : Int) > 200
         ·rw [if_pos c19] at H
          have c19b0 : decide (200 < (y567.length : Int)) = true := decide_eq_true c19
          have c19b1 : decide (200 < y567.length) = true := decide_eq_true (by omega)
          clear c19
          simp only [Option.some.injEq, Prod.mk.injEq] at H
          obtain ⟨rfl, rfl, rfl, rfl, rfl⟩ := H
          have hnb20 := NB557_558.out
          have hnc20 := NB558_557.out
          have hcz21_0 : wr.cell? ⟨gb557, 0, none⟩ = some (.int .i64 x558000_1) := (blk_cell BK557.out 0).trans rfl
          have hcz21_1 : wr.cell? ⟨gb557, 1, none⟩ = some (.int .i64 x558001_1) := (blk_cell BK557.out 1).trans rfl
          have hcz21_2 : wr.cell? ⟨gb557, 2, none⟩ = some (.string x558002_1) := (blk_cell BK557.out 2).trans rfl
          have hfz21_0 := blk_frozen BK557.out 0
          have hfz21_1 := blk_frozen BK557.out 1
          have hfz21_2 := blk_frozen BK557.out 2
          try go_wp2
          have n0_ := ak (Kd.R_drew HO_6.out)
          have n1_ := ak (blk_drew BK557.out)
          have n2_ := ak (blk_drew BK558.out)
          have n3_ := ak (below_drew1 HB.out)
          clear HO_6
          clear BK557
          clear BK558
          clear HB
          have HO_6 := n0_
          have BK557 := n1_
          have BK558 := n2_
          have HB := n3_
          clear n0_ n1_ n2_ n3_
          have p566 : 0 ≤ (x558001_1 : Int) := of_decide_eq_true d24_6
          have q566 : x558001_1 < (l0.length : Int) := of_decide_eq_true d24_6
          obtain ⟨ad566, e566, hx566_0, hx566_1, hx566_2, hx566_3, hx566_4, hx566_5⟩ := at_T112 HR0.out x558001_1 p566 q566
          have hw566_5 := hx566_5
          have hw566_4 := hx566_4
          have hw566_3 := hx566_3
          have hw566_2 := hx566_2
          have hw566_1 := hx566_1
          have hw566_0 := hx566_0
          cases e566
          replace hx566_0 := (HB.out.cell (World.block_lt_of_cell? w _ hx566_0)).trans hx566_0
          replace hx566_1 := (HB.out.cell (World.block_lt_of_cell? w _ hx566_1)).trans hx566_1
          replace hx566_2 := (HB.out.cell (World.block_lt_of_cell? w _ hx566_2)).trans hx566_2
          replace hx566_3 := (HB.out.cell (World.block_lt_of_cell? w _ hx566_3)).trans hx566_3
          replace hx566_4 := (HB.out.cell (World.block_lt_of_cell? w _ hx566_4)).trans hx566_4
          replace hx566_5 := (HB.out.cell (World.block_lt_of_cell? w _ hx566_5)).trans hx566_5
          replace p566 := eq_true p566
          replace q566 := eq_true q566
          have p570 : 0 ≤ (x558001_1 : Int) := of_decide_eq_true d24_6
          have q570 : x558001_1 < (l0.length : Int) := of_decide_eq_true d24_6
          obtain ⟨ad570, e570, hx570_0, hx570_1, hx570_2, hx570_3, hx570_4, hx570_5⟩ := at_T112 HR0.out x558001_1 p570 q570
          have hw570_5 := hx570_5
          have hw570_4 := hx570_4
          have hw570_3 := hx570_3
          have hw570_2 := hx570_2
          have hw570_1 := hx570_1
          have hw570_0 := hx570_0
          obtain rfl : ad566 = ad570 := (by injection e570)
          replace hx570_0 := (HB.out.cell (World.block_lt_of_cell? w _ hx570_0)).trans hx570_0
          replace hx570_1 := (HB.out.cell (World.block_lt_of_cell? w _ hx570_1)).trans hx570_1
          replace hx570_2 := (HB.out.cell (World.block_lt_of_cell? w _ hx570_2)).trans hx570_2
          replace hx570_3 := (HB.out.cell (World.block_lt_of_cell? w _ hx570_3)).trans hx570_3
          replace hx570_4 := (HB.out.cell (World.block_lt_of_cell? w _ hx570_4)).trans hx570_4
          replace hx570_5 := (HB.out.cell (World.block_lt_of_cell? w _ hx570_5)).trans hx570_5
          replace p570 := eq_true p570
          replace q570 := eq_true q570
          refine start_ (n := 17) (S := fun w' => w'.cell? ⟨gb557, 0, none⟩ = some (.int .i64 x558000_1) ∧ w'.cell? ⟨gb557, 1, none⟩ = some (.int .i64 x558001_1) ∧ w'.cell? ⟨gb557, 2, none⟩ = some (.string x558002_1) ∧ w'.cell? (ad566.add ((x558001_1).toNat * 6)) = some (.int .i64 ((rd_T112 l0 x558001_1).f0.f0)) ∧ w'.cell? ⟨(ad566.add ((x558001_1).toNat * 6)).block, (ad566.add ((x558001_1).toNat * 6)).off + 1, none⟩ = some (.int .i64 ((rd_T112 l0 x558001_1).f0.f1)) ∧ w'.cell? ⟨(ad566.add ((x558001_1).toNat * 6)).block, (ad566.add ((x558001_1).toNat * 6)).off + 2, none⟩ = some (.string ((rd_T112 l0 x558001_1).f0.f2)) ∧ w'.cell? ⟨(ad566.add ((x558001_1).toNat * 6)).block, (ad566.add ((x558001_1).toNat * 6)).off + 3, none⟩ = some (.int .i64 ((rd_T112 l0 x558001_1).f1.f0)) ∧ w'.cell? ⟨(ad566.add ((x558001_1).toNat * 6)).block, (ad566.add ((x558001_1).toNat * 6)).off + 4, none⟩ = some (.int .i64 ((rd_T112 l0 x558001_1).f1.f1)) ∧ w'.cell? ⟨(ad566.add ((x558001_1).toNat * 6)).block, (ad566.add ((x558001_1).toNat * 6)).off + 5, none⟩ = some (.string ((rd_T112 l0 x558001_1).f1.f2)) ∧ w'.cell? (ad566.add ((x558001_1).toNat * 6)) = some (.int .i64 ((rd_T112 l0 x558001_1).f0.f0)) ∧ w'.cell? ⟨(ad566.add ((x558001_1).toNat * 6)).block, (ad566.add ((x558001_1).toNat * 6)).off + 1, none⟩ = some (.int .i64 ((rd_T112 l0 x558001_1).f0.f1)) ∧ w'.cell? ⟨(ad566.add ((x558001_1).toNat * 6)).block, (ad566.add ((x558001_1).toNat * 6)).off + 2, none⟩ = some (.string ((rd_T112 l0 x558001_1).f0.f2)) ∧ w'.cell? ⟨(ad566.add ((x558001_1).toNat * 6)).block, (ad566.add ((x558001_1).toNat * 6)).off + 3, none⟩ = some (.int .i64 ((rd_T112 l0 x558001_1).f1.f0)) ∧ w'.cell? ⟨(ad566.add ((x558001_1).toNat * 6)).block, (ad566.add ((x558001_1).toNat * 6)).off + 4, none⟩ = some (.int .i64 ((rd_T112 l0 x558001_1).f1.f1)) ∧ w'.cell? ⟨(ad566.add ((x558001_1).toNat * 6)).block, (ad566.add ((x558001_1).toNat * 6)).off + 5, none⟩ = some (.string ((rd_T112 l0 x558001_1).f1.f2))) (ds := [16]) #[false, false, false, false, false, false, false, false, false, false, false, false, false, false, false, false, false] (by kernel_rfl) rfl rfl ⟨(blk_cell BK557.out 0).trans rfl, (blk_cell BK557.out 1).trans rfl, (blk_cell BK557.out 2).trans rfl, ((HB.out.cell (World.block_lt_of_cell? w _ hw566_0)).trans hw566_0), ((HB.out.cell (World.block_lt_of_cell? w _ hw566_1)).trans hw566_1), ((HB.out.cell (World.block_lt_of_cell? w _ hw566_2)).trans hw566_2), ((HB.out.cell (World.block_lt_of_cell? w _ hw566_3)).trans hw566_3), ((HB.out.cell (World.block_lt_of_cell? w _ hw566_4)).trans hw566_4), ((HB.out.cell (World.block_lt_of_cell? w _ hw566_5)).trans hw566_5), ((HB.out.cell (World.block_lt_of_cell? w _ hw570_0)).trans hw570_0), ((HB.out.cell (World.block_lt_of_cell? w _ hw570_1)).trans hw570_1), ((HB.out.cell (World.block_lt_of_cell? w _ hw570_2)).trans hw570_2), ((HB.out.cell (World.block_lt_of_cell? w _ hw570_3)).trans hw570_3), ((HB.out.cell (World.block_lt_of_cell? w _ hw570_4)).trans hw570_4), ((HB.out.cell (World.block_lt_of_cell? w _ hw570_5)).trans hw570_5)⟩ (fun hHeld => ?_); refine with_tabW impl_ListFrom.tab6 impl_ListFrom.bits6 (fun HT_ HW_ => ?_)
          generalize wr.drew = w22 at HO_6 BK557 BK558 HB hx566_0 hx566_1 hx566_2 hx566_3 hx566_4 hx566_5 hx570_0 hx570_1 hx570_2 hx570_3 hx570_4 hx570_5 hHeld ⊢
          refine pure_ (i := 0) (N := some 19) (v := ?_) (a' := ?_) #[true, false, false, false, false, false, false, false, false, false, false, false, false, false, false, false, false] rfl rfl (any_of HT_.out (by kernel_rfl)) (fun _ _ _ h => h) (Or.inl ⟨by rfl, ?_⟩) ?_ ?_
          rotate_left
          · intro w'
            go_simp
            with_reducible rfl
          rotate_left
          · simp only [Act.put, List.setIfInBounds_toArray, List.set_cons_zero, List.set_cons_succ, i64_w, i32_w]
            rfl
          refine pure_ (i := 1) (N := some 20) (v := ?_) (a' := ?_) #[true, true, false, false, false, false, false, false, false, false, false, false, false, false, false, false, false] rfl rfl (any_of HT_.out (by kernel_rfl)) (fun _ _ _ h => h) (Or.inl ⟨by rfl, ?_⟩) ?_ ?_
          rotate_left
          · intro w'
            go_simp
            with_reducible rfl
          rotate_left
          · simp only [Act.put, List.setIfInBounds_toArray, List.set_cons_zero, List.set_cons_succ, i64_w, i32_w]
            rfl
          refine pure_ (i := 2) (N := some 21) (v := ?_) (a' := ?_) #[true, true, true, false, false, false, false, false, false, false, false, false, false, false, false, false, false] rfl rfl (any_of HT_.out (by kernel_rfl)) (fun _ _ _ h => h) (Or.inl ⟨by rfl, ?_⟩) ?_ ?_
          rotate_left
          · intro w'
            go_simp
            with_reducible rfl
          rotate_left
          · simp only [Act.put, List.setIfInBounds_toArray, List.set_cons_zero, List.set_cons_succ, i64_w, i32_w]
            rfl
          refine pure_ (i := 9) (N := some 28) (v := ?_) (a' := ?_) #[true, true, true, false, false, false, false, false, false, true, false, false, false, false, false, false, false] rfl rfl (any_of HT_.out (by kernel_rfl)) (fun _ _ _ h => h) (Or.inl ⟨by rfl, ?_⟩) ?_ ?_
          rotate_left
          · intro w'
            go_simp
            with_reducible rfl
          rotate_left
          · simp only [Act.put, List.setIfInBounds_toArray, List.set_cons_zero, List.set_cons_succ, i64_w, i32_w]
            rfl
          refine pure_ (i := 10) (N := some 29) (v := ?_) (a' := ?_) #[true, true, true, false, false, false, false, false, false, true, true, false, false, false, false, false, false] rfl rfl (any_of HT_.out (by kernel_rfl)) (fun _ _ _ h => h) (Or.inl ⟨by rfl, ?_⟩) ?_ ?_
          rotate_left
          · intro w'
            go_simp
            with_reducible rfl
          rotate_left
          · simp only [Act.put, List.setIfInBounds_toArray, List.set_cons_zero, List.set_cons_succ, i64_w, i32_w]
            rfl
          refine take_ (i := 3) (N := some 22) (v := ?_) (a' := ?_) #[true, true, true, true, false, false, false, false, false, true, true, false, false, false, false, false, false] rfl rfl (take_ofW HT_.out HW_.out (by kernel_rfl)) (fun _ _ _ h => h) (Or.inl ⟨by rfl, ?_⟩) hHeld ?_ ?_
          rotate_left
          · rintro w' ⟨s0, s1, s2, s3, s4, s5, s6, s7, s8, s9, s10, s11, s12, s13, s14⟩
            go_simp
            with_reducible rfl
          rotate_left
          · simp only [Act.put, List.setIfInBounds_toArray, List.set_cons_zero, List.set_cons_succ, i64_w, i32_w]
            rfl
          refine pure_ (i := 4) (N := some 23) (v := ?_) (a' := ?_) #[true, true, true, true, true, false, false, false, false, true, true, false, false, false, false, false, false] rfl rfl (any_of HT_.out (by kernel_rfl)) (fun _ _ _ h => h) (Or.inl ⟨by rfl, ?_⟩) ?_ ?_
          rotate_left
          · intro w'
            go_simp
            with_reducible rfl
          rotate_left
          · simp only [Act.put, List.setIfInBounds_toArray, List.set_cons_zero, List.set_cons_succ, i64_w, i32_w]
            rfl
          refine pure_ (i := 5) (N := some 24) (v := ?_) (a' := ?_) #[true, true, true, true, true, true, false, false, false, true, true, false, false, false, false, false, false] rfl rfl (any_of HT_.out (by kernel_rfl)) (fun _ _ _ h => h) (Or.inl ⟨by rfl, ?_⟩) ?_ ?_
          rotate_left
          · intro w'
            go_simp
            with_reducible rfl
          rotate_left
          · simp only [Act.put, List.setIfInBounds_toArray, List.set_cons_zero, List.set_cons_succ, i64_w, i32_w]
            rfl
          refine take_ (i := 6) (N := some 25) (v := ?_) (a' := ?_) #[true, true, true, true, true, true, true, false, false, true, true, false, false, false, false, false, false] rfl rfl (take_ofW HT_.out HW_.out (by kernel_rfl)) (fun _ _ _ h => h) (Or.inl ⟨by rfl, ?_⟩) hHeld ?_ ?_
          rotate_left
          · rintro w' ⟨s0, s1, s2, s3, s4, s5, s6, s7, s8, s9, s10, s11, s12, s13, s14⟩
            go_simp
            with_reducible rfl
          rotate_left
          · simp only [Act.put, List.setIfInBounds_toArray, List.set_cons_zero, List.set_cons_succ, i64_w, i32_w]
            rfl
          refine take_ (i := 11) (N := some 30) (v := ?_) (a' := ?_) #[true, true, true, true, true, true, true, false, false, true, true, true, false, false, false, false, false] rfl rfl (take_ofW HT_.out HW_.out (by kernel_rfl)) (fun _ _ _ h => h) (Or.inl ⟨by rfl, ?_⟩) hHeld ?_ ?_
          rotate_left
          · rintro w' ⟨s0, s1, s2, s3, s4, s5, s6, s7, s8, s9, s10, s11, s12, s13, s14⟩
            go_simp
            with_reducible rfl
          rotate_left
          · simp only [Act.put, List.setIfInBounds_toArray, List.set_cons_zero, List.set_cons_succ, i64_w, i32_w]
            rfl
          refine pure_ (i := 12) (N := some 31) (v := ?_) (a' := ?_) #[true, true, true, true, true, true, true, false, false, true, true, true, true, false, false, false, false] rfl rfl (any_of HT_.out (by kernel_rfl)) (fun _ _ _ h => h) (Or.inl ⟨by rfl, ?_⟩) ?_ ?_
          rotate_left
          · intro w'
            go_simp
            with_reducible rfl
          rotate_left
          · simp only [Act.put, List.setIfInBounds_toArray, List.set_cons_zero, List.set_cons_succ, i64_w, i32_w]
            rfl
          refine pure_ (i := 13) (N := some 32) (v := ?_) (a' := ?_) #[true, true, true, true, true, true, true, false, false, true, true, true, true, true, false, false, false] rfl rfl (any_of HT_.out (by kernel_rfl)) (fun _ _ _ h => h) (Or.inl ⟨by rfl, ?_⟩) ?_ ?_
          rotate_left
          · intro w'
            go_simp
            with_reducible rfl
          rotate_left
          · simp only [Act.put, List.setIfInBounds_toArray, List.set_cons_zero, List.set_cons_succ, i64_w, i32_w]
            rfl
          refine take_ (i := 14) (N := some 33) (v := ?_) (a' := ?_) #[true, true, true, true, true, true, true, false, false, true, true, true, true, true, true, false, false] rfl rfl (take_ofW HT_.out HW_.out (by kernel_rfl)) (fun _ _ _ h => h) (Or.inl ⟨by rfl, ?_⟩) hHeld ?_ ?_
          rotate_left
          · rintro w' ⟨s0, s1, s2, s3, s4, s5, s6, s7, s8, s9, s10, s11, s12, s13, s14⟩
            go_simp
            with_reducible rfl
          rotate_left
          · simp only [Act.put, List.setIfInBounds_toArray, List.set_cons_zero, List.set_cons_succ, i64_w, i32_w]
            rfl
          refine one_ (i := 7) (N := some 26) #[true, true, true, true, true, true, true, true, false, true, true, true, true, true, true, false, false] rfl rfl (one_of HT_.out (by kernel_rfl)) (by decide) (fun K hK => ?_)
          refine value_ (w1 := ?_) (v := ?_) (by rfl) rfl ?_ ?_
          rotate_left 2
          · go_simp
            constructor
            · rfl
            · rfl
          refine hK.out _ _ ⟨(blk_cell (blk_alloc BK557.out _) 0).trans rfl, (blk_cell (blk_alloc BK557.out _) 1).trans rfl, (blk_cell (blk_alloc BK557.out _) 2).trans rfl, (World.cell?_alloc_lt _ _ _ (World.block_lt_of_cell? _ _ (((HB.out.cell (World.block_lt_of_cell? w _ hw566_0)).trans hw566_0)))).trans (((HB.out.cell (World.block_lt_of_cell? w _ hw566_0)).trans hw566_0)), (World.cell?_alloc_lt _ _ _ (World.block_lt_of_cell? _ _ (((HB.out.cell (World.block_lt_of_cell? w _ hw566_1)).trans hw566_1)))).trans (((HB.out.cell (World.block_lt_of_cell? w _ hw566_1)).trans hw566_1)), (World.cell?_alloc_lt _ _ _ (World.block_lt_of_cell? _ _ (((HB.out.cell (World.block_lt_of_cell? w _ hw566_2)).trans hw566_2)))).trans (((HB.out.cell (World.block_lt_of_cell? w _ hw566_2)).trans hw566_2)), (World.cell?_alloc_lt _ _ _ (World.block_lt_of_cell? _ _ (((HB.out.cell (World.block_lt_of_cell? w _ hw566_3)).trans hw566_3)))).trans (((HB.out.cell (World.block_lt_of_cell? w _ hw566_3)).trans hw566_3)), (World.cell?_alloc_lt _ _ _ (World.block_lt_of_cell? _ _ (((HB.out.cell (World.block_lt_of_cell? w _ hw566_4)).trans hw566_4)))).trans (((HB.out.cell (World.block_lt_of_cell? w _ hw566_4)).trans hw566_4)), (World.cell?_alloc_lt _ _ _ (World.block_lt_of_cell? _ _ (((HB.out.cell (World.block_lt_of_cell? w _ hw566_5)).trans hw566_5)))).trans (((HB.out.cell (World.block_lt_of_cell? w _ hw566_5)).trans hw566_5)), (World.cell?_alloc_lt _ _ _ (World.block_lt_of_cell? _ _ (((HB.out.cell (World.block_lt_of_cell? w _ hw570_0)).trans hw570_0)))).trans (((HB.out.cell (World.block_lt_of_cell? w _ hw570_0)).trans hw570_0)), (World.cell?_alloc_lt _ _ _ (World.block_lt_of_cell? _ _ (((HB.out.cell (World.block_lt_of_cell? w _ hw570_1)).trans hw570_1)))).trans (((HB.out.cell (World.block_lt_of_cell? w _ hw570_1)).trans hw570_1)), (World.cell?_alloc_lt _ _ _ (World.block_lt_of_cell? _ _ (((HB.out.cell (World.block_lt_of_cell? w _ hw570_2)).trans hw570_2)))).trans (((HB.out.cell (World.block_lt_of_cell? w _ hw570_2)).trans hw570_2)), (World.cell?_alloc_lt _ _ _ (World.block_lt_of_cell? _ _ (((HB.out.cell (World.block_lt_of_cell? w _ hw570_3)).trans hw570_3)))).trans (((HB.out.cell (World.block_lt_of_cell? w _ hw570_3)).trans hw570_3)), (World.cell?_alloc_lt _ _ _ (World.block_lt_of_cell? _ _ (((HB.out.cell (World.block_lt_of_cell? w _ hw570_4)).trans hw570_4)))).trans (((HB.out.cell (World.block_lt_of_cell? w _ hw570_4)).trans hw570_4)), (World.cell?_alloc_lt _ _ _ (World.block_lt_of_cell? _ _ (((HB.out.cell (World.block_lt_of_cell? w _ hw570_5)).trans hw570_5)))).trans (((HB.out.cell (World.block_lt_of_cell? w _ hw570_5)).trans hw570_5))⟩ (fun hHeld => ?_)
          clear hK K
          refine norm_ (a' := ?_) ?_ ?_
          rotate_left
          · show Act.put _ (some 26) _ = _
            simp only [Act.put, List.setIfInBounds_toArray, List.set_cons_zero, List.set_cons_succ, i64_w, i32_w]
            rfl
          refine one_ (i := 8) (N := some 27) #[true, true, true, true, true, true, true, true, true, true, true, true, true, true, true, false, false] rfl rfl (one_of HT_.out (by kernel_rfl)) (by decide) (fun K hK => ?_)
          refine Kd.R_append_step k32 (w0 := w) w.heap.size (by rfl) (.tmp 19) (.tmp 26) 59 32 (.agg #[(.int .i64 0), (.int .i64 0), (.string ⟨#[]⟩)]) 32 rfl Tryd.underlying59 info32 rfl (by decide) (by omega) u6 x6_1 (⟨(rd_T112 l0 x558001_1).f0.f0, (rd_T112 l0 x558001_1).f0.f1, (rd_T112 l0 x558001_1).f0.f2⟩ : S32) [.int .i64 ((rd_T112 l0 x558001_1).f0.f0), .int .i64 ((rd_T112 l0 x558001_1).f0.f1), .string ((rd_T112 l0 x558001_1).f0.f2)] (fun k_ => k_ ≠ gb557) (fun _ => False) rfl rfl ?aP (fun _ hk => hk.elim) ?aF ?aO ?aB ?aS ?aL ?_
          (case aP => exact k32_mkM _ _ _ (⟨(rd_T112 l0 x558001_1).f0.f0, (rd_T112 l0 x558001_1).f0.f1, (rd_T112 l0 x558001_1).f0.f2⟩ : S32))
          (case aB => exact d24_1)
          (case aF => exact (fun k_ hk => Kd.freshB (g := gb557) (o := .cells #[.int .i64 x558000_1, .int .i64 x558001_1, .string x558002_1] 32 (0, 0)) d24_2 k_ hk))
          (case aO => exact (by (with_reducible repeat (first | apply Kd.R_alloc | apply Kd.R_drewN | apply Kd.R_drew)); exact HO_6.out))
          (case aS => exact (below_size d24_1))
          (case aL => have := LMc18.out; omega)
          intro v568 w23 ho hb hg hat
          rw [← Ny567.out] at ho
          have n0_ := ak (blk_grown (g := gb557) (o := .cells #[.int .i64 x558000_1, .int .i64 x558001_1, .string x558002_1] 32 (0, 0)) d24_2 hg (Kd.R_away HO_6.out (fun _ hk => hk)))
          have n1_ := ak (blk_grown (g := gb558) (o := .cells #[.int .i64 x559000_1, .slice none 0 0, .int .i64 x559002_1, .int .i64 x559003_1, .string x559004_1] 61 (0, 0)) d24_4 hg (Kd.R_ne HO_6.out BK558.out (by decide)))
          have n2_ := ak (hb)
          have n3_ := ak (ho)
          clear BK557
          clear BK558
          clear HB
          clear HO_6
          have BK557 := n0_
          have BK558 := n1_
          have HB := n2_
          have HO569 := n3_
          clear n0_ n1_ n2_ n3_
          clear ho hb hg hat
          refine hK.out _ _ ⟨(blk_cell BK557.out 0).trans rfl, (blk_cell BK557.out 1).trans rfl, (blk_cell BK557.out 2).trans rfl, ((HB.out.cell (World.block_lt_of_cell? w _ hw566_0)).trans hw566_0), ((HB.out.cell (World.block_lt_of_cell? w _ hw566_1)).trans hw566_1), ((HB.out.cell (World.block_lt_of_cell? w _ hw566_2)).trans hw566_2), ((HB.out.cell (World.block_lt_of_cell? w _ hw566_3)).trans hw566_3), ((HB.out.cell (World.block_lt_of_cell? w _ hw566_4)).trans hw566_4), ((HB.out.cell (World.block_lt_of_cell? w _ hw566_5)).trans hw566_5), ((HB.out.cell (World.block_lt_of_cell? w _ hw570_0)).trans hw570_0), ((HB.out.cell (World.block_lt_of_cell? w _ hw570_1)).trans hw570_1), ((HB.out.cell (World.block_lt_of_cell? w _ hw570_2)).trans hw570_2), ((HB.out.cell (World.block_lt_of_cell? w _ hw570_3)).trans hw570_3), ((HB.out.cell (World.block_lt_of_cell? w _ hw570_4)).trans hw570_4), ((HB.out.cell (World.block_lt_of_cell? w _ hw570_5)).trans hw570_5)⟩ (fun hHeld => ?_)
          clear hK K
          refine norm_ (a' := ?_) ?_ ?_
          rotate_left
          · show Act.put _ (some 27) _ = _
            simp only [Act.put, List.setIfInBounds_toArray, List.set_cons_zero, List.set_cons_succ, i64_w, i32_w]
            rfl
          refine pure_ (i := 15) (N := some 6) (v := ?_) (a' := ?_) #[true, true, true, true, true, true, true, true, true, true, true, true, true, true, true, true, false] rfl rfl (any_of HT_.out (by kernel_rfl)) (fun _ _ _ h => h) (Or.inl ⟨by rfl, ?_⟩) ?_ ?_
          rotate_left
          · intro w'
            go_simp
            with_reducible rfl
          rotate_left
          · simp only [Act.put, List.setIfInBounds_toArray, List.set_cons_zero, List.set_cons_succ, i64_w, i32_w]
            rfl
          refine last_ (i := 16) (N := none) #[true, true, true, true, true, true, true, true, true, true, true, true, true, true, true, true, true] rfl rfl (one_of HT_.out (by kernel_rfl)) (by decide) (fun K hK => ?_)
          have hs24 : w23.cell? ⟨gb557, 0, none⟩ = some (.int .i64 x558000_1) := (blk_cell BK557.out 0).trans rfl
          have hfs24 := blk_frozen BK557.out 0
          have hns24_1 := NB558_557.out
          have hms24_1 := NB557_558.out
          have hs25 : w23.cell? ⟨gb557, 1, none⟩ = some (.int .i64 x558001_1) := (blk_cell BK557.out 1).trans rfl
          have hfs25 := blk_frozen BK557.out 1
          have hns25_1 := NB558_557.out
          have hms25_1 := NB557_558.out
          have hs26 : w23.cell? ⟨gb557, 2, none⟩ = some (.string x558002_1) := (blk_cell BK557.out 2).trans rfl
          have hfs26 := blk_frozen BK557.out 2
          have hns26_1 := NB558_557.out
          have hms26_1 := NB557_558.out
          refine skip_ (w1 := ?_) (by rfl) rfl ?_ ?_
          rotate_left
          · go_simp
            rfl
          refine hK.out _ _ ?_
          clear hK K
          refine done_ (done_of HT_.out (by kernel_rfl)) ?_
          obtain ⟨Ao27, co27, eo27⟩ := Kd.R_slice HO569.out
          subst eo27
          have hcz28_0 : w23.cell? ⟨gb558, 0, none⟩ = some (.int .i64 x559000_1) := (blk_cell BK558.out 0).trans rfl
          have hcz28_1 : w23.cell? ⟨gb558, 1, none⟩ = some (.slice none 0 0) := (blk_cell BK558.out 1).trans rfl
          have hcz28_2 : w23.cell? ⟨gb558, 2, none⟩ = some (.int .i64 x559002_1) := (blk_cell BK558.out 2).trans rfl
          have hcz28_3 : w23.cell? ⟨gb558, 3, none⟩ = some (.int .i64 x559003_1) := (blk_cell BK558.out 3).trans rfl
          have hcz28_4 : w23.cell? ⟨gb558, 4, none⟩ = some (.string x559004_1) := (blk_cell BK558.out 4).trans rfl
          have hfz28_0 := blk_frozen BK558.out 0
          have hfz28_1 := blk_frozen BK558.out 1
          have hfz28_2 := blk_frozen BK558.out 2
          have hfz28_3 := blk_frozen BK558.out 3
          have hfz28_4 := blk_frozen BK558.out 4
          try go_wp2
          refine bodyPost_ret (results_cell_row rfl _ _ gb558 61 #[.int .i64 2, .slice none 0 0, .int .i64 0, .int .i64 0, .string (⟨#[]⟩ : ByteArray)] (0, 0) _ rfl (by (with_reducible repeat (first | refine blk_drewN ?_ _ | refine blk_drew ?_ | refine blk_alloc ?_ _)); refine blk_put (cs := #[.int .i64 2, .slice none 0 0, .int .i64 0, .int .i64 0, .string x559004_1]) ?_ 4 _ rfl; (with_reducible repeat (first | refine blk_drewN ?_ _ | refine blk_drew ?_ | refine blk_alloc ?_ _)); refine blk_put (cs := #[.int .i64 2, .slice none 0 0, .int .i64 0, .int .i64 x559003_1, .string x559004_1]) ?_ 3 _ rfl; (with_reducible repeat (first | refine blk_drewN ?_ _ | refine blk_drew ?_ | refine blk_alloc ?_ _)); refine blk_put (cs := #[.int .i64 2, .slice none 0 0, .int .i64 x559002_1, .int .i64 x559003_1, .string x559004_1]) ?_ 2 _ rfl; (with_reducible repeat (first | refine blk_drewN ?_ _ | refine blk_drew ?_ | refine blk_alloc ?_ _)); refine blk_put (cs := #[.int .i64 2, .slice none 0 0, .int .i64 x559002_1, .int .i64 x559003_1, .string x559004_1]) ?_ 1 _ rfl; (with_reducible repeat (first | refine blk_drewN ?_ _ | refine blk_drew ?_ | refine blk_alloc ?_ _)); refine blk_put (cs := #[.int .i64 x559000_1, .slice none 0 0, .int .i64 x559002_1, .int .i64 x559003_1, .string x559004_1]) ?_ 0 _ rfl; (with_reducible repeat (first | refine blk_drewN ?_ _ | refine blk_drew ?_ | refine blk_alloc ?_ _)); refine blk_far ?_ NB558_557.out _; (with_reducible repeat (first | refine blk_drewN ?_ _ | refine blk_drew ?_ | refine blk_alloc ?_ _)); refine blk_far ?_ NB558_557.out _; (with_reducible repeat (first | refine blk_drewN ?_ _ | refine blk_drew ?_ | refine blk_alloc ?_ _)); refine blk_far ?_ NB558_557.out _; (with_reducible repeat (first | refine blk_drewN ?_ _ | refine blk_drew ?_ | refine blk_alloc ?_ _)); exact BK558.out) Tryd.underlying61 rfl (by kernel_rfl)) rfl ?_
          exact ⟨_, by first | rfl | (simp [errW_none, errW_some] <;> rfl) | (simp [*, errW_none, errW_some] <;> rfl), by first | exact Kd.R_nil _ _ _ _ _ | exact Kd.N_nil _ _ _ _ _ | exact Kd.V_nil _ _ _ _ _ | exact Kd.Q_nil _ _ _ _ _ | exact Kd.S_nil _ _ _ _ _, by repeat (first | (with_reducible first | exact HB.out | apply below_alloc | apply pw_below_drewN | apply below_drew1 | refine below_set ?_ GE557.out | refine below_set ?_ GE558.out) | exact HB.out)⟩
         ·rw [if_neg c19] at H
          have c19b0 : decide (200 < (y567.length : Int)) = false := decide_eq_false c19
          have c19b1 : decide (200 < y567.length) = false := decide_eq_false (by omega)
          clear c19
          have H' := ak H
          clear H
          have hnb29 := NB557_558.out
          have hnc29 := NB558_557.out
          have hcz30_0 : wr.cell? ⟨gb557, 0, none⟩ = some (.int .i64 x558000_1) := (blk_cell BK557.out 0).trans rfl
          have hcz30_1 : wr.cell? ⟨gb557, 1, none⟩ = some (.int .i64 x558001_1) := (blk_cell BK557.out 1).trans rfl
          have hcz30_2 : wr.cell? ⟨gb557, 2, none⟩ = some (.string x558002_1) := (blk_cell BK557.out 2).trans rfl
          have hfz30_0 := blk_frozen BK557.out 0
          have hfz30_1 := blk_frozen BK557.out 1
          have hfz30_2 := blk_frozen BK557.out 2
          try go_wp2
          have n0_ := ak (Kd.R_drew HO_6.out)
          have n1_ := ak (blk_drew BK557.out)
          have n2_ := ak (blk_drew BK558.out)
          have n3_ := ak (below_drew1 HB.out)
          clear HO_6
          clear BK557
          clear BK558
          clear HB
          have HO_6 := n0_
          have BK557 := n1_
          have BK558 := n2_
          have HB := n3_
          clear n0_ n1_ n2_ n3_
          have p566 : 0 ≤ (x558001_1 : Int) := of_decide_eq_true d24_6
          have q566 : x558001_1 < (l0.length : Int) := of_decide_eq_true d24_6
          obtain ⟨ad566, e566, hx566_0, hx566_1, hx566_2, hx566_3, hx566_4, hx566_5⟩ := at_T112 HR0.out x558001_1 p566 q566
          have hw566_5 := hx566_5
          have hw566_4 := hx566_4
          have hw566_3 := hx566_3
          have hw566_2 := hx566_2
          have hw566_1 := hx566_1
          have hw566_0 := hx566_0
          cases e566
          replace hx566_0 := (HB.out.cell (World.block_lt_of_cell? w _ hx566_0)).trans hx566_0
          replace hx566_1 := (HB.out.cell (World.block_lt_of_cell? w _ hx566_1)).trans hx566_1
          replace hx566_2 := (HB.out.cell (World.block_lt_of_cell? w _ hx566_2)).trans hx566_2
          replace hx566_3 := (HB.out.cell (World.block_lt_of_cell? w _ hx566_3)).trans hx566_3
          replace hx566_4 := (HB.out.cell (World.block_lt_of_cell? w _ hx566_4)).trans hx566_4
          replace hx566_5 := (HB.out.cell (World.block_lt_of_cell? w _ hx566_5)).trans hx566_5
          replace p566 := eq_true p566
          replace q566 := eq_true q566
          have p570 : 0 ≤ (x558001_1 : Int) := of_decide_eq_true d24_6
          have q570 : x558001_1 < (l0.length : Int) := of_decide_eq_true d24_6
          obtain ⟨ad570, e570, hx570_0, hx570_1, hx570_2, hx570_3, hx570_4, hx570_5⟩ := at_T112 HR0.out x558001_1 p570 q570
          have hw570_5 := hx570_5
          have hw570_4 := hx570_4
          have hw570_3 := hx570_3
          have hw570_2 := hx570_2
          have hw570_1 := hx570_1
          have hw570_0 := hx570_0
          obtain rfl : ad566 = ad570 := (by injection e570)
          replace hx570_0 := (HB.out.cell (World.block_lt_of_cell? w _ hx570_0)).trans hx570_0
          replace hx570_1 := (HB.out.cell (World.block_lt_of_cell? w _ hx570_1)).trans hx570_1
          replace hx570_2 := (HB.out.cell (World.block_lt_of_cell? w _ hx570_2)).trans hx570_2
          replace hx570_3 := (HB.out.cell (World.block_lt_of_cell? w _ hx570_3)).trans hx570_3
          replace hx570_4 := (HB.out.cell (World.block_lt_of_cell? w _ hx570_4)).trans hx570_4
          replace hx570_5 := (HB.out.cell (World.block_lt_of_cell? w _ hx570_5)).trans hx570_5
          replace p570 := eq_true p570
          replace q570 := eq_true q570
          refine start_ (n := 17) (S := fun w' => w'.cell? ⟨gb557, 0, none⟩ = some (.int .i64 x558000_1) ∧ w'.cell? ⟨gb557, 1, none⟩ = some (.int .i64 x558001_1) ∧ w'.cell? ⟨gb557, 2, none⟩ = some (.string x558002_1) ∧ w'.cell? (ad566.add ((x558001_1).toNat * 6)) = some (.int .i64 ((rd_T112 l0 x558001_1).f0.f0)) ∧ w'.cell? ⟨(ad566.add ((x558001_1).toNat * 6)).block, (ad566.add ((x558001_1).toNat * 6)).off + 1, none⟩ = some (.int .i64 ((rd_T112 l0 x558001_1).f0.f1)) ∧ w'.cell? ⟨(ad566.add ((x558001_1).toNat * 6)).block, (ad566.add ((x558001_1).toNat * 6)).off + 2, none⟩ = some (.string ((rd_T112 l0 x558001_1).f0.f2)) ∧ w'.cell? ⟨(ad566.add ((x558001_1).toNat * 6)).block, (ad566.add ((x558001_1).toNat * 6)).off + 3, none⟩ = some (.int .i64 ((rd_T112 l0 x558001_1).f1.f0)) ∧ w'.cell? ⟨(ad566.add ((x558001_1).toNat * 6)).block, (ad566.add ((x558001_1).toNat * 6)).off + 4, none⟩ = some (.int .i64 ((rd_T112 l0 x558001_1).f1.f1)) ∧ w'.cell? ⟨(ad566.add ((x558001_1).toNat * 6)).block, (ad566.add ((x558001_1).toNat * 6)).off + 5, none⟩ = some (.string ((rd_T112 l0 x558001_1).f1.f2)) ∧ w'.cell? (ad566.add ((x558001_1).toNat * 6)) = some (.int .i64 ((rd_T112 l0 x558001_1).f0.f0)) ∧ w'.cell? ⟨(ad566.add ((x558001_1).toNat * 6)).block, (ad566.add ((x558001_1).toNat * 6)).off + 1, none⟩ = some (.int .i64 ((rd_T112 l0 x558001_1).f0.f1)) ∧ w'.cell? ⟨(ad566.add ((x558001_1).toNat * 6)).block, (ad566.add ((x558001_1).toNat * 6)).off + 2, none⟩ = some (.string ((rd_T112 l0 x558001_1).f0.f2)) ∧ w'.cell? ⟨(ad566.add ((x558001_1).toNat * 6)).block, (ad566.add ((x558001_1).toNat * 6)).off + 3, none⟩ = some (.int .i64 ((rd_T112 l0 x558001_1).f1.f0)) ∧ w'.cell? ⟨(ad566.add ((x558001_1).toNat * 6)).block, (ad566.add ((x558001_1).toNat * 6)).off + 4, none⟩ = some (.int .i64 ((rd_T112 l0 x558001_1).f1.f1)) ∧ w'.cell? ⟨(ad566.add ((x558001_1).toNat * 6)).block, (ad566.add ((x558001_1).toNat * 6)).off + 5, none⟩ = some (.string ((rd_T112 l0 x558001_1).f1.f2))) (ds := [16]) #[false, false, false, false, false, false, false, false, false, false, false, false, false, false, false, false, false] (by kernel_rfl) rfl rfl ⟨(blk_cell BK557.out 0).trans rfl, (blk_cell BK557.out 1).trans rfl, (blk_cell BK557.out 2).trans rfl, ((HB.out.cell (World.block_lt_of_cell? w _ hw566_0)).trans hw566_0), ((HB.out.cell (World.block_lt_of_cell? w _ hw566_1)).trans hw566_1), ((HB.out.cell (World.block_lt_of_cell? w _ hw566_2)).trans hw566_2), ((HB.out.cell (World.block_lt_of_cell? w _ hw566_3)).trans hw566_3), ((HB.out.cell (World.block_lt_of_cell? w _ hw566_4)).trans hw566_4), ((HB.out.cell (World.block_lt_of_cell? w _ hw566_5)).trans hw566_5), ((HB.out.cell (World.block_lt_of_cell? w _ hw570_0)).trans hw570_0), ((HB.out.cell (World.block_lt_of_cell? w _ hw570_1)).trans hw570_1), ((HB.out.cell (World.block_lt_of_cell? w _ hw570_2)).trans hw570_2), ((HB.out.cell (World.block_lt_of_cell? w _ hw570_3)).trans hw570_3), ((HB.out.cell (World.block_lt_of_cell? w _ hw570_4)).trans hw570_4), ((HB.out.cell (World.block_lt_of_cell? w _ hw570_5)).trans hw570_5)⟩ (fun hHeld => ?_); refine with_tabW impl_ListFrom.tab6 impl_ListFrom.bits6 (fun HT_ HW_ => ?_)
          generalize wr.drew = w31 at HO_6 BK557 BK558 HB hx566_0 hx566_1 hx566_2 hx566_3 hx566_4 hx566_5 hx570_0 hx570_1 hx570_2 hx570_3 hx570_4 hx570_5 hHeld ⊢
          refine pure_ (i := 0) (N := some 19) (v := ?_) (a' := ?_) #[true, false, false, false, false, false, false, false, false, false, false, false, false, false, false, false, false] rfl rfl (any_of HT_.out (by kernel_rfl)) (fun _ _ _ h => h) (Or.inl ⟨by rfl, ?_⟩) ?_ ?_
          rotate_left
          · intro w'
            go_simp
            with_reducible rfl
          rotate_left
          · simp only [Act.put, List.setIfInBounds_toArray, List.set_cons_zero, List.set_cons_succ, i64_w, i32_w]
            rfl
          refine pure_ (i := 1) (N := some 20) (v := ?_) (a' := ?_) #[true, true, false, false, false, false, false, false, false, false, false, false, false, false, false, false, false] rfl rfl (any_of HT_.out (by kernel_rfl)) (fun _ _ _ h => h) (Or.inl ⟨by rfl, ?_⟩) ?_ ?_
          rotate_left
          · intro w'
            go_simp
            with_reducible rfl
          rotate_left
          · simp only [Act.put, List.setIfInBounds_toArray, List.set_cons_zero, List.set_cons_succ, i64_w, i32_w]
            rfl
          refine pure_ (i := 2) (N := some 21) (v := ?_) (a' := ?_) #[true, true, true, false, false, false, false, false, false, false, false, false, false, false, false, false, false] rfl rfl (any_of HT_.out (by kernel_rfl)) (fun _ _ _ h => h) (Or.inl ⟨by rfl, ?_⟩) ?_ ?_
          rotate_left
          · intro w'
            go_simp
            with_reducible rfl
          rotate_left
          · simp only [Act.put, List.setIfInBounds_toArray, List.set_cons_zero, List.set_cons_succ, i64_w, i32_w]
            rfl
          refine pure_ (i := 9) (N := some 28) (v := ?_) (a' := ?_) #[true, true, true, false, false, false, false, false, false, true, false, false, false, false, false, false, false] rfl rfl (any_of HT_.out (by kernel_rfl)) (fun _ _ _ h => h) (Or.inl ⟨by rfl, ?_⟩) ?_ ?_
          rotate_left
          · intro w'
            go_simp
            with_reducible rfl
          rotate_left
          · simp only [Act.put, List.setIfInBounds_toArray, List.set_cons_zero, List.set_cons_succ, i64_w, i32_w]
            rfl
          refine pure_ (i := 10) (N := some 29) (v := ?_) (a' := ?_) #[true, true, true, false, false, false, false, false, false, true, true, false, false, false, false, false, false] rfl rfl (any_of HT_.out (by kernel_rfl)) (fun _ _ _ h => h) (Or.inl ⟨by rfl, ?_⟩) ?_ ?_
          rotate_left
          · intro w'
            go_simp
            with_reducible rfl
          rotate_left
          · simp only [Act.put, List.setIfInBounds_toArray, List.set_cons_zero, List.set_cons_succ, i64_w, i32_w]
            rfl
          refine take_ (i := 3) (N := some 22) (v := ?_) (a' := ?_) #[true, true, true, true, false, false, false, false, false, true, true, false, false, false, false, false, false] rfl rfl (take_ofW HT_.out HW_.out (by kernel_rfl)) (fun _ _ _ h => h) (Or.inl ⟨by rfl, ?_⟩) hHeld ?_ ?_
          rotate_left
          · rintro w' ⟨s0, s1, s2, s3, s4, s5, s6, s7, s8, s9, s10, s11, s12, s13, s14⟩
            go_simp
            with_reducible rfl
          rotate_left
          · simp only [Act.put, List.setIfInBounds_toArray, List.set_cons_zero, List.set_cons_succ, i64_w, i32_w]
            rfl
          refine pure_ (i := 4) (N := some 23) (v := ?_) (a' := ?_) #[true, true, true, true, true, false, false, false, false, true, true, false, false, false, false, false, false] rfl rfl (any_of HT_.out (by kernel_rfl)) (fun _ _ _ h => h) (Or.inl ⟨by rfl, ?_⟩) ?_ ?_
          rotate_left
          · intro w'
            go_simp
            with_reducible rfl
          rotate_left
          · simp only [Act.put, List.setIfInBounds_toArray, List.set_cons_zero, List.set_cons_succ, i64_w, i32_w]
            rfl
          refine pure_ (i := 5) (N := some 24) (v := ?_) (a' := ?_) #[true, true, true, true, true, true, false, false, false, true, true, false, false, false, false, false, false] rfl rfl (any_of HT_.out (by kernel_rfl)) (fun _ _ _ h => h) (Or.inl ⟨by rfl, ?_⟩) ?_ ?_
          rotate_left
          · intro w'
            go_simp
            with_reducible rfl
          rotate_left
          · simp only [Act.put, List.setIfInBounds_toArray, List.set_cons_zero, List.set_cons_succ, i64_w, i32_w]
            rfl
          refine take_ (i := 6) (N := some 25) (v := ?_) (a' := ?_) #[true, true, true, true, true, true, true, false, false, true, true, false, false, false, false, false, false] rfl rfl (take_ofW HT_.out HW_.out (by kernel_rfl)) (fun _ _ _ h => h) (Or.inl ⟨by rfl, ?_⟩) hHeld ?_ ?_
          rotate_left
          · rintro w' ⟨s0, s1, s2, s3, s4, s5, s6, s7, s8, s9, s10, s11, s12, s13, s14⟩
            go_simp
            with_reducible rfl
          rotate_left
          · simp only [Act.put, List.setIfInBounds_toArray, List.set_cons_zero, List.set_cons_succ, i64_w, i32_w]
            rfl
          refine take_ (i := 11) (N := some 30) (v := ?_) (a' := ?_) #[true, true, true, true, true, true, true, false, false, true, true, true, false, false, false, false, false] rfl rfl (take_ofW HT_.out HW_.out (by kernel_rfl)) (fun _ _ _ h => h) (Or.inl ⟨by rfl, ?_⟩) hHeld ?_ ?_
          rotate_left
          · rintro w' ⟨s0, s1, s2, s3, s4, s5, s6, s7, s8, s9, s10, s11, s12, s13, s14⟩
            go_simp
            with_reducible rfl
          rotate_left
          · simp only [Act.put, List.setIfInBounds_toArray, List.set_cons_zero, List.set_cons_succ, i64_w, i32_w]
            rfl
          refine pure_ (i := 12) (N := some 31) (v := ?_) (a' := ?_) #[true, true, true, true, true, true, true, false, false, true, true, true, true, false, false, false, false] rfl rfl (any_of HT_.out (by kernel_rfl)) (fun _ _ _ h => h) (Or.inl ⟨by rfl, ?_⟩) ?_ ?_
          rotate_left
          · intro w'
            go_simp
            with_reducible rfl
          rotate_left
          · simp only [Act.put, List.setIfInBounds_toArray, List.set_cons_zero, List.set_cons_succ, i64_w, i32_w]
            rfl
          refine pure_ (i := 13) (N := some 32) (v := ?_) (a' := ?_) #[true, true, true, true, true, true, true, false, false, true, true, true, true, true, false, false, false] rfl rfl (any_of HT_.out (by kernel_rfl)) (fun _ _ _ h => h) (Or.inl ⟨by rfl, ?_⟩) ?_ ?_
          rotate_left
          · intro w'
            go_simp
            with_reducible rfl
          rotate_left
          · simp only [Act.put, List.setIfInBounds_toArray, List.set_cons_zero, List.set_cons_succ, i64_w, i32_w]
            rfl
          refine take_ (i := 14) (N := some 33) (v := ?_) (a' := ?_) #[true, true, true, true, true, true, true, false, false, true, true, true, true, true, true, false, false] rfl rfl (take_ofW HT_.out HW_.out (by kernel_rfl)) (fun _ _ _ h => h) (Or.inl ⟨by rfl, ?_⟩) hHeld ?_ ?_
          rotate_left
          · rintro w' ⟨s0, s1, s2, s3, s4, s5, s6, s7, s8, s9, s10, s11, s12, s13, s14⟩
            go_simp
            with_reducible rfl
          rotate_left
          · simp only [Act.put, List.setIfInBounds_toArray, List.set_cons_zero, List.set_cons_succ, i64_w, i32_w]
            rfl
          refine one_ (i := 7) (N := some 26) #[true, true, true, true, true, true, true, true, false, true, true, true, true, true, true, false, false] rfl rfl (one_of HT_.out (by kernel_rfl)) (by decide) (fun K hK => ?_)
          refine value_ (w1 := ?_) (v := ?_) (by rfl) rfl ?_ ?_
          rotate_left 2
          · go_simp
            constructor
            · rfl
            · rfl
          refine hK.out _ _ ⟨(blk_cell (blk_alloc BK557.out _) 0).trans rfl, (blk_cell (blk_alloc BK557.out _) 1).trans rfl, (blk_cell (blk_alloc BK557.out _) 2).trans rfl, (World.cell?_alloc_lt _ _ _ (World.block_lt_of_cell? _ _ (((HB.out.cell (World.block_lt_of_cell? w _ hw566_0)).trans hw566_0)))).trans (((HB.out.cell (World.block_lt_of_cell? w _ hw566_0)).trans hw566_0)), (World.cell?_alloc_lt _ _ _ (World.block_lt_of_cell? _ _ (((HB.out.cell (World.block_lt_of_cell? w _ hw566_1)).trans hw566_1)))).trans (((HB.out.cell (World.block_lt_of_cell? w _ hw566_1)).trans hw566_1)), (World.cell?_alloc_lt _ _ _ (World.block_lt_of_cell? _ _ (((HB.out.cell (World.block_lt_of_cell? w _ hw566_2)).trans hw566_2)))).trans (((HB.out.cell (World.block_lt_of_cell? w _ hw566_2)).trans hw566_2)), (World.cell?_alloc_lt _ _ _ (World.block_lt_of_cell? _ _ (((HB.out.cell (World.block_lt_of_cell? w _ hw566_3)).trans hw566_3)))).trans (((HB.out.cell (World.block_lt_of_cell? w _ hw566_3)).trans hw566_3)), (World.cell?_alloc_lt _ _ _ (World.block_lt_of_cell? _ _ (((HB.out.cell (World.block_lt_of_cell? w _ hw566_4)).trans hw566_4)))).trans (((HB.out.cell (World.block_lt_of_cell? w _ hw566_4)).trans hw566_4)), (World.cell?_alloc_lt _ _ _ (World.block_lt_of_cell? _ _ (((HB.out.cell (World.block_lt_of_cell? w _ hw566_5)).trans hw566_5)))).trans (((HB.out.cell (World.block_lt_of_cell? w _ hw566_5)).trans hw566_5)), (World.cell?_alloc_lt _ _ _ (World.block_lt_of_cell? _ _ (((HB.out.cell (World.block_lt_of_cell? w _ hw570_0)).trans hw570_0)))).trans (((HB.out.cell (World.block_lt_of_cell? w _ hw570_0)).trans hw570_0)), (World.cell?_alloc_lt _ _ _ (World.block_lt_of_cell? _ _ (((HB.out.cell (World.block_lt_of_cell? w _ hw570_1)).trans hw570_1)))).trans (((HB.out.cell (World.block_lt_of_cell? w _ hw570_1)).trans hw570_1)), (World.cell?_alloc_lt _ _ _ (World.block_lt_of_cell? _ _ (((HB.out.cell (World.block_lt_of_cell? w _ hw570_2)).trans hw570_2)))).trans (((HB.out.cell (World.block_lt_of_cell? w _ hw570_2)).trans hw570_2)), (World.cell?_alloc_lt _ _ _ (World.block_lt_of_cell? _ _ (((HB.out.cell (World.block_lt_of_cell? w _ hw570_3)).trans hw570_3)))).trans (((HB.out.cell (World.block_lt_of_cell? w _ hw570_3)).trans hw570_3)), (World.cell?_alloc_lt _ _ _ (World.block_lt_of_cell? _ _ (((HB.out.cell (World.block_lt_of_cell? w _ hw570_4)).trans hw570_4)))).trans (((HB.out.cell (World.block_lt_of_cell? w _ hw570_4)).trans hw570_4)), (World.cell?_alloc_lt _ _ _ (World.block_lt_of_cell? _ _ (((HB.out.cell (World.block_lt_of_cell? w _ hw570_5)).trans hw570_5)))).trans (((HB.out.cell (World.block_lt_of_cell? w _ hw570_5)).trans hw570_5))⟩ (fun hHeld => ?_)
          clear hK K
          refine norm_ (a' := ?_) ?_ ?_
          rotate_left
          · show Act.put _ (some 26) _ = _
            simp only [Act.put, List.setIfInBounds_toArray, List.set_cons_zero, List.set_cons_succ, i64_w, i32_w]
            rfl
          refine one_ (i := 8) (N := some 27) #[true, true, true, true, true, true, true, true, true, true, true, true, true, true, true, false, false] rfl rfl (one_of HT_.out (by kernel_rfl)) (by decide) (fun K hK => ?_)
          refine Kd.R_append_step k32 (w0 := w) w.heap.size (by rfl) (.tmp 19) (.tmp 26) 59 32 (.agg #[(.int .i64 0), (.int .i64 0), (.string ⟨#[]⟩)]) 32 rfl Tryd.underlying59 info32 rfl (by decide) (by omega) u6 x6_1 (⟨(rd_T112 l0 x558001_1).f0.f0, (rd_T112 l0 x558001_1).f0.f1, (rd_T112 l0 x558001_1).f0.f2⟩ : S32) [.int .i64 ((rd_T112 l0 x558001_1).f0.f0), .int .i64 ((rd_T112 l0 x558001_1).f0.f1), .string ((rd_T112 l0 x558001_1).f0.f2)] (fun k_ => k_ ≠ gb557) (fun _ => False) rfl rfl ?aP (fun _ hk => hk.elim) ?aF ?aO ?aB ?aS ?aL ?_
          (case aP => exact k32_mkM _ _ _ (⟨(rd_T112 l0 x558001_1).f0.f0, (rd_T112 l0 x558001_1).f0.f1, (rd_T112 l0 x558001_1).f0.f2⟩ : S32))
          (case aB => exact d24_1)
          (case aF => exact (fun k_ hk => Kd.freshB (g := gb557) (o := .cells #[.int .i64 x558000_1, .int .i64 x558001_1, .string x558002_1] 32 (0, 0)) d24_2 k_ hk))
          (case aO => exact (by (with_reducible repeat (first | apply Kd.R_alloc | apply Kd.R_drewN | apply Kd.R_drew)); exact HO_6.out))
          (case aS => exact (below_size d24_1))
          (case aL => have := LMc18.out; omega)
          intro v568 w32 ho hb hg hat
          rw [← Ny567.out] at ho
          have n0_ := ak (blk_grown (g := gb557) (o := .cells #[.int .i64 x558000_1, .int .i64 x558001_1, .string x558002_1] 32 (0, 0)) d24_2 hg (Kd.R_away HO_6.out (fun _ hk => hk)))
          have n1_ := ak (blk_grown (g := gb558) (o := .cells #[.int .i64 x559000_1, .slice none 0 0, .int .i64 x559002_1, .int .i64 x559003_1, .string x559004_1] 61 (0, 0)) d24_4 hg (Kd.R_ne HO_6.out BK558.out (by decide)))
          have n2_ := ak (hb)
          have n3_ := ak (ho)
          clear BK557
          clear BK558
          clear HB
          clear HO_6
          have BK557 := n0_
          have BK558 := n1_
          have HB := n2_
          have HO569 := n3_
          clear n0_ n1_ n2_ n3_
          clear ho hb hg hat
          refine hK.out _ _ ⟨(blk_cell BK557.out 0).trans rfl, (blk_cell BK557.out 1).trans rfl, (blk_cell BK557.out 2).trans rfl, ((HB.out.cell (World.block_lt_of_cell? w _ hw566_0)).trans hw566_0), ((HB.out.cell (World.block_lt_of_cell? w _ hw566_1)).trans hw566_1), ((HB.out.cell (World.block_lt_of_cell? w _ hw566_2)).trans hw566_2), ((HB.out.cell (World.block_lt_of_cell? w _ hw566_3)).trans hw566_3), ((HB.out.cell (World.block_lt_of_cell? w _ hw566_4)).trans hw566_4), ((HB.out.cell (World.block_lt_of_cell? w _ hw566_5)).trans hw566_5), ((HB.out.cell (World.block_lt_of_cell? w _ hw570_0)).trans hw570_0), ((HB.out.cell (World.block_lt_of_cell? w _ hw570_1)).trans hw570_1), ((HB.out.cell (World.block_lt_of_cell? w _ hw570_2)).trans hw570_2), ((HB.out.cell (World.block_lt_of_cell? w _ hw570_3)).trans hw570_3), ((HB.out.cell (World.block_lt_of_cell? w _ hw570_4)).trans hw570_4), ((HB.out.cell (World.block_lt_of_cell? w _ hw570_5)).trans hw570_5)⟩ (fun hHeld => ?_)
          clear hK K
          refine norm_ (a' := ?_) ?_ ?_
          rotate_left
          · show Act.put _ (some 27) _ = _
            simp only [Act.put, List.setIfInBounds_toArray, List.set_cons_zero, List.set_cons_succ, i64_w, i32_w]
            rfl
          refine pure_ (i := 15) (N := some 6) (v := ?_) (a' := ?_) #[true, true, true, true, true, true, true, true, true, true, true, true, true, true, true, true, false] rfl rfl (any_of HT_.out (by kernel_rfl)) (fun _ _ _ h => h) (Or.inl ⟨by rfl, ?_⟩) ?_ ?_
          rotate_left
          · intro w'
            go_simp
            with_reducible rfl
          rotate_left
          · simp only [Act.put, List.setIfInBounds_toArray, List.set_cons_zero, List.set_cons_succ, i64_w, i32_w]
            rfl
          refine last_ (i := 16) (N := none) #[true, true, true, true, true, true, true, true, true, true, true, true, true, true, true, true, true] rfl rfl (one_of HT_.out (by kernel_rfl)) (by decide) (fun K hK => ?_)
          have hs33 : w32.cell? ⟨gb557, 0, none⟩ = some (.int .i64 x558000_1) := (blk_cell BK557.out 0).trans rfl
          have hfs33 := blk_frozen BK557.out 0
          have hns33_1 := NB558_557.out
          have hms33_1 := NB557_558.out
          have hs34 : w32.cell? ⟨gb557, 1, none⟩ = some (.int .i64 x558001_1) := (blk_cell BK557.out 1).trans rfl
          have hfs34 := blk_frozen BK557.out 1
          have hns34_1 := NB558_557.out
          have hms34_1 := NB557_558.out
          have hs35 : w32.cell? ⟨gb557, 2, none⟩ = some (.string x558002_1) := (blk_cell BK557.out 2).trans rfl
          have hfs35 := blk_frozen BK557.out 2
          have hns35_1 := NB558_557.out
          have hms35_1 := NB557_558.out
          refine skip_ (w1 := ?_) (by rfl) rfl ?_ ?_
          rotate_left
          · go_simp
            rfl
          refine hK.out _ _ ?_
          clear hK K
          refine done_ (done_of HT_.out (by kernel_rfl)) ?_
          obtain ⟨Ao36, co36, eo36⟩ := Kd.R_slice HO569.out
          subst eo36
          try go_wp2
          go_roundg k1
          case measure => have := HK1.out; omega
          case rel => exact ⟨(y567), ((rd_T112 l0 x558001_1).f1.f0), ((rd_T112 l0 x558001_1).f1.f1), ((rd_T112 l0 x558001_1).f1.f2), (x559000_1), (x559002_1), (x559003_1), (x559004_1), H', ⟨by have := HK1.out; omega⟩, ⟨by (with_reducible repeat (first | apply Kd.R_alloc | apply Kd.R_drewN | apply Kd.R_drew)); exact Kd.R_mono (Kd.R_far (p := ⟨gb557, 2, none⟩) (Kd.R_far (p := ⟨gb557, 1, none⟩) (Kd.R_far (p := ⟨gb557, 0, none⟩) (Kd.R_mono HO569.out (fun k_ hk => (⟨hk, hk⟩ : _ ∧ k_ ≠ gb557))) (fun _ hk => hk.2) (.int .i64 ((rd_T112 l0 x558001_1).f1.f0))) (fun _ hk => hk.2) (.int .i64 ((rd_T112 l0 x558001_1).f1.f1))) (fun _ hk => hk.2) (.string ((rd_T112 l0 x558001_1).f1.f2))) (fun _ hk => hk.1)⟩, ⟨by (with_reducible repeat (first | refine blk_drewN ?_ _ | refine blk_drew ?_ | refine blk_alloc ?_ _)); refine blk_put (cs := #[.int .i64 ((rd_T112 l0 x558001_1).f1.f0), .int .i64 ((rd_T112 l0 x558001_1).f1.f1), .string x558002_1]) ?_ 2 _ rfl; (with_reducible repeat (first | refine blk_drewN ?_ _ | refine blk_drew ?_ | refine blk_alloc ?_ _)); refine blk_put (cs := #[.int .i64 ((rd_T112 l0 x558001_1).f1.f0), .int .i64 x558001_1, .string x558002_1]) ?_ 1 _ rfl; (with_reducible repeat (first | refine blk_drewN ?_ _ | refine blk_drew ?_ | refine blk_alloc ?_ _)); refine blk_put (cs := #[.int .i64 x558000_1, .int .i64 x558001_1, .string x558002_1]) ?_ 0 _ rfl; (with_reducible repeat (first | refine blk_drewN ?_ _ | refine blk_drew ?_ | refine blk_alloc ?_ _)); exact BK557.out⟩, ⟨by (with_reducible repeat (first | refine blk_drewN ?_ _ | refine blk_drew ?_ | refine blk_alloc ?_ _)); refine blk_far ?_ NB558_557.out _; (with_reducible repeat (first | refine blk_drewN ?_ _ | refine blk_drew ?_ | refine blk_alloc ?_ _)); refine blk_far ?_ NB558_557.out _; (with_reducible repeat (first | refine blk_drewN ?_ _ | refine blk_drew ?_ | refine blk_alloc ?_ _)); refine blk_far ?_ NB558_557.out _; (with_reducible repeat (first | refine blk_drewN ?_ _ | refine blk_drew ?_ | refine blk_alloc ?_ _)); exact BK558.out⟩, ⟨by repeat (first | (with_reducible first | exact HB.out | apply below_alloc | apply pw_below_drewN | apply below_drew1 | refine below_set ?_ GE557.out | refine below_set ?_ GE558.out) | exact HB.out)⟩⟩
        ·rw [if_neg c18] at H
         exact absurd H (by simp)
       ·rw [if_neg c17] at H
        exact absurd H (by simp)
      ·rw [if_neg c16] at H
       exact absurd H (by simp)
     ·rw [if_neg c15] at H
      have c15b0 : (x558000_1 == 5) = false := beq_eq_false_iff_ne.mpr c15
      have c15b1 : (x558000_1 != 5) = true := bne_iff_ne.mpr c15
      simp only [Option.some.injEq, Prod.mk.injEq] at H
      obtain ⟨rfl, rfl, rfl, rfl, rfl⟩ := H
      have hnb37 := NB557_558.out
      have hnc37 := NB558_557.out
      have hcz38_0 : wr.cell? ⟨gb557, 0, none⟩ = some (.int .i64 x558000_1) := (blk_cell BK557.out 0).trans rfl
      have hcz38_1 : wr.cell? ⟨gb557, 1, none⟩ = some (.int .i64 x558001_1) := (blk_cell BK557.out 1).trans rfl
      have hcz38_2 : wr.cell? ⟨gb557, 2, none⟩ = some (.string x558002_1) := (blk_cell BK557.out 2).trans rfl
      have hfz38_0 := blk_frozen BK557.out 0
      have hfz38_1 := blk_frozen BK557.out 1
      have hfz38_2 := blk_frozen BK557.out 2
      obtain ⟨Ao39, co39, eo39⟩ := Kd.R_slice HO_6.out
      subst eo39
      have hcz40_0 : wr.cell? ⟨gb558, 0, none⟩ = some (.int .i64 x559000_1) := (blk_cell BK558.out 0).trans rfl
      have hcz40_1 : wr.cell? ⟨gb558, 1, none⟩ = some (.slice none 0 0) := (blk_cell BK558.out 1).trans rfl
      have hcz40_2 : wr.cell? ⟨gb558, 2, none⟩ = some (.int .i64 x559002_1) := (blk_cell BK558.out 2).trans rfl
      have hcz40_3 : wr.cell? ⟨gb558, 3, none⟩ = some (.int .i64 x559003_1) := (blk_cell BK558.out 3).trans rfl
      have hcz40_4 : wr.cell? ⟨gb558, 4, none⟩ = some (.string x559004_1) := (blk_cell BK558.out 4).trans rfl
      have hfz40_0 := blk_frozen BK558.out 0
      have hfz40_1 := blk_frozen BK558.out 1
      have hfz40_2 := blk_frozen BK558.out 2
      have hfz40_3 := blk_frozen BK558.out 3
      have hfz40_4 := blk_frozen BK558.out 4
      go_wp2
      refine bodyPost_ret (results_cell_row rfl _ _ gb558 61 #[.int .i64 0, .slice Ao39 x6_1.length co39, .int .i64 x558000_1, .int .i64 x558001_1, .string x558002_1] (0, 0) _ rfl (by (with_reducible repeat (first | refine blk_drewN ?_ _ | refine blk_drew ?_ | refine blk_alloc ?_ _)); refine blk_put (cs := #[.int .i64 0, .slice Ao39 x6_1.length co39, .int .i64 x558000_1, .int .i64 x558001_1, .string x559004_1]) ?_ 4 _ rfl; (with_reducible repeat (first | refine blk_drewN ?_ _ | refine blk_drew ?_ | refine blk_alloc ?_ _)); refine blk_put (cs := #[.int .i64 0, .slice Ao39 x6_1.length co39, .int .i64 x558000_1, .int .i64 x559003_1, .string x559004_1]) ?_ 3 _ rfl; (with_reducible repeat (first | refine blk_drewN ?_ _ | refine blk_drew ?_ | refine blk_alloc ?_ _)); refine blk_put (cs := #[.int .i64 0, .slice Ao39 x6_1.length co39, .int .i64 x559002_1, .int .i64 x559003_1, .string x559004_1]) ?_ 2 _ rfl; (with_reducible repeat (first | refine blk_drewN ?_ _ | refine blk_drew ?_ | refine blk_alloc ?_ _)); refine blk_put (cs := #[.int .i64 0, .slice none 0 0, .int .i64 x559002_1, .int .i64 x559003_1, .string x559004_1]) ?_ 1 _ rfl; (with_reducible repeat (first | refine blk_drewN ?_ _ | refine blk_drew ?_ | refine blk_alloc ?_ _)); refine blk_put (cs := #[.int .i64 x559000_1, .slice none 0 0, .int .i64 x559002_1, .int .i64 x559003_1, .string x559004_1]) ?_ 0 _ rfl; (with_reducible repeat (first | refine blk_drewN ?_ _ | refine blk_drew ?_ | refine blk_alloc ?_ _)); exact BK558.out) Tryd.underlying61 rfl (by kernel_rfl)) rfl ?_
      exact ⟨_, by first | rfl | (simp [errW_none, errW_some] <;> rfl) | (simp [*, errW_none, errW_some] <;> rfl), by (with_reducible repeat (first | apply Kd.R_alloc | apply Kd.R_drewN | apply Kd.R_drew)); exact Kd.R_mono (Kd.R_far (p := ⟨gb558, 4, none⟩) (Kd.R_far (p := ⟨gb558, 3, none⟩) (Kd.R_far (p := ⟨gb558, 2, none⟩) (Kd.R_far (p := ⟨gb558, 1, none⟩) (Kd.R_far (p := ⟨gb558, 0, none⟩) (Kd.R_types HO_6.out BK558.out (by decide)) (fun _ hk => hk.2) (.int .i64 0)) (fun _ hk => hk.2) (.slice Ao39 x6_1.length co39)) (fun _ hk => hk.2) (.int .i64 x558000_1)) (fun _ hk => hk.2) (.int .i64 x558001_1)) (fun _ hk => hk.2) (.string x558002_1)) (fun _ hk => trivial), by repeat (first | (with_reducible first | exact HB.out | apply below_alloc | apply pw_below_drewN | apply below_drew1 | refine below_set ?_ GE557.out | refine below_set ?_ GE558.out) | exact HB.out)⟩
  ·rw [if_neg c4] at H
   have c4b0 : (t562 == 0) = false := beq_eq_false_iff_ne.mpr c4
   have c4b1 : (t562 != 0) = true := bne_iff_ne.mpr c4
   simp only [Option.some.injEq, Prod.mk.injEq] at H
   obtain ⟨rfl, rfl, rfl, rfl, rfl⟩ := H
   go_enter Tryd.func35, Tryd.ntmps35
   go_wp2_with (first | ((with_reducible refine gate_dst (N := 3) rfl ?_); refine box_event ?hg (N := 3) ?hd (cs := #[.int .i64 a1_0, .int .i64 a1_1, .string a1_2]) (t := 32) ?hr ?_; (case hd => rfl); (case hg => rfl); (case hr => first | (go_simp; done) | (go_simp; rfl)); intro gb557 hg w41 hbox hb; have n0_ := ak (below_step d24_5 hb); have n1_ := ak (hbox); have n2_ := ak ((by rw [hg]; exact (below_size d24_5) : w.heap.size ≤ gb557)); have n3_ := ak ((by rw [hg]; exact (below_size d24_5) : w.heap.size ≤ gb557)); clear HB; have HB := n0_; have BK557 := n1_; have GW557 := n2_; have GE557 := n3_; clear n0_ n1_ n2_ n3_ hb hbox hg) | ((with_reducible refine gate_dst (N := 4) rfl ?_); refine box_event ?hg (N := 4) ?hd (cs := #[.int .i64 0, .slice none 0 0, .int .i64 0, .int .i64 0, .string (⟨#[]⟩ : ByteArray)]) (t := 61) ?hr ?_; (case hd => rfl); (case hg => rfl); (case hr => first | (go_simp; done) | (go_simp; rfl)); intro gb558 hg w42 hbox hb; have n0_ := ak (blk_below (g := gb557) (o := .cells #[.int .i64 a1_0, .int .i64 a1_1, .string a1_2] 32 (0, 0)) d24_2 hb); have n1_ := ak (below_step d24_3 hb); have n2_ := ak (hbox); have n3_ := ak ((by rw [hg]; exact (below_size d24_3) : w.heap.size ≤ gb558)); have n4_ := ak ((by rw [hg]; exact (below_size d24_3) : w.heap.size ≤ gb558)); have n5_ := ak ((by rw [hg]; exact Nat.ne_of_lt (blk_lt (g := gb557) (o := .cells #[.int .i64 a1_0, .int .i64 a1_1, .string a1_2] 32 (0, 0)) d24_2) : gb557 ≠ gb558)); have n6_ := ak ((by rw [hg]; exact Nat.ne_of_gt (blk_lt (g := gb557) (o := .cells #[.int .i64 a1_0, .int .i64 a1_1, .string a1_2] 32 (0, 0)) d24_2) : gb558 ≠ gb557)); clear BK557 HB; have BK557 := n0_; have HB := n1_; have BK558 := n2_; have GW558 := n3_; have GE558 := n4_; have NB557_558 := n5_; have NB558_557 := n6_; clear n0_ n1_ n2_ n3_ n4_ n5_ n6_ hb hbox hg; have hnb43 := NB557_558.out; have hnc43 := NB558_557.out; have hcz44_0 : w42.cell? ⟨gb557, 0, none⟩ = some (.int .i64 a1_0) := (blk_cell BK557.out 0).trans rfl; have hcz44_1 : w42.cell? ⟨gb557, 1, none⟩ = some (.int .i64 a1_1) := (blk_cell BK557.out 1).trans rfl; have hcz44_2 : w42.cell? ⟨gb557, 2, none⟩ = some (.string a1_2) := (blk_cell BK557.out 2).trans rfl; have hfz44_0 := blk_frozen BK557.out 0; have hfz44_1 := blk_frozen BK557.out 1; have hfz44_2 := blk_frozen BK557.out 2) | ((with_reducible refine gate_dst (N := 9) rfl ?_); refine Kd.R_lit k32 _ 32 ?hg (N := 9) ?hd (xs := ([(⟨a1_0, a1_1, a1_2⟩ : S32)] : List (S32))) (inner := [.int .i64 a1_0, .int .i64 a1_1, .string a1_2]) (ok := fun _ => True) (okp := fun _ => True) ?hr ?hp (fun _ hk => hk) trivial (Below.refl _ _) (Nat.le_refl _) (by simp) ?_; (case hd => rfl); (case hg => rfl); (case hr => first | (go_simp; done) | (go_simp; rfl)); (case hp => exact (Reps.c3 (show Kd.M k32 _ _ _ (⟨a1_0, a1_1, a1_2⟩ : S32) [.int .i64 a1_0, .int .i64 a1_1, .string a1_2] from (k32_mkM _ _ _ (⟨a1_0, a1_1, a1_2⟩ : S32) )) (Reps.none _ _))); intro v560 w45 ho46 hb hg_ hnew_; clear hg_ hnew_; (first | rw [← Ny559.out] at ho46 | (simp only [Int.reduceToNat] at ho46; rw [← Ny559.out] at ho46)); have n0_ := ak (Kd.R_lower (Kd.R_newB ho46 (g := gb557) (o := .cells #[.int .i64 a1_0, .int .i64 a1_1, .string a1_2] 32 (0, 0)) d24_2) (below_size d24_1)); have n1_ := ak (blk_below (g := gb557) (o := .cells #[.int .i64 a1_0, .int .i64 a1_1, .string a1_2] 32 (0, 0)) d24_2 hb); have n2_ := ak (blk_below (g := gb558) (o := .cells #[.int .i64 0, .slice none 0 0, .int .i64 0, .int .i64 0, .string (⟨#[]⟩ : ByteArray)] 61 (0, 0)) d24_4 hb); have n3_ := ak (below_step d24_1 hb); clear BK557 BK558 HB; have HO561 := n0_; have BK557 := n1_; have BK558 := n2_; have HB := n3_; clear n0_ n1_ n2_ n3_ hb ho46; obtain ⟨Ao47, co47, eo47⟩ := Kd.R_slice HO561.out; subst eo47) | ((with_reducible refine gate_callee (f := 75) rfl ?_); refine goesL_ (some 10) rfl rfl Tryd.func75 (by kernel_rfl) rfl #[.slice A0 l0.length c0, .slice Ao47 y559.length co47] rfl (by (try simp only [List.map_toArray, List.map_cons, List.map_nil]); first | done | rfl | (simp only [List.length_drop, List.length_take]; rfl)) ?_; (with_reducible refine (impl_heapFault.calls k _ _ l0 _ _ y559 t562 _ ?side1 ?side2 ?side3 ?side4 A3.out).mono ?_); (case side1 => repeat (first | exact (Kd.C_below HR0.out HB.out) | (with_reducible refine Kd.C_alloc ?_ _) | (with_reducible refine Kd.C_drewN ?_ _) | (with_reducible refine Kd.C_drew ?_))); (case side2 => exact HC0.out); (case side3 => repeat (first | exact (Kd.R_reads' HO561.out).2.2 | (with_reducible refine Kd.C_alloc ?_ _) | (with_reducible refine Kd.C_drewN ?_ _) | (with_reducible refine Kd.C_drew ?_))); (case side4 => exact (Kd.R_reads' HO561.out).2.1); rintro e w48 ⟨rfl, hb⟩; refine ⟨_, rfl, ?_⟩; have n0_ := ak (Kd.R_below d24_7 hb); have n1_ := ak (blk_below (g := gb557) (o := .cells #[.int .i64 a1_0, .int .i64 a1_1, .string a1_2] 32 (0, 0)) d24_2 hb); have n2_ := ak (blk_below (g := gb558) (o := .cells #[.int .i64 0, .slice none 0 0, .int .i64 0, .int .i64 0, .string (⟨#[]⟩ : ByteArray)] 61 (0, 0)) d24_4 hb); have n3_ := ak (below_step d24_1 hb); clear HO561 BK557 BK558 HB; have HO561 := n0_; have BK557 := n1_; have BK558 := n2_; have HB := n3_; clear n0_ n1_ n2_ n3_; (try clear hb); (try clear hk); have hcz49_0 : w48.cell? ⟨gb558, 0, none⟩ = some (.int .i64 0) := (blk_cell BK558.out 0).trans rfl; have hcz49_1 : w48.cell? ⟨gb558, 1, none⟩ = some (.slice none 0 0) := (blk_cell BK558.out 1).trans rfl; have hcz49_2 : w48.cell? ⟨gb558, 2, none⟩ = some (.int .i64 0) := (blk_cell BK558.out 2).trans rfl; have hcz49_3 : w48.cell? ⟨gb558, 3, none⟩ = some (.int .i64 0) := (blk_cell BK558.out 3).trans rfl; have hcz49_4 : w48.cell? ⟨gb558, 4, none⟩ = some (.string (⟨#[]⟩ : ByteArray)) := (blk_cell BK558.out 4).trans rfl; have hfz49_0 := blk_frozen BK558.out 0; have hfz49_1 := blk_frozen BK558.out 1; have hfz49_2 := blk_frozen BK558.out 2; have hfz49_3 := blk_frozen BK558.out 3; have hfz49_4 := blk_frozen BK558.out 4))
   refine bodyPost_ret (results_cell_row rfl _ _ gb558 61 #[.int .i64 t562, .slice none 0 0, .int .i64 0, .int .i64 0, .string (⟨#[]⟩ : ByteArray)] (0, 0) _ rfl (by (with_reducible repeat (first | refine blk_drewN ?_ _ | refine blk_drew ?_ | refine blk_alloc ?_ _)); refine blk_put (cs := #[.int .i64 t562, .slice none 0 0, .int .i64 0, .int .i64 0, .string (⟨#[]⟩ : ByteArray)]) ?_ 4 _ rfl; (with_reducible repeat (first | refine blk_drewN ?_ _ | refine blk_drew ?_ | refine blk_alloc ?_ _)); refine blk_put (cs := #[.int .i64 t562, .slice none 0 0, .int .i64 0, .int .i64 0, .string (⟨#[]⟩ : ByteArray)]) ?_ 3 _ rfl; (with_reducible repeat (first | refine blk_drewN ?_ _ | refine blk_drew ?_ | refine blk_alloc ?_ _)); refine blk_put (cs := #[.int .i64 t562, .slice none 0 0, .int .i64 0, .int .i64 0, .string (⟨#[]⟩ : ByteArray)]) ?_ 2 _ rfl; (with_reducible repeat (first | refine blk_drewN ?_ _ | refine blk_drew ?_ | refine blk_alloc ?_ _)); refine blk_put (cs := #[.int .i64 t562, .slice none 0 0, .int .i64 0, .int .i64 0, .string (⟨#[]⟩ : ByteArray)]) ?_ 1 _ rfl; (with_reducible repeat (first | refine blk_drewN ?_ _ | refine blk_drew ?_ | refine blk_alloc ?_ _)); refine blk_put (cs := #[.int .i64 0, .slice none 0 0, .int .i64 0, .int .i64 0, .string (⟨#[]⟩ : ByteArray)]) ?_ 0 _ rfl; (with_reducible repeat (first | refine blk_drewN ?_ _ | refine blk_drew ?_ | refine blk_alloc ?_ _)); exact BK558.out) Tryd.underlying61 rfl (by kernel_rfl)) rfl ?_
   exact ⟨_, by first | rfl | (simp [errW_none, errW_some] <;> rfl) | (simp [*, errW_none, errW_some] <;> rfl), by first | exact Kd.R_nil _ _ _ _ _ | exact Kd.N_nil _ _ _ _ _ | exact Kd.V_nil _ _ _ _ _ | exact Kd.Q_nil _ _ _ _ _ | exact Kd.S_nil _ _ _ _ _, by repeat (first | (with_reducible first | exact HB.out | apply below_alloc | apply pw_below_drewN | apply below_drew1 | refine below_set ?_ GE557.out | refine below_set ?_ GE558.out) | exact HB.out)⟩

end Go.Proofs.YtaeeoljihmndfaaDoor.A
