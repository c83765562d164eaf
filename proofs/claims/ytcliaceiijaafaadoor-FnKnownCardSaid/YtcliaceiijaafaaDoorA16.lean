/- Walks of the program's functions: each Go function's answer as a plain Lean function, and that the call comes to it. Written by a program. Conditions: those in each theorem's own head. -/
import Derived.Test.YtcliaceiijaafaaDoorA0
import Derived.Test.YtcliaceiijaafaaDoorA4
import Derived.Test.YtcliaceiijaafaaDoorA5
import Derived.Test.YtcliaceiijaafaaDoorA6
import Derived.Test.YtcliaceiijaafaaDoorA15
namespace Go.Proofs.YtcliaceiijaafaaDoor.A
open Go.RowKit Go.Proofs.YtcliaceiijaafaaDoorW.PrintWords Go.Proofs.YtcliaceiijaafaaDoorW.PrintLast Go.Proofs.YtcliaceiijaafaaDoorW.PrintMore
attribute [local go_sem] max2_int min2_int max_two min_two max_three min_three max_four min_four   -- for this text's walks alone
set_option linter.unusedVariables false
set_option linter.unusedSimpArgs false

theorem d16_1 {p : Prop} (h : p := by first | exact Kd.own_blk (Kd.R_ne HO_204001.out BK219.out (by decide)) | (rw [add_block]; exact Kd.own_blk (Kd.R_ne HO_204001.out BK219.out (by decide))) | (show (Addr.add _ _).block ≠ _; rw [add_block]; exact Kd.own_blk (Kd.R_ne HO_204001.out BK219.out (by decide))) | (dsimp only; exact Kd.own_blk (Kd.R_ne HO_204001.out BK219.out (by decide)))) : p := h
theorem d16_2 {p : Prop} (h : p := by (with_reducible repeat (first | refine blk_drewN ?_ _ | refine blk_drew ?_ | refine blk_alloc ?_ _)); exact BK203.out) : p := h
theorem d16_3 {p : Prop} (h : p := by repeat (first | (with_reducible first | exact HB.out | apply below_alloc | apply pw_below_drewN | apply below_drew1) | exact HB.out)) : p := h
theorem d16_4 {p : Prop} (h : p := by (try simp only [List.map_toArray, List.map_cons, List.map_nil]); first | done | rfl | (simp only [List.length_drop, List.length_take]; rfl)) : p := h
theorem d16_5 {p : Prop} (h : p := by repeat (first | (with_reducible first | exact HB.out | apply below_alloc | apply pw_below_drewN | apply below_drew1 | refine below_set ?_ GE203.out) | exact HB.out)) : p := h
theorem d16_6 {p : Prop} (h : p := by repeat (first | (with_reducible first | exact HB.out | apply below_alloc | apply pw_below_drewN | apply below_drew1 | refine below_set ?_ GE203.out | refine below_set ?_ GE211.out) | exact HB.out)) : p := h
theorem d16_7 {p : Prop} (h : p := by (with_reducible repeat (first | apply Kd.R_alloc | apply Kd.R_drewN | apply Kd.R_drew)); exact HO_204001.out) : p := h
theorem d16_8 {p : Prop} (h : p := by (with_reducible repeat (first | refine blk_drewN ?_ _ | refine blk_drew ?_ | refine blk_alloc ?_ _)); exact BK211.out) : p := h
theorem d16_9 {p : Prop} (h : p := by first | rfl | (simp; done) | (simp [*]; done) | (simp [ne_nil_b, eq_nil_b]; done)) : p := h
theorem d16_10 {p : Prop} (h : p := by repeat (first | (with_reducible first | exact HB.out | apply below_alloc | apply pw_below_drewN | apply below_drew1 | refine below_set ?_ GE203.out | refine below_set ?_ GE211.out | refine below_set ?_ GE219.out) | exact HB.out)) : p := h
theorem d16_11 {p : Prop} (h : p := by (with_reducible repeat (first | apply Kd.R_alloc | apply Kd.R_drewN | apply Kd.R_drew)); exact HO202.out) : p := h

/-! ### laws_FnKnown: function 3 -/
mutual
def laws_FnKnown.l0 : Nat → Int → Int → Int → List (S35) → Option (Bool)
  | 0, _, _, _, _ => none
  | k + 1, x3, x5, x204000, x204001 => if x5 < (x204001.length : Int) then (if 0 ≤ x5 then ((impl_PrimOf.f k ((rd_T35 x204001 x5).f0)).bind fun bt209 => ((impl_LookGlobal.f k x204001 ((rd_T35 x204001 x5).f0)).bind fun bt213 => (if bt209.1 = 0 then (if bt213.2.2.1 = 8 then (if bt213.2.2.2.1 = bt209.2 then (laws_FnKnown.j1 k x3 x5 (bt213.2.2.2.2.2 != x3) x204000 x204001) else (laws_FnKnown.j1 k x3 x5 true x204000 x204001)) else (laws_FnKnown.j1 k x3 x5 true x204000 x204001)) else (laws_FnKnown.j1 k x3 x5 true x204000 x204001)))) else (none)) else (if (x204001.length : Int) = 16 then ((impl_GlobalsFault.f k x204001).bind fun t220 => (if t220 = 0 then ((impl_LookGlobal.f k x204001 (⟨#[102, 111, 111]⟩ : ByteArray)).bind fun bt221 => (laws_FnKnown.j2 k (bt221.1 == 4))) else (laws_FnKnown.j2 k false))) else (laws_FnKnown.j2 k false))
def laws_FnKnown.j1 : Nat → Int → Int → Bool → Int → List (S35) → Option (Bool)
  | 0, _, _, _, _, _ => none
  | k + 1, x3, x5, x71, x204000, x204001 => if x71 = true then (some false) else (laws_FnKnown.l0 k x3 (wrap64 (x5 + 1)) x204000 x204001)
def laws_FnKnown.j2 : Nat → Bool → Option (Bool)
  | 0, _ => none
  | k + 1, x2 => some x2
end
def laws_FnKnown.f (k : Nat) (l0 : List Int) : Option (Bool) := (laws_lwBig.f l0).bind fun t197 => (if t197 = true then (some true) else ((spec_DrawNewGlobals.f l0).bind fun t198 => ((impl_NewGlobals.f k t198).bind fun bt199 => (if bt199.1 = 0 then (laws_FnKnown.l0 k t198 0 bt199.1 bt199.2) else ((spec_NewGlobals.f k t198).bind fun bt204 => (some (bt204.1 == bt199.1)))))))
theorem laws_FnKnown.mono_l : ∀ k, (∀ y0 y1 y2 y3, LeO (laws_FnKnown.l0 k y0 y1 y2 y3) (laws_FnKnown.l0 (k + 1) y0 y1 y2 y3)) ∧ (∀ y0 y1 y2 y3 y4, LeO (laws_FnKnown.j1 k y0 y1 y2 y3 y4) (laws_FnKnown.j1 (k + 1) y0 y1 y2 y3 y4)) ∧ (∀ y0, LeO (laws_FnKnown.j2 k y0) (laws_FnKnown.j2 (k + 1) y0))
  | 0 => ⟨fun _ _ _ _ r h => by simp [laws_FnKnown.l0] at h, fun _ _ _ _ _ r h => by simp [laws_FnKnown.j1] at h, fun _ r h => by simp [laws_FnKnown.j2] at h⟩
  | k + 1 => by
    obtain ⟨ih0, ih1, ih2⟩ := laws_FnKnown.mono_l k
    refine ⟨?_, ?_, ?_⟩
    · intro y0 y1 y2 y3
      unfold laws_FnKnown.l0
      repeat' first
      | (with_reducible exact ih0 _ _ _ _)
      | (with_reducible exact ih1 _ _ _ _ _)
      | (with_reducible exact ih2 _)
      | (with_reducible exact impl_GlobalsFault.mono _ _)
      | (with_reducible exact impl_LookGlobal.mono _ _ _)
      | (with_reducible exact impl_NewGlobals.mono _ _)
      | (with_reducible exact impl_PrimOf.mono _ _)
      | (with_reducible exact spec_NewGlobals.mono _ _)
      | (with_reducible exact LeO.refl _)
      | (with_reducible exact LeO.none _)
      | (with_reducible refine LeO.ite ?_ ?_)
      | (with_reducible refine LeO.bind ?_ (fun _ => ?_))
      | exact ih0 _ _ _ _
      | exact ih1 _ _ _ _ _
      | exact ih2 _
      | exact impl_GlobalsFault.mono _ _
      | exact impl_LookGlobal.mono _ _ _
      | exact impl_NewGlobals.mono _ _
      | exact impl_PrimOf.mono _ _
      | exact spec_NewGlobals.mono _ _
      | exact LeO.none _
      | refine LeO.ite ?_ ?_
      | refine LeO.bind ?_ (fun _ => ?_)
    · intro y0 y1 y2 y3 y4
      unfold laws_FnKnown.j1
      repeat' first
      | (with_reducible exact ih0 _ _ _ _)
      | (with_reducible exact ih1 _ _ _ _ _)
      | (with_reducible exact ih2 _)
      | (with_reducible exact impl_GlobalsFault.mono _ _)
      | (with_reducible exact impl_LookGlobal.mono _ _ _)
      | (with_reducible exact impl_NewGlobals.mono _ _)
      | (with_reducible exact impl_PrimOf.mono _ _)
      | (with_reducible exact spec_NewGlobals.mono _ _)
      | (with_reducible exact LeO.refl _)
      | (with_reducible exact LeO.none _)
      | (with_reducible refine LeO.ite ?_ ?_)
      | (with_reducible refine LeO.bind ?_ (fun _ => ?_))
      | exact ih0 _ _ _ _
      | exact ih1 _ _ _ _ _
      | exact ih2 _
      | exact impl_GlobalsFault.mono _ _
      | exact impl_LookGlobal.mono _ _ _
      | exact impl_NewGlobals.mono _ _
      | exact impl_PrimOf.mono _ _
      | exact spec_NewGlobals.mono _ _
      | exact LeO.none _
      | refine LeO.ite ?_ ?_
      | refine LeO.bind ?_ (fun _ => ?_)
    · intro y0
      unfold laws_FnKnown.j2
      repeat' first
      | (with_reducible exact ih0 _ _ _ _)
      | (with_reducible exact ih1 _ _ _ _ _)
      | (with_reducible exact ih2 _)
      | (with_reducible exact impl_GlobalsFault.mono _ _)
      | (with_reducible exact impl_LookGlobal.mono _ _ _)
      | (with_reducible exact impl_NewGlobals.mono _ _)
      | (with_reducible exact impl_PrimOf.mono _ _)
      | (with_reducible exact spec_NewGlobals.mono _ _)
      | (with_reducible exact LeO.refl _)
      | (with_reducible exact LeO.none _)
      | (with_reducible refine LeO.ite ?_ ?_)
      | (with_reducible refine LeO.bind ?_ (fun _ => ?_))
      | exact ih0 _ _ _ _
      | exact ih1 _ _ _ _ _
      | exact ih2 _
      | exact impl_GlobalsFault.mono _ _
      | exact impl_LookGlobal.mono _ _ _
      | exact impl_NewGlobals.mono _ _
      | exact impl_PrimOf.mono _ _
      | exact spec_NewGlobals.mono _ _
      | exact LeO.none _
      | refine LeO.ite ?_ ?_
      | refine LeO.bind ?_ (fun _ => ?_)
theorem laws_FnKnown.mono : ∀ a0 k, LeO (laws_FnKnown.f k a0) (laws_FnKnown.f (k + 1) a0) := by
  intro a0 k
  obtain ⟨ih0, ih1, ih2⟩ := laws_FnKnown.mono_l k
  unfold laws_FnKnown.f
  repeat' first
      | (with_reducible exact ih0 _ _ _ _)
      | (with_reducible exact ih1 _ _ _ _ _)
      | (with_reducible exact ih2 _)
      | (with_reducible exact impl_GlobalsFault.mono _ _)
      | (with_reducible exact impl_LookGlobal.mono _ _ _)
      | (with_reducible exact impl_NewGlobals.mono _ _)
      | (with_reducible exact impl_PrimOf.mono _ _)
      | (with_reducible exact spec_NewGlobals.mono _ _)
      | (with_reducible exact LeO.refl _)
      | (with_reducible exact LeO.none _)
      | (with_reducible refine LeO.ite ?_ ?_)
      | (with_reducible refine LeO.bind ?_ (fun _ => ?_))
      | exact ih0 _ _ _ _
      | exact ih1 _ _ _ _ _
      | exact ih2 _
      | exact impl_GlobalsFault.mono _ _
      | exact impl_LookGlobal.mono _ _ _
      | exact impl_NewGlobals.mono _ _
      | exact impl_PrimOf.mono _ _
      | exact spec_NewGlobals.mono _ _
      | exact LeO.none _
      | refine LeO.ite ?_ ?_
      | refine LeO.bind ?_ (fun _ => ?_)
def laws_FnKnown.T11 : Bool × List (List Nat × List Nat) := (true, [([], []), ([0], [0]), ([], []), ([2], [2]), ([], []), ([3, 4], [3, 4]), ([5], [5]), ([6], [6]), ([1, 7], [1, 7]), ([], []), ([9, 8, 8, 0, 1, 2, 3, 4, 5, 6, 7, 8, 9], [8, 9])])
def laws_FnKnown.B11 : List Nat := [0, 1, 0, 4, 0, 28, 60, 124, 255, 0, 1023]
theorem laws_FnKnown.tab11 : rtab .any (opsOf Tryd.f3 11) = laws_FnKnown.T11 := by kernel_rfl
theorem laws_FnKnown.bits11 : waitsOk laws_FnKnown.T11.2 laws_FnKnown.B11 = true := by kernel_rfl
set_option maxHeartbeats 8000000 in
set_option maxRecDepth 100000 in
theorem laws_FnKnown.calls (k : Nat) (A0 : Option Addr) (c0 : Nat) (l0 : List Int) (r : Bool) (w : World) (hr0 : Kd.C (Kd.int .u8) w A0 l0.length l0) (hc0 : l0.length ≤ c0) (h : laws_FnKnown.f k l0 = some r) :
    Calls Tryd.prog 3 #[.slice A0 l0.length c0] w fun e w' => e = .returned (.bool r) ∧ Below w.heap.size w w' := by
  have hu27 := Tryd.underlying27
  have hfd27_0 : ∀ (v0 v1 : Value) (w : World), (Instr.field 27 (.agg #[v0, v1]) 0).run Tryd.prog w = .ok (v0) w := fun _ _ _ => by kernel_rfl
  have hu30 := Tryd.underlying30
  have hu37 := Tryd.underlying37
  have hfd37_0 : ∀ (v0 v1 v2 v3 v4 v5 : Value) (w : World), (Instr.field 37 (.agg #[v0, v1, v2, v3, v4, v5]) 0).run Tryd.prog w = .ok (v0) w := fun _ _ _ _ _ _ _ => by kernel_rfl
  have HR0 := ak hr0
  have HC0 := ak hc0
  clear hr0 hc0
  have HB := ak (Below.refl w.heap.size w)
  have H : ((laws_lwBig.f l0).bind fun t197 => (if t197 = true then (some true) else ((spec_DrawNewGlobals.f l0).bind fun t198 => ((impl_NewGlobals.f k t198).bind fun bt199 => (if bt199.1 = 0 then (laws_FnKnown.l0 k t198 0 bt199.1 bt199.2) else ((spec_NewGlobals.f k t198).bind fun bt204 => (some (bt204.1 == bt199.1)))))))) = some r := h
  clear h
  replace H := Option.bind_eq_some_iff.mp H
  obtain ⟨t197, A20, H⟩ := H
  replace H : (if t197 = true then (some true) else ((spec_DrawNewGlobals.f l0).bind fun t198 => ((impl_NewGlobals.f k t198).bind fun bt199 => (if bt199.1 = 0 then (laws_FnKnown.l0 k t198 0 bt199.1 bt199.2) else ((spec_NewGlobals.f k t198).bind fun bt204 => (some (bt204.1 == bt199.1))))))) = some r := H
  have A2 := ak A20
  clear A20
  by_cases c3 : t197 = true
  ·subst c3
   have H1 : (some true) = some r := by rw [if_pos rfl] at H; exact H
   clear H
   have H := H1
   clear H1
   obtain rfl := Option.some.inj H
   go_enter Tryd.func3, Tryd.ntmps3
   go_wp2_with (first | ((with_reducible refine gate_callee (f := 8) rfl ?_); refine goesL_ (some 9) rfl rfl Tryd.func8 (by kernel_rfl) rfl #[.slice A0 l0.length c0] rfl d16_4 ?_; (with_reducible refine (laws_lwBig.calls _ _ l0 true _ ?side1 ?side2 A2.out).mono ?_); (case side1 => repeat (first | exact HR0.out | (with_reducible refine Kd.C_alloc ?_ _) | (with_reducible refine Kd.C_drewN ?_ _) | (with_reducible refine Kd.C_drew ?_))); (case side2 => exact HC0.out); rintro e w' ⟨rfl, ⟨nd, rfl⟩⟩; refine ⟨_, rfl, ?_⟩))
   go_ret
   exact ⟨by first | rfl | (simp [errW_none, errW_some] <;> rfl) | (simp [*, errW_none, errW_some] <;> rfl), by repeat (first | (with_reducible first | exact HB.out | apply below_alloc | apply pw_below_drewN | apply below_drew1) | exact HB.out)⟩
  ·replace c3 := Bool.eq_false_iff.mpr c3
   subst c3
   have H1 : ((spec_DrawNewGlobals.f l0).bind fun t198 => ((impl_NewGlobals.f k t198).bind fun bt199 => (if bt199.1 = 0 then (laws_FnKnown.l0 k t198 0 bt199.1 bt199.2) else ((spec_NewGlobals.f k t198).bind fun bt204 => (some (bt204.1 == bt199.1)))))) = some r := by rw [if_neg (show ¬ (false = true) by decide)] at H; exact H
   clear H
   have H := H1
   clear H1
   replace H := Option.bind_eq_some_iff.mp H
   obtain ⟨t198, A40, H⟩ := H
   replace H : ((impl_NewGlobals.f k t198).bind fun bt199 => (if bt199.1 = 0 then (laws_FnKnown.l0 k t198 0 bt199.1 bt199.2) else ((spec_NewGlobals.f k t198).bind fun bt204 => (some (bt204.1 == bt199.1))))) = some r := H
   have A4 := ak A40
   clear A40
   replace H := Option.bind_eq_some_iff.mp H
   obtain ⟨⟨t199, t200⟩, A50, H⟩ := H
   replace H : (if t199 = 0 then (laws_FnKnown.l0 k t198 0 t199 t200) else ((spec_NewGlobals.f k t198).bind fun bt204 => (some (bt204.1 == t199)))) = some r := H
   have A5 := ak A50
   clear A50
   by_cases c6 : t199 = 0
   ·rw [if_pos c6] at H
    have c6b0 : (t199 == 0) = true := beq_iff_eq.mpr c6
    have c6b1 : (t199 != 0) = false := bne_eq_false_iff_eq.mpr c6
    clear c6
    have H' := ak H
    clear H
    go_enter Tryd.func3, Tryd.ntmps3
    go_wp2_with (first | ((with_reducible refine gate_callee (f := 8) rfl ?_); refine goesL_ (some 9) rfl rfl Tryd.func8 (by kernel_rfl) rfl #[.slice A0 l0.length c0] rfl d16_4 ?_; (with_reducible refine (laws_lwBig.calls _ _ l0 false _ ?side1 ?side2 A2.out).mono ?_); (case side1 => repeat (first | exact HR0.out | (with_reducible refine Kd.C_alloc ?_ _) | (with_reducible refine Kd.C_drewN ?_ _) | (with_reducible refine Kd.C_drew ?_))); (case side2 => exact HC0.out); rintro e w' ⟨rfl, ⟨nd, rfl⟩⟩; refine ⟨_, rfl, ?_⟩) | ((with_reducible refine gate_callee (f := 9) rfl ?_); refine goesL_ (some 11) rfl rfl Tryd.func9 (by kernel_rfl) rfl #[.slice A0 l0.length c0] rfl d16_4 ?_; (with_reducible refine (spec_DrawNewGlobals.calls _ _ l0 t198 _ ?side1 ?side2 A4.out).mono ?_); (case side1 => repeat (first | exact HR0.out | (with_reducible refine Kd.C_alloc ?_ _) | (with_reducible refine Kd.C_drewN ?_ _) | (with_reducible refine Kd.C_drew ?_))); (case side2 => exact HC0.out); rintro e w7 ⟨rfl, hb⟩; refine ⟨_, rfl, ?_⟩; have n0_ := ak (below_step d16_3 hb); clear HB; have HB := n0_; clear n0_; (try clear hb)) | ((with_reducible refine gate_callee (f := 10) rfl ?_); refine goesL_ (some 13) rfl rfl Tryd.func10 (by kernel_rfl) rfl #[.int .i64 t198] rfl d16_4 ?_; (with_reducible refine (impl_NewGlobals.calls k t198 t199 t200 _ A5.out).mono ?_); rintro e w8 ⟨v201, rfl, ho0, hb⟩; refine ⟨_, rfl, ?_⟩; have n0_ := ak (Kd.R_lower ho0 (below_size d16_3)); have n1_ := ak (below_step d16_3 hb); clear HB; have HO202 := n0_; have HB := n1_; clear n0_ n1_; (try clear hb); (try clear ho0)) | ((with_reducible refine gate_dst (N := 4) rfl ?_); refine box_event ?hg (N := 4) ?hd (cs := #[.int .i64 0, .slice none 0 0]) (t := 27) ?hr ?_; (case hd => rfl); (case hg => rfl); (case hr => first | (go_simp; done) | (go_simp; rfl)); intro gb203 hg w9 hbox hb; have n0_ := ak (Kd.R_below d16_11 hb); have n1_ := ak (below_step d16_3 hb); have n2_ := ak (hbox); have n3_ := ak ((by rw [hg]; exact (below_size d16_3) : w.heap.size ≤ gb203)); have n4_ := ak ((by rw [hg]; exact (below_size d16_3) : w.heap.size ≤ gb203)); clear HO202 HB; have HO202 := n0_; have HB := n1_; have BK203 := n2_; have GW203 := n3_; have GE203 := n4_; clear n0_ n1_ n2_ n3_ n4_ hb hbox hg; have hcz10_0 : w9.cell? ⟨gb203, 0, none⟩ = some (.int .i64 0) := (blk_cell BK203.out 0).trans rfl; have hcz10_1 : w9.cell? ⟨gb203, 1, none⟩ = some (.slice none 0 0) := (blk_cell BK203.out 1).trans rfl; have hfz10_0 := blk_frozen BK203.out 0; have hfz10_1 := blk_frozen BK203.out 1; obtain ⟨Ao11, co11, eo11⟩ := Kd.R_slice HO202.out; subst eo11))
    go_loopg [5] k (fun kq v5 w' => ∃ (x5_1 : Int), v5 = .int .i64 x5_1 ∧ Aside0 (laws_FnKnown.l0 kq t198 x5_1 t199 t200 = some r) ∧ Aside0 (kq ≤ k) ∧ Aside0 (Kd.R k35 35 w' w.heap.size (fun _ => True) (.slice Ao11 t200.length co11) t200) ∧ Aside0 (w'.heap[gb203]? = some (.cells #[.int .i64 t199, (.slice Ao11 t200.length co11)] 27 (0, 0))) ∧ Aside0 (Below w.heap.size w w'))
    case atStart => exact ⟨(0), d16_9, H', ⟨Nat.le_refl _⟩, ⟨by (with_reducible repeat (first | apply Kd.R_alloc | apply Kd.R_drewN | apply Kd.R_drew)); exact Kd.R_mono (Kd.R_far (p := ⟨gb203, 1, none⟩) (Kd.R_far (p := ⟨gb203, 0, none⟩) (Kd.R_types HO202.out BK203.out (by decide)) (fun _ hk => hk.2) (.int .i64 t199)) (fun _ hk => hk.2) (.slice Ao11 t200.length co11)) (fun _ hk => trivial)⟩, ⟨by (with_reducible repeat (first | refine blk_drewN ?_ _ | refine blk_drew ?_ | refine blk_alloc ?_ _)); refine blk_put (cs := #[.int .i64 t199, .slice none 0 0]) ?_ 1 _ rfl; (with_reducible repeat (first | refine blk_drewN ?_ _ | refine blk_drew ?_ | refine blk_alloc ?_ _)); refine blk_put (cs := #[.int .i64 0, .slice none 0 0]) ?_ 0 _ rfl; (with_reducible repeat (first | refine blk_drewN ?_ _ | refine blk_drew ?_ | refine blk_alloc ?_ _)); exact BK203.out⟩, ⟨by repeat (first | (with_reducible first | exact HB.out | apply below_alloc | apply pw_below_drewN | apply below_drew1 | refine below_set ?_ GE203.out) | exact HB.out)⟩⟩
    case round =>
     clear H'
     try clear c1
     try clear p2
     try clear c3
     try clear c6
     try clear c6b0
     try clear c6b1
     try clear c8
     try clear c9
     try clear c10
     try clear hcz10_0
     try clear hcz10_1
     try clear hfz10_0
     try clear hfz10_1
     obtain ⟨x5_1, rfl, HA, HK1, HO_204001, BK203, HB⟩ := hrel
     cases gk with
     | zero => exact absurd HA.out (by simp [laws_FnKnown.l0])
     | succ k1 =>
      have H := HA.out
      clear HA
      simp only [laws_FnKnown.l0] at H
      by_cases c12 : x5_1 < (t200.length : Int)
      ·rw [if_pos c12] at H
       have c12b0 : decide (x5_1 < (t200.length : Int)) = true := decide_eq_true c12
       clear c12
       by_cases c13 : 0 ≤ x5_1
       ·rw [if_pos c13] at H
        have c13b0 : decide (0 ≤ x5_1) = true := decide_eq_true c13
        clear c13
        replace H := Option.bind_eq_some_iff.mp H
        obtain ⟨⟨t209, t210⟩, A140, H⟩ := H
        replace H : ((impl_LookGlobal.f k1 t200 ((rd_T35 t200 x5_1).f0)).bind fun bt213 => (if t209 = 0 then (if bt213.2.2.1 = 8 then (if bt213.2.2.2.1 = t210 then (laws_FnKnown.j1 k1 t198 x5_1 (bt213.2.2.2.2.2 != t198) t199 t200) else (laws_FnKnown.j1 k1 t198 x5_1 true t199 t200)) else (laws_FnKnown.j1 k1 t198 x5_1 true t199 t200)) else (laws_FnKnown.j1 k1 t198 x5_1 true t199 t200))) = some r := H
        have A14 := ak A140
        clear A140
        replace H := Option.bind_eq_some_iff.mp H
        obtain ⟨⟨t213, t214, t215, t216, t217, t218⟩, A150, H⟩ := H
        replace H : (if t209 = 0 then (if t215 = 8 then (if t216 = t210 then (laws_FnKnown.j1 k1 t198 x5_1 (t218 != t198) t199 t200) else (laws_FnKnown.j1 k1 t198 x5_1 true t199 t200)) else (laws_FnKnown.j1 k1 t198 x5_1 true t199 t200)) else (laws_FnKnown.j1 k1 t198 x5_1 true t199 t200)) = some r := H
        have A15 := ak A150
        clear A150
        have HC16 := ak H
        clear H
        have hcz17_0 : wr.cell? ⟨gb203, 0, none⟩ = some (.int .i64 t199) := (blk_cell BK203.out 0).trans rfl
        have hcz17_1 : wr.cell? ⟨gb203, 1, none⟩ = some (.slice Ao11 t200.length co11) := (blk_cell BK203.out 1).trans rfl
        have hfz17_0 := blk_frozen BK203.out 0
        have hfz17_1 := blk_frozen BK203.out 1
        have p208 : 0 ≤ (x5_1 : Int) := of_decide_eq_true (by first | (with_reducible assumption) | assumption)
        have q208 : x5_1 < (t200.length : Int) := of_decide_eq_true (by first | (with_reducible assumption) | assumption)
        obtain ⟨ad208, e208, hx208_0, hx208_1, hx208_2, hx208_3, hx208_4⟩ := at_T35 (Kd.R_reads' HO_204001.out).2.2 x5_1 p208 q208
        cases e208
        replace p208 := eq_true p208
        replace q208 := eq_true q208
        try go_wp2_with (first | ((with_reducible refine gate_callee (f := 12) rfl ?_); refine goesL_ (some 36) rfl rfl Tryd.func12 (by kernel_rfl) rfl #[.string ((rd_T35 t200 x5_1).f0)] rfl d16_4 ?_; (with_reducible refine (impl_PrimOf.calls k1 ((rd_T35 t200 x5_1).f0) t209 t210 _ A14.out).mono ?_); rintro e w18 ⟨rfl, hb⟩; refine ⟨_, rfl, ?_⟩; have n0_ := ak (Kd.R_below d16_7 hb); have n1_ := ak (blk_below (g := gb203) (o := .cells #[.int .i64 t199, .slice (some ad208) t200.length co11] 27 (0, 0)) d16_2 hb); have n2_ := ak (below_step d16_5 hb); clear HO_204001 BK203 HB; have HO_204001 := n0_; have BK203 := n1_; have HB := n2_; clear n0_ n1_ n2_; (try clear hb)) | ((with_reducible refine gate_dst (N := 6) rfl ?_); refine box_event ?hg (N := 6) ?hd (cs := #[.int .i64 0, .int .i64 0]) (t := 30) ?hr ?_; (case hd => rfl); (case hg => rfl); (case hr => first | (go_simp; done) | (go_simp; rfl)); intro gb211 hg w19 hbox hb; have n0_ := ak (Kd.R_below d16_7 hb); have n1_ := ak (blk_below (g := gb203) (o := .cells #[.int .i64 t199, .slice (some ad208) t200.length co11] 27 (0, 0)) d16_2 hb); have n2_ := ak (below_step d16_5 hb); have n3_ := ak (hbox); have n4_ := ak ((by rw [hg]; exact (below_size d16_5) : w.heap.size ≤ gb211)); have n5_ := ak ((by rw [hg]; exact (below_size d16_5) : w.heap.size ≤ gb211)); have n6_ := ak ((by rw [hg]; exact Nat.ne_of_lt (blk_lt (g := gb203) (o := .cells #[.int .i64 t199, .slice (some ad208) t200.length co11] 27 (0, 0)) d16_2) : gb203 ≠ gb211)); have n7_ := ak ((by rw [hg]; exact Nat.ne_of_gt (blk_lt (g := gb203) (o := .cells #[.int .i64 t199, .slice (some ad208) t200.length co11] 27 (0, 0)) d16_2) : gb211 ≠ gb203)); clear HO_204001 BK203 HB; have HO_204001 := n0_; have BK203 := n1_; have HB := n2_; have BK211 := n3_; have GW211 := n4_; have GE211 := n5_; have NB203_211 := n6_; have NB211_203 := n7_; clear n0_ n1_ n2_ n3_ n4_ n5_ n6_ n7_ hb hbox hg; have hnb20 := NB211_203.out; have hnc20 := NB203_211.out; have hcz21_0 : w19.cell? ⟨gb211, 0, none⟩ = some (.int .i64 0) := (blk_cell BK211.out 0).trans rfl; have hcz21_1 : w19.cell? ⟨gb211, 1, none⟩ = some (.int .i64 0) := (blk_cell BK211.out 1).trans rfl; have hfz21_0 := blk_frozen BK211.out 0; have hfz21_1 := blk_frozen BK211.out 1))
        have n0_ : Aside0 (Kd.R k35 35 ((w19.setCell ⟨gb211, 0, none⟩ (.int .i64 t209)).setCell ⟨gb211, 1, none⟩ (.int .i64 t210)) w.heap.size (fun _ => True) (.slice (some ad208) t200.length co11) t200) := ⟨by (with_reducible repeat (first | apply Kd.R_alloc | apply Kd.R_drewN | apply Kd.R_drew)); exact Kd.R_mono (Kd.R_far (p := ⟨gb211, 1, none⟩) (Kd.R_far (p := ⟨gb211, 0, none⟩) (Kd.R_types HO_204001.out BK211.out (by decide)) (fun _ hk => hk.2) (.int .i64 t209)) (fun _ hk => hk.2) (.int .i64 t210)) (fun _ hk => trivial)⟩
        have n1_ : Aside0 (((w19.setCell ⟨gb211, 0, none⟩ (.int .i64 t209)).setCell ⟨gb211, 1, none⟩ (.int .i64 t210)).heap[gb203]? = some (.cells #[.int .i64 t199, .slice (some ad208) t200.length co11] 27 (0, 0))) := ⟨by (with_reducible repeat (first | refine blk_drewN ?_ _ | refine blk_drew ?_ | refine blk_alloc ?_ _)); refine blk_far ?_ NB203_211.out _; (with_reducible repeat (first | refine blk_drewN ?_ _ | refine blk_drew ?_ | refine blk_alloc ?_ _)); refine blk_far ?_ NB203_211.out _; (with_reducible repeat (first | refine blk_drewN ?_ _ | refine blk_drew ?_ | refine blk_alloc ?_ _)); exact BK203.out⟩
        have n2_ : Aside0 (((w19.setCell ⟨gb211, 0, none⟩ (.int .i64 t209)).setCell ⟨gb211, 1, none⟩ (.int .i64 t210)).heap[gb211]? = some (.cells #[.int .i64 t209, .int .i64 t210] 30 (0, 0))) := ⟨by (with_reducible repeat (first | refine blk_drewN ?_ _ | refine blk_drew ?_ | refine blk_alloc ?_ _)); refine blk_put (cs := #[.int .i64 t209, .int .i64 0]) ?_ 1 _ rfl; (with_reducible repeat (first | refine blk_drewN ?_ _ | refine blk_drew ?_ | refine blk_alloc ?_ _)); refine blk_put (cs := #[.int .i64 0, .int .i64 0]) ?_ 0 _ rfl; (with_reducible repeat (first | refine blk_drewN ?_ _ | refine blk_drew ?_ | refine blk_alloc ?_ _)); exact BK211.out⟩
        have n3_ : Aside0 (Below w.heap.size w ((w19.setCell ⟨gb211, 0, none⟩ (.int .i64 t209)).setCell ⟨gb211, 1, none⟩ (.int .i64 t210))) := ⟨by repeat (first | (with_reducible first | exact HB.out | apply below_alloc | apply pw_below_drewN | apply below_drew1 | refine below_set ?_ GE203.out | refine below_set ?_ GE211.out) | exact HB.out)⟩
        (try clear HO_204001)
        (try clear BK203)
        (try clear BK211)
        (try clear HB)
        generalize ((w19.setCell ⟨gb211, 0, none⟩ (.int .i64 t209)).setCell ⟨gb211, 1, none⟩ (.int .i64 t210)) = w22 at n0_ n1_ n2_ n3_ ⊢
        have HO_204001 := n0_
        have BK203 := n1_
        have BK211 := n2_
        have HB := n3_
        clear n0_ n1_ n2_ n3_
        have n0_ := ak (Kd.R_drew HO_204001.out)
        have n1_ := ak (blk_drew BK203.out)
        have n2_ := ak (blk_drew BK211.out)
        have n3_ := ak (below_drew1 HB.out)
        clear HO_204001
        clear BK203
        clear BK211
        clear HB
        have HO_204001 := n0_
        have BK203 := n1_
        have BK211 := n2_
        have HB := n3_
        clear n0_ n1_ n2_ n3_
        have p212 : 0 ≤ (x5_1 : Int) := of_decide_eq_true (by first | (with_reducible assumption) | assumption)
        have q212 : x5_1 < (t200.length : Int) := of_decide_eq_true (by first | (with_reducible assumption) | assumption)
        obtain ⟨ad212, e212, hx212_0, hx212_1, hx212_2, hx212_3, hx212_4⟩ := at_T35 (Kd.R_reads' HO_204001.out).2.2 x5_1 p212 q212
        obtain rfl : ad208 = ad212 := (by injection e212)
        replace p212 := eq_true p212
        replace q212 := eq_true q212
        refine start_ (n := 11) (S := fun w' => w'.cell? ⟨gb203, 0, none⟩ = some (.int .i64 t199) ∧ w'.cell? ⟨gb203, 1, none⟩ = some (.slice (some ad208) t200.length co11) ∧ w'.cell? (ad208.add ((x5_1).toNat * 5)) = some (.string ((rd_T35 t200 x5_1).f0)) ∧ w'.cell? ⟨(ad208.add ((x5_1).toNat * 5)).block, (ad208.add ((x5_1).toNat * 5)).off + 1, none⟩ = some (.int .i64 ((rd_T35 t200 x5_1).f1.f0)) ∧ w'.cell? ⟨(ad208.add ((x5_1).toNat * 5)).block, (ad208.add ((x5_1).toNat * 5)).off + 2, none⟩ = some (.int .i64 ((rd_T35 t200 x5_1).f1.f1)) ∧ w'.cell? ⟨(ad208.add ((x5_1).toNat * 5)).block, (ad208.add ((x5_1).toNat * 5)).off + 3, none⟩ = some (.string ((rd_T35 t200 x5_1).f1.f2)) ∧ w'.cell? ⟨(ad208.add ((x5_1).toNat * 5)).block, (ad208.add ((x5_1).toNat * 5)).off + 4, none⟩ = some (.int .i64 ((rd_T35 t200 x5_1).f2))) (ds := []) #[false, false, false, false, false, false, false, false, false, false, false] (by kernel_rfl) rfl rfl ⟨(blk_cell BK203.out 0).trans rfl, (blk_cell BK203.out 1).trans rfl, hx212_0, hx212_1, hx212_2, hx212_3, hx212_4⟩ (fun hHeld => ?_); refine with_tabW laws_FnKnown.tab11 laws_FnKnown.bits11 (fun HT_ HW_ => ?_)
        generalize w22.drew = w23 at HO_204001 BK203 BK211 HB hx212_0 hx212_1 hx212_2 hx212_3 hx212_4 hHeld ⊢
        refine pure_ (i := 0) (N := some 37) (v := ?_) (a' := ?_) #[true, false, false, false, false, false, false, false, false, false, false] rfl rfl (any_of HT_.out (by kernel_rfl)) (fun _ _ _ h => h) (Or.inl ⟨by rfl, ?_⟩) ?_ ?_
        rotate_left
        · intro w'
          go_simp
          with_reducible rfl
        rotate_left
        · simp only [Act.put, List.setIfInBounds_toArray, List.set_cons_zero, List.set_cons_succ, i64_w, i32_w]
          rfl
        refine pure_ (i := 2) (N := some 39) (v := ?_) (a' := ?_) #[true, false, true, false, false, false, false, false, false, false, false] rfl rfl (any_of HT_.out (by kernel_rfl)) (fun _ _ _ h => h) (Or.inl ⟨by rfl, ?_⟩) ?_ ?_
        rotate_left
        · intro w'
          go_simp
          with_reducible rfl
        rotate_left
        · simp only [Act.put, List.setIfInBounds_toArray, List.set_cons_zero, List.set_cons_succ, i64_w, i32_w]
          rfl
        refine pure_ (i := 4) (N := some 41) (v := ?_) (a' := ?_) #[true, false, true, false, true, false, false, false, false, false, false] rfl rfl (any_of HT_.out (by kernel_rfl)) (fun _ _ _ h => h) (Or.inl ⟨by rfl, ?_⟩) ?_ ?_
        rotate_left
        · intro w'
          go_simp
          with_reducible rfl
        rotate_left
        · simp only [Act.put, List.setIfInBounds_toArray, List.set_cons_zero, List.set_cons_succ, i64_w, i32_w]
          rfl
        refine take_ (i := 1) (N := some 38) (v := ?_) (a' := ?_) #[true, true, true, false, true, false, false, false, false, false, false] rfl rfl (take_ofW HT_.out HW_.out (by kernel_rfl)) (fun _ _ _ h => h) (Or.inl ⟨by rfl, ?_⟩) hHeld ?_ ?_
        rotate_left
        · rintro w' ⟨s0, s1, s2, s3, s4, s5, s6⟩
          go_simp
          with_reducible rfl
        rotate_left
        · simp only [Act.put, List.setIfInBounds_toArray, List.set_cons_zero, List.set_cons_succ, i64_w, i32_w]
          rfl
        refine take_ (i := 3) (N := some 40) (v := ?_) (a' := ?_) #[true, true, true, true, true, false, false, false, false, false, false] rfl rfl (take_ofW HT_.out HW_.out (by kernel_rfl)) (fun _ _ _ h => h) (Or.inl ⟨by rfl, ?_⟩) hHeld ?_ ?_
        rotate_left
        · rintro w' ⟨s0, s1, s2, s3, s4, s5, s6⟩
          go_simp
          with_reducible rfl
        rotate_left
        · simp only [Act.put, List.setIfInBounds_toArray, List.set_cons_zero, List.set_cons_succ, i64_w, i32_w]
          rfl
        refine pure_ (i := 5) (N := some 42) (v := ?_) (a' := ?_) #[true, true, true, true, true, true, false, false, false, false, false] rfl rfl (any_of HT_.out (by kernel_rfl)) (fun _ _ _ h => h) (Or.inl ⟨by rfl, ?_⟩) ?_ ?_
        rotate_left
        · intro w'
          go_simp
          with_reducible rfl
        rotate_left
        · simp only [Act.put, List.setIfInBounds_toArray, List.set_cons_zero, List.set_cons_succ, i64_w, i32_w]
          rfl
        refine pure_ (i := 6) (N := some 43) (v := ?_) (a' := ?_) #[true, true, true, true, true, true, true, false, false, false, false] rfl rfl (any_of HT_.out (by kernel_rfl)) (fun _ _ _ h => h) (Or.inl ⟨by rfl, ?_⟩) ?_ ?_
        rotate_left
        · intro w'
          go_simp
          with_reducible rfl
        rotate_left
        · simp only [Act.put, List.setIfInBounds_toArray, List.set_cons_zero, List.set_cons_succ, i64_w, i32_w]
          rfl
        refine take_ (i := 7) (N := some 44) (v := ?_) (a' := ?_) #[true, true, true, true, true, true, true, true, false, false, false] rfl rfl (take_ofW HT_.out HW_.out (by kernel_rfl)) (fun _ _ _ h => h) (Or.inl ⟨by rfl, ?_⟩) hHeld ?_ ?_
        rotate_left
        · rintro w' ⟨s0, s1, s2, s3, s4, s5, s6⟩
          go_simp
          with_reducible rfl
        rotate_left
        · simp only [Act.put, List.setIfInBounds_toArray, List.set_cons_zero, List.set_cons_succ, i64_w, i32_w]
          rfl
        refine join_ (σ := Nat) 1 #[true, true, true, true, true, true, true, true, true, true, false] (fun s_ => [(45, .agg #[.int .i64 t213, .string t214, .int .i64 t215, .int .i64 t216, .string t217, .int .i64 t218]), (7, .pointer (some ⟨s_, 0, none⟩))]) (fun s_ w' => (w'.cell? ⟨gb203, 0, none⟩ = some (.int .i64 t199) ∧ w'.cell? ⟨gb203, 1, none⟩ = some (.slice (some ad208) t200.length co11) ∧ w'.cell? (ad208.add ((x5_1).toNat * 5)) = some (.string ((rd_T35 t200 x5_1).f0)) ∧ w'.cell? ⟨(ad208.add ((x5_1).toNat * 5)).block, (ad208.add ((x5_1).toNat * 5)).off + 1, none⟩ = some (.int .i64 ((rd_T35 t200 x5_1).f1.f0)) ∧ w'.cell? ⟨(ad208.add ((x5_1).toNat * 5)).block, (ad208.add ((x5_1).toNat * 5)).off + 2, none⟩ = some (.int .i64 ((rd_T35 t200 x5_1).f1.f1)) ∧ w'.cell? ⟨(ad208.add ((x5_1).toNat * 5)).block, (ad208.add ((x5_1).toNat * 5)).off + 3, none⟩ = some (.string ((rd_T35 t200 x5_1).f1.f2)) ∧ w'.cell? ⟨(ad208.add ((x5_1).toNat * 5)).block, (ad208.add ((x5_1).toNat * 5)).off + 4, none⟩ = some (.int .i64 ((rd_T35 t200 x5_1).f2))) ∧ (Kd.R k35 35 w' w.heap.size (fun _ => True) (.slice (some ad208) t200.length co11) t200) ∧ (w'.heap[gb203]? = some (.cells #[.int .i64 t199, .slice (some ad208) t200.length co11] 27 (0, 0))) ∧ (w'.heap[gb211]? = some (.cells #[.int .i64 t209, .int .i64 t210] 30 (0, 0))) ∧ (w'.heap[s_]? = some (.cells #[.int .i64 0, .string (⟨#[]⟩ : ByteArray), .int .i64 0, .int .i64 0, .string (⟨#[]⟩ : ByteArray), .int .i64 0] 37 (0, 0))) ∧ (w.heap.size ≤ s_) ∧ (w.heap.size ≤ s_) ∧ (gb203 ≠ s_) ∧ (s_ ≠ gb203) ∧ (gb211 ≠ s_) ∧ (s_ ≠ gb211) ∧ (Below w.heap.size w w')) ?_ ?_
        rotate_left
        · intro hCont
          refine two_ (i := 8) (j := 9) (Ni := some 45) (Nj := some 7) #[true, true, true, true, true, true, true, true, true, false, false] #[true, true, true, true, true, true, true, true, false, true, false] rfl rfl rfl rfl (two_of HT_.out (by kernel_rfl)) (by decide) (by decide) (fun K hK => ?_) (fun K hK => ?_)
          · skip
            refine goes_ Tryd.func13 (by kernel_rfl) rfl #[.slice (some ad208) t200.length co11, .string ((rd_T35 t200 x5_1).f0)] (by rfl) rfl rfl d16_4 ?_
            with_reducible refine (impl_LookGlobal.calls k1 _ _ t200 ((rd_T35 t200 x5_1).f0) t213 t214 t215 t216 t217 t218 _ ?side1 ?side2 A15.out).mono ?_
            (case side1 => repeat (first | exact (Kd.R_reads' HO_204001.out).2.2 | (with_reducible refine Kd.C_alloc ?_ _) | (with_reducible refine Kd.C_drewN ?_ _) | (with_reducible refine Kd.C_drew ?_)))
            (case side2 => exact (Kd.R_reads' HO_204001.out).2.1)
            rintro e w24 ⟨rfl, hb⟩
            have HS2_ := (hb.cell (World.block_lt_of_cell? _ _ (hHeld.2.2.1))).trans (hHeld.2.2.1)
            have HS3_ := (hb.cell (World.block_lt_of_cell? _ _ (hHeld.2.2.2.1))).trans (hHeld.2.2.2.1)
            have HS4_ := (hb.cell (World.block_lt_of_cell? _ _ (hHeld.2.2.2.2.1))).trans (hHeld.2.2.2.2.1)
            have HS5_ := (hb.cell (World.block_lt_of_cell? _ _ (hHeld.2.2.2.2.2.1))).trans (hHeld.2.2.2.2.2.1)
            have HS6_ := (hb.cell (World.block_lt_of_cell? _ _ (hHeld.2.2.2.2.2.2))).trans (hHeld.2.2.2.2.2.2)
            refine ⟨_, rfl, ?_⟩
            have n0_ := ak (Kd.R_below d16_7 hb)
            have n1_ := ak (blk_below (g := gb203) (o := .cells #[.int .i64 t199, .slice (some ad208) t200.length co11] 27 (0, 0)) d16_2 hb)
            have n2_ := ak (blk_below (g := gb211) (o := .cells #[.int .i64 t209, .int .i64 t210] 30 (0, 0)) d16_8 hb)
            have n3_ := ak (below_step d16_6 hb)
            clear HO_204001
            clear BK203
            clear BK211
            clear HB
            have HO_204001 := n0_
            have BK203 := n1_
            have BK211 := n2_
            have HB := n3_
            clear n0_ n1_ n2_ n3_
            (try clear hb)
            (try clear hb2)
            (try clear hk)
            (try clear hi)
            refine hK.out _ _ ⟨(blk_cell BK203.out 0).trans rfl, (blk_cell BK203.out 1).trans rfl, HS2_, HS3_, HS4_, HS5_, HS6_⟩ (fun hHeld => ?_)
            clear hK K
            refine norm_ (a' := ?_) ?_ ?_
            rotate_left
            · show Act.put _ (some 45) _ = _
              simp only [Act.put, List.setIfInBounds_toArray, List.set_cons_zero, List.set_cons_succ, i64_w, i32_w]
              rfl
            refine one_ (i := 9) (N := some 7) #[true, true, true, true, true, true, true, true, true, true, false] rfl rfl (one_of HT_.out (by kernel_rfl)) (by decide) (fun K hK => ?_)
            refine box_step ?hg (N := 7) ?hd (cs := #[.int .i64 0, .string (⟨#[]⟩ : ByteArray), .int .i64 0, .int .i64 0, .string (⟨#[]⟩ : ByteArray), .int .i64 0]) (t := 37) ?hr ?_; (case hd => rfl); (case hg => rfl); (case hr => first | (go_simp; done) | (go_simp; rfl))
            intro gb219 hg w25 hbox hb
            have HS2_ := (hb.cell (World.block_lt_of_cell? _ _ (hHeld.2.2.1))).trans (hHeld.2.2.1)
            have HS3_ := (hb.cell (World.block_lt_of_cell? _ _ (hHeld.2.2.2.1))).trans (hHeld.2.2.2.1)
            have HS4_ := (hb.cell (World.block_lt_of_cell? _ _ (hHeld.2.2.2.2.1))).trans (hHeld.2.2.2.2.1)
            have HS5_ := (hb.cell (World.block_lt_of_cell? _ _ (hHeld.2.2.2.2.2.1))).trans (hHeld.2.2.2.2.2.1)
            have HS6_ := (hb.cell (World.block_lt_of_cell? _ _ (hHeld.2.2.2.2.2.2))).trans (hHeld.2.2.2.2.2.2)
            have n0_ := ak (Kd.R_below d16_7 hb)
            have n1_ := ak (blk_below (g := gb203) (o := .cells #[.int .i64 t199, .slice (some ad208) t200.length co11] 27 (0, 0)) d16_2 hb)
            have n2_ := ak (blk_below (g := gb211) (o := .cells #[.int .i64 t209, .int .i64 t210] 30 (0, 0)) d16_8 hb)
            have n3_ := ak (below_step d16_6 hb)
            have n4_ := ak (hbox)
            have n5_ := ak ((by rw [hg]; exact (below_size d16_6) : w.heap.size ≤ gb219))
            have n6_ := ak ((by rw [hg]; exact (below_size d16_6) : w.heap.size ≤ gb219))
            have n7_ := ak ((by rw [hg]; exact Nat.ne_of_lt (blk_lt (g := gb203) (o := .cells #[.int .i64 t199, .slice (some ad208) t200.length co11] 27 (0, 0)) d16_2) : gb203 ≠ gb219))
            have n8_ := ak ((by rw [hg]; exact Nat.ne_of_gt (blk_lt (g := gb203) (o := .cells #[.int .i64 t199, .slice (some ad208) t200.length co11] 27 (0, 0)) d16_2) : gb219 ≠ gb203))
            have n9_ := ak ((by rw [hg]; exact Nat.ne_of_lt (blk_lt (g := gb211) (o := .cells #[.int .i64 t209, .int .i64 t210] 30 (0, 0)) d16_8) : gb211 ≠ gb219))
            have n10_ := ak ((by rw [hg]; exact Nat.ne_of_gt (blk_lt (g := gb211) (o := .cells #[.int .i64 t209, .int .i64 t210] 30 (0, 0)) d16_8) : gb219 ≠ gb211))
            clear HO_204001
            clear BK203
            clear BK211
            clear HB
            have HO_204001 := n0_
            have BK203 := n1_
            have BK211 := n2_
            have HB := n3_
            have BK219 := n4_
            have GW219 := n5_
            have GE219 := n6_
            have NB203_219 := n7_
            have NB219_203 := n8_
            have NB211_219 := n9_
            have NB219_211 := n10_
            clear n0_ n1_ n2_ n3_ n4_ n5_ n6_ n7_ n8_ n9_ n10_
            clear hb hbox hg
            refine hK.out _ _ ⟨(blk_cell BK203.out 0).trans rfl, (blk_cell BK203.out 1).trans rfl, HS2_, HS3_, HS4_, HS5_, HS6_⟩ (fun hHeld => ?_)
            clear hK K
            refine norm_ (a' := ?_) ?_ ?_
            rotate_left
            · show Act.put _ (some 7) _ = _
              simp only [Act.put, List.setIfInBounds_toArray, List.set_cons_zero, List.set_cons_succ, i64_w, i32_w]
              rfl
            exact norm_ (by simp only [putAll, Act.put, List.setIfInBounds_toArray, List.set_cons_zero, List.set_cons_succ]) (hCont (gb219) _ ⟨hHeld, d16_7, d16_2, d16_8, (by (with_reducible repeat (first | refine blk_drewN ?_ _ | refine blk_drew ?_ | refine blk_alloc ?_ _)); exact BK219.out), GW219.out, GE219.out, NB203_219.out, NB219_203.out, NB211_219.out, NB219_211.out, d16_10⟩)
          · skip
            refine box_step ?hg (N := 7) ?hd (cs := #[.int .i64 0, .string (⟨#[]⟩ : ByteArray), .int .i64 0, .int .i64 0, .string (⟨#[]⟩ : ByteArray), .int .i64 0]) (t := 37) ?hr ?_; (case hd => rfl); (case hg => rfl); (case hr => first | (go_simp; done) | (go_simp; rfl))
            intro gb219 hg w24 hbox hb
            have HS2_ := (hb.cell (World.block_lt_of_cell? _ _ (hHeld.2.2.1))).trans (hHeld.2.2.1)
            have HS3_ := (hb.cell (World.block_lt_of_cell? _ _ (hHeld.2.2.2.1))).trans (hHeld.2.2.2.1)
            have HS4_ := (hb.cell (World.block_lt_of_cell? _ _ (hHeld.2.2.2.2.1))).trans (hHeld.2.2.2.2.1)
            have HS5_ := (hb.cell (World.block_lt_of_cell? _ _ (hHeld.2.2.2.2.2.1))).trans (hHeld.2.2.2.2.2.1)
            have HS6_ := (hb.cell (World.block_lt_of_cell? _ _ (hHeld.2.2.2.2.2.2))).trans (hHeld.2.2.2.2.2.2)
            have n0_ := ak (Kd.R_below d16_7 hb)
            have n1_ := ak (blk_below (g := gb203) (o := .cells #[.int .i64 t199, .slice (some ad208) t200.length co11] 27 (0, 0)) d16_2 hb)
            have n2_ := ak (blk_below (g := gb211) (o := .cells #[.int .i64 t209, .int .i64 t210] 30 (0, 0)) d16_8 hb)
            have n3_ := ak (below_step d16_6 hb)
            have n4_ := ak (hbox)
            have n5_ := ak ((by rw [hg]; exact (below_size d16_6) : w.heap.size ≤ gb219))
            have n6_ := ak ((by rw [hg]; exact (below_size d16_6) : w.heap.size ≤ gb219))
            have n7_ := ak ((by rw [hg]; exact Nat.ne_of_lt (blk_lt (g := gb203) (o := .cells #[.int .i64 t199, .slice (some ad208) t200.length co11] 27 (0, 0)) d16_2) : gb203 ≠ gb219))
            have n8_ := ak ((by rw [hg]; exact Nat.ne_of_gt (blk_lt (g := gb203) (o := .cells #[.int .i64 t199, .slice (some ad208) t200.length co11] 27 (0, 0)) d16_2) : gb219 ≠ gb203))
            have n9_ := ak ((by rw [hg]; exact Nat.ne_of_lt (blk_lt (g := gb211) (o := .cells #[.int .i64 t209, .int .i64 t210] 30 (0, 0)) d16_8) : gb211 ≠ gb219))
            have n10_ := ak ((by rw [hg]; exact Nat.ne_of_gt (blk_lt (g := gb211) (o := .cells #[.int .i64 t209, .int .i64 t210] 30 (0, 0)) d16_8) : gb219 ≠ gb211))
            clear HO_204001
            clear BK203
            clear BK211
            clear HB
            have HO_204001 := n0_
            have BK203 := n1_
            have BK211 := n2_
            have HB := n3_
            have BK219 := n4_
            have GW219 := n5_
            have GE219 := n6_
            have NB203_219 := n7_
            have NB219_203 := n8_
            have NB211_219 := n9_
            have NB219_211 := n10_
            clear n0_ n1_ n2_ n3_ n4_ n5_ n6_ n7_ n8_ n9_ n10_
            clear hb hbox hg
            refine hK.out _ _ ⟨(blk_cell BK203.out 0).trans rfl, (blk_cell BK203.out 1).trans rfl, HS2_, HS3_, HS4_, HS5_, HS6_⟩ (fun hHeld => ?_)
            clear hK K
            refine norm_ (a' := ?_) ?_ ?_
            rotate_left
            · show Act.put _ (some 7) _ = _
              simp only [Act.put, List.setIfInBounds_toArray, List.set_cons_zero, List.set_cons_succ, i64_w, i32_w]
              rfl
            refine one_ (i := 8) (N := some 45) #[true, true, true, true, true, true, true, true, true, true, false] rfl rfl (one_of HT_.out (by kernel_rfl)) (by decide) (fun K hK => ?_)
            refine goes_ Tryd.func13 (by kernel_rfl) rfl #[.slice (some ad208) t200.length co11, .string ((rd_T35 t200 x5_1).f0)] (by rfl) rfl rfl d16_4 ?_
            with_reducible refine (impl_LookGlobal.calls k1 _ _ t200 ((rd_T35 t200 x5_1).f0) t213 t214 t215 t216 t217 t218 _ ?side1 ?side2 A15.out).mono ?_
            (case side1 => repeat (first | exact (Kd.R_reads' HO_204001.out).2.2 | (with_reducible refine Kd.C_alloc ?_ _) | (with_reducible refine Kd.C_drewN ?_ _) | (with_reducible refine Kd.C_drew ?_)))
            (case side2 => exact (Kd.R_reads' HO_204001.out).2.1)
            rintro e w25 ⟨rfl, hb⟩
            have HS2_ := (hb.cell (World.block_lt_of_cell? _ _ (hHeld.2.2.1))).trans (hHeld.2.2.1)
            have HS3_ := (hb.cell (World.block_lt_of_cell? _ _ (hHeld.2.2.2.1))).trans (hHeld.2.2.2.1)
            have HS4_ := (hb.cell (World.block_lt_of_cell? _ _ (hHeld.2.2.2.2.1))).trans (hHeld.2.2.2.2.1)
            have HS5_ := (hb.cell (World.block_lt_of_cell? _ _ (hHeld.2.2.2.2.2.1))).trans (hHeld.2.2.2.2.2.1)
            have HS6_ := (hb.cell (World.block_lt_of_cell? _ _ (hHeld.2.2.2.2.2.2))).trans (hHeld.2.2.2.2.2.2)
            refine ⟨_, rfl, ?_⟩
            have n0_ := ak (Kd.R_below d16_7 hb)
            have n1_ := ak (blk_below (g := gb203) (o := .cells #[.int .i64 t199, .slice (some ad208) t200.length co11] 27 (0, 0)) d16_2 hb)
            have n2_ := ak (blk_below (g := gb211) (o := .cells #[.int .i64 t209, .int .i64 t210] 30 (0, 0)) d16_8 hb)
            have n3_ := ak (blk_below (g := gb219) (o := .cells #[.int .i64 0, .string (⟨#[]⟩ : ByteArray), .int .i64 0, .int .i64 0, .string (⟨#[]⟩ : ByteArray), .int .i64 0] 37 (0, 0)) (by (with_reducible repeat (first | refine blk_drewN ?_ _ | refine blk_drew ?_ | refine blk_alloc ?_ _)); exact BK219.out) hb)
            have n4_ := ak (below_step d16_10 hb)
            clear HO_204001
            clear BK203
            clear BK211
            clear BK219
            clear HB
            have HO_204001 := n0_
            have BK203 := n1_
            have BK211 := n2_
            have BK219 := n3_
            have HB := n4_
            clear n0_ n1_ n2_ n3_ n4_
            (try clear hb)
            (try clear hb2)
            (try clear hk)
            (try clear hi)
            refine hK.out _ _ ⟨(blk_cell BK203.out 0).trans rfl, (blk_cell BK203.out 1).trans rfl, HS2_, HS3_, HS4_, HS5_, HS6_⟩ (fun hHeld => ?_)
            clear hK K
            refine norm_ (a' := ?_) ?_ ?_
            rotate_left
            · show Act.put _ (some 45) _ = _
              simp only [Act.put, List.setIfInBounds_toArray, List.set_cons_zero, List.set_cons_succ, i64_w, i32_w]
              rfl
            exact norm_ (by simp only [putAll, Act.put, List.setIfInBounds_toArray, List.set_cons_zero, List.set_cons_succ]) (hCont (gb219) _ ⟨hHeld, d16_7, d16_2, d16_8, (by (with_reducible repeat (first | refine blk_drewN ?_ _ | refine blk_drew ?_ | refine blk_alloc ?_ _)); exact BK219.out), GW219.out, GE219.out, NB203_219.out, NB219_203.out, NB211_219.out, NB219_211.out, d16_10⟩)
        rintro gb219 w26 ⟨hS_, h0_, h1_, h2_, h3_, h4_, h5_, h6_, h7_, h8_, h9_, h10_⟩
        have n0_ : Aside0 (Kd.R k35 35 w26 w.heap.size (fun _ => True) (.slice (some ad208) t200.length co11) t200) := ⟨h0_⟩
        have n1_ : Aside0 (w26.heap[gb203]? = some (.cells #[.int .i64 t199, .slice (some ad208) t200.length co11] 27 (0, 0))) := ⟨h1_⟩
        have n2_ : Aside0 (w26.heap[gb211]? = some (.cells #[.int .i64 t209, .int .i64 t210] 30 (0, 0))) := ⟨h2_⟩
        have n3_ : Aside0 (w26.heap[gb219]? = some (.cells #[.int .i64 0, .string (⟨#[]⟩ : ByteArray), .int .i64 0, .int .i64 0, .string (⟨#[]⟩ : ByteArray), .int .i64 0] 37 (0, 0))) := ⟨h3_⟩
        have n4_ : Aside0 (w.heap.size ≤ gb219) := ⟨h4_⟩
        have n5_ : Aside0 (w.heap.size ≤ gb219) := ⟨h5_⟩
        have n6_ : Aside0 (gb203 ≠ gb219) := ⟨h6_⟩
        have n7_ : Aside0 (gb219 ≠ gb203) := ⟨h7_⟩
        have n8_ : Aside0 (gb211 ≠ gb219) := ⟨h8_⟩
        have n9_ : Aside0 (gb219 ≠ gb211) := ⟨h9_⟩
        have n10_ : Aside0 (Below w.heap.size w w26) := ⟨h10_⟩
        clear HO_204001
        clear BK203
        clear BK211
        clear HB
        clear h0_ h1_ h2_ h3_ h4_ h5_ h6_ h7_ h8_ h9_ h10_
        have HO_204001 := n0_
        have BK203 := n1_
        have BK211 := n2_
        have BK219 := n3_
        have GW219 := n4_
        have GE219 := n5_
        have NB203_219 := n6_
        have NB219_203 := n7_
        have NB211_219 := n8_
        have NB219_211 := n9_
        have HB := n10_
        clear n0_ n1_ n2_ n3_ n4_ n5_ n6_ n7_ n8_ n9_ n10_
        have hHeld : w26.cell? ⟨gb203, 0, none⟩ = some (.int .i64 t199) ∧ w26.cell? ⟨gb203, 1, none⟩ = some (.slice (some ad208) t200.length co11) ∧ w26.cell? (ad208.add ((x5_1).toNat * 5)) = some (.string ((rd_T35 t200 x5_1).f0)) ∧ w26.cell? ⟨(ad208.add ((x5_1).toNat * 5)).block, (ad208.add ((x5_1).toNat * 5)).off + 1, none⟩ = some (.int .i64 ((rd_T35 t200 x5_1).f1.f0)) ∧ w26.cell? ⟨(ad208.add ((x5_1).toNat * 5)).block, (ad208.add ((x5_1).toNat * 5)).off + 2, none⟩ = some (.int .i64 ((rd_T35 t200 x5_1).f1.f1)) ∧ w26.cell? ⟨(ad208.add ((x5_1).toNat * 5)).block, (ad208.add ((x5_1).toNat * 5)).off + 3, none⟩ = some (.string ((rd_T35 t200 x5_1).f1.f2)) ∧ w26.cell? ⟨(ad208.add ((x5_1).toNat * 5)).block, (ad208.add ((x5_1).toNat * 5)).off + 4, none⟩ = some (.int .i64 ((rd_T35 t200 x5_1).f2)) := hS_
        refine norm_ (a' := ?_) ?_ ?_
        rotate_left
        · simp only [putAll, Act.put, List.setIfInBounds_toArray, List.set_cons_zero, List.set_cons_succ]
          rfl
        refine one_ (i := 10) (N := none) #[true, true, true, true, true, true, true, true, true, true, true] rfl rfl (one_of HT_.out (by kernel_rfl)) (by decide) (fun K hK => ?_)
        have hs27 : w26.cell? ⟨gb219, 0, none⟩ = some (.int .i64 0) := (blk_cell BK219.out 0).trans rfl
        have hfs27 := blk_frozen BK219.out 0
        have hns27_0 := NB203_219.out
        have hns27_1 := NB211_219.out
        have hms27_0 := NB219_203.out
        have hms27_1 := NB219_211.out
        have hs28 : w26.cell? ⟨gb219, 1, none⟩ = some (.string (⟨#[]⟩ : ByteArray)) := (blk_cell BK219.out 1).trans rfl
        have hfs28 := blk_frozen BK219.out 1
        have hns28_0 := NB203_219.out
        have hns28_1 := NB211_219.out
        have hms28_0 := NB219_203.out
        have hms28_1 := NB219_211.out
        have hs29 : w26.cell? ⟨gb219, 2, none⟩ = some (.int .i64 0) := (blk_cell BK219.out 2).trans rfl
        have hfs29 := blk_frozen BK219.out 2
        have hns29_0 := NB203_219.out
        have hns29_1 := NB211_219.out
        have hms29_0 := NB219_203.out
        have hms29_1 := NB219_211.out
        have hs30 : w26.cell? ⟨gb219, 3, none⟩ = some (.int .i64 0) := (blk_cell BK219.out 3).trans rfl
        have hfs30 := blk_frozen BK219.out 3
        have hns30_0 := NB203_219.out
        have hns30_1 := NB211_219.out
        have hms30_0 := NB219_203.out
        have hms30_1 := NB219_211.out
        have hs31 : w26.cell? ⟨gb219, 4, none⟩ = some (.string (⟨#[]⟩ : ByteArray)) := (blk_cell BK219.out 4).trans rfl
        have hfs31 := blk_frozen BK219.out 4
        have hns31_0 := NB203_219.out
        have hns31_1 := NB211_219.out
        have hms31_0 := NB219_203.out
        have hms31_1 := NB219_211.out
        have hs32 : w26.cell? ⟨gb219, 5, none⟩ = some (.int .i64 0) := (blk_cell BK219.out 5).trans rfl
        have hfs32 := blk_frozen BK219.out 5
        have hns32_0 := NB203_219.out
        have hns32_1 := NB211_219.out
        have hms32_0 := NB219_203.out
        have hms32_1 := NB219_211.out
        refine skip_ (w1 := ?_) (by rfl) rfl ?_ ?_
        rotate_left
        · go_simp
          rfl
        refine hK.out _ _ ⟨((cell_far (p := ⟨gb219, _, none⟩) NB203_219.out _).trans (((cell_far (p := ⟨gb219, _, none⟩) NB203_219.out _).trans (((cell_far (p := ⟨gb219, _, none⟩) NB203_219.out _).trans (((cell_far (p := ⟨gb219, _, none⟩) NB203_219.out _).trans (((cell_far (p := ⟨gb219, _, none⟩) NB203_219.out _).trans (((cell_far (p := ⟨gb219, _, none⟩) NB203_219.out _).trans (hHeld.1)))))))))))), ((cell_far (p := ⟨gb219, _, none⟩) NB203_219.out _).trans (((cell_far (p := ⟨gb219, _, none⟩) NB203_219.out _).trans (((cell_far (p := ⟨gb219, _, none⟩) NB203_219.out _).trans (((cell_far (p := ⟨gb219, _, none⟩) NB203_219.out _).trans (((cell_far (p := ⟨gb219, _, none⟩) NB203_219.out _).trans (((cell_far (p := ⟨gb219, _, none⟩) NB203_219.out _).trans (hHeld.2.1)))))))))))), ((cell_far (p := ⟨gb219, _, none⟩) d16_1 _).trans (((cell_far (p := ⟨gb219, _, none⟩) d16_1 _).trans (((cell_far (p := ⟨gb219, _, none⟩) d16_1 _).trans (((cell_far (p := ⟨gb219, _, none⟩) d16_1 _).trans (((cell_far (p := ⟨gb219, _, none⟩) d16_1 _).trans (((cell_far (p := ⟨gb219, _, none⟩) d16_1 _).trans (hHeld.2.2.1)))))))))))), ((cell_far (p := ⟨gb219, _, none⟩) d16_1 _).trans (((cell_far (p := ⟨gb219, _, none⟩) d16_1 _).trans (((cell_far (p := ⟨gb219, _, none⟩) d16_1 _).trans (((cell_far (p := ⟨gb219, _, none⟩) d16_1 _).trans (((cell_far (p := ⟨gb219, _, none⟩) d16_1 _).trans (((cell_far (p := ⟨gb219, _, none⟩) d16_1 _).trans (hHeld.2.2.2.1)))))))))))), ((cell_far (p := ⟨gb219, _, none⟩) d16_1 _).trans (((cell_far (p := ⟨gb219, _, none⟩) d16_1 _).trans (((cell_far (p := ⟨gb219, _, none⟩) d16_1 _).trans (((cell_far (p := ⟨gb219, _, none⟩) d16_1 _).trans (((cell_far (p := ⟨gb219, _, none⟩) d16_1 _).trans (((cell_far (p := ⟨gb219, _, none⟩) d16_1 _).trans (hHeld.2.2.2.2.1)))))))))))), ((cell_far (p := ⟨gb219, _, none⟩) d16_1 _).trans (((cell_far (p := ⟨gb219, _, none⟩) d16_1 _).trans (((cell_far (p := ⟨gb219, _, none⟩) d16_1 _).trans (((cell_far (p := ⟨gb219, _, none⟩) d16_1 _).trans (((cell_far (p := ⟨gb219, _, none⟩) d16_1 _).trans (((cell_far (p := ⟨gb219, _, none⟩) d16_1 _).trans (hHeld.2.2.2.2.2.1)))))))))))), ((cell_far (p := ⟨gb219, _, none⟩) d16_1 _).trans (((cell_far (p := ⟨gb219, _, none⟩) d16_1 _).trans (((cell_far (p := ⟨gb219, _, none⟩) d16_1 _).trans (((cell_far (p := ⟨gb219, _, none⟩) d16_1 _).trans (((cell_far (p := ⟨gb219, _, none⟩) d16_1 _).trans (((cell_far (p := ⟨gb219, _, none⟩) d16_1 _).trans (hHeld.2.2.2.2.2.2))))))))))))⟩ (fun hHeld => ?_)
        clear hK K
        refine done_ (done_of HT_.out (by kernel_rfl)) ?_
        go_upto_region 12 with (fail)
        go_cut [71] (fun v71 wc => ∃ (kq : Nat) (x71_15 : Bool), v71 = .bool x71_15 ∧ Aside0 (laws_FnKnown.j1 kq t198 x5_1 x71_15 t199 t200 = some r) ∧ Aside0 (kq ≤ k1) ∧ Aside0 (Kd.R k35 35 wc w.heap.size (fun _ => True) (.slice (some ad208) t200.length co11) t200) ∧ Aside0 (wc.heap[gb203]? = some (.cells #[.int .i64 t199, (.slice (some ad208) t200.length co11)] 27 (0, 0))) ∧ Aside0 (wc.heap[gb211]? = some (.cells #[.int .i64 t209, .int .i64 t210] 30 (0, 0))) ∧ Aside0 (wc.heap[gb219]? = some (.cells #[.int .i64 t213, .string t214, .int .i64 t215, .int .i64 t216, .string t217, .int .i64 t218] 37 (0, 0))) ∧ Aside0 (Below w.heap.size w wc))
        case first =>
         have H := HC16.out
         clear HC16
         by_cases c33 : t209 = 0
         ·rw [if_pos c33] at H
          have c33b0 : (t209 == 0) = true := beq_iff_eq.mpr c33
          have c33b1 : (t209 != 0) = false := bne_eq_false_iff_eq.mpr c33
          clear c33
          (first | rw [c33b0] | (simp only [i64_w, i32_w]; rw [c33b0]) | skip)
          by_cases c34 : t215 = 8
          ·rw [if_pos c34] at H
           have c34b0 : (t215 == 8) = true := beq_iff_eq.mpr c34
           have c34b1 : (t215 != 8) = false := bne_eq_false_iff_eq.mpr c34
           clear c34
           by_cases c35 : t216 = t210
           ·rw [if_pos c35] at H
            have c35b0 : (t216 == t210) = true := beq_iff_eq.mpr c35
            have c35b1 : (t216 != t210) = false := bne_eq_false_iff_eq.mpr c35
            clear c35
            have H' := ak H
            clear H
            have hnb36 := NB211_203.out
            have hnc36 := NB203_211.out
            have hnb37 := NB211_219.out
            have hnc37 := NB219_211.out
            have hcz38_0 : w26.cell? ⟨gb211, 0, none⟩ = some (.int .i64 t209) := (blk_cell BK211.out 0).trans rfl
            have hcz38_1 : w26.cell? ⟨gb211, 1, none⟩ = some (.int .i64 t210) := (blk_cell BK211.out 1).trans rfl
            have hfz38_0 := blk_frozen BK211.out 0
            have hfz38_1 := blk_frozen BK211.out 1
            have hnb39 := NB219_203.out
            have hnc39 := NB203_219.out
            have hcz40_0 : w26.cell? ⟨gb219, 0, none⟩ = some (.int .i64 0) := (blk_cell BK219.out 0).trans rfl
            have hcz40_1 : w26.cell? ⟨gb219, 1, none⟩ = some (.string (⟨#[]⟩ : ByteArray)) := (blk_cell BK219.out 1).trans rfl
            have hcz40_2 : w26.cell? ⟨gb219, 2, none⟩ = some (.int .i64 0) := (blk_cell BK219.out 2).trans rfl
            have hcz40_3 : w26.cell? ⟨gb219, 3, none⟩ = some (.int .i64 0) := (blk_cell BK219.out 3).trans rfl
            have hcz40_4 : w26.cell? ⟨gb219, 4, none⟩ = some (.string (⟨#[]⟩ : ByteArray)) := (blk_cell BK219.out 4).trans rfl
            have hcz40_5 : w26.cell? ⟨gb219, 5, none⟩ = some (.int .i64 0) := (blk_cell BK219.out 5).trans rfl
            have hfz40_0 := blk_frozen BK219.out 0
            have hfz40_1 := blk_frozen BK219.out 1
            have hfz40_2 := blk_frozen BK219.out 2
            have hfz40_3 := blk_frozen BK219.out 3
            have hfz40_4 := blk_frozen BK219.out 4
            have hfz40_5 := blk_frozen BK219.out 5
            go_wp2
            go_meet
            case rel => exact ⟨_, ((t218 != t198)), d16_9, H', ⟨by have := HK1.out; first | omega | exact Nat.le_refl _⟩, ⟨by (with_reducible repeat (first | apply Kd.R_alloc | apply Kd.R_drewN | apply Kd.R_drew)); exact Kd.R_mono (Kd.R_far (p := ⟨gb219, 5, none⟩) (Kd.R_far (p := ⟨gb219, 4, none⟩) (Kd.R_far (p := ⟨gb219, 3, none⟩) (Kd.R_far (p := ⟨gb219, 2, none⟩) (Kd.R_far (p := ⟨gb219, 1, none⟩) (Kd.R_far (p := ⟨gb219, 0, none⟩) (Kd.R_types HO_204001.out BK219.out (by decide)) (fun _ hk => hk.2) (.int .i64 t213)) (fun _ hk => hk.2) (.string t214)) (fun _ hk => hk.2) (.int .i64 t215)) (fun _ hk => hk.2) (.int .i64 t216)) (fun _ hk => hk.2) (.string t217)) (fun _ hk => hk.2) (.int .i64 t218)) (fun _ hk => trivial)⟩, ⟨by (with_reducible repeat (first | refine blk_drewN ?_ _ | refine blk_drew ?_ | refine blk_alloc ?_ _)); refine blk_far ?_ NB203_219.out _; (with_reducible repeat (first | refine blk_drewN ?_ _ | refine blk_drew ?_ | refine blk_alloc ?_ _)); refine blk_far ?_ NB203_219.out _; (with_reducible repeat (first | refine blk_drewN ?_ _ | refine blk_drew ?_ | refine blk_alloc ?_ _)); refine blk_far ?_ NB203_219.out _; (with_reducible repeat (first | refine blk_drewN ?_ _ | refine blk_drew ?_ | refine blk_alloc ?_ _)); refine blk_far ?_ NB203_219.out _; (with_reducible repeat (first | refine blk_drewN ?_ _ | refine blk_drew ?_ | refine blk_alloc ?_ _)); refine blk_far ?_ NB203_219.out _; (with_reducible repeat (first | refine blk_drewN ?_ _ | refine blk_drew ?_ | refine blk_alloc ?_ _)); refine blk_far ?_ NB203_219.out _; (with_reducible repeat (first | refine blk_drewN ?_ _ | refine blk_drew ?_ | refine blk_alloc ?_ _)); exact BK203.out⟩, ⟨by (with_reducible repeat (first | refine blk_drewN ?_ _ | refine blk_drew ?_ | refine blk_alloc ?_ _)); refine blk_far ?_ NB211_219.out _; (with_reducible repeat (first | refine blk_drewN ?_ _ | refine blk_drew ?_ | refine blk_alloc ?_ _)); refine blk_far ?_ NB211_219.out _; (with_reducible repeat (first | refine blk_drewN ?_ _ | refine blk_drew ?_ | refine blk_alloc ?_ _)); refine blk_far ?_ NB211_219.out _; (with_reducible repeat (first | refine blk_drewN ?_ _ | refine blk_drew ?_ | refine blk_alloc ?_ _)); refine blk_far ?_ NB211_219.out _; (with_reducible repeat (first | refine blk_drewN ?_ _ | refine blk_drew ?_ | refine blk_alloc ?_ _)); refine blk_far ?_ NB211_219.out _; (with_reducible repeat (first | refine blk_drewN ?_ _ | refine blk_drew ?_ | refine blk_alloc ?_ _)); refine blk_far ?_ NB211_219.out _; (with_reducible repeat (first | refine blk_drewN ?_ _ | refine blk_drew ?_ | refine blk_alloc ?_ _)); exact BK211.out⟩, ⟨by (with_reducible repeat (first | refine blk_drewN ?_ _ | refine blk_drew ?_ | refine blk_alloc ?_ _)); refine blk_put (cs := #[.int .i64 t213, .string t214, .int .i64 t215, .int .i64 t216, .string t217, .int .i64 0]) ?_ 5 _ rfl; (with_reducible repeat (first | refine blk_drewN ?_ _ | refine blk_drew ?_ | refine blk_alloc ?_ _)); refine blk_put (cs := #[.int .i64 t213, .string t214, .int .i64 t215, .int .i64 t216, .string (⟨#[]⟩ : ByteArray), .int .i64 0]) ?_ 4 _ rfl; (with_reducible repeat (first | refine blk_drewN ?_ _ | refine blk_drew ?_ | refine blk_alloc ?_ _)); refine blk_put (cs := #[.int .i64 t213, .string t214, .int .i64 t215, .int .i64 0, .string (⟨#[]⟩ : ByteArray), .int .i64 0]) ?_ 3 _ rfl; (with_reducible repeat (first | refine blk_drewN ?_ _ | refine blk_drew ?_ | refine blk_alloc ?_ _)); refine blk_put (cs := #[.int .i64 t213, .string t214, .int .i64 0, .int .i64 0, .string (⟨#[]⟩ : ByteArray), .int .i64 0]) ?_ 2 _ rfl; (with_reducible repeat (first | refine blk_drewN ?_ _ | refine blk_drew ?_ | refine blk_alloc ?_ _)); refine blk_put (cs := #[.int .i64 t213, .string (⟨#[]⟩ : ByteArray), .int .i64 0, .int .i64 0, .string (⟨#[]⟩ : ByteArray), .int .i64 0]) ?_ 1 _ rfl; (with_reducible repeat (first | refine blk_drewN ?_ _ | refine blk_drew ?_ | refine blk_alloc ?_ _)); refine blk_put (cs := #[.int .i64 0, .string (⟨#[]⟩ : ByteArray), .int .i64 0, .int .i64 0, .string (⟨#[]⟩ : ByteArray), .int .i64 0]) ?_ 0 _ rfl; (with_reducible repeat (first | refine blk_drewN ?_ _ | refine blk_drew ?_ | refine blk_alloc ?_ _)); exact BK219.out⟩, ⟨by repeat (first | (with_reducible first | exact HB.out | apply below_alloc | apply pw_below_drewN | apply below_drew1 | refine below_set ?_ GE203.out | refine below_set ?_ GE211.out | refine below_set ?_ GE219.out) | exact HB.out)⟩⟩
           ·rw [if_neg c35] at H
            have c35b0 : (t216 == t210) = false := beq_eq_false_iff_ne.mpr c35
            have c35b1 : (t216 != t210) = true := bne_iff_ne.mpr c35
            have H' := ak H
            clear H
            have hnb41 := NB211_203.out
            have hnc41 := NB203_211.out
            have hnb42 := NB211_219.out
            have hnc42 := NB219_211.out
            have hcz43_0 : w26.cell? ⟨gb211, 0, none⟩ = some (.int .i64 t209) := (blk_cell BK211.out 0).trans rfl
            have hcz43_1 : w26.cell? ⟨gb211, 1, none⟩ = some (.int .i64 t210) := (blk_cell BK211.out 1).trans rfl
            have hfz43_0 := blk_frozen BK211.out 0
            have hfz43_1 := blk_frozen BK211.out 1
            have hnb44 := NB219_203.out
            have hnc44 := NB203_219.out
            have hcz45_0 : w26.cell? ⟨gb219, 0, none⟩ = some (.int .i64 0) := (blk_cell BK219.out 0).trans rfl
            have hcz45_1 : w26.cell? ⟨gb219, 1, none⟩ = some (.string (⟨#[]⟩ : ByteArray)) := (blk_cell BK219.out 1).trans rfl
            have hcz45_2 : w26.cell? ⟨gb219, 2, none⟩ = some (.int .i64 0) := (blk_cell BK219.out 2).trans rfl
            have hcz45_3 : w26.cell? ⟨gb219, 3, none⟩ = some (.int .i64 0) := (blk_cell BK219.out 3).trans rfl
            have hcz45_4 : w26.cell? ⟨gb219, 4, none⟩ = some (.string (⟨#[]⟩ : ByteArray)) := (blk_cell BK219.out 4).trans rfl
            have hcz45_5 : w26.cell? ⟨gb219, 5, none⟩ = some (.int .i64 0) := (blk_cell BK219.out 5).trans rfl
            have hfz45_0 := blk_frozen BK219.out 0
            have hfz45_1 := blk_frozen BK219.out 1
            have hfz45_2 := blk_frozen BK219.out 2
            have hfz45_3 := blk_frozen BK219.out 3
            have hfz45_4 := blk_frozen BK219.out 4
            have hfz45_5 := blk_frozen BK219.out 5
            go_wp2
            go_meet
            case rel => exact ⟨_, (true), d16_9, H', ⟨by have := HK1.out; first | omega | exact Nat.le_refl _⟩, ⟨by (with_reducible repeat (first | apply Kd.R_alloc | apply Kd.R_drewN | apply Kd.R_drew)); exact Kd.R_mono (Kd.R_far (p := ⟨gb219, 5, none⟩) (Kd.R_far (p := ⟨gb219, 4, none⟩) (Kd.R_far (p := ⟨gb219, 3, none⟩) (Kd.R_far (p := ⟨gb219, 2, none⟩) (Kd.R_far (p := ⟨gb219, 1, none⟩) (Kd.R_far (p := ⟨gb219, 0, none⟩) (Kd.R_types HO_204001.out BK219.out (by decide)) (fun _ hk => hk.2) (.int .i64 t213)) (fun _ hk => hk.2) (.string t214)) (fun _ hk => hk.2) (.int .i64 t215)) (fun _ hk => hk.2) (.int .i64 t216)) (fun _ hk => hk.2) (.string t217)) (fun _ hk => hk.2) (.int .i64 t218)) (fun _ hk => trivial)⟩, ⟨by (with_reducible repeat (first | refine blk_drewN ?_ _ | refine blk_drew ?_ | refine blk_alloc ?_ _)); refine blk_far ?_ NB203_219.out _; (with_reducible repeat (first | refine blk_drewN ?_ _ | refine blk_drew ?_ | refine blk_alloc ?_ _)); refine blk_far ?_ NB203_219.out _; (with_reducible repeat (first | refine blk_drewN ?_ _ | refine blk_drew ?_ | refine blk_alloc ?_ _)); refine blk_far ?_ NB203_219.out _; (with_reducible repeat (first | refine blk_drewN ?_ _ | refine blk_drew ?_ | refine blk_alloc ?_ _)); refine blk_far ?_ NB203_219.out _; (with_reducible repeat (first | refine blk_drewN ?_ _ | refine blk_drew ?_ | refine blk_alloc ?_ _)); refine blk_far ?_ NB203_219.out _; (with_reducible repeat (first | refine blk_drewN ?_ _ | refine blk_drew ?_ | refine blk_alloc ?_ _)); refine blk_far ?_ NB203_219.out _; (with_reducible repeat (first | refine blk_drewN ?_ _ | refine blk_drew ?_ | refine blk_alloc ?_ _)); exact BK203.out⟩, ⟨by (with_reducible repeat (first | refine blk_drewN ?_ _ | refine blk_drew ?_ | refine blk_alloc ?_ _)); refine blk_far ?_ NB211_219.out _; (with_reducible repeat (first | refine blk_drewN ?_ _ | refine blk_drew ?_ | refine blk_alloc ?_ _)); refine blk_far ?_ NB211_219.out _; (with_reducible repeat (first | refine blk_drewN ?_ _ | refine blk_drew ?_ | refine blk_alloc ?_ _)); refine blk_far ?_ NB211_219.out _; (with_reducible repeat (first | refine blk_drewN ?_ _ | refine blk_drew ?_ | refine blk_alloc ?_ _)); refine blk_far ?_ NB211_219.out _; (with_reducible repeat (first | refine blk_drewN ?_ _ | refine blk_drew ?_ | refine blk_alloc ?_ _)); refine blk_far ?_ NB211_219.out _; (with_reducible repeat (first | refine blk_drewN ?_ _ | refine blk_drew ?_ | refine blk_alloc ?_ _)); refine blk_far ?_ NB211_219.out _; (with_reducible repeat (first | refine blk_drewN ?_ _ | refine blk_drew ?_ | refine blk_alloc ?_ _)); exact BK211.out⟩, ⟨by (with_reducible repeat (first | refine blk_drewN ?_ _ | refine blk_drew ?_ | refine blk_alloc ?_ _)); refine blk_put (cs := #[.int .i64 t213, .string t214, .int .i64 t215, .int .i64 t216, .string t217, .int .i64 0]) ?_ 5 _ rfl; (with_reducible repeat (first | refine blk_drewN ?_ _ | refine blk_drew ?_ | refine blk_alloc ?_ _)); refine blk_put (cs := #[.int .i64 t213, .string t214, .int .i64 t215, .int .i64 t216, .string (⟨#[]⟩ : ByteArray), .int .i64 0]) ?_ 4 _ rfl; (with_reducible repeat (first | refine blk_drewN ?_ _ | refine blk_drew ?_ | refine blk_alloc ?_ _)); refine blk_put (cs := #[.int .i64 t213, .string t214, .int .i64 t215, .int .i64 0, .string (⟨#[]⟩ : ByteArray), .int .i64 0]) ?_ 3 _ rfl; (with_reducible repeat (first | refine blk_drewN ?_ _ | refine blk_drew ?_ | refine blk_alloc ?_ _)); refine blk_put (cs := #[.int .i64 t213, .string t214, .int .i64 0, .int .i64 0, .string (⟨#[]⟩ : ByteArray), .int .i64 0]) ?_ 2 _ rfl; (with_reducible repeat (first | refine blk_drewN ?_ _ | refine blk_drew ?_ | refine blk_alloc ?_ _)); refine blk_put (cs := #[.int .i64 t213, .string (⟨#[]⟩ : ByteArray), .int .i64 0, .int .i64 0, .string (⟨#[]⟩ : ByteArray), .int .i64 0]) ?_ 1 _ rfl; (with_reducible repeat (first | refine blk_drewN ?_ _ | refine blk_drew ?_ | refine blk_alloc ?_ _)); refine blk_put (cs := #[.int .i64 0, .string (⟨#[]⟩ : ByteArray), .int .i64 0, .int .i64 0, .string (⟨#[]⟩ : ByteArray), .int .i64 0]) ?_ 0 _ rfl; (with_reducible repeat (first | refine blk_drewN ?_ _ | refine blk_drew ?_ | refine blk_alloc ?_ _)); exact BK219.out⟩, ⟨by repeat (first | (with_reducible first | exact HB.out | apply below_alloc | apply pw_below_drewN | apply below_drew1 | refine below_set ?_ GE203.out | refine below_set ?_ GE211.out | refine below_set ?_ GE219.out) | exact HB.out)⟩⟩
          ·rw [if_neg c34] at H
           have c34b0 : (t215 == 8) = false := beq_eq_false_iff_ne.mpr c34
           have c34b1 : (t215 != 8) = true := bne_iff_ne.mpr c34
           have H' := ak H
           clear H
           have hnb46 := NB211_203.out
           have hnc46 := NB203_211.out
           have hnb47 := NB211_219.out
           have hnc47 := NB219_211.out
           have hcz48_0 : w26.cell? ⟨gb211, 0, none⟩ = some (.int .i64 t209) := (blk_cell BK211.out 0).trans rfl
           have hcz48_1 : w26.cell? ⟨gb211, 1, none⟩ = some (.int .i64 t210) := (blk_cell BK211.out 1).trans rfl
           have hfz48_0 := blk_frozen BK211.out 0
           have hfz48_1 := blk_frozen BK211.out 1
           have hnb49 := NB219_203.out
           have hnc49 := NB203_219.out
           have hcz50_0 : w26.cell? ⟨gb219, 0, none⟩ = some (.int .i64 0) := (blk_cell BK219.out 0).trans rfl
           have hcz50_1 : w26.cell? ⟨gb219, 1, none⟩ = some (.string (⟨#[]⟩ : ByteArray)) := (blk_cell BK219.out 1).trans rfl
           have hcz50_2 : w26.cell? ⟨gb219, 2, none⟩ = some (.int .i64 0) := (blk_cell BK219.out 2).trans rfl
           have hcz50_3 : w26.cell? ⟨gb219, 3, none⟩ = some (.int .i64 0) := (blk_cell BK219.out 3).trans rfl
           have hcz50_4 : w26.cell? ⟨gb219, 4, none⟩ = some (.string (⟨#[]⟩ : ByteArray)) := (blk_cell BK219.out 4).trans rfl
           have hcz50_5 : w26.cell? ⟨gb219, 5, none⟩ = some (.int .i64 0) := (blk_cell BK219.out 5).trans rfl
           have hfz50_0 := blk_frozen BK219.out 0
           have hfz50_1 := blk_frozen BK219.out 1
           have hfz50_2 := blk_frozen BK219.out 2
           have hfz50_3 := blk_frozen BK219.out 3
           have hfz50_4 := blk_frozen BK219.out 4
           have hfz50_5 := blk_frozen BK219.out 5
           go_wp2
           go_meet
           case rel => exact ⟨_, (true), d16_9, H', ⟨by have := HK1.out; first | omega | exact Nat.le_refl _⟩, ⟨by (with_reducible repeat (first | apply Kd.R_alloc | apply Kd.R_drewN | apply Kd.R_drew)); exact Kd.R_mono (Kd.R_far (p := ⟨gb219, 5, none⟩) (Kd.R_far (p := ⟨gb219, 4, none⟩) (Kd.R_far (p := ⟨gb219, 3, none⟩) (Kd.R_far (p := ⟨gb219, 2, none⟩) (Kd.R_far (p := ⟨gb219, 1, none⟩) (Kd.R_far (p := ⟨gb219, 0, none⟩) (Kd.R_types HO_204001.out BK219.out (by decide)) (fun _ hk => hk.2) (.int .i64 t213)) (fun _ hk => hk.2) (.string t214)) (fun _ hk => hk.2) (.int .i64 t215)) (fun _ hk => hk.2) (.int .i64 t216)) (fun _ hk => hk.2) (.string t217)) (fun _ hk => hk.2) (.int .i64 t218)) (fun _ hk => trivial)⟩, ⟨by (with_reducible repeat (first | refine blk_drewN ?_ _ | refine blk_drew ?_ | refine blk_alloc ?_ _)); refine blk_far ?_ NB203_219.out _; (with_reducible repeat (first | refine blk_drewN ?_ _ | refine blk_drew ?_ | refine blk_alloc ?_ _)); refine blk_far ?_ NB203_219.out _; (with_reducible repeat (first | refine blk_drewN ?_ _ | refine blk_drew ?_ | refine blk_alloc ?_ _)); refine blk_far ?_ NB203_219.out _; (with_reducible repeat (first | refine blk_drewN ?_ _ | refine blk_drew ?_ | refine blk_alloc ?_ _)); refine blk_far ?_ NB203_219.out _; (with_reducible repeat (first | refine blk_drewN ?_ _ | refine blk_drew ?_ | refine blk_alloc ?_ _)); refine blk_far ?_ NB203_219.out _; (with_reducible repeat (first | refine blk_drewN ?_ _ | refine blk_drew ?_ | refine blk_alloc ?_ _)); refine blk_far ?_ NB203_219.out _; (with_reducible repeat (first | refine blk_drewN ?_ _ | refine blk_drew ?_ | refine blk_alloc ?_ _)); exact BK203.out⟩, ⟨by (with_reducible repeat (first | refine blk_drewN ?_ _ | refine blk_drew ?_ | refine blk_alloc ?_ _)); refine blk_far ?_ NB211_219.out _; (with_reducible repeat (first | refine blk_drewN ?_ _ | refine blk_drew ?_ | refine blk_alloc ?_ _)); refine blk_far ?_ NB211_219.out _; (with_reducible repeat (first | refine blk_drewN ?_ _ | refine blk_drew ?_ | refine blk_alloc ?_ _)); refine blk_far ?_ NB211_219.out _; (with_reducible repeat (first | refine blk_drewN ?_ _ | refine blk_drew ?_ | refine blk_alloc ?_ _)); refine blk_far ?_ NB211_219.out _; (with_reducible repeat (first | refine blk_drewN ?_ _ | refine blk_drew ?_ | refine blk_alloc ?_ _)); refine blk_far ?_ NB211_219.out _; (with_reducible repeat (first | refine blk_drewN ?_ _ | refine blk_drew ?_ | refine blk_alloc ?_ _)); refine blk_far ?_ NB211_219.out _; (with_reducible repeat (first | refine blk_drewN ?_ _ | refine blk_drew ?_ | refine blk_alloc ?_ _)); exact BK211.out⟩, ⟨by (with_reducible repeat (first | refine blk_drewN ?_ _ | refine blk_drew ?_ | refine blk_alloc ?_ _)); refine blk_put (cs := #[.int .i64 t213, .string t214, .int .i64 t215, .int .i64 t216, .string t217, .int .i64 0]) ?_ 5 _ rfl; (with_reducible repeat (first | refine blk_drewN ?_ _ | refine blk_drew ?_ | refine blk_alloc ?_ _)); refine blk_put (cs := #[.int .i64 t213, .string t214, .int .i64 t215, .int .i64 t216, .string (⟨#[]⟩ : ByteArray), .int .i64 0]) ?_ 4 _ rfl; (with_reducible repeat (first | refine blk_drewN ?_ _ | refine blk_drew ?_ | refine blk_alloc ?_ _)); refine blk_put (cs := #[.int .i64 t213, .string t214, .int .i64 t215, .int .i64 0, .string (⟨#[]⟩ : ByteArray), .int .i64 0]) ?_ 3 _ rfl; (with_reducible repeat (first | refine blk_drewN ?_ _ | refine blk_drew ?_ | refine blk_alloc ?_ _)); refine blk_put (cs := #[.int .i64 t213, .string t214, .int .i64 0, .int .i64 0, .string (⟨#[]⟩ : ByteArray), .int .i64 0]) ?_ 2 _ rfl; (with_reducible repeat (first | refine blk_drewN ?_ _ | refine blk_drew ?_ | refine blk_alloc ?_ _)); refine blk_put (cs := #[.int .i64 t213, .string (⟨#[]⟩ : ByteArray), .int .i64 0, .int .i64 0, .string (⟨#[]⟩ : ByteArray), .int .i64 0]) ?_ 1 _ rfl; (with_reducible repeat (first | refine blk_drewN ?_ _ | refine blk_drew ?_ | refine blk_alloc ?_ _)); refine blk_put (cs := #[.int .i64 0, .string (⟨#[]⟩ : ByteArray), .int .i64 0, .int .i64 0, .string (⟨#[]⟩ : ByteArray), .int .i64 0]) ?_ 0 _ rfl; (with_reducible repeat (first | refine blk_drewN ?_ _ | refine blk_drew ?_ | refine blk_alloc ?_ _)); exact BK219.out⟩, ⟨by repeat (first | (with_reducible first | exact HB.out | apply below_alloc | apply pw_below_drewN | apply below_drew1 | refine below_set ?_ GE203.out | refine below_set ?_ GE211.out | refine below_set ?_ GE219.out) | exact HB.out)⟩⟩
         ·rw [if_neg c33] at H
          have c33b0 : (t209 == 0) = false := beq_eq_false_iff_ne.mpr c33
          have c33b1 : (t209 != 0) = true := bne_iff_ne.mpr c33
          (first | rw [c33b0] | (simp only [i64_w, i32_w]; rw [c33b0]) | skip)
          have H' := ak H
          clear H
          have hnb51 := NB211_203.out
          have hnc51 := NB203_211.out
          have hnb52 := NB211_219.out
          have hnc52 := NB219_211.out
          have hcz53_0 : w26.cell? ⟨gb211, 0, none⟩ = some (.int .i64 t209) := (blk_cell BK211.out 0).trans rfl
          have hcz53_1 : w26.cell? ⟨gb211, 1, none⟩ = some (.int .i64 t210) := (blk_cell BK211.out 1).trans rfl
          have hfz53_0 := blk_frozen BK211.out 0
          have hfz53_1 := blk_frozen BK211.out 1
          go_wp2
          go_meet
          case rel => exact ⟨_, (true), d16_9, H', ⟨by have := HK1.out; first | omega | exact Nat.le_refl _⟩, ⟨by (with_reducible repeat (first | apply Kd.R_alloc | apply Kd.R_drewN | apply Kd.R_drew)); exact Kd.R_mono (Kd.R_far (p := ⟨gb219, 5, none⟩) (Kd.R_far (p := ⟨gb219, 4, none⟩) (Kd.R_far (p := ⟨gb219, 3, none⟩) (Kd.R_far (p := ⟨gb219, 2, none⟩) (Kd.R_far (p := ⟨gb219, 1, none⟩) (Kd.R_far (p := ⟨gb219, 0, none⟩) (Kd.R_types HO_204001.out BK219.out (by decide)) (fun _ hk => hk.2) (.int .i64 t213)) (fun _ hk => hk.2) (.string t214)) (fun _ hk => hk.2) (.int .i64 t215)) (fun _ hk => hk.2) (.int .i64 t216)) (fun _ hk => hk.2) (.string t217)) (fun _ hk => hk.2) (.int .i64 t218)) (fun _ hk => trivial)⟩, ⟨by (with_reducible repeat (first | refine blk_drewN ?_ _ | refine blk_drew ?_ | refine blk_alloc ?_ _)); refine blk_far ?_ NB203_219.out _; (with_reducible repeat (first | refine blk_drewN ?_ _ | refine blk_drew ?_ | refine blk_alloc ?_ _)); refine blk_far ?_ NB203_219.out _; (with_reducible repeat (first | refine blk_drewN ?_ _ | refine blk_drew ?_ | refine blk_alloc ?_ _)); refine blk_far ?_ NB203_219.out _; (with_reducible repeat (first | refine blk_drewN ?_ _ | refine blk_drew ?_ | refine blk_alloc ?_ _)); refine blk_far ?_ NB203_219.out _; (with_reducible repeat (first | refine blk_drewN ?_ _ | refine blk_drew ?_ | refine blk_alloc ?_ _)); refine blk_far ?_ NB203_219.out _; (with_reducible repeat (first | refine blk_drewN ?_ _ | refine blk_drew ?_ | refine blk_alloc ?_ _)); refine blk_far ?_ NB203_219.out _; (with_reducible repeat (first | refine blk_drewN ?_ _ | refine blk_drew ?_ | refine blk_alloc ?_ _)); exact BK203.out⟩, ⟨by (with_reducible repeat (first | refine blk_drewN ?_ _ | refine blk_drew ?_ | refine blk_alloc ?_ _)); refine blk_far ?_ NB211_219.out _; (with_reducible repeat (first | refine blk_drewN ?_ _ | refine blk_drew ?_ | refine blk_alloc ?_ _)); refine blk_far ?_ NB211_219.out _; (with_reducible repeat (first | refine blk_drewN ?_ _ | refine blk_drew ?_ | refine blk_alloc ?_ _)); refine blk_far ?_ NB211_219.out _; (with_reducible repeat (first | refine blk_drewN ?_ _ | refine blk_drew ?_ | refine blk_alloc ?_ _)); refine blk_far ?_ NB211_219.out _; (with_reducible repeat (first | refine blk_drewN ?_ _ | refine blk_drew ?_ | refine blk_alloc ?_ _)); refine blk_far ?_ NB211_219.out _; (with_reducible repeat (first | refine blk_drewN ?_ _ | refine blk_drew ?_ | refine blk_alloc ?_ _)); refine blk_far ?_ NB211_219.out _; (with_reducible repeat (first | refine blk_drewN ?_ _ | refine blk_drew ?_ | refine blk_alloc ?_ _)); exact BK211.out⟩, ⟨by (with_reducible repeat (first | refine blk_drewN ?_ _ | refine blk_drew ?_ | refine blk_alloc ?_ _)); refine blk_put (cs := #[.int .i64 t213, .string t214, .int .i64 t215, .int .i64 t216, .string t217, .int .i64 0]) ?_ 5 _ rfl; (with_reducible repeat (first | refine blk_drewN ?_ _ | refine blk_drew ?_ | refine blk_alloc ?_ _)); refine blk_put (cs := #[.int .i64 t213, .string t214, .int .i64 t215, .int .i64 t216, .string (⟨#[]⟩ : ByteArray), .int .i64 0]) ?_ 4 _ rfl; (with_reducible repeat (first | refine blk_drewN ?_ _ | refine blk_drew ?_ | refine blk_alloc ?_ _)); refine blk_put (cs := #[.int .i64 t213, .string t214, .int .i64 t215, .int .i64 0, .string (⟨#[]⟩ : ByteArray), .int .i64 0]) ?_ 3 _ rfl; (with_reducible repeat (first | refine blk_drewN ?_ _ | refine blk_drew ?_ | refine blk_alloc ?_ _)); refine blk_put (cs := #[.int .i64 t213, .string t214, .int .i64 0, .int .i64 0, .string (⟨#[]⟩ : ByteArray), .int .i64 0]) ?_ 2 _ rfl; (with_reducible repeat (first | refine blk_drewN ?_ _ | refine blk_drew ?_ | refine blk_alloc ?_ _)); refine blk_put (cs := #[.int .i64 t213, .string (⟨#[]⟩ : ByteArray), .int .i64 0, .int .i64 0, .string (⟨#[]⟩ : ByteArray), .int .i64 0]) ?_ 1 _ rfl; (with_reducible repeat (first | refine blk_drewN ?_ _ | refine blk_drew ?_ | refine blk_alloc ?_ _)); refine blk_put (cs := #[.int .i64 0, .string (⟨#[]⟩ : ByteArray), .int .i64 0, .int .i64 0, .string (⟨#[]⟩ : ByteArray), .int .i64 0]) ?_ 0 _ rfl; (with_reducible repeat (first | refine blk_drewN ?_ _ | refine blk_drew ?_ | refine blk_alloc ?_ _)); exact BK219.out⟩, ⟨by repeat (first | (with_reducible first | exact HB.out | apply below_alloc | apply pw_below_drewN | apply below_drew1 | refine below_set ?_ GE203.out | refine below_set ?_ GE211.out | refine below_set ?_ GE219.out) | exact HB.out)⟩⟩
        case rest =>
         clear HC16
         try clear c1
         try clear c2
         try clear p2
         try clear q2
         try clear hx2
         try clear c3
         try clear c6
         try clear c6b0
         try clear c6b1
         try clear c8
         try clear c9
         try clear c10
         try clear c12
         try clear c12b0
         try clear c13
         try clear c13b0
         try clear c20
         try clear p20
         try clear q20
         try clear hx20
         try clear p21
         try clear q21
         try clear hx21
         try clear hcz10_0
         try clear hcz10_1
         try clear hcz17_0
         try clear hcz17_1
         try clear hcz21_0
         try clear hcz21_1
         try clear hfz10_0
         try clear hfz10_1
         try clear hfz17_0
         try clear hfz17_1
         try clear hfz21_0
         try clear hfz21_1
         try clear hx208_0
         try clear hx208_1
         try clear hx208_2
         try clear hx208_3
         try clear hx208_4
         try clear hx212_0
         try clear hx212_1
         try clear hx212_2
         try clear hx212_3
         try clear hx212_4
         try clear p2
         try clear p208
         try clear p212
         try clear q208
         try clear q212
         obtain ⟨kq, x71_15, rfl, HA, HJ15, HO_204001, BK203, BK211, BK219, HB⟩ := hcut
         cases kq with
         | zero => exact absurd HA.out (by simp [laws_FnKnown.j1])
         | succ kj15 =>
          have H := HA.out
          clear HA
          simp only [laws_FnKnown.j1] at H
          by_cases c54 : x71_15 = true
          ·subst c54
           have H1 : (some false) = some r := by rw [if_pos rfl] at H; exact H
           clear H
           have H := H1
           clear H1
           obtain rfl := Option.some.inj H
           go_wp2
           go_ret
           exact ⟨by first | rfl | (simp [errW_none, errW_some] <;> rfl) | (simp [*, errW_none, errW_some] <;> rfl), by repeat (first | (with_reducible first | exact HB.out | apply below_alloc | apply pw_below_drewN | apply below_drew1 | refine below_set ?_ GE203.out | refine below_set ?_ GE211.out | refine below_set ?_ GE219.out) | exact HB.out)⟩
          ·replace c54 := Bool.eq_false_iff.mpr c54
           subst c54
           have H1 : (laws_FnKnown.l0 kj15 t198 (wrap64 (x5_1 + 1)) t199 t200) = some r := by rw [if_neg (show ¬ (false = true) by decide)] at H; exact H
           clear H
           have H := H1
           clear H1
           have H' := ak H
           clear H
           go_wp2
           go_roundg kj15
           case measure => have := HK1.out; have := HJ15.out; omega
           case rel => exact ⟨(wrap64 (x5_1 + 1)), d16_9, H', ⟨by have := HK1.out; have := HJ15.out; omega⟩, ⟨by (with_reducible repeat (first | apply Kd.R_alloc | apply Kd.R_drewN | apply Kd.R_drew)); exact HO_204001.out⟩, ⟨by (with_reducible repeat (first | refine blk_drewN ?_ _ | refine blk_drew ?_ | refine blk_alloc ?_ _)); exact BK203.out⟩, ⟨by repeat (first | (with_reducible first | exact HB.out | apply below_alloc | apply pw_below_drewN | apply below_drew1 | refine below_set ?_ GE203.out | refine below_set ?_ GE211.out | refine below_set ?_ GE219.out) | exact HB.out)⟩⟩
       ·rw [if_neg c13] at H
        exact absurd H (by simp)
      ·rw [if_neg c12] at H
       have c12b0 : decide (x5_1 < (t200.length : Int)) = false := decide_eq_false c12
       clear c12
       have HC55 := ak H
       clear H
       have hcz56_0 : wr.cell? ⟨gb203, 0, none⟩ = some (.int .i64 t199) := (blk_cell BK203.out 0).trans rfl
       have hcz56_1 : wr.cell? ⟨gb203, 1, none⟩ = some (.slice Ao11 t200.length co11) := (blk_cell BK203.out 1).trans rfl
       have hfz56_0 := blk_frozen BK203.out 0
       have hfz56_1 := blk_frozen BK203.out 1
       go_upto_region 14 with (fail)
       go_cut [2] (fun v2 wc => ∃ (kq : Nat) (x2_54 : Bool), v2 = .bool x2_54 ∧ Aside0 (laws_FnKnown.j2 kq x2_54 = some r) ∧ Aside0 (kq ≤ k1) ∧ Aside0 (Kd.R k35 35 wc w.heap.size (fun _ => True) (.slice Ao11 t200.length co11) t200) ∧ Aside0 (wc.heap[gb203]? = some (.cells #[.int .i64 t199, (.slice Ao11 t200.length co11)] 27 (0, 0))) ∧ Aside0 (Below w.heap.size w wc))
       case first =>
        have H := HC55.out
        clear HC55
        by_cases c57 : (t200.length : Int) = 16
        ·rw [if_pos c57] at H
         have c57b0 : ((t200.length : Int) == 16) = true := beq_iff_eq.mpr c57
         have c57b1 : ((t200.length : Int) != 16) = false := bne_eq_false_iff_eq.mpr c57
         clear c57
         (first | rw [c57b0] | (simp only [i64_w, i32_w]; rw [c57b0]) | skip)
         replace H := Option.bind_eq_some_iff.mp H
         obtain ⟨t220, A580, H⟩ := H
         replace H : (if t220 = 0 then ((impl_LookGlobal.f k1 t200 (⟨#[102, 111, 111]⟩ : ByteArray)).bind fun bt221 => (laws_FnKnown.j2 k1 (bt221.1 == 4))) else (laws_FnKnown.j2 k1 false)) = some r := H
         have A58 := ak A580
         clear A580
         by_cases c59 : t220 = 0
         ·rw [if_pos c59] at H
          have c59b0 : (t220 == 0) = true := beq_iff_eq.mpr c59
          have c59b1 : (t220 != 0) = false := bne_eq_false_iff_eq.mpr c59
          clear c59
          replace H := Option.bind_eq_some_iff.mp H
          obtain ⟨⟨t221, t222, t223, t224, t225, t226⟩, A600, H⟩ := H
          replace H : (laws_FnKnown.j2 k1 (t221 == 4)) = some r := H
          have A60 := ak A600
          clear A600
          have H' := ak H
          clear H
          have hcz61_0 : wr.cell? ⟨gb203, 0, none⟩ = some (.int .i64 t199) := (blk_cell BK203.out 0).trans rfl
          have hcz61_1 : wr.cell? ⟨gb203, 1, none⟩ = some (.slice Ao11 t200.length co11) := (blk_cell BK203.out 1).trans rfl
          have hfz61_0 := blk_frozen BK203.out 0
          have hfz61_1 := blk_frozen BK203.out 1
          go_wp2_with (first | (go_at_call 14; (with_reducible refine (impl_GlobalsFault.calls k1 _ _ t200 t220 _ ?side1 ?side2 A58.out).mono ?_); (case side1 => repeat (first | exact (Kd.R_reads' HO_204001.out).2.2 | (with_reducible refine Kd.C_alloc ?_ _) | (with_reducible refine Kd.C_drewN ?_ _) | (with_reducible refine Kd.C_drew ?_))); (case side2 => exact (Kd.R_reads' HO_204001.out).2.1); rintro e w62 ⟨rfl, hb⟩; have n0_ := ak (Kd.R_below d16_7 hb); have n1_ := ak (blk_below (g := gb203) (o := .cells #[.int .i64 t199, .slice Ao11 t200.length co11] 27 (0, 0)) d16_2 hb); have n2_ := ak (below_step d16_5 hb); clear HO_204001 BK203 HB; have HO_204001 := n0_; have BK203 := n1_; have HB := n2_; clear n0_ n1_ n2_; (try clear hb); have hcz63_0 : w62.cell? ⟨gb203, 0, none⟩ = some (.int .i64 t199) := (blk_cell BK203.out 0).trans rfl; have hcz63_1 : w62.cell? ⟨gb203, 1, none⟩ = some (.slice Ao11 t200.length co11) := (blk_cell BK203.out 1).trans rfl; have hfz63_0 := blk_frozen BK203.out 0; have hfz63_1 := blk_frozen BK203.out 1) | (go_at_call 13; (with_reducible refine (impl_LookGlobal.calls k1 _ _ t200 (⟨#[102, 111, 111]⟩ : ByteArray) t221 t222 t223 t224 t225 t226 _ ?side1 ?side2 A60.out).mono ?_); (case side1 => repeat (first | exact (Kd.R_reads' HO_204001.out).2.2 | (with_reducible refine Kd.C_alloc ?_ _) | (with_reducible refine Kd.C_drewN ?_ _) | (with_reducible refine Kd.C_drew ?_))); (case side2 => exact (Kd.R_reads' HO_204001.out).2.1); rintro e w64 ⟨rfl, hb⟩; have n0_ := ak (Kd.R_below d16_7 hb); have n1_ := ak (blk_below (g := gb203) (o := .cells #[.int .i64 t199, .slice Ao11 t200.length co11] 27 (0, 0)) d16_2 hb); have n2_ := ak (below_step d16_5 hb); clear HO_204001 BK203 HB; have HO_204001 := n0_; have BK203 := n1_; have HB := n2_; clear n0_ n1_ n2_; (try clear hb)))
          go_meet
          case rel => exact ⟨_, ((t221 == 4)), d16_9, H', ⟨by have := HK1.out; first | omega | exact Nat.le_refl _⟩, ⟨by (with_reducible repeat (first | apply Kd.R_alloc | apply Kd.R_drewN | apply Kd.R_drew)); exact HO_204001.out⟩, ⟨by (with_reducible repeat (first | refine blk_drewN ?_ _ | refine blk_drew ?_ | refine blk_alloc ?_ _)); exact BK203.out⟩, ⟨by repeat (first | (with_reducible first | exact HB.out | apply below_alloc | apply pw_below_drewN | apply below_drew1 | refine below_set ?_ GE203.out) | exact HB.out)⟩⟩
         ·rw [if_neg c59] at H
          have c59b0 : (t220 == 0) = false := beq_eq_false_iff_ne.mpr c59
          have c59b1 : (t220 != 0) = true := bne_iff_ne.mpr c59
          have H' := ak H
          clear H
          have hcz65_0 : wr.cell? ⟨gb203, 0, none⟩ = some (.int .i64 t199) := (blk_cell BK203.out 0).trans rfl
          have hcz65_1 : wr.cell? ⟨gb203, 1, none⟩ = some (.slice Ao11 t200.length co11) := (blk_cell BK203.out 1).trans rfl
          have hfz65_0 := blk_frozen BK203.out 0
          have hfz65_1 := blk_frozen BK203.out 1
          go_wp2_with (first | (go_at_call 14; (with_reducible refine (impl_GlobalsFault.calls k1 _ _ t200 t220 _ ?side1 ?side2 A58.out).mono ?_); (case side1 => repeat (first | exact (Kd.R_reads' HO_204001.out).2.2 | (with_reducible refine Kd.C_alloc ?_ _) | (with_reducible refine Kd.C_drewN ?_ _) | (with_reducible refine Kd.C_drew ?_))); (case side2 => exact (Kd.R_reads' HO_204001.out).2.1); rintro e w66 ⟨rfl, hb⟩; have n0_ := ak (Kd.R_below d16_7 hb); have n1_ := ak (blk_below (g := gb203) (o := .cells #[.int .i64 t199, .slice Ao11 t200.length co11] 27 (0, 0)) d16_2 hb); have n2_ := ak (below_step d16_5 hb); clear HO_204001 BK203 HB; have HO_204001 := n0_; have BK203 := n1_; have HB := n2_; clear n0_ n1_ n2_; (try clear hb)))
          go_meet
          case rel => exact ⟨_, (false), d16_9, H', ⟨by have := HK1.out; first | omega | exact Nat.le_refl _⟩, ⟨by (with_reducible repeat (first | apply Kd.R_alloc | apply Kd.R_drewN | apply Kd.R_drew)); exact HO_204001.out⟩, ⟨by (with_reducible repeat (first | refine blk_drewN ?_ _ | refine blk_drew ?_ | refine blk_alloc ?_ _)); exact BK203.out⟩, ⟨by repeat (first | (with_reducible first | exact HB.out | apply below_alloc | apply pw_below_drewN | apply below_drew1 | refine below_set ?_ GE203.out) | exact HB.out)⟩⟩
        ·rw [if_neg c57] at H
         have c57b0 : ((t200.length : Int) == 16) = false := beq_eq_false_iff_ne.mpr c57
         have c57b1 : ((t200.length : Int) != 16) = true := bne_iff_ne.mpr c57
         (first | rw [c57b0] | (simp only [i64_w, i32_w]; rw [c57b0]) | skip)
         have H' := ak H
         clear H
         have hcz67_0 : wr.cell? ⟨gb203, 0, none⟩ = some (.int .i64 t199) := (blk_cell BK203.out 0).trans rfl
         have hcz67_1 : wr.cell? ⟨gb203, 1, none⟩ = some (.slice Ao11 t200.length co11) := (blk_cell BK203.out 1).trans rfl
         have hfz67_0 := blk_frozen BK203.out 0
         have hfz67_1 := blk_frozen BK203.out 1
         go_wp2
         go_meet
         case rel => exact ⟨_, (false), d16_9, H', ⟨by have := HK1.out; first | omega | exact Nat.le_refl _⟩, ⟨by (with_reducible repeat (first | apply Kd.R_alloc | apply Kd.R_drewN | apply Kd.R_drew)); exact HO_204001.out⟩, ⟨by (with_reducible repeat (first | refine blk_drewN ?_ _ | refine blk_drew ?_ | refine blk_alloc ?_ _)); exact BK203.out⟩, ⟨by repeat (first | (with_reducible first | exact HB.out | apply below_alloc | apply pw_below_drewN | apply below_drew1 | refine below_set ?_ GE203.out) | exact HB.out)⟩⟩
       case rest =>
        clear HC55
        try clear c1
        try clear c2
        try clear p2
        try clear q2
        try clear hx2
        try clear c3
        try clear c4
        try clear c5
        try clear c6
        try clear c6b0
        try clear c6b1
        try clear p6
        try clear c8
        try clear c9
        try clear c10
        try clear c12
        try clear c12b0
        try clear c13
        try clear c13b0
        try clear c20
        try clear p20
        try clear q20
        try clear hx20
        try clear p21
        try clear q21
        try clear hx21
        try clear c33
        try clear c33b0
        try clear c33b1
        try clear c34
        try clear c34b0
        try clear c34b1
        try clear c35
        try clear c35b0
        try clear c35b1
        try clear c36
        try clear c37
        try clear c39
        try clear c41
        try clear c42
        try clear c44
        try clear c46
        try clear c47
        try clear c49
        try clear c51
        try clear c52
        try clear c54
        try clear p64
        try clear hcz10_0
        try clear hcz10_1
        try clear hcz17_0
        try clear hcz17_1
        try clear hcz21_0
        try clear hcz21_1
        try clear hcz38_0
        try clear hcz38_1
        try clear hcz40_0
        try clear hcz40_1
        try clear hcz40_2
        try clear hcz40_3
        try clear hcz40_4
        try clear hcz40_5
        try clear hcz43_0
        try clear hcz43_1
        try clear hcz45_0
        try clear hcz45_1
        try clear hcz45_2
        try clear hcz45_3
        try clear hcz45_4
        try clear hcz45_5
        try clear hcz48_0
        try clear hcz48_1
        try clear hcz50_0
        try clear hcz50_1
        try clear hcz50_2
        try clear hcz50_3
        try clear hcz50_4
        try clear hcz50_5
        try clear hcz53_0
        try clear hcz53_1
        try clear hcz56_0
        try clear hcz56_1
        try clear hfz10_0
        try clear hfz10_1
        try clear hfz17_0
        try clear hfz17_1
        try clear hfz21_0
        try clear hfz21_1
        try clear hfz38_0
        try clear hfz38_1
        try clear hfz40_0
        try clear hfz40_1
        try clear hfz40_2
        try clear hfz40_3
        try clear hfz40_4
        try clear hfz40_5
        try clear hfz43_0
        try clear hfz43_1
        try clear hfz45_0
        try clear hfz45_1
        try clear hfz45_2
        try clear hfz45_3
        try clear hfz45_4
        try clear hfz45_5
        try clear hfz48_0
        try clear hfz48_1
        try clear hfz50_0
        try clear hfz50_1
        try clear hfz50_2
        try clear hfz50_3
        try clear hfz50_4
        try clear hfz50_5
        try clear hfz53_0
        try clear hfz53_1
        try clear hfz56_0
        try clear hfz56_1
        try clear hx208_0
        try clear hx208_1
        try clear hx208_2
        try clear hx208_3
        try clear hx208_4
        try clear hx212_0
        try clear hx212_1
        try clear hx212_2
        try clear hx212_3
        try clear hx212_4
        try clear p2
        try clear p20
        try clear p208
        try clear p21
        try clear p212
        try clear q2
        try clear q20
        try clear q208
        try clear q21
        try clear q212
        obtain ⟨kq, x2_54, rfl, HA, HJ54, HO_204001, BK203, HB⟩ := hcut
        cases kq with
        | zero => exact absurd HA.out (by simp [laws_FnKnown.j2])
        | succ kj54 =>
         have H := HA.out
         clear HA
         simp only [laws_FnKnown.j2] at H
         obtain rfl := Option.some.inj H
         go_wp2
         go_ret
         exact ⟨by first | rfl | (simp [errW_none, errW_some] <;> rfl) | (simp [*, errW_none, errW_some] <;> rfl), by repeat (first | (with_reducible first | exact HB.out | apply below_alloc | apply pw_below_drewN | apply below_drew1 | refine below_set ?_ GE203.out) | exact HB.out)⟩
   ·rw [if_neg c6] at H
    have c6b0 : (t199 == 0) = false := beq_eq_false_iff_ne.mpr c6
    have c6b1 : (t199 != 0) = true := bne_iff_ne.mpr c6
    replace H := Option.bind_eq_some_iff.mp H
    obtain ⟨⟨t204, t205⟩, A680, H⟩ := H
    replace H : (some (t204 == t199)) = some r := H
    have A68 := ak A680
    clear A680
    obtain rfl := Option.some.inj H
    go_enter Tryd.func3, Tryd.ntmps3
    try go_wp2_with (first | ((with_reducible refine gate_callee (f := 8) rfl ?_); refine goesL_ (some 9) rfl rfl Tryd.func8 (by kernel_rfl) rfl #[.slice A0 l0.length c0] rfl d16_4 ?_; (with_reducible refine (laws_lwBig.calls _ _ l0 false _ ?side1 ?side2 A2.out).mono ?_); (case side1 => repeat (first | exact HR0.out | (with_reducible refine Kd.C_alloc ?_ _) | (with_reducible refine Kd.C_drewN ?_ _) | (with_reducible refine Kd.C_drew ?_))); (case side2 => exact HC0.out); rintro e w' ⟨rfl, ⟨nd, rfl⟩⟩; refine ⟨_, rfl, ?_⟩) | ((with_reducible refine gate_callee (f := 9) rfl ?_); refine goesL_ (some 11) rfl rfl Tryd.func9 (by kernel_rfl) rfl #[.slice A0 l0.length c0] rfl d16_4 ?_; (with_reducible refine (spec_DrawNewGlobals.calls _ _ l0 t198 _ ?side1 ?side2 A4.out).mono ?_); (case side1 => repeat (first | exact HR0.out | (with_reducible refine Kd.C_alloc ?_ _) | (with_reducible refine Kd.C_drewN ?_ _) | (with_reducible refine Kd.C_drew ?_))); (case side2 => exact HC0.out); rintro e w69 ⟨rfl, hb⟩; refine ⟨_, rfl, ?_⟩; have n0_ := ak (below_step d16_3 hb); clear HB; have HB := n0_; clear n0_; (try clear hb)) | ((with_reducible refine gate_callee (f := 10) rfl ?_); refine goesL_ (some 13) rfl rfl Tryd.func10 (by kernel_rfl) rfl #[.int .i64 t198] rfl d16_4 ?_; (with_reducible refine (impl_NewGlobals.calls k t198 t199 t200 _ A5.out).mono ?_); rintro e w70 ⟨v201, rfl, ho0, hb⟩; refine ⟨_, rfl, ?_⟩; have n0_ := ak (Kd.R_lower ho0 (below_size d16_3)); have n1_ := ak (below_step d16_3 hb); clear HB; have HO202 := n0_; have HB := n1_; clear n0_ n1_; (try clear hb); (try clear ho0)) | ((with_reducible refine gate_dst (N := 4) rfl ?_); refine box_event ?hg (N := 4) ?hd (cs := #[.int .i64 0, .slice none 0 0]) (t := 27) ?hr ?_; (case hd => rfl); (case hg => rfl); (case hr => first | (go_simp; done) | (go_simp; rfl)); intro gb203 hg w71 hbox hb; have n0_ := ak (Kd.R_below d16_11 hb); have n1_ := ak (below_step d16_3 hb); have n2_ := ak (hbox); have n3_ := ak ((by rw [hg]; exact (below_size d16_3) : w.heap.size ≤ gb203)); have n4_ := ak ((by rw [hg]; exact (below_size d16_3) : w.heap.size ≤ gb203)); clear HO202 HB; have HO202 := n0_; have HB := n1_; have BK203 := n2_; have GW203 := n3_; have GE203 := n4_; clear n0_ n1_ n2_ n3_ n4_ hb hbox hg; have hcz72_0 : w71.cell? ⟨gb203, 0, none⟩ = some (.int .i64 0) := (blk_cell BK203.out 0).trans rfl; have hcz72_1 : w71.cell? ⟨gb203, 1, none⟩ = some (.slice none 0 0) := (blk_cell BK203.out 1).trans rfl; have hfz72_0 := blk_frozen BK203.out 0; have hfz72_1 := blk_frozen BK203.out 1; obtain ⟨Ao73, co73, eo73⟩ := Kd.R_slice HO202.out; subst eo73))
    have n0_ : Aside0 (Kd.R k35 35 ((w71.setCell ⟨gb203, 0, none⟩ (.int .i64 t199)).setCell ⟨gb203, 1, none⟩ (.slice Ao73 t200.length co73)) w.heap.size (fun _ => True) (.slice Ao73 t200.length co73) t200) := ⟨by (with_reducible repeat (first | apply Kd.R_alloc | apply Kd.R_drewN | apply Kd.R_drew)); exact Kd.R_mono (Kd.R_far (p := ⟨gb203, 1, none⟩) (Kd.R_far (p := ⟨gb203, 0, none⟩) (Kd.R_types HO202.out BK203.out (by decide)) (fun _ hk => hk.2) (.int .i64 t199)) (fun _ hk => hk.2) (.slice Ao73 t200.length co73)) (fun _ hk => trivial)⟩
    have n1_ : Aside0 (((w71.setCell ⟨gb203, 0, none⟩ (.int .i64 t199)).setCell ⟨gb203, 1, none⟩ (.slice Ao73 t200.length co73)).heap[gb203]? = some (.cells #[.int .i64 t199, .slice Ao73 t200.length co73] 27 (0, 0))) := ⟨by (with_reducible repeat (first | refine blk_drewN ?_ _ | refine blk_drew ?_ | refine blk_alloc ?_ _)); refine blk_put (cs := #[.int .i64 t199, .slice none 0 0]) ?_ 1 _ rfl; (with_reducible repeat (first | refine blk_drewN ?_ _ | refine blk_drew ?_ | refine blk_alloc ?_ _)); refine blk_put (cs := #[.int .i64 0, .slice none 0 0]) ?_ 0 _ rfl; (with_reducible repeat (first | refine blk_drewN ?_ _ | refine blk_drew ?_ | refine blk_alloc ?_ _)); exact BK203.out⟩
    have n2_ : Aside0 (Below w.heap.size w ((w71.setCell ⟨gb203, 0, none⟩ (.int .i64 t199)).setCell ⟨gb203, 1, none⟩ (.slice Ao73 t200.length co73))) := ⟨by repeat (first | (with_reducible first | exact HB.out | apply below_alloc | apply pw_below_drewN | apply below_drew1 | refine below_set ?_ GE203.out) | exact HB.out)⟩
    (try clear HO202)
    (try clear BK203)
    (try clear HB)
    generalize ((w71.setCell ⟨gb203, 0, none⟩ (.int .i64 t199)).setCell ⟨gb203, 1, none⟩ (.slice Ao73 t200.length co73)) = w74 at n0_ n1_ n2_ ⊢
    have HO202 := n0_
    have BK203 := n1_
    have HB := n2_
    clear n0_ n1_ n2_
    have n0_ := ak (Kd.R_drew HO202.out)
    have n1_ := ak (blk_drew BK203.out)
    have n2_ := ak (below_drew1 HB.out)
    clear HO202
    clear BK203
    clear HB
    have HO202 := n0_
    have BK203 := n1_
    have HB := n2_
    clear n0_ n1_ n2_
    refine start_ (n := 7) (S := fun w' => w'.cell? ⟨gb203, 0, none⟩ = some (.int .i64 t199) ∧ w'.cell? ⟨gb203, 1, none⟩ = some (.slice Ao73 t200.length co73)) (ds := []) #[false, false, false, false, false, false, false] (by kernel_rfl) rfl rfl ⟨(blk_cell BK203.out 0).trans rfl, (blk_cell BK203.out 1).trans rfl⟩ (fun hHeld => ?_)
    generalize w74.drew = w75 at HO202 BK203 HB hHeld ⊢
    refine pure_ (i := 0) (N := some 17) (v := ?_) (a' := ?_) #[true, false, false, false, false, false, false] rfl rfl (by kernel_rfl) (fun _ _ _ h => h) (Or.inl ⟨by rfl, ?_⟩) ?_ ?_
    rotate_left
    · intro w'
      go_simp
      with_reducible rfl
    rotate_left
    · simp only [Act.put, List.setIfInBounds_toArray, List.set_cons_zero, List.set_cons_succ, i64_w, i32_w]
      rfl
    refine pure_ (i := 3) (N := some 20) (v := ?_) (a' := ?_) #[true, false, false, true, false, false, false] rfl rfl (by kernel_rfl) (fun _ _ _ h => h) (Or.inl ⟨by rfl, ?_⟩) ?_ ?_
    rotate_left
    · intro w'
      go_simp
      with_reducible rfl
    rotate_left
    · simp only [Act.put, List.setIfInBounds_toArray, List.set_cons_zero, List.set_cons_succ, i64_w, i32_w]
      rfl
    refine take_ (i := 4) (N := some 21) (v := ?_) (a' := ?_) #[true, false, false, true, true, false, false] rfl rfl (by kernel_rfl) (fun _ _ _ h => h) (Or.inl ⟨by rfl, ?_⟩) hHeld ?_ ?_
    rotate_left
    · rintro w' ⟨s0, s1⟩
      go_simp
      with_reducible rfl
    rotate_left
    · simp only [Act.put, List.setIfInBounds_toArray, List.set_cons_zero, List.set_cons_succ, i64_w, i32_w]
      rfl
    refine one_ (i := 1) (N := some 18) #[true, true, false, true, true, false, false] rfl rfl (by kernel_rfl) (by decide) (fun K hK => ?_)
    refine goes_ Tryd.func11 (by kernel_rfl) rfl #[.int .i64 t198] (by rfl) rfl rfl d16_4 ?_
    with_reducible refine (spec_NewGlobals.calls k t198 t204 t205 _ A68.out).mono ?_
    rintro e w76 ⟨v206, rfl, ho0, hb⟩
    refine ⟨_, rfl, ?_⟩
    have n0_ := ak (Kd.R_elder' d16_11 (Kd.R_base ho0) hb)
    have n1_ := ak (Kd.R_lower (Kd.R_new' ho0 (Kd.R_lt d16_11)) (below_size d16_5))
    have n2_ := ak (blk_below (g := gb203) (o := .cells #[.int .i64 t199, .slice Ao73 t200.length co73] 27 (0, 0)) d16_2 hb)
    have n3_ := ak (below_step d16_5 hb)
    clear HO202
    clear BK203
    clear HB
    have HO202 := n0_
    have HO207 := n1_
    have BK203 := n2_
    have HB := n3_
    clear n0_ n1_ n2_ n3_
    (try clear hb)
    (try clear hb2)
    (try clear hk)
    (try clear hi)
    (try clear ho0)
    refine hK.out _ _ ⟨(blk_cell BK203.out 0).trans rfl, (blk_cell BK203.out 1).trans rfl⟩ (fun hHeld => ?_)
    clear hK K
    refine norm_ (a' := ?_) ?_ ?_
    rotate_left
    · show Act.put _ (some 18) _ = _
      simp only [Act.put, List.setIfInBounds_toArray, List.set_cons_zero, List.set_cons_succ, i64_w, i32_w]
      rfl
    refine pure_ (i := 2) (N := some 19) (v := ?_) (a' := ?_) #[true, true, true, true, true, false, false] rfl rfl (by kernel_rfl) (fun _ _ _ h => h) (Or.inl ⟨by rfl, ?_⟩) ?_ ?_
    rotate_left
    · intro w'
      go_simp
      with_reducible rfl
    rotate_left
    · simp only [Act.put, List.setIfInBounds_toArray, List.set_cons_zero, List.set_cons_succ, i64_w, i32_w]
      rfl
    refine pure_ (i := 5) (N := some 22) (v := ?_) (a' := ?_) #[true, true, true, true, true, true, false] rfl rfl (by kernel_rfl) (fun _ _ _ h => h) (Or.inl ⟨by rfl, ?_⟩) ?_ ?_
    rotate_left
    · intro w'
      go_simp
      with_reducible rfl
    rotate_left
    · simp only [Act.put, List.setIfInBounds_toArray, List.set_cons_zero, List.set_cons_succ, i64_w, i32_w]
      rfl
    refine pure_ (i := 6) (N := some 2) (v := ?_) (a' := ?_) #[true, true, true, true, true, true, true] rfl rfl (by kernel_rfl) (fun _ _ _ h => h) (Or.inl ⟨by rfl, ?_⟩) ?_ ?_
    rotate_left
    · intro w'
      go_simp
      with_reducible rfl
    rotate_left
    · simp only [Act.put, List.setIfInBounds_toArray, List.set_cons_zero, List.set_cons_succ, i64_w, i32_w]
      rfl
    refine done_ (by kernel_rfl) ?_
    try go_wp2
    go_ret
    exact ⟨by first | rfl | (simp [errW_none, errW_some] <;> rfl) | (simp [*, errW_none, errW_some] <;> rfl), by repeat (first | (with_reducible first | exact HB.out | apply below_alloc | apply pw_below_drewN | apply below_drew1 | refine below_set ?_ GE203.out) | exact HB.out)⟩

end Go.Proofs.YtcliaceiijaafaaDoor.A
