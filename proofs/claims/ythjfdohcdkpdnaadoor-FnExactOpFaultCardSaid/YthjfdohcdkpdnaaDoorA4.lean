/- Walks of the program's functions: each Go function's answer as a plain Lean function, and that the call comes to it. Written by a program. Conditions: those in each theorem's own head. -/
import Derived.Test.YthjfdohcdkpdnaaDoorA0
import Derived.Test.YthjfdohcdkpdnaaDoorA1
import Derived.Test.YthjfdohcdkpdnaaDoorA2
import Derived.Test.YthjfdohcdkpdnaaDoorA3
namespace Go.Proofs.YthjfdohcdkpdnaaDoor.A
open Go.RowKit Go.Proofs.YthjfdohcdkpdnaaDoorW.PrintWords Go.Proofs.YthjfdohcdkpdnaaDoorW.PrintLast Go.Proofs.YthjfdohcdkpdnaaDoorW.PrintMore
attribute [local go_sem] max2_int min2_int max_two min_two max_three min_three max_four min_four   -- for this text's walks alone
set_option linter.unusedVariables false
set_option linter.unusedSimpArgs false

theorem d4_1 {p : Prop} (h : p := by repeat (first | (with_reducible first | exact HB.out | apply below_alloc | apply pw_below_drewN | apply below_drew1 | refine below_set ?_ GE293.out) | exact HB.out)) : p := h
theorem d4_2 {p : Prop} (h : p := by repeat (first | (with_reducible first | exact HB.out | apply below_alloc | apply pw_below_drewN | apply below_drew1) | exact HB.out)) : p := h
theorem d4_3 {p : Prop} (h : p := by first | (with_reducible assumption) | assumption) : p := h
theorem d4_4 {p : Prop} (h : p := by (with_reducible repeat (first | refine blk_drewN ?_ _ | refine blk_drew ?_ | refine blk_alloc ?_ _)); exact BK293.out) : p := h
theorem d4_5 {p : Prop} (h : p := by (try simp only [List.map_toArray, List.map_cons, List.map_nil]); first | done | rfl | (simp only [List.length_drop, List.length_take]; rfl)) : p := h
theorem d4_6 {p : Prop} (h : p := by (with_reducible repeat (first | refine blk_drewN ?_ _ | refine blk_drew ?_ | refine blk_alloc ?_ _)); exact BK316.out) : p := h
theorem d4_7 {p : Prop} (h : p := by (with_reducible repeat (first | refine blk_drewN ?_ _ | refine blk_drew ?_ | refine blk_alloc ?_ _)); exact BK319.out) : p := h
theorem d4_8 {p : Prop} (h : p := by repeat (first | (with_reducible first | exact HB.out | apply below_alloc | apply pw_below_drewN | apply below_drew1 | refine below_set ?_ GE316.out | refine below_set ?_ GE317.out) | exact HB.out)) : p := h
theorem d4_9 {p : Prop} (h : p := by repeat (first | (with_reducible first | exact HB.out | apply below_alloc | apply pw_below_drewN | apply below_drew1 | refine below_set ?_ GE319.out | refine below_set ?_ GE320.out) | exact HB.out)) : p := h
theorem d4_10 {p : Prop} (h : p := by repeat (first | (with_reducible first | exact HB.out | apply below_alloc | apply pw_below_drewN | apply below_drew1 | refine below_set ?_ GE316.out) | exact HB.out)) : p := h
theorem d4_11 {p : Prop} (h : p := by repeat (first | (with_reducible first | exact HB.out | apply below_alloc | apply pw_below_drewN | apply below_drew1 | refine below_set ?_ GE319.out) | exact HB.out)) : p := h
theorem d4_12 {p : Prop} (h : p := by (with_reducible repeat (first | apply Kd.R_alloc | apply Kd.R_drewN | apply Kd.R_drew)); exact HO296.out) : p := h
theorem d4_13 {p : Prop} (h : p := by (with_reducible repeat (first | apply Kd.R_alloc | apply Kd.R_drewN | apply Kd.R_drew)); exact HO299.out) : p := h
theorem d4_14 {p : Prop} (h : p := by rw [hg]; exact (below_size d4_2)) : p := h

/-! ### spec_l7Fault: function 87 -/
def spec_l7Fault.l0 : Nat → List (S98) → Int → Option (Int)
  | 0, _, _ => none
  | k + 1, x0, x3 => if x3 < (x0.length : Int) then (if 0 ≤ x3 then ((spec_l2Sym.f k ((rd_T98 x0 x3).f0)).bind fun t280 => (if t280 = true then ((spec_l5Fault.f k ((rd_T98 x0 x3).f1.f0) ((rd_T98 x0 x3).f1.f1) ((rd_T98 x0 x3).f1.f2)).bind fun t282 => (if t282 = 0 then ((spec_l7Version.f ((rd_T98 x0 x3).f2)).bind fun t284 => (if t284 = true then (if x3 ≤ (x0.length : Int) then ((spec_l7At.f k (x0.take (x3 : Int).toNat) ((rd_T98 x0 x3).f0)).bind fun t290 => (if t290 ≥ 0 then (some 1) else (spec_l7Fault.l0 k x0 (wrap64 (x3 + 1))))) else (none)) else (some 3))) else (some t282))) else (some 5))) else (none)) else (some 0)
def spec_l7Fault.f (k : Nat) (l0 : List (S98)) : Option (Int) := if (l0.length : Int) > 60 then (some 2) else (spec_l7Fault.l0 k l0 0)
theorem spec_l7Fault.mono_l : ∀ k, (∀ y0 y1, LeO (spec_l7Fault.l0 k y0 y1) (spec_l7Fault.l0 (k + 1) y0 y1))
  | 0 => fun _ _ r h => by simp [spec_l7Fault.l0] at h
  | k + 1 => by
    have ih0 := spec_l7Fault.mono_l k
    · intro y0 y1
      unfold spec_l7Fault.l0
      repeat' first
      | (with_reducible exact ih0 _ _)
      | (with_reducible exact spec_l2Sym.mono _ _)
      | (with_reducible exact spec_l5Fault.mono _ _ _ _)
      | (with_reducible exact spec_l7At.mono _ _ _)
      | (with_reducible exact LeO.refl _)
      | (with_reducible exact LeO.none _)
      | (with_reducible refine LeO.ite ?_ ?_)
      | (with_reducible refine LeO.bind ?_ (fun _ => ?_))
      | exact ih0 _ _
      | exact spec_l2Sym.mono _ _
      | exact spec_l5Fault.mono _ _ _ _
      | exact spec_l7At.mono _ _ _
      | exact LeO.none _
      | refine LeO.ite ?_ ?_
      | refine LeO.bind ?_ (fun _ => ?_)
theorem spec_l7Fault.mono : ∀ a0 k, LeO (spec_l7Fault.f k a0) (spec_l7Fault.f (k + 1) a0) := by
  intro a0 k
  have ih0 := spec_l7Fault.mono_l k
  unfold spec_l7Fault.f
  repeat' first
      | (with_reducible exact ih0 _ _)
      | (with_reducible exact spec_l2Sym.mono _ _)
      | (with_reducible exact spec_l5Fault.mono _ _ _ _)
      | (with_reducible exact spec_l7At.mono _ _ _)
      | (with_reducible exact LeO.refl _)
      | (with_reducible exact LeO.none _)
      | (with_reducible refine LeO.ite ?_ ?_)
      | (with_reducible refine LeO.bind ?_ (fun _ => ?_))
      | exact ih0 _ _
      | exact spec_l2Sym.mono _ _
      | exact spec_l5Fault.mono _ _ _ _
      | exact spec_l7At.mono _ _ _
      | exact LeO.none _
      | refine LeO.ite ?_ ?_
      | refine LeO.bind ?_ (fun _ => ?_)
set_option maxHeartbeats 8000000 in
set_option maxRecDepth 100000 in
theorem spec_l7Fault.calls (k : Nat) (A0 : Option Addr) (c0 : Nat) (l0 : List (S98)) (r : Int) (w : World) (hr0 : Kd.C k98 w A0 l0.length l0) (hc0 : l0.length ≤ c0) (h : spec_l7Fault.f k l0 = some r) :
    Calls Tryd.prog 87 #[.slice A0 l0.length c0] w fun e w' => e = .returned (.int .i64 r) ∧ Drawn0 w w' := by
  have HR0 := ak hr0
  have HC0 := ak hc0
  clear hr0 hc0
  have H : (if (l0.length : Int) > 60 then (some 2) else (spec_l7Fault.l0 k l0 0)) = some r := h
  clear h
  by_cases c2 : (l0.length : Int) > 60
  ·rw [if_pos c2] at H
   have c2b0 : decide (60 < (l0.length : Int)) = true := decide_eq_true c2
   have c2b1 : decide (60 < l0.length) = true := decide_eq_true (by omega)
   clear c2
   obtain rfl := Option.some.inj H
   go_enter Tryd.func87, Tryd.ntmps87
   go_wp2
   repeat (go_quiet (fail); try go_wp2)
   go_ret
   exact ⟨by first | rfl | (simp; done) | (simp [*]; done) | (simp [ne_nil_b, eq_nil_b]; done), by repeat (first | exact Drawn0.refl _ | apply Drawn0.step)⟩
  ·rw [if_neg c2] at H
   have c2b0 : decide (60 < (l0.length : Int)) = false := decide_eq_false c2
   have c2b1 : decide (60 < l0.length) = false := decide_eq_false (by omega)
   clear c2
   have H' := ak H
   clear H
   go_enter Tryd.func87, Tryd.ntmps87
   go_wp2
   repeat (go_quiet (fail); try go_wp2)
   go_loopg [3] k (fun kq v3 w' => ∃ (x3_1 : Int), v3 = .int .i64 x3_1 ∧ Aside0 (spec_l7Fault.l0 kq l0 x3_1 = some r) ∧ Aside0 (kq ≤ k) ∧ Drawn0 w w')
   case atStart => exact ⟨(0), (by first | rfl | (simp; done) | (simp [*]; done) | (simp [ne_nil_b, eq_nil_b]; done)), H', ⟨Nat.le_refl _⟩, by repeat (first | exact Drawn0.refl _ | apply Drawn0.step)⟩
   case round =>
    clear H'
    try clear c2
    try clear c2b0
    try clear c2b1
    try clear p2
    obtain ⟨x3_1, rfl, HA, HK1, ⟨m1, rfl⟩⟩ := hrel
    cases gk with
    | zero => exact absurd HA.out (by simp [spec_l7Fault.l0])
    | succ k1 =>
     have H := HA.out
     clear HA
     simp only [spec_l7Fault.l0] at H
     by_cases c3 : x3_1 < (l0.length : Int)
     ·rw [if_pos c3] at H
      have c3b0 : decide (x3_1 < (l0.length : Int)) = true := decide_eq_true c3
      clear c3
      by_cases c4 : 0 ≤ x3_1
      ·rw [if_pos c4] at H
       have c4b0 : decide (0 ≤ x3_1) = true := decide_eq_true c4
       clear c4
       replace H := Option.bind_eq_some_iff.mp H
       obtain ⟨t280, A50, H⟩ := H
       replace H : (if t280 = true then ((spec_l5Fault.f k1 ((rd_T98 l0 x3_1).f1.f0) ((rd_T98 l0 x3_1).f1.f1) ((rd_T98 l0 x3_1).f1.f2)).bind fun t282 => (if t282 = 0 then ((spec_l7Version.f ((rd_T98 l0 x3_1).f2)).bind fun t284 => (if t284 = true then (if x3_1 ≤ (l0.length : Int) then ((spec_l7At.f k1 (l0.take (x3_1 : Int).toNat) ((rd_T98 l0 x3_1).f0)).bind fun t290 => (if t290 ≥ 0 then (some 1) else (spec_l7Fault.l0 k1 l0 (wrap64 (x3_1 + 1))))) else (none)) else (some 3))) else (some t282))) else (some 5)) = some r := H
       have A5 := ak A50
       clear A50
       by_cases c6 : t280 = true
       ·subst c6
        have H1 : ((spec_l5Fault.f k1 ((rd_T98 l0 x3_1).f1.f0) ((rd_T98 l0 x3_1).f1.f1) ((rd_T98 l0 x3_1).f1.f2)).bind fun t282 => (if t282 = 0 then ((spec_l7Version.f ((rd_T98 l0 x3_1).f2)).bind fun t284 => (if t284 = true then (if x3_1 ≤ (l0.length : Int) then ((spec_l7At.f k1 (l0.take (x3_1 : Int).toNat) ((rd_T98 l0 x3_1).f0)).bind fun t290 => (if t290 ≥ 0 then (some 1) else (spec_l7Fault.l0 k1 l0 (wrap64 (x3_1 + 1))))) else (none)) else (some 3))) else (some t282))) = some r := by rw [if_pos rfl] at H; exact H
        clear H
        have H := H1
        clear H1
        replace H := Option.bind_eq_some_iff.mp H
        obtain ⟨t282, A70, H⟩ := H
        replace H : (if t282 = 0 then ((spec_l7Version.f ((rd_T98 l0 x3_1).f2)).bind fun t284 => (if t284 = true then (if x3_1 ≤ (l0.length : Int) then ((spec_l7At.f k1 (l0.take (x3_1 : Int).toNat) ((rd_T98 l0 x3_1).f0)).bind fun t290 => (if t290 ≥ 0 then (some 1) else (spec_l7Fault.l0 k1 l0 (wrap64 (x3_1 + 1))))) else (none)) else (some 3))) else (some t282)) = some r := H
        have A7 := ak A70
        clear A70
        by_cases c8 : t282 = 0
        ·rw [if_pos c8] at H
         have c8b0 : (t282 == 0) = true := beq_iff_eq.mpr c8
         have c8b1 : (t282 != 0) = false := bne_eq_false_iff_eq.mpr c8
         clear c8
         replace H := Option.bind_eq_some_iff.mp H
         obtain ⟨t284, A90, H⟩ := H
         replace H : (if t284 = true then (if x3_1 ≤ (l0.length : Int) then ((spec_l7At.f k1 (l0.take (x3_1 : Int).toNat) ((rd_T98 l0 x3_1).f0)).bind fun t290 => (if t290 ≥ 0 then (some 1) else (spec_l7Fault.l0 k1 l0 (wrap64 (x3_1 + 1))))) else (none)) else (some 3)) = some r := H
         have A9 := ak A90
         clear A90
         by_cases c10 : t284 = true
         ·subst c10
          have H1 : (if x3_1 ≤ (l0.length : Int) then ((spec_l7At.f k1 (l0.take (x3_1 : Int).toNat) ((rd_T98 l0 x3_1).f0)).bind fun t290 => (if t290 ≥ 0 then (some 1) else (spec_l7Fault.l0 k1 l0 (wrap64 (x3_1 + 1))))) else (none)) = some r := by rw [if_pos rfl] at H; exact H
          clear H
          have H := H1
          clear H1
          have c11b0 := eq_true (of_decide_eq_true d4_3 : 0 ≤ x3_1)
          by_cases c12 : x3_1 ≤ (l0.length : Int)
          ·rw [if_pos c12] at H
           have c12b0 := eq_true c12
           have c12b1 : decide (x3_1 ≤ (l0.length : Int)) = true := decide_eq_true c12
           clear c12
           obtain ⟨y285, hy285⟩ : ∃ y_ : List (S98), y_ = (l0.take (x3_1 : Int).toNat) := ⟨_, rfl⟩
           replace H : ((spec_l7At.f k1 y285 ((rd_T98 l0 x3_1).f0)).bind fun t290 => (if t290 ≥ 0 then (some 1) else (spec_l7Fault.l0 k1 l0 (wrap64 (x3_1 + 1))))) = some r := by first | (rw [hy285]; with_reducible exact H) | (have H2_ := (Option.bind_some _ _).symm.trans H; rw [hy285]; with_reducible exact H2_) | (have H2_ := (Option.bind_some _ _).symm.trans H; with_reducible exact H2_) | with_reducible exact H | (rw [hy285]; exact H) | exact H
           have Ny285 := ak hy285
           clear hy285
           replace H := Option.bind_eq_some_iff.mp H
           obtain ⟨t290, A130, H⟩ := H
           replace H : (if t290 ≥ 0 then (some 1) else (spec_l7Fault.l0 k1 l0 (wrap64 (x3_1 + 1)))) = some r := H
           have A13 := ak A130
           clear A130
           by_cases c14 : t290 ≥ 0
           ·rw [if_pos c14] at H
            have c14b0 : decide (0 ≤ t290) = true := decide_eq_true c14
            clear c14
            obtain rfl := Option.some.inj H
            have p279 : 0 ≤ (x3_1 : Int) := of_decide_eq_true d4_3
            have q279 : x3_1 < (l0.length : Int) := of_decide_eq_true d4_3
            obtain ⟨ad279, e279, hx279_0, hx279_1, hx279_2, hx279_3, hx279_4⟩ := at_T98 HR0.out x3_1 p279 q279
            cases e279
            replace p279 := eq_true p279
            replace q279 := eq_true q279
            go_wp2_with (first | (go_at_call 89; (with_reducible refine (spec_l2Sym.calls k1 ((rd_T98 l0 x3_1).f0) true _ A5.out).mono ?_); rintro e w' ⟨rfl, ⟨nd, rfl⟩⟩; (try first | exact ⟨rfl, _, World.drewN_drewN _ _ _⟩ | exact ⟨rfl, _, Eq.trans (World.drewN_drewN _ _ _) (congrArg (World.drewN _) (Nat.add_assoc _ _ _))⟩)) | (go_at_call 58; (with_reducible refine (spec_l5Fault.calls k1 _ ((rd_T98 l0 x3_1).f1.f0) ((rd_T98 l0 x3_1).f1.f1) ((rd_T98 l0 x3_1).f1.f2) t282 _ ?side1 ?side2 ?side3 A7.out).mono ?_); (case side1 => first | exact hx279_1 | (refine Eq.trans ?_ hx279_1; simp only [go_sem])); (case side2 => first | exact hx279_2 | (refine Eq.trans ?_ hx279_2; simp only [go_sem])); (case side3 => first | exact hx279_3 | (refine Eq.trans ?_ hx279_3; simp only [go_sem])); rintro e w' ⟨rfl, ⟨nd, rfl⟩⟩; (try first | exact ⟨rfl, _, World.drewN_drewN _ _ _⟩ | exact ⟨rfl, _, Eq.trans (World.drewN_drewN _ _ _) (congrArg (World.drewN _) (Nat.add_assoc _ _ _))⟩)) | (go_at_call 113; (with_reducible refine (spec_l7Version.calls ((rd_T98 l0 x3_1).f2) true _ A9.out).mono ?_); rintro e w' ⟨rfl, ⟨nd, rfl⟩⟩; (try first | exact ⟨rfl, _, World.drewN_drewN _ _ _⟩ | exact ⟨rfl, _, Eq.trans (World.drewN_drewN _ _ _) (congrArg (World.drewN _) (Nat.add_assoc _ _ _))⟩); have q15 : (x3_1 : Int) ≤ ((l0.length : Int) : Int) := of_decide_eq_true d4_3; obtain ⟨i015, hi015, _, hsz15, _⟩ := info_parts info98; have hroom15 : l0.length ≤ c0 := HC0.out; have hC15 : Kd.C k98 _ (some ad279) l0.length l0 := HR0.out; have hcut15 := cut_to (P := Tryd.prog) 50 98 .i64 Tryd.underlying50 hi015 (some ad279) l0.length c0 x3_1 (of_decide_eq_true d4_3) q15 hroom15; have hr15 := Kd.C_take (m := (x3_1 : Int).toNat) hC15 (by omega); have hy15 : y285.length = (x3_1 : Int).toNat := (by rw [Ny285.out, List.length_take]; omega); rw [← Ny285.out] at hr15; rw [← hy15] at hcut15; have HR288 := ak hr15; have HC288 := ak (show y285.length ≤ c0 from by omega); clear hr15 hC15 hroom15 hi015 hsz15; have KY15 := ak hy15; clear hy15; replace q15 := eq_true q15) | (go_at_call 65; (with_reducible refine (spec_l7At.calls k1 _ _ y285 ((rd_T98 l0 x3_1).f0) t290 _ ?side1 ?side2 A13.out).mono ?_); (case side1 => repeat (first | exact HR288.out | (with_reducible refine Kd.C_alloc ?_ _) | (with_reducible refine Kd.C_drewN ?_ _) | (with_reducible refine Kd.C_drew ?_))); (case side2 => exact HC288.out); rintro e w' ⟨rfl, ⟨nd, rfl⟩⟩; (try first | exact ⟨rfl, _, World.drewN_drewN _ _ _⟩ | exact ⟨rfl, _, Eq.trans (World.drewN_drewN _ _ _) (congrArg (World.drewN _) (Nat.add_assoc _ _ _))⟩)))
            repeat (go_quiet (first | (go_at_call 89; (with_reducible refine (spec_l2Sym.calls k1 ((rd_T98 l0 x3_1).f0) true _ A5.out).mono ?_); rintro e w' ⟨rfl, ⟨nd, rfl⟩⟩; (try first | exact ⟨rfl, _, World.drewN_drewN _ _ _⟩ | exact ⟨rfl, _, Eq.trans (World.drewN_drewN _ _ _) (congrArg (World.drewN _) (Nat.add_assoc _ _ _))⟩)) | (go_at_call 58; (with_reducible refine (spec_l5Fault.calls k1 _ ((rd_T98 l0 x3_1).f1.f0) ((rd_T98 l0 x3_1).f1.f1) ((rd_T98 l0 x3_1).f1.f2) t282 _ ?side1 ?side2 ?side3 A7.out).mono ?_); (case side1 => first | exact hx279_1 | (refine Eq.trans ?_ hx279_1; simp only [go_sem])); (case side2 => first | exact hx279_2 | (refine Eq.trans ?_ hx279_2; simp only [go_sem])); (case side3 => first | exact hx279_3 | (refine Eq.trans ?_ hx279_3; simp only [go_sem])); rintro e w' ⟨rfl, ⟨nd, rfl⟩⟩; (try first | exact ⟨rfl, _, World.drewN_drewN _ _ _⟩ | exact ⟨rfl, _, Eq.trans (World.drewN_drewN _ _ _) (congrArg (World.drewN _) (Nat.add_assoc _ _ _))⟩)) | (go_at_call 113; (with_reducible refine (spec_l7Version.calls ((rd_T98 l0 x3_1).f2) true _ A9.out).mono ?_); rintro e w' ⟨rfl, ⟨nd, rfl⟩⟩; (try first | exact ⟨rfl, _, World.drewN_drewN _ _ _⟩ | exact ⟨rfl, _, Eq.trans (World.drewN_drewN _ _ _) (congrArg (World.drewN _) (Nat.add_assoc _ _ _))⟩); have q15 : (x3_1 : Int) ≤ ((l0.length : Int) : Int) := of_decide_eq_true d4_3; obtain ⟨i015, hi015, _, hsz15, _⟩ := info_parts info98; have hroom15 : l0.length ≤ c0 := HC0.out; have hC15 : Kd.C k98 _ (some ad279) l0.length l0 := HR0.out; have hcut15 := cut_to (P := Tryd.prog) 50 98 .i64 Tryd.underlying50 hi015 (some ad279) l0.length c0 x3_1 (of_decide_eq_true d4_3) q15 hroom15; have hr15 := Kd.C_take (m := (x3_1 : Int).toNat) hC15 (by omega); have hy15 : y285.length = (x3_1 : Int).toNat := (by rw [Ny285.out, List.length_take]; omega); rw [← Ny285.out] at hr15; rw [← hy15] at hcut15; have HR288 := ak hr15; have HC288 := ak (show y285.length ≤ c0 from by omega); clear hr15 hC15 hroom15 hi015 hsz15; have KY15 := ak hy15; clear hy15; replace q15 := eq_true q15) | (go_at_call 65; (with_reducible refine (spec_l7At.calls k1 _ _ y285 ((rd_T98 l0 x3_1).f0) t290 _ ?side1 ?side2 A13.out).mono ?_); (case side1 => repeat (first | exact HR288.out | (with_reducible refine Kd.C_alloc ?_ _) | (with_reducible refine Kd.C_drewN ?_ _) | (with_reducible refine Kd.C_drew ?_))); (case side2 => exact HC288.out); rintro e w' ⟨rfl, ⟨nd, rfl⟩⟩; (try first | exact ⟨rfl, _, World.drewN_drewN _ _ _⟩ | exact ⟨rfl, _, Eq.trans (World.drewN_drewN _ _ _) (congrArg (World.drewN _) (Nat.add_assoc _ _ _))⟩))); try go_wp2_with (first | (go_at_call 89; (with_reducible refine (spec_l2Sym.calls k1 ((rd_T98 l0 x3_1).f0) true _ A5.out).mono ?_); rintro e w' ⟨rfl, ⟨nd, rfl⟩⟩; (try first | exact ⟨rfl, _, World.drewN_drewN _ _ _⟩ | exact ⟨rfl, _, Eq.trans (World.drewN_drewN _ _ _) (congrArg (World.drewN _) (Nat.add_assoc _ _ _))⟩)) | (go_at_call 58; (with_reducible refine (spec_l5Fault.calls k1 _ ((rd_T98 l0 x3_1).f1.f0) ((rd_T98 l0 x3_1).f1.f1) ((rd_T98 l0 x3_1).f1.f2) t282 _ ?side1 ?side2 ?side3 A7.out).mono ?_); (case side1 => first | exact hx279_1 | (refine Eq.trans ?_ hx279_1; simp only [go_sem])); (case side2 => first | exact hx279_2 | (refine Eq.trans ?_ hx279_2; simp only [go_sem])); (case side3 => first | exact hx279_3 | (refine Eq.trans ?_ hx279_3; simp only [go_sem])); rintro e w' ⟨rfl, ⟨nd, rfl⟩⟩; (try first | exact ⟨rfl, _, World.drewN_drewN _ _ _⟩ | exact ⟨rfl, _, Eq.trans (World.drewN_drewN _ _ _) (congrArg (World.drewN _) (Nat.add_assoc _ _ _))⟩)) | (go_at_call 113; (with_reducible refine (spec_l7Version.calls ((rd_T98 l0 x3_1).f2) true _ A9.out).mono ?_); rintro e w' ⟨rfl, ⟨nd, rfl⟩⟩; (try first | exact ⟨rfl, _, World.drewN_drewN _ _ _⟩ | exact ⟨rfl, _, Eq.trans (World.drewN_drewN _ _ _) (congrArg (World.drewN _) (Nat.add_assoc _ _ _))⟩); have q15 : (x3_1 : Int) ≤ ((l0.length : Int) : Int) := of_decide_eq_true d4_3; obtain ⟨i015, hi015, _, hsz15, _⟩ := info_parts info98; have hroom15 : l0.length ≤ c0 := HC0.out; have hC15 : Kd.C k98 _ (some ad279) l0.length l0 := HR0.out; have hcut15 := cut_to (P := Tryd.prog) 50 98 .i64 Tryd.underlying50 hi015 (some ad279) l0.length c0 x3_1 (of_decide_eq_true d4_3) q15 hroom15; have hr15 := Kd.C_take (m := (x3_1 : Int).toNat) hC15 (by omega); have hy15 : y285.length = (x3_1 : Int).toNat := (by rw [Ny285.out, List.length_take]; omega); rw [← Ny285.out] at hr15; rw [← hy15] at hcut15; have HR288 := ak hr15; have HC288 := ak (show y285.length ≤ c0 from by omega); clear hr15 hC15 hroom15 hi015 hsz15; have KY15 := ak hy15; clear hy15; replace q15 := eq_true q15) | (go_at_call 65; (with_reducible refine (spec_l7At.calls k1 _ _ y285 ((rd_T98 l0 x3_1).f0) t290 _ ?side1 ?side2 A13.out).mono ?_); (case side1 => repeat (first | exact HR288.out | (with_reducible refine Kd.C_alloc ?_ _) | (with_reducible refine Kd.C_drewN ?_ _) | (with_reducible refine Kd.C_drew ?_))); (case side2 => exact HC288.out); rintro e w' ⟨rfl, ⟨nd, rfl⟩⟩; (try first | exact ⟨rfl, _, World.drewN_drewN _ _ _⟩ | exact ⟨rfl, _, Eq.trans (World.drewN_drewN _ _ _) (congrArg (World.drewN _) (Nat.add_assoc _ _ _))⟩))))
            go_ret
            exact ⟨by first | rfl | (simp; done) | (simp [*]; done) | (simp [ne_nil_b, eq_nil_b]; done), by repeat (first | exact Drawn0.refl _ | apply Drawn0.step)⟩
           ·rw [if_neg c14] at H
            have c14b0 : decide (0 ≤ t290) = false := decide_eq_false c14
            clear c14
            have H' := ak H
            clear H
            have p279 : 0 ≤ (x3_1 : Int) := of_decide_eq_true d4_3
            have q279 : x3_1 < (l0.length : Int) := of_decide_eq_true d4_3
            obtain ⟨ad279, e279, hx279_0, hx279_1, hx279_2, hx279_3, hx279_4⟩ := at_T98 HR0.out x3_1 p279 q279
            cases e279
            replace p279 := eq_true p279
            replace q279 := eq_true q279
            go_wp2_with (first | (go_at_call 89; (with_reducible refine (spec_l2Sym.calls k1 ((rd_T98 l0 x3_1).f0) true _ A5.out).mono ?_); rintro e w' ⟨rfl, ⟨nd, rfl⟩⟩; (try first | exact ⟨rfl, _, World.drewN_drewN _ _ _⟩ | exact ⟨rfl, _, Eq.trans (World.drewN_drewN _ _ _) (congrArg (World.drewN _) (Nat.add_assoc _ _ _))⟩)) | (go_at_call 58; (with_reducible refine (spec_l5Fault.calls k1 _ ((rd_T98 l0 x3_1).f1.f0) ((rd_T98 l0 x3_1).f1.f1) ((rd_T98 l0 x3_1).f1.f2) t282 _ ?side1 ?side2 ?side3 A7.out).mono ?_); (case side1 => first | exact hx279_1 | (refine Eq.trans ?_ hx279_1; simp only [go_sem])); (case side2 => first | exact hx279_2 | (refine Eq.trans ?_ hx279_2; simp only [go_sem])); (case side3 => first | exact hx279_3 | (refine Eq.trans ?_ hx279_3; simp only [go_sem])); rintro e w' ⟨rfl, ⟨nd, rfl⟩⟩; (try first | exact ⟨rfl, _, World.drewN_drewN _ _ _⟩ | exact ⟨rfl, _, Eq.trans (World.drewN_drewN _ _ _) (congrArg (World.drewN _) (Nat.add_assoc _ _ _))⟩)) | (go_at_call 113; (with_reducible refine (spec_l7Version.calls ((rd_T98 l0 x3_1).f2) true _ A9.out).mono ?_); rintro e w' ⟨rfl, ⟨nd, rfl⟩⟩; (try first | exact ⟨rfl, _, World.drewN_drewN _ _ _⟩ | exact ⟨rfl, _, Eq.trans (World.drewN_drewN _ _ _) (congrArg (World.drewN _) (Nat.add_assoc _ _ _))⟩); have q16 : (x3_1 : Int) ≤ ((l0.length : Int) : Int) := of_decide_eq_true d4_3; obtain ⟨i016, hi016, _, hsz16, _⟩ := info_parts info98; have hroom16 : l0.length ≤ c0 := HC0.out; have hC16 : Kd.C k98 _ (some ad279) l0.length l0 := HR0.out; have hcut16 := cut_to (P := Tryd.prog) 50 98 .i64 Tryd.underlying50 hi016 (some ad279) l0.length c0 x3_1 (of_decide_eq_true d4_3) q16 hroom16; have hr16 := Kd.C_take (m := (x3_1 : Int).toNat) hC16 (by omega); have hy16 : y285.length = (x3_1 : Int).toNat := (by rw [Ny285.out, List.length_take]; omega); rw [← Ny285.out] at hr16; rw [← hy16] at hcut16; have HR288 := ak hr16; have HC288 := ak (show y285.length ≤ c0 from by omega); clear hr16 hC16 hroom16 hi016 hsz16; have KY16 := ak hy16; clear hy16; replace q16 := eq_true q16) | (go_at_call 65; (with_reducible refine (spec_l7At.calls k1 _ _ y285 ((rd_T98 l0 x3_1).f0) t290 _ ?side1 ?side2 A13.out).mono ?_); (case side1 => repeat (first | exact HR288.out | (with_reducible refine Kd.C_alloc ?_ _) | (with_reducible refine Kd.C_drewN ?_ _) | (with_reducible refine Kd.C_drew ?_))); (case side2 => exact HC288.out); rintro e w' ⟨rfl, ⟨nd, rfl⟩⟩; (try first | exact ⟨rfl, _, World.drewN_drewN _ _ _⟩ | exact ⟨rfl, _, Eq.trans (World.drewN_drewN _ _ _) (congrArg (World.drewN _) (Nat.add_assoc _ _ _))⟩)))
            repeat (go_quiet (first | (go_at_call 89; (with_reducible refine (spec_l2Sym.calls k1 ((rd_T98 l0 x3_1).f0) true _ A5.out).mono ?_); rintro e w' ⟨rfl, ⟨nd, rfl⟩⟩; (try first | exact ⟨rfl, _, World.drewN_drewN _ _ _⟩ | exact ⟨rfl, _, Eq.trans (World.drewN_drewN _ _ _) (congrArg (World.drewN _) (Nat.add_assoc _ _ _))⟩)) | (go_at_call 58; (with_reducible refine (spec_l5Fault.calls k1 _ ((rd_T98 l0 x3_1).f1.f0) ((rd_T98 l0 x3_1).f1.f1) ((rd_T98 l0 x3_1).f1.f2) t282 _ ?side1 ?side2 ?side3 A7.out).mono ?_); (case side1 => first | exact hx279_1 | (refine Eq.trans ?_ hx279_1; simp only [go_sem])); (case side2 => first | exact hx279_2 | (refine Eq.trans ?_ hx279_2; simp only [go_sem])); (case side3 => first | exact hx279_3 | (refine Eq.trans ?_ hx279_3; simp only [go_sem])); rintro e w' ⟨rfl, ⟨nd, rfl⟩⟩; (try first | exact ⟨rfl, _, World.drewN_drewN _ _ _⟩ | exact ⟨rfl, _, Eq.trans (World.drewN_drewN _ _ _) (congrArg (World.drewN _) (Nat.add_assoc _ _ _))⟩)) | (go_at_call 113; (with_reducible refine (spec_l7Version.calls ((rd_T98 l0 x3_1).f2) true _ A9.out).mono ?_); rintro e w' ⟨rfl, ⟨nd, rfl⟩⟩; (try first | exact ⟨rfl, _, World.drewN_drewN _ _ _⟩ | exact ⟨rfl, _, Eq.trans (World.drewN_drewN _ _ _) (congrArg (World.drewN _) (Nat.add_assoc _ _ _))⟩); have q16 : (x3_1 : Int) ≤ ((l0.length : Int) : Int) := of_decide_eq_true d4_3; obtain ⟨i016, hi016, _, hsz16, _⟩ := info_parts info98; have hroom16 : l0.length ≤ c0 := HC0.out; have hC16 : Kd.C k98 _ (some ad279) l0.length l0 := HR0.out; have hcut16 := cut_to (P := Tryd.prog) 50 98 .i64 Tryd.underlying50 hi016 (some ad279) l0.length c0 x3_1 (of_decide_eq_true d4_3) q16 hroom16; have hr16 := Kd.C_take (m := (x3_1 : Int).toNat) hC16 (by omega); have hy16 : y285.length = (x3_1 : Int).toNat := (by rw [Ny285.out, List.length_take]; omega); rw [← Ny285.out] at hr16; rw [← hy16] at hcut16; have HR288 := ak hr16; have HC288 := ak (show y285.length ≤ c0 from by omega); clear hr16 hC16 hroom16 hi016 hsz16; have KY16 := ak hy16; clear hy16; replace q16 := eq_true q16) | (go_at_call 65; (with_reducible refine (spec_l7At.calls k1 _ _ y285 ((rd_T98 l0 x3_1).f0) t290 _ ?side1 ?side2 A13.out).mono ?_); (case side1 => repeat (first | exact HR288.out | (with_reducible refine Kd.C_alloc ?_ _) | (with_reducible refine Kd.C_drewN ?_ _) | (with_reducible refine Kd.C_drew ?_))); (case side2 => exact HC288.out); rintro e w' ⟨rfl, ⟨nd, rfl⟩⟩; (try first | exact ⟨rfl, _, World.drewN_drewN _ _ _⟩ | exact ⟨rfl, _, Eq.trans (World.drewN_drewN _ _ _) (congrArg (World.drewN _) (Nat.add_assoc _ _ _))⟩))); try go_wp2_with (first | (go_at_call 89; (with_reducible refine (spec_l2Sym.calls k1 ((rd_T98 l0 x3_1).f0) true _ A5.out).mono ?_); rintro e w' ⟨rfl, ⟨nd, rfl⟩⟩; (try first | exact ⟨rfl, _, World.drewN_drewN _ _ _⟩ | exact ⟨rfl, _, Eq.trans (World.drewN_drewN _ _ _) (congrArg (World.drewN _) (Nat.add_assoc _ _ _))⟩)) | (go_at_call 58; (with_reducible refine (spec_l5Fault.calls k1 _ ((rd_T98 l0 x3_1).f1.f0) ((rd_T98 l0 x3_1).f1.f1) ((rd_T98 l0 x3_1).f1.f2) t282 _ ?side1 ?side2 ?side3 A7.out).mono ?_); (case side1 => first | exact hx279_1 | (refine Eq.trans ?_ hx279_1; simp only [go_sem])); (case side2 => first | exact hx279_2 | (refine Eq.trans ?_ hx279_2; simp only [go_sem])); (case side3 => first | exact hx279_3 | (refine Eq.trans ?_ hx279_3; simp only [go_sem])); rintro e w' ⟨rfl, ⟨nd, rfl⟩⟩; (try first | exact ⟨rfl, _, World.drewN_drewN _ _ _⟩ | exact ⟨rfl, _, Eq.trans (World.drewN_drewN _ _ _) (congrArg (World.drewN _) (Nat.add_assoc _ _ _))⟩)) | (go_at_call 113; (with_reducible refine (spec_l7Version.calls ((rd_T98 l0 x3_1).f2) true _ A9.out).mono ?_); rintro e w' ⟨rfl, ⟨nd, rfl⟩⟩; (try first | exact ⟨rfl, _, World.drewN_drewN _ _ _⟩ | exact ⟨rfl, _, Eq.trans (World.drewN_drewN _ _ _) (congrArg (World.drewN _) (Nat.add_assoc _ _ _))⟩); have q16 : (x3_1 : Int) ≤ ((l0.length : Int) : Int) := of_decide_eq_true d4_3; obtain ⟨i016, hi016, _, hsz16, _⟩ := info_parts info98; have hroom16 : l0.length ≤ c0 := HC0.out; have hC16 : Kd.C k98 _ (some ad279) l0.length l0 := HR0.out; have hcut16 := cut_to (P := Tryd.prog) 50 98 .i64 Tryd.underlying50 hi016 (some ad279) l0.length c0 x3_1 (of_decide_eq_true d4_3) q16 hroom16; have hr16 := Kd.C_take (m := (x3_1 : Int).toNat) hC16 (by omega); have hy16 : y285.length = (x3_1 : Int).toNat := (by rw [Ny285.out, List.length_take]; omega); rw [← Ny285.out] at hr16; rw [← hy16] at hcut16; have HR288 := ak hr16; have HC288 := ak (show y285.length ≤ c0 from by omega); clear hr16 hC16 hroom16 hi016 hsz16; have KY16 := ak hy16; clear hy16; replace q16 := eq_true q16) | (go_at_call 65; (with_reducible refine (spec_l7At.calls k1 _ _ y285 ((rd_T98 l0 x3_1).f0) t290 _ ?side1 ?side2 A13.out).mono ?_); (case side1 => repeat (first | exact HR288.out | (with_reducible refine Kd.C_alloc ?_ _) | (with_reducible refine Kd.C_drewN ?_ _) | (with_reducible refine Kd.C_drew ?_))); (case side2 => exact HC288.out); rintro e w' ⟨rfl, ⟨nd, rfl⟩⟩; (try first | exact ⟨rfl, _, World.drewN_drewN _ _ _⟩ | exact ⟨rfl, _, Eq.trans (World.drewN_drewN _ _ _) (congrArg (World.drewN _) (Nat.add_assoc _ _ _))⟩))))
            go_roundg k1
            case measure => have := HK1.out; omega
            case rel => exact ⟨(wrap64 (x3_1 + 1)), (by first | rfl | (simp; done) | (simp [*]; done) | (simp [ne_nil_b, eq_nil_b]; done)), H', ⟨by have := HK1.out; omega⟩, by repeat (first | exact Drawn0.refl _ | apply Drawn0.step)⟩
          ·rw [if_neg c12] at H
           exact absurd H (by simp)
         ·replace c10 := Bool.eq_false_iff.mpr c10
          subst c10
          have H1 : (some 3) = some r := by rw [if_neg (show ¬ (false = true) by decide)] at H; exact H
          clear H
          have H := H1
          clear H1
          obtain rfl := Option.some.inj H
          have p279 : 0 ≤ (x3_1 : Int) := of_decide_eq_true d4_3
          have q279 : x3_1 < (l0.length : Int) := of_decide_eq_true d4_3
          obtain ⟨ad279, e279, hx279_0, hx279_1, hx279_2, hx279_3, hx279_4⟩ := at_T98 HR0.out x3_1 p279 q279
          cases e279
          replace p279 := eq_true p279
          replace q279 := eq_true q279
          go_wp2_with (first | (go_at_call 89; (with_reducible refine (spec_l2Sym.calls k1 ((rd_T98 l0 x3_1).f0) true _ A5.out).mono ?_); rintro e w' ⟨rfl, ⟨nd, rfl⟩⟩; (try first | exact ⟨rfl, _, World.drewN_drewN _ _ _⟩ | exact ⟨rfl, _, Eq.trans (World.drewN_drewN _ _ _) (congrArg (World.drewN _) (Nat.add_assoc _ _ _))⟩)) | (go_at_call 58; (with_reducible refine (spec_l5Fault.calls k1 _ ((rd_T98 l0 x3_1).f1.f0) ((rd_T98 l0 x3_1).f1.f1) ((rd_T98 l0 x3_1).f1.f2) t282 _ ?side1 ?side2 ?side3 A7.out).mono ?_); (case side1 => first | exact hx279_1 | (refine Eq.trans ?_ hx279_1; simp only [go_sem])); (case side2 => first | exact hx279_2 | (refine Eq.trans ?_ hx279_2; simp only [go_sem])); (case side3 => first | exact hx279_3 | (refine Eq.trans ?_ hx279_3; simp only [go_sem])); rintro e w' ⟨rfl, ⟨nd, rfl⟩⟩; (try first | exact ⟨rfl, _, World.drewN_drewN _ _ _⟩ | exact ⟨rfl, _, Eq.trans (World.drewN_drewN _ _ _) (congrArg (World.drewN _) (Nat.add_assoc _ _ _))⟩)) | (go_at_call 113; (with_reducible refine (spec_l7Version.calls ((rd_T98 l0 x3_1).f2) false _ A9.out).mono ?_); rintro e w' ⟨rfl, ⟨nd, rfl⟩⟩; (try first | exact ⟨rfl, _, World.drewN_drewN _ _ _⟩ | exact ⟨rfl, _, Eq.trans (World.drewN_drewN _ _ _) (congrArg (World.drewN _) (Nat.add_assoc _ _ _))⟩)))
          repeat (go_quiet (first | (go_at_call 89; (with_reducible refine (spec_l2Sym.calls k1 ((rd_T98 l0 x3_1).f0) true _ A5.out).mono ?_); rintro e w' ⟨rfl, ⟨nd, rfl⟩⟩; (try first | exact ⟨rfl, _, World.drewN_drewN _ _ _⟩ | exact ⟨rfl, _, Eq.trans (World.drewN_drewN _ _ _) (congrArg (World.drewN _) (Nat.add_assoc _ _ _))⟩)) | (go_at_call 58; (with_reducible refine (spec_l5Fault.calls k1 _ ((rd_T98 l0 x3_1).f1.f0) ((rd_T98 l0 x3_1).f1.f1) ((rd_T98 l0 x3_1).f1.f2) t282 _ ?side1 ?side2 ?side3 A7.out).mono ?_); (case side1 => first | exact hx279_1 | (refine Eq.trans ?_ hx279_1; simp only [go_sem])); (case side2 => first | exact hx279_2 | (refine Eq.trans ?_ hx279_2; simp only [go_sem])); (case side3 => first | exact hx279_3 | (refine Eq.trans ?_ hx279_3; simp only [go_sem])); rintro e w' ⟨rfl, ⟨nd, rfl⟩⟩; (try first | exact ⟨rfl, _, World.drewN_drewN _ _ _⟩ | exact ⟨rfl, _, Eq.trans (World.drewN_drewN _ _ _) (congrArg (World.drewN _) (Nat.add_assoc _ _ _))⟩)) | (go_at_call 113; (with_reducible refine (spec_l7Version.calls ((rd_T98 l0 x3_1).f2) false _ A9.out).mono ?_); rintro e w' ⟨rfl, ⟨nd, rfl⟩⟩; (try first | exact ⟨rfl, _, World.drewN_drewN _ _ _⟩ | exact ⟨rfl, _, Eq.trans (World.drewN_drewN _ _ _) (congrArg (World.drewN _) (Nat.add_assoc _ _ _))⟩))); try go_wp2_with (first | (go_at_call 89; (with_reducible refine (spec_l2Sym.calls k1 ((rd_T98 l0 x3_1).f0) true _ A5.out).mono ?_); rintro e w' ⟨rfl, ⟨nd, rfl⟩⟩; (try first | exact ⟨rfl, _, World.drewN_drewN _ _ _⟩ | exact ⟨rfl, _, Eq.trans (World.drewN_drewN _ _ _) (congrArg (World.drewN _) (Nat.add_assoc _ _ _))⟩)) | (go_at_call 58; (with_reducible refine (spec_l5Fault.calls k1 _ ((rd_T98 l0 x3_1).f1.f0) ((rd_T98 l0 x3_1).f1.f1) ((rd_T98 l0 x3_1).f1.f2) t282 _ ?side1 ?side2 ?side3 A7.out).mono ?_); (case side1 => first | exact hx279_1 | (refine Eq.trans ?_ hx279_1; simp only [go_sem])); (case side2 => first | exact hx279_2 | (refine Eq.trans ?_ hx279_2; simp only [go_sem])); (case side3 => first | exact hx279_3 | (refine Eq.trans ?_ hx279_3; simp only [go_sem])); rintro e w' ⟨rfl, ⟨nd, rfl⟩⟩; (try first | exact ⟨rfl, _, World.drewN_drewN _ _ _⟩ | exact ⟨rfl, _, Eq.trans (World.drewN_drewN _ _ _) (congrArg (World.drewN _) (Nat.add_assoc _ _ _))⟩)) | (go_at_call 113; (with_reducible refine (spec_l7Version.calls ((rd_T98 l0 x3_1).f2) false _ A9.out).mono ?_); rintro e w' ⟨rfl, ⟨nd, rfl⟩⟩; (try first | exact ⟨rfl, _, World.drewN_drewN _ _ _⟩ | exact ⟨rfl, _, Eq.trans (World.drewN_drewN _ _ _) (congrArg (World.drewN _) (Nat.add_assoc _ _ _))⟩))))
          go_ret
          exact ⟨by first | rfl | (simp; done) | (simp [*]; done) | (simp [ne_nil_b, eq_nil_b]; done), by repeat (first | exact Drawn0.refl _ | apply Drawn0.step)⟩
        ·rw [if_neg c8] at H
         have c8b0 : (t282 == 0) = false := beq_eq_false_iff_ne.mpr c8
         have c8b1 : (t282 != 0) = true := bne_iff_ne.mpr c8
         obtain rfl := Option.some.inj H
         have p279 : 0 ≤ (x3_1 : Int) := of_decide_eq_true d4_3
         have q279 : x3_1 < (l0.length : Int) := of_decide_eq_true d4_3
         obtain ⟨ad279, e279, hx279_0, hx279_1, hx279_2, hx279_3, hx279_4⟩ := at_T98 HR0.out x3_1 p279 q279
         cases e279
         replace p279 := eq_true p279
         replace q279 := eq_true q279
         go_wp2_with (first | (go_at_call 89; (with_reducible refine (spec_l2Sym.calls k1 ((rd_T98 l0 x3_1).f0) true _ A5.out).mono ?_); rintro e w' ⟨rfl, ⟨nd, rfl⟩⟩; (try first | exact ⟨rfl, _, World.drewN_drewN _ _ _⟩ | exact ⟨rfl, _, Eq.trans (World.drewN_drewN _ _ _) (congrArg (World.drewN _) (Nat.add_assoc _ _ _))⟩)) | (go_at_call 58; (with_reducible refine (spec_l5Fault.calls k1 _ ((rd_T98 l0 x3_1).f1.f0) ((rd_T98 l0 x3_1).f1.f1) ((rd_T98 l0 x3_1).f1.f2) t282 _ ?side1 ?side2 ?side3 A7.out).mono ?_); (case side1 => first | exact hx279_1 | (refine Eq.trans ?_ hx279_1; simp only [go_sem])); (case side2 => first | exact hx279_2 | (refine Eq.trans ?_ hx279_2; simp only [go_sem])); (case side3 => first | exact hx279_3 | (refine Eq.trans ?_ hx279_3; simp only [go_sem])); rintro e w' ⟨rfl, ⟨nd, rfl⟩⟩; (try first | exact ⟨rfl, _, World.drewN_drewN _ _ _⟩ | exact ⟨rfl, _, Eq.trans (World.drewN_drewN _ _ _) (congrArg (World.drewN _) (Nat.add_assoc _ _ _))⟩)))
         repeat (go_quiet (first | (go_at_call 89; (with_reducible refine (spec_l2Sym.calls k1 ((rd_T98 l0 x3_1).f0) true _ A5.out).mono ?_); rintro e w' ⟨rfl, ⟨nd, rfl⟩⟩; (try first | exact ⟨rfl, _, World.drewN_drewN _ _ _⟩ | exact ⟨rfl, _, Eq.trans (World.drewN_drewN _ _ _) (congrArg (World.drewN _) (Nat.add_assoc _ _ _))⟩)) | (go_at_call 58; (with_reducible refine (spec_l5Fault.calls k1 _ ((rd_T98 l0 x3_1).f1.f0) ((rd_T98 l0 x3_1).f1.f1) ((rd_T98 l0 x3_1).f1.f2) t282 _ ?side1 ?side2 ?side3 A7.out).mono ?_); (case side1 => first | exact hx279_1 | (refine Eq.trans ?_ hx279_1; simp only [go_sem])); (case side2 => first | exact hx279_2 | (refine Eq.trans ?_ hx279_2; simp only [go_sem])); (case side3 => first | exact hx279_3 | (refine Eq.trans ?_ hx279_3; simp only [go_sem])); rintro e w' ⟨rfl, ⟨nd, rfl⟩⟩; (try first | exact ⟨rfl, _, World.drewN_drewN _ _ _⟩ | exact ⟨rfl, _, Eq.trans (World.drewN_drewN _ _ _) (congrArg (World.drewN _) (Nat.add_assoc _ _ _))⟩))); try go_wp2_with (first | (go_at_call 89; (with_reducible refine (spec_l2Sym.calls k1 ((rd_T98 l0 x3_1).f0) true _ A5.out).mono ?_); rintro e w' ⟨rfl, ⟨nd, rfl⟩⟩; (try first | exact ⟨rfl, _, World.drewN_drewN _ _ _⟩ | exact ⟨rfl, _, Eq.trans (World.drewN_drewN _ _ _) (congrArg (World.drewN _) (Nat.add_assoc _ _ _))⟩)) | (go_at_call 58; (with_reducible refine (spec_l5Fault.calls k1 _ ((rd_T98 l0 x3_1).f1.f0) ((rd_T98 l0 x3_1).f1.f1) ((rd_T98 l0 x3_1).f1.f2) t282 _ ?side1 ?side2 ?side3 A7.out).mono ?_); (case side1 => first | exact hx279_1 | (refine Eq.trans ?_ hx279_1; simp only [go_sem])); (case side2 => first | exact hx279_2 | (refine Eq.trans ?_ hx279_2; simp only [go_sem])); (case side3 => first | exact hx279_3 | (refine Eq.trans ?_ hx279_3; simp only [go_sem])); rintro e w' ⟨rfl, ⟨nd, rfl⟩⟩; (try first | exact ⟨rfl, _, World.drewN_drewN _ _ _⟩ | exact ⟨rfl, _, Eq.trans (World.drewN_drewN _ _ _) (congrArg (World.drewN _) (Nat.add_assoc _ _ _))⟩))))
         go_ret
         exact ⟨by first | rfl | (simp; done) | (simp [*]; done) | (simp [ne_nil_b, eq_nil_b]; done), by repeat (first | exact Drawn0.refl _ | apply Drawn0.step)⟩
       ·replace c6 := Bool.eq_false_iff.mpr c6
        subst c6
        have H1 : (some 5) = some r := by rw [if_neg (show ¬ (false = true) by decide)] at H; exact H
        clear H
        have H := H1
        clear H1
        obtain rfl := Option.some.inj H
        have p279 : 0 ≤ (x3_1 : Int) := of_decide_eq_true d4_3
        have q279 : x3_1 < (l0.length : Int) := of_decide_eq_true d4_3
        obtain ⟨ad279, e279, hx279_0, hx279_1, hx279_2, hx279_3, hx279_4⟩ := at_T98 HR0.out x3_1 p279 q279
        cases e279
        replace p279 := eq_true p279
        replace q279 := eq_true q279
        go_wp2_with (first | (go_at_call 89; (with_reducible refine (spec_l2Sym.calls k1 ((rd_T98 l0 x3_1).f0) false _ A5.out).mono ?_); rintro e w' ⟨rfl, ⟨nd, rfl⟩⟩; (try first | exact ⟨rfl, _, World.drewN_drewN _ _ _⟩ | exact ⟨rfl, _, Eq.trans (World.drewN_drewN _ _ _) (congrArg (World.drewN _) (Nat.add_assoc _ _ _))⟩)))
        repeat (go_quiet (first | (go_at_call 89; (with_reducible refine (spec_l2Sym.calls k1 ((rd_T98 l0 x3_1).f0) false _ A5.out).mono ?_); rintro e w' ⟨rfl, ⟨nd, rfl⟩⟩; (try first | exact ⟨rfl, _, World.drewN_drewN _ _ _⟩ | exact ⟨rfl, _, Eq.trans (World.drewN_drewN _ _ _) (congrArg (World.drewN _) (Nat.add_assoc _ _ _))⟩))); try go_wp2_with (first | (go_at_call 89; (with_reducible refine (spec_l2Sym.calls k1 ((rd_T98 l0 x3_1).f0) false _ A5.out).mono ?_); rintro e w' ⟨rfl, ⟨nd, rfl⟩⟩; (try first | exact ⟨rfl, _, World.drewN_drewN _ _ _⟩ | exact ⟨rfl, _, Eq.trans (World.drewN_drewN _ _ _) (congrArg (World.drewN _) (Nat.add_assoc _ _ _))⟩))))
        go_ret
        exact ⟨by first | rfl | (simp; done) | (simp [*]; done) | (simp [ne_nil_b, eq_nil_b]; done), by repeat (first | exact Drawn0.refl _ | apply Drawn0.step)⟩
      ·rw [if_neg c4] at H
       exact absurd H (by simp)
     ·rw [if_neg c3] at H
      have c3b0 : decide (x3_1 < (l0.length : Int)) = false := decide_eq_false c3
      clear c3
      obtain rfl := Option.some.inj H
      go_wp2
      repeat (go_quiet (fail); try go_wp2)
      go_ret
      exact ⟨by first | rfl | (simp; done) | (simp [*]; done) | (simp [ne_nil_b, eq_nil_b]; done), by repeat (first | exact Drawn0.refl _ | apply Drawn0.step)⟩

/-! ### spec_l7Asked: function 57 -/
def spec_l7Asked.f (k : Nat) (l0 : List (S98)) (a1 : ByteArray) : Option (Int) := (spec_l7Fault.f k l0).bind fun t291 => (if t291 = 0 then ((spec_SymFault.f k a1).bind fun t292 => (some t292)) else (some t291))
theorem spec_l7Asked.mono : ∀ a0 a1 k, LeO (spec_l7Asked.f k a0 a1) (spec_l7Asked.f (k + 1) a0 a1) := by
  intro a0 a1 k
  unfold spec_l7Asked.f
  repeat' first
      | (with_reducible exact spec_SymFault.mono _ _)
      | (with_reducible exact spec_l7Fault.mono _ _)
      | (with_reducible exact LeO.refl _)
      | (with_reducible exact LeO.none _)
      | (with_reducible refine LeO.ite ?_ ?_)
      | (with_reducible refine LeO.bind ?_ (fun _ => ?_))
      | exact spec_SymFault.mono _ _
      | exact spec_l7Fault.mono _ _
      | exact LeO.none _
      | refine LeO.ite ?_ ?_
      | refine LeO.bind ?_ (fun _ => ?_)
set_option maxHeartbeats 8000000 in
set_option maxRecDepth 100000 in
theorem spec_l7Asked.calls (k : Nat) (A0 : Option Addr) (c0 : Nat) (l0 : List (S98)) (a1 : ByteArray) (r : Int) (w : World) (hr0 : Kd.C k98 w A0 l0.length l0) (hc0 : l0.length ≤ c0) (h : spec_l7Asked.f k l0 a1 = some r) :
    Calls Tryd.prog 57 #[.slice A0 l0.length c0, .string a1] w fun e w' => e = .returned (.int .i64 r) ∧ Drawn0 w w' := by
  have HR0 := ak hr0
  have HC0 := ak hc0
  clear hr0 hc0
  have H : ((spec_l7Fault.f k l0).bind fun t291 => (if t291 = 0 then ((spec_SymFault.f k a1).bind fun t292 => (some t292)) else (some t291))) = some r := h
  clear h
  replace H := Option.bind_eq_some_iff.mp H
  obtain ⟨t291, A30, H⟩ := H
  replace H : (if t291 = 0 then ((spec_SymFault.f k a1).bind fun t292 => (some t292)) else (some t291)) = some r := H
  have A3 := ak A30
  clear A30
  by_cases c4 : t291 = 0
  ·rw [if_pos c4] at H
   have c4b0 : (t291 == 0) = true := beq_iff_eq.mpr c4
   have c4b1 : (t291 != 0) = false := bne_eq_false_iff_eq.mpr c4
   clear c4
   replace H := Option.bind_eq_some_iff.mp H
   obtain ⟨t292, A50, H⟩ := H
   replace H : (some t292) = some r := H
   have A5 := ak A50
   clear A50
   obtain rfl := Option.some.inj H
   go_enter Tryd.func57, Tryd.ntmps57
   go_wp2_with (first | ((with_reducible refine gate_callee (f := 87) rfl ?_); refine goesL_ (some 7) rfl rfl Tryd.func87 (by kernel_rfl) rfl #[.slice A0 l0.length c0] rfl d4_5 ?_; (with_reducible refine (spec_l7Fault.calls k _ _ l0 t291 _ ?side1 ?side2 A3.out).mono ?_); (case side1 => repeat (first | exact HR0.out | (with_reducible refine Kd.C_alloc ?_ _) | (with_reducible refine Kd.C_drewN ?_ _) | (with_reducible refine Kd.C_drew ?_))); (case side2 => exact HC0.out); rintro e w' ⟨rfl, ⟨nd, rfl⟩⟩; refine ⟨_, rfl, ?_⟩) | ((with_reducible refine gate_callee (f := 83) rfl ?_); refine goesL_ (some 12) rfl rfl Tryd.func83 (by kernel_rfl) rfl #[.string a1] rfl d4_5 ?_; (with_reducible refine (spec_SymFault.calls k a1 t292 _ A5.out).mono ?_); rintro e w' ⟨rfl, ⟨nd, rfl⟩⟩; refine ⟨_, rfl, ?_⟩))
   go_ret
   exact ⟨by first | rfl | (simp; done) | (simp [*]; done) | (simp [ne_nil_b, eq_nil_b]; done), by repeat (first | exact Drawn0.refl _ | apply Drawn0.step)⟩
  ·rw [if_neg c4] at H
   have c4b0 : (t291 == 0) = false := beq_eq_false_iff_ne.mpr c4
   have c4b1 : (t291 != 0) = true := bne_iff_ne.mpr c4
   obtain rfl := Option.some.inj H
   go_enter Tryd.func57, Tryd.ntmps57
   go_wp2_with (first | ((with_reducible refine gate_callee (f := 87) rfl ?_); refine goesL_ (some 7) rfl rfl Tryd.func87 (by kernel_rfl) rfl #[.slice A0 l0.length c0] rfl d4_5 ?_; (with_reducible refine (spec_l7Fault.calls k _ _ l0 t291 _ ?side1 ?side2 A3.out).mono ?_); (case side1 => repeat (first | exact HR0.out | (with_reducible refine Kd.C_alloc ?_ _) | (with_reducible refine Kd.C_drewN ?_ _) | (with_reducible refine Kd.C_drew ?_))); (case side2 => exact HC0.out); rintro e w' ⟨rfl, ⟨nd, rfl⟩⟩; refine ⟨_, rfl, ?_⟩))
   go_ret
   exact ⟨by first | rfl | (simp; done) | (simp [*]; done) | (simp [ne_nil_b, eq_nil_b]; done), by repeat (first | exact Drawn0.refl _ | apply Drawn0.step)⟩

/-! ### spec_l7Put: function 59 -/
def spec_l7Put.f (k : Nat) (l0 : List (S98)) (a1 : ByteArray) (a2_0 : Int) (a2_1 : Int) (a2_2 : ByteArray) : Option ((List (S98)) × Int) := (some (([] : List (S98)) : List (S98))).bind fun y294 => (if y294.length + l0.length < 2513169434916 then ((some (y294 ++ l0 : List (S98))).bind fun y297 => ((spec_l7At.f k l0 a1).bind fun t300 => (if t300 ≥ 0 then (if 0 ≤ t300 then (if t300 < (y297.length : Int) then (if ((rd_T98 y297 t300).f2) ≥ 99999 then (some (([] : List (S98)), 3)) else ((some (y297.set (t300 : Int).toNat (⟨(rd_T98 y297 t300).f0, (⟨a2_0, a2_1, a2_2⟩ : S55), (rd_T98 y297 t300).f2⟩ : S98) : List (S98))).bind fun y302 => (some ((y302.set (t300 : Int).toNat (⟨(rd_T98 y302 t300).f0, (⟨(rd_T98 y302 t300).f1.f0, (rd_T98 y302 t300).f1.f1, (rd_T98 y302 t300).f1.f2⟩ : S55), wrap64 (((rd_T98 y302 t300).f2) + 1)⟩ : S98)), 0)))) else (none)) else (none)) else (if (y297.length : Int) ≥ 60 then (some (([] : List (S98)), 2)) else (if y297.length < 2513169434916 then (some ((y297 ++ [(⟨a1, (⟨a2_0, a2_1, a2_2⟩ : S55), 1⟩ : S98)]), 0)) else (none)))))) else (none))
theorem spec_l7Put.mono : ∀ a0 a1 a2 a3 a4 k, LeO (spec_l7Put.f k a0 a1 a2 a3 a4) (spec_l7Put.f (k + 1) a0 a1 a2 a3 a4) := by
  intro a0 a1 a2 a3 a4 k
  unfold spec_l7Put.f
  repeat' first
      | (with_reducible exact spec_l7At.mono _ _ _)
      | (with_reducible exact LeO.refl _)
      | (with_reducible exact LeO.none _)
      | (with_reducible refine LeO.ite ?_ ?_)
      | (with_reducible refine LeO.bind ?_ (fun _ => ?_))
      | exact spec_l7At.mono _ _ _
      | exact LeO.none _
      | refine LeO.ite ?_ ?_
      | refine LeO.bind ?_ (fun _ => ?_)
set_option maxHeartbeats 8000000 in
set_option maxRecDepth 100000 in
theorem spec_l7Put.calls (k : Nat) (A0 : Option Addr) (c0 : Nat) (l0 : List (S98)) (a1 : ByteArray) (a2_0 : Int) (a2_1 : Int) (a2_2 : ByteArray) (r1 : List (S98)) (r2 : Int) (w : World) (hr0 : Kd.C k98 w A0 l0.length l0) (hc0 : l0.length ≤ c0) (h : spec_l7Put.f k l0 a1 a2_0 a2_1 a2_2 = some (r1, r2)) :
    Calls Tryd.prog 59 #[.slice A0 l0.length c0, .string a1, .agg #[.int .i64 a2_0, .int .i64 a2_1, .string a2_2]] w fun e w' => ∃ v0_ : Value, e = .returned (.tuple #[v0_, .int .i64 r2]) ∧ Kd.R k98 98 w' w.heap.size (fun _ => True) v0_ r1 ∧ Below w.heap.size w w' := by
  have hu55 := Tryd.underlying55
  have hu98 := Tryd.underlying98
  have HR0 := ak hr0
  have HC0 := ak hc0
  clear hr0 hc0
  have HB := ak (Below.refl w.heap.size w)
  have H : ((some (([] : List (S98)) : List (S98))).bind fun y294 => (if y294.length + l0.length < 2513169434916 then ((some (y294 ++ l0 : List (S98))).bind fun y297 => ((spec_l7At.f k l0 a1).bind fun t300 => (if t300 ≥ 0 then (if 0 ≤ t300 then (if t300 < (y297.length : Int) then (if ((rd_T98 y297 t300).f2) ≥ 99999 then (some (([] : List (S98)), 3)) else ((some (y297.set (t300 : Int).toNat (⟨(rd_T98 y297 t300).f0, (⟨a2_0, a2_1, a2_2⟩ : S55), (rd_T98 y297 t300).f2⟩ : S98) : List (S98))).bind fun y302 => (some ((y302.set (t300 : Int).toNat (⟨(rd_T98 y302 t300).f0, (⟨(rd_T98 y302 t300).f1.f0, (rd_T98 y302 t300).f1.f1, (rd_T98 y302 t300).f1.f2⟩ : S55), wrap64 (((rd_T98 y302 t300).f2) + 1)⟩ : S98)), 0)))) else (none)) else (none)) else (if (y297.length : Int) ≥ 60 then (some (([] : List (S98)), 2)) else (if y297.length < 2513169434916 then (some ((y297 ++ [(⟨a1, (⟨a2_0, a2_1, a2_2⟩ : S55), 1⟩ : S98)]), 0)) else (none)))))) else (none))) = some (r1, r2) := h
  clear h
  obtain ⟨y294, hy294⟩ : ∃ y_ : List (S98), y_ = (([] : List (S98))) := ⟨_, rfl⟩
  replace H : (if y294.length + l0.length < 2513169434916 then ((some (y294 ++ l0 : List (S98))).bind fun y297 => ((spec_l7At.f k l0 a1).bind fun t300 => (if t300 ≥ 0 then (if 0 ≤ t300 then (if t300 < (y297.length : Int) then (if ((rd_T98 y297 t300).f2) ≥ 99999 then (some (([] : List (S98)), 3)) else ((some (y297.set (t300 : Int).toNat (⟨(rd_T98 y297 t300).f0, (⟨a2_0, a2_1, a2_2⟩ : S55), (rd_T98 y297 t300).f2⟩ : S98) : List (S98))).bind fun y302 => (some ((y302.set (t300 : Int).toNat (⟨(rd_T98 y302 t300).f0, (⟨(rd_T98 y302 t300).f1.f0, (rd_T98 y302 t300).f1.f1, (rd_T98 y302 t300).f1.f2⟩ : S55), wrap64 (((rd_T98 y302 t300).f2) + 1)⟩ : S98)), 0)))) else (none)) else (none)) else (if (y297.length : Int) ≥ 60 then (some (([] : List (S98)), 2)) else (if y297.length < 2513169434916 then (some ((y297 ++ [(⟨a1, (⟨a2_0, a2_1, a2_2⟩ : S55), 1⟩ : S98)]), 0)) else (none)))))) else (none)) = some (r1, r2) := by first | (rw [hy294]; with_reducible exact H) | (have H2_ := (Option.bind_some _ _).symm.trans H; rw [hy294]; with_reducible exact H2_) | (have H2_ := (Option.bind_some _ _).symm.trans H; with_reducible exact H2_) | with_reducible exact H | (rw [hy294]; exact H) | exact H
  have Ny294 := ak hy294
  clear hy294
  by_cases c4 : y294.length + l0.length < 2513169434916
  ·rw [if_pos c4] at H
   have LMc4 := ak c4
   clear c4
   obtain ⟨y297, hy297⟩ : ∃ y_ : List (S98), y_ = (y294 ++ l0) := ⟨_, rfl⟩
   replace H : ((spec_l7At.f k l0 a1).bind fun t300 => (if t300 ≥ 0 then (if 0 ≤ t300 then (if t300 < (y297.length : Int) then (if ((rd_T98 y297 t300).f2) ≥ 99999 then (some (([] : List (S98)), 3)) else ((some (y297.set (t300 : Int).toNat (⟨(rd_T98 y297 t300).f0, (⟨a2_0, a2_1, a2_2⟩ : S55), (rd_T98 y297 t300).f2⟩ : S98) : List (S98))).bind fun y302 => (some ((y302.set (t300 : Int).toNat (⟨(rd_T98 y302 t300).f0, (⟨(rd_T98 y302 t300).f1.f0, (rd_T98 y302 t300).f1.f1, (rd_T98 y302 t300).f1.f2⟩ : S55), wrap64 (((rd_T98 y302 t300).f2) + 1)⟩ : S98)), 0)))) else (none)) else (none)) else (if (y297.length : Int) ≥ 60 then (some (([] : List (S98)), 2)) else (if y297.length < 2513169434916 then (some ((y297 ++ [(⟨a1, (⟨a2_0, a2_1, a2_2⟩ : S55), 1⟩ : S98)]), 0)) else (none))))) = some (r1, r2) := by first | (rw [hy297]; with_reducible exact H) | (have H2_ := (Option.bind_some _ _).symm.trans H; rw [hy297]; with_reducible exact H2_) | (have H2_ := (Option.bind_some _ _).symm.trans H; with_reducible exact H2_) | with_reducible exact H | (rw [hy297]; exact H) | exact H
   have Ny297 := ak hy297
   clear hy297
   replace H := Option.bind_eq_some_iff.mp H
   obtain ⟨t300, A50, H⟩ := H
   replace H : (if t300 ≥ 0 then (if 0 ≤ t300 then (if t300 < (y297.length : Int) then (if ((rd_T98 y297 t300).f2) ≥ 99999 then (some (([] : List (S98)), 3)) else ((some (y297.set (t300 : Int).toNat (⟨(rd_T98 y297 t300).f0, (⟨a2_0, a2_1, a2_2⟩ : S55), (rd_T98 y297 t300).f2⟩ : S98) : List (S98))).bind fun y302 => (some ((y302.set (t300 : Int).toNat (⟨(rd_T98 y302 t300).f0, (⟨(rd_T98 y302 t300).f1.f0, (rd_T98 y302 t300).f1.f1, (rd_T98 y302 t300).f1.f2⟩ : S55), wrap64 (((rd_T98 y302 t300).f2) + 1)⟩ : S98)), 0)))) else (none)) else (none)) else (if (y297.length : Int) ≥ 60 then (some (([] : List (S98)), 2)) else (if y297.length < 2513169434916 then (some ((y297 ++ [(⟨a1, (⟨a2_0, a2_1, a2_2⟩ : S55), 1⟩ : S98)]), 0)) else (none)))) = some (r1, r2) := H
   have A5 := ak A50
   clear A50
   by_cases c6 : t300 ≥ 0
   ·rw [if_pos c6] at H
    have c6b0 : decide (0 ≤ t300) = true := decide_eq_true c6
    clear c6
    by_cases c7 : 0 ≤ t300
    ·rw [if_pos c7] at H
     have c7b0 : decide (0 ≤ t300) = true := decide_eq_true c7
     clear c7
     by_cases c8 : t300 < (y297.length : Int)
     ·rw [if_pos c8] at H
      have c8b0 : decide (t300 < (y297.length : Int)) = true := decide_eq_true c8
      clear c8
      by_cases c9 : ((rd_T98 y297 t300).f2) ≥ 99999
      ·rw [if_pos c9] at H
       have c9b0 : decide (99999 ≤ ((rd_T98 y297 t300).f2)) = true := decide_eq_true c9
       clear c9
       simp only [Option.some.injEq, Prod.mk.injEq] at H
       obtain ⟨rfl, rfl⟩ := H
       go_enter Tryd.func59, Tryd.ntmps59
       go_wp2_with (first | ((with_reducible refine gate_dst (N := 5) rfl ?_); refine box_event ?hg (N := 5) ?hd (cs := #[.int .i64 a2_0, .int .i64 a2_1, .string a2_2]) (t := 55) ?hr ?_; (case hd => rfl); (case hg => rfl); (case hr => first | (go_simp; done) | (go_simp; rfl)); intro gb293 hg w10 hbox hb; have n0_ := ak (below_step d4_2 hb); have n1_ := ak (hbox); have n2_ := ak ((d4_14 : w.heap.size ≤ gb293)); have n3_ := ak ((d4_14 : w.heap.size ≤ gb293)); clear HB; have HB := n0_; have BK293 := n1_; have GW293 := n2_; have GE293 := n3_; clear n0_ n1_ n2_ n3_ hb hbox hg) | ((with_reducible refine gate_dst (N := 10) rfl ?_); refine Kd.R_lit k98 _ 98 ?hg (N := 10) ?hd (xs := ([] : List (S98))) (inner := []) (ok := fun _ => True) (okp := fun _ => True) ?hr ?hp (fun _ hk => hk) trivial (Below.refl _ _) (Nat.le_refl _) (by simp) ?_; (case hd => rfl); (case hg => rfl); (case hr => first | (go_simp; done) | (go_simp; rfl)); (case hp => exact (Reps.none _ _)); intro v295 w11 ho12 hb hg_ hnew_; clear hg_ hnew_; (first | rw [← Ny294.out] at ho12 | (simp only [Int.reduceToNat] at ho12; rw [← Ny294.out] at ho12)); have n0_ := ak (Kd.R_lower ho12 (below_size d4_1)); have n1_ := ak (blk_below (g := gb293) (o := .cells #[.int .i64 a2_0, .int .i64 a2_1, .string a2_2] 55 (0, 0)) d4_4 hb); have n2_ := ak (below_step d4_1 hb); clear BK293 HB; have HO296 := n0_; have BK293 := n1_; have HB := n2_; clear n0_ n1_ n2_ hb ho12) | ((with_reducible refine gate_builtin (b := .append) (xs := #[.tmp 10, .tmp 11]) rfl ?_); at_builtin; refine Kd.R_append_rows k98 (w0 := w) w.heap.size rfl (.tmp 10) (.tmp 11) 50 98 (.agg #[(.string ⟨#[]⟩), (.int .i64 0), (.int .i64 0), (.string ⟨#[]⟩), (.int .i64 0)]) 56 rfl Tryd.underlying50 info98 rfl (by decide) (by omega) v295 y294 l0 _ _ _ (fun _ => True) (fun _ => False) rfl rfl ?aO ?aR (fun _ _ h => h) (fun _ h => h.elim) ?aF ?aB ?aS ?aL ?_; (case aR => repeat (first | exact (Kd.C_below HR0.out HB.out) | (with_reducible refine Kd.C_alloc ?_ _) | (with_reducible refine Kd.C_drewN ?_ _) | (with_reducible refine Kd.C_drew ?_))); (case aB => exact d4_1); (case aF => exact (fun _ _ => trivial)); (case aO => exact d4_12); (case aS => exact (below_size d4_1)); (case aL => have := LMc4.out; omega); intro v298 w13 ho hb hg hat; rw [← Ny297.out] at ho; have n0_ := ak (blk_grown (g := gb293) (o := .cells #[.int .i64 a2_0, .int .i64 a2_1, .string a2_2] 55 (0, 0)) d4_4 hg (Kd.R_ne HO296.out BK293.out (by decide))); have n1_ := ak (hb); have n2_ := ak (ho); clear BK293 HB HO296; have BK293 := n0_; have HB := n1_; have HO299 := n2_; clear n0_ n1_ n2_ ho hb hg hat) | ((with_reducible refine gate_callee (f := 65) rfl ?_); refine goesL_ (some 15) rfl rfl Tryd.func65 (by kernel_rfl) rfl #[.slice A0 l0.length c0, .string a1] rfl d4_5 ?_; (with_reducible refine (spec_l7At.calls k _ _ l0 a1 t300 _ ?side1 ?side2 A5.out).mono ?_); (case side1 => repeat (first | exact (Kd.C_below HR0.out HB.out) | (with_reducible refine Kd.C_alloc ?_ _) | (with_reducible refine Kd.C_drewN ?_ _) | (with_reducible refine Kd.C_drew ?_))); (case side2 => exact HC0.out); rintro e w' ⟨rfl, ⟨nd, rfl⟩⟩; refine ⟨_, rfl, ?_⟩; obtain ⟨Ao14, co14, eo14⟩ := Kd.R_slice HO299.out; subst eo14; have p301 : 0 ≤ (t300 : Int) := of_decide_eq_true d4_3; have q301 : t300 < (y297.length : Int) := of_decide_eq_true d4_3; obtain ⟨ad301, e301, hx301_0, hx301_1, hx301_2, hx301_3, hx301_4⟩ := at_T98 (Kd.R_reads' HO299.out).2.2 t300 p301 q301; cases e301; replace p301 := eq_true p301; replace q301 := eq_true q301))
       go_ret2
       exact ⟨_, by first | rfl | (simp [errW_none, errW_some] <;> rfl) | (simp [*, errW_none, errW_some] <;> rfl), by first | exact Kd.R_nil _ _ _ _ _ | exact Kd.N_nil _ _ _ _ _ | exact Kd.V_nil _ _ _ _ _ | exact Kd.Q_nil _ _ _ _ _ | exact Kd.S_nil _ _ _ _ _, by repeat (first | (with_reducible first | exact HB.out | apply below_alloc | apply pw_below_drewN | apply below_drew1 | refine below_set ?_ GE293.out) | exact HB.out)⟩
      ·rw [if_neg c9] at H
       have c9b0 : decide (99999 ≤ ((rd_T98 y297 t300).f2)) = false := decide_eq_false c9
       clear c9
       obtain ⟨y302, hy302⟩ : ∃ y_ : List (S98), y_ = (y297.set (t300 : Int).toNat (⟨(rd_T98 y297 t300).f0, (⟨a2_0, a2_1, a2_2⟩ : S55), (rd_T98 y297 t300).f2⟩ : S98)) := ⟨_, rfl⟩
       replace H : (some ((y302.set (t300 : Int).toNat (⟨(rd_T98 y302 t300).f0, (⟨(rd_T98 y302 t300).f1.f0, (rd_T98 y302 t300).f1.f1, (rd_T98 y302 t300).f1.f2⟩ : S55), wrap64 (((rd_T98 y302 t300).f2) + 1)⟩ : S98)), 0)) = some (r1, r2) := by first | (rw [hy302]; with_reducible exact H) | (have H2_ := (Option.bind_some _ _).symm.trans H; rw [hy302]; with_reducible exact H2_) | (have H2_ := (Option.bind_some _ _).symm.trans H; with_reducible exact H2_) | with_reducible exact H | (rw [hy302]; exact H) | exact H
       have Ny302 := ak hy302
       clear hy302
       obtain ⟨y304, hy304⟩ : ∃ y_ : List (S98), y_ = (y302.set (t300 : Int).toNat (⟨(rd_T98 y302 t300).f0, (⟨(rd_T98 y302 t300).f1.f0, (rd_T98 y302 t300).f1.f1, (rd_T98 y302 t300).f1.f2⟩ : S55), wrap64 (((rd_T98 y302 t300).f2) + 1)⟩ : S98)) := ⟨_, rfl⟩
       replace H : (some (y304, 0)) = some (r1, r2) := by first | (rw [hy304]; with_reducible exact H) | (have H2_ := (Option.bind_some _ _).symm.trans H; rw [hy304]; with_reducible exact H2_) | (have H2_ := (Option.bind_some _ _).symm.trans H; with_reducible exact H2_) | with_reducible exact H | (rw [hy304]; exact H) | exact H
       have Ny304 := ak hy304
       clear hy304
       simp only [Option.some.injEq, Prod.mk.injEq] at H
       obtain ⟨rfl, rfl⟩ := H
       go_enter Tryd.func59, Tryd.ntmps59
       go_wp2_with (first | ((with_reducible refine gate_dst (N := 5) rfl ?_); refine box_event ?hg (N := 5) ?hd (cs := #[.int .i64 a2_0, .int .i64 a2_1, .string a2_2]) (t := 55) ?hr ?_; (case hd => rfl); (case hg => rfl); (case hr => first | (go_simp; done) | (go_simp; rfl)); intro gb293 hg w17 hbox hb; have n0_ := ak (below_step d4_2 hb); have n1_ := ak (hbox); have n2_ := ak ((d4_14 : w.heap.size ≤ gb293)); have n3_ := ak ((d4_14 : w.heap.size ≤ gb293)); clear HB; have HB := n0_; have BK293 := n1_; have GW293 := n2_; have GE293 := n3_; clear n0_ n1_ n2_ n3_ hb hbox hg) | ((with_reducible refine gate_dst (N := 10) rfl ?_); refine Kd.R_lit k98 _ 98 ?hg (N := 10) ?hd (xs := ([] : List (S98))) (inner := []) (ok := fun _ => True) (okp := fun _ => True) ?hr ?hp (fun _ hk => hk) trivial (Below.refl _ _) (Nat.le_refl _) (by simp) ?_; (case hd => rfl); (case hg => rfl); (case hr => first | (go_simp; done) | (go_simp; rfl)); (case hp => exact (Reps.none _ _)); intro v295 w18 ho19 hb hg_ hnew_; clear hg_ hnew_; (first | rw [← Ny294.out] at ho19 | (simp only [Int.reduceToNat] at ho19; rw [← Ny294.out] at ho19)); have n0_ := ak (Kd.R_lower ho19 (below_size d4_1)); have n1_ := ak (blk_below (g := gb293) (o := .cells #[.int .i64 a2_0, .int .i64 a2_1, .string a2_2] 55 (0, 0)) d4_4 hb); have n2_ := ak (below_step d4_1 hb); clear BK293 HB; have HO296 := n0_; have BK293 := n1_; have HB := n2_; clear n0_ n1_ n2_ hb ho19) | ((with_reducible refine gate_builtin (b := .append) (xs := #[.tmp 10, .tmp 11]) rfl ?_); at_builtin; refine Kd.R_append_rows k98 (w0 := w) w.heap.size rfl (.tmp 10) (.tmp 11) 50 98 (.agg #[(.string ⟨#[]⟩), (.int .i64 0), (.int .i64 0), (.string ⟨#[]⟩), (.int .i64 0)]) 56 rfl Tryd.underlying50 info98 rfl (by decide) (by omega) v295 y294 l0 _ _ _ (fun _ => True) (fun _ => False) rfl rfl ?aO ?aR (fun _ _ h => h) (fun _ h => h.elim) ?aF ?aB ?aS ?aL ?_; (case aR => repeat (first | exact (Kd.C_below HR0.out HB.out) | (with_reducible refine Kd.C_alloc ?_ _) | (with_reducible refine Kd.C_drewN ?_ _) | (with_reducible refine Kd.C_drew ?_))); (case aB => exact d4_1); (case aF => exact (fun _ _ => trivial)); (case aO => exact d4_12); (case aS => exact (below_size d4_1)); (case aL => have := LMc4.out; omega); intro v298 w20 ho hb hg hat; rw [← Ny297.out] at ho; have n0_ := ak (blk_grown (g := gb293) (o := .cells #[.int .i64 a2_0, .int .i64 a2_1, .string a2_2] 55 (0, 0)) d4_4 hg (Kd.R_ne HO296.out BK293.out (by decide))); have n1_ := ak (hb); have n2_ := ak (ho); clear BK293 HB HO296; have BK293 := n0_; have HB := n1_; have HO299 := n2_; clear n0_ n1_ n2_ ho hb hg hat) | ((with_reducible refine gate_callee (f := 65) rfl ?_); refine goesL_ (some 15) rfl rfl Tryd.func65 (by kernel_rfl) rfl #[.slice A0 l0.length c0, .string a1] rfl d4_5 ?_; (with_reducible refine (spec_l7At.calls k _ _ l0 a1 t300 _ ?side1 ?side2 A5.out).mono ?_); (case side1 => repeat (first | exact (Kd.C_below HR0.out HB.out) | (with_reducible refine Kd.C_alloc ?_ _) | (with_reducible refine Kd.C_drewN ?_ _) | (with_reducible refine Kd.C_drew ?_))); (case side2 => exact HC0.out); rintro e w' ⟨rfl, ⟨nd, rfl⟩⟩; refine ⟨_, rfl, ?_⟩; (try (rw [drewN_self w20]; generalize hq_ : World.drewN w20 _ = w20; have n0_ : Aside0 (Kd.R k98 98 w20 w.heap.size (fun _ => True) v298 y297) := ⟨by rw [← hq_]; exact d4_13⟩; have n1_ : Aside0 (w20.heap[gb293]? = some (.cells #[.int .i64 a2_0, .int .i64 a2_1, .string a2_2] 55 (0, 0))) := ⟨by rw [← hq_]; exact d4_4⟩; have n2_ : Aside0 (Below w.heap.size w w20) := ⟨by rw [← hq_]; exact d4_1⟩; clear HO299 BK293 HB hq_; have HO299 := n0_; have BK293 := n1_; have HB := n2_; clear n0_ n1_ n2_)); obtain ⟨Ao21, co21, eo21⟩ := Kd.R_slice HO299.out; subst eo21; have p301 : 0 ≤ (t300 : Int) := of_decide_eq_true d4_3; have q301 : t300 < (y297.length : Int) := of_decide_eq_true d4_3; obtain ⟨ad301, e301, hx301_0, hx301_1, hx301_2, hx301_3, hx301_4⟩ := at_T98 (Kd.R_reads' HO299.out).2.2 t300 p301 q301; cases e301; replace p301 := eq_true p301; replace q301 := eq_true q301; have hcz22_0 : w20.cell? ⟨gb293, 0, none⟩ = some (.int .i64 a2_0) := (blk_cell BK293.out 0).trans rfl; have hcz22_1 : w20.cell? ⟨gb293, 1, none⟩ = some (.int .i64 a2_1) := (blk_cell BK293.out 1).trans rfl; have hcz22_2 : w20.cell? ⟨gb293, 2, none⟩ = some (.string a2_2) := (blk_cell BK293.out 2).trans rfl; have hfz22_0 := blk_frozen BK293.out 0; have hfz22_1 := blk_frozen BK293.out 1; have hfz22_2 := blk_frozen BK293.out 2; have p15 : 0 ≤ (t300 : Int) := of_decide_eq_true d4_3; have q15 : (t300 : Int) < ((y297.length : Int) : Int) := of_decide_eq_true d4_3; obtain ⟨go15, co15, eo15, gb15, gl15, cl15, HG15⟩ := Kd.R_form HO299.out (by omega); (first | cases eo15 | (injection eo15 with ea_ en_ ec_; (first | subst ea_ | (injection ea_ with ea_; subst ea_)); subst ec_; clear en_)); have GB15 := ak gb15; have GG15 := ak HG15; clear gb15 gl15 HG15; (first | simp only [add_plain] at hx301_0 | skip); (first | simp only [add_plain] at hx301_1 | skip); (first | simp only [add_plain] at hx301_2 | skip); (first | simp only [add_plain] at hx301_3 | skip); (first | simp only [add_plain] at hx301_4 | skip); obtain ⟨ce15, hcl15, hM15, hcc15, hfr15⟩ := Kd.R_elem HO299.out z98 (t300 : Int) p15 q15; obtain rfl := k98_openM hM15; have hx15_0 : w20.cell? ⟨go15, (t300 : Int).toNat * 5, none⟩ = some (.string ((rd_T98 y297 t300).f0)) := hcc15 0 _ rfl; have hx15_1 : w20.cell? ⟨go15, (t300 : Int).toNat * 5 + 1, none⟩ = some (.int .i64 ((rd_T98 y297 t300).f1.f0)) := hcc15 1 _ rfl; have hx15_2 : w20.cell? ⟨go15, (t300 : Int).toNat * 5 + 2, none⟩ = some (.int .i64 ((rd_T98 y297 t300).f1.f1)) := hcc15 2 _ rfl; have hx15_3 : w20.cell? ⟨go15, (t300 : Int).toNat * 5 + 3, none⟩ = some (.string ((rd_T98 y297 t300).f1.f2)) := hcc15 3 _ rfl; have hx15_4 : w20.cell? ⟨go15, (t300 : Int).toNat * 5 + 4, none⟩ = some (.int .i64 ((rd_T98 y297 t300).f2)) := hcc15 4 _ rfl; have hf15_0 : w20.frozen? ⟨go15, (t300 : Int).toNat * 5, none⟩ = false := hfr15 0; have hf15_1 : w20.frozen? ⟨go15, (t300 : Int).toNat * 5 + 1, none⟩ = false := hfr15 1; have hf15_2 : w20.frozen? ⟨go15, (t300 : Int).toNat * 5 + 2, none⟩ = false := hfr15 2; have hf15_3 : w20.frozen? ⟨go15, (t300 : Int).toNat * 5 + 3, none⟩ = false := hfr15 3; have hf15_4 : w20.frozen? ⟨go15, (t300 : Int).toNat * 5 + 4, none⟩ = false := hfr15 4; clear hcl15 hcc15 hfr15 hM15; replace p15 := eq_true p15; replace q15 := eq_true q15; have HX23 := ak (show Kd.R k98 98 w20 w.heap.size (fun _ => True) (.slice (some ⟨go15, 0, none⟩) y297.length co21) y297 from d4_13); obtain ⟨ce23, hcl23, hM23, hcc23, hfr23⟩ := Kd.R_elem HX23.out z98 (t300 : Int) (of_decide_eq_true d4_3) (by have h_ : (t300 : Int) < ((y297.length : Int) : Int) := of_decide_eq_true d4_3; first | exact h_ | (have e_ := (Kd.R_reads' HO299.out).1; omega) | simpa using h_); obtain rfl := k98_openM hM23; have HP23 := Kd.R_seg HX23.out (t300 : Int) (of_decide_eq_true d4_3) (by have h_ : (t300 : Int) < ((y297.length : Int) : Int) := of_decide_eq_true d4_3; first | exact h_ | (have e_ := (Kd.R_reads' HO299.out).1; omega) | simpa using h_) (seg := [.int .i64 a2_0, .int .i64 a2_1, .string a2_2]) (j := 1) hcl23 hcc23 (show 4 ≤ 5 from by decide) (x' := (⟨(rd_T98 y297 t300).f0, (⟨a2_0, a2_1, a2_2⟩ : S55), (rd_T98 y297 t300).f2⟩ : S98)) (k98_mkM _ _ _ (⟨(rd_T98 y297 t300).f0, (⟨a2_0, a2_1, a2_2⟩ : S55), (rd_T98 y297 t300).f2⟩ : S98) ) (fun _ hk => hk); have hx23_1 := hcc23 1 _ rfl; (try simp only [show (k98).sz = 5 from rfl, Nat.mul_one, Nat.add_zero] at hx23_1); have hf23_1 := hfr23 1; (try simp only [show (k98).sz = 5 from rfl, Nat.mul_one, Nat.add_zero] at hf23_1); have hx23_2 := hcc23 2 _ rfl; (try simp only [show (k98).sz = 5 from rfl, Nat.mul_one, Nat.add_zero] at hx23_2); have hf23_2 := hfr23 2; (try simp only [show (k98).sz = 5 from rfl, Nat.mul_one, Nat.add_zero] at hf23_2); have hx23_3 := hcc23 3 _ rfl; (try simp only [show (k98).sz = 5 from rfl, Nat.mul_one, Nat.add_zero] at hx23_3); have hf23_3 := hfr23 3; (try simp only [show (k98).sz = 5 from rfl, Nat.mul_one, Nat.add_zero] at hf23_3); clear hcl23 hcc23 hfr23 hM23) | ((with_reducible refine gate_store (t := 55) (p := 28) rfl ?_); refine store_event (t := 55) (p := 28) (v := ?vo_w24) (w1 := (((w20.setCell ⟨go15, (t300 : Int).toNat * 5 + 1, none⟩ (.int .i64 a2_0)).setCell ⟨go15, (t300 : Int).toNat * 5 + 2, none⟩ (.int .i64 a2_1)).setCell ⟨go15, (t300 : Int).toNat * 5 + 3, none⟩ (.string a2_2))) ?hg ?ho ?hn ?hr ?_; (case ho => rfl); (case hg => rfl); (case hn => rfl); (case hr => first | (go_simp; done) | (go_simp; rfl)); intro w24 hw; have hg : w20.grownBy w24 (some go15) := (by rw [hw]; exact HP23.2); have hp_ : Kd.R k98 98 w24 w.heap.size (fun _ => True) (.slice (some ⟨go15, 0, none⟩) y297.length co21) y302 := (by rw [hw, Ny302.out]; exact HP23.1); clear HP23; have n0_ := ak (blk_grown (g := gb293) (o := .cells #[.int .i64 a2_0, .int .i64 a2_1, .string a2_2] 55 (0, 0)) d4_4 hg (Kd.R_ne HO299.out BK293.out (by decide))); have n1_ := ak (hp_); have n2_ := ak ((by rw [hw]; exact below_set (below_set (below_set (HB.out) GB15.out) GB15.out) GB15.out : Below w.heap.size w w24)); clear BK293 HO299 HB; have BK293 := n0_; have HO299 := n1_; have HB := n2_; clear n0_ n1_ n2_ hg hw hp_; have p303 : 0 ≤ (t300 : Int) := of_decide_eq_true d4_3; have q303 : t300 < (y302.length : Int) := (by have h_ : (t300 : Int) < ((y297.length : Int) : Int) := of_decide_eq_true d4_3; first | (have e_ := (Kd.R_reads' HO299.out).1; omega) | simpa only [Ny302.out, List.length_set] using h_); have ql303 : ((t300 : Int) < ((y297.length : Int) : Int)) = True := eq_true (of_decide_eq_true d4_3); obtain ⟨ad303, e303, hx303_0, hx303_1, hx303_2, hx303_3, hx303_4⟩ := at_T98 (Kd.R_reads' HO299.out).2.2 t300 p303 q303; obtain rfl : (⟨go15, 0, none⟩ : Addr) = ad303 := (by injection e303); (first | simp only [add_plain] at hx303_0 | simp only [add_at] at hx303_0 | simp only [Addr.add, Nat.zero_add] at hx303_0 | skip); (first | simp only [add_plain] at hx303_1 | simp only [add_at] at hx303_1 | simp only [Addr.add, Nat.zero_add] at hx303_1 | skip); (first | simp only [add_plain] at hx303_2 | simp only [add_at] at hx303_2 | simp only [Addr.add, Nat.zero_add] at hx303_2 | skip); (first | simp only [add_plain] at hx303_3 | simp only [add_at] at hx303_3 | simp only [Addr.add, Nat.zero_add] at hx303_3 | skip); (first | simp only [add_plain] at hx303_4 | simp only [add_at] at hx303_4 | simp only [Addr.add, Nat.zero_add] at hx303_4 | skip); replace p303 := eq_true p303; replace q303 := eq_true q303; have p16 : 0 ≤ (t300 : Int) := of_decide_eq_true d4_3; have q16 : (t300 : Int) < ((y297.length : Int) : Int) := of_decide_eq_true d4_3; obtain ⟨ce16, hcl16, hM16, hcc16, hfr16⟩ := Kd.R_elem HO299.out z98 (t300 : Int) p16 q16; obtain rfl := k98_openM hM16; have hx16_0 : w24.cell? ⟨go15, (t300 : Int).toNat * 5, none⟩ = some (.string ((rd_T98 y302 t300).f0)) := hcc16 0 _ rfl; have hx16_1 : w24.cell? ⟨go15, (t300 : Int).toNat * 5 + 1, none⟩ = some (.int .i64 ((rd_T98 y302 t300).f1.f0)) := hcc16 1 _ rfl; have hx16_2 : w24.cell? ⟨go15, (t300 : Int).toNat * 5 + 2, none⟩ = some (.int .i64 ((rd_T98 y302 t300).f1.f1)) := hcc16 2 _ rfl; have hx16_3 : w24.cell? ⟨go15, (t300 : Int).toNat * 5 + 3, none⟩ = some (.string ((rd_T98 y302 t300).f1.f2)) := hcc16 3 _ rfl; have hx16_4 : w24.cell? ⟨go15, (t300 : Int).toNat * 5 + 4, none⟩ = some (.int .i64 ((rd_T98 y302 t300).f2)) := hcc16 4 _ rfl; have hf16_0 : w24.frozen? ⟨go15, (t300 : Int).toNat * 5, none⟩ = false := hfr16 0; have hf16_1 : w24.frozen? ⟨go15, (t300 : Int).toNat * 5 + 1, none⟩ = false := hfr16 1; have hf16_2 : w24.frozen? ⟨go15, (t300 : Int).toNat * 5 + 2, none⟩ = false := hfr16 2; have hf16_3 : w24.frozen? ⟨go15, (t300 : Int).toNat * 5 + 3, none⟩ = false := hfr16 3; have hf16_4 : w24.frozen? ⟨go15, (t300 : Int).toNat * 5 + 4, none⟩ = false := hfr16 4; clear hcl16 hcc16 hfr16 hM16; replace p16 := eq_true p16; replace q16 := eq_true q16; have HX25 := ak (show Kd.R k98 98 w24 w.heap.size (fun _ => True) (.slice (some ⟨go15, 0, none⟩) y297.length co21) y302 from d4_13); obtain ⟨ce25, hcl25, hM25, hcc25, hfr25⟩ := Kd.R_elem HX25.out z98 (t300 : Int) (of_decide_eq_true d4_3) (by have h_ : (t300 : Int) < ((y297.length : Int) : Int) := of_decide_eq_true d4_3; first | exact h_ | (have e_ := (Kd.R_reads' HO299.out).1; omega) | simpa using h_); obtain rfl := k98_openM hM25; have HP25 := Kd.R_seg HX25.out (t300 : Int) (of_decide_eq_true d4_3) (by have h_ : (t300 : Int) < ((y297.length : Int) : Int) := of_decide_eq_true d4_3; first | exact h_ | (have e_ := (Kd.R_reads' HO299.out).1; omega) | simpa using h_) (seg := [.int .i64 (wrap64 (((rd_T98 y302 t300).f2) + 1))]) (j := 4) hcl25 hcc25 (show 5 ≤ 5 from by decide) (x' := (⟨(rd_T98 y302 t300).f0, (⟨(rd_T98 y302 t300).f1.f0, (rd_T98 y302 t300).f1.f1, (rd_T98 y302 t300).f1.f2⟩ : S55), wrap64 (((rd_T98 y302 t300).f2) + 1)⟩ : S98)) (k98_mkM _ _ _ (⟨(rd_T98 y302 t300).f0, (⟨(rd_T98 y302 t300).f1.f0, (rd_T98 y302 t300).f1.f1, (rd_T98 y302 t300).f1.f2⟩ : S55), wrap64 (((rd_T98 y302 t300).f2) + 1)⟩ : S98) ) (fun _ hk => hk); have hx25_4 := hcc25 4 _ rfl; (try simp only [show (k98).sz = 5 from rfl, Nat.mul_one, Nat.add_zero] at hx25_4); have hf25_4 := hfr25 4; (try simp only [show (k98).sz = 5 from rfl, Nat.mul_one, Nat.add_zero] at hf25_4); clear hcl25 hcc25 hfr25 hM25) | ((with_reducible refine gate_store (t := 2) (p := 36) rfl ?_); refine store_event (t := 2) (p := 36) (v := ?vo_w26) (w1 := (w24.setCell ⟨go15, (t300 : Int).toNat * 5 + 4, none⟩ (.int .i64 (wrap64 (((rd_T98 y302 t300).f2) + 1))))) ?hg ?ho ?hn ?hr ?_; (case ho => rfl); (case hg => rfl); (case hn => rfl); (case hr => first | (go_simp; done) | (go_simp; rfl)); intro w26 hw; have hg : w24.grownBy w26 (some go15) := (by rw [hw]; exact HP25.2); have hp_ : Kd.R k98 98 w26 w.heap.size (fun _ => True) (.slice (some ⟨go15, 0, none⟩) y297.length co21) y304 := (by rw [hw, Ny304.out]; exact HP25.1); clear HP25; have n0_ := ak (blk_grown (g := gb293) (o := .cells #[.int .i64 a2_0, .int .i64 a2_1, .string a2_2] 55 (0, 0)) d4_4 hg (Kd.R_ne HO299.out BK293.out (by decide))); have n1_ := ak (hp_); have n2_ := ak ((by rw [hw]; exact below_set (HB.out) GB15.out : Below w.heap.size w w26)); clear BK293 HO299 HB; have BK293 := n0_; have HO299 := n1_; have HB := n2_; clear n0_ n1_ n2_ hg hw hp_))
       go_ret2
       exact ⟨_, by first | rfl | (simp [errW_none, errW_some] <;> rfl) | (simp [*, errW_none, errW_some] <;> rfl), by (with_reducible repeat (first | apply Kd.R_alloc | apply Kd.R_drewN | apply Kd.R_drew)); exact HO299.out, by repeat (first | (with_reducible first | exact HB.out | apply below_alloc | apply pw_below_drewN | apply below_drew1 | refine below_set ?_ GE293.out) | exact HB.out)⟩
     ·rw [if_neg c8] at H
      exact absurd H (by simp)
    ·rw [if_neg c7] at H
     exact absurd H (by simp)
   ·rw [if_neg c6] at H
    have c6b0 : decide (0 ≤ t300) = false := decide_eq_false c6
    clear c6
    by_cases c27 : (y297.length : Int) ≥ 60
    ·rw [if_pos c27] at H
     have c27b0 : decide (60 ≤ (y297.length : Int)) = true := decide_eq_true c27
     have c27b1 : decide (60 ≤ y297.length) = true := decide_eq_true (by omega)
     clear c27
     simp only [Option.some.injEq, Prod.mk.injEq] at H
     obtain ⟨rfl, rfl⟩ := H
     go_enter Tryd.func59, Tryd.ntmps59
     go_wp2_with (first | ((with_reducible refine gate_dst (N := 5) rfl ?_); refine box_event ?hg (N := 5) ?hd (cs := #[.int .i64 a2_0, .int .i64 a2_1, .string a2_2]) (t := 55) ?hr ?_; (case hd => rfl); (case hg => rfl); (case hr => first | (go_simp; done) | (go_simp; rfl)); intro gb293 hg w28 hbox hb; have n0_ := ak (below_step d4_2 hb); have n1_ := ak (hbox); have n2_ := ak ((d4_14 : w.heap.size ≤ gb293)); have n3_ := ak ((d4_14 : w.heap.size ≤ gb293)); clear HB; have HB := n0_; have BK293 := n1_; have GW293 := n2_; have GE293 := n3_; clear n0_ n1_ n2_ n3_ hb hbox hg) | ((with_reducible refine gate_dst (N := 10) rfl ?_); refine Kd.R_lit k98 _ 98 ?hg (N := 10) ?hd (xs := ([] : List (S98))) (inner := []) (ok := fun _ => True) (okp := fun _ => True) ?hr ?hp (fun _ hk => hk) trivial (Below.refl _ _) (Nat.le_refl _) (by simp) ?_; (case hd => rfl); (case hg => rfl); (case hr => first | (go_simp; done) | (go_simp; rfl)); (case hp => exact (Reps.none _ _)); intro v295 w29 ho30 hb hg_ hnew_; clear hg_ hnew_; (first | rw [← Ny294.out] at ho30 | (simp only [Int.reduceToNat] at ho30; rw [← Ny294.out] at ho30)); have n0_ := ak (Kd.R_lower ho30 (below_size d4_1)); have n1_ := ak (blk_below (g := gb293) (o := .cells #[.int .i64 a2_0, .int .i64 a2_1, .string a2_2] 55 (0, 0)) d4_4 hb); have n2_ := ak (below_step d4_1 hb); clear BK293 HB; have HO296 := n0_; have BK293 := n1_; have HB := n2_; clear n0_ n1_ n2_ hb ho30) | ((with_reducible refine gate_builtin (b := .append) (xs := #[.tmp 10, .tmp 11]) rfl ?_); at_builtin; refine Kd.R_append_rows k98 (w0 := w) w.heap.size rfl (.tmp 10) (.tmp 11) 50 98 (.agg #[(.string ⟨#[]⟩), (.int .i64 0), (.int .i64 0), (.string ⟨#[]⟩), (.int .i64 0)]) 56 rfl Tryd.underlying50 info98 rfl (by decide) (by omega) v295 y294 l0 _ _ _ (fun _ => True) (fun _ => False) rfl rfl ?aO ?aR (fun _ _ h => h) (fun _ h => h.elim) ?aF ?aB ?aS ?aL ?_; (case aR => repeat (first | exact (Kd.C_below HR0.out HB.out) | (with_reducible refine Kd.C_alloc ?_ _) | (with_reducible refine Kd.C_drewN ?_ _) | (with_reducible refine Kd.C_drew ?_))); (case aB => exact d4_1); (case aF => exact (fun _ _ => trivial)); (case aO => exact d4_12); (case aS => exact (below_size d4_1)); (case aL => have := LMc4.out; omega); intro v298 w31 ho hb hg hat; rw [← Ny297.out] at ho; have n0_ := ak (blk_grown (g := gb293) (o := .cells #[.int .i64 a2_0, .int .i64 a2_1, .string a2_2] 55 (0, 0)) d4_4 hg (Kd.R_ne HO296.out BK293.out (by decide))); have n1_ := ak (hb); have n2_ := ak (ho); clear BK293 HB HO296; have BK293 := n0_; have HB := n1_; have HO299 := n2_; clear n0_ n1_ n2_ ho hb hg hat) | ((with_reducible refine gate_callee (f := 65) rfl ?_); refine goesL_ (some 15) rfl rfl Tryd.func65 (by kernel_rfl) rfl #[.slice A0 l0.length c0, .string a1] rfl d4_5 ?_; (with_reducible refine (spec_l7At.calls k _ _ l0 a1 t300 _ ?side1 ?side2 A5.out).mono ?_); (case side1 => repeat (first | exact (Kd.C_below HR0.out HB.out) | (with_reducible refine Kd.C_alloc ?_ _) | (with_reducible refine Kd.C_drewN ?_ _) | (with_reducible refine Kd.C_drew ?_))); (case side2 => exact HC0.out); rintro e w' ⟨rfl, ⟨nd, rfl⟩⟩; refine ⟨_, rfl, ?_⟩; obtain ⟨Ao32, co32, eo32⟩ := Kd.R_slice HO299.out; subst eo32))
     go_ret2
     exact ⟨_, by first | rfl | (simp [errW_none, errW_some] <;> rfl) | (simp [*, errW_none, errW_some] <;> rfl), by first | exact Kd.R_nil _ _ _ _ _ | exact Kd.N_nil _ _ _ _ _ | exact Kd.V_nil _ _ _ _ _ | exact Kd.Q_nil _ _ _ _ _ | exact Kd.S_nil _ _ _ _ _, by repeat (first | (with_reducible first | exact HB.out | apply below_alloc | apply pw_below_drewN | apply below_drew1 | refine below_set ?_ GE293.out) | exact HB.out)⟩
    ·rw [if_neg c27] at H
     have c27b0 : decide (60 ≤ (y297.length : Int)) = false := decide_eq_false c27
     have c27b1 : decide (60 ≤ y297.length) = false := decide_eq_false (by omega)
     clear c27
     by_cases c33 : y297.length < 2513169434916
     ·rw [if_pos c33] at H
      have LMc33 := ak c33
      clear c33
      obtain ⟨y305, hy305⟩ : ∃ y_ : List (S98), y_ = (y297 ++ [(⟨a1, (⟨a2_0, a2_1, a2_2⟩ : S55), 1⟩ : S98)]) := ⟨_, rfl⟩
      replace H : (some (y305, 0)) = some (r1, r2) := by first | (rw [hy305]; with_reducible exact H) | (have H2_ := (Option.bind_some _ _).symm.trans H; rw [hy305]; with_reducible exact H2_) | (have H2_ := (Option.bind_some _ _).symm.trans H; with_reducible exact H2_) | with_reducible exact H | (rw [hy305]; exact H) | exact H
      have Ny305 := ak hy305
      clear hy305
      simp only [Option.some.injEq, Prod.mk.injEq] at H
      obtain ⟨rfl, rfl⟩ := H
      go_enter Tryd.func59, Tryd.ntmps59
      go_wp2_with (first | ((with_reducible refine gate_dst (N := 5) rfl ?_); refine box_event ?hg (N := 5) ?hd (cs := #[.int .i64 a2_0, .int .i64 a2_1, .string a2_2]) (t := 55) ?hr ?_; (case hd => rfl); (case hg => rfl); (case hr => first | (go_simp; done) | (go_simp; rfl)); intro gb293 hg w34 hbox hb; have n0_ := ak (below_step d4_2 hb); have n1_ := ak (hbox); have n2_ := ak ((d4_14 : w.heap.size ≤ gb293)); have n3_ := ak ((d4_14 : w.heap.size ≤ gb293)); clear HB; have HB := n0_; have BK293 := n1_; have GW293 := n2_; have GE293 := n3_; clear n0_ n1_ n2_ n3_ hb hbox hg) | ((with_reducible refine gate_dst (N := 10) rfl ?_); refine Kd.R_lit k98 _ 98 ?hg (N := 10) ?hd (xs := ([] : List (S98))) (inner := []) (ok := fun _ => True) (okp := fun _ => True) ?hr ?hp (fun _ hk => hk) trivial (Below.refl _ _) (Nat.le_refl _) (by simp) ?_; (case hd => rfl); (case hg => rfl); (case hr => first | (go_simp; done) | (go_simp; rfl)); (case hp => exact (Reps.none _ _)); intro v295 w35 ho36 hb hg_ hnew_; clear hg_ hnew_; (first | rw [← Ny294.out] at ho36 | (simp only [Int.reduceToNat] at ho36; rw [← Ny294.out] at ho36)); have n0_ := ak (Kd.R_lower ho36 (below_size d4_1)); have n1_ := ak (blk_below (g := gb293) (o := .cells #[.int .i64 a2_0, .int .i64 a2_1, .string a2_2] 55 (0, 0)) d4_4 hb); have n2_ := ak (below_step d4_1 hb); clear BK293 HB; have HO296 := n0_; have BK293 := n1_; have HB := n2_; clear n0_ n1_ n2_ hb ho36) | ((with_reducible refine gate_builtin (b := .append) (xs := #[.tmp 10, .tmp 11]) rfl ?_); at_builtin; refine Kd.R_append_rows k98 (w0 := w) w.heap.size rfl (.tmp 10) (.tmp 11) 50 98 (.agg #[(.string ⟨#[]⟩), (.int .i64 0), (.int .i64 0), (.string ⟨#[]⟩), (.int .i64 0)]) 56 rfl Tryd.underlying50 info98 rfl (by decide) (by omega) v295 y294 l0 _ _ _ (fun _ => True) (fun _ => False) rfl rfl ?aO ?aR (fun _ _ h => h) (fun _ h => h.elim) ?aF ?aB ?aS ?aL ?_; (case aR => repeat (first | exact (Kd.C_below HR0.out HB.out) | (with_reducible refine Kd.C_alloc ?_ _) | (with_reducible refine Kd.C_drewN ?_ _) | (with_reducible refine Kd.C_drew ?_))); (case aB => exact d4_1); (case aF => exact (fun _ _ => trivial)); (case aO => exact d4_12); (case aS => exact (below_size d4_1)); (case aL => have := LMc4.out; omega); intro v298 w37 ho hb hg hat; rw [← Ny297.out] at ho; have n0_ := ak (blk_grown (g := gb293) (o := .cells #[.int .i64 a2_0, .int .i64 a2_1, .string a2_2] 55 (0, 0)) d4_4 hg (Kd.R_ne HO296.out BK293.out (by decide))); have n1_ := ak (hb); have n2_ := ak (ho); clear BK293 HB HO296; have BK293 := n0_; have HB := n1_; have HO299 := n2_; clear n0_ n1_ n2_ ho hb hg hat) | ((with_reducible refine gate_callee (f := 65) rfl ?_); refine goesL_ (some 15) rfl rfl Tryd.func65 (by kernel_rfl) rfl #[.slice A0 l0.length c0, .string a1] rfl d4_5 ?_; (with_reducible refine (spec_l7At.calls k _ _ l0 a1 t300 _ ?side1 ?side2 A5.out).mono ?_); (case side1 => repeat (first | exact (Kd.C_below HR0.out HB.out) | (with_reducible refine Kd.C_alloc ?_ _) | (with_reducible refine Kd.C_drewN ?_ _) | (with_reducible refine Kd.C_drew ?_))); (case side2 => exact HC0.out); rintro e w' ⟨rfl, ⟨nd, rfl⟩⟩; refine ⟨_, rfl, ?_⟩; obtain ⟨Ao38, co38, eo38⟩ := Kd.R_slice HO299.out; subst eo38; have hcz39_0 : w37.cell? ⟨gb293, 0, none⟩ = some (.int .i64 a2_0) := (blk_cell BK293.out 0).trans rfl; have hcz39_1 : w37.cell? ⟨gb293, 1, none⟩ = some (.int .i64 a2_1) := (blk_cell BK293.out 1).trans rfl; have hcz39_2 : w37.cell? ⟨gb293, 2, none⟩ = some (.string a2_2) := (blk_cell BK293.out 2).trans rfl; have hfz39_0 := blk_frozen BK293.out 0; have hfz39_1 := blk_frozen BK293.out 1; have hfz39_2 := blk_frozen BK293.out 2) | ((with_reducible refine gate_builtin (b := .append) (xs := #[.tmp 41, .tmp 45]) rfl ?_); at_builtin; refine Kd.R_append k98 (w0 := w) w.heap.size rfl (.tmp 41) (.tmp 45) 50 98 (.agg #[(.string ⟨#[]⟩), (.int .i64 0), (.int .i64 0), (.string ⟨#[]⟩), (.int .i64 0)]) 56 rfl Tryd.underlying50 info98 rfl (by decide) (by omega) (.slice Ao38 y297.length co38) y297 (⟨a1, (⟨a2_0, a2_1, a2_2⟩ : S55), 1⟩ : S98) [.string a1, .int .i64 a2_0, .int .i64 a2_1, .string a2_2, .int .i64 1] (fun _ => True) (fun _ => False) rfl rfl ?aP (fun _ hk => hk.elim) ?aF ?aO ?aB ?aS ?aL ?_; (case aP => exact k98_mkM _ _ _ (⟨a1, (⟨a2_0, a2_1, a2_2⟩ : S55), 1⟩ : S98)); (case aB => exact d4_1); (case aF => exact (fun _ _ => trivial)); (case aO => exact d4_13); (case aS => exact (below_size d4_1)); (case aL => have := LMc33.out; omega); intro v306 w40 ho hb hg hat; rw [← Ny305.out] at ho; have n0_ := ak (blk_grown (g := gb293) (o := .cells #[.int .i64 a2_0, .int .i64 a2_1, .string a2_2] 55 (0, 0)) d4_4 hg (Kd.R_ne HO299.out BK293.out (by decide))); have n1_ := ak (hb); have n2_ := ak (ho); clear BK293 HB HO299; have BK293 := n0_; have HB := n1_; have HO307 := n2_; clear n0_ n1_ n2_ ho hb hg hat))
      go_ret2
      exact ⟨_, by first | rfl | (simp [errW_none, errW_some] <;> rfl) | (simp [*, errW_none, errW_some] <;> rfl), by (with_reducible repeat (first | apply Kd.R_alloc | apply Kd.R_drewN | apply Kd.R_drew)); exact HO307.out, by repeat (first | (with_reducible first | exact HB.out | apply below_alloc | apply pw_below_drewN | apply below_drew1 | refine below_set ?_ GE293.out) | exact HB.out)⟩
     ·rw [if_neg c33] at H
      exact absurd H (by simp)
  ·rw [if_neg c4] at H
   exact absurd H (by simp)

/-! ### laws_toValue: function 29 -/
def laws_toValue.f (a0_0 : Int) (a0_1 : Int) (a0_2 : ByteArray) : Option (Int × Int × ByteArray) := some (a0_0, a0_1, a0_2)
set_option maxHeartbeats 8000000 in
set_option maxRecDepth 100000 in
theorem laws_toValue.calls (a0_0 : Int) (a0_1 : Int) (a0_2 : ByteArray) (r1 : Int) (r2 : Int) (r3 : ByteArray) (w : World) (h : laws_toValue.f a0_0 a0_1 a0_2 = some (r1, r2, r3)) :
    Calls Tryd.prog 29 #[.agg #[.int .i64 a0_0, .int .i64 a0_1, .string a0_2]] w fun e w' => e = .returned (.agg #[.int .i64 r1, .int .i64 r2, .string r3]) ∧ Below w.heap.size w w' := by
  have hu47 := Tryd.underlying47
  have hu55 := Tryd.underlying55
  have HB := ak (Below.refl w.heap.size w)
  have H : (some (a0_0, a0_1, a0_2)) = some (r1, r2, r3) := h
  clear h
  simp only [Option.some.injEq, Prod.mk.injEq] at H
  obtain ⟨rfl, rfl, rfl⟩ := H
  go_enter Tryd.func29, Tryd.ntmps29
  go_wp2_with (first | ((with_reducible refine gate_dst (N := 1) rfl ?_); refine box_event ?hg (N := 1) ?hd (cs := #[.int .i64 a0_0, .int .i64 a0_1, .string a0_2]) (t := 47) ?hr ?_; (case hd => rfl); (case hg => rfl); (case hr => first | (go_simp; done) | (go_simp; rfl)); intro gb316 hg w2 hbox hb; have n0_ := ak (below_step d4_2 hb); have n1_ := ak (hbox); have n2_ := ak ((d4_14 : w.heap.size ≤ gb316)); have n3_ := ak ((d4_14 : w.heap.size ≤ gb316)); clear HB; have HB := n0_; have BK316 := n1_; have GW316 := n2_; have GE316 := n3_; clear n0_ n1_ n2_ n3_ hb hbox hg) | ((with_reducible refine gate_dst (N := 2) rfl ?_); refine box_event ?hg (N := 2) ?hd (cs := #[.int .i64 0, .int .i64 0, .string (⟨#[]⟩ : ByteArray)]) (t := 55) ?hr ?_; (case hd => rfl); (case hg => rfl); (case hr => first | (go_simp; done) | (go_simp; rfl)); intro gb317 hg w3 hbox hb; have n0_ := ak (blk_below (g := gb316) (o := .cells #[.int .i64 a0_0, .int .i64 a0_1, .string a0_2] 47 (0, 0)) d4_6 hb); have n1_ := ak (below_step d4_10 hb); have n2_ := ak (hbox); have n3_ := ak ((by rw [hg]; exact (below_size d4_10) : w.heap.size ≤ gb317)); have n4_ := ak ((by rw [hg]; exact (below_size d4_10) : w.heap.size ≤ gb317)); have n5_ := ak ((by rw [hg]; exact Nat.ne_of_lt (blk_lt (g := gb316) (o := .cells #[.int .i64 a0_0, .int .i64 a0_1, .string a0_2] 47 (0, 0)) d4_6) : gb316 ≠ gb317)); have n6_ := ak ((by rw [hg]; exact Nat.ne_of_gt (blk_lt (g := gb316) (o := .cells #[.int .i64 a0_0, .int .i64 a0_1, .string a0_2] 47 (0, 0)) d4_6) : gb317 ≠ gb316)); clear BK316 HB; have BK316 := n0_; have HB := n1_; have BK317 := n2_; have GW317 := n3_; have GE317 := n4_; have NB316_317 := n5_; have NB317_316 := n6_; clear n0_ n1_ n2_ n3_ n4_ n5_ n6_ hb hbox hg) | ((with_reducible refine gate_dst (N := 3) rfl ?_); refine box_event ?hg (N := 3) ?hd (cs := #[.int .i64 0, .int .i64 0, .string (⟨#[]⟩ : ByteArray)]) (t := 55) ?hr ?_; (case hd => rfl); (case hg => rfl); (case hr => first | (go_simp; done) | (go_simp; rfl)); intro gb318 hg w4 hbox hb; have n0_ := ak (blk_below (g := gb316) (o := .cells #[.int .i64 a0_0, .int .i64 a0_1, .string a0_2] 47 (0, 0)) d4_6 hb); have n1_ := ak (blk_below (g := gb317) (o := .cells #[.int .i64 0, .int .i64 0, .string (⟨#[]⟩ : ByteArray)] 55 (0, 0)) (by (with_reducible repeat (first | refine blk_drewN ?_ _ | refine blk_drew ?_ | refine blk_alloc ?_ _)); exact BK317.out) hb); have n2_ := ak (below_step d4_8 hb); have n3_ := ak (hbox); have n4_ := ak ((by rw [hg]; exact (below_size d4_8) : w.heap.size ≤ gb318)); have n5_ := ak ((by rw [hg]; exact (below_size d4_8) : w.heap.size ≤ gb318)); have n6_ := ak ((by rw [hg]; exact Nat.ne_of_lt (blk_lt (g := gb316) (o := .cells #[.int .i64 a0_0, .int .i64 a0_1, .string a0_2] 47 (0, 0)) d4_6) : gb316 ≠ gb318)); have n7_ := ak ((by rw [hg]; exact Nat.ne_of_gt (blk_lt (g := gb316) (o := .cells #[.int .i64 a0_0, .int .i64 a0_1, .string a0_2] 47 (0, 0)) d4_6) : gb318 ≠ gb316)); have n8_ := ak ((by rw [hg]; exact Nat.ne_of_lt (blk_lt (g := gb317) (o := .cells #[.int .i64 0, .int .i64 0, .string (⟨#[]⟩ : ByteArray)] 55 (0, 0)) (by (with_reducible repeat (first | refine blk_drewN ?_ _ | refine blk_drew ?_ | refine blk_alloc ?_ _)); exact BK317.out)) : gb317 ≠ gb318)); have n9_ := ak ((by rw [hg]; exact Nat.ne_of_gt (blk_lt (g := gb317) (o := .cells #[.int .i64 0, .int .i64 0, .string (⟨#[]⟩ : ByteArray)] 55 (0, 0)) (by (with_reducible repeat (first | refine blk_drewN ?_ _ | refine blk_drew ?_ | refine blk_alloc ?_ _)); exact BK317.out)) : gb318 ≠ gb317)); clear BK316 BK317 HB; have BK316 := n0_; have BK317 := n1_; have HB := n2_; have BK318 := n3_; have GW318 := n4_; have GE318 := n5_; have NB316_318 := n6_; have NB318_316 := n7_; have NB317_318 := n8_; have NB318_317 := n9_; clear n0_ n1_ n2_ n3_ n4_ n5_ n6_ n7_ n8_ n9_ hb hbox hg; have hnb5 := NB316_317.out; have hnc5 := NB317_316.out; have hnb6 := NB316_318.out; have hnc6 := NB318_316.out; have hcz7_0 : w4.cell? ⟨gb316, 0, none⟩ = some (.int .i64 a0_0) := (blk_cell BK316.out 0).trans rfl; have hcz7_1 : w4.cell? ⟨gb316, 1, none⟩ = some (.int .i64 a0_1) := (blk_cell BK316.out 1).trans rfl; have hcz7_2 : w4.cell? ⟨gb316, 2, none⟩ = some (.string a0_2) := (blk_cell BK316.out 2).trans rfl; have hfz7_0 := blk_frozen BK316.out 0; have hfz7_1 := blk_frozen BK316.out 1; have hfz7_2 := blk_frozen BK316.out 2; have hnb8 := NB318_317.out; have hnc8 := NB317_318.out; have hcz9_0 : w4.cell? ⟨gb318, 0, none⟩ = some (.int .i64 0) := (blk_cell BK318.out 0).trans rfl; have hcz9_1 : w4.cell? ⟨gb318, 1, none⟩ = some (.int .i64 0) := (blk_cell BK318.out 1).trans rfl; have hcz9_2 : w4.cell? ⟨gb318, 2, none⟩ = some (.string (⟨#[]⟩ : ByteArray)) := (blk_cell BK318.out 2).trans rfl; have hfz9_0 := blk_frozen BK318.out 0; have hfz9_1 := blk_frozen BK318.out 1; have hfz9_2 := blk_frozen BK318.out 2; have hcz10_0 : w4.cell? ⟨gb317, 0, none⟩ = some (.int .i64 0) := (blk_cell BK317.out 0).trans rfl; have hcz10_1 : w4.cell? ⟨gb317, 1, none⟩ = some (.int .i64 0) := (blk_cell BK317.out 1).trans rfl; have hcz10_2 : w4.cell? ⟨gb317, 2, none⟩ = some (.string (⟨#[]⟩ : ByteArray)) := (blk_cell BK317.out 2).trans rfl; have hfz10_0 := blk_frozen BK317.out 0; have hfz10_1 := blk_frozen BK317.out 1; have hfz10_2 := blk_frozen BK317.out 2))
  refine bodyPost_ret (results_cell_row rfl _ _ gb317 55 #[.int .i64 a0_0, .int .i64 a0_1, .string a0_2] (0, 0) _ rfl (by (with_reducible repeat (first | refine blk_drewN ?_ _ | refine blk_drew ?_ | refine blk_alloc ?_ _)); refine blk_put (cs := #[.int .i64 a0_0, .int .i64 a0_1, .string (⟨#[]⟩ : ByteArray)]) ?_ 2 _ rfl; (with_reducible repeat (first | refine blk_drewN ?_ _ | refine blk_drew ?_ | refine blk_alloc ?_ _)); refine blk_put (cs := #[.int .i64 a0_0, .int .i64 0, .string (⟨#[]⟩ : ByteArray)]) ?_ 1 _ rfl; (with_reducible repeat (first | refine blk_drewN ?_ _ | refine blk_drew ?_ | refine blk_alloc ?_ _)); refine blk_put (cs := #[.int .i64 0, .int .i64 0, .string (⟨#[]⟩ : ByteArray)]) ?_ 0 _ rfl; (with_reducible repeat (first | refine blk_drewN ?_ _ | refine blk_drew ?_ | refine blk_alloc ?_ _)); refine blk_far ?_ NB317_318.out _; (with_reducible repeat (first | refine blk_drewN ?_ _ | refine blk_drew ?_ | refine blk_alloc ?_ _)); refine blk_far ?_ NB317_318.out _; (with_reducible repeat (first | refine blk_drewN ?_ _ | refine blk_drew ?_ | refine blk_alloc ?_ _)); refine blk_far ?_ NB317_318.out _; (with_reducible repeat (first | refine blk_drewN ?_ _ | refine blk_drew ?_ | refine blk_alloc ?_ _)); exact BK317.out) Tryd.underlying55 rfl (by kernel_rfl)) rfl ?_
  exact ⟨by first | rfl | (simp [errW_none, errW_some] <;> rfl) | (simp [*, errW_none, errW_some] <;> rfl), by repeat (first | (with_reducible first | exact HB.out | apply below_alloc | apply pw_below_drewN | apply below_drew1 | refine below_set ?_ GE316.out | refine below_set ?_ GE317.out | refine below_set ?_ GE318.out) | exact HB.out)⟩

/-! ### laws_toGlobal: function 60 -/
def laws_toGlobal.f (a0_0 : ByteArray) (a0_1 : Int) (a0_2 : Int) (a0_3 : ByteArray) (a0_4 : Int) : Option (ByteArray × Int × Int × ByteArray × Int) := (laws_toValue.f a0_1 a0_2 a0_3).bind fun bt322 => (some (a0_0, bt322.1, bt322.2.1, bt322.2.2, a0_4))
set_option maxHeartbeats 8000000 in
set_option maxRecDepth 100000 in
theorem laws_toGlobal.calls (a0_0 : ByteArray) (a0_1 : Int) (a0_2 : Int) (a0_3 : ByteArray) (a0_4 : Int) (r1 : ByteArray) (r2 : Int) (r3 : Int) (r4 : ByteArray) (r5 : Int) (w : World) (h : laws_toGlobal.f a0_0 a0_1 a0_2 a0_3 a0_4 = some (r1, r2, r3, r4, r5)) :
    Calls Tryd.prog 60 #[.agg #[.string a0_0, .int .i64 a0_1, .int .i64 a0_2, .string a0_3, .int .i64 a0_4]] w fun e w' => e = .returned (.agg #[.string r1, .int .i64 r2, .int .i64 r3, .string r4, .int .i64 r5]) ∧ Below w.heap.size w w' := by
  have hu91 := Tryd.underlying91
  have hu98 := Tryd.underlying98
  have hu47 := Tryd.underlying47
  have hu55 := Tryd.underlying55
  have HB := ak (Below.refl w.heap.size w)
  have H : ((laws_toValue.f a0_1 a0_2 a0_3).bind fun bt322 => (some (a0_0, bt322.1, bt322.2.1, bt322.2.2, a0_4))) = some (r1, r2, r3, r4, r5) := h
  clear h
  replace H := Option.bind_eq_some_iff.mp H
  obtain ⟨⟨t322, t323, t324⟩, A20, H⟩ := H
  replace H : (some (a0_0, t322, t323, t324, a0_4)) = some (r1, r2, r3, r4, r5) := H
  have A2 := ak A20
  clear A20
  simp only [Option.some.injEq, Prod.mk.injEq] at H
  obtain ⟨rfl, rfl, rfl, rfl, rfl⟩ := H
  go_enter Tryd.func60, Tryd.ntmps60
  go_wp2_with (first | ((with_reducible refine gate_dst (N := 1) rfl ?_); refine box_event ?hg (N := 1) ?hd (cs := #[.string a0_0, .int .i64 a0_1, .int .i64 a0_2, .string a0_3, .int .i64 a0_4]) (t := 91) ?hr ?_; (case hd => rfl); (case hg => rfl); (case hr => first | (go_simp; done) | (go_simp; rfl)); intro gb319 hg w3 hbox hb; have n0_ := ak (below_step d4_2 hb); have n1_ := ak (hbox); have n2_ := ak ((d4_14 : w.heap.size ≤ gb319)); have n3_ := ak ((d4_14 : w.heap.size ≤ gb319)); clear HB; have HB := n0_; have BK319 := n1_; have GW319 := n2_; have GE319 := n3_; clear n0_ n1_ n2_ n3_ hb hbox hg) | ((with_reducible refine gate_dst (N := 2) rfl ?_); refine box_event ?hg (N := 2) ?hd (cs := #[.string (⟨#[]⟩ : ByteArray), .int .i64 0, .int .i64 0, .string (⟨#[]⟩ : ByteArray), .int .i64 0]) (t := 98) ?hr ?_; (case hd => rfl); (case hg => rfl); (case hr => first | (go_simp; done) | (go_simp; rfl)); intro gb320 hg w4 hbox hb; have n0_ := ak (blk_below (g := gb319) (o := .cells #[.string a0_0, .int .i64 a0_1, .int .i64 a0_2, .string a0_3, .int .i64 a0_4] 91 (0, 0)) d4_7 hb); have n1_ := ak (below_step d4_11 hb); have n2_ := ak (hbox); have n3_ := ak ((by rw [hg]; exact (below_size d4_11) : w.heap.size ≤ gb320)); have n4_ := ak ((by rw [hg]; exact (below_size d4_11) : w.heap.size ≤ gb320)); have n5_ := ak ((by rw [hg]; exact Nat.ne_of_lt (blk_lt (g := gb319) (o := .cells #[.string a0_0, .int .i64 a0_1, .int .i64 a0_2, .string a0_3, .int .i64 a0_4] 91 (0, 0)) d4_7) : gb319 ≠ gb320)); have n6_ := ak ((by rw [hg]; exact Nat.ne_of_gt (blk_lt (g := gb319) (o := .cells #[.string a0_0, .int .i64 a0_1, .int .i64 a0_2, .string a0_3, .int .i64 a0_4] 91 (0, 0)) d4_7) : gb320 ≠ gb319)); clear BK319 HB; have BK319 := n0_; have HB := n1_; have BK320 := n2_; have GW320 := n3_; have GE320 := n4_; have NB319_320 := n5_; have NB320_319 := n6_; clear n0_ n1_ n2_ n3_ n4_ n5_ n6_ hb hbox hg) | ((with_reducible refine gate_dst (N := 3) rfl ?_); refine box_event ?hg (N := 3) ?hd (cs := #[.string (⟨#[]⟩ : ByteArray), .int .i64 0, .int .i64 0, .string (⟨#[]⟩ : ByteArray), .int .i64 0]) (t := 98) ?hr ?_; (case hd => rfl); (case hg => rfl); (case hr => first | (go_simp; done) | (go_simp; rfl)); intro gb321 hg w5 hbox hb; have n0_ := ak (blk_below (g := gb319) (o := .cells #[.string a0_0, .int .i64 a0_1, .int .i64 a0_2, .string a0_3, .int .i64 a0_4] 91 (0, 0)) d4_7 hb); have n1_ := ak (blk_below (g := gb320) (o := .cells #[.string (⟨#[]⟩ : ByteArray), .int .i64 0, .int .i64 0, .string (⟨#[]⟩ : ByteArray), .int .i64 0] 98 (0, 0)) (by (with_reducible repeat (first | refine blk_drewN ?_ _ | refine blk_drew ?_ | refine blk_alloc ?_ _)); exact BK320.out) hb); have n2_ := ak (below_step d4_9 hb); have n3_ := ak (hbox); have n4_ := ak ((by rw [hg]; exact (below_size d4_9) : w.heap.size ≤ gb321)); have n5_ := ak ((by rw [hg]; exact (below_size d4_9) : w.heap.size ≤ gb321)); have n6_ := ak ((by rw [hg]; exact Nat.ne_of_lt (blk_lt (g := gb319) (o := .cells #[.string a0_0, .int .i64 a0_1, .int .i64 a0_2, .string a0_3, .int .i64 a0_4] 91 (0, 0)) d4_7) : gb319 ≠ gb321)); have n7_ := ak ((by rw [hg]; exact Nat.ne_of_gt (blk_lt (g := gb319) (o := .cells #[.string a0_0, .int .i64 a0_1, .int .i64 a0_2, .string a0_3, .int .i64 a0_4] 91 (0, 0)) d4_7) : gb321 ≠ gb319)); have n8_ := ak ((by rw [hg]; exact Nat.ne_of_lt (blk_lt (g := gb320) (o := .cells #[.string (⟨#[]⟩ : ByteArray), .int .i64 0, .int .i64 0, .string (⟨#[]⟩ : ByteArray), .int .i64 0] 98 (0, 0)) (by (with_reducible repeat (first | refine blk_drewN ?_ _ | refine blk_drew ?_ | refine blk_alloc ?_ _)); exact BK320.out)) : gb320 ≠ gb321)); have n9_ := ak ((by rw [hg]; exact Nat.ne_of_gt (blk_lt (g := gb320) (o := .cells #[.string (⟨#[]⟩ : ByteArray), .int .i64 0, .int .i64 0, .string (⟨#[]⟩ : ByteArray), .int .i64 0] 98 (0, 0)) (by (with_reducible repeat (first | refine blk_drewN ?_ _ | refine blk_drew ?_ | refine blk_alloc ?_ _)); exact BK320.out)) : gb321 ≠ gb320)); clear BK319 BK320 HB; have BK319 := n0_; have BK320 := n1_; have HB := n2_; have BK321 := n3_; have GW321 := n4_; have GE321 := n5_; have NB319_321 := n6_; have NB321_319 := n7_; have NB320_321 := n8_; have NB321_320 := n9_; clear n0_ n1_ n2_ n3_ n4_ n5_ n6_ n7_ n8_ n9_ hb hbox hg; have hnb6 := NB319_320.out; have hnc6 := NB320_319.out; have hnb7 := NB319_321.out; have hnc7 := NB321_319.out; have hcz8_0 : w5.cell? ⟨gb319, 0, none⟩ = some (.string a0_0) := (blk_cell BK319.out 0).trans rfl; have hcz8_1 : w5.cell? ⟨gb319, 1, none⟩ = some (.int .i64 a0_1) := (blk_cell BK319.out 1).trans rfl; have hcz8_2 : w5.cell? ⟨gb319, 2, none⟩ = some (.int .i64 a0_2) := (blk_cell BK319.out 2).trans rfl; have hcz8_3 : w5.cell? ⟨gb319, 3, none⟩ = some (.string a0_3) := (blk_cell BK319.out 3).trans rfl; have hcz8_4 : w5.cell? ⟨gb319, 4, none⟩ = some (.int .i64 a0_4) := (blk_cell BK319.out 4).trans rfl; have hfz8_0 := blk_frozen BK319.out 0; have hfz8_1 := blk_frozen BK319.out 1; have hfz8_2 := blk_frozen BK319.out 2; have hfz8_3 := blk_frozen BK319.out 3; have hfz8_4 := blk_frozen BK319.out 4; have hnb9 := NB321_320.out; have hnc9 := NB320_321.out; have hcz10_0 : w5.cell? ⟨gb321, 0, none⟩ = some (.string (⟨#[]⟩ : ByteArray)) := (blk_cell BK321.out 0).trans rfl; have hcz10_1 : w5.cell? ⟨gb321, 1, none⟩ = some (.int .i64 0) := (blk_cell BK321.out 1).trans rfl; have hcz10_2 : w5.cell? ⟨gb321, 2, none⟩ = some (.int .i64 0) := (blk_cell BK321.out 2).trans rfl; have hcz10_3 : w5.cell? ⟨gb321, 3, none⟩ = some (.string (⟨#[]⟩ : ByteArray)) := (blk_cell BK321.out 3).trans rfl; have hcz10_4 : w5.cell? ⟨gb321, 4, none⟩ = some (.int .i64 0) := (blk_cell BK321.out 4).trans rfl; have hfz10_0 := blk_frozen BK321.out 0; have hfz10_1 := blk_frozen BK321.out 1; have hfz10_2 := blk_frozen BK321.out 2; have hfz10_3 := blk_frozen BK321.out 3; have hfz10_4 := blk_frozen BK321.out 4) | ((with_reducible refine gate_callee (f := 29) rfl ?_); refine goesL_ (some 9) rfl rfl Tryd.func29 (by kernel_rfl) rfl #[.agg #[.int .i64 a0_1, .int .i64 a0_2, .string a0_3]] rfl d4_5 ?_; (with_reducible refine (laws_toValue.calls a0_1 a0_2 a0_3 t322 t323 t324 _ A2.out).mono ?_); rintro e w11 ⟨rfl, hb⟩; refine ⟨_, rfl, ?_⟩; have n0_ := ak (blk_below (g := gb319) (o := .cells #[.string a0_0, .int .i64 a0_1, .int .i64 a0_2, .string a0_3, .int .i64 a0_4] 91 (0, 0)) (by (with_reducible repeat (first | refine blk_drewN ?_ _ | refine blk_drew ?_ | refine blk_alloc ?_ _)); refine blk_far ?_ NB319_321.out _; (with_reducible repeat (first | refine blk_drewN ?_ _ | refine blk_drew ?_ | refine blk_alloc ?_ _)); exact BK319.out) hb); have n1_ := ak (blk_below (g := gb320) (o := .cells #[.string (⟨#[]⟩ : ByteArray), .int .i64 0, .int .i64 0, .string (⟨#[]⟩ : ByteArray), .int .i64 0] 98 (0, 0)) (by (with_reducible repeat (first | refine blk_drewN ?_ _ | refine blk_drew ?_ | refine blk_alloc ?_ _)); refine blk_far ?_ NB320_321.out _; (with_reducible repeat (first | refine blk_drewN ?_ _ | refine blk_drew ?_ | refine blk_alloc ?_ _)); exact BK320.out) hb); have n2_ := ak (blk_below (g := gb321) (o := .cells #[.string a0_0, .int .i64 0, .int .i64 0, .string (⟨#[]⟩ : ByteArray), .int .i64 0] 98 (0, 0)) (by (with_reducible repeat (first | refine blk_drewN ?_ _ | refine blk_drew ?_ | refine blk_alloc ?_ _)); refine blk_put (cs := #[.string (⟨#[]⟩ : ByteArray), .int .i64 0, .int .i64 0, .string (⟨#[]⟩ : ByteArray), .int .i64 0]) ?_ 0 _ rfl; (with_reducible repeat (first | refine blk_drewN ?_ _ | refine blk_drew ?_ | refine blk_alloc ?_ _)); exact BK321.out) hb); have n3_ := ak (below_step (by repeat (first | (with_reducible first | exact HB.out | apply below_alloc | apply pw_below_drewN | apply below_drew1 | refine below_set ?_ GE319.out | refine below_set ?_ GE320.out | refine below_set ?_ GE321.out) | exact HB.out)) hb); clear BK319 BK320 BK321 HB; have BK319 := n0_; have BK320 := n1_; have BK321 := n2_; have HB := n3_; clear n0_ n1_ n2_ n3_; (try clear hb); have hcz12_0 : w11.cell? ⟨gb321, 0, none⟩ = some (.string a0_0) := (blk_cell BK321.out 0).trans rfl; have hcz12_1 : w11.cell? ⟨gb321, 1, none⟩ = some (.int .i64 0) := (blk_cell BK321.out 1).trans rfl; have hcz12_2 : w11.cell? ⟨gb321, 2, none⟩ = some (.int .i64 0) := (blk_cell BK321.out 2).trans rfl; have hcz12_3 : w11.cell? ⟨gb321, 3, none⟩ = some (.string (⟨#[]⟩ : ByteArray)) := (blk_cell BK321.out 3).trans rfl; have hcz12_4 : w11.cell? ⟨gb321, 4, none⟩ = some (.int .i64 0) := (blk_cell BK321.out 4).trans rfl; have hfz12_0 := blk_frozen BK321.out 0; have hfz12_1 := blk_frozen BK321.out 1; have hfz12_2 := blk_frozen BK321.out 2; have hfz12_3 := blk_frozen BK321.out 3; have hfz12_4 := blk_frozen BK321.out 4; have hcz13_0 : w11.cell? ⟨gb319, 0, none⟩ = some (.string a0_0) := (blk_cell BK319.out 0).trans rfl; have hcz13_1 : w11.cell? ⟨gb319, 1, none⟩ = some (.int .i64 a0_1) := (blk_cell BK319.out 1).trans rfl; have hcz13_2 : w11.cell? ⟨gb319, 2, none⟩ = some (.int .i64 a0_2) := (blk_cell BK319.out 2).trans rfl; have hcz13_3 : w11.cell? ⟨gb319, 3, none⟩ = some (.string a0_3) := (blk_cell BK319.out 3).trans rfl; have hcz13_4 : w11.cell? ⟨gb319, 4, none⟩ = some (.int .i64 a0_4) := (blk_cell BK319.out 4).trans rfl; have hfz13_0 := blk_frozen BK319.out 0; have hfz13_1 := blk_frozen BK319.out 1; have hfz13_2 := blk_frozen BK319.out 2; have hfz13_3 := blk_frozen BK319.out 3; have hfz13_4 := blk_frozen BK319.out 4; have hcz14_0 : w11.cell? ⟨gb320, 0, none⟩ = some (.string (⟨#[]⟩ : ByteArray)) := (blk_cell BK320.out 0).trans rfl; have hcz14_1 : w11.cell? ⟨gb320, 1, none⟩ = some (.int .i64 0) := (blk_cell BK320.out 1).trans rfl; have hcz14_2 : w11.cell? ⟨gb320, 2, none⟩ = some (.int .i64 0) := (blk_cell BK320.out 2).trans rfl; have hcz14_3 : w11.cell? ⟨gb320, 3, none⟩ = some (.string (⟨#[]⟩ : ByteArray)) := (blk_cell BK320.out 3).trans rfl; have hcz14_4 : w11.cell? ⟨gb320, 4, none⟩ = some (.int .i64 0) := (blk_cell BK320.out 4).trans rfl; have hfz14_0 := blk_frozen BK320.out 0; have hfz14_1 := blk_frozen BK320.out 1; have hfz14_2 := blk_frozen BK320.out 2; have hfz14_3 := blk_frozen BK320.out 3; have hfz14_4 := blk_frozen BK320.out 4))
  refine bodyPost_ret (results_cell_row rfl _ _ gb320 98 #[.string a0_0, .int .i64 t322, .int .i64 t323, .string t324, .int .i64 a0_4] (0, 0) _ rfl (by (with_reducible repeat (first | refine blk_drewN ?_ _ | refine blk_drew ?_ | refine blk_alloc ?_ _)); refine blk_put (cs := #[.string a0_0, .int .i64 t322, .int .i64 t323, .string t324, .int .i64 0]) ?_ 4 _ rfl; (with_reducible repeat (first | refine blk_drewN ?_ _ | refine blk_drew ?_ | refine blk_alloc ?_ _)); refine blk_put (cs := #[.string a0_0, .int .i64 t322, .int .i64 t323, .string (⟨#[]⟩ : ByteArray), .int .i64 0]) ?_ 3 _ rfl; (with_reducible repeat (first | refine blk_drewN ?_ _ | refine blk_drew ?_ | refine blk_alloc ?_ _)); refine blk_put (cs := #[.string a0_0, .int .i64 t322, .int .i64 0, .string (⟨#[]⟩ : ByteArray), .int .i64 0]) ?_ 2 _ rfl; (with_reducible repeat (first | refine blk_drewN ?_ _ | refine blk_drew ?_ | refine blk_alloc ?_ _)); refine blk_put (cs := #[.string a0_0, .int .i64 0, .int .i64 0, .string (⟨#[]⟩ : ByteArray), .int .i64 0]) ?_ 1 _ rfl; (with_reducible repeat (first | refine blk_drewN ?_ _ | refine blk_drew ?_ | refine blk_alloc ?_ _)); refine blk_put (cs := #[.string (⟨#[]⟩ : ByteArray), .int .i64 0, .int .i64 0, .string (⟨#[]⟩ : ByteArray), .int .i64 0]) ?_ 0 _ rfl; (with_reducible repeat (first | refine blk_drewN ?_ _ | refine blk_drew ?_ | refine blk_alloc ?_ _)); refine blk_far ?_ NB320_321.out _; (with_reducible repeat (first | refine blk_drewN ?_ _ | refine blk_drew ?_ | refine blk_alloc ?_ _)); refine blk_far ?_ NB320_321.out _; (with_reducible repeat (first | refine blk_drewN ?_ _ | refine blk_drew ?_ | refine blk_alloc ?_ _)); refine blk_far ?_ NB320_321.out _; (with_reducible repeat (first | refine blk_drewN ?_ _ | refine blk_drew ?_ | refine blk_alloc ?_ _)); refine blk_far ?_ NB320_321.out _; (with_reducible repeat (first | refine blk_drewN ?_ _ | refine blk_drew ?_ | refine blk_alloc ?_ _)); exact BK320.out) Tryd.underlying98 rfl (by kernel_rfl)) rfl ?_
  exact ⟨by first | rfl | (simp [errW_none, errW_some] <;> rfl) | (simp [*, errW_none, errW_some] <;> rfl), by repeat (first | (with_reducible first | exact HB.out | apply below_alloc | apply pw_below_drewN | apply below_drew1 | refine below_set ?_ GE319.out | refine below_set ?_ GE320.out | refine below_set ?_ GE321.out) | exact HB.out)⟩

/-! ### laws_toGlobalS: function 28 -/
def laws_toGlobalS.l0 : Nat → List (S91) → List (S98) → Int → Option ((List (S98)))
  | 0, _, _, _ => none
  | k + 1, x0, x3, x4 => if x4 < (x0.length : Int) then (if 0 ≤ x4 then ((laws_toGlobal.f ((rd_T91 x0 x4).f0) ((rd_T91 x0 x4).f1.f0) ((rd_T91 x0 x4).f1.f1) ((rd_T91 x0 x4).f1.f2) ((rd_T91 x0 x4).f2)).bind fun bt329 => (if x4 < (x3.length : Int) then (laws_toGlobalS.l0 k x0 (x3.set (x4 : Int).toNat (⟨bt329.1, (⟨bt329.2.1, bt329.2.2.1, bt329.2.2.2.1⟩ : S55), bt329.2.2.2.2⟩ : S98)) (wrap64 (x4 + 1))) else (none))) else (none)) else (some x3)
def laws_toGlobalS.f (k : Nat) (l0 : List (S91)) : Option ((List (S98))) := if 0 ≤ (l0.length : Int) then (if ((l0.length : Int) : Int).toNat ≤ 5026338869833 then (laws_toGlobalS.l0 k l0 (List.replicate ((l0.length : Int) : Int).toNat z98) 0) else (none)) else (none)
theorem laws_toGlobalS.mono_l : ∀ k, (∀ y0 y1 y2, LeO (laws_toGlobalS.l0 k y0 y1 y2) (laws_toGlobalS.l0 (k + 1) y0 y1 y2))
  | 0 => fun _ _ _ r h => by simp [laws_toGlobalS.l0] at h
  | k + 1 => by
    have ih0 := laws_toGlobalS.mono_l k
    · intro y0 y1 y2
      unfold laws_toGlobalS.l0
      repeat' first
      | (with_reducible exact ih0 _ _ _)
      | (with_reducible exact LeO.refl _)
      | (with_reducible exact LeO.none _)
      | (with_reducible refine LeO.ite ?_ ?_)
      | (with_reducible refine LeO.bind ?_ (fun _ => ?_))
      | exact ih0 _ _ _
      | exact LeO.none _
      | refine LeO.ite ?_ ?_
      | refine LeO.bind ?_ (fun _ => ?_)
theorem laws_toGlobalS.mono : ∀ a0 k, LeO (laws_toGlobalS.f k a0) (laws_toGlobalS.f (k + 1) a0) := by
  intro a0 k
  have ih0 := laws_toGlobalS.mono_l k
  unfold laws_toGlobalS.f
  repeat' first
      | (with_reducible exact ih0 _ _ _)
      | (with_reducible exact LeO.refl _)
      | (with_reducible exact LeO.none _)
      | (with_reducible refine LeO.ite ?_ ?_)
      | (with_reducible refine LeO.bind ?_ (fun _ => ?_))
      | exact ih0 _ _ _
      | exact LeO.none _
      | refine LeO.ite ?_ ?_
      | refine LeO.bind ?_ (fun _ => ?_)
set_option maxHeartbeats 8000000 in
set_option maxRecDepth 100000 in
theorem laws_toGlobalS.calls (k : Nat) (A0 : Option Addr) (c0 : Nat) (l0 : List (S91)) (r : List (S98)) (w : World) (hr0 : Kd.C k91 w A0 l0.length l0) (hc0 : l0.length ≤ c0) (h : laws_toGlobalS.f k l0 = some r) :
    Calls Tryd.prog 28 #[.slice A0 l0.length c0] w fun e w' => ∃ v0_ : Value, e = .returned (v0_) ∧ Kd.R k98 98 w' w.heap.size (fun _ => True) v0_ r ∧ Below w.heap.size w w' := by
  have hu91 := Tryd.underlying91
  have hu98 := Tryd.underlying98
  have HR0 := ak hr0
  have HC0 := ak hc0
  clear hr0 hc0
  have HB := ak (Below.refl w.heap.size w)
  have H : (if 0 ≤ (l0.length : Int) then (if ((l0.length : Int) : Int).toNat ≤ 5026338869833 then (laws_toGlobalS.l0 k l0 (List.replicate ((l0.length : Int) : Int).toNat z98) 0) else (none)) else (none)) = some r := h
  clear h
  by_cases c2 : 0 ≤ (l0.length : Int)
  ·rw [if_pos c2] at H
   have c2b0 := eq_true c2
   have c2b1 : decide (0 ≤ (l0.length : Int)) = true := decide_eq_true c2
   clear c2
   by_cases c3 : ((l0.length : Int) : Int).toNat ≤ 5026338869833
   ·rw [if_pos c3] at H
    have c3b0 := eq_true c3
    have c3b1 : decide (((l0.length : Int) : Int).toNat ≤ 5026338869833) = true := decide_eq_true c3
    clear c3
    obtain ⟨y325, hy325⟩ : ∃ y_ : List (S98), y_ = (List.replicate ((l0.length : Int) : Int).toNat z98) := ⟨_, rfl⟩
    replace H : (laws_toGlobalS.l0 k l0 y325 0) = some r := by first | (rw [hy325]; with_reducible exact H) | (have H2_ := (Option.bind_some _ _).symm.trans H; rw [hy325]; with_reducible exact H2_) | (have H2_ := (Option.bind_some _ _).symm.trans H; with_reducible exact H2_) | with_reducible exact H | (rw [hy325]; exact H) | exact H
    have Ny325 := ak hy325
    clear hy325
    have H' := ak H
    clear H
    go_enter Tryd.func28, Tryd.ntmps28
    go_wp2_with (first | ((with_reducible refine gate_dst (N := 7) rfl ?_); refine Kd.R_make k98 _ 98 rfl (N := 7) rfl 50 _ _ rfl (l0.length : Int) rfl rfl Tryd.underlying50 (.agg #[(.string ⟨#[]⟩), (.int .i64 0), (.int .i64 0), (.string ⟨#[]⟩), (.int .i64 0)]) 56 info98 rfl (by decide) (by omega) z98 (ok := fun _ => True) (okp := fun _ => True) (k98_mkM _ _ _ z98 ) (fun _ hk => hk) trivial (of_decide_eq_true d4_3) (Nat.le_trans (Nat.mul_le_mul_right _ (of_decide_eq_true d4_3 : (l0.length : Int).toNat ≤ 5026338869833)) (by omega)) (Below.refl _ _) (Nat.le_refl _) ?_; intro v326 w4 ho5 hb hg_ hnew_; clear hg_ hnew_; (first | rw [← Ny325.out] at ho5 | (simp only [Int.reduceToNat] at ho5; rw [← Ny325.out] at ho5)); have n0_ := ak (Kd.R_lower ho5 (below_size d4_2)); have n1_ := ak (below_step d4_2 hb); clear HB; have HO327 := n0_; have HB := n1_; clear n0_ n1_ hb ho5))
    go_loopg [4] k (fun kq v4 w' => ∃ (x3_1 : List (S98)) (x4_1 : Int), v4 = .int .i64 x4_1 ∧ Aside0 (laws_toGlobalS.l0 kq l0 x3_1 x4_1 = some r) ∧ Aside0 (kq ≤ k) ∧ Aside0 (Kd.R k98 98 w' w.heap.size (fun _ => True) v326 x3_1) ∧ Aside0 (Below w.heap.size w w'))
    case atStart => exact ⟨(y325), (0), (by first | rfl | (simp; done) | (simp [*]; done) | (simp [ne_nil_b, eq_nil_b]; done)), H', ⟨Nat.le_refl _⟩, ⟨by (with_reducible repeat (first | apply Kd.R_alloc | apply Kd.R_drewN | apply Kd.R_drew)); exact HO327.out⟩, ⟨by repeat (first | (with_reducible first | exact HB.out | apply below_alloc | apply pw_below_drewN | apply below_drew1) | exact HB.out)⟩⟩
    case round =>
     clear H'
     try clear c2
     try clear c2b0
     try clear c2b1
     try clear p2
     try clear c3
     try clear c3b0
     try clear c3b1
     obtain ⟨x3_1, x4_1, rfl, HA, HK1, HO_3, HB⟩ := hrel
     cases gk with
     | zero => exact absurd HA.out (by simp [laws_toGlobalS.l0])
     | succ k1 =>
      have H := HA.out
      clear HA
      simp only [laws_toGlobalS.l0] at H
      by_cases c6 : x4_1 < (l0.length : Int)
      ·rw [if_pos c6] at H
       have c6b0 : decide (x4_1 < (l0.length : Int)) = true := decide_eq_true c6
       clear c6
       by_cases c7 : 0 ≤ x4_1
       ·rw [if_pos c7] at H
        have c7b0 : decide (0 ≤ x4_1) = true := decide_eq_true c7
        clear c7
        replace H := Option.bind_eq_some_iff.mp H
        obtain ⟨⟨t329, t330, t331, t332, t333⟩, A80, H⟩ := H
        replace H : (if x4_1 < (x3_1.length : Int) then (laws_toGlobalS.l0 k1 l0 (x3_1.set (x4_1 : Int).toNat (⟨t329, (⟨t330, t331, t332⟩ : S55), t333⟩ : S98)) (wrap64 (x4_1 + 1))) else (none)) = some r := H
        have A8 := ak A80
        clear A80
        by_cases c9 : x4_1 < (x3_1.length : Int)
        ·rw [if_pos c9] at H
         have c9b0 : decide (x4_1 < (x3_1.length : Int)) = true := decide_eq_true c9
         clear c9
         obtain ⟨y334, hy334⟩ : ∃ y_ : List (S98), y_ = (x3_1.set (x4_1 : Int).toNat (⟨t329, (⟨t330, t331, t332⟩ : S55), t333⟩ : S98)) := ⟨_, rfl⟩
         replace H : (laws_toGlobalS.l0 k1 l0 y334 (wrap64 (x4_1 + 1))) = some r := by first | (rw [hy334]; with_reducible exact H) | (have H2_ := (Option.bind_some _ _).symm.trans H; rw [hy334]; with_reducible exact H2_) | (have H2_ := (Option.bind_some _ _).symm.trans H; with_reducible exact H2_) | with_reducible exact H | (rw [hy334]; exact H) | exact H
         have Ny334 := ak hy334
         clear hy334
         have H' := ak H
         clear H
         have p328 : 0 ≤ (x4_1 : Int) := of_decide_eq_true d4_3
         have q328 : x4_1 < (l0.length : Int) := of_decide_eq_true d4_3
         obtain ⟨ad328, e328, hx328_0, hx328_1, hx328_2, hx328_3, hx328_4⟩ := at_T91 HR0.out x4_1 p328 q328
         cases e328
         replace hx328_0 := (HB.out.cell (World.block_lt_of_cell? w _ hx328_0)).trans hx328_0
         replace hx328_1 := (HB.out.cell (World.block_lt_of_cell? w _ hx328_1)).trans hx328_1
         replace hx328_2 := (HB.out.cell (World.block_lt_of_cell? w _ hx328_2)).trans hx328_2
         replace hx328_3 := (HB.out.cell (World.block_lt_of_cell? w _ hx328_3)).trans hx328_3
         replace hx328_4 := (HB.out.cell (World.block_lt_of_cell? w _ hx328_4)).trans hx328_4
         replace p328 := eq_true p328
         replace q328 := eq_true q328
         go_wp2_with (first | ((with_reducible refine gate_callee (f := 60) rfl ?_); refine goesL_ (some 20) rfl rfl Tryd.func60 (by kernel_rfl) rfl #[.agg #[.string ((rd_T91 l0 x4_1).f0), .int .i64 ((rd_T91 l0 x4_1).f1.f0), .int .i64 ((rd_T91 l0 x4_1).f1.f1), .string ((rd_T91 l0 x4_1).f1.f2), .int .i64 ((rd_T91 l0 x4_1).f2)]] rfl d4_5 ?_; (with_reducible refine (laws_toGlobal.calls ((rd_T91 l0 x4_1).f0) ((rd_T91 l0 x4_1).f1.f0) ((rd_T91 l0 x4_1).f1.f1) ((rd_T91 l0 x4_1).f1.f2) ((rd_T91 l0 x4_1).f2) t329 t330 t331 t332 t333 _ A8.out).mono ?_); rintro e w11 ⟨rfl, hb⟩; refine ⟨_, rfl, ?_⟩; have n0_ := ak (Kd.R_below (by (with_reducible repeat (first | apply Kd.R_alloc | apply Kd.R_drewN | apply Kd.R_drew)); exact HO_3.out) hb); have n1_ := ak (below_step d4_2 hb); clear HO_3 HB; have HO_3 := n0_; have HB := n1_; clear n0_ n1_; (try clear hb); (try clear hk); have p10 : 0 ≤ (x4_1 : Int) := of_decide_eq_true d4_3; have q10 : (x4_1 : Int) < ((x3_1.length : Int) : Int) := of_decide_eq_true d4_3; obtain ⟨go10, co10, eo10, gb10, gl10, cl10, HG10⟩ := Kd.R_form HO_3.out (by omega); (first | cases eo10 | (injection eo10 with ea_ en_ ec_; (first | subst ea_ | (injection ea_ with ea_; subst ea_)); subst ec_; clear en_)); have GB10 := ak gb10; have GG10 := ak HG10; clear gb10 gl10 HG10; obtain ⟨ce10, hcl10, hM10, hcc10, hfr10⟩ := Kd.R_elem HO_3.out z98 (x4_1 : Int) p10 q10; obtain rfl := k98_openM hM10; have hx10_0 : w11.cell? ⟨go10, (x4_1 : Int).toNat * 5, none⟩ = some (.string ((rd_T98 x3_1 x4_1).f0)) := hcc10 0 _ rfl; have hx10_1 : w11.cell? ⟨go10, (x4_1 : Int).toNat * 5 + 1, none⟩ = some (.int .i64 ((rd_T98 x3_1 x4_1).f1.f0)) := hcc10 1 _ rfl; have hx10_2 : w11.cell? ⟨go10, (x4_1 : Int).toNat * 5 + 2, none⟩ = some (.int .i64 ((rd_T98 x3_1 x4_1).f1.f1)) := hcc10 2 _ rfl; have hx10_3 : w11.cell? ⟨go10, (x4_1 : Int).toNat * 5 + 3, none⟩ = some (.string ((rd_T98 x3_1 x4_1).f1.f2)) := hcc10 3 _ rfl; have hx10_4 : w11.cell? ⟨go10, (x4_1 : Int).toNat * 5 + 4, none⟩ = some (.int .i64 ((rd_T98 x3_1 x4_1).f2)) := hcc10 4 _ rfl; have hf10_0 : w11.frozen? ⟨go10, (x4_1 : Int).toNat * 5, none⟩ = false := hfr10 0; have hf10_1 : w11.frozen? ⟨go10, (x4_1 : Int).toNat * 5 + 1, none⟩ = false := hfr10 1; have hf10_2 : w11.frozen? ⟨go10, (x4_1 : Int).toNat * 5 + 2, none⟩ = false := hfr10 2; have hf10_3 : w11.frozen? ⟨go10, (x4_1 : Int).toNat * 5 + 3, none⟩ = false := hfr10 3; have hf10_4 : w11.frozen? ⟨go10, (x4_1 : Int).toNat * 5 + 4, none⟩ = false := hfr10 4; clear hcl10 hcc10 hfr10 hM10; replace p10 := eq_true p10; replace q10 := eq_true q10; have HX12 := ak (show Kd.R k98 98 w11 w.heap.size (fun _ => True) (.slice (some ⟨go10, 0, none⟩) x3_1.length co10) x3_1 from (by (with_reducible repeat (first | apply Kd.R_alloc | apply Kd.R_drewN | apply Kd.R_drew)); exact HO_3.out)); obtain ⟨ce12, hcl12, hM12, hcc12, hfr12⟩ := Kd.R_elem HX12.out z98 (x4_1 : Int) (of_decide_eq_true d4_3) (by have h_ : (x4_1 : Int) < ((x3_1.length : Int) : Int) := of_decide_eq_true d4_3; first | exact h_ | (have e_ := (Kd.R_reads' HO_3.out).1; omega) | simpa using h_); obtain rfl := k98_openM hM12; have HP12 := Kd.R_seg HX12.out (x4_1 : Int) (of_decide_eq_true d4_3) (by have h_ : (x4_1 : Int) < ((x3_1.length : Int) : Int) := of_decide_eq_true d4_3; first | exact h_ | (have e_ := (Kd.R_reads' HO_3.out).1; omega) | simpa using h_) (seg := [.string t329, .int .i64 t330, .int .i64 t331, .string t332, .int .i64 t333]) (j := 0) hcl12 hcc12 (show 5 ≤ 5 from by decide) (x' := (⟨t329, (⟨t330, t331, t332⟩ : S55), t333⟩ : S98)) (k98_mkM _ _ _ (⟨t329, (⟨t330, t331, t332⟩ : S55), t333⟩ : S98) ) (fun _ hk => hk); have hx12_0 := hcc12 0 _ rfl; (try simp only [show (k98).sz = 5 from rfl, Nat.mul_one, Nat.add_zero] at hx12_0); have hf12_0 := hfr12 0; (try simp only [show (k98).sz = 5 from rfl, Nat.mul_one, Nat.add_zero] at hf12_0); have hx12_1 := hcc12 1 _ rfl; (try simp only [show (k98).sz = 5 from rfl, Nat.mul_one, Nat.add_zero] at hx12_1); have hf12_1 := hfr12 1; (try simp only [show (k98).sz = 5 from rfl, Nat.mul_one, Nat.add_zero] at hf12_1); have hx12_2 := hcc12 2 _ rfl; (try simp only [show (k98).sz = 5 from rfl, Nat.mul_one, Nat.add_zero] at hx12_2); have hf12_2 := hfr12 2; (try simp only [show (k98).sz = 5 from rfl, Nat.mul_one, Nat.add_zero] at hf12_2); have hx12_3 := hcc12 3 _ rfl; (try simp only [show (k98).sz = 5 from rfl, Nat.mul_one, Nat.add_zero] at hx12_3); have hf12_3 := hfr12 3; (try simp only [show (k98).sz = 5 from rfl, Nat.mul_one, Nat.add_zero] at hf12_3); have hx12_4 := hcc12 4 _ rfl; (try simp only [show (k98).sz = 5 from rfl, Nat.mul_one, Nat.add_zero] at hx12_4); have hf12_4 := hfr12 4; (try simp only [show (k98).sz = 5 from rfl, Nat.mul_one, Nat.add_zero] at hf12_4); clear hcl12 hcc12 hfr12 hM12) | ((with_reducible refine gate_store (t := 98) (p := 21) rfl ?_); refine store_event (t := 98) (p := 21) (v := ?vo_w13) (w1 := (((((w11.setCell ⟨go10, (x4_1 : Int).toNat * 5, none⟩ (.string t329)).setCell ⟨go10, (x4_1 : Int).toNat * 5 + 1, none⟩ (.int .i64 t330)).setCell ⟨go10, (x4_1 : Int).toNat * 5 + 2, none⟩ (.int .i64 t331)).setCell ⟨go10, (x4_1 : Int).toNat * 5 + 3, none⟩ (.string t332)).setCell ⟨go10, (x4_1 : Int).toNat * 5 + 4, none⟩ (.int .i64 t333))) ?hg ?ho ?hn ?hr ?_; (case ho => rfl); (case hg => rfl); (case hn => rfl); (case hr => first | (go_simp; done) | (go_simp; rfl)); intro w13 hw; have hg : w11.grownBy w13 (some go10) := (by rw [hw]; exact HP12.2); have hp_ : Kd.R k98 98 w13 w.heap.size (fun _ => True) (.slice (some ⟨go10, 0, none⟩) x3_1.length co10) y334 := (by rw [hw, Ny334.out]; exact HP12.1); clear HP12; have n0_ := ak (hp_); have n1_ := ak ((by rw [hw]; exact below_set (below_set (below_set (below_set (below_set (HB.out) GB10.out) GB10.out) GB10.out) GB10.out) GB10.out : Below w.heap.size w w13)); clear HO_3 HB; have HO_3 := n0_; have HB := n1_; clear n0_ n1_ hg hw hp_))
         go_roundg k1
         case measure => have := HK1.out; omega
         case rel => exact ⟨(y334), (wrap64 (x4_1 + 1)), (by first | rfl | (simp; done) | (simp [*]; done) | (simp [ne_nil_b, eq_nil_b]; done)), H', ⟨by have := HK1.out; omega⟩, ⟨by (with_reducible repeat (first | apply Kd.R_alloc | apply Kd.R_drewN | apply Kd.R_drew)); exact HO_3.out⟩, ⟨by repeat (first | (with_reducible first | exact HB.out | apply below_alloc | apply pw_below_drewN | apply below_drew1) | exact HB.out)⟩⟩
        ·rw [if_neg c9] at H
         exact absurd H (by simp)
       ·rw [if_neg c7] at H
        exact absurd H (by simp)
      ·rw [if_neg c6] at H
       have c6b0 : decide (x4_1 < (l0.length : Int)) = false := decide_eq_false c6
       clear c6
       obtain rfl := Option.some.inj H
       go_wp2
       go_ret
       exact ⟨_, by first | rfl | (simp [errW_none, errW_some] <;> rfl) | (simp [*, errW_none, errW_some] <;> rfl), by (with_reducible repeat (first | apply Kd.R_alloc | apply Kd.R_drewN | apply Kd.R_drew)); exact HO_3.out, by repeat (first | (with_reducible first | exact HB.out | apply below_alloc | apply pw_below_drewN | apply below_drew1) | exact HB.out)⟩
   ·rw [if_neg c3] at H
    exact absurd H (by simp)
  ·rw [if_neg c2] at H
   exact absurd H (by simp)

/-! ### impl_isPlaced: function 116 -/
def impl_isPlaced.f (a0 : Int) : Option (Bool) := (impl_in.f a0 5 8).bind fun t335 => (some t335)
set_option maxHeartbeats 8000000 in
set_option maxRecDepth 100000 in
theorem impl_isPlaced.calls (a0 : Int) (r : Bool) (w : World) (h : impl_isPlaced.f a0 = some r) :
    Calls Tryd.prog 116 #[.int .i64 a0] w fun e w' => e = .returned (.bool r) ∧ Drawn0 w w' := by
  have H : ((impl_in.f a0 5 8).bind fun t335 => (some t335)) = some r := h
  clear h
  replace H := Option.bind_eq_some_iff.mp H
  obtain ⟨t335, A20, H⟩ := H
  replace H : (some t335) = some r := H
  have A2 := ak A20
  clear A20
  obtain rfl := Option.some.inj H
  go_enter Tryd.func116, Tryd.ntmps116
  go_wp2_with (first | ((with_reducible refine gate_callee (f := 51) rfl ?_); refine goesL_ (some 4) rfl rfl Tryd.func51 (by kernel_rfl) rfl #[.int .i64 a0, .int .i64 5, .int .i64 8] rfl d4_5 ?_; (with_reducible refine (impl_in.calls a0 5 8 t335 _ A2.out).mono ?_); rintro e w' ⟨rfl, ⟨nd, rfl⟩⟩; refine ⟨_, rfl, ?_⟩))
  go_ret
  exact ⟨by first | rfl | (simp; done) | (simp [*]; done) | (simp [ne_nil_b, eq_nil_b]; done), by repeat (first | exact Drawn0.refl _ | apply Drawn0.step)⟩

end Go.Proofs.YthjfdohcdkpdnaaDoor.A
