/- Walks of the program's functions: each Go function's answer as a plain Lean function, and that the call comes to it. Written by a program. Conditions: those in each theorem's own head. -/
import Derived.Test.YtcliaceiijaafaaDoorA0
import Derived.Test.YtcliaceiijaafaaDoorA4
import Derived.Test.YtcliaceiijaafaaDoorA7
import Derived.Test.YtcliaceiijaafaaDoorA10
namespace Go.Proofs.YtcliaceiijaafaaDoor.A
open Go.RowKit Go.Proofs.YtcliaceiijaafaaDoorW.PrintWords Go.Proofs.YtcliaceiijaafaaDoorW.PrintLast Go.Proofs.YtcliaceiijaafaaDoorW.PrintMore
attribute [local go_sem] max2_int min2_int max_two min_two max_three min_three max_four min_four   -- for this text's walks alone
set_option linter.unusedVariables false
set_option linter.unusedSimpArgs false

theorem d11_1 {p : Prop} (h : p := by (with_reducible repeat (first | refine blk_drewN ?_ _ | refine blk_drew ?_ | refine blk_alloc ?_ _)); exact BK339.out) : p := h
theorem d11_2 {p : Prop} (h : p := by repeat (first | (with_reducible first | exact HB.out | apply below_alloc | apply pw_below_drewN | apply below_drew1 | refine below_set ?_ GE324.out) | exact HB.out)) : p := h
theorem d11_3 {p : Prop} (h : p := by repeat (first | (with_reducible first | exact HB.out | apply below_alloc | apply pw_below_drewN | apply below_drew1) | exact HB.out)) : p := h
theorem d11_4 {p : Prop} (h : p := by first | (with_reducible assumption) | assumption) : p := h
theorem d11_5 {p : Prop} (h : p := by (try simp only [List.map_toArray, List.map_cons, List.map_nil]); first | done | rfl | (simp only [List.length_drop, List.length_take]; rfl)) : p := h
theorem d11_6 {p : Prop} (h : p := by repeat (first | (with_reducible first | exact HB.out | apply below_alloc | apply pw_below_drewN | apply below_drew1 | refine below_set ?_ GE339.out) | exact HB.out)) : p := h
theorem d11_7 {p : Prop} (h : p := by (with_reducible repeat (first | refine blk_drewN ?_ _ | refine blk_drew ?_ | refine blk_alloc ?_ _)); exact BK324.out) : p := h
theorem d11_8 {p : Prop} (h : p := by repeat (first | (with_reducible first | exact HB.out | apply below_alloc | apply pw_below_drewN | apply below_drew1 | refine below_set ?_ GE339.out | refine below_set ?_ GE340.out) | exact HB.out)) : p := h
theorem d11_9 {p : Prop} (h : p := by (with_reducible repeat (first | refine blk_drewN ?_ _ | refine blk_drew ?_ | refine blk_alloc ?_ _)); exact BK340.out) : p := h
theorem d11_10 {p : Prop} (h : p := by (with_reducible repeat (first | apply Kd.R_alloc | apply Kd.R_drewN | apply Kd.R_drew)); exact HO327.out) : p := h
theorem d11_11 {p : Prop} (h : p := by (with_reducible repeat (first | apply Kd.R_alloc | apply Kd.R_drewN | apply Kd.R_drew)); exact HO330.out) : p := h
theorem d11_12 {p : Prop} (h : p := by rw [hg]; exact (below_size d11_3)) : p := h

/-! ### spec_l7Fault: function 83 -/
def spec_l7Fault.l0 : Nat → List (S35) → Int → Option (Int)
  | 0, _, _ => none
  | k + 1, x0, x3 => if x3 < (x0.length : Int) then (if 0 ≤ x3 then ((spec_l2Sym.f k ((rd_T35 x0 x3).f0)).bind fun t310 => (if t310 = true then ((spec_l5Fault.f k ((rd_T35 x0 x3).f1.f0) ((rd_T35 x0 x3).f1.f1) ((rd_T35 x0 x3).f1.f2)).bind fun t312 => (if t312 = 0 then ((spec_l7Version.f ((rd_T35 x0 x3).f2)).bind fun t314 => (if t314 = true then (if x3 ≤ (x0.length : Int) then ((spec_l7At.f k (x0.take (x3 : Int).toNat) ((rd_T35 x0 x3).f0)).bind fun t320 => (if t320 ≥ 0 then (some 1) else (spec_l7Fault.l0 k x0 (wrap64 (x3 + 1))))) else (none)) else (some 3))) else (some t312))) else (some 5))) else (none)) else (some 0)
def spec_l7Fault.f (k : Nat) (l0 : List (S35)) : Option (Int) := if (l0.length : Int) > 60 then (some 2) else (spec_l7Fault.l0 k l0 0)
theorem spec_l7Fault.mono_l : ∀ k, (∀ y0 y1, LeO (spec_l7Fault.l0 k y0 y1) (spec_l7Fault.l0 (k + 1) y0 y1))
  | 0 => fun _ _ r h => by simp [spec_l7Fault.l0] at h
  | k + 1 => by
    have ih0 := spec_l7Fault.mono_l k
    · intro y0 y1
      unfold spec_l7Fault.l0
      repeat' first
      | (with_reducible exact ih0 _ _)
      | (with_reducible exact spec_l2Sym.mono _ _)
      | (with_reducible exact spec_l5Fault.mono _ _ _ _)
      | (with_reducible exact spec_l7At.mono _ _ _)
      | (with_reducible exact LeO.refl _)
      | (with_reducible exact LeO.none _)
      | (with_reducible refine LeO.ite ?_ ?_)
      | (with_reducible refine LeO.bind ?_ (fun _ => ?_))
      | exact ih0 _ _
      | exact spec_l2Sym.mono _ _
      | exact spec_l5Fault.mono _ _ _ _
      | exact spec_l7At.mono _ _ _
      | exact LeO.none _
      | refine LeO.ite ?_ ?_
      | refine LeO.bind ?_ (fun _ => ?_)
theorem spec_l7Fault.mono : ∀ a0 k, LeO (spec_l7Fault.f k a0) (spec_l7Fault.f (k + 1) a0) := by
  intro a0 k
  have ih0 := spec_l7Fault.mono_l k
  unfold spec_l7Fault.f
  repeat' first
      | (with_reducible exact ih0 _ _)
      | (with_reducible exact spec_l2Sym.mono _ _)
      | (with_reducible exact spec_l5Fault.mono _ _ _ _)
      | (with_reducible exact spec_l7At.mono _ _ _)
      | (with_reducible exact LeO.refl _)
      | (with_reducible exact LeO.none _)
      | (with_reducible refine LeO.ite ?_ ?_)
      | (with_reducible refine LeO.bind ?_ (fun _ => ?_))
      | exact ih0 _ _
      | exact spec_l2Sym.mono _ _
      | exact spec_l5Fault.mono _ _ _ _
      | exact spec_l7At.mono _ _ _
      | exact LeO.none _
      | refine LeO.ite ?_ ?_
      | refine LeO.bind ?_ (fun _ => ?_)
set_option maxHeartbeats 8000000 in
set_option maxRecDepth 100000 in
theorem spec_l7Fault.calls (k : Nat) (A0 : Option Addr) (c0 : Nat) (l0 : List (S35)) (r : Int) (w : World) (hr0 : Kd.C k35 w A0 l0.length l0) (hc0 : l0.length ≤ c0) (h : spec_l7Fault.f k l0 = some r) :
    Calls Tryd.prog 83 #[.slice A0 l0.length c0] w fun e w' => e = .returned (.int .i64 r) ∧ Drawn0 w w' := by
  have HR0 := ak hr0
  have HC0 := ak hc0
  clear hr0 hc0
  have H : (if (l0.length : Int) > 60 then (some 2) else (spec_l7Fault.l0 k l0 0)) = some r := h
  clear h
  by_cases c2 : (l0.length : Int) > 60
  ·rw [if_pos c2] at H
   have c2b0 : decide (60 < (l0.length : Int)) = true := decide_eq_true c2
   have c2b1 : decide (60 < l0.length) = true := decide_eq_true (by omega)
   clear c2
   obtain rfl := Option.some.inj H
   go_enter Tryd.func83, Tryd.ntmps83
   go_wp2
   repeat (go_quiet (fail); try go_wp2)
   go_ret
   exact ⟨by first | rfl | (simp; done) | (simp [*]; done) | (simp [ne_nil_b, eq_nil_b]; done), by repeat (first | exact Drawn0.refl _ | apply Drawn0.step)⟩
  ·rw [if_neg c2] at H
   have c2b0 : decide (60 < (l0.length : Int)) = false := decide_eq_false c2
   have c2b1 : decide (60 < l0.length) = false := decide_eq_false (by omega)
   clear c2
   have H' := ak H
   clear H
   go_enter Tryd.func83, Tryd.ntmps83
   go_wp2
   repeat (go_quiet (fail); try go_wp2)
   go_loopg [3] k (fun kq v3 w' => ∃ (x3_1 : Int), v3 = .int .i64 x3_1 ∧ Aside0 (spec_l7Fault.l0 kq l0 x3_1 = some r) ∧ Aside0 (kq ≤ k) ∧ Drawn0 w w')
   case atStart => exact ⟨(0), (by first | rfl | (simp; done) | (simp [*]; done) | (simp [ne_nil_b, eq_nil_b]; done)), H', ⟨Nat.le_refl _⟩, by repeat (first | exact Drawn0.refl _ | apply Drawn0.step)⟩
   case round =>
    clear H'
    try clear c2
    try clear c2b0
    try clear c2b1
    try clear p2
    obtain ⟨x3_1, rfl, HA, HK1, ⟨m1, rfl⟩⟩ := hrel
    cases gk with
    | zero => exact absurd HA.out (by simp [spec_l7Fault.l0])
    | succ k1 =>
     have H := HA.out
     clear HA
     simp only [spec_l7Fault.l0] at H
     by_cases c3 : x3_1 < (l0.length : Int)
     ·rw [if_pos c3] at H
      have c3b0 : decide (x3_1 < (l0.length : Int)) = true := decide_eq_true c3
      clear c3
      by_cases c4 : 0 ≤ x3_1
      ·rw [if_pos c4] at H
       have c4b0 : decide (0 ≤ x3_1) = true := decide_eq_true c4
       clear c4
       replace H := Option.bind_eq_some_iff.mp H
       obtain ⟨t310, A50, H⟩ := H
       replace H : (if t310 = true then ((spec_l5Fault.f k1 ((rd_T35 l0 x3_1).f1.f0) ((rd_T35 l0 x3_1).f1.f1) ((rd_T35 l0 x3_1).f1.f2)).bind fun t312 => (if t312 = 0 then ((spec_l7Version.f ((rd_T35 l0 x3_1).f2)).bind fun t314 => (if t314 = true then (if x3_1 ≤ (l0.length : Int) then ((spec_l7At.f k1 (l0.take (x3_1 : Int).toNat) ((rd_T35 l0 x3_1).f0)).bind fun t320 => (if t320 ≥ 0 then (some 1) else (spec_l7Fault.l0 k1 l0 (wrap64 (x3_1 + 1))))) else (none)) else (some 3))) else (some t312))) else (some 5)) = some r := H
       have A5 := ak A50
       clear A50
       by_cases c6 : t310 = true
       ·subst c6
        have H1 : ((spec_l5Fault.f k1 ((rd_T35 l0 x3_1).f1.f0) ((rd_T35 l0 x3_1).f1.f1) ((rd_T35 l0 x3_1).f1.f2)).bind fun t312 => (if t312 = 0 then ((spec_l7Version.f ((rd_T35 l0 x3_1).f2)).bind fun t314 => (if t314 = true then (if x3_1 ≤ (l0.length : Int) then ((spec_l7At.f k1 (l0.take (x3_1 : Int).toNat) ((rd_T35 l0 x3_1).f0)).bind fun t320 => (if t320 ≥ 0 then (some 1) else (spec_l7Fault.l0 k1 l0 (wrap64 (x3_1 + 1))))) else (none)) else (some 3))) else (some t312))) = some r := by rw [if_pos rfl] at H; exact H
        clear H
        have H := H1
        clear H1
        replace H := Option.bind_eq_some_iff.mp H
        obtain ⟨t312, A70, H⟩ := H
        replace H : (if t312 = 0 then ((spec_l7Version.f ((rd_T35 l0 x3_1).f2)).bind fun t314 => (if t314 = true then (if x3_1 ≤ (l0.length : Int) then ((spec_l7At.f k1 (l0.take (x3_1 : Int).toNat) ((rd_T35 l0 x3_1).f0)).bind fun t320 => (if t320 ≥ 0 then (some 1) else (spec_l7Fault.l0 k1 l0 (wrap64 (x3_1 + 1))))) else (none)) else (some 3))) else (some t312)) = some r := H
        have A7 := ak A70
        clear A70
        by_cases c8 : t312 = 0
        ·rw [if_pos c8] at H
         have c8b0 : (t312 == 0) = true := beq_iff_eq.mpr c8
         have c8b1 : (t312 != 0) = false := bne_eq_false_iff_eq.mpr c8
         clear c8
         replace H := Option.bind_eq_some_iff.mp H
         obtain ⟨t314, A90, H⟩ := H
         replace H : (if t314 = true then (if x3_1 ≤ (l0.length : Int) then ((spec_l7At.f k1 (l0.take (x3_1 : Int).toNat) ((rd_T35 l0 x3_1).f0)).bind fun t320 => (if t320 ≥ 0 then (some 1) else (spec_l7Fault.l0 k1 l0 (wrap64 (x3_1 + 1))))) else (none)) else (some 3)) = some r := H
         have A9 := ak A90
         clear A90
         by_cases c10 : t314 = true
         ·subst c10
          have H1 : (if x3_1 ≤ (l0.length : Int) then ((spec_l7At.f k1 (l0.take (x3_1 : Int).toNat) ((rd_T35 l0 x3_1).f0)).bind fun t320 => (if t320 ≥ 0 then (some 1) else (spec_l7Fault.l0 k1 l0 (wrap64 (x3_1 + 1))))) else (none)) = some r := by rw [if_pos rfl] at H; exact H
          clear H
          have H := H1
          clear H1
          have c11b0 := eq_true (of_decide_eq_true d11_4 : 0 ≤ x3_1)
          by_cases c12 : x3_1 ≤ (l0.length : Int)
          ·rw [if_pos c12] at H
           have c12b0 := eq_true c12
           have c12b1 : decide (x3_1 ≤ (l0.length : Int)) = true := decide_eq_true c12
           clear c12
           obtain ⟨y315, hy315⟩ : ∃ y_ : List (S35), y_ = (l0.take (x3_1 : Int).toNat) := ⟨_, rfl⟩
           replace H : ((spec_l7At.f k1 y315 ((rd_T35 l0 x3_1).f0)).bind fun t320 => (if t320 ≥ 0 then (some 1) else (spec_l7Fault.l0 k1 l0 (wrap64 (x3_1 + 1))))) = some r := by first | (rw [hy315]; with_reducible exact H) | (have H2_ := (Option.bind_some _ _).symm.trans H; rw [hy315]; with_reducible exact H2_) | (have H2_ := (Option.bind_some _ _).symm.trans H; with_reducible exact H2_) | with_reducible exact H | (rw [hy315]; exact H) | exact H
           have Ny315 := ak hy315
           clear hy315
           replace H := Option.bind_eq_some_iff.mp H
           obtain ⟨t320, A130, H⟩ := H
           replace H : (if t320 ≥ 0 then (some 1) else (spec_l7Fault.l0 k1 l0 (wrap64 (x3_1 + 1)))) = some r := H
           have A13 := ak A130
           clear A130
           by_cases c14 : t320 ≥ 0
           ·rw [if_pos c14] at H
            have c14b0 : decide (0 ≤ t320) = true := decide_eq_true c14
            clear c14
            obtain rfl := Option.some.inj H
            have p309 : 0 ≤ (x3_1 : Int) := of_decide_eq_true d11_4
            have q309 : x3_1 < (l0.length : Int) := of_decide_eq_true d11_4
            obtain ⟨ad309, e309, hx309_0, hx309_1, hx309_2, hx309_3, hx309_4⟩ := at_T35 HR0.out x3_1 p309 q309
            cases e309
            replace p309 := eq_true p309
            replace q309 := eq_true q309
            go_wp2_with (first | (go_at_call 87; (with_reducible refine (spec_l2Sym.calls k1 ((rd_T35 l0 x3_1).f0) true _ A5.out).mono ?_); rintro e w' ⟨rfl, ⟨nd, rfl⟩⟩; (try first | exact ⟨rfl, _, World.drewN_drewN _ _ _⟩ | exact ⟨rfl, _, Eq.trans (World.drewN_drewN _ _ _) (congrArg (World.drewN _) (Nat.add_assoc _ _ _))⟩)) | (go_at_call 52; (with_reducible refine (spec_l5Fault.calls k1 _ ((rd_T35 l0 x3_1).f1.f0) ((rd_T35 l0 x3_1).f1.f1) ((rd_T35 l0 x3_1).f1.f2) t312 _ ?side1 ?side2 ?side3 A7.out).mono ?_); (case side1 => first | exact hx309_1 | (refine Eq.trans ?_ hx309_1; simp only [go_sem])); (case side2 => first | exact hx309_2 | (refine Eq.trans ?_ hx309_2; simp only [go_sem])); (case side3 => first | exact hx309_3 | (refine Eq.trans ?_ hx309_3; simp only [go_sem])); rintro e w' ⟨rfl, ⟨nd, rfl⟩⟩; (try first | exact ⟨rfl, _, World.drewN_drewN _ _ _⟩ | exact ⟨rfl, _, Eq.trans (World.drewN_drewN _ _ _) (congrArg (World.drewN _) (Nat.add_assoc _ _ _))⟩)) | (go_at_call 39; (with_reducible refine (spec_l7Version.calls ((rd_T35 l0 x3_1).f2) true _ A9.out).mono ?_); rintro e w' ⟨rfl, ⟨nd, rfl⟩⟩; (try first | exact ⟨rfl, _, World.drewN_drewN _ _ _⟩ | exact ⟨rfl, _, Eq.trans (World.drewN_drewN _ _ _) (congrArg (World.drewN _) (Nat.add_assoc _ _ _))⟩); have q15 : (x3_1 : Int) ≤ ((l0.length : Int) : Int) := of_decide_eq_true d11_4; obtain ⟨i015, hi015, _, hsz15, _⟩ := info_parts info35; have hroom15 : l0.length ≤ c0 := HC0.out; have hC15 : Kd.C k35 _ (some ad309) l0.length l0 := HR0.out; have hcut15 := cut_to (P := Tryd.prog) 25 35 .i64 Tryd.underlying25 hi015 (some ad309) l0.length c0 x3_1 (of_decide_eq_true d11_4) q15 hroom15; have hr15 := Kd.C_take (m := (x3_1 : Int).toNat) hC15 (by omega); have hy15 : y315.length = (x3_1 : Int).toNat := (by rw [Ny315.out, List.length_take]; omega); rw [← Ny315.out] at hr15; rw [← hy15] at hcut15; have HR318 := ak hr15; have HC318 := ak (show y315.length ≤ c0 from by omega); clear hr15 hC15 hroom15 hi015 hsz15; have KY15 := ak hy15; clear hy15; replace q15 := eq_true q15) | (go_at_call 54; (with_reducible refine (spec_l7At.calls k1 _ _ y315 ((rd_T35 l0 x3_1).f0) t320 _ ?side1 ?side2 A13.out).mono ?_); (case side1 => repeat (first | exact HR318.out | (with_reducible refine Kd.C_alloc ?_ _) | (with_reducible refine Kd.C_drewN ?_ _) | (with_reducible refine Kd.C_drew ?_))); (case side2 => exact HC318.out); rintro e w' ⟨rfl, ⟨nd, rfl⟩⟩; (try first | exact ⟨rfl, _, World.drewN_drewN _ _ _⟩ | exact ⟨rfl, _, Eq.trans (World.drewN_drewN _ _ _) (congrArg (World.drewN _) (Nat.add_assoc _ _ _))⟩)))
            repeat (go_quiet (first | (go_at_call 87; (with_reducible refine (spec_l2Sym.calls k1 ((rd_T35 l0 x3_1).f0) true _ A5.out).mono ?_); rintro e w' ⟨rfl, ⟨nd, rfl⟩⟩; (try first | exact ⟨rfl, _, World.drewN_drewN _ _ _⟩ | exact ⟨rfl, _, Eq.trans (World.drewN_drewN _ _ _) (congrArg (World.drewN _) (Nat.add_assoc _ _ _))⟩)) | (go_at_call 52; (with_reducible refine (spec_l5Fault.calls k1 _ ((rd_T35 l0 x3_1).f1.f0) ((rd_T35 l0 x3_1).f1.f1) ((rd_T35 l0 x3_1).f1.f2) t312 _ ?side1 ?side2 ?side3 A7.out).mono ?_); (case side1 => first | exact hx309_1 | (refine Eq.trans ?_ hx309_1; simp only [go_sem])); (case side2 => first | exact hx309_2 | (refine Eq.trans ?_ hx309_2; simp only [go_sem])); (case side3 => first | exact hx309_3 | (refine Eq.trans ?_ hx309_3; simp only [go_sem])); rintro e w' ⟨rfl, ⟨nd, rfl⟩⟩; (try first | exact ⟨rfl, _, World.drewN_drewN _ _ _⟩ | exact ⟨rfl, _, Eq.trans (World.drewN_drewN _ _ _) (congrArg (World.drewN _) (Nat.add_assoc _ _ _))⟩)) | (go_at_call 39; (with_reducible refine (spec_l7Version.calls ((rd_T35 l0 x3_1).f2) true _ A9.out).mono ?_); rintro e w' ⟨rfl, ⟨nd, rfl⟩⟩; (try first | exact ⟨rfl, _, World.drewN_drewN _ _ _⟩ | exact ⟨rfl, _, Eq.trans (World.drewN_drewN _ _ _) (congrArg (World.drewN _) (Nat.add_assoc _ _ _))⟩); have q15 : (x3_1 : Int) ≤ ((l0.length : Int) : Int) := of_decide_eq_true d11_4; obtain ⟨i015, hi015, _, hsz15, _⟩ := info_parts info35; have hroom15 : l0.length ≤ c0 := HC0.out; have hC15 : Kd.C k35 _ (some ad309) l0.length l0 := HR0.out; have hcut15 := cut_to (P := Tryd.prog) 25 35 .i64 Tryd.underlying25 hi015 (some ad309) l0.length c0 x3_1 (of_decide_eq_true d11_4) q15 hroom15; have hr15 := Kd.C_take (m := (x3_1 : Int).toNat) hC15 (by omega); have hy15 : y315.length = (x3_1 : Int).toNat := (by rw [Ny315.out, List.length_take]; omega); rw [← Ny315.out] at hr15; rw [← hy15] at hcut15; have HR318 := ak hr15; have HC318 := ak (show y315.length ≤ c0 from by omega); clear hr15 hC15 hroom15 hi015 hsz15; have KY15 := ak hy15; clear hy15; replace q15 := eq_true q15) | (go_at_call 54; (with_reducible refine (spec_l7At.calls k1 _ _ y315 ((rd_T35 l0 x3_1).f0) t320 _ ?side1 ?side2 A13.out).mono ?_); (case side1 => repeat (first | exact HR318.out | (with_reducible refine Kd.C_alloc ?_ _) | (with_reducible refine Kd.C_drewN ?_ _) | (with_reducible refine Kd.C_drew ?_))); (case side2 => exact HC318.out); rintro e w' ⟨rfl, ⟨nd, rfl⟩⟩; (try first | exact ⟨rfl, _, World.drewN_drewN _ _ _⟩ | exact ⟨rfl, _, Eq.trans (World.drewN_drewN _ _ _) (congrArg (World.drewN _) (Nat.add_assoc _ _ _))⟩))); try go_wp2_with (first | (go_at_call 87; (with_reducible refine (spec_l2Sym.calls k1 ((rd_T35 l0 x3_1).f0) true _ A5.out).mono ?_); rintro e w' ⟨rfl, ⟨nd, rfl⟩⟩; (try first | exact ⟨rfl, _, World.drewN_drewN _ _ _⟩ | exact ⟨rfl, _, Eq.trans (World.drewN_drewN _ _ _) (congrArg (World.drewN _) (Nat.add_assoc _ _ _))⟩)) | (go_at_call 52; (with_reducible refine (spec_l5Fault.calls k1 _ ((rd_T35 l0 x3_1).f1.f0) ((rd_T35 l0 x3_1).f1.f1) ((rd_T35 l0 x3_1).f1.f2) t312 _ ?side1 ?side2 ?side3 A7.out).mono ?_); (case side1 => first | exact hx309_1 | (refine Eq.trans ?_ hx309_1; simp only [go_sem])); (case side2 => first | exact hx309_2 | (refine Eq.trans ?_ hx309_2; simp only [go_sem])); (case side3 => first | exact hx309_3 | (refine Eq.trans ?_ hx309_3; simp only [go_sem])); rintro e w' ⟨rfl, ⟨nd, rfl⟩⟩; (try first | exact ⟨rfl, _, World.drewN_drewN _ _ _⟩ | exact ⟨rfl, _, Eq.trans (World.drewN_drewN _ _ _) (congrArg (World.drewN _) (Nat.add_assoc _ _ _))⟩)) | (go_at_call 39; (with_reducible refine (spec_l7Version.calls ((rd_T35 l0 x3_1).f2) true _ A9.out).mono ?_); rintro e w' ⟨rfl, ⟨nd, rfl⟩⟩; (try first | exact ⟨rfl, _, World.drewN_drewN _ _ _⟩ | exact ⟨rfl, _, Eq.trans (World.drewN_drewN _ _ _) (congrArg (World.drewN _) (Nat.add_assoc _ _ _))⟩); have q15 : (x3_1 : Int) ≤ ((l0.length : Int) : Int) := of_decide_eq_true d11_4; obtain ⟨i015, hi015, _, hsz15, _⟩ := info_parts info35; have hroom15 : l0.length ≤ c0 := HC0.out; have hC15 : Kd.C k35 _ (some ad309) l0.length l0 := HR0.out; have hcut15 := cut_to (P := Tryd.prog) 25 35 .i64 Tryd.underlying25 hi015 (some ad309) l0.length c0 x3_1 (of_decide_eq_true d11_4) q15 hroom15; have hr15 := Kd.C_take (m := (x3_1 : Int).toNat) hC15 (by omega); have hy15 : y315.length = (x3_1 : Int).toNat := (by rw [Ny315.out, List.length_take]; omega); rw [← Ny315.out] at hr15; rw [← hy15] at hcut15; have HR318 := ak hr15; have HC318 := ak (show y315.length ≤ c0 from by omega); clear hr15 hC15 hroom15 hi015 hsz15; have KY15 := ak hy15; clear hy15; replace q15 := eq_true q15) | (go_at_call 54; (with_reducible refine (spec_l7At.calls k1 _ _ y315 ((rd_T35 l0 x3_1).f0) t320 _ ?side1 ?side2 A13.out).mono ?_); (case side1 => repeat (first | exact HR318.out | (with_reducible refine Kd.C_alloc ?_ _) | (with_reducible refine Kd.C_drewN ?_ _) | (with_reducible refine Kd.C_drew ?_))); (case side2 => exact HC318.out); rintro e w' ⟨rfl, ⟨nd, rfl⟩⟩; (try first | exact ⟨rfl, _, World.drewN_drewN _ _ _⟩ | exact ⟨rfl, _, Eq.trans (World.drewN_drewN _ _ _) (congrArg (World.drewN _) (Nat.add_assoc _ _ _))⟩))))
            go_ret
            exact ⟨by first | rfl | (simp; done) | (simp [*]; done) | (simp [ne_nil_b, eq_nil_b]; done), by repeat (first | exact Drawn0.refl _ | apply Drawn0.step)⟩
           ·rw [if_neg c14] at H
            have c14b0 : decide (0 ≤ t320) = false := decide_eq_false c14
            clear c14
            have H' := ak H
            clear H
            have p309 : 0 ≤ (x3_1 : Int) := of_decide_eq_true d11_4
            have q309 : x3_1 < (l0.length : Int) := of_decide_eq_true d11_4
            obtain ⟨ad309, e309, hx309_0, hx309_1, hx309_2, hx309_3, hx309_4⟩ := at_T35 HR0.out x3_1 p309 q309
            cases e309
            replace p309 := eq_true p309
            replace q309 := eq_true q309
            go_wp2_with (first | (go_at_call 87; (with_reducible refine (spec_l2Sym.calls k1 ((rd_T35 l0 x3_1).f0) true _ A5.out).mono ?_); rintro e w' ⟨rfl, ⟨nd, rfl⟩⟩; (try first | exact ⟨rfl, _, World.drewN_drewN _ _ _⟩ | exact ⟨rfl, _, Eq.trans (World.drewN_drewN _ _ _) (congrArg (World.drewN _) (Nat.add_assoc _ _ _))⟩)) | (go_at_call 52; (with_reducible refine (spec_l5Fault.calls k1 _ ((rd_T35 l0 x3_1).f1.f0) ((rd_T35 l0 x3_1).f1.f1) ((rd_T35 l0 x3_1).f1.f2) t312 _ ?side1 ?side2 ?side3 A7.out).mono ?_); (case side1 => first | exact hx309_1 | (refine Eq.trans ?_ hx309_1; simp only [go_sem])); (case side2 => first | exact hx309_2 | (refine Eq.trans ?_ hx309_2; simp only [go_sem])); (case side3 => first | exact hx309_3 | (refine Eq.trans ?_ hx309_3; simp only [go_sem])); rintro e w' ⟨rfl, ⟨nd, rfl⟩⟩; (try first | exact ⟨rfl, _, World.drewN_drewN _ _ _⟩ | exact ⟨rfl, _, Eq.trans (World.drewN_drewN _ _ _) (congrArg (World.drewN _) (Nat.add_assoc _ _ _))⟩)) | (go_at_call 39; (with_reducible refine (spec_l7Version.calls ((rd_T35 l0 x3_1).f2) true _ A9.out).mono ?_); rintro e w' ⟨rfl, ⟨nd, rfl⟩⟩; (try first | exact ⟨rfl, _, World.drewN_drewN _ _ _⟩ | exact ⟨rfl, _, Eq.trans (World.drewN_drewN _ _ _) (congrArg (World.drewN _) (Nat.add_assoc _ _ _))⟩); have q16 : (x3_1 : Int) ≤ ((l0.length : Int) : Int) := of_decide_eq_true d11_4; obtain ⟨i016, hi016, _, hsz16, _⟩ := info_parts info35; have hroom16 : l0.length ≤ c0 := HC0.out; have hC16 : Kd.C k35 _ (some ad309) l0.length l0 := HR0.out; have hcut16 := cut_to (P := Tryd.prog) 25 35 .i64 Tryd.underlying25 hi016 (some ad309) l0.length c0 x3_1 (of_decide_eq_true d11_4) q16 hroom16; have hr16 := Kd.C_take (m := (x3_1 : Int).toNat) hC16 (by omega); have hy16 : y315.length = (x3_1 : Int).toNat := (by rw [Ny315.out, List.length_take]; omega); rw [← Ny315.out] at hr16; rw [← hy16] at hcut16; have HR318 := ak hr16; have HC318 := ak (show y315.length ≤ c0 from by omega); clear hr16 hC16 hroom16 hi016 hsz16; have KY16 := ak hy16; clear hy16; replace q16 := eq_true q16) | (go_at_call 54; (with_reducible refine (spec_l7At.calls k1 _ _ y315 ((rd_T35 l0 x3_1).f0) t320 _ ?side1 ?side2 A13.out).mono ?_); (case side1 => repeat (first | exact HR318.out | (with_reducible refine Kd.C_alloc ?_ _) | (with_reducible refine Kd.C_drewN ?_ _) | (with_reducible refine Kd.C_drew ?_))); (case side2 => exact HC318.out); rintro e w' ⟨rfl, ⟨nd, rfl⟩⟩; (try first | exact ⟨rfl, _, World.drewN_drewN _ _ _⟩ | exact ⟨rfl, _, Eq.trans (World.drewN_drewN _ _ _) (congrArg (World.drewN _) (Nat.add_assoc _ _ _))⟩)))
            repeat (go_quiet (first | (go_at_call 87; (with_reducible refine (spec_l2Sym.calls k1 ((rd_T35 l0 x3_1).f0) true _ A5.out).mono ?_); rintro e w' ⟨rfl, ⟨nd, rfl⟩⟩; (try first | exact ⟨rfl, _, World.drewN_drewN _ _ _⟩ | exact ⟨rfl, _, Eq.trans (World.drewN_drewN _ _ _) (congrArg (World.drewN _) (Nat.add_assoc _ _ _))⟩)) | (go_at_call 52; (with_reducible refine (spec_l5Fault.calls k1 _ ((rd_T35 l0 x3_1).f1.f0) ((rd_T35 l0 x3_1).f1.f1) ((rd_T35 l0 x3_1).f1.f2) t312 _ ?side1 ?side2 ?side3 A7.out).mono ?_); (case side1 => first | exact hx309_1 | (refine Eq.trans ?_ hx309_1; simp only [go_sem])); (case side2 => first | exact hx309_2 | (refine Eq.trans ?_ hx309_2; simp only [go_sem])); (case side3 => first | exact hx309_3 | (refine Eq.trans ?_ hx309_3; simp only [go_sem])); rintro e w' ⟨rfl, ⟨nd, rfl⟩⟩; (try first | exact ⟨rfl, _, World.drewN_drewN _ _ _⟩ | exact ⟨rfl, _, Eq.trans (World.drewN_drewN _ _ _) (congrArg (World.drewN _) (Nat.add_assoc _ _ _))⟩)) | (go_at_call 39; (with_reducible refine (spec_l7Version.calls ((rd_T35 l0 x3_1).f2) true _ A9.out).mono ?_); rintro e w' ⟨rfl, ⟨nd, rfl⟩⟩; (try first | exact ⟨rfl, _, World.drewN_drewN _ _ _⟩ | exact ⟨rfl, _, Eq.trans (World.drewN_drewN _ _ _) (congrArg (World.drewN _) (Nat.add_assoc _ _ _))⟩); have q16 : (x3_1 : Int) ≤ ((l0.length : Int) : Int) := of_decide_eq_true d11_4; obtain ⟨i016, hi016, _, hsz16, _⟩ := info_parts info35; have hroom16 : l0.length ≤ c0 := HC0.out; have hC16 : Kd.C k35 _ (some ad309) l0.length l0 := HR0.out; have hcut16 := cut_to (P := Tryd.prog) 25 35 .i64 Tryd.underlying25 hi016 (some ad309) l0.length c0 x3_1 (of_decide_eq_true d11_4) q16 hroom16; have hr16 := Kd.C_take (m := (x3_1 : Int).toNat) hC16 (by omega); have hy16 : y315.length = (x3_1 : Int).toNat := (by rw [Ny315.out, List.length_take]; omega); rw [← Ny315.out] at hr16; rw [← hy16] at hcut16; have HR318 := ak hr16; have HC318 := ak (show y315.length ≤ c0 from by omega); clear hr16 hC16 hroom16 hi016 hsz16; have KY16 := ak hy16; clear hy16; replace q16 := eq_true q16) | (go_at_call 54; (with_reducible refine (spec_l7At.calls k1 _ _ y315 ((rd_T35 l0 x3_1).f0) t320 _ ?side1 ?side2 A13.out).mono ?_); (case side1 => repeat (first | exact HR318.out | (with_reducible refine Kd.C_alloc ?_ _) | (with_reducible refine Kd.C_drewN ?_ _) | (with_reducible refine Kd.C_drew ?_))); (case side2 => exact HC318.out); rintro e w' ⟨rfl, ⟨nd, rfl⟩⟩; (try first | exact ⟨rfl, _, World.drewN_drewN _ _ _⟩ | exact ⟨rfl, _, Eq.trans (World.drewN_drewN _ _ _) (congrArg (World.drewN _) (Nat.add_assoc _ _ _))⟩))); try go_wp2_with (first | (go_at_call 87; (with_reducible refine (spec_l2Sym.calls k1 ((rd_T35 l0 x3_1).f0) true _ A5.out).mono ?_); rintro e w' ⟨rfl, ⟨nd, rfl⟩⟩; (try first | exact ⟨rfl, _, World.drewN_drewN _ _ _⟩ | exact ⟨rfl, _, Eq.trans (World.drewN_drewN _ _ _) (congrArg (World.drewN _) (Nat.add_assoc _ _ _))⟩)) | (go_at_call 52; (with_reducible refine (spec_l5Fault.calls k1 _ ((rd_T35 l0 x3_1).f1.f0) ((rd_T35 l0 x3_1).f1.f1) ((rd_T35 l0 x3_1).f1.f2) t312 _ ?side1 ?side2 ?side3 A7.out).mono ?_); (case side1 => first | exact hx309_1 | (refine Eq.trans ?_ hx309_1; simp only [go_sem])); (case side2 => first | exact hx309_2 | (refine Eq.trans ?_ hx309_2; simp only [go_sem])); (case side3 => first | exact hx309_3 | (refine Eq.trans ?_ hx309_3; simp only [go_sem])); rintro e w' ⟨rfl, ⟨nd, rfl⟩⟩; (try first | exact ⟨rfl, _, World.drewN_drewN _ _ _⟩ | exact ⟨rfl, _, Eq.trans (World.drewN_drewN _ _ _) (congrArg (World.drewN _) (Nat.add_assoc _ _ _))⟩)) | (go_at_call 39; (with_reducible refine (spec_l7Version.calls ((rd_T35 l0 x3_1).f2) true _ A9.out).mono ?_); rintro e w' ⟨rfl, ⟨nd, rfl⟩⟩; (try first | exact ⟨rfl, _, World.drewN_drewN _ _ _⟩ | exact ⟨rfl, _, Eq.trans (World.drewN_drewN _ _ _) (congrArg (World.drewN _) (Nat.add_assoc _ _ _))⟩); have q16 : (x3_1 : Int) ≤ ((l0.length : Int) : Int) := of_decide_eq_true d11_4; obtain ⟨i016, hi016, _, hsz16, _⟩ := info_parts info35; have hroom16 : l0.length ≤ c0 := HC0.out; have hC16 : Kd.C k35 _ (some ad309) l0.length l0 := HR0.out; have hcut16 := cut_to (P := Tryd.prog) 25 35 .i64 Tryd.underlying25 hi016 (some ad309) l0.length c0 x3_1 (of_decide_eq_true d11_4) q16 hroom16; have hr16 := Kd.C_take (m := (x3_1 : Int).toNat) hC16 (by omega); have hy16 : y315.length = (x3_1 : Int).toNat := (by rw [Ny315.out, List.length_take]; omega); rw [← Ny315.out] at hr16; rw [← hy16] at hcut16; have HR318 := ak hr16; have HC318 := ak (show y315.length ≤ c0 from by omega); clear hr16 hC16 hroom16 hi016 hsz16; have KY16 := ak hy16; clear hy16; replace q16 := eq_true q16) | (go_at_call 54; (with_reducible refine (spec_l7At.calls k1 _ _ y315 ((rd_T35 l0 x3_1).f0) t320 _ ?side1 ?side2 A13.out).mono ?_); (case side1 => repeat (first | exact HR318.out | (with_reducible refine Kd.C_alloc ?_ _) | (with_reducible refine Kd.C_drewN ?_ _) | (with_reducible refine Kd.C_drew ?_))); (case side2 => exact HC318.out); rintro e w' ⟨rfl, ⟨nd, rfl⟩⟩; (try first | exact ⟨rfl, _, World.drewN_drewN _ _ _⟩ | exact ⟨rfl, _, Eq.trans (World.drewN_drewN _ _ _) (congrArg (World.drewN _) (Nat.add_assoc _ _ _))⟩))))
            go_roundg k1
            case measure => have := HK1.out; omega
            case rel => exact ⟨(wrap64 (x3_1 + 1)), (by first | rfl | (simp; done) | (simp [*]; done) | (simp [ne_nil_b, eq_nil_b]; done)), H', ⟨by have := HK1.out; omega⟩, by repeat (first | exact Drawn0.refl _ | apply Drawn0.step)⟩
          ·rw [if_neg c12] at H
           exact absurd H (by simp)
         ·replace c10 := Bool.eq_false_iff.mpr c10
          subst c10
          have H1 : (some 3) = some r := by rw [if_neg (show ¬ (false = true) by decide)] at H; exact H
          clear H
          have H := H1
          clear H1
          obtain rfl := Option.some.inj H
          have p309 : 0 ≤ (x3_1 : Int) := of_decide_eq_true d11_4
          have q309 : x3_1 < (l0.length : Int) := of_decide_eq_true d11_4
          obtain ⟨ad309, e309, hx309_0, hx309_1, hx309_2, hx309_3, hx309_4⟩ := at_T35 HR0.out x3_1 p309 q309
          cases e309
          replace p309 := eq_true p309
          replace q309 := eq_true q309
          go_wp2_with (first | (go_at_call 87; (with_reducible refine (spec_l2Sym.calls k1 ((rd_T35 l0 x3_1).f0) true _ A5.out).mono ?_); rintro e w' ⟨rfl, ⟨nd, rfl⟩⟩; (try first | exact ⟨rfl, _, World.drewN_drewN _ _ _⟩ | exact ⟨rfl, _, Eq.trans (World.drewN_drewN _ _ _) (congrArg (World.drewN _) (Nat.add_assoc _ _ _))⟩)) | (go_at_call 52; (with_reducible refine (spec_l5Fault.calls k1 _ ((rd_T35 l0 x3_1).f1.f0) ((rd_T35 l0 x3_1).f1.f1) ((rd_T35 l0 x3_1).f1.f2) t312 _ ?side1 ?side2 ?side3 A7.out).mono ?_); (case side1 => first | exact hx309_1 | (refine Eq.trans ?_ hx309_1; simp only [go_sem])); (case side2 => first | exact hx309_2 | (refine Eq.trans ?_ hx309_2; simp only [go_sem])); (case side3 => first | exact hx309_3 | (refine Eq.trans ?_ hx309_3; simp only [go_sem])); rintro e w' ⟨rfl, ⟨nd, rfl⟩⟩; (try first | exact ⟨rfl, _, World.drewN_drewN _ _ _⟩ | exact ⟨rfl, _, Eq.trans (World.drewN_drewN _ _ _) (congrArg (World.drewN _) (Nat.add_assoc _ _ _))⟩)) | (go_at_call 39; (with_reducible refine (spec_l7Version.calls ((rd_T35 l0 x3_1).f2) false _ A9.out).mono ?_); rintro e w' ⟨rfl, ⟨nd, rfl⟩⟩; (try first | exact ⟨rfl, _, World.drewN_drewN _ _ _⟩ | exact ⟨rfl, _, Eq.trans (World.drewN_drewN _ _ _) (congrArg (World.drewN _) (Nat.add_assoc _ _ _))⟩)))
          repeat (go_quiet (first | (go_at_call 87; (with_reducible refine (spec_l2Sym.calls k1 ((rd_T35 l0 x3_1).f0) true _ A5.out).mono ?_); rintro e w' ⟨rfl, ⟨nd, rfl⟩⟩; (try first | exact ⟨rfl, _, World.drewN_drewN _ _ _⟩ | exact ⟨rfl, _, Eq.trans (World.drewN_drewN _ _ _) (congrArg (World.drewN _) (Nat.add_assoc _ _ _))⟩)) | (go_at_call 52; (with_reducible refine (spec_l5Fault.calls k1 _ ((rd_T35 l0 x3_1).f1.f0) ((rd_T35 l0 x3_1).f1.f1) ((rd_T35 l0 x3_1).f1.f2) t312 _ ?side1 ?side2 ?side3 A7.out).mono ?_); (case side1 => first | exact hx309_1 | (refine Eq.trans ?_ hx309_1; simp only [go_sem])); (case side2 => first | exact hx309_2 | (refine Eq.trans ?_ hx309_2; simp only [go_sem])); (case side3 => first | exact hx309_3 | (refine Eq.trans ?_ hx309_3; simp only [go_sem])); rintro e w' ⟨rfl, ⟨nd, rfl⟩⟩; (try first | exact ⟨rfl, _, World.drewN_drewN _ _ _⟩ | exact ⟨rfl, _, Eq.trans (World.drewN_drewN _ _ _) (congrArg (World.drewN _) (Nat.add_assoc _ _ _))⟩)) | (go_at_call 39; (with_reducible refine (spec_l7Version.calls ((rd_T35 l0 x3_1).f2) false _ A9.out).mono ?_); rintro e w' ⟨rfl, ⟨nd, rfl⟩⟩; (try first | exact ⟨rfl, _, World.drewN_drewN _ _ _⟩ | exact ⟨rfl, _, Eq.trans (World.drewN_drewN _ _ _) (congrArg (World.drewN _) (Nat.add_assoc _ _ _))⟩))); try go_wp2_with (first | (go_at_call 87; (with_reducible refine (spec_l2Sym.calls k1 ((rd_T35 l0 x3_1).f0) true _ A5.out).mono ?_); rintro e w' ⟨rfl, ⟨nd, rfl⟩⟩; (try first | exact ⟨rfl, _, World.drewN_drewN _ _ _⟩ | exact ⟨rfl, _, Eq.trans (World.drewN_drewN _ _ _) (congrArg (World.drewN _) (Nat.add_assoc _ _ _))⟩)) | (go_at_call 52; (with_reducible refine (spec_l5Fault.calls k1 _ ((rd_T35 l0 x3_1).f1.f0) ((rd_T35 l0 x3_1).f1.f1) ((rd_T35 l0 x3_1).f1.f2) t312 _ ?side1 ?side2 ?side3 A7.out).mono ?_); (case side1 => first | exact hx309_1 | (refine Eq.trans ?_ hx309_1; simp only [go_sem])); (case side2 => first | exact hx309_2 | (refine Eq.trans ?_ hx309_2; simp only [go_sem])); (case side3 => first | exact hx309_3 | (refine Eq.trans ?_ hx309_3; simp only [go_sem])); rintro e w' ⟨rfl, ⟨nd, rfl⟩⟩; (try first | exact ⟨rfl, _, World.drewN_drewN _ _ _⟩ | exact ⟨rfl, _, Eq.trans (World.drewN_drewN _ _ _) (congrArg (World.drewN _) (Nat.add_assoc _ _ _))⟩)) | (go_at_call 39; (with_reducible refine (spec_l7Version.calls ((rd_T35 l0 x3_1).f2) false _ A9.out).mono ?_); rintro e w' ⟨rfl, ⟨nd, rfl⟩⟩; (try first | exact ⟨rfl, _, World.drewN_drewN _ _ _⟩ | exact ⟨rfl, _, Eq.trans (World.drewN_drewN _ _ _) (congrArg (World.drewN _) (Nat.add_assoc _ _ _))⟩))))
          go_ret
          exact ⟨by first | rfl | (simp; done) | (simp [*]; done) | (simp [ne_nil_b, eq_nil_b]; done), by repeat (first | exact Drawn0.refl _ | apply Drawn0.step)⟩
        ·rw [if_neg c8] at H
         have c8b0 : (t312 == 0) = false := beq_eq_false_iff_ne.mpr c8
         have c8b1 : (t312 != 0) = true := bne_iff_ne.mpr c8
         obtain rfl := Option.some.inj H
         have p309 : 0 ≤ (x3_1 : Int) := of_decide_eq_true d11_4
         have q309 : x3_1 < (l0.length : Int) := of_decide_eq_true d11_4
         obtain ⟨ad309, e309, hx309_0, hx309_1, hx309_2, hx309_3, hx309_4⟩ := at_T35 HR0.out x3_1 p309 q309
         cases e309
         replace p309 := eq_true p309
         replace q309 := eq_true q309
         go_wp2_with (first | (go_at_call 87; (with_reducible refine (spec_l2Sym.calls k1 ((rd_T35 l0 x3_1).f0) true _ A5.out).mono ?_); rintro e w' ⟨rfl, ⟨nd, rfl⟩⟩; (try first | exact ⟨rfl, _, World.drewN_drewN _ _ _⟩ | exact ⟨rfl, _, Eq.trans (World.drewN_drewN _ _ _) (congrArg (World.drewN _) (Nat.add_assoc _ _ _))⟩)) | (go_at_call 52; (with_reducible refine (spec_l5Fault.calls k1 _ ((rd_T35 l0 x3_1).f1.f0) ((rd_T35 l0 x3_1).f1.f1) ((rd_T35 l0 x3_1).f1.f2) t312 _ ?side1 ?side2 ?side3 A7.out).mono ?_); (case side1 => first | exact hx309_1 | (refine Eq.trans ?_ hx309_1; simp only [go_sem])); (case side2 => first | exact hx309_2 | (refine Eq.trans ?_ hx309_2; simp only [go_sem])); (case side3 => first | exact hx309_3 | (refine Eq.trans ?_ hx309_3; simp only [go_sem])); rintro e w' ⟨rfl, ⟨nd, rfl⟩⟩; (try first | exact ⟨rfl, _, World.drewN_drewN _ _ _⟩ | exact ⟨rfl, _, Eq.trans (World.drewN_drewN _ _ _) (congrArg (World.drewN _) (Nat.add_assoc _ _ _))⟩)))
         repeat (go_quiet (first | (go_at_call 87; (with_reducible refine (spec_l2Sym.calls k1 ((rd_T35 l0 x3_1).f0) true _ A5.out).mono ?_); rintro e w' ⟨rfl, ⟨nd, rfl⟩⟩; (try first | exact ⟨rfl, _, World.drewN_drewN _ _ _⟩ | exact ⟨rfl, _, Eq.trans (World.drewN_drewN _ _ _) (congrArg (World.drewN _) (Nat.add_assoc _ _ _))⟩)) | (go_at_call 52; (with_reducible refine (spec_l5Fault.calls k1 _ ((rd_T35 l0 x3_1).f1.f0) ((rd_T35 l0 x3_1).f1.f1) ((rd_T35 l0 x3_1).f1.f2) t312 _ ?side1 ?side2 ?side3 A7.out).mono ?_); (case side1 => first | exact hx309_1 | (refine Eq.trans ?_ hx309_1; simp only [go_sem])); (case side2 => first | exact hx309_2 | (refine Eq.trans ?_ hx309_2; simp only [go_sem])); (case side3 => first | exact hx309_3 | (refine Eq.trans ?_ hx309_3; simp only [go_sem])); rintro e w' ⟨rfl, ⟨nd, rfl⟩⟩; (try first | exact ⟨rfl, _, World.drewN_drewN _ _ _⟩ | exact ⟨rfl, _, Eq.trans (World.drewN_drewN _ _ _) (congrArg (World.drewN _) (Nat.add_assoc _ _ _))⟩))); try go_wp2_with (first | (go_at_call 87; (with_reducible refine (spec_l2Sym.calls k1 ((rd_T35 l0 x3_1).f0) true _ A5.out).mono ?_); rintro e w' ⟨rfl, ⟨nd, rfl⟩⟩; (try first | exact ⟨rfl, _, World.drewN_drewN _ _ _⟩ | exact ⟨rfl, _, Eq.trans (World.drewN_drewN _ _ _) (congrArg (World.drewN _) (Nat.add_assoc _ _ _))⟩)) | (go_at_call 52; (with_reducible refine (spec_l5Fault.calls k1 _ ((rd_T35 l0 x3_1).f1.f0) ((rd_T35 l0 x3_1).f1.f1) ((rd_T35 l0 x3_1).f1.f2) t312 _ ?side1 ?side2 ?side3 A7.out).mono ?_); (case side1 => first | exact hx309_1 | (refine Eq.trans ?_ hx309_1; simp only [go_sem])); (case side2 => first | exact hx309_2 | (refine Eq.trans ?_ hx309_2; simp only [go_sem])); (case side3 => first | exact hx309_3 | (refine Eq.trans ?_ hx309_3; simp only [go_sem])); rintro e w' ⟨rfl, ⟨nd, rfl⟩⟩; (try first | exact ⟨rfl, _, World.drewN_drewN _ _ _⟩ | exact ⟨rfl, _, Eq.trans (World.drewN_drewN _ _ _) (congrArg (World.drewN _) (Nat.add_assoc _ _ _))⟩))))
         go_ret
         exact ⟨by first | rfl | (simp; done) | (simp [*]; done) | (simp [ne_nil_b, eq_nil_b]; done), by repeat (first | exact Drawn0.refl _ | apply Drawn0.step)⟩
       ·replace c6 := Bool.eq_false_iff.mpr c6
        subst c6
        have H1 : (some 5) = some r := by rw [if_neg (show ¬ (false = true) by decide)] at H; exact H
        clear H
        have H := H1
        clear H1
        obtain rfl := Option.some.inj H
        have p309 : 0 ≤ (x3_1 : Int) := of_decide_eq_true d11_4
        have q309 : x3_1 < (l0.length : Int) := of_decide_eq_true d11_4
        obtain ⟨ad309, e309, hx309_0, hx309_1, hx309_2, hx309_3, hx309_4⟩ := at_T35 HR0.out x3_1 p309 q309
        cases e309
        replace p309 := eq_true p309
        replace q309 := eq_true q309
        go_wp2_with (first | (go_at_call 87; (with_reducible refine (spec_l2Sym.calls k1 ((rd_T35 l0 x3_1).f0) false _ A5.out).mono ?_); rintro e w' ⟨rfl, ⟨nd, rfl⟩⟩; (try first | exact ⟨rfl, _, World.drewN_drewN _ _ _⟩ | exact ⟨rfl, _, Eq.trans (World.drewN_drewN _ _ _) (congrArg (World.drewN _) (Nat.add_assoc _ _ _))⟩)))
        repeat (go_quiet (first | (go_at_call 87; (with_reducible refine (spec_l2Sym.calls k1 ((rd_T35 l0 x3_1).f0) false _ A5.out).mono ?_); rintro e w' ⟨rfl, ⟨nd, rfl⟩⟩; (try first | exact ⟨rfl, _, World.drewN_drewN _ _ _⟩ | exact ⟨rfl, _, Eq.trans (World.drewN_drewN _ _ _) (congrArg (World.drewN _) (Nat.add_assoc _ _ _))⟩))); try go_wp2_with (first | (go_at_call 87; (with_reducible refine (spec_l2Sym.calls k1 ((rd_T35 l0 x3_1).f0) false _ A5.out).mono ?_); rintro e w' ⟨rfl, ⟨nd, rfl⟩⟩; (try first | exact ⟨rfl, _, World.drewN_drewN _ _ _⟩ | exact ⟨rfl, _, Eq.trans (World.drewN_drewN _ _ _) (congrArg (World.drewN _) (Nat.add_assoc _ _ _))⟩))))
        go_ret
        exact ⟨by first | rfl | (simp; done) | (simp [*]; done) | (simp [ne_nil_b, eq_nil_b]; done), by repeat (first | exact Drawn0.refl _ | apply Drawn0.step)⟩
      ·rw [if_neg c4] at H
       exact absurd H (by simp)
     ·rw [if_neg c3] at H
      have c3b0 : decide (x3_1 < (l0.length : Int)) = false := decide_eq_false c3
      clear c3
      obtain rfl := Option.some.inj H
      go_wp2
      repeat (go_quiet (fail); try go_wp2)
      go_ret
      exact ⟨by first | rfl | (simp; done) | (simp [*]; done) | (simp [ne_nil_b, eq_nil_b]; done), by repeat (first | exact Drawn0.refl _ | apply Drawn0.step)⟩

/-! ### spec_SymFault: function 84 -/
def spec_SymFault.f (k : Nat) (a0 : ByteArray) : Option (Int) := (spec_l2Sym.f k a0).bind fun t321 => (if t321 = true then (some 0) else (some 5))
theorem spec_SymFault.mono : ∀ a0 k, LeO (spec_SymFault.f k a0) (spec_SymFault.f (k + 1) a0) := by
  intro a0 k
  unfold spec_SymFault.f
  repeat' first
      | (with_reducible exact spec_l2Sym.mono _ _)
      | (with_reducible exact LeO.refl _)
      | (with_reducible exact LeO.none _)
      | (with_reducible refine LeO.ite ?_ ?_)
      | (with_reducible refine LeO.bind ?_ (fun _ => ?_))
      | exact spec_l2Sym.mono _ _
      | exact LeO.none _
      | refine LeO.ite ?_ ?_
      | refine LeO.bind ?_ (fun _ => ?_)
set_option maxHeartbeats 8000000 in
set_option maxRecDepth 100000 in
theorem spec_SymFault.calls (k : Nat) (a0 : ByteArray) (r : Int) (w : World) (h : spec_SymFault.f k a0 = some r) :
    Calls Tryd.prog 84 #[.string a0] w fun e w' => e = .returned (.int .i64 r) ∧ Drawn0 w w' := by
  have H : ((spec_l2Sym.f k a0).bind fun t321 => (if t321 = true then (some 0) else (some 5))) = some r := h
  clear h
  replace H := Option.bind_eq_some_iff.mp H
  obtain ⟨t321, A20, H⟩ := H
  replace H : (if t321 = true then (some 0) else (some 5)) = some r := H
  have A2 := ak A20
  clear A20
  by_cases c3 : t321 = true
  ·subst c3
   have H1 : (some 0) = some r := by rw [if_pos rfl] at H; exact H
   clear H
   have H := H1
   clear H1
   obtain rfl := Option.some.inj H
   go_enter Tryd.func84, Tryd.ntmps84
   go_wp2_with (first | ((with_reducible refine gate_callee (f := 87) rfl ?_); refine goesL_ (some 4) rfl rfl Tryd.func87 (by kernel_rfl) rfl #[.string a0] rfl d11_5 ?_; (with_reducible refine (spec_l2Sym.calls k a0 true _ A2.out).mono ?_); rintro e w' ⟨rfl, ⟨nd, rfl⟩⟩; refine ⟨_, rfl, ?_⟩))
   go_ret
   exact ⟨by first | rfl | (simp; done) | (simp [*]; done) | (simp [ne_nil_b, eq_nil_b]; done), by repeat (first | exact Drawn0.refl _ | apply Drawn0.step)⟩
  ·replace c3 := Bool.eq_false_iff.mpr c3
   subst c3
   have H1 : (some 5) = some r := by rw [if_neg (show ¬ (false = true) by decide)] at H; exact H
   clear H
   have H := H1
   clear H1
   obtain rfl := Option.some.inj H
   go_enter Tryd.func84, Tryd.ntmps84
   go_wp2_with (first | ((with_reducible refine gate_callee (f := 87) rfl ?_); refine goesL_ (some 4) rfl rfl Tryd.func87 (by kernel_rfl) rfl #[.string a0] rfl d11_5 ?_; (with_reducible refine (spec_l2Sym.calls k a0 false _ A2.out).mono ?_); rintro e w' ⟨rfl, ⟨nd, rfl⟩⟩; refine ⟨_, rfl, ?_⟩))
   go_ret
   exact ⟨by first | rfl | (simp; done) | (simp [*]; done) | (simp [ne_nil_b, eq_nil_b]; done), by repeat (first | exact Drawn0.refl _ | apply Drawn0.step)⟩

/-! ### spec_l7Asked: function 51 -/
def spec_l7Asked.f (k : Nat) (l0 : List (S35)) (a1 : ByteArray) : Option (Int) := (spec_l7Fault.f k l0).bind fun t322 => (if t322 = 0 then ((spec_SymFault.f k a1).bind fun t323 => (some t323)) else (some t322))
theorem spec_l7Asked.mono : ∀ a0 a1 k, LeO (spec_l7Asked.f k a0 a1) (spec_l7Asked.f (k + 1) a0 a1) := by
  intro a0 a1 k
  unfold spec_l7Asked.f
  repeat' first
      | (with_reducible exact spec_SymFault.mono _ _)
      | (with_reducible exact spec_l7Fault.mono _ _)
      | (with_reducible exact LeO.refl _)
      | (with_reducible exact LeO.none _)
      | (with_reducible refine LeO.ite ?_ ?_)
      | (with_reducible refine LeO.bind ?_ (fun _ => ?_))
      | exact spec_SymFault.mono _ _
      | exact spec_l7Fault.mono _ _
      | exact LeO.none _
      | refine LeO.ite ?_ ?_
      | refine LeO.bind ?_ (fun _ => ?_)
set_option maxHeartbeats 8000000 in
set_option maxRecDepth 100000 in
theorem spec_l7Asked.calls (k : Nat) (A0 : Option Addr) (c0 : Nat) (l0 : List (S35)) (a1 : ByteArray) (r : Int) (w : World) (hr0 : Kd.C k35 w A0 l0.length l0) (hc0 : l0.length ≤ c0) (h : spec_l7Asked.f k l0 a1 = some r) :
    Calls Tryd.prog 51 #[.slice A0 l0.length c0, .string a1] w fun e w' => e = .returned (.int .i64 r) ∧ Drawn0 w w' := by
  have HR0 := ak hr0
  have HC0 := ak hc0
  clear hr0 hc0
  have H : ((spec_l7Fault.f k l0).bind fun t322 => (if t322 = 0 then ((spec_SymFault.f k a1).bind fun t323 => (some t323)) else (some t322))) = some r := h
  clear h
  replace H := Option.bind_eq_some_iff.mp H
  obtain ⟨t322, A30, H⟩ := H
  replace H : (if t322 = 0 then ((spec_SymFault.f k a1).bind fun t323 => (some t323)) else (some t322)) = some r := H
  have A3 := ak A30
  clear A30
  by_cases c4 : t322 = 0
  ·rw [if_pos c4] at H
   have c4b0 : (t322 == 0) = true := beq_iff_eq.mpr c4
   have c4b1 : (t322 != 0) = false := bne_eq_false_iff_eq.mpr c4
   clear c4
   replace H := Option.bind_eq_some_iff.mp H
   obtain ⟨t323, A50, H⟩ := H
   replace H : (some t323) = some r := H
   have A5 := ak A50
   clear A50
   obtain rfl := Option.some.inj H
   go_enter Tryd.func51, Tryd.ntmps51
   go_wp2_with (first | ((with_reducible refine gate_callee (f := 83) rfl ?_); refine goesL_ (some 7) rfl rfl Tryd.func83 (by kernel_rfl) rfl #[.slice A0 l0.length c0] rfl d11_5 ?_; (with_reducible refine (spec_l7Fault.calls k _ _ l0 t322 _ ?side1 ?side2 A3.out).mono ?_); (case side1 => repeat (first | exact HR0.out | (with_reducible refine Kd.C_alloc ?_ _) | (with_reducible refine Kd.C_drewN ?_ _) | (with_reducible refine Kd.C_drew ?_))); (case side2 => exact HC0.out); rintro e w' ⟨rfl, ⟨nd, rfl⟩⟩; refine ⟨_, rfl, ?_⟩) | ((with_reducible refine gate_callee (f := 84) rfl ?_); refine goesL_ (some 12) rfl rfl Tryd.func84 (by kernel_rfl) rfl #[.string a1] rfl d11_5 ?_; (with_reducible refine (spec_SymFault.calls k a1 t323 _ A5.out).mono ?_); rintro e w' ⟨rfl, ⟨nd, rfl⟩⟩; refine ⟨_, rfl, ?_⟩))
   go_ret
   exact ⟨by first | rfl | (simp; done) | (simp [*]; done) | (simp [ne_nil_b, eq_nil_b]; done), by repeat (first | exact Drawn0.refl _ | apply Drawn0.step)⟩
  ·rw [if_neg c4] at H
   have c4b0 : (t322 == 0) = false := beq_eq_false_iff_ne.mpr c4
   have c4b1 : (t322 != 0) = true := bne_iff_ne.mpr c4
   obtain rfl := Option.some.inj H
   go_enter Tryd.func51, Tryd.ntmps51
   go_wp2_with (first | ((with_reducible refine gate_callee (f := 83) rfl ?_); refine goesL_ (some 7) rfl rfl Tryd.func83 (by kernel_rfl) rfl #[.slice A0 l0.length c0] rfl d11_5 ?_; (with_reducible refine (spec_l7Fault.calls k _ _ l0 t322 _ ?side1 ?side2 A3.out).mono ?_); (case side1 => repeat (first | exact HR0.out | (with_reducible refine Kd.C_alloc ?_ _) | (with_reducible refine Kd.C_drewN ?_ _) | (with_reducible refine Kd.C_drew ?_))); (case side2 => exact HC0.out); rintro e w' ⟨rfl, ⟨nd, rfl⟩⟩; refine ⟨_, rfl, ?_⟩))
   go_ret
   exact ⟨by first | rfl | (simp; done) | (simp [*]; done) | (simp [ne_nil_b, eq_nil_b]; done), by repeat (first | exact Drawn0.refl _ | apply Drawn0.step)⟩

/-! ### spec_l7Put: function 53 -/
def spec_l7Put.f (k : Nat) (l0 : List (S35)) (a1 : ByteArray) (a2_0 : Int) (a2_1 : Int) (a2_2 : ByteArray) : Option ((List (S35)) × Int) := (some (([] : List (S35)) : List (S35))).bind fun y325 => (if y325.length + l0.length < 2513169434916 then ((some (y325 ++ l0 : List (S35))).bind fun y328 => ((spec_l7At.f k l0 a1).bind fun t331 => (if t331 ≥ 0 then (if 0 ≤ t331 then (if t331 < (y328.length : Int) then (if ((rd_T35 y328 t331).f2) ≥ 99999 then (some (([] : List (S35)), 3)) else ((some (y328.set (t331 : Int).toNat (⟨(rd_T35 y328 t331).f0, (⟨a2_0, a2_1, a2_2⟩ : S33), (rd_T35 y328 t331).f2⟩ : S35) : List (S35))).bind fun y333 => (some ((y333.set (t331 : Int).toNat (⟨(rd_T35 y333 t331).f0, (⟨(rd_T35 y333 t331).f1.f0, (rd_T35 y333 t331).f1.f1, (rd_T35 y333 t331).f1.f2⟩ : S33), wrap64 (((rd_T35 y333 t331).f2) + 1)⟩ : S35)), 0)))) else (none)) else (none)) else (if (y328.length : Int) ≥ 60 then (some (([] : List (S35)), 2)) else (if y328.length < 2513169434916 then (some ((y328 ++ [(⟨a1, (⟨a2_0, a2_1, a2_2⟩ : S33), 1⟩ : S35)]), 0)) else (none)))))) else (none))
theorem spec_l7Put.mono : ∀ a0 a1 a2 a3 a4 k, LeO (spec_l7Put.f k a0 a1 a2 a3 a4) (spec_l7Put.f (k + 1) a0 a1 a2 a3 a4) := by
  intro a0 a1 a2 a3 a4 k
  unfold spec_l7Put.f
  repeat' first
      | (with_reducible exact spec_l7At.mono _ _ _)
      | (with_reducible exact LeO.refl _)
      | (with_reducible exact LeO.none _)
      | (with_reducible refine LeO.ite ?_ ?_)
      | (with_reducible refine LeO.bind ?_ (fun _ => ?_))
      | exact spec_l7At.mono _ _ _
      | exact LeO.none _
      | refine LeO.ite ?_ ?_
      | refine LeO.bind ?_ (fun _ => ?_)
set_option maxHeartbeats 8000000 in
set_option maxRecDepth 100000 in
theorem spec_l7Put.calls (k : Nat) (A0 : Option Addr) (c0 : Nat) (l0 : List (S35)) (a1 : ByteArray) (a2_0 : Int) (a2_1 : Int) (a2_2 : ByteArray) (r1 : List (S35)) (r2 : Int) (w : World) (hr0 : Kd.C k35 w A0 l0.length l0) (hc0 : l0.length ≤ c0) (h : spec_l7Put.f k l0 a1 a2_0 a2_1 a2_2 = some (r1, r2)) :
    Calls Tryd.prog 53 #[.slice A0 l0.length c0, .string a1, .agg #[.int .i64 a2_0, .int .i64 a2_1, .string a2_2]] w fun e w' => ∃ v0_ : Value, e = .returned (.tuple #[v0_, .int .i64 r2]) ∧ Kd.R k35 35 w' w.heap.size (fun _ => True) v0_ r1 ∧ Below w.heap.size w w' := by
  have hu33 := Tryd.underlying33
  have hu35 := Tryd.underlying35
  have HR0 := ak hr0
  have HC0 := ak hc0
  clear hr0 hc0
  have HB := ak (Below.refl w.heap.size w)
  have H : ((some (([] : List (S35)) : List (S35))).bind fun y325 => (if y325.length + l0.length < 2513169434916 then ((some (y325 ++ l0 : List (S35))).bind fun y328 => ((spec_l7At.f k l0 a1).bind fun t331 => (if t331 ≥ 0 then (if 0 ≤ t331 then (if t331 < (y328.length : Int) then (if ((rd_T35 y328 t331).f2) ≥ 99999 then (some (([] : List (S35)), 3)) else ((some (y328.set (t331 : Int).toNat (⟨(rd_T35 y328 t331).f0, (⟨a2_0, a2_1, a2_2⟩ : S33), (rd_T35 y328 t331).f2⟩ : S35) : List (S35))).bind fun y333 => (some ((y333.set (t331 : Int).toNat (⟨(rd_T35 y333 t331).f0, (⟨(rd_T35 y333 t331).f1.f0, (rd_T35 y333 t331).f1.f1, (rd_T35 y333 t331).f1.f2⟩ : S33), wrap64 (((rd_T35 y333 t331).f2) + 1)⟩ : S35)), 0)))) else (none)) else (none)) else (if (y328.length : Int) ≥ 60 then (some (([] : List (S35)), 2)) else (if y328.length < 2513169434916 then (some ((y328 ++ [(⟨a1, (⟨a2_0, a2_1, a2_2⟩ : S33), 1⟩ : S35)]), 0)) else (none)))))) else (none))) = some (r1, r2) := h
  clear h
  obtain ⟨y325, hy325⟩ : ∃ y_ : List (S35), y_ = (([] : List (S35))) := ⟨_, rfl⟩
  replace H : (if y325.length + l0.length < 2513169434916 then ((some (y325 ++ l0 : List (S35))).bind fun y328 => ((spec_l7At.f k l0 a1).bind fun t331 => (if t331 ≥ 0 then (if 0 ≤ t331 then (if t331 < (y328.length : Int) then (if ((rd_T35 y328 t331).f2) ≥ 99999 then (some (([] : List (S35)), 3)) else ((some (y328.set (t331 : Int).toNat (⟨(rd_T35 y328 t331).f0, (⟨a2_0, a2_1, a2_2⟩ : S33), (rd_T35 y328 t331).f2⟩ : S35) : List (S35))).bind fun y333 => (some ((y333.set (t331 : Int).toNat (⟨(rd_T35 y333 t331).f0, (⟨(rd_T35 y333 t331).f1.f0, (rd_T35 y333 t331).f1.f1, (rd_T35 y333 t331).f1.f2⟩ : S33), wrap64 (((rd_T35 y333 t331).f2) + 1)⟩ : S35)), 0)))) else (none)) else (none)) else (if (y328.length : Int) ≥ 60 then (some (([] : List (S35)), 2)) else (if y328.length < 2513169434916 then (some ((y328 ++ [(⟨a1, (⟨a2_0, a2_1, a2_2⟩ : S33), 1⟩ : S35)]), 0)) else (none)))))) else (none)) = some (r1, r2) := by first | (rw [hy325]; with_reducible exact H) | (have H2_ := (Option.bind_some _ _).symm.trans H; rw [hy325]; with_reducible exact H2_) | (have H2_ := (Option.bind_some _ _).symm.trans H; with_reducible exact H2_) | with_reducible exact H | (rw [hy325]; exact H) | exact H
  have Ny325 := ak hy325
  clear hy325
  by_cases c4 : y325.length + l0.length < 2513169434916
  ·rw [if_pos c4] at H
   have LMc4 := ak c4
   clear c4
   obtain ⟨y328, hy328⟩ : ∃ y_ : List (S35), y_ = (y325 ++ l0) := ⟨_, rfl⟩
   replace H : ((spec_l7At.f k l0 a1).bind fun t331 => (if t331 ≥ 0 then (if 0 ≤ t331 then (if t331 < (y328.length : Int) then (if ((rd_T35 y328 t331).f2) ≥ 99999 then (some (([] : List (S35)), 3)) else ((some (y328.set (t331 : Int).toNat (⟨(rd_T35 y328 t331).f0, (⟨a2_0, a2_1, a2_2⟩ : S33), (rd_T35 y328 t331).f2⟩ : S35) : List (S35))).bind fun y333 => (some ((y333.set (t331 : Int).toNat (⟨(rd_T35 y333 t331).f0, (⟨(rd_T35 y333 t331).f1.f0, (rd_T35 y333 t331).f1.f1, (rd_T35 y333 t331).f1.f2⟩ : S33), wrap64 (((rd_T35 y333 t331).f2) + 1)⟩ : S35)), 0)))) else (none)) else (none)) else (if (y328.length : Int) ≥ 60 then (some (([] : List (S35)), 2)) else (if y328.length < 2513169434916 then (some ((y328 ++ [(⟨a1, (⟨a2_0, a2_1, a2_2⟩ : S33), 1⟩ : S35)]), 0)) else (none))))) = some (r1, r2) := by first | (rw [hy328]; with_reducible exact H) | (have H2_ := (Option.bind_some _ _).symm.trans H; rw [hy328]; with_reducible exact H2_) | (have H2_ := (Option.bind_some _ _).symm.trans H; with_reducible exact H2_) | with_reducible exact H | (rw [hy328]; exact H) | exact H
   have Ny328 := ak hy328
   clear hy328
   replace H := Option.bind_eq_some_iff.mp H
   obtain ⟨t331, A50, H⟩ := H
   replace H : (if t331 ≥ 0 then (if 0 ≤ t331 then (if t331 < (y328.length : Int) then (if ((rd_T35 y328 t331).f2) ≥ 99999 then (some (([] : List (S35)), 3)) else ((some (y328.set (t331 : Int).toNat (⟨(rd_T35 y328 t331).f0, (⟨a2_0, a2_1, a2_2⟩ : S33), (rd_T35 y328 t331).f2⟩ : S35) : List (S35))).bind fun y333 => (some ((y333.set (t331 : Int).toNat (⟨(rd_T35 y333 t331).f0, (⟨(rd_T35 y333 t331).f1.f0, (rd_T35 y333 t331).f1.f1, (rd_T35 y333 t331).f1.f2⟩ : S33), wrap64 (((rd_T35 y333 t331).f2) + 1)⟩ : S35)), 0)))) else (none)) else (none)) else (if (y328.length : Int) ≥ 60 then (some (([] : List (S35)), 2)) else (if y328.length < 2513169434916 then (some ((y328 ++ [(⟨a1, (⟨a2_0, a2_1, a2_2⟩ : S33), 1⟩ : S35)]), 0)) else (none)))) = some (r1, r2) := H
   have A5 := ak A50
   clear A50
   by_cases c6 : t331 ≥ 0
   ·rw [if_pos c6] at H
    have c6b0 : decide (0 ≤ t331) = true := decide_eq_true c6
    clear c6
    by_cases c7 : 0 ≤ t331
    ·rw [if_pos c7] at H
     have c7b0 : decide (0 ≤ t331) = true := decide_eq_true c7
     clear c7
     by_cases c8 : t331 < (y328.length : Int)
     ·rw [if_pos c8] at H
      have c8b0 : decide (t331 < (y328.length : Int)) = true := decide_eq_true c8
      clear c8
      by_cases c9 : ((rd_T35 y328 t331).f2) ≥ 99999
      ·rw [if_pos c9] at H
       have c9b0 : decide (99999 ≤ ((rd_T35 y328 t331).f2)) = true := decide_eq_true c9
       clear c9
       simp only [Option.some.injEq, Prod.mk.injEq] at H
       obtain ⟨rfl, rfl⟩ := H
       go_enter Tryd.func53, Tryd.ntmps53
       go_wp2_with (first | ((with_reducible refine gate_dst (N := 5) rfl ?_); refine box_event ?hg (N := 5) ?hd (cs := #[.int .i64 a2_0, .int .i64 a2_1, .string a2_2]) (t := 33) ?hr ?_; (case hd => rfl); (case hg => rfl); (case hr => first | (go_simp; done) | (go_simp; rfl)); intro gb324 hg w10 hbox hb; have n0_ := ak (below_step d11_3 hb); have n1_ := ak (hbox); have n2_ := ak ((d11_12 : w.heap.size ≤ gb324)); have n3_ := ak ((d11_12 : w.heap.size ≤ gb324)); clear HB; have HB := n0_; have BK324 := n1_; have GW324 := n2_; have GE324 := n3_; clear n0_ n1_ n2_ n3_ hb hbox hg) | ((with_reducible refine gate_dst (N := 10) rfl ?_); refine Kd.R_lit k35 _ 35 ?hg (N := 10) ?hd (xs := ([] : List (S35))) (inner := []) (ok := fun _ => True) (okp := fun _ => True) ?hr ?hp (fun _ hk => hk) trivial (Below.refl _ _) (Nat.le_refl _) (by simp) ?_; (case hd => rfl); (case hg => rfl); (case hr => first | (go_simp; done) | (go_simp; rfl)); (case hp => exact (Reps.none _ _)); intro v326 w11 ho12 hb hg_ hnew_; clear hg_ hnew_; (first | rw [← Ny325.out] at ho12 | (simp only [Int.reduceToNat] at ho12; rw [← Ny325.out] at ho12)); have n0_ := ak (Kd.R_lower ho12 (below_size d11_2)); have n1_ := ak (blk_below (g := gb324) (o := .cells #[.int .i64 a2_0, .int .i64 a2_1, .string a2_2] 33 (0, 0)) d11_7 hb); have n2_ := ak (below_step d11_2 hb); clear BK324 HB; have HO327 := n0_; have BK324 := n1_; have HB := n2_; clear n0_ n1_ n2_ hb ho12) | ((with_reducible refine gate_builtin (b := .append) (xs := #[.tmp 10, .tmp 11]) rfl ?_); at_builtin; refine Kd.R_append_rows k35 (w0 := w) w.heap.size rfl (.tmp 10) (.tmp 11) 25 35 (.agg #[(.string ⟨#[]⟩), (.int .i64 0), (.int .i64 0), (.string ⟨#[]⟩), (.int .i64 0)]) 56 rfl Tryd.underlying25 info35 rfl (by decide) (by omega) v326 y325 l0 _ _ _ (fun _ => True) (fun _ => False) rfl rfl ?aO ?aR (fun _ _ h => h) (fun _ h => h.elim) ?aF ?aB ?aS ?aL ?_; (case aR => repeat (first | exact (Kd.C_below HR0.out HB.out) | (with_reducible refine Kd.C_alloc ?_ _) | (with_reducible refine Kd.C_drewN ?_ _) | (with_reducible refine Kd.C_drew ?_))); (case aB => exact d11_2); (case aF => exact (fun _ _ => trivial)); (case aO => exact d11_10); (case aS => exact (below_size d11_2)); (case aL => have := LMc4.out; omega); intro v329 w13 ho hb hg hat; rw [← Ny328.out] at ho; have n0_ := ak (blk_grown (g := gb324) (o := .cells #[.int .i64 a2_0, .int .i64 a2_1, .string a2_2] 33 (0, 0)) d11_7 hg (Kd.R_ne HO327.out BK324.out (by decide))); have n1_ := ak (hb); have n2_ := ak (ho); clear BK324 HB HO327; have BK324 := n0_; have HB := n1_; have HO330 := n2_; clear n0_ n1_ n2_ ho hb hg hat) | ((with_reducible refine gate_callee (f := 54) rfl ?_); refine goesL_ (some 15) rfl rfl Tryd.func54 (by kernel_rfl) rfl #[.slice A0 l0.length c0, .string a1] rfl d11_5 ?_; (with_reducible refine (spec_l7At.calls k _ _ l0 a1 t331 _ ?side1 ?side2 A5.out).mono ?_); (case side1 => repeat (first | exact (Kd.C_below HR0.out HB.out) | (with_reducible refine Kd.C_alloc ?_ _) | (with_reducible refine Kd.C_drewN ?_ _) | (with_reducible refine Kd.C_drew ?_))); (case side2 => exact HC0.out); rintro e w' ⟨rfl, ⟨nd, rfl⟩⟩; refine ⟨_, rfl, ?_⟩; obtain ⟨Ao14, co14, eo14⟩ := Kd.R_slice HO330.out; subst eo14; have p332 : 0 ≤ (t331 : Int) := of_decide_eq_true d11_4; have q332 : t331 < (y328.length : Int) := of_decide_eq_true d11_4; obtain ⟨ad332, e332, hx332_0, hx332_1, hx332_2, hx332_3, hx332_4⟩ := at_T35 (Kd.R_reads' HO330.out).2.2 t331 p332 q332; cases e332; replace p332 := eq_true p332; replace q332 := eq_true q332))
       go_ret2
       exact ⟨_, by first | rfl | (simp [errW_none, errW_some] <;> rfl) | (simp [*, errW_none, errW_some] <;> rfl), by first | exact Kd.R_nil _ _ _ _ _ | exact Kd.N_nil _ _ _ _ _ | exact Kd.V_nil _ _ _ _ _ | exact Kd.Q_nil _ _ _ _ _ | exact Kd.S_nil _ _ _ _ _, by repeat (first | (with_reducible first | exact HB.out | apply below_alloc | apply pw_below_drewN | apply below_drew1 | refine below_set ?_ GE324.out) | exact HB.out)⟩
      ·rw [if_neg c9] at H
       have c9b0 : decide (99999 ≤ ((rd_T35 y328 t331).f2)) = false := decide_eq_false c9
       clear c9
       obtain ⟨y333, hy333⟩ : ∃ y_ : List (S35), y_ = (y328.set (t331 : Int).toNat (⟨(rd_T35 y328 t331).f0, (⟨a2_0, a2_1, a2_2⟩ : S33), (rd_T35 y328 t331).f2⟩ : S35)) := ⟨_, rfl⟩
       replace H : (some ((y333.set (t331 : Int).toNat (⟨(rd_T35 y333 t331).f0, (⟨(rd_T35 y333 t331).f1.f0, (rd_T35 y333 t331).f1.f1, (rd_T35 y333 t331).f1.f2⟩ : S33), wrap64 (((rd_T35 y333 t331).f2) + 1)⟩ : S35)), 0)) = some (r1, r2) := by first | (rw [hy333]; with_reducible exact H) | (have H2_ := (Option.bind_some _ _).symm.trans H; rw [hy333]; with_reducible exact H2_) | (have H2_ := (Option.bind_some _ _).symm.trans H; with_reducible exact H2_) | with_reducible exact H | (rw [hy333]; exact H) | exact H
       have Ny333 := ak hy333
       clear hy333
       obtain ⟨y335, hy335⟩ : ∃ y_ : List (S35), y_ = (y333.set (t331 : Int).toNat (⟨(rd_T35 y333 t331).f0, (⟨(rd_T35 y333 t331).f1.f0, (rd_T35 y333 t331).f1.f1, (rd_T35 y333 t331).f1.f2⟩ : S33), wrap64 (((rd_T35 y333 t331).f2) + 1)⟩ : S35)) := ⟨_, rfl⟩
       replace H : (some (y335, 0)) = some (r1, r2) := by first | (rw [hy335]; with_reducible exact H) | (have H2_ := (Option.bind_some _ _).symm.trans H; rw [hy335]; with_reducible exact H2_) | (have H2_ := (Option.bind_some _ _).symm.trans H; with_reducible exact H2_) | with_reducible exact H | (rw [hy335]; exact H) | exact H
       have Ny335 := ak hy335
       clear hy335
       simp only [Option.some.injEq, Prod.mk.injEq] at H
       obtain ⟨rfl, rfl⟩ := H
       go_enter Tryd.func53, Tryd.ntmps53
       go_wp2_with (first | ((with_reducible refine gate_dst (N := 5) rfl ?_); refine box_event ?hg (N := 5) ?hd (cs := #[.int .i64 a2_0, .int .i64 a2_1, .string a2_2]) (t := 33) ?hr ?_; (case hd => rfl); (case hg => rfl); (case hr => first | (go_simp; done) | (go_simp; rfl)); intro gb324 hg w17 hbox hb; have n0_ := ak (below_step d11_3 hb); have n1_ := ak (hbox); have n2_ := ak ((d11_12 : w.heap.size ≤ gb324)); have n3_ := ak ((d11_12 : w.heap.size ≤ gb324)); clear HB; have HB := n0_; have BK324 := n1_; have GW324 := n2_; have GE324 := n3_; clear n0_ n1_ n2_ n3_ hb hbox hg) | ((with_reducible refine gate_dst (N := 10) rfl ?_); refine Kd.R_lit k35 _ 35 ?hg (N := 10) ?hd (xs := ([] : List (S35))) (inner := []) (ok := fun _ => True) (okp := fun _ => True) ?hr ?hp (fun _ hk => hk) trivial (Below.refl _ _) (Nat.le_refl _) (by simp) ?_; (case hd => rfl); (case hg => rfl); (case hr => first | (go_simp; done) | (go_simp; rfl)); (case hp => exact (Reps.none _ _)); intro v326 w18 ho19 hb hg_ hnew_; clear hg_ hnew_; (first | rw [← Ny325.out] at ho19 | (simp only [Int.reduceToNat] at ho19; rw [← Ny325.out] at ho19)); have n0_ := ak (Kd.R_lower ho19 (below_size d11_2)); have n1_ := ak (blk_below (g := gb324) (o := .cells #[.int .i64 a2_0, .int .i64 a2_1, .string a2_2] 33 (0, 0)) d11_7 hb); have n2_ := ak (below_step d11_2 hb); clear BK324 HB; have HO327 := n0_; have BK324 := n1_; have HB := n2_; clear n0_ n1_ n2_ hb ho19) | ((with_reducible refine gate_builtin (b := .append) (xs := #[.tmp 10, .tmp 11]) rfl ?_); at_builtin; refine Kd.R_append_rows k35 (w0 := w) w.heap.size rfl (.tmp 10) (.tmp 11) 25 35 (.agg #[(.string ⟨#[]⟩), (.int .i64 0), (.int .i64 0), (.string ⟨#[]⟩), (.int .i64 0)]) 56 rfl Tryd.underlying25 info35 rfl (by decide) (by omega) v326 y325 l0 _ _ _ (fun _ => True) (fun _ => False) rfl rfl ?aO ?aR (fun _ _ h => h) (fun _ h => h.elim) ?aF ?aB ?aS ?aL ?_; (case aR => repeat (first | exact (Kd.C_below HR0.out HB.out) | (with_reducible refine Kd.C_alloc ?_ _) | (with_reducible refine Kd.C_drewN ?_ _) | (with_reducible refine Kd.C_drew ?_))); (case aB => exact d11_2); (case aF => exact (fun _ _ => trivial)); (case aO => exact d11_10); (case aS => exact (below_size d11_2)); (case aL => have := LMc4.out; omega); intro v329 w20 ho hb hg hat; rw [← Ny328.out] at ho; have n0_ := ak (blk_grown (g := gb324) (o := .cells #[.int .i64 a2_0, .int .i64 a2_1, .string a2_2] 33 (0, 0)) d11_7 hg (Kd.R_ne HO327.out BK324.out (by decide))); have n1_ := ak (hb); have n2_ := ak (ho); clear BK324 HB HO327; have BK324 := n0_; have HB := n1_; have HO330 := n2_; clear n0_ n1_ n2_ ho hb hg hat) | ((with_reducible refine gate_callee (f := 54) rfl ?_); refine goesL_ (some 15) rfl rfl Tryd.func54 (by kernel_rfl) rfl #[.slice A0 l0.length c0, .string a1] rfl d11_5 ?_; (with_reducible refine (spec_l7At.calls k _ _ l0 a1 t331 _ ?side1 ?side2 A5.out).mono ?_); (case side1 => repeat (first | exact (Kd.C_below HR0.out HB.out) | (with_reducible refine Kd.C_alloc ?_ _) | (with_reducible refine Kd.C_drewN ?_ _) | (with_reducible refine Kd.C_drew ?_))); (case side2 => exact HC0.out); rintro e w' ⟨rfl, ⟨nd, rfl⟩⟩; refine ⟨_, rfl, ?_⟩; (try (rw [drewN_self w20]; generalize hq_ : World.drewN w20 _ = w20; have n0_ : Aside0 (Kd.R k35 35 w20 w.heap.size (fun _ => True) v329 y328) := ⟨by rw [← hq_]; exact d11_11⟩; have n1_ : Aside0 (w20.heap[gb324]? = some (.cells #[.int .i64 a2_0, .int .i64 a2_1, .string a2_2] 33 (0, 0))) := ⟨by rw [← hq_]; exact d11_7⟩; have n2_ : Aside0 (Below w.heap.size w w20) := ⟨by rw [← hq_]; exact d11_2⟩; clear HO330 BK324 HB hq_; have HO330 := n0_; have BK324 := n1_; have HB := n2_; clear n0_ n1_ n2_)); obtain ⟨Ao21, co21, eo21⟩ := Kd.R_slice HO330.out; subst eo21; have p332 : 0 ≤ (t331 : Int) := of_decide_eq_true d11_4; have q332 : t331 < (y328.length : Int) := of_decide_eq_true d11_4; obtain ⟨ad332, e332, hx332_0, hx332_1, hx332_2, hx332_3, hx332_4⟩ := at_T35 (Kd.R_reads' HO330.out).2.2 t331 p332 q332; cases e332; replace p332 := eq_true p332; replace q332 := eq_true q332; have hcz22_0 : w20.cell? ⟨gb324, 0, none⟩ = some (.int .i64 a2_0) := (blk_cell BK324.out 0).trans rfl; have hcz22_1 : w20.cell? ⟨gb324, 1, none⟩ = some (.int .i64 a2_1) := (blk_cell BK324.out 1).trans rfl; have hcz22_2 : w20.cell? ⟨gb324, 2, none⟩ = some (.string a2_2) := (blk_cell BK324.out 2).trans rfl; have hfz22_0 := blk_frozen BK324.out 0; have hfz22_1 := blk_frozen BK324.out 1; have hfz22_2 := blk_frozen BK324.out 2; have p15 : 0 ≤ (t331 : Int) := of_decide_eq_true d11_4; have q15 : (t331 : Int) < ((y328.length : Int) : Int) := of_decide_eq_true d11_4; obtain ⟨go15, co15, eo15, gb15, gl15, cl15, HG15⟩ := Kd.R_form HO330.out (by omega); (first | cases eo15 | (injection eo15 with ea_ en_ ec_; (first | subst ea_ | (injection ea_ with ea_; subst ea_)); subst ec_; clear en_)); have GB15 := ak gb15; have GG15 := ak HG15; clear gb15 gl15 HG15; (first | simp only [add_plain] at hx332_0 | skip); (first | simp only [add_plain] at hx332_1 | skip); (first | simp only [add_plain] at hx332_2 | skip); (first | simp only [add_plain] at hx332_3 | skip); (first | simp only [add_plain] at hx332_4 | skip); obtain ⟨ce15, hcl15, hM15, hcc15, hfr15⟩ := Kd.R_elem HO330.out z35 (t331 : Int) p15 q15; obtain rfl := k35_openM hM15; have hx15_0 : w20.cell? ⟨go15, (t331 : Int).toNat * 5, none⟩ = some (.string ((rd_T35 y328 t331).f0)) := hcc15 0 _ rfl; have hx15_1 : w20.cell? ⟨go15, (t331 : Int).toNat * 5 + 1, none⟩ = some (.int .i64 ((rd_T35 y328 t331).f1.f0)) := hcc15 1 _ rfl; have hx15_2 : w20.cell? ⟨go15, (t331 : Int).toNat * 5 + 2, none⟩ = some (.int .i64 ((rd_T35 y328 t331).f1.f1)) := hcc15 2 _ rfl; have hx15_3 : w20.cell? ⟨go15, (t331 : Int).toNat * 5 + 3, none⟩ = some (.string ((rd_T35 y328 t331).f1.f2)) := hcc15 3 _ rfl; have hx15_4 : w20.cell? ⟨go15, (t331 : Int).toNat * 5 + 4, none⟩ = some (.int .i64 ((rd_T35 y328 t331).f2)) := hcc15 4 _ rfl; have hf15_0 : w20.frozen? ⟨go15, (t331 : Int).toNat * 5, none⟩ = false := hfr15 0; have hf15_1 : w20.frozen? ⟨go15, (t331 : Int).toNat * 5 + 1, none⟩ = false := hfr15 1; have hf15_2 : w20.frozen? ⟨go15, (t331 : Int).toNat * 5 + 2, none⟩ = false := hfr15 2; have hf15_3 : w20.frozen? ⟨go15, (t331 : Int).toNat * 5 + 3, none⟩ = false := hfr15 3; have hf15_4 : w20.frozen? ⟨go15, (t331 : Int).toNat * 5 + 4, none⟩ = false := hfr15 4; clear hcl15 hcc15 hfr15 hM15; replace p15 := eq_true p15; replace q15 := eq_true q15; have HX23 := ak (show Kd.R k35 35 w20 w.heap.size (fun _ => True) (.slice (some ⟨go15, 0, none⟩) y328.length co21) y328 from d11_11); obtain ⟨ce23, hcl23, hM23, hcc23, hfr23⟩ := Kd.R_elem HX23.out z35 (t331 : Int) (of_decide_eq_true d11_4) (by have h_ : (t331 : Int) < ((y328.length : Int) : Int) := of_decide_eq_true d11_4; first | exact h_ | (have e_ := (Kd.R_reads' HO330.out).1; omega) | simpa using h_); obtain rfl := k35_openM hM23; have HP23 := Kd.R_seg HX23.out (t331 : Int) (of_decide_eq_true d11_4) (by have h_ : (t331 : Int) < ((y328.length : Int) : Int) := of_decide_eq_true d11_4; first | exact h_ | (have e_ := (Kd.R_reads' HO330.out).1; omega) | simpa using h_) (seg := [.int .i64 a2_0, .int .i64 a2_1, .string a2_2]) (j := 1) hcl23 hcc23 (show 4 ≤ 5 from by decide) (x' := (⟨(rd_T35 y328 t331).f0, (⟨a2_0, a2_1, a2_2⟩ : S33), (rd_T35 y328 t331).f2⟩ : S35)) (k35_mkM _ _ _ (⟨(rd_T35 y328 t331).f0, (⟨a2_0, a2_1, a2_2⟩ : S33), (rd_T35 y328 t331).f2⟩ : S35) ) (fun _ hk => hk); have hx23_1 := hcc23 1 _ rfl; (try simp only [show (k35).sz = 5 from rfl, Nat.mul_one, Nat.add_zero] at hx23_1); have hf23_1 := hfr23 1; (try simp only [show (k35).sz = 5 from rfl, Nat.mul_one, Nat.add_zero] at hf23_1); have hx23_2 := hcc23 2 _ rfl; (try simp only [show (k35).sz = 5 from rfl, Nat.mul_one, Nat.add_zero] at hx23_2); have hf23_2 := hfr23 2; (try simp only [show (k35).sz = 5 from rfl, Nat.mul_one, Nat.add_zero] at hf23_2); have hx23_3 := hcc23 3 _ rfl; (try simp only [show (k35).sz = 5 from rfl, Nat.mul_one, Nat.add_zero] at hx23_3); have hf23_3 := hfr23 3; (try simp only [show (k35).sz = 5 from rfl, Nat.mul_one, Nat.add_zero] at hf23_3); clear hcl23 hcc23 hfr23 hM23) | ((with_reducible refine gate_store (t := 33) (p := 28) rfl ?_); refine store_event (t := 33) (p := 28) (v := ?vo_w24) (w1 := (((w20.setCell ⟨go15, (t331 : Int).toNat * 5 + 1, none⟩ (.int .i64 a2_0)).setCell ⟨go15, (t331 : Int).toNat * 5 + 2, none⟩ (.int .i64 a2_1)).setCell ⟨go15, (t331 : Int).toNat * 5 + 3, none⟩ (.string a2_2))) ?hg ?ho ?hn ?hr ?_; (case ho => rfl); (case hg => rfl); (case hn => rfl); (case hr => first | (go_simp; done) | (go_simp; rfl)); intro w24 hw; have hg : w20.grownBy w24 (some go15) := (by rw [hw]; exact HP23.2); have hp_ : Kd.R k35 35 w24 w.heap.size (fun _ => True) (.slice (some ⟨go15, 0, none⟩) y328.length co21) y333 := (by rw [hw, Ny333.out]; exact HP23.1); clear HP23; have n0_ := ak (blk_grown (g := gb324) (o := .cells #[.int .i64 a2_0, .int .i64 a2_1, .string a2_2] 33 (0, 0)) d11_7 hg (Kd.R_ne HO330.out BK324.out (by decide))); have n1_ := ak (hp_); have n2_ := ak ((by rw [hw]; exact below_set (below_set (below_set (HB.out) GB15.out) GB15.out) GB15.out : Below w.heap.size w w24)); clear BK324 HO330 HB; have BK324 := n0_; have HO330 := n1_; have HB := n2_; clear n0_ n1_ n2_ hg hw hp_; have p334 : 0 ≤ (t331 : Int) := of_decide_eq_true d11_4; have q334 : t331 < (y333.length : Int) := (by have h_ : (t331 : Int) < ((y328.length : Int) : Int) := of_decide_eq_true d11_4; first | (have e_ := (Kd.R_reads' HO330.out).1; omega) | simpa only [Ny333.out, List.length_set] using h_); have ql334 : ((t331 : Int) < ((y328.length : Int) : Int)) = True := eq_true (of_decide_eq_true d11_4); obtain ⟨ad334, e334, hx334_0, hx334_1, hx334_2, hx334_3, hx334_4⟩ := at_T35 (Kd.R_reads' HO330.out).2.2 t331 p334 q334; obtain rfl : (⟨go15, 0, none⟩ : Addr) = ad334 := (by injection e334); (first | simp only [add_plain] at hx334_0 | simp only [add_at] at hx334_0 | simp only [Addr.add, Nat.zero_add] at hx334_0 | skip); (first | simp only [add_plain] at hx334_1 | simp only [add_at] at hx334_1 | simp only [Addr.add, Nat.zero_add] at hx334_1 | skip); (first | simp only [add_plain] at hx334_2 | simp only [add_at] at hx334_2 | simp only [Addr.add, Nat.zero_add] at hx334_2 | skip); (first | simp only [add_plain] at hx334_3 | simp only [add_at] at hx334_3 | simp only [Addr.add, Nat.zero_add] at hx334_3 | skip); (first | simp only [add_plain] at hx334_4 | simp only [add_at] at hx334_4 | simp only [Addr.add, Nat.zero_add] at hx334_4 | skip); replace p334 := eq_true p334; replace q334 := eq_true q334; have p16 : 0 ≤ (t331 : Int) := of_decide_eq_true d11_4; have q16 : (t331 : Int) < ((y328.length : Int) : Int) := of_decide_eq_true d11_4; obtain ⟨ce16, hcl16, hM16, hcc16, hfr16⟩ := Kd.R_elem HO330.out z35 (t331 : Int) p16 q16; obtain rfl := k35_openM hM16; have hx16_0 : w24.cell? ⟨go15, (t331 : Int).toNat * 5, none⟩ = some (.string ((rd_T35 y333 t331).f0)) := hcc16 0 _ rfl; have hx16_1 : w24.cell? ⟨go15, (t331 : Int).toNat * 5 + 1, none⟩ = some (.int .i64 ((rd_T35 y333 t331).f1.f0)) := hcc16 1 _ rfl; have hx16_2 : w24.cell? ⟨go15, (t331 : Int).toNat * 5 + 2, none⟩ = some (.int .i64 ((rd_T35 y333 t331).f1.f1)) := hcc16 2 _ rfl; have hx16_3 : w24.cell? ⟨go15, (t331 : Int).toNat * 5 + 3, none⟩ = some (.string ((rd_T35 y333 t331).f1.f2)) := hcc16 3 _ rfl; have hx16_4 : w24.cell? ⟨go15, (t331 : Int).toNat * 5 + 4, none⟩ = some (.int .i64 ((rd_T35 y333 t331).f2)) := hcc16 4 _ rfl; have hf16_0 : w24.frozen? ⟨go15, (t331 : Int).toNat * 5, none⟩ = false := hfr16 0; have hf16_1 : w24.frozen? ⟨go15, (t331 : Int).toNat * 5 + 1, none⟩ = false := hfr16 1; have hf16_2 : w24.frozen? ⟨go15, (t331 : Int).toNat * 5 + 2, none⟩ = false := hfr16 2; have hf16_3 : w24.frozen? ⟨go15, (t331 : Int).toNat * 5 + 3, none⟩ = false := hfr16 3; have hf16_4 : w24.frozen? ⟨go15, (t331 : Int).toNat * 5 + 4, none⟩ = false := hfr16 4; clear hcl16 hcc16 hfr16 hM16; replace p16 := eq_true p16; replace q16 := eq_true q16; have HX25 := ak (show Kd.R k35 35 w24 w.heap.size (fun _ => True) (.slice (some ⟨go15, 0, none⟩) y328.length co21) y333 from d11_11); obtain ⟨ce25, hcl25, hM25, hcc25, hfr25⟩ := Kd.R_elem HX25.out z35 (t331 : Int) (of_decide_eq_true d11_4) (by have h_ : (t331 : Int) < ((y328.length : Int) : Int) := of_decide_eq_true d11_4; first | exact h_ | (have e_ := (Kd.R_reads' HO330.out).1; omega) | simpa using h_); obtain rfl := k35_openM hM25; have HP25 := Kd.R_seg HX25.out (t331 : Int) (of_decide_eq_true d11_4) (by have h_ : (t331 : Int) < ((y328.length : Int) : Int) := of_decide_eq_true d11_4; first | exact h_ | (have e_ := (Kd.R_reads' HO330.out).1; omega) | simpa using h_) (seg := [.int .i64 (wrap64 (((rd_T35 y333 t331).f2) + 1))]) (j := 4) hcl25 hcc25 (show 5 ≤ 5 from by decide) (x' := (⟨(rd_T35 y333 t331).f0, (⟨(rd_T35 y333 t331).f1.f0, (rd_T35 y333 t331).f1.f1, (rd_T35 y333 t331).f1.f2⟩ : S33), wrap64 (((rd_T35 y333 t331).f2) + 1)⟩ : S35)) (k35_mkM _ _ _ (⟨(rd_T35 y333 t331).f0, (⟨(rd_T35 y333 t331).f1.f0, (rd_T35 y333 t331).f1.f1, (rd_T35 y333 t331).f1.f2⟩ : S33), wrap64 (((rd_T35 y333 t331).f2) + 1)⟩ : S35) ) (fun _ hk => hk); have hx25_4 := hcc25 4 _ rfl; (try simp only [show (k35).sz = 5 from rfl, Nat.mul_one, Nat.add_zero] at hx25_4); have hf25_4 := hfr25 4; (try simp only [show (k35).sz = 5 from rfl, Nat.mul_one, Nat.add_zero] at hf25_4); clear hcl25 hcc25 hfr25 hM25) | ((with_reducible refine gate_store (t := 2) (p := 36) rfl ?_); refine store_event (t := 2) (p := 36) (v := ?vo_w26) (w1 := (w24.setCell ⟨go15, (t331 : Int).toNat * 5 + 4, none⟩ (.int .i64 (wrap64 (((rd_T35 y333 t331).f2) + 1))))) ?hg ?ho ?hn ?hr ?_; (case ho => rfl); (case hg => rfl); (case hn => rfl); (case hr => first | (go_simp; done) | (go_simp; rfl)); intro w26 hw; have hg : w24.grownBy w26 (some go15) := (by rw [hw]; exact HP25.2); have hp_ : Kd.R k35 35 w26 w.heap.size (fun _ => True) (.slice (some ⟨go15, 0, none⟩) y328.length co21) y335 := (by rw [hw, Ny335.out]; exact HP25.1); clear HP25; have n0_ := ak (blk_grown (g := gb324) (o := .cells #[.int .i64 a2_0, .int .i64 a2_1, .string a2_2] 33 (0, 0)) d11_7 hg (Kd.R_ne HO330.out BK324.out (by decide))); have n1_ := ak (hp_); have n2_ := ak ((by rw [hw]; exact below_set (HB.out) GB15.out : Below w.heap.size w w26)); clear BK324 HO330 HB; have BK324 := n0_; have HO330 := n1_; have HB := n2_; clear n0_ n1_ n2_ hg hw hp_))
       go_ret2
       exact ⟨_, by first | rfl | (simp [errW_none, errW_some] <;> rfl) | (simp [*, errW_none, errW_some] <;> rfl), by (with_reducible repeat (first | apply Kd.R_alloc | apply Kd.R_drewN | apply Kd.R_drew)); exact HO330.out, by repeat (first | (with_reducible first | exact HB.out | apply below_alloc | apply pw_below_drewN | apply below_drew1 | refine below_set ?_ GE324.out) | exact HB.out)⟩
     ·rw [if_neg c8] at H
      exact absurd H (by simp)
    ·rw [if_neg c7] at H
     exact absurd H (by simp)
   ·rw [if_neg c6] at H
    have c6b0 : decide (0 ≤ t331) = false := decide_eq_false c6
    clear c6
    by_cases c27 : (y328.length : Int) ≥ 60
    ·rw [if_pos c27] at H
     have c27b0 : decide (60 ≤ (y328.length : Int)) = true := decide_eq_true c27
     have c27b1 : decide (60 ≤ y328.length) = true := decide_eq_true (by omega)
     clear c27
     simp only [Option.some.injEq, Prod.mk.injEq] at H
     obtain ⟨rfl, rfl⟩ := H
     go_enter Tryd.func53, Tryd.ntmps53
     go_wp2_with (first | ((with_reducible refine gate_dst (N := 5) rfl ?_); refine box_event ?hg (N := 5) ?hd (cs := #[.int .i64 a2_0, .int .i64 a2_1, .string a2_2]) (t := 33) ?hr ?_; (case hd => rfl); (case hg => rfl); (case hr => first | (go_simp; done) | (go_simp; rfl)); intro gb324 hg w28 hbox hb; have n0_ := ak (below_step d11_3 hb); have n1_ := ak (hbox); have n2_ := ak ((d11_12 : w.heap.size ≤ gb324)); have n3_ := ak ((d11_12 : w.heap.size ≤ gb324)); clear HB; have HB := n0_; have BK324 := n1_; have GW324 := n2_; have GE324 := n3_; clear n0_ n1_ n2_ n3_ hb hbox hg) | ((with_reducible refine gate_dst (N := 10) rfl ?_); refine Kd.R_lit k35 _ 35 ?hg (N := 10) ?hd (xs := ([] : List (S35))) (inner := []) (ok := fun _ => True) (okp := fun _ => True) ?hr ?hp (fun _ hk => hk) trivial (Below.refl _ _) (Nat.le_refl _) (by simp) ?_; (case hd => rfl); (case hg => rfl); (case hr => first | (go_simp; done) | (go_simp; rfl)); (case hp => exact (Reps.none _ _)); intro v326 w29 ho30 hb hg_ hnew_; clear hg_ hnew_; (first | rw [← Ny325.out] at ho30 | (simp only [Int.reduceToNat] at ho30; rw [← Ny325.out] at ho30)); have n0_ := ak (Kd.R_lower ho30 (below_size d11_2)); have n1_ := ak (blk_below (g := gb324) (o := .cells #[.int .i64 a2_0, .int .i64 a2_1, .string a2_2] 33 (0, 0)) d11_7 hb); have n2_ := ak (below_step d11_2 hb); clear BK324 HB; have HO327 := n0_; have BK324 := n1_; have HB := n2_; clear n0_ n1_ n2_ hb ho30) | ((with_reducible refine gate_builtin (b := .append) (xs := #[.tmp 10, .tmp 11]) rfl ?_); at_builtin; refine Kd.R_append_rows k35 (w0 := w) w.heap.size rfl (.tmp 10) (.tmp 11) 25 35 (.agg #[(.string ⟨#[]⟩), (.int .i64 0), (.int .i64 0), (.string ⟨#[]⟩), (.int .i64 0)]) 56 rfl Tryd.underlying25 info35 rfl (by decide) (by omega) v326 y325 l0 _ _ _ (fun _ => True) (fun _ => False) rfl rfl ?aO ?aR (fun _ _ h => h) (fun _ h => h.elim) ?aF ?aB ?aS ?aL ?_; (case aR => repeat (first | exact (Kd.C_below HR0.out HB.out) | (with_reducible refine Kd.C_alloc ?_ _) | (with_reducible refine Kd.C_drewN ?_ _) | (with_reducible refine Kd.C_drew ?_))); (case aB => exact d11_2); (case aF => exact (fun _ _ => trivial)); (case aO => exact d11_10); (case aS => exact (below_size d11_2)); (case aL => have := LMc4.out; omega); intro v329 w31 ho hb hg hat; rw [← Ny328.out] at ho; have n0_ := ak (blk_grown (g := gb324) (o := .cells #[.int .i64 a2_0, .int .i64 a2_1, .string a2_2] 33 (0, 0)) d11_7 hg (Kd.R_ne HO327.out BK324.out (by decide))); have n1_ := ak (hb); have n2_ := ak (ho); clear BK324 HB HO327; have BK324 := n0_; have HB := n1_; have HO330 := n2_; clear n0_ n1_ n2_ ho hb hg hat) | ((with_reducible refine gate_callee (f := 54) rfl ?_); refine goesL_ (some 15) rfl rfl Tryd.func54 (by kernel_rfl) rfl #[.slice A0 l0.length c0, .string a1] rfl d11_5 ?_; (with_reducible refine (spec_l7At.calls k _ _ l0 a1 t331 _ ?side1 ?side2 A5.out).mono ?_); (case side1 => repeat (first | exact (Kd.C_below HR0.out HB.out) | (with_reducible refine Kd.C_alloc ?_ _) | (with_reducible refine Kd.C_drewN ?_ _) | (with_reducible refine Kd.C_drew ?_))); (case side2 => exact HC0.out); rintro e w' ⟨rfl, ⟨nd, rfl⟩⟩; refine ⟨_, rfl, ?_⟩; obtain ⟨Ao32, co32, eo32⟩ := Kd.R_slice HO330.out; subst eo32))
     go_ret2
     exact ⟨_, by first | rfl | (simp [errW_none, errW_some] <;> rfl) | (simp [*, errW_none, errW_some] <;> rfl), by first | exact Kd.R_nil _ _ _ _ _ | exact Kd.N_nil _ _ _ _ _ | exact Kd.V_nil _ _ _ _ _ | exact Kd.Q_nil _ _ _ _ _ | exact Kd.S_nil _ _ _ _ _, by repeat (first | (with_reducible first | exact HB.out | apply below_alloc | apply pw_below_drewN | apply below_drew1 | refine below_set ?_ GE324.out) | exact HB.out)⟩
    ·rw [if_neg c27] at H
     have c27b0 : decide (60 ≤ (y328.length : Int)) = false := decide_eq_false c27
     have c27b1 : decide (60 ≤ y328.length) = false := decide_eq_false (by omega)
     clear c27
     by_cases c33 : y328.length < 2513169434916
     ·rw [if_pos c33] at H
      have LMc33 := ak c33
      clear c33
      obtain ⟨y336, hy336⟩ : ∃ y_ : List (S35), y_ = (y328 ++ [(⟨a1, (⟨a2_0, a2_1, a2_2⟩ : S33), 1⟩ : S35)]) := ⟨_, rfl⟩
      replace H : (some (y336, 0)) = some (r1, r2) := by first | (rw [hy336]; with_reducible exact H) | (have H2_ := (Option.bind_some _ _).symm.trans H; rw [hy336]; with_reducible exact H2_) | (have H2_ := (Option.bind_some _ _).symm.trans H; with_reducible exact H2_) | with_reducible exact H | (rw [hy336]; exact H) | exact H
      have Ny336 := ak hy336
      clear hy336
      simp only [Option.some.injEq, Prod.mk.injEq] at H
      obtain ⟨rfl, rfl⟩ := H
      go_enter Tryd.func53, Tryd.ntmps53
      go_wp2_with (first | ((with_reducible refine gate_dst (N := 5) rfl ?_); refine box_event ?hg (N := 5) ?hd (cs := #[.int .i64 a2_0, .int .i64 a2_1, .string a2_2]) (t := 33) ?hr ?_; (case hd => rfl); (case hg => rfl); (case hr => first | (go_simp; done) | (go_simp; rfl)); intro gb324 hg w34 hbox hb; have n0_ := ak (below_step d11_3 hb); have n1_ := ak (hbox); have n2_ := ak ((d11_12 : w.heap.size ≤ gb324)); have n3_ := ak ((d11_12 : w.heap.size ≤ gb324)); clear HB; have HB := n0_; have BK324 := n1_; have GW324 := n2_; have GE324 := n3_; clear n0_ n1_ n2_ n3_ hb hbox hg) | ((with_reducible refine gate_dst (N := 10) rfl ?_); refine Kd.R_lit k35 _ 35 ?hg (N := 10) ?hd (xs := ([] : List (S35))) (inner := []) (ok := fun _ => True) (okp := fun _ => True) ?hr ?hp (fun _ hk => hk) trivial (Below.refl _ _) (Nat.le_refl _) (by simp) ?_; (case hd => rfl); (case hg => rfl); (case hr => first | (go_simp; done) | (go_simp; rfl)); (case hp => exact (Reps.none _ _)); intro v326 w35 ho36 hb hg_ hnew_; clear hg_ hnew_; (first | rw [← Ny325.out] at ho36 | (simp only [Int.reduceToNat] at ho36; rw [← Ny325.out] at ho36)); have n0_ := ak (Kd.R_lower ho36 (below_size d11_2)); have n1_ := ak (blk_below (g := gb324) (o := .cells #[.int .i64 a2_0, .int .i64 a2_1, .string a2_2] 33 (0, 0)) d11_7 hb); have n2_ := ak (below_step d11_2 hb); clear BK324 HB; have HO327 := n0_; have BK324 := n1_; have HB := n2_; clear n0_ n1_ n2_ hb ho36) | ((with_reducible refine gate_builtin (b := .append) (xs := #[.tmp 10, .tmp 11]) rfl ?_); at_builtin; refine Kd.R_append_rows k35 (w0 := w) w.heap.size rfl (.tmp 10) (.tmp 11) 25 35 (.agg #[(.string ⟨#[]⟩), (.int .i64 0), (.int .i64 0), (.string ⟨#[]⟩), (.int .i64 0)]) 56 rfl Tryd.underlying25 info35 rfl (by decide) (by omega) v326 y325 l0 _ _ _ (fun _ => True) (fun _ => False) rfl rfl ?aO ?aR (fun _ _ h => h) (fun _ h => h.elim) ?aF ?aB ?aS ?aL ?_; (case aR => repeat (first | exact (Kd.C_below HR0.out HB.out) | (with_reducible refine Kd.C_alloc ?_ _) | (with_reducible refine Kd.C_drewN ?_ _) | (with_reducible refine Kd.C_drew ?_))); (case aB => exact d11_2); (case aF => exact (fun _ _ => trivial)); (case aO => exact d11_10); (case aS => exact (below_size d11_2)); (case aL => have := LMc4.out; omega); intro v329 w37 ho hb hg hat; rw [← Ny328.out] at ho; have n0_ := ak (blk_grown (g := gb324) (o := .cells #[.int .i64 a2_0, .int .i64 a2_1, .string a2_2] 33 (0, 0)) d11_7 hg (Kd.R_ne HO327.out BK324.out (by decide))); have n1_ := ak (hb); have n2_ := ak (ho); clear BK324 HB HO327; have BK324 := n0_; have HB := n1_; have HO330 := n2_; clear n0_ n1_ n2_ ho hb hg hat) | ((with_reducible refine gate_callee (f := 54) rfl ?_); refine goesL_ (some 15) rfl rfl Tryd.func54 (by kernel_rfl) rfl #[.slice A0 l0.length c0, .string a1] rfl d11_5 ?_; (with_reducible refine (spec_l7At.calls k _ _ l0 a1 t331 _ ?side1 ?side2 A5.out).mono ?_); (case side1 => repeat (first | exact (Kd.C_below HR0.out HB.out) | (with_reducible refine Kd.C_alloc ?_ _) | (with_reducible refine Kd.C_drewN ?_ _) | (with_reducible refine Kd.C_drew ?_))); (case side2 => exact HC0.out); rintro e w' ⟨rfl, ⟨nd, rfl⟩⟩; refine ⟨_, rfl, ?_⟩; obtain ⟨Ao38, co38, eo38⟩ := Kd.R_slice HO330.out; subst eo38; have hcz39_0 : w37.cell? ⟨gb324, 0, none⟩ = some (.int .i64 a2_0) := (blk_cell BK324.out 0).trans rfl; have hcz39_1 : w37.cell? ⟨gb324, 1, none⟩ = some (.int .i64 a2_1) := (blk_cell BK324.out 1).trans rfl; have hcz39_2 : w37.cell? ⟨gb324, 2, none⟩ = some (.string a2_2) := (blk_cell BK324.out 2).trans rfl; have hfz39_0 := blk_frozen BK324.out 0; have hfz39_1 := blk_frozen BK324.out 1; have hfz39_2 := blk_frozen BK324.out 2) | ((with_reducible refine gate_builtin (b := .append) (xs := #[.tmp 41, .tmp 45]) rfl ?_); at_builtin; refine Kd.R_append k35 (w0 := w) w.heap.size rfl (.tmp 41) (.tmp 45) 25 35 (.agg #[(.string ⟨#[]⟩), (.int .i64 0), (.int .i64 0), (.string ⟨#[]⟩), (.int .i64 0)]) 56 rfl Tryd.underlying25 info35 rfl (by decide) (by omega) (.slice Ao38 y328.length co38) y328 (⟨a1, (⟨a2_0, a2_1, a2_2⟩ : S33), 1⟩ : S35) [.string a1, .int .i64 a2_0, .int .i64 a2_1, .string a2_2, .int .i64 1] (fun _ => True) (fun _ => False) rfl rfl ?aP (fun _ hk => hk.elim) ?aF ?aO ?aB ?aS ?aL ?_; (case aP => exact k35_mkM _ _ _ (⟨a1, (⟨a2_0, a2_1, a2_2⟩ : S33), 1⟩ : S35)); (case aB => exact d11_2); (case aF => exact (fun _ _ => trivial)); (case aO => exact d11_11); (case aS => exact (below_size d11_2)); (case aL => have := LMc33.out; omega); intro v337 w40 ho hb hg hat; rw [← Ny336.out] at ho; have n0_ := ak (blk_grown (g := gb324) (o := .cells #[.int .i64 a2_0, .int .i64 a2_1, .string a2_2] 33 (0, 0)) d11_7 hg (Kd.R_ne HO330.out BK324.out (by decide))); have n1_ := ak (hb); have n2_ := ak (ho); clear BK324 HB HO330; have BK324 := n0_; have HB := n1_; have HO338 := n2_; clear n0_ n1_ n2_ ho hb hg hat))
      go_ret2
      exact ⟨_, by first | rfl | (simp [errW_none, errW_some] <;> rfl) | (simp [*, errW_none, errW_some] <;> rfl), by (with_reducible repeat (first | apply Kd.R_alloc | apply Kd.R_drewN | apply Kd.R_drew)); exact HO338.out, by repeat (first | (with_reducible first | exact HB.out | apply below_alloc | apply pw_below_drewN | apply below_drew1 | refine below_set ?_ GE324.out) | exact HB.out)⟩
     ·rw [if_neg c33] at H
      exact absurd H (by simp)
  ·rw [if_neg c4] at H
   exact absurd H (by simp)

/-! ### spec_DefineGlobal: function 18 -/
def spec_DefineGlobal.f (k : Nat) (l0 : List (S35)) (a1 : ByteArray) (a2_0 : Int) (a2_1 : Int) (a2_2 : ByteArray) : Option (Int × (List (S35))) := (spec_l7Asked.f k l0 a1).bind fun t341 => (if t341 = 0 then ((spec_l5Fault.f k a2_0 a2_1 a2_2).bind fun t342 => (if t342 = 0 then ((spec_l7Put.f k l0 a1 a2_0 a2_1 a2_2).bind fun bt343 => (some (bt343.2, bt343.1))) else (some (t342, ([] : List (S35)))))) else (some (t341, ([] : List (S35)))))
theorem spec_DefineGlobal.mono : ∀ a0 a1 a2 a3 a4 k, LeO (spec_DefineGlobal.f k a0 a1 a2 a3 a4) (spec_DefineGlobal.f (k + 1) a0 a1 a2 a3 a4) := by
  intro a0 a1 a2 a3 a4 k
  unfold spec_DefineGlobal.f
  repeat' first
      | (with_reducible exact spec_l5Fault.mono _ _ _ _)
      | (with_reducible exact spec_l7Asked.mono _ _ _)
      | (with_reducible exact spec_l7Put.mono _ _ _ _ _ _)
      | (with_reducible exact LeO.refl _)
      | (with_reducible exact LeO.none _)
      | (with_reducible refine LeO.ite ?_ ?_)
      | (with_reducible refine LeO.bind ?_ (fun _ => ?_))
      | exact spec_l5Fault.mono _ _ _ _
      | exact spec_l7Asked.mono _ _ _
      | exact spec_l7Put.mono _ _ _ _ _ _
      | exact LeO.none _
      | refine LeO.ite ?_ ?_
      | refine LeO.bind ?_ (fun _ => ?_)
set_option maxHeartbeats 8000000 in
set_option maxRecDepth 100000 in
theorem spec_DefineGlobal.calls (k : Nat) (A0 : Option Addr) (c0 : Nat) (l0 : List (S35)) (a1 : ByteArray) (a2_0 : Int) (a2_1 : Int) (a2_2 : ByteArray) (r1 : Int) (r2 : List (S35)) (w : World) (hr0 : Kd.C k35 w A0 l0.length l0) (hc0 : l0.length ≤ c0) (h : spec_DefineGlobal.f k l0 a1 a2_0 a2_1 a2_2 = some (r1, r2)) :
    Calls Tryd.prog 18 #[.slice A0 l0.length c0, .string a1, .agg #[.int .i64 a2_0, .int .i64 a2_1, .string a2_2]] w fun e w' => ∃ v1_ : Value, e = .returned (.agg #[.int .i64 r1, v1_]) ∧ Kd.R k35 35 w' w.heap.size (fun _ => True) v1_ r2 ∧ Below w.heap.size w w' := by
  have hu33 := Tryd.underlying33
  have hu27 := Tryd.underlying27
  have HR0 := ak hr0
  have HC0 := ak hc0
  clear hr0 hc0
  have HB := ak (Below.refl w.heap.size w)
  have H : ((spec_l7Asked.f k l0 a1).bind fun t341 => (if t341 = 0 then ((spec_l5Fault.f k a2_0 a2_1 a2_2).bind fun t342 => (if t342 = 0 then ((spec_l7Put.f k l0 a1 a2_0 a2_1 a2_2).bind fun bt343 => (some (bt343.2, bt343.1))) else (some (t342, ([] : List (S35)))))) else (some (t341, ([] : List (S35)))))) = some (r1, r2) := h
  clear h
  replace H := Option.bind_eq_some_iff.mp H
  obtain ⟨t341, A40, H⟩ := H
  replace H : (if t341 = 0 then ((spec_l5Fault.f k a2_0 a2_1 a2_2).bind fun t342 => (if t342 = 0 then ((spec_l7Put.f k l0 a1 a2_0 a2_1 a2_2).bind fun bt343 => (some (bt343.2, bt343.1))) else (some (t342, ([] : List (S35)))))) else (some (t341, ([] : List (S35))))) = some (r1, r2) := H
  have A4 := ak A40
  clear A40
  by_cases c5 : t341 = 0
  ·rw [if_pos c5] at H
   have c5b0 : (t341 == 0) = true := beq_iff_eq.mpr c5
   have c5b1 : (t341 != 0) = false := bne_eq_false_iff_eq.mpr c5
   clear c5
   replace H := Option.bind_eq_some_iff.mp H
   obtain ⟨t342, A60, H⟩ := H
   replace H : (if t342 = 0 then ((spec_l7Put.f k l0 a1 a2_0 a2_1 a2_2).bind fun bt343 => (some (bt343.2, bt343.1))) else (some (t342, ([] : List (S35))))) = some (r1, r2) := H
   have A6 := ak A60
   clear A60
   by_cases c7 : t342 = 0
   ·rw [if_pos c7] at H
    have c7b0 : (t342 == 0) = true := beq_iff_eq.mpr c7
    have c7b1 : (t342 != 0) = false := bne_eq_false_iff_eq.mpr c7
    clear c7
    replace H := Option.bind_eq_some_iff.mp H
    obtain ⟨⟨t343, t346⟩, A80, H⟩ := H
    replace H : (some (t346, t343)) = some (r1, r2) := H
    have A8 := ak A80
    clear A80
    simp only [Option.some.injEq, Prod.mk.injEq] at H
    obtain ⟨rfl, rfl⟩ := H
    go_enter Tryd.func18, Tryd.ntmps18
    go_wp2_with (first | ((with_reducible refine gate_dst (N := 5) rfl ?_); refine box_event ?hg (N := 5) ?hd (cs := #[.int .i64 a2_0, .int .i64 a2_1, .string a2_2]) (t := 33) ?hr ?_; (case hd => rfl); (case hg => rfl); (case hr => first | (go_simp; done) | (go_simp; rfl)); intro gb339 hg w9 hbox hb; have n0_ := ak (below_step d11_3 hb); have n1_ := ak (hbox); have n2_ := ak ((d11_12 : w.heap.size ≤ gb339)); have n3_ := ak ((d11_12 : w.heap.size ≤ gb339)); clear HB; have HB := n0_; have BK339 := n1_; have GW339 := n2_; have GE339 := n3_; clear n0_ n1_ n2_ n3_ hb hbox hg) | ((with_reducible refine gate_dst (N := 6) rfl ?_); refine box_event ?hg (N := 6) ?hd (cs := #[.int .i64 0, .slice none 0 0]) (t := 27) ?hr ?_; (case hd => rfl); (case hg => rfl); (case hr => first | (go_simp; done) | (go_simp; rfl)); intro gb340 hg w10 hbox hb; have n0_ := ak (blk_below (g := gb339) (o := .cells #[.int .i64 a2_0, .int .i64 a2_1, .string a2_2] 33 (0, 0)) d11_1 hb); have n1_ := ak (below_step d11_6 hb); have n2_ := ak (hbox); have n3_ := ak ((by rw [hg]; exact (below_size d11_6) : w.heap.size ≤ gb340)); have n4_ := ak ((by rw [hg]; exact (below_size d11_6) : w.heap.size ≤ gb340)); have n5_ := ak ((by rw [hg]; exact Nat.ne_of_lt (blk_lt (g := gb339) (o := .cells #[.int .i64 a2_0, .int .i64 a2_1, .string a2_2] 33 (0, 0)) d11_1) : gb339 ≠ gb340)); have n6_ := ak ((by rw [hg]; exact Nat.ne_of_gt (blk_lt (g := gb339) (o := .cells #[.int .i64 a2_0, .int .i64 a2_1, .string a2_2] 33 (0, 0)) d11_1) : gb340 ≠ gb339)); clear BK339 HB; have BK339 := n0_; have HB := n1_; have BK340 := n2_; have GW340 := n3_; have GE340 := n4_; have NB339_340 := n5_; have NB340_339 := n6_; clear n0_ n1_ n2_ n3_ n4_ n5_ n6_ hb hbox hg) | ((with_reducible refine gate_callee (f := 51) rfl ?_); refine goesL_ (some 13) rfl rfl Tryd.func51 (by kernel_rfl) rfl #[.slice A0 l0.length c0, .string a1] rfl d11_5 ?_; (with_reducible refine (spec_l7Asked.calls k _ _ l0 a1 t341 _ ?side1 ?side2 A4.out).mono ?_); (case side1 => repeat (first | exact (Kd.C_below HR0.out HB.out) | (with_reducible refine Kd.C_alloc ?_ _) | (with_reducible refine Kd.C_drewN ?_ _) | (with_reducible refine Kd.C_drew ?_))); (case side2 => exact HC0.out); rintro e w' ⟨rfl, ⟨nd, rfl⟩⟩; refine ⟨_, rfl, ?_⟩; (try (rw [drewN_self w10]; generalize hq_ : World.drewN w10 _ = w10; have n0_ : Aside0 (w10.heap[gb339]? = some (.cells #[.int .i64 a2_0, .int .i64 a2_1, .string a2_2] 33 (0, 0))) := ⟨by rw [← hq_]; exact d11_1⟩; have n1_ : Aside0 (w10.heap[gb340]? = some (.cells #[.int .i64 0, .slice none 0 0] 27 (0, 0))) := ⟨by rw [← hq_]; exact d11_9⟩; have n2_ : Aside0 (Below w.heap.size w w10) := ⟨by rw [← hq_]; exact d11_8⟩; clear BK339 BK340 HB hq_; have BK339 := n0_; have BK340 := n1_; have HB := n2_; clear n0_ n1_ n2_)); have hnb11 := NB339_340.out; have hnc11 := NB340_339.out; have hcz12_0 : w10.cell? ⟨gb339, 0, none⟩ = some (.int .i64 a2_0) := (blk_cell BK339.out 0).trans rfl; have hcz12_1 : w10.cell? ⟨gb339, 1, none⟩ = some (.int .i64 a2_1) := (blk_cell BK339.out 1).trans rfl; have hcz12_2 : w10.cell? ⟨gb339, 2, none⟩ = some (.string a2_2) := (blk_cell BK339.out 2).trans rfl; have hfz12_0 := blk_frozen BK339.out 0; have hfz12_1 := blk_frozen BK339.out 1; have hfz12_2 := blk_frozen BK339.out 2) | (go_at_call 52; (with_reducible refine (spec_l5Fault.calls k _ a2_0 a2_1 a2_2 t342 _ ?side1 ?side2 ?side3 A6.out).mono ?_); (case side1 => first | exact hcz12_0 | (refine Eq.trans ?_ hcz12_0; simp only [go_sem]) | exact ((blk_cell d11_1 0).trans rfl) | (refine Eq.trans ?_ ((blk_cell d11_1 0).trans rfl); simp only [go_sem])); (case side2 => first | exact hcz12_1 | (refine Eq.trans ?_ hcz12_1; simp only [go_sem]) | exact ((blk_cell d11_1 1).trans rfl) | (refine Eq.trans ?_ ((blk_cell d11_1 1).trans rfl); simp only [go_sem])); (case side3 => first | exact hcz12_2 | (refine Eq.trans ?_ hcz12_2; simp only [go_sem]) | exact ((blk_cell d11_1 2).trans rfl) | (refine Eq.trans ?_ ((blk_cell d11_1 2).trans rfl); simp only [go_sem])); rintro e w' ⟨rfl, ⟨nd, rfl⟩⟩; (try (rw [drewN_self w10]; generalize hq_ : World.drewN w10 _ = w10; have n0_ : Aside0 (w10.heap[gb339]? = some (.cells #[.int .i64 a2_0, .int .i64 a2_1, .string a2_2] 33 (0, 0))) := ⟨by rw [← hq_]; exact d11_1⟩; have n1_ : Aside0 (w10.heap[gb340]? = some (.cells #[.int .i64 0, .slice none 0 0] 27 (0, 0))) := ⟨by rw [← hq_]; exact d11_9⟩; have n2_ : Aside0 (Below w.heap.size w w10) := ⟨by rw [← hq_]; exact d11_8⟩; clear BK339 BK340 HB hq_; have BK339 := n0_; have BK340 := n1_; have HB := n2_; clear n0_ n1_ n2_)); have hcz13_0 : w10.cell? ⟨gb339, 0, none⟩ = some (.int .i64 a2_0) := (blk_cell BK339.out 0).trans rfl; have hcz13_1 : w10.cell? ⟨gb339, 1, none⟩ = some (.int .i64 a2_1) := (blk_cell BK339.out 1).trans rfl; have hcz13_2 : w10.cell? ⟨gb339, 2, none⟩ = some (.string a2_2) := (blk_cell BK339.out 2).trans rfl; have hfz13_0 := blk_frozen BK339.out 0; have hfz13_1 := blk_frozen BK339.out 1; have hfz13_2 := blk_frozen BK339.out 2) | ((with_reducible refine gate_callee (f := 53) rfl ?_); refine goesL_ (some 27) rfl rfl Tryd.func53 (by kernel_rfl) rfl #[.slice A0 l0.length c0, .string a1, .agg #[.int .i64 a2_0, .int .i64 a2_1, .string a2_2]] rfl d11_5 ?_; (with_reducible refine (spec_l7Put.calls k _ _ l0 a1 a2_0 a2_1 a2_2 t343 t346 _ ?side1 ?side2 A8.out).mono ?_); (case side1 => repeat (first | exact (Kd.C_below HR0.out HB.out) | (with_reducible refine Kd.C_alloc ?_ _) | (with_reducible refine Kd.C_drewN ?_ _) | (with_reducible refine Kd.C_drew ?_))); (case side2 => exact HC0.out); rintro e w14 ⟨v344, rfl, ho0, hb⟩; refine ⟨_, rfl, ?_⟩; have n0_ := ak (Kd.R_lower ho0 (below_size d11_8)); have n1_ := ak (blk_below (g := gb339) (o := .cells #[.int .i64 a2_0, .int .i64 a2_1, .string a2_2] 33 (0, 0)) d11_1 hb); have n2_ := ak (blk_below (g := gb340) (o := .cells #[.int .i64 0, .slice none 0 0] 27 (0, 0)) d11_9 hb); have n3_ := ak (below_step d11_8 hb); clear BK339 BK340 HB; have HO345 := n0_; have BK339 := n1_; have BK340 := n2_; have HB := n3_; clear n0_ n1_ n2_ n3_; (try clear hb); (try clear ho0); obtain ⟨Ao15, co15, eo15⟩ := Kd.R_slice HO345.out; subst eo15; have hcz16_0 : w14.cell? ⟨gb340, 0, none⟩ = some (.int .i64 0) := (blk_cell BK340.out 0).trans rfl; have hcz16_1 : w14.cell? ⟨gb340, 1, none⟩ = some (.slice none 0 0) := (blk_cell BK340.out 1).trans rfl; have hfz16_0 := blk_frozen BK340.out 0; have hfz16_1 := blk_frozen BK340.out 1))
    refine bodyPost_ret (results_cell_row rfl _ _ gb340 27 #[.int .i64 t346, .slice Ao15 t343.length co15] (0, 0) _ rfl (by (with_reducible repeat (first | refine blk_drewN ?_ _ | refine blk_drew ?_ | refine blk_alloc ?_ _)); refine blk_put (cs := #[.int .i64 t346, .slice none 0 0]) ?_ 1 _ rfl; (with_reducible repeat (first | refine blk_drewN ?_ _ | refine blk_drew ?_ | refine blk_alloc ?_ _)); refine blk_put (cs := #[.int .i64 0, .slice none 0 0]) ?_ 0 _ rfl; (with_reducible repeat (first | refine blk_drewN ?_ _ | refine blk_drew ?_ | refine blk_alloc ?_ _)); exact BK340.out) Tryd.underlying27 rfl (by kernel_rfl)) rfl ?_
    exact ⟨_, by first | rfl | (simp [errW_none, errW_some] <;> rfl) | (simp [*, errW_none, errW_some] <;> rfl), by (with_reducible repeat (first | apply Kd.R_alloc | apply Kd.R_drewN | apply Kd.R_drew)); exact Kd.R_mono (Kd.R_far (p := ⟨gb340, 1, none⟩) (Kd.R_far (p := ⟨gb340, 0, none⟩) (Kd.R_types HO345.out BK340.out (by decide)) (fun _ hk => hk.2) (.int .i64 t346)) (fun _ hk => hk.2) (.slice Ao15 t343.length co15)) (fun _ hk => trivial), by repeat (first | (with_reducible first | exact HB.out | apply below_alloc | apply pw_below_drewN | apply below_drew1 | refine below_set ?_ GE339.out | refine below_set ?_ GE340.out) | exact HB.out)⟩
   ·rw [if_neg c7] at H
    have c7b0 : (t342 == 0) = false := beq_eq_false_iff_ne.mpr c7
    have c7b1 : (t342 != 0) = true := bne_iff_ne.mpr c7
    simp only [Option.some.injEq, Prod.mk.injEq] at H
    obtain ⟨rfl, rfl⟩ := H
    go_enter Tryd.func18, Tryd.ntmps18
    go_wp2_with (first | ((with_reducible refine gate_dst (N := 5) rfl ?_); refine box_event ?hg (N := 5) ?hd (cs := #[.int .i64 a2_0, .int .i64 a2_1, .string a2_2]) (t := 33) ?hr ?_; (case hd => rfl); (case hg => rfl); (case hr => first | (go_simp; done) | (go_simp; rfl)); intro gb339 hg w17 hbox hb; have n0_ := ak (below_step d11_3 hb); have n1_ := ak (hbox); have n2_ := ak ((d11_12 : w.heap.size ≤ gb339)); have n3_ := ak ((d11_12 : w.heap.size ≤ gb339)); clear HB; have HB := n0_; have BK339 := n1_; have GW339 := n2_; have GE339 := n3_; clear n0_ n1_ n2_ n3_ hb hbox hg) | ((with_reducible refine gate_dst (N := 6) rfl ?_); refine box_event ?hg (N := 6) ?hd (cs := #[.int .i64 0, .slice none 0 0]) (t := 27) ?hr ?_; (case hd => rfl); (case hg => rfl); (case hr => first | (go_simp; done) | (go_simp; rfl)); intro gb340 hg w18 hbox hb; have n0_ := ak (blk_below (g := gb339) (o := .cells #[.int .i64 a2_0, .int .i64 a2_1, .string a2_2] 33 (0, 0)) d11_1 hb); have n1_ := ak (below_step d11_6 hb); have n2_ := ak (hbox); have n3_ := ak ((by rw [hg]; exact (below_size d11_6) : w.heap.size ≤ gb340)); have n4_ := ak ((by rw [hg]; exact (below_size d11_6) : w.heap.size ≤ gb340)); have n5_ := ak ((by rw [hg]; exact Nat.ne_of_lt (blk_lt (g := gb339) (o := .cells #[.int .i64 a2_0, .int .i64 a2_1, .string a2_2] 33 (0, 0)) d11_1) : gb339 ≠ gb340)); have n6_ := ak ((by rw [hg]; exact Nat.ne_of_gt (blk_lt (g := gb339) (o := .cells #[.int .i64 a2_0, .int .i64 a2_1, .string a2_2] 33 (0, 0)) d11_1) : gb340 ≠ gb339)); clear BK339 HB; have BK339 := n0_; have HB := n1_; have BK340 := n2_; have GW340 := n3_; have GE340 := n4_; have NB339_340 := n5_; have NB340_339 := n6_; clear n0_ n1_ n2_ n3_ n4_ n5_ n6_ hb hbox hg) | ((with_reducible refine gate_callee (f := 51) rfl ?_); refine goesL_ (some 13) rfl rfl Tryd.func51 (by kernel_rfl) rfl #[.slice A0 l0.length c0, .string a1] rfl d11_5 ?_; (with_reducible refine (spec_l7Asked.calls k _ _ l0 a1 t341 _ ?side1 ?side2 A4.out).mono ?_); (case side1 => repeat (first | exact (Kd.C_below HR0.out HB.out) | (with_reducible refine Kd.C_alloc ?_ _) | (with_reducible refine Kd.C_drewN ?_ _) | (with_reducible refine Kd.C_drew ?_))); (case side2 => exact HC0.out); rintro e w' ⟨rfl, ⟨nd, rfl⟩⟩; refine ⟨_, rfl, ?_⟩; (try (rw [drewN_self w18]; generalize hq_ : World.drewN w18 _ = w18; have n0_ : Aside0 (w18.heap[gb339]? = some (.cells #[.int .i64 a2_0, .int .i64 a2_1, .string a2_2] 33 (0, 0))) := ⟨by rw [← hq_]; exact d11_1⟩; have n1_ : Aside0 (w18.heap[gb340]? = some (.cells #[.int .i64 0, .slice none 0 0] 27 (0, 0))) := ⟨by rw [← hq_]; exact d11_9⟩; have n2_ : Aside0 (Below w.heap.size w w18) := ⟨by rw [← hq_]; exact d11_8⟩; clear BK339 BK340 HB hq_; have BK339 := n0_; have BK340 := n1_; have HB := n2_; clear n0_ n1_ n2_)); have hnb19 := NB339_340.out; have hnc19 := NB340_339.out; have hcz20_0 : w18.cell? ⟨gb339, 0, none⟩ = some (.int .i64 a2_0) := (blk_cell BK339.out 0).trans rfl; have hcz20_1 : w18.cell? ⟨gb339, 1, none⟩ = some (.int .i64 a2_1) := (blk_cell BK339.out 1).trans rfl; have hcz20_2 : w18.cell? ⟨gb339, 2, none⟩ = some (.string a2_2) := (blk_cell BK339.out 2).trans rfl; have hfz20_0 := blk_frozen BK339.out 0; have hfz20_1 := blk_frozen BK339.out 1; have hfz20_2 := blk_frozen BK339.out 2) | (go_at_call 52; (with_reducible refine (spec_l5Fault.calls k _ a2_0 a2_1 a2_2 t342 _ ?side1 ?side2 ?side3 A6.out).mono ?_); (case side1 => first | exact hcz20_0 | (refine Eq.trans ?_ hcz20_0; simp only [go_sem]) | exact ((blk_cell d11_1 0).trans rfl) | (refine Eq.trans ?_ ((blk_cell d11_1 0).trans rfl); simp only [go_sem])); (case side2 => first | exact hcz20_1 | (refine Eq.trans ?_ hcz20_1; simp only [go_sem]) | exact ((blk_cell d11_1 1).trans rfl) | (refine Eq.trans ?_ ((blk_cell d11_1 1).trans rfl); simp only [go_sem])); (case side3 => first | exact hcz20_2 | (refine Eq.trans ?_ hcz20_2; simp only [go_sem]) | exact ((blk_cell d11_1 2).trans rfl) | (refine Eq.trans ?_ ((blk_cell d11_1 2).trans rfl); simp only [go_sem])); rintro e w' ⟨rfl, ⟨nd, rfl⟩⟩; (try (rw [drewN_self w18]; generalize hq_ : World.drewN w18 _ = w18; have n0_ : Aside0 (w18.heap[gb339]? = some (.cells #[.int .i64 a2_0, .int .i64 a2_1, .string a2_2] 33 (0, 0))) := ⟨by rw [← hq_]; exact d11_1⟩; have n1_ : Aside0 (w18.heap[gb340]? = some (.cells #[.int .i64 0, .slice none 0 0] 27 (0, 0))) := ⟨by rw [← hq_]; exact d11_9⟩; have n2_ : Aside0 (Below w.heap.size w w18) := ⟨by rw [← hq_]; exact d11_8⟩; clear BK339 BK340 HB hq_; have BK339 := n0_; have BK340 := n1_; have HB := n2_; clear n0_ n1_ n2_)); have hcz21_0 : w18.cell? ⟨gb340, 0, none⟩ = some (.int .i64 0) := (blk_cell BK340.out 0).trans rfl; have hcz21_1 : w18.cell? ⟨gb340, 1, none⟩ = some (.slice none 0 0) := (blk_cell BK340.out 1).trans rfl; have hfz21_0 := blk_frozen BK340.out 0; have hfz21_1 := blk_frozen BK340.out 1))
    refine bodyPost_ret (results_cell_row rfl _ _ gb340 27 #[.int .i64 t342, .slice none 0 0] (0, 0) _ rfl (by (with_reducible repeat (first | refine blk_drewN ?_ _ | refine blk_drew ?_ | refine blk_alloc ?_ _)); refine blk_put (cs := #[.int .i64 t342, .slice none 0 0]) ?_ 1 _ rfl; (with_reducible repeat (first | refine blk_drewN ?_ _ | refine blk_drew ?_ | refine blk_alloc ?_ _)); refine blk_put (cs := #[.int .i64 0, .slice none 0 0]) ?_ 0 _ rfl; (with_reducible repeat (first | refine blk_drewN ?_ _ | refine blk_drew ?_ | refine blk_alloc ?_ _)); exact BK340.out) Tryd.underlying27 rfl (by kernel_rfl)) rfl ?_
    exact ⟨_, by first | rfl | (simp [errW_none, errW_some] <;> rfl) | (simp [*, errW_none, errW_some] <;> rfl), by first | exact Kd.R_nil _ _ _ _ _ | exact Kd.N_nil _ _ _ _ _ | exact Kd.V_nil _ _ _ _ _ | exact Kd.Q_nil _ _ _ _ _ | exact Kd.S_nil _ _ _ _ _, by repeat (first | (with_reducible first | exact HB.out | apply below_alloc | apply pw_below_drewN | apply below_drew1 | refine below_set ?_ GE339.out | refine below_set ?_ GE340.out) | exact HB.out)⟩
  ·rw [if_neg c5] at H
   have c5b0 : (t341 == 0) = false := beq_eq_false_iff_ne.mpr c5
   have c5b1 : (t341 != 0) = true := bne_iff_ne.mpr c5
   simp only [Option.some.injEq, Prod.mk.injEq] at H
   obtain ⟨rfl, rfl⟩ := H
   go_enter Tryd.func18, Tryd.ntmps18
   go_wp2_with (first | ((with_reducible refine gate_dst (N := 5) rfl ?_); refine box_event ?hg (N := 5) ?hd (cs := #[.int .i64 a2_0, .int .i64 a2_1, .string a2_2]) (t := 33) ?hr ?_; (case hd => rfl); (case hg => rfl); (case hr => first | (go_simp; done) | (go_simp; rfl)); intro gb339 hg w22 hbox hb; have n0_ := ak (below_step d11_3 hb); have n1_ := ak (hbox); have n2_ := ak ((d11_12 : w.heap.size ≤ gb339)); have n3_ := ak ((d11_12 : w.heap.size ≤ gb339)); clear HB; have HB := n0_; have BK339 := n1_; have GW339 := n2_; have GE339 := n3_; clear n0_ n1_ n2_ n3_ hb hbox hg) | ((with_reducible refine gate_dst (N := 6) rfl ?_); refine box_event ?hg (N := 6) ?hd (cs := #[.int .i64 0, .slice none 0 0]) (t := 27) ?hr ?_; (case hd => rfl); (case hg => rfl); (case hr => first | (go_simp; done) | (go_simp; rfl)); intro gb340 hg w23 hbox hb; have n0_ := ak (blk_below (g := gb339) (o := .cells #[.int .i64 a2_0, .int .i64 a2_1, .string a2_2] 33 (0, 0)) d11_1 hb); have n1_ := ak (below_step d11_6 hb); have n2_ := ak (hbox); have n3_ := ak ((by rw [hg]; exact (below_size d11_6) : w.heap.size ≤ gb340)); have n4_ := ak ((by rw [hg]; exact (below_size d11_6) : w.heap.size ≤ gb340)); have n5_ := ak ((by rw [hg]; exact Nat.ne_of_lt (blk_lt (g := gb339) (o := .cells #[.int .i64 a2_0, .int .i64 a2_1, .string a2_2] 33 (0, 0)) d11_1) : gb339 ≠ gb340)); have n6_ := ak ((by rw [hg]; exact Nat.ne_of_gt (blk_lt (g := gb339) (o := .cells #[.int .i64 a2_0, .int .i64 a2_1, .string a2_2] 33 (0, 0)) d11_1) : gb340 ≠ gb339)); clear BK339 HB; have BK339 := n0_; have HB := n1_; have BK340 := n2_; have GW340 := n3_; have GE340 := n4_; have NB339_340 := n5_; have NB340_339 := n6_; clear n0_ n1_ n2_ n3_ n4_ n5_ n6_ hb hbox hg) | ((with_reducible refine gate_callee (f := 51) rfl ?_); refine goesL_ (some 13) rfl rfl Tryd.func51 (by kernel_rfl) rfl #[.slice A0 l0.length c0, .string a1] rfl d11_5 ?_; (with_reducible refine (spec_l7Asked.calls k _ _ l0 a1 t341 _ ?side1 ?side2 A4.out).mono ?_); (case side1 => repeat (first | exact (Kd.C_below HR0.out HB.out) | (with_reducible refine Kd.C_alloc ?_ _) | (with_reducible refine Kd.C_drewN ?_ _) | (with_reducible refine Kd.C_drew ?_))); (case side2 => exact HC0.out); rintro e w' ⟨rfl, ⟨nd, rfl⟩⟩; refine ⟨_, rfl, ?_⟩; (try (rw [drewN_self w23]; generalize hq_ : World.drewN w23 _ = w23; have n0_ : Aside0 (w23.heap[gb339]? = some (.cells #[.int .i64 a2_0, .int .i64 a2_1, .string a2_2] 33 (0, 0))) := ⟨by rw [← hq_]; exact d11_1⟩; have n1_ : Aside0 (w23.heap[gb340]? = some (.cells #[.int .i64 0, .slice none 0 0] 27 (0, 0))) := ⟨by rw [← hq_]; exact d11_9⟩; have n2_ : Aside0 (Below w.heap.size w w23) := ⟨by rw [← hq_]; exact d11_8⟩; clear BK339 BK340 HB hq_; have BK339 := n0_; have BK340 := n1_; have HB := n2_; clear n0_ n1_ n2_)); have hnb24 := NB340_339.out; have hnc24 := NB339_340.out; have hcz25_0 : w23.cell? ⟨gb340, 0, none⟩ = some (.int .i64 0) := (blk_cell BK340.out 0).trans rfl; have hcz25_1 : w23.cell? ⟨gb340, 1, none⟩ = some (.slice none 0 0) := (blk_cell BK340.out 1).trans rfl; have hfz25_0 := blk_frozen BK340.out 0; have hfz25_1 := blk_frozen BK340.out 1))
   refine bodyPost_ret (results_cell_row rfl _ _ gb340 27 #[.int .i64 t341, .slice none 0 0] (0, 0) _ rfl (by (with_reducible repeat (first | refine blk_drewN ?_ _ | refine blk_drew ?_ | refine blk_alloc ?_ _)); refine blk_put (cs := #[.int .i64 t341, .slice none 0 0]) ?_ 1 _ rfl; (with_reducible repeat (first | refine blk_drewN ?_ _ | refine blk_drew ?_ | refine blk_alloc ?_ _)); refine blk_put (cs := #[.int .i64 0, .slice none 0 0]) ?_ 0 _ rfl; (with_reducible repeat (first | refine blk_drewN ?_ _ | refine blk_drew ?_ | refine blk_alloc ?_ _)); exact BK340.out) Tryd.underlying27 rfl (by kernel_rfl)) rfl ?_
   exact ⟨_, by first | rfl | (simp [errW_none, errW_some] <;> rfl) | (simp [*, errW_none, errW_some] <;> rfl), by first | exact Kd.R_nil _ _ _ _ _ | exact Kd.N_nil _ _ _ _ _ | exact Kd.V_nil _ _ _ _ _ | exact Kd.Q_nil _ _ _ _ _ | exact Kd.S_nil _ _ _ _ _, by repeat (first | (with_reducible first | exact HB.out | apply below_alloc | apply pw_below_drewN | apply below_drew1 | refine below_set ?_ GE339.out | refine below_set ?_ GE340.out) | exact HB.out)⟩

end Go.Proofs.YtcliaceiijaafaaDoor.A
