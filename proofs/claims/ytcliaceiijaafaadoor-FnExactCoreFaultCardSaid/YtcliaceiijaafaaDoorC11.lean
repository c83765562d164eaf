/- Walks of the program's functions: each Go function's answer as a plain Lean function, and that the call comes to it. Written by a program. Conditions: those in each theorem's own head. -/
import Derived.Test.YtcliaceiijaafaaDoorC0
import Derived.Test.YtcliaceiijaafaaDoorC8
import Derived.Test.YtcliaceiijaafaaDoorC10
namespace Go.Proofs.YtcliaceiijaafaaDoor.C
open Go.RowKit Go.Proofs.YtcliaceiijaafaaDoorW.PrintWords Go.Proofs.YtcliaceiijaafaaDoorW.PrintLast Go.Proofs.YtcliaceiijaafaaDoorW.PrintMore
attribute [local go_sem] max2_int min2_int max_two min_two max_three min_three max_four min_four   -- for this text's walks alone
set_option linter.unusedVariables false
set_option linter.unusedSimpArgs false

theorem d11_1 {p : Prop} (h : p := by first | (with_reducible assumption) | assumption) : p := h
theorem d11_2 {p : Prop} (h : p := by first | rfl | (simp; done) | (simp [*]; done) | (simp [ne_nil_b, eq_nil_b]; done)) : p := h
theorem d11_3 {p : Prop} (h : p := by repeat (first | (with_reducible first | exact HB.out | apply below_alloc | apply pw_below_drewN | apply below_drew1) | exact HB.out)) : p := h
theorem d11_4 {p : Prop} (h : p := by (try simp only [List.map_toArray, List.map_cons, List.map_nil]); first | done | rfl | (simp only [List.length_drop, List.length_take]; rfl)) : p := h

/-! ### impl_DataFault: function 98 -/
def impl_DataFault.l0 : Nat → List (S127) → Int → Int → Option (Int)
  | 0, _, _, _ => none
  | k + 1, x0, x10, x11 => if x11 < x10 then ((impl_datumFault.f k x0 x11).bind fun t255 => (if t255 = 0 then (impl_DataFault.l0 k x0 x10 (wrap64 (x11 + 1))) else (some t255))) else (some 0)
def impl_DataFault.f (k : Nat) (l0 : List (S127)) : Option (Int) := (impl_in.f (l0.length : Int) 1 80).bind fun t254 => (if t254 = true then (impl_DataFault.l0 k l0 (l0.length : Int) 0) else (some 2))
theorem impl_DataFault.mono_l : ∀ k, (∀ y0 y1 y2, LeO (impl_DataFault.l0 k y0 y1 y2) (impl_DataFault.l0 (k + 1) y0 y1 y2))
  | 0 => fun _ _ _ r h => by simp [impl_DataFault.l0] at h
  | k + 1 => by
    have ih0 := impl_DataFault.mono_l k
    · intro y0 y1 y2
      unfold impl_DataFault.l0
      repeat' first
      | (with_reducible exact ih0 _ _ _)
      | (with_reducible exact impl_datumFault.mono _ _ _)
      | (with_reducible exact LeO.refl _)
      | (with_reducible exact LeO.none _)
      | (with_reducible refine LeO.ite ?_ ?_)
      | (with_reducible refine LeO.bind ?_ (fun _ => ?_))
      | exact ih0 _ _ _
      | exact impl_datumFault.mono _ _ _
      | exact LeO.none _
      | refine LeO.ite ?_ ?_
      | refine LeO.bind ?_ (fun _ => ?_)
theorem impl_DataFault.mono : ∀ a0 k, LeO (impl_DataFault.f k a0) (impl_DataFault.f (k + 1) a0) := by
  intro a0 k
  have ih0 := impl_DataFault.mono_l k
  unfold impl_DataFault.f
  repeat' first
      | (with_reducible exact ih0 _ _ _)
      | (with_reducible exact impl_datumFault.mono _ _ _)
      | (with_reducible exact LeO.refl _)
      | (with_reducible exact LeO.none _)
      | (with_reducible refine LeO.ite ?_ ?_)
      | (with_reducible refine LeO.bind ?_ (fun _ => ?_))
      | exact ih0 _ _ _
      | exact impl_datumFault.mono _ _ _
      | exact LeO.none _
      | refine LeO.ite ?_ ?_
      | refine LeO.bind ?_ (fun _ => ?_)
set_option maxHeartbeats 8000000 in
set_option maxRecDepth 100000 in
theorem impl_DataFault.calls (k : Nat) (A0 : Option Addr) (c0 : Nat) (l0 : List (S127)) (r : Int) (w : World) (hr0 : Kd.C k127 w A0 l0.length l0) (hc0 : l0.length ≤ c0) (h : impl_DataFault.f k l0 = some r) :
    Calls Tryd.prog 98 #[.slice A0 l0.length c0] w fun e w' => e = .returned (.int .i64 r) ∧ Below w.heap.size w w' := by
  have HR0 := ak hr0
  have HC0 := ak hc0
  clear hr0 hc0
  have HB := ak (Below.refl w.heap.size w)
  have H : ((impl_in.f (l0.length : Int) 1 80).bind fun t254 => (if t254 = true then (impl_DataFault.l0 k l0 (l0.length : Int) 0) else (some 2))) = some r := h
  clear h
  replace H := Option.bind_eq_some_iff.mp H
  obtain ⟨t254, A20, H⟩ := H
  replace H : (if t254 = true then (impl_DataFault.l0 k l0 (l0.length : Int) 0) else (some 2)) = some r := H
  have A2 := ak A20
  clear A20
  by_cases c3 : t254 = true
  ·subst c3
   have H1 : (impl_DataFault.l0 k l0 (l0.length : Int) 0) = some r := by rw [if_pos rfl] at H; exact H
   clear H
   have H := H1
   clear H1
   have H' := ak H
   clear H
   go_enter Tryd.func98, Tryd.ntmps98
   go_wp2_with (first | ((with_reducible refine gate_callee (f := 37) rfl ?_); refine goesL_ (some 7) rfl rfl Tryd.func37 (by kernel_rfl) rfl #[.int .i64 (l0.length : Int), .int .i64 1, .int .i64 80] rfl d11_4 ?_; (with_reducible refine (impl_in.calls (l0.length : Int) 1 80 true _ A2.out).mono ?_); rintro e w' ⟨rfl, ⟨nd, rfl⟩⟩; refine ⟨_, rfl, ?_⟩))
   go_loopg [11] k (fun kq v11 w' => ∃ (x11_1 : Int), v11 = .int .i64 x11_1 ∧ Aside0 (impl_DataFault.l0 kq l0 (l0.length : Int) x11_1 = some r) ∧ Aside0 (kq ≤ k) ∧ Aside0 (Below w.heap.size w w'))
   case atStart => exact ⟨(0), d11_2, H', ⟨Nat.le_refl _⟩, ⟨by repeat (first | (with_reducible first | exact HB.out | apply below_alloc | apply pw_below_drewN | apply below_drew1) | exact HB.out)⟩⟩
   case round =>
    clear H'
    try clear p2
    try clear c3
    obtain ⟨x11_1, rfl, HA, HK1, HB⟩ := hrel
    cases gk with
    | zero => exact absurd HA.out (by simp [impl_DataFault.l0])
    | succ k1 =>
     have H := HA.out
     clear HA
     simp only [impl_DataFault.l0] at H
     by_cases c4 : x11_1 < (l0.length : Int)
     ·rw [if_pos c4] at H
      have c4b0 : decide (x11_1 < (l0.length : Int)) = true := decide_eq_true c4
      clear c4
      replace H := Option.bind_eq_some_iff.mp H
      obtain ⟨t255, A50, H⟩ := H
      replace H : (if t255 = 0 then (impl_DataFault.l0 k1 l0 (l0.length : Int) (wrap64 (x11_1 + 1))) else (some t255)) = some r := H
      have A5 := ak A50
      clear A50
      by_cases c6 : t255 = 0
      ·rw [if_pos c6] at H
       have c6b0 : (t255 == 0) = true := beq_iff_eq.mpr c6
       have c6b1 : (t255 != 0) = false := bne_eq_false_iff_eq.mpr c6
       clear c6
       have H' := ak H
       clear H
       go_wp2_with (first | ((with_reducible refine gate_callee (f := 121) rfl ?_); refine goesL_ (some 16) rfl rfl Tryd.func121 (by kernel_rfl) rfl #[.slice A0 l0.length c0, .int .i64 x11_1] rfl d11_4 ?_; (with_reducible refine (impl_datumFault.calls k1 _ _ l0 x11_1 t255 _ ?side1 ?side2 A5.out).mono ?_); (case side1 => repeat (first | exact (Kd.C_below HR0.out HB.out) | (with_reducible refine Kd.C_alloc ?_ _) | (with_reducible refine Kd.C_drewN ?_ _) | (with_reducible refine Kd.C_drew ?_))); (case side2 => exact HC0.out); rintro e w7 ⟨rfl, hb⟩; refine ⟨_, rfl, ?_⟩; have n0_ := ak (below_step d11_3 hb); clear HB; have HB := n0_; clear n0_; (try clear hb)))
       go_roundg k1
       case measure => have := HK1.out; omega
       case rel => exact ⟨(wrap64 (x11_1 + 1)), d11_2, H', ⟨by have := HK1.out; omega⟩, ⟨by repeat (first | (with_reducible first | exact HB.out | apply below_alloc | apply pw_below_drewN | apply below_drew1) | exact HB.out)⟩⟩
      ·rw [if_neg c6] at H
       have c6b0 : (t255 == 0) = false := beq_eq_false_iff_ne.mpr c6
       have c6b1 : (t255 != 0) = true := bne_iff_ne.mpr c6
       obtain rfl := Option.some.inj H
       go_wp2_with (first | ((with_reducible refine gate_callee (f := 121) rfl ?_); refine goesL_ (some 16) rfl rfl Tryd.func121 (by kernel_rfl) rfl #[.slice A0 l0.length c0, .int .i64 x11_1] rfl d11_4 ?_; (with_reducible refine (impl_datumFault.calls k1 _ _ l0 x11_1 t255 _ ?side1 ?side2 A5.out).mono ?_); (case side1 => repeat (first | exact (Kd.C_below HR0.out HB.out) | (with_reducible refine Kd.C_alloc ?_ _) | (with_reducible refine Kd.C_drewN ?_ _) | (with_reducible refine Kd.C_drew ?_))); (case side2 => exact HC0.out); rintro e w8 ⟨rfl, hb⟩; refine ⟨_, rfl, ?_⟩; have n0_ := ak (below_step d11_3 hb); clear HB; have HB := n0_; clear n0_; (try clear hb)))
       go_ret
       exact ⟨by first | rfl | (simp [errW_none, errW_some] <;> rfl) | (simp [*, errW_none, errW_some] <;> rfl), by repeat (first | (with_reducible first | exact HB.out | apply below_alloc | apply pw_below_drewN | apply below_drew1) | exact HB.out)⟩
     ·rw [if_neg c4] at H
      have c4b0 : decide (x11_1 < (l0.length : Int)) = false := decide_eq_false c4
      clear c4
      obtain rfl := Option.some.inj H
      go_wp2
      go_ret
      exact ⟨by first | rfl | (simp [errW_none, errW_some] <;> rfl) | (simp [*, errW_none, errW_some] <;> rfl), by repeat (first | (with_reducible first | exact HB.out | apply below_alloc | apply pw_below_drewN | apply below_drew1) | exact HB.out)⟩
  ·replace c3 := Bool.eq_false_iff.mpr c3
   subst c3
   have H1 : (some 2) = some r := by rw [if_neg (show ¬ (false = true) by decide)] at H; exact H
   clear H
   have H := H1
   clear H1
   obtain rfl := Option.some.inj H
   go_enter Tryd.func98, Tryd.ntmps98
   go_wp2_with (first | ((with_reducible refine gate_callee (f := 37) rfl ?_); refine goesL_ (some 7) rfl rfl Tryd.func37 (by kernel_rfl) rfl #[.int .i64 (l0.length : Int), .int .i64 1, .int .i64 80] rfl d11_4 ?_; (with_reducible refine (impl_in.calls (l0.length : Int) 1 80 false _ A2.out).mono ?_); rintro e w' ⟨rfl, ⟨nd, rfl⟩⟩; refine ⟨_, rfl, ?_⟩))
   go_ret
   exact ⟨by first | rfl | (simp [errW_none, errW_some] <;> rfl) | (simp [*, errW_none, errW_some] <;> rfl), by repeat (first | (with_reducible first | exact HB.out | apply below_alloc | apply pw_below_drewN | apply below_drew1) | exact HB.out)⟩

/-! ### impl_lambdaOut: function 99 -/
def impl_lambdaOut.l0 : Nat → List (S93) → Int → Int → Option (Int × Int × Int × Int × ByteArray × (List (S127)) × Bool)
  | 0, _, _, _ => none
  | k + 1, x0, x2, x8 => if x8 ≥ 0 then (if 0 ≤ x8 then (if x8 < (x0.length : Int) then (if ((rd_T93 x0 x8).f0) = 5 then (if x2 = 0 then (some ((rd_T93 x0 x8).f0, (rd_T93 x0 x8).f1, (rd_T93 x0 x8).f2, (rd_T93 x0 x8).f3, (rd_T93 x0 x8).f4, (rd_T93 x0 x8).f5, true)) else (impl_lambdaOut.l0 k x0 (wrap64 (x2 - 1)) ((rd_T93 x0 x8).f1))) else (impl_lambdaOut.l0 k x0 x2 ((rd_T93 x0 x8).f1))) else (none)) else (none)) else (some (0, 0, 0, 0, (⟨#[]⟩ : ByteArray), ([] : List (S127)), false))
def impl_lambdaOut.f (k : Nat) (l0 : List (S93)) (a1 : Int) (a2 : Int) : Option (Int × Int × Int × Int × ByteArray × (List (S127)) × Bool) := if 0 ≤ a1 then (if a1 < (l0.length : Int) then (impl_lambdaOut.l0 k l0 a2 ((rd_T93 l0 a1).f1)) else (none)) else (none)
theorem impl_lambdaOut.mono_l : ∀ k, (∀ y0 y1 y2, LeO (impl_lambdaOut.l0 k y0 y1 y2) (impl_lambdaOut.l0 (k + 1) y0 y1 y2))
  | 0 => fun _ _ _ r h => by simp [impl_lambdaOut.l0] at h
  | k + 1 => by
    have ih0 := impl_lambdaOut.mono_l k
    · intro y0 y1 y2
      unfold impl_lambdaOut.l0
      repeat' first
      | (with_reducible exact ih0 _ _ _)
      | (with_reducible exact LeO.refl _)
      | (with_reducible exact LeO.none _)
      | (with_reducible refine LeO.ite ?_ ?_)
      | (with_reducible refine LeO.bind ?_ (fun _ => ?_))
      | exact ih0 _ _ _
      | exact LeO.none _
      | refine LeO.ite ?_ ?_
      | refine LeO.bind ?_ (fun _ => ?_)
theorem impl_lambdaOut.mono : ∀ a0 a1 a2 k, LeO (impl_lambdaOut.f k a0 a1 a2) (impl_lambdaOut.f (k + 1) a0 a1 a2) := by
  intro a0 a1 a2 k
  have ih0 := impl_lambdaOut.mono_l k
  unfold impl_lambdaOut.f
  repeat' first
      | (with_reducible exact ih0 _ _ _)
      | (with_reducible exact LeO.refl _)
      | (with_reducible exact LeO.none _)
      | (with_reducible refine LeO.ite ?_ ?_)
      | (with_reducible refine LeO.bind ?_ (fun _ => ?_))
      | exact ih0 _ _ _
      | exact LeO.none _
      | refine LeO.ite ?_ ?_
      | refine LeO.bind ?_ (fun _ => ?_)
set_option maxHeartbeats 8000000 in
set_option maxRecDepth 100000 in
theorem impl_lambdaOut.calls (k : Nat) (P0_ : Nat → Prop) (A0 : Option Addr) (c0 : Nat) (l0 : List (S93)) (a1 : Int) (a2 : Int) (r1 : Int) (r2 : Int) (r3 : Int) (r4 : Int) (r5 : ByteArray) (r6 : List (S127)) (r7 : Bool) (w : World) (hs0 : Kd.V k93 93 w w.heap.size (fun k_ => P0_ k_) (.slice A0 l0.length c0) l0) (h : impl_lambdaOut.f k l0 a1 a2 = some (r1, r2, r3, r4, r5, r6, r7)) :
    Calls Tryd.prog 99 #[.slice A0 l0.length c0, .int .i64 a1, .int .i64 a2] w fun e w' => ∃ v5_ : Value, e = .returned (.tuple #[.agg #[.int .i64 r1, .int .i64 r2, .int .i64 r3, .int .i64 r4, .string r5, v5_], .bool r7]) ∧ Kd.V k127 127 w' w.heap.size (fun k_ => (P0_ k_ ∨ w.heap.size ≤ k_)) v5_ r6 ∧ Below w.heap.size w w' := by
  have hu93 := Tryd.underlying93
  have HO0 := ak (show Kd.V k93 93 w w.heap.size (fun k_ => (P0_ k_ ∨ w.heap.size ≤ k_)) (.slice A0 l0.length c0) l0 from Kd.V_mono hs0 (fun k_ hk => .inl hk))
  have HB := ak (Below.refl w.heap.size w)
  have H : (if 0 ≤ a1 then (if a1 < (l0.length : Int) then (impl_lambdaOut.l0 k l0 a2 ((rd_T93 l0 a1).f1)) else (none)) else (none)) = some (r1, r2, r3, r4, r5, r6, r7) := h
  clear h
  by_cases c4 : 0 ≤ a1
  ·rw [if_pos c4] at H
   have c4b0 : decide (0 ≤ a1) = true := decide_eq_true c4
   clear c4
   by_cases c5 : a1 < (l0.length : Int)
   ·rw [if_pos c5] at H
    have c5b0 : decide (a1 < (l0.length : Int)) = true := decide_eq_true c5
    clear c5
    have H' := ak H
    clear H
    go_enter Tryd.func99, Tryd.ntmps99
    go_wp2_with (first | ((with_reducible refine gate_dst (N := 6) rfl ?_); refine box_event ?hg (N := 6) ?hd (cs := #[.int .i64 0, .int .i64 0, .int .i64 0, .int .i64 0, .string (⟨#[]⟩ : ByteArray), .slice none 0 0]) (t := 93) ?hr ?_; (case hd => rfl); (case hg => rfl); (case hr => first | (go_simp; done) | (go_simp; rfl)); intro gb256 hg w6 hbox hb; have n0_ := ak (Kd.V_below (Kd.V_elderB (by (with_reducible repeat (first | apply Kd.V_alloc | apply Kd.V_drewN | apply Kd.V_drew)); exact HO0.out) gb256 (Nat.le_of_eq hg.symm)) hb); have n1_ := ak (below_step d11_3 hb); have n2_ := ak (hbox); have n3_ := ak ((by rw [hg]; exact (below_size d11_3) : w.heap.size ≤ gb256)); have n4_ := ak ((by rw [hg]; exact (below_size d11_3) : w.heap.size ≤ gb256)); clear HO0 HB; have HO0 := n0_; have HB := n1_; have BK256 := n2_; have GW256 := n3_; have GE256 := n4_; clear n0_ n1_ n2_ n3_ n4_ hb hbox hg; have p257 : 0 ≤ (a1 : Int) := of_decide_eq_true d11_1; have q257 : a1 < (l0.length : Int) := of_decide_eq_true d11_1; obtain ⟨ad257, A257_5, c257_5, e257, hx257_0, hx257_1, hx257_2, hx257_3, hx257_4, hx257_5, hl257_5, hi257_5⟩ := at_T93 (Kd.V_reads' HO0.out).2.2 a1 p257 q257; cases e257; obtain ⟨ce257, hce257, hMe257, hcc257⟩ := Kd.V_get HO0.out z93 a1 p257 (by first | exact q257 | exact of_decide_eq_true d11_1 | (have e_ := (Kd.V_reads' HO0.out).1; omega)); obtain ⟨ua257_5, uc257_5, rfl, ul257_5, ge257_5⟩ := k93_openF hMe257; have hv257_5 := hcc257 5 _ rfl; rw [add_field _ _ 5 (by omega)] at hv257_5; replace hv257_5 := Option.some.inj (hv257_5.symm.trans hx257_5); injection hv257_5 with hva_ hvn_ hvc_; rw [hva_] at ge257_5; rw [hvc_] at ul257_5; have HL257_5 := ak (show Kd.V k127 127 _ w.heap.size _ _ ((rd_T93 l0 a1).f5) from Kd.V_mk ul257_5 ge257_5); clear hva_ hvn_ hvc_ ge257_5 ul257_5 hcc257 hce257; have HR257_5 := ak hi257_5; have HC257_5 := ak hl257_5; clear hi257_5 hl257_5; replace p257 := eq_true p257; replace q257 := eq_true q257))
    go_loopg [2, 8] k (fun kq v2 v8 w' => ∃ (x2_1 : Int) (x8_1 : Int) (x257000_1 : Int) (x257001_1 : Int) (x257002_1 : Int) (x257003_1 : Int) (x257004_1 : ByteArray), v2 = .int .i64 x2_1 ∧ v8 = .int .i64 x8_1 ∧ Aside0 (impl_lambdaOut.l0 kq l0 x2_1 x8_1 = some (r1, r2, r3, r4, r5, r6, r7)) ∧ Aside0 (kq ≤ k) ∧ Aside0 (Kd.V k93 93 w' w.heap.size (fun k_ => (P0_ k_ ∨ w.heap.size ≤ k_) ∧ k_ ≠ gb256) (.slice (some ad257) l0.length c0) l0) ∧ Aside0 (w'.heap[gb256]? = some (.cells #[.int .i64 x257000_1, .int .i64 x257001_1, .int .i64 x257002_1, .int .i64 x257003_1, .string x257004_1, (.slice none 0 0)] 93 (0, 0))) ∧ Aside0 (Kd.C k127 w' A257_5 ((rd_T93 l0 a1).f5).length ((rd_T93 l0 a1).f5)) ∧ Aside0 (Below w.heap.size w w'))
    case atStart => exact ⟨(a2), ((rd_T93 l0 a1).f1), (0), (0), (0), (0), ((⟨#[]⟩ : ByteArray)), d11_2, d11_2, H', ⟨Nat.le_refl _⟩, ⟨by (with_reducible repeat (first | apply Kd.V_alloc | apply Kd.V_drewN | apply Kd.V_drew)); exact HO0.out⟩, ⟨by (with_reducible repeat (first | refine blk_drewN ?_ _ | refine blk_drew ?_ | refine blk_alloc ?_ _)); exact BK256.out⟩, ⟨by repeat (first | (with_reducible exact HR257_5.out) | (with_reducible refine Kd.C_alloc ?_ _) | (with_reducible refine Kd.C_drewN ?_ _) | (with_reducible refine Kd.C_drew ?_) | exact HR257_5.out)⟩, ⟨by repeat (first | (with_reducible first | exact HB.out | apply below_alloc | apply pw_below_drewN | apply below_drew1 | refine below_set ?_ GE256.out) | exact HB.out)⟩⟩
    case round =>
     clear H'
     try clear c2
     try clear p2
     try clear q2
     try clear hx2
     try clear c4
     try clear c4b0
     try clear c5
     try clear c5b0
     try clear hx257_0
     try clear hx257_1
     try clear hx257_2
     try clear hx257_3
     try clear hx257_4
     try clear hx257_5
     try clear p257
     try clear q257
     obtain ⟨x2_1, x8_1, x257000_1, x257001_1, x257002_1, x257003_1, x257004_1, rfl, rfl, HA, HK1, HO_0, BK256, HR257_5, HB⟩ := hrel
     cases gk with
     | zero => exact absurd HA.out (by simp [impl_lambdaOut.l0])
     | succ k1 =>
      have H := HA.out
      clear HA
      simp only [impl_lambdaOut.l0] at H
      by_cases c7 : x8_1 ≥ 0
      ·rw [if_pos c7] at H
       have c7b0 : decide (0 ≤ x8_1) = true := decide_eq_true c7
       clear c7
       by_cases c8 : 0 ≤ x8_1
       ·rw [if_pos c8] at H
        have c8b0 : decide (0 ≤ x8_1) = true := decide_eq_true c8
        clear c8
        by_cases c9 : x8_1 < (l0.length : Int)
        ·rw [if_pos c9] at H
         have c9b0 : decide (x8_1 < (l0.length : Int)) = true := decide_eq_true c9
         clear c9
         by_cases c10 : ((rd_T93 l0 x8_1).f0) = 5
         ·rw [if_pos c10] at H
          have c10b0 : (((rd_T93 l0 x8_1).f0) == 5) = true := beq_iff_eq.mpr c10
          have c10b1 : (((rd_T93 l0 x8_1).f0) != 5) = false := bne_eq_false_iff_eq.mpr c10
          clear c10
          by_cases c11 : x2_1 = 0
          ·rw [if_pos c11] at H
           have c11b0 : (x2_1 == 0) = true := beq_iff_eq.mpr c11
           have c11b1 : (x2_1 != 0) = false := bne_eq_false_iff_eq.mpr c11
           clear c11
           simp only [Option.some.injEq, Prod.mk.injEq] at H
           obtain ⟨rfl, rfl, rfl, rfl, rfl, rfl, rfl⟩ := H
           have p258 : 0 ≤ (x8_1 : Int) := of_decide_eq_true d11_1
           have q258 : x8_1 < (l0.length : Int) := of_decide_eq_true d11_1
           obtain ⟨ad258, A258_5, c258_5, e258, hx258_0, hx258_1, hx258_2, hx258_3, hx258_4, hx258_5, hl258_5, hi258_5⟩ := at_T93 (Kd.V_reads' HO_0.out).2.2 x8_1 p258 q258
           obtain rfl : ad257 = ad258 := (by injection e258)
           obtain ⟨ce258, hce258, hMe258, hcc258⟩ := Kd.V_get HO_0.out z93 x8_1 p258 (by first | exact q258 | exact of_decide_eq_true d11_1 | (have e_ := (Kd.V_reads' HO_0.out).1; omega))
           obtain ⟨ua258_5, uc258_5, rfl, ul258_5, ge258_5⟩ := k93_openF hMe258
           have hv258_5 := hcc258 5 _ rfl
           rw [add_field _ _ 5 (by omega)] at hv258_5
           replace hv258_5 := Option.some.inj (hv258_5.symm.trans hx258_5)
           injection hv258_5 with hva_ hvn_ hvc_
           rw [hva_] at ge258_5
           rw [hvc_] at ul258_5
           have HL258_5 := ak (show Kd.V k127 127 _ w.heap.size _ _ ((rd_T93 l0 x8_1).f5) from Kd.V_mk ul258_5 ge258_5)
           clear hva_ hvn_ hvc_ ge258_5 ul258_5
           clear hcc258 hce258
           have HR258_5 := ak hi258_5
           have HC258_5 := ak hl258_5
           clear hi258_5 hl258_5
           replace p258 := eq_true p258
           replace q258 := eq_true q258
           have p259 : 0 ≤ (x8_1 : Int) := of_decide_eq_true d11_1
           have q259 : x8_1 < (l0.length : Int) := of_decide_eq_true d11_1
           obtain ⟨ad259, A259_5, c259_5, e259, hx259_0, hx259_1, hx259_2, hx259_3, hx259_4, hx259_5, hl259_5, hi259_5⟩ := at_T93 (Kd.V_reads' HO_0.out).2.2 x8_1 p259 q259
           obtain rfl : ad257 = ad259 := (by injection e259)
           obtain ⟨ce259, hce259, hMe259, hcc259⟩ := Kd.V_get HO_0.out z93 x8_1 p259 (by first | exact q259 | exact of_decide_eq_true d11_1 | (have e_ := (Kd.V_reads' HO_0.out).1; omega))
           obtain ⟨ua259_5, uc259_5, rfl, ul259_5, ge259_5⟩ := k93_openF hMe259
           have hv259_5 := hcc259 5 _ rfl
           rw [add_field _ _ 5 (by omega)] at hv259_5
           replace hv259_5 := Option.some.inj (hv259_5.symm.trans hx259_5)
           injection hv259_5 with hva_ hvn_ hvc_
           rw [hva_] at ge259_5
           rw [hvc_] at ul259_5
           have HL259_5 := ak (show Kd.V k127 127 _ w.heap.size _ _ ((rd_T93 l0 x8_1).f5) from Kd.V_mk ul259_5 ge259_5)
           clear hva_ hvn_ hvc_ ge259_5 ul259_5
           clear hcc259 hce259
           have HR259_5 := ak hi259_5
           have HC259_5 := ak hl259_5
           clear hi259_5 hl259_5
           replace p259 := eq_true p259
           replace q259 := eq_true q259
           have ea_ := Option.some.inj (hx258_5.symm.trans hx259_5)
           injection ea_ with ea_ en_ ec_
           subst ea_
           subst ec_
           clear en_
           have hcz12_0 : wr.cell? ⟨gb256, 0, none⟩ = some (.int .i64 x257000_1) := (blk_cell BK256.out 0).trans rfl
           have hcz12_1 : wr.cell? ⟨gb256, 1, none⟩ = some (.int .i64 x257001_1) := (blk_cell BK256.out 1).trans rfl
           have hcz12_2 : wr.cell? ⟨gb256, 2, none⟩ = some (.int .i64 x257002_1) := (blk_cell BK256.out 2).trans rfl
           have hcz12_3 : wr.cell? ⟨gb256, 3, none⟩ = some (.int .i64 x257003_1) := (blk_cell BK256.out 3).trans rfl
           have hcz12_4 : wr.cell? ⟨gb256, 4, none⟩ = some (.string x257004_1) := (blk_cell BK256.out 4).trans rfl
           have hcz12_5 : wr.cell? ⟨gb256, 5, none⟩ = some (.slice none 0 0) := (blk_cell BK256.out 5).trans rfl
           have hfz12_0 := blk_frozen BK256.out 0
           have hfz12_1 := blk_frozen BK256.out 1
           have hfz12_2 := blk_frozen BK256.out 2
           have hfz12_3 := blk_frozen BK256.out 3
           have hfz12_4 := blk_frozen BK256.out 4
           have hfz12_5 := blk_frozen BK256.out 5
           go_wp2
           refine bodyPost_ret (results_ct rfl _ _ gb256 93 #[.int .i64 ((rd_T93 l0 x8_1).f0), .int .i64 ((rd_T93 l0 x8_1).f1), .int .i64 ((rd_T93 l0 x8_1).f2), .int .i64 ((rd_T93 l0 x8_1).f3), .string ((rd_T93 l0 x8_1).f4), .slice A258_5 ((rd_T93 l0 x8_1).f5).length c258_5] (0, 0) _ rfl (by (with_reducible repeat (first | refine blk_drewN ?_ _ | refine blk_drew ?_ | refine blk_alloc ?_ _)); refine blk_put (cs := #[.int .i64 ((rd_T93 l0 x8_1).f0), .int .i64 ((rd_T93 l0 x8_1).f1), .int .i64 ((rd_T93 l0 x8_1).f2), .int .i64 ((rd_T93 l0 x8_1).f3), .string ((rd_T93 l0 x8_1).f4), .slice none 0 0]) ?_ 5 _ rfl; (with_reducible repeat (first | refine blk_drewN ?_ _ | refine blk_drew ?_ | refine blk_alloc ?_ _)); refine blk_put (cs := #[.int .i64 ((rd_T93 l0 x8_1).f0), .int .i64 ((rd_T93 l0 x8_1).f1), .int .i64 ((rd_T93 l0 x8_1).f2), .int .i64 ((rd_T93 l0 x8_1).f3), .string x257004_1, .slice none 0 0]) ?_ 4 _ rfl; (with_reducible repeat (first | refine blk_drewN ?_ _ | refine blk_drew ?_ | refine blk_alloc ?_ _)); refine blk_put (cs := #[.int .i64 ((rd_T93 l0 x8_1).f0), .int .i64 ((rd_T93 l0 x8_1).f1), .int .i64 ((rd_T93 l0 x8_1).f2), .int .i64 x257003_1, .string x257004_1, .slice none 0 0]) ?_ 3 _ rfl; (with_reducible repeat (first | refine blk_drewN ?_ _ | refine blk_drew ?_ | refine blk_alloc ?_ _)); refine blk_put (cs := #[.int .i64 ((rd_T93 l0 x8_1).f0), .int .i64 ((rd_T93 l0 x8_1).f1), .int .i64 x257002_1, .int .i64 x257003_1, .string x257004_1, .slice none 0 0]) ?_ 2 _ rfl; (with_reducible repeat (first | refine blk_drewN ?_ _ | refine blk_drew ?_ | refine blk_alloc ?_ _)); refine blk_put (cs := #[.int .i64 ((rd_T93 l0 x8_1).f0), .int .i64 x257001_1, .int .i64 x257002_1, .int .i64 x257003_1, .string x257004_1, .slice none 0 0]) ?_ 1 _ rfl; (with_reducible repeat (first | refine blk_drewN ?_ _ | refine blk_drew ?_ | refine blk_alloc ?_ _)); refine blk_put (cs := #[.int .i64 x257000_1, .int .i64 x257001_1, .int .i64 x257002_1, .int .i64 x257003_1, .string x257004_1, .slice none 0 0]) ?_ 0 _ rfl; (with_reducible repeat (first | refine blk_drewN ?_ _ | refine blk_drew ?_ | refine blk_alloc ?_ _)); exact BK256.out) Tryd.underlying93 rfl (by kernel_rfl)) rfl ?_
           exact ⟨_, by first | rfl | (simp [errW_none, errW_some] <;> rfl) | (simp [*, errW_none, errW_some] <;> rfl), by (with_reducible repeat (first | apply Kd.V_alloc | apply Kd.V_drewN | apply Kd.V_drew)); exact Kd.V_mono (Kd.V_far (p := ⟨gb256, 5, none⟩) (Kd.V_far (p := ⟨gb256, 4, none⟩) (Kd.V_far (p := ⟨gb256, 3, none⟩) (Kd.V_far (p := ⟨gb256, 2, none⟩) (Kd.V_far (p := ⟨gb256, 1, none⟩) (Kd.V_far (p := ⟨gb256, 0, none⟩) (Kd.V_mono HL259_5.out (fun k_ hk => (⟨hk, hk.2⟩ : _ ∧ k_ ≠ gb256))) (fun _ hk => hk.2) (.int .i64 ((rd_T93 l0 x8_1).f0))) (fun _ hk => hk.2) (.int .i64 ((rd_T93 l0 x8_1).f1))) (fun _ hk => hk.2) (.int .i64 ((rd_T93 l0 x8_1).f2))) (fun _ hk => hk.2) (.int .i64 ((rd_T93 l0 x8_1).f3))) (fun _ hk => hk.2) (.string ((rd_T93 l0 x8_1).f4))) (fun _ hk => hk.2) (.slice A258_5 ((rd_T93 l0 x8_1).f5).length c258_5)) (fun _ hk => hk.1.1), by repeat (first | (with_reducible first | exact HB.out | apply below_alloc | apply pw_below_drewN | apply below_drew1 | refine below_set ?_ GE256.out) | exact HB.out)⟩
          ·rw [if_neg c11] at H
           have c11b0 : (x2_1 == 0) = false := beq_eq_false_iff_ne.mpr c11
           have c11b1 : (x2_1 != 0) = true := bne_iff_ne.mpr c11
           have H' := ak H
           clear H
           have p258 : 0 ≤ (x8_1 : Int) := of_decide_eq_true d11_1
           have q258 : x8_1 < (l0.length : Int) := of_decide_eq_true d11_1
           obtain ⟨ad258, A258_5, c258_5, e258, hx258_0, hx258_1, hx258_2, hx258_3, hx258_4, hx258_5, hl258_5, hi258_5⟩ := at_T93 (Kd.V_reads' HO_0.out).2.2 x8_1 p258 q258
           obtain rfl : ad257 = ad258 := (by injection e258)
           obtain ⟨ce258, hce258, hMe258, hcc258⟩ := Kd.V_get HO_0.out z93 x8_1 p258 (by first | exact q258 | exact of_decide_eq_true d11_1 | (have e_ := (Kd.V_reads' HO_0.out).1; omega))
           obtain ⟨ua258_5, uc258_5, rfl, ul258_5, ge258_5⟩ := k93_openF hMe258
           have hv258_5 := hcc258 5 _ rfl
           rw [add_field _ _ 5 (by omega)] at hv258_5
           replace hv258_5 := Option.some.inj (hv258_5.symm.trans hx258_5)
           injection hv258_5 with hva_ hvn_ hvc_
           rw [hva_] at ge258_5
           rw [hvc_] at ul258_5
           have HL258_5 := ak (show Kd.V k127 127 _ w.heap.size _ _ ((rd_T93 l0 x8_1).f5) from Kd.V_mk ul258_5 ge258_5)
           clear hva_ hvn_ hvc_ ge258_5 ul258_5
           clear hcc258 hce258
           have HR258_5 := ak hi258_5
           have HC258_5 := ak hl258_5
           clear hi258_5 hl258_5
           replace p258 := eq_true p258
           replace q258 := eq_true q258
           have p260 : 0 ≤ (x8_1 : Int) := of_decide_eq_true d11_1
           have q260 : x8_1 < (l0.length : Int) := of_decide_eq_true d11_1
           obtain ⟨ad260, A260_5, c260_5, e260, hx260_0, hx260_1, hx260_2, hx260_3, hx260_4, hx260_5, hl260_5, hi260_5⟩ := at_T93 (Kd.V_reads' HO_0.out).2.2 x8_1 p260 q260
           obtain rfl : ad257 = ad260 := (by injection e260)
           obtain ⟨ce260, hce260, hMe260, hcc260⟩ := Kd.V_get HO_0.out z93 x8_1 p260 (by first | exact q260 | exact of_decide_eq_true d11_1 | (have e_ := (Kd.V_reads' HO_0.out).1; omega))
           obtain ⟨ua260_5, uc260_5, rfl, ul260_5, ge260_5⟩ := k93_openF hMe260
           have hv260_5 := hcc260 5 _ rfl
           rw [add_field _ _ 5 (by omega)] at hv260_5
           replace hv260_5 := Option.some.inj (hv260_5.symm.trans hx260_5)
           injection hv260_5 with hva_ hvn_ hvc_
           rw [hva_] at ge260_5
           rw [hvc_] at ul260_5
           have HL260_5 := ak (show Kd.V k127 127 _ w.heap.size _ _ ((rd_T93 l0 x8_1).f5) from Kd.V_mk ul260_5 ge260_5)
           clear hva_ hvn_ hvc_ ge260_5 ul260_5
           clear hcc260 hce260
           have HR260_5 := ak hi260_5
           have HC260_5 := ak hl260_5
           clear hi260_5 hl260_5
           replace p260 := eq_true p260
           replace q260 := eq_true q260
           have ea_ := Option.some.inj (hx258_5.symm.trans hx260_5)
           injection ea_ with ea_ en_ ec_
           subst ea_
           subst ec_
           clear en_
           go_wp2
           go_roundg k1
           case measure => have := HK1.out; omega
           case rel => exact ⟨(wrap64 (x2_1 - 1)), ((rd_T93 l0 x8_1).f1), (x257000_1), (x257001_1), (x257002_1), (x257003_1), (x257004_1), d11_2, d11_2, H', ⟨by have := HK1.out; omega⟩, ⟨by (with_reducible repeat (first | apply Kd.V_alloc | apply Kd.V_drewN | apply Kd.V_drew)); exact HO_0.out⟩, ⟨by (with_reducible repeat (first | refine blk_drewN ?_ _ | refine blk_drew ?_ | refine blk_alloc ?_ _)); exact BK256.out⟩, ⟨by repeat (first | (with_reducible exact HR257_5.out) | (with_reducible refine Kd.C_alloc ?_ _) | (with_reducible refine Kd.C_drewN ?_ _) | (with_reducible refine Kd.C_drew ?_) | exact HR257_5.out)⟩, ⟨by repeat (first | (with_reducible first | exact HB.out | apply below_alloc | apply pw_below_drewN | apply below_drew1 | refine below_set ?_ GE256.out) | exact HB.out)⟩⟩
         ·rw [if_neg c10] at H
          have c10b0 : (((rd_T93 l0 x8_1).f0) == 5) = false := beq_eq_false_iff_ne.mpr c10
          have c10b1 : (((rd_T93 l0 x8_1).f0) != 5) = true := bne_iff_ne.mpr c10
          have H' := ak H
          clear H
          have p258 : 0 ≤ (x8_1 : Int) := of_decide_eq_true d11_1
          have q258 : x8_1 < (l0.length : Int) := of_decide_eq_true d11_1
          obtain ⟨ad258, A258_5, c258_5, e258, hx258_0, hx258_1, hx258_2, hx258_3, hx258_4, hx258_5, hl258_5, hi258_5⟩ := at_T93 (Kd.V_reads' HO_0.out).2.2 x8_1 p258 q258
          obtain rfl : ad257 = ad258 := (by injection e258)
          obtain ⟨ce258, hce258, hMe258, hcc258⟩ := Kd.V_get HO_0.out z93 x8_1 p258 (by first | exact q258 | exact of_decide_eq_true d11_1 | (have e_ := (Kd.V_reads' HO_0.out).1; omega))
          obtain ⟨ua258_5, uc258_5, rfl, ul258_5, ge258_5⟩ := k93_openF hMe258
          have hv258_5 := hcc258 5 _ rfl
          rw [add_field _ _ 5 (by omega)] at hv258_5
          replace hv258_5 := Option.some.inj (hv258_5.symm.trans hx258_5)
          injection hv258_5 with hva_ hvn_ hvc_
          rw [hva_] at ge258_5
          rw [hvc_] at ul258_5
          have HL258_5 := ak (show Kd.V k127 127 _ w.heap.size _ _ ((rd_T93 l0 x8_1).f5) from Kd.V_mk ul258_5 ge258_5)
          clear hva_ hvn_ hvc_ ge258_5 ul258_5
          clear hcc258 hce258
          have HR258_5 := ak hi258_5
          have HC258_5 := ak hl258_5
          clear hi258_5 hl258_5
          replace p258 := eq_true p258
          replace q258 := eq_true q258
          have p261 : 0 ≤ (x8_1 : Int) := of_decide_eq_true d11_1
          have q261 : x8_1 < (l0.length : Int) := of_decide_eq_true d11_1
          obtain ⟨ad261, A261_5, c261_5, e261, hx261_0, hx261_1, hx261_2, hx261_3, hx261_4, hx261_5, hl261_5, hi261_5⟩ := at_T93 (Kd.V_reads' HO_0.out).2.2 x8_1 p261 q261
          obtain rfl : ad257 = ad261 := (by injection e261)
          obtain ⟨ce261, hce261, hMe261, hcc261⟩ := Kd.V_get HO_0.out z93 x8_1 p261 (by first | exact q261 | exact of_decide_eq_true d11_1 | (have e_ := (Kd.V_reads' HO_0.out).1; omega))
          obtain ⟨ua261_5, uc261_5, rfl, ul261_5, ge261_5⟩ := k93_openF hMe261
          have hv261_5 := hcc261 5 _ rfl
          rw [add_field _ _ 5 (by omega)] at hv261_5
          replace hv261_5 := Option.some.inj (hv261_5.symm.trans hx261_5)
          injection hv261_5 with hva_ hvn_ hvc_
          rw [hva_] at ge261_5
          rw [hvc_] at ul261_5
          have HL261_5 := ak (show Kd.V k127 127 _ w.heap.size _ _ ((rd_T93 l0 x8_1).f5) from Kd.V_mk ul261_5 ge261_5)
          clear hva_ hvn_ hvc_ ge261_5 ul261_5
          clear hcc261 hce261
          have HR261_5 := ak hi261_5
          have HC261_5 := ak hl261_5
          clear hi261_5 hl261_5
          replace p261 := eq_true p261
          replace q261 := eq_true q261
          have ea_ := Option.some.inj (hx258_5.symm.trans hx261_5)
          injection ea_ with ea_ en_ ec_
          subst ea_
          subst ec_
          clear en_
          go_wp2
          go_roundg k1
          case measure => have := HK1.out; omega
          case rel => exact ⟨(x2_1), ((rd_T93 l0 x8_1).f1), (x257000_1), (x257001_1), (x257002_1), (x257003_1), (x257004_1), d11_2, d11_2, H', ⟨by have := HK1.out; omega⟩, ⟨by (with_reducible repeat (first | apply Kd.V_alloc | apply Kd.V_drewN | apply Kd.V_drew)); exact HO_0.out⟩, ⟨by (with_reducible repeat (first | refine blk_drewN ?_ _ | refine blk_drew ?_ | refine blk_alloc ?_ _)); exact BK256.out⟩, ⟨by repeat (first | (with_reducible exact HR257_5.out) | (with_reducible refine Kd.C_alloc ?_ _) | (with_reducible refine Kd.C_drewN ?_ _) | (with_reducible refine Kd.C_drew ?_) | exact HR257_5.out)⟩, ⟨by repeat (first | (with_reducible first | exact HB.out | apply below_alloc | apply pw_below_drewN | apply below_drew1 | refine below_set ?_ GE256.out) | exact HB.out)⟩⟩
        ·rw [if_neg c9] at H
         exact absurd H (by simp)
       ·rw [if_neg c8] at H
        exact absurd H (by simp)
      ·rw [if_neg c7] at H
       have c7b0 : decide (0 ≤ x8_1) = false := decide_eq_false c7
       clear c7
       simp only [Option.some.injEq, Prod.mk.injEq] at H
       obtain ⟨rfl, rfl, rfl, rfl, rfl, rfl, rfl⟩ := H
       have hcz13_0 : wr.cell? ⟨gb256, 0, none⟩ = some (.int .i64 x257000_1) := (blk_cell BK256.out 0).trans rfl
       have hcz13_1 : wr.cell? ⟨gb256, 1, none⟩ = some (.int .i64 x257001_1) := (blk_cell BK256.out 1).trans rfl
       have hcz13_2 : wr.cell? ⟨gb256, 2, none⟩ = some (.int .i64 x257002_1) := (blk_cell BK256.out 2).trans rfl
       have hcz13_3 : wr.cell? ⟨gb256, 3, none⟩ = some (.int .i64 x257003_1) := (blk_cell BK256.out 3).trans rfl
       have hcz13_4 : wr.cell? ⟨gb256, 4, none⟩ = some (.string x257004_1) := (blk_cell BK256.out 4).trans rfl
       have hcz13_5 : wr.cell? ⟨gb256, 5, none⟩ = some (.slice none 0 0) := (blk_cell BK256.out 5).trans rfl
       have hfz13_0 := blk_frozen BK256.out 0
       have hfz13_1 := blk_frozen BK256.out 1
       have hfz13_2 := blk_frozen BK256.out 2
       have hfz13_3 := blk_frozen BK256.out 3
       have hfz13_4 := blk_frozen BK256.out 4
       have hfz13_5 := blk_frozen BK256.out 5
       go_wp2
       refine bodyPost_ret (results_ct rfl _ _ gb256 93 #[.int .i64 0, .int .i64 0, .int .i64 0, .int .i64 0, .string (⟨#[]⟩ : ByteArray), .slice none 0 0] (0, 0) _ rfl (by (with_reducible repeat (first | refine blk_drewN ?_ _ | refine blk_drew ?_ | refine blk_alloc ?_ _)); refine blk_put (cs := #[.int .i64 0, .int .i64 0, .int .i64 0, .int .i64 0, .string (⟨#[]⟩ : ByteArray), .slice none 0 0]) ?_ 5 _ rfl; (with_reducible repeat (first | refine blk_drewN ?_ _ | refine blk_drew ?_ | refine blk_alloc ?_ _)); refine blk_put (cs := #[.int .i64 0, .int .i64 0, .int .i64 0, .int .i64 0, .string x257004_1, .slice none 0 0]) ?_ 4 _ rfl; (with_reducible repeat (first | refine blk_drewN ?_ _ | refine blk_drew ?_ | refine blk_alloc ?_ _)); refine blk_put (cs := #[.int .i64 0, .int .i64 0, .int .i64 0, .int .i64 x257003_1, .string x257004_1, .slice none 0 0]) ?_ 3 _ rfl; (with_reducible repeat (first | refine blk_drewN ?_ _ | refine blk_drew ?_ | refine blk_alloc ?_ _)); refine blk_put (cs := #[.int .i64 0, .int .i64 0, .int .i64 x257002_1, .int .i64 x257003_1, .string x257004_1, .slice none 0 0]) ?_ 2 _ rfl; (with_reducible repeat (first | refine blk_drewN ?_ _ | refine blk_drew ?_ | refine blk_alloc ?_ _)); refine blk_put (cs := #[.int .i64 0, .int .i64 x257001_1, .int .i64 x257002_1, .int .i64 x257003_1, .string x257004_1, .slice none 0 0]) ?_ 1 _ rfl; (with_reducible repeat (first | refine blk_drewN ?_ _ | refine blk_drew ?_ | refine blk_alloc ?_ _)); refine blk_put (cs := #[.int .i64 x257000_1, .int .i64 x257001_1, .int .i64 x257002_1, .int .i64 x257003_1, .string x257004_1, .slice none 0 0]) ?_ 0 _ rfl; (with_reducible repeat (first | refine blk_drewN ?_ _ | refine blk_drew ?_ | refine blk_alloc ?_ _)); exact BK256.out) Tryd.underlying93 rfl (by kernel_rfl)) rfl ?_
       exact ⟨_, by first | rfl | (simp [errW_none, errW_some] <;> rfl) | (simp [*, errW_none, errW_some] <;> rfl), Kd.V_nil _ _ _ _ _, by repeat (first | (with_reducible first | exact HB.out | apply below_alloc | apply pw_below_drewN | apply below_drew1 | refine below_set ?_ GE256.out) | exact HB.out)⟩
   ·rw [if_neg c5] at H
    exact absurd H (by simp)
  ·rw [if_neg c4] at H
   exact absurd H (by simp)

/-! ### impl_oneCoreFault_1: function 96 -/
def impl_oneCoreFault_1.f (a0 : Int) (l1_0 : List (S93)) : Option (Int) := if 0 ≤ a0 then (if a0 < (l1_0.length : Int) then (some ((rd_T93 l1_0 a0).f1)) else (none)) else (none)
set_option maxHeartbeats 8000000 in
set_option maxRecDepth 100000 in
theorem impl_oneCoreFault_1.calls (a0 : Int) (P1_ : Addr) (A1_0 : Option Addr) (c1_0 : Nat) (l1_0 : List (S93)) (r : Int) (w : World) (hq1_0 : w.cell? P1_ = some (.slice A1_0 l1_0.length c1_0)) (hr1_0 : Kd.C k93 w A1_0 l1_0.length l1_0) (hc1_0 : l1_0.length ≤ c1_0) (h : impl_oneCoreFault_1.f a0 l1_0 = some r) :
    Calls Tryd.prog 96 #[.int .i64 a0, .pointer (some P1_)] w fun e w' => e = .returned (.int .i64 r) ∧ Drawn0 w w' := by
  have HQ1_0 := ak hq1_0
  clear hq1_0
  have HR1_0 := ak hr1_0
  have HC1_0 := ak hc1_0
  clear hr1_0 hc1_0
  have H : (if 0 ≤ a0 then (if a0 < (l1_0.length : Int) then (some ((rd_T93 l1_0 a0).f1)) else (none)) else (none)) = some r := h
  clear h
  by_cases c3 : 0 ≤ a0
  ·rw [if_pos c3] at H
   have c3b0 : decide (0 ≤ a0) = true := decide_eq_true c3
   clear c3
   by_cases c4 : a0 < (l1_0.length : Int)
   ·rw [if_pos c4] at H
    have c4b0 : decide (a0 < (l1_0.length : Int)) = true := decide_eq_true c4
    clear c4
    obtain rfl := Option.some.inj H
    have hx268_0 := HQ1_0.out
    have p269 : 0 ≤ (a0 : Int) := of_decide_eq_true d11_1
    have q269 : a0 < (l1_0.length : Int) := of_decide_eq_true d11_1
    obtain ⟨ad269, A269_5, c269_5, e269, hx269_0, hx269_1, hx269_2, hx269_3, hx269_4, hx269_5, hl269_5, hi269_5⟩ := at_T93 HR1_0.out a0 p269 q269
    cases e269
    have HR269_5 := ak hi269_5
    have HC269_5 := ak hl269_5
    clear hi269_5 hl269_5
    replace p269 := eq_true p269
    replace q269 := eq_true q269
    go_enter Tryd.func96, Tryd.ntmps96
    go_wp2
    go_ret
    exact ⟨by first | rfl | (simp; done) | (simp [*]; done) | (simp [ne_nil_b, eq_nil_b]; done), by repeat (first | exact Drawn0.refl _ | apply Drawn0.step)⟩
   ·rw [if_neg c4] at H
    exact absurd H (by simp)
  ·rw [if_neg c3] at H
   exact absurd H (by simp)

/-! ### impl_isUp__impl_oneCoreFault_1: function 95 -/
def impl_isUp__impl_oneCoreFault_1.l0 : Nat → Int → Int → List (S93) → Option (Bool)
  | 0, _, _, _ => none
  | k + 1, x2, x7, x1000 => if x7 ≥ 0 then (if x7 = x2 then (some true) else ((impl_oneCoreFault_1.f x7 x1000).bind fun t271 => (impl_isUp__impl_oneCoreFault_1.l0 k x2 t271 x1000))) else (some false)
def impl_isUp__impl_oneCoreFault_1.f (k : Nat) (l0_0 : List (S93)) (a1 : Int) (a2 : Int) : Option (Bool) := impl_isUp__impl_oneCoreFault_1.l0 k a2 a1 l0_0
theorem impl_isUp__impl_oneCoreFault_1.mono_l : ∀ k, (∀ y0 y1 y2, LeO (impl_isUp__impl_oneCoreFault_1.l0 k y0 y1 y2) (impl_isUp__impl_oneCoreFault_1.l0 (k + 1) y0 y1 y2))
  | 0 => fun _ _ _ r h => by simp [impl_isUp__impl_oneCoreFault_1.l0] at h
  | k + 1 => by
    have ih0 := impl_isUp__impl_oneCoreFault_1.mono_l k
    · intro y0 y1 y2
      unfold impl_isUp__impl_oneCoreFault_1.l0
      repeat' first
      | (with_reducible exact ih0 _ _ _)
      | (with_reducible exact LeO.refl _)
      | (with_reducible exact LeO.none _)
      | (with_reducible refine LeO.ite ?_ ?_)
      | (with_reducible refine LeO.bind ?_ (fun _ => ?_))
      | exact ih0 _ _ _
      | exact LeO.none _
      | refine LeO.ite ?_ ?_
      | refine LeO.bind ?_ (fun _ => ?_)
theorem impl_isUp__impl_oneCoreFault_1.mono : ∀ a0 a1 a2 k, LeO (impl_isUp__impl_oneCoreFault_1.f k a0 a1 a2) (impl_isUp__impl_oneCoreFault_1.f (k + 1) a0 a1 a2) := by
  intro a0 a1 a2 k
  have ih0 := impl_isUp__impl_oneCoreFault_1.mono_l k
  unfold impl_isUp__impl_oneCoreFault_1.f
  repeat' first
      | (with_reducible exact ih0 _ _ _)
      | (with_reducible exact LeO.refl _)
      | (with_reducible exact LeO.none _)
      | (with_reducible refine LeO.ite ?_ ?_)
      | (with_reducible refine LeO.bind ?_ (fun _ => ?_))
      | exact ih0 _ _ _
      | exact LeO.none _
      | refine LeO.ite ?_ ?_
      | refine LeO.bind ?_ (fun _ => ?_)
set_option maxHeartbeats 8000000 in
set_option maxRecDepth 100000 in
theorem impl_isUp__impl_oneCoreFault_1.calls (k : Nat) (P0_0 : Addr) (A0_0 : Option Addr) (c0_0 : Nat) (l0_0 : List (S93)) (a1 : Int) (a2 : Int) (r : Bool) (w : World) (hq0_0 : w.cell? P0_0 = some (.slice A0_0 l0_0.length c0_0)) (hr0_0 : Kd.C k93 w A0_0 l0_0.length l0_0) (hc0_0 : l0_0.length ≤ c0_0) (h : impl_isUp__impl_oneCoreFault_1.f k l0_0 a1 a2 = some r) :
    Calls Tryd.prog 95 #[.func (.func 96) #[] #[.pointer (some P0_0)], .int .i64 a1, .int .i64 a2] w fun e w' => e = .returned (.bool r) ∧ Drawn0 w w' := by
  have HQ0_0 := ak hq0_0
  clear hq0_0
  have HR0_0 := ak hr0_0
  have HC0_0 := ak hc0_0
  clear hr0_0 hc0_0
  have H : (impl_isUp__impl_oneCoreFault_1.l0 k a2 a1 l0_0) = some r := h
  clear h
  have H' := ak H
  clear H
  go_enter Tryd.func95, Tryd.ntmps95
  go_wp2
  go_loopg [7] k (fun kq v7 w' => ∃ (x7_1 : Int), v7 = .int .i64 x7_1 ∧ Aside0 (impl_isUp__impl_oneCoreFault_1.l0 kq a2 x7_1 l0_0 = some r) ∧ Aside0 (kq ≤ k) ∧ Drawn0 w w')
  case atStart => exact ⟨(a1), d11_2, H', ⟨Nat.le_refl _⟩, by repeat (first | exact Drawn0.refl _ | apply Drawn0.step)⟩
  case round =>
   clear H'
   try clear p2
   obtain ⟨x7_1, rfl, HA, HK1, ⟨m1, rfl⟩⟩ := hrel
   cases gk with
   | zero => exact absurd HA.out (by simp [impl_isUp__impl_oneCoreFault_1.l0])
   | succ k1 =>
    have H := HA.out
    clear HA
    simp only [impl_isUp__impl_oneCoreFault_1.l0] at H
    by_cases c4 : x7_1 ≥ 0
    ·rw [if_pos c4] at H
     have c4b0 : decide (0 ≤ x7_1) = true := decide_eq_true c4
     clear c4
     by_cases c5 : x7_1 = a2
     ·rw [if_pos c5] at H
      have c5b0 : (x7_1 == a2) = true := beq_iff_eq.mpr c5
      have c5b1 : (x7_1 != a2) = false := bne_eq_false_iff_eq.mpr c5
      clear c5
      obtain rfl := Option.some.inj H
      go_wp2
      go_ret
      exact ⟨by first | rfl | (simp; done) | (simp [*]; done) | (simp [ne_nil_b, eq_nil_b]; done), by repeat (first | exact Drawn0.refl _ | apply Drawn0.step)⟩
     ·rw [if_neg c5] at H
      have c5b0 : (x7_1 == a2) = false := beq_eq_false_iff_ne.mpr c5
      have c5b1 : (x7_1 != a2) = true := bne_iff_ne.mpr c5
      replace H := Option.bind_eq_some_iff.mp H
      obtain ⟨t271, A60, H⟩ := H
      replace H : (impl_isUp__impl_oneCoreFault_1.l0 k1 a2 t271 l0_0) = some r := H
      have A6 := ak A60
      clear A60
      have H' := ak H
      clear H
      have hx270_0 := HQ0_0.out
      go_wp2_with (first | (go_at_call 96; (with_reducible refine (impl_oneCoreFault_1.calls x7_1 _ A0_0 c0_0 l0_0 t271 _ ?side1 ?side2 ?side3 A6.out).mono ?_); (case side1 => first | exact hx270_0 | (refine Eq.trans ?_ hx270_0; simp only [go_sem])); (case side2 => repeat (first | exact HR0_0.out | (with_reducible refine Kd.C_alloc ?_ _) | (with_reducible refine Kd.C_drewN ?_ _) | (with_reducible refine Kd.C_drew ?_))); (case side3 => exact HC0_0.out); rintro e w' ⟨rfl, ⟨nd, rfl⟩⟩))
      go_roundg k1
      case measure => have := HK1.out; omega
      case rel => exact ⟨(t271), d11_2, H', ⟨by have := HK1.out; omega⟩, by repeat (first | exact Drawn0.refl _ | apply Drawn0.step)⟩
    ·rw [if_neg c4] at H
     have c4b0 : decide (0 ≤ x7_1) = false := decide_eq_false c4
     clear c4
     obtain rfl := Option.some.inj H
     go_wp2
     go_ret
     exact ⟨by first | rfl | (simp; done) | (simp [*]; done) | (simp [ne_nil_b, eq_nil_b]; done), by repeat (first | exact Drawn0.refl _ | apply Drawn0.step)⟩

end Go.Proofs.YtcliaceiijaafaaDoor.C
