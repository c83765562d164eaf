/- Walks of the program's functions: each Go function's answer as a plain Lean function, and that the call comes to it. Written by a program. Conditions: those in each theorem's own head. -/
import Derived.Test.YtgnenhehcdekkadGreatDoorA0
import Derived.Test.YtgnenhehcdekkadGreatDoorA10
import Derived.Test.YtgnenhehcdekkadGreatDoorA13
namespace Go.Proofs.YtgnenhehcdekkadGreatDoor.A
open Go.RowKit Go.Proofs.YtgnenhehcdekkadGreatDoorW.PrintWords Go.Proofs.YtgnenhehcdekkadGreatDoorW.PrintLast Go.Proofs.YtgnenhehcdekkadGreatDoorW.PrintMore
attribute [local go_sem] max2_int min2_int max_two min_two max_three min_three max_four min_four   -- for this text's walks alone
set_option linter.unusedVariables false
set_option linter.unusedSimpArgs false

theorem b14N {w : World} {g : Nat} {o : Obj} (h : w.heap[g]? = some o) (n : Nat) : (w.drewN n).heap[g]? = some o := h
theorem b14D {w : World} {g : Nat} {o : Obj} (h : w.heap[g]? = some o) : (w.drew).heap[g]? = some o := h
theorem b14L {w : World} {g : Nat} {o : Obj} (h : w.heap[g]? = some o) (o' : Obj) : (w.alloc o').heap[g]? = some o := blk_alloc h o'
theorem d14_1 {p : Prop} (h : p := by first | (with_reducible assumption) | assumption) : p := h
theorem d14_2 {p : Prop} (h : p := by first | rfl | (simp; done) | (simp [*]; done) | (simp [ne_nil_b, eq_nil_b]; done)) : p := h
theorem d14_3 {p : Prop} (h : p := by repeat (first | (with_reducible first | exact HB.out | apply below_alloc | apply pw_below_drewN | apply below_drew1) | exact HB.out)) : p := h
theorem d14_4 {p : Prop} (h : p := by (try simp only [List.map_toArray, List.map_cons, List.map_nil]); first | done | rfl | (simp only [List.length_drop, List.length_take]; rfl)) : p := h
theorem c14_1 {p : Prop} (h : p := by repeat (first | (with_reducible first | exact HB.out | apply below_alloc | apply pw_below_drewN | apply below_drew1 | refine below_set ?_ GE309.out) | exact HB.out)) : p := h
theorem c14_2 {p : Prop} (h : p := by repeat (first | (with_reducible first | exact HB.out | apply below_alloc | apply pw_below_drewN | apply below_drew1) | exact HB.out)) : p := h
theorem c14_3 {p : Prop} (h : p := by repeat (first | (with_reducible exact HR310_5.out) | (with_reducible refine Kd.C_alloc ?_ _) | (with_reducible refine Kd.C_drewN ?_ _) | (with_reducible refine Kd.C_drew ?_) | exact HR310_5.out)) : p := h
theorem c14_4 {p : Prop} (h : p := by first | rfl | (simp [errW_none, errW_some] <;> rfl) | (simp [*, errW_none, errW_some] <;> rfl)) : p := h
set_option maxHeartbeats 8000000
set_option maxRecDepth 100000
theorem z14c {w : World} {g : Nat} {t : TypeId} {cs : Array Value} (h : w.heap[g]? = some (.cells cs t (0, 0))) (i : Nat) {v : Value} (e : cs[i]? = some v) : w.cell? ⟨g, i, none⟩ = some v := (blk_cell h i).trans e

/-! ### impl_DataFault: function 47 -/
def impl_DataFault.l0 : Nat → List (S69) → Int → Int → Option (Int)
  | 0, _, _, _ => none
  | k + 1, x0, x10, x11 => if x11 < x10 then ((impl_datumFault.f k x0 x11).bind fun t308 => (if t308 = 0 then (impl_DataFault.l0 k x0 x10 (wrap64 (x11 + 1))) else (some t308))) else (some 0)
def impl_DataFault.f (k : Nat) (l0 : List (S69)) : Option (Int) := (impl_in.f (l0.length : Int) 1 80).bind fun t307 => (if t307 = true then (impl_DataFault.l0 k l0 (l0.length : Int) 0) else (some 2))
theorem impl_DataFault.mono_l : ∀ k, (∀ y0 y1 y2, LeO (impl_DataFault.l0 k y0 y1 y2) (impl_DataFault.l0 (k + 1) y0 y1 y2))
  | 0 => fun _ _ _ r h => by simp [impl_DataFault.l0] at h
  | k + 1 => by
    have ih0 := impl_DataFault.mono_l k
    · intro y0 y1 y2
      unfold impl_DataFault.l0
      repeat' first | (with_reducible first | apply ih0 | apply impl_datumFault.mono | exact LeO.refl _ | exact LeO.none _ | refine LeO.ite ?_ ?_ | refine LeO.bind ?_ (fun _ => ?_)) | apply ih0 | apply impl_datumFault.mono | exact LeO.none _ | refine LeO.ite ?_ ?_ | refine LeO.bind ?_ (fun _ => ?_)
theorem impl_DataFault.mono : ∀ a0 k, LeO (impl_DataFault.f k a0) (impl_DataFault.f (k + 1) a0) := by
  intro a0 k; have ih0 := impl_DataFault.mono_l k; unfold impl_DataFault.f
  repeat' first | (with_reducible first | apply ih0 | apply impl_datumFault.mono | exact LeO.refl _ | exact LeO.none _ | refine LeO.ite ?_ ?_ | refine LeO.bind ?_ (fun _ => ?_)) | apply ih0 | apply impl_datumFault.mono | exact LeO.none _ | refine LeO.ite ?_ ?_ | refine LeO.bind ?_ (fun _ => ?_)
theorem impl_DataFault.calls (k : Nat) (A0 : Option Addr) (c0 : Nat) (l0 : List (S69)) (r : Int) (w : World) (hr0 : Kd.C k69 w A0 l0.length l0) (hc0 : l0.length ≤ c0) (h : impl_DataFault.f k l0 = some r) :
    Calls Tryz.prog 47 #[.slice A0 l0.length c0] w fun e w' => e = .returned (.int .i64 r) ∧ Below w.heap.size w w' := by
  have HR0 := ak hr0; have HC0 := ak hc0; clear hr0 hc0; have HB := ak (Below.refl w.heap.size w); have H := h; clear h; unfold impl_DataFault.f at H; replace H := Option.bind_eq_some_iff.mp H; obtain ⟨t307, A20, H⟩ := H; (try dsimp -simprocs only at H); have A2 := ak A20; clear A20; by_cases c3 : t307 = true
  ·subst c3
   rw [if_pos rfl] at H; have H' := ak H; clear H; go_enter Tryz.func47, Tryz.ntmps47; go_wp2_with (first | ((with_reducible refine gate_callee (f := 25) rfl ?_); refine goesL_ (some 7) rfl rfl Tryz.func25 (by kernel_rfl) rfl #[.int .i64 (l0.length : Int), .int .i64 1, .int .i64 80] rfl d14_4 ?_; (with_reducible refine (impl_in.calls (l0.length : Int) 1 80 true _ A2.out).mono ?_); rintro e w' ⟨rfl, ⟨nd, rfl⟩⟩; refine ⟨_, rfl, ?_⟩)); go_loopg [11] k (fun kq v11 w' => ∃ (x11_1 : Int), v11 = .int .i64 x11_1 ∧ Aside0 (impl_DataFault.l0 kq l0 (l0.length : Int) x11_1 = some r) ∧ Aside0 (kq ≤ k) ∧ Aside0 (Below w.heap.size w w'))
   case atStart => exact ⟨(0), d14_2, H', ⟨Nat.le_refl _⟩, ⟨c14_2⟩⟩
   case round =>
    clear H'
    (try clear c2); (try clear p2); (try clear c3)
    obtain ⟨x11_1, rfl, HA, HK1, HB⟩ := hrel
    cases gk with
    | zero => exact absurd HA.out (by simp [impl_DataFault.l0])
    | succ k1 =>
     have H := HA.out; clear HA; simp only [impl_DataFault.l0] at H; by_cases c4 : x11_1 < (l0.length : Int)
     ·rw [if_pos c4] at H
      have c4b0 : decide (x11_1 < (l0.length : Int)) = true := decide_eq_true c4; clear c4; replace H := Option.bind_eq_some_iff.mp H; obtain ⟨t308, A50, H⟩ := H; (try dsimp -simprocs only at H); have A5 := ak A50; clear A50; by_cases c6 : t308 = 0
      ·rw [if_pos c6] at H
       have c6b0 : (t308 == 0) = true := beq_iff_eq.mpr c6; have c6b1 : (t308 != 0) = false := bne_eq_false_iff_eq.mpr c6; clear c6; have H' := ak H; clear H; go_wp2_with (first | ((with_reducible refine gate_callee (f := 65) rfl ?_); refine goesL_ (some 16) rfl rfl Tryz.func65 (by kernel_rfl) rfl #[.slice A0 l0.length c0, .int .i64 x11_1] rfl d14_4 ?_; (with_reducible refine (impl_datumFault.calls k1 _ _ l0 x11_1 t308 _ ?side1 ?side2 A5.out).mono ?_); (case side1 => repeat (first | exact (Kd.C_below HR0.out HB.out) | (with_reducible refine Kd.C_alloc ?_ _) | (with_reducible refine Kd.C_drewN ?_ _) | (with_reducible refine Kd.C_drew ?_))); (case side2 => exact HC0.out); rintro e w7 ⟨rfl, hb⟩; refine ⟨_, rfl, ?_⟩; have n0_ := ak (below_step d14_3 hb); clear HB; have HB := n0_; clear n0_; (try clear hb))); go_roundg k1
       case measure => have := HK1.out; omega
       case rel => exact ⟨(wrap64 (x11_1 + 1)), d14_2, H', ⟨by have := HK1.out; omega⟩, ⟨c14_2⟩⟩
      ·rw [if_neg c6] at H
       have c6b0 : (t308 == 0) = false := beq_eq_false_iff_ne.mpr c6; have c6b1 : (t308 != 0) = true := bne_iff_ne.mpr c6; obtain rfl := Option.some.inj H; go_wp2_with (first | ((with_reducible refine gate_callee (f := 65) rfl ?_); refine goesL_ (some 16) rfl rfl Tryz.func65 (by kernel_rfl) rfl #[.slice A0 l0.length c0, .int .i64 x11_1] rfl d14_4 ?_; (with_reducible refine (impl_datumFault.calls k1 _ _ l0 x11_1 t308 _ ?side1 ?side2 A5.out).mono ?_); (case side1 => repeat (first | exact (Kd.C_below HR0.out HB.out) | (with_reducible refine Kd.C_alloc ?_ _) | (with_reducible refine Kd.C_drewN ?_ _) | (with_reducible refine Kd.C_drew ?_))); (case side2 => exact HC0.out); rintro e w8 ⟨rfl, hb⟩; refine ⟨_, rfl, ?_⟩; have n0_ := ak (below_step d14_3 hb); clear HB; have HB := n0_; clear n0_; (try clear hb))); go_ret; exact ⟨c14_4, c14_2⟩
     ·rw [if_neg c4] at H
      have c4b0 : decide (x11_1 < (l0.length : Int)) = false := decide_eq_false c4; clear c4; obtain rfl := Option.some.inj H; go_wp2; go_ret; exact ⟨c14_4, c14_2⟩
  ·replace c3 := Bool.eq_false_iff.mpr c3
   subst c3
   rw [if_neg (show ¬ (false = true) by decide)] at H; obtain rfl := Option.some.inj H; go_enter Tryz.func47, Tryz.ntmps47; go_wp2_with (first | ((with_reducible refine gate_callee (f := 25) rfl ?_); refine goesL_ (some 7) rfl rfl Tryz.func25 (by kernel_rfl) rfl #[.int .i64 (l0.length : Int), .int .i64 1, .int .i64 80] rfl d14_4 ?_; (with_reducible refine (impl_in.calls (l0.length : Int) 1 80 false _ A2.out).mono ?_); rintro e w' ⟨rfl, ⟨nd, rfl⟩⟩; refine ⟨_, rfl, ?_⟩)); go_ret; exact ⟨c14_4, c14_2⟩

/-! ### impl_lambdaOut: function 48 -/
def impl_lambdaOut.l0 : Nat → List (S40) → Int → Int → Option (Int × Int × Int × Int × ByteArray × (List (S69)) × Bool)
  | 0, _, _, _ => none
  | k + 1, x0, x2, x8 => if x8 ≥ 0 then (if 0 ≤ x8 then (if x8 < (x0.length : Int) then (if ((rd_T40 x0 x8).f0) = 5 then (if x2 = 0 then (some ((rd_T40 x0 x8).f0, (rd_T40 x0 x8).f1, (rd_T40 x0 x8).f2, (rd_T40 x0 x8).f3, (rd_T40 x0 x8).f4, (rd_T40 x0 x8).f5, true)) else (impl_lambdaOut.l0 k x0 (wrap64 (x2 - 1)) ((rd_T40 x0 x8).f1))) else (impl_lambdaOut.l0 k x0 x2 ((rd_T40 x0 x8).f1))) else (none)) else (none)) else (some (0, 0, 0, 0, (⟨#[]⟩ : ByteArray), ([] : List (S69)), false))
def impl_lambdaOut.f (k : Nat) (l0 : List (S40)) (a1 : Int) (a2 : Int) : Option (Int × Int × Int × Int × ByteArray × (List (S69)) × Bool) := if 0 ≤ a1 then (if a1 < (l0.length : Int) then (impl_lambdaOut.l0 k l0 a2 ((rd_T40 l0 a1).f1)) else (none)) else (none)
theorem impl_lambdaOut.mono_l : ∀ k, (∀ y0 y1 y2, LeO (impl_lambdaOut.l0 k y0 y1 y2) (impl_lambdaOut.l0 (k + 1) y0 y1 y2))
  | 0 => fun _ _ _ r h => by simp [impl_lambdaOut.l0] at h
  | k + 1 => by
    have ih0 := impl_lambdaOut.mono_l k
    · intro y0 y1 y2
      unfold impl_lambdaOut.l0
      repeat' first | (with_reducible first | apply ih0 | exact LeO.refl _ | exact LeO.none _ | refine LeO.ite ?_ ?_ | refine LeO.bind ?_ (fun _ => ?_)) | apply ih0 | exact LeO.none _ | refine LeO.ite ?_ ?_ | refine LeO.bind ?_ (fun _ => ?_)
theorem impl_lambdaOut.mono : ∀ a0 a1 a2 k, LeO (impl_lambdaOut.f k a0 a1 a2) (impl_lambdaOut.f (k + 1) a0 a1 a2) := by
  intro a0 a1 a2 k; have ih0 := impl_lambdaOut.mono_l k; unfold impl_lambdaOut.f
  repeat' first | (with_reducible first | apply ih0 | exact LeO.refl _ | exact LeO.none _ | refine LeO.ite ?_ ?_ | refine LeO.bind ?_ (fun _ => ?_)) | apply ih0 | exact LeO.none _ | refine LeO.ite ?_ ?_ | refine LeO.bind ?_ (fun _ => ?_)
theorem impl_lambdaOut.calls (k : Nat) (P0_ : Nat → Prop) (A0 : Option Addr) (c0 : Nat) (l0 : List (S40)) (a1 : Int) (a2 : Int) (r1 : Int) (r2 : Int) (r3 : Int) (r4 : Int) (r5 : ByteArray) (r6 : List (S69)) (r7 : Bool) (w : World) (hs0 : Kd.V k40 40 w w.heap.size (fun k_ => P0_ k_) (.slice A0 l0.length c0) l0) (h : impl_lambdaOut.f k l0 a1 a2 = some (r1, r2, r3, r4, r5, r6, r7)) :
    Calls Tryz.prog 48 #[.slice A0 l0.length c0, .int .i64 a1, .int .i64 a2] w fun e w' => ∃ v5_ : Value, e = .returned (.tuple #[.agg #[.int .i64 r1, .int .i64 r2, .int .i64 r3, .int .i64 r4, .string r5, v5_], .bool r7]) ∧ Kd.V k69 69 w' w.heap.size (fun k_ => (P0_ k_ ∨ w.heap.size ≤ k_)) v5_ r6 ∧ Below w.heap.size w w' := by
  have hu40 := Tryz.underlying40; have HO0 := ak (show Kd.V k40 40 w w.heap.size (fun k_ => (P0_ k_ ∨ w.heap.size ≤ k_)) (.slice A0 l0.length c0) l0 from Kd.V_mono hs0 (fun k_ hk => .inl hk)); have HB := ak (Below.refl w.heap.size w); have H := h; clear h; unfold impl_lambdaOut.f at H; by_cases c4 : 0 ≤ a1
  ·rw [if_pos c4] at H
   have c4b0 : decide (0 ≤ a1) = true := decide_eq_true c4; clear c4; by_cases c5 : a1 < (l0.length : Int)
   ·rw [if_pos c5] at H
    have c5b0 : decide (a1 < (l0.length : Int)) = true := decide_eq_true c5; clear c5; have H' := ak H; clear H; go_enter Tryz.func48, Tryz.ntmps48
    go_wp2_with (first | ((with_reducible refine gate_dst (N := 6) rfl ?_); refine box_event ?hg (N := 6) ?hd (cs := #[.int .i64 0, .int .i64 0, .int .i64 0, .int .i64 0, .string (⟨#[]⟩ : ByteArray), .slice none 0 0]) (t := 40) ?hr ?_; (case hd => rfl); (case hg => rfl); (case hr => first | (go_simp; done) | (go_simp; rfl)); intro gb309 hg w6 hbox hb; have n0_ := ak (Kd.V_below (Kd.V_elderB (by (with_reducible repeat (first | apply Kd.V_alloc | apply Kd.V_drewN | apply Kd.V_drew)); exact HO0.out) gb309 (Nat.le_of_eq hg.symm)) hb); have n1_ := ak (below_step d14_3 hb); have n2_ := ak (hbox); have n3_ := ak ((by rw [hg]; exact (below_size d14_3) : w.heap.size ≤ gb309)); have n4_ := ak ((by rw [hg]; exact (below_size d14_3) : w.heap.size ≤ gb309)); clear HO0 HB; have HO0 := n0_; have HB := n1_; have BK309 := n2_; have GW309 := n3_; have GE309 := n4_; clear n0_ n1_ n2_ n3_ n4_ hb hbox hg; have p310 : 0 ≤ (a1 : Int) := of_decide_eq_true d14_1; have q310 : a1 < (l0.length : Int) := of_decide_eq_true d14_1; obtain ⟨ad310, A310_5, c310_5, e310, hx310_0, hx310_1, hx310_2, hx310_3, hx310_4, hx310_5, hl310_5, hi310_5⟩ := at_T40 (Kd.V_reads' HO0.out).2.2 a1 p310 q310; cases e310; obtain ⟨ce310, hce310, hMe310, hcc310⟩ := Kd.V_get HO0.out z40 a1 p310 (by first | exact q310 | exact of_decide_eq_true d14_1 | (have e_ := (Kd.V_reads' HO0.out).1; omega)); obtain ⟨ua310_5, uc310_5, rfl, ul310_5, ge310_5⟩ := k40_openF hMe310; have hv310_5 := hcc310 5 _ rfl; rw [add_field _ _ 5 (by omega)] at hv310_5; replace hv310_5 := Option.some.inj (hv310_5.symm.trans hx310_5); injection hv310_5 with hva_ hvn_ hvc_; rw [hva_] at ge310_5; rw [hvc_] at ul310_5; have HL310_5 := ak (show Kd.V k69 69 _ w.heap.size _ _ ((rd_T40 l0 a1).f5) from Kd.V_mk ul310_5 ge310_5); clear hva_ hvn_ hvc_ ge310_5 ul310_5 hcc310 hce310; have HR310_5 := ak hi310_5; have HC310_5 := ak hl310_5; clear hi310_5 hl310_5; replace p310 := eq_true p310; replace q310 := eq_true q310))
    go_loopg [2, 8] k (fun kq v2 v8 w' => ∃ (x2_1 : Int) (x8_1 : Int) (x310000_1 : Int) (x310001_1 : Int) (x310002_1 : Int) (x310003_1 : Int) (x310004_1 : ByteArray), v2 = .int .i64 x2_1 ∧ v8 = .int .i64 x8_1 ∧ Aside0 (impl_lambdaOut.l0 kq l0 x2_1 x8_1 = some (r1, r2, r3, r4, r5, r6, r7)) ∧ Aside0 (kq ≤ k) ∧ Aside0 (Kd.V k40 40 w' w.heap.size (fun k_ => (P0_ k_ ∨ w.heap.size ≤ k_) ∧ k_ ≠ gb309) (.slice (some ad310) l0.length c0) l0) ∧ Aside0 (w'.heap[gb309]? = some (.cells #[.int .i64 x310000_1, .int .i64 x310001_1, .int .i64 x310002_1, .int .i64 x310003_1, .string x310004_1, (.slice none 0 0)] 40 (0, 0))) ∧ Aside0 (Kd.C k69 w' A310_5 ((rd_T40 l0 a1).f5).length ((rd_T40 l0 a1).f5)) ∧ Aside0 (Below w.heap.size w w'))
    case atStart => exact ⟨(a2), ((rd_T40 l0 a1).f1), (0), (0), (0), (0), ((⟨#[]⟩ : ByteArray)), d14_2, d14_2, H', ⟨Nat.le_refl _⟩, ⟨by (with_reducible repeat (first | apply Kd.V_alloc | apply Kd.V_drewN | apply Kd.V_drew)); exact HO0.out⟩, ⟨by (with_reducible repeat first | apply b14N | apply b14D | apply b14L); exact BK309.out⟩, ⟨c14_3⟩, ⟨c14_1⟩⟩
    case round =>
     clear H'
     (try clear p2); (try clear c3); (try clear p3); (try clear q3); (try clear hx3); (try clear c4); (try clear c4b0); (try clear c5); (try clear c5b0); (try clear hx310_0); (try clear hx310_1); (try clear hx310_2); (try clear hx310_3); (try clear hx310_4); (try clear hx310_5); (try clear p310); (try clear q310)
     obtain ⟨x2_1, x8_1, x310000_1, x310001_1, x310002_1, x310003_1, x310004_1, rfl, rfl, HA, HK1, HO_0, BK309, HR310_5, HB⟩ := hrel
     cases gk with
     | zero => exact absurd HA.out (by simp [impl_lambdaOut.l0])
     | succ k1 =>
      have H := HA.out; clear HA; simp only [impl_lambdaOut.l0] at H; by_cases c7 : x8_1 ≥ 0
      ·rw [if_pos c7] at H
       have c7b0 : decide (0 ≤ x8_1) = true := decide_eq_true c7; clear c7; by_cases c8 : 0 ≤ x8_1
       ·rw [if_pos c8] at H
        have c8b0 : decide (0 ≤ x8_1) = true := decide_eq_true c8; clear c8; by_cases c9 : x8_1 < (l0.length : Int)
        ·rw [if_pos c9] at H
         have c9b0 : decide (x8_1 < (l0.length : Int)) = true := decide_eq_true c9; clear c9; by_cases c10 : ((rd_T40 l0 x8_1).f0) = 5
         ·rw [if_pos c10] at H
          have c10b0 : (((rd_T40 l0 x8_1).f0) == 5) = true := beq_iff_eq.mpr c10; have c10b1 : (((rd_T40 l0 x8_1).f0) != 5) = false := bne_eq_false_iff_eq.mpr c10; clear c10; by_cases c11 : x2_1 = 0
          ·rw [if_pos c11] at H
           have c11b0 : (x2_1 == 0) = true := beq_iff_eq.mpr c11; have c11b1 : (x2_1 != 0) = false := bne_eq_false_iff_eq.mpr c11; clear c11; simp only [Option.some.injEq, Prod.mk.injEq] at H; obtain ⟨rfl, rfl, rfl, rfl, rfl, rfl, rfl⟩ := H; have p311 : 0 ≤ (x8_1 : Int) := of_decide_eq_true d14_1; have q311 : x8_1 < (l0.length : Int) := of_decide_eq_true d14_1; obtain ⟨ad311, A311_5, c311_5, e311, hx311_0, hx311_1, hx311_2, hx311_3, hx311_4, hx311_5, hl311_5, hi311_5⟩ := at_T40 (Kd.V_reads' HO_0.out).2.2 x8_1 p311 q311; obtain rfl : ad310 = ad311 := (by injection e311); obtain ⟨ce311, hce311, hMe311, hcc311⟩ := Kd.V_get HO_0.out z40 x8_1 p311 (by first | exact q311 | exact of_decide_eq_true d14_1 | (have e_ := (Kd.V_reads' HO_0.out).1; omega)); obtain ⟨ua311_5, uc311_5, rfl, ul311_5, ge311_5⟩ := k40_openF hMe311; have hv311_5 := hcc311 5 _ rfl; rw [add_field _ _ 5 (by omega)] at hv311_5; replace hv311_5 := Option.some.inj (hv311_5.symm.trans hx311_5); injection hv311_5 with hva_ hvn_ hvc_; rw [hva_] at ge311_5; rw [hvc_] at ul311_5; have HL311_5 := ak (show Kd.V k69 69 _ w.heap.size _ _ ((rd_T40 l0 x8_1).f5) from Kd.V_mk ul311_5 ge311_5); clear hva_ hvn_ hvc_ ge311_5 ul311_5; clear hcc311 hce311; have HR311_5 := ak hi311_5; have HC311_5 := ak hl311_5; clear hi311_5 hl311_5; replace p311 := eq_true p311; replace q311 := eq_true q311; have p312 : 0 ≤ (x8_1 : Int) := of_decide_eq_true d14_1; have q312 : x8_1 < (l0.length : Int) := of_decide_eq_true d14_1
           obtain ⟨ad312, A312_5, c312_5, e312, hx312_0, hx312_1, hx312_2, hx312_3, hx312_4, hx312_5, hl312_5, hi312_5⟩ := at_T40 (Kd.V_reads' HO_0.out).2.2 x8_1 p312 q312; obtain rfl : ad310 = ad312 := (by injection e312); obtain ⟨ce312, hce312, hMe312, hcc312⟩ := Kd.V_get HO_0.out z40 x8_1 p312 (by first | exact q312 | exact of_decide_eq_true d14_1 | (have e_ := (Kd.V_reads' HO_0.out).1; omega)); obtain ⟨ua312_5, uc312_5, rfl, ul312_5, ge312_5⟩ := k40_openF hMe312; have hv312_5 := hcc312 5 _ rfl; rw [add_field _ _ 5 (by omega)] at hv312_5; replace hv312_5 := Option.some.inj (hv312_5.symm.trans hx312_5); injection hv312_5 with hva_ hvn_ hvc_; rw [hva_] at ge312_5; rw [hvc_] at ul312_5; have HL312_5 := ak (show Kd.V k69 69 _ w.heap.size _ _ ((rd_T40 l0 x8_1).f5) from Kd.V_mk ul312_5 ge312_5); clear hva_ hvn_ hvc_ ge312_5 ul312_5; clear hcc312 hce312; have HR312_5 := ak hi312_5; have HC312_5 := ak hl312_5; clear hi312_5 hl312_5; replace p312 := eq_true p312; replace q312 := eq_true q312; have ea_ := Option.some.inj (hx311_5.symm.trans hx312_5); injection ea_ with ea_ en_ ec_; subst ea_; subst ec_; clear en_; have hcz12_0 := z14c BK309.out 0 (v := (.int .i64 x310000_1)) rfl; have hcz12_1 := z14c BK309.out 1 (v := (.int .i64 x310001_1)) rfl; have hcz12_2 := z14c BK309.out 2 (v := (.int .i64 x310002_1)) rfl
           have hcz12_3 := z14c BK309.out 3 (v := (.int .i64 x310003_1)) rfl; have hcz12_4 := z14c BK309.out 4 (v := (.string x310004_1)) rfl; have hcz12_5 := z14c BK309.out 5 (v := (.slice none 0 0)) rfl; have hfz12_0 := blk_frozen BK309.out 0; have hfz12_1 := blk_frozen BK309.out 1; have hfz12_2 := blk_frozen BK309.out 2; have hfz12_3 := blk_frozen BK309.out 3; have hfz12_4 := blk_frozen BK309.out 4; have hfz12_5 := blk_frozen BK309.out 5; go_wp2
           refine bodyPost_ret (results_ct rfl _ _ gb309 40 #[.int .i64 ((rd_T40 l0 x8_1).f0), .int .i64 ((rd_T40 l0 x8_1).f1), .int .i64 ((rd_T40 l0 x8_1).f2), .int .i64 ((rd_T40 l0 x8_1).f3), .string ((rd_T40 l0 x8_1).f4), .slice A311_5 ((rd_T40 l0 x8_1).f5).length c311_5] (0, 0) _ rfl (by (with_reducible repeat first | apply b14N | apply b14D | apply b14L); refine blk_put (cs := #[.int .i64 ((rd_T40 l0 x8_1).f0), .int .i64 ((rd_T40 l0 x8_1).f1), .int .i64 ((rd_T40 l0 x8_1).f2), .int .i64 ((rd_T40 l0 x8_1).f3), .string ((rd_T40 l0 x8_1).f4), .slice none 0 0]) ?_ 5 _ rfl; (with_reducible repeat first | apply b14N | apply b14D | apply b14L); refine blk_put (cs := #[.int .i64 ((rd_T40 l0 x8_1).f0), .int .i64 ((rd_T40 l0 x8_1).f1), .int .i64 ((rd_T40 l0 x8_1).f2), .int .i64 ((rd_T40 l0 x8_1).f3), .string x310004_1, .slice none 0 0]) ?_ 4 _ rfl; (with_reducible repeat first | apply b14N | apply b14D | apply b14L); refine blk_put (cs := #[.int .i64 ((rd_T40 l0 x8_1).f0), .int .i64 ((rd_T40 l0 x8_1).f1), .int .i64 ((rd_T40 l0 x8_1).f2), .int .i64 x310003_1, .string x310004_1, .slice none 0 0]) ?_ 3 _ rfl; (with_reducible repeat first | apply b14N | apply b14D | apply b14L); refine blk_put (cs := #[.int .i64 ((rd_T40 l0 x8_1).f0), .int .i64 ((rd_T40 l0 x8_1).f1), .int .i64 x310002_1, .int .i64 x310003_1, .string x310004_1, .slice none 0 0]) ?_ 2 _ rfl; (with_reducible repeat first | apply b14N | apply b14D | apply b14L); refine blk_put (cs := #[.int .i64 ((rd_T40 l0 x8_1).f0), .int .i64 x310001_1, .int .i64 x310002_1, .int .i64 x310003_1, .string x310004_1, .slice none 0 0]) ?_ 1 _ rfl; (with_reducible repeat first | apply b14N | apply b14D | apply b14L); refine blk_put (cs := #[.int .i64 x310000_1, .int .i64 x310001_1, .int .i64 x310002_1, .int .i64 x310003_1, .string x310004_1, .slice none 0 0]) ?_ 0 _ rfl; (with_reducible repeat first | apply b14N | apply b14D | apply b14L); exact BK309.out) Tryz.underlying40 rfl (by kernel_rfl)) rfl ?_
           exact ⟨_, c14_4, by (with_reducible repeat (first | apply Kd.V_alloc | apply Kd.V_drewN | apply Kd.V_drew)); exact Kd.V_mono (Kd.V_far (p := ⟨gb309, 5, none⟩) (Kd.V_far (p := ⟨gb309, 4, none⟩) (Kd.V_far (p := ⟨gb309, 3, none⟩) (Kd.V_far (p := ⟨gb309, 2, none⟩) (Kd.V_far (p := ⟨gb309, 1, none⟩) (Kd.V_far (p := ⟨gb309, 0, none⟩) (Kd.V_mono HL312_5.out (fun k_ hk => (⟨hk, hk.2⟩ : _ ∧ k_ ≠ gb309))) (fun _ hk => hk.2) (.int .i64 ((rd_T40 l0 x8_1).f0))) (fun _ hk => hk.2) (.int .i64 ((rd_T40 l0 x8_1).f1))) (fun _ hk => hk.2) (.int .i64 ((rd_T40 l0 x8_1).f2))) (fun _ hk => hk.2) (.int .i64 ((rd_T40 l0 x8_1).f3))) (fun _ hk => hk.2) (.string ((rd_T40 l0 x8_1).f4))) (fun _ hk => hk.2) (.slice A311_5 ((rd_T40 l0 x8_1).f5).length c311_5)) (fun _ hk => hk.1.1), c14_1⟩
          ·rw [if_neg c11] at H
           have c11b0 : (x2_1 == 0) = false := beq_eq_false_iff_ne.mpr c11; have c11b1 : (x2_1 != 0) = true := bne_iff_ne.mpr c11; have H' := ak H; clear H; have p311 : 0 ≤ (x8_1 : Int) := of_decide_eq_true d14_1; have q311 : x8_1 < (l0.length : Int) := of_decide_eq_true d14_1; obtain ⟨ad311, A311_5, c311_5, e311, hx311_0, hx311_1, hx311_2, hx311_3, hx311_4, hx311_5, hl311_5, hi311_5⟩ := at_T40 (Kd.V_reads' HO_0.out).2.2 x8_1 p311 q311; obtain rfl : ad310 = ad311 := (by injection e311); obtain ⟨ce311, hce311, hMe311, hcc311⟩ := Kd.V_get HO_0.out z40 x8_1 p311 (by first | exact q311 | exact of_decide_eq_true d14_1 | (have e_ := (Kd.V_reads' HO_0.out).1; omega)); obtain ⟨ua311_5, uc311_5, rfl, ul311_5, ge311_5⟩ := k40_openF hMe311; have hv311_5 := hcc311 5 _ rfl; rw [add_field _ _ 5 (by omega)] at hv311_5; replace hv311_5 := Option.some.inj (hv311_5.symm.trans hx311_5); injection hv311_5 with hva_ hvn_ hvc_; rw [hva_] at ge311_5; rw [hvc_] at ul311_5; have HL311_5 := ak (show Kd.V k69 69 _ w.heap.size _ _ ((rd_T40 l0 x8_1).f5) from Kd.V_mk ul311_5 ge311_5); clear hva_ hvn_ hvc_ ge311_5 ul311_5; clear hcc311 hce311; have HR311_5 := ak hi311_5; have HC311_5 := ak hl311_5; clear hi311_5 hl311_5; replace p311 := eq_true p311; replace q311 := eq_true q311; have p313 : 0 ≤ (x8_1 : Int) := of_decide_eq_true d14_1; have q313 : x8_1 < (l0.length : Int) := of_decide_eq_true d14_1
           obtain ⟨ad313, A313_5, c313_5, e313, hx313_0, hx313_1, hx313_2, hx313_3, hx313_4, hx313_5, hl313_5, hi313_5⟩ := at_T40 (Kd.V_reads' HO_0.out).2.2 x8_1 p313 q313; obtain rfl : ad310 = ad313 := (by injection e313); obtain ⟨ce313, hce313, hMe313, hcc313⟩ := Kd.V_get HO_0.out z40 x8_1 p313 (by first | exact q313 | exact of_decide_eq_true d14_1 | (have e_ := (Kd.V_reads' HO_0.out).1; omega)); obtain ⟨ua313_5, uc313_5, rfl, ul313_5, ge313_5⟩ := k40_openF hMe313; have hv313_5 := hcc313 5 _ rfl; rw [add_field _ _ 5 (by omega)] at hv313_5; replace hv313_5 := Option.some.inj (hv313_5.symm.trans hx313_5); injection hv313_5 with hva_ hvn_ hvc_; rw [hva_] at ge313_5; rw [hvc_] at ul313_5; have HL313_5 := ak (show Kd.V k69 69 _ w.heap.size _ _ ((rd_T40 l0 x8_1).f5) from Kd.V_mk ul313_5 ge313_5); clear hva_ hvn_ hvc_ ge313_5 ul313_5; clear hcc313 hce313; have HR313_5 := ak hi313_5; have HC313_5 := ak hl313_5; clear hi313_5 hl313_5; replace p313 := eq_true p313; replace q313 := eq_true q313; have ea_ := Option.some.inj (hx311_5.symm.trans hx313_5); injection ea_ with ea_ en_ ec_; subst ea_; subst ec_; clear en_; go_wp2; go_roundg k1
           case measure => have := HK1.out; omega
           case rel => exact ⟨(wrap64 (x2_1 - 1)), ((rd_T40 l0 x8_1).f1), (x310000_1), (x310001_1), (x310002_1), (x310003_1), (x310004_1), d14_2, d14_2, H', ⟨by have := HK1.out; omega⟩, ⟨by (with_reducible repeat (first | apply Kd.V_alloc | apply Kd.V_drewN | apply Kd.V_drew)); exact HO_0.out⟩, ⟨by (with_reducible repeat first | apply b14N | apply b14D | apply b14L); exact BK309.out⟩, ⟨c14_3⟩, ⟨c14_1⟩⟩
         ·rw [if_neg c10] at H
          have c10b0 : (((rd_T40 l0 x8_1).f0) == 5) = false := beq_eq_false_iff_ne.mpr c10; have c10b1 : (((rd_T40 l0 x8_1).f0) != 5) = true := bne_iff_ne.mpr c10; have H' := ak H; clear H; have p311 : 0 ≤ (x8_1 : Int) := of_decide_eq_true d14_1; have q311 : x8_1 < (l0.length : Int) := of_decide_eq_true d14_1; obtain ⟨ad311, A311_5, c311_5, e311, hx311_0, hx311_1, hx311_2, hx311_3, hx311_4, hx311_5, hl311_5, hi311_5⟩ := at_T40 (Kd.V_reads' HO_0.out).2.2 x8_1 p311 q311; obtain rfl : ad310 = ad311 := (by injection e311); obtain ⟨ce311, hce311, hMe311, hcc311⟩ := Kd.V_get HO_0.out z40 x8_1 p311 (by first | exact q311 | exact of_decide_eq_true d14_1 | (have e_ := (Kd.V_reads' HO_0.out).1; omega)); obtain ⟨ua311_5, uc311_5, rfl, ul311_5, ge311_5⟩ := k40_openF hMe311; have hv311_5 := hcc311 5 _ rfl; rw [add_field _ _ 5 (by omega)] at hv311_5; replace hv311_5 := Option.some.inj (hv311_5.symm.trans hx311_5); injection hv311_5 with hva_ hvn_ hvc_; rw [hva_] at ge311_5; rw [hvc_] at ul311_5; have HL311_5 := ak (show Kd.V k69 69 _ w.heap.size _ _ ((rd_T40 l0 x8_1).f5) from Kd.V_mk ul311_5 ge311_5); clear hva_ hvn_ hvc_ ge311_5 ul311_5; clear hcc311 hce311; have HR311_5 := ak hi311_5; have HC311_5 := ak hl311_5; clear hi311_5 hl311_5; replace p311 := eq_true p311; replace q311 := eq_true q311; have p314 : 0 ≤ (x8_1 : Int) := of_decide_eq_true d14_1; have q314 : x8_1 < (l0.length : Int) := of_decide_eq_true d14_1
          obtain ⟨ad314, A314_5, c314_5, e314, hx314_0, hx314_1, hx314_2, hx314_3, hx314_4, hx314_5, hl314_5, hi314_5⟩ := at_T40 (Kd.V_reads' HO_0.out).2.2 x8_1 p314 q314; obtain rfl : ad310 = ad314 := (by injection e314); obtain ⟨ce314, hce314, hMe314, hcc314⟩ := Kd.V_get HO_0.out z40 x8_1 p314 (by first | exact q314 | exact of_decide_eq_true d14_1 | (have e_ := (Kd.V_reads' HO_0.out).1; omega)); obtain ⟨ua314_5, uc314_5, rfl, ul314_5, ge314_5⟩ := k40_openF hMe314; have hv314_5 := hcc314 5 _ rfl; rw [add_field _ _ 5 (by omega)] at hv314_5; replace hv314_5 := Option.some.inj (hv314_5.symm.trans hx314_5); injection hv314_5 with hva_ hvn_ hvc_; rw [hva_] at ge314_5; rw [hvc_] at ul314_5; have HL314_5 := ak (show Kd.V k69 69 _ w.heap.size _ _ ((rd_T40 l0 x8_1).f5) from Kd.V_mk ul314_5 ge314_5); clear hva_ hvn_ hvc_ ge314_5 ul314_5; clear hcc314 hce314; have HR314_5 := ak hi314_5; have HC314_5 := ak hl314_5; clear hi314_5 hl314_5; replace p314 := eq_true p314; replace q314 := eq_true q314; have ea_ := Option.some.inj (hx311_5.symm.trans hx314_5); injection ea_ with ea_ en_ ec_; subst ea_; subst ec_; clear en_; go_wp2; go_roundg k1
          case measure => have := HK1.out; omega
          case rel => exact ⟨(x2_1), ((rd_T40 l0 x8_1).f1), (x310000_1), (x310001_1), (x310002_1), (x310003_1), (x310004_1), d14_2, d14_2, H', ⟨by have := HK1.out; omega⟩, ⟨by (with_reducible repeat (first | apply Kd.V_alloc | apply Kd.V_drewN | apply Kd.V_drew)); exact HO_0.out⟩, ⟨by (with_reducible repeat first | apply b14N | apply b14D | apply b14L); exact BK309.out⟩, ⟨c14_3⟩, ⟨c14_1⟩⟩
        ·rw [if_neg c9] at H
         exact absurd H (by simp)
       ·rw [if_neg c8] at H
        exact absurd H (by simp)
      ·rw [if_neg c7] at H
       have c7b0 : decide (0 ≤ x8_1) = false := decide_eq_false c7; clear c7; simp only [Option.some.injEq, Prod.mk.injEq] at H; obtain ⟨rfl, rfl, rfl, rfl, rfl, rfl, rfl⟩ := H; have hcz13_0 := z14c BK309.out 0 (v := (.int .i64 x310000_1)) rfl; have hcz13_1 := z14c BK309.out 1 (v := (.int .i64 x310001_1)) rfl; have hcz13_2 := z14c BK309.out 2 (v := (.int .i64 x310002_1)) rfl; have hcz13_3 := z14c BK309.out 3 (v := (.int .i64 x310003_1)) rfl; have hcz13_4 := z14c BK309.out 4 (v := (.string x310004_1)) rfl; have hcz13_5 := z14c BK309.out 5 (v := (.slice none 0 0)) rfl; have hfz13_0 := blk_frozen BK309.out 0; have hfz13_1 := blk_frozen BK309.out 1; have hfz13_2 := blk_frozen BK309.out 2; have hfz13_3 := blk_frozen BK309.out 3; have hfz13_4 := blk_frozen BK309.out 4; have hfz13_5 := blk_frozen BK309.out 5; go_wp2
       refine bodyPost_ret (results_ct rfl _ _ gb309 40 #[.int .i64 0, .int .i64 0, .int .i64 0, .int .i64 0, .string (⟨#[]⟩ : ByteArray), .slice none 0 0] (0, 0) _ rfl (by (with_reducible repeat first | apply b14N | apply b14D | apply b14L); refine blk_put (cs := #[.int .i64 0, .int .i64 0, .int .i64 0, .int .i64 0, .string (⟨#[]⟩ : ByteArray), .slice none 0 0]) ?_ 5 _ rfl; (with_reducible repeat first | apply b14N | apply b14D | apply b14L); refine blk_put (cs := #[.int .i64 0, .int .i64 0, .int .i64 0, .int .i64 0, .string x310004_1, .slice none 0 0]) ?_ 4 _ rfl; (with_reducible repeat first | apply b14N | apply b14D | apply b14L); refine blk_put (cs := #[.int .i64 0, .int .i64 0, .int .i64 0, .int .i64 x310003_1, .string x310004_1, .slice none 0 0]) ?_ 3 _ rfl; (with_reducible repeat first | apply b14N | apply b14D | apply b14L); refine blk_put (cs := #[.int .i64 0, .int .i64 0, .int .i64 x310002_1, .int .i64 x310003_1, .string x310004_1, .slice none 0 0]) ?_ 2 _ rfl; (with_reducible repeat first | apply b14N | apply b14D | apply b14L); refine blk_put (cs := #[.int .i64 0, .int .i64 x310001_1, .int .i64 x310002_1, .int .i64 x310003_1, .string x310004_1, .slice none 0 0]) ?_ 1 _ rfl; (with_reducible repeat first | apply b14N | apply b14D | apply b14L); refine blk_put (cs := #[.int .i64 x310000_1, .int .i64 x310001_1, .int .i64 x310002_1, .int .i64 x310003_1, .string x310004_1, .slice none 0 0]) ?_ 0 _ rfl; (with_reducible repeat first | apply b14N | apply b14D | apply b14L); exact BK309.out) Tryz.underlying40 rfl (by kernel_rfl)) rfl ?_
       exact ⟨_, c14_4, Kd.V_nil _ _ _ _ _, c14_1⟩
   ·rw [if_neg c5] at H
    exact absurd H (by simp)
  ·rw [if_neg c4] at H
   exact absurd H (by simp)

/-! ### impl_oneCoreFault_1: function 44 -/
def impl_oneCoreFault_1.f (a0 : Int) (l1_0 : List (S40)) : Option (Int) := if 0 ≤ a0 then (if a0 < (l1_0.length : Int) then (some ((rd_T40 l1_0 a0).f1)) else (none)) else (none)
theorem impl_oneCoreFault_1.calls (a0 : Int) (P1_ : Addr) (A1_0 : Option Addr) (c1_0 : Nat) (l1_0 : List (S40)) (r : Int) (w : World) (hq1_0 : w.cell? P1_ = some (.slice A1_0 l1_0.length c1_0)) (hr1_0 : Kd.C k40 w A1_0 l1_0.length l1_0) (hc1_0 : l1_0.length ≤ c1_0) (h : impl_oneCoreFault_1.f a0 l1_0 = some r) :
    Calls Tryz.prog 44 #[.int .i64 a0, .pointer (some P1_)] w fun e w' => e = .returned (.int .i64 r) ∧ Drawn0 w w' := by
  have HQ1_0 := ak hq1_0; clear hq1_0; have HR1_0 := ak hr1_0; have HC1_0 := ak hc1_0; clear hr1_0 hc1_0; have H := h; clear h; unfold impl_oneCoreFault_1.f at H; by_cases c3 : 0 ≤ a0
  ·rw [if_pos c3] at H
   have c3b0 : decide (0 ≤ a0) = true := decide_eq_true c3; clear c3; by_cases c4 : a0 < (l1_0.length : Int)
   ·rw [if_pos c4] at H
    have c4b0 : decide (a0 < (l1_0.length : Int)) = true := decide_eq_true c4; clear c4; obtain rfl := Option.some.inj H; have hx321_0 := HQ1_0.out; have p322 : 0 ≤ (a0 : Int) := of_decide_eq_true d14_1; have q322 : a0 < (l1_0.length : Int) := of_decide_eq_true d14_1; obtain ⟨ad322, A322_5, c322_5, e322, hx322_0, hx322_1, hx322_2, hx322_3, hx322_4, hx322_5, hl322_5, hi322_5⟩ := at_T40 HR1_0.out a0 p322 q322
    cases e322
    have HR322_5 := ak hi322_5; have HC322_5 := ak hl322_5; clear hi322_5 hl322_5; replace p322 := eq_true p322; replace q322 := eq_true q322; go_enter Tryz.func44, Tryz.ntmps44; go_wp2; go_ret; exact ⟨by first | rfl | (simp; done) | (simp [*]; done) | (simp [ne_nil_b, eq_nil_b]; done), by repeat (first | exact Drawn0.refl _ | apply Drawn0.step)⟩
   ·rw [if_neg c4] at H
    exact absurd H (by simp)
  ·rw [if_neg c3] at H
   exact absurd H (by simp)

/-! ### impl_isUp__impl_oneCoreFault_1: function 43 -/
def impl_isUp__impl_oneCoreFault_1.l0 : Nat → Int → Int → List (S40) → Option (Bool)
  | 0, _, _, _ => none
  | k + 1, x2, x7, x1000 => if x7 ≥ 0 then (if x7 = x2 then (some true) else ((impl_oneCoreFault_1.f x7 x1000).bind fun t324 => (impl_isUp__impl_oneCoreFault_1.l0 k x2 t324 x1000))) else (some false)
def impl_isUp__impl_oneCoreFault_1.f (k : Nat) (l0_0 : List (S40)) (a1 : Int) (a2 : Int) : Option (Bool) := impl_isUp__impl_oneCoreFault_1.l0 k a2 a1 l0_0
theorem impl_isUp__impl_oneCoreFault_1.mono_l : ∀ k, (∀ y0 y1 y2, LeO (impl_isUp__impl_oneCoreFault_1.l0 k y0 y1 y2) (impl_isUp__impl_oneCoreFault_1.l0 (k + 1) y0 y1 y2))
  | 0 => fun _ _ _ r h => by simp [impl_isUp__impl_oneCoreFault_1.l0] at h
  | k + 1 => by
    have ih0 := impl_isUp__impl_oneCoreFault_1.mono_l k
    · intro y0 y1 y2
      unfold impl_isUp__impl_oneCoreFault_1.l0
      repeat' first | (with_reducible first | apply ih0 | exact LeO.refl _ | exact LeO.none _ | refine LeO.ite ?_ ?_ | refine LeO.bind ?_ (fun _ => ?_)) | apply ih0 | exact LeO.none _ | refine LeO.ite ?_ ?_ | refine LeO.bind ?_ (fun _ => ?_)
theorem impl_isUp__impl_oneCoreFault_1.mono : ∀ a0 a1 a2 k, LeO (impl_isUp__impl_oneCoreFault_1.f k a0 a1 a2) (impl_isUp__impl_oneCoreFault_1.f (k + 1) a0 a1 a2) := by
  intro a0 a1 a2 k; have ih0 := impl_isUp__impl_oneCoreFault_1.mono_l k; unfold impl_isUp__impl_oneCoreFault_1.f
  repeat' first | (with_reducible first | apply ih0 | exact LeO.refl _ | exact LeO.none _ | refine LeO.ite ?_ ?_ | refine LeO.bind ?_ (fun _ => ?_)) | apply ih0 | exact LeO.none _ | refine LeO.ite ?_ ?_ | refine LeO.bind ?_ (fun _ => ?_)
theorem impl_isUp__impl_oneCoreFault_1.calls (k : Nat) (P0_0 : Addr) (A0_0 : Option Addr) (c0_0 : Nat) (l0_0 : List (S40)) (a1 : Int) (a2 : Int) (r : Bool) (w : World) (hq0_0 : w.cell? P0_0 = some (.slice A0_0 l0_0.length c0_0)) (hr0_0 : Kd.C k40 w A0_0 l0_0.length l0_0) (hc0_0 : l0_0.length ≤ c0_0) (h : impl_isUp__impl_oneCoreFault_1.f k l0_0 a1 a2 = some r) :
    Calls Tryz.prog 43 #[.func (.func 44) #[] #[.pointer (some P0_0)], .int .i64 a1, .int .i64 a2] w fun e w' => e = .returned (.bool r) ∧ Drawn0 w w' := by
  have HQ0_0 := ak hq0_0; clear hq0_0; have HR0_0 := ak hr0_0; have HC0_0 := ak hc0_0; clear hr0_0 hc0_0; have H := h; clear h; unfold impl_isUp__impl_oneCoreFault_1.f at H; have H' := ak H; clear H; go_enter Tryz.func43, Tryz.ntmps43; go_wp2; go_loopg [7] k (fun kq v7 w' => ∃ (x7_1 : Int), v7 = .int .i64 x7_1 ∧ Aside0 (impl_isUp__impl_oneCoreFault_1.l0 kq a2 x7_1 l0_0 = some r) ∧ Aside0 (kq ≤ k) ∧ Drawn0 w w')
  case atStart => exact ⟨(a1), d14_2, H', ⟨Nat.le_refl _⟩, by repeat (first | exact Drawn0.refl _ | apply Drawn0.step)⟩
  case round =>
   clear H'
   try clear p2
   obtain ⟨x7_1, rfl, HA, HK1, ⟨m1, rfl⟩⟩ := hrel
   cases gk with
   | zero => exact absurd HA.out (by simp [impl_isUp__impl_oneCoreFault_1.l0])
   | succ k1 =>
    have H := HA.out; clear HA; simp only [impl_isUp__impl_oneCoreFault_1.l0] at H; by_cases c4 : x7_1 ≥ 0
    ·rw [if_pos c4] at H
     have c4b0 : decide (0 ≤ x7_1) = true := decide_eq_true c4; clear c4; by_cases c5 : x7_1 = a2
     ·rw [if_pos c5] at H
      have c5b0 : (x7_1 == a2) = true := beq_iff_eq.mpr c5; have c5b1 : (x7_1 != a2) = false := bne_eq_false_iff_eq.mpr c5; clear c5; obtain rfl := Option.some.inj H; go_wp2; go_ret; exact ⟨by first | rfl | (simp; done) | (simp [*]; done) | (simp [ne_nil_b, eq_nil_b]; done), by repeat (first | exact Drawn0.refl _ | apply Drawn0.step)⟩
     ·rw [if_neg c5] at H
      have c5b0 : (x7_1 == a2) = false := beq_eq_false_iff_ne.mpr c5; have c5b1 : (x7_1 != a2) = true := bne_iff_ne.mpr c5; replace H := Option.bind_eq_some_iff.mp H; obtain ⟨t324, A60, H⟩ := H; (try dsimp -simprocs only at H); have A6 := ak A60; clear A60; have H' := ak H; clear H; have hx323_0 := HQ0_0.out; go_wp2_with (first | (go_at_call 44; (with_reducible refine (impl_oneCoreFault_1.calls x7_1 _ A0_0 c0_0 l0_0 t324 _ ?side1 ?side2 ?side3 A6.out).mono ?_); (case side1 => first | exact hx323_0 | (refine Eq.trans ?_ hx323_0; simp only [go_sem])); (case side2 => repeat (first | exact HR0_0.out | (with_reducible refine Kd.C_alloc ?_ _) | (with_reducible refine Kd.C_drewN ?_ _) | (with_reducible refine Kd.C_drew ?_))); (case side3 => exact HC0_0.out); rintro e w' ⟨rfl, ⟨nd, rfl⟩⟩)); go_roundg k1
      case measure => have := HK1.out; omega
      case rel => exact ⟨(t324), d14_2, H', ⟨by have := HK1.out; omega⟩, by repeat (first | exact Drawn0.refl _ | apply Drawn0.step)⟩
    ·rw [if_neg c4] at H
     have c4b0 : decide (0 ≤ x7_1) = false := decide_eq_false c4; clear c4; obtain rfl := Option.some.inj H; go_wp2; go_ret; exact ⟨by first | rfl | (simp; done) | (simp [*]; done) | (simp [ne_nil_b, eq_nil_b]; done), by repeat (first | exact Drawn0.refl _ | apply Drawn0.step)⟩

end Go.Proofs.YtgnenhehcdekkadGreatDoor.A
