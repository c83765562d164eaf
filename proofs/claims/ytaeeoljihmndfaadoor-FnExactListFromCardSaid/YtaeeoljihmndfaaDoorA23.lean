/- Walks of the program's functions: each Go function's answer as a plain Lean function, and that the call comes to it. Written by a program. Conditions: those in each theorem's own head. -/
import Derived.Test.YtaeeoljihmndfaaDoorA0
import Derived.Test.YtaeeoljihmndfaaDoorA4
import Derived.Test.YtaeeoljihmndfaaDoorA22
namespace Go.Proofs.YtaeeoljihmndfaaDoor.A
open Go.RowKit Go.Proofs.YtaeeoljihmndfaaDoorW.PrintWords Go.Proofs.YtaeeoljihmndfaaDoorW.PrintLast Go.Proofs.YtaeeoljihmndfaaDoorW.PrintMore
attribute [local go_sem] max2_int min2_int max_two min_two max_three min_three max_four min_four   -- for this text's walks alone
set_option linter.unusedVariables false
set_option linter.unusedSimpArgs false

theorem d23_1 {p : Prop} (h : p := by repeat (first | (with_reducible first | exact HB.out | apply below_alloc | apply pw_below_drewN | apply below_drew1) | exact HB.out)) : p := h
theorem d23_2 {p : Prop} (h : p := by (try simp only [List.map_toArray, List.map_cons, List.map_nil]); first | done | rfl | (simp only [List.length_drop, List.length_take]; rfl)) : p := h
theorem d23_3 {p : Prop} (h : p := by repeat (first | (with_reducible first | exact HB.out | apply below_alloc | apply pw_below_drewN | apply below_drew1 | refine below_set ?_ GE546.out) | exact HB.out)) : p := h
theorem d23_4 {p : Prop} (h : p := by first | (with_reducible assumption) | assumption) : p := h
theorem d23_5 {p : Prop} (h : p := by (with_reducible repeat (first | refine blk_drewN ?_ _ | refine blk_drew ?_ | refine blk_alloc ?_ _)); exact BK546.out) : p := h
theorem d23_6 {p : Prop} (h : p := by repeat (first | (with_reducible first | exact HB.out | apply below_alloc | apply pw_below_drewN | apply below_drew1 | refine below_set ?_ GE552.out) | exact HB.out)) : p := h
theorem d23_7 {p : Prop} (h : p := by first | rfl | (simp; done) | (simp [*]; done) | (simp [ne_nil_b, eq_nil_b]; done)) : p := h
theorem d23_8 {p : Prop} (h : p := by rw [hg]; exact (below_size d23_1)) : p := h

/-! ### laws_toPairS: function 33 -/
def laws_toPairS.l0 : Nat → List (S108) → List (S112) → Int → Option ((List (S112)))
  | 0, _, _, _ => none
  | k + 1, x0, x3, x4 => if x4 < (x0.length : Int) then (if 0 ≤ x4 then ((laws_toPair.f ((rd_T108 x0 x4).f0.f0) ((rd_T108 x0 x4).f0.f1) ((rd_T108 x0 x4).f0.f2) ((rd_T108 x0 x4).f1.f0) ((rd_T108 x0 x4).f1.f1) ((rd_T108 x0 x4).f1.f2)).bind fun bt537 => (if x4 < (x3.length : Int) then (laws_toPairS.l0 k x0 (x3.set (x4 : Int).toNat (⟨(⟨bt537.1, bt537.2.1, bt537.2.2.1⟩ : S32), (⟨bt537.2.2.2.1, bt537.2.2.2.2.1, bt537.2.2.2.2.2⟩ : S32)⟩ : S112)) (wrap64 (x4 + 1))) else (none))) else (none)) else (some x3)
def laws_toPairS.f (k : Nat) (l0 : List (S108)) : Option ((List (S112))) := if 0 ≤ (l0.length : Int) then (if ((l0.length : Int) : Int).toNat ≤ 4398046511104 then (laws_toPairS.l0 k l0 (List.replicate ((l0.length : Int) : Int).toNat z112) 0) else (none)) else (none)
theorem laws_toPairS.mono_l : ∀ k, (∀ y0 y1 y2, LeO (laws_toPairS.l0 k y0 y1 y2) (laws_toPairS.l0 (k + 1) y0 y1 y2))
  | 0 => fun _ _ _ r h => by simp [laws_toPairS.l0] at h
  | k + 1 => by
    have ih0 := laws_toPairS.mono_l k
    · intro y0 y1 y2
      unfold laws_toPairS.l0
      repeat' first
      | (with_reducible exact ih0 _ _ _)
      | (with_reducible exact LeO.refl _)
      | (with_reducible exact LeO.none _)
      | (with_reducible refine LeO.ite ?_ ?_)
      | (with_reducible refine LeO.bind ?_ (fun _ => ?_))
      | exact ih0 _ _ _
      | exact LeO.none _
      | refine LeO.ite ?_ ?_
      | refine LeO.bind ?_ (fun _ => ?_)
theorem laws_toPairS.mono : ∀ a0 k, LeO (laws_toPairS.f k a0) (laws_toPairS.f (k + 1) a0) := by
  intro a0 k
  have ih0 := laws_toPairS.mono_l k
  unfold laws_toPairS.f
  repeat' first
      | (with_reducible exact ih0 _ _ _)
      | (with_reducible exact LeO.refl _)
      | (with_reducible exact LeO.none _)
      | (with_reducible refine LeO.ite ?_ ?_)
      | (with_reducible refine LeO.bind ?_ (fun _ => ?_))
      | exact ih0 _ _ _
      | exact LeO.none _
      | refine LeO.ite ?_ ?_
      | refine LeO.bind ?_ (fun _ => ?_)
set_option maxHeartbeats 8000000 in
set_option maxRecDepth 100000 in
theorem laws_toPairS.calls (k : Nat) (A0 : Option Addr) (c0 : Nat) (l0 : List (S108)) (r : List (S112)) (w : World) (hr0 : Kd.C k108 w A0 l0.length l0) (hc0 : l0.length ≤ c0) (h : laws_toPairS.f k l0 = some r) :
    Calls Tryd.prog 33 #[.slice A0 l0.length c0] w fun e w' => ∃ v0_ : Value, e = .returned (v0_) ∧ Kd.R k112 112 w' w.heap.size (fun _ => True) v0_ r ∧ Below w.heap.size w w' := by
  have hu108 := Tryd.underlying108
  have hu112 := Tryd.underlying112
  have HR0 := ak hr0
  have HC0 := ak hc0
  clear hr0 hc0
  have HB := ak (Below.refl w.heap.size w)
  have H : (if 0 ≤ (l0.length : Int) then (if ((l0.length : Int) : Int).toNat ≤ 4398046511104 then (laws_toPairS.l0 k l0 (List.replicate ((l0.length : Int) : Int).toNat z112) 0) else (none)) else (none)) = some r := h
  clear h
  by_cases c2 : 0 ≤ (l0.length : Int)
  ·rw [if_pos c2] at H
   have c2b0 := eq_true c2
   have c2b1 : decide (0 ≤ (l0.length : Int)) = true := decide_eq_true c2
   clear c2
   by_cases c3 : ((l0.length : Int) : Int).toNat ≤ 4398046511104
   ·rw [if_pos c3] at H
    have c3b0 := eq_true c3
    have c3b1 : decide (((l0.length : Int) : Int).toNat ≤ 4398046511104) = true := decide_eq_true c3
    clear c3
    obtain ⟨y533, hy533⟩ : ∃ y_ : List (S112), y_ = (List.replicate ((l0.length : Int) : Int).toNat z112) := ⟨_, rfl⟩
    replace H : (laws_toPairS.l0 k l0 y533 0) = some r := by first | (rw [hy533]; with_reducible exact H) | (have H2_ := (Option.bind_some _ _).symm.trans H; rw [hy533]; with_reducible exact H2_) | (have H2_ := (Option.bind_some _ _).symm.trans H; with_reducible exact H2_) | with_reducible exact H | (rw [hy533]; exact H) | exact H
    have Ny533 := ak hy533
    clear hy533
    have H' := ak H
    clear H
    go_enter Tryd.func33, Tryd.ntmps33
    go_wp2_with (first | ((with_reducible refine gate_dst (N := 7) rfl ?_); refine Kd.R_make k112 _ 112 rfl (N := 7) rfl 63 _ _ rfl (l0.length : Int) rfl rfl Tryd.underlying63 (.agg #[(.int .i64 0), (.int .i64 0), (.string ⟨#[]⟩), (.int .i64 0), (.int .i64 0), (.string ⟨#[]⟩)]) 64 info112 rfl (by decide) (by omega) z112 (ok := fun _ => True) (okp := fun _ => True) (k112_mkM _ _ _ z112 ) (fun _ hk => hk) trivial (of_decide_eq_true d23_4) (Nat.le_trans (Nat.mul_le_mul_right _ (of_decide_eq_true d23_4 : (l0.length : Int).toNat ≤ 4398046511104)) (by omega)) (Below.refl _ _) (Nat.le_refl _) ?_; intro v534 w4 ho5 hb hg_ hnew_; clear hg_ hnew_; (first | rw [← Ny533.out] at ho5 | (simp only [Int.reduceToNat] at ho5; rw [← Ny533.out] at ho5)); have n0_ := ak (Kd.R_lower ho5 (below_size d23_1)); have n1_ := ak (below_step d23_1 hb); clear HB; have HO535 := n0_; have HB := n1_; clear n0_ n1_ hb ho5))
    go_loopg [4] k (fun kq v4 w' => ∃ (x3_1 : List (S112)) (x4_1 : Int), v4 = .int .i64 x4_1 ∧ Aside0 (laws_toPairS.l0 kq l0 x3_1 x4_1 = some r) ∧ Aside0 (kq ≤ k) ∧ Aside0 (Kd.R k112 112 w' w.heap.size (fun _ => True) v534 x3_1) ∧ Aside0 (Below w.heap.size w w'))
    case atStart => exact ⟨(y533), (0), d23_7, H', ⟨Nat.le_refl _⟩, ⟨by (with_reducible repeat (first | apply Kd.R_alloc | apply Kd.R_drewN | apply Kd.R_drew)); exact HO535.out⟩, ⟨by repeat (first | (with_reducible first | exact HB.out | apply below_alloc | apply pw_below_drewN | apply below_drew1) | exact HB.out)⟩⟩
    case round =>
     clear H'
     try clear c2
     try clear c2b0
     try clear c2b1
     try clear p2
     try clear c3
     try clear c3b0
     try clear c3b1
     obtain ⟨x3_1, x4_1, rfl, HA, HK1, HO_3, HB⟩ := hrel
     cases gk with
     | zero => exact absurd HA.out (by simp [laws_toPairS.l0])
     | succ k1 =>
      have H := HA.out
      clear HA
      simp only [laws_toPairS.l0] at H
      by_cases c6 : x4_1 < (l0.length : Int)
      ·rw [if_pos c6] at H
       have c6b0 : decide (x4_1 < (l0.length : Int)) = true := decide_eq_true c6
       clear c6
       by_cases c7 : 0 ≤ x4_1
       ·rw [if_pos c7] at H
        have c7b0 : decide (0 ≤ x4_1) = true := decide_eq_true c7
        clear c7
        replace H := Option.bind_eq_some_iff.mp H
        obtain ⟨⟨t537, t538, t539, t540, t541, t542⟩, A80, H⟩ := H
        replace H : (if x4_1 < (x3_1.length : Int) then (laws_toPairS.l0 k1 l0 (x3_1.set (x4_1 : Int).toNat (⟨(⟨t537, t538, t539⟩ : S32), (⟨t540, t541, t542⟩ : S32)⟩ : S112)) (wrap64 (x4_1 + 1))) else (none)) = some r := H
        have A8 := ak A80
        clear A80
        by_cases c9 : x4_1 < (x3_1.length : Int)
        ·rw [if_pos c9] at H
         have c9b0 : decide (x4_1 < (x3_1.length : Int)) = true := decide_eq_true c9
         clear c9
         obtain ⟨y543, hy543⟩ : ∃ y_ : List (S112), y_ = (x3_1.set (x4_1 : Int).toNat (⟨(⟨t537, t538, t539⟩ : S32), (⟨t540, t541, t542⟩ : S32)⟩ : S112)) := ⟨_, rfl⟩
         replace H : (laws_toPairS.l0 k1 l0 y543 (wrap64 (x4_1 + 1))) = some r := by first | (rw [hy543]; with_reducible exact H) | (have H2_ := (Option.bind_some _ _).symm.trans H; rw [hy543]; with_reducible exact H2_) | (have H2_ := (Option.bind_some _ _).symm.trans H; with_reducible exact H2_) | with_reducible exact H | (rw [hy543]; exact H) | exact H
         have Ny543 := ak hy543
         clear hy543
         have H' := ak H
         clear H
         have p536 : 0 ≤ (x4_1 : Int) := of_decide_eq_true d23_4
         have q536 : x4_1 < (l0.length : Int) := of_decide_eq_true d23_4
         obtain ⟨ad536, e536, hx536_0, hx536_1, hx536_2, hx536_3, hx536_4, hx536_5⟩ := at_T108 HR0.out x4_1 p536 q536
         cases e536
         replace hx536_0 := (HB.out.cell (World.block_lt_of_cell? w _ hx536_0)).trans hx536_0
         replace hx536_1 := (HB.out.cell (World.block_lt_of_cell? w _ hx536_1)).trans hx536_1
         replace hx536_2 := (HB.out.cell (World.block_lt_of_cell? w _ hx536_2)).trans hx536_2
         replace hx536_3 := (HB.out.cell (World.block_lt_of_cell? w _ hx536_3)).trans hx536_3
         replace hx536_4 := (HB.out.cell (World.block_lt_of_cell? w _ hx536_4)).trans hx536_4
         replace hx536_5 := (HB.out.cell (World.block_lt_of_cell? w _ hx536_5)).trans hx536_5
         replace p536 := eq_true p536
         replace q536 := eq_true q536
         go_wp2_with (first | ((with_reducible refine gate_callee (f := 74) rfl ?_); refine goesL_ (some 20) rfl rfl Tryd.func74 (by kernel_rfl) rfl #[.agg #[.int .i64 ((rd_T108 l0 x4_1).f0.f0), .int .i64 ((rd_T108 l0 x4_1).f0.f1), .string ((rd_T108 l0 x4_1).f0.f2), .int .i64 ((rd_T108 l0 x4_1).f1.f0), .int .i64 ((rd_T108 l0 x4_1).f1.f1), .string ((rd_T108 l0 x4_1).f1.f2)]] rfl d23_2 ?_; (with_reducible refine (laws_toPair.calls ((rd_T108 l0 x4_1).f0.f0) ((rd_T108 l0 x4_1).f0.f1) ((rd_T108 l0 x4_1).f0.f2) ((rd_T108 l0 x4_1).f1.f0) ((rd_T108 l0 x4_1).f1.f1) ((rd_T108 l0 x4_1).f1.f2) t537 t538 t539 t540 t541 t542 _ A8.out).mono ?_); rintro e w11 ⟨rfl, hb⟩; refine ⟨_, rfl, ?_⟩; have n0_ := ak (Kd.R_below (by (with_reducible repeat (first | apply Kd.R_alloc | apply Kd.R_drewN | apply Kd.R_drew)); exact HO_3.out) hb); have n1_ := ak (below_step d23_1 hb); clear HO_3 HB; have HO_3 := n0_; have HB := n1_; clear n0_ n1_; (try clear hb); (try clear hk); have p10 : 0 ≤ (x4_1 : Int) := of_decide_eq_true d23_4; have q10 : (x4_1 : Int) < ((x3_1.length : Int) : Int) := of_decide_eq_true d23_4; obtain ⟨go10, co10, eo10, gb10, gl10, cl10, HG10⟩ := Kd.R_form HO_3.out (by omega); (first | cases eo10 | (injection eo10 with ea_ en_ ec_; (first | subst ea_ | (injection ea_ with ea_; subst ea_)); subst ec_; clear en_)); have GB10 := ak gb10; have GG10 := ak HG10; clear gb10 gl10 HG10; obtain ⟨ce10, hcl10, hM10, hcc10, hfr10⟩ := Kd.R_elem HO_3.out z112 (x4_1 : Int) p10 q10; obtain rfl := k112_openM hM10; have hx10_0 : w11.cell? ⟨go10, (x4_1 : Int).toNat * 6, none⟩ = some (.int .i64 ((rd_T112 x3_1 x4_1).f0.f0)) := hcc10 0 _ rfl; have hx10_1 : w11.cell? ⟨go10, (x4_1 : Int).toNat * 6 + 1, none⟩ = some (.int .i64 ((rd_T112 x3_1 x4_1).f0.f1)) := hcc10 1 _ rfl; have hx10_2 : w11.cell? ⟨go10, (x4_1 : Int).toNat * 6 + 2, none⟩ = some (.string ((rd_T112 x3_1 x4_1).f0.f2)) := hcc10 2 _ rfl; have hx10_3 : w11.cell? ⟨go10, (x4_1 : Int).toNat * 6 + 3, none⟩ = some (.int .i64 ((rd_T112 x3_1 x4_1).f1.f0)) := hcc10 3 _ rfl; have hx10_4 : w11.cell? ⟨go10, (x4_1 : Int).toNat * 6 + 4, none⟩ = some (.int .i64 ((rd_T112 x3_1 x4_1).f1.f1)) := hcc10 4 _ rfl; have hx10_5 : w11.cell? ⟨go10, (x4_1 : Int).toNat * 6 + 5, none⟩ = some (.string ((rd_T112 x3_1 x4_1).f1.f2)) := hcc10 5 _ rfl; have hf10_0 : w11.frozen? ⟨go10, (x4_1 : Int).toNat * 6, none⟩ = false := hfr10 0; have hf10_1 : w11.frozen? ⟨go10, (x4_1 : Int).toNat * 6 + 1, none⟩ = false := hfr10 1; have hf10_2 : w11.frozen? ⟨go10, (x4_1 : Int).toNat * 6 + 2, none⟩ = false := hfr10 2; have hf10_3 : w11.frozen? ⟨go10, (x4_1 : Int).toNat * 6 + 3, none⟩ = false := hfr10 3; have hf10_4 : w11.frozen? ⟨go10, (x4_1 : Int).toNat * 6 + 4, none⟩ = false := hfr10 4; have hf10_5 : w11.frozen? ⟨go10, (x4_1 : Int).toNat * 6 + 5, none⟩ = false := hfr10 5; clear hcl10 hcc10 hfr10 hM10; replace p10 := eq_true p10; replace q10 := eq_true q10; have HX12 := ak (show Kd.R k112 112 w11 w.heap.size (fun _ => True) (.slice (some ⟨go10, 0, none⟩) x3_1.length co10) x3_1 from (by (with_reducible repeat (first | apply Kd.R_alloc | apply Kd.R_drewN | apply Kd.R_drew)); exact HO_3.out)); obtain ⟨ce12, hcl12, hM12, hcc12, hfr12⟩ := Kd.R_elem HX12.out z112 (x4_1 : Int) (of_decide_eq_true d23_4) (by have h_ : (x4_1 : Int) < ((x3_1.length : Int) : Int) := of_decide_eq_true d23_4; first | exact h_ | (have e_ := (Kd.R_reads' HO_3.out).1; omega) | simpa using h_); obtain rfl := k112_openM hM12; have HP12 := Kd.R_seg HX12.out (x4_1 : Int) (of_decide_eq_true d23_4) (by have h_ : (x4_1 : Int) < ((x3_1.length : Int) : Int) := of_decide_eq_true d23_4; first | exact h_ | (have e_ := (Kd.R_reads' HO_3.out).1; omega) | simpa using h_) (seg := [.int .i64 t537, .int .i64 t538, .string t539, .int .i64 t540, .int .i64 t541, .string t542]) (j := 0) hcl12 hcc12 (show 6 ≤ 6 from by decide) (x' := (⟨(⟨t537, t538, t539⟩ : S32), (⟨t540, t541, t542⟩ : S32)⟩ : S112)) (k112_mkM _ _ _ (⟨(⟨t537, t538, t539⟩ : S32), (⟨t540, t541, t542⟩ : S32)⟩ : S112) ) (fun _ hk => hk); have hx12_0 := hcc12 0 _ rfl; (try simp only [show (k112).sz = 6 from rfl, Nat.mul_one, Nat.add_zero] at hx12_0); have hf12_0 := hfr12 0; (try simp only [show (k112).sz = 6 from rfl, Nat.mul_one, Nat.add_zero] at hf12_0); have hx12_1 := hcc12 1 _ rfl; (try simp only [show (k112).sz = 6 from rfl, Nat.mul_one, Nat.add_zero] at hx12_1); have hf12_1 := hfr12 1; (try simp only [show (k112).sz = 6 from rfl, Nat.mul_one, Nat.add_zero] at hf12_1); have hx12_2 := hcc12 2 _ rfl; (try simp only [show (k112).sz = 6 from rfl, Nat.mul_one, Nat.add_zero] at hx12_2); have hf12_2 := hfr12 2; (try simp only [show (k112).sz = 6 from rfl, Nat.mul_one, Nat.add_zero] at hf12_2); have hx12_3 := hcc12 3 _ rfl; (try simp only [show (k112).sz = 6 from rfl, Nat.mul_one, Nat.add_zero] at hx12_3); have hf12_3 := hfr12 3; (try simp only [show (k112).sz = 6 from rfl, Nat.mul_one, Nat.add_zero] at hf12_3); have hx12_4 := hcc12 4 _ rfl; (try simp only [show (k112).sz = 6 from rfl, Nat.mul_one, Nat.add_zero] at hx12_4); have hf12_4 := hfr12 4; (try simp only [show (k112).sz = 6 from rfl, Nat.mul_one, Nat.add_zero] at hf12_4); have hx12_5 := hcc12 5 _ rfl; (try simp only [show (k112).sz = 6 from rfl, Nat.mul_one, Nat.add_zero] at hx12_5); have hf12_5 := hfr12 5; (try simp only [show (k112).sz = 6 from rfl, Nat.mul_one, Nat.add_zero] at hf12_5); clear hcl12 hcc12 hfr12 hM12) | ((with_reducible refine gate_store (t := 112) (p := 21) rfl ?_); refine store_event (t := 112) (p := 21) (v := ?vo_w13) (w1 := ((((((w11.setCell ⟨go10, (x4_1 : Int).toNat * 6, none⟩ (.int .i64 t537)).setCell ⟨go10, (x4_1 : Int).toNat * 6 + 1, none⟩ (.int .i64 t538)).setCell ⟨go10, (x4_1 : Int).toNat * 6 + 2, none⟩ (.string t539)).setCell ⟨go10, (x4_1 : Int).toNat * 6 + 3, none⟩ (.int .i64 t540)).setCell ⟨go10, (x4_1 : Int).toNat * 6 + 4, none⟩ (.int .i64 t541)).setCell ⟨go10, (x4_1 : Int).toNat * 6 + 5, none⟩ (.string t542))) ?hg ?ho ?hn ?hr ?_; (case ho => rfl); (case hg => rfl); (case hn => rfl); (case hr => first | (go_simp; done) | (go_simp; rfl)); intro w13 hw; have hg : w11.grownBy w13 (some go10) := (by rw [hw]; exact HP12.2); have hp_ : Kd.R k112 112 w13 w.heap.size (fun _ => True) (.slice (some ⟨go10, 0, none⟩) x3_1.length co10) y543 := (by rw [hw, Ny543.out]; exact HP12.1); clear HP12; have n0_ := ak (hp_); have n1_ := ak ((by rw [hw]; exact below_set (below_set (below_set (below_set (below_set (below_set (HB.out) GB10.out) GB10.out) GB10.out) GB10.out) GB10.out) GB10.out : Below w.heap.size w w13)); clear HO_3 HB; have HO_3 := n0_; have HB := n1_; clear n0_ n1_ hg hw hp_))
         go_roundg k1
         case measure => have := HK1.out; omega
         case rel => exact ⟨(y543), (wrap64 (x4_1 + 1)), d23_7, H', ⟨by have := HK1.out; omega⟩, ⟨by (with_reducible repeat (first | apply Kd.R_alloc | apply Kd.R_drewN | apply Kd.R_drew)); exact HO_3.out⟩, ⟨by repeat (first | (with_reducible first | exact HB.out | apply below_alloc | apply pw_below_drewN | apply below_drew1) | exact HB.out)⟩⟩
        ·rw [if_neg c9] at H
         exact absurd H (by simp)
       ·rw [if_neg c7] at H
        exact absurd H (by simp)
      ·rw [if_neg c6] at H
       have c6b0 : decide (x4_1 < (l0.length : Int)) = false := decide_eq_false c6
       clear c6
       obtain rfl := Option.some.inj H
       go_wp2
       go_ret
       exact ⟨_, by first | rfl | (simp [errW_none, errW_some] <;> rfl) | (simp [*, errW_none, errW_some] <;> rfl), by (with_reducible repeat (first | apply Kd.R_alloc | apply Kd.R_drewN | apply Kd.R_drew)); exact HO_3.out, by repeat (first | (with_reducible first | exact HB.out | apply below_alloc | apply pw_below_drewN | apply below_drew1) | exact HB.out)⟩
   ·rw [if_neg c3] at H
    exact absurd H (by simp)
  ·rw [if_neg c2] at H
   exact absurd H (by simp)

/-! ### impl_isBeyond: function 113 -/
def impl_isBeyond.f (a0_0 : Int) (a0_1 : Int) (a0_2 : ByteArray) (a1 : Int) : Option (Bool) := if a0_0 = 5 then (some (decide (a0_1 ≥ a1))) else (some false)
set_option maxHeartbeats 8000000 in
set_option maxRecDepth 100000 in
theorem impl_isBeyond.calls (a0_0 : Int) (a0_1 : Int) (a0_2 : ByteArray) (a1 : Int) (r : Bool) (w : World) (h : impl_isBeyond.f a0_0 a0_1 a0_2 a1 = some r) :
    Calls Tryd.prog 113 #[.agg #[.int .i64 a0_0, .int .i64 a0_1, .string a0_2], .int .i64 a1] w fun e w' => e = .returned (.bool r) ∧ Below w.heap.size w w' := by
  have hu32 := Tryd.underlying32
  have HB := ak (Below.refl w.heap.size w)
  have H : (if a0_0 = 5 then (some (decide (a0_1 ≥ a1))) else (some false)) = some r := h
  clear h
  by_cases c3 : a0_0 = 5
  ·rw [if_pos c3] at H
   have c3b0 : (a0_0 == 5) = true := beq_iff_eq.mpr c3
   have c3b1 : (a0_0 != 5) = false := bne_eq_false_iff_eq.mpr c3
   clear c3
   obtain rfl := Option.some.inj H
   go_enter Tryd.func113, Tryd.ntmps113
   go_wp2_with (first | ((with_reducible refine gate_dst (N := 2) rfl ?_); refine box_event ?hg (N := 2) ?hd (cs := #[.int .i64 a0_0, .int .i64 a0_1, .string a0_2]) (t := 32) ?hr ?_; (case hd => rfl); (case hg => rfl); (case hr => first | (go_simp; done) | (go_simp; rfl)); intro gb544 hg w4 hbox hb; have n0_ := ak (below_step d23_1 hb); have n1_ := ak (hbox); have n2_ := ak ((d23_8 : w.heap.size ≤ gb544)); have n3_ := ak ((d23_8 : w.heap.size ≤ gb544)); clear HB; have HB := n0_; have BK544 := n1_; have GW544 := n2_; have GE544 := n3_; clear n0_ n1_ n2_ n3_ hb hbox hg; have hcz5_0 : w4.cell? ⟨gb544, 0, none⟩ = some (.int .i64 a0_0) := (blk_cell BK544.out 0).trans rfl; have hcz5_1 : w4.cell? ⟨gb544, 1, none⟩ = some (.int .i64 a0_1) := (blk_cell BK544.out 1).trans rfl; have hcz5_2 : w4.cell? ⟨gb544, 2, none⟩ = some (.string a0_2) := (blk_cell BK544.out 2).trans rfl; have hfz5_0 := blk_frozen BK544.out 0; have hfz5_1 := blk_frozen BK544.out 1; have hfz5_2 := blk_frozen BK544.out 2))
   go_ret
   exact ⟨by first | rfl | (simp [errW_none, errW_some] <;> rfl) | (simp [*, errW_none, errW_some] <;> rfl), by repeat (first | (with_reducible first | exact HB.out | apply below_alloc | apply pw_below_drewN | apply below_drew1 | refine below_set ?_ GE544.out) | exact HB.out)⟩
  ·rw [if_neg c3] at H
   have c3b0 : (a0_0 == 5) = false := beq_eq_false_iff_ne.mpr c3
   have c3b1 : (a0_0 != 5) = true := bne_iff_ne.mpr c3
   obtain rfl := Option.some.inj H
   go_enter Tryd.func113, Tryd.ntmps113
   go_wp2_with (first | ((with_reducible refine gate_dst (N := 2) rfl ?_); refine box_event ?hg (N := 2) ?hd (cs := #[.int .i64 a0_0, .int .i64 a0_1, .string a0_2]) (t := 32) ?hr ?_; (case hd => rfl); (case hg => rfl); (case hr => first | (go_simp; done) | (go_simp; rfl)); intro gb544 hg w6 hbox hb; have n0_ := ak (below_step d23_1 hb); have n1_ := ak (hbox); have n2_ := ak ((d23_8 : w.heap.size ≤ gb544)); have n3_ := ak ((d23_8 : w.heap.size ≤ gb544)); clear HB; have HB := n0_; have BK544 := n1_; have GW544 := n2_; have GE544 := n3_; clear n0_ n1_ n2_ n3_ hb hbox hg; have hcz7_0 : w6.cell? ⟨gb544, 0, none⟩ = some (.int .i64 a0_0) := (blk_cell BK544.out 0).trans rfl; have hcz7_1 : w6.cell? ⟨gb544, 1, none⟩ = some (.int .i64 a0_1) := (blk_cell BK544.out 1).trans rfl; have hcz7_2 : w6.cell? ⟨gb544, 2, none⟩ = some (.string a0_2) := (blk_cell BK544.out 2).trans rfl; have hfz7_0 := blk_frozen BK544.out 0; have hfz7_1 := blk_frozen BK544.out 1; have hfz7_2 := blk_frozen BK544.out 2))
   go_ret
   exact ⟨by first | rfl | (simp [errW_none, errW_some] <;> rfl) | (simp [*, errW_none, errW_some] <;> rfl), by repeat (first | (with_reducible first | exact HB.out | apply below_alloc | apply pw_below_drewN | apply below_drew1 | refine below_set ?_ GE544.out) | exact HB.out)⟩

/-! ### impl_HeapFault: function 102 -/
def impl_HeapFault.l0 : Nat → List (S112) → Int → Int → Option (Int)
  | 0, _, _, _ => none
  | k + 1, x10, x11, x12 => if x12 < x11 then (if 0 ≤ x12 then (if x12 < (x10.length : Int) then ((impl_ValueFault.f k ((rd_T112 x10 x12).f0.f0) ((rd_T112 x10 x12).f0.f1) ((rd_T112 x10 x12).f0.f2)).bind fun t547 => (if t547 = 0 then ((impl_ValueFault.f k ((rd_T112 x10 x12).f1.f0) ((rd_T112 x10 x12).f1.f1) ((rd_T112 x10 x12).f1.f2)).bind fun t548 => (if t548 = 0 then ((impl_isBeyond.f ((rd_T112 x10 x12).f0.f0) ((rd_T112 x10 x12).f0.f1) ((rd_T112 x10 x12).f0.f2) x12).bind fun t549 => (if t549 = true then (some 1) else ((impl_isBeyond.f ((rd_T112 x10 x12).f1.f0) ((rd_T112 x10 x12).f1.f1) ((rd_T112 x10 x12).f1.f2) x12).bind fun t550 => (if t550 = true then (some 1) else (impl_HeapFault.l0 k x10 x11 (wrap64 (x12 + 1))))))) else (some t548))) else (some t547))) else (none)) else (none)) else (some 0)
def impl_HeapFault.f (k : Nat) (l0 : List (S112)) : Option (Int) := if (l0.length : Int) > 4000 then (some 2) else (impl_HeapFault.l0 k l0 (l0.length : Int) 0)
theorem impl_HeapFault.mono_l : ∀ k, (∀ y0 y1 y2, LeO (impl_HeapFault.l0 k y0 y1 y2) (impl_HeapFault.l0 (k + 1) y0 y1 y2))
  | 0 => fun _ _ _ r h => by simp [impl_HeapFault.l0] at h
  | k + 1 => by
    have ih0 := impl_HeapFault.mono_l k
    · intro y0 y1 y2
      unfold impl_HeapFault.l0
      repeat' first
      | (with_reducible exact ih0 _ _ _)
      | (with_reducible exact impl_ValueFault.mono _ _ _ _)
      | (with_reducible exact LeO.refl _)
      | (with_reducible exact LeO.none _)
      | (with_reducible refine LeO.ite ?_ ?_)
      | (with_reducible refine LeO.bind ?_ (fun _ => ?_))
      | exact ih0 _ _ _
      | exact impl_ValueFault.mono _ _ _ _
      | exact LeO.none _
      | refine LeO.ite ?_ ?_
      | refine LeO.bind ?_ (fun _ => ?_)
theorem impl_HeapFault.mono : ∀ a0 k, LeO (impl_HeapFault.f k a0) (impl_HeapFault.f (k + 1) a0) := by
  intro a0 k
  have ih0 := impl_HeapFault.mono_l k
  unfold impl_HeapFault.f
  repeat' first
      | (with_reducible exact ih0 _ _ _)
      | (with_reducible exact impl_ValueFault.mono _ _ _ _)
      | (with_reducible exact LeO.refl _)
      | (with_reducible exact LeO.none _)
      | (with_reducible refine LeO.ite ?_ ?_)
      | (with_reducible refine LeO.bind ?_ (fun _ => ?_))
      | exact ih0 _ _ _
      | exact impl_ValueFault.mono _ _ _ _
      | exact LeO.none _
      | refine LeO.ite ?_ ?_
      | refine LeO.bind ?_ (fun _ => ?_)
set_option maxHeartbeats 8000000 in
set_option maxRecDepth 100000 in
theorem impl_HeapFault.calls (k : Nat) (A0 : Option Addr) (c0 : Nat) (l0 : List (S112)) (r : Int) (w : World) (hr0 : Kd.C k112 w A0 l0.length l0) (hc0 : l0.length ≤ c0) (h : impl_HeapFault.f k l0 = some r) :
    Calls Tryd.prog 102 #[.slice A0 l0.length c0] w fun e w' => e = .returned (.int .i64 r) ∧ Below w.heap.size w w' := by
  have hu112 := Tryd.underlying112
  have hu32 := Tryd.underlying32
  have HR0 := ak hr0
  have HC0 := ak hc0
  clear hr0 hc0
  have HB := ak (Below.refl w.heap.size w)
  have H : (if (l0.length : Int) > 4000 then (some 2) else (impl_HeapFault.l0 k l0 (l0.length : Int) 0)) = some r := h
  clear h
  by_cases c2 : (l0.length : Int) > 4000
  ·rw [if_pos c2] at H
   have c2b0 : decide (4000 < (l0.length : Int)) = true := decide_eq_true c2
   have c2b1 : decide (4000 < l0.length) = true := decide_eq_true (by omega)
   clear c2
   obtain rfl := Option.some.inj H
   go_enter Tryd.func102, Tryd.ntmps102
   go_wp2
   go_ret
   exact ⟨by first | rfl | (simp [errW_none, errW_some] <;> rfl) | (simp [*, errW_none, errW_some] <;> rfl), by repeat (first | (with_reducible first | exact HB.out | apply below_alloc | apply pw_below_drewN | apply below_drew1) | exact HB.out)⟩
  ·rw [if_neg c2] at H
   have c2b0 : decide (4000 < (l0.length : Int)) = false := decide_eq_false c2
   have c2b1 : decide (4000 < l0.length) = false := decide_eq_false (by omega)
   clear c2
   have H' := ak H
   clear H
   go_enter Tryd.func102, Tryd.ntmps102
   go_wp2
   go_loopg [12] k (fun kq v12 w' => ∃ (x12_1 : Int), v12 = .int .i64 x12_1 ∧ Aside0 (impl_HeapFault.l0 kq l0 (l0.length : Int) x12_1 = some r) ∧ Aside0 (kq ≤ k) ∧ Aside0 (Below w.heap.size w w'))
   case atStart => exact ⟨(0), d23_7, H', ⟨Nat.le_refl _⟩, ⟨by repeat (first | (with_reducible first | exact HB.out | apply below_alloc | apply pw_below_drewN | apply below_drew1) | exact HB.out)⟩⟩
   case round =>
    clear H'
    try clear c1
    try clear c2
    try clear c2b0
    try clear c2b1
    try clear p2
    obtain ⟨x12_1, rfl, HA, HK1, HB⟩ := hrel
    cases gk with
    | zero => exact absurd HA.out (by simp [impl_HeapFault.l0])
    | succ k1 =>
     have H := HA.out
     clear HA
     simp only [impl_HeapFault.l0] at H
     by_cases c3 : x12_1 < (l0.length : Int)
     ·rw [if_pos c3] at H
      have c3b0 : decide (x12_1 < (l0.length : Int)) = true := decide_eq_true c3
      clear c3
      by_cases c4 : 0 ≤ x12_1
      ·rw [if_pos c4] at H
       have c4b0 : decide (0 ≤ x12_1) = true := decide_eq_true c4
       clear c4
       by_cases c5 : x12_1 < (l0.length : Int)
       ·rw [if_pos c5] at H
        have c5b0 : decide (x12_1 < (l0.length : Int)) = true := decide_eq_true c5
        clear c5
        replace H := Option.bind_eq_some_iff.mp H
        obtain ⟨t547, A60, H⟩ := H
        replace H : (if t547 = 0 then ((impl_ValueFault.f k1 ((rd_T112 l0 x12_1).f1.f0) ((rd_T112 l0 x12_1).f1.f1) ((rd_T112 l0 x12_1).f1.f2)).bind fun t548 => (if t548 = 0 then ((impl_isBeyond.f ((rd_T112 l0 x12_1).f0.f0) ((rd_T112 l0 x12_1).f0.f1) ((rd_T112 l0 x12_1).f0.f2) x12_1).bind fun t549 => (if t549 = true then (some 1) else ((impl_isBeyond.f ((rd_T112 l0 x12_1).f1.f0) ((rd_T112 l0 x12_1).f1.f1) ((rd_T112 l0 x12_1).f1.f2) x12_1).bind fun t550 => (if t550 = true then (some 1) else (impl_HeapFault.l0 k1 l0 (l0.length : Int) (wrap64 (x12_1 + 1))))))) else (some t548))) else (some t547)) = some r := H
        have A6 := ak A60
        clear A60
        by_cases c7 : t547 = 0
        ·rw [if_pos c7] at H
         have c7b0 : (t547 == 0) = true := beq_iff_eq.mpr c7
         have c7b1 : (t547 != 0) = false := bne_eq_false_iff_eq.mpr c7
         clear c7
         replace H := Option.bind_eq_some_iff.mp H
         obtain ⟨t548, A80, H⟩ := H
         replace H : (if t548 = 0 then ((impl_isBeyond.f ((rd_T112 l0 x12_1).f0.f0) ((rd_T112 l0 x12_1).f0.f1) ((rd_T112 l0 x12_1).f0.f2) x12_1).bind fun t549 => (if t549 = true then (some 1) else ((impl_isBeyond.f ((rd_T112 l0 x12_1).f1.f0) ((rd_T112 l0 x12_1).f1.f1) ((rd_T112 l0 x12_1).f1.f2) x12_1).bind fun t550 => (if t550 = true then (some 1) else (impl_HeapFault.l0 k1 l0 (l0.length : Int) (wrap64 (x12_1 + 1))))))) else (some t548)) = some r := H
         have A8 := ak A80
         clear A80
         by_cases c9 : t548 = 0
         ·rw [if_pos c9] at H
          have c9b0 : (t548 == 0) = true := beq_iff_eq.mpr c9
          have c9b1 : (t548 != 0) = false := bne_eq_false_iff_eq.mpr c9
          clear c9
          replace H := Option.bind_eq_some_iff.mp H
          obtain ⟨t549, A100, H⟩ := H
          replace H : (if t549 = true then (some 1) else ((impl_isBeyond.f ((rd_T112 l0 x12_1).f1.f0) ((rd_T112 l0 x12_1).f1.f1) ((rd_T112 l0 x12_1).f1.f2) x12_1).bind fun t550 => (if t550 = true then (some 1) else (impl_HeapFault.l0 k1 l0 (l0.length : Int) (wrap64 (x12_1 + 1)))))) = some r := H
          have A10 := ak A100
          clear A100
          by_cases c11 : t549 = true
          ·subst c11
           have H1 : (some 1) = some r := by rw [if_pos rfl] at H; exact H
           clear H
           have H := H1
           clear H1
           obtain rfl := Option.some.inj H
           have p545 : 0 ≤ (x12_1 : Int) := of_decide_eq_true d23_4
           have q545 : x12_1 < (l0.length : Int) := of_decide_eq_true d23_4
           obtain ⟨ad545, e545, hx545_0, hx545_1, hx545_2, hx545_3, hx545_4, hx545_5⟩ := at_T112 HR0.out x12_1 p545 q545
           cases e545
           replace hx545_0 := (HB.out.cell (World.block_lt_of_cell? w _ hx545_0)).trans hx545_0
           replace hx545_1 := (HB.out.cell (World.block_lt_of_cell? w _ hx545_1)).trans hx545_1
           replace hx545_2 := (HB.out.cell (World.block_lt_of_cell? w _ hx545_2)).trans hx545_2
           replace hx545_3 := (HB.out.cell (World.block_lt_of_cell? w _ hx545_3)).trans hx545_3
           replace hx545_4 := (HB.out.cell (World.block_lt_of_cell? w _ hx545_4)).trans hx545_4
           replace hx545_5 := (HB.out.cell (World.block_lt_of_cell? w _ hx545_5)).trans hx545_5
           replace p545 := eq_true p545
           replace q545 := eq_true q545
           go_wp2_with (first | ((with_reducible refine gate_dst (N := 4) rfl ?_); refine box_event ?hg (N := 4) ?hd (cs := #[.int .i64 0, .int .i64 0, .string (⟨#[]⟩ : ByteArray), .int .i64 0, .int .i64 0, .string (⟨#[]⟩ : ByteArray)]) (t := 112) ?hr ?_; (case hd => rfl); (case hg => rfl); (case hr => first | (go_simp; done) | (go_simp; rfl)); intro gb546 hg w12 hbox hb; have n0_ := ak (below_step d23_1 hb); have n1_ := ak (hbox); have n2_ := ak ((d23_8 : w.heap.size ≤ gb546)); have n3_ := ak ((d23_8 : w.heap.size ≤ gb546)); clear HB; have HB := n0_; have BK546 := n1_; have GW546 := n2_; have GE546 := n3_; clear n0_ n1_ n2_ n3_ hb hbox hg; have hcz13_0 : w12.cell? ⟨gb546, 0, none⟩ = some (.int .i64 0) := (blk_cell BK546.out 0).trans rfl; have hcz13_1 : w12.cell? ⟨gb546, 1, none⟩ = some (.int .i64 0) := (blk_cell BK546.out 1).trans rfl; have hcz13_2 : w12.cell? ⟨gb546, 2, none⟩ = some (.string (⟨#[]⟩ : ByteArray)) := (blk_cell BK546.out 2).trans rfl; have hcz13_3 : w12.cell? ⟨gb546, 3, none⟩ = some (.int .i64 0) := (blk_cell BK546.out 3).trans rfl; have hcz13_4 : w12.cell? ⟨gb546, 4, none⟩ = some (.int .i64 0) := (blk_cell BK546.out 4).trans rfl; have hcz13_5 : w12.cell? ⟨gb546, 5, none⟩ = some (.string (⟨#[]⟩ : ByteArray)) := (blk_cell BK546.out 5).trans rfl; have hfz13_0 := blk_frozen BK546.out 0; have hfz13_1 := blk_frozen BK546.out 1; have hfz13_2 := blk_frozen BK546.out 2; have hfz13_3 := blk_frozen BK546.out 3; have hfz13_4 := blk_frozen BK546.out 4; have hfz13_5 := blk_frozen BK546.out 5) | ((with_reducible refine gate_callee (f := 55) rfl ?_); refine goesL_ (some 19) rfl rfl Tryd.func55 (by kernel_rfl) rfl #[.agg #[.int .i64 ((rd_T112 l0 x12_1).f0.f0), .int .i64 ((rd_T112 l0 x12_1).f0.f1), .string ((rd_T112 l0 x12_1).f0.f2)]] rfl d23_2 ?_; (with_reducible refine (impl_ValueFault.calls k1 ((rd_T112 l0 x12_1).f0.f0) ((rd_T112 l0 x12_1).f0.f1) ((rd_T112 l0 x12_1).f0.f2) t547 _ A6.out).mono ?_); rintro e w14 ⟨rfl, hb⟩; refine ⟨_, rfl, ?_⟩; have n0_ := ak (blk_below (g := gb546) (o := .cells #[.int .i64 ((rd_T112 l0 x12_1).f0.f0), .int .i64 ((rd_T112 l0 x12_1).f0.f1), .string ((rd_T112 l0 x12_1).f0.f2), .int .i64 ((rd_T112 l0 x12_1).f1.f0), .int .i64 ((rd_T112 l0 x12_1).f1.f1), .string ((rd_T112 l0 x12_1).f1.f2)] 112 (0, 0)) (by (with_reducible repeat (first | refine blk_drewN ?_ _ | refine blk_drew ?_ | refine blk_alloc ?_ _)); refine blk_put (cs := #[.int .i64 ((rd_T112 l0 x12_1).f0.f0), .int .i64 ((rd_T112 l0 x12_1).f0.f1), .string ((rd_T112 l0 x12_1).f0.f2), .int .i64 ((rd_T112 l0 x12_1).f1.f0), .int .i64 ((rd_T112 l0 x12_1).f1.f1), .string (⟨#[]⟩ : ByteArray)]) ?_ 5 _ rfl; (with_reducible repeat (first | refine blk_drewN ?_ _ | refine blk_drew ?_ | refine blk_alloc ?_ _)); refine blk_put (cs := #[.int .i64 ((rd_T112 l0 x12_1).f0.f0), .int .i64 ((rd_T112 l0 x12_1).f0.f1), .string ((rd_T112 l0 x12_1).f0.f2), .int .i64 ((rd_T112 l0 x12_1).f1.f0), .int .i64 0, .string (⟨#[]⟩ : ByteArray)]) ?_ 4 _ rfl; (with_reducible repeat (first | refine blk_drewN ?_ _ | refine blk_drew ?_ | refine blk_alloc ?_ _)); refine blk_put (cs := #[.int .i64 ((rd_T112 l0 x12_1).f0.f0), .int .i64 ((rd_T112 l0 x12_1).f0.f1), .string ((rd_T112 l0 x12_1).f0.f2), .int .i64 0, .int .i64 0, .string (⟨#[]⟩ : ByteArray)]) ?_ 3 _ rfl; (with_reducible repeat (first | refine blk_drewN ?_ _ | refine blk_drew ?_ | refine blk_alloc ?_ _)); refine blk_put (cs := #[.int .i64 ((rd_T112 l0 x12_1).f0.f0), .int .i64 ((rd_T112 l0 x12_1).f0.f1), .string (⟨#[]⟩ : ByteArray), .int .i64 0, .int .i64 0, .string (⟨#[]⟩ : ByteArray)]) ?_ 2 _ rfl; (with_reducible repeat (first | refine blk_drewN ?_ _ | refine blk_drew ?_ | refine blk_alloc ?_ _)); refine blk_put (cs := #[.int .i64 ((rd_T112 l0 x12_1).f0.f0), .int .i64 0, .string (⟨#[]⟩ : ByteArray), .int .i64 0, .int .i64 0, .string (⟨#[]⟩ : ByteArray)]) ?_ 1 _ rfl; (with_reducible repeat (first | refine blk_drewN ?_ _ | refine blk_drew ?_ | refine blk_alloc ?_ _)); refine blk_put (cs := #[.int .i64 0, .int .i64 0, .string (⟨#[]⟩ : ByteArray), .int .i64 0, .int .i64 0, .string (⟨#[]⟩ : ByteArray)]) ?_ 0 _ rfl; (with_reducible repeat (first | refine blk_drewN ?_ _ | refine blk_drew ?_ | refine blk_alloc ?_ _)); exact BK546.out) hb); have n1_ := ak (below_step d23_3 hb); clear BK546 HB; have BK546 := n0_; have HB := n1_; clear n0_ n1_; (try clear hb); have hcz15_0 : w14.cell? ⟨gb546, 0, none⟩ = some (.int .i64 ((rd_T112 l0 x12_1).f0.f0)) := (blk_cell BK546.out 0).trans rfl; have hcz15_1 : w14.cell? ⟨gb546, 1, none⟩ = some (.int .i64 ((rd_T112 l0 x12_1).f0.f1)) := (blk_cell BK546.out 1).trans rfl; have hcz15_2 : w14.cell? ⟨gb546, 2, none⟩ = some (.string ((rd_T112 l0 x12_1).f0.f2)) := (blk_cell BK546.out 2).trans rfl; have hcz15_3 : w14.cell? ⟨gb546, 3, none⟩ = some (.int .i64 ((rd_T112 l0 x12_1).f1.f0)) := (blk_cell BK546.out 3).trans rfl; have hcz15_4 : w14.cell? ⟨gb546, 4, none⟩ = some (.int .i64 ((rd_T112 l0 x12_1).f1.f1)) := (blk_cell BK546.out 4).trans rfl; have hcz15_5 : w14.cell? ⟨gb546, 5, none⟩ = some (.string ((rd_T112 l0 x12_1).f1.f2)) := (blk_cell BK546.out 5).trans rfl; have hfz15_0 := blk_frozen BK546.out 0; have hfz15_1 := blk_frozen BK546.out 1; have hfz15_2 := blk_frozen BK546.out 2; have hfz15_3 := blk_frozen BK546.out 3; have hfz15_4 := blk_frozen BK546.out 4; have hfz15_5 := blk_frozen BK546.out 5) | ((with_reducible refine gate_callee (f := 55) rfl ?_); refine goesL_ (some 25) rfl rfl Tryd.func55 (by kernel_rfl) rfl #[.agg #[.int .i64 ((rd_T112 l0 x12_1).f1.f0), .int .i64 ((rd_T112 l0 x12_1).f1.f1), .string ((rd_T112 l0 x12_1).f1.f2)]] rfl d23_2 ?_; (with_reducible refine (impl_ValueFault.calls k1 ((rd_T112 l0 x12_1).f1.f0) ((rd_T112 l0 x12_1).f1.f1) ((rd_T112 l0 x12_1).f1.f2) t548 _ A8.out).mono ?_); rintro e w16 ⟨rfl, hb⟩; refine ⟨_, rfl, ?_⟩; have n0_ := ak (blk_below (g := gb546) (o := .cells #[.int .i64 ((rd_T112 l0 x12_1).f0.f0), .int .i64 ((rd_T112 l0 x12_1).f0.f1), .string ((rd_T112 l0 x12_1).f0.f2), .int .i64 ((rd_T112 l0 x12_1).f1.f0), .int .i64 ((rd_T112 l0 x12_1).f1.f1), .string ((rd_T112 l0 x12_1).f1.f2)] 112 (0, 0)) d23_5 hb); have n1_ := ak (below_step d23_3 hb); clear BK546 HB; have BK546 := n0_; have HB := n1_; clear n0_ n1_; (try clear hb); have hcz17_0 : w16.cell? ⟨gb546, 0, none⟩ = some (.int .i64 ((rd_T112 l0 x12_1).f0.f0)) := (blk_cell BK546.out 0).trans rfl; have hcz17_1 : w16.cell? ⟨gb546, 1, none⟩ = some (.int .i64 ((rd_T112 l0 x12_1).f0.f1)) := (blk_cell BK546.out 1).trans rfl; have hcz17_2 : w16.cell? ⟨gb546, 2, none⟩ = some (.string ((rd_T112 l0 x12_1).f0.f2)) := (blk_cell BK546.out 2).trans rfl; have hcz17_3 : w16.cell? ⟨gb546, 3, none⟩ = some (.int .i64 ((rd_T112 l0 x12_1).f1.f0)) := (blk_cell BK546.out 3).trans rfl; have hcz17_4 : w16.cell? ⟨gb546, 4, none⟩ = some (.int .i64 ((rd_T112 l0 x12_1).f1.f1)) := (blk_cell BK546.out 4).trans rfl; have hcz17_5 : w16.cell? ⟨gb546, 5, none⟩ = some (.string ((rd_T112 l0 x12_1).f1.f2)) := (blk_cell BK546.out 5).trans rfl; have hfz17_0 := blk_frozen BK546.out 0; have hfz17_1 := blk_frozen BK546.out 1; have hfz17_2 := blk_frozen BK546.out 2; have hfz17_3 := blk_frozen BK546.out 3; have hfz17_4 := blk_frozen BK546.out 4; have hfz17_5 := blk_frozen BK546.out 5) | ((with_reducible refine gate_callee (f := 113) rfl ?_); refine goesL_ (some 32) rfl rfl Tryd.func113 (by kernel_rfl) rfl #[.agg #[.int .i64 ((rd_T112 l0 x12_1).f0.f0), .int .i64 ((rd_T112 l0 x12_1).f0.f1), .string ((rd_T112 l0 x12_1).f0.f2)], .int .i64 x12_1] rfl d23_2 ?_; (with_reducible refine (impl_isBeyond.calls ((rd_T112 l0 x12_1).f0.f0) ((rd_T112 l0 x12_1).f0.f1) ((rd_T112 l0 x12_1).f0.f2) x12_1 true _ A10.out).mono ?_); rintro e w18 ⟨rfl, hb⟩; refine ⟨_, rfl, ?_⟩; have n0_ := ak (blk_below (g := gb546) (o := .cells #[.int .i64 ((rd_T112 l0 x12_1).f0.f0), .int .i64 ((rd_T112 l0 x12_1).f0.f1), .string ((rd_T112 l0 x12_1).f0.f2), .int .i64 ((rd_T112 l0 x12_1).f1.f0), .int .i64 ((rd_T112 l0 x12_1).f1.f1), .string ((rd_T112 l0 x12_1).f1.f2)] 112 (0, 0)) d23_5 hb); have n1_ := ak (below_step d23_3 hb); clear BK546 HB; have BK546 := n0_; have HB := n1_; clear n0_ n1_; (try clear hb)))
           go_ret
           exact ⟨by first | rfl | (simp [errW_none, errW_some] <;> rfl) | (simp [*, errW_none, errW_some] <;> rfl), by repeat (first | (with_reducible first | exact HB.out | apply below_alloc | apply pw_below_drewN | apply below_drew1 | refine below_set ?_ GE546.out) | exact HB.out)⟩
          ·replace c11 := Bool.eq_false_iff.mpr c11
           subst c11
           have H1 : ((impl_isBeyond.f ((rd_T112 l0 x12_1).f1.f0) ((rd_T112 l0 x12_1).f1.f1) ((rd_T112 l0 x12_1).f1.f2) x12_1).bind fun t550 => (if t550 = true then (some 1) else (impl_HeapFault.l0 k1 l0 (l0.length : Int) (wrap64 (x12_1 + 1))))) = some r := by rw [if_neg (show ¬ (false = true) by decide)] at H; exact H
           clear H
           have H := H1
           clear H1
           replace H := Option.bind_eq_some_iff.mp H
           obtain ⟨t550, A190, H⟩ := H
           replace H : (if t550 = true then (some 1) else (impl_HeapFault.l0 k1 l0 (l0.length : Int) (wrap64 (x12_1 + 1)))) = some r := H
           have A19 := ak A190
           clear A190
           by_cases c20 : t550 = true
           ·subst c20
            have H1 : (some 1) = some r := by rw [if_pos rfl] at H; exact H
            clear H
            have H := H1
            clear H1
            obtain rfl := Option.some.inj H
            have p545 : 0 ≤ (x12_1 : Int) := of_decide_eq_true d23_4
            have q545 : x12_1 < (l0.length : Int) := of_decide_eq_true d23_4
            obtain ⟨ad545, e545, hx545_0, hx545_1, hx545_2, hx545_3, hx545_4, hx545_5⟩ := at_T112 HR0.out x12_1 p545 q545
            cases e545
            replace hx545_0 := (HB.out.cell (World.block_lt_of_cell? w _ hx545_0)).trans hx545_0
            replace hx545_1 := (HB.out.cell (World.block_lt_of_cell? w _ hx545_1)).trans hx545_1
            replace hx545_2 := (HB.out.cell (World.block_lt_of_cell? w _ hx545_2)).trans hx545_2
            replace hx545_3 := (HB.out.cell (World.block_lt_of_cell? w _ hx545_3)).trans hx545_3
            replace hx545_4 := (HB.out.cell (World.block_lt_of_cell? w _ hx545_4)).trans hx545_4
            replace hx545_5 := (HB.out.cell (World.block_lt_of_cell? w _ hx545_5)).trans hx545_5
            replace p545 := eq_true p545
            replace q545 := eq_true q545
            go_wp2_with (first | ((with_reducible refine gate_dst (N := 4) rfl ?_); refine box_event ?hg (N := 4) ?hd (cs := #[.int .i64 0, .int .i64 0, .string (⟨#[]⟩ : ByteArray), .int .i64 0, .int .i64 0, .string (⟨#[]⟩ : ByteArray)]) (t := 112) ?hr ?_; (case hd => rfl); (case hg => rfl); (case hr => first | (go_simp; done) | (go_simp; rfl)); intro gb546 hg w21 hbox hb; have n0_ := ak (below_step d23_1 hb); have n1_ := ak (hbox); have n2_ := ak ((d23_8 : w.heap.size ≤ gb546)); have n3_ := ak ((d23_8 : w.heap.size ≤ gb546)); clear HB; have HB := n0_; have BK546 := n1_; have GW546 := n2_; have GE546 := n3_; clear n0_ n1_ n2_ n3_ hb hbox hg; have hcz22_0 : w21.cell? ⟨gb546, 0, none⟩ = some (.int .i64 0) := (blk_cell BK546.out 0).trans rfl; have hcz22_1 : w21.cell? ⟨gb546, 1, none⟩ = some (.int .i64 0) := (blk_cell BK546.out 1).trans rfl; have hcz22_2 : w21.cell? ⟨gb546, 2, none⟩ = some (.string (⟨#[]⟩ : ByteArray)) := (blk_cell BK546.out 2).trans rfl; have hcz22_3 : w21.cell? ⟨gb546, 3, none⟩ = some (.int .i64 0) := (blk_cell BK546.out 3).trans rfl; have hcz22_4 : w21.cell? ⟨gb546, 4, none⟩ = some (.int .i64 0) := (blk_cell BK546.out 4).trans rfl; have hcz22_5 : w21.cell? ⟨gb546, 5, none⟩ = some (.string (⟨#[]⟩ : ByteArray)) := (blk_cell BK546.out 5).trans rfl; have hfz22_0 := blk_frozen BK546.out 0; have hfz22_1 := blk_frozen BK546.out 1; have hfz22_2 := blk_frozen BK546.out 2; have hfz22_3 := blk_frozen BK546.out 3; have hfz22_4 := blk_frozen BK546.out 4; have hfz22_5 := blk_frozen BK546.out 5) | ((with_reducible refine gate_callee (f := 55) rfl ?_); refine goesL_ (some 19) rfl rfl Tryd.func55 (by kernel_rfl) rfl #[.agg #[.int .i64 ((rd_T112 l0 x12_1).f0.f0), .int .i64 ((rd_T112 l0 x12_1).f0.f1), .string ((rd_T112 l0 x12_1).f0.f2)]] rfl d23_2 ?_; (with_reducible refine (impl_ValueFault.calls k1 ((rd_T112 l0 x12_1).f0.f0) ((rd_T112 l0 x12_1).f0.f1) ((rd_T112 l0 x12_1).f0.f2) t547 _ A6.out).mono ?_); rintro e w23 ⟨rfl, hb⟩; refine ⟨_, rfl, ?_⟩; have n0_ := ak (blk_below (g := gb546) (o := .cells #[.int .i64 ((rd_T112 l0 x12_1).f0.f0), .int .i64 ((rd_T112 l0 x12_1).f0.f1), .string ((rd_T112 l0 x12_1).f0.f2), .int .i64 ((rd_T112 l0 x12_1).f1.f0), .int .i64 ((rd_T112 l0 x12_1).f1.f1), .string ((rd_T112 l0 x12_1).f1.f2)] 112 (0, 0)) (by (with_reducible repeat (first | refine blk_drewN ?_ _ | refine blk_drew ?_ | refine blk_alloc ?_ _)); refine blk_put (cs := #[.int .i64 ((rd_T112 l0 x12_1).f0.f0), .int .i64 ((rd_T112 l0 x12_1).f0.f1), .string ((rd_T112 l0 x12_1).f0.f2), .int .i64 ((rd_T112 l0 x12_1).f1.f0), .int .i64 ((rd_T112 l0 x12_1).f1.f1), .string (⟨#[]⟩ : ByteArray)]) ?_ 5 _ rfl; (with_reducible repeat (first | refine blk_drewN ?_ _ | refine blk_drew ?_ | refine blk_alloc ?_ _)); refine blk_put (cs := #[.int .i64 ((rd_T112 l0 x12_1).f0.f0), .int .i64 ((rd_T112 l0 x12_1).f0.f1), .string ((rd_T112 l0 x12_1).f0.f2), .int .i64 ((rd_T112 l0 x12_1).f1.f0), .int .i64 0, .string (⟨#[]⟩ : ByteArray)]) ?_ 4 _ rfl; (with_reducible repeat (first | refine blk_drewN ?_ _ | refine blk_drew ?_ | refine blk_alloc ?_ _)); refine blk_put (cs := #[.int .i64 ((rd_T112 l0 x12_1).f0.f0), .int .i64 ((rd_T112 l0 x12_1).f0.f1), .string ((rd_T112 l0 x12_1).f0.f2), .int .i64 0, .int .i64 0, .string (⟨#[]⟩ : ByteArray)]) ?_ 3 _ rfl; (with_reducible repeat (first | refine blk_drewN ?_ _ | refine blk_drew ?_ | refine blk_alloc ?_ _)); refine blk_put (cs := #[.int .i64 ((rd_T112 l0 x12_1).f0.f0), .int .i64 ((rd_T112 l0 x12_1).f0.f1), .string (⟨#[]⟩ : ByteArray), .int .i64 0, .int .i64 0, .string (⟨#[]⟩ : ByteArray)]) ?_ 2 _ rfl; (with_reducible repeat (first | refine blk_drewN ?_ _ | refine blk_drew ?_ | refine blk_alloc ?_ _)); refine blk_put (cs := #[.int .i64 ((rd_T112 l0 x12_1).f0.f0), .int .i64 0, .string (⟨#[]⟩ : ByteArray), .int .i64 0, .int .i64 0, .string (⟨#[]⟩ : ByteArray)]) ?_ 1 _ rfl; (with_reducible repeat (first | refine blk_drewN ?_ _ | refine blk_drew ?_ | refine blk_alloc ?_ _)); refine blk_put (cs := #[.int .i64 0, .int .i64 0, .string (⟨#[]⟩ : ByteArray), .int .i64 0, .int .i64 0, .string (⟨#[]⟩ : ByteArray)]) ?_ 0 _ rfl; (with_reducible repeat (first | refine blk_drewN ?_ _ | refine blk_drew ?_ | refine blk_alloc ?_ _)); exact BK546.out) hb); have n1_ := ak (below_step d23_3 hb); clear BK546 HB; have BK546 := n0_; have HB := n1_; clear n0_ n1_; (try clear hb); have hcz24_0 : w23.cell? ⟨gb546, 0, none⟩ = some (.int .i64 ((rd_T112 l0 x12_1).f0.f0)) := (blk_cell BK546.out 0).trans rfl; have hcz24_1 : w23.cell? ⟨gb546, 1, none⟩ = some (.int .i64 ((rd_T112 l0 x12_1).f0.f1)) := (blk_cell BK546.out 1).trans rfl; have hcz24_2 : w23.cell? ⟨gb546, 2, none⟩ = some (.string ((rd_T112 l0 x12_1).f0.f2)) := (blk_cell BK546.out 2).trans rfl; have hcz24_3 : w23.cell? ⟨gb546, 3, none⟩ = some (.int .i64 ((rd_T112 l0 x12_1).f1.f0)) := (blk_cell BK546.out 3).trans rfl; have hcz24_4 : w23.cell? ⟨gb546, 4, none⟩ = some (.int .i64 ((rd_T112 l0 x12_1).f1.f1)) := (blk_cell BK546.out 4).trans rfl; have hcz24_5 : w23.cell? ⟨gb546, 5, none⟩ = some (.string ((rd_T112 l0 x12_1).f1.f2)) := (blk_cell BK546.out 5).trans rfl; have hfz24_0 := blk_frozen BK546.out 0; have hfz24_1 := blk_frozen BK546.out 1; have hfz24_2 := blk_frozen BK546.out 2; have hfz24_3 := blk_frozen BK546.out 3; have hfz24_4 := blk_frozen BK546.out 4; have hfz24_5 := blk_frozen BK546.out 5) | ((with_reducible refine gate_callee (f := 55) rfl ?_); refine goesL_ (some 25) rfl rfl Tryd.func55 (by kernel_rfl) rfl #[.agg #[.int .i64 ((rd_T112 l0 x12_1).f1.f0), .int .i64 ((rd_T112 l0 x12_1).f1.f1), .string ((rd_T112 l0 x12_1).f1.f2)]] rfl d23_2 ?_; (with_reducible refine (impl_ValueFault.calls k1 ((rd_T112 l0 x12_1).f1.f0) ((rd_T112 l0 x12_1).f1.f1) ((rd_T112 l0 x12_1).f1.f2) t548 _ A8.out).mono ?_); rintro e w25 ⟨rfl, hb⟩; refine ⟨_, rfl, ?_⟩; have n0_ := ak (blk_below (g := gb546) (o := .cells #[.int .i64 ((rd_T112 l0 x12_1).f0.f0), .int .i64 ((rd_T112 l0 x12_1).f0.f1), .string ((rd_T112 l0 x12_1).f0.f2), .int .i64 ((rd_T112 l0 x12_1).f1.f0), .int .i64 ((rd_T112 l0 x12_1).f1.f1), .string ((rd_T112 l0 x12_1).f1.f2)] 112 (0, 0)) d23_5 hb); have n1_ := ak (below_step d23_3 hb); clear BK546 HB; have BK546 := n0_; have HB := n1_; clear n0_ n1_; (try clear hb); have hcz26_0 : w25.cell? ⟨gb546, 0, none⟩ = some (.int .i64 ((rd_T112 l0 x12_1).f0.f0)) := (blk_cell BK546.out 0).trans rfl; have hcz26_1 : w25.cell? ⟨gb546, 1, none⟩ = some (.int .i64 ((rd_T112 l0 x12_1).f0.f1)) := (blk_cell BK546.out 1).trans rfl; have hcz26_2 : w25.cell? ⟨gb546, 2, none⟩ = some (.string ((rd_T112 l0 x12_1).f0.f2)) := (blk_cell BK546.out 2).trans rfl; have hcz26_3 : w25.cell? ⟨gb546, 3, none⟩ = some (.int .i64 ((rd_T112 l0 x12_1).f1.f0)) := (blk_cell BK546.out 3).trans rfl; have hcz26_4 : w25.cell? ⟨gb546, 4, none⟩ = some (.int .i64 ((rd_T112 l0 x12_1).f1.f1)) := (blk_cell BK546.out 4).trans rfl; have hcz26_5 : w25.cell? ⟨gb546, 5, none⟩ = some (.string ((rd_T112 l0 x12_1).f1.f2)) := (blk_cell BK546.out 5).trans rfl; have hfz26_0 := blk_frozen BK546.out 0; have hfz26_1 := blk_frozen BK546.out 1; have hfz26_2 := blk_frozen BK546.out 2; have hfz26_3 := blk_frozen BK546.out 3; have hfz26_4 := blk_frozen BK546.out 4; have hfz26_5 := blk_frozen BK546.out 5) | ((with_reducible refine gate_callee (f := 113) rfl ?_); refine goesL_ (some 32) rfl rfl Tryd.func113 (by kernel_rfl) rfl #[.agg #[.int .i64 ((rd_T112 l0 x12_1).f0.f0), .int .i64 ((rd_T112 l0 x12_1).f0.f1), .string ((rd_T112 l0 x12_1).f0.f2)], .int .i64 x12_1] rfl d23_2 ?_; (with_reducible refine (impl_isBeyond.calls ((rd_T112 l0 x12_1).f0.f0) ((rd_T112 l0 x12_1).f0.f1) ((rd_T112 l0 x12_1).f0.f2) x12_1 false _ A10.out).mono ?_); rintro e w27 ⟨rfl, hb⟩; refine ⟨_, rfl, ?_⟩; have n0_ := ak (blk_below (g := gb546) (o := .cells #[.int .i64 ((rd_T112 l0 x12_1).f0.f0), .int .i64 ((rd_T112 l0 x12_1).f0.f1), .string ((rd_T112 l0 x12_1).f0.f2), .int .i64 ((rd_T112 l0 x12_1).f1.f0), .int .i64 ((rd_T112 l0 x12_1).f1.f1), .string ((rd_T112 l0 x12_1).f1.f2)] 112 (0, 0)) d23_5 hb); have n1_ := ak (below_step d23_3 hb); clear BK546 HB; have BK546 := n0_; have HB := n1_; clear n0_ n1_; (try clear hb); have hcz28_0 : w27.cell? ⟨gb546, 0, none⟩ = some (.int .i64 ((rd_T112 l0 x12_1).f0.f0)) := (blk_cell BK546.out 0).trans rfl; have hcz28_1 : w27.cell? ⟨gb546, 1, none⟩ = some (.int .i64 ((rd_T112 l0 x12_1).f0.f1)) := (blk_cell BK546.out 1).trans rfl; have hcz28_2 : w27.cell? ⟨gb546, 2, none⟩ = some (.string ((rd_T112 l0 x12_1).f0.f2)) := (blk_cell BK546.out 2).trans rfl; have hcz28_3 : w27.cell? ⟨gb546, 3, none⟩ = some (.int .i64 ((rd_T112 l0 x12_1).f1.f0)) := (blk_cell BK546.out 3).trans rfl; have hcz28_4 : w27.cell? ⟨gb546, 4, none⟩ = some (.int .i64 ((rd_T112 l0 x12_1).f1.f1)) := (blk_cell BK546.out 4).trans rfl; have hcz28_5 : w27.cell? ⟨gb546, 5, none⟩ = some (.string ((rd_T112 l0 x12_1).f1.f2)) := (blk_cell BK546.out 5).trans rfl; have hfz28_0 := blk_frozen BK546.out 0; have hfz28_1 := blk_frozen BK546.out 1; have hfz28_2 := blk_frozen BK546.out 2; have hfz28_3 := blk_frozen BK546.out 3; have hfz28_4 := blk_frozen BK546.out 4; have hfz28_5 := blk_frozen BK546.out 5) | (go_at_call 113; (with_reducible refine (impl_isBeyond.calls ((rd_T112 l0 x12_1).f1.f0) ((rd_T112 l0 x12_1).f1.f1) ((rd_T112 l0 x12_1).f1.f2) x12_1 true _ A19.out).mono ?_); rintro e w29 ⟨rfl, hb⟩; have n0_ := ak (blk_below (g := gb546) (o := .cells #[.int .i64 ((rd_T112 l0 x12_1).f0.f0), .int .i64 ((rd_T112 l0 x12_1).f0.f1), .string ((rd_T112 l0 x12_1).f0.f2), .int .i64 ((rd_T112 l0 x12_1).f1.f0), .int .i64 ((rd_T112 l0 x12_1).f1.f1), .string ((rd_T112 l0 x12_1).f1.f2)] 112 (0, 0)) d23_5 hb); have n1_ := ak (below_step d23_3 hb); clear BK546 HB; have BK546 := n0_; have HB := n1_; clear n0_ n1_; (try clear hb)))
            go_ret
            exact ⟨by first | rfl | (simp [errW_none, errW_some] <;> rfl) | (simp [*, errW_none, errW_some] <;> rfl), by repeat (first | (with_reducible first | exact HB.out | apply below_alloc | apply pw_below_drewN | apply below_drew1 | refine below_set ?_ GE546.out) | exact HB.out)⟩
           ·replace c20 := Bool.eq_false_iff.mpr c20
            subst c20
            have H1 : (impl_HeapFault.l0 k1 l0 (l0.length : Int) (wrap64 (x12_1 + 1))) = some r := by rw [if_neg (show ¬ (false = true) by decide)] at H; exact H
            clear H
            have H := H1
            clear H1
            have H' := ak H
            clear H
            have p545 : 0 ≤ (x12_1 : Int) := of_decide_eq_true d23_4
            have q545 : x12_1 < (l0.length : Int) := of_decide_eq_true d23_4
            obtain ⟨ad545, e545, hx545_0, hx545_1, hx545_2, hx545_3, hx545_4, hx545_5⟩ := at_T112 HR0.out x12_1 p545 q545
            cases e545
            replace hx545_0 := (HB.out.cell (World.block_lt_of_cell? w _ hx545_0)).trans hx545_0
            replace hx545_1 := (HB.out.cell (World.block_lt_of_cell? w _ hx545_1)).trans hx545_1
            replace hx545_2 := (HB.out.cell (World.block_lt_of_cell? w _ hx545_2)).trans hx545_2
            replace hx545_3 := (HB.out.cell (World.block_lt_of_cell? w _ hx545_3)).trans hx545_3
            replace hx545_4 := (HB.out.cell (World.block_lt_of_cell? w _ hx545_4)).trans hx545_4
            replace hx545_5 := (HB.out.cell (World.block_lt_of_cell? w _ hx545_5)).trans hx545_5
            replace p545 := eq_true p545
            replace q545 := eq_true q545
            go_wp2_with (first | ((with_reducible refine gate_dst (N := 4) rfl ?_); refine box_event ?hg (N := 4) ?hd (cs := #[.int .i64 0, .int .i64 0, .string (⟨#[]⟩ : ByteArray), .int .i64 0, .int .i64 0, .string (⟨#[]⟩ : ByteArray)]) (t := 112) ?hr ?_; (case hd => rfl); (case hg => rfl); (case hr => first | (go_simp; done) | (go_simp; rfl)); intro gb546 hg w30 hbox hb; have n0_ := ak (below_step d23_1 hb); have n1_ := ak (hbox); have n2_ := ak ((d23_8 : w.heap.size ≤ gb546)); have n3_ := ak ((d23_8 : w.heap.size ≤ gb546)); clear HB; have HB := n0_; have BK546 := n1_; have GW546 := n2_; have GE546 := n3_; clear n0_ n1_ n2_ n3_ hb hbox hg; have hcz31_0 : w30.cell? ⟨gb546, 0, none⟩ = some (.int .i64 0) := (blk_cell BK546.out 0).trans rfl; have hcz31_1 : w30.cell? ⟨gb546, 1, none⟩ = some (.int .i64 0) := (blk_cell BK546.out 1).trans rfl; have hcz31_2 : w30.cell? ⟨gb546, 2, none⟩ = some (.string (⟨#[]⟩ : ByteArray)) := (blk_cell BK546.out 2).trans rfl; have hcz31_3 : w30.cell? ⟨gb546, 3, none⟩ = some (.int .i64 0) := (blk_cell BK546.out 3).trans rfl; have hcz31_4 : w30.cell? ⟨gb546, 4, none⟩ = some (.int .i64 0) := (blk_cell BK546.out 4).trans rfl; have hcz31_5 : w30.cell? ⟨gb546, 5, none⟩ = some (.string (⟨#[]⟩ : ByteArray)) := (blk_cell BK546.out 5).trans rfl; have hfz31_0 := blk_frozen BK546.out 0; have hfz31_1 := blk_frozen BK546.out 1; have hfz31_2 := blk_frozen BK546.out 2; have hfz31_3 := blk_frozen BK546.out 3; have hfz31_4 := blk_frozen BK546.out 4; have hfz31_5 := blk_frozen BK546.out 5) | ((with_reducible refine gate_callee (f := 55) rfl ?_); refine goesL_ (some 19) rfl rfl Tryd.func55 (by kernel_rfl) rfl #[.agg #[.int .i64 ((rd_T112 l0 x12_1).f0.f0), .int .i64 ((rd_T112 l0 x12_1).f0.f1), .string ((rd_T112 l0 x12_1).f0.f2)]] rfl d23_2 ?_; (with_reducible refine (impl_ValueFault.calls k1 ((rd_T112 l0 x12_1).f0.f0) ((rd_T112 l0 x12_1).f0.f1) ((rd_T112 l0 x12_1).f0.f2) t547 _ A6.out).mono ?_); rintro e w32 ⟨rfl, hb⟩; refine ⟨_, rfl, ?_⟩; have n0_ := ak (blk_below (g := gb546) (o := .cells #[.int .i64 ((rd_T112 l0 x12_1).f0.f0), .int .i64 ((rd_T112 l0 x12_1).f0.f1), .string ((rd_T112 l0 x12_1).f0.f2), .int .i64 ((rd_T112 l0 x12_1).f1.f0), .int .i64 ((rd_T112 l0 x12_1).f1.f1), .string ((rd_T112 l0 x12_1).f1.f2)] 112 (0, 0)) (by (with_reducible repeat (first | refine blk_drewN ?_ _ | refine blk_drew ?_ | refine blk_alloc ?_ _)); refine blk_put (cs := #[.int .i64 ((rd_T112 l0 x12_1).f0.f0), .int .i64 ((rd_T112 l0 x12_1).f0.f1), .string ((rd_T112 l0 x12_1).f0.f2), .int .i64 ((rd_T112 l0 x12_1).f1.f0), .int .i64 ((rd_T112 l0 x12_1).f1.f1), .string (⟨#[]⟩ : ByteArray)]) ?_ 5 _ rfl; (with_reducible repeat (first | refine blk_drewN ?_ _ | refine blk_drew ?_ | refine blk_alloc ?_ _)); refine blk_put (cs := #[.int .i64 ((rd_T112 l0 x12_1).f0.f0), .int .i64 ((rd_T112 l0 x12_1).f0.f1), .string ((rd_T112 l0 x12_1).f0.f2), .int .i64 ((rd_T112 l0 x12_1).f1.f0), .int .i64 0, .string (⟨#[]⟩ : ByteArray)]) ?_ 4 _ rfl; (with_reducible repeat (first | refine blk_drewN ?_ _ | refine blk_drew ?_ | refine blk_alloc ?_ _)); refine blk_put (cs := #[.int .i64 ((rd_T112 l0 x12_1).f0.f0), .int .i64 ((rd_T112 l0 x12_1).f0.f1), .string ((rd_T112 l0 x12_1).f0.f2), .int .i64 0, .int .i64 0, .string (⟨#[]⟩ : ByteArray)]) ?_ 3 _ rfl; (with_reducible repeat (first | refine blk_drewN ?_ _ | refine blk_drew ?_ | refine blk_alloc ?_ _)); refine blk_put (cs := #[.int .i64 ((rd_T112 l0 x12_1).f0.f0), .int .i64 ((rd_T112 l0 x12_1).f0.f1), .string (⟨#[]⟩ : ByteArray), .int .i64 0, .int .i64 0, .string (⟨#[]⟩ : ByteArray)]) ?_ 2 _ rfl; (with_reducible repeat (first | refine blk_drewN ?_ _ | refine blk_drew ?_ | refine blk_alloc ?_ _)); refine blk_put (cs := #[.int .i64 ((rd_T112 l0 x12_1).f0.f0), .int .i64 0, .string (⟨#[]⟩ : ByteArray), .int .i64 0, .int .i64 0, .string (⟨#[]⟩ : ByteArray)]) ?_ 1 _ rfl; (with_reducible repeat (first | refine blk_drewN ?_ _ | refine blk_drew ?_ | refine blk_alloc ?_ _)); refine blk_put (cs := #[.int .i64 0, .int .i64 0, .string (⟨#[]⟩ : ByteArray), .int .i64 0, .int .i64 0, .string (⟨#[]⟩ : ByteArray)]) ?_ 0 _ rfl; (with_reducible repeat (first | refine blk_drewN ?_ _ | refine blk_drew ?_ | refine blk_alloc ?_ _)); exact BK546.out) hb); have n1_ := ak (below_step d23_3 hb); clear BK546 HB; have BK546 := n0_; have HB := n1_; clear n0_ n1_; (try clear hb); have hcz33_0 : w32.cell? ⟨gb546, 0, none⟩ = some (.int .i64 ((rd_T112 l0 x12_1).f0.f0)) := (blk_cell BK546.out 0).trans rfl; have hcz33_1 : w32.cell? ⟨gb546, 1, none⟩ = some (.int .i64 ((rd_T112 l0 x12_1).f0.f1)) := (blk_cell BK546.out 1).trans rfl; have hcz33_2 : w32.cell? ⟨gb546, 2, none⟩ = some (.string ((rd_T112 l0 x12_1).f0.f2)) := (blk_cell BK546.out 2).trans rfl; have hcz33_3 : w32.cell? ⟨gb546, 3, none⟩ = some (.int .i64 ((rd_T112 l0 x12_1).f1.f0)) := (blk_cell BK546.out 3).trans rfl; have hcz33_4 : w32.cell? ⟨gb546, 4, none⟩ = some (.int .i64 ((rd_T112 l0 x12_1).f1.f1)) := (blk_cell BK546.out 4).trans rfl; have hcz33_5 : w32.cell? ⟨gb546, 5, none⟩ = some (.string ((rd_T112 l0 x12_1).f1.f2)) := (blk_cell BK546.out 5).trans rfl; have hfz33_0 := blk_frozen BK546.out 0; have hfz33_1 := blk_frozen BK546.out 1; have hfz33_2 := blk_frozen BK546.out 2; have hfz33_3 := blk_frozen BK546.out 3; have hfz33_4 := blk_frozen BK546.out 4; have hfz33_5 := blk_frozen BK546.out 5) | ((with_reducible refine gate_callee (f := 55) rfl ?_); refine goesL_ (some 25) rfl rfl Tryd.func55 (by kernel_rfl) rfl #[.agg #[.int .i64 ((rd_T112 l0 x12_1).f1.f0), .int .i64 ((rd_T112 l0 x12_1).f1.f1), .string ((rd_T112 l0 x12_1).f1.f2)]] rfl d23_2 ?_; (with_reducible refine (impl_ValueFault.calls k1 ((rd_T112 l0 x12_1).f1.f0) ((rd_T112 l0 x12_1).f1.f1) ((rd_T112 l0 x12_1).f1.f2) t548 _ A8.out).mono ?_); rintro e w34 ⟨rfl, hb⟩; refine ⟨_, rfl, ?_⟩; have n0_ := ak (blk_below (g := gb546) (o := .cells #[.int .i64 ((rd_T112 l0 x12_1).f0.f0), .int .i64 ((rd_T112 l0 x12_1).f0.f1), .string ((rd_T112 l0 x12_1).f0.f2), .int .i64 ((rd_T112 l0 x12_1).f1.f0), .int .i64 ((rd_T112 l0 x12_1).f1.f1), .string ((rd_T112 l0 x12_1).f1.f2)] 112 (0, 0)) d23_5 hb); have n1_ := ak (below_step d23_3 hb); clear BK546 HB; have BK546 := n0_; have HB := n1_; clear n0_ n1_; (try clear hb); have hcz35_0 : w34.cell? ⟨gb546, 0, none⟩ = some (.int .i64 ((rd_T112 l0 x12_1).f0.f0)) := (blk_cell BK546.out 0).trans rfl; have hcz35_1 : w34.cell? ⟨gb546, 1, none⟩ = some (.int .i64 ((rd_T112 l0 x12_1).f0.f1)) := (blk_cell BK546.out 1).trans rfl; have hcz35_2 : w34.cell? ⟨gb546, 2, none⟩ = some (.string ((rd_T112 l0 x12_1).f0.f2)) := (blk_cell BK546.out 2).trans rfl; have hcz35_3 : w34.cell? ⟨gb546, 3, none⟩ = some (.int .i64 ((rd_T112 l0 x12_1).f1.f0)) := (blk_cell BK546.out 3).trans rfl; have hcz35_4 : w34.cell? ⟨gb546, 4, none⟩ = some (.int .i64 ((rd_T112 l0 x12_1).f1.f1)) := (blk_cell BK546.out 4).trans rfl; have hcz35_5 : w34.cell? ⟨gb546, 5, none⟩ = some (.string ((rd_T112 l0 x12_1).f1.f2)) := (blk_cell BK546.out 5).trans rfl; have hfz35_0 := blk_frozen BK546.out 0; have hfz35_1 := blk_frozen BK546.out 1; have hfz35_2 := blk_frozen BK546.out 2; have hfz35_3 := blk_frozen BK546.out 3; have hfz35_4 := blk_frozen BK546.out 4; have hfz35_5 := blk_frozen BK546.out 5) | ((with_reducible refine gate_callee (f := 113) rfl ?_); refine goesL_ (some 32) rfl rfl Tryd.func113 (by kernel_rfl) rfl #[.agg #[.int .i64 ((rd_T112 l0 x12_1).f0.f0), .int .i64 ((rd_T112 l0 x12_1).f0.f1), .string ((rd_T112 l0 x12_1).f0.f2)], .int .i64 x12_1] rfl d23_2 ?_; (with_reducible refine (impl_isBeyond.calls ((rd_T112 l0 x12_1).f0.f0) ((rd_T112 l0 x12_1).f0.f1) ((rd_T112 l0 x12_1).f0.f2) x12_1 false _ A10.out).mono ?_); rintro e w36 ⟨rfl, hb⟩; refine ⟨_, rfl, ?_⟩; have n0_ := ak (blk_below (g := gb546) (o := .cells #[.int .i64 ((rd_T112 l0 x12_1).f0.f0), .int .i64 ((rd_T112 l0 x12_1).f0.f1), .string ((rd_T112 l0 x12_1).f0.f2), .int .i64 ((rd_T112 l0 x12_1).f1.f0), .int .i64 ((rd_T112 l0 x12_1).f1.f1), .string ((rd_T112 l0 x12_1).f1.f2)] 112 (0, 0)) d23_5 hb); have n1_ := ak (below_step d23_3 hb); clear BK546 HB; have BK546 := n0_; have HB := n1_; clear n0_ n1_; (try clear hb); have hcz37_0 : w36.cell? ⟨gb546, 0, none⟩ = some (.int .i64 ((rd_T112 l0 x12_1).f0.f0)) := (blk_cell BK546.out 0).trans rfl; have hcz37_1 : w36.cell? ⟨gb546, 1, none⟩ = some (.int .i64 ((rd_T112 l0 x12_1).f0.f1)) := (blk_cell BK546.out 1).trans rfl; have hcz37_2 : w36.cell? ⟨gb546, 2, none⟩ = some (.string ((rd_T112 l0 x12_1).f0.f2)) := (blk_cell BK546.out 2).trans rfl; have hcz37_3 : w36.cell? ⟨gb546, 3, none⟩ = some (.int .i64 ((rd_T112 l0 x12_1).f1.f0)) := (blk_cell BK546.out 3).trans rfl; have hcz37_4 : w36.cell? ⟨gb546, 4, none⟩ = some (.int .i64 ((rd_T112 l0 x12_1).f1.f1)) := (blk_cell BK546.out 4).trans rfl; have hcz37_5 : w36.cell? ⟨gb546, 5, none⟩ = some (.string ((rd_T112 l0 x12_1).f1.f2)) := (blk_cell BK546.out 5).trans rfl; have hfz37_0 := blk_frozen BK546.out 0; have hfz37_1 := blk_frozen BK546.out 1; have hfz37_2 := blk_frozen BK546.out 2; have hfz37_3 := blk_frozen BK546.out 3; have hfz37_4 := blk_frozen BK546.out 4; have hfz37_5 := blk_frozen BK546.out 5) | (go_at_call 113; (with_reducible refine (impl_isBeyond.calls ((rd_T112 l0 x12_1).f1.f0) ((rd_T112 l0 x12_1).f1.f1) ((rd_T112 l0 x12_1).f1.f2) x12_1 false _ A19.out).mono ?_); rintro e w38 ⟨rfl, hb⟩; have n0_ := ak (blk_below (g := gb546) (o := .cells #[.int .i64 ((rd_T112 l0 x12_1).f0.f0), .int .i64 ((rd_T112 l0 x12_1).f0.f1), .string ((rd_T112 l0 x12_1).f0.f2), .int .i64 ((rd_T112 l0 x12_1).f1.f0), .int .i64 ((rd_T112 l0 x12_1).f1.f1), .string ((rd_T112 l0 x12_1).f1.f2)] 112 (0, 0)) d23_5 hb); have n1_ := ak (below_step d23_3 hb); clear BK546 HB; have BK546 := n0_; have HB := n1_; clear n0_ n1_; (try clear hb)))
            go_roundg k1
            case measure => have := HK1.out; omega
            case rel => exact ⟨(wrap64 (x12_1 + 1)), d23_7, H', ⟨by have := HK1.out; omega⟩, ⟨by repeat (first | (with_reducible first | exact HB.out | apply below_alloc | apply pw_below_drewN | apply below_drew1 | refine below_set ?_ GE546.out) | exact HB.out)⟩⟩
         ·rw [if_neg c9] at H
          have c9b0 : (t548 == 0) = false := beq_eq_false_iff_ne.mpr c9
          have c9b1 : (t548 != 0) = true := bne_iff_ne.mpr c9
          obtain rfl := Option.some.inj H
          have p545 : 0 ≤ (x12_1 : Int) := of_decide_eq_true d23_4
          have q545 : x12_1 < (l0.length : Int) := of_decide_eq_true d23_4
          obtain ⟨ad545, e545, hx545_0, hx545_1, hx545_2, hx545_3, hx545_4, hx545_5⟩ := at_T112 HR0.out x12_1 p545 q545
          cases e545
          replace hx545_0 := (HB.out.cell (World.block_lt_of_cell? w _ hx545_0)).trans hx545_0
          replace hx545_1 := (HB.out.cell (World.block_lt_of_cell? w _ hx545_1)).trans hx545_1
          replace hx545_2 := (HB.out.cell (World.block_lt_of_cell? w _ hx545_2)).trans hx545_2
          replace hx545_3 := (HB.out.cell (World.block_lt_of_cell? w _ hx545_3)).trans hx545_3
          replace hx545_4 := (HB.out.cell (World.block_lt_of_cell? w _ hx545_4)).trans hx545_4
          replace hx545_5 := (HB.out.cell (World.block_lt_of_cell? w _ hx545_5)).trans hx545_5
          replace p545 := eq_true p545
          replace q545 := eq_true q545
          go_wp2_with (first | ((with_reducible refine gate_dst (N := 4) rfl ?_); refine box_event ?hg (N := 4) ?hd (cs := #[.int .i64 0, .int .i64 0, .string (⟨#[]⟩ : ByteArray), .int .i64 0, .int .i64 0, .string (⟨#[]⟩ : ByteArray)]) (t := 112) ?hr ?_; (case hd => rfl); (case hg => rfl); (case hr => first | (go_simp; done) | (go_simp; rfl)); intro gb546 hg w39 hbox hb; have n0_ := ak (below_step d23_1 hb); have n1_ := ak (hbox); have n2_ := ak ((d23_8 : w.heap.size ≤ gb546)); have n3_ := ak ((d23_8 : w.heap.size ≤ gb546)); clear HB; have HB := n0_; have BK546 := n1_; have GW546 := n2_; have GE546 := n3_; clear n0_ n1_ n2_ n3_ hb hbox hg; have hcz40_0 : w39.cell? ⟨gb546, 0, none⟩ = some (.int .i64 0) := (blk_cell BK546.out 0).trans rfl; have hcz40_1 : w39.cell? ⟨gb546, 1, none⟩ = some (.int .i64 0) := (blk_cell BK546.out 1).trans rfl; have hcz40_2 : w39.cell? ⟨gb546, 2, none⟩ = some (.string (⟨#[]⟩ : ByteArray)) := (blk_cell BK546.out 2).trans rfl; have hcz40_3 : w39.cell? ⟨gb546, 3, none⟩ = some (.int .i64 0) := (blk_cell BK546.out 3).trans rfl; have hcz40_4 : w39.cell? ⟨gb546, 4, none⟩ = some (.int .i64 0) := (blk_cell BK546.out 4).trans rfl; have hcz40_5 : w39.cell? ⟨gb546, 5, none⟩ = some (.string (⟨#[]⟩ : ByteArray)) := (blk_cell BK546.out 5).trans rfl; have hfz40_0 := blk_frozen BK546.out 0; have hfz40_1 := blk_frozen BK546.out 1; have hfz40_2 := blk_frozen BK546.out 2; have hfz40_3 := blk_frozen BK546.out 3; have hfz40_4 := blk_frozen BK546.out 4; have hfz40_5 := blk_frozen BK546.out 5) | ((with_reducible refine gate_callee (f := 55) rfl ?_); refine goesL_ (some 19) rfl rfl Tryd.func55 (by kernel_rfl) rfl #[.agg #[.int .i64 ((rd_T112 l0 x12_1).f0.f0), .int .i64 ((rd_T112 l0 x12_1).f0.f1), .string ((rd_T112 l0 x12_1).f0.f2)]] rfl d23_2 ?_; (with_reducible refine (impl_ValueFault.calls k1 ((rd_T112 l0 x12_1).f0.f0) ((rd_T112 l0 x12_1).f0.f1) ((rd_T112 l0 x12_1).f0.f2) t547 _ A6.out).mono ?_); rintro e w41 ⟨rfl, hb⟩; refine ⟨_, rfl, ?_⟩; have n0_ := ak (blk_below (g := gb546) (o := .cells #[.int .i64 ((rd_T112 l0 x12_1).f0.f0), .int .i64 ((rd_T112 l0 x12_1).f0.f1), .string ((rd_T112 l0 x12_1).f0.f2), .int .i64 ((rd_T112 l0 x12_1).f1.f0), .int .i64 ((rd_T112 l0 x12_1).f1.f1), .string ((rd_T112 l0 x12_1).f1.f2)] 112 (0, 0)) (by (with_reducible repeat (first | refine blk_drewN ?_ _ | refine blk_drew ?_ | refine blk_alloc ?_ _)); refine blk_put (cs := #[.int .i64 ((rd_T112 l0 x12_1).f0.f0), .int .i64 ((rd_T112 l0 x12_1).f0.f1), .string ((rd_T112 l0 x12_1).f0.f2), .int .i64 ((rd_T112 l0 x12_1).f1.f0), .int .i64 ((rd_T112 l0 x12_1).f1.f1), .string (⟨#[]⟩ : ByteArray)]) ?_ 5 _ rfl; (with_reducible repeat (first | refine blk_drewN ?_ _ | refine blk_drew ?_ | refine blk_alloc ?_ _)); refine blk_put (cs := #[.int .i64 ((rd_T112 l0 x12_1).f0.f0), .int .i64 ((rd_T112 l0 x12_1).f0.f1), .string ((rd_T112 l0 x12_1).f0.f2), .int .i64 ((rd_T112 l0 x12_1).f1.f0), .int .i64 0, .string (⟨#[]⟩ : ByteArray)]) ?_ 4 _ rfl; (with_reducible repeat (first | refine blk_drewN ?_ _ | refine blk_drew ?_ | refine blk_alloc ?_ _)); refine blk_put (cs := #[.int .i64 ((rd_T112 l0 x12_1).f0.f0), .int .i64 ((rd_T112 l0 x12_1).f0.f1), .string ((rd_T112 l0 x12_1).f0.f2), .int .i64 0, .int .i64 0, .string (⟨#[]⟩ : ByteArray)]) ?_ 3 _ rfl; (with_reducible repeat (first | refine blk_drewN ?_ _ | refine blk_drew ?_ | refine blk_alloc ?_ _)); refine blk_put (cs := #[.int .i64 ((rd_T112 l0 x12_1).f0.f0), .int .i64 ((rd_T112 l0 x12_1).f0.f1), .string (⟨#[]⟩ : ByteArray), .int .i64 0, .int .i64 0, .string (⟨#[]⟩ : ByteArray)]) ?_ 2 _ rfl; (with_reducible repeat (first | refine blk_drewN ?_ _ | refine blk_drew ?_ | refine blk_alloc ?_ _)); refine blk_put (cs := #[.int .i64 ((rd_T112 l0 x12_1).f0.f0), .int .i64 0, .string (⟨#[]⟩ : ByteArray), .int .i64 0, .int .i64 0, .string (⟨#[]⟩ : ByteArray)]) ?_ 1 _ rfl; (with_reducible repeat (first | refine blk_drewN ?_ _ | refine blk_drew ?_ | refine blk_alloc ?_ _)); refine blk_put (cs := #[.int .i64 0, .int .i64 0, .string (⟨#[]⟩ : ByteArray), .int .i64 0, .int .i64 0, .string (⟨#[]⟩ : ByteArray)]) ?_ 0 _ rfl; (with_reducible repeat (first | refine blk_drewN ?_ _ | refine blk_drew ?_ | refine blk_alloc ?_ _)); exact BK546.out) hb); have n1_ := ak (below_step d23_3 hb); clear BK546 HB; have BK546 := n0_; have HB := n1_; clear n0_ n1_; (try clear hb); have hcz42_0 : w41.cell? ⟨gb546, 0, none⟩ = some (.int .i64 ((rd_T112 l0 x12_1).f0.f0)) := (blk_cell BK546.out 0).trans rfl; have hcz42_1 : w41.cell? ⟨gb546, 1, none⟩ = some (.int .i64 ((rd_T112 l0 x12_1).f0.f1)) := (blk_cell BK546.out 1).trans rfl; have hcz42_2 : w41.cell? ⟨gb546, 2, none⟩ = some (.string ((rd_T112 l0 x12_1).f0.f2)) := (blk_cell BK546.out 2).trans rfl; have hcz42_3 : w41.cell? ⟨gb546, 3, none⟩ = some (.int .i64 ((rd_T112 l0 x12_1).f1.f0)) := (blk_cell BK546.out 3).trans rfl; have hcz42_4 : w41.cell? ⟨gb546, 4, none⟩ = some (.int .i64 ((rd_T112 l0 x12_1).f1.f1)) := (blk_cell BK546.out 4).trans rfl; have hcz42_5 : w41.cell? ⟨gb546, 5, none⟩ = some (.string ((rd_T112 l0 x12_1).f1.f2)) := (blk_cell BK546.out 5).trans rfl; have hfz42_0 := blk_frozen BK546.out 0; have hfz42_1 := blk_frozen BK546.out 1; have hfz42_2 := blk_frozen BK546.out 2; have hfz42_3 := blk_frozen BK546.out 3; have hfz42_4 := blk_frozen BK546.out 4; have hfz42_5 := blk_frozen BK546.out 5) | ((with_reducible refine gate_callee (f := 55) rfl ?_); refine goesL_ (some 25) rfl rfl Tryd.func55 (by kernel_rfl) rfl #[.agg #[.int .i64 ((rd_T112 l0 x12_1).f1.f0), .int .i64 ((rd_T112 l0 x12_1).f1.f1), .string ((rd_T112 l0 x12_1).f1.f2)]] rfl d23_2 ?_; (with_reducible refine (impl_ValueFault.calls k1 ((rd_T112 l0 x12_1).f1.f0) ((rd_T112 l0 x12_1).f1.f1) ((rd_T112 l0 x12_1).f1.f2) t548 _ A8.out).mono ?_); rintro e w43 ⟨rfl, hb⟩; refine ⟨_, rfl, ?_⟩; have n0_ := ak (blk_below (g := gb546) (o := .cells #[.int .i64 ((rd_T112 l0 x12_1).f0.f0), .int .i64 ((rd_T112 l0 x12_1).f0.f1), .string ((rd_T112 l0 x12_1).f0.f2), .int .i64 ((rd_T112 l0 x12_1).f1.f0), .int .i64 ((rd_T112 l0 x12_1).f1.f1), .string ((rd_T112 l0 x12_1).f1.f2)] 112 (0, 0)) d23_5 hb); have n1_ := ak (below_step d23_3 hb); clear BK546 HB; have BK546 := n0_; have HB := n1_; clear n0_ n1_; (try clear hb)))
          go_ret
          exact ⟨by first | rfl | (simp [errW_none, errW_some] <;> rfl) | (simp [*, errW_none, errW_some] <;> rfl), by repeat (first | (with_reducible first | exact HB.out | apply below_alloc | apply pw_below_drewN | apply below_drew1 | refine below_set ?_ GE546.out) | exact HB.out)⟩
        ·rw [if_neg c7] at H
         have c7b0 : (t547 == 0) = false := beq_eq_false_iff_ne.mpr c7
         have c7b1 : (t547 != 0) = true := bne_iff_ne.mpr c7
         obtain rfl := Option.some.inj H
         have p545 : 0 ≤ (x12_1 : Int) := of_decide_eq_true d23_4
         have q545 : x12_1 < (l0.length : Int) := of_decide_eq_true d23_4
         obtain ⟨ad545, e545, hx545_0, hx545_1, hx545_2, hx545_3, hx545_4, hx545_5⟩ := at_T112 HR0.out x12_1 p545 q545
         cases e545
         replace hx545_0 := (HB.out.cell (World.block_lt_of_cell? w _ hx545_0)).trans hx545_0
         replace hx545_1 := (HB.out.cell (World.block_lt_of_cell? w _ hx545_1)).trans hx545_1
         replace hx545_2 := (HB.out.cell (World.block_lt_of_cell? w _ hx545_2)).trans hx545_2
         replace hx545_3 := (HB.out.cell (World.block_lt_of_cell? w _ hx545_3)).trans hx545_3
         replace hx545_4 := (HB.out.cell (World.block_lt_of_cell? w _ hx545_4)).trans hx545_4
         replace hx545_5 := (HB.out.cell (World.block_lt_of_cell? w _ hx545_5)).trans hx545_5
         replace p545 := eq_true p545
         replace q545 := eq_true q545
         go_wp2_with (first | ((with_reducible refine gate_dst (N := 4) rfl ?_); refine box_event ?hg (N := 4) ?hd (cs := #[.int .i64 0, .int .i64 0, .string (⟨#[]⟩ : ByteArray), .int .i64 0, .int .i64 0, .string (⟨#[]⟩ : ByteArray)]) (t := 112) ?hr ?_; (case hd => rfl); (case hg => rfl); (case hr => first | (go_simp; done) | (go_simp; rfl)); intro gb546 hg w44 hbox hb; have n0_ := ak (below_step d23_1 hb); have n1_ := ak (hbox); have n2_ := ak ((d23_8 : w.heap.size ≤ gb546)); have n3_ := ak ((d23_8 : w.heap.size ≤ gb546)); clear HB; have HB := n0_; have BK546 := n1_; have GW546 := n2_; have GE546 := n3_; clear n0_ n1_ n2_ n3_ hb hbox hg; have hcz45_0 : w44.cell? ⟨gb546, 0, none⟩ = some (.int .i64 0) := (blk_cell BK546.out 0).trans rfl; have hcz45_1 : w44.cell? ⟨gb546, 1, none⟩ = some (.int .i64 0) := (blk_cell BK546.out 1).trans rfl; have hcz45_2 : w44.cell? ⟨gb546, 2, none⟩ = some (.string (⟨#[]⟩ : ByteArray)) := (blk_cell BK546.out 2).trans rfl; have hcz45_3 : w44.cell? ⟨gb546, 3, none⟩ = some (.int .i64 0) := (blk_cell BK546.out 3).trans rfl; have hcz45_4 : w44.cell? ⟨gb546, 4, none⟩ = some (.int .i64 0) := (blk_cell BK546.out 4).trans rfl; have hcz45_5 : w44.cell? ⟨gb546, 5, none⟩ = some (.string (⟨#[]⟩ : ByteArray)) := (blk_cell BK546.out 5).trans rfl; have hfz45_0 := blk_frozen BK546.out 0; have hfz45_1 := blk_frozen BK546.out 1; have hfz45_2 := blk_frozen BK546.out 2; have hfz45_3 := blk_frozen BK546.out 3; have hfz45_4 := blk_frozen BK546.out 4; have hfz45_5 := blk_frozen BK546.out 5) | ((with_reducible refine gate_callee (f := 55) rfl ?_); refine goesL_ (some 19) rfl rfl Tryd.func55 (by kernel_rfl) rfl #[.agg #[.int .i64 ((rd_T112 l0 x12_1).f0.f0), .int .i64 ((rd_T112 l0 x12_1).f0.f1), .string ((rd_T112 l0 x12_1).f0.f2)]] rfl d23_2 ?_; (with_reducible refine (impl_ValueFault.calls k1 ((rd_T112 l0 x12_1).f0.f0) ((rd_T112 l0 x12_1).f0.f1) ((rd_T112 l0 x12_1).f0.f2) t547 _ A6.out).mono ?_); rintro e w46 ⟨rfl, hb⟩; refine ⟨_, rfl, ?_⟩; have n0_ := ak (blk_below (g := gb546) (o := .cells #[.int .i64 ((rd_T112 l0 x12_1).f0.f0), .int .i64 ((rd_T112 l0 x12_1).f0.f1), .string ((rd_T112 l0 x12_1).f0.f2), .int .i64 ((rd_T112 l0 x12_1).f1.f0), .int .i64 ((rd_T112 l0 x12_1).f1.f1), .string ((rd_T112 l0 x12_1).f1.f2)] 112 (0, 0)) (by (with_reducible repeat (first | refine blk_drewN ?_ _ | refine blk_drew ?_ | refine blk_alloc ?_ _)); refine blk_put (cs := #[.int .i64 ((rd_T112 l0 x12_1).f0.f0), .int .i64 ((rd_T112 l0 x12_1).f0.f1), .string ((rd_T112 l0 x12_1).f0.f2), .int .i64 ((rd_T112 l0 x12_1).f1.f0), .int .i64 ((rd_T112 l0 x12_1).f1.f1), .string (⟨#[]⟩ : ByteArray)]) ?_ 5 _ rfl; (with_reducible repeat (first | refine blk_drewN ?_ _ | refine blk_drew ?_ | refine blk_alloc ?_ _)); refine blk_put (cs := #[.int .i64 ((rd_T112 l0 x12_1).f0.f0), .int .i64 ((rd_T112 l0 x12_1).f0.f1), .string ((rd_T112 l0 x12_1).f0.f2), .int .i64 ((rd_T112 l0 x12_1).f1.f0), .int .i64 0, .string (⟨#[]⟩ : ByteArray)]) ?_ 4 _ rfl; (with_reducible repeat (first | refine blk_drewN ?_ _ | refine blk_drew ?_ | refine blk_alloc ?_ _)); refine blk_put (cs := #[.int .i64 ((rd_T112 l0 x12_1).f0.f0), .int .i64 ((rd_T112 l0 x12_1).f0.f1), .string ((rd_T112 l0 x12_1).f0.f2), .int .i64 0, .int .i64 0, .string (⟨#[]⟩ : ByteArray)]) ?_ 3 _ rfl; (with_reducible repeat (first | refine blk_drewN ?_ _ | refine blk_drew ?_ | refine blk_alloc ?_ _)); refine blk_put (cs := #[.int .i64 ((rd_T112 l0 x12_1).f0.f0), .int .i64 ((rd_T112 l0 x12_1).f0.f1), .string (⟨#[]⟩ : ByteArray), .int .i64 0, .int .i64 0, .string (⟨#[]⟩ : ByteArray)]) ?_ 2 _ rfl; (with_reducible repeat (first | refine blk_drewN ?_ _ | refine blk_drew ?_ | refine blk_alloc ?_ _)); refine blk_put (cs := #[.int .i64 ((rd_T112 l0 x12_1).f0.f0), .int .i64 0, .string (⟨#[]⟩ : ByteArray), .int .i64 0, .int .i64 0, .string (⟨#[]⟩ : ByteArray)]) ?_ 1 _ rfl; (with_reducible repeat (first | refine blk_drewN ?_ _ | refine blk_drew ?_ | refine blk_alloc ?_ _)); refine blk_put (cs := #[.int .i64 0, .int .i64 0, .string (⟨#[]⟩ : ByteArray), .int .i64 0, .int .i64 0, .string (⟨#[]⟩ : ByteArray)]) ?_ 0 _ rfl; (with_reducible repeat (first | refine blk_drewN ?_ _ | refine blk_drew ?_ | refine blk_alloc ?_ _)); exact BK546.out) hb); have n1_ := ak (below_step d23_3 hb); clear BK546 HB; have BK546 := n0_; have HB := n1_; clear n0_ n1_; (try clear hb)))
         go_ret
         exact ⟨by first | rfl | (simp [errW_none, errW_some] <;> rfl) | (simp [*, errW_none, errW_some] <;> rfl), by repeat (first | (with_reducible first | exact HB.out | apply below_alloc | apply pw_below_drewN | apply below_drew1 | refine below_set ?_ GE546.out) | exact HB.out)⟩
       ·rw [if_neg c5] at H
        exact absurd H (by simp)
      ·rw [if_neg c4] at H
       exact absurd H (by simp)
     ·rw [if_neg c3] at H
      have c3b0 : decide (x12_1 < (l0.length : Int)) = false := decide_eq_false c3
      clear c3
      obtain rfl := Option.some.inj H
      go_wp2
      go_ret
      exact ⟨by first | rfl | (simp [errW_none, errW_some] <;> rfl) | (simp [*, errW_none, errW_some] <;> rfl), by repeat (first | (with_reducible first | exact HB.out | apply below_alloc | apply pw_below_drewN | apply below_drew1) | exact HB.out)⟩

/-! ### impl_inHeap: function 103 -/
def impl_inHeap.l0 : Nat → List (S112) → List (S32) → Int → Int → Option (Int)
  | 0, _, _, _, _ => none
  | k + 1, x0, x8, x9, x10 => if x10 < x9 then (if 0 ≤ x10 then (if x10 < (x8.length : Int) then ((impl_ValueFault.f k ((rd_T32 x8 x10).f0) ((rd_T32 x8 x10).f1) ((rd_T32 x8 x10).f2)).bind fun t553 => (if t553 = 0 then ((impl_isBeyond.f ((rd_T32 x8 x10).f0) ((rd_T32 x8 x10).f1) ((rd_T32 x8 x10).f2) (x0.length : Int)).bind fun t554 => (if t554 = true then (some 4) else (impl_inHeap.l0 k x0 x8 x9 (wrap64 (x10 + 1))))) else (some t553))) else (none)) else (none)) else (some 0)
def impl_inHeap.f (k : Nat) (l0 : List (S112)) (l1 : List (S32)) : Option (Int) := impl_inHeap.l0 k l0 l1 (l1.length : Int) 0
theorem impl_inHeap.mono_l : ∀ k, (∀ y0 y1 y2 y3, LeO (impl_inHeap.l0 k y0 y1 y2 y3) (impl_inHeap.l0 (k + 1) y0 y1 y2 y3))
  | 0 => fun _ _ _ _ r h => by simp [impl_inHeap.l0] at h
  | k + 1 => by
    have ih0 := impl_inHeap.mono_l k
    · intro y0 y1 y2 y3
      unfold impl_inHeap.l0
      repeat' first
      | (with_reducible exact ih0 _ _ _ _)
      | (with_reducible exact impl_ValueFault.mono _ _ _ _)
      | (with_reducible exact LeO.refl _)
      | (with_reducible exact LeO.none _)
      | (with_reducible refine LeO.ite ?_ ?_)
      | (with_reducible refine LeO.bind ?_ (fun _ => ?_))
      | exact ih0 _ _ _ _
      | exact impl_ValueFault.mono _ _ _ _
      | exact LeO.none _
      | refine LeO.ite ?_ ?_
      | refine LeO.bind ?_ (fun _ => ?_)
theorem impl_inHeap.mono : ∀ a0 a1 k, LeO (impl_inHeap.f k a0 a1) (impl_inHeap.f (k + 1) a0 a1) := by
  intro a0 a1 k
  have ih0 := impl_inHeap.mono_l k
  unfold impl_inHeap.f
  repeat' first
      | (with_reducible exact ih0 _ _ _ _)
      | (with_reducible exact impl_ValueFault.mono _ _ _ _)
      | (with_reducible exact LeO.refl _)
      | (with_reducible exact LeO.none _)
      | (with_reducible refine LeO.ite ?_ ?_)
      | (with_reducible refine LeO.bind ?_ (fun _ => ?_))
      | exact ih0 _ _ _ _
      | exact impl_ValueFault.mono _ _ _ _
      | exact LeO.none _
      | refine LeO.ite ?_ ?_
      | refine LeO.bind ?_ (fun _ => ?_)
set_option maxHeartbeats 8000000 in
set_option maxRecDepth 100000 in
theorem impl_inHeap.calls (k : Nat) (A0 : Option Addr) (c0 : Nat) (l0 : List (S112)) (A1 : Option Addr) (c1 : Nat) (l1 : List (S32)) (r : Int) (w : World) (hr0 : Kd.C k112 w A0 l0.length l0) (hc0 : l0.length ≤ c0) (hr1 : Kd.C k32 w A1 l1.length l1) (hc1 : l1.length ≤ c1) (h : impl_inHeap.f k l0 l1 = some r) :
    Calls Tryd.prog 103 #[.slice A0 l0.length c0, .slice A1 l1.length c1] w fun e w' => e = .returned (.int .i64 r) ∧ Below w.heap.size w w' := by
  have hu32 := Tryd.underlying32
  have HR0 := ak hr0
  have HC0 := ak hc0
  clear hr0 hc0
  have HR1 := ak hr1
  have HC1 := ak hc1
  clear hr1 hc1
  have HB := ak (Below.refl w.heap.size w)
  have H : (impl_inHeap.l0 k l0 l1 (l1.length : Int) 0) = some r := h
  clear h
  have H' := ak H
  clear H
  go_enter Tryd.func103, Tryd.ntmps103
  go_wp2
  go_loopg [10] k (fun kq v10 w' => ∃ (x10_1 : Int), v10 = .int .i64 x10_1 ∧ Aside0 (impl_inHeap.l0 kq l0 l1 (l1.length : Int) x10_1 = some r) ∧ Aside0 (kq ≤ k) ∧ Aside0 (Below w.heap.size w w'))
  case atStart => exact ⟨(0), d23_7, H', ⟨Nat.le_refl _⟩, ⟨by repeat (first | (with_reducible first | exact HB.out | apply below_alloc | apply pw_below_drewN | apply below_drew1) | exact HB.out)⟩⟩
  case round =>
   clear H'
   try clear c1
   try clear p2
   obtain ⟨x10_1, rfl, HA, HK1, HB⟩ := hrel
   cases gk with
   | zero => exact absurd HA.out (by simp [impl_inHeap.l0])
   | succ k1 =>
    have H := HA.out
    clear HA
    simp only [impl_inHeap.l0] at H
    by_cases c3 : x10_1 < (l1.length : Int)
    ·rw [if_pos c3] at H
     have c3b0 : decide (x10_1 < (l1.length : Int)) = true := decide_eq_true c3
     clear c3
     by_cases c4 : 0 ≤ x10_1
     ·rw [if_pos c4] at H
      have c4b0 : decide (0 ≤ x10_1) = true := decide_eq_true c4
      clear c4
      by_cases c5 : x10_1 < (l1.length : Int)
      ·rw [if_pos c5] at H
       have c5b0 : decide (x10_1 < (l1.length : Int)) = true := decide_eq_true c5
       clear c5
       replace H := Option.bind_eq_some_iff.mp H
       obtain ⟨t553, A60, H⟩ := H
       replace H : (if t553 = 0 then ((impl_isBeyond.f ((rd_T32 l1 x10_1).f0) ((rd_T32 l1 x10_1).f1) ((rd_T32 l1 x10_1).f2) (l0.length : Int)).bind fun t554 => (if t554 = true then (some 4) else (impl_inHeap.l0 k1 l0 l1 (l1.length : Int) (wrap64 (x10_1 + 1))))) else (some t553)) = some r := H
       have A6 := ak A60
       clear A60
       by_cases c7 : t553 = 0
       ·rw [if_pos c7] at H
        have c7b0 : (t553 == 0) = true := beq_iff_eq.mpr c7
        have c7b1 : (t553 != 0) = false := bne_eq_false_iff_eq.mpr c7
        clear c7
        replace H := Option.bind_eq_some_iff.mp H
        obtain ⟨t554, A80, H⟩ := H
        replace H : (if t554 = true then (some 4) else (impl_inHeap.l0 k1 l0 l1 (l1.length : Int) (wrap64 (x10_1 + 1)))) = some r := H
        have A8 := ak A80
        clear A80
        by_cases c9 : t554 = true
        ·subst c9
         have H1 : (some 4) = some r := by rw [if_pos rfl] at H; exact H
         clear H
         have H := H1
         clear H1
         obtain rfl := Option.some.inj H
         have p551 : 0 ≤ (x10_1 : Int) := of_decide_eq_true d23_4
         have q551 : x10_1 < (l1.length : Int) := of_decide_eq_true d23_4
         obtain ⟨ad551, e551, hx551_0, hx551_1, hx551_2⟩ := at_T32 HR1.out x10_1 p551 q551
         cases e551
         replace hx551_0 := (HB.out.cell (World.block_lt_of_cell? w _ hx551_0)).trans hx551_0
         replace hx551_1 := (HB.out.cell (World.block_lt_of_cell? w _ hx551_1)).trans hx551_1
         replace hx551_2 := (HB.out.cell (World.block_lt_of_cell? w _ hx551_2)).trans hx551_2
         replace p551 := eq_true p551
         replace q551 := eq_true q551
         go_wp2_with (first | ((with_reducible refine gate_dst (N := 6) rfl ?_); refine box_event ?hg (N := 6) ?hd (cs := #[.int .i64 0, .int .i64 0, .string (⟨#[]⟩ : ByteArray)]) (t := 32) ?hr ?_; (case hd => rfl); (case hg => rfl); (case hr => first | (go_simp; done) | (go_simp; rfl)); intro gb552 hg w10 hbox hb; have n0_ := ak (below_step d23_1 hb); have n1_ := ak (hbox); have n2_ := ak ((d23_8 : w.heap.size ≤ gb552)); have n3_ := ak ((d23_8 : w.heap.size ≤ gb552)); clear HB; have HB := n0_; have BK552 := n1_; have GW552 := n2_; have GE552 := n3_; clear n0_ n1_ n2_ n3_ hb hbox hg; have hcz11_0 : w10.cell? ⟨gb552, 0, none⟩ = some (.int .i64 0) := (blk_cell BK552.out 0).trans rfl; have hcz11_1 : w10.cell? ⟨gb552, 1, none⟩ = some (.int .i64 0) := (blk_cell BK552.out 1).trans rfl; have hcz11_2 : w10.cell? ⟨gb552, 2, none⟩ = some (.string (⟨#[]⟩ : ByteArray)) := (blk_cell BK552.out 2).trans rfl; have hfz11_0 := blk_frozen BK552.out 0; have hfz11_1 := blk_frozen BK552.out 1; have hfz11_2 := blk_frozen BK552.out 2) | ((with_reducible refine gate_callee (f := 55) rfl ?_); refine goesL_ (some 15) rfl rfl Tryd.func55 (by kernel_rfl) rfl #[.agg #[.int .i64 ((rd_T32 l1 x10_1).f0), .int .i64 ((rd_T32 l1 x10_1).f1), .string ((rd_T32 l1 x10_1).f2)]] rfl d23_2 ?_; (with_reducible refine (impl_ValueFault.calls k1 ((rd_T32 l1 x10_1).f0) ((rd_T32 l1 x10_1).f1) ((rd_T32 l1 x10_1).f2) t553 _ A6.out).mono ?_); rintro e w12 ⟨rfl, hb⟩; refine ⟨_, rfl, ?_⟩; have n0_ := ak (blk_below (g := gb552) (o := .cells #[.int .i64 ((rd_T32 l1 x10_1).f0), .int .i64 ((rd_T32 l1 x10_1).f1), .string ((rd_T32 l1 x10_1).f2)] 32 (0, 0)) (by (with_reducible repeat (first | refine blk_drewN ?_ _ | refine blk_drew ?_ | refine blk_alloc ?_ _)); refine blk_put (cs := #[.int .i64 ((rd_T32 l1 x10_1).f0), .int .i64 ((rd_T32 l1 x10_1).f1), .string (⟨#[]⟩ : ByteArray)]) ?_ 2 _ rfl; (with_reducible repeat (first | refine blk_drewN ?_ _ | refine blk_drew ?_ | refine blk_alloc ?_ _)); refine blk_put (cs := #[.int .i64 ((rd_T32 l1 x10_1).f0), .int .i64 0, .string (⟨#[]⟩ : ByteArray)]) ?_ 1 _ rfl; (with_reducible repeat (first | refine blk_drewN ?_ _ | refine blk_drew ?_ | refine blk_alloc ?_ _)); refine blk_put (cs := #[.int .i64 0, .int .i64 0, .string (⟨#[]⟩ : ByteArray)]) ?_ 0 _ rfl; (with_reducible repeat (first | refine blk_drewN ?_ _ | refine blk_drew ?_ | refine blk_alloc ?_ _)); exact BK552.out) hb); have n1_ := ak (below_step d23_6 hb); clear BK552 HB; have BK552 := n0_; have HB := n1_; clear n0_ n1_; (try clear hb); have hcz13_0 : w12.cell? ⟨gb552, 0, none⟩ = some (.int .i64 ((rd_T32 l1 x10_1).f0)) := (blk_cell BK552.out 0).trans rfl; have hcz13_1 : w12.cell? ⟨gb552, 1, none⟩ = some (.int .i64 ((rd_T32 l1 x10_1).f1)) := (blk_cell BK552.out 1).trans rfl; have hcz13_2 : w12.cell? ⟨gb552, 2, none⟩ = some (.string ((rd_T32 l1 x10_1).f2)) := (blk_cell BK552.out 2).trans rfl; have hfz13_0 := blk_frozen BK552.out 0; have hfz13_1 := blk_frozen BK552.out 1; have hfz13_2 := blk_frozen BK552.out 2) | ((with_reducible refine gate_callee (f := 113) rfl ?_); refine goesL_ (some 22) rfl rfl Tryd.func113 (by kernel_rfl) rfl #[.agg #[.int .i64 ((rd_T32 l1 x10_1).f0), .int .i64 ((rd_T32 l1 x10_1).f1), .string ((rd_T32 l1 x10_1).f2)], .int .i64 (l0.length : Int)] rfl d23_2 ?_; (with_reducible refine (impl_isBeyond.calls ((rd_T32 l1 x10_1).f0) ((rd_T32 l1 x10_1).f1) ((rd_T32 l1 x10_1).f2) (l0.length : Int) true _ A8.out).mono ?_); rintro e w14 ⟨rfl, hb⟩; refine ⟨_, rfl, ?_⟩; have n0_ := ak (blk_below (g := gb552) (o := .cells #[.int .i64 ((rd_T32 l1 x10_1).f0), .int .i64 ((rd_T32 l1 x10_1).f1), .string ((rd_T32 l1 x10_1).f2)] 32 (0, 0)) (by (with_reducible repeat (first | refine blk_drewN ?_ _ | refine blk_drew ?_ | refine blk_alloc ?_ _)); exact BK552.out) hb); have n1_ := ak (below_step d23_6 hb); clear BK552 HB; have BK552 := n0_; have HB := n1_; clear n0_ n1_; (try clear hb)))
         go_ret
         exact ⟨by first | rfl | (simp [errW_none, errW_some] <;> rfl) | (simp [*, errW_none, errW_some] <;> rfl), by repeat (first | (with_reducible first | exact HB.out | apply below_alloc | apply pw_below_drewN | apply below_drew1 | refine below_set ?_ GE552.out) | exact HB.out)⟩
        ·replace c9 := Bool.eq_false_iff.mpr c9
         subst c9
         have H1 : (impl_inHeap.l0 k1 l0 l1 (l1.length : Int) (wrap64 (x10_1 + 1))) = some r := by rw [if_neg (show ¬ (false = true) by decide)] at H; exact H
         clear H
         have H := H1
         clear H1
         have H' := ak H
         clear H
         have p551 : 0 ≤ (x10_1 : Int) := of_decide_eq_true d23_4
         have q551 : x10_1 < (l1.length : Int) := of_decide_eq_true d23_4
         obtain ⟨ad551, e551, hx551_0, hx551_1, hx551_2⟩ := at_T32 HR1.out x10_1 p551 q551
         cases e551
         replace hx551_0 := (HB.out.cell (World.block_lt_of_cell? w _ hx551_0)).trans hx551_0
         replace hx551_1 := (HB.out.cell (World.block_lt_of_cell? w _ hx551_1)).trans hx551_1
         replace hx551_2 := (HB.out.cell (World.block_lt_of_cell? w _ hx551_2)).trans hx551_2
         replace p551 := eq_true p551
         replace q551 := eq_true q551
         go_wp2_with (first | ((with_reducible refine gate_dst (N := 6) rfl ?_); refine box_event ?hg (N := 6) ?hd (cs := #[.int .i64 0, .int .i64 0, .string (⟨#[]⟩ : ByteArray)]) (t := 32) ?hr ?_; (case hd => rfl); (case hg => rfl); (case hr => first | (go_simp; done) | (go_simp; rfl)); intro gb552 hg w15 hbox hb; have n0_ := ak (below_step d23_1 hb); have n1_ := ak (hbox); have n2_ := ak ((d23_8 : w.heap.size ≤ gb552)); have n3_ := ak ((d23_8 : w.heap.size ≤ gb552)); clear HB; have HB := n0_; have BK552 := n1_; have GW552 := n2_; have GE552 := n3_; clear n0_ n1_ n2_ n3_ hb hbox hg; have hcz16_0 : w15.cell? ⟨gb552, 0, none⟩ = some (.int .i64 0) := (blk_cell BK552.out 0).trans rfl; have hcz16_1 : w15.cell? ⟨gb552, 1, none⟩ = some (.int .i64 0) := (blk_cell BK552.out 1).trans rfl; have hcz16_2 : w15.cell? ⟨gb552, 2, none⟩ = some (.string (⟨#[]⟩ : ByteArray)) := (blk_cell BK552.out 2).trans rfl; have hfz16_0 := blk_frozen BK552.out 0; have hfz16_1 := blk_frozen BK552.out 1; have hfz16_2 := blk_frozen BK552.out 2) | ((with_reducible refine gate_callee (f := 55) rfl ?_); refine goesL_ (some 15) rfl rfl Tryd.func55 (by kernel_rfl) rfl #[.agg #[.int .i64 ((rd_T32 l1 x10_1).f0), .int .i64 ((rd_T32 l1 x10_1).f1), .string ((rd_T32 l1 x10_1).f2)]] rfl d23_2 ?_; (with_reducible refine (impl_ValueFault.calls k1 ((rd_T32 l1 x10_1).f0) ((rd_T32 l1 x10_1).f1) ((rd_T32 l1 x10_1).f2) t553 _ A6.out).mono ?_); rintro e w17 ⟨rfl, hb⟩; refine ⟨_, rfl, ?_⟩; have n0_ := ak (blk_below (g := gb552) (o := .cells #[.int .i64 ((rd_T32 l1 x10_1).f0), .int .i64 ((rd_T32 l1 x10_1).f1), .string ((rd_T32 l1 x10_1).f2)] 32 (0, 0)) (by (with_reducible repeat (first | refine blk_drewN ?_ _ | refine blk_drew ?_ | refine blk_alloc ?_ _)); refine blk_put (cs := #[.int .i64 ((rd_T32 l1 x10_1).f0), .int .i64 ((rd_T32 l1 x10_1).f1), .string (⟨#[]⟩ : ByteArray)]) ?_ 2 _ rfl; (with_reducible repeat (first | refine blk_drewN ?_ _ | refine blk_drew ?_ | refine blk_alloc ?_ _)); refine blk_put (cs := #[.int .i64 ((rd_T32 l1 x10_1).f0), .int .i64 0, .string (⟨#[]⟩ : ByteArray)]) ?_ 1 _ rfl; (with_reducible repeat (first | refine blk_drewN ?_ _ | refine blk_drew ?_ | refine blk_alloc ?_ _)); refine blk_put (cs := #[.int .i64 0, .int .i64 0, .string (⟨#[]⟩ : ByteArray)]) ?_ 0 _ rfl; (with_reducible repeat (first | refine blk_drewN ?_ _ | refine blk_drew ?_ | refine blk_alloc ?_ _)); exact BK552.out) hb); have n1_ := ak (below_step d23_6 hb); clear BK552 HB; have BK552 := n0_; have HB := n1_; clear n0_ n1_; (try clear hb); have hcz18_0 : w17.cell? ⟨gb552, 0, none⟩ = some (.int .i64 ((rd_T32 l1 x10_1).f0)) := (blk_cell BK552.out 0).trans rfl; have hcz18_1 : w17.cell? ⟨gb552, 1, none⟩ = some (.int .i64 ((rd_T32 l1 x10_1).f1)) := (blk_cell BK552.out 1).trans rfl; have hcz18_2 : w17.cell? ⟨gb552, 2, none⟩ = some (.string ((rd_T32 l1 x10_1).f2)) := (blk_cell BK552.out 2).trans rfl; have hfz18_0 := blk_frozen BK552.out 0; have hfz18_1 := blk_frozen BK552.out 1; have hfz18_2 := blk_frozen BK552.out 2) | ((with_reducible refine gate_callee (f := 113) rfl ?_); refine goesL_ (some 22) rfl rfl Tryd.func113 (by kernel_rfl) rfl #[.agg #[.int .i64 ((rd_T32 l1 x10_1).f0), .int .i64 ((rd_T32 l1 x10_1).f1), .string ((rd_T32 l1 x10_1).f2)], .int .i64 (l0.length : Int)] rfl d23_2 ?_; (with_reducible refine (impl_isBeyond.calls ((rd_T32 l1 x10_1).f0) ((rd_T32 l1 x10_1).f1) ((rd_T32 l1 x10_1).f2) (l0.length : Int) false _ A8.out).mono ?_); rintro e w19 ⟨rfl, hb⟩; refine ⟨_, rfl, ?_⟩; have n0_ := ak (blk_below (g := gb552) (o := .cells #[.int .i64 ((rd_T32 l1 x10_1).f0), .int .i64 ((rd_T32 l1 x10_1).f1), .string ((rd_T32 l1 x10_1).f2)] 32 (0, 0)) (by (with_reducible repeat (first | refine blk_drewN ?_ _ | refine blk_drew ?_ | refine blk_alloc ?_ _)); exact BK552.out) hb); have n1_ := ak (below_step d23_6 hb); clear BK552 HB; have BK552 := n0_; have HB := n1_; clear n0_ n1_; (try clear hb)))
         go_roundg k1
         case measure => have := HK1.out; omega
         case rel => exact ⟨(wrap64 (x10_1 + 1)), d23_7, H', ⟨by have := HK1.out; omega⟩, ⟨by repeat (first | (with_reducible first | exact HB.out | apply below_alloc | apply pw_below_drewN | apply below_drew1 | refine below_set ?_ GE552.out) | exact HB.out)⟩⟩
       ·rw [if_neg c7] at H
        have c7b0 : (t553 == 0) = false := beq_eq_false_iff_ne.mpr c7
        have c7b1 : (t553 != 0) = true := bne_iff_ne.mpr c7
        obtain rfl := Option.some.inj H
        have p551 : 0 ≤ (x10_1 : Int) := of_decide_eq_true d23_4
        have q551 : x10_1 < (l1.length : Int) := of_decide_eq_true d23_4
        obtain ⟨ad551, e551, hx551_0, hx551_1, hx551_2⟩ := at_T32 HR1.out x10_1 p551 q551
        cases e551
        replace hx551_0 := (HB.out.cell (World.block_lt_of_cell? w _ hx551_0)).trans hx551_0
        replace hx551_1 := (HB.out.cell (World.block_lt_of_cell? w _ hx551_1)).trans hx551_1
        replace hx551_2 := (HB.out.cell (World.block_lt_of_cell? w _ hx551_2)).trans hx551_2
        replace p551 := eq_true p551
        replace q551 := eq_true q551
        go_wp2_with (first | ((with_reducible refine gate_dst (N := 6) rfl ?_); refine box_event ?hg (N := 6) ?hd (cs := #[.int .i64 0, .int .i64 0, .string (⟨#[]⟩ : ByteArray)]) (t := 32) ?hr ?_; (case hd => rfl); (case hg => rfl); (case hr => first | (go_simp; done) | (go_simp; rfl)); intro gb552 hg w20 hbox hb; have n0_ := ak (below_step d23_1 hb); have n1_ := ak (hbox); have n2_ := ak ((d23_8 : w.heap.size ≤ gb552)); have n3_ := ak ((d23_8 : w.heap.size ≤ gb552)); clear HB; have HB := n0_; have BK552 := n1_; have GW552 := n2_; have GE552 := n3_; clear n0_ n1_ n2_ n3_ hb hbox hg; have hcz21_0 : w20.cell? ⟨gb552, 0, none⟩ = some (.int .i64 0) := (blk_cell BK552.out 0).trans rfl; have hcz21_1 : w20.cell? ⟨gb552, 1, none⟩ = some (.int .i64 0) := (blk_cell BK552.out 1).trans rfl; have hcz21_2 : w20.cell? ⟨gb552, 2, none⟩ = some (.string (⟨#[]⟩ : ByteArray)) := (blk_cell BK552.out 2).trans rfl; have hfz21_0 := blk_frozen BK552.out 0; have hfz21_1 := blk_frozen BK552.out 1; have hfz21_2 := blk_frozen BK552.out 2) | ((with_reducible refine gate_callee (f := 55) rfl ?_); refine goesL_ (some 15) rfl rfl Tryd.func55 (by kernel_rfl) rfl #[.agg #[.int .i64 ((rd_T32 l1 x10_1).f0), .int .i64 ((rd_T32 l1 x10_1).f1), .string ((rd_T32 l1 x10_1).f2)]] rfl d23_2 ?_; (with_reducible refine (impl_ValueFault.calls k1 ((rd_T32 l1 x10_1).f0) ((rd_T32 l1 x10_1).f1) ((rd_T32 l1 x10_1).f2) t553 _ A6.out).mono ?_); rintro e w22 ⟨rfl, hb⟩; refine ⟨_, rfl, ?_⟩; have n0_ := ak (blk_below (g := gb552) (o := .cells #[.int .i64 ((rd_T32 l1 x10_1).f0), .int .i64 ((rd_T32 l1 x10_1).f1), .string ((rd_T32 l1 x10_1).f2)] 32 (0, 0)) (by (with_reducible repeat (first | refine blk_drewN ?_ _ | refine blk_drew ?_ | refine blk_alloc ?_ _)); refine blk_put (cs := #[.int .i64 ((rd_T32 l1 x10_1).f0), .int .i64 ((rd_T32 l1 x10_1).f1), .string (⟨#[]⟩ : ByteArray)]) ?_ 2 _ rfl; (with_reducible repeat (first | refine blk_drewN ?_ _ | refine blk_drew ?_ | refine blk_alloc ?_ _)); refine blk_put (cs := #[.int .i64 ((rd_T32 l1 x10_1).f0), .int .i64 0, .string (⟨#[]⟩ : ByteArray)]) ?_ 1 _ rfl; (with_reducible repeat (first | refine blk_drewN ?_ _ | refine blk_drew ?_ | refine blk_alloc ?_ _)); refine blk_put (cs := #[.int .i64 0, .int .i64 0, .string (⟨#[]⟩ : ByteArray)]) ?_ 0 _ rfl; (with_reducible repeat (first | refine blk_drewN ?_ _ | refine blk_drew ?_ | refine blk_alloc ?_ _)); exact BK552.out) hb); have n1_ := ak (below_step d23_6 hb); clear BK552 HB; have BK552 := n0_; have HB := n1_; clear n0_ n1_; (try clear hb)))
        go_ret
        exact ⟨by first | rfl | (simp [errW_none, errW_some] <;> rfl) | (simp [*, errW_none, errW_some] <;> rfl), by repeat (first | (with_reducible first | exact HB.out | apply below_alloc | apply pw_below_drewN | apply below_drew1 | refine below_set ?_ GE552.out) | exact HB.out)⟩
      ·rw [if_neg c5] at H
       exact absurd H (by simp)
     ·rw [if_neg c4] at H
      exact absurd H (by simp)
    ·rw [if_neg c3] at H
     have c3b0 : decide (x10_1 < (l1.length : Int)) = false := decide_eq_false c3
     clear c3
     obtain rfl := Option.some.inj H
     go_wp2
     go_ret
     exact ⟨by first | rfl | (simp [errW_none, errW_some] <;> rfl) | (simp [*, errW_none, errW_some] <;> rfl), by repeat (first | (with_reducible first | exact HB.out | apply below_alloc | apply pw_below_drewN | apply below_drew1) | exact HB.out)⟩

/-! ### impl_heapFault: function 75 -/
def impl_heapFault.f (k : Nat) (l0 : List (S112)) (l1 : List (S32)) : Option (Int) := (impl_HeapFault.f k l0).bind fun t555 => (if t555 = 0 then ((impl_inHeap.f k l0 l1).bind fun t556 => (some t556)) else (some t555))
theorem impl_heapFault.mono : ∀ a0 a1 k, LeO (impl_heapFault.f k a0 a1) (impl_heapFault.f (k + 1) a0 a1) := by
  intro a0 a1 k
  unfold impl_heapFault.f
  repeat' first
      | (with_reducible exact impl_HeapFault.mono _ _)
      | (with_reducible exact impl_inHeap.mono _ _ _)
      | (with_reducible exact LeO.refl _)
      | (with_reducible exact LeO.none _)
      | (with_reducible refine LeO.ite ?_ ?_)
      | (with_reducible refine LeO.bind ?_ (fun _ => ?_))
      | exact impl_HeapFault.mono _ _
      | exact impl_inHeap.mono _ _ _
      | exact LeO.none _
      | refine LeO.ite ?_ ?_
      | refine LeO.bind ?_ (fun _ => ?_)
set_option maxHeartbeats 8000000 in
set_option maxRecDepth 100000 in
theorem impl_heapFault.calls (k : Nat) (A0 : Option Addr) (c0 : Nat) (l0 : List (S112)) (A1 : Option Addr) (c1 : Nat) (l1 : List (S32)) (r : Int) (w : World) (hr0 : Kd.C k112 w A0 l0.length l0) (hc0 : l0.length ≤ c0) (hr1 : Kd.C k32 w A1 l1.length l1) (hc1 : l1.length ≤ c1) (h : impl_heapFault.f k l0 l1 = some r) :
    Calls Tryd.prog 75 #[.slice A0 l0.length c0, .slice A1 l1.length c1] w fun e w' => e = .returned (.int .i64 r) ∧ Below w.heap.size w w' := by
  have HR0 := ak hr0
  have HC0 := ak hc0
  clear hr0 hc0
  have HR1 := ak hr1
  have HC1 := ak hc1
  clear hr1 hc1
  have HB := ak (Below.refl w.heap.size w)
  have H : ((impl_HeapFault.f k l0).bind fun t555 => (if t555 = 0 then ((impl_inHeap.f k l0 l1).bind fun t556 => (some t556)) else (some t555))) = some r := h
  clear h
  replace H := Option.bind_eq_some_iff.mp H
  obtain ⟨t555, A30, H⟩ := H
  replace H : (if t555 = 0 then ((impl_inHeap.f k l0 l1).bind fun t556 => (some t556)) else (some t555)) = some r := H
  have A3 := ak A30
  clear A30
  by_cases c4 : t555 = 0
  ·rw [if_pos c4] at H
   have c4b0 : (t555 == 0) = true := beq_iff_eq.mpr c4
   have c4b1 : (t555 != 0) = false := bne_eq_false_iff_eq.mpr c4
   clear c4
   replace H := Option.bind_eq_some_iff.mp H
   obtain ⟨t556, A50, H⟩ := H
   replace H : (some t556) = some r := H
   have A5 := ak A50
   clear A50
   obtain rfl := Option.some.inj H
   go_enter Tryd.func75, Tryd.ntmps75
   go_wp2_with (first | ((with_reducible refine gate_callee (f := 102) rfl ?_); refine goesL_ (some 7) rfl rfl Tryd.func102 (by kernel_rfl) rfl #[.slice A0 l0.length c0] rfl d23_2 ?_; (with_reducible refine (impl_HeapFault.calls k _ _ l0 t555 _ ?side1 ?side2 A3.out).mono ?_); (case side1 => repeat (first | exact HR0.out | (with_reducible refine Kd.C_alloc ?_ _) | (with_reducible refine Kd.C_drewN ?_ _) | (with_reducible refine Kd.C_drew ?_))); (case side2 => exact HC0.out); rintro e w6 ⟨rfl, hb⟩; refine ⟨_, rfl, ?_⟩; have n0_ := ak (below_step d23_1 hb); clear HB; have HB := n0_; clear n0_; (try clear hb)) | ((with_reducible refine gate_callee (f := 103) rfl ?_); refine goesL_ (some 13) rfl rfl Tryd.func103 (by kernel_rfl) rfl #[.slice A0 l0.length c0, .slice A1 l1.length c1] rfl d23_2 ?_; (with_reducible refine (impl_inHeap.calls k _ _ l0 _ _ l1 t556 _ ?side1 ?side2 ?side3 ?side4 A5.out).mono ?_); (case side1 => repeat (first | exact (Kd.C_below HR0.out HB.out) | (with_reducible refine Kd.C_alloc ?_ _) | (with_reducible refine Kd.C_drewN ?_ _) | (with_reducible refine Kd.C_drew ?_))); (case side2 => exact HC0.out); (case side3 => repeat (first | exact (Kd.C_below HR1.out HB.out) | (with_reducible refine Kd.C_alloc ?_ _) | (with_reducible refine Kd.C_drewN ?_ _) | (with_reducible refine Kd.C_drew ?_))); (case side4 => exact HC1.out); rintro e w7 ⟨rfl, hb⟩; refine ⟨_, rfl, ?_⟩; have n0_ := ak (below_step d23_1 hb); clear HB; have HB := n0_; clear n0_; (try clear hb)))
   go_ret
   exact ⟨by first | rfl | (simp [errW_none, errW_some] <;> rfl) | (simp [*, errW_none, errW_some] <;> rfl), by repeat (first | (with_reducible first | exact HB.out | apply below_alloc | apply pw_below_drewN | apply below_drew1) | exact HB.out)⟩
  ·rw [if_neg c4] at H
   have c4b0 : (t555 == 0) = false := beq_eq_false_iff_ne.mpr c4
   have c4b1 : (t555 != 0) = true := bne_iff_ne.mpr c4
   obtain rfl := Option.some.inj H
   go_enter Tryd.func75, Tryd.ntmps75
   go_wp2_with (first | ((with_reducible refine gate_callee (f := 102) rfl ?_); refine goesL_ (some 7) rfl rfl Tryd.func102 (by kernel_rfl) rfl #[.slice A0 l0.length c0] rfl d23_2 ?_; (with_reducible refine (impl_HeapFault.calls k _ _ l0 t555 _ ?side1 ?side2 A3.out).mono ?_); (case side1 => repeat (first | exact HR0.out | (with_reducible refine Kd.C_alloc ?_ _) | (with_reducible refine Kd.C_drewN ?_ _) | (with_reducible refine Kd.C_drew ?_))); (case side2 => exact HC0.out); rintro e w8 ⟨rfl, hb⟩; refine ⟨_, rfl, ?_⟩; have n0_ := ak (below_step d23_1 hb); clear HB; have HB := n0_; clear n0_; (try clear hb)))
   go_ret
   exact ⟨by first | rfl | (simp [errW_none, errW_some] <;> rfl) | (simp [*, errW_none, errW_some] <;> rfl), by repeat (first | (with_reducible first | exact HB.out | apply below_alloc | apply pw_below_drewN | apply below_drew1) | exact HB.out)⟩

end Go.Proofs.YtaeeoljihmndfaaDoor.A
