/- Walks of the program's functions: each Go function's answer as a plain Lean function, and that the call comes to it. Written by a program. Conditions: those in each theorem's own head. -/
import Derived.Test.YtolhanigjmhkgabDoorA0
import Derived.Test.YtolhanigjmhkgabDoorA5
namespace Go.Proofs.YtolhanigjmhkgabDoor.A
open Go.RowKit Go.Proofs.YtolhanigjmhkgabDoorW.PrintWords Go.Proofs.YtolhanigjmhkgabDoorW.PrintLast Go.Proofs.YtolhanigjmhkgabDoorW.PrintMore
attribute [local go_sem] max2_int min2_int max_two min_two max_three min_three max_four min_four   -- for this text's walks alone
set_option linter.unusedVariables false
set_option linter.unusedSimpArgs false

theorem b6N {w : World} {g : Nat} {o : Obj} (h : w.heap[g]? = some o) (n : Nat) : (w.drewN n).heap[g]? = some o := h
theorem b6D {w : World} {g : Nat} {o : Obj} (h : w.heap[g]? = some o) : (w.drew).heap[g]? = some o := h
theorem b6L {w : World} {g : Nat} {o : Obj} (h : w.heap[g]? = some o) (o' : Obj) : (w.alloc o').heap[g]? = some o := blk_alloc h o'
theorem d6_1 {p : Prop} (h : p := by (try simp only [List.map_toArray, List.map_cons, List.map_nil]); first | done | rfl | (simp only [List.length_drop, List.length_take]; rfl)) : p := h
theorem d6_2 {p : Prop} (h : p := by repeat (first | (with_reducible first | exact HB.out | apply below_alloc | apply pw_below_drewN | apply below_drew1) | exact HB.out)) : p := h
theorem d6_3 {p : Prop} (h : p := by first | rfl | (simp; done) | (simp [*]; done) | (simp [ne_nil_b, eq_nil_b]; done)) : p := h
theorem d6_4 {p : Prop} (h : p := by first | (with_reducible assumption) | assumption) : p := h
theorem d6_5 {p : Prop} (h : p := by (with_reducible repeat first | apply b6N | apply b6D | apply b6L); exact BK228.out) : p := h
theorem d6_6 {p : Prop} (h : p := by repeat (first | (with_reducible first | exact HB.out | apply below_alloc | apply pw_below_drewN | apply below_drew1 | refine below_set ?_ GE228.out | refine below_set ?_ GE229.out) | exact HB.out)) : p := h
theorem d6_7 {p : Prop} (h : p := by repeat (first | (with_reducible first | exact HB.out | apply below_alloc | apply pw_below_drewN | apply below_drew1 | refine below_set ?_ GE228.out) | exact HB.out)) : p := h
theorem c6_1 {p : Prop} (h : p := by repeat (first | (with_reducible first | exact HB.out | apply below_alloc | apply pw_below_drewN | apply below_drew1 | refine below_set ?_ GE247.out) | exact HB.out)) : p := h
theorem c6_2 {p : Prop} (h : p := by repeat (first | (with_reducible first | exact HB.out | apply below_alloc | apply pw_below_drewN | apply below_drew1) | exact HB.out)) : p := h
theorem c6_3 {p : Prop} (h : p := by first | rfl | (simp [errW_none, errW_some] <;> rfl) | (simp [*, errW_none, errW_some] <;> rfl)) : p := h
theorem c6_4 {p : Prop} (h : p := by (with_reducible repeat first | apply b6N | apply b6D | apply b6L); exact BK247.out) : p := h
set_option maxHeartbeats 8000000
set_option maxRecDepth 100000
theorem z6c {w : World} {g : Nat} {t : TypeId} {cs : Array Value} (h : w.heap[g]? = some (.cells cs t (0, 0))) (i : Nat) {v : Value} (e : cs[i]? = some v) : w.cell? ⟨g, i, none⟩ = some v := (blk_cell h i).trans e
theorem z6f {w : World} {g : Nat} {t : TypeId} {cs : Array Value} (h : w.heap[g]? = some (.cells cs t (0, 0))) (i : Nat) : w.frozen? ⟨g, i, none⟩ = false := blk_frozen h i
theorem zm6_0 {p : Prop} (h : p := by repeat' first | (with_reducible first | apply ih0 | exact LeO.refl _ | exact LeO.none _ | refine LeO.ite ?_ ?_ | refine LeO.bind ?_ (fun _ => ?_)) | apply ih0 | exact LeO.none _ | refine LeO.ite ?_ ?_ | refine LeO.bind ?_ (fun _ => ?_)) : p := h

/-! ### laws_toPairS: function 7 -/
def laws_toPairS.l0 : Nat → List (S45) → List (S55) → Int → Option ((List (S55)))
  | 0, _, _, _ => none
  | k + 1, x0, x3, x4 => if x4 < (x0.length : Int) then (if 0 ≤ x4 then ((laws_toPair.f ((rd_T45 x0 x4).f0.f0) ((rd_T45 x0 x4).f0.f1) ((rd_T45 x0 x4).f0.f2) ((rd_T45 x0 x4).f1.f0) ((rd_T45 x0 x4).f1.f1) ((rd_T45 x0 x4).f1.f2)).bind fun bt221 => (if x4 < (x3.length : Int) then (laws_toPairS.l0 k x0 (x3.set (x4 : Int).toNat (⟨(⟨bt221.1, bt221.2.1, bt221.2.2.1⟩ : S28), (⟨bt221.2.2.2.1, bt221.2.2.2.2.1, bt221.2.2.2.2.2⟩ : S28)⟩ : S55)) (wrap64 (x4 + 1))) else (none))) else (none)) else (some x3)
def laws_toPairS.f (k : Nat) (l0 : List (S45)) : Option ((List (S55))) := if 0 ≤ (l0.length : Int) then (if ((l0.length : Int) : Int).toNat ≤ 4398046511104 then (laws_toPairS.l0 k l0 (List.replicate ((l0.length : Int) : Int).toNat z55) 0) else (none)) else (none)
theorem laws_toPairS.mono_l : ∀ k, (∀ y0 y1 y2, LeO (laws_toPairS.l0 k y0 y1 y2) (laws_toPairS.l0 (k + 1) y0 y1 y2))
  | 0 => fun _ _ _ r h => by simp [laws_toPairS.l0] at h
  | k + 1 => by
    have ih0 := laws_toPairS.mono_l k
    · intro y0 y1 y2
      unfold laws_toPairS.l0
      exact zm6_0
theorem laws_toPairS.mono : ∀ a0 k, LeO (laws_toPairS.f k a0) (laws_toPairS.f (k + 1) a0) := by
  intro a0 k; have ih0 := laws_toPairS.mono_l k; unfold laws_toPairS.f
  exact zm6_0
theorem laws_toPairS.calls (k : Nat) (A0 : Option Addr) (c0 : Nat) (l0 : List (S45)) (r : List (S55)) (w : World) (hr0 : Kd.C k45 w A0 l0.length l0) (hc0 : l0.length ≤ c0) (h : laws_toPairS.f k l0 = some r) :
    Calls Tryd.prog 7 #[.slice A0 l0.length c0] w fun e w' => ∃ v0_ : Value, e = .returned (v0_) ∧ Kd.R k55 55 w' w.heap.size (fun _ => True) v0_ r ∧ Below w.heap.size w w' := by
  have hu45 := Tryd.underlying45; have hu55 := Tryd.underlying55; have HR0 := ak hr0; have HC0 := ak hc0; clear hr0 hc0; have HB := ak (Below.refl w.heap.size w); have H := h; clear h; unfold laws_toPairS.f at H; by_cases c2 : 0 ≤ (l0.length : Int)
  ·rw [if_pos c2] at H
   have c2b0 := eq_true c2; have c2b1 : decide (0 ≤ (l0.length : Int)) = true := decide_eq_true c2; clear c2; by_cases c3 : ((l0.length : Int) : Int).toNat ≤ 4398046511104
   ·rw [if_pos c3] at H
    have c3b0 := eq_true c3; have c3b1 : decide (((l0.length : Int) : Int).toNat ≤ 4398046511104) = true := decide_eq_true c3; clear c3; obtain ⟨y217, hy217⟩ : ∃ y_ : List (S55), y_ = (List.replicate ((l0.length : Int) : Int).toNat z55) := ⟨_, rfl⟩
    replace H : (laws_toPairS.l0 k l0 y217 0) = some r := by first | (rw [hy217]; with_reducible exact H) | (have H2_ := (Option.bind_some _ _).symm.trans H; rw [hy217]; with_reducible exact H2_) | (have H2_ := (Option.bind_some _ _).symm.trans H; with_reducible exact H2_) | with_reducible exact H | (rw [hy217]; exact H) | exact H
    have Ny217 := ak hy217; clear hy217; have H' := ak H; clear H; go_enter Tryd.func7, Tryd.ntmps7; go_wp2_with (first | ((with_reducible refine gate_dst (N := 7) rfl ?_); refine Kd.R_make k55 _ 55 rfl (N := 7) rfl 26 _ _ rfl (l0.length : Int) rfl rfl Tryd.underlying26 (.agg #[(.int .i64 0), (.int .i64 0), (.string ⟨#[]⟩), (.int .i64 0), (.int .i64 0), (.string ⟨#[]⟩)]) 64 info55 rfl (by decide) (by omega) z55 (ok := fun _ => True) (okp := fun _ => True) (k55_mkM _ _ _ z55 ) (fun _ hk => hk) trivial (of_decide_eq_true d6_4) (Nat.le_trans (Nat.mul_le_mul_right _ (of_decide_eq_true d6_4 : (l0.length : Int).toNat ≤ 4398046511104)) (by omega)) (Below.refl _ _) (Nat.le_refl _) ?_; intro v218 w4 ho5 hb hg_ hnew_; clear hg_ hnew_; (first | rw [← Ny217.out] at ho5 | (simp only [Int.reduceToNat] at ho5; rw [← Ny217.out] at ho5)); have HO219 := ak (Kd.R_lower ho5 (below_size d6_2)); replace HB := ak (below_step d6_2 hb); clear hb ho5)); go_loopg [4] k (fun kq v4 w' => ∃ (x3_1 : List (S55)) (x4_1 : Int), v4 = .int .i64 x4_1 ∧ Aside0 (laws_toPairS.l0 kq l0 x3_1 x4_1 = some r) ∧ Aside0 (kq ≤ k) ∧ Aside0 (Kd.R k55 55 w' w.heap.size (fun _ => True) v218 x3_1) ∧ Aside0 (Below w.heap.size w w'))
    case atStart => exact ⟨(y217), (0), d6_3, H', ⟨Nat.le_refl _⟩, ⟨by (with_reducible repeat (first | apply Kd.R_alloc | apply Kd.R_drewN | apply Kd.R_drew)); exact HO219.out⟩, ⟨c6_2⟩⟩
    case round =>
     clear H'
     (try clear c2 c2b0 c2b1); (try clear p2); (try clear c3 c3b0 c3b1)
     obtain ⟨x3_1, x4_1, rfl, HA, HK1, HO_3, HB⟩ := hrel
     cases gk with
     | zero => exact absurd HA.out (by simp [laws_toPairS.l0])
     | succ k1 =>
      have H := HA.out; clear HA; simp only [laws_toPairS.l0] at H; by_cases c6 : x4_1 < (l0.length : Int)
      ·rw [if_pos c6] at H
       have c6b0 : decide (x4_1 < (l0.length : Int)) = true := decide_eq_true c6; clear c6; by_cases c7 : 0 ≤ x4_1
       ·rw [if_pos c7] at H
        have c7b0 : decide (0 ≤ x4_1) = true := decide_eq_true c7; clear c7; obtain ⟨⟨t221, t222, t223, t224, t225, t226⟩, A8, H⟩ := zbi_ H; (try dsimp -simprocs only at H); by_cases c9 : x4_1 < (x3_1.length : Int)
        ·rw [if_pos c9] at H
         have c9b0 : decide (x4_1 < (x3_1.length : Int)) = true := decide_eq_true c9; clear c9; obtain ⟨y227, hy227⟩ : ∃ y_ : List (S55), y_ = (x3_1.set (x4_1 : Int).toNat (⟨(⟨t221, t222, t223⟩ : S28), (⟨t224, t225, t226⟩ : S28)⟩ : S55)) := ⟨_, rfl⟩
         replace H : (laws_toPairS.l0 k1 l0 y227 (wrap64 (x4_1 + 1))) = some r := by first | (rw [hy227]; with_reducible exact H) | (have H2_ := (Option.bind_some _ _).symm.trans H; rw [hy227]; with_reducible exact H2_) | (have H2_ := (Option.bind_some _ _).symm.trans H; with_reducible exact H2_) | with_reducible exact H | (rw [hy227]; exact H) | exact H
         have Ny227 := ak hy227; clear hy227; have H' := ak H; clear H; have p220 : 0 ≤ (x4_1 : Int) := of_decide_eq_true d6_4; have q220 : x4_1 < (l0.length : Int) := of_decide_eq_true d6_4; obtain ⟨ad220, e220, hx220_0, hx220_1, hx220_2, hx220_3, hx220_4, hx220_5⟩ := at_T45 HR0.out x4_1 p220 q220
         cases e220
         replace hx220_0 := zkc_ HB.out hx220_0; replace hx220_1 := zkc_ HB.out hx220_1; replace hx220_2 := zkc_ HB.out hx220_2; replace hx220_3 := zkc_ HB.out hx220_3; replace hx220_4 := zkc_ HB.out hx220_4; replace hx220_5 := zkc_ HB.out hx220_5; replace p220 := eq_true p220; replace q220 := eq_true q220
         go_wp2_with (first | ((with_reducible refine gate_callee (f := 23) rfl ?_); refine zgo_ 20 Tryd.func23 #[.agg #[.int .i64 ((rd_T45 l0 x4_1).f0.f0), .int .i64 ((rd_T45 l0 x4_1).f0.f1), .string ((rd_T45 l0 x4_1).f0.f2), .int .i64 ((rd_T45 l0 x4_1).f1.f0), .int .i64 ((rd_T45 l0 x4_1).f1.f1), .string ((rd_T45 l0 x4_1).f1.f2)]] ?_ (e := d6_1); (with_reducible refine (laws_toPair.calls ((rd_T45 l0 x4_1).f0.f0) ((rd_T45 l0 x4_1).f0.f1) ((rd_T45 l0 x4_1).f0.f2) ((rd_T45 l0 x4_1).f1.f0) ((rd_T45 l0 x4_1).f1.f1) ((rd_T45 l0 x4_1).f1.f2) t221 t222 t223 t224 t225 t226 _ A8.out).mono ?_); rintro e w11 ⟨rfl, hb⟩; refine ⟨_, rfl, ?_⟩; replace HO_3 := ak (Kd.R_below (by (with_reducible repeat (first | apply Kd.R_alloc | apply Kd.R_drewN | apply Kd.R_drew)); exact HO_3.out) hb); replace HB := ak (below_step d6_2 hb); (try clear hb); (try clear hk); have p10 : 0 ≤ (x4_1 : Int) := of_decide_eq_true d6_4; have q10 : (x4_1 : Int) < ((x3_1.length : Int) : Int) := of_decide_eq_true d6_4; obtain ⟨go10, co10, eo10, gb10, gl10, cl10, HG10⟩ := Kd.R_form HO_3.out (by omega); (first | cases eo10 | (injection eo10 with ea_ en_ ec_; (first | subst ea_ | (injection ea_ with ea_; subst ea_)); subst ec_; clear en_)); have GB10 := ak gb10; have GG10 := ak HG10; clear gb10 gl10 HG10; obtain ⟨ce10, hcl10, hM10, hcc10, hfr10⟩ := Kd.R_elem HO_3.out z55 (x4_1 : Int) p10 q10; obtain rfl := k55_openM hM10; have hx10_0 : w11.cell? ⟨go10, (x4_1 : Int).toNat * 6, none⟩ = some (.int .i64 ((rd_T55 x3_1 x4_1).f0.f0)) := hcc10 0 _ rfl; have hx10_1 : w11.cell? ⟨go10, (x4_1 : Int).toNat * 6 + 1, none⟩ = some (.int .i64 ((rd_T55 x3_1 x4_1).f0.f1)) := hcc10 1 _ rfl; have hx10_2 : w11.cell? ⟨go10, (x4_1 : Int).toNat * 6 + 2, none⟩ = some (.string ((rd_T55 x3_1 x4_1).f0.f2)) := hcc10 2 _ rfl; have hx10_3 : w11.cell? ⟨go10, (x4_1 : Int).toNat * 6 + 3, none⟩ = some (.int .i64 ((rd_T55 x3_1 x4_1).f1.f0)) := hcc10 3 _ rfl; have hx10_4 : w11.cell? ⟨go10, (x4_1 : Int).toNat * 6 + 4, none⟩ = some (.int .i64 ((rd_T55 x3_1 x4_1).f1.f1)) := hcc10 4 _ rfl; have hx10_5 : w11.cell? ⟨go10, (x4_1 : Int).toNat * 6 + 5, none⟩ = some (.string ((rd_T55 x3_1 x4_1).f1.f2)) := hcc10 5 _ rfl; have hf10_0 : w11.frozen? ⟨go10, (x4_1 : Int).toNat * 6, none⟩ = false := hfr10 0; have hf10_1 : w11.frozen? ⟨go10, (x4_1 : Int).toNat * 6 + 1, none⟩ = false := hfr10 1; have hf10_2 : w11.frozen? ⟨go10, (x4_1 : Int).toNat * 6 + 2, none⟩ = false := hfr10 2; have hf10_3 : w11.frozen? ⟨go10, (x4_1 : Int).toNat * 6 + 3, none⟩ = false := hfr10 3; have hf10_4 : w11.frozen? ⟨go10, (x4_1 : Int).toNat * 6 + 4, none⟩ = false := hfr10 4; have hf10_5 : w11.frozen? ⟨go10, (x4_1 : Int).toNat * 6 + 5, none⟩ = false := hfr10 5; clear hcl10 hcc10 hfr10 hM10; replace p10 := eq_true p10; replace q10 := eq_true q10; have HX12 := ak (show Kd.R k55 55 w11 w.heap.size (fun _ => True) (.slice (some ⟨go10, 0, none⟩) x3_1.length co10) x3_1 from (by (with_reducible repeat (first | apply Kd.R_alloc | apply Kd.R_drewN | apply Kd.R_drew)); exact HO_3.out)); obtain ⟨ce12, hcl12, hM12, hcc12, hfr12⟩ := Kd.R_elem HX12.out z55 (x4_1 : Int) (of_decide_eq_true d6_4) (by have h_ : (x4_1 : Int) < ((x3_1.length : Int) : Int) := of_decide_eq_true d6_4; first | exact h_ | (have e_ := (Kd.R_reads' HO_3.out).1; omega) | simpa using h_); obtain rfl := k55_openM hM12; have HP12 := Kd.R_seg HX12.out (x4_1 : Int) (of_decide_eq_true d6_4) (by have h_ : (x4_1 : Int) < ((x3_1.length : Int) : Int) := of_decide_eq_true d6_4; first | exact h_ | (have e_ := (Kd.R_reads' HO_3.out).1; omega) | simpa using h_) (seg := [.int .i64 t221, .int .i64 t222, .string t223, .int .i64 t224, .int .i64 t225, .string t226]) (j := 0) hcl12 hcc12 (show 6 ≤ 6 from by decide) (x' := (⟨(⟨t221, t222, t223⟩ : S28), (⟨t224, t225, t226⟩ : S28)⟩ : S55)) (k55_mkM _ _ _ (⟨(⟨t221, t222, t223⟩ : S28), (⟨t224, t225, t226⟩ : S28)⟩ : S55) ) (fun _ hk => hk); have hx12_0 := hcc12 0 _ rfl; (try simp only [show (k55).sz = 6 from rfl, Nat.mul_one, Nat.add_zero] at hx12_0); have hf12_0 := hfr12 0; (try simp only [show (k55).sz = 6 from rfl, Nat.mul_one, Nat.add_zero] at hf12_0); have hx12_1 := hcc12 1 _ rfl; (try simp only [show (k55).sz = 6 from rfl, Nat.mul_one, Nat.add_zero] at hx12_1); have hf12_1 := hfr12 1; (try simp only [show (k55).sz = 6 from rfl, Nat.mul_one, Nat.add_zero] at hf12_1); have hx12_2 := hcc12 2 _ rfl; (try simp only [show (k55).sz = 6 from rfl, Nat.mul_one, Nat.add_zero] at hx12_2); have hf12_2 := hfr12 2; (try simp only [show (k55).sz = 6 from rfl, Nat.mul_one, Nat.add_zero] at hf12_2); have hx12_3 := hcc12 3 _ rfl; (try simp only [show (k55).sz = 6 from rfl, Nat.mul_one, Nat.add_zero] at hx12_3); have hf12_3 := hfr12 3; (try simp only [show (k55).sz = 6 from rfl, Nat.mul_one, Nat.add_zero] at hf12_3); have hx12_4 := hcc12 4 _ rfl; (try simp only [show (k55).sz = 6 from rfl, Nat.mul_one, Nat.add_zero] at hx12_4); have hf12_4 := hfr12 4; (try simp only [show (k55).sz = 6 from rfl, Nat.mul_one, Nat.add_zero] at hf12_4); have hx12_5 := hcc12 5 _ rfl; (try simp only [show (k55).sz = 6 from rfl, Nat.mul_one, Nat.add_zero] at hx12_5); have hf12_5 := hfr12 5; (try simp only [show (k55).sz = 6 from rfl, Nat.mul_one, Nat.add_zero] at hf12_5); clear hcl12 hcc12 hfr12 hM12) | ((with_reducible refine gate_store (t := 55) (p := 21) rfl ?_); refine store_event (t := 55) (p := 21) (v := ?vo_w13) (w1 := ((((((w11.setCell ⟨go10, (x4_1 : Int).toNat * 6, none⟩ (.int .i64 t221)).setCell ⟨go10, (x4_1 : Int).toNat * 6 + 1, none⟩ (.int .i64 t222)).setCell ⟨go10, (x4_1 : Int).toNat * 6 + 2, none⟩ (.string t223)).setCell ⟨go10, (x4_1 : Int).toNat * 6 + 3, none⟩ (.int .i64 t224)).setCell ⟨go10, (x4_1 : Int).toNat * 6 + 4, none⟩ (.int .i64 t225)).setCell ⟨go10, (x4_1 : Int).toNat * 6 + 5, none⟩ (.string t226))) ?hg ?ho ?hn ?hr ?_; (case ho => rfl); (case hg => rfl); (case hn => rfl); (case hr => first | (go_simp; done) | (go_simp; rfl)); intro w13 hw; have hg : w11.grownBy w13 (some go10) := (by rw [hw]; exact HP12.2); have hp_ : Kd.R k55 55 w13 w.heap.size (fun _ => True) (.slice (some ⟨go10, 0, none⟩) x3_1.length co10) y227 := (by rw [hw, Ny227.out]; exact HP12.1); clear HP12; replace HO_3 := ak (hp_); replace HB := ak ((by rw [hw]; exact below_set (below_set (below_set (below_set (below_set (below_set (HB.out) GB10.out) GB10.out) GB10.out) GB10.out) GB10.out) GB10.out : Below w.heap.size w w13)); clear hg hw hp_))
         go_roundg k1
         case measure => have := HK1.out; omega
         case rel => exact ⟨(y227), (wrap64 (x4_1 + 1)), d6_3, H', ⟨by have := HK1.out; omega⟩, ⟨by (with_reducible repeat (first | apply Kd.R_alloc | apply Kd.R_drewN | apply Kd.R_drew)); exact HO_3.out⟩, ⟨c6_2⟩⟩
        ·rw [if_neg c9] at H
         exact absurd H (by simp)
       ·rw [if_neg c7] at H
        exact absurd H (by simp)
      ·rw [if_neg c6] at H
       have c6b0 : decide (x4_1 < (l0.length : Int)) = false := decide_eq_false c6; clear c6; obtain rfl := Option.some.inj H; go_wp2; go_ret; (try refine exists_and_left.mp ?_); exact ⟨_, c6_3, by (with_reducible repeat (first | apply Kd.R_alloc | apply Kd.R_drewN | apply Kd.R_drew)); exact HO_3.out, c6_2⟩
   ·rw [if_neg c3] at H
    exact absurd H (by simp)
  ·rw [if_neg c2] at H
   exact absurd H (by simp)

/-! ### laws_toDatum: function 24 -/
def laws_toDatum.f (a0_0 : Int) (a0_1 : Int) (a0_2 : Int) (a0_3 : ByteArray) : Option (Int × Int × Int × ByteArray) := some (a0_0, a0_1, a0_2, a0_3)
theorem laws_toDatum.calls (a0_0 : Int) (a0_1 : Int) (a0_2 : Int) (a0_3 : ByteArray) (r1 : Int) (r2 : Int) (r3 : Int) (r4 : ByteArray) (w : World) (h : laws_toDatum.f a0_0 a0_1 a0_2 a0_3 = some (r1, r2, r3, r4)) :
    Calls Tryd.prog 24 #[.agg #[.int .i64 a0_0, .int .i64 a0_1, .int .i64 a0_2, .string a0_3]] w fun e w' => e = .returned (.agg #[.int .i64 r1, .int .i64 r2, .int .i64 r3, .string r4]) ∧ Below w.heap.size w w' := by
  have hu48 := Tryd.underlying48; have hu57 := Tryd.underlying57; have HB := ak (Below.refl w.heap.size w); have H := h; clear h; unfold laws_toDatum.f at H; simp only [Option.some.injEq, Prod.mk.injEq] at H; obtain ⟨rfl, rfl, rfl, rfl⟩ := H; go_enter Tryd.func24, Tryd.ntmps24
  go_wp2_with (first | ((with_reducible refine gate_dst (N := 1) rfl ?_); refine box_event ?hg (N := 1) ?hd (cs := #[.int .i64 a0_0, .int .i64 a0_1, .int .i64 a0_2, .string a0_3]) (t := 48) ?hr ?_; (case hd => rfl); (case hg => rfl); (case hr => first | (go_simp; done) | (go_simp; rfl)); intro gb228 hg w2 hbox hb; have BK228 := ak (hbox); have GW228 := ak ((by rw [hg]; exact (below_size d6_2) : w.heap.size ≤ gb228)); have GE228 := ak ((by rw [hg]; exact (below_size d6_2) : w.heap.size ≤ gb228)); replace HB := ak (below_step d6_2 hb); clear hb hbox hg) | ((with_reducible refine gate_dst (N := 2) rfl ?_); refine box_event ?hg (N := 2) ?hd (cs := #[.int .i64 0, .int .i64 0, .int .i64 0, .string (⟨#[]⟩ : ByteArray)]) (t := 57) ?hr ?_; (case hd => rfl); (case hg => rfl); (case hr => first | (go_simp; done) | (go_simp; rfl)); intro gb229 hg w3 hbox hb; have BK229 := ak (hbox); have GW229 := ak ((by rw [hg]; exact (below_size d6_7) : w.heap.size ≤ gb229)); have GE229 := ak ((by rw [hg]; exact (below_size d6_7) : w.heap.size ≤ gb229)); obtain ⟨NB228_229, NB229_228⟩ := zne_ (g := gb228) hg d6_5; replace BK228 := zbb_ (g := gb228) hb d6_5; replace HB := ak (below_step d6_7 hb); clear hb hbox hg) | ((with_reducible refine gate_dst (N := 3) rfl ?_); refine box_event ?hg (N := 3) ?hd (cs := #[.int .i64 0, .int .i64 0, .int .i64 0, .string (⟨#[]⟩ : ByteArray)]) (t := 57) ?hr ?_; (case hd => rfl); (case hg => rfl); (case hr => first | (go_simp; done) | (go_simp; rfl)); intro gb230 hg w4 hbox hb; have BK230 := ak (hbox); have GW230 := ak ((by rw [hg]; exact (below_size d6_6) : w.heap.size ≤ gb230)); have GE230 := ak ((by rw [hg]; exact (below_size d6_6) : w.heap.size ≤ gb230)); obtain ⟨NB228_230, NB230_228⟩ := zne_ (g := gb228) hg d6_5; obtain ⟨NB229_230, NB230_229⟩ := zne_ (g := gb229) (o := .cells #[.int .i64 0, .int .i64 0, .int .i64 0, .string (⟨#[]⟩ : ByteArray)] 57 (0, 0)) hg (zpl_ BK229.out); replace BK228 := zbb_ (g := gb228) hb d6_5; replace BK229 := zbb_ (g := gb229) (o := .cells #[.int .i64 0, .int .i64 0, .int .i64 0, .string (⟨#[]⟩ : ByteArray)] 57 (0, 0)) hb (zpl_ BK229.out); replace HB := ak (below_step d6_6 hb); clear hb hbox hg; have hnb5 := NB228_229.out; have hnc5 := NB229_228.out; have hnb6 := NB228_230.out; have hnc6 := NB230_228.out; obtain ⟨hcz7_0, hcz7_1, hcz7_2, hcz7_3, hfz7_0, hfz7_1, hfz7_2, hfz7_3⟩ := zx4_ BK228.out; have hnb8 := NB230_229.out; have hnc8 := NB229_230.out; obtain ⟨hcz9_0, hcz9_1, hcz9_2, hcz9_3, hfz9_0, hfz9_1, hfz9_2, hfz9_3⟩ := zx4_ BK230.out; obtain ⟨hcz10_0, hcz10_1, hcz10_2, hcz10_3, hfz10_0, hfz10_1, hfz10_2, hfz10_3⟩ := zx4_ BK229.out))
  refine bodyPost_ret (results_cell_row rfl _ _ gb229 57 #[.int .i64 a0_0, .int .i64 a0_1, .int .i64 a0_2, .string a0_3] (0, 0) _ rfl (by refine zpl_ ?_; refine zp4_ (.int .i64 0) (.int .i64 0) (.int .i64 0) (.string (⟨#[]⟩ : ByteArray)) ?_; refine zpl_ ?_; refine blk_far ?_ NB229_230.out _; refine zpl_ ?_; refine blk_far ?_ NB229_230.out _; refine zpl_ ?_; refine blk_far ?_ NB229_230.out _; refine zpl_ ?_; refine blk_far ?_ NB229_230.out _; refine zpl_ ?_; exact BK229.out) Tryd.underlying57 rfl (by kernel_rfl)) rfl ?_
  exact ⟨c6_3, by repeat (first | (with_reducible first | exact HB.out | apply below_alloc | apply pw_below_drewN | apply below_drew1 | refine below_set ?_ GE228.out | refine below_set ?_ GE229.out | refine below_set ?_ GE230.out) | exact HB.out)⟩

/-! ### laws_toDatumS: function 8 -/
def laws_toDatumS.l0 : Nat → List (S48) → List (S57) → Int → Option ((List (S57)))
  | 0, _, _, _ => none
  | k + 1, x0, x3, x4 => if x4 < (x0.length : Int) then (if 0 ≤ x4 then ((laws_toDatum.f ((rd_T48 x0 x4).f0) ((rd_T48 x0 x4).f1) ((rd_T48 x0 x4).f2) ((rd_T48 x0 x4).f3)).bind fun bt235 => (if x4 < (x3.length : Int) then (laws_toDatumS.l0 k x0 (x3.set (x4 : Int).toNat (⟨bt235.1, bt235.2.1, bt235.2.2.1, bt235.2.2.2⟩ : S57)) (wrap64 (x4 + 1))) else (none))) else (none)) else (some x3)
def laws_toDatumS.f (k : Nat) (l0 : List (S48)) : Option ((List (S57))) := if 0 ≤ (l0.length : Int) then (if ((l0.length : Int) : Int).toNat ≤ 7036874417766 then (laws_toDatumS.l0 k l0 (List.replicate ((l0.length : Int) : Int).toNat z57) 0) else (none)) else (none)
theorem laws_toDatumS.mono_l : ∀ k, (∀ y0 y1 y2, LeO (laws_toDatumS.l0 k y0 y1 y2) (laws_toDatumS.l0 (k + 1) y0 y1 y2))
  | 0 => fun _ _ _ r h => by simp [laws_toDatumS.l0] at h
  | k + 1 => by
    have ih0 := laws_toDatumS.mono_l k
    · intro y0 y1 y2
      unfold laws_toDatumS.l0
      exact zm6_0
theorem laws_toDatumS.mono : ∀ a0 k, LeO (laws_toDatumS.f k a0) (laws_toDatumS.f (k + 1) a0) := by
  intro a0 k; have ih0 := laws_toDatumS.mono_l k; unfold laws_toDatumS.f
  exact zm6_0
theorem laws_toDatumS.calls (k : Nat) (A0 : Option Addr) (c0 : Nat) (l0 : List (S48)) (r : List (S57)) (w : World) (hr0 : Kd.C k48 w A0 l0.length l0) (hc0 : l0.length ≤ c0) (h : laws_toDatumS.f k l0 = some r) :
    Calls Tryd.prog 8 #[.slice A0 l0.length c0] w fun e w' => ∃ v0_ : Value, e = .returned (v0_) ∧ Kd.R k57 57 w' w.heap.size (fun _ => True) v0_ r ∧ Below w.heap.size w w' := by
  have hu48 := Tryd.underlying48; have hu57 := Tryd.underlying57; have HR0 := ak hr0; have HC0 := ak hc0; clear hr0 hc0; have HB := ak (Below.refl w.heap.size w); have H := h; clear h; unfold laws_toDatumS.f at H; by_cases c2 : 0 ≤ (l0.length : Int)
  ·rw [if_pos c2] at H
   have c2b0 := eq_true c2; have c2b1 : decide (0 ≤ (l0.length : Int)) = true := decide_eq_true c2; clear c2; by_cases c3 : ((l0.length : Int) : Int).toNat ≤ 7036874417766
   ·rw [if_pos c3] at H
    have c3b0 := eq_true c3; have c3b1 : decide (((l0.length : Int) : Int).toNat ≤ 7036874417766) = true := decide_eq_true c3; clear c3; obtain ⟨y231, hy231⟩ : ∃ y_ : List (S57), y_ = (List.replicate ((l0.length : Int) : Int).toNat z57) := ⟨_, rfl⟩
    replace H : (laws_toDatumS.l0 k l0 y231 0) = some r := by first | (rw [hy231]; with_reducible exact H) | (have H2_ := (Option.bind_some _ _).symm.trans H; rw [hy231]; with_reducible exact H2_) | (have H2_ := (Option.bind_some _ _).symm.trans H; with_reducible exact H2_) | with_reducible exact H | (rw [hy231]; exact H) | exact H
    have Ny231 := ak hy231; clear hy231; have H' := ak H; clear H; go_enter Tryd.func8, Tryd.ntmps8; go_wp2_with (first | ((with_reducible refine gate_dst (N := 7) rfl ?_); refine Kd.R_make k57 _ 57 rfl (N := 7) rfl 33 _ _ rfl (l0.length : Int) rfl rfl Tryd.underlying33 (.agg #[(.int .i64 0), (.int .i64 0), (.int .i64 0), (.string ⟨#[]⟩)]) 40 info57 rfl (by decide) (by omega) z57 (ok := fun _ => True) (okp := fun _ => True) (k57_mkM _ _ _ z57 ) (fun _ hk => hk) trivial (of_decide_eq_true d6_4) (Nat.le_trans (Nat.mul_le_mul_right _ (of_decide_eq_true d6_4 : (l0.length : Int).toNat ≤ 7036874417766)) (by omega)) (Below.refl _ _) (Nat.le_refl _) ?_; intro v232 w4 ho5 hb hg_ hnew_; clear hg_ hnew_; (first | rw [← Ny231.out] at ho5 | (simp only [Int.reduceToNat] at ho5; rw [← Ny231.out] at ho5)); have HO233 := ak (Kd.R_lower ho5 (below_size d6_2)); replace HB := ak (below_step d6_2 hb); clear hb ho5)); go_loopg [4] k (fun kq v4 w' => ∃ (x3_1 : List (S57)) (x4_1 : Int), v4 = .int .i64 x4_1 ∧ Aside0 (laws_toDatumS.l0 kq l0 x3_1 x4_1 = some r) ∧ Aside0 (kq ≤ k) ∧ Aside0 (Kd.R k57 57 w' w.heap.size (fun _ => True) v232 x3_1) ∧ Aside0 (Below w.heap.size w w'))
    case atStart => exact ⟨(y231), (0), d6_3, H', ⟨Nat.le_refl _⟩, ⟨by (with_reducible repeat (first | apply Kd.R_alloc | apply Kd.R_drewN | apply Kd.R_drew)); exact HO233.out⟩, ⟨c6_2⟩⟩
    case round =>
     clear H'
     (try clear c2 c2b0 c2b1); (try clear p2); (try clear c3 c3b0 c3b1)
     obtain ⟨x3_1, x4_1, rfl, HA, HK1, HO_3, HB⟩ := hrel
     cases gk with
     | zero => exact absurd HA.out (by simp [laws_toDatumS.l0])
     | succ k1 =>
      have H := HA.out; clear HA; simp only [laws_toDatumS.l0] at H; by_cases c6 : x4_1 < (l0.length : Int)
      ·rw [if_pos c6] at H
       have c6b0 : decide (x4_1 < (l0.length : Int)) = true := decide_eq_true c6; clear c6; by_cases c7 : 0 ≤ x4_1
       ·rw [if_pos c7] at H
        have c7b0 : decide (0 ≤ x4_1) = true := decide_eq_true c7; clear c7; obtain ⟨⟨t235, t236, t237, t238⟩, A8, H⟩ := zbi_ H; (try dsimp -simprocs only at H); by_cases c9 : x4_1 < (x3_1.length : Int)
        ·rw [if_pos c9] at H
         have c9b0 : decide (x4_1 < (x3_1.length : Int)) = true := decide_eq_true c9; clear c9; obtain ⟨y239, hy239⟩ : ∃ y_ : List (S57), y_ = (x3_1.set (x4_1 : Int).toNat (⟨t235, t236, t237, t238⟩ : S57)) := ⟨_, rfl⟩
         replace H : (laws_toDatumS.l0 k1 l0 y239 (wrap64 (x4_1 + 1))) = some r := by first | (rw [hy239]; with_reducible exact H) | (have H2_ := (Option.bind_some _ _).symm.trans H; rw [hy239]; with_reducible exact H2_) | (have H2_ := (Option.bind_some _ _).symm.trans H; with_reducible exact H2_) | with_reducible exact H | (rw [hy239]; exact H) | exact H
         have Ny239 := ak hy239; clear hy239; have H' := ak H; clear H; have p234 : 0 ≤ (x4_1 : Int) := of_decide_eq_true d6_4; have q234 : x4_1 < (l0.length : Int) := of_decide_eq_true d6_4; obtain ⟨ad234, e234, hx234_0, hx234_1, hx234_2, hx234_3⟩ := at_T48 HR0.out x4_1 p234 q234
         cases e234
         replace hx234_0 := zkc_ HB.out hx234_0; replace hx234_1 := zkc_ HB.out hx234_1; replace hx234_2 := zkc_ HB.out hx234_2; replace hx234_3 := zkc_ HB.out hx234_3; replace p234 := eq_true p234; replace q234 := eq_true q234
         go_wp2_with (first | ((with_reducible refine gate_callee (f := 24) rfl ?_); refine zgo_ 20 Tryd.func24 #[.agg #[.int .i64 ((rd_T48 l0 x4_1).f0), .int .i64 ((rd_T48 l0 x4_1).f1), .int .i64 ((rd_T48 l0 x4_1).f2), .string ((rd_T48 l0 x4_1).f3)]] ?_ (e := d6_1); (with_reducible refine (laws_toDatum.calls ((rd_T48 l0 x4_1).f0) ((rd_T48 l0 x4_1).f1) ((rd_T48 l0 x4_1).f2) ((rd_T48 l0 x4_1).f3) t235 t236 t237 t238 _ A8.out).mono ?_); rintro e w11 ⟨rfl, hb⟩; refine ⟨_, rfl, ?_⟩; replace HO_3 := ak (Kd.R_below (by (with_reducible repeat (first | apply Kd.R_alloc | apply Kd.R_drewN | apply Kd.R_drew)); exact HO_3.out) hb); replace HB := ak (below_step d6_2 hb); (try clear hb); (try clear hk); have p10 : 0 ≤ (x4_1 : Int) := of_decide_eq_true d6_4; have q10 : (x4_1 : Int) < ((x3_1.length : Int) : Int) := of_decide_eq_true d6_4; obtain ⟨go10, co10, eo10, gb10, gl10, cl10, HG10⟩ := Kd.R_form HO_3.out (by omega); (first | cases eo10 | (injection eo10 with ea_ en_ ec_; (first | subst ea_ | (injection ea_ with ea_; subst ea_)); subst ec_; clear en_)); have GB10 := ak gb10; have GG10 := ak HG10; clear gb10 gl10 HG10; obtain ⟨ce10, hcl10, hM10, hcc10, hfr10⟩ := Kd.R_elem HO_3.out z57 (x4_1 : Int) p10 q10; obtain rfl := k57_openM hM10; have hx10_0 : w11.cell? ⟨go10, (x4_1 : Int).toNat * 4, none⟩ = some (.int .i64 ((rd_T57 x3_1 x4_1).f0)) := hcc10 0 _ rfl; have hx10_1 : w11.cell? ⟨go10, (x4_1 : Int).toNat * 4 + 1, none⟩ = some (.int .i64 ((rd_T57 x3_1 x4_1).f1)) := hcc10 1 _ rfl; have hx10_2 : w11.cell? ⟨go10, (x4_1 : Int).toNat * 4 + 2, none⟩ = some (.int .i64 ((rd_T57 x3_1 x4_1).f2)) := hcc10 2 _ rfl; have hx10_3 : w11.cell? ⟨go10, (x4_1 : Int).toNat * 4 + 3, none⟩ = some (.string ((rd_T57 x3_1 x4_1).f3)) := hcc10 3 _ rfl; have hf10_0 : w11.frozen? ⟨go10, (x4_1 : Int).toNat * 4, none⟩ = false := hfr10 0; have hf10_1 : w11.frozen? ⟨go10, (x4_1 : Int).toNat * 4 + 1, none⟩ = false := hfr10 1; have hf10_2 : w11.frozen? ⟨go10, (x4_1 : Int).toNat * 4 + 2, none⟩ = false := hfr10 2; have hf10_3 : w11.frozen? ⟨go10, (x4_1 : Int).toNat * 4 + 3, none⟩ = false := hfr10 3; clear hcl10 hcc10 hfr10 hM10; replace p10 := eq_true p10; replace q10 := eq_true q10; have HX12 := ak (show Kd.R k57 57 w11 w.heap.size (fun _ => True) (.slice (some ⟨go10, 0, none⟩) x3_1.length co10) x3_1 from (by (with_reducible repeat (first | apply Kd.R_alloc | apply Kd.R_drewN | apply Kd.R_drew)); exact HO_3.out)); obtain ⟨ce12, hcl12, hM12, hcc12, hfr12⟩ := Kd.R_elem HX12.out z57 (x4_1 : Int) (of_decide_eq_true d6_4) (by have h_ : (x4_1 : Int) < ((x3_1.length : Int) : Int) := of_decide_eq_true d6_4; first | exact h_ | (have e_ := (Kd.R_reads' HO_3.out).1; omega) | simpa using h_); obtain rfl := k57_openM hM12; have HP12 := Kd.R_seg HX12.out (x4_1 : Int) (of_decide_eq_true d6_4) (by have h_ : (x4_1 : Int) < ((x3_1.length : Int) : Int) := of_decide_eq_true d6_4; first | exact h_ | (have e_ := (Kd.R_reads' HO_3.out).1; omega) | simpa using h_) (seg := [.int .i64 t235, .int .i64 t236, .int .i64 t237, .string t238]) (j := 0) hcl12 hcc12 (show 4 ≤ 4 from by decide) (x' := (⟨t235, t236, t237, t238⟩ : S57)) (k57_mkM _ _ _ (⟨t235, t236, t237, t238⟩ : S57) ) (fun _ hk => hk); have hx12_0 := hcc12 0 _ rfl; (try simp only [show (k57).sz = 4 from rfl, Nat.mul_one, Nat.add_zero] at hx12_0); have hf12_0 := hfr12 0; (try simp only [show (k57).sz = 4 from rfl, Nat.mul_one, Nat.add_zero] at hf12_0); have hx12_1 := hcc12 1 _ rfl; (try simp only [show (k57).sz = 4 from rfl, Nat.mul_one, Nat.add_zero] at hx12_1); have hf12_1 := hfr12 1; (try simp only [show (k57).sz = 4 from rfl, Nat.mul_one, Nat.add_zero] at hf12_1); have hx12_2 := hcc12 2 _ rfl; (try simp only [show (k57).sz = 4 from rfl, Nat.mul_one, Nat.add_zero] at hx12_2); have hf12_2 := hfr12 2; (try simp only [show (k57).sz = 4 from rfl, Nat.mul_one, Nat.add_zero] at hf12_2); have hx12_3 := hcc12 3 _ rfl; (try simp only [show (k57).sz = 4 from rfl, Nat.mul_one, Nat.add_zero] at hx12_3); have hf12_3 := hfr12 3; (try simp only [show (k57).sz = 4 from rfl, Nat.mul_one, Nat.add_zero] at hf12_3); clear hcl12 hcc12 hfr12 hM12) | ((with_reducible refine gate_store (t := 57) (p := 21) rfl ?_); refine store_event (t := 57) (p := 21) (v := ?vo_w13) (w1 := ((((w11.setCell ⟨go10, (x4_1 : Int).toNat * 4, none⟩ (.int .i64 t235)).setCell ⟨go10, (x4_1 : Int).toNat * 4 + 1, none⟩ (.int .i64 t236)).setCell ⟨go10, (x4_1 : Int).toNat * 4 + 2, none⟩ (.int .i64 t237)).setCell ⟨go10, (x4_1 : Int).toNat * 4 + 3, none⟩ (.string t238))) ?hg ?ho ?hn ?hr ?_; (case ho => rfl); (case hg => rfl); (case hn => rfl); (case hr => first | (go_simp; done) | (go_simp; rfl)); intro w13 hw; have hg : w11.grownBy w13 (some go10) := (by rw [hw]; exact HP12.2); have hp_ : Kd.R k57 57 w13 w.heap.size (fun _ => True) (.slice (some ⟨go10, 0, none⟩) x3_1.length co10) y239 := (by rw [hw, Ny239.out]; exact HP12.1); clear HP12; replace HO_3 := ak (hp_); replace HB := ak ((by rw [hw]; exact below_set (below_set (below_set (below_set (HB.out) GB10.out) GB10.out) GB10.out) GB10.out : Below w.heap.size w w13)); clear hg hw hp_))
         go_roundg k1
         case measure => have := HK1.out; omega
         case rel => exact ⟨(y239), (wrap64 (x4_1 + 1)), d6_3, H', ⟨by have := HK1.out; omega⟩, ⟨by (with_reducible repeat (first | apply Kd.R_alloc | apply Kd.R_drewN | apply Kd.R_drew)); exact HO_3.out⟩, ⟨c6_2⟩⟩
        ·rw [if_neg c9] at H
         exact absurd H (by simp)
       ·rw [if_neg c7] at H
        exact absurd H (by simp)
      ·rw [if_neg c6] at H
       have c6b0 : decide (x4_1 < (l0.length : Int)) = false := decide_eq_false c6; clear c6; obtain rfl := Option.some.inj H; go_wp2; go_ret; (try refine exists_and_left.mp ?_); exact ⟨_, c6_3, by (with_reducible repeat (first | apply Kd.R_alloc | apply Kd.R_drewN | apply Kd.R_drew)); exact HO_3.out, c6_2⟩
   ·rw [if_neg c3] at H
    exact absurd H (by simp)
  ·rw [if_neg c2] at H
   exact absurd H (by simp)

/-! ### impl_in: function 47 -/
def impl_in.f (a0 : Int) (a1 : Int) (a2 : Int) : Option (Bool) := if a1 ≤ a0 then (some (decide (a0 ≤ a2))) else (some false)
theorem impl_in.calls (a0 : Int) (a1 : Int) (a2 : Int) (r : Bool) (w : World) (h : impl_in.f a0 a1 a2 = some r) :
    Calls Tryd.prog 47 #[.int .i64 a0, .int .i64 a1, .int .i64 a2] w fun e w' => e = .returned (.bool r) ∧ Drawn0 w w' := by
  have H := h; clear h; unfold impl_in.f at H; by_cases c4 : a1 ≤ a0
  ·rw [if_pos c4] at H
   have c4b0 : decide (a1 ≤ a0) = true := decide_eq_true c4; clear c4; obtain rfl := Option.some.inj H; go_enter Tryd.func47, Tryd.ntmps47; go_wp2; go_ret; exact ⟨by first | rfl | (simp; done) | (simp [*]; done) | (simp [ne_nil_b, eq_nil_b]; done), by repeat (first | exact Drawn0.refl _ | apply Drawn0.step)⟩
  ·rw [if_neg c4] at H
   have c4b0 : decide (a1 ≤ a0) = false := decide_eq_false c4; clear c4; obtain rfl := Option.some.inj H; go_enter Tryd.func47, Tryd.ntmps47; go_wp2; go_ret; exact ⟨by first | rfl | (simp; done) | (simp [*]; done) | (simp [ne_nil_b, eq_nil_b]; done), by repeat (first | exact Drawn0.refl _ | apply Drawn0.step)⟩

/-! ### impl_isPlaced: function 52 -/
def impl_isPlaced.f (a0 : Int) : Option (Bool) := (impl_in.f a0 5 8).bind fun t240 => (some t240)
theorem impl_isPlaced.calls (a0 : Int) (r : Bool) (w : World) (h : impl_isPlaced.f a0 = some r) :
    Calls Tryd.prog 52 #[.int .i64 a0] w fun e w' => e = .returned (.bool r) ∧ Drawn0 w w' := by
  have H := h; clear h; unfold impl_isPlaced.f at H; obtain ⟨t240, A2, H⟩ := zbi_ H; (try dsimp -simprocs only at H); obtain rfl := Option.some.inj H; go_enter Tryd.func52, Tryd.ntmps52; go_wp2_with (first | ((with_reducible refine gate_callee (f := 47) rfl ?_); refine zgo_ 4 Tryd.func47 #[.int .i64 a0, .int .i64 5, .int .i64 8] ?_ (e := d6_1); (with_reducible refine (impl_in.calls a0 5 8 t240 _ A2.out).mono ?_); rintro e w' ⟨rfl, ⟨nd, rfl⟩⟩; refine ⟨_, rfl, ?_⟩)); go_ret; exact ⟨by first | rfl | (simp; done) | (simp [*]; done) | (simp [ne_nil_b, eq_nil_b]; done), by repeat (first | exact Drawn0.refl _ | apply Drawn0.step)⟩

/-! ### impl_NumFault: function 60 -/
def impl_NumFault.f (a0 : Int) : Option (Int) := (impl_in.f a0 (-1000000000) 1000000000).bind fun t241 => (if t241 = true then (some 0) else (some 3))
theorem impl_NumFault.calls (a0 : Int) (r : Int) (w : World) (h : impl_NumFault.f a0 = some r) :
    Calls Tryd.prog 60 #[.int .i64 a0] w fun e w' => e = .returned (.int .i64 r) ∧ Drawn0 w w' := by
  have H := h; clear h; unfold impl_NumFault.f at H; obtain ⟨t241, A2, H⟩ := zbi_ H; (try dsimp -simprocs only at H); by_cases c3 : t241 = true
  ·subst c3
   rw [if_pos rfl] at H; obtain rfl := Option.some.inj H; go_enter Tryd.func60, Tryd.ntmps60; go_wp2_with (first | ((with_reducible refine gate_callee (f := 47) rfl ?_); refine zgo_ 4 Tryd.func47 #[.int .i64 a0, .int .i64 (-1000000000), .int .i64 1000000000] ?_ (e := d6_1); (with_reducible refine (impl_in.calls a0 (-1000000000) 1000000000 true _ A2.out).mono ?_); rintro e w' ⟨rfl, ⟨nd, rfl⟩⟩; refine ⟨_, rfl, ?_⟩)); go_ret; exact ⟨by first | rfl | (simp; done) | (simp [*]; done) | (simp [ne_nil_b, eq_nil_b]; done), by repeat (first | exact Drawn0.refl _ | apply Drawn0.step)⟩
  ·replace c3 := Bool.eq_false_iff.mpr c3
   subst c3; rw [if_neg (show ¬ (false = true) by decide)] at H; obtain rfl := Option.some.inj H; go_enter Tryd.func60, Tryd.ntmps60; go_wp2_with (first | ((with_reducible refine gate_callee (f := 47) rfl ?_); refine zgo_ 4 Tryd.func47 #[.int .i64 a0, .int .i64 (-1000000000), .int .i64 1000000000] ?_ (e := d6_1); (with_reducible refine (impl_in.calls a0 (-1000000000) 1000000000 false _ A2.out).mono ?_); rintro e w' ⟨rfl, ⟨nd, rfl⟩⟩; refine ⟨_, rfl, ?_⟩)); go_ret; exact ⟨by first | rfl | (simp; done) | (simp [*]; done) | (simp [ne_nil_b, eq_nil_b]; done), by repeat (first | exact Drawn0.refl _ | apply Drawn0.step)⟩

/-! ### strings_Trim: function 63 (by hand) -/
def strings_Trim.f (a0 : ByteArray) (a1 : ByteArray) : Option (ByteArray) := if a0.size ≤ 9223372036854775807 ∧ a1.size < 4294967281 ∧ (a1.data.toList.all fun b => b.toNat < 128) = true then some ⟨(Lib.trimS a0.data.toList a1.data.toList).toArray⟩ else none
theorem strings_Trim.calls (a0 : ByteArray) (a1 : ByteArray) (r : ByteArray) (w : World) (h : strings_Trim.f a0 a1 = some r) :
    Calls Tryd.prog 63 #[.string a0, .string a1] w fun e w' => e = .returned (.string r) ∧ Below w.heap.size w w' := by
  unfold strings_Trim.f at h; by_cases c : a0.size ≤ 9223372036854775807 ∧ a1.size < 4294967281 ∧ (a1.data.toList.all fun b => b.toNat < 128) = true
  · rw [if_pos c] at h
    obtain rfl := Option.some.inj h
    have hcon := Go.Proofs.Any.strings_Trim_laid Tryd.lays160 (by kernel_rfl) a0 a1 w c.1 c.2.1 (fun j b hb => by
      have := List.all_eq_true.mp c.2.2 b (List.mem_of_getElem? hb)
      simpa using this)
    exact hcon
  · rw [if_neg c] at h
    exact absurd h (by simp)


/-! ### impl_SymFault: function 61 -/
def impl_SymFault.f (a0 : ByteArray) : Option (Int) := (impl_in.f (a0.size : Int) 1 12).bind fun t242 => (if t242 = true then ((strings_Trim.f a0 (⟨#[97, 98, 99, 100, 101, 102, 103, 104, 105, 106, 107, 108, 109, 110, 111, 112, 113, 114, 115, 116, 117, 118, 119, 120, 121, 122, 43, 45, 42, 47, 60, 61, 63, 33]⟩ : ByteArray)).bind fun t243 => (if t243.toList = ([] : List UInt8) then (some 0) else (some 5))) else (some 5))
theorem impl_SymFault.calls (a0 : ByteArray) (r : Int) (w : World) (h : impl_SymFault.f a0 = some r) :
    Calls Tryd.prog 61 #[.string a0] w fun e w' => e = .returned (.int .i64 r) ∧ Below w.heap.size w w' := by
  have HB := ak (Below.refl w.heap.size w); have H := h; clear h; unfold impl_SymFault.f at H; obtain ⟨t242, A2, H⟩ := zbi_ H; (try dsimp -simprocs only at H); by_cases c3 : t242 = true
  ·subst c3
   rw [if_pos rfl] at H; obtain ⟨t243, A4, H⟩ := zbi_ H; (try dsimp -simprocs only at H); by_cases c5 : t243.toList = ([] : List UInt8)
   ·rw [if_pos c5] at H
    obtain ⟨c5b0, c5b1⟩ := zbt_ c5; clear c5; obtain rfl := Option.some.inj H; go_enter Tryd.func61, Tryd.ntmps61; go_wp2_with (first | ((with_reducible refine gate_callee (f := 47) rfl ?_); refine zgo_ 5 Tryd.func47 #[.int .i64 (a0.size : Int), .int .i64 1, .int .i64 12] ?_ (e := d6_1); (with_reducible refine (impl_in.calls (a0.size : Int) 1 12 true _ A2.out).mono ?_); rintro e w' ⟨rfl, ⟨nd, rfl⟩⟩; refine ⟨_, rfl, ?_⟩) | (go_at_call 63; (with_reducible refine (strings_Trim.calls a0 (⟨#[97, 98, 99, 100, 101, 102, 103, 104, 105, 106, 107, 108, 109, 110, 111, 112, 113, 114, 115, 116, 117, 118, 119, 120, 121, 122, 43, 45, 42, 47, 60, 61, 63, 33]⟩ : ByteArray) t243 _ A4.out).mono ?_); rintro e w6 ⟨rfl, hb⟩; replace HB := ak (below_step d6_2 hb); (try clear hb))); go_ret; exact ⟨c6_3, c6_2⟩
   ·rw [if_neg c5] at H
    obtain ⟨c5b0, c5b1⟩ := zbf_ c5; obtain rfl := Option.some.inj H; go_enter Tryd.func61, Tryd.ntmps61; go_wp2_with (first | ((with_reducible refine gate_callee (f := 47) rfl ?_); refine zgo_ 5 Tryd.func47 #[.int .i64 (a0.size : Int), .int .i64 1, .int .i64 12] ?_ (e := d6_1); (with_reducible refine (impl_in.calls (a0.size : Int) 1 12 true _ A2.out).mono ?_); rintro e w' ⟨rfl, ⟨nd, rfl⟩⟩; refine ⟨_, rfl, ?_⟩) | (go_at_call 63; (with_reducible refine (strings_Trim.calls a0 (⟨#[97, 98, 99, 100, 101, 102, 103, 104, 105, 106, 107, 108, 109, 110, 111, 112, 113, 114, 115, 116, 117, 118, 119, 120, 121, 122, 43, 45, 42, 47, 60, 61, 63, 33]⟩ : ByteArray) t243 _ A4.out).mono ?_); rintro e w7 ⟨rfl, hb⟩; replace HB := ak (below_step d6_2 hb); (try clear hb))); go_ret; exact ⟨c6_3, c6_2⟩
  ·replace c3 := Bool.eq_false_iff.mpr c3
   subst c3; rw [if_neg (show ¬ (false = true) by decide)] at H; obtain rfl := Option.some.inj H; go_enter Tryd.func61, Tryd.ntmps61; go_wp2_with (first | ((with_reducible refine gate_callee (f := 47) rfl ?_); refine zgo_ 5 Tryd.func47 #[.int .i64 (a0.size : Int), .int .i64 1, .int .i64 12] ?_ (e := d6_1); (with_reducible refine (impl_in.calls (a0.size : Int) 1 12 false _ A2.out).mono ?_); rintro e w' ⟨rfl, ⟨nd, rfl⟩⟩; refine ⟨_, rfl, ?_⟩)); go_ret; exact ⟨c6_3, c6_2⟩

/-! ### impl_kindFault: function 53 -/
def impl_kindFault.f (a0 : Int) (a1 : Int) (a2 : Int) (a3 : Int) (a4 : Int) (a5 : ByteArray) : Option (Int) := if a0 = a1 then ((impl_NumFault.f a4).bind fun t244 => (some t244)) else (if a0 = a3 then ((impl_in.f a4 0 1).bind fun t245 => (if t245 = true then (some 0) else (some 3))) else (if a0 = a2 then ((impl_SymFault.f a5).bind fun t246 => (some t246)) else (some 0)))
theorem impl_kindFault.calls (a0 : Int) (a1 : Int) (a2 : Int) (a3 : Int) (a4 : Int) (a5 : ByteArray) (r : Int) (w : World) (h : impl_kindFault.f a0 a1 a2 a3 a4 a5 = some r) :
    Calls Tryd.prog 53 #[.int .i64 a0, .int .i64 a1, .int .i64 a2, .int .i64 a3, .int .i64 a4, .string a5] w fun e w' => e = .returned (.int .i64 r) ∧ Below w.heap.size w w' := by
  have HB := ak (Below.refl w.heap.size w); have H := h; clear h; unfold impl_kindFault.f at H; by_cases c7 : a0 = a1
  ·rw [if_pos c7] at H
   obtain ⟨c7b0, c7b1⟩ := zbt_ c7; clear c7; obtain ⟨t244, A8, H⟩ := zbi_ H; (try dsimp -simprocs only at H); obtain rfl := Option.some.inj H; go_enter Tryd.func53, Tryd.ntmps53; go_wp2_with (first | ((with_reducible refine gate_callee (f := 60) rfl ?_); refine zgo_ 18 Tryd.func60 #[.int .i64 a4] ?_ (e := d6_1); (with_reducible refine (impl_NumFault.calls a4 t244 _ A8.out).mono ?_); rintro e w' ⟨rfl, ⟨nd, rfl⟩⟩; refine ⟨_, rfl, ?_⟩)); go_ret; exact ⟨c6_3, c6_2⟩
  ·rw [if_neg c7] at H
   obtain ⟨c7b0, c7b1⟩ := zbf_ c7; by_cases c9 : a0 = a3
   ·rw [if_pos c9] at H
    obtain ⟨c9b0, c9b1⟩ := zbt_ c9; clear c9; obtain ⟨t245, A10, H⟩ := zbi_ H; (try dsimp -simprocs only at H); by_cases c11 : t245 = true
    ·subst c11
     rw [if_pos rfl] at H; obtain rfl := Option.some.inj H; go_enter Tryd.func53, Tryd.ntmps53; go_wp2_with (first | ((with_reducible refine gate_callee (f := 47) rfl ?_); refine zgo_ 23 Tryd.func47 #[.int .i64 a4, .int .i64 0, .int .i64 1] ?_ (e := d6_1); (with_reducible refine (impl_in.calls a4 0 1 true _ A10.out).mono ?_); rintro e w' ⟨rfl, ⟨nd, rfl⟩⟩; refine ⟨_, rfl, ?_⟩)); go_ret; exact ⟨c6_3, c6_2⟩
    ·replace c11 := Bool.eq_false_iff.mpr c11
     subst c11; rw [if_neg (show ¬ (false = true) by decide)] at H; obtain rfl := Option.some.inj H; go_enter Tryd.func53, Tryd.ntmps53; go_wp2_with (first | ((with_reducible refine gate_callee (f := 47) rfl ?_); refine zgo_ 23 Tryd.func47 #[.int .i64 a4, .int .i64 0, .int .i64 1] ?_ (e := d6_1); (with_reducible refine (impl_in.calls a4 0 1 false _ A10.out).mono ?_); rintro e w' ⟨rfl, ⟨nd, rfl⟩⟩; refine ⟨_, rfl, ?_⟩)); go_ret; exact ⟨c6_3, c6_2⟩
   ·rw [if_neg c9] at H
    obtain ⟨c9b0, c9b1⟩ := zbf_ c9; by_cases c12 : a0 = a2
    ·rw [if_pos c12] at H
     obtain ⟨c12b0, c12b1⟩ := zbt_ c12; clear c12; obtain ⟨t246, A13, H⟩ := zbi_ H; (try dsimp -simprocs only at H); obtain rfl := Option.some.inj H; go_enter Tryd.func53, Tryd.ntmps53; go_wp2_with (first | ((with_reducible refine gate_callee (f := 61) rfl ?_); refine zgo_ 29 Tryd.func61 #[.string a5] ?_ (e := d6_1); (with_reducible refine (impl_SymFault.calls a5 t246 _ A13.out).mono ?_); rintro e w14 ⟨rfl, hb⟩; refine ⟨_, rfl, ?_⟩; replace HB := ak (below_step d6_2 hb); (try clear hb))); go_ret; exact ⟨c6_3, c6_2⟩
    ·rw [if_neg c12] at H
     obtain ⟨c12b0, c12b1⟩ := zbf_ c12; obtain rfl := Option.some.inj H; go_enter Tryd.func53, Tryd.ntmps53; go_wp2; go_ret; exact ⟨c6_3, c6_2⟩

/-! ### impl_ValueFault: function 45 -/
def impl_ValueFault.j0 : Nat → Bool → Int → Int → ByteArray → Option (Int)
  | 0, _, _, _, _ => none
  | k + 1, x3, x248000, x248001, x248002 => if x3 = true then (some 1) else ((impl_isPlaced.f x248000).bind fun t250 => (if t250 = true then ((impl_in.f x248001 0 99999).bind fun t251 => (if t251 = true then ((impl_kindFault.f x248000 1 4 2 x248001 x248002).bind fun t252 => (some t252)) else (some 3))) else ((impl_kindFault.f x248000 1 4 2 x248001 x248002).bind fun t253 => (some t253))))
def impl_ValueFault.f (k : Nat) (a0_0 : Int) (a0_1 : Int) (a0_2 : ByteArray) : Option (Int) := (impl_in.f a0_0 1 9).bind fun t248 => (if t248 = true then (if a0_1 = 0 then (if a0_2.toList = ([] : List UInt8) then (impl_ValueFault.j0 k false a0_0 a0_1 a0_2) else (impl_ValueFault.j0 k (a0_0 != 4) a0_0 a0_1 a0_2)) else ((impl_isPlaced.f a0_0).bind fun t249 => (if t249 = true then (if a0_2.toList = ([] : List UInt8) then (impl_ValueFault.j0 k false a0_0 a0_1 a0_2) else (impl_ValueFault.j0 k (a0_0 != 4) a0_0 a0_1 a0_2)) else (if a0_0 = 1 then (if a0_2.toList = ([] : List UInt8) then (impl_ValueFault.j0 k false a0_0 a0_1 a0_2) else (impl_ValueFault.j0 k (a0_0 != 4) a0_0 a0_1 a0_2)) else (if a0_0 = 2 then (if a0_2.toList = ([] : List UInt8) then (impl_ValueFault.j0 k false a0_0 a0_1 a0_2) else (impl_ValueFault.j0 k (a0_0 != 4) a0_0 a0_1 a0_2)) else (impl_ValueFault.j0 k true a0_0 a0_1 a0_2)))))) else (impl_ValueFault.j0 k true a0_0 a0_1 a0_2))
theorem impl_ValueFault.mono_l : ∀ k, (∀ y0 y1 y2 y3, LeO (impl_ValueFault.j0 k y0 y1 y2 y3) (impl_ValueFault.j0 (k + 1) y0 y1 y2 y3))
  | 0 => fun _ _ _ _ r h => by simp [impl_ValueFault.j0] at h
  | k + 1 => by
    have ih0 := impl_ValueFault.mono_l k
    · intro y0 y1 y2 y3
      unfold impl_ValueFault.j0
      exact zm6_0
theorem impl_ValueFault.mono : ∀ a0 a1 a2 k, LeO (impl_ValueFault.f k a0 a1 a2) (impl_ValueFault.f (k + 1) a0 a1 a2) := by
  intro a0 a1 a2 k; have ih0 := impl_ValueFault.mono_l k; unfold impl_ValueFault.f
  exact zm6_0
theorem impl_ValueFault.calls (k : Nat) (a0_0 : Int) (a0_1 : Int) (a0_2 : ByteArray) (r : Int) (w : World) (h : impl_ValueFault.f k a0_0 a0_1 a0_2 = some r) :
    Calls Tryd.prog 45 #[.agg #[.int .i64 a0_0, .int .i64 a0_1, .string a0_2]] w fun e w' => e = .returned (.int .i64 r) ∧ Below w.heap.size w w' := by
  have hu28 := Tryd.underlying28; have HB := ak (Below.refl w.heap.size w); have H := h; clear h; unfold impl_ValueFault.f at H; have HC2 := ak H; clear H; go_enter Tryd.func45, Tryd.ntmps45; go_upto_region 1 with (first | ((with_reducible refine gate_dst (N := 1) rfl ?_); refine box_event ?hg (N := 1) ?hd (cs := #[.int .i64 a0_0, .int .i64 a0_1, .string a0_2]) (t := 28) ?hr ?_; (case hd => rfl); (case hg => rfl); (case hr => first | (go_simp; done) | (go_simp; rfl)); intro gb247 hg w3 hbox hb; have BK247 := ak (hbox); have GW247 := ak ((by rw [hg]; exact (below_size d6_2) : w.heap.size ≤ gb247)); have GE247 := ak ((by rw [hg]; exact (below_size d6_2) : w.heap.size ≤ gb247)); replace HB := ak (below_step d6_2 hb); clear hb hbox hg))
  (try simp only [Act.put, List.setIfInBounds_toArray, List.set_cons_zero, List.set_cons_succ])
  go_cut [3] (fun v3 wc => ∃ (kq : Nat) (x3_1 : Bool), v3 = .bool x3_1 ∧ Aside0 (impl_ValueFault.j0 kq x3_1 a0_0 a0_1 a0_2 = some r) ∧ Aside0 (kq ≤ k) ∧ Aside0 (wc.heap[gb247]? = some (.cells #[.int .i64 a0_0, .int .i64 a0_1, .string a0_2] 28 (0, 0))) ∧ Aside0 (Below w.heap.size w wc))
  case first =>
   have H := HC2.out; clear HC2; obtain ⟨t248, A4, H⟩ := zbi_ H; (try dsimp -simprocs only at H); by_cases c5 : t248 = true
   ·subst c5
    rw [if_pos rfl] at H; by_cases c6 : a0_1 = 0
    ·rw [if_pos c6] at H
     obtain ⟨c6b0, c6b1⟩ := zbt_ c6; clear c6
     (first | rw [c6b0] | (simp only [i64_w, i32_w]; rw [c6b0]) | skip)
     by_cases c7 : a0_2.toList = ([] : List UInt8)
     ·rw [if_pos c7] at H
      obtain ⟨c7b0, c7b1⟩ := zbt_ c7; clear c7; have H' := ak H; clear H; obtain ⟨hcz8_0, hcz8_1, hcz8_2, hfz8_0, hfz8_1, hfz8_2⟩ := zx3_ BK247.out; go_wp2_with (first | ((with_reducible refine gate_callee (f := 47) rfl ?_); refine zgo_ 6 Tryd.func47 #[.int .i64 a0_0, .int .i64 1, .int .i64 9] ?_ (e := d6_1); (with_reducible refine (impl_in.calls a0_0 1 9 true _ A4.out).mono ?_); rintro e w' ⟨rfl, ⟨nd, rfl⟩⟩; refine ⟨_, rfl, ?_⟩)); go_meet
      case rel => exact ⟨_, (false), d6_3, H', ⟨by first | exact Nat.le_refl _ | omega⟩, ⟨c6_4⟩, ⟨c6_1⟩⟩
     ·rw [if_neg c7] at H
      obtain ⟨c7b0, c7b1⟩ := zbf_ c7; have H' := ak H; clear H; obtain ⟨hcz9_0, hcz9_1, hcz9_2, hfz9_0, hfz9_1, hfz9_2⟩ := zx3_ BK247.out; go_wp2_with (first | ((with_reducible refine gate_callee (f := 47) rfl ?_); refine zgo_ 6 Tryd.func47 #[.int .i64 a0_0, .int .i64 1, .int .i64 9] ?_ (e := d6_1); (with_reducible refine (impl_in.calls a0_0 1 9 true _ A4.out).mono ?_); rintro e w' ⟨rfl, ⟨nd, rfl⟩⟩; refine ⟨_, rfl, ?_⟩)); go_meet
      case rel => exact ⟨_, ((a0_0 != 4)), d6_3, H', ⟨by first | exact Nat.le_refl _ | omega⟩, ⟨c6_4⟩, ⟨c6_1⟩⟩
    ·rw [if_neg c6] at H
     obtain ⟨c6b0, c6b1⟩ := zbf_ c6
     (first | rw [c6b0] | (simp only [i64_w, i32_w]; rw [c6b0]) | skip)
     obtain ⟨t249, A10, H⟩ := zbi_ H; (try dsimp -simprocs only at H); by_cases c11 : t249 = true
     ·subst c11
      rw [if_pos rfl] at H; by_cases c12 : a0_2.toList = ([] : List UInt8)
      ·rw [if_pos c12] at H
       obtain ⟨c12b0, c12b1⟩ := zbt_ c12; clear c12; have H' := ak H; clear H; obtain ⟨hcz13_0, hcz13_1, hcz13_2, hfz13_0, hfz13_1, hfz13_2⟩ := zx3_ BK247.out; go_wp2_with (first | ((with_reducible refine gate_callee (f := 47) rfl ?_); refine zgo_ 6 Tryd.func47 #[.int .i64 a0_0, .int .i64 1, .int .i64 9] ?_ (e := d6_1); (with_reducible refine (impl_in.calls a0_0 1 9 true _ A4.out).mono ?_); rintro e w' ⟨rfl, ⟨nd, rfl⟩⟩; refine ⟨_, rfl, ?_⟩) | (go_at_call 52; (with_reducible refine (impl_isPlaced.calls a0_0 true _ A10.out).mono ?_); rintro e w' ⟨rfl, ⟨nd, rfl⟩⟩)); go_meet
       case rel => exact ⟨_, (false), d6_3, H', ⟨by first | exact Nat.le_refl _ | omega⟩, ⟨c6_4⟩, ⟨c6_1⟩⟩
      ·rw [if_neg c12] at H
       obtain ⟨c12b0, c12b1⟩ := zbf_ c12; have H' := ak H; clear H; obtain ⟨hcz14_0, hcz14_1, hcz14_2, hfz14_0, hfz14_1, hfz14_2⟩ := zx3_ BK247.out; go_wp2_with (first | ((with_reducible refine gate_callee (f := 47) rfl ?_); refine zgo_ 6 Tryd.func47 #[.int .i64 a0_0, .int .i64 1, .int .i64 9] ?_ (e := d6_1); (with_reducible refine (impl_in.calls a0_0 1 9 true _ A4.out).mono ?_); rintro e w' ⟨rfl, ⟨nd, rfl⟩⟩; refine ⟨_, rfl, ?_⟩) | (go_at_call 52; (with_reducible refine (impl_isPlaced.calls a0_0 true _ A10.out).mono ?_); rintro e w' ⟨rfl, ⟨nd, rfl⟩⟩)); go_meet
       case rel => exact ⟨_, ((a0_0 != 4)), d6_3, H', ⟨by first | exact Nat.le_refl _ | omega⟩, ⟨c6_4⟩, ⟨c6_1⟩⟩
     ·replace c11 := Bool.eq_false_iff.mpr c11
      subst c11; rw [if_neg (show ¬ (false = true) by decide)] at H; by_cases c15 : a0_0 = 1
      ·rw [if_pos c15] at H
       obtain ⟨c15b0, c15b1⟩ := zbt_ c15; clear c15; by_cases c16 : a0_2.toList = ([] : List UInt8)
       ·rw [if_pos c16] at H
        obtain ⟨c16b0, c16b1⟩ := zbt_ c16; clear c16; have H' := ak H; clear H; obtain ⟨hcz17_0, hcz17_1, hcz17_2, hfz17_0, hfz17_1, hfz17_2⟩ := zx3_ BK247.out; go_wp2_with (first | ((with_reducible refine gate_callee (f := 47) rfl ?_); refine zgo_ 6 Tryd.func47 #[.int .i64 a0_0, .int .i64 1, .int .i64 9] ?_ (e := d6_1); (with_reducible refine (impl_in.calls a0_0 1 9 true _ A4.out).mono ?_); rintro e w' ⟨rfl, ⟨nd, rfl⟩⟩; refine ⟨_, rfl, ?_⟩) | (go_at_call 52; (with_reducible refine (impl_isPlaced.calls a0_0 false _ A10.out).mono ?_); rintro e w' ⟨rfl, ⟨nd, rfl⟩⟩)); go_meet
        case rel => exact ⟨_, (false), d6_3, H', ⟨by first | exact Nat.le_refl _ | omega⟩, ⟨c6_4⟩, ⟨c6_1⟩⟩
       ·rw [if_neg c16] at H
        obtain ⟨c16b0, c16b1⟩ := zbf_ c16; have H' := ak H; clear H; obtain ⟨hcz18_0, hcz18_1, hcz18_2, hfz18_0, hfz18_1, hfz18_2⟩ := zx3_ BK247.out; go_wp2_with (first | ((with_reducible refine gate_callee (f := 47) rfl ?_); refine zgo_ 6 Tryd.func47 #[.int .i64 a0_0, .int .i64 1, .int .i64 9] ?_ (e := d6_1); (with_reducible refine (impl_in.calls a0_0 1 9 true _ A4.out).mono ?_); rintro e w' ⟨rfl, ⟨nd, rfl⟩⟩; refine ⟨_, rfl, ?_⟩) | (go_at_call 52; (with_reducible refine (impl_isPlaced.calls a0_0 false _ A10.out).mono ?_); rintro e w' ⟨rfl, ⟨nd, rfl⟩⟩)); go_meet
        case rel => exact ⟨_, ((a0_0 != 4)), d6_3, H', ⟨by first | exact Nat.le_refl _ | omega⟩, ⟨c6_4⟩, ⟨c6_1⟩⟩
      ·rw [if_neg c15] at H
       obtain ⟨c15b0, c15b1⟩ := zbf_ c15; by_cases c19 : a0_0 = 2
       ·rw [if_pos c19] at H
        obtain ⟨c19b0, c19b1⟩ := zbt_ c19; clear c19; by_cases c20 : a0_2.toList = ([] : List UInt8)
        ·rw [if_pos c20] at H
         obtain ⟨c20b0, c20b1⟩ := zbt_ c20; clear c20; have H' := ak H; clear H; obtain ⟨hcz21_0, hcz21_1, hcz21_2, hfz21_0, hfz21_1, hfz21_2⟩ := zx3_ BK247.out; go_wp2_with (first | ((with_reducible refine gate_callee (f := 47) rfl ?_); refine zgo_ 6 Tryd.func47 #[.int .i64 a0_0, .int .i64 1, .int .i64 9] ?_ (e := d6_1); (with_reducible refine (impl_in.calls a0_0 1 9 true _ A4.out).mono ?_); rintro e w' ⟨rfl, ⟨nd, rfl⟩⟩; refine ⟨_, rfl, ?_⟩) | (go_at_call 52; (with_reducible refine (impl_isPlaced.calls a0_0 false _ A10.out).mono ?_); rintro e w' ⟨rfl, ⟨nd, rfl⟩⟩)); go_meet
         case rel => exact ⟨_, (false), d6_3, H', ⟨by first | exact Nat.le_refl _ | omega⟩, ⟨c6_4⟩, ⟨c6_1⟩⟩
        ·rw [if_neg c20] at H
         obtain ⟨c20b0, c20b1⟩ := zbf_ c20; have H' := ak H; clear H; obtain ⟨hcz22_0, hcz22_1, hcz22_2, hfz22_0, hfz22_1, hfz22_2⟩ := zx3_ BK247.out; go_wp2_with (first | ((with_reducible refine gate_callee (f := 47) rfl ?_); refine zgo_ 6 Tryd.func47 #[.int .i64 a0_0, .int .i64 1, .int .i64 9] ?_ (e := d6_1); (with_reducible refine (impl_in.calls a0_0 1 9 true _ A4.out).mono ?_); rintro e w' ⟨rfl, ⟨nd, rfl⟩⟩; refine ⟨_, rfl, ?_⟩) | (go_at_call 52; (with_reducible refine (impl_isPlaced.calls a0_0 false _ A10.out).mono ?_); rintro e w' ⟨rfl, ⟨nd, rfl⟩⟩)); go_meet
         case rel => exact ⟨_, ((a0_0 != 4)), d6_3, H', ⟨by first | exact Nat.le_refl _ | omega⟩, ⟨c6_4⟩, ⟨c6_1⟩⟩
       ·rw [if_neg c19] at H
        obtain ⟨c19b0, c19b1⟩ := zbf_ c19; have H' := ak H; clear H; obtain ⟨hcz23_0, hcz23_1, hcz23_2, hfz23_0, hfz23_1, hfz23_2⟩ := zx3_ BK247.out; go_wp2_with (first | ((with_reducible refine gate_callee (f := 47) rfl ?_); refine zgo_ 6 Tryd.func47 #[.int .i64 a0_0, .int .i64 1, .int .i64 9] ?_ (e := d6_1); (with_reducible refine (impl_in.calls a0_0 1 9 true _ A4.out).mono ?_); rintro e w' ⟨rfl, ⟨nd, rfl⟩⟩; refine ⟨_, rfl, ?_⟩) | (go_at_call 52; (with_reducible refine (impl_isPlaced.calls a0_0 false _ A10.out).mono ?_); rintro e w' ⟨rfl, ⟨nd, rfl⟩⟩)); go_meet
        case rel => exact ⟨_, (true), d6_3, H', ⟨by first | exact Nat.le_refl _ | omega⟩, ⟨c6_4⟩, ⟨c6_1⟩⟩
   ·replace c5 := Bool.eq_false_iff.mpr c5
    subst c5; rw [if_neg (show ¬ (false = true) by decide)] at H; have H' := ak H; clear H; obtain ⟨hcz24_0, hcz24_1, hcz24_2, hfz24_0, hfz24_1, hfz24_2⟩ := zx3_ BK247.out; go_wp2_with (first | ((with_reducible refine gate_callee (f := 47) rfl ?_); refine zgo_ 6 Tryd.func47 #[.int .i64 a0_0, .int .i64 1, .int .i64 9] ?_ (e := d6_1); (with_reducible refine (impl_in.calls a0_0 1 9 false _ A4.out).mono ?_); rintro e w' ⟨rfl, ⟨nd, rfl⟩⟩; refine ⟨_, rfl, ?_⟩)); go_meet
    case rel => exact ⟨_, (true), d6_3, H', ⟨by first | exact Nat.le_refl _ | omega⟩, ⟨c6_4⟩, ⟨c6_1⟩⟩
  case rest =>
   clear HC2
   try clear c4
   obtain ⟨kq, x3_1, rfl, HA, HJ1, BK247, HB⟩ := hcut
   cases kq with
   | zero => exact absurd HA.out (by simp [impl_ValueFault.j0])
   | succ kj1 =>
    have H := HA.out; clear HA; simp only [impl_ValueFault.j0] at H; by_cases c25 : x3_1 = true
    ·subst c25
     rw [if_pos rfl] at H; obtain rfl := Option.some.inj H; go_wp2; go_ret; exact ⟨c6_3, c6_1⟩
    ·replace c25 := Bool.eq_false_iff.mpr c25
     subst c25; rw [if_neg (show ¬ (false = true) by decide)] at H; obtain ⟨t250, A26, H⟩ := zbi_ H; (try dsimp -simprocs only at H); by_cases c27 : t250 = true
     ·subst c27
      rw [if_pos rfl] at H; obtain ⟨t251, A28, H⟩ := zbi_ H; (try dsimp -simprocs only at H); by_cases c29 : t251 = true
      ·subst c29
       rw [if_pos rfl] at H; obtain ⟨t252, A30, H⟩ := zbi_ H; (try dsimp -simprocs only at H); obtain rfl := Option.some.inj H; obtain ⟨hcz31_0, hcz31_1, hcz31_2, hfz31_0, hfz31_1, hfz31_2⟩ := zx3_ BK247.out
       go_wp2_with (first | ((with_reducible refine gate_callee (f := 52) rfl ?_); refine zgo_ 42 Tryd.func52 #[.int .i64 a0_0] ?_ (e := d6_1); (with_reducible refine (impl_isPlaced.calls a0_0 true _ A26.out).mono ?_); rintro e w' ⟨rfl, ⟨nd, rfl⟩⟩; refine ⟨_, rfl, ?_⟩) | (go_at_call 47; (with_reducible refine (impl_in.calls a0_1 0 99999 true _ A28.out).mono ?_); rintro e w' ⟨rfl, ⟨nd, rfl⟩⟩) | ((with_reducible refine gate_callee (f := 53) rfl ?_); refine zgo_ 55 Tryd.func53 #[.int .i64 a0_0, .int .i64 1, .int .i64 4, .int .i64 2, .int .i64 a0_1, .string a0_2] ?_ (e := d6_1); (with_reducible refine (impl_kindFault.calls a0_0 1 4 2 a0_1 a0_2 t252 _ A30.out).mono ?_); rintro e w32 ⟨rfl, hb⟩; refine ⟨_, rfl, ?_⟩; replace BK247 := zbb_ (g := gb247) (o := .cells #[.int .i64 a0_0, .int .i64 a0_1, .string a0_2] 28 (0, 0)) hb (zpl_ BK247.out); replace HB := ak (below_step (by repeat (first | (with_reducible first | exact HB.out | apply below_alloc | apply pw_below_drewN | apply below_drew1 | refine below_set ?_ GE247.out) | exact HB.out)) hb); (try clear hb))); go_ret; exact ⟨c6_3, c6_1⟩
      ·replace c29 := Bool.eq_false_iff.mpr c29
       subst c29; rw [if_neg (show ¬ (false = true) by decide)] at H; obtain rfl := Option.some.inj H; obtain ⟨hcz33_0, hcz33_1, hcz33_2, hfz33_0, hfz33_1, hfz33_2⟩ := zx3_ BK247.out; go_wp2_with (first | ((with_reducible refine gate_callee (f := 52) rfl ?_); refine zgo_ 42 Tryd.func52 #[.int .i64 a0_0] ?_ (e := d6_1); (with_reducible refine (impl_isPlaced.calls a0_0 true _ A26.out).mono ?_); rintro e w' ⟨rfl, ⟨nd, rfl⟩⟩; refine ⟨_, rfl, ?_⟩) | (go_at_call 47; (with_reducible refine (impl_in.calls a0_1 0 99999 false _ A28.out).mono ?_); rintro e w' ⟨rfl, ⟨nd, rfl⟩⟩)); go_ret; exact ⟨c6_3, c6_1⟩
     ·replace c27 := Bool.eq_false_iff.mpr c27
      subst c27; rw [if_neg (show ¬ (false = true) by decide)] at H; obtain ⟨t253, A34, H⟩ := zbi_ H; (try dsimp -simprocs only at H); obtain rfl := Option.some.inj H; obtain ⟨hcz35_0, hcz35_1, hcz35_2, hfz35_0, hfz35_1, hfz35_2⟩ := zx3_ BK247.out
      go_wp2_with (first | ((with_reducible refine gate_callee (f := 52) rfl ?_); refine zgo_ 42 Tryd.func52 #[.int .i64 a0_0] ?_ (e := d6_1); (with_reducible refine (impl_isPlaced.calls a0_0 false _ A26.out).mono ?_); rintro e w' ⟨rfl, ⟨nd, rfl⟩⟩; refine ⟨_, rfl, ?_⟩) | ((with_reducible refine gate_callee (f := 53) rfl ?_); refine zgo_ 55 Tryd.func53 #[.int .i64 a0_0, .int .i64 1, .int .i64 4, .int .i64 2, .int .i64 a0_1, .string a0_2] ?_ (e := d6_1); (with_reducible refine (impl_kindFault.calls a0_0 1 4 2 a0_1 a0_2 t253 _ A34.out).mono ?_); rintro e w36 ⟨rfl, hb⟩; refine ⟨_, rfl, ?_⟩; replace BK247 := zbb_ (g := gb247) (o := .cells #[.int .i64 a0_0, .int .i64 a0_1, .string a0_2] 28 (0, 0)) hb (zpl_ BK247.out); replace HB := ak (below_step (by repeat (first | (with_reducible first | exact HB.out | apply below_alloc | apply pw_below_drewN | apply below_drew1 | refine below_set ?_ GE247.out) | exact HB.out)) hb); (try clear hb))); go_ret; exact ⟨c6_3, c6_1⟩

end Go.Proofs.YtolhanigjmhkgabDoor.A
