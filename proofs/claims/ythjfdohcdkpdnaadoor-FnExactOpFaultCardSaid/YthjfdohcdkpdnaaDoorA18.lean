/- Walks of the program's functions: each Go function's answer as a plain Lean function, and that the call comes to it. Written by a program. Conditions: those in each theorem's own head. -/
import Derived.Test.YthjfdohcdkpdnaaDoorA0
import Derived.Test.YthjfdohcdkpdnaaDoorA1
import Derived.Test.YthjfdohcdkpdnaaDoorA15
import Derived.Test.YthjfdohcdkpdnaaDoorA17
namespace Go.Proofs.YthjfdohcdkpdnaaDoor.A
open Go.RowKit Go.Proofs.YthjfdohcdkpdnaaDoorW.PrintWords Go.Proofs.YthjfdohcdkpdnaaDoorW.PrintLast Go.Proofs.YthjfdohcdkpdnaaDoorW.PrintMore
attribute [local go_sem] max2_int min2_int max_two min_two max_three min_three max_four min_four   -- for this text's walks alone
set_option linter.unusedVariables false
set_option linter.unusedSimpArgs false

theorem d18_1 {p : Prop} (h : p := by (try simp only [List.map_toArray, List.map_cons, List.map_nil]); first | done | rfl | (simp only [List.length_drop, List.length_take]; rfl)) : p := h
theorem d18_2 {p : Prop} (h : p := by first | rfl | (simp; done) | (simp [*]; done) | (simp [ne_nil_b, eq_nil_b]; done)) : p := h
theorem d18_3 {p : Prop} (h : p := by first | (with_reducible assumption) | assumption) : p := h

/-! ### spec_l9Op: function 67 -/
mutual
def spec_l9Op.l0 : Nat → List Int → Int → Int → Int → Int → Int → Int → ByteArray → List (S132) → Option (Int)
  | 0, _, _, _, _, _, _, _, _, _ => none
  | k + 1, x3, x4, x1000, x1001, x1002, x1003, x1004, x1005, x1006 => if x4 < 4 then (if 0 ≤ x4 then (if x4 < (x3.length : Int) then (if (rd x3 x4) = 0 then (spec_l9Op.l0 k x3 (wrap64 (x4 + 1)) x1000 x1001 x1002 x1003 x1004 x1005 x1006) else (some 1)) else (none)) else (none)) else ((spec_l9Named.f x1000).bind fun t580 => (if t580 = true then ((spec_l9Const.f x1000).bind fun t581 => (if t581 = true then (spec_l9Op.j1 k x3 false x1000 x1001 x1002 x1003 x1004 x1005 x1006) else (spec_l9Op.j1 k x3 (decide ((x1006.length : Int) > 0)) x1000 x1001 x1002 x1003 x1004 x1005 x1006))) else (if x1005.toList = ([] : List UInt8) then ((spec_l9Const.f x1000).bind fun t582 => (if t582 = true then (spec_l9Op.j1 k x3 false x1000 x1001 x1002 x1003 x1004 x1005 x1006) else (spec_l9Op.j1 k x3 (decide ((x1006.length : Int) > 0)) x1000 x1001 x1002 x1003 x1004 x1005 x1006))) else (spec_l9Op.j1 k x3 true x1000 x1001 x1002 x1003 x1004 x1005 x1006))))
def spec_l9Op.j1 : Nat → List Int → Bool → Int → Int → Int → Int → Int → ByteArray → List (S132) → Option (Int)
  | 0, _, _, _, _, _, _, _, _, _ => none
  | k + 1, x3, x56, x1000, x1001, x1002, x1003, x1004, x1005, x1006 => if x56 = true then (some 1) else (spec_l9Op.l1 k x3 0 x1000 x1001 x1002 x1003 x1004 x1005 x1006)
def spec_l9Op.l1 : Nat → List Int → Int → Int → Int → Int → Int → Int → ByteArray → List (S132) → Option (Int)
  | 0, _, _, _, _, _, _, _, _, _ => none
  | k + 1, x3, x5, x1000, x1001, x1002, x1003, x1004, x1005, x1006 => if x5 < 4 then (if 0 ≤ x5 then (if x5 < (x3.length : Int) then ((spec_l1In.f (rd x3 x5) 0 999).bind fun t584 => (if t584 = true then (spec_l9Op.l1 k x3 (wrap64 (x5 + 1)) x1000 x1001 x1002 x1003 x1004 x1005 x1006) else (some 3))) else (none)) else (none)) else (if x1000 = 10 then (spec_l9Op.j3 k (decide (x1001 > 3)) x1000 x1001 x1002 x1003 x1004 x1005 x1006) else (if x1000 = 11 then (spec_l9Op.j3 k (decide (x1001 > 3)) x1000 x1001 x1002 x1003 x1004 x1005 x1006) else (spec_l9Op.j3 k false x1000 x1001 x1002 x1003 x1004 x1005 x1006)))
def spec_l9Op.j3 : Nat → Bool → Int → Int → Int → Int → Int → ByteArray → List (S132) → Option (Int)
  | 0, _, _, _, _, _, _, _, _ => none
  | k + 1, x85, x1000, x1001, x1002, x1003, x1004, x1005, x1006 => if x85 = true then (some 3) else ((spec_l9Named.f x1000).bind fun t587 => (if t587 = true then ((spec_l2Sym.f k x1005).bind fun t588 => (spec_l9Op.j4 k (!t588) x1000 x1001 x1002 x1003 x1004 x1005 x1006)) else (spec_l9Op.j4 k false x1000 x1001 x1002 x1003 x1004 x1005 x1006)))
def spec_l9Op.j4 : Nat → Bool → Int → Int → Int → Int → Int → ByteArray → List (S132) → Option (Int)
  | 0, _, _, _, _, _, _, _, _ => none
  | k + 1, x98, x1000, x1001, x1002, x1003, x1004, x1005, x1006 => if x98 = true then (some 5) else ((spec_l9Const.f x1000).bind fun t590 => (if t590 = true then ((spec_l3Fault.f k x1006).bind fun t591 => (some t591)) else (some 0)))
end
def spec_l9Op.f (k : Nat) (a0_0 : Int) (a0_1 : Int) (a0_2 : Int) (a0_3 : Int) (a0_4 : Int) (a0_5 : ByteArray) (l0_6 : List (S132)) : Option (Int) := (spec_l1In.f a0_0 1 16).bind fun t572 => (if t572 = true then ((spec_l9All.f a0_0 a0_1 a0_2 a0_3 a0_4 a0_5 l0_6).bind fun t573 => ((spec_l9Nums.f k a0_0).bind fun t577 => (spec_l9Op.l0 k t573 t577 a0_0 a0_1 a0_2 a0_3 a0_4 a0_5 l0_6))) else (some 1))
theorem spec_l9Op.mono_l : ∀ k, (∀ y0 y1 y2 y3 y4 y5 y6 y7 y8, LeO (spec_l9Op.l0 k y0 y1 y2 y3 y4 y5 y6 y7 y8) (spec_l9Op.l0 (k + 1) y0 y1 y2 y3 y4 y5 y6 y7 y8)) ∧ (∀ y0 y1 y2 y3 y4 y5 y6 y7 y8, LeO (spec_l9Op.j1 k y0 y1 y2 y3 y4 y5 y6 y7 y8) (spec_l9Op.j1 (k + 1) y0 y1 y2 y3 y4 y5 y6 y7 y8)) ∧ (∀ y0 y1 y2 y3 y4 y5 y6 y7 y8, LeO (spec_l9Op.l1 k y0 y1 y2 y3 y4 y5 y6 y7 y8) (spec_l9Op.l1 (k + 1) y0 y1 y2 y3 y4 y5 y6 y7 y8)) ∧ (∀ y0 y1 y2 y3 y4 y5 y6 y7, LeO (spec_l9Op.j3 k y0 y1 y2 y3 y4 y5 y6 y7) (spec_l9Op.j3 (k + 1) y0 y1 y2 y3 y4 y5 y6 y7)) ∧ (∀ y0 y1 y2 y3 y4 y5 y6 y7, LeO (spec_l9Op.j4 k y0 y1 y2 y3 y4 y5 y6 y7) (spec_l9Op.j4 (k + 1) y0 y1 y2 y3 y4 y5 y6 y7))
  | 0 => ⟨fun _ _ _ _ _ _ _ _ _ r h => by simp [spec_l9Op.l0] at h, fun _ _ _ _ _ _ _ _ _ r h => by simp [spec_l9Op.j1] at h, fun _ _ _ _ _ _ _ _ _ r h => by simp [spec_l9Op.l1] at h, fun _ _ _ _ _ _ _ _ r h => by simp [spec_l9Op.j3] at h, fun _ _ _ _ _ _ _ _ r h => by simp [spec_l9Op.j4] at h⟩
  | k + 1 => by
    obtain ⟨ih0, ih1, ih2, ih3, ih4⟩ := spec_l9Op.mono_l k
    refine ⟨?_, ?_, ?_, ?_, ?_⟩
    · intro y0 y1 y2 y3 y4 y5 y6 y7 y8
      unfold spec_l9Op.l0
      repeat' first
      | (with_reducible exact ih0 _ _ _ _ _ _ _ _ _)
      | (with_reducible exact ih1 _ _ _ _ _ _ _ _ _)
      | (with_reducible exact ih2 _ _ _ _ _ _ _ _ _)
      | (with_reducible exact ih3 _ _ _ _ _ _ _ _)
      | (with_reducible exact ih4 _ _ _ _ _ _ _ _)
      | (with_reducible exact spec_l2Sym.mono _ _)
      | (with_reducible exact spec_l3Fault.mono _ _)
      | (with_reducible exact spec_l9Nums.mono _ _)
      | (with_reducible exact LeO.refl _)
      | (with_reducible exact LeO.none _)
      | (with_reducible refine LeO.ite ?_ ?_)
      | (with_reducible refine LeO.bind ?_ (fun _ => ?_))
      | exact ih0 _ _ _ _ _ _ _ _ _
      | exact ih1 _ _ _ _ _ _ _ _ _
      | exact ih2 _ _ _ _ _ _ _ _ _
      | exact ih3 _ _ _ _ _ _ _ _
      | exact ih4 _ _ _ _ _ _ _ _
      | exact spec_l2Sym.mono _ _
      | exact spec_l3Fault.mono _ _
      | exact spec_l9Nums.mono _ _
      | exact LeO.none _
      | refine LeO.ite ?_ ?_
      | refine LeO.bind ?_ (fun _ => ?_)
    · intro y0 y1 y2 y3 y4 y5 y6 y7 y8
      unfold spec_l9Op.j1
      repeat' first
      | (with_reducible exact ih0 _ _ _ _ _ _ _ _ _)
      | (with_reducible exact ih1 _ _ _ _ _ _ _ _ _)
      | (with_reducible exact ih2 _ _ _ _ _ _ _ _ _)
      | (with_reducible exact ih3 _ _ _ _ _ _ _ _)
      | (with_reducible exact ih4 _ _ _ _ _ _ _ _)
      | (with_reducible exact spec_l2Sym.mono _ _)
      | (with_reducible exact spec_l3Fault.mono _ _)
      | (with_reducible exact spec_l9Nums.mono _ _)
      | (with_reducible exact LeO.refl _)
      | (with_reducible exact LeO.none _)
      | (with_reducible refine LeO.ite ?_ ?_)
      | (with_reducible refine LeO.bind ?_ (fun _ => ?_))
      | exact ih0 _ _ _ _ _ _ _ _ _
      | exact ih1 _ _ _ _ _ _ _ _ _
      | exact ih2 _ _ _ _ _ _ _ _ _
      | exact ih3 _ _ _ _ _ _ _ _
      | exact ih4 _ _ _ _ _ _ _ _
      | exact spec_l2Sym.mono _ _
      | exact spec_l3Fault.mono _ _
      | exact spec_l9Nums.mono _ _
      | exact LeO.none _
      | refine LeO.ite ?_ ?_
      | refine LeO.bind ?_ (fun _ => ?_)
    · intro y0 y1 y2 y3 y4 y5 y6 y7 y8
      unfold spec_l9Op.l1
      repeat' first
      | (with_reducible exact ih0 _ _ _ _ _ _ _ _ _)
      | (with_reducible exact ih1 _ _ _ _ _ _ _ _ _)
      | (with_reducible exact ih2 _ _ _ _ _ _ _ _ _)
      | (with_reducible exact ih3 _ _ _ _ _ _ _ _)
      | (with_reducible exact ih4 _ _ _ _ _ _ _ _)
      | (with_reducible exact spec_l2Sym.mono _ _)
      | (with_reducible exact spec_l3Fault.mono _ _)
      | (with_reducible exact spec_l9Nums.mono _ _)
      | (with_reducible exact LeO.refl _)
      | (with_reducible exact LeO.none _)
      | (with_reducible refine LeO.ite ?_ ?_)
      | (with_reducible refine LeO.bind ?_ (fun _ => ?_))
      | exact ih0 _ _ _ _ _ _ _ _ _
      | exact ih1 _ _ _ _ _ _ _ _ _
      | exact ih2 _ _ _ _ _ _ _ _ _
      | exact ih3 _ _ _ _ _ _ _ _
      | exact ih4 _ _ _ _ _ _ _ _
      | exact spec_l2Sym.mono _ _
      | exact spec_l3Fault.mono _ _
      | exact spec_l9Nums.mono _ _
      | exact LeO.none _
      | refine LeO.ite ?_ ?_
      | refine LeO.bind ?_ (fun _ => ?_)
    · intro y0 y1 y2 y3 y4 y5 y6 y7
      unfold spec_l9Op.j3
      repeat' first
      | (with_reducible exact ih0 _ _ _ _ _ _ _ _ _)
      | (with_reducible exact ih1 _ _ _ _ _ _ _ _ _)
      | (with_reducible exact ih2 _ _ _ _ _ _ _ _ _)
      | (with_reducible exact ih3 _ _ _ _ _ _ _ _)
      | (with_reducible exact ih4 _ _ _ _ _ _ _ _)
      | (with_reducible exact spec_l2Sym.mono _ _)
      | (with_reducible exact spec_l3Fault.mono _ _)
      | (with_reducible exact spec_l9Nums.mono _ _)
      | (with_reducible exact LeO.refl _)
      | (with_reducible exact LeO.none _)
      | (with_reducible refine LeO.ite ?_ ?_)
      | (with_reducible refine LeO.bind ?_ (fun _ => ?_))
      | exact ih0 _ _ _ _ _ _ _ _ _
      | exact ih1 _ _ _ _ _ _ _ _ _
      | exact ih2 _ _ _ _ _ _ _ _ _
      | exact ih3 _ _ _ _ _ _ _ _
      | exact ih4 _ _ _ _ _ _ _ _
      | exact spec_l2Sym.mono _ _
      | exact spec_l3Fault.mono _ _
      | exact spec_l9Nums.mono _ _
      | exact LeO.none _
      | refine LeO.ite ?_ ?_
      | refine LeO.bind ?_ (fun _ => ?_)
    · intro y0 y1 y2 y3 y4 y5 y6 y7
      unfold spec_l9Op.j4
      repeat' first
      | (with_reducible exact ih0 _ _ _ _ _ _ _ _ _)
      | (with_reducible exact ih1 _ _ _ _ _ _ _ _ _)
      | (with_reducible exact ih2 _ _ _ _ _ _ _ _ _)
      | (with_reducible exact ih3 _ _ _ _ _ _ _ _)
      | (with_reducible exact ih4 _ _ _ _ _ _ _ _)
      | (with_reducible exact spec_l2Sym.mono _ _)
      | (with_reducible exact spec_l3Fault.mono _ _)
      | (with_reducible exact spec_l9Nums.mono _ _)
      | (with_reducible exact LeO.refl _)
      | (with_reducible exact LeO.none _)
      | (with_reducible refine LeO.ite ?_ ?_)
      | (with_reducible refine LeO.bind ?_ (fun _ => ?_))
      | exact ih0 _ _ _ _ _ _ _ _ _
      | exact ih1 _ _ _ _ _ _ _ _ _
      | exact ih2 _ _ _ _ _ _ _ _ _
      | exact ih3 _ _ _ _ _ _ _ _
      | exact ih4 _ _ _ _ _ _ _ _
      | exact spec_l2Sym.mono _ _
      | exact spec_l3Fault.mono _ _
      | exact spec_l9Nums.mono _ _
      | exact LeO.none _
      | refine LeO.ite ?_ ?_
      | refine LeO.bind ?_ (fun _ => ?_)
theorem spec_l9Op.mono : ∀ a0 a1 a2 a3 a4 a5 a6 k, LeO (spec_l9Op.f k a0 a1 a2 a3 a4 a5 a6) (spec_l9Op.f (k + 1) a0 a1 a2 a3 a4 a5 a6) := by
  intro a0 a1 a2 a3 a4 a5 a6 k
  obtain ⟨ih0, ih1, ih2, ih3, ih4⟩ := spec_l9Op.mono_l k
  unfold spec_l9Op.f
  repeat' first
      | (with_reducible exact ih0 _ _ _ _ _ _ _ _ _)
      | (with_reducible exact ih1 _ _ _ _ _ _ _ _ _)
      | (with_reducible exact ih2 _ _ _ _ _ _ _ _ _)
      | (with_reducible exact ih3 _ _ _ _ _ _ _ _)
      | (with_reducible exact ih4 _ _ _ _ _ _ _ _)
      | (with_reducible exact spec_l2Sym.mono _ _)
      | (with_reducible exact spec_l3Fault.mono _ _)
      | (with_reducible exact spec_l9Nums.mono _ _)
      | (with_reducible exact LeO.refl _)
      | (with_reducible exact LeO.none _)
      | (with_reducible refine LeO.ite ?_ ?_)
      | (with_reducible refine LeO.bind ?_ (fun _ => ?_))
      | exact ih0 _ _ _ _ _ _ _ _ _
      | exact ih1 _ _ _ _ _ _ _ _ _
      | exact ih2 _ _ _ _ _ _ _ _ _
      | exact ih3 _ _ _ _ _ _ _ _
      | exact ih4 _ _ _ _ _ _ _ _
      | exact spec_l2Sym.mono _ _
      | exact spec_l3Fault.mono _ _
      | exact spec_l9Nums.mono _ _
      | exact LeO.none _
      | refine LeO.ite ?_ ?_
      | refine LeO.bind ?_ (fun _ => ?_)
set_option maxHeartbeats 8000000 in
set_option maxRecDepth 100000 in
theorem spec_l9Op.calls (k : Nat) (P0_ : Addr) (a0_0 : Int) (a0_1 : Int) (a0_2 : Int) (a0_3 : Int) (a0_4 : Int) (a0_5 : ByteArray) (A0_6 : Option Addr) (c0_6 : Nat) (l0_6 : List (S132)) (r : Int) (w : World) (hq0_0 : w.cell? P0_ = some (.int .i64 a0_0)) (hq0_1 : w.cell? ⟨P0_.block, P0_.off + 1, none⟩ = some (.int .i64 a0_1)) (hq0_2 : w.cell? ⟨P0_.block, P0_.off + 2, none⟩ = some (.int .i64 a0_2)) (hq0_3 : w.cell? ⟨P0_.block, P0_.off + 3, none⟩ = some (.int .i64 a0_3)) (hq0_4 : w.cell? ⟨P0_.block, P0_.off + 4, none⟩ = some (.int .i64 a0_4)) (hq0_5 : w.cell? ⟨P0_.block, P0_.off + 5, none⟩ = some (.string a0_5)) (hq0_6 : w.cell? ⟨P0_.block, P0_.off + 6, none⟩ = some (.slice A0_6 l0_6.length c0_6)) (hr0_6 : Kd.C k132 w A0_6 l0_6.length l0_6) (hc0_6 : l0_6.length ≤ c0_6) (h : spec_l9Op.f k a0_0 a0_1 a0_2 a0_3 a0_4 a0_5 l0_6 = some r) :
    Calls Tryd.prog 67 #[.pointer (some P0_)] w fun e w' => e = .returned (.int .i64 r) ∧ Below w.heap.size w w' := by
  have HQ0_0 := ak hq0_0
  clear hq0_0
  have HQ0_1 := ak hq0_1
  clear hq0_1
  have HQ0_2 := ak hq0_2
  clear hq0_2
  have HQ0_3 := ak hq0_3
  clear hq0_3
  have HQ0_4 := ak hq0_4
  clear hq0_4
  have HQ0_5 := ak hq0_5
  clear hq0_5
  have HQ0_6 := ak hq0_6
  clear hq0_6
  have HR0_6 := ak hr0_6
  have HC0_6 := ak hc0_6
  clear hr0_6 hc0_6
  have HB := ak (Below.refl w.heap.size w)
  have H : ((spec_l1In.f a0_0 1 16).bind fun t572 => (if t572 = true then ((spec_l9All.f a0_0 a0_1 a0_2 a0_3 a0_4 a0_5 l0_6).bind fun t573 => ((spec_l9Nums.f k a0_0).bind fun t577 => (spec_l9Op.l0 k t573 t577 a0_0 a0_1 a0_2 a0_3 a0_4 a0_5 l0_6))) else (some 1))) = some r := h
  clear h
  replace H := Option.bind_eq_some_iff.mp H
  obtain ⟨t572, A20, H⟩ := H
  replace H : (if t572 = true then ((spec_l9All.f a0_0 a0_1 a0_2 a0_3 a0_4 a0_5 l0_6).bind fun t573 => ((spec_l9Nums.f k a0_0).bind fun t577 => (spec_l9Op.l0 k t573 t577 a0_0 a0_1 a0_2 a0_3 a0_4 a0_5 l0_6))) else (some 1)) = some r := H
  have A2 := ak A20
  clear A20
  by_cases c3 : t572 = true
  ·subst c3
   have H1 : ((spec_l9All.f a0_0 a0_1 a0_2 a0_3 a0_4 a0_5 l0_6).bind fun t573 => ((spec_l9Nums.f k a0_0).bind fun t577 => (spec_l9Op.l0 k t573 t577 a0_0 a0_1 a0_2 a0_3 a0_4 a0_5 l0_6))) = some r := by rw [if_pos rfl] at H; exact H
   clear H
   have H := H1
   clear H1
   replace H := Option.bind_eq_some_iff.mp H
   obtain ⟨t573, A40, H⟩ := H
   replace H : ((spec_l9Nums.f k a0_0).bind fun t577 => (spec_l9Op.l0 k t573 t577 a0_0 a0_1 a0_2 a0_3 a0_4 a0_5 l0_6)) = some r := H
   have A4 := ak A40
   clear A40
   replace H := Option.bind_eq_some_iff.mp H
   obtain ⟨t577, A50, H⟩ := H
   replace H : (spec_l9Op.l0 k t573 t577 a0_0 a0_1 a0_2 a0_3 a0_4 a0_5 l0_6) = some r := H
   have A5 := ak A50
   clear A50
   have H' := ak H
   clear H
   have hx571_0 := HQ0_0.out
   have hx571_1 := HQ0_1.out
   have hx571_2 := HQ0_2.out
   have hx571_3 := HQ0_3.out
   have hx571_4 := HQ0_4.out
   have hx571_5 := HQ0_5.out
   have hx571_6 := HQ0_6.out
   go_enter Tryd.func67, Tryd.ntmps67
   go_wp2_with (first | ((with_reducible refine gate_callee (f := 78) rfl ?_); refine goesL_ (some 10) rfl rfl Tryd.func78 (by kernel_rfl) rfl #[.int .i64 a0_0, .int .i64 1, .int .i64 16] rfl d18_1 ?_; (with_reducible refine (spec_l1In.calls a0_0 1 16 true _ A2.out).mono ?_); rintro e w' ⟨rfl, ⟨nd, rfl⟩⟩; refine ⟨_, rfl, ?_⟩) | (go_at_call 95; (with_reducible refine (spec_l9All.calls _ a0_0 a0_1 a0_2 a0_3 a0_4 a0_5 A0_6 c0_6 l0_6 t573 _ ?side1 ?side2 ?side3 ?side4 ?side5 ?side6 ?side7 ?side8 ?side9 A4.out).mono ?_); (case side1 => first | exact hx571_0 | (refine Eq.trans ?_ hx571_0; simp only [go_sem])); (case side2 => first | exact hx571_1 | (refine Eq.trans ?_ hx571_1; simp only [go_sem])); (case side3 => first | exact hx571_2 | (refine Eq.trans ?_ hx571_2; simp only [go_sem])); (case side4 => first | exact hx571_3 | (refine Eq.trans ?_ hx571_3; simp only [go_sem])); (case side5 => first | exact hx571_4 | (refine Eq.trans ?_ hx571_4; simp only [go_sem])); (case side6 => first | exact hx571_5 | (refine Eq.trans ?_ hx571_5; simp only [go_sem])); (case side7 => first | exact hx571_6 | (refine Eq.trans ?_ hx571_6; simp only [go_sem])); (case side8 => repeat (first | exact HR0_6.out | (with_reducible refine Kd.C_alloc ?_ _) | (with_reducible refine Kd.C_drewN ?_ _) | (with_reducible refine Kd.C_drew ?_))); (case side9 => exact HC0_6.out); rintro e w6 ⟨v574, rfl, ho0, hb⟩; have n0_ := ak (Kd.R_lower ho0 (below_size (by repeat (first | (with_reducible first | exact HB.out | apply below_alloc | apply pw_below_drewN | apply below_drew1) | exact HB.out)))); have n1_ := ak (below_step (by repeat (first | (with_reducible first | exact HB.out | apply below_alloc | apply pw_below_drewN | apply below_drew1) | exact HB.out)) hb); clear HB; have HO575 := n0_; have HB := n1_; clear n0_ n1_; (try clear hb); (try clear ho0); have hx576_0 := HQ0_0.out; replace hx576_0 := (HB.out.cell (World.block_lt_of_cell? w _ hx576_0)).trans hx576_0; have hx576_1 := HQ0_1.out; replace hx576_1 := (HB.out.cell (World.block_lt_of_cell? w _ hx576_1)).trans hx576_1; have hx576_2 := HQ0_2.out; replace hx576_2 := (HB.out.cell (World.block_lt_of_cell? w _ hx576_2)).trans hx576_2; have hx576_3 := HQ0_3.out; replace hx576_3 := (HB.out.cell (World.block_lt_of_cell? w _ hx576_3)).trans hx576_3; have hx576_4 := HQ0_4.out; replace hx576_4 := (HB.out.cell (World.block_lt_of_cell? w _ hx576_4)).trans hx576_4; have hx576_5 := HQ0_5.out; replace hx576_5 := (HB.out.cell (World.block_lt_of_cell? w _ hx576_5)).trans hx576_5; have hx576_6 := HQ0_6.out; replace hx576_6 := (HB.out.cell (World.block_lt_of_cell? w _ hx576_6)).trans hx576_6) | ((with_reducible refine gate_callee (f := 96) rfl ?_); refine goesL_ (some 18) rfl rfl Tryd.func96 (by kernel_rfl) rfl #[.int .i64 a0_0] rfl d18_1 ?_; (with_reducible refine (spec_l9Nums.calls k a0_0 t577 _ A5.out).mono ?_); rintro e w' ⟨rfl, ⟨nd, rfl⟩⟩; refine ⟨_, rfl, ?_⟩))
   go_loopg [4] k (fun kq v4 w' => ∃ (x4_1 : Int), v4 = .int .i64 x4_1 ∧ Aside0 (spec_l9Op.l0 kq t573 x4_1 a0_0 a0_1 a0_2 a0_3 a0_4 a0_5 l0_6 = some r) ∧ Aside0 (kq ≤ k) ∧ Aside0 (Kd.R (Kd.int .i64) 2 w' w.heap.size (fun _ => True) v574 t573) ∧ Aside0 (Below w.heap.size w w'))
   case atStart => exact ⟨(t577), d18_2, H', ⟨Nat.le_refl _⟩, ⟨by (with_reducible repeat (first | apply Kd.R_alloc | apply Kd.R_drewN | apply Kd.R_drew)); exact HO575.out⟩, ⟨by repeat (first | (with_reducible first | exact HB.out | apply below_alloc | apply pw_below_drewN | apply below_drew1) | exact HB.out)⟩⟩
   case round =>
    clear H'
    try clear p2
    try clear c3
    try clear hx5
    try clear c6
    try clear hx571_0
    try clear hx571_1
    try clear hx571_2
    try clear hx571_3
    try clear hx571_4
    try clear hx571_5
    try clear hx571_6
    try clear hx576_0
    try clear hx576_1
    try clear hx576_2
    try clear hx576_3
    try clear hx576_4
    try clear hx576_5
    try clear hx576_6
    obtain ⟨x4_1, rfl, HA, HK1, HO_3, HB⟩ := hrel
    cases gk with
    | zero => exact absurd HA.out (by simp [spec_l9Op.l0])
    | succ k1 =>
     have H := HA.out
     clear HA
     simp only [spec_l9Op.l0] at H
     by_cases c7 : x4_1 < 4
     ·rw [if_pos c7] at H
      have c7b0 : decide (x4_1 < 4) = true := decide_eq_true c7
      clear c7
      by_cases c8 : 0 ≤ x4_1
      ·rw [if_pos c8] at H
       have c8b0 : decide (0 ≤ x4_1) = true := decide_eq_true c8
       clear c8
       by_cases c9 : x4_1 < (t573.length : Int)
       ·rw [if_pos c9] at H
        have c9b0 : decide (x4_1 < (t573.length : Int)) = true := decide_eq_true c9
        clear c9
        by_cases c10 : (rd t573 x4_1) = 0
        ·rw [if_pos c10] at H
         have c10b0 : ((rd t573 x4_1) == 0) = true := beq_iff_eq.mpr c10
         have c10b1 : ((rd t573 x4_1) != 0) = false := bne_eq_false_iff_eq.mpr c10
         clear c10
         have H' := ak H
         clear H
         obtain ⟨Ao11, co11, eo11⟩ := Kd.R_slice HO_3.out
         subst eo11
         have p578 : 0 ≤ (x4_1 : Int) := of_decide_eq_true d18_3
         have q578 : x4_1 < (t573.length : Int) := of_decide_eq_true d18_3
         obtain ⟨ad578, e578, hx578_0⟩ := Kd.at_int (Kd.R_reads' HO_3.out).2.2 x4_1 p578 q578
         cases e578
         replace p578 := eq_true p578
         replace q578 := eq_true q578
         go_wp2
         go_roundg k1
         case measure => have := HK1.out; omega
         case rel => exact ⟨(wrap64 (x4_1 + 1)), d18_2, H', ⟨by have := HK1.out; omega⟩, ⟨by (with_reducible repeat (first | apply Kd.R_alloc | apply Kd.R_drewN | apply Kd.R_drew)); exact HO_3.out⟩, ⟨by repeat (first | (with_reducible first | exact HB.out | apply below_alloc | apply pw_below_drewN | apply below_drew1) | exact HB.out)⟩⟩
        ·rw [if_neg c10] at H
         have c10b0 : ((rd t573 x4_1) == 0) = false := beq_eq_false_iff_ne.mpr c10
         have c10b1 : ((rd t573 x4_1) != 0) = true := bne_iff_ne.mpr c10
         obtain rfl := Option.some.inj H
         obtain ⟨Ao12, co12, eo12⟩ := Kd.R_slice HO_3.out
         subst eo12
         have p578 : 0 ≤ (x4_1 : Int) := of_decide_eq_true d18_3
         have q578 : x4_1 < (t573.length : Int) := of_decide_eq_true d18_3
         obtain ⟨ad578, e578, hx578_0⟩ := Kd.at_int (Kd.R_reads' HO_3.out).2.2 x4_1 p578 q578
         cases e578
         replace p578 := eq_true p578
         replace q578 := eq_true q578
         go_wp2
         go_ret
         exact ⟨by first | rfl | (simp [errW_none, errW_some] <;> rfl) | (simp [*, errW_none, errW_some] <;> rfl), by repeat (first | (with_reducible first | exact HB.out | apply below_alloc | apply pw_below_drewN | apply below_drew1) | exact HB.out)⟩
       ·rw [if_neg c9] at H
        exact absurd H (by simp)
      ·rw [if_neg c8] at H
       exact absurd H (by simp)
     ·rw [if_neg c7] at H
      have c7b0 : decide (x4_1 < 4) = false := decide_eq_false c7
      clear c7
      have HC13 := ak H
      clear H
      go_upto_region 9 with (fail)
      go_cut [56] (fun v56 wc => ∃ (kq : Nat) (x56_12 : Bool), v56 = .bool x56_12 ∧ Aside0 (spec_l9Op.j1 kq t573 x56_12 a0_0 a0_1 a0_2 a0_3 a0_4 a0_5 l0_6 = some r) ∧ Aside0 (kq ≤ k1) ∧ Aside0 (Kd.R (Kd.int .i64) 2 wc w.heap.size (fun _ => True) v574 t573) ∧ Aside0 (Below w.heap.size w wc))
      case first =>
       have H := HC13.out
       clear HC13
       replace H := Option.bind_eq_some_iff.mp H
       obtain ⟨t580, A140, H⟩ := H
       replace H : (if t580 = true then ((spec_l9Const.f a0_0).bind fun t581 => (if t581 = true then (spec_l9Op.j1 k1 t573 false a0_0 a0_1 a0_2 a0_3 a0_4 a0_5 l0_6) else (spec_l9Op.j1 k1 t573 (decide ((l0_6.length : Int) > 0)) a0_0 a0_1 a0_2 a0_3 a0_4 a0_5 l0_6))) else (if a0_5.toList = ([] : List UInt8) then ((spec_l9Const.f a0_0).bind fun t582 => (if t582 = true then (spec_l9Op.j1 k1 t573 false a0_0 a0_1 a0_2 a0_3 a0_4 a0_5 l0_6) else (spec_l9Op.j1 k1 t573 (decide ((l0_6.length : Int) > 0)) a0_0 a0_1 a0_2 a0_3 a0_4 a0_5 l0_6))) else (spec_l9Op.j1 k1 t573 true a0_0 a0_1 a0_2 a0_3 a0_4 a0_5 l0_6))) = some r := H
       have A14 := ak A140
       clear A140
       by_cases c15 : t580 = true
       ·subst c15
        have H1 : ((spec_l9Const.f a0_0).bind fun t581 => (if t581 = true then (spec_l9Op.j1 k1 t573 false a0_0 a0_1 a0_2 a0_3 a0_4 a0_5 l0_6) else (spec_l9Op.j1 k1 t573 (decide ((l0_6.length : Int) > 0)) a0_0 a0_1 a0_2 a0_3 a0_4 a0_5 l0_6))) = some r := by rw [if_pos rfl] at H; exact H
        clear H
        have H := H1
        clear H1
        replace H := Option.bind_eq_some_iff.mp H
        obtain ⟨t581, A160, H⟩ := H
        replace H : (if t581 = true then (spec_l9Op.j1 k1 t573 false a0_0 a0_1 a0_2 a0_3 a0_4 a0_5 l0_6) else (spec_l9Op.j1 k1 t573 (decide ((l0_6.length : Int) > 0)) a0_0 a0_1 a0_2 a0_3 a0_4 a0_5 l0_6)) = some r := H
        have A16 := ak A160
        clear A160
        by_cases c17 : t581 = true
        ·subst c17
         have H1 : (spec_l9Op.j1 k1 t573 false a0_0 a0_1 a0_2 a0_3 a0_4 a0_5 l0_6) = some r := by rw [if_pos rfl] at H; exact H
         clear H
         have H := H1
         clear H1
         have H' := ak H
         clear H
         have hx579_0 := HQ0_0.out
         replace hx579_0 := (HB.out.cell (World.block_lt_of_cell? w _ hx579_0)).trans hx579_0
         have hx579_1 := HQ0_1.out
         replace hx579_1 := (HB.out.cell (World.block_lt_of_cell? w _ hx579_1)).trans hx579_1
         have hx579_2 := HQ0_2.out
         replace hx579_2 := (HB.out.cell (World.block_lt_of_cell? w _ hx579_2)).trans hx579_2
         have hx579_3 := HQ0_3.out
         replace hx579_3 := (HB.out.cell (World.block_lt_of_cell? w _ hx579_3)).trans hx579_3
         have hx579_4 := HQ0_4.out
         replace hx579_4 := (HB.out.cell (World.block_lt_of_cell? w _ hx579_4)).trans hx579_4
         have hx579_5 := HQ0_5.out
         replace hx579_5 := (HB.out.cell (World.block_lt_of_cell? w _ hx579_5)).trans hx579_5
         have hx579_6 := HQ0_6.out
         replace hx579_6 := (HB.out.cell (World.block_lt_of_cell? w _ hx579_6)).trans hx579_6
         go_wp2_with (first | ((with_reducible refine gate_callee (f := 97) rfl ?_); refine goesL_ (some 32) rfl rfl Tryd.func97 (by kernel_rfl) rfl #[.int .i64 a0_0] rfl d18_1 ?_; (with_reducible refine (spec_l9Named.calls a0_0 true _ A14.out).mono ?_); rintro e w' ⟨rfl, ⟨nd, rfl⟩⟩; refine ⟨_, rfl, ?_⟩) | (go_at_call 98; (with_reducible refine (spec_l9Const.calls a0_0 true _ A16.out).mono ?_); rintro e w' ⟨rfl, ⟨nd, rfl⟩⟩))
         go_meet
         case rel => exact ⟨_, (false), d18_2, H', ⟨by have := HK1.out; first | omega | exact Nat.le_refl _⟩, ⟨by (with_reducible repeat (first | apply Kd.R_alloc | apply Kd.R_drewN | apply Kd.R_drew)); exact HO_3.out⟩, ⟨by repeat (first | (with_reducible first | exact HB.out | apply below_alloc | apply pw_below_drewN | apply below_drew1) | exact HB.out)⟩⟩
        ·replace c17 := Bool.eq_false_iff.mpr c17
         subst c17
         have H1 : (spec_l9Op.j1 k1 t573 (decide ((l0_6.length : Int) > 0)) a0_0 a0_1 a0_2 a0_3 a0_4 a0_5 l0_6) = some r := by rw [if_neg (show ¬ (false = true) by decide)] at H; exact H
         clear H
         have H := H1
         clear H1
         have H' := ak H
         clear H
         have hx579_0 := HQ0_0.out
         replace hx579_0 := (HB.out.cell (World.block_lt_of_cell? w _ hx579_0)).trans hx579_0
         have hx579_1 := HQ0_1.out
         replace hx579_1 := (HB.out.cell (World.block_lt_of_cell? w _ hx579_1)).trans hx579_1
         have hx579_2 := HQ0_2.out
         replace hx579_2 := (HB.out.cell (World.block_lt_of_cell? w _ hx579_2)).trans hx579_2
         have hx579_3 := HQ0_3.out
         replace hx579_3 := (HB.out.cell (World.block_lt_of_cell? w _ hx579_3)).trans hx579_3
         have hx579_4 := HQ0_4.out
         replace hx579_4 := (HB.out.cell (World.block_lt_of_cell? w _ hx579_4)).trans hx579_4
         have hx579_5 := HQ0_5.out
         replace hx579_5 := (HB.out.cell (World.block_lt_of_cell? w _ hx579_5)).trans hx579_5
         have hx579_6 := HQ0_6.out
         replace hx579_6 := (HB.out.cell (World.block_lt_of_cell? w _ hx579_6)).trans hx579_6
         go_wp2_with (first | ((with_reducible refine gate_callee (f := 97) rfl ?_); refine goesL_ (some 32) rfl rfl Tryd.func97 (by kernel_rfl) rfl #[.int .i64 a0_0] rfl d18_1 ?_; (with_reducible refine (spec_l9Named.calls a0_0 true _ A14.out).mono ?_); rintro e w' ⟨rfl, ⟨nd, rfl⟩⟩; refine ⟨_, rfl, ?_⟩) | (go_at_call 98; (with_reducible refine (spec_l9Const.calls a0_0 false _ A16.out).mono ?_); rintro e w' ⟨rfl, ⟨nd, rfl⟩⟩))
         go_meet
         case rel => exact ⟨_, (decide ((l0_6.length : Int) > 0)), d18_2, H', ⟨by have := HK1.out; first | omega | exact Nat.le_refl _⟩, ⟨by (with_reducible repeat (first | apply Kd.R_alloc | apply Kd.R_drewN | apply Kd.R_drew)); exact HO_3.out⟩, ⟨by repeat (first | (with_reducible first | exact HB.out | apply below_alloc | apply pw_below_drewN | apply below_drew1) | exact HB.out)⟩⟩
       ·replace c15 := Bool.eq_false_iff.mpr c15
        subst c15
        have H1 : (if a0_5.toList = ([] : List UInt8) then ((spec_l9Const.f a0_0).bind fun t582 => (if t582 = true then (spec_l9Op.j1 k1 t573 false a0_0 a0_1 a0_2 a0_3 a0_4 a0_5 l0_6) else (spec_l9Op.j1 k1 t573 (decide ((l0_6.length : Int) > 0)) a0_0 a0_1 a0_2 a0_3 a0_4 a0_5 l0_6))) else (spec_l9Op.j1 k1 t573 true a0_0 a0_1 a0_2 a0_3 a0_4 a0_5 l0_6)) = some r := by rw [if_neg (show ¬ (false = true) by decide)] at H; exact H
        clear H
        have H := H1
        clear H1
        by_cases c18 : a0_5.toList = ([] : List UInt8)
        ·rw [if_pos c18] at H
         have c18b0 : (a0_5.toList == ([] : List UInt8)) = true := beq_iff_eq.mpr c18
         have c18b1 : (a0_5.toList != ([] : List UInt8)) = false := bne_eq_false_iff_eq.mpr c18
         clear c18
         (first | rw [c18b0] | (simp only [i64_w, i32_w]; rw [c18b0]) | skip)
         replace H := Option.bind_eq_some_iff.mp H
         obtain ⟨t582, A190, H⟩ := H
         replace H : (if t582 = true then (spec_l9Op.j1 k1 t573 false a0_0 a0_1 a0_2 a0_3 a0_4 a0_5 l0_6) else (spec_l9Op.j1 k1 t573 (decide ((l0_6.length : Int) > 0)) a0_0 a0_1 a0_2 a0_3 a0_4 a0_5 l0_6)) = some r := H
         have A19 := ak A190
         clear A190
         by_cases c20 : t582 = true
         ·subst c20
          have H1 : (spec_l9Op.j1 k1 t573 false a0_0 a0_1 a0_2 a0_3 a0_4 a0_5 l0_6) = some r := by rw [if_pos rfl] at H; exact H
          clear H
          have H := H1
          clear H1
          have H' := ak H
          clear H
          have hx579_0 := HQ0_0.out
          replace hx579_0 := (HB.out.cell (World.block_lt_of_cell? w _ hx579_0)).trans hx579_0
          have hx579_1 := HQ0_1.out
          replace hx579_1 := (HB.out.cell (World.block_lt_of_cell? w _ hx579_1)).trans hx579_1
          have hx579_2 := HQ0_2.out
          replace hx579_2 := (HB.out.cell (World.block_lt_of_cell? w _ hx579_2)).trans hx579_2
          have hx579_3 := HQ0_3.out
          replace hx579_3 := (HB.out.cell (World.block_lt_of_cell? w _ hx579_3)).trans hx579_3
          have hx579_4 := HQ0_4.out
          replace hx579_4 := (HB.out.cell (World.block_lt_of_cell? w _ hx579_4)).trans hx579_4
          have hx579_5 := HQ0_5.out
          replace hx579_5 := (HB.out.cell (World.block_lt_of_cell? w _ hx579_5)).trans hx579_5
          have hx579_6 := HQ0_6.out
          replace hx579_6 := (HB.out.cell (World.block_lt_of_cell? w _ hx579_6)).trans hx579_6
          go_wp2_with (first | ((with_reducible refine gate_callee (f := 97) rfl ?_); refine goesL_ (some 32) rfl rfl Tryd.func97 (by kernel_rfl) rfl #[.int .i64 a0_0] rfl d18_1 ?_; (with_reducible refine (spec_l9Named.calls a0_0 false _ A14.out).mono ?_); rintro e w' ⟨rfl, ⟨nd, rfl⟩⟩; refine ⟨_, rfl, ?_⟩) | (go_at_call 98; (with_reducible refine (spec_l9Const.calls a0_0 true _ A19.out).mono ?_); rintro e w' ⟨rfl, ⟨nd, rfl⟩⟩))
          go_meet
          case rel => exact ⟨_, (false), d18_2, H', ⟨by have := HK1.out; first | omega | exact Nat.le_refl _⟩, ⟨by (with_reducible repeat (first | apply Kd.R_alloc | apply Kd.R_drewN | apply Kd.R_drew)); exact HO_3.out⟩, ⟨by repeat (first | (with_reducible first | exact HB.out | apply below_alloc | apply pw_below_drewN | apply below_drew1) | exact HB.out)⟩⟩
         ·replace c20 := Bool.eq_false_iff.mpr c20
          subst c20
          have H1 : (spec_l9Op.j1 k1 t573 (decide ((l0_6.length : Int) > 0)) a0_0 a0_1 a0_2 a0_3 a0_4 a0_5 l0_6) = some r := by rw [if_neg (show ¬ (false = true) by decide)] at H; exact H
          clear H
          have H := H1
          clear H1
          have H' := ak H
          clear H
          have hx579_0 := HQ0_0.out
          replace hx579_0 := (HB.out.cell (World.block_lt_of_cell? w _ hx579_0)).trans hx579_0
          have hx579_1 := HQ0_1.out
          replace hx579_1 := (HB.out.cell (World.block_lt_of_cell? w _ hx579_1)).trans hx579_1
          have hx579_2 := HQ0_2.out
          replace hx579_2 := (HB.out.cell (World.block_lt_of_cell? w _ hx579_2)).trans hx579_2
          have hx579_3 := HQ0_3.out
          replace hx579_3 := (HB.out.cell (World.block_lt_of_cell? w _ hx579_3)).trans hx579_3
          have hx579_4 := HQ0_4.out
          replace hx579_4 := (HB.out.cell (World.block_lt_of_cell? w _ hx579_4)).trans hx579_4
          have hx579_5 := HQ0_5.out
          replace hx579_5 := (HB.out.cell (World.block_lt_of_cell? w _ hx579_5)).trans hx579_5
          have hx579_6 := HQ0_6.out
          replace hx579_6 := (HB.out.cell (World.block_lt_of_cell? w _ hx579_6)).trans hx579_6
          go_wp2_with (first | ((with_reducible refine gate_callee (f := 97) rfl ?_); refine goesL_ (some 32) rfl rfl Tryd.func97 (by kernel_rfl) rfl #[.int .i64 a0_0] rfl d18_1 ?_; (with_reducible refine (spec_l9Named.calls a0_0 false _ A14.out).mono ?_); rintro e w' ⟨rfl, ⟨nd, rfl⟩⟩; refine ⟨_, rfl, ?_⟩) | (go_at_call 98; (with_reducible refine (spec_l9Const.calls a0_0 false _ A19.out).mono ?_); rintro e w' ⟨rfl, ⟨nd, rfl⟩⟩))
          go_meet
          case rel => exact ⟨_, (decide ((l0_6.length : Int) > 0)), d18_2, H', ⟨by have := HK1.out; first | omega | exact Nat.le_refl _⟩, ⟨by (with_reducible repeat (first | apply Kd.R_alloc | apply Kd.R_drewN | apply Kd.R_drew)); exact HO_3.out⟩, ⟨by repeat (first | (with_reducible first | exact HB.out | apply below_alloc | apply pw_below_drewN | apply below_drew1) | exact HB.out)⟩⟩
        ·rw [if_neg c18] at H
         have c18b0 : (a0_5.toList == ([] : List UInt8)) = false := beq_eq_false_iff_ne.mpr c18
         have c18b1 : (a0_5.toList != ([] : List UInt8)) = true := bne_iff_ne.mpr c18
         (first | rw [c18b0] | (simp only [i64_w, i32_w]; rw [c18b0]) | skip)
         have H' := ak H
         clear H
         have hx579_0 := HQ0_0.out
         replace hx579_0 := (HB.out.cell (World.block_lt_of_cell? w _ hx579_0)).trans hx579_0
         have hx579_1 := HQ0_1.out
         replace hx579_1 := (HB.out.cell (World.block_lt_of_cell? w _ hx579_1)).trans hx579_1
         have hx579_2 := HQ0_2.out
         replace hx579_2 := (HB.out.cell (World.block_lt_of_cell? w _ hx579_2)).trans hx579_2
         have hx579_3 := HQ0_3.out
         replace hx579_3 := (HB.out.cell (World.block_lt_of_cell? w _ hx579_3)).trans hx579_3
         have hx579_4 := HQ0_4.out
         replace hx579_4 := (HB.out.cell (World.block_lt_of_cell? w _ hx579_4)).trans hx579_4
         have hx579_5 := HQ0_5.out
         replace hx579_5 := (HB.out.cell (World.block_lt_of_cell? w _ hx579_5)).trans hx579_5
         have hx579_6 := HQ0_6.out
         replace hx579_6 := (HB.out.cell (World.block_lt_of_cell? w _ hx579_6)).trans hx579_6
         go_wp2_with (first | ((with_reducible refine gate_callee (f := 97) rfl ?_); refine goesL_ (some 32) rfl rfl Tryd.func97 (by kernel_rfl) rfl #[.int .i64 a0_0] rfl d18_1 ?_; (with_reducible refine (spec_l9Named.calls a0_0 false _ A14.out).mono ?_); rintro e w' ⟨rfl, ⟨nd, rfl⟩⟩; refine ⟨_, rfl, ?_⟩))
         go_meet
         case rel => exact ⟨_, (true), d18_2, H', ⟨by have := HK1.out; first | omega | exact Nat.le_refl _⟩, ⟨by (with_reducible repeat (first | apply Kd.R_alloc | apply Kd.R_drewN | apply Kd.R_drew)); exact HO_3.out⟩, ⟨by repeat (first | (with_reducible first | exact HB.out | apply below_alloc | apply pw_below_drewN | apply below_drew1) | exact HB.out)⟩⟩
      case rest =>
       clear HC13
       try clear c1
       try clear p2
       try clear c3
       try clear p5
       try clear q5
       try clear hx5
       try clear c6
       try clear p6
       try clear c7
       try clear c7b0
       try clear c8
       try clear c8b0
       try clear c9
       try clear c9b0
       try clear c10
       try clear c10b0
       try clear c10b1
       try clear hx571_0
       try clear hx571_1
       try clear hx571_2
       try clear hx571_3
       try clear hx571_4
       try clear hx571_5
       try clear hx571_6
       try clear hx576_0
       try clear hx576_1
       try clear hx576_2
       try clear hx576_3
       try clear hx576_4
       try clear hx576_5
       try clear hx576_6
       try clear hx578_0
       try clear p2
       try clear p578
       try clear q578
       obtain ⟨kq, x56_12, rfl, HA, HJ12, HO_3, HB⟩ := hcut
       cases kq with
       | zero => exact absurd HA.out (by simp [spec_l9Op.j1])
       | succ kj12 =>
        have H := HA.out
        clear HA
        simp only [spec_l9Op.j1] at H
        by_cases c21 : x56_12 = true
        ·subst c21
         have H1 : (some 1) = some r := by rw [if_pos rfl] at H; exact H
         clear H
         have H := H1
         clear H1
         obtain rfl := Option.some.inj H
         go_wp2
         go_ret
         exact ⟨by first | rfl | (simp [errW_none, errW_some] <;> rfl) | (simp [*, errW_none, errW_some] <;> rfl), by repeat (first | (with_reducible first | exact HB.out | apply below_alloc | apply pw_below_drewN | apply below_drew1) | exact HB.out)⟩
        ·replace c21 := Bool.eq_false_iff.mpr c21
         subst c21
         have H1 : (spec_l9Op.l1 kj12 t573 0 a0_0 a0_1 a0_2 a0_3 a0_4 a0_5 l0_6) = some r := by rw [if_neg (show ¬ (false = true) by decide)] at H; exact H
         clear H
         have H := H1
         clear H1
         have H' := ak H
         clear H
         go_wp2
         go_loopg [5] kj12 (fun kq v5 w' => ∃ (x5_3 : Int), v5 = .int .i64 x5_3 ∧ Aside0 (spec_l9Op.l1 kq t573 x5_3 a0_0 a0_1 a0_2 a0_3 a0_4 a0_5 l0_6 = some r) ∧ Aside0 (kq ≤ kj12) ∧ Aside0 (Kd.R (Kd.int .i64) 2 w' w.heap.size (fun _ => True) v574 t573) ∧ Aside0 (Below w.heap.size w w'))
         case atStart => exact ⟨(0), d18_2, H', ⟨Nat.le_refl _⟩, ⟨by (with_reducible repeat (first | apply Kd.R_alloc | apply Kd.R_drewN | apply Kd.R_drew)); exact HO_3.out⟩, ⟨by repeat (first | (with_reducible first | exact HB.out | apply below_alloc | apply pw_below_drewN | apply below_drew1) | exact HB.out)⟩⟩
         case round =>
          clear H'
          try clear c1
          try clear c2
          try clear p2
          try clear c3
          try clear p5
          try clear q5
          try clear hx5
          try clear c6
          try clear p6
          try clear c7
          try clear c7b0
          try clear c8
          try clear c8b0
          try clear c9
          try clear c9b0
          try clear c10
          try clear c10b0
          try clear c10b1
          try clear c15
          try clear c17
          try clear c18
          try clear c18b0
          try clear c18b1
          try clear c20
          try clear c21
          try clear hx571_0
          try clear hx571_1
          try clear hx571_2
          try clear hx571_3
          try clear hx571_4
          try clear hx571_5
          try clear hx571_6
          try clear hx576_0
          try clear hx576_1
          try clear hx576_2
          try clear hx576_3
          try clear hx576_4
          try clear hx576_5
          try clear hx576_6
          try clear hx578_0
          try clear hx579_0
          try clear hx579_1
          try clear hx579_2
          try clear hx579_3
          try clear hx579_4
          try clear hx579_5
          try clear hx579_6
          try clear p2
          try clear p5
          try clear p578
          try clear p6
          try clear q5
          try clear q578
          obtain ⟨x5_3, rfl, HA, HK3, HO_3, HB⟩ := hrel
          cases gk with
          | zero => exact absurd HA.out (by simp [spec_l9Op.l1])
          | succ k3 =>
           have H := HA.out
           clear HA
           simp only [spec_l9Op.l1] at H
           by_cases c22 : x5_3 < 4
           ·rw [if_pos c22] at H
            have c22b0 : decide (x5_3 < 4) = true := decide_eq_true c22
            clear c22
            by_cases c23 : 0 ≤ x5_3
            ·rw [if_pos c23] at H
             have c23b0 : decide (0 ≤ x5_3) = true := decide_eq_true c23
             clear c23
             by_cases c24 : x5_3 < (t573.length : Int)
             ·rw [if_pos c24] at H
              have c24b0 : decide (x5_3 < (t573.length : Int)) = true := decide_eq_true c24
              clear c24
              replace H := Option.bind_eq_some_iff.mp H
              obtain ⟨t584, A250, H⟩ := H
              replace H : (if t584 = true then (spec_l9Op.l1 k3 t573 (wrap64 (x5_3 + 1)) a0_0 a0_1 a0_2 a0_3 a0_4 a0_5 l0_6) else (some 3)) = some r := H
              have A25 := ak A250
              clear A250
              by_cases c26 : t584 = true
              ·subst c26
               have H1 : (spec_l9Op.l1 k3 t573 (wrap64 (x5_3 + 1)) a0_0 a0_1 a0_2 a0_3 a0_4 a0_5 l0_6) = some r := by rw [if_pos rfl] at H; exact H
               clear H
               have H := H1
               clear H1
               have H' := ak H
               clear H
               obtain ⟨Ao27, co27, eo27⟩ := Kd.R_slice HO_3.out
               subst eo27
               have p583 : 0 ≤ (x5_3 : Int) := of_decide_eq_true d18_3
               have q583 : x5_3 < (t573.length : Int) := of_decide_eq_true d18_3
               obtain ⟨ad583, e583, hx583_0⟩ := Kd.at_int (Kd.R_reads' HO_3.out).2.2 x5_3 p583 q583
               cases e583
               replace p583 := eq_true p583
               replace q583 := eq_true q583
               go_wp2_with (first | ((with_reducible refine gate_callee (f := 78) rfl ?_); refine goesL_ (some 65) rfl rfl Tryd.func78 (by kernel_rfl) rfl #[.int .i64 (rd t573 x5_3), .int .i64 0, .int .i64 999] rfl d18_1 ?_; (with_reducible refine (spec_l1In.calls (rd t573 x5_3) 0 999 true _ A25.out).mono ?_); rintro e w' ⟨rfl, ⟨nd, rfl⟩⟩; refine ⟨_, rfl, ?_⟩))
               go_roundg k3
               case measure => have := HK1.out; have := HJ12.out; have := HK3.out; omega
               case rel => exact ⟨(wrap64 (x5_3 + 1)), d18_2, H', ⟨by have := HK1.out; have := HJ12.out; have := HK3.out; omega⟩, ⟨by (with_reducible repeat (first | apply Kd.R_alloc | apply Kd.R_drewN | apply Kd.R_drew)); exact HO_3.out⟩, ⟨by repeat (first | (with_reducible first | exact HB.out | apply below_alloc | apply pw_below_drewN | apply below_drew1) | exact HB.out)⟩⟩
              ·replace c26 := Bool.eq_false_iff.mpr c26
               subst c26
               have H1 : (some 3) = some r := by rw [if_neg (show ¬ (false = true) by decide)] at H; exact H
               clear H
               have H := H1
               clear H1
               obtain rfl := Option.some.inj H
               obtain ⟨Ao28, co28, eo28⟩ := Kd.R_slice HO_3.out
               subst eo28
               have p583 : 0 ≤ (x5_3 : Int) := of_decide_eq_true d18_3
               have q583 : x5_3 < (t573.length : Int) := of_decide_eq_true d18_3
               obtain ⟨ad583, e583, hx583_0⟩ := Kd.at_int (Kd.R_reads' HO_3.out).2.2 x5_3 p583 q583
               cases e583
               replace p583 := eq_true p583
               replace q583 := eq_true q583
               go_wp2_with (first | ((with_reducible refine gate_callee (f := 78) rfl ?_); refine goesL_ (some 65) rfl rfl Tryd.func78 (by kernel_rfl) rfl #[.int .i64 (rd t573 x5_3), .int .i64 0, .int .i64 999] rfl d18_1 ?_; (with_reducible refine (spec_l1In.calls (rd t573 x5_3) 0 999 false _ A25.out).mono ?_); rintro e w' ⟨rfl, ⟨nd, rfl⟩⟩; refine ⟨_, rfl, ?_⟩))
               go_ret
               exact ⟨by first | rfl | (simp [errW_none, errW_some] <;> rfl) | (simp [*, errW_none, errW_some] <;> rfl), by repeat (first | (with_reducible first | exact HB.out | apply below_alloc | apply pw_below_drewN | apply below_drew1) | exact HB.out)⟩
             ·rw [if_neg c24] at H
              exact absurd H (by simp)
            ·rw [if_neg c23] at H
             exact absurd H (by simp)
           ·rw [if_neg c22] at H
            have c22b0 : decide (x5_3 < 4) = false := decide_eq_false c22
            clear c22
            have HC29 := ak H
            clear H
            go_upto_region 16 with (fail)
            go_cut [85] (fun v85 wc => ∃ (kq : Nat) (x85_28 : Bool), v85 = .bool x85_28 ∧ Aside0 (spec_l9Op.j3 kq x85_28 a0_0 a0_1 a0_2 a0_3 a0_4 a0_5 l0_6 = some r) ∧ Aside0 (kq ≤ k3) ∧ Aside0 (Below w.heap.size w wc))
            case first =>
             have H := HC29.out
             clear HC29
             by_cases c30 : a0_0 = 10
             ·rw [if_pos c30] at H
              have c30b0 : (a0_0 == 10) = true := beq_iff_eq.mpr c30
              have c30b1 : (a0_0 != 10) = false := bne_eq_false_iff_eq.mpr c30
              clear c30
              (first | rw [c30b0] | (simp only [i64_w, i32_w]; rw [c30b0]) | skip)
              have H' := ak H
              clear H
              have hx585_0 := HQ0_0.out
              replace hx585_0 := (HB.out.cell (World.block_lt_of_cell? w _ hx585_0)).trans hx585_0
              have hx585_1 := HQ0_1.out
              replace hx585_1 := (HB.out.cell (World.block_lt_of_cell? w _ hx585_1)).trans hx585_1
              have hx585_2 := HQ0_2.out
              replace hx585_2 := (HB.out.cell (World.block_lt_of_cell? w _ hx585_2)).trans hx585_2
              have hx585_3 := HQ0_3.out
              replace hx585_3 := (HB.out.cell (World.block_lt_of_cell? w _ hx585_3)).trans hx585_3
              have hx585_4 := HQ0_4.out
              replace hx585_4 := (HB.out.cell (World.block_lt_of_cell? w _ hx585_4)).trans hx585_4
              have hx585_5 := HQ0_5.out
              replace hx585_5 := (HB.out.cell (World.block_lt_of_cell? w _ hx585_5)).trans hx585_5
              have hx585_6 := HQ0_6.out
              replace hx585_6 := (HB.out.cell (World.block_lt_of_cell? w _ hx585_6)).trans hx585_6
              go_wp2
              go_meet
              case rel => exact ⟨_, (decide (a0_1 > 3)), d18_2, H', ⟨by have := HK1.out; have := HJ12.out; have := HK3.out; first | omega | exact Nat.le_refl _⟩, ⟨by repeat (first | (with_reducible first | exact HB.out | apply below_alloc | apply pw_below_drewN | apply below_drew1) | exact HB.out)⟩⟩
             ·rw [if_neg c30] at H
              have c30b0 : (a0_0 == 10) = false := beq_eq_false_iff_ne.mpr c30
              have c30b1 : (a0_0 != 10) = true := bne_iff_ne.mpr c30
              (first | rw [c30b0] | (simp only [i64_w, i32_w]; rw [c30b0]) | skip)
              by_cases c31 : a0_0 = 11
              ·rw [if_pos c31] at H
               have c31b0 : (a0_0 == 11) = true := beq_iff_eq.mpr c31
               have c31b1 : (a0_0 != 11) = false := bne_eq_false_iff_eq.mpr c31
               clear c31
               have H' := ak H
               clear H
               have hx585_0 := HQ0_0.out
               replace hx585_0 := (HB.out.cell (World.block_lt_of_cell? w _ hx585_0)).trans hx585_0
               have hx585_1 := HQ0_1.out
               replace hx585_1 := (HB.out.cell (World.block_lt_of_cell? w _ hx585_1)).trans hx585_1
               have hx585_2 := HQ0_2.out
               replace hx585_2 := (HB.out.cell (World.block_lt_of_cell? w _ hx585_2)).trans hx585_2
               have hx585_3 := HQ0_3.out
               replace hx585_3 := (HB.out.cell (World.block_lt_of_cell? w _ hx585_3)).trans hx585_3
               have hx585_4 := HQ0_4.out
               replace hx585_4 := (HB.out.cell (World.block_lt_of_cell? w _ hx585_4)).trans hx585_4
               have hx585_5 := HQ0_5.out
               replace hx585_5 := (HB.out.cell (World.block_lt_of_cell? w _ hx585_5)).trans hx585_5
               have hx585_6 := HQ0_6.out
               replace hx585_6 := (HB.out.cell (World.block_lt_of_cell? w _ hx585_6)).trans hx585_6
               go_wp2
               go_meet
               case rel => exact ⟨_, (decide (a0_1 > 3)), d18_2, H', ⟨by have := HK1.out; have := HJ12.out; have := HK3.out; first | omega | exact Nat.le_refl _⟩, ⟨by repeat (first | (with_reducible first | exact HB.out | apply below_alloc | apply pw_below_drewN | apply below_drew1) | exact HB.out)⟩⟩
              ·rw [if_neg c31] at H
               have c31b0 : (a0_0 == 11) = false := beq_eq_false_iff_ne.mpr c31
               have c31b1 : (a0_0 != 11) = true := bne_iff_ne.mpr c31
               have H' := ak H
               clear H
               have hx585_0 := HQ0_0.out
               replace hx585_0 := (HB.out.cell (World.block_lt_of_cell? w _ hx585_0)).trans hx585_0
               have hx585_1 := HQ0_1.out
               replace hx585_1 := (HB.out.cell (World.block_lt_of_cell? w _ hx585_1)).trans hx585_1
               have hx585_2 := HQ0_2.out
               replace hx585_2 := (HB.out.cell (World.block_lt_of_cell? w _ hx585_2)).trans hx585_2
               have hx585_3 := HQ0_3.out
               replace hx585_3 := (HB.out.cell (World.block_lt_of_cell? w _ hx585_3)).trans hx585_3
               have hx585_4 := HQ0_4.out
               replace hx585_4 := (HB.out.cell (World.block_lt_of_cell? w _ hx585_4)).trans hx585_4
               have hx585_5 := HQ0_5.out
               replace hx585_5 := (HB.out.cell (World.block_lt_of_cell? w _ hx585_5)).trans hx585_5
               have hx585_6 := HQ0_6.out
               replace hx585_6 := (HB.out.cell (World.block_lt_of_cell? w _ hx585_6)).trans hx585_6
               go_wp2
               go_meet
               case rel => exact ⟨_, (false), d18_2, H', ⟨by have := HK1.out; have := HJ12.out; have := HK3.out; first | omega | exact Nat.le_refl _⟩, ⟨by repeat (first | (with_reducible first | exact HB.out | apply below_alloc | apply pw_below_drewN | apply below_drew1) | exact HB.out)⟩⟩
            case rest =>
             clear HC29
             try clear c1
             try clear c2
             try clear p2
             try clear c3
             try clear p5
             try clear q5
             try clear hx5
             try clear c6
             try clear p6
             try clear c7
             try clear c7b0
             try clear c8
             try clear c8b0
             try clear c9
             try clear c9b0
             try clear c10
             try clear c10b0
             try clear c10b1
             try clear c15
             try clear c17
             try clear c18
             try clear c18b0
             try clear c18b1
             try clear c20
             try clear c21
             try clear c22
             try clear c22b0
             try clear c23
             try clear c23b0
             try clear c24
             try clear c24b0
             try clear c26
             try clear hx571_0
             try clear hx571_1
             try clear hx571_2
             try clear hx571_3
             try clear hx571_4
             try clear hx571_5
             try clear hx571_6
             try clear hx576_0
             try clear hx576_1
             try clear hx576_2
             try clear hx576_3
             try clear hx576_4
             try clear hx576_5
             try clear hx576_6
             try clear hx578_0
             try clear hx579_0
             try clear hx579_1
             try clear hx579_2
             try clear hx579_3
             try clear hx579_4
             try clear hx579_5
             try clear hx579_6
             try clear hx583_0
             try clear p2
             try clear p5
             try clear p578
             try clear p583
             try clear p6
             try clear q5
             try clear q578
             try clear q583
             obtain ⟨kq, x85_28, rfl, HA, HJ28, HB⟩ := hcut
             cases kq with
             | zero => exact absurd HA.out (by simp [spec_l9Op.j3])
             | succ kj28 =>
              have H := HA.out
              clear HA
              simp only [spec_l9Op.j3] at H
              by_cases c32 : x85_28 = true
              ·subst c32
               have H1 : (some 3) = some r := by rw [if_pos rfl] at H; exact H
               clear H
               have H := H1
               clear H1
               obtain rfl := Option.some.inj H
               go_wp2
               go_ret
               exact ⟨by first | rfl | (simp [errW_none, errW_some] <;> rfl) | (simp [*, errW_none, errW_some] <;> rfl), by repeat (first | (with_reducible first | exact HB.out | apply below_alloc | apply pw_below_drewN | apply below_drew1) | exact HB.out)⟩
              ·replace c32 := Bool.eq_false_iff.mpr c32
               subst c32
               have H1 : ((spec_l9Named.f a0_0).bind fun t587 => (if t587 = true then ((spec_l2Sym.f kj28 a0_5).bind fun t588 => (spec_l9Op.j4 kj28 (!t588) a0_0 a0_1 a0_2 a0_3 a0_4 a0_5 l0_6)) else (spec_l9Op.j4 kj28 false a0_0 a0_1 a0_2 a0_3 a0_4 a0_5 l0_6))) = some r := by rw [if_neg (show ¬ (false = true) by decide)] at H; exact H
               clear H
               have H := H1
               clear H1
               have HC33 := ak H
               clear H
               go_upto_region 18 with (fail)
               go_cut [98] (fun v98 wc => ∃ (kq : Nat) (x98_32 : Bool), v98 = .bool x98_32 ∧ Aside0 (spec_l9Op.j4 kq x98_32 a0_0 a0_1 a0_2 a0_3 a0_4 a0_5 l0_6 = some r) ∧ Aside0 (kq ≤ kj28) ∧ Aside0 (Below w.heap.size w wc))
               case first =>
                have H := HC33.out
                clear HC33
                replace H := Option.bind_eq_some_iff.mp H
                obtain ⟨t587, A340, H⟩ := H
                replace H : (if t587 = true then ((spec_l2Sym.f kj28 a0_5).bind fun t588 => (spec_l9Op.j4 kj28 (!t588) a0_0 a0_1 a0_2 a0_3 a0_4 a0_5 l0_6)) else (spec_l9Op.j4 kj28 false a0_0 a0_1 a0_2 a0_3 a0_4 a0_5 l0_6)) = some r := H
                have A34 := ak A340
                clear A340
                by_cases c35 : t587 = true
                ·subst c35
                 have H1 : ((spec_l2Sym.f kj28 a0_5).bind fun t588 => (spec_l9Op.j4 kj28 (!t588) a0_0 a0_1 a0_2 a0_3 a0_4 a0_5 l0_6)) = some r := by rw [if_pos rfl] at H; exact H
                 clear H
                 have H := H1
                 clear H1
                 replace H := Option.bind_eq_some_iff.mp H
                 obtain ⟨t588, A360, H⟩ := H
                 replace H : (spec_l9Op.j4 kj28 (!t588) a0_0 a0_1 a0_2 a0_3 a0_4 a0_5 l0_6) = some r := H
                 have A36 := ak A360
                 clear A360
                 have H' := ak H
                 clear H
                 have hx586_0 := HQ0_0.out
                 replace hx586_0 := (HB.out.cell (World.block_lt_of_cell? w _ hx586_0)).trans hx586_0
                 have hx586_1 := HQ0_1.out
                 replace hx586_1 := (HB.out.cell (World.block_lt_of_cell? w _ hx586_1)).trans hx586_1
                 have hx586_2 := HQ0_2.out
                 replace hx586_2 := (HB.out.cell (World.block_lt_of_cell? w _ hx586_2)).trans hx586_2
                 have hx586_3 := HQ0_3.out
                 replace hx586_3 := (HB.out.cell (World.block_lt_of_cell? w _ hx586_3)).trans hx586_3
                 have hx586_4 := HQ0_4.out
                 replace hx586_4 := (HB.out.cell (World.block_lt_of_cell? w _ hx586_4)).trans hx586_4
                 have hx586_5 := HQ0_5.out
                 replace hx586_5 := (HB.out.cell (World.block_lt_of_cell? w _ hx586_5)).trans hx586_5
                 have hx586_6 := HQ0_6.out
                 replace hx586_6 := (HB.out.cell (World.block_lt_of_cell? w _ hx586_6)).trans hx586_6
                 go_wp2_with (first | ((with_reducible refine gate_callee (f := 97) rfl ?_); refine goesL_ (some 90) rfl rfl Tryd.func97 (by kernel_rfl) rfl #[.int .i64 a0_0] rfl d18_1 ?_; (with_reducible refine (spec_l9Named.calls a0_0 true _ A34.out).mono ?_); rintro e w' ⟨rfl, ⟨nd, rfl⟩⟩; refine ⟨_, rfl, ?_⟩) | (go_at_call 89; (with_reducible refine (spec_l2Sym.calls kj28 a0_5 t588 _ A36.out).mono ?_); rintro e w' ⟨rfl, ⟨nd, rfl⟩⟩))
                 go_meet
                 case rel => exact ⟨_, (!t588), d18_2, H', ⟨by have := HK1.out; have := HJ12.out; have := HK3.out; have := HJ28.out; first | omega | exact Nat.le_refl _⟩, ⟨by repeat (first | (with_reducible first | exact HB.out | apply below_alloc | apply pw_below_drewN | apply below_drew1) | exact HB.out)⟩⟩
                ·replace c35 := Bool.eq_false_iff.mpr c35
                 subst c35
                 have H1 : (spec_l9Op.j4 kj28 false a0_0 a0_1 a0_2 a0_3 a0_4 a0_5 l0_6) = some r := by rw [if_neg (show ¬ (false = true) by decide)] at H; exact H
                 clear H
                 have H := H1
                 clear H1
                 have H' := ak H
                 clear H
                 have hx586_0 := HQ0_0.out
                 replace hx586_0 := (HB.out.cell (World.block_lt_of_cell? w _ hx586_0)).trans hx586_0
                 have hx586_1 := HQ0_1.out
                 replace hx586_1 := (HB.out.cell (World.block_lt_of_cell? w _ hx586_1)).trans hx586_1
                 have hx586_2 := HQ0_2.out
                 replace hx586_2 := (HB.out.cell (World.block_lt_of_cell? w _ hx586_2)).trans hx586_2
                 have hx586_3 := HQ0_3.out
                 replace hx586_3 := (HB.out.cell (World.block_lt_of_cell? w _ hx586_3)).trans hx586_3
                 have hx586_4 := HQ0_4.out
                 replace hx586_4 := (HB.out.cell (World.block_lt_of_cell? w _ hx586_4)).trans hx586_4
                 have hx586_5 := HQ0_5.out
                 replace hx586_5 := (HB.out.cell (World.block_lt_of_cell? w _ hx586_5)).trans hx586_5
                 have hx586_6 := HQ0_6.out
                 replace hx586_6 := (HB.out.cell (World.block_lt_of_cell? w _ hx586_6)).trans hx586_6
                 go_wp2_with (first | ((with_reducible refine gate_callee (f := 97) rfl ?_); refine goesL_ (some 90) rfl rfl Tryd.func97 (by kernel_rfl) rfl #[.int .i64 a0_0] rfl d18_1 ?_; (with_reducible refine (spec_l9Named.calls a0_0 false _ A34.out).mono ?_); rintro e w' ⟨rfl, ⟨nd, rfl⟩⟩; refine ⟨_, rfl, ?_⟩))
                 go_meet
                 case rel => exact ⟨_, (false), d18_2, H', ⟨by have := HK1.out; have := HJ12.out; have := HK3.out; have := HJ28.out; first | omega | exact Nat.le_refl _⟩, ⟨by repeat (first | (with_reducible first | exact HB.out | apply below_alloc | apply pw_below_drewN | apply below_drew1) | exact HB.out)⟩⟩
               case rest =>
                clear HC33
                try clear c1
                try clear c2
                try clear p2
                try clear c3
                try clear p5
                try clear q5
                try clear hx5
                try clear c6
                try clear p6
                try clear c7
                try clear c7b0
                try clear c8
                try clear c8b0
                try clear c9
                try clear c9b0
                try clear c10
                try clear c10b0
                try clear c10b1
                try clear c15
                try clear c17
                try clear c18
                try clear c18b0
                try clear c18b1
                try clear c20
                try clear c21
                try clear c22
                try clear c22b0
                try clear c23
                try clear c23b0
                try clear c24
                try clear c24b0
                try clear c26
                try clear c30
                try clear c30b0
                try clear c30b1
                try clear c31
                try clear c31b0
                try clear c31b1
                try clear c32
                try clear hx571_0
                try clear hx571_1
                try clear hx571_2
                try clear hx571_3
                try clear hx571_4
                try clear hx571_5
                try clear hx571_6
                try clear hx576_0
                try clear hx576_1
                try clear hx576_2
                try clear hx576_3
                try clear hx576_4
                try clear hx576_5
                try clear hx576_6
                try clear hx578_0
                try clear hx579_0
                try clear hx579_1
                try clear hx579_2
                try clear hx579_3
                try clear hx579_4
                try clear hx579_5
                try clear hx579_6
                try clear hx583_0
                try clear hx585_0
                try clear hx585_1
                try clear hx585_2
                try clear hx585_3
                try clear hx585_4
                try clear hx585_5
                try clear hx585_6
                try clear p2
                try clear p5
                try clear p578
                try clear p583
                try clear p6
                try clear q5
                try clear q578
                try clear q583
                obtain ⟨kq, x98_32, rfl, HA, HJ32, HB⟩ := hcut
                cases kq with
                | zero => exact absurd HA.out (by simp [spec_l9Op.j4])
                | succ kj32 =>
                 have H := HA.out
                 clear HA
                 simp only [spec_l9Op.j4] at H
                 by_cases c37 : x98_32 = true
                 ·subst c37
                  have H1 : (some 5) = some r := by rw [if_pos rfl] at H; exact H
                  clear H
                  have H := H1
                  clear H1
                  obtain rfl := Option.some.inj H
                  go_wp2
                  go_ret
                  exact ⟨by first | rfl | (simp [errW_none, errW_some] <;> rfl) | (simp [*, errW_none, errW_some] <;> rfl), by repeat (first | (with_reducible first | exact HB.out | apply below_alloc | apply pw_below_drewN | apply below_drew1) | exact HB.out)⟩
                 ·replace c37 := Bool.eq_false_iff.mpr c37
                  subst c37
                  have H1 : ((spec_l9Const.f a0_0).bind fun t590 => (if t590 = true then ((spec_l3Fault.f kj32 l0_6).bind fun t591 => (some t591)) else (some 0))) = some r := by rw [if_neg (show ¬ (false = true) by decide)] at H; exact H
                  clear H
                  have H := H1
                  clear H1
                  replace H := Option.bind_eq_some_iff.mp H
                  obtain ⟨t590, A380, H⟩ := H
                  replace H : (if t590 = true then ((spec_l3Fault.f kj32 l0_6).bind fun t591 => (some t591)) else (some 0)) = some r := H
                  have A38 := ak A380
                  clear A380
                  by_cases c39 : t590 = true
                  ·subst c39
                   have H1 : ((spec_l3Fault.f kj32 l0_6).bind fun t591 => (some t591)) = some r := by rw [if_pos rfl] at H; exact H
                   clear H
                   have H := H1
                   clear H1
                   replace H := Option.bind_eq_some_iff.mp H
                   obtain ⟨t591, A400, H⟩ := H
                   replace H : (some t591) = some r := H
                   have A40 := ak A400
                   clear A400
                   obtain rfl := Option.some.inj H
                   have hx589_0 := HQ0_0.out
                   replace hx589_0 := (HB.out.cell (World.block_lt_of_cell? w _ hx589_0)).trans hx589_0
                   have hx589_1 := HQ0_1.out
                   replace hx589_1 := (HB.out.cell (World.block_lt_of_cell? w _ hx589_1)).trans hx589_1
                   have hx589_2 := HQ0_2.out
                   replace hx589_2 := (HB.out.cell (World.block_lt_of_cell? w _ hx589_2)).trans hx589_2
                   have hx589_3 := HQ0_3.out
                   replace hx589_3 := (HB.out.cell (World.block_lt_of_cell? w _ hx589_3)).trans hx589_3
                   have hx589_4 := HQ0_4.out
                   replace hx589_4 := (HB.out.cell (World.block_lt_of_cell? w _ hx589_4)).trans hx589_4
                   have hx589_5 := HQ0_5.out
                   replace hx589_5 := (HB.out.cell (World.block_lt_of_cell? w _ hx589_5)).trans hx589_5
                   have hx589_6 := HQ0_6.out
                   replace hx589_6 := (HB.out.cell (World.block_lt_of_cell? w _ hx589_6)).trans hx589_6
                   go_wp2_with (first | ((with_reducible refine gate_callee (f := 98) rfl ?_); refine goesL_ (some 103) rfl rfl Tryd.func98 (by kernel_rfl) rfl #[.int .i64 a0_0] rfl d18_1 ?_; (with_reducible refine (spec_l9Const.calls a0_0 true _ A38.out).mono ?_); rintro e w' ⟨rfl, ⟨nd, rfl⟩⟩; refine ⟨_, rfl, ?_⟩) | ((with_reducible refine gate_callee (f := 99) rfl ?_); refine goesL_ (some 108) rfl rfl Tryd.func99 (by kernel_rfl) rfl #[.slice A0_6 l0_6.length c0_6] rfl d18_1 ?_; (with_reducible refine (spec_l3Fault.calls kj32 _ _ l0_6 t591 _ ?side1 ?side2 A40.out).mono ?_); (case side1 => repeat (first | exact (Kd.C_below HR0_6.out (by repeat (first | (with_reducible first | exact HB.out | apply below_alloc | apply pw_below_drewN | apply below_drew1) | exact HB.out))) | (with_reducible refine Kd.C_alloc ?_ _) | (with_reducible refine Kd.C_drewN ?_ _) | (with_reducible refine Kd.C_drew ?_))); (case side2 => exact HC0_6.out); rintro e w' ⟨rfl, ⟨nd, rfl⟩⟩; refine ⟨_, rfl, ?_⟩))
                   go_ret
                   exact ⟨by first | rfl | (simp [errW_none, errW_some] <;> rfl) | (simp [*, errW_none, errW_some] <;> rfl), by repeat (first | (with_reducible first | exact HB.out | apply below_alloc | apply pw_below_drewN | apply below_drew1) | exact HB.out)⟩
                  ·replace c39 := Bool.eq_false_iff.mpr c39
                   subst c39
                   have H1 : (some 0) = some r := by rw [if_neg (show ¬ (false = true) by decide)] at H; exact H
                   clear H
                   have H := H1
                   clear H1
                   obtain rfl := Option.some.inj H
                   have hx589_0 := HQ0_0.out
                   replace hx589_0 := (HB.out.cell (World.block_lt_of_cell? w _ hx589_0)).trans hx589_0
                   have hx589_1 := HQ0_1.out
                   replace hx589_1 := (HB.out.cell (World.block_lt_of_cell? w _ hx589_1)).trans hx589_1
                   have hx589_2 := HQ0_2.out
                   replace hx589_2 := (HB.out.cell (World.block_lt_of_cell? w _ hx589_2)).trans hx589_2
                   have hx589_3 := HQ0_3.out
                   replace hx589_3 := (HB.out.cell (World.block_lt_of_cell? w _ hx589_3)).trans hx589_3
                   have hx589_4 := HQ0_4.out
                   replace hx589_4 := (HB.out.cell (World.block_lt_of_cell? w _ hx589_4)).trans hx589_4
                   have hx589_5 := HQ0_5.out
                   replace hx589_5 := (HB.out.cell (World.block_lt_of_cell? w _ hx589_5)).trans hx589_5
                   have hx589_6 := HQ0_6.out
                   replace hx589_6 := (HB.out.cell (World.block_lt_of_cell? w _ hx589_6)).trans hx589_6
                   go_wp2_with (first | ((with_reducible refine gate_callee (f := 98) rfl ?_); refine goesL_ (some 103) rfl rfl Tryd.func98 (by kernel_rfl) rfl #[.int .i64 a0_0] rfl d18_1 ?_; (with_reducible refine (spec_l9Const.calls a0_0 false _ A38.out).mono ?_); rintro e w' ⟨rfl, ⟨nd, rfl⟩⟩; refine ⟨_, rfl, ?_⟩))
                   go_ret
                   exact ⟨by first | rfl | (simp [errW_none, errW_some] <;> rfl) | (simp [*, errW_none, errW_some] <;> rfl), by repeat (first | (with_reducible first | exact HB.out | apply below_alloc | apply pw_below_drewN | apply below_drew1) | exact HB.out)⟩
  ·replace c3 := Bool.eq_false_iff.mpr c3
   subst c3
   have H1 : (some 1) = some r := by rw [if_neg (show ¬ (false = true) by decide)] at H; exact H
   clear H
   have H := H1
   clear H1
   obtain rfl := Option.some.inj H
   have hx571_0 := HQ0_0.out
   have hx571_1 := HQ0_1.out
   have hx571_2 := HQ0_2.out
   have hx571_3 := HQ0_3.out
   have hx571_4 := HQ0_4.out
   have hx571_5 := HQ0_5.out
   have hx571_6 := HQ0_6.out
   go_enter Tryd.func67, Tryd.ntmps67
   go_wp2_with (first | ((with_reducible refine gate_callee (f := 78) rfl ?_); refine goesL_ (some 10) rfl rfl Tryd.func78 (by kernel_rfl) rfl #[.int .i64 a0_0, .int .i64 1, .int .i64 16] rfl d18_1 ?_; (with_reducible refine (spec_l1In.calls a0_0 1 16 false _ A2.out).mono ?_); rintro e w' ⟨rfl, ⟨nd, rfl⟩⟩; refine ⟨_, rfl, ?_⟩))
   go_ret
   exact ⟨by first | rfl | (simp [errW_none, errW_some] <;> rfl) | (simp [*, errW_none, errW_some] <;> rfl), by repeat (first | (with_reducible first | exact HB.out | apply below_alloc | apply pw_below_drewN | apply below_drew1) | exact HB.out)⟩

end Go.Proofs.YthjfdohcdkpdnaaDoor.A
