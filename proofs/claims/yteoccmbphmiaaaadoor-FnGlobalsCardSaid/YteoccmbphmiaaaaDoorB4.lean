/- Walks of the program's functions: each Go function's answer as a plain Lean function, and that the call comes to it. Written by a program. Conditions: those in each theorem's own head. -/
import Derived.Test.YteoccmbphmiaaaaDoorB0
import Derived.Test.YteoccmbphmiaaaaDoorB3
namespace Go.Proofs.YteoccmbphmiaaaaDoor.B
open Go.RowKit Go.Proofs.YteoccmbphmiaaaaDoorW.PrintWords Go.Proofs.YteoccmbphmiaaaaDoorW.PrintLast Go.Proofs.YteoccmbphmiaaaaDoorW.PrintMore
attribute [local go_sem] max2_int min2_int max_two min_two max_three min_three max_four min_four   -- for this text's walks alone
set_option linter.unusedVariables false
set_option linter.unusedSimpArgs false

theorem d4_1 {p : Prop} (h : p := by first | rfl | (simp; done) | (simp [*]; done) | (simp [ne_nil_b, eq_nil_b]; done)) : p := h
theorem d4_2 {p : Prop} (h : p := by first | (with_reducible assumption) | assumption) : p := h
theorem c4_1 {p : Prop} (h : p := by repeat (first | exact Drawn0.refl _ | apply Drawn0.step)) : p := h

/-! ### spec_l2Byte: function 47 -/
mutual
def spec_l2Byte.j0 : Nat → Int → Bool → Option (Bool)
  | 0, _, _ => none
  | k + 1, x0, x10 => if x10 = true then (some true) else (spec_l2Byte.l0 k x0 (⟨#[43, 45, 42, 47, 60, 61, 63, 33]⟩ : ByteArray) 0)
def spec_l2Byte.l0 : Nat → Int → ByteArray → Int → Option (Bool)
  | 0, _, _, _ => none
  | k + 1, x0, x3, x4 => if x4 < (x3.size : Int) then (if 0 ≤ x4 then (if (bt x3 x4) = x0 then (some true) else (spec_l2Byte.l0 k x0 x3 (wrap64 (x4 + 1)))) else (none)) else (some false)
end
def spec_l2Byte.f (k : Nat) (a0 : Int) : Option (Bool) := if a0 ≥ 97 then (spec_l2Byte.j0 k a0 (decide (a0 ≤ 122))) else (spec_l2Byte.j0 k a0 false)
theorem spec_l2Byte.mono_l : ∀ k, (∀ y0 y1, LeO (spec_l2Byte.j0 k y0 y1) (spec_l2Byte.j0 (k + 1) y0 y1)) ∧ (∀ y0 y1 y2, LeO (spec_l2Byte.l0 k y0 y1 y2) (spec_l2Byte.l0 (k + 1) y0 y1 y2))
  | 0 => ⟨fun _ _ r h => by simp [spec_l2Byte.j0] at h, fun _ _ _ r h => by simp [spec_l2Byte.l0] at h⟩
  | k + 1 => by
    obtain ⟨ih0, ih1⟩ := spec_l2Byte.mono_l k; refine ⟨?_, ?_⟩
    · intro y0 y1
      unfold spec_l2Byte.j0
      repeat' first
      | (with_reducible exact ih0 _ _)
      | (with_reducible exact ih1 _ _ _)
      | (with_reducible exact LeO.refl _)
      | (with_reducible exact LeO.none _)
      | (with_reducible refine LeO.ite ?_ ?_)
      | (with_reducible refine LeO.bind ?_ (fun _ => ?_))
      | exact ih0 _ _
      | exact ih1 _ _ _
      | exact LeO.none _
      | refine LeO.ite ?_ ?_
      | refine LeO.bind ?_ (fun _ => ?_)
    · intro y0 y1 y2
      unfold spec_l2Byte.l0
      repeat' first
      | (with_reducible exact ih0 _ _)
      | (with_reducible exact ih1 _ _ _)
      | (with_reducible exact LeO.refl _)
      | (with_reducible exact LeO.none _)
      | (with_reducible refine LeO.ite ?_ ?_)
      | (with_reducible refine LeO.bind ?_ (fun _ => ?_))
      | exact ih0 _ _
      | exact ih1 _ _ _
      | exact LeO.none _
      | refine LeO.ite ?_ ?_
      | refine LeO.bind ?_ (fun _ => ?_)
theorem spec_l2Byte.mono : ∀ a0 k, LeO (spec_l2Byte.f k a0) (spec_l2Byte.f (k + 1) a0) := by
  intro a0 k; obtain ⟨ih0, ih1⟩ := spec_l2Byte.mono_l k; unfold spec_l2Byte.f
  repeat' first
      | (with_reducible exact ih0 _ _)
      | (with_reducible exact ih1 _ _ _)
      | (with_reducible exact LeO.refl _)
      | (with_reducible exact LeO.none _)
      | (with_reducible refine LeO.ite ?_ ?_)
      | (with_reducible refine LeO.bind ?_ (fun _ => ?_))
      | exact ih0 _ _
      | exact ih1 _ _ _
      | exact LeO.none _
      | refine LeO.ite ?_ ?_
      | refine LeO.bind ?_ (fun _ => ?_)
set_option maxHeartbeats 8000000 in
set_option maxRecDepth 100000 in
theorem spec_l2Byte.calls (k : Nat) (a0 : Int) (r : Bool) (w : World) (h : spec_l2Byte.f k a0 = some r) :
    Calls Tryd.prog 47 #[.int .u8 a0] w fun e w' => e = .returned (.bool r) ∧ Drawn0 w w' := by
  have H : (if a0 ≥ 97 then (spec_l2Byte.j0 k a0 (decide (a0 ≤ 122))) else (spec_l2Byte.j0 k a0 false)) = some r := h; clear h; have HC2 := ak H; clear H; go_enter Tryd.func47, Tryd.ntmps47; go_upto_region 1 with (fail); go_cut [10] (fun v10 wc => ∃ (kq : Nat) (x10_1 : Bool), v10 = .bool x10_1 ∧ Aside0 (spec_l2Byte.j0 kq a0 x10_1 = some r) ∧ Aside0 (kq ≤ k) ∧ Drawn0 w wc)
  case first =>
   have H := HC2.out; clear HC2; by_cases c3 : a0 ≥ 97
   ·rw [if_pos c3] at H
    have c3b0 : decide (97 ≤ a0) = true := decide_eq_true c3; clear c3
    (first | rw [c3b0] | (simp only [i64_w, i32_w]; rw [c3b0]) | skip)
    have H' := ak H; clear H; go_wp2; go_meet
    case rel => exact ⟨_, (decide (a0 ≤ 122)), d4_1, H', ⟨by first | omega | exact Nat.le_refl _⟩, c4_1⟩
   ·rw [if_neg c3] at H
    have c3b0 : decide (97 ≤ a0) = false := decide_eq_false c3; clear c3
    (first | rw [c3b0] | (simp only [i64_w, i32_w]; rw [c3b0]) | skip)
    have H' := ak H; clear H; go_wp2; go_meet
    case rel => exact ⟨_, (false), d4_1, H', ⟨by first | omega | exact Nat.le_refl _⟩, c4_1⟩
  case rest =>
   clear HC2; obtain ⟨kq, x10_1, rfl, HA, HJ1, ⟨mc1, rfl⟩⟩ := hcut
   cases kq with
   | zero => exact absurd HA.out (by simp [spec_l2Byte.j0])
   | succ kj1 =>
    have H := HA.out; clear HA; simp only [spec_l2Byte.j0] at H; by_cases c4 : x10_1 = true
    ·subst c4
     have H1 : (some true) = some r := by rw [if_pos rfl] at H; exact H
     clear H; have H := H1; clear H1; obtain rfl := Option.some.inj H; go_wp2; go_ret; exact ⟨by first | rfl | (simp; done) | (simp [*]; done) | (simp [ne_nil_b, eq_nil_b]; done), c4_1⟩
    ·replace c4 := Bool.eq_false_iff.mpr c4
     subst c4
     have H1 : (spec_l2Byte.l0 kj1 a0 (⟨#[43, 45, 42, 47, 60, 61, 63, 33]⟩ : ByteArray) 0) = some r := by rw [if_neg (show ¬ (false = true) by decide)] at H; exact H
     clear H; have H := H1; clear H1; have H' := ak H; clear H; go_wp2; go_loopg [4] kj1 (fun kq v4 w' => ∃ (x4_2 : Int), v4 = .int .i64 x4_2 ∧ Aside0 (spec_l2Byte.l0 kq a0 (⟨#[43, 45, 42, 47, 60, 61, 63, 33]⟩ : ByteArray) x4_2 = some r) ∧ Aside0 (kq ≤ kj1) ∧ Drawn0 w w')
     case atStart => exact ⟨(0), d4_1, H', ⟨Nat.le_refl _⟩, c4_1⟩
     case round =>
      clear H'
      try clear c1
      try clear p2
      try clear c3
      try clear c3b0
      try clear c4
      obtain ⟨x4_2, rfl, HA, HK2, ⟨m2, rfl⟩⟩ := hrel
      cases gk with
      | zero => exact absurd HA.out (by simp [spec_l2Byte.l0])
      | succ k2 =>
       have H := HA.out; clear HA; simp only [spec_l2Byte.l0] at H; by_cases c5 : x4_2 < ((⟨#[43, 45, 42, 47, 60, 61, 63, 33]⟩ : ByteArray).size : Int)
       ·rw [if_pos c5] at H
        have c5b0 : decide (x4_2 < ((⟨#[43, 45, 42, 47, 60, 61, 63, 33]⟩ : ByteArray).size : Int)) = true := decide_eq_true c5; have c5b1 : decide (x4_2 < (8 : Int)) = true := decide_eq_true c5; clear c5; by_cases c6 : 0 ≤ x4_2
        ·rw [if_pos c6] at H
         have c6b0 : decide (0 ≤ x4_2) = true := decide_eq_true c6; clear c6; by_cases c8 : (bt (⟨#[43, 45, 42, 47, 60, 61, 63, 33]⟩ : ByteArray) x4_2) = a0
         ·rw [if_pos c8] at H
          have c8b0 : ((bt (⟨#[43, 45, 42, 47, 60, 61, 63, 33]⟩ : ByteArray) x4_2) == a0) = true := beq_iff_eq.mpr c8; have c8b1 : ((bt (⟨#[43, 45, 42, 47, 60, 61, 63, 33]⟩ : ByteArray) x4_2) != a0) = false := bne_eq_false_iff_eq.mpr c8; clear c8; obtain rfl := Option.some.inj H; have p7 : 0 ≤ (x4_2 : Int) := of_decide_eq_true d4_2; have q7 : x4_2 < (8 : Int) := of_decide_eq_true d4_2; have hx7 := bt_at (⟨#[43, 45, 42, 47, 60, 61, 63, 33]⟩ : ByteArray) x4_2; replace p7 := eq_true p7; replace q7 := eq_true q7; go_wp2; go_ret; exact ⟨by first | rfl | (simp; done) | (simp [*]; done) | (simp [ne_nil_b, eq_nil_b]; done), c4_1⟩
         ·rw [if_neg c8] at H
          have c8b0 : ((bt (⟨#[43, 45, 42, 47, 60, 61, 63, 33]⟩ : ByteArray) x4_2) == a0) = false := beq_eq_false_iff_ne.mpr c8; have c8b1 : ((bt (⟨#[43, 45, 42, 47, 60, 61, 63, 33]⟩ : ByteArray) x4_2) != a0) = true := bne_iff_ne.mpr c8; have H' := ak H; clear H; have p7 : 0 ≤ (x4_2 : Int) := of_decide_eq_true d4_2; have q7 : x4_2 < (8 : Int) := of_decide_eq_true d4_2; have hx7 := bt_at (⟨#[43, 45, 42, 47, 60, 61, 63, 33]⟩ : ByteArray) x4_2; replace p7 := eq_true p7; replace q7 := eq_true q7; go_wp2; go_roundg k2
          case measure => have := HJ1.out; have := HK2.out; omega
          case rel => exact ⟨(wrap64 (x4_2 + 1)), d4_1, H', ⟨by have := HJ1.out; have := HK2.out; omega⟩, c4_1⟩
        ·rw [if_neg c6] at H
         exact absurd H (by simp)
       ·rw [if_neg c5] at H
        have c5b0 : decide (x4_2 < ((⟨#[43, 45, 42, 47, 60, 61, 63, 33]⟩ : ByteArray).size : Int)) = false := decide_eq_false c5; have c5b1 : decide (x4_2 < (8 : Int)) = false := decide_eq_false c5; clear c5; obtain rfl := Option.some.inj H; go_wp2; go_ret; exact ⟨by first | rfl | (simp; done) | (simp [*]; done) | (simp [ne_nil_b, eq_nil_b]; done), c4_1⟩

/-! ### spec_l2Sym: function 36 -/
def spec_l2Sym.l0 : Nat → ByteArray → Int → Option (Bool)
  | 0, _, _ => none
  | k + 1, x0, x3 => if x3 < (x0.size : Int) then (if 0 ≤ x3 then ((spec_l2Byte.f k (bt x0 x3)).bind fun t168 => (if t168 = true then (spec_l2Sym.l0 k x0 (wrap64 (x3 + 1))) else (some false))) else (none)) else ((spec_l1In.f (x0.size : Int) 1 12).bind fun t169 => (some t169))
def spec_l2Sym.f (k : Nat) (a0 : ByteArray) : Option (Bool) := spec_l2Sym.l0 k a0 0
theorem spec_l2Sym.mono_l : ∀ k, (∀ y0 y1, LeO (spec_l2Sym.l0 k y0 y1) (spec_l2Sym.l0 (k + 1) y0 y1))
  | 0 => fun _ _ r h => by simp [spec_l2Sym.l0] at h
  | k + 1 => by
    have ih0 := spec_l2Sym.mono_l k
    · intro y0 y1
      unfold spec_l2Sym.l0
      repeat' first
      | (with_reducible exact ih0 _ _)
      | (with_reducible exact spec_l2Byte.mono _ _)
      | (with_reducible exact LeO.refl _)
      | (with_reducible exact LeO.none _)
      | (with_reducible refine LeO.ite ?_ ?_)
      | (with_reducible refine LeO.bind ?_ (fun _ => ?_))
      | exact ih0 _ _
      | exact spec_l2Byte.mono _ _
      | exact LeO.none _
      | refine LeO.ite ?_ ?_
      | refine LeO.bind ?_ (fun _ => ?_)
theorem spec_l2Sym.mono : ∀ a0 k, LeO (spec_l2Sym.f k a0) (spec_l2Sym.f (k + 1) a0) := by
  intro a0 k; have ih0 := spec_l2Sym.mono_l k; unfold spec_l2Sym.f
  repeat' first
      | (with_reducible exact ih0 _ _)
      | (with_reducible exact spec_l2Byte.mono _ _)
      | (with_reducible exact LeO.refl _)
      | (with_reducible exact LeO.none _)
      | (with_reducible refine LeO.ite ?_ ?_)
      | (with_reducible refine LeO.bind ?_ (fun _ => ?_))
      | exact ih0 _ _
      | exact spec_l2Byte.mono _ _
      | exact LeO.none _
      | refine LeO.ite ?_ ?_
      | refine LeO.bind ?_ (fun _ => ?_)
set_option maxHeartbeats 8000000 in
set_option maxRecDepth 100000 in
theorem spec_l2Sym.calls (k : Nat) (a0 : ByteArray) (r : Bool) (w : World) (h : spec_l2Sym.f k a0 = some r) :
    Calls Tryd.prog 36 #[.string a0] w fun e w' => e = .returned (.bool r) ∧ Drawn0 w w' := by
  have H : (spec_l2Sym.l0 k a0 0) = some r := h; clear h; have H' := ak H; clear H; go_enter Tryd.func36, Tryd.ntmps36; go_wp2; go_loopg [3] k (fun kq v3 w' => ∃ (x3_1 : Int), v3 = .int .i64 x3_1 ∧ Aside0 (spec_l2Sym.l0 kq a0 x3_1 = some r) ∧ Aside0 (kq ≤ k) ∧ Drawn0 w w')
  case atStart => exact ⟨(0), d4_1, H', ⟨Nat.le_refl _⟩, c4_1⟩
  case round =>
   clear H'; obtain ⟨x3_1, rfl, HA, HK1, ⟨m1, rfl⟩⟩ := hrel
   cases gk with
   | zero => exact absurd HA.out (by simp [spec_l2Sym.l0])
   | succ k1 =>
    have H := HA.out; clear HA; simp only [spec_l2Sym.l0] at H; by_cases c2 : x3_1 < (a0.size : Int)
    ·rw [if_pos c2] at H
     have c2b0 : decide (x3_1 < (a0.size : Int)) = true := decide_eq_true c2; clear c2; by_cases c3 : 0 ≤ x3_1
     ·rw [if_pos c3] at H
      have c3b0 : decide (0 ≤ x3_1) = true := decide_eq_true c3; clear c3; replace H := Option.bind_eq_some_iff.mp H; obtain ⟨t168, A50, H⟩ := H; replace H : (if t168 = true then (spec_l2Sym.l0 k1 a0 (wrap64 (x3_1 + 1))) else (some false)) = some r := H; have A5 := ak A50; clear A50; by_cases c6 : t168 = true
      ·subst c6
       have H1 : (spec_l2Sym.l0 k1 a0 (wrap64 (x3_1 + 1))) = some r := by rw [if_pos rfl] at H; exact H
       clear H; have H := H1; clear H1; have H' := ak H; clear H; have p4 : 0 ≤ (x3_1 : Int) := of_decide_eq_true d4_2; have q4 : x3_1 < (a0.size : Int) := of_decide_eq_true d4_2; have hx4 := bt_at a0 x3_1; replace p4 := eq_true p4; replace q4 := eq_true q4; go_wp2_with (first | ((with_reducible refine gate_callee (f := 47) rfl ?_); refine goesL_ (some 13) rfl rfl Tryd.func47 (by kernel_rfl) rfl #[.int .u8 (bt a0 x3_1)] rfl (by (try simp only [List.map_toArray, List.map_cons, List.map_nil]); first | done | rfl | (simp only [List.length_drop, List.length_take]; rfl)) ?_; (with_reducible refine (spec_l2Byte.calls k1 (bt a0 x3_1) true _ A5.out).mono ?_); rintro e w' ⟨rfl, ⟨nd, rfl⟩⟩; refine ⟨_, rfl, ?_⟩)); go_roundg k1
       case measure => have := HK1.out; omega
       case rel => exact ⟨(wrap64 (x3_1 + 1)), d4_1, H', ⟨by have := HK1.out; omega⟩, c4_1⟩
      ·replace c6 := Bool.eq_false_iff.mpr c6
       subst c6
       have H1 : (some false) = some r := by rw [if_neg (show ¬ (false = true) by decide)] at H; exact H
       clear H; have H := H1; clear H1; obtain rfl := Option.some.inj H; have p4 : 0 ≤ (x3_1 : Int) := of_decide_eq_true d4_2; have q4 : x3_1 < (a0.size : Int) := of_decide_eq_true d4_2; have hx4 := bt_at a0 x3_1; replace p4 := eq_true p4; replace q4 := eq_true q4; go_wp2_with (first | ((with_reducible refine gate_callee (f := 47) rfl ?_); refine goesL_ (some 13) rfl rfl Tryd.func47 (by kernel_rfl) rfl #[.int .u8 (bt a0 x3_1)] rfl (by (try simp only [List.map_toArray, List.map_cons, List.map_nil]); first | done | rfl | (simp only [List.length_drop, List.length_take]; rfl)) ?_; (with_reducible refine (spec_l2Byte.calls k1 (bt a0 x3_1) false _ A5.out).mono ?_); rintro e w' ⟨rfl, ⟨nd, rfl⟩⟩; refine ⟨_, rfl, ?_⟩)); go_ret; exact ⟨by first | rfl | (simp; done) | (simp [*]; done) | (simp [ne_nil_b, eq_nil_b]; done), c4_1⟩
     ·rw [if_neg c3] at H
      exact absurd H (by simp)
    ·rw [if_neg c2] at H
     have c2b0 : decide (x3_1 < (a0.size : Int)) = false := decide_eq_false c2; clear c2; replace H := Option.bind_eq_some_iff.mp H; obtain ⟨t169, A70, H⟩ := H; replace H : (some t169) = some r := H; have A7 := ak A70; clear A70; obtain rfl := Option.some.inj H; go_wp2_with (first | ((with_reducible refine gate_callee (f := 34) rfl ?_); refine goesL_ (some 17) rfl rfl Tryd.func34 (by kernel_rfl) rfl #[.int .i64 (a0.size : Int), .int .i64 1, .int .i64 12] rfl (by (try simp only [List.map_toArray, List.map_cons, List.map_nil]); first | done | rfl | (simp only [List.length_drop, List.length_take]; rfl)) ?_; (with_reducible refine (spec_l1In.calls (a0.size : Int) 1 12 t169 _ A7.out).mono ?_); rintro e w' ⟨rfl, ⟨nd, rfl⟩⟩; refine ⟨_, rfl, ?_⟩)); go_ret; exact ⟨by first | rfl | (simp; done) | (simp [*]; done) | (simp [ne_nil_b, eq_nil_b]; done), c4_1⟩

end Go.Proofs.YteoccmbphmiaaaaDoor.B
