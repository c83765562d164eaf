/- Walks of the program's functions: each Go function's answer as a plain Lean function, and that the call comes to it. Written by a program. Conditions: those in each theorem's own head. -/
import Derived.Test.YtjlmknembpjnjaaDoorA0
import Derived.Test.YtjlmknembpjnjaaDoorA5
import Derived.Test.YtjlmknembpjnjaaDoorA8
namespace Go.Proofs.YtjlmknembpjnjaaDoor.A
open Go.RowKit Go.Proofs.YtjlmknembpjnjaaDoorW.PrintWords Go.Proofs.YtjlmknembpjnjaaDoorW.PrintLast Go.Proofs.YtjlmknembpjnjaaDoorW.PrintMore
attribute [local go_sem] max2_int min2_int max_two min_two max_three min_three max_four min_four   -- for this text's walks alone
set_option linter.unusedVariables false
set_option linter.unusedSimpArgs false

theorem b9N {w : World} {g : Nat} {o : Obj} (h : w.heap[g]? = some o) (n : Nat) : (w.drewN n).heap[g]? = some o := h
theorem b9D {w : World} {g : Nat} {o : Obj} (h : w.heap[g]? = some o) : (w.drew).heap[g]? = some o := h
theorem b9L {w : World} {g : Nat} {o : Obj} (h : w.heap[g]? = some o) (o' : Obj) : (w.alloc o').heap[g]? = some o := blk_alloc h o'
theorem d9_1 {p : Prop} (h : p := by repeat (first | (with_reducible first | exact HB.out | apply below_alloc | apply pw_below_drewN | apply below_drew1) | exact HB.out)) : p := h
theorem d9_2 {p : Prop} (h : p := by (try simp only [List.map_toArray, List.map_cons, List.map_nil]); first | done | rfl | (simp only [List.length_drop, List.length_take]; rfl)) : p := h
theorem d9_3 {p : Prop} (h : p := by repeat (first | (with_reducible first | exact HB.out | apply below_alloc | apply pw_below_drewN | apply below_drew1 | refine below_set ?_ GE300.out) | exact HB.out)) : p := h
theorem d9_4 {p : Prop} (h : p := by repeat (first | (with_reducible first | exact HB.out | apply below_alloc | apply pw_below_drewN | apply below_drew1 | refine below_set ?_ GE315.out) | exact HB.out)) : p := h
theorem d9_5 {p : Prop} (h : p := by (with_reducible repeat first | apply b9N | apply b9D | apply b9L); exact BK315.out) : p := h
theorem d9_6 {p : Prop} (h : p := by first | (with_reducible assumption) | assumption) : p := h
theorem d9_7 {p : Prop} (h : p := by (with_reducible repeat (first | apply Kd.R_alloc | apply Kd.R_drewN | apply Kd.R_drew)); exact HO325.out) : p := h
theorem d9_8 {p : Prop} (h : p := by (with_reducible repeat first | apply b9N | apply b9D | apply b9L); exact BK300.out) : p := h
theorem d9_9 {p : Prop} (h : p := by rw [hg]; exact (below_size d9_1)) : p := h
theorem c9_1 {p : Prop} (h : p := by repeat (first | exact (Kd.C_below HR0.out HB.out) | (with_reducible refine Kd.C_alloc ?_ _) | (with_reducible refine Kd.C_drewN ?_ _) | (with_reducible refine Kd.C_drew ?_))) : p := h
theorem c9_2 {p : Prop} (h : p := by first | rfl | (simp [errW_none, errW_some] <;> rfl) | (simp [*, errW_none, errW_some] <;> rfl)) : p := h
theorem c9_3 {p : Prop} (h : p := by repeat (first | (with_reducible first | exact HB.out | apply below_alloc | apply pw_below_drewN | apply below_drew1 | refine below_set ?_ GE300.out) | exact HB.out)) : p := h
theorem c9_4 {p : Prop} (h : p := by first | (go_simp; done) | (go_simp; rfl)) : p := h
theorem c9_5 {p : Prop} (h : p := by repeat (first | (with_reducible first | exact HB.out | apply below_alloc | apply pw_below_drewN | apply below_drew1 | refine below_set ?_ GE315.out) | exact HB.out)) : p := h
set_option maxHeartbeats 8000000
set_option maxRecDepth 100000
theorem z9c {w : World} {g : Nat} {t : TypeId} {cs : Array Value} (h : w.heap[g]? = some (.cells cs t (0, 0))) (i : Nat) {v : Value} (e : cs[i]? = some v) : w.cell? ⟨g, i, none⟩ = some v := (blk_cell h i).trans e
theorem pa9_1 {α : Type} (l : List α) (i : Nat) (a : α) : l.toArray.setIfInBounds i a = (l.set i a).toArray := List.setIfInBounds_toArray l i a
theorem pa9_2 {α : Type} (a : α) (l : List α) (b : α) : (a :: l).set 0 b = b :: l := rfl
theorem pa9_3 {α : Type} (a : α) (l : List α) (n : Nat) (b : α) : (a :: l).set (n + 1) b = a :: l.set n b := rfl

/-! ### impl_boolText: function 35 -/
def impl_boolText.f (a0 : Int) : Option (ByteArray) := if a0 = 1 then (some (⟨#[35, 116]⟩ : ByteArray)) else (some (⟨#[35, 102]⟩ : ByteArray))
theorem impl_boolText.calls (a0 : Int) (r : ByteArray) (w : World) (h : impl_boolText.f a0 = some r) :
    Calls Tryd.prog 35 #[.int .i64 a0] w fun e w' => e = .returned (.string r) ∧ Drawn0 w w' := by
  have H := h; clear h; unfold impl_boolText.f at H; by_cases c2 : a0 = 1
  ·rw [if_pos c2] at H
   have c2b0 : (a0 == 1) = true := beq_iff_eq.mpr c2; have c2b1 : (a0 != 1) = false := bne_eq_false_iff_eq.mpr c2; clear c2; obtain rfl := Option.some.inj H; go_enter Tryd.func35, Tryd.ntmps35; go_wp2; go_ret; exact ⟨by first | rfl | (simp; done) | (simp [*]; done) | (simp [ne_nil_b, eq_nil_b]; done), by repeat (first | exact Drawn0.refl _ | apply Drawn0.step)⟩
  ·rw [if_neg c2] at H
   have c2b0 : (a0 == 1) = false := beq_eq_false_iff_ne.mpr c2; have c2b1 : (a0 != 1) = true := bne_iff_ne.mpr c2; obtain rfl := Option.some.inj H; go_enter Tryd.func35, Tryd.ntmps35; go_wp2; go_ret; exact ⟨by first | rfl | (simp; done) | (simp [*]; done) | (simp [ne_nil_b, eq_nil_b]; done), by repeat (first | exact Drawn0.refl _ | apply Drawn0.step)⟩

/-! ### strings_Join: function 36 (by hand) -/
set_option maxRecDepth 1000000 in
theorem joinX : Go.Proofs.Builder.Extra Tryd.prog Tryd.lays156_ren where
  sizeBuilder := by kernel_rfl
  liesBuilder := by kernel_rfl
  t5 := Tryd.underlying5; a5 := Tryd.isAgg5; z5 := Tryd.sizeOf5; v5 := Tryd.zeroValue5
  infoByte := by kernel_rfl
  cellsByte := by kernel_rfl
  sizeByte := by kernel_rfl
  neB5 := by decide
theorem joinSpot {w : World} {b o : Nat} {sp : Option Nat} {v : Value} (h : w.cell? ⟨b, o, sp⟩ = some v) : sp = none := by
  cases sp with
  | none => rfl
  | some x =>
    unfold World.cell? at h; split at h <;> simp at h
def strings_Join.f (l0 : List ByteArray) (a1 : ByteArray) : Option (ByteArray) := if l0.length ≤ 140737488355328 ∧ (Lib.join (l0.map (·.data.toList)) a1.data.toList).length ≤ 140737488355328 then some ⟨(Lib.join (l0.map (·.data.toList)) a1.data.toList).toArray⟩ else none
theorem strings_Join.calls (A0 : Option Addr) (c0 : Nat) (l0 : List ByteArray) (a1 : ByteArray) (r : ByteArray) (w : World) (hr0 : Kd.C Kd.string w A0 l0.length l0) (hc0 : l0.length ≤ c0) (h : strings_Join.f l0 a1 = some r) :
    Calls Tryd.prog 36 #[.slice A0 l0.length c0, .string a1] w fun e w' => e = .returned (.string r) ∧ Below w.heap.size w w' := by
  unfold strings_Join.f at h; by_cases c : l0.length ≤ 140737488355328 ∧ (Lib.join (l0.map (·.data.toList)) a1.data.toList).length ≤ 140737488355328
  · rw [if_pos c] at h
    obtain rfl := Option.some.inj h; by_cases hz : 0 < l0.length
    · obtain ⟨ad, rfl, hcl⟩ := hr0.2.2 hz
      have hat : ∀ (j : Nat) x, l0[j]? = some x → w.cell? (ad.add (j * 1 + 0)) = some (.string x) := by
        intro j x hx; obtain ⟨cs, _, hk, hcs⟩ := hcl j x hx; have hk' : cs = [.string x] := hk; subst hk'; exact hcs 0 _ rfl
      obtain ⟨b, o, sp⟩ := ad; have h00 := hat 0 l0[0] (List.getElem?_eq_getElem hz); rw [show 0 * 1 + 0 = 0 from rfl, Addr.add_zero'] at h00; have hsp := joinSpot h00; subst hsp
      have hcell : ∀ (j : Nat) x, l0[j]? = some x → w.cell? ⟨b, o + j, none⟩ = some (.string x) := by
        intro j x hx; have h1 := hat j x hx; rw [Addr.add_lit, Nat.mul_one, Nat.add_zero] at h1; exact h1
      have hcon := Go.Proofs.Any.strings_Join Tryd.lays156 joinX b o c0 l0 a1 w hcell (World.block_lt_of_cell? w _ h00) c.1 hc0 c.2; exact hcon
    · have hn : l0 = [] := List.length_eq_zero_iff.mp (by omega)
      subst hn; have hcon := Go.Proofs.Any.strings_Join_none Tryd.lays156 joinX A0 c0 a1 w; refine Calls.mono hcon (fun e w' hw => ?_); obtain ⟨he, rfl⟩ := hw; exact ⟨he, Below.refl _ _⟩
  · rw [if_neg c] at h
    exact absurd h (by simp)


/-! ### impl_written: function 22 -/
mutual
def impl_written.l0 : Nat → List (S45) → List ByteArray → List Int → Int → Int → Option (ByteArray)
  | 0, _, _, _, _, _ => none
  | k + 1, x0, x6, x32, x33, x34 => if x34 < x33 then (if 0 ≤ x34 then (if x34 < (x32.length : Int) then ((impl_written.f k x0 (rd x32 x34)).bind fun t310 => (if x6.length < 8796093022208 then (impl_written.l0 k x0 (x6 ++ [t310]) x32 x33 (wrap64 (x34 + 1))) else (none))) else (none)) else (none)) else ((strings_Join.f x6 (⟨#[32]⟩ : ByteArray)).bind fun t314 => (if 1 + t314.size ≤ 9223372036854775807 then (if ((⟨#[40]⟩ : ByteArray) ++ t314).size + 1 ≤ 9223372036854775807 then (some (((⟨#[40]⟩ : ByteArray) ++ t314) ++ (⟨#[41]⟩ : ByteArray))) else (none)) else (none)))
def impl_written.f : Nat → List (S45) → Int → Option (ByteArray)
  | 0, _, _ => none
  | k + 1, l0, a1 => if 0 ≤ a1 then (if a1 < (l0.length : Int) then (if ((rd_T45 l0 a1).f0) = 1 then ((impl_dec.f ((rd_T45 l0 a1).f2)).bind fun t301 => (some t301)) else (if ((rd_T45 l0 a1).f0) = 2 then ((impl_boolText.f ((rd_T45 l0 a1).f2)).bind fun t302 => (some t302)) else (if ((rd_T45 l0 a1).f0) = 3 then (some ((rd_T45 l0 a1).f3)) else ((impl_parts.f k l0 a1).bind fun t306 => (impl_written.l0 k l0 (([] : List ByteArray)) t306 (t306.length : Int) 0))))) else (none)) else (none)
end
theorem impl_written.mono_l : ∀ k, (∀ y0 y1, LeO (impl_written.f k y0 y1) (impl_written.f (k + 1) y0 y1)) ∧ (∀ y0 y1 y2 y3 y4, LeO (impl_written.l0 k y0 y1 y2 y3 y4) (impl_written.l0 (k + 1) y0 y1 y2 y3 y4))
  | 0 => ⟨fun _ _ r h => by simp [impl_written.f] at h, fun _ _ _ _ _ r h => by simp [impl_written.l0] at h⟩
  | k + 1 => by
    obtain ⟨ih0, ih1⟩ := impl_written.mono_l k; refine ⟨?_, ?_⟩
    · intro y0 y1
      unfold impl_written.f
      repeat' first | (with_reducible first | apply ih0 | apply ih1 | apply impl_parts.mono | exact LeO.refl _ | exact LeO.none _ | refine LeO.ite ?_ ?_ | refine LeO.bind ?_ (fun _ => ?_)) | apply ih0 | apply ih1 | apply impl_parts.mono | exact LeO.none _ | refine LeO.ite ?_ ?_ | refine LeO.bind ?_ (fun _ => ?_)
    · intro y0 y1 y2 y3 y4
      unfold impl_written.l0
      repeat' first | (with_reducible first | apply ih0 | apply ih1 | apply impl_parts.mono | exact LeO.refl _ | exact LeO.none _ | refine LeO.ite ?_ ?_ | refine LeO.bind ?_ (fun _ => ?_)) | apply ih0 | apply ih1 | apply impl_parts.mono | exact LeO.none _ | refine LeO.ite ?_ ?_ | refine LeO.bind ?_ (fun _ => ?_)
theorem impl_written.mono : ∀ a0 a1 k, LeO (impl_written.f k a0 a1) (impl_written.f (k + 1) a0 a1) := by
  intro a0 a1 k; obtain ⟨ih0, ih1⟩ := impl_written.mono_l k; exact ih0 a0 a1
theorem impl_written.calls (k : Nat) : ∀ (A0 : Option Addr) (c0 : Nat) (l0 : List (S45)) (a1 : Int) (r : ByteArray) (w : World) (hr0 : Kd.C k45 w A0 l0.length l0) (hc0 : l0.length ≤ c0) (hLz : Lz w) (h : impl_written.f k l0 a1 = some r),
    Calls Tryd.prog 22 #[.slice A0 l0.length c0, .int .i64 a1] w fun e w' => e = .returned (.string r) ∧ Below w.heap.size w w' := by
  induction k using Nat.strongRecOn with
  | _ k ih =>
  intro A0 c0 l0 a1 r w hr0 hc0 hLz h
  cases k with
  | zero => exact absurd h (by simp [impl_written.f])
  | succ k =>
  simp only [impl_written.f] at h; have hu45 := Tryd.underlying45; have HR0 := ak hr0; have HC0 := ak hc0; clear hr0 hc0; have HB := ak (Below.refl w.heap.size w); have HLZ := ak hLz; clear hLz; have H : (if 0 ≤ a1 then (if a1 < (l0.length : Int) then (if ((rd_T45 l0 a1).f0) = 1 then ((impl_dec.f ((rd_T45 l0 a1).f2)).bind fun t301 => (some t301)) else (if ((rd_T45 l0 a1).f0) = 2 then ((impl_boolText.f ((rd_T45 l0 a1).f2)).bind fun t302 => (some t302)) else (if ((rd_T45 l0 a1).f0) = 3 then (some ((rd_T45 l0 a1).f3)) else ((impl_parts.f k l0 a1).bind fun t306 => (impl_written.l0 k l0 (([] : List ByteArray)) t306 (t306.length : Int) 0))))) else (none)) else (none)) = some r := h; clear h; by_cases c3 : 0 ≤ a1
  ·rw [if_pos c3] at H
   have c3b0 : decide (0 ≤ a1) = true := decide_eq_true c3; clear c3; by_cases c4 : a1 < (l0.length : Int)
   ·rw [if_pos c4] at H
    have c4b0 : decide (a1 < (l0.length : Int)) = true := decide_eq_true c4; clear c4; by_cases c5 : ((rd_T45 l0 a1).f0) = 1
    ·rw [if_pos c5] at H
     have c5b0 : (((rd_T45 l0 a1).f0) == 1) = true := beq_iff_eq.mpr c5; have c5b1 : (((rd_T45 l0 a1).f0) != 1) = false := bne_eq_false_iff_eq.mpr c5; clear c5; replace H := Option.bind_eq_some_iff.mp H; obtain ⟨t301, A60, H⟩ := H; (try dsimp -simprocs only at H); have A6 := ak A60; clear A60; obtain rfl := Option.some.inj H; have p299 : 0 ≤ (a1 : Int) := of_decide_eq_true d9_6; have q299 : a1 < (l0.length : Int) := of_decide_eq_true d9_6; obtain ⟨ad299, e299, hx299_0, hx299_1, hx299_2, hx299_3⟩ := at_T45 HR0.out a1 p299 q299
     cases e299
     replace p299 := eq_true p299; replace q299 := eq_true q299; go_enter Tryd.func22, Tryd.ntmps22
     go_wp2_with (first | ((with_reducible refine gate_dst (N := 5) rfl ?_); refine box_event ?hg (N := 5) ?hd (cs := #[.int .i64 0, .int .i64 0, .int .i64 0, .string (⟨#[]⟩ : ByteArray)]) (t := 45) ?hr ?_; (case hd => rfl); (case hg => rfl); (case hr => exact c9_4); intro gb300 hg w7 hbox hb; have n0_ := ak (below_step d9_1 hb); have n1_ := ak (hbox); have n2_ := ak ((d9_9 : w.heap.size ≤ gb300)); have n3_ := ak ((d9_9 : w.heap.size ≤ gb300)); clear HB; have HB := n0_; have BK300 := n1_; have GW300 := n2_; have GE300 := n3_; clear n0_ n1_ n2_ n3_ hb hbox hg; have hcz8_0 := z9c BK300.out 0 (v := (.int .i64 0)) rfl; have hcz8_1 := z9c BK300.out 1 (v := (.int .i64 0)) rfl; have hcz8_2 := z9c BK300.out 2 (v := (.int .i64 0)) rfl; have hcz8_3 := z9c BK300.out 3 (v := (.string (⟨#[]⟩ : ByteArray))) rfl; have hfz8_0 := blk_frozen BK300.out 0; have hfz8_1 := blk_frozen BK300.out 1; have hfz8_2 := blk_frozen BK300.out 2; have hfz8_3 := blk_frozen BK300.out 3) | ((with_reducible refine gate_callee (f := 34) rfl ?_); refine goesL_ (some 19) rfl rfl Tryd.func34 (by kernel_rfl) rfl #[.int .i64 ((rd_T45 l0 a1).f2)] rfl d9_2 ?_; (with_reducible refine (impl_dec.calls ((rd_T45 l0 a1).f2) t301 _ ?side1 A6.out).mono ?_); (case side1 => exact Lz.below HLZ.out d9_3); rintro e w9 ⟨rfl, hb⟩; refine ⟨_, rfl, ?_⟩; have n0_ := ak (blk_below (g := gb300) (o := .cells #[.int .i64 ((rd_T45 l0 a1).f0), .int .i64 ((rd_T45 l0 a1).f1), .int .i64 ((rd_T45 l0 a1).f2), .string ((rd_T45 l0 a1).f3)] 45 (0, 0)) (by (with_reducible repeat first | apply b9N | apply b9D | apply b9L); refine blk_put (cs := #[.int .i64 ((rd_T45 l0 a1).f0), .int .i64 ((rd_T45 l0 a1).f1), .int .i64 ((rd_T45 l0 a1).f2), .string (⟨#[]⟩ : ByteArray)]) ?_ 3 _ rfl; (with_reducible repeat first | apply b9N | apply b9D | apply b9L); refine blk_put (cs := #[.int .i64 ((rd_T45 l0 a1).f0), .int .i64 ((rd_T45 l0 a1).f1), .int .i64 0, .string (⟨#[]⟩ : ByteArray)]) ?_ 2 _ rfl; (with_reducible repeat first | apply b9N | apply b9D | apply b9L); refine blk_put (cs := #[.int .i64 ((rd_T45 l0 a1).f0), .int .i64 0, .int .i64 0, .string (⟨#[]⟩ : ByteArray)]) ?_ 1 _ rfl; (with_reducible repeat first | apply b9N | apply b9D | apply b9L); refine blk_put (cs := #[.int .i64 0, .int .i64 0, .int .i64 0, .string (⟨#[]⟩ : ByteArray)]) ?_ 0 _ rfl; (with_reducible repeat first | apply b9N | apply b9D | apply b9L); exact BK300.out) hb); have n1_ := ak (below_step d9_3 hb); clear BK300 HB; have BK300 := n0_; have HB := n1_; clear n0_ n1_; (try clear hb)))
     go_ret; exact ⟨c9_2, c9_3⟩
    ·rw [if_neg c5] at H
     have c5b0 : (((rd_T45 l0 a1).f0) == 1) = false := beq_eq_false_iff_ne.mpr c5; have c5b1 : (((rd_T45 l0 a1).f0) != 1) = true := bne_iff_ne.mpr c5; by_cases c10 : ((rd_T45 l0 a1).f0) = 2
     ·rw [if_pos c10] at H
      have c10b0 : (((rd_T45 l0 a1).f0) == 2) = true := beq_iff_eq.mpr c10; have c10b1 : (((rd_T45 l0 a1).f0) != 2) = false := bne_eq_false_iff_eq.mpr c10; clear c10; replace H := Option.bind_eq_some_iff.mp H; obtain ⟨t302, A110, H⟩ := H; (try dsimp -simprocs only at H); have A11 := ak A110; clear A110; obtain rfl := Option.some.inj H; have p299 : 0 ≤ (a1 : Int) := of_decide_eq_true d9_6; have q299 : a1 < (l0.length : Int) := of_decide_eq_true d9_6; obtain ⟨ad299, e299, hx299_0, hx299_1, hx299_2, hx299_3⟩ := at_T45 HR0.out a1 p299 q299
      cases e299
      replace p299 := eq_true p299; replace q299 := eq_true q299; go_enter Tryd.func22, Tryd.ntmps22
      go_wp2_with (first | ((with_reducible refine gate_dst (N := 5) rfl ?_); refine box_event ?hg (N := 5) ?hd (cs := #[.int .i64 0, .int .i64 0, .int .i64 0, .string (⟨#[]⟩ : ByteArray)]) (t := 45) ?hr ?_; (case hd => rfl); (case hg => rfl); (case hr => exact c9_4); intro gb300 hg w12 hbox hb; have n0_ := ak (below_step d9_1 hb); have n1_ := ak (hbox); have n2_ := ak ((d9_9 : w.heap.size ≤ gb300)); have n3_ := ak ((d9_9 : w.heap.size ≤ gb300)); clear HB; have HB := n0_; have BK300 := n1_; have GW300 := n2_; have GE300 := n3_; clear n0_ n1_ n2_ n3_ hb hbox hg; have hcz13_0 := z9c BK300.out 0 (v := (.int .i64 0)) rfl; have hcz13_1 := z9c BK300.out 1 (v := (.int .i64 0)) rfl; have hcz13_2 := z9c BK300.out 2 (v := (.int .i64 0)) rfl; have hcz13_3 := z9c BK300.out 3 (v := (.string (⟨#[]⟩ : ByteArray))) rfl; have hfz13_0 := blk_frozen BK300.out 0; have hfz13_1 := blk_frozen BK300.out 1; have hfz13_2 := blk_frozen BK300.out 2; have hfz13_3 := blk_frozen BK300.out 3) | ((with_reducible refine gate_callee (f := 35) rfl ?_); refine goesL_ (some 24) rfl rfl Tryd.func35 (by kernel_rfl) rfl #[.int .i64 ((rd_T45 l0 a1).f2)] rfl d9_2 ?_; (with_reducible refine (impl_boolText.calls ((rd_T45 l0 a1).f2) t302 _ A11.out).mono ?_); rintro e w' ⟨rfl, ⟨nd, rfl⟩⟩; refine ⟨_, rfl, ?_⟩)); go_ret
      exact ⟨c9_2, c9_3⟩
     ·rw [if_neg c10] at H
      have c10b0 : (((rd_T45 l0 a1).f0) == 2) = false := beq_eq_false_iff_ne.mpr c10; have c10b1 : (((rd_T45 l0 a1).f0) != 2) = true := bne_iff_ne.mpr c10; by_cases c14 : ((rd_T45 l0 a1).f0) = 3
      ·rw [if_pos c14] at H
       have c14b0 : (((rd_T45 l0 a1).f0) == 3) = true := beq_iff_eq.mpr c14; have c14b1 : (((rd_T45 l0 a1).f0) != 3) = false := bne_eq_false_iff_eq.mpr c14; clear c14; obtain rfl := Option.some.inj H; have p299 : 0 ≤ (a1 : Int) := of_decide_eq_true d9_6; have q299 : a1 < (l0.length : Int) := of_decide_eq_true d9_6; obtain ⟨ad299, e299, hx299_0, hx299_1, hx299_2, hx299_3⟩ := at_T45 HR0.out a1 p299 q299
       cases e299
       replace p299 := eq_true p299; replace q299 := eq_true q299; go_enter Tryd.func22, Tryd.ntmps22; go_wp2_with (first | ((with_reducible refine gate_dst (N := 5) rfl ?_); refine box_event ?hg (N := 5) ?hd (cs := #[.int .i64 0, .int .i64 0, .int .i64 0, .string (⟨#[]⟩ : ByteArray)]) (t := 45) ?hr ?_; (case hd => rfl); (case hg => rfl); (case hr => exact c9_4); intro gb300 hg w15 hbox hb; have n0_ := ak (below_step d9_1 hb); have n1_ := ak (hbox); have n2_ := ak ((d9_9 : w.heap.size ≤ gb300)); have n3_ := ak ((d9_9 : w.heap.size ≤ gb300)); clear HB; have HB := n0_; have BK300 := n1_; have GW300 := n2_; have GE300 := n3_; clear n0_ n1_ n2_ n3_ hb hbox hg; have hcz16_0 := z9c BK300.out 0 (v := (.int .i64 0)) rfl; have hcz16_1 := z9c BK300.out 1 (v := (.int .i64 0)) rfl; have hcz16_2 := z9c BK300.out 2 (v := (.int .i64 0)) rfl; have hcz16_3 := z9c BK300.out 3 (v := (.string (⟨#[]⟩ : ByteArray))) rfl; have hfz16_0 := blk_frozen BK300.out 0; have hfz16_1 := blk_frozen BK300.out 1; have hfz16_2 := blk_frozen BK300.out 2; have hfz16_3 := blk_frozen BK300.out 3)); go_ret
       exact ⟨c9_2, c9_3⟩
      ·rw [if_neg c14] at H
       have c14b0 : (((rd_T45 l0 a1).f0) == 3) = false := beq_eq_false_iff_ne.mpr c14; have c14b1 : (((rd_T45 l0 a1).f0) != 3) = true := bne_iff_ne.mpr c14; obtain ⟨y303, hy303⟩ : ∃ y_ : List ByteArray, y_ = (([] : List ByteArray)) := ⟨_, rfl⟩
       replace H : ((impl_parts.f k l0 a1).bind fun t306 => (impl_written.l0 k l0 y303 t306 (t306.length : Int) 0)) = some r := by first | (rw [hy303]; with_reducible exact H) | (have H2_ := (Option.bind_some _ _).symm.trans H; rw [hy303]; with_reducible exact H2_) | (have H2_ := (Option.bind_some _ _).symm.trans H; with_reducible exact H2_) | with_reducible exact H | (rw [hy303]; exact H) | exact H
       have Ny303 := ak hy303; clear hy303; replace H := Option.bind_eq_some_iff.mp H; obtain ⟨t306, A170, H⟩ := H; (try dsimp -simprocs only at H); have A17 := ak A170; clear A170; have H' := ak H; clear H; have p299 : 0 ≤ (a1 : Int) := of_decide_eq_true d9_6; have q299 : a1 < (l0.length : Int) := of_decide_eq_true d9_6; obtain ⟨ad299, e299, hx299_0, hx299_1, hx299_2, hx299_3⟩ := at_T45 HR0.out a1 p299 q299
       cases e299
       replace p299 := eq_true p299; replace q299 := eq_true q299; go_enter Tryd.func22, Tryd.ntmps22
       go_wp2_with (first | ((with_reducible refine gate_dst (N := 5) rfl ?_); refine box_event ?hg (N := 5) ?hd (cs := #[.int .i64 0, .int .i64 0, .int .i64 0, .string (⟨#[]⟩ : ByteArray)]) (t := 45) ?hr ?_; (case hd => rfl); (case hg => rfl); (case hr => exact c9_4); intro gb300 hg w18 hbox hb; have n0_ := ak (below_step d9_1 hb); have n1_ := ak (hbox); have n2_ := ak ((d9_9 : w.heap.size ≤ gb300)); have n3_ := ak ((d9_9 : w.heap.size ≤ gb300)); clear HB; have HB := n0_; have BK300 := n1_; have GW300 := n2_; have GE300 := n3_; clear n0_ n1_ n2_ n3_ hb hbox hg; have hcz19_0 := z9c BK300.out 0 (v := (.int .i64 0)) rfl; have hcz19_1 := z9c BK300.out 1 (v := (.int .i64 0)) rfl; have hcz19_2 := z9c BK300.out 2 (v := (.int .i64 0)) rfl; have hcz19_3 := z9c BK300.out 3 (v := (.string (⟨#[]⟩ : ByteArray))) rfl; have hfz19_0 := blk_frozen BK300.out 0; have hfz19_1 := blk_frozen BK300.out 1; have hfz19_2 := blk_frozen BK300.out 2; have hfz19_3 := blk_frozen BK300.out 3) | ((with_reducible refine gate_dst (N := 29) rfl ?_); refine Kd.R_lit Kd.string _ 9 ?hg (N := 29) ?hd (xs := ([] : List ByteArray)) (inner := []) (ok := fun _ => True) (okp := fun _ => True) ?hr ?hp (fun _ hk => hk) trivial (Below.refl _ _) (Nat.le_refl _) (by simp) ?_; (case hd => rfl); (case hg => rfl); (case hr => exact c9_4); (case hp => exact (Reps.none _ _)); intro v304 w20 ho21 hb hg_ hnew_; clear hg_ hnew_; (first | rw [← Ny303.out] at ho21 | (simp only [Int.reduceToNat] at ho21; rw [← Ny303.out] at ho21)); have n0_ := ak (Kd.R_lower ho21 (below_size d9_3)); have n1_ := ak (blk_below (g := gb300) (o := .cells #[.int .i64 ((rd_T45 l0 a1).f0), .int .i64 ((rd_T45 l0 a1).f1), .int .i64 ((rd_T45 l0 a1).f2), .string ((rd_T45 l0 a1).f3)] 45 (0, 0)) (by (with_reducible repeat first | apply b9N | apply b9D | apply b9L); refine blk_put (cs := #[.int .i64 ((rd_T45 l0 a1).f0), .int .i64 ((rd_T45 l0 a1).f1), .int .i64 ((rd_T45 l0 a1).f2), .string (⟨#[]⟩ : ByteArray)]) ?_ 3 _ rfl; (with_reducible repeat first | apply b9N | apply b9D | apply b9L); refine blk_put (cs := #[.int .i64 ((rd_T45 l0 a1).f0), .int .i64 ((rd_T45 l0 a1).f1), .int .i64 0, .string (⟨#[]⟩ : ByteArray)]) ?_ 2 _ rfl; (with_reducible repeat first | apply b9N | apply b9D | apply b9L); refine blk_put (cs := #[.int .i64 ((rd_T45 l0 a1).f0), .int .i64 0, .int .i64 0, .string (⟨#[]⟩ : ByteArray)]) ?_ 1 _ rfl; (with_reducible repeat first | apply b9N | apply b9D | apply b9L); refine blk_put (cs := #[.int .i64 0, .int .i64 0, .int .i64 0, .string (⟨#[]⟩ : ByteArray)]) ?_ 0 _ rfl; (with_reducible repeat first | apply b9N | apply b9D | apply b9L); exact BK300.out) hb); have n2_ := ak (below_step d9_3 hb); clear BK300 HB; have HO305 := n0_; have BK300 := n1_; have HB := n2_; clear n0_ n1_ n2_ hb ho21) | ((with_reducible refine gate_callee (f := 18) rfl ?_); refine goesL_ (some 32) rfl rfl Tryd.func18 (by kernel_rfl) rfl #[.slice (some ad299) l0.length c0, .int .i64 a1] rfl d9_2 ?_; (with_reducible refine (impl_parts.calls k _ _ l0 a1 t306 _ ?side1 ?side2 A17.out).mono ?_); (case side1 => exact c9_1); (case side2 => exact HC0.out); rintro e w22 ⟨v307, rfl, ho0, hb⟩; refine ⟨_, rfl, ?_⟩; have n0_ := ak (Kd.R_below (by (with_reducible repeat (first | apply Kd.R_alloc | apply Kd.R_drewN | apply Kd.R_drew)); exact HO305.out) hb); have n1_ := ak (Kd.R_lower ho0 (below_size d9_3)); have n2_ := ak (blk_below (g := gb300) (o := .cells #[.int .i64 ((rd_T45 l0 a1).f0), .int .i64 ((rd_T45 l0 a1).f1), .int .i64 ((rd_T45 l0 a1).f2), .string ((rd_T45 l0 a1).f3)] 45 (0, 0)) d9_8 hb); have n3_ := ak (below_step d9_3 hb); clear HO305 BK300 HB; have HO305 := n0_; have HO308 := n1_; have BK300 := n2_; have HB := n3_; clear n0_ n1_ n2_ n3_; (try clear hb); (try clear hk); (try clear ho0); obtain ⟨Ao23, co23, eo23⟩ := Kd.R_slice HO308.out; subst eo23))
       go_loopg [6, 34] k (fun kq v6 v34 w' => ∃ (x6_1 : List ByteArray) (x34_1 : Int), v34 = .int .i64 x34_1 ∧ Aside0 (impl_written.l0 kq l0 x6_1 t306 (t306.length : Int) x34_1 = some r) ∧ Aside0 (kq ≤ k) ∧ Aside0 (Kd.R Kd.string 9 w' w.heap.size (fun _ => True) v6 x6_1) ∧ Aside0 (Kd.R (Kd.int .i64) 2 w' w.heap.size (fun _ => True) (.slice Ao23 t306.length co23) t306) ∧ Aside0 (w'.heap[gb300]? = some (.cells #[.int .i64 ((rd_T45 l0 a1).f0), .int .i64 ((rd_T45 l0 a1).f1), .int .i64 ((rd_T45 l0 a1).f2), .string ((rd_T45 l0 a1).f3)] 45 (0, 0))) ∧ Aside0 (Below w.heap.size w w'))
       case atStart => exact ⟨(y303), (0), (by first | rfl | (simp; done) | (simp [*]; done) | (simp [ne_nil_b, eq_nil_b]; done)), H', ⟨Nat.le_refl _⟩, ⟨by (with_reducible repeat (first | apply Kd.R_alloc | apply Kd.R_drewN | apply Kd.R_drew)); exact HO305.out⟩, ⟨by (with_reducible repeat (first | apply Kd.R_alloc | apply Kd.R_drewN | apply Kd.R_drew)); exact HO308.out⟩, ⟨by (with_reducible repeat first | apply b9N | apply b9D | apply b9L); exact BK300.out⟩, ⟨c9_3⟩⟩
       case round =>
        clear H'
        (try clear c1); (try clear c2); (try clear p2); (try clear q2); (try clear hx2); (try clear c3); (try clear c3b0); (try clear c4); (try clear c4b0); (try clear c5); (try clear c5b0); (try clear c5b1); (try clear c10); (try clear c10b0); (try clear c10b1); (try clear c14); (try clear c14b0); (try clear c14b1); (try clear c18); (try clear c22); (try clear hcz13_0); (try clear hcz13_1); (try clear hcz13_2); (try clear hcz13_3); (try clear hcz16_0); (try clear hcz16_1); (try clear hcz16_2); (try clear hcz16_3); (try clear hcz19_0); (try clear hcz19_1); (try clear hcz19_2); (try clear hcz19_3); (try clear hcz8_0); (try clear hcz8_1); (try clear hcz8_2); (try clear hcz8_3); (try clear hfz13_0); (try clear hfz13_1); (try clear hfz13_2); (try clear hfz13_3); (try clear hfz16_0); (try clear hfz16_1); (try clear hfz16_2); (try clear hfz16_3); (try clear hfz19_0); (try clear hfz19_1); (try clear hfz19_2); (try clear hfz19_3); (try clear hfz8_0); (try clear hfz8_1); (try clear hfz8_2); (try clear hfz8_3); (try clear hx299_0); (try clear hx299_1); (try clear hx299_2); (try clear hx299_3); (try clear p299); (try clear q299)
        obtain ⟨x6_1, x34_1, rfl, HA, HK1, HO_6, HO_32, BK300, HB⟩ := hrel
        cases gk with
        | zero => exact absurd HA.out (by simp [impl_written.l0])
        | succ k1 =>
         have H := HA.out; clear HA; simp only [impl_written.l0] at H; by_cases c24 : x34_1 < (t306.length : Int)
         ·rw [if_pos c24] at H
          have c24b0 : decide (x34_1 < (t306.length : Int)) = true := decide_eq_true c24; clear c24; by_cases c25 : 0 ≤ x34_1
          ·rw [if_pos c25] at H
           have c25b0 : decide (0 ≤ x34_1) = true := decide_eq_true c25; clear c25; by_cases c26 : x34_1 < (t306.length : Int)
           ·rw [if_pos c26] at H
            have c26b0 : decide (x34_1 < (t306.length : Int)) = true := decide_eq_true c26; clear c26; replace H := Option.bind_eq_some_iff.mp H; obtain ⟨t310, A270, H⟩ := H; (try dsimp -simprocs only at H); have A27 := ak A270; clear A270; by_cases c28 : x6_1.length < 8796093022208
            ·rw [if_pos c28] at H
             have LMc28 := ak c28; clear c28; obtain ⟨y311, hy311⟩ : ∃ y_ : List ByteArray, y_ = (x6_1 ++ [t310]) := ⟨_, rfl⟩
             replace H : (impl_written.l0 k1 l0 y311 t306 (t306.length : Int) (wrap64 (x34_1 + 1))) = some r := by first | (rw [hy311]; with_reducible exact H) | (have H2_ := (Option.bind_some _ _).symm.trans H; rw [hy311]; with_reducible exact H2_) | (have H2_ := (Option.bind_some _ _).symm.trans H; with_reducible exact H2_) | with_reducible exact H | (rw [hy311]; exact H) | exact H
             have Ny311 := ak hy311; clear hy311; have H' := ak H; clear H; have p309 : 0 ≤ (x34_1 : Int) := of_decide_eq_true d9_6; have q309 : x34_1 < (t306.length : Int) := of_decide_eq_true d9_6; obtain ⟨ad309, e309, hx309_0⟩ := Kd.at_int (Kd.R_reads' HO_32.out).2.2 x34_1 p309 q309
             cases e309
             replace p309 := eq_true p309; replace q309 := eq_true q309
             go_wp2_with (first | ((with_reducible refine gate_callee (f := 22) rfl ?_); refine goesL_ (some 41) rfl rfl Tryd.func22 (by kernel_rfl) rfl #[.slice (some ad299) l0.length c0, .int .i64 (rd t306 x34_1)] rfl d9_2 ?_; (with_reducible refine (ih k1 (by have := HK1.out; omega) _ _ l0 (rd t306 x34_1) t310 _ ?side1 ?side2 ?side3 A27.out).mono ?_); (case side1 => exact c9_1); (case side2 => exact HC0.out); (case side3 => exact Lz.below HLZ.out d9_3); rintro e w29 ⟨rfl, hb⟩; refine ⟨_, rfl, ?_⟩; have n0_ := ak (Kd.R_below (by (with_reducible repeat (first | apply Kd.R_alloc | apply Kd.R_drewN | apply Kd.R_drew)); exact HO_6.out) hb); have n1_ := ak (Kd.R_below (by (with_reducible repeat (first | apply Kd.R_alloc | apply Kd.R_drewN | apply Kd.R_drew)); exact HO_32.out) hb); have n2_ := ak (blk_below (g := gb300) (o := .cells #[.int .i64 ((rd_T45 l0 a1).f0), .int .i64 ((rd_T45 l0 a1).f1), .int .i64 ((rd_T45 l0 a1).f2), .string ((rd_T45 l0 a1).f3)] 45 (0, 0)) d9_8 hb); have n3_ := ak (below_step d9_3 hb); clear HO_6 HO_32 BK300 HB; have HO_6 := n0_; have HO_32 := n1_; have BK300 := n2_; have HB := n3_; clear n0_ n1_ n2_ n3_; (try clear hb); (try clear hk)) | ((with_reducible refine gate_builtin (b := .append) (xs := #[.tmp 38, .tmp 42]) rfl ?_); at_builtin; refine Kd.R_append Kd.string (w0 := w) w.heap.size rfl (.tmp 38) (.tmp 42) 56 9 (.string ⟨#[]⟩) 16 rfl Tryd.underlying56 info9 rfl (by decide) (by omega) u6 x6_1 t310 [.string t310] (fun _ => True) (fun _ => False) rfl rfl ?aP (fun _ hk => hk.elim) ?aF ?aO ?aB ?aS ?aL ?_; (case aP => exact rfl); (case aB => exact d9_3); (case aF => exact (fun _ _ => trivial)); (case aO => exact (by (with_reducible repeat (first | apply Kd.R_alloc | apply Kd.R_drewN | apply Kd.R_drew)); exact HO_6.out)); (case aS => exact (below_size d9_3)); (case aL => have := LMc28.out; omega); intro v312 w30 ho hb hg hat; rw [← Ny311.out] at ho; have n0_ := ak (Kd.R_over' (by (with_reducible repeat (first | apply Kd.R_alloc | apply Kd.R_drewN | apply Kd.R_drew)); exact HO_32.out) (Kd.R_typed (by (with_reducible repeat (first | apply Kd.R_alloc | apply Kd.R_drewN | apply Kd.R_drew)); exact HO_6.out)) (by decide) hg); have n1_ := ak (blk_grown (g := gb300) (o := .cells #[.int .i64 ((rd_T45 l0 a1).f0), .int .i64 ((rd_T45 l0 a1).f1), .int .i64 ((rd_T45 l0 a1).f2), .string ((rd_T45 l0 a1).f3)] 45 (0, 0)) d9_8 hg (Kd.R_ne HO_6.out BK300.out (by decide))); have n2_ := ak (hb); have n3_ := ak (ho); clear HO_32 BK300 HB HO_6; have HO_32 := n0_; have BK300 := n1_; have HB := n2_; have HO313 := n3_; clear n0_ n1_ n2_ n3_ ho hb hg hat))
             go_roundg k1
             case measure => have := HK1.out; omega
             case rel => exact ⟨(y311), (wrap64 (x34_1 + 1)), (by first | rfl | (simp; done) | (simp [*]; done) | (simp [ne_nil_b, eq_nil_b]; done)), H', ⟨by have := HK1.out; omega⟩, ⟨by (with_reducible repeat (first | apply Kd.R_alloc | apply Kd.R_drewN | apply Kd.R_drew)); exact HO313.out⟩, ⟨by (with_reducible repeat (first | apply Kd.R_alloc | apply Kd.R_drewN | apply Kd.R_drew)); exact HO_32.out⟩, ⟨by (with_reducible repeat first | apply b9N | apply b9D | apply b9L); exact BK300.out⟩, ⟨c9_3⟩⟩
            ·rw [if_neg c28] at H
             exact absurd H (by simp)
           ·rw [if_neg c26] at H
            exact absurd H (by simp)
          ·rw [if_neg c25] at H
           exact absurd H (by simp)
         ·rw [if_neg c24] at H
          have c24b0 : decide (x34_1 < (t306.length : Int)) = false := decide_eq_false c24; clear c24; replace H := Option.bind_eq_some_iff.mp H; obtain ⟨t314, A310, H⟩ := H; (try dsimp -simprocs only at H); have A31 := ak A310; clear A310; by_cases c32 : 1 + t314.size ≤ 9223372036854775807
          ·rw [if_pos c32] at H
           have c32b0 := eq_true c32; have c32b1 : decide (1 + t314.size ≤ 9223372036854775807) = true := decide_eq_true c32
           try have c32b2 : (9223372036854775807 < 1 + t314.size) = False := eq_false (Nat.not_lt.2 c32)
           by_cases c33 : ((⟨#[40]⟩ : ByteArray) ++ t314).size + 1 ≤ 9223372036854775807
           ·rw [if_pos c33] at H
            have c33b0 := eq_true c33; have c33b1 : decide (((⟨#[40]⟩ : ByteArray) ++ t314).size + 1 ≤ 9223372036854775807) = true := decide_eq_true c33
            try have c33b2 : (9223372036854775807 < ((⟨#[40]⟩ : ByteArray) ++ t314).size + 1) = False := eq_false (Nat.not_lt.2 c33)
            have c33s : 1 + t314.size + 1 ≤ 9223372036854775807 := by have z := c33; rw [ByteArray.size_append] at z; exact z
            have c33b3 := eq_true c33s; have c33b4 : (9223372036854775807 < 1 + t314.size + 1) = False := eq_false (Nat.not_lt.2 c33s); have c33b5 := decide_eq_true c33s; obtain rfl := Option.some.inj H; obtain ⟨Ao34, co34, eo34⟩ := Kd.R_slice HO_6.out; subst eo34
            go_wp2_with (first | ((with_reducible refine gate_callee (f := 36) rfl ?_); refine goesL_ (some 46) rfl rfl Tryd.func36 (by kernel_rfl) rfl #[.slice Ao34 x6_1.length co34, .string (⟨#[32]⟩ : ByteArray)] rfl d9_2 ?_; (with_reducible refine (strings_Join.calls _ _ x6_1 (⟨#[32]⟩ : ByteArray) t314 _ ?side1 ?side2 A31.out).mono ?_); (case side1 => repeat (first | exact (Kd.R_reads' HO_6.out).2.2 | (with_reducible refine Kd.C_alloc ?_ _) | (with_reducible refine Kd.C_drewN ?_ _) | (with_reducible refine Kd.C_drew ?_))); (case side2 => exact (Kd.R_reads' HO_6.out).2.1); rintro e w35 ⟨rfl, hb⟩; refine ⟨_, rfl, ?_⟩; have n0_ := ak (Kd.R_below (by (with_reducible repeat (first | apply Kd.R_alloc | apply Kd.R_drewN | apply Kd.R_drew)); exact HO_6.out) hb); have n1_ := ak (Kd.R_below (by (with_reducible repeat (first | apply Kd.R_alloc | apply Kd.R_drewN | apply Kd.R_drew)); exact HO_32.out) hb); have n2_ := ak (blk_below (g := gb300) (o := .cells #[.int .i64 ((rd_T45 l0 a1).f0), .int .i64 ((rd_T45 l0 a1).f1), .int .i64 ((rd_T45 l0 a1).f2), .string ((rd_T45 l0 a1).f3)] 45 (0, 0)) d9_8 hb); have n3_ := ak (below_step d9_3 hb); clear HO_6 HO_32 BK300 HB; have HO_6 := n0_; have HO_32 := n1_; have BK300 := n2_; have HB := n3_; clear n0_ n1_ n2_ n3_; (try clear hb))); go_ret
            exact ⟨c9_2, c9_3⟩
           ·rw [if_neg c33] at H
            exact absurd H (by simp)
          ·rw [if_neg c32] at H
           exact absurd H (by simp)
   ·rw [if_neg c4] at H
    exact absurd H (by simp)
  ·rw [if_neg c3] at H
   exact absurd H (by simp)

/-! ### impl_WriteData: function 11 -/
def impl_WriteData.f (k : Nat) (l0 : List (S45)) : Option (Int × ByteArray) := (impl_DataFault.f k l0).bind fun t316 => (if t316 = 0 then ((impl_written.f k l0 0).bind fun t317 => (if (t317.size : Int) > 400 then (some (2, (⟨#[]⟩ : ByteArray))) else (some (0, t317)))) else (some (t316, (⟨#[]⟩ : ByteArray))))
theorem impl_WriteData.mono : ∀ a0 k, LeO (impl_WriteData.f k a0) (impl_WriteData.f (k + 1) a0) := by
  intro a0 k; unfold impl_WriteData.f
  repeat' first | (with_reducible first | apply impl_DataFault.mono | apply impl_written.mono | exact LeO.refl _ | exact LeO.none _ | refine LeO.ite ?_ ?_ | refine LeO.bind ?_ (fun _ => ?_)) | apply impl_DataFault.mono | apply impl_written.mono | exact LeO.none _ | refine LeO.ite ?_ ?_ | refine LeO.bind ?_ (fun _ => ?_)
theorem impl_WriteData.calls (k : Nat) (A0 : Option Addr) (c0 : Nat) (l0 : List (S45)) (r1 : Int) (r2 : ByteArray) (w : World) (hr0 : Kd.C k45 w A0 l0.length l0) (hc0 : l0.length ≤ c0) (hLz : Lz w) (h : impl_WriteData.f k l0 = some (r1, r2)) :
    Calls Tryd.prog 11 #[.slice A0 l0.length c0] w fun e w' => e = .returned (.agg #[.int .i64 r1, .string r2]) ∧ Below w.heap.size w w' := by
  have hu37 := Tryd.underlying37; have HR0 := ak hr0; have HC0 := ak hc0; clear hr0 hc0; have HB := ak (Below.refl w.heap.size w); have HLZ := ak hLz; clear hLz; have H := h; clear h; unfold impl_WriteData.f at H; replace H := Option.bind_eq_some_iff.mp H; obtain ⟨t316, A20, H⟩ := H; (try dsimp -simprocs only at H); have A2 := ak A20; clear A20; by_cases c3 : t316 = 0
  ·rw [if_pos c3] at H
   have c3b0 : (t316 == 0) = true := beq_iff_eq.mpr c3; have c3b1 : (t316 != 0) = false := bne_eq_false_iff_eq.mpr c3; clear c3; replace H := Option.bind_eq_some_iff.mp H; obtain ⟨t317, A40, H⟩ := H; (try dsimp -simprocs only at H); have A4 := ak A40; clear A40; by_cases c5 : (t317.size : Int) > 400
   ·rw [if_pos c5] at H
    have c5b0 : decide (400 < (t317.size : Int)) = true := decide_eq_true c5; have c5b1 : decide (400 < t317.size) = true := decide_eq_true (by omega); clear c5; simp only [Option.some.injEq, Prod.mk.injEq] at H; obtain ⟨rfl, rfl⟩ := H; go_enter Tryd.func11, Tryd.ntmps11
    go_wp2_with (first | ((with_reducible refine gate_dst (N := 2) rfl ?_); refine box_event ?hg (N := 2) ?hd (cs := #[.int .i64 0, .string (⟨#[]⟩ : ByteArray)]) (t := 37) ?hr ?_; (case hd => rfl); (case hg => rfl); (case hr => exact c9_4); intro gb315 hg w6 hbox hb; have n0_ := ak (below_step d9_1 hb); have n1_ := ak (hbox); have n2_ := ak ((d9_9 : w.heap.size ≤ gb315)); have n3_ := ak ((d9_9 : w.heap.size ≤ gb315)); clear HB; have HB := n0_; have BK315 := n1_; have GW315 := n2_; have GE315 := n3_; clear n0_ n1_ n2_ n3_ hb hbox hg) | ((with_reducible refine gate_callee (f := 9) rfl ?_); refine goesL_ (some 6) rfl rfl Tryd.func9 (by kernel_rfl) rfl #[.slice A0 l0.length c0] rfl d9_2 ?_; (with_reducible refine (impl_DataFault.calls k _ _ l0 t316 _ ?side1 ?side2 A2.out).mono ?_); (case side1 => exact c9_1); (case side2 => exact HC0.out); rintro e w7 ⟨rfl, hb⟩; refine ⟨_, rfl, ?_⟩; have n0_ := ak (blk_below (g := gb315) (o := .cells #[.int .i64 0, .string (⟨#[]⟩ : ByteArray)] 37 (0, 0)) d9_5 hb); have n1_ := ak (below_step d9_4 hb); clear BK315 HB; have BK315 := n0_; have HB := n1_; clear n0_ n1_; (try clear hb)) | ((with_reducible refine gate_callee (f := 22) rfl ?_); refine goesL_ (some 12) rfl rfl Tryd.func22 (by kernel_rfl) rfl #[.slice A0 l0.length c0, .int .i64 0] rfl d9_2 ?_; (with_reducible refine (impl_written.calls k _ _ l0 0 t317 _ ?side1 ?side2 ?side3 A4.out).mono ?_); (case side1 => exact c9_1); (case side2 => exact HC0.out); (case side3 => exact Lz.below HLZ.out d9_4); rintro e w8 ⟨rfl, hb⟩; refine ⟨_, rfl, ?_⟩; have n0_ := ak (blk_below (g := gb315) (o := .cells #[.int .i64 0, .string (⟨#[]⟩ : ByteArray)] 37 (0, 0)) d9_5 hb); have n1_ := ak (below_step d9_4 hb); clear BK315 HB; have BK315 := n0_; have HB := n1_; clear n0_ n1_; (try clear hb); have hcz9_0 := z9c BK315.out 0 (v := (.int .i64 0)) rfl; have hcz9_1 := z9c BK315.out 1 (v := (.string (⟨#[]⟩ : ByteArray))) rfl; have hfz9_0 := blk_frozen BK315.out 0; have hfz9_1 := blk_frozen BK315.out 1))
    refine bodyPost_ret (results_cell_row rfl _ _ gb315 37 #[.int .i64 2, .string (⟨#[]⟩ : ByteArray)] (0, 0) _ rfl (by (with_reducible repeat first | apply b9N | apply b9D | apply b9L); refine blk_put (cs := #[.int .i64 2, .string (⟨#[]⟩ : ByteArray)]) ?_ 1 _ rfl; (with_reducible repeat first | apply b9N | apply b9D | apply b9L); refine blk_put (cs := #[.int .i64 0, .string (⟨#[]⟩ : ByteArray)]) ?_ 0 _ rfl; (with_reducible repeat first | apply b9N | apply b9D | apply b9L); exact BK315.out) Tryd.underlying37 rfl (by kernel_rfl)) rfl ?_; exact ⟨c9_2, c9_5⟩
   ·rw [if_neg c5] at H
    have c5b0 : decide (400 < (t317.size : Int)) = false := decide_eq_false c5; have c5b1 : decide (400 < t317.size) = false := decide_eq_false (by omega); clear c5; simp only [Option.some.injEq, Prod.mk.injEq] at H; obtain ⟨rfl, rfl⟩ := H; go_enter Tryd.func11, Tryd.ntmps11
    go_wp2_with (first | ((with_reducible refine gate_dst (N := 2) rfl ?_); refine box_event ?hg (N := 2) ?hd (cs := #[.int .i64 0, .string (⟨#[]⟩ : ByteArray)]) (t := 37) ?hr ?_; (case hd => rfl); (case hg => rfl); (case hr => exact c9_4); intro gb315 hg w10 hbox hb; have n0_ := ak (below_step d9_1 hb); have n1_ := ak (hbox); have n2_ := ak ((d9_9 : w.heap.size ≤ gb315)); have n3_ := ak ((d9_9 : w.heap.size ≤ gb315)); clear HB; have HB := n0_; have BK315 := n1_; have GW315 := n2_; have GE315 := n3_; clear n0_ n1_ n2_ n3_ hb hbox hg) | ((with_reducible refine gate_callee (f := 9) rfl ?_); refine goesL_ (some 6) rfl rfl Tryd.func9 (by kernel_rfl) rfl #[.slice A0 l0.length c0] rfl d9_2 ?_; (with_reducible refine (impl_DataFault.calls k _ _ l0 t316 _ ?side1 ?side2 A2.out).mono ?_); (case side1 => exact c9_1); (case side2 => exact HC0.out); rintro e w11 ⟨rfl, hb⟩; refine ⟨_, rfl, ?_⟩; have n0_ := ak (blk_below (g := gb315) (o := .cells #[.int .i64 0, .string (⟨#[]⟩ : ByteArray)] 37 (0, 0)) d9_5 hb); have n1_ := ak (below_step d9_4 hb); clear BK315 HB; have BK315 := n0_; have HB := n1_; clear n0_ n1_; (try clear hb)) | ((with_reducible refine gate_callee (f := 22) rfl ?_); refine goesL_ (some 12) rfl rfl Tryd.func22 (by kernel_rfl) rfl #[.slice A0 l0.length c0, .int .i64 0] rfl d9_2 ?_; (with_reducible refine (impl_written.calls k _ _ l0 0 t317 _ ?side1 ?side2 ?side3 A4.out).mono ?_); (case side1 => exact c9_1); (case side2 => exact HC0.out); (case side3 => exact Lz.below HLZ.out d9_4); rintro e w12 ⟨rfl, hb⟩; refine ⟨_, rfl, ?_⟩; have n0_ := ak (blk_below (g := gb315) (o := .cells #[.int .i64 0, .string (⟨#[]⟩ : ByteArray)] 37 (0, 0)) d9_5 hb); have n1_ := ak (below_step d9_4 hb); clear BK315 HB; have BK315 := n0_; have HB := n1_; clear n0_ n1_; (try clear hb); have hcz13_0 := z9c BK315.out 0 (v := (.int .i64 0)) rfl; have hcz13_1 := z9c BK315.out 1 (v := (.string (⟨#[]⟩ : ByteArray))) rfl; have hfz13_0 := blk_frozen BK315.out 0; have hfz13_1 := blk_frozen BK315.out 1))
    refine bodyPost_ret (results_cell_row rfl _ _ gb315 37 #[.int .i64 0, .string t317] (0, 0) _ rfl (by (with_reducible repeat first | apply b9N | apply b9D | apply b9L); refine blk_put (cs := #[.int .i64 0, .string (⟨#[]⟩ : ByteArray)]) ?_ 1 _ rfl; (with_reducible repeat first | apply b9N | apply b9D | apply b9L); refine blk_put (cs := #[.int .i64 0, .string (⟨#[]⟩ : ByteArray)]) ?_ 0 _ rfl; (with_reducible repeat first | apply b9N | apply b9D | apply b9L); exact BK315.out) Tryd.underlying37 rfl (by kernel_rfl)) rfl ?_; exact ⟨c9_2, c9_5⟩
  ·rw [if_neg c3] at H
   have c3b0 : (t316 == 0) = false := beq_eq_false_iff_ne.mpr c3; have c3b1 : (t316 != 0) = true := bne_iff_ne.mpr c3; simp only [Option.some.injEq, Prod.mk.injEq] at H; obtain ⟨rfl, rfl⟩ := H; go_enter Tryd.func11, Tryd.ntmps11
   go_wp2_with (first | ((with_reducible refine gate_dst (N := 2) rfl ?_); refine box_event ?hg (N := 2) ?hd (cs := #[.int .i64 0, .string (⟨#[]⟩ : ByteArray)]) (t := 37) ?hr ?_; (case hd => rfl); (case hg => rfl); (case hr => exact c9_4); intro gb315 hg w14 hbox hb; have n0_ := ak (below_step d9_1 hb); have n1_ := ak (hbox); have n2_ := ak ((d9_9 : w.heap.size ≤ gb315)); have n3_ := ak ((d9_9 : w.heap.size ≤ gb315)); clear HB; have HB := n0_; have BK315 := n1_; have GW315 := n2_; have GE315 := n3_; clear n0_ n1_ n2_ n3_ hb hbox hg) | ((with_reducible refine gate_callee (f := 9) rfl ?_); refine goesL_ (some 6) rfl rfl Tryd.func9 (by kernel_rfl) rfl #[.slice A0 l0.length c0] rfl d9_2 ?_; (with_reducible refine (impl_DataFault.calls k _ _ l0 t316 _ ?side1 ?side2 A2.out).mono ?_); (case side1 => exact c9_1); (case side2 => exact HC0.out); rintro e w15 ⟨rfl, hb⟩; refine ⟨_, rfl, ?_⟩; have n0_ := ak (blk_below (g := gb315) (o := .cells #[.int .i64 0, .string (⟨#[]⟩ : ByteArray)] 37 (0, 0)) d9_5 hb); have n1_ := ak (below_step d9_4 hb); clear BK315 HB; have BK315 := n0_; have HB := n1_; clear n0_ n1_; (try clear hb); have hcz16_0 := z9c BK315.out 0 (v := (.int .i64 0)) rfl; have hcz16_1 := z9c BK315.out 1 (v := (.string (⟨#[]⟩ : ByteArray))) rfl; have hfz16_0 := blk_frozen BK315.out 0; have hfz16_1 := blk_frozen BK315.out 1))
   refine bodyPost_ret (results_cell_row rfl _ _ gb315 37 #[.int .i64 t316, .string (⟨#[]⟩ : ByteArray)] (0, 0) _ rfl (by (with_reducible repeat first | apply b9N | apply b9D | apply b9L); refine blk_put (cs := #[.int .i64 t316, .string (⟨#[]⟩ : ByteArray)]) ?_ 1 _ rfl; (with_reducible repeat first | apply b9N | apply b9D | apply b9L); refine blk_put (cs := #[.int .i64 0, .string (⟨#[]⟩ : ByteArray)]) ?_ 0 _ rfl; (with_reducible repeat first | apply b9N | apply b9D | apply b9L); exact BK315.out) Tryd.underlying37 rfl (by kernel_rfl)) rfl ?_; exact ⟨c9_2, c9_5⟩

/-! ### spec_l1Digits: function 41 -/
def spec_l1Digits.f : Nat → Int → Option (ByteArray)
  | 0, _ => none
  | k + 1, a0 => if a0 < 0 then ((spec_l1Digits.f k (wrap64 (-a0))).bind fun t318 => (if 1 + t318.size ≤ 9223372036854775807 then (some ((⟨#[45]⟩ : ByteArray) ++ t318)) else (none))) else (if a0 < 10 then (some (strOfNums (([(wrap64 (48 + a0)) % 256] : List Int)))) else ((spec_l1Digits.f k (wrap64 (Int.tdiv a0 10))).bind fun t322 => ((some (([(wrap64 (48 + (Int.tmod a0 10))) % 256] : List Int) : List Int)).bind fun y323 => (if t322.size + (strOfNums y323).size ≤ 9223372036854775807 then (some (t322 ++ (strOfNums y323))) else (none)))))
theorem spec_l1Digits.mono_l : ∀ k, (∀ y0, LeO (spec_l1Digits.f k y0) (spec_l1Digits.f (k + 1) y0))
  | 0 => fun _ r h => by simp [spec_l1Digits.f] at h
  | k + 1 => by
    have ih0 := spec_l1Digits.mono_l k
    · intro y0
      unfold spec_l1Digits.f
      repeat' first | (with_reducible first | apply ih0 | exact LeO.refl _ | exact LeO.none _ | refine LeO.ite ?_ ?_ | refine LeO.bind ?_ (fun _ => ?_)) | apply ih0 | exact LeO.none _ | refine LeO.ite ?_ ?_ | refine LeO.bind ?_ (fun _ => ?_)
theorem spec_l1Digits.mono : ∀ a0 k, LeO (spec_l1Digits.f k a0) (spec_l1Digits.f (k + 1) a0) := by
  intro a0 k; have ih0 := spec_l1Digits.mono_l k; exact ih0 a0
def spec_l1Digits.T5 : Bool × List (List Nat × List Nat) := (true, [([], []), ([0], [0]), ([1], [1]), ([], []), ([3], [3]), ([4], [4]), ([5], [5]), ([6], [6]), ([7], [7]), ([2, 8], [2, 8]), ([9, 2, 0, 1, 2, 3, 4, 5, 6, 7, 8, 9], [9])])
def spec_l1Digits.B5 : List Nat := [0, 1, 3, 0, 8, 24, 56, 120, 248, 511, 1023]
theorem spec_l1Digits.tab5 : rtab .any (opsOf Tryd.f41 5) = spec_l1Digits.T5 := by kernel_rfl
theorem spec_l1Digits.bits5 : waitsOk spec_l1Digits.T5.2 spec_l1Digits.B5 = true := by kernel_rfl
theorem spec_l1Digits.calls (k : Nat) : ∀ (a0 : Int) (r : ByteArray) (w : World) (h : spec_l1Digits.f k a0 = some r),
    Calls Tryd.prog 41 #[.int .i64 a0] w fun e w' => e = .returned (.string r) ∧ Below w.heap.size w w' := by
  induction k using Nat.strongRecOn with
  | _ k ih =>
  intro a0 r w h
  cases k with
  | zero => exact absurd h (by simp [spec_l1Digits.f])
  | succ k =>
  simp only [spec_l1Digits.f] at h; have HB := ak (Below.refl w.heap.size w); have H : (if a0 < 0 then ((spec_l1Digits.f k (wrap64 (-a0))).bind fun t318 => (if 1 + t318.size ≤ 9223372036854775807 then (some ((⟨#[45]⟩ : ByteArray) ++ t318)) else (none))) else (if a0 < 10 then (some (strOfNums (([(wrap64 (48 + a0)) % 256] : List Int)))) else ((spec_l1Digits.f k (wrap64 (Int.tdiv a0 10))).bind fun t322 => ((some (([(wrap64 (48 + (Int.tmod a0 10))) % 256] : List Int) : List Int)).bind fun y323 => (if t322.size + (strOfNums y323).size ≤ 9223372036854775807 then (some (t322 ++ (strOfNums y323))) else (none)))))) = some r := h; clear h; by_cases c2 : a0 < 0
  ·rw [if_pos c2] at H
   have c2b0 : decide (a0 < 0) = true := decide_eq_true c2; clear c2; replace H := Option.bind_eq_some_iff.mp H; obtain ⟨t318, A30, H⟩ := H; (try dsimp -simprocs only at H); have A3 := ak A30; clear A30; by_cases c4 : 1 + t318.size ≤ 9223372036854775807
   ·rw [if_pos c4] at H
    have c4b0 := eq_true c4; have c4b1 : decide (1 + t318.size ≤ 9223372036854775807) = true := decide_eq_true c4
    try have c4b2 : (9223372036854775807 < 1 + t318.size) = False := eq_false (Nat.not_lt.2 c4)
    obtain rfl := Option.some.inj H; go_enter Tryd.func41, Tryd.ntmps41; go_wp2_with (first | ((with_reducible refine gate_callee (f := 41) rfl ?_); refine goesL_ (some 7) rfl rfl Tryd.func41 (by kernel_rfl) rfl #[.int .i64 (wrap64 (-a0))] rfl d9_2 ?_; (with_reducible refine (ih k (by omega) (wrap64 (-a0)) t318 _ A3.out).mono ?_); rintro e w5 ⟨rfl, hb⟩; refine ⟨_, rfl, ?_⟩; have n0_ := ak (below_step d9_1 hb); clear HB; have HB := n0_; clear n0_; (try clear hb))); go_ret; exact ⟨c9_2, by repeat (first | (with_reducible first | exact HB.out | apply below_alloc | apply pw_below_drewN | apply below_drew1) | exact HB.out)⟩
   ·rw [if_neg c4] at H
    exact absurd H (by simp)
  ·rw [if_neg c2] at H
   have c2b0 : decide (a0 < 0) = false := decide_eq_false c2; clear c2; by_cases c6 : a0 < 10
   ·rw [if_pos c6] at H
    have c6b0 : decide (a0 < 10) = true := decide_eq_true c6; clear c6; obtain ⟨y319, hy319⟩ : ∃ y_ : List Int, y_ = (([(wrap64 (48 + a0)) % 256] : List Int)) := ⟨_, rfl⟩
    replace H : (some (strOfNums y319)) = some r := by first | (rw [hy319]; with_reducible exact H) | (have H2_ := (Option.bind_some _ _).symm.trans H; rw [hy319]; with_reducible exact H2_) | (have H2_ := (Option.bind_some _ _).symm.trans H; with_reducible exact H2_) | with_reducible exact H | (rw [hy319]; exact H) | exact H
    have Ny319 := ak hy319; clear hy319; obtain rfl := Option.some.inj H; go_enter Tryd.func41, Tryd.ntmps41; go_wp2_with (first | ((with_reducible refine gate_dst (N := 14) rfl ?_); refine Kd.R_lit (Kd.int .u8) _ 5 ?hg (N := 14) ?hd (xs := ([(wrap64 (48 + a0)) % 256] : List Int)) (inner := [.int .u8 ((wrap64 (48 + a0)) % 256)]) (ok := fun _ => True) (okp := fun _ => True) ?hr ?hp (fun _ hk => hk) trivial (Below.refl _ _) (Nat.le_refl _) (by simp) ?_; (case hd => rfl); (case hg => rfl); (case hr => exact c9_4); (case hp => exact (Reps.one (show Kd.M (Kd.int .u8) _ _ _ ((wrap64 (48 + a0)) % 256) [.int .u8 ((wrap64 (48 + a0)) % 256)] from rfl) (Reps.none _ _))); intro v320 w7 ho8 hb hg_ hnew_; clear hg_ hnew_; (first | rw [← Ny319.out] at ho8 | (simp only [Int.reduceToNat] at ho8; rw [← Ny319.out] at ho8)); have n0_ := ak (Kd.R_lower ho8 (below_size d9_1)); have n1_ := ak (below_step d9_1 hb); clear HB; have HO321 := n0_; have HB := n1_; clear n0_ n1_ hb ho8; have hcv9 := own_string (P := Tryd.prog) Tryd.underlying22 Tryd.underlying5 Tryd.underlying9 (Kd.own_of_R HO321.out))); go_ret; exact ⟨c9_2, by repeat (first | (with_reducible first | exact HB.out | apply below_alloc | apply pw_below_drewN | apply below_drew1) | exact HB.out)⟩
   ·rw [if_neg c6] at H
    have c6b0 : decide (a0 < 10) = false := decide_eq_false c6; clear c6; replace H := Option.bind_eq_some_iff.mp H; obtain ⟨t322, A100, H⟩ := H; (try dsimp -simprocs only at H); have A10 := ak A100; clear A100; obtain ⟨y323, hy323⟩ : ∃ y_ : List Int, y_ = (([(wrap64 (48 + (Int.tmod a0 10))) % 256] : List Int)) := ⟨_, rfl⟩
    replace H : (if t322.size + (strOfNums y323).size ≤ 9223372036854775807 then (some (t322 ++ (strOfNums y323))) else (none)) = some r := by first | (rw [hy323]; with_reducible exact H) | (have H2_ := (Option.bind_some _ _).symm.trans H; rw [hy323]; with_reducible exact H2_) | (have H2_ := (Option.bind_some _ _).symm.trans H; with_reducible exact H2_) | with_reducible exact H | (rw [hy323]; exact H) | exact H
    have Ny323 := ak hy323; clear hy323; by_cases c11 : t322.size + (strOfNums y323).size ≤ 9223372036854775807
    ·rw [if_pos c11] at H
     have c11b0 := eq_true c11; have c11b1 : decide (t322.size + (strOfNums y323).size ≤ 9223372036854775807) = true := decide_eq_true c11
     try have c11b2 : (9223372036854775807 < t322.size + (strOfNums y323).size) = False := eq_false (Nat.not_lt.2 c11)
     obtain rfl := Option.some.inj H; go_enter Tryd.func41, Tryd.ntmps41
     try go_wp2
     have n0_ := ak (below_drew1 HB.out); clear HB; have HB := n0_; clear n0_; refine start_ (n := 11) (S := fun w' => True) (ds := []) #[false, false, false, false, false, false, false, false, false, false, false] (by kernel_rfl) rfl rfl trivial (fun hHeld => ?_); refine with_tabW spec_l1Digits.tab5 spec_l1Digits.bits5 (fun HT_ HW_ => ?_); generalize w.drew = w12 at HB hHeld ⊢; refine pure_ (i := 0) (N := some 16) (v := ?_) (a' := ?_) #[true, false, false, false, false, false, false, false, false, false, false] rfl rfl (any_of HT_.out (by kernel_rfl)) (fun _ _ _ h => h) (Or.inl ⟨by rfl, ?_⟩) ?_ ?_; rotate_left
     · intro w'
       go_simp; (with_reducible rfl)
     rotate_left
     · simp only [Act.put, pa9_1, pa9_2, pa9_3, i64_w, i32_w]
       rfl
     refine pure_ (i := 1) (N := some 17) (v := ?_) (a' := ?_) #[true, true, false, false, false, false, false, false, false, false, false] rfl rfl (any_of HT_.out (by kernel_rfl)) (fun _ _ _ h => h) (Or.inl ⟨by rfl, ?_⟩) ?_ ?_; rotate_left
     · intro w'
       go_simp; (with_reducible rfl)
     rotate_left
     · simp only [Act.put, pa9_1, pa9_2, pa9_3, i64_w, i32_w]
       rfl
     refine pure_ (i := 3) (N := some 19) (v := ?_) (a' := ?_) #[true, true, false, true, false, false, false, false, false, false, false] rfl rfl (any_of HT_.out (by kernel_rfl)) (fun _ _ _ h => h) (Or.inl ⟨by rfl, ?_⟩) ?_ ?_; rotate_left
     · intro w'
       go_simp; (with_reducible rfl)
     rotate_left
     · simp only [Act.put, pa9_1, pa9_2, pa9_3, i64_w, i32_w]
       rfl
     refine pure_ (i := 4) (N := some 20) (v := ?_) (a' := ?_) #[true, true, false, true, true, false, false, false, false, false, false] rfl rfl (any_of HT_.out (by kernel_rfl)) (fun _ _ _ h => h) (Or.inl ⟨by rfl, ?_⟩) ?_ ?_; rotate_left
     · intro w'
       go_simp; (with_reducible rfl)
     rotate_left
     · simp only [Act.put, pa9_1, pa9_2, pa9_3, i64_w, i32_w]
       rfl
     refine pure_ (i := 5) (N := some 21) (v := ?_) (a' := ?_) #[true, true, false, true, true, true, false, false, false, false, false] rfl rfl (any_of HT_.out (by kernel_rfl)) (fun _ _ _ h => h) (Or.inl ⟨by rfl, ?_⟩) ?_ ?_; rotate_left
     · intro w'
       go_simp; (with_reducible rfl)
     rotate_left
     · simp only [Act.put, pa9_1, pa9_2, pa9_3, i64_w, i32_w]
       rfl
     refine pure_ (i := 6) (N := some 22) (v := ?_) (a' := ?_) #[true, true, false, true, true, true, true, false, false, false, false] rfl rfl (any_of HT_.out (by kernel_rfl)) (fun _ _ _ h => h) (Or.inl ⟨by rfl, ?_⟩) ?_ ?_; rotate_left
     · intro w'
       go_simp; (with_reducible rfl)
     rotate_left
     · simp only [Act.put, pa9_1, pa9_2, pa9_3, i64_w, i32_w]
       rfl
     refine join_ (σ := Value) 2 #[true, true, true, true, true, true, true, true, true, false, false] (fun s_ => [(18, .string t322), (23, s_), (24, .string (strOfNums y323))]) (fun s_ w' => (Kd.R (Kd.int .u8) 5 w' w.heap.size (fun _ => True) s_ y323) ∧ (Below w.heap.size w w')) ?_ ?_; rotate_left
     · intro hCont
       refine two_ (i := 2) (j := 7) (Ni := some 18) (Nj := some 23) #[true, true, true, true, true, true, true, false, false, false, false] #[true, true, false, true, true, true, true, true, false, false, false] rfl rfl rfl rfl (two_of HT_.out (by kernel_rfl)) (by decide) (by decide) (fun K hK => ?_) (fun K hK => ?_)
       · skip
         refine goes_ Tryd.func41 (by kernel_rfl) rfl #[.int .i64 (wrap64 (Int.tdiv a0 10))] (by rfl) rfl rfl d9_2 ?_; (with_reducible refine (ih k (by omega) (wrap64 (Int.tdiv a0 10)) t322 _ A10.out).mono ?_); rintro e w13 ⟨rfl, hb⟩; refine ⟨_, rfl, ?_⟩; have n0_ := ak (below_step d9_1 hb); clear HB; have HB := n0_; clear n0_
         (try clear hb)
         (try clear hb2)
         (try clear hk)
         (try clear hi)
         refine hK.out _ _ trivial (fun hHeld => ?_); clear hK K; refine norm_ (a' := ?_) ?_ ?_; rotate_left
         · show Act.put _ (some 18) _ = _
           simp only [Act.put, pa9_1, pa9_2, pa9_3, i64_w, i32_w]; rfl
         refine one_ (i := 7) (N := some 23) #[true, true, true, true, true, true, true, true, false, false, false] rfl rfl (one_of HT_.out (by kernel_rfl)) (by decide) (fun K hK => ?_); refine Kd.R_lit_step (Kd.int .u8) _ 5 ?hg (N := 23) ?hd (xs := ([(wrap64 (48 + (Int.tmod a0 10))) % 256] : List Int)) (inner := [.int .u8 ((wrap64 (48 + (Int.tmod a0 10))) % 256)]) (ok := fun _ => True) (okp := fun _ => True) ?hr ?hp (fun _ hk => hk) trivial (Below.refl _ _) (Nat.le_refl _) (by simp) ?_; (case hd => rfl); (case hg => rfl); (case hr => exact c9_4); (case hp => exact (Reps.one (show Kd.M (Kd.int .u8) _ _ _ ((wrap64 (48 + (Int.tmod a0 10))) % 256) [.int .u8 ((wrap64 (48 + (Int.tmod a0 10))) % 256)] from rfl) (Reps.none _ _))); intro v324 w14 ho15 hb hg_ hnew_; clear hg_ hnew_
         (first | rw [← Ny323.out] at ho15 | (simp only [Int.reduceToNat] at ho15; rw [← Ny323.out] at ho15))
         have n0_ := ak (Kd.R_lower ho15 (below_size d9_1)); have n1_ := ak (below_step d9_1 hb); clear HB; have HO325 := n0_; have HB := n1_; clear n0_ n1_; clear hb ho15; refine hK.out _ _ trivial (fun hHeld => ?_); clear hK K; refine norm_ (a' := ?_) ?_ ?_; rotate_left
         · show Act.put _ (some 23) _ = _
           simp only [Act.put, pa9_1, pa9_2, pa9_3, i64_w, i32_w]; rfl
         refine one_ (i := 8) (N := some 24) #[true, true, true, true, true, true, true, true, true, false, false] rfl rfl (one_of HT_.out (by kernel_rfl)) (by decide) (fun K hK => ?_); have hcv16 := own_string (P := Tryd.prog) Tryd.underlying22 Tryd.underlying5 Tryd.underlying9 (Kd.own_of_R HO325.out); refine value_ (w1 := ?_) (v := ?_) (by rfl) rfl ?_ ?_; rotate_left 2
         · go_simp
           constructor
           · rfl
           · rfl
         clear hcv16; refine hK.out _ _ trivial (fun hHeld => ?_); clear hK K; refine norm_ (a' := ?_) ?_ ?_; rotate_left
         · show Act.put _ (some 24) _ = _
           simp only [Act.put, pa9_1, pa9_2, pa9_3, i64_w, i32_w]; rfl
         exact norm_ (by simp only [putAll, Act.put, List.setIfInBounds_toArray, List.set_cons_zero, List.set_cons_succ]) (hCont (v324) _ ⟨d9_7, d9_1⟩)
       · skip
         refine Kd.R_lit_step (Kd.int .u8) _ 5 ?hg (N := 23) ?hd (xs := ([(wrap64 (48 + (Int.tmod a0 10))) % 256] : List Int)) (inner := [.int .u8 ((wrap64 (48 + (Int.tmod a0 10))) % 256)]) (ok := fun _ => True) (okp := fun _ => True) ?hr ?hp (fun _ hk => hk) trivial (Below.refl _ _) (Nat.le_refl _) (by simp) ?_; (case hd => rfl); (case hg => rfl); (case hr => exact c9_4); (case hp => exact (Reps.one (show Kd.M (Kd.int .u8) _ _ _ ((wrap64 (48 + (Int.tmod a0 10))) % 256) [.int .u8 ((wrap64 (48 + (Int.tmod a0 10))) % 256)] from rfl) (Reps.none _ _))); intro v324 w13 ho14 hb hg_ hnew_; clear hg_ hnew_
         (first | rw [← Ny323.out] at ho14 | (simp only [Int.reduceToNat] at ho14; rw [← Ny323.out] at ho14))
         have n0_ := ak (Kd.R_lower ho14 (below_size d9_1)); have n1_ := ak (below_step d9_1 hb); clear HB; have HO325 := n0_; have HB := n1_; clear n0_ n1_; clear hb ho14; refine hK.out _ _ trivial (fun hHeld => ?_); clear hK K; refine norm_ (a' := ?_) ?_ ?_; rotate_left
         · show Act.put _ (some 23) _ = _
           simp only [Act.put, pa9_1, pa9_2, pa9_3, i64_w, i32_w]; rfl
         refine two_ (i := 2) (j := 8) (Ni := some 18) (Nj := some 24) #[true, true, true, true, true, true, true, true, false, false, false] #[true, true, false, true, true, true, true, true, true, false, false] rfl rfl rfl rfl (two_of HT_.out (by kernel_rfl)) (by decide) (by decide) (fun K hK => ?_) (fun K hK => ?_)
         · skip
           refine goes_ Tryd.func41 (by kernel_rfl) rfl #[.int .i64 (wrap64 (Int.tdiv a0 10))] (by rfl) rfl rfl d9_2 ?_; (with_reducible refine (ih k (by omega) (wrap64 (Int.tdiv a0 10)) t322 _ A10.out).mono ?_); rintro e w15 ⟨rfl, hb⟩; refine ⟨_, rfl, ?_⟩; have n0_ := ak (Kd.R_below d9_7 hb); have n1_ := ak (below_step d9_1 hb); clear HO325; clear HB; have HO325 := n0_; have HB := n1_; clear n0_ n1_
           (try clear hb)
           (try clear hb2)
           (try clear hk)
           (try clear hi)
           refine hK.out _ _ trivial (fun hHeld => ?_); clear hK K; refine norm_ (a' := ?_) ?_ ?_; rotate_left
           · show Act.put _ (some 18) _ = _
             simp only [Act.put, pa9_1, pa9_2, pa9_3, i64_w, i32_w]; rfl
           refine one_ (i := 8) (N := some 24) #[true, true, true, true, true, true, true, true, true, false, false] rfl rfl (one_of HT_.out (by kernel_rfl)) (by decide) (fun K hK => ?_); have hcv16 := own_string (P := Tryd.prog) Tryd.underlying22 Tryd.underlying5 Tryd.underlying9 (Kd.own_of_R HO325.out); refine value_ (w1 := ?_) (v := ?_) (by rfl) rfl ?_ ?_; rotate_left 2
           · go_simp
             constructor
             · rfl
             · rfl
           clear hcv16; refine hK.out _ _ trivial (fun hHeld => ?_); clear hK K; refine norm_ (a' := ?_) ?_ ?_; rotate_left
           · show Act.put _ (some 24) _ = _
             simp only [Act.put, pa9_1, pa9_2, pa9_3, i64_w, i32_w]; rfl
           exact norm_ (by simp only [putAll, Act.put, List.setIfInBounds_toArray, List.set_cons_zero, List.set_cons_succ]) (hCont (v324) _ ⟨d9_7, d9_1⟩)
         · skip
           have hcv15 := own_string (P := Tryd.prog) Tryd.underlying22 Tryd.underlying5 Tryd.underlying9 (Kd.own_of_R HO325.out); refine value_ (w1 := ?_) (v := ?_) (by rfl) rfl ?_ ?_; rotate_left 2
           · go_simp
             constructor
             · rfl
             · rfl
           clear hcv15; refine hK.out _ _ trivial (fun hHeld => ?_); clear hK K; refine norm_ (a' := ?_) ?_ ?_; rotate_left
           · show Act.put _ (some 24) _ = _
             simp only [Act.put, pa9_1, pa9_2, pa9_3, i64_w, i32_w]; rfl
           refine one_ (i := 2) (N := some 18) #[true, true, true, true, true, true, true, true, true, false, false] rfl rfl (one_of HT_.out (by kernel_rfl)) (by decide) (fun K hK => ?_); refine goes_ Tryd.func41 (by kernel_rfl) rfl #[.int .i64 (wrap64 (Int.tdiv a0 10))] (by rfl) rfl rfl d9_2 ?_; (with_reducible refine (ih k (by omega) (wrap64 (Int.tdiv a0 10)) t322 _ A10.out).mono ?_); rintro e w16 ⟨rfl, hb⟩; refine ⟨_, rfl, ?_⟩; have n0_ := ak (Kd.R_below d9_7 hb); have n1_ := ak (below_step d9_1 hb); clear HO325; clear HB; have HO325 := n0_; have HB := n1_; clear n0_ n1_
           (try clear hb)
           (try clear hb2)
           (try clear hk)
           (try clear hi)
           refine hK.out _ _ trivial (fun hHeld => ?_); clear hK K; refine norm_ (a' := ?_) ?_ ?_; rotate_left
           · show Act.put _ (some 18) _ = _
             simp only [Act.put, pa9_1, pa9_2, pa9_3, i64_w, i32_w]; rfl
           exact norm_ (by simp only [putAll, Act.put, List.setIfInBounds_toArray, List.set_cons_zero, List.set_cons_succ]) (hCont (v324) _ ⟨d9_7, d9_1⟩)
     rintro v324 w17 ⟨h0_, h1_⟩; have n0_ : Aside0 (Kd.R (Kd.int .u8) 5 w17 w.heap.size (fun _ => True) v324 y323) := ⟨h0_⟩; have n1_ : Aside0 (Below w.heap.size w w17) := ⟨h1_⟩; clear HB; clear h0_ h1_; have HO325 := n0_; have HB := n1_; clear n0_ n1_; have hHeld := trivial; refine norm_ (a' := ?_) ?_ ?_; rotate_left
     · simp only [putAll, Act.put, List.setIfInBounds_toArray, List.set_cons_zero, List.set_cons_succ]
       rfl
     refine pure_ (i := 9) (N := some 25) (v := ?_) (a' := ?_) #[true, true, true, true, true, true, true, true, true, true, false] rfl rfl (any_of HT_.out (by kernel_rfl)) (fun _ _ _ h => h) (Or.inl ⟨by rfl, ?_⟩) ?_ ?_; rotate_left
     · intro w'
       go_simp; (with_reducible rfl)
     rotate_left
     · simp only [Act.put, pa9_1, pa9_2, pa9_3, i64_w, i32_w]
       rfl
     refine pure_ (i := 10) (N := some 2) (v := ?_) (a' := ?_) #[true, true, true, true, true, true, true, true, true, true, true] rfl rfl (any_of HT_.out (by kernel_rfl)) (fun _ _ _ h => h) (Or.inl ⟨by rfl, ?_⟩) ?_ ?_; rotate_left
     · intro w'
       go_simp; (with_reducible rfl)
     rotate_left
     · simp only [Act.put, pa9_1, pa9_2, pa9_3, i64_w, i32_w]
       rfl
     refine done_ (done_of HT_.out (by kernel_rfl)) ?_
     try go_wp2
     go_ret; exact ⟨c9_2, by repeat (first | (with_reducible first | exact HB.out | apply below_alloc | apply pw_below_drewN | apply below_drew1) | exact HB.out)⟩
    ·rw [if_neg c11] at H
     exact absurd H (by simp)

end Go.Proofs.YtjlmknembpjnjaaDoor.A
