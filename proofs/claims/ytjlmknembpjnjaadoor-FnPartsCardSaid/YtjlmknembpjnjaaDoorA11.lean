/- Walks of the program's functions: each Go function's answer as a plain Lean function, and that the call comes to it. Written by a program. Conditions: those in each theorem's own head. -/
import Derived.Test.YtjlmknembpjnjaaDoorA0
import Derived.Test.YtjlmknembpjnjaaDoorA2
import Derived.Test.YtjlmknembpjnjaaDoorA3
import Derived.Test.YtjlmknembpjnjaaDoorA5
import Derived.Test.YtjlmknembpjnjaaDoorA8
import Derived.Test.YtjlmknembpjnjaaDoorA9
import Derived.Test.YtjlmknembpjnjaaDoorA10
namespace Go.Proofs.YtjlmknembpjnjaaDoor.A
open Go.RowKit Go.Proofs.YtjlmknembpjnjaaDoorW.PrintWords Go.Proofs.YtjlmknembpjnjaaDoorW.PrintLast Go.Proofs.YtjlmknembpjnjaaDoorW.PrintMore
attribute [local go_sem] max2_int min2_int max_two min_two max_three min_three max_four min_four   -- for this text's walks alone
set_option linter.unusedVariables false
set_option linter.unusedSimpArgs false

theorem b11N {w : World} {g : Nat} {o : Obj} (h : w.heap[g]? = some o) (n : Nat) : (w.drewN n).heap[g]? = some o := h
theorem b11D {w : World} {g : Nat} {o : Obj} (h : w.heap[g]? = some o) : (w.drew).heap[g]? = some o := h
theorem b11L {w : World} {g : Nat} {o : Obj} (h : w.heap[g]? = some o) (o' : Obj) : (w.alloc o').heap[g]? = some o := blk_alloc h o'
theorem d11_1 {p : Prop} (h : p := by repeat (first | (with_reducible first | exact HB.out | apply below_alloc | apply pw_below_drewN | apply below_drew1 | refine below_set ?_ GE360.out | refine below_set ?_ GE374.out) | exact HB.out)) : p := h
theorem d11_2 {p : Prop} (h : p := by (try simp only [List.map_toArray, List.map_cons, List.map_nil]); first | done | rfl | (simp only [List.length_drop, List.length_take]; rfl)) : p := h
theorem d11_3 {p : Prop} (h : p := by (with_reducible repeat first | apply b11N | apply b11D | apply b11L); exact BK360.out) : p := h
theorem d11_4 {p : Prop} (h : p := by repeat (first | (with_reducible first | exact HB.out | apply below_alloc | apply pw_below_drewN | apply below_drew1 | refine below_set ?_ GE360.out) | exact HB.out)) : p := h
theorem d11_5 {p : Prop} (h : p := by (with_reducible repeat (first | apply Kd.R_alloc | apply Kd.R_drewN | apply Kd.R_drew)); exact HO_361002.out) : p := h
theorem d11_6 {p : Prop} (h : p := by (with_reducible repeat (first | apply Kd.R_alloc | apply Kd.R_drewN | apply Kd.R_drew)); exact HO_3.out) : p := h
theorem d11_7 {p : Prop} (h : p := by (with_reducible repeat first | apply b11N | apply b11D | apply b11L); exact BK374.out) : p := h
theorem d11_8 {p : Prop} (h : p := by first | rfl | (simp; done) | (simp [*]; done) | (simp [ne_nil_b, eq_nil_b]; done)) : p := h
theorem d11_9 {p : Prop} (h : p := by (with_reducible repeat (first | apply Kd.R_alloc | apply Kd.R_drewN | apply Kd.R_drew)); exact HO_375001.out) : p := h
theorem d11_10 {p : Prop} (h : p := by repeat (first | (with_reducible first | exact HB.out | apply below_alloc | apply pw_below_drewN | apply below_drew1) | exact HB.out)) : p := h
theorem d11_11 {p : Prop} (h : p := by (with_reducible repeat (first | apply Kd.R_alloc | apply Kd.R_drewN | apply Kd.R_drew)); exact HO354.out) : p := h
theorem d11_12 {p : Prop} (h : p := by (with_reducible repeat (first | apply Kd.R_alloc | apply Kd.R_drewN | apply Kd.R_drew)); exact HO359.out) : p := h
theorem c11_1 {p : Prop} (h : p := by repeat (first | (with_reducible first | exact HB.out | apply below_alloc | apply pw_below_drewN | apply below_drew1 | refine below_set ?_ GE360.out | refine below_set ?_ GE374.out) | exact HB.out)) : p := h
theorem c11_2 {p : Prop} (h : p := by repeat (first | exact (Kd.R_reads' HO_361002.out).2.2 | (with_reducible refine Kd.C_alloc ?_ _) | (with_reducible refine Kd.C_drewN ?_ _) | (with_reducible refine Kd.C_drew ?_))) : p := h
theorem c11_3 {p : Prop} (h : p := by (with_reducible repeat first | apply b11N | apply b11D | apply b11L); exact BK360.out) : p := h
theorem c11_4 {p : Prop} (h : p := by repeat (first | (with_reducible first | exact HB.out | apply below_alloc | apply pw_below_drewN | apply below_drew1 | refine below_set ?_ GE360.out) | exact HB.out)) : p := h
theorem c11_5 {p : Prop} (h : p := by (with_reducible repeat first | apply b11N | apply b11D | apply b11L); exact BK374.out) : p := h
theorem c11_6 {p : Prop} (h : p := by (with_reducible repeat (first | apply Kd.R_alloc | apply Kd.R_drewN | apply Kd.R_drew)); exact HO_375001.out) : p := h
theorem c11_7 {p : Prop} (h : p := by (with_reducible repeat (first | apply Kd.R_alloc | apply Kd.R_drewN | apply Kd.R_drew)); exact Kd.R_mono HO_361002.out (fun _ hk => trivial)) : p := h
theorem c11_8 {p : Prop} (h : p := by repeat (first | exact (Kd.R_reads' HO354.out).2.2 | (with_reducible refine Kd.C_alloc ?_ _) | (with_reducible refine Kd.C_drewN ?_ _) | (with_reducible refine Kd.C_drew ?_))) : p := h
theorem c11_9 {p : Prop} (h : p := by repeat (first | exact (Kd.R_reads' HO_3.out).2.2 | (with_reducible refine Kd.C_alloc ?_ _) | (with_reducible refine Kd.C_drewN ?_ _) | (with_reducible refine Kd.C_drew ?_))) : p := h
set_option maxHeartbeats 8000000
set_option maxRecDepth 100000
theorem z11c {w : World} {g : Nat} {t : TypeId} {cs : Array Value} (h : w.heap[g]? = some (.cells cs t (0, 0))) (i : Nat) {v : Value} (e : cs[i]? = some v) : w.cell? ⟨g, i, none⟩ = some v := (blk_cell h i).trans e
abbrev m11_0 : Array Bool := #[false, false, false, false, false, false, false, false, false, false, false, false, false, false, false, false, false, false, false, false, false, false, false, false, false, false, false, false, false, false, false, false, false, false, false, false, false]
abbrev m11_1 : Array Bool := #[false, false, false, false, false, false, false, false, false, false, false, false, false, false, false, false, false]
abbrev m11_2 : Array Bool := #[true, false, false, false, false, false, false, false, false, false, false, false, false, false, false, false, false, false, false, false, false, false, false, false, false, false, false, false, false, false, false, false, false, false, false, false, false]
abbrev m11_3 : Array Bool := #[true, false, false, false, false, false, false, false, false, false, false, false, false, false, false, false, false]
abbrev m11_4 : Array Bool := #[true, true, false, false, false, false, false, false, false, false, false, false, false, false, false, false, false, false, false, false, false, false, false, false, false, false, false, false, false, false, false, false, false, false, false, false, false]
abbrev m11_5 : Array Bool := #[true, true, false, false, false, false, false, false, false, false, false, false, false, false, false, false, false]
abbrev m11_6 : Array Bool := #[true, true, false, false, true, false, false, false, false, false, false, false, false, false, false, false, false]
abbrev m11_7 : Array Bool := #[true, true, false, false, true, true, false, false, false, false, false, false, false, false, false, false, false]
abbrev m11_8 : Array Bool := #[true, true, true, false, false, false, false, false, false, false, false, false, false, false, false, false, false, false, false, false, false, false, false, false, false, false, false, false, false, false, false, false, false, false, false, false, false]
abbrev m11_9 : Array Bool := #[true, true, true, false, true, true, false, false, false, false, false, false, false, false, false, false, false]
abbrev m11_10 : Array Bool := #[true, true, true, true, false, false, false, false, false, false, false, false, false, false, false, false, false, false, false, false, false, false, false, false, false, false, false, false, false, false, false, false, false, false, false, false, false]
abbrev m11_11 : Array Bool := #[true, true, true, true, true, false, false, false, false, false, false, false, false, false, false, false, false, false, false, false, false, false, false, false, false, false, false, false, false, false, false, false, false, false, false, false, false]
abbrev m11_12 : Array Bool := #[true, true, true, true, true, true, false, false, false, false, false, false, false, false, false, false, false, false, false, false, false, false, false, false, false, false, false, false, false, false, false, false, false, false, false, false, false]
abbrev m11_13 : Array Bool := #[true, true, true, true, true, true, false, false, false, false, false, false, false, false, false, false, false]
abbrev m11_14 : Array Bool := #[true, true, true, true, true, true, true, false, false, false, false, false, false, false, false, false, false, false, false, false, false, false, false, false, false, false, false, false, false, false, false, false, false, false, false, false, false]
abbrev m11_15 : Array Bool := #[true, true, true, true, true, true, true, false, false, false, false, false, false, false, false, false, false]
abbrev m11_16 : Array Bool := #[true, true, true, true, true, true, true, true, false, false, false, false, false, false, false, false, false, false, false, false, false, false, false, false, false, false, false, false, false, false, false, false, false, false, false, false, false]
abbrev m11_17 : Array Bool := #[true, true, true, true, true, true, true, true, false, false, false, false, false, false, false, false, false]
abbrev m11_18 : Array Bool := #[true, true, true, true, true, true, true, true, true, false, false, false, false, false, false, false, false, false, false, false, false, false, false, false, false, false, false, false, false, false, false, false, false, false, false, false, false]
abbrev m11_19 : Array Bool := #[true, true, true, true, true, true, true, true, true, false, false, false, false, false, false, false, false]
abbrev m11_20 : Array Bool := #[true, true, true, true, true, true, true, true, true, true, false, false, false, false, false, false, false, false, false, false, false, false, false, false, false, false, false, false, false, false, false, false, false, false, false, false, false]
abbrev m11_21 : Array Bool := #[true, true, true, true, true, true, true, true, true, true, false, false, false, false, false, false, false]
abbrev m11_24 : Array Bool := #[true, true, true, true, true, true, true, true, true, true, true, false, false, false, false, false, false, false, false, false, false, false, false, false, false, false, false, false, false, false, false, false, false, false, false, false, false]
abbrev m11_27 : Array Bool := #[true, true, true, true, true, true, true, true, true, true, true, true, false, false, false, false, false, false, false, false, false, false, false, false, false, false, false, false, false, false, false, false, false, false, false, false, false]
abbrev m11_29 : Array Bool := #[true, true, true, true, true, true, true, true, true, true, true, true, true, false, false, false, false, false, false, false, false, false, false, false, false, false, false, false, false, false, false, false, false, false, false, false, false]
abbrev m11_31 : Array Bool := #[true, true, true, true, true, true, true, true, true, true, true, true, true, true, false, false, false, false, false, false, false, false, false, false, false, false, false, false, false, false, false, false, false, false, false, false, false]
abbrev m11_32 : Array Bool := #[true, true, true, true, true, true, true, true, true, true, true, true, true, true, false, false, false]
abbrev m11_33 : Array Bool := #[true, true, true, true, true, true, true, true, true, true, true, true, true, true, true, false, false, false, false, false, false, false, false, false, false, false, false, false, false, false, false, false, false, false, false, false, false]
abbrev m11_34 : Array Bool := #[true, true, true, true, true, true, true, true, true, true, true, true, true, true, true, false, false]
abbrev m11_35 : Array Bool := #[true, true, true, true, true, true, true, true, true, true, true, true, true, true, true, true, false, false, false, false, false, false, false, false, false, false, false, false, false, false, false, false, false, false, false, false, false]
abbrev m11_36 : Array Bool := #[true, true, true, true, true, true, true, true, true, true, true, true, true, true, true, true, false]
abbrev m11_37 : Array Bool := #[true, true, true, true, true, true, true, true, true, true, true, true, true, true, true, true, true, false, false, false, false, false, false, false, false, false, false, false, false, false, false, false, false, false, false, false, false]
abbrev m11_38 : Array Bool := #[true, true, true, true, true, true, true, true, true, true, true, true, true, true, true, true, true, true, false, false, false, false, false, false, false, false, false, false, false, false, false, false, false, false, false, false, false]
abbrev m11_39 : Array Bool := #[true, true, true, true, true, true, true, true, true, true, true, true, true, true, true, true, true, true, false, true, false, false, false, false, false, false, false, false, false, false, false, false, false, false, false, false, false]
abbrev m11_40 : Array Bool := #[true, true, true, true, true, true, true, true, true, true, true, true, true, true, true, true, true, true, false, true, true, false, false, false, false, false, false, false, false, false, false, false, false, false, false, false, false]
abbrev m11_41 : Array Bool := #[true, true, true, true, true, true, true, true, true, true, true, true, true, true, true, true, true, true, true, false, false, false, false, false, false, false, false, false, false, false, false, false, false, false, false, false, false]
abbrev m11_42 : Array Bool := #[true, true, true, true, true, true, true, true, true, true, true, true, true, true, true, true, true, true, true, true, false, false, false, false, false, false, false, false, false, false, false, false, false, false, false, false, false]
abbrev m11_43 : Array Bool := #[true, true, true, true, true, true, true, true, true, true, true, true, true, true, true, true, true, true, true, true, true, false, false, false, false, false, false, false, false, false, false, false, false, false, false, false, false]
abbrev m11_44 : Array Bool := #[true, true, true, true, true, true, true, true, true, true, true, true, true, true, true, true, true, true, true, true, true, true, false, false, false, false, false, false, false, false, false, false, false, false, false, false, false]
abbrev m11_45 : Array Bool := #[true, true, true, true, true, true, true, true, true, true, true, true, true, true, true, true, true, true, true, true, true, true, true, false, false, false, false, false, false, false, false, false, false, false, false, false, false]
abbrev m11_46 : Array Bool := #[true, true, true, true, true, true, true, true, true, true, true, true, true, true, true, true, true, true, true, true, true, true, true, true, false, false, false, false, false, false, false, false, false, false, false, false, false]
abbrev m11_47 : Array Bool := #[true, true, true, true, true, true, true, true, true, true, true, true, true, true, true, true, true, true, true, true, true, true, true, true, true, false, false, false, false, false, false, false, false, false, false, false, false]
abbrev m11_48 : Array Bool := #[true, true, true, true, true, true, true, true, true, true, true, true, true, true, true, true, true, true, true, true, true, true, true, true, true, true, false, false, false, false, false, false, false, false, false, false, false]
abbrev m11_49 : Array Bool := #[true, true, true, true, true, true, true, true, true, true, true, true, true, true, true, true, true, true, true, true, true, true, true, true, true, true, true, false, false, false, false, false, false, false, false, false, false]
abbrev m11_51 : Array Bool := #[true, true, true, true, true, true, true, true, true, true, true, true, true, true, true, true, true, true, true, true, true, true, true, true, true, true, true, true, false, false, false, false, false, false, false, false, false]
abbrev m11_54 : Array Bool := #[true, true, true, true, true, true, true, true, true, true, true, true, true, true, true, true, true, true, true, true, true, true, true, true, true, true, true, true, true, false, false, false, false, false, false, false, false]
abbrev m11_56 : Array Bool := #[true, true, true, true, true, true, true, true, true, true, true, true, true, true, true, true, true, true, true, true, true, true, true, true, true, true, true, true, true, true, false, false, false, false, false, false, false]
abbrev m11_57 : Array Bool := #[true, true, true, true, true, true, true, true, true, true, true, true, true, true, true, true, true, true, true, true, true, true, true, true, true, true, true, true, true, true, true, false, false, false, false, false, false]
abbrev m11_58 : Array Bool := #[true, true, true, true, true, true, true, true, true, true, true, true, true, true, true, true, true, true, true, true, true, true, true, true, true, true, true, true, true, true, true, true, false, false, false, false, false]
abbrev m11_59 : Array Bool := #[true, true, true, true, true, true, true, true, true, true, true, true, true, true, true, true, true, true, true, true, true, true, true, true, true, true, true, true, true, true, true, true, true, false, false, false, false]
abbrev m11_60 : Array Bool := #[true, true, true, true, true, true, true, true, true, true, true, true, true, true, true, true, true, true, true, true, true, true, true, true, true, true, true, true, true, true, true, true, true, true, false, false, false]
abbrev m11_61 : Array Bool := #[true, true, true, true, true, true, true, true, true, true, true, true, true, true, true, true, true, true, true, true, true, true, true, true, true, true, true, true, true, true, true, true, true, true, true, false, false]
abbrev m11_62 : Array Bool := #[true, true, true, true, true, true, true, true, true, true, true, true, true, true, true, true, true, true, true, true, true, true, true, true, true, true, true, true, true, true, true, true, true, true, true, true, false]
abbrev m11_63 : Array Bool := #[true, true, true, true, true, true, true, true, true, true, true, true, true, true, true, true, true, true, true, true, true, true, true, true, true, true, true, true, true, true, true, true, true, true, true, true, true]
abbrev m11_64 : Array Bool := #[true, true, true, true, true, true, true, true, true, true, true, true, true, true, true, true, true]
theorem pa11_1 {α : Type} (l : List α) (i : Nat) (a : α) : l.toArray.setIfInBounds i a = (l.set i a).toArray := List.setIfInBounds_toArray l i a
theorem pa11_2 {α : Type} (a : α) (l : List α) (b : α) : (a :: l).set 0 b = b :: l := rfl
theorem pa11_3 {α : Type} (a : α) (l : List α) (n : Nat) (b : α) : (a :: l).set (n + 1) b = a :: l.set n b := rfl

/-! ### laws_FnParts: function 3 -/
mutual
def laws_FnParts.j0 : Nat → List Int → Option (Bool)
  | 0, _ => none
  | k + 1, x0 => (spec_DrawSubData.f k x0).bind fun bt351 => ((impl_SubData.f k bt351.1 bt351.2).bind fun bt355 => (if bt355.1 = 0 then (laws_FnParts.j2 k bt351.1 bt351.2 bt355.1 bt355.2.1 bt355.2.2) else ((spec_SubData.f k bt351.1 bt351.2).bind fun bt361 => (if bt361.1 = bt355.1 then ((impl_PartsOf.f k bt351.1 bt351.2).bind fun bt366 => (laws_FnParts.j1 k (bt366.1 == bt355.1))) else (laws_FnParts.j1 k false)))))
def laws_FnParts.j2 : Nat → List (S45) → Int → Int → Int → List (S45) → Option (Bool)
  | 0, _, _, _, _, _ => none
  | k + 1, x3, x4, x361000, x361001, x361002 => (impl_PartsOf.f k x3 x4).bind fun bt370 => (laws_FnParts.l0 k x3 x4 1 0 x361000 x361001 x361002 bt370.1 bt370.2)
def laws_FnParts.j6 : Nat → List (S45) → Int → Int → Int → Int → List (S45) → Int → List Int → Option (Bool)
  | 0, _, _, _, _, _, _, _, _ => none
  | k + 1, x3, x4, x7, x361000, x361001, x361002, x375000, x375001 => if x375000 = 0 then (if x7 = (x361002.length : Int) then ((impl_DataFault.f k x361002).bind fun t382 => (if t382 = 0 then ((spec_SubData.f k x3 x4).bind fun bt383 => ((impl_SameData.f k x361002 bt383.2.2).bind fun t388 => (if t388 = true then ((impl_WriteData.f k x361002).bind fun bt389 => ((spec_WriteData.f k x361002).bind fun bt391 => (laws_FnParts.j7 k (bt389.2.toList == bt391.2.toList)))) else (laws_FnParts.j7 k false)))) else (laws_FnParts.j7 k false))) else (laws_FnParts.j7 k false)) else (laws_FnParts.j7 k false)
def laws_FnParts.j7 : Nat → Bool → Option (Bool)
  | 0, _ => none
  | k + 1, x2 => some x2
def laws_FnParts.l0 : Nat → List (S45) → Int → Int → Int → Int → Int → List (S45) → Int → List Int → Option (Bool)
  | 0, _, _, _, _, _, _, _, _, _ => none
  | k + 1, x3, x4, x7, x8, x361000, x361001, x361002, x375000, x375001 => if x8 < (x375001.length : Int) then (laws_FnParts.j4 k x3 x4 x7 x8 x361000 x361001 x361002 x375000 x375001) else (laws_FnParts.j6 k x3 x4 x7 x361000 x361001 x361002 x375000 x375001)
def laws_FnParts.j4 : Nat → List (S45) → Int → Int → Int → Int → Int → List (S45) → Int → List Int → Option (Bool)
  | 0, _, _, _, _, _, _, _, _, _ => none
  | k + 1, x3, x4, x7, x8, x361000, x361001, x361002, x375000, x375001 => if 0 ≤ x8 then (if x8 < (x375001.length : Int) then ((impl_SubData.f k x3 (rd x375001 x8)).bind fun bt376 => (laws_FnParts.j5 k x3 x4 (wrap64 (x7 + (bt376.2.2.length : Int))) x8 x361000 x361001 x361002 x375000 x375001)) else (none)) else (none)
def laws_FnParts.j5 : Nat → List (S45) → Int → Int → Int → Int → Int → List (S45) → Int → List Int → Option (Bool)
  | 0, _, _, _, _, _, _, _, _, _ => none
  | k + 1, x3, x4, x7, x8, x361000, x361001, x361002, x375000, x375001 => laws_FnParts.l0 k x3 x4 x7 (wrap64 (x8 + 1)) x361000 x361001 x361002 x375000 x375001
def laws_FnParts.j1 : Nat → Bool → Option (Bool)
  | 0, _ => none
  | k + 1, x2 => some x2
end
def laws_FnParts.f (k : Nat) (l0 : List Int) : Option (Bool) := (laws_lwBig.f l0).bind fun t350 => (if t350 = true then (some true) else (laws_FnParts.j0 k l0))
theorem laws_FnParts.mono_l : ∀ k, (∀ y0, LeO (laws_FnParts.j0 k y0) (laws_FnParts.j0 (k + 1) y0)) ∧ (∀ y0 y1 y2 y3 y4, LeO (laws_FnParts.j2 k y0 y1 y2 y3 y4) (laws_FnParts.j2 (k + 1) y0 y1 y2 y3 y4)) ∧ (∀ y0 y1 y2 y3 y4 y5 y6 y7, LeO (laws_FnParts.j6 k y0 y1 y2 y3 y4 y5 y6 y7) (laws_FnParts.j6 (k + 1) y0 y1 y2 y3 y4 y5 y6 y7)) ∧ (∀ y0, LeO (laws_FnParts.j7 k y0) (laws_FnParts.j7 (k + 1) y0)) ∧ (∀ y0 y1 y2 y3 y4 y5 y6 y7 y8, LeO (laws_FnParts.l0 k y0 y1 y2 y3 y4 y5 y6 y7 y8) (laws_FnParts.l0 (k + 1) y0 y1 y2 y3 y4 y5 y6 y7 y8)) ∧ (∀ y0 y1 y2 y3 y4 y5 y6 y7 y8, LeO (laws_FnParts.j4 k y0 y1 y2 y3 y4 y5 y6 y7 y8) (laws_FnParts.j4 (k + 1) y0 y1 y2 y3 y4 y5 y6 y7 y8)) ∧ (∀ y0 y1 y2 y3 y4 y5 y6 y7 y8, LeO (laws_FnParts.j5 k y0 y1 y2 y3 y4 y5 y6 y7 y8) (laws_FnParts.j5 (k + 1) y0 y1 y2 y3 y4 y5 y6 y7 y8)) ∧ (∀ y0, LeO (laws_FnParts.j1 k y0) (laws_FnParts.j1 (k + 1) y0))
  | 0 => ⟨fun _ r h => by simp [laws_FnParts.j0] at h, fun _ _ _ _ _ r h => by simp [laws_FnParts.j2] at h, fun _ _ _ _ _ _ _ _ r h => by simp [laws_FnParts.j6] at h, fun _ r h => by simp [laws_FnParts.j7] at h, fun _ _ _ _ _ _ _ _ _ r h => by simp [laws_FnParts.l0] at h, fun _ _ _ _ _ _ _ _ _ r h => by simp [laws_FnParts.j4] at h, fun _ _ _ _ _ _ _ _ _ r h => by simp [laws_FnParts.j5] at h, fun _ r h => by simp [laws_FnParts.j1] at h⟩
  | k + 1 => by
    obtain ⟨ih0, ih1, ih2, ih3, ih4, ih5, ih6, ih7⟩ := laws_FnParts.mono_l k; refine ⟨?_, ?_, ?_, ?_, ?_, ?_, ?_, ?_⟩
    · intro y0
      unfold laws_FnParts.j0
      repeat' first | (with_reducible first | apply ih0 | apply ih1 | apply ih2 | apply ih3 | apply ih4 | apply ih5 | apply ih6 | apply ih7 | apply impl_DataFault.mono | apply impl_PartsOf.mono | apply impl_SameData.mono | apply impl_SubData.mono | apply impl_WriteData.mono | apply spec_DrawSubData.mono | apply spec_SubData.mono | apply spec_WriteData.mono | exact LeO.refl _ | exact LeO.none _ | refine LeO.ite ?_ ?_ | refine LeO.bind ?_ (fun _ => ?_)) | apply ih0 | apply ih1 | apply ih2 | apply ih3 | apply ih4 | apply ih5 | apply ih6 | apply ih7 | apply impl_DataFault.mono | apply impl_PartsOf.mono | apply impl_SameData.mono | apply impl_SubData.mono | apply impl_WriteData.mono | apply spec_DrawSubData.mono | apply spec_SubData.mono | apply spec_WriteData.mono | exact LeO.none _ | refine LeO.ite ?_ ?_ | refine LeO.bind ?_ (fun _ => ?_)
    · intro y0 y1 y2 y3 y4
      unfold laws_FnParts.j2
      repeat' first | (with_reducible first | apply ih0 | apply ih1 | apply ih2 | apply ih3 | apply ih4 | apply ih5 | apply ih6 | apply ih7 | apply impl_DataFault.mono | apply impl_PartsOf.mono | apply impl_SameData.mono | apply impl_SubData.mono | apply impl_WriteData.mono | apply spec_DrawSubData.mono | apply spec_SubData.mono | apply spec_WriteData.mono | exact LeO.refl _ | exact LeO.none _ | refine LeO.ite ?_ ?_ | refine LeO.bind ?_ (fun _ => ?_)) | apply ih0 | apply ih1 | apply ih2 | apply ih3 | apply ih4 | apply ih5 | apply ih6 | apply ih7 | apply impl_DataFault.mono | apply impl_PartsOf.mono | apply impl_SameData.mono | apply impl_SubData.mono | apply impl_WriteData.mono | apply spec_DrawSubData.mono | apply spec_SubData.mono | apply spec_WriteData.mono | exact LeO.none _ | refine LeO.ite ?_ ?_ | refine LeO.bind ?_ (fun _ => ?_)
    · intro y0 y1 y2 y3 y4 y5 y6 y7
      unfold laws_FnParts.j6
      repeat' first | (with_reducible first | apply ih0 | apply ih1 | apply ih2 | apply ih3 | apply ih4 | apply ih5 | apply ih6 | apply ih7 | apply impl_DataFault.mono | apply impl_PartsOf.mono | apply impl_SameData.mono | apply impl_SubData.mono | apply impl_WriteData.mono | apply spec_DrawSubData.mono | apply spec_SubData.mono | apply spec_WriteData.mono | exact LeO.refl _ | exact LeO.none _ | refine LeO.ite ?_ ?_ | refine LeO.bind ?_ (fun _ => ?_)) | apply ih0 | apply ih1 | apply ih2 | apply ih3 | apply ih4 | apply ih5 | apply ih6 | apply ih7 | apply impl_DataFault.mono | apply impl_PartsOf.mono | apply impl_SameData.mono | apply impl_SubData.mono | apply impl_WriteData.mono | apply spec_DrawSubData.mono | apply spec_SubData.mono | apply spec_WriteData.mono | exact LeO.none _ | refine LeO.ite ?_ ?_ | refine LeO.bind ?_ (fun _ => ?_)
    · intro y0
      unfold laws_FnParts.j7
      repeat' first | (with_reducible first | apply ih0 | apply ih1 | apply ih2 | apply ih3 | apply ih4 | apply ih5 | apply ih6 | apply ih7 | apply impl_DataFault.mono | apply impl_PartsOf.mono | apply impl_SameData.mono | apply impl_SubData.mono | apply impl_WriteData.mono | apply spec_DrawSubData.mono | apply spec_SubData.mono | apply spec_WriteData.mono | exact LeO.refl _ | exact LeO.none _ | refine LeO.ite ?_ ?_ | refine LeO.bind ?_ (fun _ => ?_)) | apply ih0 | apply ih1 | apply ih2 | apply ih3 | apply ih4 | apply ih5 | apply ih6 | apply ih7 | apply impl_DataFault.mono | apply impl_PartsOf.mono | apply impl_SameData.mono | apply impl_SubData.mono | apply impl_WriteData.mono | apply spec_DrawSubData.mono | apply spec_SubData.mono | apply spec_WriteData.mono | exact LeO.none _ | refine LeO.ite ?_ ?_ | refine LeO.bind ?_ (fun _ => ?_)
    · intro y0 y1 y2 y3 y4 y5 y6 y7 y8
      unfold laws_FnParts.l0
      repeat' first | (with_reducible first | apply ih0 | apply ih1 | apply ih2 | apply ih3 | apply ih4 | apply ih5 | apply ih6 | apply ih7 | apply impl_DataFault.mono | apply impl_PartsOf.mono | apply impl_SameData.mono | apply impl_SubData.mono | apply impl_WriteData.mono | apply spec_DrawSubData.mono | apply spec_SubData.mono | apply spec_WriteData.mono | exact LeO.refl _ | exact LeO.none _ | refine LeO.ite ?_ ?_ | refine LeO.bind ?_ (fun _ => ?_)) | apply ih0 | apply ih1 | apply ih2 | apply ih3 | apply ih4 | apply ih5 | apply ih6 | apply ih7 | apply impl_DataFault.mono | apply impl_PartsOf.mono | apply impl_SameData.mono | apply impl_SubData.mono | apply impl_WriteData.mono | apply spec_DrawSubData.mono | apply spec_SubData.mono | apply spec_WriteData.mono | exact LeO.none _ | refine LeO.ite ?_ ?_ | refine LeO.bind ?_ (fun _ => ?_)
    · intro y0 y1 y2 y3 y4 y5 y6 y7 y8
      unfold laws_FnParts.j4
      repeat' first | (with_reducible first | apply ih0 | apply ih1 | apply ih2 | apply ih3 | apply ih4 | apply ih5 | apply ih6 | apply ih7 | apply impl_DataFault.mono | apply impl_PartsOf.mono | apply impl_SameData.mono | apply impl_SubData.mono | apply impl_WriteData.mono | apply spec_DrawSubData.mono | apply spec_SubData.mono | apply spec_WriteData.mono | exact LeO.refl _ | exact LeO.none _ | refine LeO.ite ?_ ?_ | refine LeO.bind ?_ (fun _ => ?_)) | apply ih0 | apply ih1 | apply ih2 | apply ih3 | apply ih4 | apply ih5 | apply ih6 | apply ih7 | apply impl_DataFault.mono | apply impl_PartsOf.mono | apply impl_SameData.mono | apply impl_SubData.mono | apply impl_WriteData.mono | apply spec_DrawSubData.mono | apply spec_SubData.mono | apply spec_WriteData.mono | exact LeO.none _ | refine LeO.ite ?_ ?_ | refine LeO.bind ?_ (fun _ => ?_)
    · intro y0 y1 y2 y3 y4 y5 y6 y7 y8
      unfold laws_FnParts.j5
      repeat' first | (with_reducible first | apply ih0 | apply ih1 | apply ih2 | apply ih3 | apply ih4 | apply ih5 | apply ih6 | apply ih7 | apply impl_DataFault.mono | apply impl_PartsOf.mono | apply impl_SameData.mono | apply impl_SubData.mono | apply impl_WriteData.mono | apply spec_DrawSubData.mono | apply spec_SubData.mono | apply spec_WriteData.mono | exact LeO.refl _ | exact LeO.none _ | refine LeO.ite ?_ ?_ | refine LeO.bind ?_ (fun _ => ?_)) | apply ih0 | apply ih1 | apply ih2 | apply ih3 | apply ih4 | apply ih5 | apply ih6 | apply ih7 | apply impl_DataFault.mono | apply impl_PartsOf.mono | apply impl_SameData.mono | apply impl_SubData.mono | apply impl_WriteData.mono | apply spec_DrawSubData.mono | apply spec_SubData.mono | apply spec_WriteData.mono | exact LeO.none _ | refine LeO.ite ?_ ?_ | refine LeO.bind ?_ (fun _ => ?_)
    · intro y0
      unfold laws_FnParts.j1
      repeat' first | (with_reducible first | apply ih0 | apply ih1 | apply ih2 | apply ih3 | apply ih4 | apply ih5 | apply ih6 | apply ih7 | apply impl_DataFault.mono | apply impl_PartsOf.mono | apply impl_SameData.mono | apply impl_SubData.mono | apply impl_WriteData.mono | apply spec_DrawSubData.mono | apply spec_SubData.mono | apply spec_WriteData.mono | exact LeO.refl _ | exact LeO.none _ | refine LeO.ite ?_ ?_ | refine LeO.bind ?_ (fun _ => ?_)) | apply ih0 | apply ih1 | apply ih2 | apply ih3 | apply ih4 | apply ih5 | apply ih6 | apply ih7 | apply impl_DataFault.mono | apply impl_PartsOf.mono | apply impl_SameData.mono | apply impl_SubData.mono | apply impl_WriteData.mono | apply spec_DrawSubData.mono | apply spec_SubData.mono | apply spec_WriteData.mono | exact LeO.none _ | refine LeO.ite ?_ ?_ | refine LeO.bind ?_ (fun _ => ?_)
theorem laws_FnParts.mono : ∀ a0 k, LeO (laws_FnParts.f k a0) (laws_FnParts.f (k + 1) a0) := by
  intro a0 k; obtain ⟨ih0, ih1, ih2, ih3, ih4, ih5, ih6, ih7⟩ := laws_FnParts.mono_l k; unfold laws_FnParts.f
  repeat' first | (with_reducible first | apply ih0 | apply ih1 | apply ih2 | apply ih3 | apply ih4 | apply ih5 | apply ih6 | apply ih7 | apply impl_DataFault.mono | apply impl_PartsOf.mono | apply impl_SameData.mono | apply impl_SubData.mono | apply impl_WriteData.mono | apply spec_DrawSubData.mono | apply spec_SubData.mono | apply spec_WriteData.mono | exact LeO.refl _ | exact LeO.none _ | refine LeO.ite ?_ ?_ | refine LeO.bind ?_ (fun _ => ?_)) | apply ih0 | apply ih1 | apply ih2 | apply ih3 | apply ih4 | apply ih5 | apply ih6 | apply ih7 | apply impl_DataFault.mono | apply impl_PartsOf.mono | apply impl_SameData.mono | apply impl_SubData.mono | apply impl_WriteData.mono | apply spec_DrawSubData.mono | apply spec_SubData.mono | apply spec_WriteData.mono | exact LeO.none _ | refine LeO.ite ?_ ?_ | refine LeO.bind ?_ (fun _ => ?_)
def laws_FnParts.T6 : Bool × List (List Nat × List Nat) := (true, [([], []), ([], []), ([0, 1], [0, 1]), ([2], [2]), ([], []), ([4], [4]), ([3, 5], [3, 5]), ([6, 2], [6]), ([7], [7]), ([7], [7]), ([8, 9, 7, 7], [7, 8, 9]), ([10, 7], [7, 10]), ([7], [7]), ([12, 7], [7, 12]), ([11, 13, 7], [7, 11, 13]), ([7, 14], [7, 14]), ([15, 10, 0, 1, 2, 3, 4, 5, 6, 7, 8, 9, 10, 11, 12, 13, 14, 15], [15])])
def laws_FnParts.B6 : List Nat := [0, 0, 3, 7, 0, 16, 63, 127, 255, 255, 1023, 2047, 255, 4351, 16383, 32767, 65535]
theorem laws_FnParts.tab6 : rtab .any (opsOf Tryd.f3 6) = laws_FnParts.T6 := by kernel_rfl
theorem laws_FnParts.bits6 : waitsOk laws_FnParts.T6.2 laws_FnParts.B6 = true := by kernel_rfl
def laws_FnParts.T14 : Bool × List (List Nat × List Nat) := (true, [([], []), ([0], [0]), ([1], [1]), ([2], [2]), ([3], [3]), ([3], [3]), ([5, 3], [3, 5]), ([6, 3], [3, 6]), ([4, 7, 3], [3, 4, 7]), ([3, 8], [3, 8]), ([9, 3], [9]), ([10], [10]), ([11, 10], [10, 11]), ([12, 10, 10], [10, 12]), ([13, 10], [10, 13]), ([10, 14], [10, 14]), ([15, 13], [15]), ([16], [16]), ([17, 16], [16, 17]), ([16], [16]), ([16], [16]), ([19, 20, 16, 16], [16, 19, 20]), ([21, 16], [16, 21]), ([18, 22, 21, 16], [16, 18, 22]), ([16, 23], [16, 23]), ([24, 23], [24]), ([25], [25]), ([26, 25], [25, 26]), ([27, 25, 25], [25, 27]), ([28, 25], [25, 28]), ([25], [25]), ([30, 25], [25, 30]), ([31, 28, 25], [25, 31]), ([32, 25], [25, 32]), ([29, 33, 25], [25, 29, 33]), ([25, 34], [25, 34]), ([35, 32, 0, 1, 2, 3, 4, 5, 6, 7, 8, 9, 10, 11, 12, 13, 14, 15, 16, 17, 18, 19, 20, 21, 22, 23, 24, 25, 26, 27, 28, 29, 30, 31, 32, 33, 34, 35], [35])])
def laws_FnParts.B14 : List Nat := [0, 1, 3, 7, 15, 15, 47, 111, 255, 511, 1023, 2047, 4095, 8191, 16383, 32767, 65535, 131071, 262143, 131071, 131071, 1703935, 3801087, 8388607, 16777215, 33554431, 67108863, 134217727, 268435455, 536870911, 67108863, 1140850687, 3758096383, 8053063679, 17179869183, 34359738367, 68719476735]
theorem laws_FnParts.tab14 : rtab .any (opsOf Tryd.f3 14) = laws_FnParts.T14 := by kernel_rfl
theorem laws_FnParts.bits14 : waitsOk laws_FnParts.T14.2 laws_FnParts.B14 = true := by kernel_rfl
theorem laws_FnParts.calls (k : Nat) (A0 : Option Addr) (c0 : Nat) (l0 : List Int) (r : Bool) (w : World) (hr0 : Kd.C (Kd.int .u8) w A0 l0.length l0) (hc0 : l0.length ≤ c0) (hLz : Lz w) (h : laws_FnParts.f k l0 = some r) :
    Calls Tryd.prog 3 #[.slice A0 l0.length c0] w fun e w' => e = .returned (.bool r) ∧ Below w.heap.size w w' := by
  have hu28 := Tryd.underlying28
  have hfd28_0 : ∀ (v0 v1 v2 : Value) (w : World), (Instr.field 28 (.agg #[v0, v1, v2]) 0).run Tryd.prog w = .ok (v0) w := fun _ _ _ _ => by kernel_rfl
  have hfd32_0 : ∀ (v0 v1 : Value) (w : World), (Instr.field 32 (.agg #[v0, v1]) 0).run Tryd.prog w = .ok (v0) w := fun _ _ _ => by kernel_rfl
  have hu32 := Tryd.underlying32
  have hfd28_2 : ∀ (v0 v1 v2 : Value) (w : World), (Instr.field 28 (.agg #[v0, v1, v2]) 2).run Tryd.prog w = .ok (v2) w := fun _ _ _ _ => by kernel_rfl
  have hfd37_1 : ∀ (v0 v1 : Value) (w : World), (Instr.field 37 (.agg #[v0, v1]) 1).run Tryd.prog w = .ok (v1) w := fun _ _ _ => by kernel_rfl
  have HR0 := ak hr0; have HC0 := ak hc0; clear hr0 hc0; have HB := ak (Below.refl w.heap.size w); have HLZ := ak hLz; clear hLz; have H := h; clear h; unfold laws_FnParts.f at H; replace H := Option.bind_eq_some_iff.mp H; obtain ⟨t350, A20, H⟩ := H; (try dsimp -simprocs only at H); have A2 := ak A20; clear A20; have HC3 := ak H; clear H; go_enter Tryd.func3, Tryd.ntmps3; go_upto_if 11 with (first | ((with_reducible refine gate_callee (f := 4) rfl ?_); refine goesL_ (some 11) rfl rfl Tryd.func4 (by kernel_rfl) rfl #[.slice A0 l0.length c0] rfl d11_2 ?_; (with_reducible refine (laws_lwBig.calls _ _ l0 t350 _ ?side1 ?side2 A2.out).mono ?_); (case side1 => repeat (first | exact HR0.out | (with_reducible refine Kd.C_alloc ?_ _) | (with_reducible refine Kd.C_drewN ?_ _) | (with_reducible refine Kd.C_drew ?_))); (case side2 => exact HC0.out); rintro e w' ⟨rfl, ⟨nd, rfl⟩⟩; refine ⟨_, rfl, ?_⟩))
  (try simp only [Act.put, pa11_1, pa11_2, pa11_3])
  go_cut [] (fun wc => ∃ (kq : Nat), Aside0 (laws_FnParts.j0 kq l0 = some r) ∧ Aside0 (kq ≤ k) ∧ Aside0 (Below w.heap.size w wc))
  case first =>
   have H := HC3.out; clear HC3; by_cases c4 : t350 = true
   ·subst c4
    rw [if_pos rfl] at H; obtain rfl := Option.some.inj H; go_wp2; go_ret; exact ⟨by first | rfl | (simp [errW_none, errW_some] <;> rfl) | (simp [*, errW_none, errW_some] <;> rfl), by repeat (first | (with_reducible first | exact HB.out | apply below_alloc | apply pw_below_drewN | apply below_drew1) | exact HB.out)⟩
   ·replace c4 := Bool.eq_false_iff.mpr c4
    subst c4
    rw [if_neg (show ¬ (false = true) by decide)] at H; have H' := ak H; clear H; go_wp2; go_meet
    case rel => exact ⟨_, H', ⟨by first | omega | exact Nat.le_refl _⟩, ⟨by repeat (first | (with_reducible first | exact HB.out | apply below_alloc | apply pw_below_drewN | apply below_drew1) | exact HB.out)⟩⟩
  case rest =>
   clear HC3
   (try clear c3); (try clear c4)
   obtain ⟨kq, HA, HJ2, HB⟩ := hcut
   cases kq with
   | zero => exact absurd HA.out (by simp [laws_FnParts.j0])
   | succ kj2 =>
    have H := HA.out; clear HA; simp only [laws_FnParts.j0] at H; replace H := Option.bind_eq_some_iff.mp H; obtain ⟨⟨t351, t352⟩, A50, H⟩ := H; (try dsimp -simprocs only at H); have A5 := ak A50; clear A50; replace H := Option.bind_eq_some_iff.mp H; obtain ⟨⟨t355, t356, t357⟩, A60, H⟩ := H; (try dsimp -simprocs only at H); have A6 := ak A60; clear A60; have HC7 := ak H; clear H
    go_upto_if 22 with (first | ((with_reducible refine gate_callee (f := 5) rfl ?_); refine goesL_ (some 14) rfl rfl Tryd.func5 (by kernel_rfl) rfl #[.slice A0 l0.length c0] rfl d11_2 ?_; (with_reducible refine (spec_DrawSubData.calls kj2 _ _ l0 t351 t352 _ ?side1 ?side2 A5.out).mono ?_); (case side1 => repeat (first | exact (Kd.C_below HR0.out HB.out) | (with_reducible refine Kd.C_alloc ?_ _) | (with_reducible refine Kd.C_drewN ?_ _) | (with_reducible refine Kd.C_drew ?_))); (case side2 => exact HC0.out); rintro e w8 ⟨v353, rfl, ho0, hb⟩; refine ⟨_, rfl, ?_⟩; have n0_ := ak (Kd.R_lower ho0 (below_size d11_10)); have n1_ := ak (below_step d11_10 hb); clear HB; have HO354 := n0_; have HB := n1_; clear n0_ n1_; (try clear hb); (try clear ho0); obtain ⟨Ao9, co9, eo9⟩ := Kd.R_slice HO354.out; subst eo9) | ((with_reducible refine gate_callee (f := 6) rfl ?_); refine goesL_ (some 19) rfl rfl Tryd.func6 (by kernel_rfl) rfl #[.slice Ao9 t351.length co9, .int .i64 t352] rfl d11_2 ?_; (with_reducible refine (impl_SubData.calls kj2 _ _ t351 t352 t355 t356 t357 _ ?side1 ?side2 A6.out).mono ?_); (case side1 => exact c11_8); (case side2 => exact (Kd.R_reads' HO354.out).2.1); rintro e w10 ⟨v358, rfl, ho0, hb⟩; refine ⟨_, rfl, ?_⟩; have n0_ := ak (Kd.R_elder' d11_11 (Kd.R_base ho0) hb); have n1_ := ak (Kd.R_lower (Kd.R_new' ho0 (Kd.R_lt d11_11)) (below_size d11_10)); have n2_ := ak (below_step d11_10 hb); clear HO354 HB; have HO354 := n0_; have HO359 := n1_; have HB := n2_; clear n0_ n1_ n2_; (try clear hb); (try clear ho0)) | ((with_reducible refine gate_dst (N := 5) rfl ?_); refine box_event ?hg (N := 5) ?hd (cs := #[.int .i64 0, .int .i64 0, .slice none 0 0]) (t := 28) ?hr ?_; (case hd => rfl); (case hg => rfl); (case hr => first | (go_simp; done) | (go_simp; rfl)); intro gb360 hg w11 hbox hb; have n0_ := ak (Kd.R_below d11_11 hb); have n1_ := ak (Kd.R_below d11_12 hb); have n2_ := ak (below_step d11_10 hb); have n3_ := ak (hbox); have n4_ := ak ((by rw [hg]; exact (below_size d11_10) : w.heap.size ≤ gb360)); have n5_ := ak ((by rw [hg]; exact (below_size d11_10) : w.heap.size ≤ gb360)); clear HO354 HO359 HB; have HO354 := n0_; have HO359 := n1_; have HB := n2_; have BK360 := n3_; have GW360 := n4_; have GE360 := n5_; clear n0_ n1_ n2_ n3_ n4_ n5_ hb hbox hg; have hcz12_0 := z11c BK360.out 0 (v := (.int .i64 0)) rfl; have hcz12_1 := z11c BK360.out 1 (v := (.int .i64 0)) rfl; have hcz12_2 := z11c BK360.out 2 (v := (.slice none 0 0)) rfl; have hfz12_0 := blk_frozen BK360.out 0; have hfz12_1 := blk_frozen BK360.out 1; have hfz12_2 := blk_frozen BK360.out 2; obtain ⟨Ao13, co13, eo13⟩ := Kd.R_slice HO359.out; subst eo13))
    (try simp only [Act.put, pa11_1, pa11_2, pa11_3])
    go_cut [] (fun wc => ∃ (kq : Nat), Aside0 (laws_FnParts.j2 kq t351 t352 t355 t356 t357 = some r) ∧ Aside0 (kq ≤ kj2) ∧ Aside0 (Kd.R k45 45 wc w.heap.size (fun k_ => some k_ ≠ ((.slice Ao13 t357.length co13) : Value).ownBlock) (.slice Ao9 t351.length co9) t351) ∧ Aside0 (Kd.R k45 45 wc w.heap.size (fun k_ => some k_ ≠ ((.slice Ao9 t351.length co9) : Value).ownBlock) (.slice Ao13 t357.length co13) t357) ∧ Aside0 (wc.heap[gb360]? = some (.cells #[.int .i64 t355, .int .i64 t356, (.slice Ao13 t357.length co13)] 28 (0, 0))) ∧ Aside0 (Below w.heap.size w wc))
    case first =>
     have H := HC7.out; clear HC7; by_cases c14 : t355 = 0
     ·rw [if_pos c14] at H
      have c14b0 : (t355 == 0) = true := beq_iff_eq.mpr c14; have c14b1 : (t355 != 0) = false := bne_eq_false_iff_eq.mpr c14; clear c14
      (first | rw [c14b0] | (simp only [i64_w, i32_w]; rw [c14b0]) | skip)
      have H' := ak H; clear H; go_wp2; go_meet
      case rel => exact ⟨_, H', ⟨by have := HJ2.out; first | omega | exact Nat.le_refl _⟩, ⟨by (with_reducible repeat (first | apply Kd.R_alloc | apply Kd.R_drewN | apply Kd.R_drew)); exact Kd.R_mono (Kd.R_far (p := ⟨gb360, 2, none⟩) (Kd.R_far (p := ⟨gb360, 1, none⟩) (Kd.R_far (p := ⟨gb360, 0, none⟩) (Kd.R_types HO354.out BK360.out (by decide)) (fun _ hk => hk.2) (.int .i64 t355)) (fun _ hk => hk.2) (.int .i64 t356)) (fun _ hk => hk.2) (.slice Ao13 t357.length co13)) (fun _ hk => hk.1.2)⟩, ⟨by (with_reducible repeat (first | apply Kd.R_alloc | apply Kd.R_drewN | apply Kd.R_drew)); exact Kd.R_mono (Kd.R_far (p := ⟨gb360, 2, none⟩) (Kd.R_far (p := ⟨gb360, 1, none⟩) (Kd.R_far (p := ⟨gb360, 0, none⟩) (Kd.R_types HO359.out BK360.out (by decide)) (fun _ hk => hk.2) (.int .i64 t355)) (fun _ hk => hk.2) (.int .i64 t356)) (fun _ hk => hk.2) (.slice Ao13 t357.length co13)) (fun _ hk => hk.1.2)⟩, ⟨by (with_reducible repeat first | apply b11N | apply b11D | apply b11L); refine blk_put (cs := #[.int .i64 t355, .int .i64 t356, .slice none 0 0]) ?_ 2 _ rfl; (with_reducible repeat first | apply b11N | apply b11D | apply b11L); refine blk_put (cs := #[.int .i64 t355, .int .i64 0, .slice none 0 0]) ?_ 1 _ rfl; (with_reducible repeat first | apply b11N | apply b11D | apply b11L); refine blk_put (cs := #[.int .i64 0, .int .i64 0, .slice none 0 0]) ?_ 0 _ rfl; (with_reducible repeat first | apply b11N | apply b11D | apply b11L); exact BK360.out⟩, ⟨c11_4⟩⟩
     ·rw [if_neg c14] at H
      have c14b0 : (t355 == 0) = false := beq_eq_false_iff_ne.mpr c14; have c14b1 : (t355 != 0) = true := bne_iff_ne.mpr c14
      (first | rw [c14b0] | (simp only [i64_w, i32_w]; rw [c14b0]) | skip)
      have HC15 := ak H; clear H; go_upto_region 6 with (fail); go_cut [2] (fun v2 wc => ∃ (kq : Nat) (x2_14 : Bool), v2 = .bool x2_14 ∧ Aside0 (laws_FnParts.j1 kq x2_14 = some r) ∧ Aside0 (kq ≤ kj2) ∧ Aside0 (Kd.R k45 45 wc w.heap.size (fun _ => True) (.slice Ao13 t357.length co13) t357) ∧ Aside0 (wc.heap[gb360]? = some (.cells #[.int .i64 t355, .int .i64 t356, (.slice Ao13 t357.length co13)] 28 (0, 0))) ∧ Aside0 (Below w.heap.size w wc))
      case first =>
       have H := HC15.out; clear HC15; replace H := Option.bind_eq_some_iff.mp H; obtain ⟨⟨t361, t362, t363⟩, A160, H⟩ := H; (try dsimp -simprocs only at H); have A16 := ak A160; clear A160; by_cases c17 : t361 = t355
       ·rw [if_pos c17] at H
        have c17b0 : (t361 == t355) = true := beq_iff_eq.mpr c17; have c17b1 : (t361 != t355) = false := bne_eq_false_iff_eq.mpr c17; clear c17
        (first | rw [c17b0] | (simp only [i64_w, i32_w]; rw [c17b0]) | skip)
        replace H := Option.bind_eq_some_iff.mp H; obtain ⟨⟨t366, t367⟩, A180, H⟩ := H; (try dsimp -simprocs only at H); have A18 := ak A180; clear A180; have H' := ak H; clear H
        try go_wp2
        have n0_ : Aside0 (Kd.R k45 45 (((w11.setCell ⟨gb360, 0, none⟩ (.int .i64 t355)).setCell ⟨gb360, 1, none⟩ (.int .i64 t356)).setCell ⟨gb360, 2, none⟩ (.slice Ao13 t357.length co13)) w.heap.size (fun k_ => some k_ ≠ (.slice Ao13 t357.length co13 : Value).ownBlock) (.slice Ao9 t351.length co9) t351) := ⟨by (with_reducible repeat (first | apply Kd.R_alloc | apply Kd.R_drewN | apply Kd.R_drew)); exact Kd.R_mono (Kd.R_far (p := ⟨gb360, 2, none⟩) (Kd.R_far (p := ⟨gb360, 1, none⟩) (Kd.R_far (p := ⟨gb360, 0, none⟩) (Kd.R_types HO354.out BK360.out (by decide)) (fun _ hk => hk.2) (.int .i64 t355)) (fun _ hk => hk.2) (.int .i64 t356)) (fun _ hk => hk.2) (.slice Ao13 t357.length co13)) (fun _ hk => hk.1.2)⟩; have n1_ : Aside0 (Kd.R k45 45 (((w11.setCell ⟨gb360, 0, none⟩ (.int .i64 t355)).setCell ⟨gb360, 1, none⟩ (.int .i64 t356)).setCell ⟨gb360, 2, none⟩ (.slice Ao13 t357.length co13)) w.heap.size (fun k_ => some k_ ≠ (.slice Ao9 t351.length co9 : Value).ownBlock) (.slice Ao13 t357.length co13) t357) := ⟨by (with_reducible repeat (first | apply Kd.R_alloc | apply Kd.R_drewN | apply Kd.R_drew)); exact Kd.R_mono (Kd.R_far (p := ⟨gb360, 2, none⟩) (Kd.R_far (p := ⟨gb360, 1, none⟩) (Kd.R_far (p := ⟨gb360, 0, none⟩) (Kd.R_types HO359.out BK360.out (by decide)) (fun _ hk => hk.2) (.int .i64 t355)) (fun _ hk => hk.2) (.int .i64 t356)) (fun _ hk => hk.2) (.slice Ao13 t357.length co13)) (fun _ hk => hk.1.2)⟩
        have n2_ : Aside0 ((((w11.setCell ⟨gb360, 0, none⟩ (.int .i64 t355)).setCell ⟨gb360, 1, none⟩ (.int .i64 t356)).setCell ⟨gb360, 2, none⟩ (.slice Ao13 t357.length co13)).heap[gb360]? = some (.cells #[.int .i64 t355, .int .i64 t356, .slice Ao13 t357.length co13] 28 (0, 0))) := ⟨by (with_reducible repeat first | apply b11N | apply b11D | apply b11L); refine blk_put (cs := #[.int .i64 t355, .int .i64 t356, .slice none 0 0]) ?_ 2 _ rfl; (with_reducible repeat first | apply b11N | apply b11D | apply b11L); refine blk_put (cs := #[.int .i64 t355, .int .i64 0, .slice none 0 0]) ?_ 1 _ rfl; (with_reducible repeat first | apply b11N | apply b11D | apply b11L); refine blk_put (cs := #[.int .i64 0, .int .i64 0, .slice none 0 0]) ?_ 0 _ rfl; (with_reducible repeat first | apply b11N | apply b11D | apply b11L); exact BK360.out⟩; have n3_ : Aside0 (Below w.heap.size w (((w11.setCell ⟨gb360, 0, none⟩ (.int .i64 t355)).setCell ⟨gb360, 1, none⟩ (.int .i64 t356)).setCell ⟨gb360, 2, none⟩ (.slice Ao13 t357.length co13))) := ⟨c11_4⟩
        (try clear HO354)
        (try clear HO359)
        (try clear BK360)
        (try clear HB)
        generalize (((w11.setCell ⟨gb360, 0, none⟩ (.int .i64 t355)).setCell ⟨gb360, 1, none⟩ (.int .i64 t356)).setCell ⟨gb360, 2, none⟩ (.slice Ao13 t357.length co13)) = w19 at n0_ n1_ n2_ n3_ ⊢; have HO354 := n0_; have HO359 := n1_; have BK360 := n2_; have HB := n3_; clear n0_ n1_ n2_ n3_; have n0_ := ak (Kd.R_drew HO354.out); have n1_ := ak (Kd.R_drew HO359.out); have n2_ := ak (blk_drew BK360.out); have n3_ := ak (below_drew1 HB.out); clear HO354; clear HO359; clear BK360; clear HB; have HO354 := n0_; have HO359 := n1_; have BK360 := n2_; have HB := n3_; clear n0_ n1_ n2_ n3_; refine start_ (n := 17) (S := fun w' => w'.cell? ⟨gb360, 0, none⟩ = some (.int .i64 t355) ∧ w'.cell? ⟨gb360, 1, none⟩ = some (.int .i64 t356) ∧ w'.cell? ⟨gb360, 2, none⟩ = some (.slice Ao13 t357.length co13)) (ds := []) m11_1 (by kernel_rfl) rfl rfl ⟨(blk_cell BK360.out 0).trans rfl, (blk_cell BK360.out 1).trans rfl, (blk_cell BK360.out 2).trans rfl⟩ (fun hHeld => ?_); refine with_tabW laws_FnParts.tab6 laws_FnParts.bits6 (fun HT_ HW_ => ?_); generalize w19.drew = w20 at HO354 HO359 BK360 HB hHeld ⊢; refine pure_ (i := 0) (N := some 23) (v := ?_) (a' := ?_) m11_3 rfl rfl (any_of HT_.out (by kernel_rfl)) (fun _ _ _ h => h) (Or.inl ⟨by rfl, ?_⟩) ?_ ?_; rotate_left
        · intro w'
          go_simp; (with_reducible rfl)
        rotate_left
        · simp only [Act.put, pa11_1, pa11_2, pa11_3, i64_w, i32_w]
          rfl
        refine pure_ (i := 1) (N := some 24) (v := ?_) (a' := ?_) m11_5 rfl rfl (any_of HT_.out (by kernel_rfl)) (fun _ _ _ h => h) (Or.inl ⟨by rfl, ?_⟩) ?_ ?_; rotate_left
        · intro w'
          go_simp; (with_reducible rfl)
        rotate_left
        · simp only [Act.put, pa11_1, pa11_2, pa11_3, i64_w, i32_w]
          rfl
        refine pure_ (i := 4) (N := some 27) (v := ?_) (a' := ?_) m11_6 rfl rfl (any_of HT_.out (by kernel_rfl)) (fun _ _ _ h => h) (Or.inl ⟨by rfl, ?_⟩) ?_ ?_; rotate_left
        · intro w'
          go_simp; (with_reducible rfl)
        rotate_left
        · simp only [Act.put, pa11_1, pa11_2, pa11_3, i64_w, i32_w]
          rfl
        refine take_ (i := 5) (N := some 28) (v := ?_) (a' := ?_) m11_7 rfl rfl (take_ofW HT_.out HW_.out (by kernel_rfl)) (fun _ _ _ h => h) (Or.inl ⟨by rfl, ?_⟩) hHeld ?_ ?_; rotate_left
        · rintro w' ⟨s0, s1, s2⟩
          go_simp; (with_reducible rfl)
        rotate_left
        · simp only [Act.put, pa11_1, pa11_2, pa11_3, i64_w, i32_w]
          rfl
        refine one_ (i := 2) (N := some 25) m11_9 rfl rfl (one_of HT_.out (by kernel_rfl)) (by decide) (fun K hK => ?_); refine goes_ Tryd.func7 (by kernel_rfl) rfl #[.slice Ao9 t351.length co9, .int .i64 t352] (by rfl) rfl rfl d11_2 ?_; (with_reducible refine (spec_SubData.calls kj2 _ _ t351 t352 t361 t362 t363 _ ?side1 ?side2 A16.out).mono ?_)
        (case side1 => exact c11_8)
        (case side2 => exact (Kd.R_reads' HO354.out).2.1)
        rintro e w21 ⟨v364, rfl, ho0, hb⟩; refine ⟨_, rfl, ?_⟩; have n0_ := ak (Kd.R_elder' d11_11 (Kd.R_base ho0) hb); have n1_ := ak (Kd.R_elder' d11_12 (Kd.R_base ho0) hb); have n2_ := ak (Kd.R_lower (Kd.R_new' (Kd.R_new' ho0 (Kd.R_lt d11_11)) (Kd.R_lt d11_12)) (below_size d11_4)); have n3_ := ak (blk_below (g := gb360) (o := .cells #[.int .i64 t355, .int .i64 t356, .slice Ao13 t357.length co13] 28 (0, 0)) d11_3 hb); have n4_ := ak (below_step d11_4 hb); clear HO354; clear HO359; clear BK360; clear HB; have HO354 := n0_; have HO359 := n1_; have HO365 := n2_; have BK360 := n3_; have HB := n4_; clear n0_ n1_ n2_ n3_ n4_
        (try clear hb)
        (try clear hb2)
        (try clear hk)
        (try clear hi)
        (try clear ho0)
        refine hK.out _ _ ⟨(blk_cell BK360.out 0).trans rfl, (blk_cell BK360.out 1).trans rfl, (blk_cell BK360.out 2).trans rfl⟩ (fun hHeld => ?_); clear hK K; refine norm_ (a' := ?_) ?_ ?_; rotate_left
        · show Act.put _ (some 25) _ = _
          simp only [Act.put, pa11_1, pa11_2, pa11_3, i64_w, i32_w]; rfl
        refine pure_ (i := 3) (N := some 26) (v := ?_) (a' := ?_) m11_13 rfl rfl (any_of HT_.out (by kernel_rfl)) (fun _ _ _ h => h) (Or.inl ⟨by rfl, ?_⟩) ?_ ?_; rotate_left
        · intro w'
          go_simp; (with_reducible rfl)
        rotate_left
        · simp only [Act.put, pa11_1, pa11_2, pa11_3, i64_w, i32_w]
          rfl
        refine pure_ (i := 6) (N := some 29) (v := ?_) (a' := ?_) m11_15 rfl rfl (any_of HT_.out (by kernel_rfl)) (fun _ _ _ h => h) (Or.inl ⟨by rfl, ?_⟩) ?_ ?_; rotate_left
        · intro w'
          go_simp; (with_reducible rfl)
        rotate_left
        · simp only [Act.put, pa11_1, pa11_2, pa11_3, i64_w, i32_w]
          rfl
        refine pure_ (i := 7) (N := some 30) (v := ?_) (a' := ?_) m11_17 rfl rfl (any_of HT_.out (by kernel_rfl)) (fun _ _ _ h => h) (Or.inl ⟨by rfl, ?_⟩) ?_ ?_; rotate_left
        · intro w'
          go_simp; (with_reducible rfl)
        rotate_left
        · simp only [Act.put, pa11_1, pa11_2, pa11_3, i64_w, i32_w]
          rfl
        refine pure_ (i := 8) (N := some 31) (v := ?_) (a' := ?_) m11_19 rfl rfl (any_of HT_.out (by kernel_rfl)) (fun _ _ _ h => h) (Or.inl ⟨by rfl, ?_⟩) ?_ ?_; rotate_left
        · intro w'
          go_simp; (with_reducible rfl)
        rotate_left
        · simp only [Act.put, pa11_1, pa11_2, pa11_3, i64_w, i32_w]
          rfl
        refine pure_ (i := 9) (N := some 32) (v := ?_) (a' := ?_) m11_21 rfl rfl (any_of HT_.out (by kernel_rfl)) (fun _ _ _ h => h) (Or.inl ⟨by rfl, ?_⟩) ?_ ?_; rotate_left
        · intro w'
          go_simp; (with_reducible rfl)
        rotate_left
        · simp only [Act.put, pa11_1, pa11_2, pa11_3, i64_w, i32_w]
          rfl
        refine pure_ (i := 12) (N := some 35) (v := ?_) (a' := ?_) #[true, true, true, true, true, true, true, true, true, true, false, false, true, false, false, false, false] rfl rfl (any_of HT_.out (by kernel_rfl)) (fun _ _ _ h => h) (Or.inl ⟨by rfl, ?_⟩) ?_ ?_; rotate_left
        · intro w'
          go_simp; (with_reducible rfl)
        rotate_left
        · simp only [Act.put, pa11_1, pa11_2, pa11_3, i64_w, i32_w]
          rfl
        refine take_ (i := 13) (N := some 36) (v := ?_) (a' := ?_) #[true, true, true, true, true, true, true, true, true, true, false, false, true, true, false, false, false] rfl rfl (take_ofW HT_.out HW_.out (by kernel_rfl)) (fun _ _ _ h => h) (Or.inl ⟨by rfl, ?_⟩) hHeld ?_ ?_; rotate_left
        · rintro w' ⟨s0, s1, s2⟩
          go_simp; (with_reducible rfl)
        rotate_left
        · simp only [Act.put, pa11_1, pa11_2, pa11_3, i64_w, i32_w]
          rfl
        refine one_ (i := 10) (N := some 33) #[true, true, true, true, true, true, true, true, true, true, true, false, true, true, false, false, false] rfl rfl (one_of HT_.out (by kernel_rfl)) (by decide) (fun K hK => ?_); refine goes_ Tryd.func8 (by kernel_rfl) rfl #[.slice Ao9 t351.length co9, .int .i64 t352] (by rfl) rfl rfl d11_2 ?_; (with_reducible refine (impl_PartsOf.calls kj2 _ _ t351 t352 t366 t367 _ ?side1 ?side2 A18.out).mono ?_)
        (case side1 => exact c11_8)
        (case side2 => exact (Kd.R_reads' HO354.out).2.1)
        rintro e w22 ⟨v368, rfl, ho0, hb⟩; refine ⟨_, rfl, ?_⟩; have n0_ := ak (Kd.R_below d11_11 hb); have n1_ := ak (Kd.R_below d11_12 hb); have n2_ := ak (Kd.R_below (by (with_reducible repeat (first | apply Kd.R_alloc | apply Kd.R_drewN | apply Kd.R_drew)); exact HO365.out) hb); have n3_ := ak (Kd.R_lower ho0 (below_size d11_4)); have n4_ := ak (blk_below (g := gb360) (o := .cells #[.int .i64 t355, .int .i64 t356, .slice Ao13 t357.length co13] 28 (0, 0)) d11_3 hb); have n5_ := ak (below_step d11_4 hb); clear HO354; clear HO359; clear HO365; clear BK360; clear HB; have HO354 := n0_; have HO359 := n1_; have HO365 := n2_; have HO369 := n3_; have BK360 := n4_; have HB := n5_; clear n0_ n1_ n2_ n3_ n4_ n5_
        (try clear hb)
        (try clear hb2)
        (try clear hk)
        (try clear hi)
        (try clear ho0)
        refine hK.out _ _ ⟨(blk_cell BK360.out 0).trans rfl, (blk_cell BK360.out 1).trans rfl, (blk_cell BK360.out 2).trans rfl⟩ (fun hHeld => ?_); clear hK K; refine norm_ (a' := ?_) ?_ ?_; rotate_left
        · show Act.put _ (some 33) _ = _
          simp only [Act.put, pa11_1, pa11_2, pa11_3, i64_w, i32_w]; rfl
        refine pure_ (i := 11) (N := some 34) (v := ?_) (a' := ?_) m11_32 rfl rfl (any_of HT_.out (by kernel_rfl)) (fun _ _ _ h => h) (Or.inl ⟨by rfl, ?_⟩) ?_ ?_; rotate_left
        · intro w'
          go_simp; (with_reducible rfl)
        rotate_left
        · simp only [Act.put, pa11_1, pa11_2, pa11_3, i64_w, i32_w]
          rfl
        refine pure_ (i := 14) (N := some 37) (v := ?_) (a' := ?_) m11_34 rfl rfl (any_of HT_.out (by kernel_rfl)) (fun _ _ _ h => h) (Or.inl ⟨by rfl, ?_⟩) ?_ ?_; rotate_left
        · intro w'
          go_simp; (with_reducible rfl)
        rotate_left
        · simp only [Act.put, pa11_1, pa11_2, pa11_3, i64_w, i32_w]
          rfl
        refine pure_ (i := 15) (N := some 38) (v := ?_) (a' := ?_) m11_36 rfl rfl (any_of HT_.out (by kernel_rfl)) (fun _ _ _ h => h) (Or.inl ⟨by rfl, ?_⟩) ?_ ?_; rotate_left
        · intro w'
          go_simp; (with_reducible rfl)
        rotate_left
        · simp only [Act.put, pa11_1, pa11_2, pa11_3, i64_w, i32_w]
          rfl
        refine pure_ (i := 16) (N := some 2) (v := ?_) (a' := ?_) m11_64 rfl rfl (any_of HT_.out (by kernel_rfl)) (fun _ _ _ h => h) (Or.inl ⟨by rfl, ?_⟩) ?_ ?_; rotate_left
        · intro w'
          go_simp; (with_reducible rfl)
        rotate_left
        · simp only [Act.put, pa11_1, pa11_2, pa11_3, i64_w, i32_w]
          rfl
        refine done_ (done_of HT_.out (by kernel_rfl)) ?_
        try go_wp2
        go_meet
        case rel => exact ⟨_, ((t366 == t355)), d11_8, H', ⟨by have := HJ2.out; first | omega | exact Nat.le_refl _⟩, ⟨by (with_reducible repeat (first | apply Kd.R_alloc | apply Kd.R_drewN | apply Kd.R_drew)); exact Kd.R_mono HO359.out (fun _ hk => trivial)⟩, ⟨c11_3⟩, ⟨c11_4⟩⟩
       ·rw [if_neg c17] at H
        have c17b0 : (t361 == t355) = false := beq_eq_false_iff_ne.mpr c17; have c17b1 : (t361 != t355) = true := bne_iff_ne.mpr c17
        (first | rw [c17b0] | (simp only [i64_w, i32_w]; rw [c17b0]) | skip)
        have H' := ak H; clear H
        try go_wp2
        have n0_ : Aside0 (Kd.R k45 45 (((w11.setCell ⟨gb360, 0, none⟩ (.int .i64 t355)).setCell ⟨gb360, 1, none⟩ (.int .i64 t356)).setCell ⟨gb360, 2, none⟩ (.slice Ao13 t357.length co13)) w.heap.size (fun k_ => some k_ ≠ (.slice Ao13 t357.length co13 : Value).ownBlock) (.slice Ao9 t351.length co9) t351) := ⟨by (with_reducible repeat (first | apply Kd.R_alloc | apply Kd.R_drewN | apply Kd.R_drew)); exact Kd.R_mono (Kd.R_far (p := ⟨gb360, 2, none⟩) (Kd.R_far (p := ⟨gb360, 1, none⟩) (Kd.R_far (p := ⟨gb360, 0, none⟩) (Kd.R_types HO354.out BK360.out (by decide)) (fun _ hk => hk.2) (.int .i64 t355)) (fun _ hk => hk.2) (.int .i64 t356)) (fun _ hk => hk.2) (.slice Ao13 t357.length co13)) (fun _ hk => hk.1.2)⟩; have n1_ : Aside0 (Kd.R k45 45 (((w11.setCell ⟨gb360, 0, none⟩ (.int .i64 t355)).setCell ⟨gb360, 1, none⟩ (.int .i64 t356)).setCell ⟨gb360, 2, none⟩ (.slice Ao13 t357.length co13)) w.heap.size (fun k_ => some k_ ≠ (.slice Ao9 t351.length co9 : Value).ownBlock) (.slice Ao13 t357.length co13) t357) := ⟨by (with_reducible repeat (first | apply Kd.R_alloc | apply Kd.R_drewN | apply Kd.R_drew)); exact Kd.R_mono (Kd.R_far (p := ⟨gb360, 2, none⟩) (Kd.R_far (p := ⟨gb360, 1, none⟩) (Kd.R_far (p := ⟨gb360, 0, none⟩) (Kd.R_types HO359.out BK360.out (by decide)) (fun _ hk => hk.2) (.int .i64 t355)) (fun _ hk => hk.2) (.int .i64 t356)) (fun _ hk => hk.2) (.slice Ao13 t357.length co13)) (fun _ hk => hk.1.2)⟩
        have n2_ : Aside0 ((((w11.setCell ⟨gb360, 0, none⟩ (.int .i64 t355)).setCell ⟨gb360, 1, none⟩ (.int .i64 t356)).setCell ⟨gb360, 2, none⟩ (.slice Ao13 t357.length co13)).heap[gb360]? = some (.cells #[.int .i64 t355, .int .i64 t356, .slice Ao13 t357.length co13] 28 (0, 0))) := ⟨by (with_reducible repeat first | apply b11N | apply b11D | apply b11L); refine blk_put (cs := #[.int .i64 t355, .int .i64 t356, .slice none 0 0]) ?_ 2 _ rfl; (with_reducible repeat first | apply b11N | apply b11D | apply b11L); refine blk_put (cs := #[.int .i64 t355, .int .i64 0, .slice none 0 0]) ?_ 1 _ rfl; (with_reducible repeat first | apply b11N | apply b11D | apply b11L); refine blk_put (cs := #[.int .i64 0, .int .i64 0, .slice none 0 0]) ?_ 0 _ rfl; (with_reducible repeat first | apply b11N | apply b11D | apply b11L); exact BK360.out⟩; have n3_ : Aside0 (Below w.heap.size w (((w11.setCell ⟨gb360, 0, none⟩ (.int .i64 t355)).setCell ⟨gb360, 1, none⟩ (.int .i64 t356)).setCell ⟨gb360, 2, none⟩ (.slice Ao13 t357.length co13))) := ⟨c11_4⟩
        (try clear HO354)
        (try clear HO359)
        (try clear BK360)
        (try clear HB)
        generalize (((w11.setCell ⟨gb360, 0, none⟩ (.int .i64 t355)).setCell ⟨gb360, 1, none⟩ (.int .i64 t356)).setCell ⟨gb360, 2, none⟩ (.slice Ao13 t357.length co13)) = w23 at n0_ n1_ n2_ n3_ ⊢; have HO354 := n0_; have HO359 := n1_; have BK360 := n2_; have HB := n3_; clear n0_ n1_ n2_ n3_; have n0_ := ak (Kd.R_drew HO354.out); have n1_ := ak (Kd.R_drew HO359.out); have n2_ := ak (blk_drew BK360.out); have n3_ := ak (below_drew1 HB.out); clear HO354; clear HO359; clear BK360; clear HB; have HO354 := n0_; have HO359 := n1_; have BK360 := n2_; have HB := n3_; clear n0_ n1_ n2_ n3_; refine start_ (n := 17) (S := fun w' => w'.cell? ⟨gb360, 0, none⟩ = some (.int .i64 t355) ∧ w'.cell? ⟨gb360, 1, none⟩ = some (.int .i64 t356) ∧ w'.cell? ⟨gb360, 2, none⟩ = some (.slice Ao13 t357.length co13)) (ds := []) m11_1 (by kernel_rfl) rfl rfl ⟨(blk_cell BK360.out 0).trans rfl, (blk_cell BK360.out 1).trans rfl, (blk_cell BK360.out 2).trans rfl⟩ (fun hHeld => ?_); refine with_tabW laws_FnParts.tab6 laws_FnParts.bits6 (fun HT_ HW_ => ?_); generalize w23.drew = w24 at HO354 HO359 BK360 HB hHeld ⊢; refine pure_ (i := 0) (N := some 23) (v := ?_) (a' := ?_) m11_3 rfl rfl (any_of HT_.out (by kernel_rfl)) (fun _ _ _ h => h) (Or.inl ⟨by rfl, ?_⟩) ?_ ?_; rotate_left
        · intro w'
          go_simp; (with_reducible rfl)
        rotate_left
        · simp only [Act.put, pa11_1, pa11_2, pa11_3, i64_w, i32_w]
          rfl
        refine pure_ (i := 1) (N := some 24) (v := ?_) (a' := ?_) m11_5 rfl rfl (any_of HT_.out (by kernel_rfl)) (fun _ _ _ h => h) (Or.inl ⟨by rfl, ?_⟩) ?_ ?_; rotate_left
        · intro w'
          go_simp; (with_reducible rfl)
        rotate_left
        · simp only [Act.put, pa11_1, pa11_2, pa11_3, i64_w, i32_w]
          rfl
        refine pure_ (i := 4) (N := some 27) (v := ?_) (a' := ?_) m11_6 rfl rfl (any_of HT_.out (by kernel_rfl)) (fun _ _ _ h => h) (Or.inl ⟨by rfl, ?_⟩) ?_ ?_; rotate_left
        · intro w'
          go_simp; (with_reducible rfl)
        rotate_left
        · simp only [Act.put, pa11_1, pa11_2, pa11_3, i64_w, i32_w]
          rfl
        refine take_ (i := 5) (N := some 28) (v := ?_) (a' := ?_) m11_7 rfl rfl (take_ofW HT_.out HW_.out (by kernel_rfl)) (fun _ _ _ h => h) (Or.inl ⟨by rfl, ?_⟩) hHeld ?_ ?_; rotate_left
        · rintro w' ⟨s0, s1, s2⟩
          go_simp; (with_reducible rfl)
        rotate_left
        · simp only [Act.put, pa11_1, pa11_2, pa11_3, i64_w, i32_w]
          rfl
        refine one_ (i := 2) (N := some 25) m11_9 rfl rfl (one_of HT_.out (by kernel_rfl)) (by decide) (fun K hK => ?_); refine goes_ Tryd.func7 (by kernel_rfl) rfl #[.slice Ao9 t351.length co9, .int .i64 t352] (by rfl) rfl rfl d11_2 ?_; (with_reducible refine (spec_SubData.calls kj2 _ _ t351 t352 t361 t362 t363 _ ?side1 ?side2 A16.out).mono ?_)
        (case side1 => exact c11_8)
        (case side2 => exact (Kd.R_reads' HO354.out).2.1)
        rintro e w25 ⟨v364, rfl, ho0, hb⟩; refine ⟨_, rfl, ?_⟩; have n0_ := ak (Kd.R_elder' d11_11 (Kd.R_base ho0) hb); have n1_ := ak (Kd.R_elder' d11_12 (Kd.R_base ho0) hb); have n2_ := ak (Kd.R_lower (Kd.R_new' (Kd.R_new' ho0 (Kd.R_lt d11_11)) (Kd.R_lt d11_12)) (below_size d11_4)); have n3_ := ak (blk_below (g := gb360) (o := .cells #[.int .i64 t355, .int .i64 t356, .slice Ao13 t357.length co13] 28 (0, 0)) d11_3 hb); have n4_ := ak (below_step d11_4 hb); clear HO354; clear HO359; clear BK360; clear HB; have HO354 := n0_; have HO359 := n1_; have HO365 := n2_; have BK360 := n3_; have HB := n4_; clear n0_ n1_ n2_ n3_ n4_
        (try clear hb)
        (try clear hb2)
        (try clear hk)
        (try clear hi)
        (try clear ho0)
        refine hK.out _ _ ⟨(blk_cell BK360.out 0).trans rfl, (blk_cell BK360.out 1).trans rfl, (blk_cell BK360.out 2).trans rfl⟩ (fun hHeld => ?_); clear hK K; refine norm_ (a' := ?_) ?_ ?_; rotate_left
        · show Act.put _ (some 25) _ = _
          simp only [Act.put, pa11_1, pa11_2, pa11_3, i64_w, i32_w]; rfl
        refine pure_ (i := 3) (N := some 26) (v := ?_) (a' := ?_) m11_13 rfl rfl (any_of HT_.out (by kernel_rfl)) (fun _ _ _ h => h) (Or.inl ⟨by rfl, ?_⟩) ?_ ?_; rotate_left
        · intro w'
          go_simp; (with_reducible rfl)
        rotate_left
        · simp only [Act.put, pa11_1, pa11_2, pa11_3, i64_w, i32_w]
          rfl
        refine pure_ (i := 6) (N := some 29) (v := ?_) (a' := ?_) m11_15 rfl rfl (any_of HT_.out (by kernel_rfl)) (fun _ _ _ h => h) (Or.inl ⟨by rfl, ?_⟩) ?_ ?_; rotate_left
        · intro w'
          go_simp; (with_reducible rfl)
        rotate_left
        · simp only [Act.put, pa11_1, pa11_2, pa11_3, i64_w, i32_w]
          rfl
        refine pure_ (i := 7) (N := some 30) (v := ?_) (a' := ?_) m11_17 rfl rfl (any_of HT_.out (by kernel_rfl)) (fun _ _ _ h => h) (Or.inl ⟨by rfl, ?_⟩) ?_ ?_; rotate_left
        · intro w'
          go_simp; (with_reducible rfl)
        rotate_left
        · simp only [Act.put, pa11_1, pa11_2, pa11_3, i64_w, i32_w]
          rfl
        refine pure_ (i := 8) (N := some 31) (v := undef) (a' := ?_) m11_19 rfl rfl (any_of HT_.out (by kernel_rfl)) (fun _ _ _ h => h) (Or.inr ⟨by rfl, rfl⟩) ?_ ?_; rotate_left
        · simp only [Act.put, pa11_1, pa11_2, pa11_3, i64_w, i32_w]
          rfl
        refine pure_ (i := 9) (N := some 32) (v := undef) (a' := ?_) m11_21 rfl rfl (any_of HT_.out (by kernel_rfl)) (fun _ _ _ h => h) (Or.inr ⟨by rfl, rfl⟩) ?_ ?_; rotate_left
        · simp only [Act.put, pa11_1, pa11_2, pa11_3, i64_w, i32_w]
          rfl
        refine pure_ (i := 10) (N := some 33) (v := undef) (a' := ?_) #[true, true, true, true, true, true, true, true, true, true, true, false, false, false, false, false, false] rfl rfl (any_of HT_.out (by kernel_rfl)) (fun _ _ _ h => h) (Or.inr ⟨by rfl, rfl⟩) ?_ ?_; rotate_left
        · simp only [Act.put, pa11_1, pa11_2, pa11_3, i64_w, i32_w]
          rfl
        refine pure_ (i := 11) (N := some 34) (v := undef) (a' := ?_) #[true, true, true, true, true, true, true, true, true, true, true, true, false, false, false, false, false] rfl rfl (any_of HT_.out (by kernel_rfl)) (fun _ _ _ h => h) (Or.inr ⟨by rfl, rfl⟩) ?_ ?_; rotate_left
        · simp only [Act.put, pa11_1, pa11_2, pa11_3, i64_w, i32_w]
          rfl
        refine pure_ (i := 12) (N := some 35) (v := undef) (a' := ?_) #[true, true, true, true, true, true, true, true, true, true, true, true, true, false, false, false, false] rfl rfl (any_of HT_.out (by kernel_rfl)) (fun _ _ _ h => h) (Or.inr ⟨by rfl, rfl⟩) ?_ ?_; rotate_left
        · simp only [Act.put, pa11_1, pa11_2, pa11_3, i64_w, i32_w]
          rfl
        refine pure_ (i := 13) (N := some 36) (v := undef) (a' := ?_) m11_32 rfl rfl (any_of HT_.out (by kernel_rfl)) (fun _ _ _ h => h) (Or.inr ⟨by rfl, rfl⟩) ?_ ?_; rotate_left
        · simp only [Act.put, pa11_1, pa11_2, pa11_3, i64_w, i32_w]
          rfl
        refine pure_ (i := 14) (N := some 37) (v := undef) (a' := ?_) m11_34 rfl rfl (any_of HT_.out (by kernel_rfl)) (fun _ _ _ h => h) (Or.inr ⟨by rfl, rfl⟩) ?_ ?_; rotate_left
        · simp only [Act.put, pa11_1, pa11_2, pa11_3, i64_w, i32_w]
          rfl
        refine pure_ (i := 15) (N := some 38) (v := ?_) (a' := ?_) m11_36 rfl rfl (any_of HT_.out (by kernel_rfl)) (fun _ _ _ h => h) (Or.inl ⟨by rfl, ?_⟩) ?_ ?_; rotate_left
        · intro w'
          go_simp; (with_reducible rfl)
        rotate_left
        · simp only [Act.put, pa11_1, pa11_2, pa11_3, i64_w, i32_w]
          rfl
        refine pure_ (i := 16) (N := some 2) (v := ?_) (a' := ?_) m11_64 rfl rfl (any_of HT_.out (by kernel_rfl)) (fun _ _ _ h => h) (Or.inl ⟨by rfl, ?_⟩) ?_ ?_; rotate_left
        · intro w'
          go_simp; (with_reducible rfl)
        rotate_left
        · simp only [Act.put, pa11_1, pa11_2, pa11_3, i64_w, i32_w]
          rfl
        refine done_ (done_of HT_.out (by kernel_rfl)) ?_
        try go_wp2
        go_meet
        case rel => exact ⟨_, (false), d11_8, H', ⟨by have := HJ2.out; first | omega | exact Nat.le_refl _⟩, ⟨by (with_reducible repeat (first | apply Kd.R_alloc | apply Kd.R_drewN | apply Kd.R_drew)); exact Kd.R_mono HO359.out (fun _ hk => trivial)⟩, ⟨c11_3⟩, ⟨c11_4⟩⟩
      case rest =>
       clear HC15
       (try clear c1); (try clear p2); (try clear c3); (try clear c4); (try clear c5); (try clear c6); (try clear c14); (try clear c14b0); (try clear c14b1); (try clear hcz12_0); (try clear hcz12_1); (try clear hcz12_2); (try clear hfz12_0); (try clear hfz12_1); (try clear hfz12_2)
       obtain ⟨kq, x2_14, rfl, HA, HJ14, HO_361002, BK360, HB⟩ := hcut
       cases kq with
       | zero => exact absurd HA.out (by simp [laws_FnParts.j1])
       | succ kj14 =>
        have H := HA.out; clear HA; simp only [laws_FnParts.j1] at H; obtain rfl := Option.some.inj H; go_wp2; go_ret; exact ⟨by first | rfl | (simp [errW_none, errW_some] <;> rfl) | (simp [*, errW_none, errW_some] <;> rfl), c11_4⟩
    case rest =>
     clear HC7
     (try clear p2); (try clear c3); (try clear c4); (try clear c5); (try clear c6); (try clear hcz12_0); (try clear hcz12_1); (try clear hcz12_2); (try clear hfz12_0); (try clear hfz12_1); (try clear hfz12_2)
     obtain ⟨kq, HA, HJ6, HO_3, HO_361002, BK360, HB⟩ := hcut
     cases kq with
     | zero => exact absurd HA.out (by simp [laws_FnParts.j2])
     | succ kj6 =>
      have H := HA.out; clear HA; simp only [laws_FnParts.j2] at H; replace H := Option.bind_eq_some_iff.mp H; obtain ⟨⟨t370, t371⟩, A260, H⟩ := H; (try dsimp -simprocs only at H); have A26 := ak A260; clear A260; have HC27 := ak H; clear H
      go_upto_block 0 with (first | ((with_reducible refine gate_callee (f := 8) rfl ?_); refine goesL_ (some 41) rfl rfl Tryd.func8 (by kernel_rfl) rfl #[.slice Ao9 t351.length co9, .int .i64 t352] rfl d11_2 ?_; (with_reducible refine (impl_PartsOf.calls kj6 _ _ t351 t352 t370 t371 _ ?side1 ?side2 A26.out).mono ?_); (case side1 => exact c11_9); (case side2 => exact (Kd.R_reads' HO_3.out).2.1); rintro e w28 ⟨v372, rfl, ho0, hb⟩; refine ⟨_, rfl, ?_⟩; have n0_ := ak (Kd.R_below d11_6 hb); have n1_ := ak (Kd.R_below d11_5 hb); have n2_ := ak (Kd.R_lower ho0 (below_size d11_4)); have n3_ := ak (blk_below (g := gb360) (o := .cells #[.int .i64 t355, .int .i64 t356, .slice Ao13 t357.length co13] 28 (0, 0)) d11_3 hb); have n4_ := ak (below_step d11_4 hb); clear HO_3 HO_361002 BK360 HB; have HO_3 := n0_; have HO_361002 := n1_; have HO373 := n2_; have BK360 := n3_; have HB := n4_; clear n0_ n1_ n2_ n3_ n4_; (try clear hb); (try clear ho0)) | ((with_reducible refine gate_dst (N := 6) rfl ?_); refine box_event ?hg (N := 6) ?hd (cs := #[.int .i64 0, .slice none 0 0]) (t := 32) ?hr ?_; (case hd => rfl); (case hg => rfl); (case hr => first | (go_simp; done) | (go_simp; rfl)); intro gb374 hg w29 hbox hb; have n0_ := ak (Kd.R_below d11_6 hb); have n1_ := ak (Kd.R_below d11_5 hb); have n2_ := ak (Kd.R_below (by (with_reducible repeat (first | apply Kd.R_alloc | apply Kd.R_drewN | apply Kd.R_drew)); exact HO373.out) hb); have n3_ := ak (blk_below (g := gb360) (o := .cells #[.int .i64 t355, .int .i64 t356, .slice Ao13 t357.length co13] 28 (0, 0)) d11_3 hb); have n4_ := ak (below_step d11_4 hb); have n5_ := ak (hbox); have n6_ := ak ((by rw [hg]; exact (below_size d11_4) : w.heap.size ≤ gb374)); have n7_ := ak ((by rw [hg]; exact (below_size d11_4) : w.heap.size ≤ gb374)); have n8_ := ak ((by rw [hg]; exact Nat.ne_of_lt (blk_lt (g := gb360) (o := .cells #[.int .i64 t355, .int .i64 t356, .slice Ao13 t357.length co13] 28 (0, 0)) d11_3) : gb360 ≠ gb374)); have n9_ := ak ((by rw [hg]; exact Nat.ne_of_gt (blk_lt (g := gb360) (o := .cells #[.int .i64 t355, .int .i64 t356, .slice Ao13 t357.length co13] 28 (0, 0)) d11_3) : gb374 ≠ gb360)); clear HO_3 HO_361002 HO373 BK360 HB; have HO_3 := n0_; have HO_361002 := n1_; have HO373 := n2_; have BK360 := n3_; have HB := n4_; have BK374 := n5_; have GW374 := n6_; have GE374 := n7_; have NB360_374 := n8_; have NB374_360 := n9_; clear n0_ n1_ n2_ n3_ n4_ n5_ n6_ n7_ n8_ n9_ hb hbox hg; have hnb30 := NB374_360.out; have hnc30 := NB360_374.out; have hcz31_0 := z11c BK374.out 0 (v := (.int .i64 0)) rfl; have hcz31_1 := z11c BK374.out 1 (v := (.slice none 0 0)) rfl; have hfz31_0 := blk_frozen BK374.out 0; have hfz31_1 := blk_frozen BK374.out 1; obtain ⟨Ao32, co32, eo32⟩ := Kd.R_slice HO373.out; subst eo32))
      (try simp only [Act.put, pa11_1, pa11_2, pa11_3])
      go_cut [7] (fun v7 wc => ∃ (kq : Nat) (x7_26 : Int), v7 = .int .i64 x7_26 ∧ Aside0 (laws_FnParts.j6 kq t351 t352 x7_26 t355 t356 t357 t370 t371 = some r) ∧ Aside0 (kq ≤ kj6) ∧ Aside0 (Kd.R k45 45 wc w.heap.size (fun k_ => some k_ ≠ ((.slice Ao13 t357.length co13) : Value).ownBlock) (.slice Ao9 t351.length co9) t351) ∧ Aside0 (Kd.R k45 45 wc w.heap.size (fun k_ => some k_ ≠ ((.slice Ao9 t351.length co9) : Value).ownBlock) (.slice Ao13 t357.length co13) t357) ∧ Aside0 (Kd.R (Kd.int .i64) 2 wc w.heap.size (fun _ => True) (.slice Ao32 t371.length co32) t371) ∧ Aside0 (wc.heap[gb360]? = some (.cells #[.int .i64 t355, .int .i64 t356, (.slice Ao13 t357.length co13)] 28 (0, 0))) ∧ Aside0 (wc.heap[gb374]? = some (.cells #[.int .i64 t370, (.slice Ao32 t371.length co32)] 32 (0, 0))) ∧ Aside0 (Below w.heap.size w wc))
      case first =>
       have H := HC27.out; clear HC27; have H' := ak H; clear H; go_wp2; go_loopg [7, 8] kj6 (fun kq v7 v8 w' => ∃ (x7_3 : Int) (x8_3 : Int), v7 = .int .i64 x7_3 ∧ v8 = .int .i64 x8_3 ∧ Aside0 (laws_FnParts.l0 kq t351 t352 x7_3 x8_3 t355 t356 t357 t370 t371 = some r) ∧ Aside0 (kq ≤ kj6) ∧ Aside0 (Kd.R k45 45 w' w.heap.size (fun k_ => some k_ ≠ ((.slice Ao13 t357.length co13) : Value).ownBlock) (.slice Ao9 t351.length co9) t351) ∧ Aside0 (Kd.R k45 45 w' w.heap.size (fun k_ => some k_ ≠ ((.slice Ao9 t351.length co9) : Value).ownBlock) (.slice Ao13 t357.length co13) t357) ∧ Aside0 (Kd.R (Kd.int .i64) 2 w' w.heap.size (fun _ => True) (.slice Ao32 t371.length co32) t371) ∧ Aside0 (w'.heap[gb360]? = some (.cells #[.int .i64 t355, .int .i64 t356, (.slice Ao13 t357.length co13)] 28 (0, 0))) ∧ Aside0 (w'.heap[gb374]? = some (.cells #[.int .i64 t370, (.slice Ao32 t371.length co32)] 32 (0, 0))) ∧ Aside0 (Below w.heap.size w w'))
       case atStart => exact ⟨(1), (0), d11_8, d11_8, H', ⟨Nat.le_refl _⟩, ⟨by (with_reducible repeat (first | apply Kd.R_alloc | apply Kd.R_drewN | apply Kd.R_drew)); exact Kd.R_mono (Kd.R_far (p := ⟨gb374, 1, none⟩) (Kd.R_far (p := ⟨gb374, 0, none⟩) (Kd.R_types HO_3.out BK374.out (by decide)) (fun _ hk => hk.2) (.int .i64 t370)) (fun _ hk => hk.2) (.slice Ao32 t371.length co32)) (fun _ hk => hk.1)⟩, ⟨by (with_reducible repeat (first | apply Kd.R_alloc | apply Kd.R_drewN | apply Kd.R_drew)); exact Kd.R_mono (Kd.R_far (p := ⟨gb374, 1, none⟩) (Kd.R_far (p := ⟨gb374, 0, none⟩) (Kd.R_types HO_361002.out BK374.out (by decide)) (fun _ hk => hk.2) (.int .i64 t370)) (fun _ hk => hk.2) (.slice Ao32 t371.length co32)) (fun _ hk => hk.1)⟩, ⟨by (with_reducible repeat (first | apply Kd.R_alloc | apply Kd.R_drewN | apply Kd.R_drew)); exact Kd.R_mono (Kd.R_far (p := ⟨gb374, 1, none⟩) (Kd.R_far (p := ⟨gb374, 0, none⟩) (Kd.R_types HO373.out BK374.out (by decide)) (fun _ hk => hk.2) (.int .i64 t370)) (fun _ hk => hk.2) (.slice Ao32 t371.length co32)) (fun _ hk => trivial)⟩, ⟨by (with_reducible repeat first | apply b11N | apply b11D | apply b11L); refine blk_far ?_ NB360_374.out _; (with_reducible repeat first | apply b11N | apply b11D | apply b11L); refine blk_far ?_ NB360_374.out _; (with_reducible repeat first | apply b11N | apply b11D | apply b11L); exact BK360.out⟩, ⟨by (with_reducible repeat first | apply b11N | apply b11D | apply b11L); refine blk_put (cs := #[.int .i64 t370, .slice none 0 0]) ?_ 1 _ rfl; (with_reducible repeat first | apply b11N | apply b11D | apply b11L); refine blk_put (cs := #[.int .i64 0, .slice none 0 0]) ?_ 0 _ rfl; (with_reducible repeat first | apply b11N | apply b11D | apply b11L); exact BK374.out⟩, ⟨c11_1⟩⟩
       case round =>
        clear H'
        (try clear c1); (try clear p2); (try clear c3); (try clear c4); (try clear c5); (try clear c6); (try clear c7); (try clear c8); (try clear c14); (try clear c14b0); (try clear c14b1); (try clear c17); (try clear c17b0); (try clear c17b1); (try clear c30); (try clear hcz12_0); (try clear hcz12_1); (try clear hcz12_2); (try clear hcz31_0); (try clear hcz31_1); (try clear hfz12_0); (try clear hfz12_1); (try clear hfz12_2); (try clear hfz31_0); (try clear hfz31_1); (try clear p2)
        obtain ⟨x7_3, x8_3, rfl, rfl, HA, HK3, HO_3, HO_361002, HO_375001, BK360, BK374, HB⟩ := hrel
        cases gk with
        | zero => exact absurd HA.out (by simp [laws_FnParts.l0])
        | succ k3 =>
         have H := HA.out; clear HA; simp only [laws_FnParts.l0] at H; have HC33 := ak H; clear H; have hnb34 := NB374_360.out; have hnc34 := NB360_374.out; have hcz35_0 := z11c BK374.out 0 (v := (.int .i64 t370)) rfl; have hcz35_1 := z11c BK374.out 1 (v := (.slice Ao32 t371.length co32)) rfl; have hfz35_0 := blk_frozen BK374.out 0; have hfz35_1 := blk_frozen BK374.out 1; go_upto_if 46 with (fail); go_cut [] (fun wc => ∃ (kq : Nat), Aside0 (laws_FnParts.j4 kq t351 t352 x7_3 x8_3 t355 t356 t357 t370 t371 = some r) ∧ Aside0 (kq ≤ k3) ∧ Aside0 (Kd.R k45 45 wc w.heap.size (fun k_ => some k_ ≠ ((.slice Ao13 t357.length co13) : Value).ownBlock) (.slice Ao9 t351.length co9) t351) ∧ Aside0 (Kd.R k45 45 wc w.heap.size (fun k_ => some k_ ≠ ((.slice Ao9 t351.length co9) : Value).ownBlock) (.slice Ao13 t357.length co13) t357) ∧ Aside0 (Kd.R (Kd.int .i64) 2 wc w.heap.size (fun _ => True) (.slice Ao32 t371.length co32) t371) ∧ Aside0 (wc.heap[gb360]? = some (.cells #[.int .i64 t355, .int .i64 t356, (.slice Ao13 t357.length co13)] 28 (0, 0))) ∧ Aside0 (wc.heap[gb374]? = some (.cells #[.int .i64 t370, (.slice Ao32 t371.length co32)] 32 (0, 0))) ∧ Aside0 (Below w.heap.size w wc))
         case first =>
          have H := HC33.out; clear HC33; by_cases c36 : x8_3 < (t371.length : Int)
          ·rw [if_pos c36] at H
           have c36b0 : decide (x8_3 < (t371.length : Int)) = true := decide_eq_true c36; clear c36
           (first | rw [c36b0] | (simp only [i64_w, i32_w]; rw [c36b0]) | skip)
           have H' := ak H; clear H; go_wp2; go_meet
           case rel => exact ⟨_, H', ⟨by have := HJ2.out; have := HJ6.out; have := HK3.out; first | omega | exact Nat.le_refl _⟩, ⟨by (with_reducible repeat (first | apply Kd.R_alloc | apply Kd.R_drewN | apply Kd.R_drew)); exact HO_3.out⟩, ⟨by (with_reducible repeat (first | apply Kd.R_alloc | apply Kd.R_drewN | apply Kd.R_drew)); exact HO_361002.out⟩, ⟨c11_6⟩, ⟨c11_3⟩, ⟨c11_5⟩, ⟨c11_1⟩⟩
          ·rw [if_neg c36] at H
           have c36b0 : decide (x8_3 < (t371.length : Int)) = false := decide_eq_false c36; clear c36
           (first | rw [c36b0] | (simp only [i64_w, i32_w]; rw [c36b0]) | skip)
           have H' := ak H; clear H; go_wp2; go_meet
           case rel => exact ⟨_, (x7_3), d11_8, H', ⟨by have := HJ2.out; have := HJ6.out; have := HK3.out; first | omega | exact Nat.le_refl _⟩, ⟨by (with_reducible repeat (first | apply Kd.R_alloc | apply Kd.R_drewN | apply Kd.R_drew)); exact HO_3.out⟩, ⟨by (with_reducible repeat (first | apply Kd.R_alloc | apply Kd.R_drewN | apply Kd.R_drew)); exact HO_361002.out⟩, ⟨c11_6⟩, ⟨c11_3⟩, ⟨c11_5⟩, ⟨c11_1⟩⟩
         case rest =>
          clear HC33
          (try clear c1); (try clear p2); (try clear c3); (try clear c4); (try clear c5); (try clear c6); (try clear c7); (try clear c8); (try clear c14); (try clear c14b0); (try clear c14b1); (try clear c17); (try clear c17b0); (try clear c17b1); (try clear c30); (try clear c34); (try clear hcz12_0); (try clear hcz12_1); (try clear hcz12_2); (try clear hcz31_0); (try clear hcz31_1); (try clear hcz35_0); (try clear hcz35_1); (try clear hfz12_0); (try clear hfz12_1); (try clear hfz12_2); (try clear hfz31_0); (try clear hfz31_1); (try clear hfz35_0); (try clear hfz35_1); (try clear p2)
          obtain ⟨kq, HA, HJ32, HO_3, HO_361002, HO_375001, BK360, BK374, HB⟩ := hcut
          cases kq with
          | zero => exact absurd HA.out (by simp [laws_FnParts.j4])
          | succ kj32 =>
           have H := HA.out; clear HA; simp only [laws_FnParts.j4] at H; have HC37 := ak H; clear H; go_upto_block 1 with (fail); go_cut [7] (fun v7 wc => ∃ (kq : Nat) (x7_36 : Int), v7 = .int .i64 x7_36 ∧ Aside0 (laws_FnParts.j5 kq t351 t352 x7_36 x8_3 t355 t356 t357 t370 t371 = some r) ∧ Aside0 (kq ≤ kj32) ∧ Aside0 (Kd.R k45 45 wc w.heap.size (fun k_ => some k_ ≠ ((.slice Ao13 t357.length co13) : Value).ownBlock) (.slice Ao9 t351.length co9) t351) ∧ Aside0 (Kd.R k45 45 wc w.heap.size (fun k_ => some k_ ≠ ((.slice Ao9 t351.length co9) : Value).ownBlock) (.slice Ao13 t357.length co13) t357) ∧ Aside0 (Kd.R (Kd.int .i64) 2 wc w.heap.size (fun _ => True) (.slice Ao32 t371.length co32) t371) ∧ Aside0 (wc.heap[gb360]? = some (.cells #[.int .i64 t355, .int .i64 t356, (.slice Ao13 t357.length co13)] 28 (0, 0))) ∧ Aside0 (wc.heap[gb374]? = some (.cells #[.int .i64 t370, (.slice Ao32 t371.length co32)] 32 (0, 0))) ∧ Aside0 (Below w.heap.size w wc))
           case first =>
            have H := HC37.out; clear HC37; by_cases c38 : 0 ≤ x8_3
            ·rw [if_pos c38] at H
             have c38b0 : decide (0 ≤ x8_3) = true := decide_eq_true c38; clear c38
             (first | rw [c38b0] | (simp only [i64_w, i32_w]; rw [c38b0]) | skip)
             by_cases c39 : x8_3 < (t371.length : Int)
             ·rw [if_pos c39] at H
              have c39b0 : decide (x8_3 < (t371.length : Int)) = true := decide_eq_true c39; clear c39; replace H := Option.bind_eq_some_iff.mp H; obtain ⟨⟨t376, t377, t378⟩, A400, H⟩ := H; (try dsimp -simprocs only at H); have A40 := ak A400; clear A400; have H' := ak H; clear H; have hnb41 := NB374_360.out; have hnc41 := NB360_374.out; have hcz42_0 := z11c BK374.out 0 (v := (.int .i64 t370)) rfl; have hcz42_1 := z11c BK374.out 1 (v := (.slice Ao32 t371.length co32)) rfl; have hfz42_0 := blk_frozen BK374.out 0; have hfz42_1 := blk_frozen BK374.out 1; have p375 : 0 ≤ (x8_3 : Int) := of_decide_eq_true (by first | (with_reducible assumption) | assumption); have q375 : x8_3 < (t371.length : Int) := of_decide_eq_true (by first | (with_reducible assumption) | assumption); obtain ⟨ad375, e375, hx375_0⟩ := Kd.at_int (Kd.R_reads' HO_375001.out).2.2 x8_3 p375 q375
              cases e375
              replace p375 := eq_true p375; replace q375 := eq_true q375
              go_wp2_with (first | ((with_reducible refine gate_callee (f := 6) rfl ?_); refine goesL_ (some 55) rfl rfl Tryd.func6 (by kernel_rfl) rfl #[.slice Ao9 t351.length co9, .int .i64 (rd t371 x8_3)] rfl d11_2 ?_; (with_reducible refine (impl_SubData.calls kj32 _ _ t351 (rd t371 x8_3) t376 t377 t378 _ ?side1 ?side2 A40.out).mono ?_); (case side1 => exact c11_9); (case side2 => exact (Kd.R_reads' HO_3.out).2.1); rintro e w43 ⟨v379, rfl, ho0, hb⟩; refine ⟨_, rfl, ?_⟩; have n0_ := ak (Kd.R_elder' d11_6 (Kd.R_base ho0) hb); have n1_ := ak (Kd.R_elder' d11_5 (Kd.R_base ho0) hb); have n2_ := ak (Kd.R_below d11_9 hb); have n3_ := ak (Kd.R_lower (Kd.R_new' (Kd.R_new' ho0 (Kd.R_lt d11_6)) (Kd.R_lt d11_5)) (below_size d11_1)); have n4_ := ak (blk_below (g := gb360) (o := .cells #[.int .i64 t355, .int .i64 t356, .slice Ao13 t357.length co13] 28 (0, 0)) d11_3 hb); have n5_ := ak (blk_below (g := gb374) (o := .cells #[.int .i64 t370, .slice (some ad375) t371.length co32] 32 (0, 0)) d11_7 hb); have n6_ := ak (below_step d11_1 hb); clear HO_3 HO_361002 HO_375001 BK360 BK374 HB; have HO_3 := n0_; have HO_361002 := n1_; have HO_375001 := n2_; have HO380 := n3_; have BK360 := n4_; have BK374 := n5_; have HB := n6_; clear n0_ n1_ n2_ n3_ n4_ n5_ n6_; (try clear hb); (try clear ho0)) | ((with_reducible refine gate_dst (N := 9) rfl ?_); refine box_event ?hg (N := 9) ?hd (cs := #[.int .i64 0, .int .i64 0, .slice none 0 0]) (t := 28) ?hr ?_; (case hd => rfl); (case hg => rfl); (case hr => first | (go_simp; done) | (go_simp; rfl)); intro gb381 hg w44 hbox hb; have n0_ := ak (Kd.R_below d11_6 hb); have n1_ := ak (Kd.R_below d11_5 hb); have n2_ := ak (Kd.R_below d11_9 hb); have n3_ := ak (Kd.R_below (by (with_reducible repeat (first | apply Kd.R_alloc | apply Kd.R_drewN | apply Kd.R_drew)); exact HO380.out) hb); have n4_ := ak (blk_below (g := gb360) (o := .cells #[.int .i64 t355, .int .i64 t356, .slice Ao13 t357.length co13] 28 (0, 0)) d11_3 hb); have n5_ := ak (blk_below (g := gb374) (o := .cells #[.int .i64 t370, .slice (some ad375) t371.length co32] 32 (0, 0)) d11_7 hb); have n6_ := ak (below_step d11_1 hb); have n7_ := ak (hbox); have n8_ := ak ((by rw [hg]; exact (below_size d11_1) : w.heap.size ≤ gb381)); have n9_ := ak ((by rw [hg]; exact (below_size d11_1) : w.heap.size ≤ gb381)); have n10_ := ak ((by rw [hg]; exact Nat.ne_of_lt (blk_lt (g := gb360) (o := .cells #[.int .i64 t355, .int .i64 t356, .slice Ao13 t357.length co13] 28 (0, 0)) d11_3) : gb360 ≠ gb381)); have n11_ := ak ((by rw [hg]; exact Nat.ne_of_gt (blk_lt (g := gb360) (o := .cells #[.int .i64 t355, .int .i64 t356, .slice Ao13 t357.length co13] 28 (0, 0)) d11_3) : gb381 ≠ gb360)); have n12_ := ak ((by rw [hg]; exact Nat.ne_of_lt (blk_lt (g := gb374) (o := .cells #[.int .i64 t370, .slice (some ad375) t371.length co32] 32 (0, 0)) d11_7) : gb374 ≠ gb381)); have n13_ := ak ((by rw [hg]; exact Nat.ne_of_gt (blk_lt (g := gb374) (o := .cells #[.int .i64 t370, .slice (some ad375) t371.length co32] 32 (0, 0)) d11_7) : gb381 ≠ gb374)); clear HO_3 HO_361002 HO_375001 HO380 BK360 BK374 HB; have HO_3 := n0_; have HO_361002 := n1_; have HO_375001 := n2_; have HO380 := n3_; have BK360 := n4_; have BK374 := n5_; have HB := n6_; have BK381 := n7_; have GW381 := n8_; have GE381 := n9_; have NB360_381 := n10_; have NB381_360 := n11_; have NB374_381 := n12_; have NB381_374 := n13_; clear n0_ n1_ n2_ n3_ n4_ n5_ n6_ n7_ n8_ n9_ n10_ n11_ n12_ n13_ hb hbox hg; have hnb45 := NB381_360.out; have hnc45 := NB360_381.out; have hnb46 := NB381_374.out; have hnc46 := NB374_381.out; have hcz47_0 := z11c BK381.out 0 (v := (.int .i64 0)) rfl; have hcz47_1 := z11c BK381.out 1 (v := (.int .i64 0)) rfl; have hcz47_2 := z11c BK381.out 2 (v := (.slice none 0 0)) rfl; have hfz47_0 := blk_frozen BK381.out 0; have hfz47_1 := blk_frozen BK381.out 1; have hfz47_2 := blk_frozen BK381.out 2; obtain ⟨Ao48, co48, eo48⟩ := Kd.R_slice HO380.out; subst eo48))
              go_meet
              case rel => exact ⟨_, (wrap64 (x7_3 + (t378.length : Int))), d11_8, H', ⟨by have := HJ2.out; have := HJ6.out; have := HK3.out; have := HJ32.out; first | omega | exact Nat.le_refl _⟩, ⟨by (with_reducible repeat (first | apply Kd.R_alloc | apply Kd.R_drewN | apply Kd.R_drew)); exact Kd.R_mono (Kd.R_far (p := ⟨gb381, 2, none⟩) (Kd.R_far (p := ⟨gb381, 1, none⟩) (Kd.R_far (p := ⟨gb381, 0, none⟩) (Kd.R_types HO_3.out BK381.out (by decide)) (fun _ hk => hk.2) (.int .i64 t376)) (fun _ hk => hk.2) (.int .i64 t377)) (fun _ hk => hk.2) (.slice Ao48 t378.length co48)) (fun _ hk => hk.1.1)⟩, ⟨by (with_reducible repeat (first | apply Kd.R_alloc | apply Kd.R_drewN | apply Kd.R_drew)); exact Kd.R_mono (Kd.R_far (p := ⟨gb381, 2, none⟩) (Kd.R_far (p := ⟨gb381, 1, none⟩) (Kd.R_far (p := ⟨gb381, 0, none⟩) (Kd.R_types HO_361002.out BK381.out (by decide)) (fun _ hk => hk.2) (.int .i64 t376)) (fun _ hk => hk.2) (.int .i64 t377)) (fun _ hk => hk.2) (.slice Ao48 t378.length co48)) (fun _ hk => hk.1.1)⟩, ⟨by (with_reducible repeat (first | apply Kd.R_alloc | apply Kd.R_drewN | apply Kd.R_drew)); exact Kd.R_mono (Kd.R_far (p := ⟨gb381, 2, none⟩) (Kd.R_far (p := ⟨gb381, 1, none⟩) (Kd.R_far (p := ⟨gb381, 0, none⟩) (Kd.R_types HO_375001.out BK381.out (by decide)) (fun _ hk => hk.2) (.int .i64 t376)) (fun _ hk => hk.2) (.int .i64 t377)) (fun _ hk => hk.2) (.slice Ao48 t378.length co48)) (fun _ hk => trivial)⟩, ⟨by (with_reducible repeat first | apply b11N | apply b11D | apply b11L); refine blk_far ?_ NB360_381.out _; (with_reducible repeat first | apply b11N | apply b11D | apply b11L); refine blk_far ?_ NB360_381.out _; (with_reducible repeat first | apply b11N | apply b11D | apply b11L); refine blk_far ?_ NB360_381.out _; (with_reducible repeat first | apply b11N | apply b11D | apply b11L); exact BK360.out⟩, ⟨by (with_reducible repeat first | apply b11N | apply b11D | apply b11L); refine blk_far ?_ NB374_381.out _; (with_reducible repeat first | apply b11N | apply b11D | apply b11L); refine blk_far ?_ NB374_381.out _; (with_reducible repeat first | apply b11N | apply b11D | apply b11L); refine blk_far ?_ NB374_381.out _; (with_reducible repeat first | apply b11N | apply b11D | apply b11L); exact BK374.out⟩, ⟨by repeat (first | (with_reducible first | exact HB.out | apply below_alloc | apply pw_below_drewN | apply below_drew1 | refine below_set ?_ GE360.out | refine below_set ?_ GE374.out | refine below_set ?_ GE381.out) | exact HB.out)⟩⟩
             ·rw [if_neg c39] at H
              exact absurd H (by simp)
            ·rw [if_neg c38] at H
             exact absurd H (by simp)
           case rest =>
            clear HC37
            (try clear c1); (try clear p2); (try clear c3); (try clear c4); (try clear c5); (try clear c6); (try clear c7); (try clear c8); (try clear c14); (try clear c14b0); (try clear c14b1); (try clear c17); (try clear c17b0); (try clear c17b1); (try clear c30); (try clear c34); (try clear c36); (try clear c36b0); (try clear hcz12_0); (try clear hcz12_1); (try clear hcz12_2); (try clear hcz31_0); (try clear hcz31_1); (try clear hcz35_0); (try clear hcz35_1); (try clear hfz12_0); (try clear hfz12_1); (try clear hfz12_2); (try clear hfz31_0); (try clear hfz31_1); (try clear hfz35_0); (try clear hfz35_1); (try clear p2)
            obtain ⟨kq, x7_36, rfl, HA, HJ36, HO_3, HO_361002, HO_375001, BK360, BK374, HB⟩ := hcut
            cases kq with
            | zero => exact absurd HA.out (by simp [laws_FnParts.j5])
            | succ kj36 =>
             have H := HA.out; clear HA; simp only [laws_FnParts.j5] at H; have H' := ak H; clear H; go_wp2; go_roundg kj36
             case measure => have := HJ2.out; have := HJ6.out; have := HK3.out; have := HJ32.out; have := HJ36.out; omega
             case rel => exact ⟨(x7_36), (wrap64 (x8_3 + 1)), d11_8, d11_8, H', ⟨by have := HJ2.out; have := HJ6.out; have := HK3.out; have := HJ32.out; have := HJ36.out; omega⟩, ⟨by (with_reducible repeat (first | apply Kd.R_alloc | apply Kd.R_drewN | apply Kd.R_drew)); exact HO_3.out⟩, ⟨by (with_reducible repeat (first | apply Kd.R_alloc | apply Kd.R_drewN | apply Kd.R_drew)); exact HO_361002.out⟩, ⟨c11_6⟩, ⟨c11_3⟩, ⟨c11_5⟩, ⟨c11_1⟩⟩
      case rest =>
       clear HC27
       (try clear c1); (try clear p2); (try clear c3); (try clear c4); (try clear c5); (try clear c6); (try clear c7); (try clear c8); (try clear c14); (try clear c14b0); (try clear c14b1); (try clear c17); (try clear c17b0); (try clear c17b1); (try clear c30); (try clear hcz12_0); (try clear hcz12_1); (try clear hcz12_2); (try clear hcz31_0); (try clear hcz31_1); (try clear hfz12_0); (try clear hfz12_1); (try clear hfz12_2); (try clear hfz31_0); (try clear hfz31_1); (try clear p2)
       obtain ⟨kq, x7_26, rfl, HA, HJ26, HO_3, HO_361002, HO_375001, BK360, BK374, HB⟩ := hcut
       cases kq with
       | zero => exact absurd HA.out (by simp [laws_FnParts.j6])
       | succ kj26 =>
        have H := HA.out; clear HA; simp only [laws_FnParts.j6] at H; have HC49 := ak H; clear H; go_upto_region 14 with (fail); go_cut [2] (fun v2 wc => ∃ (kq : Nat) (x2_48 : Bool), v2 = .bool x2_48 ∧ Aside0 (laws_FnParts.j7 kq x2_48 = some r) ∧ Aside0 (kq ≤ kj26) ∧ Aside0 (Kd.R k45 45 wc w.heap.size (fun _ => True) (.slice Ao13 t357.length co13) t357) ∧ Aside0 (Kd.R (Kd.int .i64) 2 wc w.heap.size (fun _ => True) (.slice Ao32 t371.length co32) t371) ∧ Aside0 (wc.heap[gb360]? = some (.cells #[.int .i64 t355, .int .i64 t356, (.slice Ao13 t357.length co13)] 28 (0, 0))) ∧ Aside0 (wc.heap[gb374]? = some (.cells #[.int .i64 t370, (.slice Ao32 t371.length co32)] 32 (0, 0))) ∧ Aside0 (Below w.heap.size w wc))
        case first =>
         have H := HC49.out; clear HC49; by_cases c50 : t370 = 0
         ·rw [if_pos c50] at H
          have c50b0 : (t370 == 0) = true := beq_iff_eq.mpr c50; have c50b1 : (t370 != 0) = false := bne_eq_false_iff_eq.mpr c50; clear c50
          (first | rw [c50b0] | (simp only [i64_w, i32_w]; rw [c50b0]) | skip)
          by_cases c51 : x7_26 = (t357.length : Int)
          ·rw [if_pos c51] at H
           have c51b0 : (x7_26 == (t357.length : Int)) = true := beq_iff_eq.mpr c51; have c51b1 : (x7_26 != (t357.length : Int)) = false := bne_eq_false_iff_eq.mpr c51; clear c51; replace H := Option.bind_eq_some_iff.mp H; obtain ⟨t382, A520, H⟩ := H; (try dsimp -simprocs only at H); have A52 := ak A520; clear A520; by_cases c53 : t382 = 0
           ·rw [if_pos c53] at H
            have c53b0 : (t382 == 0) = true := beq_iff_eq.mpr c53; have c53b1 : (t382 != 0) = false := bne_eq_false_iff_eq.mpr c53; clear c53; replace H := Option.bind_eq_some_iff.mp H; obtain ⟨⟨t383, t384, t385⟩, A540, H⟩ := H; (try dsimp -simprocs only at H); have A54 := ak A540; clear A540; replace H := Option.bind_eq_some_iff.mp H; obtain ⟨t388, A550, H⟩ := H; (try dsimp -simprocs only at H); have A55 := ak A550; clear A550; by_cases c56 : t388 = true
            ·subst c56
             rw [if_pos rfl] at H; replace H := Option.bind_eq_some_iff.mp H; obtain ⟨⟨t389, t390⟩, A570, H⟩ := H; (try dsimp -simprocs only at H); have A57 := ak A570; clear A570; replace H := Option.bind_eq_some_iff.mp H; obtain ⟨⟨t391, t392⟩, A580, H⟩ := H; (try dsimp -simprocs only at H); have A58 := ak A580; clear A580; have H' := ak H; clear H
             try go_wp2
             have n0_ := ak (Kd.R_drew HO_3.out); have n1_ := ak (Kd.R_drew HO_361002.out); have n2_ := ak (Kd.R_drew HO_375001.out); have n3_ := ak (blk_drew BK360.out); have n4_ := ak (blk_drew BK374.out); have n5_ := ak (below_drew1 HB.out); clear HO_3; clear HO_361002; clear HO_375001; clear BK360; clear BK374; clear HB; have HO_3 := n0_; have HO_361002 := n1_; have HO_375001 := n2_; have BK360 := n3_; have BK374 := n4_; have HB := n5_; clear n0_ n1_ n2_ n3_ n4_ n5_; refine start_ (n := 37) (S := fun w' => w'.cell? ⟨gb374, 0, none⟩ = some (.int .i64 t370) ∧ w'.cell? ⟨gb374, 1, none⟩ = some (.slice Ao32 t371.length co32) ∧ w'.cell? ⟨gb360, 0, none⟩ = some (.int .i64 t355) ∧ w'.cell? ⟨gb360, 1, none⟩ = some (.int .i64 t356) ∧ w'.cell? ⟨gb360, 2, none⟩ = some (.slice Ao13 t357.length co13)) (ds := []) m11_0 (by kernel_rfl) rfl rfl ⟨(blk_cell BK374.out 0).trans rfl, (blk_cell BK374.out 1).trans rfl, (blk_cell BK360.out 0).trans rfl, (blk_cell BK360.out 1).trans rfl, (blk_cell BK360.out 2).trans rfl⟩ (fun hHeld => ?_); refine with_tabW laws_FnParts.tab14 laws_FnParts.bits14 (fun HT_ HW_ => ?_); generalize wc.drew = w59 at HO_3 HO_361002 HO_375001 BK360 BK374 HB hHeld ⊢
             refine pure_ (i := 0) (N := some 61) (v := ?_) (a' := ?_) m11_2 rfl rfl (any_of HT_.out (by kernel_rfl)) (fun _ _ _ h => h) (Or.inl ⟨by rfl, ?_⟩) ?_ ?_; rotate_left
             · intro w'
               go_simp; (with_reducible rfl)
             rotate_left
             · simp only [Act.put, pa11_1, pa11_2, pa11_3, i64_w, i32_w]
               rfl
             refine take_ (i := 1) (N := some 62) (v := ?_) (a' := ?_) m11_4 rfl rfl (take_ofW HT_.out HW_.out (by kernel_rfl)) (fun _ _ _ h => h) (Or.inl ⟨by rfl, ?_⟩) hHeld ?_ ?_; rotate_left
             · rintro w' ⟨s0, s1, s2, s3, s4⟩
               go_simp; (with_reducible rfl)
             rotate_left
             · simp only [Act.put, pa11_1, pa11_2, pa11_3, i64_w, i32_w]
               rfl
             refine pure_ (i := 2) (N := some 63) (v := ?_) (a' := ?_) m11_8 rfl rfl (any_of HT_.out (by kernel_rfl)) (fun _ _ _ h => h) (Or.inl ⟨by rfl, ?_⟩) ?_ ?_; rotate_left
             · intro w'
               go_simp; (with_reducible rfl)
             rotate_left
             · simp only [Act.put, pa11_1, pa11_2, pa11_3, i64_w, i32_w]
               rfl
             refine pure_ (i := 3) (N := some 64) (v := ?_) (a' := ?_) m11_10 rfl rfl (any_of HT_.out (by kernel_rfl)) (fun _ _ _ h => h) (Or.inl ⟨by rfl, ?_⟩) ?_ ?_; rotate_left
             · intro w'
               go_simp; (with_reducible rfl)
             rotate_left
             · simp only [Act.put, pa11_1, pa11_2, pa11_3, i64_w, i32_w]
               rfl
             refine pure_ (i := 4) (N := some 65) (v := ?_) (a' := ?_) m11_11 rfl rfl (any_of HT_.out (by kernel_rfl)) (fun _ _ _ h => h) (Or.inl ⟨by rfl, ?_⟩) ?_ ?_; rotate_left
             · intro w'
               go_simp; (with_reducible rfl)
             rotate_left
             · simp only [Act.put, pa11_1, pa11_2, pa11_3, i64_w, i32_w]
               rfl
             refine pure_ (i := 5) (N := some 66) (v := ?_) (a' := ?_) m11_12 rfl rfl (any_of HT_.out (by kernel_rfl)) (fun _ _ _ h => h) (Or.inl ⟨by rfl, ?_⟩) ?_ ?_; rotate_left
             · intro w'
               go_simp; (with_reducible rfl)
             rotate_left
             · simp only [Act.put, pa11_1, pa11_2, pa11_3, i64_w, i32_w]
               rfl
             refine take_ (i := 6) (N := some 67) (v := ?_) (a' := ?_) m11_14 rfl rfl (take_ofW HT_.out HW_.out (by kernel_rfl)) (fun _ _ _ h => h) (Or.inl ⟨by rfl, ?_⟩) hHeld ?_ ?_; rotate_left
             · rintro w' ⟨s0, s1, s2, s3, s4⟩
               go_simp; (with_reducible rfl)
             rotate_left
             · simp only [Act.put, pa11_1, pa11_2, pa11_3, i64_w, i32_w]
               rfl
             refine pure_ (i := 7) (N := some 68) (v := ?_) (a' := ?_) m11_16 rfl rfl (any_of HT_.out (by kernel_rfl)) (fun _ _ _ h => h) (Or.inl ⟨by rfl, ?_⟩) ?_ ?_; rotate_left
             · intro w'
               go_simp; (with_reducible rfl)
             rotate_left
             · simp only [Act.put, pa11_1, pa11_2, pa11_3, i64_w, i32_w]
               rfl
             refine pure_ (i := 8) (N := some 69) (v := ?_) (a' := ?_) m11_18 rfl rfl (any_of HT_.out (by kernel_rfl)) (fun _ _ _ h => h) (Or.inl ⟨by rfl, ?_⟩) ?_ ?_; rotate_left
             · intro w'
               go_simp; (with_reducible rfl)
             rotate_left
             · simp only [Act.put, pa11_1, pa11_2, pa11_3, i64_w, i32_w]
               rfl
             refine pure_ (i := 9) (N := some 70) (v := ?_) (a' := ?_) m11_20 rfl rfl (any_of HT_.out (by kernel_rfl)) (fun _ _ _ h => h) (Or.inl ⟨by rfl, ?_⟩) ?_ ?_; rotate_left
             · intro w'
               go_simp; (with_reducible rfl)
             rotate_left
             · simp only [Act.put, pa11_1, pa11_2, pa11_3, i64_w, i32_w]
               rfl
             refine pure_ (i := 10) (N := some 71) (v := ?_) (a' := ?_) m11_24 rfl rfl (any_of HT_.out (by kernel_rfl)) (fun _ _ _ h => h) (Or.inl ⟨by rfl, ?_⟩) ?_ ?_; rotate_left
             · intro w'
               go_simp; (with_reducible rfl)
             rotate_left
             · simp only [Act.put, pa11_1, pa11_2, pa11_3, i64_w, i32_w]
               rfl
             refine pure_ (i := 11) (N := some 72) (v := ?_) (a' := ?_) m11_27 rfl rfl (any_of HT_.out (by kernel_rfl)) (fun _ _ _ h => h) (Or.inl ⟨by rfl, ?_⟩) ?_ ?_; rotate_left
             · intro w'
               go_simp; (with_reducible rfl)
             rotate_left
             · simp only [Act.put, pa11_1, pa11_2, pa11_3, i64_w, i32_w]
               rfl
             refine take_ (i := 12) (N := some 73) (v := ?_) (a' := ?_) m11_29 rfl rfl (take_ofW HT_.out HW_.out (by kernel_rfl)) (fun _ _ _ h => h) (Or.inl ⟨by rfl, ?_⟩) hHeld ?_ ?_; rotate_left
             · rintro w' ⟨s0, s1, s2, s3, s4⟩
               go_simp; (with_reducible rfl)
             rotate_left
             · simp only [Act.put, pa11_1, pa11_2, pa11_3, i64_w, i32_w]
               rfl
             refine one_ (i := 13) (N := some 74) m11_31 rfl rfl (one_of HT_.out (by kernel_rfl)) (by decide) (fun K hK => ?_); refine goes_ Tryd.func9 (by kernel_rfl) rfl #[.slice Ao13 t357.length co13] (by rfl) rfl rfl d11_2 ?_; (with_reducible refine (impl_DataFault.calls kj26 _ _ t357 t382 _ ?side1 ?side2 A52.out).mono ?_)
             (case side1 => exact c11_2)
             (case side2 => exact (Kd.R_reads' HO_361002.out).2.1)
             rintro e w60 ⟨rfl, hb⟩; refine ⟨_, rfl, ?_⟩; have n0_ := ak (Kd.R_below d11_6 hb); have n1_ := ak (Kd.R_below d11_5 hb); have n2_ := ak (Kd.R_below d11_9 hb); have n3_ := ak (blk_below (g := gb360) (o := .cells #[.int .i64 t355, .int .i64 t356, .slice Ao13 t357.length co13] 28 (0, 0)) d11_3 hb); have n4_ := ak (blk_below (g := gb374) (o := .cells #[.int .i64 t370, .slice Ao32 t371.length co32] 32 (0, 0)) d11_7 hb); have n5_ := ak (below_step d11_1 hb); clear HO_3; clear HO_361002; clear HO_375001; clear BK360; clear BK374; clear HB; have HO_3 := n0_; have HO_361002 := n1_; have HO_375001 := n2_; have BK360 := n3_; have BK374 := n4_; have HB := n5_; clear n0_ n1_ n2_ n3_ n4_ n5_
             (try clear hb)
             (try clear hb2)
             (try clear hk)
             (try clear hi)
             refine hK.out _ _ ⟨(blk_cell BK374.out 0).trans rfl, (blk_cell BK374.out 1).trans rfl, (blk_cell BK360.out 0).trans rfl, (blk_cell BK360.out 1).trans rfl, (blk_cell BK360.out 2).trans rfl⟩ (fun hHeld => ?_); clear hK K; refine norm_ (a' := ?_) ?_ ?_; rotate_left
             · show Act.put _ (some 74) _ = _
               simp only [Act.put, pa11_1, pa11_2, pa11_3, i64_w, i32_w]; rfl
             refine pure_ (i := 14) (N := some 75) (v := ?_) (a' := ?_) m11_33 rfl rfl (any_of HT_.out (by kernel_rfl)) (fun _ _ _ h => h) (Or.inl ⟨by rfl, ?_⟩) ?_ ?_; rotate_left
             · intro w'
               go_simp; (with_reducible rfl)
             rotate_left
             · simp only [Act.put, pa11_1, pa11_2, pa11_3, i64_w, i32_w]
               rfl
             refine pure_ (i := 15) (N := some 76) (v := ?_) (a' := ?_) m11_35 rfl rfl (any_of HT_.out (by kernel_rfl)) (fun _ _ _ h => h) (Or.inl ⟨by rfl, ?_⟩) ?_ ?_; rotate_left
             · intro w'
               go_simp; (with_reducible rfl)
             rotate_left
             · simp only [Act.put, pa11_1, pa11_2, pa11_3, i64_w, i32_w]
               rfl
             refine pure_ (i := 16) (N := some 77) (v := ?_) (a' := ?_) m11_37 rfl rfl (any_of HT_.out (by kernel_rfl)) (fun _ _ _ h => h) (Or.inl ⟨by rfl, ?_⟩) ?_ ?_; rotate_left
             · intro w'
               go_simp; (with_reducible rfl)
             rotate_left
             · simp only [Act.put, pa11_1, pa11_2, pa11_3, i64_w, i32_w]
               rfl
             refine pure_ (i := 17) (N := some 78) (v := ?_) (a' := ?_) m11_38 rfl rfl (any_of HT_.out (by kernel_rfl)) (fun _ _ _ h => h) (Or.inl ⟨by rfl, ?_⟩) ?_ ?_; rotate_left
             · intro w'
               go_simp; (with_reducible rfl)
             rotate_left
             · simp only [Act.put, pa11_1, pa11_2, pa11_3, i64_w, i32_w]
               rfl
             refine pure_ (i := 19) (N := some 80) (v := ?_) (a' := ?_) m11_39 rfl rfl (any_of HT_.out (by kernel_rfl)) (fun _ _ _ h => h) (Or.inl ⟨by rfl, ?_⟩) ?_ ?_; rotate_left
             · intro w'
               go_simp; (with_reducible rfl)
             rotate_left
             · simp only [Act.put, pa11_1, pa11_2, pa11_3, i64_w, i32_w]
               rfl
             refine pure_ (i := 20) (N := some 81) (v := ?_) (a' := ?_) m11_40 rfl rfl (any_of HT_.out (by kernel_rfl)) (fun _ _ _ h => h) (Or.inl ⟨by rfl, ?_⟩) ?_ ?_; rotate_left
             · intro w'
               go_simp; (with_reducible rfl)
             rotate_left
             · simp only [Act.put, pa11_1, pa11_2, pa11_3, i64_w, i32_w]
               rfl
             refine take_ (i := 18) (N := some 79) (v := ?_) (a' := ?_) m11_43 rfl rfl (take_ofW HT_.out HW_.out (by kernel_rfl)) (fun _ _ _ h => h) (Or.inl ⟨by rfl, ?_⟩) hHeld ?_ ?_; rotate_left
             · rintro w' ⟨s0, s1, s2, s3, s4⟩
               go_simp; (with_reducible rfl)
             rotate_left
             · simp only [Act.put, pa11_1, pa11_2, pa11_3, i64_w, i32_w]
               rfl
             refine one_ (i := 21) (N := some 82) m11_44 rfl rfl (one_of HT_.out (by kernel_rfl)) (by decide) (fun K hK => ?_); refine goes_ Tryd.func7 (by kernel_rfl) rfl #[.slice Ao9 t351.length co9, .int .i64 t352] (by rfl) rfl rfl d11_2 ?_; (with_reducible refine (spec_SubData.calls kj26 _ _ t351 t352 t383 t384 t385 _ ?side1 ?side2 A54.out).mono ?_)
             (case side1 => exact c11_9)
             (case side2 => exact (Kd.R_reads' HO_3.out).2.1)
             rintro e w61 ⟨v386, rfl, ho0, hb⟩; refine ⟨_, rfl, ?_⟩; have n0_ := ak (Kd.R_elder' d11_6 (Kd.R_base ho0) hb); have n1_ := ak (Kd.R_elder' d11_5 (Kd.R_base ho0) hb); have n2_ := ak (Kd.R_below d11_9 hb); have n3_ := ak (Kd.R_lower (Kd.R_new' (Kd.R_new' ho0 (Kd.R_lt d11_6)) (Kd.R_lt d11_5)) (below_size d11_1)); have n4_ := ak (blk_below (g := gb360) (o := .cells #[.int .i64 t355, .int .i64 t356, .slice Ao13 t357.length co13] 28 (0, 0)) d11_3 hb); have n5_ := ak (blk_below (g := gb374) (o := .cells #[.int .i64 t370, .slice Ao32 t371.length co32] 32 (0, 0)) d11_7 hb); have n6_ := ak (below_step d11_1 hb); clear HO_3; clear HO_361002; clear HO_375001; clear BK360; clear BK374; clear HB; have HO_3 := n0_; have HO_361002 := n1_; have HO_375001 := n2_; have HO387 := n3_; have BK360 := n4_; have BK374 := n5_; have HB := n6_; clear n0_ n1_ n2_ n3_ n4_ n5_ n6_
             (try clear hb)
             (try clear hb2)
             (try clear hk)
             (try clear hi)
             (try clear ho0)
             obtain ⟨Ao62, co62, eo62⟩ := Kd.R_slice HO387.out
             (first | subst eo62 | (injection eo62 with f1_ f2_ f3_; have f4_ := f1_.symm; have f5_ := f3_.symm; clear f1_ f2_ f3_; subst f4_; subst f5_))
             refine hK.out _ _ ⟨(blk_cell BK374.out 0).trans rfl, (blk_cell BK374.out 1).trans rfl, (blk_cell BK360.out 0).trans rfl, (blk_cell BK360.out 1).trans rfl, (blk_cell BK360.out 2).trans rfl⟩ (fun hHeld => ?_); clear hK K; refine norm_ (a' := ?_) ?_ ?_; rotate_left
             · show Act.put _ (some 82) _ = _
               simp only [Act.put, pa11_1, pa11_2, pa11_3, i64_w, i32_w]; rfl
             refine pure_ (i := 22) (N := some 83) (v := ?_) (a' := ?_) m11_45 rfl rfl (any_of HT_.out (by kernel_rfl)) (fun _ _ _ h => h) (Or.inl ⟨by rfl, ?_⟩) ?_ ?_; rotate_left
             · intro w'
               go_simp; (with_reducible rfl)
             rotate_left
             · simp only [Act.put, pa11_1, pa11_2, pa11_3, i64_w, i32_w]
               rfl
             refine one_ (i := 23) (N := some 84) m11_46 rfl rfl (one_of HT_.out (by kernel_rfl)) (by decide) (fun K hK => ?_); refine goes_ Tryd.func10 (by kernel_rfl) rfl #[.slice Ao13 t357.length co13, .slice Ao62 t385.length co62] (by rfl) rfl rfl d11_2 ?_; (with_reducible refine (impl_SameData.calls kj26 _ _ t357 _ _ t385 true _ ?side1 ?side2 ?side3 ?side4 A55.out).mono ?_)
             (case side1 => exact c11_2)
             (case side2 => exact (Kd.R_reads' HO_361002.out).2.1)
             (case side3 => repeat (first | exact (Kd.R_reads' HO387.out).2.2 | (with_reducible refine Kd.C_alloc ?_ _) | (with_reducible refine Kd.C_drewN ?_ _) | (with_reducible refine Kd.C_drew ?_)))
             (case side4 => exact (Kd.R_reads' HO387.out).2.1)
             rintro e w' ⟨rfl, ⟨nd, rfl⟩⟩; refine ⟨_, rfl, ?_⟩; refine hK.out _ _ ⟨(blk_cell BK374.out 0).trans rfl, (blk_cell BK374.out 1).trans rfl, (blk_cell BK360.out 0).trans rfl, (blk_cell BK360.out 1).trans rfl, (blk_cell BK360.out 2).trans rfl⟩ (fun hHeld => ?_); clear hK K; refine norm_ (a' := ?_) ?_ ?_; rotate_left
             · show Act.put _ (some 84) _ = _
               simp only [Act.put, pa11_1, pa11_2, pa11_3, i64_w, i32_w]; rfl
             refine pure_ (i := 24) (N := some 85) (v := ?_) (a' := ?_) m11_47 rfl rfl (any_of HT_.out (by kernel_rfl)) (fun _ _ _ h => h) (Or.inl ⟨by rfl, ?_⟩) ?_ ?_; rotate_left
             · intro w'
               go_simp; (with_reducible rfl)
             rotate_left
             · simp only [Act.put, pa11_1, pa11_2, pa11_3, i64_w, i32_w]
               rfl
             refine pure_ (i := 25) (N := some 86) (v := ?_) (a' := ?_) m11_48 rfl rfl (any_of HT_.out (by kernel_rfl)) (fun _ _ _ h => h) (Or.inl ⟨by rfl, ?_⟩) ?_ ?_; rotate_left
             · intro w'
               go_simp; (with_reducible rfl)
             rotate_left
             · simp only [Act.put, pa11_1, pa11_2, pa11_3, i64_w, i32_w]
               rfl
             refine pure_ (i := 26) (N := some 87) (v := ?_) (a' := ?_) m11_49 rfl rfl (any_of HT_.out (by kernel_rfl)) (fun _ _ _ h => h) (Or.inl ⟨by rfl, ?_⟩) ?_ ?_; rotate_left
             · intro w'
               go_simp; (with_reducible rfl)
             rotate_left
             · simp only [Act.put, pa11_1, pa11_2, pa11_3, i64_w, i32_w]
               rfl
             refine pure_ (i := 30) (N := some 91) (v := ?_) (a' := ?_) #[true, true, true, true, true, true, true, true, true, true, true, true, true, true, true, true, true, true, true, true, true, true, true, true, true, true, true, false, false, false, true, false, false, false, false, false, false] rfl rfl (any_of HT_.out (by kernel_rfl)) (fun _ _ _ h => h) (Or.inl ⟨by rfl, ?_⟩) ?_ ?_; rotate_left
             · intro w'
               go_simp; (with_reducible rfl)
             rotate_left
             · simp only [Act.put, pa11_1, pa11_2, pa11_3, i64_w, i32_w]
               rfl
             refine take_ (i := 27) (N := some 88) (v := ?_) (a' := ?_) #[true, true, true, true, true, true, true, true, true, true, true, true, true, true, true, true, true, true, true, true, true, true, true, true, true, true, true, true, false, false, true, false, false, false, false, false, false] rfl rfl (take_ofW HT_.out HW_.out (by kernel_rfl)) (fun _ _ _ h => h) (Or.inl ⟨by rfl, ?_⟩) hHeld ?_ ?_; rotate_left
             · rintro w' ⟨s0, s1, s2, s3, s4⟩
               go_simp; (with_reducible rfl)
             rotate_left
             · simp only [Act.put, pa11_1, pa11_2, pa11_3, i64_w, i32_w]
               rfl
             refine take_ (i := 31) (N := some 92) (v := ?_) (a' := ?_) #[true, true, true, true, true, true, true, true, true, true, true, true, true, true, true, true, true, true, true, true, true, true, true, true, true, true, true, true, false, false, true, true, false, false, false, false, false] rfl rfl (take_ofW HT_.out HW_.out (by kernel_rfl)) (fun _ _ _ h => h) (Or.inl ⟨by rfl, ?_⟩) hHeld ?_ ?_; rotate_left
             · rintro w' ⟨s0, s1, s2, s3, s4⟩
               go_simp; (with_reducible rfl)
             rotate_left
             · simp only [Act.put, pa11_1, pa11_2, pa11_3, i64_w, i32_w]
               rfl
             refine one_ (i := 28) (N := some 89) #[true, true, true, true, true, true, true, true, true, true, true, true, true, true, true, true, true, true, true, true, true, true, true, true, true, true, true, true, true, false, true, true, false, false, false, false, false] rfl rfl (one_of HT_.out (by kernel_rfl)) (by decide) (fun K hK => ?_); refine goes_ Tryd.func11 (by kernel_rfl) rfl #[.slice Ao13 t357.length co13] (by rfl) rfl rfl d11_2 ?_; (with_reducible refine (impl_WriteData.calls kj26 _ _ t357 t389 t390 _ ?side1 ?side2 ?side3 A57.out).mono ?_)
             (case side1 => exact c11_2)
             (case side2 => exact (Kd.R_reads' HO_361002.out).2.1)
             (case side3 => exact Lz.below HLZ.out d11_1)
             rintro e w63 ⟨rfl, hb⟩; refine ⟨_, rfl, ?_⟩; have n0_ := ak (Kd.R_below d11_6 hb); have n1_ := ak (Kd.R_below d11_5 hb); have n2_ := ak (Kd.R_below d11_9 hb); have n3_ := ak (Kd.R_below (by (with_reducible repeat (first | apply Kd.R_alloc | apply Kd.R_drewN | apply Kd.R_drew)); exact HO387.out) hb); have n4_ := ak (blk_below (g := gb360) (o := .cells #[.int .i64 t355, .int .i64 t356, .slice Ao13 t357.length co13] 28 (0, 0)) d11_3 hb); have n5_ := ak (blk_below (g := gb374) (o := .cells #[.int .i64 t370, .slice Ao32 t371.length co32] 32 (0, 0)) d11_7 hb); have n6_ := ak (below_step d11_1 hb); clear HO_3; clear HO_361002; clear HO_375001; clear HO387; clear BK360; clear BK374; clear HB; have HO_3 := n0_; have HO_361002 := n1_; have HO_375001 := n2_; have HO387 := n3_; have BK360 := n4_; have BK374 := n5_; have HB := n6_; clear n0_ n1_ n2_ n3_ n4_ n5_ n6_
             (try clear hb)
             (try clear hb2)
             (try clear hk)
             (try clear hi)
             refine hK.out _ _ ⟨(blk_cell BK374.out 0).trans rfl, (blk_cell BK374.out 1).trans rfl, (blk_cell BK360.out 0).trans rfl, (blk_cell BK360.out 1).trans rfl, (blk_cell BK360.out 2).trans rfl⟩ (fun hHeld => ?_); clear hK K; refine norm_ (a' := ?_) ?_ ?_; rotate_left
             · show Act.put _ (some 89) _ = _
               simp only [Act.put, pa11_1, pa11_2, pa11_3, i64_w, i32_w]; rfl
             refine pure_ (i := 29) (N := some 90) (v := ?_) (a' := ?_) m11_58 rfl rfl (any_of HT_.out (by kernel_rfl)) (fun _ _ _ h => h) (Or.inl ⟨by rfl, ?_⟩) ?_ ?_; rotate_left
             · intro w'
               go_simp; (with_reducible rfl)
             rotate_left
             · simp only [Act.put, pa11_1, pa11_2, pa11_3, i64_w, i32_w]
               rfl
             refine one_ (i := 32) (N := some 93) m11_59 rfl rfl (one_of HT_.out (by kernel_rfl)) (by decide) (fun K hK => ?_); refine goes_ Tryd.func12 (by kernel_rfl) rfl #[.slice Ao13 t357.length co13] (by rfl) rfl rfl d11_2 ?_; (with_reducible refine (spec_WriteData.calls kj26 _ _ t357 t391 t392 _ ?side1 ?side2 A58.out).mono ?_)
             (case side1 => exact c11_2)
             (case side2 => exact (Kd.R_reads' HO_361002.out).2.1)
             rintro e w64 ⟨rfl, hb⟩; refine ⟨_, rfl, ?_⟩; have n0_ := ak (Kd.R_below d11_6 hb); have n1_ := ak (Kd.R_below d11_5 hb); have n2_ := ak (Kd.R_below d11_9 hb); have n3_ := ak (Kd.R_below (by (with_reducible repeat (first | apply Kd.R_alloc | apply Kd.R_drewN | apply Kd.R_drew)); exact HO387.out) hb); have n4_ := ak (blk_below (g := gb360) (o := .cells #[.int .i64 t355, .int .i64 t356, .slice Ao13 t357.length co13] 28 (0, 0)) d11_3 hb); have n5_ := ak (blk_below (g := gb374) (o := .cells #[.int .i64 t370, .slice Ao32 t371.length co32] 32 (0, 0)) d11_7 hb); have n6_ := ak (below_step d11_1 hb); clear HO_3; clear HO_361002; clear HO_375001; clear HO387; clear BK360; clear BK374; clear HB; have HO_3 := n0_; have HO_361002 := n1_; have HO_375001 := n2_; have HO387 := n3_; have BK360 := n4_; have BK374 := n5_; have HB := n6_; clear n0_ n1_ n2_ n3_ n4_ n5_ n6_
             (try clear hb)
             (try clear hb2)
             (try clear hk)
             (try clear hi)
             refine hK.out _ _ ⟨(blk_cell BK374.out 0).trans rfl, (blk_cell BK374.out 1).trans rfl, (blk_cell BK360.out 0).trans rfl, (blk_cell BK360.out 1).trans rfl, (blk_cell BK360.out 2).trans rfl⟩ (fun hHeld => ?_); clear hK K; refine norm_ (a' := ?_) ?_ ?_; rotate_left
             · show Act.put _ (some 93) _ = _
               simp only [Act.put, pa11_1, pa11_2, pa11_3, i64_w, i32_w]; rfl
             refine pure_ (i := 33) (N := some 94) (v := ?_) (a' := ?_) m11_60 rfl rfl (any_of HT_.out (by kernel_rfl)) (fun _ _ _ h => h) (Or.inl ⟨by rfl, ?_⟩) ?_ ?_; rotate_left
             · intro w'
               go_simp; (with_reducible rfl)
             rotate_left
             · simp only [Act.put, pa11_1, pa11_2, pa11_3, i64_w, i32_w]
               rfl
             refine pure_ (i := 34) (N := some 95) (v := ?_) (a' := ?_) m11_61 rfl rfl (any_of HT_.out (by kernel_rfl)) (fun _ _ _ h => h) (Or.inl ⟨by rfl, ?_⟩) ?_ ?_; rotate_left
             · intro w'
               go_simp; (with_reducible rfl)
             rotate_left
             · simp only [Act.put, pa11_1, pa11_2, pa11_3, i64_w, i32_w]
               rfl
             refine pure_ (i := 35) (N := some 96) (v := ?_) (a' := ?_) m11_62 rfl rfl (any_of HT_.out (by kernel_rfl)) (fun _ _ _ h => h) (Or.inl ⟨by rfl, ?_⟩) ?_ ?_; rotate_left
             · intro w'
               go_simp; (with_reducible rfl)
             rotate_left
             · simp only [Act.put, pa11_1, pa11_2, pa11_3, i64_w, i32_w]
               rfl
             refine pure_ (i := 36) (N := some 2) (v := ?_) (a' := ?_) m11_63 rfl rfl (any_of HT_.out (by kernel_rfl)) (fun _ _ _ h => h) (Or.inl ⟨by rfl, ?_⟩) ?_ ?_; rotate_left
             · intro w'
               go_simp; (with_reducible rfl)
             rotate_left
             · simp only [Act.put, pa11_1, pa11_2, pa11_3, i64_w, i32_w]
               rfl
             refine done_ (done_of HT_.out (by kernel_rfl)) ?_
             try go_wp2
             go_meet
             case rel => exact ⟨_, ((t390.toList == t392.toList)), d11_8, H', ⟨by have := HJ2.out; have := HJ6.out; have := HJ26.out; first | omega | exact Nat.le_refl _⟩, ⟨c11_7⟩, ⟨c11_6⟩, ⟨c11_3⟩, ⟨c11_5⟩, ⟨c11_1⟩⟩
            ·replace c56 := Bool.eq_false_iff.mpr c56
             subst c56
             rw [if_neg (show ¬ (false = true) by decide)] at H; have H' := ak H; clear H
             try go_wp2
             have n0_ := ak (Kd.R_drew HO_3.out); have n1_ := ak (Kd.R_drew HO_361002.out); have n2_ := ak (Kd.R_drew HO_375001.out); have n3_ := ak (blk_drew BK360.out); have n4_ := ak (blk_drew BK374.out); have n5_ := ak (below_drew1 HB.out); clear HO_3; clear HO_361002; clear HO_375001; clear BK360; clear BK374; clear HB; have HO_3 := n0_; have HO_361002 := n1_; have HO_375001 := n2_; have BK360 := n3_; have BK374 := n4_; have HB := n5_; clear n0_ n1_ n2_ n3_ n4_ n5_; refine start_ (n := 37) (S := fun w' => w'.cell? ⟨gb374, 0, none⟩ = some (.int .i64 t370) ∧ w'.cell? ⟨gb374, 1, none⟩ = some (.slice Ao32 t371.length co32) ∧ w'.cell? ⟨gb360, 0, none⟩ = some (.int .i64 t355) ∧ w'.cell? ⟨gb360, 1, none⟩ = some (.int .i64 t356) ∧ w'.cell? ⟨gb360, 2, none⟩ = some (.slice Ao13 t357.length co13)) (ds := []) m11_0 (by kernel_rfl) rfl rfl ⟨(blk_cell BK374.out 0).trans rfl, (blk_cell BK374.out 1).trans rfl, (blk_cell BK360.out 0).trans rfl, (blk_cell BK360.out 1).trans rfl, (blk_cell BK360.out 2).trans rfl⟩ (fun hHeld => ?_); refine with_tabW laws_FnParts.tab14 laws_FnParts.bits14 (fun HT_ HW_ => ?_); generalize wc.drew = w65 at HO_3 HO_361002 HO_375001 BK360 BK374 HB hHeld ⊢
             refine pure_ (i := 0) (N := some 61) (v := ?_) (a' := ?_) m11_2 rfl rfl (any_of HT_.out (by kernel_rfl)) (fun _ _ _ h => h) (Or.inl ⟨by rfl, ?_⟩) ?_ ?_; rotate_left
             · intro w'
               go_simp; (with_reducible rfl)
             rotate_left
             · simp only [Act.put, pa11_1, pa11_2, pa11_3, i64_w, i32_w]
               rfl
             refine take_ (i := 1) (N := some 62) (v := ?_) (a' := ?_) m11_4 rfl rfl (take_ofW HT_.out HW_.out (by kernel_rfl)) (fun _ _ _ h => h) (Or.inl ⟨by rfl, ?_⟩) hHeld ?_ ?_; rotate_left
             · rintro w' ⟨s0, s1, s2, s3, s4⟩
               go_simp; (with_reducible rfl)
             rotate_left
             · simp only [Act.put, pa11_1, pa11_2, pa11_3, i64_w, i32_w]
               rfl
             refine pure_ (i := 2) (N := some 63) (v := ?_) (a' := ?_) m11_8 rfl rfl (any_of HT_.out (by kernel_rfl)) (fun _ _ _ h => h) (Or.inl ⟨by rfl, ?_⟩) ?_ ?_; rotate_left
             · intro w'
               go_simp; (with_reducible rfl)
             rotate_left
             · simp only [Act.put, pa11_1, pa11_2, pa11_3, i64_w, i32_w]
               rfl
             refine pure_ (i := 3) (N := some 64) (v := ?_) (a' := ?_) m11_10 rfl rfl (any_of HT_.out (by kernel_rfl)) (fun _ _ _ h => h) (Or.inl ⟨by rfl, ?_⟩) ?_ ?_; rotate_left
             · intro w'
               go_simp; (with_reducible rfl)
             rotate_left
             · simp only [Act.put, pa11_1, pa11_2, pa11_3, i64_w, i32_w]
               rfl
             refine pure_ (i := 4) (N := some 65) (v := ?_) (a' := ?_) m11_11 rfl rfl (any_of HT_.out (by kernel_rfl)) (fun _ _ _ h => h) (Or.inl ⟨by rfl, ?_⟩) ?_ ?_; rotate_left
             · intro w'
               go_simp; (with_reducible rfl)
             rotate_left
             · simp only [Act.put, pa11_1, pa11_2, pa11_3, i64_w, i32_w]
               rfl
             refine pure_ (i := 5) (N := some 66) (v := ?_) (a' := ?_) m11_12 rfl rfl (any_of HT_.out (by kernel_rfl)) (fun _ _ _ h => h) (Or.inl ⟨by rfl, ?_⟩) ?_ ?_; rotate_left
             · intro w'
               go_simp; (with_reducible rfl)
             rotate_left
             · simp only [Act.put, pa11_1, pa11_2, pa11_3, i64_w, i32_w]
               rfl
             refine take_ (i := 6) (N := some 67) (v := ?_) (a' := ?_) m11_14 rfl rfl (take_ofW HT_.out HW_.out (by kernel_rfl)) (fun _ _ _ h => h) (Or.inl ⟨by rfl, ?_⟩) hHeld ?_ ?_; rotate_left
             · rintro w' ⟨s0, s1, s2, s3, s4⟩
               go_simp; (with_reducible rfl)
             rotate_left
             · simp only [Act.put, pa11_1, pa11_2, pa11_3, i64_w, i32_w]
               rfl
             refine pure_ (i := 7) (N := some 68) (v := ?_) (a' := ?_) m11_16 rfl rfl (any_of HT_.out (by kernel_rfl)) (fun _ _ _ h => h) (Or.inl ⟨by rfl, ?_⟩) ?_ ?_; rotate_left
             · intro w'
               go_simp; (with_reducible rfl)
             rotate_left
             · simp only [Act.put, pa11_1, pa11_2, pa11_3, i64_w, i32_w]
               rfl
             refine pure_ (i := 8) (N := some 69) (v := ?_) (a' := ?_) m11_18 rfl rfl (any_of HT_.out (by kernel_rfl)) (fun _ _ _ h => h) (Or.inl ⟨by rfl, ?_⟩) ?_ ?_; rotate_left
             · intro w'
               go_simp; (with_reducible rfl)
             rotate_left
             · simp only [Act.put, pa11_1, pa11_2, pa11_3, i64_w, i32_w]
               rfl
             refine pure_ (i := 9) (N := some 70) (v := ?_) (a' := ?_) m11_20 rfl rfl (any_of HT_.out (by kernel_rfl)) (fun _ _ _ h => h) (Or.inl ⟨by rfl, ?_⟩) ?_ ?_; rotate_left
             · intro w'
               go_simp; (with_reducible rfl)
             rotate_left
             · simp only [Act.put, pa11_1, pa11_2, pa11_3, i64_w, i32_w]
               rfl
             refine pure_ (i := 10) (N := some 71) (v := ?_) (a' := ?_) m11_24 rfl rfl (any_of HT_.out (by kernel_rfl)) (fun _ _ _ h => h) (Or.inl ⟨by rfl, ?_⟩) ?_ ?_; rotate_left
             · intro w'
               go_simp; (with_reducible rfl)
             rotate_left
             · simp only [Act.put, pa11_1, pa11_2, pa11_3, i64_w, i32_w]
               rfl
             refine pure_ (i := 11) (N := some 72) (v := ?_) (a' := ?_) m11_27 rfl rfl (any_of HT_.out (by kernel_rfl)) (fun _ _ _ h => h) (Or.inl ⟨by rfl, ?_⟩) ?_ ?_; rotate_left
             · intro w'
               go_simp; (with_reducible rfl)
             rotate_left
             · simp only [Act.put, pa11_1, pa11_2, pa11_3, i64_w, i32_w]
               rfl
             refine take_ (i := 12) (N := some 73) (v := ?_) (a' := ?_) m11_29 rfl rfl (take_ofW HT_.out HW_.out (by kernel_rfl)) (fun _ _ _ h => h) (Or.inl ⟨by rfl, ?_⟩) hHeld ?_ ?_; rotate_left
             · rintro w' ⟨s0, s1, s2, s3, s4⟩
               go_simp; (with_reducible rfl)
             rotate_left
             · simp only [Act.put, pa11_1, pa11_2, pa11_3, i64_w, i32_w]
               rfl
             refine one_ (i := 13) (N := some 74) m11_31 rfl rfl (one_of HT_.out (by kernel_rfl)) (by decide) (fun K hK => ?_); refine goes_ Tryd.func9 (by kernel_rfl) rfl #[.slice Ao13 t357.length co13] (by rfl) rfl rfl d11_2 ?_; (with_reducible refine (impl_DataFault.calls kj26 _ _ t357 t382 _ ?side1 ?side2 A52.out).mono ?_)
             (case side1 => exact c11_2)
             (case side2 => exact (Kd.R_reads' HO_361002.out).2.1)
             rintro e w66 ⟨rfl, hb⟩; refine ⟨_, rfl, ?_⟩; have n0_ := ak (Kd.R_below d11_6 hb); have n1_ := ak (Kd.R_below d11_5 hb); have n2_ := ak (Kd.R_below d11_9 hb); have n3_ := ak (blk_below (g := gb360) (o := .cells #[.int .i64 t355, .int .i64 t356, .slice Ao13 t357.length co13] 28 (0, 0)) d11_3 hb); have n4_ := ak (blk_below (g := gb374) (o := .cells #[.int .i64 t370, .slice Ao32 t371.length co32] 32 (0, 0)) d11_7 hb); have n5_ := ak (below_step d11_1 hb); clear HO_3; clear HO_361002; clear HO_375001; clear BK360; clear BK374; clear HB; have HO_3 := n0_; have HO_361002 := n1_; have HO_375001 := n2_; have BK360 := n3_; have BK374 := n4_; have HB := n5_; clear n0_ n1_ n2_ n3_ n4_ n5_
             (try clear hb)
             (try clear hb2)
             (try clear hk)
             (try clear hi)
             refine hK.out _ _ ⟨(blk_cell BK374.out 0).trans rfl, (blk_cell BK374.out 1).trans rfl, (blk_cell BK360.out 0).trans rfl, (blk_cell BK360.out 1).trans rfl, (blk_cell BK360.out 2).trans rfl⟩ (fun hHeld => ?_); clear hK K; refine norm_ (a' := ?_) ?_ ?_; rotate_left
             · show Act.put _ (some 74) _ = _
               simp only [Act.put, pa11_1, pa11_2, pa11_3, i64_w, i32_w]; rfl
             refine pure_ (i := 14) (N := some 75) (v := ?_) (a' := ?_) m11_33 rfl rfl (any_of HT_.out (by kernel_rfl)) (fun _ _ _ h => h) (Or.inl ⟨by rfl, ?_⟩) ?_ ?_; rotate_left
             · intro w'
               go_simp; (with_reducible rfl)
             rotate_left
             · simp only [Act.put, pa11_1, pa11_2, pa11_3, i64_w, i32_w]
               rfl
             refine pure_ (i := 15) (N := some 76) (v := ?_) (a' := ?_) m11_35 rfl rfl (any_of HT_.out (by kernel_rfl)) (fun _ _ _ h => h) (Or.inl ⟨by rfl, ?_⟩) ?_ ?_; rotate_left
             · intro w'
               go_simp; (with_reducible rfl)
             rotate_left
             · simp only [Act.put, pa11_1, pa11_2, pa11_3, i64_w, i32_w]
               rfl
             refine pure_ (i := 16) (N := some 77) (v := ?_) (a' := ?_) m11_37 rfl rfl (any_of HT_.out (by kernel_rfl)) (fun _ _ _ h => h) (Or.inl ⟨by rfl, ?_⟩) ?_ ?_; rotate_left
             · intro w'
               go_simp; (with_reducible rfl)
             rotate_left
             · simp only [Act.put, pa11_1, pa11_2, pa11_3, i64_w, i32_w]
               rfl
             refine pure_ (i := 17) (N := some 78) (v := ?_) (a' := ?_) m11_38 rfl rfl (any_of HT_.out (by kernel_rfl)) (fun _ _ _ h => h) (Or.inl ⟨by rfl, ?_⟩) ?_ ?_; rotate_left
             · intro w'
               go_simp; (with_reducible rfl)
             rotate_left
             · simp only [Act.put, pa11_1, pa11_2, pa11_3, i64_w, i32_w]
               rfl
             refine pure_ (i := 19) (N := some 80) (v := ?_) (a' := ?_) m11_39 rfl rfl (any_of HT_.out (by kernel_rfl)) (fun _ _ _ h => h) (Or.inl ⟨by rfl, ?_⟩) ?_ ?_; rotate_left
             · intro w'
               go_simp; (with_reducible rfl)
             rotate_left
             · simp only [Act.put, pa11_1, pa11_2, pa11_3, i64_w, i32_w]
               rfl
             refine pure_ (i := 20) (N := some 81) (v := ?_) (a' := ?_) m11_40 rfl rfl (any_of HT_.out (by kernel_rfl)) (fun _ _ _ h => h) (Or.inl ⟨by rfl, ?_⟩) ?_ ?_; rotate_left
             · intro w'
               go_simp; (with_reducible rfl)
             rotate_left
             · simp only [Act.put, pa11_1, pa11_2, pa11_3, i64_w, i32_w]
               rfl
             refine take_ (i := 18) (N := some 79) (v := ?_) (a' := ?_) m11_43 rfl rfl (take_ofW HT_.out HW_.out (by kernel_rfl)) (fun _ _ _ h => h) (Or.inl ⟨by rfl, ?_⟩) hHeld ?_ ?_; rotate_left
             · rintro w' ⟨s0, s1, s2, s3, s4⟩
               go_simp; (with_reducible rfl)
             rotate_left
             · simp only [Act.put, pa11_1, pa11_2, pa11_3, i64_w, i32_w]
               rfl
             refine one_ (i := 21) (N := some 82) m11_44 rfl rfl (one_of HT_.out (by kernel_rfl)) (by decide) (fun K hK => ?_); refine goes_ Tryd.func7 (by kernel_rfl) rfl #[.slice Ao9 t351.length co9, .int .i64 t352] (by rfl) rfl rfl d11_2 ?_; (with_reducible refine (spec_SubData.calls kj26 _ _ t351 t352 t383 t384 t385 _ ?side1 ?side2 A54.out).mono ?_)
             (case side1 => exact c11_9)
             (case side2 => exact (Kd.R_reads' HO_3.out).2.1)
             rintro e w67 ⟨v386, rfl, ho0, hb⟩; refine ⟨_, rfl, ?_⟩; have n0_ := ak (Kd.R_elder' d11_6 (Kd.R_base ho0) hb); have n1_ := ak (Kd.R_elder' d11_5 (Kd.R_base ho0) hb); have n2_ := ak (Kd.R_below d11_9 hb); have n3_ := ak (Kd.R_lower (Kd.R_new' (Kd.R_new' ho0 (Kd.R_lt d11_6)) (Kd.R_lt d11_5)) (below_size d11_1)); have n4_ := ak (blk_below (g := gb360) (o := .cells #[.int .i64 t355, .int .i64 t356, .slice Ao13 t357.length co13] 28 (0, 0)) d11_3 hb); have n5_ := ak (blk_below (g := gb374) (o := .cells #[.int .i64 t370, .slice Ao32 t371.length co32] 32 (0, 0)) d11_7 hb); have n6_ := ak (below_step d11_1 hb); clear HO_3; clear HO_361002; clear HO_375001; clear BK360; clear BK374; clear HB; have HO_3 := n0_; have HO_361002 := n1_; have HO_375001 := n2_; have HO387 := n3_; have BK360 := n4_; have BK374 := n5_; have HB := n6_; clear n0_ n1_ n2_ n3_ n4_ n5_ n6_
             (try clear hb)
             (try clear hb2)
             (try clear hk)
             (try clear hi)
             (try clear ho0)
             obtain ⟨Ao68, co68, eo68⟩ := Kd.R_slice HO387.out
             (first | subst eo68 | (injection eo68 with f1_ f2_ f3_; have f4_ := f1_.symm; have f5_ := f3_.symm; clear f1_ f2_ f3_; subst f4_; subst f5_))
             refine hK.out _ _ ⟨(blk_cell BK374.out 0).trans rfl, (blk_cell BK374.out 1).trans rfl, (blk_cell BK360.out 0).trans rfl, (blk_cell BK360.out 1).trans rfl, (blk_cell BK360.out 2).trans rfl⟩ (fun hHeld => ?_); clear hK K; refine norm_ (a' := ?_) ?_ ?_; rotate_left
             · show Act.put _ (some 82) _ = _
               simp only [Act.put, pa11_1, pa11_2, pa11_3, i64_w, i32_w]; rfl
             refine pure_ (i := 22) (N := some 83) (v := ?_) (a' := ?_) m11_45 rfl rfl (any_of HT_.out (by kernel_rfl)) (fun _ _ _ h => h) (Or.inl ⟨by rfl, ?_⟩) ?_ ?_; rotate_left
             · intro w'
               go_simp; (with_reducible rfl)
             rotate_left
             · simp only [Act.put, pa11_1, pa11_2, pa11_3, i64_w, i32_w]
               rfl
             refine one_ (i := 23) (N := some 84) m11_46 rfl rfl (one_of HT_.out (by kernel_rfl)) (by decide) (fun K hK => ?_); refine goes_ Tryd.func10 (by kernel_rfl) rfl #[.slice Ao13 t357.length co13, .slice Ao68 t385.length co68] (by rfl) rfl rfl d11_2 ?_; (with_reducible refine (impl_SameData.calls kj26 _ _ t357 _ _ t385 false _ ?side1 ?side2 ?side3 ?side4 A55.out).mono ?_)
             (case side1 => exact c11_2)
             (case side2 => exact (Kd.R_reads' HO_361002.out).2.1)
             (case side3 => repeat (first | exact (Kd.R_reads' HO387.out).2.2 | (with_reducible refine Kd.C_alloc ?_ _) | (with_reducible refine Kd.C_drewN ?_ _) | (with_reducible refine Kd.C_drew ?_)))
             (case side4 => exact (Kd.R_reads' HO387.out).2.1)
             rintro e w' ⟨rfl, ⟨nd, rfl⟩⟩; refine ⟨_, rfl, ?_⟩; refine hK.out _ _ ⟨(blk_cell BK374.out 0).trans rfl, (blk_cell BK374.out 1).trans rfl, (blk_cell BK360.out 0).trans rfl, (blk_cell BK360.out 1).trans rfl, (blk_cell BK360.out 2).trans rfl⟩ (fun hHeld => ?_); clear hK K; refine norm_ (a' := ?_) ?_ ?_; rotate_left
             · show Act.put _ (some 84) _ = _
               simp only [Act.put, pa11_1, pa11_2, pa11_3, i64_w, i32_w]; rfl
             refine pure_ (i := 24) (N := some 85) (v := ?_) (a' := ?_) m11_47 rfl rfl (any_of HT_.out (by kernel_rfl)) (fun _ _ _ h => h) (Or.inl ⟨by rfl, ?_⟩) ?_ ?_; rotate_left
             · intro w'
               go_simp; (with_reducible rfl)
             rotate_left
             · simp only [Act.put, pa11_1, pa11_2, pa11_3, i64_w, i32_w]
               rfl
             refine pure_ (i := 25) (N := some 86) (v := ?_) (a' := ?_) m11_48 rfl rfl (any_of HT_.out (by kernel_rfl)) (fun _ _ _ h => h) (Or.inl ⟨by rfl, ?_⟩) ?_ ?_; rotate_left
             · intro w'
               go_simp; (with_reducible rfl)
             rotate_left
             · simp only [Act.put, pa11_1, pa11_2, pa11_3, i64_w, i32_w]
               rfl
             refine pure_ (i := 26) (N := some 87) (v := undef) (a' := ?_) m11_49 rfl rfl (any_of HT_.out (by kernel_rfl)) (fun _ _ _ h => h) (Or.inr ⟨by rfl, rfl⟩) ?_ ?_; rotate_left
             · simp only [Act.put, pa11_1, pa11_2, pa11_3, i64_w, i32_w]
               rfl
             refine pure_ (i := 27) (N := some 88) (v := undef) (a' := ?_) m11_51 rfl rfl (any_of HT_.out (by kernel_rfl)) (fun _ _ _ h => h) (Or.inr ⟨by rfl, rfl⟩) ?_ ?_; rotate_left
             · simp only [Act.put, pa11_1, pa11_2, pa11_3, i64_w, i32_w]
               rfl
             refine pure_ (i := 28) (N := some 89) (v := undef) (a' := ?_) m11_54 rfl rfl (any_of HT_.out (by kernel_rfl)) (fun _ _ _ h => h) (Or.inr ⟨by rfl, rfl⟩) ?_ ?_; rotate_left
             · simp only [Act.put, pa11_1, pa11_2, pa11_3, i64_w, i32_w]
               rfl
             refine pure_ (i := 29) (N := some 90) (v := undef) (a' := ?_) m11_56 rfl rfl (any_of HT_.out (by kernel_rfl)) (fun _ _ _ h => h) (Or.inr ⟨by rfl, rfl⟩) ?_ ?_; rotate_left
             · simp only [Act.put, pa11_1, pa11_2, pa11_3, i64_w, i32_w]
               rfl
             refine pure_ (i := 30) (N := some 91) (v := undef) (a' := ?_) m11_57 rfl rfl (any_of HT_.out (by kernel_rfl)) (fun _ _ _ h => h) (Or.inr ⟨by rfl, rfl⟩) ?_ ?_; rotate_left
             · simp only [Act.put, pa11_1, pa11_2, pa11_3, i64_w, i32_w]
               rfl
             refine pure_ (i := 31) (N := some 92) (v := undef) (a' := ?_) m11_58 rfl rfl (any_of HT_.out (by kernel_rfl)) (fun _ _ _ h => h) (Or.inr ⟨by rfl, rfl⟩) ?_ ?_; rotate_left
             · simp only [Act.put, pa11_1, pa11_2, pa11_3, i64_w, i32_w]
               rfl
             refine pure_ (i := 32) (N := some 93) (v := undef) (a' := ?_) m11_59 rfl rfl (any_of HT_.out (by kernel_rfl)) (fun _ _ _ h => h) (Or.inr ⟨by rfl, rfl⟩) ?_ ?_; rotate_left
             · simp only [Act.put, pa11_1, pa11_2, pa11_3, i64_w, i32_w]
               rfl
             refine pure_ (i := 33) (N := some 94) (v := undef) (a' := ?_) m11_60 rfl rfl (any_of HT_.out (by kernel_rfl)) (fun _ _ _ h => h) (Or.inr ⟨by rfl, rfl⟩) ?_ ?_; rotate_left
             · simp only [Act.put, pa11_1, pa11_2, pa11_3, i64_w, i32_w]
               rfl
             refine pure_ (i := 34) (N := some 95) (v := undef) (a' := ?_) m11_61 rfl rfl (any_of HT_.out (by kernel_rfl)) (fun _ _ _ h => h) (Or.inr ⟨by rfl, rfl⟩) ?_ ?_; rotate_left
             · simp only [Act.put, pa11_1, pa11_2, pa11_3, i64_w, i32_w]
               rfl
             refine pure_ (i := 35) (N := some 96) (v := ?_) (a' := ?_) m11_62 rfl rfl (any_of HT_.out (by kernel_rfl)) (fun _ _ _ h => h) (Or.inl ⟨by rfl, ?_⟩) ?_ ?_; rotate_left
             · intro w'
               go_simp; (with_reducible rfl)
             rotate_left
             · simp only [Act.put, pa11_1, pa11_2, pa11_3, i64_w, i32_w]
               rfl
             refine pure_ (i := 36) (N := some 2) (v := ?_) (a' := ?_) m11_63 rfl rfl (any_of HT_.out (by kernel_rfl)) (fun _ _ _ h => h) (Or.inl ⟨by rfl, ?_⟩) ?_ ?_; rotate_left
             · intro w'
               go_simp; (with_reducible rfl)
             rotate_left
             · simp only [Act.put, pa11_1, pa11_2, pa11_3, i64_w, i32_w]
               rfl
             refine done_ (done_of HT_.out (by kernel_rfl)) ?_
             try go_wp2
             go_meet
             case rel => exact ⟨_, (false), d11_8, H', ⟨by have := HJ2.out; have := HJ6.out; have := HJ26.out; first | omega | exact Nat.le_refl _⟩, ⟨c11_7⟩, ⟨c11_6⟩, ⟨c11_3⟩, ⟨c11_5⟩, ⟨c11_1⟩⟩
           ·rw [if_neg c53] at H
            have c53b0 : (t382 == 0) = false := beq_eq_false_iff_ne.mpr c53; have c53b1 : (t382 != 0) = true := bne_iff_ne.mpr c53; have H' := ak H; clear H
            try go_wp2
            have n0_ := ak (Kd.R_drew HO_3.out); have n1_ := ak (Kd.R_drew HO_361002.out); have n2_ := ak (Kd.R_drew HO_375001.out); have n3_ := ak (blk_drew BK360.out); have n4_ := ak (blk_drew BK374.out); have n5_ := ak (below_drew1 HB.out); clear HO_3; clear HO_361002; clear HO_375001; clear BK360; clear BK374; clear HB; have HO_3 := n0_; have HO_361002 := n1_; have HO_375001 := n2_; have BK360 := n3_; have BK374 := n4_; have HB := n5_; clear n0_ n1_ n2_ n3_ n4_ n5_; refine start_ (n := 37) (S := fun w' => w'.cell? ⟨gb374, 0, none⟩ = some (.int .i64 t370) ∧ w'.cell? ⟨gb374, 1, none⟩ = some (.slice Ao32 t371.length co32) ∧ w'.cell? ⟨gb360, 0, none⟩ = some (.int .i64 t355) ∧ w'.cell? ⟨gb360, 1, none⟩ = some (.int .i64 t356) ∧ w'.cell? ⟨gb360, 2, none⟩ = some (.slice Ao13 t357.length co13)) (ds := []) m11_0 (by kernel_rfl) rfl rfl ⟨(blk_cell BK374.out 0).trans rfl, (blk_cell BK374.out 1).trans rfl, (blk_cell BK360.out 0).trans rfl, (blk_cell BK360.out 1).trans rfl, (blk_cell BK360.out 2).trans rfl⟩ (fun hHeld => ?_); refine with_tabW laws_FnParts.tab14 laws_FnParts.bits14 (fun HT_ HW_ => ?_); generalize wc.drew = w69 at HO_3 HO_361002 HO_375001 BK360 BK374 HB hHeld ⊢
            refine pure_ (i := 0) (N := some 61) (v := ?_) (a' := ?_) m11_2 rfl rfl (any_of HT_.out (by kernel_rfl)) (fun _ _ _ h => h) (Or.inl ⟨by rfl, ?_⟩) ?_ ?_; rotate_left
            · intro w'
              go_simp; (with_reducible rfl)
            rotate_left
            · simp only [Act.put, pa11_1, pa11_2, pa11_3, i64_w, i32_w]
              rfl
            refine take_ (i := 1) (N := some 62) (v := ?_) (a' := ?_) m11_4 rfl rfl (take_ofW HT_.out HW_.out (by kernel_rfl)) (fun _ _ _ h => h) (Or.inl ⟨by rfl, ?_⟩) hHeld ?_ ?_; rotate_left
            · rintro w' ⟨s0, s1, s2, s3, s4⟩
              go_simp; (with_reducible rfl)
            rotate_left
            · simp only [Act.put, pa11_1, pa11_2, pa11_3, i64_w, i32_w]
              rfl
            refine pure_ (i := 2) (N := some 63) (v := ?_) (a' := ?_) m11_8 rfl rfl (any_of HT_.out (by kernel_rfl)) (fun _ _ _ h => h) (Or.inl ⟨by rfl, ?_⟩) ?_ ?_; rotate_left
            · intro w'
              go_simp; (with_reducible rfl)
            rotate_left
            · simp only [Act.put, pa11_1, pa11_2, pa11_3, i64_w, i32_w]
              rfl
            refine pure_ (i := 3) (N := some 64) (v := ?_) (a' := ?_) m11_10 rfl rfl (any_of HT_.out (by kernel_rfl)) (fun _ _ _ h => h) (Or.inl ⟨by rfl, ?_⟩) ?_ ?_; rotate_left
            · intro w'
              go_simp; (with_reducible rfl)
            rotate_left
            · simp only [Act.put, pa11_1, pa11_2, pa11_3, i64_w, i32_w]
              rfl
            refine pure_ (i := 4) (N := some 65) (v := ?_) (a' := ?_) m11_11 rfl rfl (any_of HT_.out (by kernel_rfl)) (fun _ _ _ h => h) (Or.inl ⟨by rfl, ?_⟩) ?_ ?_; rotate_left
            · intro w'
              go_simp; (with_reducible rfl)
            rotate_left
            · simp only [Act.put, pa11_1, pa11_2, pa11_3, i64_w, i32_w]
              rfl
            refine pure_ (i := 5) (N := some 66) (v := ?_) (a' := ?_) m11_12 rfl rfl (any_of HT_.out (by kernel_rfl)) (fun _ _ _ h => h) (Or.inl ⟨by rfl, ?_⟩) ?_ ?_; rotate_left
            · intro w'
              go_simp; (with_reducible rfl)
            rotate_left
            · simp only [Act.put, pa11_1, pa11_2, pa11_3, i64_w, i32_w]
              rfl
            refine take_ (i := 6) (N := some 67) (v := ?_) (a' := ?_) m11_14 rfl rfl (take_ofW HT_.out HW_.out (by kernel_rfl)) (fun _ _ _ h => h) (Or.inl ⟨by rfl, ?_⟩) hHeld ?_ ?_; rotate_left
            · rintro w' ⟨s0, s1, s2, s3, s4⟩
              go_simp; (with_reducible rfl)
            rotate_left
            · simp only [Act.put, pa11_1, pa11_2, pa11_3, i64_w, i32_w]
              rfl
            refine pure_ (i := 7) (N := some 68) (v := ?_) (a' := ?_) m11_16 rfl rfl (any_of HT_.out (by kernel_rfl)) (fun _ _ _ h => h) (Or.inl ⟨by rfl, ?_⟩) ?_ ?_; rotate_left
            · intro w'
              go_simp; (with_reducible rfl)
            rotate_left
            · simp only [Act.put, pa11_1, pa11_2, pa11_3, i64_w, i32_w]
              rfl
            refine pure_ (i := 8) (N := some 69) (v := ?_) (a' := ?_) m11_18 rfl rfl (any_of HT_.out (by kernel_rfl)) (fun _ _ _ h => h) (Or.inl ⟨by rfl, ?_⟩) ?_ ?_; rotate_left
            · intro w'
              go_simp; (with_reducible rfl)
            rotate_left
            · simp only [Act.put, pa11_1, pa11_2, pa11_3, i64_w, i32_w]
              rfl
            refine pure_ (i := 9) (N := some 70) (v := ?_) (a' := ?_) m11_20 rfl rfl (any_of HT_.out (by kernel_rfl)) (fun _ _ _ h => h) (Or.inl ⟨by rfl, ?_⟩) ?_ ?_; rotate_left
            · intro w'
              go_simp; (with_reducible rfl)
            rotate_left
            · simp only [Act.put, pa11_1, pa11_2, pa11_3, i64_w, i32_w]
              rfl
            refine pure_ (i := 10) (N := some 71) (v := ?_) (a' := ?_) m11_24 rfl rfl (any_of HT_.out (by kernel_rfl)) (fun _ _ _ h => h) (Or.inl ⟨by rfl, ?_⟩) ?_ ?_; rotate_left
            · intro w'
              go_simp; (with_reducible rfl)
            rotate_left
            · simp only [Act.put, pa11_1, pa11_2, pa11_3, i64_w, i32_w]
              rfl
            refine pure_ (i := 11) (N := some 72) (v := ?_) (a' := ?_) m11_27 rfl rfl (any_of HT_.out (by kernel_rfl)) (fun _ _ _ h => h) (Or.inl ⟨by rfl, ?_⟩) ?_ ?_; rotate_left
            · intro w'
              go_simp; (with_reducible rfl)
            rotate_left
            · simp only [Act.put, pa11_1, pa11_2, pa11_3, i64_w, i32_w]
              rfl
            refine take_ (i := 12) (N := some 73) (v := ?_) (a' := ?_) m11_29 rfl rfl (take_ofW HT_.out HW_.out (by kernel_rfl)) (fun _ _ _ h => h) (Or.inl ⟨by rfl, ?_⟩) hHeld ?_ ?_; rotate_left
            · rintro w' ⟨s0, s1, s2, s3, s4⟩
              go_simp; (with_reducible rfl)
            rotate_left
            · simp only [Act.put, pa11_1, pa11_2, pa11_3, i64_w, i32_w]
              rfl
            refine one_ (i := 13) (N := some 74) m11_31 rfl rfl (one_of HT_.out (by kernel_rfl)) (by decide) (fun K hK => ?_); refine goes_ Tryd.func9 (by kernel_rfl) rfl #[.slice Ao13 t357.length co13] (by rfl) rfl rfl d11_2 ?_; (with_reducible refine (impl_DataFault.calls kj26 _ _ t357 t382 _ ?side1 ?side2 A52.out).mono ?_)
            (case side1 => exact c11_2)
            (case side2 => exact (Kd.R_reads' HO_361002.out).2.1)
            rintro e w70 ⟨rfl, hb⟩; refine ⟨_, rfl, ?_⟩; have n0_ := ak (Kd.R_below d11_6 hb); have n1_ := ak (Kd.R_below d11_5 hb); have n2_ := ak (Kd.R_below d11_9 hb); have n3_ := ak (blk_below (g := gb360) (o := .cells #[.int .i64 t355, .int .i64 t356, .slice Ao13 t357.length co13] 28 (0, 0)) d11_3 hb); have n4_ := ak (blk_below (g := gb374) (o := .cells #[.int .i64 t370, .slice Ao32 t371.length co32] 32 (0, 0)) d11_7 hb); have n5_ := ak (below_step d11_1 hb); clear HO_3; clear HO_361002; clear HO_375001; clear BK360; clear BK374; clear HB; have HO_3 := n0_; have HO_361002 := n1_; have HO_375001 := n2_; have BK360 := n3_; have BK374 := n4_; have HB := n5_; clear n0_ n1_ n2_ n3_ n4_ n5_
            (try clear hb)
            (try clear hb2)
            (try clear hk)
            (try clear hi)
            refine hK.out _ _ ⟨(blk_cell BK374.out 0).trans rfl, (blk_cell BK374.out 1).trans rfl, (blk_cell BK360.out 0).trans rfl, (blk_cell BK360.out 1).trans rfl, (blk_cell BK360.out 2).trans rfl⟩ (fun hHeld => ?_); clear hK K; refine norm_ (a' := ?_) ?_ ?_; rotate_left
            · show Act.put _ (some 74) _ = _
              simp only [Act.put, pa11_1, pa11_2, pa11_3, i64_w, i32_w]; rfl
            refine pure_ (i := 14) (N := some 75) (v := ?_) (a' := ?_) m11_33 rfl rfl (any_of HT_.out (by kernel_rfl)) (fun _ _ _ h => h) (Or.inl ⟨by rfl, ?_⟩) ?_ ?_; rotate_left
            · intro w'
              go_simp; (with_reducible rfl)
            rotate_left
            · simp only [Act.put, pa11_1, pa11_2, pa11_3, i64_w, i32_w]
              rfl
            refine pure_ (i := 15) (N := some 76) (v := ?_) (a' := ?_) m11_35 rfl rfl (any_of HT_.out (by kernel_rfl)) (fun _ _ _ h => h) (Or.inl ⟨by rfl, ?_⟩) ?_ ?_; rotate_left
            · intro w'
              go_simp; (with_reducible rfl)
            rotate_left
            · simp only [Act.put, pa11_1, pa11_2, pa11_3, i64_w, i32_w]
              rfl
            refine pure_ (i := 16) (N := some 77) (v := ?_) (a' := ?_) m11_37 rfl rfl (any_of HT_.out (by kernel_rfl)) (fun _ _ _ h => h) (Or.inl ⟨by rfl, ?_⟩) ?_ ?_; rotate_left
            · intro w'
              go_simp; (with_reducible rfl)
            rotate_left
            · simp only [Act.put, pa11_1, pa11_2, pa11_3, i64_w, i32_w]
              rfl
            refine pure_ (i := 17) (N := some 78) (v := undef) (a' := ?_) m11_38 rfl rfl (any_of HT_.out (by kernel_rfl)) (fun _ _ _ h => h) (Or.inr ⟨by rfl, rfl⟩) ?_ ?_; rotate_left
            · simp only [Act.put, pa11_1, pa11_2, pa11_3, i64_w, i32_w]
              rfl
            refine pure_ (i := 18) (N := some 79) (v := undef) (a' := ?_) m11_41 rfl rfl (any_of HT_.out (by kernel_rfl)) (fun _ _ _ h => h) (Or.inr ⟨by rfl, rfl⟩) ?_ ?_; rotate_left
            · simp only [Act.put, pa11_1, pa11_2, pa11_3, i64_w, i32_w]
              rfl
            refine pure_ (i := 19) (N := some 80) (v := undef) (a' := ?_) m11_42 rfl rfl (any_of HT_.out (by kernel_rfl)) (fun _ _ _ h => h) (Or.inr ⟨by rfl, rfl⟩) ?_ ?_; rotate_left
            · simp only [Act.put, pa11_1, pa11_2, pa11_3, i64_w, i32_w]
              rfl
            refine pure_ (i := 20) (N := some 81) (v := undef) (a' := ?_) m11_43 rfl rfl (any_of HT_.out (by kernel_rfl)) (fun _ _ _ h => h) (Or.inr ⟨by rfl, rfl⟩) ?_ ?_; rotate_left
            · simp only [Act.put, pa11_1, pa11_2, pa11_3, i64_w, i32_w]
              rfl
            refine pure_ (i := 21) (N := some 82) (v := undef) (a' := ?_) m11_44 rfl rfl (any_of HT_.out (by kernel_rfl)) (fun _ _ _ h => h) (Or.inr ⟨by rfl, rfl⟩) ?_ ?_; rotate_left
            · simp only [Act.put, pa11_1, pa11_2, pa11_3, i64_w, i32_w]
              rfl
            refine pure_ (i := 22) (N := some 83) (v := undef) (a' := ?_) m11_45 rfl rfl (any_of HT_.out (by kernel_rfl)) (fun _ _ _ h => h) (Or.inr ⟨by rfl, rfl⟩) ?_ ?_; rotate_left
            · simp only [Act.put, pa11_1, pa11_2, pa11_3, i64_w, i32_w]
              rfl
            refine pure_ (i := 23) (N := some 84) (v := undef) (a' := ?_) m11_46 rfl rfl (any_of HT_.out (by kernel_rfl)) (fun _ _ _ h => h) (Or.inr ⟨by rfl, rfl⟩) ?_ ?_; rotate_left
            · simp only [Act.put, pa11_1, pa11_2, pa11_3, i64_w, i32_w]
              rfl
            refine pure_ (i := 24) (N := some 85) (v := ?_) (a' := ?_) m11_47 rfl rfl (any_of HT_.out (by kernel_rfl)) (fun _ _ _ h => h) (Or.inl ⟨by rfl, ?_⟩) ?_ ?_; rotate_left
            · intro w'
              go_simp; (with_reducible rfl)
            rotate_left
            · simp only [Act.put, pa11_1, pa11_2, pa11_3, i64_w, i32_w]
              rfl
            refine pure_ (i := 25) (N := some 86) (v := ?_) (a' := ?_) m11_48 rfl rfl (any_of HT_.out (by kernel_rfl)) (fun _ _ _ h => h) (Or.inl ⟨by rfl, ?_⟩) ?_ ?_; rotate_left
            · intro w'
              go_simp; (with_reducible rfl)
            rotate_left
            · simp only [Act.put, pa11_1, pa11_2, pa11_3, i64_w, i32_w]
              rfl
            refine pure_ (i := 26) (N := some 87) (v := undef) (a' := ?_) m11_49 rfl rfl (any_of HT_.out (by kernel_rfl)) (fun _ _ _ h => h) (Or.inr ⟨by rfl, rfl⟩) ?_ ?_; rotate_left
            · simp only [Act.put, pa11_1, pa11_2, pa11_3, i64_w, i32_w]
              rfl
            refine pure_ (i := 27) (N := some 88) (v := undef) (a' := ?_) m11_51 rfl rfl (any_of HT_.out (by kernel_rfl)) (fun _ _ _ h => h) (Or.inr ⟨by rfl, rfl⟩) ?_ ?_; rotate_left
            · simp only [Act.put, pa11_1, pa11_2, pa11_3, i64_w, i32_w]
              rfl
            refine pure_ (i := 28) (N := some 89) (v := undef) (a' := ?_) m11_54 rfl rfl (any_of HT_.out (by kernel_rfl)) (fun _ _ _ h => h) (Or.inr ⟨by rfl, rfl⟩) ?_ ?_; rotate_left
            · simp only [Act.put, pa11_1, pa11_2, pa11_3, i64_w, i32_w]
              rfl
            refine pure_ (i := 29) (N := some 90) (v := undef) (a' := ?_) m11_56 rfl rfl (any_of HT_.out (by kernel_rfl)) (fun _ _ _ h => h) (Or.inr ⟨by rfl, rfl⟩) ?_ ?_; rotate_left
            · simp only [Act.put, pa11_1, pa11_2, pa11_3, i64_w, i32_w]
              rfl
            refine pure_ (i := 30) (N := some 91) (v := undef) (a' := ?_) m11_57 rfl rfl (any_of HT_.out (by kernel_rfl)) (fun _ _ _ h => h) (Or.inr ⟨by rfl, rfl⟩) ?_ ?_; rotate_left
            · simp only [Act.put, pa11_1, pa11_2, pa11_3, i64_w, i32_w]
              rfl
            refine pure_ (i := 31) (N := some 92) (v := undef) (a' := ?_) m11_58 rfl rfl (any_of HT_.out (by kernel_rfl)) (fun _ _ _ h => h) (Or.inr ⟨by rfl, rfl⟩) ?_ ?_; rotate_left
            · simp only [Act.put, pa11_1, pa11_2, pa11_3, i64_w, i32_w]
              rfl
            refine pure_ (i := 32) (N := some 93) (v := undef) (a' := ?_) m11_59 rfl rfl (any_of HT_.out (by kernel_rfl)) (fun _ _ _ h => h) (Or.inr ⟨by rfl, rfl⟩) ?_ ?_; rotate_left
            · simp only [Act.put, pa11_1, pa11_2, pa11_3, i64_w, i32_w]
              rfl
            refine pure_ (i := 33) (N := some 94) (v := undef) (a' := ?_) m11_60 rfl rfl (any_of HT_.out (by kernel_rfl)) (fun _ _ _ h => h) (Or.inr ⟨by rfl, rfl⟩) ?_ ?_; rotate_left
            · simp only [Act.put, pa11_1, pa11_2, pa11_3, i64_w, i32_w]
              rfl
            refine pure_ (i := 34) (N := some 95) (v := undef) (a' := ?_) m11_61 rfl rfl (any_of HT_.out (by kernel_rfl)) (fun _ _ _ h => h) (Or.inr ⟨by rfl, rfl⟩) ?_ ?_; rotate_left
            · simp only [Act.put, pa11_1, pa11_2, pa11_3, i64_w, i32_w]
              rfl
            refine pure_ (i := 35) (N := some 96) (v := ?_) (a' := ?_) m11_62 rfl rfl (any_of HT_.out (by kernel_rfl)) (fun _ _ _ h => h) (Or.inl ⟨by rfl, ?_⟩) ?_ ?_; rotate_left
            · intro w'
              go_simp; (with_reducible rfl)
            rotate_left
            · simp only [Act.put, pa11_1, pa11_2, pa11_3, i64_w, i32_w]
              rfl
            refine pure_ (i := 36) (N := some 2) (v := ?_) (a' := ?_) m11_63 rfl rfl (any_of HT_.out (by kernel_rfl)) (fun _ _ _ h => h) (Or.inl ⟨by rfl, ?_⟩) ?_ ?_; rotate_left
            · intro w'
              go_simp; (with_reducible rfl)
            rotate_left
            · simp only [Act.put, pa11_1, pa11_2, pa11_3, i64_w, i32_w]
              rfl
            refine done_ (done_of HT_.out (by kernel_rfl)) ?_
            try go_wp2
            go_meet
            case rel => exact ⟨_, (false), d11_8, H', ⟨by have := HJ2.out; have := HJ6.out; have := HJ26.out; first | omega | exact Nat.le_refl _⟩, ⟨c11_7⟩, ⟨c11_6⟩, ⟨c11_3⟩, ⟨c11_5⟩, ⟨c11_1⟩⟩
          ·rw [if_neg c51] at H
           have c51b0 : (x7_26 == (t357.length : Int)) = false := beq_eq_false_iff_ne.mpr c51; have c51b1 : (x7_26 != (t357.length : Int)) = true := bne_iff_ne.mpr c51; have H' := ak H; clear H
           try go_wp2
           have n0_ := ak (Kd.R_drew HO_3.out); have n1_ := ak (Kd.R_drew HO_361002.out); have n2_ := ak (Kd.R_drew HO_375001.out); have n3_ := ak (blk_drew BK360.out); have n4_ := ak (blk_drew BK374.out); have n5_ := ak (below_drew1 HB.out); clear HO_3; clear HO_361002; clear HO_375001; clear BK360; clear BK374; clear HB; have HO_3 := n0_; have HO_361002 := n1_; have HO_375001 := n2_; have BK360 := n3_; have BK374 := n4_; have HB := n5_; clear n0_ n1_ n2_ n3_ n4_ n5_; refine start_ (n := 37) (S := fun w' => w'.cell? ⟨gb374, 0, none⟩ = some (.int .i64 t370) ∧ w'.cell? ⟨gb374, 1, none⟩ = some (.slice Ao32 t371.length co32) ∧ w'.cell? ⟨gb360, 0, none⟩ = some (.int .i64 t355) ∧ w'.cell? ⟨gb360, 1, none⟩ = some (.int .i64 t356) ∧ w'.cell? ⟨gb360, 2, none⟩ = some (.slice Ao13 t357.length co13)) (ds := []) m11_0 (by kernel_rfl) rfl rfl ⟨(blk_cell BK374.out 0).trans rfl, (blk_cell BK374.out 1).trans rfl, (blk_cell BK360.out 0).trans rfl, (blk_cell BK360.out 1).trans rfl, (blk_cell BK360.out 2).trans rfl⟩ (fun hHeld => ?_); refine with_tabW laws_FnParts.tab14 laws_FnParts.bits14 (fun HT_ HW_ => ?_); generalize wc.drew = w71 at HO_3 HO_361002 HO_375001 BK360 BK374 HB hHeld ⊢
           refine pure_ (i := 0) (N := some 61) (v := ?_) (a' := ?_) m11_2 rfl rfl (any_of HT_.out (by kernel_rfl)) (fun _ _ _ h => h) (Or.inl ⟨by rfl, ?_⟩) ?_ ?_; rotate_left
           · intro w'
             go_simp; (with_reducible rfl)
           rotate_left
           · simp only [Act.put, pa11_1, pa11_2, pa11_3, i64_w, i32_w]
             rfl
           refine take_ (i := 1) (N := some 62) (v := ?_) (a' := ?_) m11_4 rfl rfl (take_ofW HT_.out HW_.out (by kernel_rfl)) (fun _ _ _ h => h) (Or.inl ⟨by rfl, ?_⟩) hHeld ?_ ?_; rotate_left
           · rintro w' ⟨s0, s1, s2, s3, s4⟩
             go_simp; (with_reducible rfl)
           rotate_left
           · simp only [Act.put, pa11_1, pa11_2, pa11_3, i64_w, i32_w]
             rfl
           refine pure_ (i := 2) (N := some 63) (v := ?_) (a' := ?_) m11_8 rfl rfl (any_of HT_.out (by kernel_rfl)) (fun _ _ _ h => h) (Or.inl ⟨by rfl, ?_⟩) ?_ ?_; rotate_left
           · intro w'
             go_simp; (with_reducible rfl)
           rotate_left
           · simp only [Act.put, pa11_1, pa11_2, pa11_3, i64_w, i32_w]
             rfl
           refine pure_ (i := 3) (N := some 64) (v := ?_) (a' := ?_) m11_10 rfl rfl (any_of HT_.out (by kernel_rfl)) (fun _ _ _ h => h) (Or.inl ⟨by rfl, ?_⟩) ?_ ?_; rotate_left
           · intro w'
             go_simp; (with_reducible rfl)
           rotate_left
           · simp only [Act.put, pa11_1, pa11_2, pa11_3, i64_w, i32_w]
             rfl
           refine pure_ (i := 4) (N := some 65) (v := ?_) (a' := ?_) m11_11 rfl rfl (any_of HT_.out (by kernel_rfl)) (fun _ _ _ h => h) (Or.inl ⟨by rfl, ?_⟩) ?_ ?_; rotate_left
           · intro w'
             go_simp; (with_reducible rfl)
           rotate_left
           · simp only [Act.put, pa11_1, pa11_2, pa11_3, i64_w, i32_w]
             rfl
           refine pure_ (i := 5) (N := some 66) (v := ?_) (a' := ?_) m11_12 rfl rfl (any_of HT_.out (by kernel_rfl)) (fun _ _ _ h => h) (Or.inl ⟨by rfl, ?_⟩) ?_ ?_; rotate_left
           · intro w'
             go_simp; (with_reducible rfl)
           rotate_left
           · simp only [Act.put, pa11_1, pa11_2, pa11_3, i64_w, i32_w]
             rfl
           refine take_ (i := 6) (N := some 67) (v := ?_) (a' := ?_) m11_14 rfl rfl (take_ofW HT_.out HW_.out (by kernel_rfl)) (fun _ _ _ h => h) (Or.inl ⟨by rfl, ?_⟩) hHeld ?_ ?_; rotate_left
           · rintro w' ⟨s0, s1, s2, s3, s4⟩
             go_simp; (with_reducible rfl)
           rotate_left
           · simp only [Act.put, pa11_1, pa11_2, pa11_3, i64_w, i32_w]
             rfl
           refine pure_ (i := 7) (N := some 68) (v := ?_) (a' := ?_) m11_16 rfl rfl (any_of HT_.out (by kernel_rfl)) (fun _ _ _ h => h) (Or.inl ⟨by rfl, ?_⟩) ?_ ?_; rotate_left
           · intro w'
             go_simp; (with_reducible rfl)
           rotate_left
           · simp only [Act.put, pa11_1, pa11_2, pa11_3, i64_w, i32_w]
             rfl
           refine pure_ (i := 8) (N := some 69) (v := ?_) (a' := ?_) m11_18 rfl rfl (any_of HT_.out (by kernel_rfl)) (fun _ _ _ h => h) (Or.inl ⟨by rfl, ?_⟩) ?_ ?_; rotate_left
           · intro w'
             go_simp; (with_reducible rfl)
           rotate_left
           · simp only [Act.put, pa11_1, pa11_2, pa11_3, i64_w, i32_w]
             rfl
           refine pure_ (i := 9) (N := some 70) (v := ?_) (a' := ?_) m11_20 rfl rfl (any_of HT_.out (by kernel_rfl)) (fun _ _ _ h => h) (Or.inl ⟨by rfl, ?_⟩) ?_ ?_; rotate_left
           · intro w'
             go_simp; (with_reducible rfl)
           rotate_left
           · simp only [Act.put, pa11_1, pa11_2, pa11_3, i64_w, i32_w]
             rfl
           refine pure_ (i := 10) (N := some 71) (v := ?_) (a' := ?_) m11_24 rfl rfl (any_of HT_.out (by kernel_rfl)) (fun _ _ _ h => h) (Or.inl ⟨by rfl, ?_⟩) ?_ ?_; rotate_left
           · intro w'
             go_simp; (with_reducible rfl)
           rotate_left
           · simp only [Act.put, pa11_1, pa11_2, pa11_3, i64_w, i32_w]
             rfl
           refine pure_ (i := 11) (N := some 72) (v := undef) (a' := ?_) m11_27 rfl rfl (any_of HT_.out (by kernel_rfl)) (fun _ _ _ h => h) (Or.inr ⟨by rfl, rfl⟩) ?_ ?_; rotate_left
           · simp only [Act.put, pa11_1, pa11_2, pa11_3, i64_w, i32_w]
             rfl
           refine pure_ (i := 12) (N := some 73) (v := undef) (a' := ?_) m11_29 rfl rfl (any_of HT_.out (by kernel_rfl)) (fun _ _ _ h => h) (Or.inr ⟨by rfl, rfl⟩) ?_ ?_; rotate_left
           · simp only [Act.put, pa11_1, pa11_2, pa11_3, i64_w, i32_w]
             rfl
           refine pure_ (i := 13) (N := some 74) (v := undef) (a' := ?_) m11_31 rfl rfl (any_of HT_.out (by kernel_rfl)) (fun _ _ _ h => h) (Or.inr ⟨by rfl, rfl⟩) ?_ ?_; rotate_left
           · simp only [Act.put, pa11_1, pa11_2, pa11_3, i64_w, i32_w]
             rfl
           refine pure_ (i := 14) (N := some 75) (v := undef) (a' := ?_) m11_33 rfl rfl (any_of HT_.out (by kernel_rfl)) (fun _ _ _ h => h) (Or.inr ⟨by rfl, rfl⟩) ?_ ?_; rotate_left
           · simp only [Act.put, pa11_1, pa11_2, pa11_3, i64_w, i32_w]
             rfl
           refine pure_ (i := 15) (N := some 76) (v := ?_) (a' := ?_) m11_35 rfl rfl (any_of HT_.out (by kernel_rfl)) (fun _ _ _ h => h) (Or.inl ⟨by rfl, ?_⟩) ?_ ?_; rotate_left
           · intro w'
             go_simp; (with_reducible rfl)
           rotate_left
           · simp only [Act.put, pa11_1, pa11_2, pa11_3, i64_w, i32_w]
             rfl
           refine pure_ (i := 16) (N := some 77) (v := ?_) (a' := ?_) m11_37 rfl rfl (any_of HT_.out (by kernel_rfl)) (fun _ _ _ h => h) (Or.inl ⟨by rfl, ?_⟩) ?_ ?_; rotate_left
           · intro w'
             go_simp; (with_reducible rfl)
           rotate_left
           · simp only [Act.put, pa11_1, pa11_2, pa11_3, i64_w, i32_w]
             rfl
           refine pure_ (i := 17) (N := some 78) (v := undef) (a' := ?_) m11_38 rfl rfl (any_of HT_.out (by kernel_rfl)) (fun _ _ _ h => h) (Or.inr ⟨by rfl, rfl⟩) ?_ ?_; rotate_left
           · simp only [Act.put, pa11_1, pa11_2, pa11_3, i64_w, i32_w]
             rfl
           refine pure_ (i := 18) (N := some 79) (v := undef) (a' := ?_) m11_41 rfl rfl (any_of HT_.out (by kernel_rfl)) (fun _ _ _ h => h) (Or.inr ⟨by rfl, rfl⟩) ?_ ?_; rotate_left
           · simp only [Act.put, pa11_1, pa11_2, pa11_3, i64_w, i32_w]
             rfl
           refine pure_ (i := 19) (N := some 80) (v := undef) (a' := ?_) m11_42 rfl rfl (any_of HT_.out (by kernel_rfl)) (fun _ _ _ h => h) (Or.inr ⟨by rfl, rfl⟩) ?_ ?_; rotate_left
           · simp only [Act.put, pa11_1, pa11_2, pa11_3, i64_w, i32_w]
             rfl
           refine pure_ (i := 20) (N := some 81) (v := undef) (a' := ?_) m11_43 rfl rfl (any_of HT_.out (by kernel_rfl)) (fun _ _ _ h => h) (Or.inr ⟨by rfl, rfl⟩) ?_ ?_; rotate_left
           · simp only [Act.put, pa11_1, pa11_2, pa11_3, i64_w, i32_w]
             rfl
           refine pure_ (i := 21) (N := some 82) (v := undef) (a' := ?_) m11_44 rfl rfl (any_of HT_.out (by kernel_rfl)) (fun _ _ _ h => h) (Or.inr ⟨by rfl, rfl⟩) ?_ ?_; rotate_left
           · simp only [Act.put, pa11_1, pa11_2, pa11_3, i64_w, i32_w]
             rfl
           refine pure_ (i := 22) (N := some 83) (v := undef) (a' := ?_) m11_45 rfl rfl (any_of HT_.out (by kernel_rfl)) (fun _ _ _ h => h) (Or.inr ⟨by rfl, rfl⟩) ?_ ?_; rotate_left
           · simp only [Act.put, pa11_1, pa11_2, pa11_3, i64_w, i32_w]
             rfl
           refine pure_ (i := 23) (N := some 84) (v := undef) (a' := ?_) m11_46 rfl rfl (any_of HT_.out (by kernel_rfl)) (fun _ _ _ h => h) (Or.inr ⟨by rfl, rfl⟩) ?_ ?_; rotate_left
           · simp only [Act.put, pa11_1, pa11_2, pa11_3, i64_w, i32_w]
             rfl
           refine pure_ (i := 24) (N := some 85) (v := ?_) (a' := ?_) m11_47 rfl rfl (any_of HT_.out (by kernel_rfl)) (fun _ _ _ h => h) (Or.inl ⟨by rfl, ?_⟩) ?_ ?_; rotate_left
           · intro w'
             go_simp; (with_reducible rfl)
           rotate_left
           · simp only [Act.put, pa11_1, pa11_2, pa11_3, i64_w, i32_w]
             rfl
           refine pure_ (i := 25) (N := some 86) (v := ?_) (a' := ?_) m11_48 rfl rfl (any_of HT_.out (by kernel_rfl)) (fun _ _ _ h => h) (Or.inl ⟨by rfl, ?_⟩) ?_ ?_; rotate_left
           · intro w'
             go_simp; (with_reducible rfl)
           rotate_left
           · simp only [Act.put, pa11_1, pa11_2, pa11_3, i64_w, i32_w]
             rfl
           refine pure_ (i := 26) (N := some 87) (v := undef) (a' := ?_) m11_49 rfl rfl (any_of HT_.out (by kernel_rfl)) (fun _ _ _ h => h) (Or.inr ⟨by rfl, rfl⟩) ?_ ?_; rotate_left
           · simp only [Act.put, pa11_1, pa11_2, pa11_3, i64_w, i32_w]
             rfl
           refine pure_ (i := 27) (N := some 88) (v := undef) (a' := ?_) m11_51 rfl rfl (any_of HT_.out (by kernel_rfl)) (fun _ _ _ h => h) (Or.inr ⟨by rfl, rfl⟩) ?_ ?_; rotate_left
           · simp only [Act.put, pa11_1, pa11_2, pa11_3, i64_w, i32_w]
             rfl
           refine pure_ (i := 28) (N := some 89) (v := undef) (a' := ?_) m11_54 rfl rfl (any_of HT_.out (by kernel_rfl)) (fun _ _ _ h => h) (Or.inr ⟨by rfl, rfl⟩) ?_ ?_; rotate_left
           · simp only [Act.put, pa11_1, pa11_2, pa11_3, i64_w, i32_w]
             rfl
           refine pure_ (i := 29) (N := some 90) (v := undef) (a' := ?_) m11_56 rfl rfl (any_of HT_.out (by kernel_rfl)) (fun _ _ _ h => h) (Or.inr ⟨by rfl, rfl⟩) ?_ ?_; rotate_left
           · simp only [Act.put, pa11_1, pa11_2, pa11_3, i64_w, i32_w]
             rfl
           refine pure_ (i := 30) (N := some 91) (v := undef) (a' := ?_) m11_57 rfl rfl (any_of HT_.out (by kernel_rfl)) (fun _ _ _ h => h) (Or.inr ⟨by rfl, rfl⟩) ?_ ?_; rotate_left
           · simp only [Act.put, pa11_1, pa11_2, pa11_3, i64_w, i32_w]
             rfl
           refine pure_ (i := 31) (N := some 92) (v := undef) (a' := ?_) m11_58 rfl rfl (any_of HT_.out (by kernel_rfl)) (fun _ _ _ h => h) (Or.inr ⟨by rfl, rfl⟩) ?_ ?_; rotate_left
           · simp only [Act.put, pa11_1, pa11_2, pa11_3, i64_w, i32_w]
             rfl
           refine pure_ (i := 32) (N := some 93) (v := undef) (a' := ?_) m11_59 rfl rfl (any_of HT_.out (by kernel_rfl)) (fun _ _ _ h => h) (Or.inr ⟨by rfl, rfl⟩) ?_ ?_; rotate_left
           · simp only [Act.put, pa11_1, pa11_2, pa11_3, i64_w, i32_w]
             rfl
           refine pure_ (i := 33) (N := some 94) (v := undef) (a' := ?_) m11_60 rfl rfl (any_of HT_.out (by kernel_rfl)) (fun _ _ _ h => h) (Or.inr ⟨by rfl, rfl⟩) ?_ ?_; rotate_left
           · simp only [Act.put, pa11_1, pa11_2, pa11_3, i64_w, i32_w]
             rfl
           refine pure_ (i := 34) (N := some 95) (v := undef) (a' := ?_) m11_61 rfl rfl (any_of HT_.out (by kernel_rfl)) (fun _ _ _ h => h) (Or.inr ⟨by rfl, rfl⟩) ?_ ?_; rotate_left
           · simp only [Act.put, pa11_1, pa11_2, pa11_3, i64_w, i32_w]
             rfl
           refine pure_ (i := 35) (N := some 96) (v := ?_) (a' := ?_) m11_62 rfl rfl (any_of HT_.out (by kernel_rfl)) (fun _ _ _ h => h) (Or.inl ⟨by rfl, ?_⟩) ?_ ?_; rotate_left
           · intro w'
             go_simp; (with_reducible rfl)
           rotate_left
           · simp only [Act.put, pa11_1, pa11_2, pa11_3, i64_w, i32_w]
             rfl
           refine pure_ (i := 36) (N := some 2) (v := ?_) (a' := ?_) m11_63 rfl rfl (any_of HT_.out (by kernel_rfl)) (fun _ _ _ h => h) (Or.inl ⟨by rfl, ?_⟩) ?_ ?_; rotate_left
           · intro w'
             go_simp; (with_reducible rfl)
           rotate_left
           · simp only [Act.put, pa11_1, pa11_2, pa11_3, i64_w, i32_w]
             rfl
           refine done_ (done_of HT_.out (by kernel_rfl)) ?_
           try go_wp2
           go_meet
           case rel => exact ⟨_, (false), d11_8, H', ⟨by have := HJ2.out; have := HJ6.out; have := HJ26.out; first | omega | exact Nat.le_refl _⟩, ⟨c11_7⟩, ⟨c11_6⟩, ⟨c11_3⟩, ⟨c11_5⟩, ⟨c11_1⟩⟩
         ·rw [if_neg c50] at H
          have c50b0 : (t370 == 0) = false := beq_eq_false_iff_ne.mpr c50; have c50b1 : (t370 != 0) = true := bne_iff_ne.mpr c50
          (first | rw [c50b0] | (simp only [i64_w, i32_w]; rw [c50b0]) | skip)
          have H' := ak H; clear H
          try go_wp2
          have n0_ := ak (Kd.R_drew HO_3.out); have n1_ := ak (Kd.R_drew HO_361002.out); have n2_ := ak (Kd.R_drew HO_375001.out); have n3_ := ak (blk_drew BK360.out); have n4_ := ak (blk_drew BK374.out); have n5_ := ak (below_drew1 HB.out); clear HO_3; clear HO_361002; clear HO_375001; clear BK360; clear BK374; clear HB; have HO_3 := n0_; have HO_361002 := n1_; have HO_375001 := n2_; have BK360 := n3_; have BK374 := n4_; have HB := n5_; clear n0_ n1_ n2_ n3_ n4_ n5_; refine start_ (n := 37) (S := fun w' => w'.cell? ⟨gb374, 0, none⟩ = some (.int .i64 t370) ∧ w'.cell? ⟨gb374, 1, none⟩ = some (.slice Ao32 t371.length co32)) (ds := []) m11_0 (by kernel_rfl) rfl rfl ⟨(blk_cell BK374.out 0).trans rfl, (blk_cell BK374.out 1).trans rfl⟩ (fun hHeld => ?_); refine with_tabW laws_FnParts.tab14 laws_FnParts.bits14 (fun HT_ HW_ => ?_); generalize wc.drew = w72 at HO_3 HO_361002 HO_375001 BK360 BK374 HB hHeld ⊢
          refine pure_ (i := 0) (N := some 61) (v := ?_) (a' := ?_) m11_2 rfl rfl (any_of HT_.out (by kernel_rfl)) (fun _ _ _ h => h) (Or.inl ⟨by rfl, ?_⟩) ?_ ?_; rotate_left
          · intro w'
            go_simp; (with_reducible rfl)
          rotate_left
          · simp only [Act.put, pa11_1, pa11_2, pa11_3, i64_w, i32_w]
            rfl
          refine take_ (i := 1) (N := some 62) (v := ?_) (a' := ?_) m11_4 rfl rfl (take_ofW HT_.out HW_.out (by kernel_rfl)) (fun _ _ _ h => h) (Or.inl ⟨by rfl, ?_⟩) hHeld ?_ ?_; rotate_left
          · rintro w' ⟨s0, s1⟩
            go_simp; (with_reducible rfl)
          rotate_left
          · simp only [Act.put, pa11_1, pa11_2, pa11_3, i64_w, i32_w]
            rfl
          refine pure_ (i := 2) (N := some 63) (v := ?_) (a' := ?_) m11_8 rfl rfl (any_of HT_.out (by kernel_rfl)) (fun _ _ _ h => h) (Or.inl ⟨by rfl, ?_⟩) ?_ ?_; rotate_left
          · intro w'
            go_simp; (with_reducible rfl)
          rotate_left
          · simp only [Act.put, pa11_1, pa11_2, pa11_3, i64_w, i32_w]
            rfl
          refine pure_ (i := 3) (N := some 64) (v := ?_) (a' := ?_) m11_10 rfl rfl (any_of HT_.out (by kernel_rfl)) (fun _ _ _ h => h) (Or.inl ⟨by rfl, ?_⟩) ?_ ?_; rotate_left
          · intro w'
            go_simp; (with_reducible rfl)
          rotate_left
          · simp only [Act.put, pa11_1, pa11_2, pa11_3, i64_w, i32_w]
            rfl
          refine pure_ (i := 4) (N := some 65) (v := undef) (a' := ?_) m11_11 rfl rfl (any_of HT_.out (by kernel_rfl)) (fun _ _ _ h => h) (Or.inr ⟨by rfl, rfl⟩) ?_ ?_; rotate_left
          · simp only [Act.put, pa11_1, pa11_2, pa11_3, i64_w, i32_w]
            rfl
          refine pure_ (i := 5) (N := some 66) (v := undef) (a' := ?_) m11_12 rfl rfl (any_of HT_.out (by kernel_rfl)) (fun _ _ _ h => h) (Or.inr ⟨by rfl, rfl⟩) ?_ ?_; rotate_left
          · simp only [Act.put, pa11_1, pa11_2, pa11_3, i64_w, i32_w]
            rfl
          refine pure_ (i := 6) (N := some 67) (v := undef) (a' := ?_) m11_14 rfl rfl (any_of HT_.out (by kernel_rfl)) (fun _ _ _ h => h) (Or.inr ⟨by rfl, rfl⟩) ?_ ?_; rotate_left
          · simp only [Act.put, pa11_1, pa11_2, pa11_3, i64_w, i32_w]
            rfl
          refine pure_ (i := 7) (N := some 68) (v := undef) (a' := ?_) m11_16 rfl rfl (any_of HT_.out (by kernel_rfl)) (fun _ _ _ h => h) (Or.inr ⟨by rfl, rfl⟩) ?_ ?_; rotate_left
          · simp only [Act.put, pa11_1, pa11_2, pa11_3, i64_w, i32_w]
            rfl
          refine pure_ (i := 8) (N := some 69) (v := undef) (a' := ?_) m11_18 rfl rfl (any_of HT_.out (by kernel_rfl)) (fun _ _ _ h => h) (Or.inr ⟨by rfl, rfl⟩) ?_ ?_; rotate_left
          · simp only [Act.put, pa11_1, pa11_2, pa11_3, i64_w, i32_w]
            rfl
          refine pure_ (i := 9) (N := some 70) (v := ?_) (a' := ?_) m11_20 rfl rfl (any_of HT_.out (by kernel_rfl)) (fun _ _ _ h => h) (Or.inl ⟨by rfl, ?_⟩) ?_ ?_; rotate_left
          · intro w'
            go_simp; (with_reducible rfl)
          rotate_left
          · simp only [Act.put, pa11_1, pa11_2, pa11_3, i64_w, i32_w]
            rfl
          refine pure_ (i := 10) (N := some 71) (v := ?_) (a' := ?_) m11_24 rfl rfl (any_of HT_.out (by kernel_rfl)) (fun _ _ _ h => h) (Or.inl ⟨by rfl, ?_⟩) ?_ ?_; rotate_left
          · intro w'
            go_simp; (with_reducible rfl)
          rotate_left
          · simp only [Act.put, pa11_1, pa11_2, pa11_3, i64_w, i32_w]
            rfl
          refine pure_ (i := 11) (N := some 72) (v := undef) (a' := ?_) m11_27 rfl rfl (any_of HT_.out (by kernel_rfl)) (fun _ _ _ h => h) (Or.inr ⟨by rfl, rfl⟩) ?_ ?_; rotate_left
          · simp only [Act.put, pa11_1, pa11_2, pa11_3, i64_w, i32_w]
            rfl
          refine pure_ (i := 12) (N := some 73) (v := undef) (a' := ?_) m11_29 rfl rfl (any_of HT_.out (by kernel_rfl)) (fun _ _ _ h => h) (Or.inr ⟨by rfl, rfl⟩) ?_ ?_; rotate_left
          · simp only [Act.put, pa11_1, pa11_2, pa11_3, i64_w, i32_w]
            rfl
          refine pure_ (i := 13) (N := some 74) (v := undef) (a' := ?_) m11_31 rfl rfl (any_of HT_.out (by kernel_rfl)) (fun _ _ _ h => h) (Or.inr ⟨by rfl, rfl⟩) ?_ ?_; rotate_left
          · simp only [Act.put, pa11_1, pa11_2, pa11_3, i64_w, i32_w]
            rfl
          refine pure_ (i := 14) (N := some 75) (v := undef) (a' := ?_) m11_33 rfl rfl (any_of HT_.out (by kernel_rfl)) (fun _ _ _ h => h) (Or.inr ⟨by rfl, rfl⟩) ?_ ?_; rotate_left
          · simp only [Act.put, pa11_1, pa11_2, pa11_3, i64_w, i32_w]
            rfl
          refine pure_ (i := 15) (N := some 76) (v := ?_) (a' := ?_) m11_35 rfl rfl (any_of HT_.out (by kernel_rfl)) (fun _ _ _ h => h) (Or.inl ⟨by rfl, ?_⟩) ?_ ?_; rotate_left
          · intro w'
            go_simp; (with_reducible rfl)
          rotate_left
          · simp only [Act.put, pa11_1, pa11_2, pa11_3, i64_w, i32_w]
            rfl
          refine pure_ (i := 16) (N := some 77) (v := ?_) (a' := ?_) m11_37 rfl rfl (any_of HT_.out (by kernel_rfl)) (fun _ _ _ h => h) (Or.inl ⟨by rfl, ?_⟩) ?_ ?_; rotate_left
          · intro w'
            go_simp; (with_reducible rfl)
          rotate_left
          · simp only [Act.put, pa11_1, pa11_2, pa11_3, i64_w, i32_w]
            rfl
          refine pure_ (i := 17) (N := some 78) (v := undef) (a' := ?_) m11_38 rfl rfl (any_of HT_.out (by kernel_rfl)) (fun _ _ _ h => h) (Or.inr ⟨by rfl, rfl⟩) ?_ ?_; rotate_left
          · simp only [Act.put, pa11_1, pa11_2, pa11_3, i64_w, i32_w]
            rfl
          refine pure_ (i := 18) (N := some 79) (v := undef) (a' := ?_) m11_41 rfl rfl (any_of HT_.out (by kernel_rfl)) (fun _ _ _ h => h) (Or.inr ⟨by rfl, rfl⟩) ?_ ?_; rotate_left
          · simp only [Act.put, pa11_1, pa11_2, pa11_3, i64_w, i32_w]
            rfl
          refine pure_ (i := 19) (N := some 80) (v := undef) (a' := ?_) m11_42 rfl rfl (any_of HT_.out (by kernel_rfl)) (fun _ _ _ h => h) (Or.inr ⟨by rfl, rfl⟩) ?_ ?_; rotate_left
          · simp only [Act.put, pa11_1, pa11_2, pa11_3, i64_w, i32_w]
            rfl
          refine pure_ (i := 20) (N := some 81) (v := undef) (a' := ?_) m11_43 rfl rfl (any_of HT_.out (by kernel_rfl)) (fun _ _ _ h => h) (Or.inr ⟨by rfl, rfl⟩) ?_ ?_; rotate_left
          · simp only [Act.put, pa11_1, pa11_2, pa11_3, i64_w, i32_w]
            rfl
          refine pure_ (i := 21) (N := some 82) (v := undef) (a' := ?_) m11_44 rfl rfl (any_of HT_.out (by kernel_rfl)) (fun _ _ _ h => h) (Or.inr ⟨by rfl, rfl⟩) ?_ ?_; rotate_left
          · simp only [Act.put, pa11_1, pa11_2, pa11_3, i64_w, i32_w]
            rfl
          refine pure_ (i := 22) (N := some 83) (v := undef) (a' := ?_) m11_45 rfl rfl (any_of HT_.out (by kernel_rfl)) (fun _ _ _ h => h) (Or.inr ⟨by rfl, rfl⟩) ?_ ?_; rotate_left
          · simp only [Act.put, pa11_1, pa11_2, pa11_3, i64_w, i32_w]
            rfl
          refine pure_ (i := 23) (N := some 84) (v := undef) (a' := ?_) m11_46 rfl rfl (any_of HT_.out (by kernel_rfl)) (fun _ _ _ h => h) (Or.inr ⟨by rfl, rfl⟩) ?_ ?_; rotate_left
          · simp only [Act.put, pa11_1, pa11_2, pa11_3, i64_w, i32_w]
            rfl
          refine pure_ (i := 24) (N := some 85) (v := ?_) (a' := ?_) m11_47 rfl rfl (any_of HT_.out (by kernel_rfl)) (fun _ _ _ h => h) (Or.inl ⟨by rfl, ?_⟩) ?_ ?_; rotate_left
          · intro w'
            go_simp; (with_reducible rfl)
          rotate_left
          · simp only [Act.put, pa11_1, pa11_2, pa11_3, i64_w, i32_w]
            rfl
          refine pure_ (i := 25) (N := some 86) (v := ?_) (a' := ?_) m11_48 rfl rfl (any_of HT_.out (by kernel_rfl)) (fun _ _ _ h => h) (Or.inl ⟨by rfl, ?_⟩) ?_ ?_; rotate_left
          · intro w'
            go_simp; (with_reducible rfl)
          rotate_left
          · simp only [Act.put, pa11_1, pa11_2, pa11_3, i64_w, i32_w]
            rfl
          refine pure_ (i := 26) (N := some 87) (v := undef) (a' := ?_) m11_49 rfl rfl (any_of HT_.out (by kernel_rfl)) (fun _ _ _ h => h) (Or.inr ⟨by rfl, rfl⟩) ?_ ?_; rotate_left
          · simp only [Act.put, pa11_1, pa11_2, pa11_3, i64_w, i32_w]
            rfl
          refine pure_ (i := 27) (N := some 88) (v := undef) (a' := ?_) m11_51 rfl rfl (any_of HT_.out (by kernel_rfl)) (fun _ _ _ h => h) (Or.inr ⟨by rfl, rfl⟩) ?_ ?_; rotate_left
          · simp only [Act.put, pa11_1, pa11_2, pa11_3, i64_w, i32_w]
            rfl
          refine pure_ (i := 28) (N := some 89) (v := undef) (a' := ?_) m11_54 rfl rfl (any_of HT_.out (by kernel_rfl)) (fun _ _ _ h => h) (Or.inr ⟨by rfl, rfl⟩) ?_ ?_; rotate_left
          · simp only [Act.put, pa11_1, pa11_2, pa11_3, i64_w, i32_w]
            rfl
          refine pure_ (i := 29) (N := some 90) (v := undef) (a' := ?_) m11_56 rfl rfl (any_of HT_.out (by kernel_rfl)) (fun _ _ _ h => h) (Or.inr ⟨by rfl, rfl⟩) ?_ ?_; rotate_left
          · simp only [Act.put, pa11_1, pa11_2, pa11_3, i64_w, i32_w]
            rfl
          refine pure_ (i := 30) (N := some 91) (v := undef) (a' := ?_) m11_57 rfl rfl (any_of HT_.out (by kernel_rfl)) (fun _ _ _ h => h) (Or.inr ⟨by rfl, rfl⟩) ?_ ?_; rotate_left
          · simp only [Act.put, pa11_1, pa11_2, pa11_3, i64_w, i32_w]
            rfl
          refine pure_ (i := 31) (N := some 92) (v := undef) (a' := ?_) m11_58 rfl rfl (any_of HT_.out (by kernel_rfl)) (fun _ _ _ h => h) (Or.inr ⟨by rfl, rfl⟩) ?_ ?_; rotate_left
          · simp only [Act.put, pa11_1, pa11_2, pa11_3, i64_w, i32_w]
            rfl
          refine pure_ (i := 32) (N := some 93) (v := undef) (a' := ?_) m11_59 rfl rfl (any_of HT_.out (by kernel_rfl)) (fun _ _ _ h => h) (Or.inr ⟨by rfl, rfl⟩) ?_ ?_; rotate_left
          · simp only [Act.put, pa11_1, pa11_2, pa11_3, i64_w, i32_w]
            rfl
          refine pure_ (i := 33) (N := some 94) (v := undef) (a' := ?_) m11_60 rfl rfl (any_of HT_.out (by kernel_rfl)) (fun _ _ _ h => h) (Or.inr ⟨by rfl, rfl⟩) ?_ ?_; rotate_left
          · simp only [Act.put, pa11_1, pa11_2, pa11_3, i64_w, i32_w]
            rfl
          refine pure_ (i := 34) (N := some 95) (v := undef) (a' := ?_) m11_61 rfl rfl (any_of HT_.out (by kernel_rfl)) (fun _ _ _ h => h) (Or.inr ⟨by rfl, rfl⟩) ?_ ?_; rotate_left
          · simp only [Act.put, pa11_1, pa11_2, pa11_3, i64_w, i32_w]
            rfl
          refine pure_ (i := 35) (N := some 96) (v := ?_) (a' := ?_) m11_62 rfl rfl (any_of HT_.out (by kernel_rfl)) (fun _ _ _ h => h) (Or.inl ⟨by rfl, ?_⟩) ?_ ?_; rotate_left
          · intro w'
            go_simp; (with_reducible rfl)
          rotate_left
          · simp only [Act.put, pa11_1, pa11_2, pa11_3, i64_w, i32_w]
            rfl
          refine pure_ (i := 36) (N := some 2) (v := ?_) (a' := ?_) m11_63 rfl rfl (any_of HT_.out (by kernel_rfl)) (fun _ _ _ h => h) (Or.inl ⟨by rfl, ?_⟩) ?_ ?_; rotate_left
          · intro w'
            go_simp; (with_reducible rfl)
          rotate_left
          · simp only [Act.put, pa11_1, pa11_2, pa11_3, i64_w, i32_w]
            rfl
          refine done_ (done_of HT_.out (by kernel_rfl)) ?_
          try go_wp2
          go_meet
          case rel => exact ⟨_, (false), d11_8, H', ⟨by have := HJ2.out; have := HJ6.out; have := HJ26.out; first | omega | exact Nat.le_refl _⟩, ⟨c11_7⟩, ⟨c11_6⟩, ⟨c11_3⟩, ⟨c11_5⟩, ⟨c11_1⟩⟩
        case rest =>
         clear HC49
         (try clear c1); (try clear p2); (try clear c3); (try clear p3); (try clear q3); (try clear hx3); (try clear c4); (try clear c5); (try clear c6); (try clear p6); (try clear c7); (try clear c8); (try clear c14); (try clear c14b0); (try clear c14b1); (try clear c17); (try clear c17b0); (try clear c17b1); (try clear c30); (try clear c34); (try clear c36); (try clear c36b0); (try clear p37); (try clear q37); (try clear hx37); (try clear c38); (try clear c38b0); (try clear c39); (try clear c39b0); (try clear c41); (try clear c45); (try clear c46); (try clear p64); (try clear hcz12_0); (try clear hcz12_1); (try clear hcz12_2); (try clear hcz31_0); (try clear hcz31_1); (try clear hcz35_0); (try clear hcz35_1); (try clear hcz42_0); (try clear hcz42_1); (try clear hcz47_0); (try clear hcz47_1); (try clear hcz47_2); (try clear hfz12_0); (try clear hfz12_1); (try clear hfz12_2); (try clear hfz31_0); (try clear hfz31_1); (try clear hfz35_0); (try clear hfz35_1); (try clear hfz42_0); (try clear hfz42_1); (try clear hfz47_0); (try clear hfz47_1); (try clear hfz47_2); (try clear hx375_0); (try clear p2); (try clear p375); (try clear q375)
         obtain ⟨kq, x2_48, rfl, HA, HJ48, HO_361002, HO_375001, BK360, BK374, HB⟩ := hcut
         cases kq with
         | zero => exact absurd HA.out (by simp [laws_FnParts.j7])
         | succ kj48 =>
          have H := HA.out; clear HA; simp only [laws_FnParts.j7] at H; obtain rfl := Option.some.inj H; go_wp2; go_ret; exact ⟨by first | rfl | (simp [errW_none, errW_some] <;> rfl) | (simp [*, errW_none, errW_some] <;> rfl), c11_1⟩

end Go.Proofs.YtjlmknembpjnjaaDoor.A
