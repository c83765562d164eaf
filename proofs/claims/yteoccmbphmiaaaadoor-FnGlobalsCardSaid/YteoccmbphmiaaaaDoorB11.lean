/- Walks of the program's functions: each Go function's answer as a plain Lean function, and that the call comes to it. Written by a program. Conditions: those in each theorem's own head. -/
import Derived.Test.YteoccmbphmiaaaaDoorB0
import Derived.Test.YteoccmbphmiaaaaDoorB1
import Derived.Test.YteoccmbphmiaaaaDoorB2
import Derived.Test.YteoccmbphmiaaaaDoorB3
import Derived.Test.YteoccmbphmiaaaaDoorB6
import Derived.Test.YteoccmbphmiaaaaDoorB8
import Derived.Test.YteoccmbphmiaaaaDoorB9
import Derived.Test.YteoccmbphmiaaaaDoorB10
namespace Go.Proofs.YteoccmbphmiaaaaDoor.B
open Go.RowKit Go.Proofs.YteoccmbphmiaaaaDoorW.PrintWords Go.Proofs.YteoccmbphmiaaaaDoorW.PrintLast Go.Proofs.YteoccmbphmiaaaaDoorW.PrintMore
attribute [local go_sem] max2_int min2_int max_two min_two max_three min_three max_four min_four   -- for this text's walks alone
set_option linter.unusedVariables false
set_option linter.unusedSimpArgs false

attribute [local go_sem high] eqA26 eqA33
theorem b11N {w : World} {g : Nat} {o : Obj} (h : w.heap[g]? = some o) (n : Nat) : (w.drewN n).heap[g]? = some o := h
theorem b11D {w : World} {g : Nat} {o : Obj} (h : w.heap[g]? = some o) : (w.drew).heap[g]? = some o := h
theorem b11L {w : World} {g : Nat} {o : Obj} (h : w.heap[g]? = some o) (o' : Obj) : (w.alloc o').heap[g]? = some o := blk_alloc h o'
theorem d11_1 {p : Prop} (h : p := by first | exact Kd.own_blk (Kd.R_ne HO_3.out BK447.out (by decide)) | (rw [add_block]; exact Kd.own_blk (Kd.R_ne HO_3.out BK447.out (by decide))) | (show (Addr.add _ _).block ≠ _; rw [add_block]; exact Kd.own_blk (Kd.R_ne HO_3.out BK447.out (by decide))) | (dsimp only; exact Kd.own_blk (Kd.R_ne HO_3.out BK447.out (by decide)))) : p := h
theorem d11_2 {p : Prop} (h : p := by (with_reducible repeat first | apply b11N | apply b11D | apply b11L); exact BK407.out) : p := h
theorem d11_3 {p : Prop} (h : p := by (with_reducible repeat first | apply b11N | apply b11D | apply b11L); exact BK412.out) : p := h
theorem d11_4 {p : Prop} (h : p := by (with_reducible repeat first | apply b11N | apply b11D | apply b11L); exact BK417.out) : p := h
theorem d11_5 {p : Prop} (h : p := by repeat (first | (with_reducible first | exact HB.out | apply below_alloc | apply pw_below_drewN | apply below_drew1 | refine below_set ?_ GE407.out | refine below_set ?_ GE412.out | refine below_set ?_ GE417.out | refine below_set ?_ GE432.out | refine below_set ?_ GE439.out) | exact HB.out)) : p := h
theorem d11_6 {p : Prop} (h : p := by repeat (first | (with_reducible first | exact HB.out | apply below_alloc | apply pw_below_drewN | apply below_drew1 | refine below_set ?_ GE407.out | refine below_set ?_ GE412.out | refine below_set ?_ GE417.out) | exact HB.out)) : p := h
theorem d11_7 {p : Prop} (h : p := by (with_reducible repeat first | apply b11N | apply b11D | apply b11L); exact BK432.out) : p := h
theorem d11_8 {p : Prop} (h : p := by (try simp only [List.map_toArray, List.map_cons, List.map_nil]); first | done | rfl | (simp only [List.length_drop, List.length_take]; rfl)) : p := h
theorem d11_9 {p : Prop} (h : p := by (with_reducible repeat first | apply b11N | apply b11D | apply b11L); exact BK439.out) : p := h
theorem d11_10 {p : Prop} (h : p := by (with_reducible repeat (first | apply Kd.R_alloc | apply Kd.R_drewN | apply Kd.R_drew)); exact HO_413001.out) : p := h
theorem d11_11 {p : Prop} (h : p := by (with_reducible repeat (first | apply Kd.R_alloc | apply Kd.R_drewN | apply Kd.R_drew)); exact HO_418001.out) : p := h
theorem d11_12 {p : Prop} (h : p := by first | rfl | (simp; done) | (simp [*]; done) | (simp [ne_nil_b, eq_nil_b]; done)) : p := h
theorem d11_13 {p : Prop} (h : p := by (with_reducible repeat (first | apply Kd.R_alloc | apply Kd.R_drewN | apply Kd.R_drew)); exact HO402.out) : p := h
theorem d11_14 {p : Prop} (h : p := by (with_reducible repeat (first | apply Kd.R_alloc | apply Kd.R_drewN | apply Kd.R_drew)); exact HO_3.out) : p := h
theorem d11_15 {p : Prop} (h : p := by repeat (first | (with_reducible first | exact HB.out | apply below_alloc | apply pw_below_drewN | apply below_drew1 | refine below_set ?_ GE407.out | refine below_set ?_ GE412.out) | exact HB.out)) : p := h
theorem d11_16 {p : Prop} (h : p := by repeat (first | (with_reducible first | exact HB.out | apply below_alloc | apply pw_below_drewN | apply below_drew1 | refine below_set ?_ GE407.out | refine below_set ?_ GE412.out | refine below_set ?_ GE417.out | refine below_set ?_ GE432.out) | exact HB.out)) : p := h
theorem d11_17 {p : Prop} (h : p := by (with_reducible repeat (first | apply Kd.R_alloc | apply Kd.R_drewN | apply Kd.R_drew)); exact HO411.out) : p := h
theorem d11_18 {p : Prop} (h : p := by repeat (first | (with_reducible first | exact HB.out | apply below_alloc | apply pw_below_drewN | apply below_drew1 | refine below_set ?_ GE407.out) | exact HB.out)) : p := h
theorem d11_19 {p : Prop} (h : p := by repeat (first | (with_reducible first | exact HB.out | apply below_alloc | apply pw_below_drewN | apply below_drew1 | refine below_set ?_ GE407.out | refine below_set ?_ GE412.out | refine below_set ?_ GE417.out | refine below_set ?_ GE432.out | refine below_set ?_ GE439.out | refine below_set ?_ GE447.out) | exact HB.out)) : p := h
theorem d11_20 {p : Prop} (h : p := by (with_reducible repeat (first | apply Kd.R_alloc | apply Kd.R_drewN | apply Kd.R_drew)); exact HO416.out) : p := h
theorem d11_21 {p : Prop} (h : p := by repeat (first | (with_reducible first | exact HB.out | apply below_alloc | apply pw_below_drewN | apply below_drew1) | exact HB.out)) : p := h
theorem d11_22 {p : Prop} (h : p := by first | (with_reducible assumption) | assumption) : p := h
theorem c11_1 {p : Prop} (h : p := by repeat (first | (with_reducible first | exact HB.out | apply below_alloc | apply pw_below_drewN | apply below_drew1 | refine below_set ?_ GE407.out | refine below_set ?_ GE412.out | refine below_set ?_ GE417.out | refine below_set ?_ GE432.out | refine below_set ?_ GE439.out) | exact HB.out)) : p := h
theorem c11_2 {p : Prop} (h : p := by repeat (first | (with_reducible first | exact HB.out | apply below_alloc | apply pw_below_drewN | apply below_drew1 | refine below_set ?_ GE407.out | refine below_set ?_ GE412.out | refine below_set ?_ GE417.out | refine below_set ?_ GE432.out | refine below_set ?_ GE439.out | refine below_set ?_ GE447.out) | exact HB.out)) : p := h
theorem c11_3 {p : Prop} (h : p := by (with_reducible repeat first | apply b11N | apply b11D | apply b11L); exact BK407.out) : p := h
theorem c11_4 {p : Prop} (h : p := by (with_reducible repeat first | apply b11N | apply b11D | apply b11L); exact BK412.out) : p := h
theorem c11_5 {p : Prop} (h : p := by (with_reducible repeat first | apply b11N | apply b11D | apply b11L); exact BK417.out) : p := h
theorem c11_6 {p : Prop} (h : p := by (with_reducible repeat first | apply b11N | apply b11D | apply b11L); exact BK432.out) : p := h
theorem c11_7 {p : Prop} (h : p := by (with_reducible repeat first | apply b11N | apply b11D | apply b11L); exact BK439.out) : p := h
theorem c11_8 {p : Prop} (h : p := by (with_reducible repeat (first | apply Kd.R_alloc | apply Kd.R_drewN | apply Kd.R_drew)); exact HO_413001.out) : p := h
theorem c11_9 {p : Prop} (h : p := by (with_reducible repeat (first | apply Kd.R_alloc | apply Kd.R_drewN | apply Kd.R_drew)); exact HO_418001.out) : p := h
theorem c11_10 {p : Prop} (h : p := by repeat (first | (with_reducible first | exact HB.out | apply below_alloc | apply pw_below_drewN | apply below_drew1 | refine below_set ?_ GE407.out | refine below_set ?_ GE412.out | refine below_set ?_ GE417.out) | exact HB.out)) : p := h
theorem c11_11 {p : Prop} (h : p := by (with_reducible repeat first | apply b11N | apply b11D | apply b11L); refine blk_far ?_ NB407_447.out _; (with_reducible repeat first | apply b11N | apply b11D | apply b11L); refine blk_far ?_ NB407_447.out _; (with_reducible repeat first | apply b11N | apply b11D | apply b11L); refine blk_far ?_ NB407_447.out _; (with_reducible repeat first | apply b11N | apply b11D | apply b11L); refine blk_far ?_ NB407_447.out _; (with_reducible repeat first | apply b11N | apply b11D | apply b11L); refine blk_far ?_ NB407_447.out _; (with_reducible repeat first | apply b11N | apply b11D | apply b11L); refine blk_far ?_ NB407_447.out _; (with_reducible repeat first | apply b11N | apply b11D | apply b11L); exact BK407.out) : p := h
theorem c11_12 {p : Prop} (h : p := by (with_reducible repeat first | apply b11N | apply b11D | apply b11L); refine blk_far ?_ NB412_447.out _; (with_reducible repeat first | apply b11N | apply b11D | apply b11L); refine blk_far ?_ NB412_447.out _; (with_reducible repeat first | apply b11N | apply b11D | apply b11L); refine blk_far ?_ NB412_447.out _; (with_reducible repeat first | apply b11N | apply b11D | apply b11L); refine blk_far ?_ NB412_447.out _; (with_reducible repeat first | apply b11N | apply b11D | apply b11L); refine blk_far ?_ NB412_447.out _; (with_reducible repeat first | apply b11N | apply b11D | apply b11L); refine blk_far ?_ NB412_447.out _; (with_reducible repeat first | apply b11N | apply b11D | apply b11L); exact BK412.out) : p := h
theorem c11_13 {p : Prop} (h : p := by (with_reducible repeat first | apply b11N | apply b11D | apply b11L); refine blk_far ?_ NB417_447.out _; (with_reducible repeat first | apply b11N | apply b11D | apply b11L); refine blk_far ?_ NB417_447.out _; (with_reducible repeat first | apply b11N | apply b11D | apply b11L); refine blk_far ?_ NB417_447.out _; (with_reducible repeat first | apply b11N | apply b11D | apply b11L); refine blk_far ?_ NB417_447.out _; (with_reducible repeat first | apply b11N | apply b11D | apply b11L); refine blk_far ?_ NB417_447.out _; (with_reducible repeat first | apply b11N | apply b11D | apply b11L); refine blk_far ?_ NB417_447.out _; (with_reducible repeat first | apply b11N | apply b11D | apply b11L); exact BK417.out) : p := h
theorem c11_14 {p : Prop} (h : p := by (with_reducible repeat first | apply b11N | apply b11D | apply b11L); refine blk_far ?_ NB432_447.out _; (with_reducible repeat first | apply b11N | apply b11D | apply b11L); refine blk_far ?_ NB432_447.out _; (with_reducible repeat first | apply b11N | apply b11D | apply b11L); refine blk_far ?_ NB432_447.out _; (with_reducible repeat first | apply b11N | apply b11D | apply b11L); refine blk_far ?_ NB432_447.out _; (with_reducible repeat first | apply b11N | apply b11D | apply b11L); refine blk_far ?_ NB432_447.out _; (with_reducible repeat first | apply b11N | apply b11D | apply b11L); refine blk_far ?_ NB432_447.out _; (with_reducible repeat first | apply b11N | apply b11D | apply b11L); exact BK432.out) : p := h
theorem c11_15 {p : Prop} (h : p := by (with_reducible repeat first | apply b11N | apply b11D | apply b11L); refine blk_far ?_ NB439_447.out _; (with_reducible repeat first | apply b11N | apply b11D | apply b11L); refine blk_far ?_ NB439_447.out _; (with_reducible repeat first | apply b11N | apply b11D | apply b11L); refine blk_far ?_ NB439_447.out _; (with_reducible repeat first | apply b11N | apply b11D | apply b11L); refine blk_far ?_ NB439_447.out _; (with_reducible repeat first | apply b11N | apply b11D | apply b11L); refine blk_far ?_ NB439_447.out _; (with_reducible repeat first | apply b11N | apply b11D | apply b11L); refine blk_far ?_ NB439_447.out _; (with_reducible repeat first | apply b11N | apply b11D | apply b11L); exact BK439.out) : p := h
theorem c11_16 {p : Prop} (h : p := by (with_reducible repeat first | apply b11N | apply b11D | apply b11L); refine blk_far ?_ NB407_417.out _; (with_reducible repeat first | apply b11N | apply b11D | apply b11L); refine blk_far ?_ NB407_417.out _; (with_reducible repeat first | apply b11N | apply b11D | apply b11L); exact BK407.out) : p := h
theorem c11_17 {p : Prop} (h : p := by (with_reducible repeat first | apply b11N | apply b11D | apply b11L); refine blk_far ?_ NB412_417.out _; (with_reducible repeat first | apply b11N | apply b11D | apply b11L); refine blk_far ?_ NB412_417.out _; (with_reducible repeat first | apply b11N | apply b11D | apply b11L); exact BK412.out) : p := h
theorem c11_18 {p : Prop} (h : p := by repeat (first | exact (Kd.R_reads' HO_413001.out).2.2 | (with_reducible refine Kd.C_alloc ?_ _) | (with_reducible refine Kd.C_drewN ?_ _) | (with_reducible refine Kd.C_drew ?_))) : p := h
theorem c11_19 {p : Prop} (h : p := by (with_reducible repeat (first | apply Kd.R_alloc | apply Kd.R_drewN | apply Kd.R_drew)); exact HO_3.out) : p := h
theorem c11_20 {p : Prop} (h : p := by repeat (first | exact (Kd.R_reads' HO402.out).2.2 | (with_reducible refine Kd.C_alloc ?_ _) | (with_reducible refine Kd.C_drewN ?_ _) | (with_reducible refine Kd.C_drew ?_))) : p := h

/-! ### laws_FnGlobals: function 3 -/
mutual
def laws_FnGlobals.j0 : Nat → List Int → Option (Bool)
  | 0, _ => none
  | k + 1, x0 => (spec_DrawDefineGlobal.f k x0).bind fun bt400 => ((impl_DefineGlobal.f k bt400.1 bt400.2.1 bt400.2.2.1 bt400.2.2.2.1 bt400.2.2.2.2).bind fun bt408 => ((impl_SetGlobal.f k bt400.1 bt400.2.1 bt400.2.2.1 bt400.2.2.2.1 bt400.2.2.2.2).bind fun bt413 => (if bt408.1 = 0 then (laws_FnGlobals.j2 k bt400.1 bt400.2.1 bt400.2.2.1 bt400.2.2.2.1 bt400.2.2.2.2 bt408.1 bt408.2 bt413.1 bt413.2) else ((spec_DefineGlobal.f k bt400.1 bt400.2.1 bt400.2.2.1 bt400.2.2.2.1 bt400.2.2.2.2).bind fun bt418 => (if bt418.1 = bt408.1 then ((spec_SetGlobal.f k bt400.1 bt400.2.1 bt400.2.2.1 bt400.2.2.2.1 bt400.2.2.2.2).bind fun bt422 => (laws_FnGlobals.j1 k (bt422.1 == bt413.1))) else (laws_FnGlobals.j1 k false))))))
def laws_FnGlobals.j2 : Nat → List (S33) → ByteArray → Int → Int → ByteArray → Int → List (S33) → Int → List (S33) → Option (Bool)
  | 0, _, _, _, _, _, _, _, _, _ => none
  | k + 1, x3, x4, x408000, x408001, x408002, x413000, x413001, x418000, x418001 => (impl_LookGlobal.f k x3 x4).bind fun bt426 => ((impl_LookGlobal.f k x413001 x4).bind fun bt433 => (laws_FnGlobals.l0 k x3 x4 0 x408000 x408001 x408002 x413000 x413001 x418000 x418001 bt426.1 bt426.2.1 bt426.2.2.1 bt426.2.2.2.1 bt426.2.2.2.2.1 bt426.2.2.2.2.2 bt433.1 bt433.2.1 bt433.2.2.1 bt433.2.2.2.1 bt433.2.2.2.2.1 bt433.2.2.2.2.2))
def laws_FnGlobals.j8 : Nat → Int → Int → ByteArray → Int → List (S33) → Int → List (S33) → Int → ByteArray → Int → Int → ByteArray → Int → Int → ByteArray → Int → Int → ByteArray → Int → Option (Bool)
  | 0, _, _, _, _, _, _, _, _, _, _, _, _, _, _, _, _, _, _, _ => none
  | k + 1, x408000, x408001, x408002, x413000, x413001, x418000, x418001, x433000, x433001, x433002, x433003, x433004, x433005, x440000, x440001, x440002, x440003, x440004, x440005 => if x440000 = 0 then (if (x440002 == x408000 && (x440003 == x408001 && (x440004.toList == x408002.toList))) = true then (if x433000 = 0 then (if x440005 = (wrap64 (x433005 + 1)) then (if ((x418000 == 4) == (x433000 == 4)) = true then ((impl_GlobalsFault.f k x413001).bind fun t450 => (laws_FnGlobals.j9 k (t450 == 0))) else (laws_FnGlobals.j9 k false)) else (laws_FnGlobals.j9 k false)) else (if x440005 = 1 then (if ((x418000 == 4) == (x433000 == 4)) = true then ((impl_GlobalsFault.f k x413001).bind fun t451 => (laws_FnGlobals.j9 k (t451 == 0))) else (laws_FnGlobals.j9 k false)) else (laws_FnGlobals.j9 k false))) else (laws_FnGlobals.j9 k false)) else (laws_FnGlobals.j9 k false)
def laws_FnGlobals.j9 : Nat → Bool → Option (Bool)
  | 0, _ => none
  | k + 1, x2 => some x2
def laws_FnGlobals.l0 : Nat → List (S33) → ByteArray → Int → Int → Int → ByteArray → Int → List (S33) → Int → List (S33) → Int → ByteArray → Int → Int → ByteArray → Int → Int → ByteArray → Int → Int → ByteArray → Int → Option (Bool)
  | 0, _, _, _, _, _, _, _, _, _, _, _, _, _, _, _, _, _, _, _, _, _, _ => none
  | k + 1, x3, x4, x10, x408000, x408001, x408002, x413000, x413001, x418000, x418001, x433000, x433001, x433002, x433003, x433004, x433005, x440000, x440001, x440002, x440003, x440004, x440005 => if x10 < (x3.length : Int) then (laws_FnGlobals.j4 k x3 x4 x10 x408000 x408001 x408002 x413000 x413001 x418000 x418001 x433000 x433001 x433002 x433003 x433004 x433005 x440000 x440001 x440002 x440003 x440004 x440005) else (laws_FnGlobals.j8 k x408000 x408001 x408002 x413000 x413001 x418000 x418001 x433000 x433001 x433002 x433003 x433004 x433005 x440000 x440001 x440002 x440003 x440004 x440005)
def laws_FnGlobals.j4 : Nat → List (S33) → ByteArray → Int → Int → Int → ByteArray → Int → List (S33) → Int → List (S33) → Int → ByteArray → Int → Int → ByteArray → Int → Int → ByteArray → Int → Int → ByteArray → Int → Option (Bool)
  | 0, _, _, _, _, _, _, _, _, _, _, _, _, _, _, _, _, _, _, _, _, _, _ => none
  | k + 1, x3, x4, x10, x408000, x408001, x408002, x413000, x413001, x418000, x418001, x433000, x433001, x433002, x433003, x433004, x433005, x440000, x440001, x440002, x440003, x440004, x440005 => if 0 ≤ x10 then (if x10 < (x3.length : Int) then ((impl_LookGlobal.f k x413001 ((rd_T33 x3 x10).f0)).bind fun bt441 => (if ((rd_T33 x3 x10).f0).toList = x4.toList then (laws_FnGlobals.j5 k x3 x4 x10 false x408000 x408001 x408002 x413000 x413001 x418000 x418001 x433000 x433001 x433002 x433003 x433004 x433005 x440000 x440001 x440002 x440003 x440004 x440005) else (laws_FnGlobals.j5 k x3 x4 x10 (!(bt441.2.1.toList == (((rd_T33 x3 x10).f0).toList)) || ((!(bt441.2.2.1 == ((rd_T33 x3 x10).f1.f0)) || (!(bt441.2.2.2.1 == ((rd_T33 x3 x10).f1.f1)) || (!(bt441.2.2.2.2.1.toList == (((rd_T33 x3 x10).f1.f2).toList))))) || (!(bt441.2.2.2.2.2 == ((rd_T33 x3 x10).f2))))) x408000 x408001 x408002 x413000 x413001 x418000 x418001 x433000 x433001 x433002 x433003 x433004 x433005 x440000 x440001 x440002 x440003 x440004 x440005))) else (none)) else (none)
def laws_FnGlobals.j7 : Nat → List (S33) → ByteArray → Int → Int → Int → ByteArray → Int → List (S33) → Int → List (S33) → Int → ByteArray → Int → Int → ByteArray → Int → Int → ByteArray → Int → Int → ByteArray → Int → Option (Bool)
  | 0, _, _, _, _, _, _, _, _, _, _, _, _, _, _, _, _, _, _, _, _, _, _ => none
  | k + 1, x3, x4, x10, x408000, x408001, x408002, x413000, x413001, x418000, x418001, x433000, x433001, x433002, x433003, x433004, x433005, x440000, x440001, x440002, x440003, x440004, x440005 => laws_FnGlobals.l0 k x3 x4 (wrap64 (x10 + 1)) x408000 x408001 x408002 x413000 x413001 x418000 x418001 x433000 x433001 x433002 x433003 x433004 x433005 x440000 x440001 x440002 x440003 x440004 x440005
def laws_FnGlobals.j5 : Nat → List (S33) → ByteArray → Int → Bool → Int → Int → ByteArray → Int → List (S33) → Int → List (S33) → Int → ByteArray → Int → Int → ByteArray → Int → Int → ByteArray → Int → Int → ByteArray → Int → Option (Bool)
  | 0, _, _, _, _, _, _, _, _, _, _, _, _, _, _, _, _, _, _, _, _, _, _, _ => none
  | k + 1, x3, x4, x10, x85, x408000, x408001, x408002, x413000, x413001, x418000, x418001, x433000, x433001, x433002, x433003, x433004, x433005, x440000, x440001, x440002, x440003, x440004, x440005 => if x85 = true then (some false) else (laws_FnGlobals.j6 k x3 x4 x10 x408000 x408001 x408002 x413000 x413001 x418000 x418001 x433000 x433001 x433002 x433003 x433004 x433005 x440000 x440001 x440002 x440003 x440004 x440005)
def laws_FnGlobals.j6 : Nat → List (S33) → ByteArray → Int → Int → Int → ByteArray → Int → List (S33) → Int → List (S33) → Int → ByteArray → Int → Int → ByteArray → Int → Int → ByteArray → Int → Int → ByteArray → Int → Option (Bool)
  | 0, _, _, _, _, _, _, _, _, _, _, _, _, _, _, _, _, _, _, _, _, _, _ => none
  | k + 1, x3, x4, x10, x408000, x408001, x408002, x413000, x413001, x418000, x418001, x433000, x433001, x433002, x433003, x433004, x433005, x440000, x440001, x440002, x440003, x440004, x440005 => laws_FnGlobals.j7 k x3 x4 x10 x408000 x408001 x408002 x413000 x413001 x418000 x418001 x433000 x433001 x433002 x433003 x433004 x433005 x440000 x440001 x440002 x440003 x440004 x440005
def laws_FnGlobals.j1 : Nat → Bool → Option (Bool)
  | 0, _ => none
  | k + 1, x2 => some x2
end
def laws_FnGlobals.f (k : Nat) (l0 : List Int) : Option (Bool) := (laws_lwBig.f l0).bind fun t399 => (if t399 = true then (some true) else (laws_FnGlobals.j0 k l0))
theorem laws_FnGlobals.mono_l : ∀ k, (∀ y0, LeO (laws_FnGlobals.j0 k y0) (laws_FnGlobals.j0 (k + 1) y0)) ∧ (∀ y0 y1 y2 y3 y4 y5 y6 y7 y8, LeO (laws_FnGlobals.j2 k y0 y1 y2 y3 y4 y5 y6 y7 y8) (laws_FnGlobals.j2 (k + 1) y0 y1 y2 y3 y4 y5 y6 y7 y8)) ∧ (∀ y0 y1 y2 y3 y4 y5 y6 y7 y8 y9 y10 y11 y12 y13 y14 y15 y16 y17 y18, LeO (laws_FnGlobals.j8 k y0 y1 y2 y3 y4 y5 y6 y7 y8 y9 y10 y11 y12 y13 y14 y15 y16 y17 y18) (laws_FnGlobals.j8 (k + 1) y0 y1 y2 y3 y4 y5 y6 y7 y8 y9 y10 y11 y12 y13 y14 y15 y16 y17 y18)) ∧ (∀ y0, LeO (laws_FnGlobals.j9 k y0) (laws_FnGlobals.j9 (k + 1) y0)) ∧ (∀ y0 y1 y2 y3 y4 y5 y6 y7 y8 y9 y10 y11 y12 y13 y14 y15 y16 y17 y18 y19 y20 y21, LeO (laws_FnGlobals.l0 k y0 y1 y2 y3 y4 y5 y6 y7 y8 y9 y10 y11 y12 y13 y14 y15 y16 y17 y18 y19 y20 y21) (laws_FnGlobals.l0 (k + 1) y0 y1 y2 y3 y4 y5 y6 y7 y8 y9 y10 y11 y12 y13 y14 y15 y16 y17 y18 y19 y20 y21)) ∧ (∀ y0 y1 y2 y3 y4 y5 y6 y7 y8 y9 y10 y11 y12 y13 y14 y15 y16 y17 y18 y19 y20 y21, LeO (laws_FnGlobals.j4 k y0 y1 y2 y3 y4 y5 y6 y7 y8 y9 y10 y11 y12 y13 y14 y15 y16 y17 y18 y19 y20 y21) (laws_FnGlobals.j4 (k + 1) y0 y1 y2 y3 y4 y5 y6 y7 y8 y9 y10 y11 y12 y13 y14 y15 y16 y17 y18 y19 y20 y21)) ∧ (∀ y0 y1 y2 y3 y4 y5 y6 y7 y8 y9 y10 y11 y12 y13 y14 y15 y16 y17 y18 y19 y20 y21, LeO (laws_FnGlobals.j7 k y0 y1 y2 y3 y4 y5 y6 y7 y8 y9 y10 y11 y12 y13 y14 y15 y16 y17 y18 y19 y20 y21) (laws_FnGlobals.j7 (k + 1) y0 y1 y2 y3 y4 y5 y6 y7 y8 y9 y10 y11 y12 y13 y14 y15 y16 y17 y18 y19 y20 y21)) ∧ (∀ y0 y1 y2 y3 y4 y5 y6 y7 y8 y9 y10 y11 y12 y13 y14 y15 y16 y17 y18 y19 y20 y21 y22, LeO (laws_FnGlobals.j5 k y0 y1 y2 y3 y4 y5 y6 y7 y8 y9 y10 y11 y12 y13 y14 y15 y16 y17 y18 y19 y20 y21 y22) (laws_FnGlobals.j5 (k + 1) y0 y1 y2 y3 y4 y5 y6 y7 y8 y9 y10 y11 y12 y13 y14 y15 y16 y17 y18 y19 y20 y21 y22)) ∧ (∀ y0 y1 y2 y3 y4 y5 y6 y7 y8 y9 y10 y11 y12 y13 y14 y15 y16 y17 y18 y19 y20 y21, LeO (laws_FnGlobals.j6 k y0 y1 y2 y3 y4 y5 y6 y7 y8 y9 y10 y11 y12 y13 y14 y15 y16 y17 y18 y19 y20 y21) (laws_FnGlobals.j6 (k + 1) y0 y1 y2 y3 y4 y5 y6 y7 y8 y9 y10 y11 y12 y13 y14 y15 y16 y17 y18 y19 y20 y21)) ∧ (∀ y0, LeO (laws_FnGlobals.j1 k y0) (laws_FnGlobals.j1 (k + 1) y0))
  | 0 => ⟨fun _ r h => by simp [laws_FnGlobals.j0] at h, fun _ _ _ _ _ _ _ _ _ r h => by simp [laws_FnGlobals.j2] at h, fun _ _ _ _ _ _ _ _ _ _ _ _ _ _ _ _ _ _ _ r h => by simp [laws_FnGlobals.j8] at h, fun _ r h => by simp [laws_FnGlobals.j9] at h, fun _ _ _ _ _ _ _ _ _ _ _ _ _ _ _ _ _ _ _ _ _ _ r h => by simp [laws_FnGlobals.l0] at h, fun _ _ _ _ _ _ _ _ _ _ _ _ _ _ _ _ _ _ _ _ _ _ r h => by simp [laws_FnGlobals.j4] at h, fun _ _ _ _ _ _ _ _ _ _ _ _ _ _ _ _ _ _ _ _ _ _ r h => by simp [laws_FnGlobals.j7] at h, fun _ _ _ _ _ _ _ _ _ _ _ _ _ _ _ _ _ _ _ _ _ _ _ r h => by simp [laws_FnGlobals.j5] at h, fun _ _ _ _ _ _ _ _ _ _ _ _ _ _ _ _ _ _ _ _ _ _ r h => by simp [laws_FnGlobals.j6] at h, fun _ r h => by simp [laws_FnGlobals.j1] at h⟩
  | k + 1 => by
    obtain ⟨ih0, ih1, ih2, ih3, ih4, ih5, ih6, ih7, ih8, ih9⟩ := laws_FnGlobals.mono_l k; refine ⟨?_, ?_, ?_, ?_, ?_, ?_, ?_, ?_, ?_, ?_⟩
    · intro y0
      unfold laws_FnGlobals.j0
      repeat' first
      | (with_reducible exact ih0 _)
      | (with_reducible exact ih1 _ _ _ _ _ _ _ _ _)
      | (with_reducible exact ih2 _ _ _ _ _ _ _ _ _ _ _ _ _ _ _ _ _ _ _)
      | (with_reducible exact ih3 _)
      | (with_reducible exact ih4 _ _ _ _ _ _ _ _ _ _ _ _ _ _ _ _ _ _ _ _ _ _)
      | (with_reducible exact ih5 _ _ _ _ _ _ _ _ _ _ _ _ _ _ _ _ _ _ _ _ _ _)
      | (with_reducible exact ih6 _ _ _ _ _ _ _ _ _ _ _ _ _ _ _ _ _ _ _ _ _ _)
      | (with_reducible exact ih7 _ _ _ _ _ _ _ _ _ _ _ _ _ _ _ _ _ _ _ _ _ _ _)
      | (with_reducible exact ih8 _ _ _ _ _ _ _ _ _ _ _ _ _ _ _ _ _ _ _ _ _ _)
      | (with_reducible exact ih9 _)
      | (with_reducible exact impl_DefineGlobal.mono _ _ _ _ _ _)
      | (with_reducible exact impl_GlobalsFault.mono _ _)
      | (with_reducible exact impl_LookGlobal.mono _ _ _)
      | (with_reducible exact impl_SetGlobal.mono _ _ _ _ _ _)
      | (with_reducible exact spec_DefineGlobal.mono _ _ _ _ _ _)
      | (with_reducible exact spec_DrawDefineGlobal.mono _ _)
      | (with_reducible exact spec_SetGlobal.mono _ _ _ _ _ _)
      | (with_reducible exact LeO.refl _)
      | (with_reducible exact LeO.none _)
      | (with_reducible refine LeO.ite ?_ ?_)
      | (with_reducible refine LeO.bind ?_ (fun _ => ?_))
      | exact ih0 _
      | exact ih1 _ _ _ _ _ _ _ _ _
      | exact ih2 _ _ _ _ _ _ _ _ _ _ _ _ _ _ _ _ _ _ _
      | exact ih3 _
      | exact ih4 _ _ _ _ _ _ _ _ _ _ _ _ _ _ _ _ _ _ _ _ _ _
      | exact ih5 _ _ _ _ _ _ _ _ _ _ _ _ _ _ _ _ _ _ _ _ _ _
      | exact ih6 _ _ _ _ _ _ _ _ _ _ _ _ _ _ _ _ _ _ _ _ _ _
      | exact ih7 _ _ _ _ _ _ _ _ _ _ _ _ _ _ _ _ _ _ _ _ _ _ _
      | exact ih8 _ _ _ _ _ _ _ _ _ _ _ _ _ _ _ _ _ _ _ _ _ _
      | exact ih9 _
      | exact impl_DefineGlobal.mono _ _ _ _ _ _
      | exact impl_GlobalsFault.mono _ _
      | exact impl_LookGlobal.mono _ _ _
      | exact impl_SetGlobal.mono _ _ _ _ _ _
      | exact spec_DefineGlobal.mono _ _ _ _ _ _
      | exact spec_DrawDefineGlobal.mono _ _
      | exact spec_SetGlobal.mono _ _ _ _ _ _
      | exact LeO.none _
      | refine LeO.ite ?_ ?_
      | refine LeO.bind ?_ (fun _ => ?_)
    · intro y0 y1 y2 y3 y4 y5 y6 y7 y8
      unfold laws_FnGlobals.j2
      repeat' first
      | (with_reducible exact ih0 _)
      | (with_reducible exact ih1 _ _ _ _ _ _ _ _ _)
      | (with_reducible exact ih2 _ _ _ _ _ _ _ _ _ _ _ _ _ _ _ _ _ _ _)
      | (with_reducible exact ih3 _)
      | (with_reducible exact ih4 _ _ _ _ _ _ _ _ _ _ _ _ _ _ _ _ _ _ _ _ _ _)
      | (with_reducible exact ih5 _ _ _ _ _ _ _ _ _ _ _ _ _ _ _ _ _ _ _ _ _ _)
      | (with_reducible exact ih6 _ _ _ _ _ _ _ _ _ _ _ _ _ _ _ _ _ _ _ _ _ _)
      | (with_reducible exact ih7 _ _ _ _ _ _ _ _ _ _ _ _ _ _ _ _ _ _ _ _ _ _ _)
      | (with_reducible exact ih8 _ _ _ _ _ _ _ _ _ _ _ _ _ _ _ _ _ _ _ _ _ _)
      | (with_reducible exact ih9 _)
      | (with_reducible exact impl_DefineGlobal.mono _ _ _ _ _ _)
      | (with_reducible exact impl_GlobalsFault.mono _ _)
      | (with_reducible exact impl_LookGlobal.mono _ _ _)
      | (with_reducible exact impl_SetGlobal.mono _ _ _ _ _ _)
      | (with_reducible exact spec_DefineGlobal.mono _ _ _ _ _ _)
      | (with_reducible exact spec_DrawDefineGlobal.mono _ _)
      | (with_reducible exact spec_SetGlobal.mono _ _ _ _ _ _)
      | (with_reducible exact LeO.refl _)
      | (with_reducible exact LeO.none _)
      | (with_reducible refine LeO.ite ?_ ?_)
      | (with_reducible refine LeO.bind ?_ (fun _ => ?_))
      | exact ih0 _
      | exact ih1 _ _ _ _ _ _ _ _ _
      | exact ih2 _ _ _ _ _ _ _ _ _ _ _ _ _ _ _ _ _ _ _
      | exact ih3 _
      | exact ih4 _ _ _ _ _ _ _ _ _ _ _ _ _ _ _ _ _ _ _ _ _ _
      | exact ih5 _ _ _ _ _ _ _ _ _ _ _ _ _ _ _ _ _ _ _ _ _ _
      | exact ih6 _ _ _ _ _ _ _ _ _ _ _ _ _ _ _ _ _ _ _ _ _ _
      | exact ih7 _ _ _ _ _ _ _ _ _ _ _ _ _ _ _ _ _ _ _ _ _ _ _
      | exact ih8 _ _ _ _ _ _ _ _ _ _ _ _ _ _ _ _ _ _ _ _ _ _
      | exact ih9 _
      | exact impl_DefineGlobal.mono _ _ _ _ _ _
      | exact impl_GlobalsFault.mono _ _
      | exact impl_LookGlobal.mono _ _ _
      | exact impl_SetGlobal.mono _ _ _ _ _ _
      | exact spec_DefineGlobal.mono _ _ _ _ _ _
      | exact spec_DrawDefineGlobal.mono _ _
      | exact spec_SetGlobal.mono _ _ _ _ _ _
      | exact LeO.none _
      | refine LeO.ite ?_ ?_
      | refine LeO.bind ?_ (fun _ => ?_)
    · intro y0 y1 y2 y3 y4 y5 y6 y7 y8 y9 y10 y11 y12 y13 y14 y15 y16 y17 y18
      unfold laws_FnGlobals.j8
      repeat' first
      | (with_reducible exact ih0 _)
      | (with_reducible exact ih1 _ _ _ _ _ _ _ _ _)
      | (with_reducible exact ih2 _ _ _ _ _ _ _ _ _ _ _ _ _ _ _ _ _ _ _)
      | (with_reducible exact ih3 _)
      | (with_reducible exact ih4 _ _ _ _ _ _ _ _ _ _ _ _ _ _ _ _ _ _ _ _ _ _)
      | (with_reducible exact ih5 _ _ _ _ _ _ _ _ _ _ _ _ _ _ _ _ _ _ _ _ _ _)
      | (with_reducible exact ih6 _ _ _ _ _ _ _ _ _ _ _ _ _ _ _ _ _ _ _ _ _ _)
      | (with_reducible exact ih7 _ _ _ _ _ _ _ _ _ _ _ _ _ _ _ _ _ _ _ _ _ _ _)
      | (with_reducible exact ih8 _ _ _ _ _ _ _ _ _ _ _ _ _ _ _ _ _ _ _ _ _ _)
      | (with_reducible exact ih9 _)
      | (with_reducible exact impl_DefineGlobal.mono _ _ _ _ _ _)
      | (with_reducible exact impl_GlobalsFault.mono _ _)
      | (with_reducible exact impl_LookGlobal.mono _ _ _)
      | (with_reducible exact impl_SetGlobal.mono _ _ _ _ _ _)
      | (with_reducible exact spec_DefineGlobal.mono _ _ _ _ _ _)
      | (with_reducible exact spec_DrawDefineGlobal.mono _ _)
      | (with_reducible exact spec_SetGlobal.mono _ _ _ _ _ _)
      | (with_reducible exact LeO.refl _)
      | (with_reducible exact LeO.none _)
      | (with_reducible refine LeO.ite ?_ ?_)
      | (with_reducible refine LeO.bind ?_ (fun _ => ?_))
      | exact ih0 _
      | exact ih1 _ _ _ _ _ _ _ _ _
      | exact ih2 _ _ _ _ _ _ _ _ _ _ _ _ _ _ _ _ _ _ _
      | exact ih3 _
      | exact ih4 _ _ _ _ _ _ _ _ _ _ _ _ _ _ _ _ _ _ _ _ _ _
      | exact ih5 _ _ _ _ _ _ _ _ _ _ _ _ _ _ _ _ _ _ _ _ _ _
      | exact ih6 _ _ _ _ _ _ _ _ _ _ _ _ _ _ _ _ _ _ _ _ _ _
      | exact ih7 _ _ _ _ _ _ _ _ _ _ _ _ _ _ _ _ _ _ _ _ _ _ _
      | exact ih8 _ _ _ _ _ _ _ _ _ _ _ _ _ _ _ _ _ _ _ _ _ _
      | exact ih9 _
      | exact impl_DefineGlobal.mono _ _ _ _ _ _
      | exact impl_GlobalsFault.mono _ _
      | exact impl_LookGlobal.mono _ _ _
      | exact impl_SetGlobal.mono _ _ _ _ _ _
      | exact spec_DefineGlobal.mono _ _ _ _ _ _
      | exact spec_DrawDefineGlobal.mono _ _
      | exact spec_SetGlobal.mono _ _ _ _ _ _
      | exact LeO.none _
      | refine LeO.ite ?_ ?_
      | refine LeO.bind ?_ (fun _ => ?_)
    · intro y0
      unfold laws_FnGlobals.j9
      repeat' first
      | (with_reducible exact ih0 _)
      | (with_reducible exact ih1 _ _ _ _ _ _ _ _ _)
      | (with_reducible exact ih2 _ _ _ _ _ _ _ _ _ _ _ _ _ _ _ _ _ _ _)
      | (with_reducible exact ih3 _)
      | (with_reducible exact ih4 _ _ _ _ _ _ _ _ _ _ _ _ _ _ _ _ _ _ _ _ _ _)
      | (with_reducible exact ih5 _ _ _ _ _ _ _ _ _ _ _ _ _ _ _ _ _ _ _ _ _ _)
      | (with_reducible exact ih6 _ _ _ _ _ _ _ _ _ _ _ _ _ _ _ _ _ _ _ _ _ _)
      | (with_reducible exact ih7 _ _ _ _ _ _ _ _ _ _ _ _ _ _ _ _ _ _ _ _ _ _ _)
      | (with_reducible exact ih8 _ _ _ _ _ _ _ _ _ _ _ _ _ _ _ _ _ _ _ _ _ _)
      | (with_reducible exact ih9 _)
      | (with_reducible exact impl_DefineGlobal.mono _ _ _ _ _ _)
      | (with_reducible exact impl_GlobalsFault.mono _ _)
      | (with_reducible exact impl_LookGlobal.mono _ _ _)
      | (with_reducible exact impl_SetGlobal.mono _ _ _ _ _ _)
      | (with_reducible exact spec_DefineGlobal.mono _ _ _ _ _ _)
      | (with_reducible exact spec_DrawDefineGlobal.mono _ _)
      | (with_reducible exact spec_SetGlobal.mono _ _ _ _ _ _)
      | (with_reducible exact LeO.refl _)
      | (with_reducible exact LeO.none _)
      | (with_reducible refine LeO.ite ?_ ?_)
      | (with_reducible refine LeO.bind ?_ (fun _ => ?_))
      | exact ih0 _
      | exact ih1 _ _ _ _ _ _ _ _ _
      | exact ih2 _ _ _ _ _ _ _ _ _ _ _ _ _ _ _ _ _ _ _
      | exact ih3 _
      | exact ih4 _ _ _ _ _ _ _ _ _ _ _ _ _ _ _ _ _ _ _ _ _ _
      | exact ih5 _ _ _ _ _ _ _ _ _ _ _ _ _ _ _ _ _ _ _ _ _ _
      | exact ih6 _ _ _ _ _ _ _ _ _ _ _ _ _ _ _ _ _ _ _ _ _ _
      | exact ih7 _ _ _ _ _ _ _ _ _ _ _ _ _ _ _ _ _ _ _ _ _ _ _
      | exact ih8 _ _ _ _ _ _ _ _ _ _ _ _ _ _ _ _ _ _ _ _ _ _
      | exact ih9 _
      | exact impl_DefineGlobal.mono _ _ _ _ _ _
      | exact impl_GlobalsFault.mono _ _
      | exact impl_LookGlobal.mono _ _ _
      | exact impl_SetGlobal.mono _ _ _ _ _ _
      | exact spec_DefineGlobal.mono _ _ _ _ _ _
      | exact spec_DrawDefineGlobal.mono _ _
      | exact spec_SetGlobal.mono _ _ _ _ _ _
      | exact LeO.none _
      | refine LeO.ite ?_ ?_
      | refine LeO.bind ?_ (fun _ => ?_)
    · intro y0 y1 y2 y3 y4 y5 y6 y7 y8 y9 y10 y11 y12 y13 y14 y15 y16 y17 y18 y19 y20 y21
      unfold laws_FnGlobals.l0
      repeat' first
      | (with_reducible exact ih0 _)
      | (with_reducible exact ih1 _ _ _ _ _ _ _ _ _)
      | (with_reducible exact ih2 _ _ _ _ _ _ _ _ _ _ _ _ _ _ _ _ _ _ _)
      | (with_reducible exact ih3 _)
      | (with_reducible exact ih4 _ _ _ _ _ _ _ _ _ _ _ _ _ _ _ _ _ _ _ _ _ _)
      | (with_reducible exact ih5 _ _ _ _ _ _ _ _ _ _ _ _ _ _ _ _ _ _ _ _ _ _)
      | (with_reducible exact ih6 _ _ _ _ _ _ _ _ _ _ _ _ _ _ _ _ _ _ _ _ _ _)
      | (with_reducible exact ih7 _ _ _ _ _ _ _ _ _ _ _ _ _ _ _ _ _ _ _ _ _ _ _)
      | (with_reducible exact ih8 _ _ _ _ _ _ _ _ _ _ _ _ _ _ _ _ _ _ _ _ _ _)
      | (with_reducible exact ih9 _)
      | (with_reducible exact impl_DefineGlobal.mono _ _ _ _ _ _)
      | (with_reducible exact impl_GlobalsFault.mono _ _)
      | (with_reducible exact impl_LookGlobal.mono _ _ _)
      | (with_reducible exact impl_SetGlobal.mono _ _ _ _ _ _)
      | (with_reducible exact spec_DefineGlobal.mono _ _ _ _ _ _)
      | (with_reducible exact spec_DrawDefineGlobal.mono _ _)
      | (with_reducible exact spec_SetGlobal.mono _ _ _ _ _ _)
      | (with_reducible exact LeO.refl _)
      | (with_reducible exact LeO.none _)
      | (with_reducible refine LeO.ite ?_ ?_)
      | (with_reducible refine LeO.bind ?_ (fun _ => ?_))
      | exact ih0 _
      | exact ih1 _ _ _ _ _ _ _ _ _
      | exact ih2 _ _ _ _ _ _ _ _ _ _ _ _ _ _ _ _ _ _ _
      | exact ih3 _
      | exact ih4 _ _ _ _ _ _ _ _ _ _ _ _ _ _ _ _ _ _ _ _ _ _
      | exact ih5 _ _ _ _ _ _ _ _ _ _ _ _ _ _ _ _ _ _ _ _ _ _
      | exact ih6 _ _ _ _ _ _ _ _ _ _ _ _ _ _ _ _ _ _ _ _ _ _
      | exact ih7 _ _ _ _ _ _ _ _ _ _ _ _ _ _ _ _ _ _ _ _ _ _ _
      | exact ih8 _ _ _ _ _ _ _ _ _ _ _ _ _ _ _ _ _ _ _ _ _ _
      | exact ih9 _
      | exact impl_DefineGlobal.mono _ _ _ _ _ _
      | exact impl_GlobalsFault.mono _ _
      | exact impl_LookGlobal.mono _ _ _
      | exact impl_SetGlobal.mono _ _ _ _ _ _
      | exact spec_DefineGlobal.mono _ _ _ _ _ _
      | exact spec_DrawDefineGlobal.mono _ _
      | exact spec_SetGlobal.mono _ _ _ _ _ _
      | exact LeO.none _
      | refine LeO.ite ?_ ?_
      | refine LeO.bind ?_ (fun _ => ?_)
    · intro y0 y1 y2 y3 y4 y5 y6 y7 y8 y9 y10 y11 y12 y13 y14 y15 y16 y17 y18 y19 y20 y21
      unfold laws_FnGlobals.j4
      repeat' first
      | (with_reducible exact ih0 _)
      | (with_reducible exact ih1 _ _ _ _ _ _ _ _ _)
      | (with_reducible exact ih2 _ _ _ _ _ _ _ _ _ _ _ _ _ _ _ _ _ _ _)
      | (with_reducible exact ih3 _)
      | (with_reducible exact ih4 _ _ _ _ _ _ _ _ _ _ _ _ _ _ _ _ _ _ _ _ _ _)
      | (with_reducible exact ih5 _ _ _ _ _ _ _ _ _ _ _ _ _ _ _ _ _ _ _ _ _ _)
      | (with_reducible exact ih6 _ _ _ _ _ _ _ _ _ _ _ _ _ _ _ _ _ _ _ _ _ _)
      | (with_reducible exact ih7 _ _ _ _ _ _ _ _ _ _ _ _ _ _ _ _ _ _ _ _ _ _ _)
      | (with_reducible exact ih8 _ _ _ _ _ _ _ _ _ _ _ _ _ _ _ _ _ _ _ _ _ _)
      | (with_reducible exact ih9 _)
      | (with_reducible exact impl_DefineGlobal.mono _ _ _ _ _ _)
      | (with_reducible exact impl_GlobalsFault.mono _ _)
      | (with_reducible exact impl_LookGlobal.mono _ _ _)
      | (with_reducible exact impl_SetGlobal.mono _ _ _ _ _ _)
      | (with_reducible exact spec_DefineGlobal.mono _ _ _ _ _ _)
      | (with_reducible exact spec_DrawDefineGlobal.mono _ _)
      | (with_reducible exact spec_SetGlobal.mono _ _ _ _ _ _)
      | (with_reducible exact LeO.refl _)
      | (with_reducible exact LeO.none _)
      | (with_reducible refine LeO.ite ?_ ?_)
      | (with_reducible refine LeO.bind ?_ (fun _ => ?_))
      | exact ih0 _
      | exact ih1 _ _ _ _ _ _ _ _ _
      | exact ih2 _ _ _ _ _ _ _ _ _ _ _ _ _ _ _ _ _ _ _
      | exact ih3 _
      | exact ih4 _ _ _ _ _ _ _ _ _ _ _ _ _ _ _ _ _ _ _ _ _ _
      | exact ih5 _ _ _ _ _ _ _ _ _ _ _ _ _ _ _ _ _ _ _ _ _ _
      | exact ih6 _ _ _ _ _ _ _ _ _ _ _ _ _ _ _ _ _ _ _ _ _ _
      | exact ih7 _ _ _ _ _ _ _ _ _ _ _ _ _ _ _ _ _ _ _ _ _ _ _
      | exact ih8 _ _ _ _ _ _ _ _ _ _ _ _ _ _ _ _ _ _ _ _ _ _
      | exact ih9 _
      | exact impl_DefineGlobal.mono _ _ _ _ _ _
      | exact impl_GlobalsFault.mono _ _
      | exact impl_LookGlobal.mono _ _ _
      | exact impl_SetGlobal.mono _ _ _ _ _ _
      | exact spec_DefineGlobal.mono _ _ _ _ _ _
      | exact spec_DrawDefineGlobal.mono _ _
      | exact spec_SetGlobal.mono _ _ _ _ _ _
      | exact LeO.none _
      | refine LeO.ite ?_ ?_
      | refine LeO.bind ?_ (fun _ => ?_)
    · intro y0 y1 y2 y3 y4 y5 y6 y7 y8 y9 y10 y11 y12 y13 y14 y15 y16 y17 y18 y19 y20 y21
      unfold laws_FnGlobals.j7
      repeat' first
      | (with_reducible exact ih0 _)
      | (with_reducible exact ih1 _ _ _ _ _ _ _ _ _)
      | (with_reducible exact ih2 _ _ _ _ _ _ _ _ _ _ _ _ _ _ _ _ _ _ _)
      | (with_reducible exact ih3 _)
      | (with_reducible exact ih4 _ _ _ _ _ _ _ _ _ _ _ _ _ _ _ _ _ _ _ _ _ _)
      | (with_reducible exact ih5 _ _ _ _ _ _ _ _ _ _ _ _ _ _ _ _ _ _ _ _ _ _)
      | (with_reducible exact ih6 _ _ _ _ _ _ _ _ _ _ _ _ _ _ _ _ _ _ _ _ _ _)
      | (with_reducible exact ih7 _ _ _ _ _ _ _ _ _ _ _ _ _ _ _ _ _ _ _ _ _ _ _)
      | (with_reducible exact ih8 _ _ _ _ _ _ _ _ _ _ _ _ _ _ _ _ _ _ _ _ _ _)
      | (with_reducible exact ih9 _)
      | (with_reducible exact impl_DefineGlobal.mono _ _ _ _ _ _)
      | (with_reducible exact impl_GlobalsFault.mono _ _)
      | (with_reducible exact impl_LookGlobal.mono _ _ _)
      | (with_reducible exact impl_SetGlobal.mono _ _ _ _ _ _)
      | (with_reducible exact spec_DefineGlobal.mono _ _ _ _ _ _)
      | (with_reducible exact spec_DrawDefineGlobal.mono _ _)
      | (with_reducible exact spec_SetGlobal.mono _ _ _ _ _ _)
      | (with_reducible exact LeO.refl _)
      | (with_reducible exact LeO.none _)
      | (with_reducible refine LeO.ite ?_ ?_)
      | (with_reducible refine LeO.bind ?_ (fun _ => ?_))
      | exact ih0 _
      | exact ih1 _ _ _ _ _ _ _ _ _
      | exact ih2 _ _ _ _ _ _ _ _ _ _ _ _ _ _ _ _ _ _ _
      | exact ih3 _
      | exact ih4 _ _ _ _ _ _ _ _ _ _ _ _ _ _ _ _ _ _ _ _ _ _
      | exact ih5 _ _ _ _ _ _ _ _ _ _ _ _ _ _ _ _ _ _ _ _ _ _
      | exact ih6 _ _ _ _ _ _ _ _ _ _ _ _ _ _ _ _ _ _ _ _ _ _
      | exact ih7 _ _ _ _ _ _ _ _ _ _ _ _ _ _ _ _ _ _ _ _ _ _ _
      | exact ih8 _ _ _ _ _ _ _ _ _ _ _ _ _ _ _ _ _ _ _ _ _ _
      | exact ih9 _
      | exact impl_DefineGlobal.mono _ _ _ _ _ _
      | exact impl_GlobalsFault.mono _ _
      | exact impl_LookGlobal.mono _ _ _
      | exact impl_SetGlobal.mono _ _ _ _ _ _
      | exact spec_DefineGlobal.mono _ _ _ _ _ _
      | exact spec_DrawDefineGlobal.mono _ _
      | exact spec_SetGlobal.mono _ _ _ _ _ _
      | exact LeO.none _
      | refine LeO.ite ?_ ?_
      | refine LeO.bind ?_ (fun _ => ?_)
    · intro y0 y1 y2 y3 y4 y5 y6 y7 y8 y9 y10 y11 y12 y13 y14 y15 y16 y17 y18 y19 y20 y21 y22
      unfold laws_FnGlobals.j5
      repeat' first
      | (with_reducible exact ih0 _)
      | (with_reducible exact ih1 _ _ _ _ _ _ _ _ _)
      | (with_reducible exact ih2 _ _ _ _ _ _ _ _ _ _ _ _ _ _ _ _ _ _ _)
      | (with_reducible exact ih3 _)
      | (with_reducible exact ih4 _ _ _ _ _ _ _ _ _ _ _ _ _ _ _ _ _ _ _ _ _ _)
      | (with_reducible exact ih5 _ _ _ _ _ _ _ _ _ _ _ _ _ _ _ _ _ _ _ _ _ _)
      | (with_reducible exact ih6 _ _ _ _ _ _ _ _ _ _ _ _ _ _ _ _ _ _ _ _ _ _)
      | (with_reducible exact ih7 _ _ _ _ _ _ _ _ _ _ _ _ _ _ _ _ _ _ _ _ _ _ _)
      | (with_reducible exact ih8 _ _ _ _ _ _ _ _ _ _ _ _ _ _ _ _ _ _ _ _ _ _)
      | (with_reducible exact ih9 _)
      | (with_reducible exact impl_DefineGlobal.mono _ _ _ _ _ _)
      | (with_reducible exact impl_GlobalsFault.mono _ _)
      | (with_reducible exact impl_LookGlobal.mono _ _ _)
      | (with_reducible exact impl_SetGlobal.mono _ _ _ _ _ _)
      | (with_reducible exact spec_DefineGlobal.mono _ _ _ _ _ _)
      | (with_reducible exact spec_DrawDefineGlobal.mono _ _)
      | (with_reducible exact spec_SetGlobal.mono _ _ _ _ _ _)
      | (with_reducible exact LeO.refl _)
      | (with_reducible exact LeO.none _)
      | (with_reducible refine LeO.ite ?_ ?_)
      | (with_reducible refine LeO.bind ?_ (fun _ => ?_))
      | exact ih0 _
      | exact ih1 _ _ _ _ _ _ _ _ _
      | exact ih2 _ _ _ _ _ _ _ _ _ _ _ _ _ _ _ _ _ _ _
      | exact ih3 _
      | exact ih4 _ _ _ _ _ _ _ _ _ _ _ _ _ _ _ _ _ _ _ _ _ _
      | exact ih5 _ _ _ _ _ _ _ _ _ _ _ _ _ _ _ _ _ _ _ _ _ _
      | exact ih6 _ _ _ _ _ _ _ _ _ _ _ _ _ _ _ _ _ _ _ _ _ _
      | exact ih7 _ _ _ _ _ _ _ _ _ _ _ _ _ _ _ _ _ _ _ _ _ _ _
      | exact ih8 _ _ _ _ _ _ _ _ _ _ _ _ _ _ _ _ _ _ _ _ _ _
      | exact ih9 _
      | exact impl_DefineGlobal.mono _ _ _ _ _ _
      | exact impl_GlobalsFault.mono _ _
      | exact impl_LookGlobal.mono _ _ _
      | exact impl_SetGlobal.mono _ _ _ _ _ _
      | exact spec_DefineGlobal.mono _ _ _ _ _ _
      | exact spec_DrawDefineGlobal.mono _ _
      | exact spec_SetGlobal.mono _ _ _ _ _ _
      | exact LeO.none _
      | refine LeO.ite ?_ ?_
      | refine LeO.bind ?_ (fun _ => ?_)
    · intro y0 y1 y2 y3 y4 y5 y6 y7 y8 y9 y10 y11 y12 y13 y14 y15 y16 y17 y18 y19 y20 y21
      unfold laws_FnGlobals.j6
      repeat' first
      | (with_reducible exact ih0 _)
      | (with_reducible exact ih1 _ _ _ _ _ _ _ _ _)
      | (with_reducible exact ih2 _ _ _ _ _ _ _ _ _ _ _ _ _ _ _ _ _ _ _)
      | (with_reducible exact ih3 _)
      | (with_reducible exact ih4 _ _ _ _ _ _ _ _ _ _ _ _ _ _ _ _ _ _ _ _ _ _)
      | (with_reducible exact ih5 _ _ _ _ _ _ _ _ _ _ _ _ _ _ _ _ _ _ _ _ _ _)
      | (with_reducible exact ih6 _ _ _ _ _ _ _ _ _ _ _ _ _ _ _ _ _ _ _ _ _ _)
      | (with_reducible exact ih7 _ _ _ _ _ _ _ _ _ _ _ _ _ _ _ _ _ _ _ _ _ _ _)
      | (with_reducible exact ih8 _ _ _ _ _ _ _ _ _ _ _ _ _ _ _ _ _ _ _ _ _ _)
      | (with_reducible exact ih9 _)
      | (with_reducible exact impl_DefineGlobal.mono _ _ _ _ _ _)
      | (with_reducible exact impl_GlobalsFault.mono _ _)
      | (with_reducible exact impl_LookGlobal.mono _ _ _)
      | (with_reducible exact impl_SetGlobal.mono _ _ _ _ _ _)
      | (with_reducible exact spec_DefineGlobal.mono _ _ _ _ _ _)
      | (with_reducible exact spec_DrawDefineGlobal.mono _ _)
      | (with_reducible exact spec_SetGlobal.mono _ _ _ _ _ _)
      | (with_reducible exact LeO.refl _)
      | (with_reducible exact LeO.none _)
      | (with_reducible refine LeO.ite ?_ ?_)
      | (with_reducible refine LeO.bind ?_ (fun _ => ?_))
      | exact ih0 _
      | exact ih1 _ _ _ _ _ _ _ _ _
      | exact ih2 _ _ _ _ _ _ _ _ _ _ _ _ _ _ _ _ _ _ _
      | exact ih3 _
      | exact ih4 _ _ _ _ _ _ _ _ _ _ _ _ _ _ _ _ _ _ _ _ _ _
      | exact ih5 _ _ _ _ _ _ _ _ _ _ _ _ _ _ _ _ _ _ _ _ _ _
      | exact ih6 _ _ _ _ _ _ _ _ _ _ _ _ _ _ _ _ _ _ _ _ _ _
      | exact ih7 _ _ _ _ _ _ _ _ _ _ _ _ _ _ _ _ _ _ _ _ _ _ _
      | exact ih8 _ _ _ _ _ _ _ _ _ _ _ _ _ _ _ _ _ _ _ _ _ _
      | exact ih9 _
      | exact impl_DefineGlobal.mono _ _ _ _ _ _
      | exact impl_GlobalsFault.mono _ _
      | exact impl_LookGlobal.mono _ _ _
      | exact impl_SetGlobal.mono _ _ _ _ _ _
      | exact spec_DefineGlobal.mono _ _ _ _ _ _
      | exact spec_DrawDefineGlobal.mono _ _
      | exact spec_SetGlobal.mono _ _ _ _ _ _
      | exact LeO.none _
      | refine LeO.ite ?_ ?_
      | refine LeO.bind ?_ (fun _ => ?_)
    · intro y0
      unfold laws_FnGlobals.j1
      repeat' first
      | (with_reducible exact ih0 _)
      | (with_reducible exact ih1 _ _ _ _ _ _ _ _ _)
      | (with_reducible exact ih2 _ _ _ _ _ _ _ _ _ _ _ _ _ _ _ _ _ _ _)
      | (with_reducible exact ih3 _)
      | (with_reducible exact ih4 _ _ _ _ _ _ _ _ _ _ _ _ _ _ _ _ _ _ _ _ _ _)
      | (with_reducible exact ih5 _ _ _ _ _ _ _ _ _ _ _ _ _ _ _ _ _ _ _ _ _ _)
      | (with_reducible exact ih6 _ _ _ _ _ _ _ _ _ _ _ _ _ _ _ _ _ _ _ _ _ _)
      | (with_reducible exact ih7 _ _ _ _ _ _ _ _ _ _ _ _ _ _ _ _ _ _ _ _ _ _ _)
      | (with_reducible exact ih8 _ _ _ _ _ _ _ _ _ _ _ _ _ _ _ _ _ _ _ _ _ _)
      | (with_reducible exact ih9 _)
      | (with_reducible exact impl_DefineGlobal.mono _ _ _ _ _ _)
      | (with_reducible exact impl_GlobalsFault.mono _ _)
      | (with_reducible exact impl_LookGlobal.mono _ _ _)
      | (with_reducible exact impl_SetGlobal.mono _ _ _ _ _ _)
      | (with_reducible exact spec_DefineGlobal.mono _ _ _ _ _ _)
      | (with_reducible exact spec_DrawDefineGlobal.mono _ _)
      | (with_reducible exact spec_SetGlobal.mono _ _ _ _ _ _)
      | (with_reducible exact LeO.refl _)
      | (with_reducible exact LeO.none _)
      | (with_reducible refine LeO.ite ?_ ?_)
      | (with_reducible refine LeO.bind ?_ (fun _ => ?_))
      | exact ih0 _
      | exact ih1 _ _ _ _ _ _ _ _ _
      | exact ih2 _ _ _ _ _ _ _ _ _ _ _ _ _ _ _ _ _ _ _
      | exact ih3 _
      | exact ih4 _ _ _ _ _ _ _ _ _ _ _ _ _ _ _ _ _ _ _ _ _ _
      | exact ih5 _ _ _ _ _ _ _ _ _ _ _ _ _ _ _ _ _ _ _ _ _ _
      | exact ih6 _ _ _ _ _ _ _ _ _ _ _ _ _ _ _ _ _ _ _ _ _ _
      | exact ih7 _ _ _ _ _ _ _ _ _ _ _ _ _ _ _ _ _ _ _ _ _ _ _
      | exact ih8 _ _ _ _ _ _ _ _ _ _ _ _ _ _ _ _ _ _ _ _ _ _
      | exact ih9 _
      | exact impl_DefineGlobal.mono _ _ _ _ _ _
      | exact impl_GlobalsFault.mono _ _
      | exact impl_LookGlobal.mono _ _ _
      | exact impl_SetGlobal.mono _ _ _ _ _ _
      | exact spec_DefineGlobal.mono _ _ _ _ _ _
      | exact spec_DrawDefineGlobal.mono _ _
      | exact spec_SetGlobal.mono _ _ _ _ _ _
      | exact LeO.none _
      | refine LeO.ite ?_ ?_
      | refine LeO.bind ?_ (fun _ => ?_)
theorem laws_FnGlobals.mono : ∀ a0 k, LeO (laws_FnGlobals.f k a0) (laws_FnGlobals.f (k + 1) a0) := by
  intro a0 k; obtain ⟨ih0, ih1, ih2, ih3, ih4, ih5, ih6, ih7, ih8, ih9⟩ := laws_FnGlobals.mono_l k; unfold laws_FnGlobals.f
  repeat' first
      | (with_reducible exact ih0 _)
      | (with_reducible exact ih1 _ _ _ _ _ _ _ _ _)
      | (with_reducible exact ih2 _ _ _ _ _ _ _ _ _ _ _ _ _ _ _ _ _ _ _)
      | (with_reducible exact ih3 _)
      | (with_reducible exact ih4 _ _ _ _ _ _ _ _ _ _ _ _ _ _ _ _ _ _ _ _ _ _)
      | (with_reducible exact ih5 _ _ _ _ _ _ _ _ _ _ _ _ _ _ _ _ _ _ _ _ _ _)
      | (with_reducible exact ih6 _ _ _ _ _ _ _ _ _ _ _ _ _ _ _ _ _ _ _ _ _ _)
      | (with_reducible exact ih7 _ _ _ _ _ _ _ _ _ _ _ _ _ _ _ _ _ _ _ _ _ _ _)
      | (with_reducible exact ih8 _ _ _ _ _ _ _ _ _ _ _ _ _ _ _ _ _ _ _ _ _ _)
      | (with_reducible exact ih9 _)
      | (with_reducible exact impl_DefineGlobal.mono _ _ _ _ _ _)
      | (with_reducible exact impl_GlobalsFault.mono _ _)
      | (with_reducible exact impl_LookGlobal.mono _ _ _)
      | (with_reducible exact impl_SetGlobal.mono _ _ _ _ _ _)
      | (with_reducible exact spec_DefineGlobal.mono _ _ _ _ _ _)
      | (with_reducible exact spec_DrawDefineGlobal.mono _ _)
      | (with_reducible exact spec_SetGlobal.mono _ _ _ _ _ _)
      | (with_reducible exact LeO.refl _)
      | (with_reducible exact LeO.none _)
      | (with_reducible refine LeO.ite ?_ ?_)
      | (with_reducible refine LeO.bind ?_ (fun _ => ?_))
      | exact ih0 _
      | exact ih1 _ _ _ _ _ _ _ _ _
      | exact ih2 _ _ _ _ _ _ _ _ _ _ _ _ _ _ _ _ _ _ _
      | exact ih3 _
      | exact ih4 _ _ _ _ _ _ _ _ _ _ _ _ _ _ _ _ _ _ _ _ _ _
      | exact ih5 _ _ _ _ _ _ _ _ _ _ _ _ _ _ _ _ _ _ _ _ _ _
      | exact ih6 _ _ _ _ _ _ _ _ _ _ _ _ _ _ _ _ _ _ _ _ _ _
      | exact ih7 _ _ _ _ _ _ _ _ _ _ _ _ _ _ _ _ _ _ _ _ _ _ _
      | exact ih8 _ _ _ _ _ _ _ _ _ _ _ _ _ _ _ _ _ _ _ _ _ _
      | exact ih9 _
      | exact impl_DefineGlobal.mono _ _ _ _ _ _
      | exact impl_GlobalsFault.mono _ _
      | exact impl_LookGlobal.mono _ _ _
      | exact impl_SetGlobal.mono _ _ _ _ _ _
      | exact spec_DefineGlobal.mono _ _ _ _ _ _
      | exact spec_DrawDefineGlobal.mono _ _
      | exact spec_SetGlobal.mono _ _ _ _ _ _
      | exact LeO.none _
      | refine LeO.ite ?_ ?_
      | refine LeO.bind ?_ (fun _ => ?_)
def laws_FnGlobals.T7 : Bool × List (List Nat × List Nat) := (true, [([], []), ([], []), ([], []), ([0, 1, 2], [0, 1, 2]), ([3], [3]), ([], []), ([5], [5]), ([4, 6], [4, 6]), ([7, 3], [7]), ([8], [8]), ([8], [8]), ([8], [8]), ([9, 10, 11, 8, 8], [8, 9, 10, 11]), ([12, 8], [8, 12]), ([8], [8]), ([14, 8], [8, 14]), ([13, 15, 8], [8, 13, 15]), ([8, 16], [8, 16]), ([17, 12, 0, 1, 2, 3, 4, 5, 6, 7, 8, 9, 10, 11, 12, 13, 14, 15, 16, 17], [17])])
def laws_FnGlobals.B7 : List Nat := [0, 0, 0, 7, 15, 0, 32, 127, 255, 511, 511, 511, 4095, 8191, 511, 16895, 65535, 131071, 262143]
theorem laws_FnGlobals.tab7 : rtab .any (opsOf Tryd.f3 7) = laws_FnGlobals.T7 := by kernel_rfl
theorem laws_FnGlobals.bits7 : waitsOk laws_FnGlobals.T7.2 laws_FnGlobals.B7 = true := by kernel_rfl
def laws_FnGlobals.T13 : Bool × List (List Nat × List Nat) := (true, [([], []), ([0], [0]), ([], []), ([], []), ([2, 3], [2, 3]), ([4], [4]), ([5], [5]), ([1, 6], [1, 6]), ([], []), ([8, 7, 7, 0, 1, 2, 3, 4, 5, 6, 7, 8], [7, 8])])
def laws_FnGlobals.B13 : List Nat := [0, 1, 0, 0, 12, 28, 60, 127, 0, 511]
theorem laws_FnGlobals.tab13 : rtab .any (opsOf Tryd.f3 13) = laws_FnGlobals.T13 := by kernel_rfl
theorem laws_FnGlobals.bits13 : waitsOk laws_FnGlobals.T13.2 laws_FnGlobals.B13 = true := by kernel_rfl
def laws_FnGlobals.T14 : Bool × List (List Nat × List Nat) := (true, [([], []), ([], []), ([0, 1], [0, 1]), ([2], [2]), ([3], [3]), ([], []), ([4, 5], [4, 5]), ([6], [6]), ([7], [7]), ([8, 7], [7, 8]), ([7], [7]), ([7], [7]), ([10, 11, 7], [7, 10, 11]), ([12, 7], [7, 12]), ([9, 13, 7], [7, 9, 13]), ([7, 14], [7, 14])])
def laws_FnGlobals.B14 : List Nat := [0, 0, 3, 7, 15, 0, 63, 127, 255, 511, 255, 255, 3327, 7423, 16383, 32767]
theorem laws_FnGlobals.tab14 : rtab .any (opsOf Tryd.f3 14) = laws_FnGlobals.T14 := by kernel_rfl
theorem laws_FnGlobals.bits14 : waitsOk laws_FnGlobals.T14.2 laws_FnGlobals.B14 = true := by kernel_rfl
set_option maxHeartbeats 8000000 in
set_option maxRecDepth 100000 in
theorem laws_FnGlobals.calls (k : Nat) (A0 : Option Addr) (c0 : Nat) (l0 : List Int) (r : Bool) (w : World) (hr0 : Kd.C (Kd.int .u8) w A0 l0.length l0) (hc0 : l0.length ≤ c0) (h : laws_FnGlobals.f k l0 = some r) :
    Calls Tryd.prog 3 #[.slice A0 l0.length c0] w fun e w' => e = .returned (.bool r) ∧ Below w.heap.size w w' := by
  have hu26 := Tryd.underlying26; have hu30 := Tryd.underlying30
  have hfd30_0 : ∀ (v0 v1 : Value) (w : World), (Instr.field 30 (.agg #[v0, v1]) 0).run Tryd.prog w = .ok (v0) w := fun _ _ _ => by kernel_rfl
  have hu35 := Tryd.underlying35; have hu33 := Tryd.underlying33; have HR0 := ak hr0; have HC0 := ak hc0; clear hr0 hc0; have HB := ak (Below.refl w.heap.size w); have H : ((laws_lwBig.f l0).bind fun t399 => (if t399 = true then (some true) else (laws_FnGlobals.j0 k l0))) = some r := h; clear h; replace H := Option.bind_eq_some_iff.mp H; obtain ⟨t399, A20, H⟩ := H; replace H : (if t399 = true then (some true) else (laws_FnGlobals.j0 k l0)) = some r := H; have A2 := ak A20; clear A20; have HC3 := ak H; clear H; go_enter Tryd.func3, Tryd.ntmps3; go_upto_if 13 with (first | ((with_reducible refine gate_callee (f := 4) rfl ?_); refine goesL_ (some 13) rfl rfl Tryd.func4 (by kernel_rfl) rfl #[.slice A0 l0.length c0] rfl d11_8 ?_; (with_reducible refine (laws_lwBig.calls _ _ l0 t399 _ ?side1 ?side2 A2.out).mono ?_); (case side1 => repeat (first | exact HR0.out | (with_reducible refine Kd.C_alloc ?_ _) | (with_reducible refine Kd.C_drewN ?_ _) | (with_reducible refine Kd.C_drew ?_))); (case side2 => exact HC0.out); rintro e w' ⟨rfl, ⟨nd, rfl⟩⟩; refine ⟨_, rfl, ?_⟩))
  (try simp only [Act.put, List.setIfInBounds_toArray, List.set_cons_zero, List.set_cons_succ])
  go_cut [] (fun wc => ∃ (kq : Nat), Aside0 (laws_FnGlobals.j0 kq l0 = some r) ∧ Aside0 (kq ≤ k) ∧ Aside0 (Below w.heap.size w wc))
  case first =>
   have H := HC3.out; clear HC3; by_cases c4 : t399 = true
   ·subst c4
    have H1 : (some true) = some r := by rw [if_pos rfl] at H; exact H
    clear H; have H := H1; clear H1; obtain rfl := Option.some.inj H; go_wp2; go_ret; exact ⟨by first | rfl | (simp [errW_none, errW_some] <;> rfl) | (simp [*, errW_none, errW_some] <;> rfl), by repeat (first | (with_reducible first | exact HB.out | apply below_alloc | apply pw_below_drewN | apply below_drew1) | exact HB.out)⟩
   ·replace c4 := Bool.eq_false_iff.mpr c4
    subst c4
    have H1 : (laws_FnGlobals.j0 k l0) = some r := by rw [if_neg (show ¬ (false = true) by decide)] at H; exact H
    clear H; have H := H1; clear H1; have H' := ak H; clear H; go_wp2; go_meet
    case rel => exact ⟨_, H', ⟨by first | omega | exact Nat.le_refl _⟩, ⟨by repeat (first | (with_reducible first | exact HB.out | apply below_alloc | apply pw_below_drewN | apply below_drew1) | exact HB.out)⟩⟩
  case rest =>
   clear HC3
   try clear c3
   try clear c4
   obtain ⟨kq, HA, HJ2, HB⟩ := hcut
   cases kq with
   | zero => exact absurd HA.out (by simp [laws_FnGlobals.j0])
   | succ kj2 =>
    have H := HA.out; clear HA; simp only [laws_FnGlobals.j0] at H; replace H := Option.bind_eq_some_iff.mp H; obtain ⟨⟨t400, t403, t404, t405, t406⟩, A50, H⟩ := H; replace H : ((impl_DefineGlobal.f kj2 t400 t403 t404 t405 t406).bind fun bt408 => ((impl_SetGlobal.f kj2 t400 t403 t404 t405 t406).bind fun bt413 => (if bt408.1 = 0 then (laws_FnGlobals.j2 kj2 t400 t403 t404 t405 t406 bt408.1 bt408.2 bt413.1 bt413.2) else ((spec_DefineGlobal.f kj2 t400 t403 t404 t405 t406).bind fun bt418 => (if bt418.1 = bt408.1 then ((spec_SetGlobal.f kj2 t400 t403 t404 t405 t406).bind fun bt422 => (laws_FnGlobals.j1 kj2 (bt422.1 == bt413.1))) else (laws_FnGlobals.j1 kj2 false)))))) = some r := H; have A5 := ak A50; clear A50; replace H := Option.bind_eq_some_iff.mp H; obtain ⟨⟨t408, t409⟩, A60, H⟩ := H; replace H : ((impl_SetGlobal.f kj2 t400 t403 t404 t405 t406).bind fun bt413 => (if t408 = 0 then (laws_FnGlobals.j2 kj2 t400 t403 t404 t405 t406 t408 t409 bt413.1 bt413.2) else ((spec_DefineGlobal.f kj2 t400 t403 t404 t405 t406).bind fun bt418 => (if bt418.1 = t408 then ((spec_SetGlobal.f kj2 t400 t403 t404 t405 t406).bind fun bt422 => (laws_FnGlobals.j1 kj2 (bt422.1 == bt413.1))) else (laws_FnGlobals.j1 kj2 false))))) = some r := H; have A6 := ak A60; clear A60; replace H := Option.bind_eq_some_iff.mp H; obtain ⟨⟨t413, t414⟩, A70, H⟩ := H
    replace H : (if t408 = 0 then (laws_FnGlobals.j2 kj2 t400 t403 t404 t405 t406 t408 t409 t413 t414) else ((spec_DefineGlobal.f kj2 t400 t403 t404 t405 t406).bind fun bt418 => (if bt418.1 = t408 then ((spec_SetGlobal.f kj2 t400 t403 t404 t405 t406).bind fun bt422 => (laws_FnGlobals.j1 kj2 (bt422.1 == t413))) else (laws_FnGlobals.j1 kj2 false)))) = some r := H; have A7 := ak A70; clear A70; have HC8 := ak H; clear H
    go_upto_if 30 with (first | ((with_reducible refine gate_callee (f := 5) rfl ?_); refine goesL_ (some 16) rfl rfl Tryd.func5 (by kernel_rfl) rfl #[.slice A0 l0.length c0] rfl d11_8 ?_; (with_reducible refine (spec_DrawDefineGlobal.calls kj2 _ _ l0 t400 t403 t404 t405 t406 _ ?side1 ?side2 A5.out).mono ?_); (case side1 => repeat (first | exact (Kd.C_below HR0.out HB.out) | (with_reducible refine Kd.C_alloc ?_ _) | (with_reducible refine Kd.C_drewN ?_ _) | (with_reducible refine Kd.C_drew ?_))); (case side2 => exact HC0.out); rintro e w9 ⟨v401, rfl, ho0, hb⟩; refine ⟨_, rfl, ?_⟩; have n0_ := ak (Kd.R_lower ho0 (below_size d11_21)); have n1_ := ak (below_step d11_21 hb); clear HB; have HO402 := n0_; have HB := n1_; clear n0_ n1_; (try clear hb); (try clear hk); (try clear ho0)) | ((with_reducible refine gate_dst (N := 5) rfl ?_); refine box_event ?hg (N := 5) ?hd (cs := #[.int .i64 0, .int .i64 0, .string (⟨#[]⟩ : ByteArray)]) (t := 26) ?hr ?_; (case hd => rfl); (case hg => rfl); (case hr => first | (go_simp; done) | (go_simp; rfl)); intro gb407 hg w10 hbox hb; have n0_ := ak (Kd.R_below d11_13 hb); have n1_ := ak (below_step d11_21 hb); have n2_ := ak (hbox); have n3_ := ak ((by rw [hg]; exact (below_size d11_21) : w.heap.size ≤ gb407)); have n4_ := ak ((by rw [hg]; exact (below_size d11_21) : w.heap.size ≤ gb407)); clear HO402 HB; have HO402 := n0_; have HB := n1_; have BK407 := n2_; have GW407 := n3_; have GE407 := n4_; clear n0_ n1_ n2_ n3_ n4_ hb hbox hg; have hcz11_0 : w10.cell? ⟨gb407, 0, none⟩ = some (.int .i64 0) := (blk_cell BK407.out 0).trans rfl; have hcz11_1 : w10.cell? ⟨gb407, 1, none⟩ = some (.int .i64 0) := (blk_cell BK407.out 1).trans rfl; have hcz11_2 : w10.cell? ⟨gb407, 2, none⟩ = some (.string (⟨#[]⟩ : ByteArray)) := (blk_cell BK407.out 2).trans rfl; have hfz11_0 := blk_frozen BK407.out 0; have hfz11_1 := blk_frozen BK407.out 1; have hfz11_2 := blk_frozen BK407.out 2; obtain ⟨Ao12, co12, eo12⟩ := Kd.R_slice HO402.out; subst eo12) | ((with_reducible refine gate_callee (f := 6) rfl ?_); refine goesL_ (some 23) rfl rfl Tryd.func6 (by kernel_rfl) rfl #[.slice Ao12 t400.length co12, .string t403, .agg #[.int .i64 t404, .int .i64 t405, .string t406]] rfl d11_8 ?_; (with_reducible refine (impl_DefineGlobal.calls kj2 _ _ t400 t403 t404 t405 t406 t408 t409 _ ?side1 ?side2 A6.out).mono ?_); (case side1 => refine (Kd.R_reads' (e := 33) (base := w.heap.size) (ok := fun k_ => True) (n := t400.length) (c := co12) ?_).2.2; exact (by (with_reducible repeat (first | apply Kd.R_alloc | apply Kd.R_drewN | apply Kd.R_drew)); exact (Kd.R_mono (Kd.R_far (p := ⟨gb407, 2, none⟩) (Kd.R_far (p := ⟨gb407, 1, none⟩) (Kd.R_far (p := ⟨gb407, 0, none⟩) (Kd.R_types HO402.out BK407.out (by decide)) (fun _ hk => hk.2) (.int .i64 t404)) (fun _ hk => hk.2) (.int .i64 t405)) (fun _ hk => hk.2) (.string t406)) (fun _ h_ => h_.1)))); (case side2 => exact (Kd.R_reads' HO402.out).2.1); rintro e w13 ⟨v410, rfl, ho0, hb⟩; refine ⟨_, rfl, ?_⟩; have n0_ := ak (Kd.R_elder' (by (with_reducible repeat (first | apply Kd.R_alloc | apply Kd.R_drewN | apply Kd.R_drew)); exact (Kd.R_mono (Kd.R_far (p := ⟨gb407, 2, none⟩) (Kd.R_far (p := ⟨gb407, 1, none⟩) (Kd.R_far (p := ⟨gb407, 0, none⟩) (Kd.R_types HO402.out BK407.out (by decide)) (fun _ hk => hk.2) (.int .i64 t404)) (fun _ hk => hk.2) (.int .i64 t405)) (fun _ hk => hk.2) (.string t406)) (fun _ h_ => h_.1))) (Kd.R_base ho0) hb); have n1_ := ak (Kd.R_lower (Kd.R_new' ho0 (Kd.R_lt (by (with_reducible repeat (first | apply Kd.R_alloc | apply Kd.R_drewN | apply Kd.R_drew)); exact (Kd.R_mono (Kd.R_far (p := ⟨gb407, 2, none⟩) (Kd.R_far (p := ⟨gb407, 1, none⟩) (Kd.R_far (p := ⟨gb407, 0, none⟩) (Kd.R_types HO402.out BK407.out (by decide)) (fun _ hk => hk.2) (.int .i64 t404)) (fun _ hk => hk.2) (.int .i64 t405)) (fun _ hk => hk.2) (.string t406)) (fun _ h_ => h_.1))))) (below_size d11_18)); have n2_ := ak (blk_below (g := gb407) (o := .cells #[.int .i64 t404, .int .i64 t405, .string t406] 26 (0, 0)) (by (with_reducible repeat first | apply b11N | apply b11D | apply b11L); refine blk_put (cs := #[.int .i64 t404, .int .i64 t405, .string (⟨#[]⟩ : ByteArray)]) ?_ 2 _ rfl; (with_reducible repeat first | apply b11N | apply b11D | apply b11L); refine blk_put (cs := #[.int .i64 t404, .int .i64 0, .string (⟨#[]⟩ : ByteArray)]) ?_ 1 _ rfl; (with_reducible repeat first | apply b11N | apply b11D | apply b11L); refine blk_put (cs := #[.int .i64 0, .int .i64 0, .string (⟨#[]⟩ : ByteArray)]) ?_ 0 _ rfl; (with_reducible repeat first | apply b11N | apply b11D | apply b11L); exact BK407.out) hb); have n3_ := ak (below_step d11_18 hb); clear HO402 BK407 HB; have HO402 := n0_; have HO411 := n1_; have BK407 := n2_; have HB := n3_; clear n0_ n1_ n2_ n3_; (try clear hb); (try clear hk); (try clear ho0)) | ((with_reducible refine gate_dst (N := 6) rfl ?_); refine box_event ?hg (N := 6) ?hd (cs := #[.int .i64 0, .slice none 0 0]) (t := 30) ?hr ?_; (case hd => rfl); (case hg => rfl); (case hr => first | (go_simp; done) | (go_simp; rfl)); intro gb412 hg w14 hbox hb; have n0_ := ak (Kd.R_below d11_13 hb); have n1_ := ak (Kd.R_below d11_17 hb); have n2_ := ak (blk_below (g := gb407) (o := .cells #[.int .i64 t404, .int .i64 t405, .string t406] 26 (0, 0)) d11_2 hb); have n3_ := ak (below_step d11_18 hb); have n4_ := ak (hbox); have n5_ := ak ((by rw [hg]; exact (below_size d11_18) : w.heap.size ≤ gb412)); have n6_ := ak ((by rw [hg]; exact (below_size d11_18) : w.heap.size ≤ gb412)); have n7_ := ak ((by rw [hg]; exact Nat.ne_of_lt (blk_lt (g := gb407) (o := .cells #[.int .i64 t404, .int .i64 t405, .string t406] 26 (0, 0)) d11_2) : gb407 ≠ gb412)); have n8_ := ak ((by rw [hg]; exact Nat.ne_of_gt (blk_lt (g := gb407) (o := .cells #[.int .i64 t404, .int .i64 t405, .string t406] 26 (0, 0)) d11_2) : gb412 ≠ gb407)); clear HO402 HO411 BK407 HB; have HO402 := n0_; have HO411 := n1_; have BK407 := n2_; have HB := n3_; have BK412 := n4_; have GW412 := n5_; have GE412 := n6_; have NB407_412 := n7_; have NB412_407 := n8_; clear n0_ n1_ n2_ n3_ n4_ n5_ n6_ n7_ n8_ hb hbox hg; have hnb15 := NB412_407.out; have hnc15 := NB407_412.out; have hcz16_0 : w14.cell? ⟨gb412, 0, none⟩ = some (.int .i64 0) := (blk_cell BK412.out 0).trans rfl; have hcz16_1 : w14.cell? ⟨gb412, 1, none⟩ = some (.slice none 0 0) := (blk_cell BK412.out 1).trans rfl; have hfz16_0 := blk_frozen BK412.out 0; have hfz16_1 := blk_frozen BK412.out 1; obtain ⟨Ao17, co17, eo17⟩ := Kd.R_slice HO411.out; subst eo17; have hcz18_0 : w14.cell? ⟨gb407, 0, none⟩ = some (.int .i64 t404) := (blk_cell BK407.out 0).trans rfl; have hcz18_1 : w14.cell? ⟨gb407, 1, none⟩ = some (.int .i64 t405) := (blk_cell BK407.out 1).trans rfl; have hcz18_2 : w14.cell? ⟨gb407, 2, none⟩ = some (.string t406) := (blk_cell BK407.out 2).trans rfl; have hfz18_0 := blk_frozen BK407.out 0; have hfz18_1 := blk_frozen BK407.out 1; have hfz18_2 := blk_frozen BK407.out 2) | ((with_reducible refine gate_callee (f := 7) rfl ?_); refine goesL_ (some 27) rfl rfl Tryd.func7 (by kernel_rfl) rfl #[.slice Ao12 t400.length co12, .string t403, .agg #[.int .i64 t404, .int .i64 t405, .string t406]] rfl d11_8 ?_; (with_reducible refine (impl_SetGlobal.calls kj2 _ _ t400 t403 t404 t405 t406 t413 t414 _ ?side1 ?side2 A7.out).mono ?_); (case side1 => refine (Kd.R_reads' (e := 33) (base := w.heap.size) (ok := fun k_ => (True ∧ some k_ ≠ (.slice Ao17 t409.length co17 : Value).ownBlock)) (n := t400.length) (c := co12) ?_).2.2; exact (by (with_reducible repeat (first | apply Kd.R_alloc | apply Kd.R_drewN | apply Kd.R_drew)); exact (Kd.R_mono (Kd.R_far (p := ⟨gb412, 1, none⟩) (Kd.R_far (p := ⟨gb412, 0, none⟩) (Kd.R_types HO402.out BK412.out (by decide)) (fun _ hk => hk.2) (.int .i64 t408)) (fun _ hk => hk.2) (.slice Ao17 t409.length co17)) (fun _ h_ => h_.1)))); (case side2 => exact (Kd.R_reads' HO402.out).2.1); rintro e w19 ⟨v415, rfl, ho0, hb⟩; refine ⟨_, rfl, ?_⟩; have n0_ := ak (Kd.R_elder' (by (with_reducible repeat (first | apply Kd.R_alloc | apply Kd.R_drewN | apply Kd.R_drew)); exact (Kd.R_mono (Kd.R_far (p := ⟨gb412, 1, none⟩) (Kd.R_far (p := ⟨gb412, 0, none⟩) (Kd.R_types HO402.out BK412.out (by decide)) (fun _ hk => hk.2) (.int .i64 t408)) (fun _ hk => hk.2) (.slice Ao17 t409.length co17)) (fun _ h_ => h_.1))) (Kd.R_base ho0) hb); have n1_ := ak (Kd.R_elder' (by (with_reducible repeat (first | apply Kd.R_alloc | apply Kd.R_drewN | apply Kd.R_drew)); exact (Kd.R_mono (Kd.R_far (p := ⟨gb412, 1, none⟩) (Kd.R_far (p := ⟨gb412, 0, none⟩) (Kd.R_types HO411.out BK412.out (by decide)) (fun _ hk => hk.2) (.int .i64 t408)) (fun _ hk => hk.2) (.slice Ao17 t409.length co17)) (fun _ h_ => h_.1))) (Kd.R_base ho0) hb); have n2_ := ak (Kd.R_lower (Kd.R_new' (Kd.R_new' ho0 (Kd.R_lt (by (with_reducible repeat (first | apply Kd.R_alloc | apply Kd.R_drewN | apply Kd.R_drew)); exact (Kd.R_mono (Kd.R_far (p := ⟨gb412, 1, none⟩) (Kd.R_far (p := ⟨gb412, 0, none⟩) (Kd.R_types HO402.out BK412.out (by decide)) (fun _ hk => hk.2) (.int .i64 t408)) (fun _ hk => hk.2) (.slice Ao17 t409.length co17)) (fun _ h_ => h_.1))))) (Kd.R_lt (by (with_reducible repeat (first | apply Kd.R_alloc | apply Kd.R_drewN | apply Kd.R_drew)); exact (Kd.R_mono (Kd.R_far (p := ⟨gb412, 1, none⟩) (Kd.R_far (p := ⟨gb412, 0, none⟩) (Kd.R_types HO411.out BK412.out (by decide)) (fun _ hk => hk.2) (.int .i64 t408)) (fun _ hk => hk.2) (.slice Ao17 t409.length co17)) (fun _ h_ => h_.1))))) (below_size d11_15)); have n3_ := ak (blk_below (g := gb407) (o := .cells #[.int .i64 t404, .int .i64 t405, .string t406] 26 (0, 0)) (by (with_reducible repeat first | apply b11N | apply b11D | apply b11L); refine blk_far ?_ NB407_412.out _; (with_reducible repeat first | apply b11N | apply b11D | apply b11L); refine blk_far ?_ NB407_412.out _; (with_reducible repeat first | apply b11N | apply b11D | apply b11L); exact BK407.out) hb); have n4_ := ak (blk_below (g := gb412) (o := .cells #[.int .i64 t408, .slice Ao17 t409.length co17] 30 (0, 0)) (by (with_reducible repeat first | apply b11N | apply b11D | apply b11L); refine blk_put (cs := #[.int .i64 t408, .slice none 0 0]) ?_ 1 _ rfl; (with_reducible repeat first | apply b11N | apply b11D | apply b11L); refine blk_put (cs := #[.int .i64 0, .slice none 0 0]) ?_ 0 _ rfl; (with_reducible repeat first | apply b11N | apply b11D | apply b11L); exact BK412.out) hb); have n5_ := ak (below_step d11_15 hb); clear HO402 HO411 BK407 BK412 HB; have HO402 := n0_; have HO411 := n1_; have HO416 := n2_; have BK407 := n3_; have BK412 := n4_; have HB := n5_; clear n0_ n1_ n2_ n3_ n4_ n5_; (try clear hb); (try clear hk); (try clear ho0)) | ((with_reducible refine gate_dst (N := 7) rfl ?_); refine box_event ?hg (N := 7) ?hd (cs := #[.int .i64 0, .slice none 0 0]) (t := 30) ?hr ?_; (case hd => rfl); (case hg => rfl); (case hr => first | (go_simp; done) | (go_simp; rfl)); intro gb417 hg w20 hbox hb; have n0_ := ak (Kd.R_below d11_13 hb); have n1_ := ak (Kd.R_below d11_17 hb); have n2_ := ak (Kd.R_below d11_20 hb); have n3_ := ak (blk_below (g := gb407) (o := .cells #[.int .i64 t404, .int .i64 t405, .string t406] 26 (0, 0)) d11_2 hb); have n4_ := ak (blk_below (g := gb412) (o := .cells #[.int .i64 t408, .slice Ao17 t409.length co17] 30 (0, 0)) d11_3 hb); have n5_ := ak (below_step d11_15 hb); have n6_ := ak (hbox); have n7_ := ak ((by rw [hg]; exact (below_size d11_15) : w.heap.size ≤ gb417)); have n8_ := ak ((by rw [hg]; exact (below_size d11_15) : w.heap.size ≤ gb417)); have n9_ := ak ((by rw [hg]; exact Nat.ne_of_lt (blk_lt (g := gb407) (o := .cells #[.int .i64 t404, .int .i64 t405, .string t406] 26 (0, 0)) d11_2) : gb407 ≠ gb417)); have n10_ := ak ((by rw [hg]; exact Nat.ne_of_gt (blk_lt (g := gb407) (o := .cells #[.int .i64 t404, .int .i64 t405, .string t406] 26 (0, 0)) d11_2) : gb417 ≠ gb407)); have n11_ := ak ((by rw [hg]; exact Nat.ne_of_lt (blk_lt (g := gb412) (o := .cells #[.int .i64 t408, .slice Ao17 t409.length co17] 30 (0, 0)) d11_3) : gb412 ≠ gb417)); have n12_ := ak ((by rw [hg]; exact Nat.ne_of_gt (blk_lt (g := gb412) (o := .cells #[.int .i64 t408, .slice Ao17 t409.length co17] 30 (0, 0)) d11_3) : gb417 ≠ gb412)); clear HO402 HO411 HO416 BK407 BK412 HB; have HO402 := n0_; have HO411 := n1_; have HO416 := n2_; have BK407 := n3_; have BK412 := n4_; have HB := n5_; have BK417 := n6_; have GW417 := n7_; have GE417 := n8_; have NB407_417 := n9_; have NB417_407 := n10_; have NB412_417 := n11_; have NB417_412 := n12_; clear n0_ n1_ n2_ n3_ n4_ n5_ n6_ n7_ n8_ n9_ n10_ n11_ n12_ hb hbox hg; have hnb21 := NB417_407.out; have hnc21 := NB407_417.out; have hnb22 := NB417_412.out; have hnc22 := NB412_417.out; have hcz23_0 : w20.cell? ⟨gb417, 0, none⟩ = some (.int .i64 0) := (blk_cell BK417.out 0).trans rfl; have hcz23_1 : w20.cell? ⟨gb417, 1, none⟩ = some (.slice none 0 0) := (blk_cell BK417.out 1).trans rfl; have hfz23_0 := blk_frozen BK417.out 0; have hfz23_1 := blk_frozen BK417.out 1; obtain ⟨Ao24, co24, eo24⟩ := Kd.R_slice HO416.out; subst eo24; have hcz25_0 : w20.cell? ⟨gb412, 0, none⟩ = some (.int .i64 t408) := (blk_cell BK412.out 0).trans rfl; have hcz25_1 : w20.cell? ⟨gb412, 1, none⟩ = some (.slice Ao17 t409.length co17) := (blk_cell BK412.out 1).trans rfl; have hfz25_0 := blk_frozen BK412.out 0; have hfz25_1 := blk_frozen BK412.out 1))
    (try simp only [Act.put, List.setIfInBounds_toArray, List.set_cons_zero, List.set_cons_succ])
    go_cut [] (fun wc => ∃ (kq : Nat), Aside0 (laws_FnGlobals.j2 kq t400 t403 t404 t405 t406 t408 t409 t413 t414 = some r) ∧ Aside0 (kq ≤ kj2) ∧ Aside0 (Kd.R k33 33 wc w.heap.size (fun k_ => some k_ ≠ ((.slice Ao17 t409.length co17) : Value).ownBlock ∧ some k_ ≠ ((.slice Ao24 t414.length co24) : Value).ownBlock) (.slice Ao12 t400.length co12) t400) ∧ Aside0 (Kd.R k33 33 wc w.heap.size (fun k_ => some k_ ≠ ((.slice Ao12 t400.length co12) : Value).ownBlock ∧ some k_ ≠ ((.slice Ao24 t414.length co24) : Value).ownBlock) (.slice Ao17 t409.length co17) t409) ∧ Aside0 (Kd.R k33 33 wc w.heap.size (fun k_ => some k_ ≠ ((.slice Ao12 t400.length co12) : Value).ownBlock ∧ some k_ ≠ ((.slice Ao17 t409.length co17) : Value).ownBlock) (.slice Ao24 t414.length co24) t414) ∧ Aside0 (wc.heap[gb407]? = some (.cells #[.int .i64 t404, .int .i64 t405, .string t406] 26 (0, 0))) ∧ Aside0 (wc.heap[gb412]? = some (.cells #[.int .i64 t408, (.slice Ao17 t409.length co17)] 30 (0, 0))) ∧ Aside0 (wc.heap[gb417]? = some (.cells #[.int .i64 t413, (.slice Ao24 t414.length co24)] 30 (0, 0))) ∧ Aside0 (Below w.heap.size w wc))
    case first =>
     have H := HC8.out; clear HC8; by_cases c26 : t408 = 0
     ·rw [if_pos c26] at H
      have c26b0 : (t408 == 0) = true := beq_iff_eq.mpr c26; have c26b1 : (t408 != 0) = false := bne_eq_false_iff_eq.mpr c26; clear c26
      (first | rw [c26b0] | (simp only [i64_w, i32_w]; rw [c26b0]) | skip)
      have H' := ak H; clear H; go_wp2; go_meet
      case rel => exact ⟨_, H', ⟨by have := HJ2.out; first | omega | exact Nat.le_refl _⟩, ⟨by (with_reducible repeat (first | apply Kd.R_alloc | apply Kd.R_drewN | apply Kd.R_drew)); exact Kd.R_mono (Kd.R_far (p := ⟨gb417, 1, none⟩) (Kd.R_far (p := ⟨gb417, 0, none⟩) (Kd.R_types HO402.out BK417.out (by decide)) (fun _ hk => hk.2) (.int .i64 t413)) (fun _ hk => hk.2) (.slice Ao24 t414.length co24)) (fun _ hk => ⟨hk.1.1.2, hk.1.2⟩)⟩, ⟨by (with_reducible repeat (first | apply Kd.R_alloc | apply Kd.R_drewN | apply Kd.R_drew)); exact Kd.R_mono (Kd.R_far (p := ⟨gb417, 1, none⟩) (Kd.R_far (p := ⟨gb417, 0, none⟩) (Kd.R_types HO411.out BK417.out (by decide)) (fun _ hk => hk.2) (.int .i64 t413)) (fun _ hk => hk.2) (.slice Ao24 t414.length co24)) (fun _ hk => ⟨hk.1.1.2, hk.1.2⟩)⟩, ⟨by (with_reducible repeat (first | apply Kd.R_alloc | apply Kd.R_drewN | apply Kd.R_drew)); exact Kd.R_mono (Kd.R_far (p := ⟨gb417, 1, none⟩) (Kd.R_far (p := ⟨gb417, 0, none⟩) (Kd.R_types HO416.out BK417.out (by decide)) (fun _ hk => hk.2) (.int .i64 t413)) (fun _ hk => hk.2) (.slice Ao24 t414.length co24)) (fun _ hk => ⟨hk.1.1.2, hk.1.2⟩)⟩, ⟨c11_16⟩, ⟨c11_17⟩, ⟨by (with_reducible repeat first | apply b11N | apply b11D | apply b11L); refine blk_put (cs := #[.int .i64 t413, .slice none 0 0]) ?_ 1 _ rfl; (with_reducible repeat first | apply b11N | apply b11D | apply b11L); refine blk_put (cs := #[.int .i64 0, .slice none 0 0]) ?_ 0 _ rfl; (with_reducible repeat first | apply b11N | apply b11D | apply b11L); exact BK417.out⟩, ⟨c11_10⟩⟩
     ·rw [if_neg c26] at H
      have c26b0 : (t408 == 0) = false := beq_eq_false_iff_ne.mpr c26; have c26b1 : (t408 != 0) = true := bne_iff_ne.mpr c26
      (first | rw [c26b0] | (simp only [i64_w, i32_w]; rw [c26b0]) | skip)
      have HC27 := ak H; clear H; go_upto_region 7 with (fail); go_cut [2] (fun v2 wc => ∃ (kq : Nat) (x2_26 : Bool), v2 = .bool x2_26 ∧ Aside0 (laws_FnGlobals.j1 kq x2_26 = some r) ∧ Aside0 (kq ≤ kj2) ∧ Aside0 (Kd.R k33 33 wc w.heap.size (fun k_ => some k_ ≠ ((.slice Ao24 t414.length co24) : Value).ownBlock) (.slice Ao17 t409.length co17) t409) ∧ Aside0 (Kd.R k33 33 wc w.heap.size (fun k_ => some k_ ≠ ((.slice Ao17 t409.length co17) : Value).ownBlock) (.slice Ao24 t414.length co24) t414) ∧ Aside0 (wc.heap[gb407]? = some (.cells #[.int .i64 t404, .int .i64 t405, .string t406] 26 (0, 0))) ∧ Aside0 (wc.heap[gb412]? = some (.cells #[.int .i64 t408, (.slice Ao17 t409.length co17)] 30 (0, 0))) ∧ Aside0 (wc.heap[gb417]? = some (.cells #[.int .i64 t413, (.slice Ao24 t414.length co24)] 30 (0, 0))) ∧ Aside0 (Below w.heap.size w wc))
      case first =>
       have H := HC27.out; clear HC27; replace H := Option.bind_eq_some_iff.mp H; obtain ⟨⟨t418, t419⟩, A280, H⟩ := H; replace H : (if t418 = t408 then ((spec_SetGlobal.f kj2 t400 t403 t404 t405 t406).bind fun bt422 => (laws_FnGlobals.j1 kj2 (bt422.1 == t413))) else (laws_FnGlobals.j1 kj2 false)) = some r := H; have A28 := ak A280; clear A280; by_cases c29 : t418 = t408
       ·rw [if_pos c29] at H
        have c29b0 : (t418 == t408) = true := beq_iff_eq.mpr c29; have c29b1 : (t418 != t408) = false := bne_eq_false_iff_eq.mpr c29; clear c29
        (first | rw [c29b0] | (simp only [i64_w, i32_w]; rw [c29b0]) | skip)
        replace H := Option.bind_eq_some_iff.mp H; obtain ⟨⟨t422, t423⟩, A300, H⟩ := H; replace H : (laws_FnGlobals.j1 kj2 (t422 == t413)) = some r := H; have A30 := ak A300; clear A300; have H' := ak H; clear H
        try go_wp2
        have n0_ : Aside0 (Kd.R k33 33 ((w20.setCell ⟨gb417, 0, none⟩ (.int .i64 t413)).setCell ⟨gb417, 1, none⟩ (.slice Ao24 t414.length co24)) w.heap.size (fun k_ => some k_ ≠ (.slice Ao17 t409.length co17 : Value).ownBlock ∧ some k_ ≠ (.slice Ao24 t414.length co24 : Value).ownBlock) (.slice Ao12 t400.length co12) t400) := ⟨by (with_reducible repeat (first | apply Kd.R_alloc | apply Kd.R_drewN | apply Kd.R_drew)); exact Kd.R_mono (Kd.R_far (p := ⟨gb417, 1, none⟩) (Kd.R_far (p := ⟨gb417, 0, none⟩) (Kd.R_types HO402.out BK417.out (by decide)) (fun _ hk => hk.2) (.int .i64 t413)) (fun _ hk => hk.2) (.slice Ao24 t414.length co24)) (fun _ hk => ⟨hk.1.1.2, hk.1.2⟩)⟩; have n1_ : Aside0 (Kd.R k33 33 ((w20.setCell ⟨gb417, 0, none⟩ (.int .i64 t413)).setCell ⟨gb417, 1, none⟩ (.slice Ao24 t414.length co24)) w.heap.size (fun k_ => some k_ ≠ (.slice Ao12 t400.length co12 : Value).ownBlock ∧ some k_ ≠ (.slice Ao24 t414.length co24 : Value).ownBlock) (.slice Ao17 t409.length co17) t409) := ⟨by (with_reducible repeat (first | apply Kd.R_alloc | apply Kd.R_drewN | apply Kd.R_drew)); exact Kd.R_mono (Kd.R_far (p := ⟨gb417, 1, none⟩) (Kd.R_far (p := ⟨gb417, 0, none⟩) (Kd.R_types HO411.out BK417.out (by decide)) (fun _ hk => hk.2) (.int .i64 t413)) (fun _ hk => hk.2) (.slice Ao24 t414.length co24)) (fun _ hk => ⟨hk.1.1.2, hk.1.2⟩)⟩
        have n2_ : Aside0 (Kd.R k33 33 ((w20.setCell ⟨gb417, 0, none⟩ (.int .i64 t413)).setCell ⟨gb417, 1, none⟩ (.slice Ao24 t414.length co24)) w.heap.size (fun k_ => some k_ ≠ (.slice Ao12 t400.length co12 : Value).ownBlock ∧ some k_ ≠ (.slice Ao17 t409.length co17 : Value).ownBlock) (.slice Ao24 t414.length co24) t414) := ⟨by (with_reducible repeat (first | apply Kd.R_alloc | apply Kd.R_drewN | apply Kd.R_drew)); exact Kd.R_mono (Kd.R_far (p := ⟨gb417, 1, none⟩) (Kd.R_far (p := ⟨gb417, 0, none⟩) (Kd.R_types HO416.out BK417.out (by decide)) (fun _ hk => hk.2) (.int .i64 t413)) (fun _ hk => hk.2) (.slice Ao24 t414.length co24)) (fun _ hk => ⟨hk.1.1.2, hk.1.2⟩)⟩; have n3_ : Aside0 (((w20.setCell ⟨gb417, 0, none⟩ (.int .i64 t413)).setCell ⟨gb417, 1, none⟩ (.slice Ao24 t414.length co24)).heap[gb407]? = some (.cells #[.int .i64 t404, .int .i64 t405, .string t406] 26 (0, 0))) := ⟨c11_16⟩
        have n4_ : Aside0 (((w20.setCell ⟨gb417, 0, none⟩ (.int .i64 t413)).setCell ⟨gb417, 1, none⟩ (.slice Ao24 t414.length co24)).heap[gb412]? = some (.cells #[.int .i64 t408, .slice Ao17 t409.length co17] 30 (0, 0))) := ⟨c11_17⟩; have n5_ : Aside0 (((w20.setCell ⟨gb417, 0, none⟩ (.int .i64 t413)).setCell ⟨gb417, 1, none⟩ (.slice Ao24 t414.length co24)).heap[gb417]? = some (.cells #[.int .i64 t413, .slice Ao24 t414.length co24] 30 (0, 0))) := ⟨by (with_reducible repeat first | apply b11N | apply b11D | apply b11L); refine blk_put (cs := #[.int .i64 t413, .slice none 0 0]) ?_ 1 _ rfl; (with_reducible repeat first | apply b11N | apply b11D | apply b11L); refine blk_put (cs := #[.int .i64 0, .slice none 0 0]) ?_ 0 _ rfl; (with_reducible repeat first | apply b11N | apply b11D | apply b11L); exact BK417.out⟩
        have n6_ : Aside0 (Below w.heap.size w ((w20.setCell ⟨gb417, 0, none⟩ (.int .i64 t413)).setCell ⟨gb417, 1, none⟩ (.slice Ao24 t414.length co24))) := ⟨c11_10⟩
        (try clear HO402)
        (try clear HO411)
        (try clear HO416)
        (try clear BK407)
        (try clear BK412)
        (try clear BK417)
        (try clear HB)
        generalize ((w20.setCell ⟨gb417, 0, none⟩ (.int .i64 t413)).setCell ⟨gb417, 1, none⟩ (.slice Ao24 t414.length co24)) = w31 at n0_ n1_ n2_ n3_ n4_ n5_ n6_ ⊢; have HO402 := n0_; have HO411 := n1_; have HO416 := n2_; have BK407 := n3_; have BK412 := n4_; have BK417 := n5_; have HB := n6_; clear n0_ n1_ n2_ n3_ n4_ n5_ n6_; have n0_ := ak (Kd.R_drew HO402.out); have n1_ := ak (Kd.R_drew HO411.out); have n2_ := ak (Kd.R_drew HO416.out); have n3_ := ak (blk_drew BK407.out); have n4_ := ak (blk_drew BK412.out); have n5_ := ak (blk_drew BK417.out); have n6_ := ak (below_drew1 HB.out); clear HO402; clear HO411; clear HO416; clear BK407; clear BK412; clear BK417; clear HB; have HO402 := n0_; have HO411 := n1_; have HO416 := n2_; have BK407 := n3_; have BK412 := n4_; have BK417 := n5_; have HB := n6_; clear n0_ n1_ n2_ n3_ n4_ n5_ n6_
        refine start_ (n := 19) (S := fun w' => w'.cell? ⟨gb407, 0, none⟩ = some (.int .i64 t404) ∧ w'.cell? ⟨gb407, 1, none⟩ = some (.int .i64 t405) ∧ w'.cell? ⟨gb407, 2, none⟩ = some (.string t406) ∧ w'.cell? ⟨gb412, 0, none⟩ = some (.int .i64 t408) ∧ w'.cell? ⟨gb412, 1, none⟩ = some (.slice Ao17 t409.length co17) ∧ w'.cell? ⟨gb417, 0, none⟩ = some (.int .i64 t413) ∧ w'.cell? ⟨gb417, 1, none⟩ = some (.slice Ao24 t414.length co24)) (ds := []) #[false, false, false, false, false, false, false, false, false, false, false, false, false, false, false, false, false, false, false] (by kernel_rfl) rfl rfl ⟨(blk_cell BK407.out 0).trans rfl, (blk_cell BK407.out 1).trans rfl, (blk_cell BK407.out 2).trans rfl, (blk_cell BK412.out 0).trans rfl, (blk_cell BK412.out 1).trans rfl, (blk_cell BK417.out 0).trans rfl, (blk_cell BK417.out 1).trans rfl⟩ (fun hHeld => ?_); refine with_tabW laws_FnGlobals.tab7 laws_FnGlobals.bits7 (fun HT_ HW_ => ?_); generalize w31.drew = w32 at HO402 HO411 HO416 BK407 BK412 BK417 HB hHeld ⊢; refine pure_ (i := 0) (N := some 31) (v := ?_) (a' := ?_) #[true, false, false, false, false, false, false, false, false, false, false, false, false, false, false, false, false, false, false] rfl rfl (any_of HT_.out (by kernel_rfl)) (fun _ _ _ h => h) (Or.inl ⟨by rfl, ?_⟩) ?_ ?_; rotate_left
        · intro w'
          go_simp; with_reducible rfl
        rotate_left
        · simp only [Act.put, List.setIfInBounds_toArray, List.set_cons_zero, List.set_cons_succ, i64_w, i32_w]
          rfl
        refine pure_ (i := 1) (N := some 32) (v := ?_) (a' := ?_) #[true, true, false, false, false, false, false, false, false, false, false, false, false, false, false, false, false, false, false] rfl rfl (any_of HT_.out (by kernel_rfl)) (fun _ _ _ h => h) (Or.inl ⟨by rfl, ?_⟩) ?_ ?_; rotate_left
        · intro w'
          go_simp; with_reducible rfl
        rotate_left
        · simp only [Act.put, List.setIfInBounds_toArray, List.set_cons_zero, List.set_cons_succ, i64_w, i32_w]
          rfl
        refine pure_ (i := 5) (N := some 36) (v := ?_) (a' := ?_) #[true, true, false, false, false, true, false, false, false, false, false, false, false, false, false, false, false, false, false] rfl rfl (any_of HT_.out (by kernel_rfl)) (fun _ _ _ h => h) (Or.inl ⟨by rfl, ?_⟩) ?_ ?_; rotate_left
        · intro w'
          go_simp; with_reducible rfl
        rotate_left
        · simp only [Act.put, List.setIfInBounds_toArray, List.set_cons_zero, List.set_cons_succ, i64_w, i32_w]
          rfl
        refine take_ (i := 2) (N := some 33) (v := ?_) (a' := ?_) #[true, true, true, false, false, true, false, false, false, false, false, false, false, false, false, false, false, false, false] rfl rfl (take_ofW HT_.out HW_.out (by kernel_rfl)) (fun _ _ _ h => h) (Or.inl ⟨by rfl, ?_⟩) hHeld ?_ ?_; rotate_left
        · rintro w' ⟨s0, s1, s2, s3, s4, s5, s6⟩
          go_simp; with_reducible rfl
        rotate_left
        · simp only [Act.put, List.setIfInBounds_toArray, List.set_cons_zero, List.set_cons_succ, i64_w, i32_w]
          rfl
        refine take_ (i := 6) (N := some 37) (v := ?_) (a' := ?_) #[true, true, true, false, false, true, true, false, false, false, false, false, false, false, false, false, false, false, false] rfl rfl (take_ofW HT_.out HW_.out (by kernel_rfl)) (fun _ _ _ h => h) (Or.inl ⟨by rfl, ?_⟩) hHeld ?_ ?_; rotate_left
        · rintro w' ⟨s0, s1, s2, s3, s4, s5, s6⟩
          go_simp; with_reducible rfl
        rotate_left
        · simp only [Act.put, List.setIfInBounds_toArray, List.set_cons_zero, List.set_cons_succ, i64_w, i32_w]
          rfl
        refine one_ (i := 3) (N := some 34) #[true, true, true, true, false, true, true, false, false, false, false, false, false, false, false, false, false, false, false] rfl rfl (one_of HT_.out (by kernel_rfl)) (by decide) (fun K hK => ?_); refine goes_ Tryd.func8 (by kernel_rfl) rfl #[.slice Ao12 t400.length co12, .string t403, .agg #[.int .i64 t404, .int .i64 t405, .string t406]] (by rfl) rfl rfl d11_8 ?_; with_reducible refine (spec_DefineGlobal.calls kj2 _ _ t400 t403 t404 t405 t406 t418 t419 _ ?side1 ?side2 A28.out).mono ?_
        (case side1 => exact c11_20)
        (case side2 => exact (Kd.R_reads' HO402.out).2.1)
        rintro e w33 ⟨v420, rfl, ho0, hb⟩; refine ⟨_, rfl, ?_⟩; have n0_ := ak (Kd.R_elder' d11_13 (Kd.R_base ho0) hb); have n1_ := ak (Kd.R_elder' d11_17 (Kd.R_base ho0) hb); have n2_ := ak (Kd.R_elder' d11_20 (Kd.R_base ho0) hb); have n3_ := ak (Kd.R_lower (Kd.R_new' (Kd.R_new' (Kd.R_new' ho0 (Kd.R_lt d11_13)) (Kd.R_lt d11_17)) (Kd.R_lt d11_20)) (below_size d11_6)); have n4_ := ak (blk_below (g := gb407) (o := .cells #[.int .i64 t404, .int .i64 t405, .string t406] 26 (0, 0)) d11_2 hb); have n5_ := ak (blk_below (g := gb412) (o := .cells #[.int .i64 t408, .slice Ao17 t409.length co17] 30 (0, 0)) d11_3 hb); have n6_ := ak (blk_below (g := gb417) (o := .cells #[.int .i64 t413, .slice Ao24 t414.length co24] 30 (0, 0)) d11_4 hb); have n7_ := ak (below_step d11_6 hb); clear HO402; clear HO411; clear HO416; clear BK407; clear BK412; clear BK417; clear HB; have HO402 := n0_; have HO411 := n1_; have HO416 := n2_; have HO421 := n3_; have BK407 := n4_; have BK412 := n5_; have BK417 := n6_; have HB := n7_; clear n0_ n1_ n2_ n3_ n4_ n5_ n6_ n7_
        (try clear hb)
        (try clear hb2)
        (try clear hk)
        (try clear hi)
        (try clear ho0)
        refine hK.out _ _ ⟨(blk_cell BK407.out 0).trans rfl, (blk_cell BK407.out 1).trans rfl, (blk_cell BK407.out 2).trans rfl, (blk_cell BK412.out 0).trans rfl, (blk_cell BK412.out 1).trans rfl, (blk_cell BK417.out 0).trans rfl, (blk_cell BK417.out 1).trans rfl⟩ (fun hHeld => ?_); clear hK K; refine norm_ (a' := ?_) ?_ ?_; rotate_left
        · show Act.put _ (some 34) _ = _
          simp only [Act.put, List.setIfInBounds_toArray, List.set_cons_zero, List.set_cons_succ, i64_w, i32_w]; rfl
        refine pure_ (i := 4) (N := some 35) (v := ?_) (a' := ?_) #[true, true, true, true, true, true, true, false, false, false, false, false, false, false, false, false, false, false, false] rfl rfl (any_of HT_.out (by kernel_rfl)) (fun _ _ _ h => h) (Or.inl ⟨by rfl, ?_⟩) ?_ ?_; rotate_left
        · intro w'
          go_simp; with_reducible rfl
        rotate_left
        · simp only [Act.put, List.setIfInBounds_toArray, List.set_cons_zero, List.set_cons_succ, i64_w, i32_w]
          rfl
        refine pure_ (i := 7) (N := some 38) (v := ?_) (a' := ?_) #[true, true, true, true, true, true, true, true, false, false, false, false, false, false, false, false, false, false, false] rfl rfl (any_of HT_.out (by kernel_rfl)) (fun _ _ _ h => h) (Or.inl ⟨by rfl, ?_⟩) ?_ ?_; rotate_left
        · intro w'
          go_simp; with_reducible rfl
        rotate_left
        · simp only [Act.put, List.setIfInBounds_toArray, List.set_cons_zero, List.set_cons_succ, i64_w, i32_w]
          rfl
        refine pure_ (i := 8) (N := some 39) (v := ?_) (a' := ?_) #[true, true, true, true, true, true, true, true, true, false, false, false, false, false, false, false, false, false, false] rfl rfl (any_of HT_.out (by kernel_rfl)) (fun _ _ _ h => h) (Or.inl ⟨by rfl, ?_⟩) ?_ ?_; rotate_left
        · intro w'
          go_simp; with_reducible rfl
        rotate_left
        · simp only [Act.put, List.setIfInBounds_toArray, List.set_cons_zero, List.set_cons_succ, i64_w, i32_w]
          rfl
        refine pure_ (i := 9) (N := some 40) (v := ?_) (a' := ?_) #[true, true, true, true, true, true, true, true, true, true, false, false, false, false, false, false, false, false, false] rfl rfl (any_of HT_.out (by kernel_rfl)) (fun _ _ _ h => h) (Or.inl ⟨by rfl, ?_⟩) ?_ ?_; rotate_left
        · intro w'
          go_simp; with_reducible rfl
        rotate_left
        · simp only [Act.put, List.setIfInBounds_toArray, List.set_cons_zero, List.set_cons_succ, i64_w, i32_w]
          rfl
        refine pure_ (i := 10) (N := some 41) (v := ?_) (a' := ?_) #[true, true, true, true, true, true, true, true, true, true, true, false, false, false, false, false, false, false, false] rfl rfl (any_of HT_.out (by kernel_rfl)) (fun _ _ _ h => h) (Or.inl ⟨by rfl, ?_⟩) ?_ ?_; rotate_left
        · intro w'
          go_simp; with_reducible rfl
        rotate_left
        · simp only [Act.put, List.setIfInBounds_toArray, List.set_cons_zero, List.set_cons_succ, i64_w, i32_w]
          rfl
        refine pure_ (i := 14) (N := some 45) (v := ?_) (a' := ?_) #[true, true, true, true, true, true, true, true, true, true, true, false, false, false, true, false, false, false, false] rfl rfl (any_of HT_.out (by kernel_rfl)) (fun _ _ _ h => h) (Or.inl ⟨by rfl, ?_⟩) ?_ ?_; rotate_left
        · intro w'
          go_simp; with_reducible rfl
        rotate_left
        · simp only [Act.put, List.setIfInBounds_toArray, List.set_cons_zero, List.set_cons_succ, i64_w, i32_w]
          rfl
        refine take_ (i := 11) (N := some 42) (v := ?_) (a' := ?_) #[true, true, true, true, true, true, true, true, true, true, true, true, false, false, true, false, false, false, false] rfl rfl (take_ofW HT_.out HW_.out (by kernel_rfl)) (fun _ _ _ h => h) (Or.inl ⟨by rfl, ?_⟩) hHeld ?_ ?_; rotate_left
        · rintro w' ⟨s0, s1, s2, s3, s4, s5, s6⟩
          go_simp; with_reducible rfl
        rotate_left
        · simp only [Act.put, List.setIfInBounds_toArray, List.set_cons_zero, List.set_cons_succ, i64_w, i32_w]
          rfl
        refine take_ (i := 15) (N := some 46) (v := ?_) (a' := ?_) #[true, true, true, true, true, true, true, true, true, true, true, true, false, false, true, true, false, false, false] rfl rfl (take_ofW HT_.out HW_.out (by kernel_rfl)) (fun _ _ _ h => h) (Or.inl ⟨by rfl, ?_⟩) hHeld ?_ ?_; rotate_left
        · rintro w' ⟨s0, s1, s2, s3, s4, s5, s6⟩
          go_simp; with_reducible rfl
        rotate_left
        · simp only [Act.put, List.setIfInBounds_toArray, List.set_cons_zero, List.set_cons_succ, i64_w, i32_w]
          rfl
        refine one_ (i := 12) (N := some 43) #[true, true, true, true, true, true, true, true, true, true, true, true, true, false, true, true, false, false, false] rfl rfl (one_of HT_.out (by kernel_rfl)) (by decide) (fun K hK => ?_); refine goes_ Tryd.func9 (by kernel_rfl) rfl #[.slice Ao12 t400.length co12, .string t403, .agg #[.int .i64 t404, .int .i64 t405, .string t406]] (by rfl) rfl rfl d11_8 ?_; with_reducible refine (spec_SetGlobal.calls kj2 _ _ t400 t403 t404 t405 t406 t422 t423 _ ?side1 ?side2 A30.out).mono ?_
        (case side1 => exact c11_20)
        (case side2 => exact (Kd.R_reads' HO402.out).2.1)
        rintro e w34 ⟨v424, rfl, ho0, hb⟩; refine ⟨_, rfl, ?_⟩; have n0_ := ak (Kd.R_elder' d11_13 (Kd.R_base ho0) hb); have n1_ := ak (Kd.R_elder' d11_17 (Kd.R_base ho0) hb); have n2_ := ak (Kd.R_elder' d11_20 (Kd.R_base ho0) hb); have n3_ := ak (Kd.R_elder' (by (with_reducible repeat (first | apply Kd.R_alloc | apply Kd.R_drewN | apply Kd.R_drew)); exact HO421.out) (Kd.R_base ho0) hb); have n4_ := ak (Kd.R_lower (Kd.R_new' (Kd.R_new' (Kd.R_new' (Kd.R_new' ho0 (Kd.R_lt d11_13)) (Kd.R_lt d11_17)) (Kd.R_lt d11_20)) (Kd.R_lt (by (with_reducible repeat (first | apply Kd.R_alloc | apply Kd.R_drewN | apply Kd.R_drew)); exact HO421.out))) (below_size d11_6)); have n5_ := ak (blk_below (g := gb407) (o := .cells #[.int .i64 t404, .int .i64 t405, .string t406] 26 (0, 0)) d11_2 hb); have n6_ := ak (blk_below (g := gb412) (o := .cells #[.int .i64 t408, .slice Ao17 t409.length co17] 30 (0, 0)) d11_3 hb); have n7_ := ak (blk_below (g := gb417) (o := .cells #[.int .i64 t413, .slice Ao24 t414.length co24] 30 (0, 0)) d11_4 hb); have n8_ := ak (below_step d11_6 hb); clear HO402; clear HO411; clear HO416; clear HO421; clear BK407; clear BK412; clear BK417; clear HB; have HO402 := n0_; have HO411 := n1_; have HO416 := n2_; have HO421 := n3_; have HO425 := n4_; have BK407 := n5_; have BK412 := n6_; have BK417 := n7_; have HB := n8_; clear n0_ n1_ n2_ n3_ n4_ n5_ n6_ n7_ n8_
        (try clear hb)
        (try clear hb2)
        (try clear hk)
        (try clear hi)
        (try clear ho0)
        refine hK.out _ _ ⟨(blk_cell BK407.out 0).trans rfl, (blk_cell BK407.out 1).trans rfl, (blk_cell BK407.out 2).trans rfl, (blk_cell BK412.out 0).trans rfl, (blk_cell BK412.out 1).trans rfl, (blk_cell BK417.out 0).trans rfl, (blk_cell BK417.out 1).trans rfl⟩ (fun hHeld => ?_); clear hK K; refine norm_ (a' := ?_) ?_ ?_; rotate_left
        · show Act.put _ (some 43) _ = _
          simp only [Act.put, List.setIfInBounds_toArray, List.set_cons_zero, List.set_cons_succ, i64_w, i32_w]; rfl
        refine pure_ (i := 13) (N := some 44) (v := ?_) (a' := ?_) #[true, true, true, true, true, true, true, true, true, true, true, true, true, true, true, true, false, false, false] rfl rfl (any_of HT_.out (by kernel_rfl)) (fun _ _ _ h => h) (Or.inl ⟨by rfl, ?_⟩) ?_ ?_; rotate_left
        · intro w'
          go_simp; with_reducible rfl
        rotate_left
        · simp only [Act.put, List.setIfInBounds_toArray, List.set_cons_zero, List.set_cons_succ, i64_w, i32_w]
          rfl
        refine pure_ (i := 16) (N := some 47) (v := ?_) (a' := ?_) #[true, true, true, true, true, true, true, true, true, true, true, true, true, true, true, true, true, false, false] rfl rfl (any_of HT_.out (by kernel_rfl)) (fun _ _ _ h => h) (Or.inl ⟨by rfl, ?_⟩) ?_ ?_; rotate_left
        · intro w'
          go_simp; with_reducible rfl
        rotate_left
        · simp only [Act.put, List.setIfInBounds_toArray, List.set_cons_zero, List.set_cons_succ, i64_w, i32_w]
          rfl
        refine pure_ (i := 17) (N := some 48) (v := ?_) (a' := ?_) #[true, true, true, true, true, true, true, true, true, true, true, true, true, true, true, true, true, true, false] rfl rfl (any_of HT_.out (by kernel_rfl)) (fun _ _ _ h => h) (Or.inl ⟨by rfl, ?_⟩) ?_ ?_; rotate_left
        · intro w'
          go_simp; with_reducible rfl
        rotate_left
        · simp only [Act.put, List.setIfInBounds_toArray, List.set_cons_zero, List.set_cons_succ, i64_w, i32_w]
          rfl
        refine pure_ (i := 18) (N := some 2) (v := ?_) (a' := ?_) #[true, true, true, true, true, true, true, true, true, true, true, true, true, true, true, true, true, true, true] rfl rfl (any_of HT_.out (by kernel_rfl)) (fun _ _ _ h => h) (Or.inl ⟨by rfl, ?_⟩) ?_ ?_; rotate_left
        · intro w'
          go_simp; with_reducible rfl
        rotate_left
        · simp only [Act.put, List.setIfInBounds_toArray, List.set_cons_zero, List.set_cons_succ, i64_w, i32_w]
          rfl
        refine done_ (done_of HT_.out (by kernel_rfl)) ?_
        try go_wp2
        go_meet
        case rel => exact ⟨_, ((t422 == t413)), d11_12, H', ⟨by have := HJ2.out; first | omega | exact Nat.le_refl _⟩, ⟨by (with_reducible repeat (first | apply Kd.R_alloc | apply Kd.R_drewN | apply Kd.R_drew)); exact Kd.R_mono HO411.out (fun _ hk => hk.1.1.2)⟩, ⟨by (with_reducible repeat (first | apply Kd.R_alloc | apply Kd.R_drewN | apply Kd.R_drew)); exact Kd.R_mono HO416.out (fun _ hk => hk.1.1.2)⟩, ⟨c11_3⟩, ⟨c11_4⟩, ⟨c11_5⟩, ⟨c11_10⟩⟩
       ·rw [if_neg c29] at H
        have c29b0 : (t418 == t408) = false := beq_eq_false_iff_ne.mpr c29; have c29b1 : (t418 != t408) = true := bne_iff_ne.mpr c29
        (first | rw [c29b0] | (simp only [i64_w, i32_w]; rw [c29b0]) | skip)
        have H' := ak H; clear H
        try go_wp2
        have n0_ : Aside0 (Kd.R k33 33 ((w20.setCell ⟨gb417, 0, none⟩ (.int .i64 t413)).setCell ⟨gb417, 1, none⟩ (.slice Ao24 t414.length co24)) w.heap.size (fun k_ => some k_ ≠ (.slice Ao17 t409.length co17 : Value).ownBlock ∧ some k_ ≠ (.slice Ao24 t414.length co24 : Value).ownBlock) (.slice Ao12 t400.length co12) t400) := ⟨by (with_reducible repeat (first | apply Kd.R_alloc | apply Kd.R_drewN | apply Kd.R_drew)); exact Kd.R_mono (Kd.R_far (p := ⟨gb417, 1, none⟩) (Kd.R_far (p := ⟨gb417, 0, none⟩) (Kd.R_types HO402.out BK417.out (by decide)) (fun _ hk => hk.2) (.int .i64 t413)) (fun _ hk => hk.2) (.slice Ao24 t414.length co24)) (fun _ hk => ⟨hk.1.1.2, hk.1.2⟩)⟩; have n1_ : Aside0 (Kd.R k33 33 ((w20.setCell ⟨gb417, 0, none⟩ (.int .i64 t413)).setCell ⟨gb417, 1, none⟩ (.slice Ao24 t414.length co24)) w.heap.size (fun k_ => some k_ ≠ (.slice Ao12 t400.length co12 : Value).ownBlock ∧ some k_ ≠ (.slice Ao24 t414.length co24 : Value).ownBlock) (.slice Ao17 t409.length co17) t409) := ⟨by (with_reducible repeat (first | apply Kd.R_alloc | apply Kd.R_drewN | apply Kd.R_drew)); exact Kd.R_mono (Kd.R_far (p := ⟨gb417, 1, none⟩) (Kd.R_far (p := ⟨gb417, 0, none⟩) (Kd.R_types HO411.out BK417.out (by decide)) (fun _ hk => hk.2) (.int .i64 t413)) (fun _ hk => hk.2) (.slice Ao24 t414.length co24)) (fun _ hk => ⟨hk.1.1.2, hk.1.2⟩)⟩
        have n2_ : Aside0 (Kd.R k33 33 ((w20.setCell ⟨gb417, 0, none⟩ (.int .i64 t413)).setCell ⟨gb417, 1, none⟩ (.slice Ao24 t414.length co24)) w.heap.size (fun k_ => some k_ ≠ (.slice Ao12 t400.length co12 : Value).ownBlock ∧ some k_ ≠ (.slice Ao17 t409.length co17 : Value).ownBlock) (.slice Ao24 t414.length co24) t414) := ⟨by (with_reducible repeat (first | apply Kd.R_alloc | apply Kd.R_drewN | apply Kd.R_drew)); exact Kd.R_mono (Kd.R_far (p := ⟨gb417, 1, none⟩) (Kd.R_far (p := ⟨gb417, 0, none⟩) (Kd.R_types HO416.out BK417.out (by decide)) (fun _ hk => hk.2) (.int .i64 t413)) (fun _ hk => hk.2) (.slice Ao24 t414.length co24)) (fun _ hk => ⟨hk.1.1.2, hk.1.2⟩)⟩; have n3_ : Aside0 (((w20.setCell ⟨gb417, 0, none⟩ (.int .i64 t413)).setCell ⟨gb417, 1, none⟩ (.slice Ao24 t414.length co24)).heap[gb407]? = some (.cells #[.int .i64 t404, .int .i64 t405, .string t406] 26 (0, 0))) := ⟨c11_16⟩
        have n4_ : Aside0 (((w20.setCell ⟨gb417, 0, none⟩ (.int .i64 t413)).setCell ⟨gb417, 1, none⟩ (.slice Ao24 t414.length co24)).heap[gb412]? = some (.cells #[.int .i64 t408, .slice Ao17 t409.length co17] 30 (0, 0))) := ⟨c11_17⟩; have n5_ : Aside0 (((w20.setCell ⟨gb417, 0, none⟩ (.int .i64 t413)).setCell ⟨gb417, 1, none⟩ (.slice Ao24 t414.length co24)).heap[gb417]? = some (.cells #[.int .i64 t413, .slice Ao24 t414.length co24] 30 (0, 0))) := ⟨by (with_reducible repeat first | apply b11N | apply b11D | apply b11L); refine blk_put (cs := #[.int .i64 t413, .slice none 0 0]) ?_ 1 _ rfl; (with_reducible repeat first | apply b11N | apply b11D | apply b11L); refine blk_put (cs := #[.int .i64 0, .slice none 0 0]) ?_ 0 _ rfl; (with_reducible repeat first | apply b11N | apply b11D | apply b11L); exact BK417.out⟩
        have n6_ : Aside0 (Below w.heap.size w ((w20.setCell ⟨gb417, 0, none⟩ (.int .i64 t413)).setCell ⟨gb417, 1, none⟩ (.slice Ao24 t414.length co24))) := ⟨c11_10⟩
        (try clear HO402)
        (try clear HO411)
        (try clear HO416)
        (try clear BK407)
        (try clear BK412)
        (try clear BK417)
        (try clear HB)
        generalize ((w20.setCell ⟨gb417, 0, none⟩ (.int .i64 t413)).setCell ⟨gb417, 1, none⟩ (.slice Ao24 t414.length co24)) = w35 at n0_ n1_ n2_ n3_ n4_ n5_ n6_ ⊢; have HO402 := n0_; have HO411 := n1_; have HO416 := n2_; have BK407 := n3_; have BK412 := n4_; have BK417 := n5_; have HB := n6_; clear n0_ n1_ n2_ n3_ n4_ n5_ n6_; have n0_ := ak (Kd.R_drew HO402.out); have n1_ := ak (Kd.R_drew HO411.out); have n2_ := ak (Kd.R_drew HO416.out); have n3_ := ak (blk_drew BK407.out); have n4_ := ak (blk_drew BK412.out); have n5_ := ak (blk_drew BK417.out); have n6_ := ak (below_drew1 HB.out); clear HO402; clear HO411; clear HO416; clear BK407; clear BK412; clear BK417; clear HB; have HO402 := n0_; have HO411 := n1_; have HO416 := n2_; have BK407 := n3_; have BK412 := n4_; have BK417 := n5_; have HB := n6_; clear n0_ n1_ n2_ n3_ n4_ n5_ n6_
        refine start_ (n := 19) (S := fun w' => w'.cell? ⟨gb407, 0, none⟩ = some (.int .i64 t404) ∧ w'.cell? ⟨gb407, 1, none⟩ = some (.int .i64 t405) ∧ w'.cell? ⟨gb407, 2, none⟩ = some (.string t406) ∧ w'.cell? ⟨gb412, 0, none⟩ = some (.int .i64 t408) ∧ w'.cell? ⟨gb412, 1, none⟩ = some (.slice Ao17 t409.length co17)) (ds := []) #[false, false, false, false, false, false, false, false, false, false, false, false, false, false, false, false, false, false, false] (by kernel_rfl) rfl rfl ⟨(blk_cell BK407.out 0).trans rfl, (blk_cell BK407.out 1).trans rfl, (blk_cell BK407.out 2).trans rfl, (blk_cell BK412.out 0).trans rfl, (blk_cell BK412.out 1).trans rfl⟩ (fun hHeld => ?_); refine with_tabW laws_FnGlobals.tab7 laws_FnGlobals.bits7 (fun HT_ HW_ => ?_); generalize w35.drew = w36 at HO402 HO411 HO416 BK407 BK412 BK417 HB hHeld ⊢; refine pure_ (i := 0) (N := some 31) (v := ?_) (a' := ?_) #[true, false, false, false, false, false, false, false, false, false, false, false, false, false, false, false, false, false, false] rfl rfl (any_of HT_.out (by kernel_rfl)) (fun _ _ _ h => h) (Or.inl ⟨by rfl, ?_⟩) ?_ ?_; rotate_left
        · intro w'
          go_simp; with_reducible rfl
        rotate_left
        · simp only [Act.put, List.setIfInBounds_toArray, List.set_cons_zero, List.set_cons_succ, i64_w, i32_w]
          rfl
        refine pure_ (i := 1) (N := some 32) (v := ?_) (a' := ?_) #[true, true, false, false, false, false, false, false, false, false, false, false, false, false, false, false, false, false, false] rfl rfl (any_of HT_.out (by kernel_rfl)) (fun _ _ _ h => h) (Or.inl ⟨by rfl, ?_⟩) ?_ ?_; rotate_left
        · intro w'
          go_simp; with_reducible rfl
        rotate_left
        · simp only [Act.put, List.setIfInBounds_toArray, List.set_cons_zero, List.set_cons_succ, i64_w, i32_w]
          rfl
        refine pure_ (i := 5) (N := some 36) (v := ?_) (a' := ?_) #[true, true, false, false, false, true, false, false, false, false, false, false, false, false, false, false, false, false, false] rfl rfl (any_of HT_.out (by kernel_rfl)) (fun _ _ _ h => h) (Or.inl ⟨by rfl, ?_⟩) ?_ ?_; rotate_left
        · intro w'
          go_simp; with_reducible rfl
        rotate_left
        · simp only [Act.put, List.setIfInBounds_toArray, List.set_cons_zero, List.set_cons_succ, i64_w, i32_w]
          rfl
        refine take_ (i := 2) (N := some 33) (v := ?_) (a' := ?_) #[true, true, true, false, false, true, false, false, false, false, false, false, false, false, false, false, false, false, false] rfl rfl (take_ofW HT_.out HW_.out (by kernel_rfl)) (fun _ _ _ h => h) (Or.inl ⟨by rfl, ?_⟩) hHeld ?_ ?_; rotate_left
        · rintro w' ⟨s0, s1, s2, s3, s4⟩
          go_simp; with_reducible rfl
        rotate_left
        · simp only [Act.put, List.setIfInBounds_toArray, List.set_cons_zero, List.set_cons_succ, i64_w, i32_w]
          rfl
        refine take_ (i := 6) (N := some 37) (v := ?_) (a' := ?_) #[true, true, true, false, false, true, true, false, false, false, false, false, false, false, false, false, false, false, false] rfl rfl (take_ofW HT_.out HW_.out (by kernel_rfl)) (fun _ _ _ h => h) (Or.inl ⟨by rfl, ?_⟩) hHeld ?_ ?_; rotate_left
        · rintro w' ⟨s0, s1, s2, s3, s4⟩
          go_simp; with_reducible rfl
        rotate_left
        · simp only [Act.put, List.setIfInBounds_toArray, List.set_cons_zero, List.set_cons_succ, i64_w, i32_w]
          rfl
        refine one_ (i := 3) (N := some 34) #[true, true, true, true, false, true, true, false, false, false, false, false, false, false, false, false, false, false, false] rfl rfl (one_of HT_.out (by kernel_rfl)) (by decide) (fun K hK => ?_); refine goes_ Tryd.func8 (by kernel_rfl) rfl #[.slice Ao12 t400.length co12, .string t403, .agg #[.int .i64 t404, .int .i64 t405, .string t406]] (by rfl) rfl rfl d11_8 ?_; with_reducible refine (spec_DefineGlobal.calls kj2 _ _ t400 t403 t404 t405 t406 t418 t419 _ ?side1 ?side2 A28.out).mono ?_
        (case side1 => exact c11_20)
        (case side2 => exact (Kd.R_reads' HO402.out).2.1)
        rintro e w37 ⟨v420, rfl, ho0, hb⟩; refine ⟨_, rfl, ?_⟩; have n0_ := ak (Kd.R_elder' d11_13 (Kd.R_base ho0) hb); have n1_ := ak (Kd.R_elder' d11_17 (Kd.R_base ho0) hb); have n2_ := ak (Kd.R_elder' d11_20 (Kd.R_base ho0) hb); have n3_ := ak (Kd.R_lower (Kd.R_new' (Kd.R_new' (Kd.R_new' ho0 (Kd.R_lt d11_13)) (Kd.R_lt d11_17)) (Kd.R_lt d11_20)) (below_size d11_6)); have n4_ := ak (blk_below (g := gb407) (o := .cells #[.int .i64 t404, .int .i64 t405, .string t406] 26 (0, 0)) d11_2 hb); have n5_ := ak (blk_below (g := gb412) (o := .cells #[.int .i64 t408, .slice Ao17 t409.length co17] 30 (0, 0)) d11_3 hb); have n6_ := ak (blk_below (g := gb417) (o := .cells #[.int .i64 t413, .slice Ao24 t414.length co24] 30 (0, 0)) d11_4 hb); have n7_ := ak (below_step d11_6 hb); clear HO402; clear HO411; clear HO416; clear BK407; clear BK412; clear BK417; clear HB; have HO402 := n0_; have HO411 := n1_; have HO416 := n2_; have HO421 := n3_; have BK407 := n4_; have BK412 := n5_; have BK417 := n6_; have HB := n7_; clear n0_ n1_ n2_ n3_ n4_ n5_ n6_ n7_
        (try clear hb)
        (try clear hb2)
        (try clear hk)
        (try clear hi)
        (try clear ho0)
        refine hK.out _ _ ⟨(blk_cell BK407.out 0).trans rfl, (blk_cell BK407.out 1).trans rfl, (blk_cell BK407.out 2).trans rfl, (blk_cell BK412.out 0).trans rfl, (blk_cell BK412.out 1).trans rfl⟩ (fun hHeld => ?_); clear hK K; refine norm_ (a' := ?_) ?_ ?_; rotate_left
        · show Act.put _ (some 34) _ = _
          simp only [Act.put, List.setIfInBounds_toArray, List.set_cons_zero, List.set_cons_succ, i64_w, i32_w]; rfl
        refine pure_ (i := 4) (N := some 35) (v := ?_) (a' := ?_) #[true, true, true, true, true, true, true, false, false, false, false, false, false, false, false, false, false, false, false] rfl rfl (any_of HT_.out (by kernel_rfl)) (fun _ _ _ h => h) (Or.inl ⟨by rfl, ?_⟩) ?_ ?_; rotate_left
        · intro w'
          go_simp; with_reducible rfl
        rotate_left
        · simp only [Act.put, List.setIfInBounds_toArray, List.set_cons_zero, List.set_cons_succ, i64_w, i32_w]
          rfl
        refine pure_ (i := 7) (N := some 38) (v := ?_) (a' := ?_) #[true, true, true, true, true, true, true, true, false, false, false, false, false, false, false, false, false, false, false] rfl rfl (any_of HT_.out (by kernel_rfl)) (fun _ _ _ h => h) (Or.inl ⟨by rfl, ?_⟩) ?_ ?_; rotate_left
        · intro w'
          go_simp; with_reducible rfl
        rotate_left
        · simp only [Act.put, List.setIfInBounds_toArray, List.set_cons_zero, List.set_cons_succ, i64_w, i32_w]
          rfl
        refine pure_ (i := 8) (N := some 39) (v := ?_) (a' := ?_) #[true, true, true, true, true, true, true, true, true, false, false, false, false, false, false, false, false, false, false] rfl rfl (any_of HT_.out (by kernel_rfl)) (fun _ _ _ h => h) (Or.inl ⟨by rfl, ?_⟩) ?_ ?_; rotate_left
        · intro w'
          go_simp; with_reducible rfl
        rotate_left
        · simp only [Act.put, List.setIfInBounds_toArray, List.set_cons_zero, List.set_cons_succ, i64_w, i32_w]
          rfl
        refine pure_ (i := 9) (N := some 40) (v := undef) (a' := ?_) #[true, true, true, true, true, true, true, true, true, true, false, false, false, false, false, false, false, false, false] rfl rfl (any_of HT_.out (by kernel_rfl)) (fun _ _ _ h => h) (Or.inr ⟨by rfl, rfl⟩) ?_ ?_; rotate_left
        · simp only [Act.put, List.setIfInBounds_toArray, List.set_cons_zero, List.set_cons_succ, i64_w, i32_w]
          rfl
        refine pure_ (i := 10) (N := some 41) (v := undef) (a' := ?_) #[true, true, true, true, true, true, true, true, true, true, true, false, false, false, false, false, false, false, false] rfl rfl (any_of HT_.out (by kernel_rfl)) (fun _ _ _ h => h) (Or.inr ⟨by rfl, rfl⟩) ?_ ?_; rotate_left
        · simp only [Act.put, List.setIfInBounds_toArray, List.set_cons_zero, List.set_cons_succ, i64_w, i32_w]
          rfl
        refine pure_ (i := 11) (N := some 42) (v := undef) (a' := ?_) #[true, true, true, true, true, true, true, true, true, true, true, true, false, false, false, false, false, false, false] rfl rfl (any_of HT_.out (by kernel_rfl)) (fun _ _ _ h => h) (Or.inr ⟨by rfl, rfl⟩) ?_ ?_; rotate_left
        · simp only [Act.put, List.setIfInBounds_toArray, List.set_cons_zero, List.set_cons_succ, i64_w, i32_w]
          rfl
        refine pure_ (i := 12) (N := some 43) (v := undef) (a' := ?_) #[true, true, true, true, true, true, true, true, true, true, true, true, true, false, false, false, false, false, false] rfl rfl (any_of HT_.out (by kernel_rfl)) (fun _ _ _ h => h) (Or.inr ⟨by rfl, rfl⟩) ?_ ?_; rotate_left
        · simp only [Act.put, List.setIfInBounds_toArray, List.set_cons_zero, List.set_cons_succ, i64_w, i32_w]
          rfl
        refine pure_ (i := 13) (N := some 44) (v := undef) (a' := ?_) #[true, true, true, true, true, true, true, true, true, true, true, true, true, true, false, false, false, false, false] rfl rfl (any_of HT_.out (by kernel_rfl)) (fun _ _ _ h => h) (Or.inr ⟨by rfl, rfl⟩) ?_ ?_; rotate_left
        · simp only [Act.put, List.setIfInBounds_toArray, List.set_cons_zero, List.set_cons_succ, i64_w, i32_w]
          rfl
        refine pure_ (i := 14) (N := some 45) (v := undef) (a' := ?_) #[true, true, true, true, true, true, true, true, true, true, true, true, true, true, true, false, false, false, false] rfl rfl (any_of HT_.out (by kernel_rfl)) (fun _ _ _ h => h) (Or.inr ⟨by rfl, rfl⟩) ?_ ?_; rotate_left
        · simp only [Act.put, List.setIfInBounds_toArray, List.set_cons_zero, List.set_cons_succ, i64_w, i32_w]
          rfl
        refine pure_ (i := 15) (N := some 46) (v := undef) (a' := ?_) #[true, true, true, true, true, true, true, true, true, true, true, true, true, true, true, true, false, false, false] rfl rfl (any_of HT_.out (by kernel_rfl)) (fun _ _ _ h => h) (Or.inr ⟨by rfl, rfl⟩) ?_ ?_; rotate_left
        · simp only [Act.put, List.setIfInBounds_toArray, List.set_cons_zero, List.set_cons_succ, i64_w, i32_w]
          rfl
        refine pure_ (i := 16) (N := some 47) (v := undef) (a' := ?_) #[true, true, true, true, true, true, true, true, true, true, true, true, true, true, true, true, true, false, false] rfl rfl (any_of HT_.out (by kernel_rfl)) (fun _ _ _ h => h) (Or.inr ⟨by rfl, rfl⟩) ?_ ?_; rotate_left
        · simp only [Act.put, List.setIfInBounds_toArray, List.set_cons_zero, List.set_cons_succ, i64_w, i32_w]
          rfl
        refine pure_ (i := 17) (N := some 48) (v := ?_) (a' := ?_) #[true, true, true, true, true, true, true, true, true, true, true, true, true, true, true, true, true, true, false] rfl rfl (any_of HT_.out (by kernel_rfl)) (fun _ _ _ h => h) (Or.inl ⟨by rfl, ?_⟩) ?_ ?_; rotate_left
        · intro w'
          go_simp; with_reducible rfl
        rotate_left
        · simp only [Act.put, List.setIfInBounds_toArray, List.set_cons_zero, List.set_cons_succ, i64_w, i32_w]
          rfl
        refine pure_ (i := 18) (N := some 2) (v := ?_) (a' := ?_) #[true, true, true, true, true, true, true, true, true, true, true, true, true, true, true, true, true, true, true] rfl rfl (any_of HT_.out (by kernel_rfl)) (fun _ _ _ h => h) (Or.inl ⟨by rfl, ?_⟩) ?_ ?_; rotate_left
        · intro w'
          go_simp; with_reducible rfl
        rotate_left
        · simp only [Act.put, List.setIfInBounds_toArray, List.set_cons_zero, List.set_cons_succ, i64_w, i32_w]
          rfl
        refine done_ (done_of HT_.out (by kernel_rfl)) ?_
        try go_wp2
        go_meet
        case rel => exact ⟨_, (false), d11_12, H', ⟨by have := HJ2.out; first | omega | exact Nat.le_refl _⟩, ⟨by (with_reducible repeat (first | apply Kd.R_alloc | apply Kd.R_drewN | apply Kd.R_drew)); exact Kd.R_mono HO411.out (fun _ hk => hk.1.2)⟩, ⟨by (with_reducible repeat (first | apply Kd.R_alloc | apply Kd.R_drewN | apply Kd.R_drew)); exact Kd.R_mono HO416.out (fun _ hk => hk.1.2)⟩, ⟨c11_3⟩, ⟨c11_4⟩, ⟨c11_5⟩, ⟨c11_10⟩⟩
      case rest =>
       clear HC27
       try clear c1
       try clear c2
       try clear p2
       try clear c3
       try clear c4
       try clear c5
       try clear c6
       try clear c7
       try clear c15
       try clear c21
       try clear c22
       try clear c26
       try clear c26b0
       try clear c26b1
       try clear hcz11_0
       try clear hcz11_1
       try clear hcz11_2
       try clear hcz16_0
       try clear hcz16_1
       try clear hcz18_0
       try clear hcz18_1
       try clear hcz18_2
       try clear hcz23_0
       try clear hcz23_1
       try clear hcz25_0
       try clear hcz25_1
       try clear hfz11_0
       try clear hfz11_1
       try clear hfz11_2
       try clear hfz16_0
       try clear hfz16_1
       try clear hfz18_0
       try clear hfz18_1
       try clear hfz18_2
       try clear hfz23_0
       try clear hfz23_1
       try clear hfz25_0
       try clear hfz25_1
       obtain ⟨kq, x2_26, rfl, HA, HJ26, HO_413001, HO_418001, BK407, BK412, BK417, HB⟩ := hcut
       cases kq with
       | zero => exact absurd HA.out (by simp [laws_FnGlobals.j1])
       | succ kj26 =>
        have H := HA.out; clear HA; simp only [laws_FnGlobals.j1] at H; obtain rfl := Option.some.inj H; go_wp2; go_ret; exact ⟨by first | rfl | (simp [errW_none, errW_some] <;> rfl) | (simp [*, errW_none, errW_some] <;> rfl), c11_10⟩
    case rest =>
     clear HC8
     try clear c1
     try clear c2
     try clear p2
     try clear c3
     try clear c4
     try clear c5
     try clear c6
     try clear c7
     try clear c15
     try clear c21
     try clear c22
     try clear hcz11_0
     try clear hcz11_1
     try clear hcz11_2
     try clear hcz16_0
     try clear hcz16_1
     try clear hcz18_0
     try clear hcz18_1
     try clear hcz18_2
     try clear hcz23_0
     try clear hcz23_1
     try clear hcz25_0
     try clear hcz25_1
     try clear hfz11_0
     try clear hfz11_1
     try clear hfz11_2
     try clear hfz16_0
     try clear hfz16_1
     try clear hfz18_0
     try clear hfz18_1
     try clear hfz18_2
     try clear hfz23_0
     try clear hfz23_1
     try clear hfz25_0
     try clear hfz25_1
     obtain ⟨kq, HA, HJ7, HO_3, HO_413001, HO_418001, BK407, BK412, BK417, HB⟩ := hcut
     cases kq with
     | zero => exact absurd HA.out (by simp [laws_FnGlobals.j2])
     | succ kj7 =>
      have H := HA.out; clear HA; simp only [laws_FnGlobals.j2] at H; replace H := Option.bind_eq_some_iff.mp H; obtain ⟨⟨t426, t427, t428, t429, t430, t431⟩, A380, H⟩ := H; replace H : ((impl_LookGlobal.f kj7 t409 t403).bind fun bt433 => (laws_FnGlobals.l0 kj7 t400 t403 0 t404 t405 t406 t408 t409 t413 t414 t426 t427 t428 t429 t430 t431 bt433.1 bt433.2.1 bt433.2.2.1 bt433.2.2.2.1 bt433.2.2.2.2.1 bt433.2.2.2.2.2)) = some r := H; have A38 := ak A380; clear A380; replace H := Option.bind_eq_some_iff.mp H; obtain ⟨⟨t433, t434, t435, t436, t437, t438⟩, A390, H⟩ := H; replace H : (laws_FnGlobals.l0 kj7 t400 t403 0 t404 t405 t406 t408 t409 t413 t414 t426 t427 t428 t429 t430 t431 t433 t434 t435 t436 t437 t438) = some r := H; have A39 := ak A390; clear A390; have HC40 := ak H; clear H
      go_upto_block 0 with (first | ((with_reducible refine gate_callee (f := 10) rfl ?_); refine goesL_ (some 51) rfl rfl Tryd.func10 (by kernel_rfl) rfl #[.slice Ao12 t400.length co12, .string t403] rfl d11_8 ?_; (with_reducible refine (impl_LookGlobal.calls kj7 _ _ t400 t403 t426 t427 t428 t429 t430 t431 _ ?side1 ?side2 A38.out).mono ?_); (case side1 => repeat (first | exact (Kd.R_reads' HO_3.out).2.2 | (with_reducible refine Kd.C_alloc ?_ _) | (with_reducible refine Kd.C_drewN ?_ _) | (with_reducible refine Kd.C_drew ?_))); (case side2 => exact (Kd.R_reads' HO_3.out).2.1); rintro e w41 ⟨rfl, hb⟩; refine ⟨_, rfl, ?_⟩; have n0_ := ak (Kd.R_below d11_14 hb); have n1_ := ak (Kd.R_below d11_10 hb); have n2_ := ak (Kd.R_below d11_11 hb); have n3_ := ak (blk_below (g := gb407) (o := .cells #[.int .i64 t404, .int .i64 t405, .string t406] 26 (0, 0)) d11_2 hb); have n4_ := ak (blk_below (g := gb412) (o := .cells #[.int .i64 t408, .slice Ao17 t409.length co17] 30 (0, 0)) d11_3 hb); have n5_ := ak (blk_below (g := gb417) (o := .cells #[.int .i64 t413, .slice Ao24 t414.length co24] 30 (0, 0)) d11_4 hb); have n6_ := ak (below_step d11_6 hb); clear HO_3 HO_413001 HO_418001 BK407 BK412 BK417 HB; have HO_3 := n0_; have HO_413001 := n1_; have HO_418001 := n2_; have BK407 := n3_; have BK412 := n4_; have BK417 := n5_; have HB := n6_; clear n0_ n1_ n2_ n3_ n4_ n5_ n6_; (try clear hb); (try clear hk)) | ((with_reducible refine gate_dst (N := 8) rfl ?_); refine box_event ?hg (N := 8) ?hd (cs := #[.int .i64 0, .string (⟨#[]⟩ : ByteArray), .int .i64 0, .int .i64 0, .string (⟨#[]⟩ : ByteArray), .int .i64 0]) (t := 35) ?hr ?_; (case hd => rfl); (case hg => rfl); (case hr => first | (go_simp; done) | (go_simp; rfl)); intro gb432 hg w42 hbox hb; have n0_ := ak (Kd.R_below d11_14 hb); have n1_ := ak (Kd.R_below d11_10 hb); have n2_ := ak (Kd.R_below d11_11 hb); have n3_ := ak (blk_below (g := gb407) (o := .cells #[.int .i64 t404, .int .i64 t405, .string t406] 26 (0, 0)) d11_2 hb); have n4_ := ak (blk_below (g := gb412) (o := .cells #[.int .i64 t408, .slice Ao17 t409.length co17] 30 (0, 0)) d11_3 hb); have n5_ := ak (blk_below (g := gb417) (o := .cells #[.int .i64 t413, .slice Ao24 t414.length co24] 30 (0, 0)) d11_4 hb); have n6_ := ak (below_step d11_6 hb); have n7_ := ak (hbox); have n8_ := ak ((by rw [hg]; exact (below_size d11_6) : w.heap.size ≤ gb432)); have n9_ := ak ((by rw [hg]; exact (below_size d11_6) : w.heap.size ≤ gb432)); have n10_ := ak ((by rw [hg]; exact Nat.ne_of_lt (blk_lt (g := gb407) (o := .cells #[.int .i64 t404, .int .i64 t405, .string t406] 26 (0, 0)) d11_2) : gb407 ≠ gb432)); have n11_ := ak ((by rw [hg]; exact Nat.ne_of_gt (blk_lt (g := gb407) (o := .cells #[.int .i64 t404, .int .i64 t405, .string t406] 26 (0, 0)) d11_2) : gb432 ≠ gb407)); have n12_ := ak ((by rw [hg]; exact Nat.ne_of_lt (blk_lt (g := gb412) (o := .cells #[.int .i64 t408, .slice Ao17 t409.length co17] 30 (0, 0)) d11_3) : gb412 ≠ gb432)); have n13_ := ak ((by rw [hg]; exact Nat.ne_of_gt (blk_lt (g := gb412) (o := .cells #[.int .i64 t408, .slice Ao17 t409.length co17] 30 (0, 0)) d11_3) : gb432 ≠ gb412)); have n14_ := ak ((by rw [hg]; exact Nat.ne_of_lt (blk_lt (g := gb417) (o := .cells #[.int .i64 t413, .slice Ao24 t414.length co24] 30 (0, 0)) d11_4) : gb417 ≠ gb432)); have n15_ := ak ((by rw [hg]; exact Nat.ne_of_gt (blk_lt (g := gb417) (o := .cells #[.int .i64 t413, .slice Ao24 t414.length co24] 30 (0, 0)) d11_4) : gb432 ≠ gb417)); clear HO_3 HO_413001 HO_418001 BK407 BK412 BK417 HB; have HO_3 := n0_; have HO_413001 := n1_; have HO_418001 := n2_; have BK407 := n3_; have BK412 := n4_; have BK417 := n5_; have HB := n6_; have BK432 := n7_; have GW432 := n8_; have GE432 := n9_; have NB407_432 := n10_; have NB432_407 := n11_; have NB412_432 := n12_; have NB432_412 := n13_; have NB417_432 := n14_; have NB432_417 := n15_; clear n0_ n1_ n2_ n3_ n4_ n5_ n6_ n7_ n8_ n9_ n10_ n11_ n12_ n13_ n14_ n15_ hb hbox hg; have hnb43 := NB432_407.out; have hnc43 := NB407_432.out; have hnb44 := NB432_412.out; have hnc44 := NB412_432.out; have hnb45 := NB432_417.out; have hnc45 := NB417_432.out; have hcz46_0 : w42.cell? ⟨gb432, 0, none⟩ = some (.int .i64 0) := (blk_cell BK432.out 0).trans rfl; have hcz46_1 : w42.cell? ⟨gb432, 1, none⟩ = some (.string (⟨#[]⟩ : ByteArray)) := (blk_cell BK432.out 1).trans rfl; have hcz46_2 : w42.cell? ⟨gb432, 2, none⟩ = some (.int .i64 0) := (blk_cell BK432.out 2).trans rfl; have hcz46_3 : w42.cell? ⟨gb432, 3, none⟩ = some (.int .i64 0) := (blk_cell BK432.out 3).trans rfl; have hcz46_4 : w42.cell? ⟨gb432, 4, none⟩ = some (.string (⟨#[]⟩ : ByteArray)) := (blk_cell BK432.out 4).trans rfl; have hcz46_5 : w42.cell? ⟨gb432, 5, none⟩ = some (.int .i64 0) := (blk_cell BK432.out 5).trans rfl; have hfz46_0 := blk_frozen BK432.out 0; have hfz46_1 := blk_frozen BK432.out 1; have hfz46_2 := blk_frozen BK432.out 2; have hfz46_3 := blk_frozen BK432.out 3; have hfz46_4 := blk_frozen BK432.out 4; have hfz46_5 := blk_frozen BK432.out 5; have hnb47 := NB412_407.out; have hnc47 := NB407_412.out; have hnb48 := NB412_417.out; have hnc48 := NB417_412.out; have hcz49_0 : w42.cell? ⟨gb412, 0, none⟩ = some (.int .i64 t408) := (blk_cell BK412.out 0).trans rfl; have hcz49_1 : w42.cell? ⟨gb412, 1, none⟩ = some (.slice Ao17 t409.length co17) := (blk_cell BK412.out 1).trans rfl; have hfz49_0 := blk_frozen BK412.out 0; have hfz49_1 := blk_frozen BK412.out 1) | ((with_reducible refine gate_callee (f := 10) rfl ?_); refine goesL_ (some 55) rfl rfl Tryd.func10 (by kernel_rfl) rfl #[.slice Ao17 t409.length co17, .string t403] rfl d11_8 ?_; (with_reducible refine (impl_LookGlobal.calls kj7 _ _ t409 t403 t433 t434 t435 t436 t437 t438 _ ?side1 ?side2 A39.out).mono ?_); (case side1 => refine (Kd.R_reads' (e := 33) (base := w.heap.size) (ok := fun k_ => (some k_ ≠ (.slice Ao12 t400.length co12 : Value).ownBlock ∧ some k_ ≠ (.slice Ao24 t414.length co24 : Value).ownBlock)) (n := t409.length) (c := co17) ?_).2.2; exact (by (with_reducible repeat (first | apply Kd.R_alloc | apply Kd.R_drewN | apply Kd.R_drew)); exact (Kd.R_mono (Kd.R_far (p := ⟨gb432, 5, none⟩) (Kd.R_far (p := ⟨gb432, 4, none⟩) (Kd.R_far (p := ⟨gb432, 3, none⟩) (Kd.R_far (p := ⟨gb432, 2, none⟩) (Kd.R_far (p := ⟨gb432, 1, none⟩) (Kd.R_far (p := ⟨gb432, 0, none⟩) (Kd.R_types HO_413001.out BK432.out (by decide)) (fun _ hk => hk.2) (.int .i64 t426)) (fun _ hk => hk.2) (.string t427)) (fun _ hk => hk.2) (.int .i64 t428)) (fun _ hk => hk.2) (.int .i64 t429)) (fun _ hk => hk.2) (.string t430)) (fun _ hk => hk.2) (.int .i64 t431)) (fun _ h_ => h_.1)))); (case side2 => exact (Kd.R_reads' HO_413001.out).2.1); rintro e w50 ⟨rfl, hb⟩; refine ⟨_, rfl, ?_⟩; have n0_ := ak (Kd.R_below (by (with_reducible repeat (first | apply Kd.R_alloc | apply Kd.R_drewN | apply Kd.R_drew)); exact (Kd.R_mono (Kd.R_far (p := ⟨gb432, 5, none⟩) (Kd.R_far (p := ⟨gb432, 4, none⟩) (Kd.R_far (p := ⟨gb432, 3, none⟩) (Kd.R_far (p := ⟨gb432, 2, none⟩) (Kd.R_far (p := ⟨gb432, 1, none⟩) (Kd.R_far (p := ⟨gb432, 0, none⟩) (Kd.R_types HO_3.out BK432.out (by decide)) (fun _ hk => hk.2) (.int .i64 t426)) (fun _ hk => hk.2) (.string t427)) (fun _ hk => hk.2) (.int .i64 t428)) (fun _ hk => hk.2) (.int .i64 t429)) (fun _ hk => hk.2) (.string t430)) (fun _ hk => hk.2) (.int .i64 t431)) (fun _ h_ => h_.1))) hb); have n1_ := ak (Kd.R_below (by (with_reducible repeat (first | apply Kd.R_alloc | apply Kd.R_drewN | apply Kd.R_drew)); exact (Kd.R_mono (Kd.R_far (p := ⟨gb432, 5, none⟩) (Kd.R_far (p := ⟨gb432, 4, none⟩) (Kd.R_far (p := ⟨gb432, 3, none⟩) (Kd.R_far (p := ⟨gb432, 2, none⟩) (Kd.R_far (p := ⟨gb432, 1, none⟩) (Kd.R_far (p := ⟨gb432, 0, none⟩) (Kd.R_types HO_413001.out BK432.out (by decide)) (fun _ hk => hk.2) (.int .i64 t426)) (fun _ hk => hk.2) (.string t427)) (fun _ hk => hk.2) (.int .i64 t428)) (fun _ hk => hk.2) (.int .i64 t429)) (fun _ hk => hk.2) (.string t430)) (fun _ hk => hk.2) (.int .i64 t431)) (fun _ h_ => h_.1))) hb); have n2_ := ak (Kd.R_below (by (with_reducible repeat (first | apply Kd.R_alloc | apply Kd.R_drewN | apply Kd.R_drew)); exact (Kd.R_mono (Kd.R_far (p := ⟨gb432, 5, none⟩) (Kd.R_far (p := ⟨gb432, 4, none⟩) (Kd.R_far (p := ⟨gb432, 3, none⟩) (Kd.R_far (p := ⟨gb432, 2, none⟩) (Kd.R_far (p := ⟨gb432, 1, none⟩) (Kd.R_far (p := ⟨gb432, 0, none⟩) (Kd.R_types HO_418001.out BK432.out (by decide)) (fun _ hk => hk.2) (.int .i64 t426)) (fun _ hk => hk.2) (.string t427)) (fun _ hk => hk.2) (.int .i64 t428)) (fun _ hk => hk.2) (.int .i64 t429)) (fun _ hk => hk.2) (.string t430)) (fun _ hk => hk.2) (.int .i64 t431)) (fun _ h_ => h_.1))) hb); have n3_ := ak (blk_below (g := gb407) (o := .cells #[.int .i64 t404, .int .i64 t405, .string t406] 26 (0, 0)) (by (with_reducible repeat first | apply b11N | apply b11D | apply b11L); refine blk_far ?_ NB407_432.out _; (with_reducible repeat first | apply b11N | apply b11D | apply b11L); refine blk_far ?_ NB407_432.out _; (with_reducible repeat first | apply b11N | apply b11D | apply b11L); refine blk_far ?_ NB407_432.out _; (with_reducible repeat first | apply b11N | apply b11D | apply b11L); refine blk_far ?_ NB407_432.out _; (with_reducible repeat first | apply b11N | apply b11D | apply b11L); refine blk_far ?_ NB407_432.out _; (with_reducible repeat first | apply b11N | apply b11D | apply b11L); refine blk_far ?_ NB407_432.out _; (with_reducible repeat first | apply b11N | apply b11D | apply b11L); exact BK407.out) hb); have n4_ := ak (blk_below (g := gb412) (o := .cells #[.int .i64 t408, .slice Ao17 t409.length co17] 30 (0, 0)) (by (with_reducible repeat first | apply b11N | apply b11D | apply b11L); refine blk_far ?_ NB412_432.out _; (with_reducible repeat first | apply b11N | apply b11D | apply b11L); refine blk_far ?_ NB412_432.out _; (with_reducible repeat first | apply b11N | apply b11D | apply b11L); refine blk_far ?_ NB412_432.out _; (with_reducible repeat first | apply b11N | apply b11D | apply b11L); refine blk_far ?_ NB412_432.out _; (with_reducible repeat first | apply b11N | apply b11D | apply b11L); refine blk_far ?_ NB412_432.out _; (with_reducible repeat first | apply b11N | apply b11D | apply b11L); refine blk_far ?_ NB412_432.out _; (with_reducible repeat first | apply b11N | apply b11D | apply b11L); exact BK412.out) hb); have n5_ := ak (blk_below (g := gb417) (o := .cells #[.int .i64 t413, .slice Ao24 t414.length co24] 30 (0, 0)) (by (with_reducible repeat first | apply b11N | apply b11D | apply b11L); refine blk_far ?_ NB417_432.out _; (with_reducible repeat first | apply b11N | apply b11D | apply b11L); refine blk_far ?_ NB417_432.out _; (with_reducible repeat first | apply b11N | apply b11D | apply b11L); refine blk_far ?_ NB417_432.out _; (with_reducible repeat first | apply b11N | apply b11D | apply b11L); refine blk_far ?_ NB417_432.out _; (with_reducible repeat first | apply b11N | apply b11D | apply b11L); refine blk_far ?_ NB417_432.out _; (with_reducible repeat first | apply b11N | apply b11D | apply b11L); refine blk_far ?_ NB417_432.out _; (with_reducible repeat first | apply b11N | apply b11D | apply b11L); exact BK417.out) hb); have n6_ := ak (blk_below (g := gb432) (o := .cells #[.int .i64 t426, .string t427, .int .i64 t428, .int .i64 t429, .string t430, .int .i64 t431] 35 (0, 0)) (by (with_reducible repeat first | apply b11N | apply b11D | apply b11L); refine blk_put (cs := #[.int .i64 t426, .string t427, .int .i64 t428, .int .i64 t429, .string t430, .int .i64 0]) ?_ 5 _ rfl; (with_reducible repeat first | apply b11N | apply b11D | apply b11L); refine blk_put (cs := #[.int .i64 t426, .string t427, .int .i64 t428, .int .i64 t429, .string (⟨#[]⟩ : ByteArray), .int .i64 0]) ?_ 4 _ rfl; (with_reducible repeat first | apply b11N | apply b11D | apply b11L); refine blk_put (cs := #[.int .i64 t426, .string t427, .int .i64 t428, .int .i64 0, .string (⟨#[]⟩ : ByteArray), .int .i64 0]) ?_ 3 _ rfl; (with_reducible repeat first | apply b11N | apply b11D | apply b11L); refine blk_put (cs := #[.int .i64 t426, .string t427, .int .i64 0, .int .i64 0, .string (⟨#[]⟩ : ByteArray), .int .i64 0]) ?_ 2 _ rfl; (with_reducible repeat first | apply b11N | apply b11D | apply b11L); refine blk_put (cs := #[.int .i64 t426, .string (⟨#[]⟩ : ByteArray), .int .i64 0, .int .i64 0, .string (⟨#[]⟩ : ByteArray), .int .i64 0]) ?_ 1 _ rfl; (with_reducible repeat first | apply b11N | apply b11D | apply b11L); refine blk_put (cs := #[.int .i64 0, .string (⟨#[]⟩ : ByteArray), .int .i64 0, .int .i64 0, .string (⟨#[]⟩ : ByteArray), .int .i64 0]) ?_ 0 _ rfl; (with_reducible repeat first | apply b11N | apply b11D | apply b11L); exact BK432.out) hb); have n7_ := ak (below_step d11_16 hb); clear HO_3 HO_413001 HO_418001 BK407 BK412 BK417 BK432 HB; have HO_3 := n0_; have HO_413001 := n1_; have HO_418001 := n2_; have BK407 := n3_; have BK412 := n4_; have BK417 := n5_; have BK432 := n6_; have HB := n7_; clear n0_ n1_ n2_ n3_ n4_ n5_ n6_ n7_; (try clear hb); (try clear hk)) | ((with_reducible refine gate_dst (N := 9) rfl ?_); refine box_event ?hg (N := 9) ?hd (cs := #[.int .i64 0, .string (⟨#[]⟩ : ByteArray), .int .i64 0, .int .i64 0, .string (⟨#[]⟩ : ByteArray), .int .i64 0]) (t := 35) ?hr ?_; (case hd => rfl); (case hg => rfl); (case hr => first | (go_simp; done) | (go_simp; rfl)); intro gb439 hg w51 hbox hb; have n0_ := ak (Kd.R_below d11_14 hb); have n1_ := ak (Kd.R_below d11_10 hb); have n2_ := ak (Kd.R_below d11_11 hb); have n3_ := ak (blk_below (g := gb407) (o := .cells #[.int .i64 t404, .int .i64 t405, .string t406] 26 (0, 0)) d11_2 hb); have n4_ := ak (blk_below (g := gb412) (o := .cells #[.int .i64 t408, .slice Ao17 t409.length co17] 30 (0, 0)) d11_3 hb); have n5_ := ak (blk_below (g := gb417) (o := .cells #[.int .i64 t413, .slice Ao24 t414.length co24] 30 (0, 0)) d11_4 hb); have n6_ := ak (blk_below (g := gb432) (o := .cells #[.int .i64 t426, .string t427, .int .i64 t428, .int .i64 t429, .string t430, .int .i64 t431] 35 (0, 0)) d11_7 hb); have n7_ := ak (below_step d11_16 hb); have n8_ := ak (hbox); have n9_ := ak ((by rw [hg]; exact (below_size d11_16) : w.heap.size ≤ gb439)); have n10_ := ak ((by rw [hg]; exact (below_size d11_16) : w.heap.size ≤ gb439)); have n11_ := ak ((by rw [hg]; exact Nat.ne_of_lt (blk_lt (g := gb407) (o := .cells #[.int .i64 t404, .int .i64 t405, .string t406] 26 (0, 0)) d11_2) : gb407 ≠ gb439)); have n12_ := ak ((by rw [hg]; exact Nat.ne_of_gt (blk_lt (g := gb407) (o := .cells #[.int .i64 t404, .int .i64 t405, .string t406] 26 (0, 0)) d11_2) : gb439 ≠ gb407)); have n13_ := ak ((by rw [hg]; exact Nat.ne_of_lt (blk_lt (g := gb412) (o := .cells #[.int .i64 t408, .slice Ao17 t409.length co17] 30 (0, 0)) d11_3) : gb412 ≠ gb439)); have n14_ := ak ((by rw [hg]; exact Nat.ne_of_gt (blk_lt (g := gb412) (o := .cells #[.int .i64 t408, .slice Ao17 t409.length co17] 30 (0, 0)) d11_3) : gb439 ≠ gb412)); have n15_ := ak ((by rw [hg]; exact Nat.ne_of_lt (blk_lt (g := gb417) (o := .cells #[.int .i64 t413, .slice Ao24 t414.length co24] 30 (0, 0)) d11_4) : gb417 ≠ gb439)); have n16_ := ak ((by rw [hg]; exact Nat.ne_of_gt (blk_lt (g := gb417) (o := .cells #[.int .i64 t413, .slice Ao24 t414.length co24] 30 (0, 0)) d11_4) : gb439 ≠ gb417)); have n17_ := ak ((by rw [hg]; exact Nat.ne_of_lt (blk_lt (g := gb432) (o := .cells #[.int .i64 t426, .string t427, .int .i64 t428, .int .i64 t429, .string t430, .int .i64 t431] 35 (0, 0)) d11_7) : gb432 ≠ gb439)); have n18_ := ak ((by rw [hg]; exact Nat.ne_of_gt (blk_lt (g := gb432) (o := .cells #[.int .i64 t426, .string t427, .int .i64 t428, .int .i64 t429, .string t430, .int .i64 t431] 35 (0, 0)) d11_7) : gb439 ≠ gb432)); clear HO_3 HO_413001 HO_418001 BK407 BK412 BK417 BK432 HB; have HO_3 := n0_; have HO_413001 := n1_; have HO_418001 := n2_; have BK407 := n3_; have BK412 := n4_; have BK417 := n5_; have BK432 := n6_; have HB := n7_; have BK439 := n8_; have GW439 := n9_; have GE439 := n10_; have NB407_439 := n11_; have NB439_407 := n12_; have NB412_439 := n13_; have NB439_412 := n14_; have NB417_439 := n15_; have NB439_417 := n16_; have NB432_439 := n17_; have NB439_432 := n18_; clear n0_ n1_ n2_ n3_ n4_ n5_ n6_ n7_ n8_ n9_ n10_ n11_ n12_ n13_ n14_ n15_ n16_ n17_ n18_ hb hbox hg; have hnb52 := NB439_407.out; have hnc52 := NB407_439.out; have hnb53 := NB439_412.out; have hnc53 := NB412_439.out; have hnb54 := NB439_417.out; have hnc54 := NB417_439.out; have hnb55 := NB439_432.out; have hnc55 := NB432_439.out; have hcz56_0 : w51.cell? ⟨gb439, 0, none⟩ = some (.int .i64 0) := (blk_cell BK439.out 0).trans rfl; have hcz56_1 : w51.cell? ⟨gb439, 1, none⟩ = some (.string (⟨#[]⟩ : ByteArray)) := (blk_cell BK439.out 1).trans rfl; have hcz56_2 : w51.cell? ⟨gb439, 2, none⟩ = some (.int .i64 0) := (blk_cell BK439.out 2).trans rfl; have hcz56_3 : w51.cell? ⟨gb439, 3, none⟩ = some (.int .i64 0) := (blk_cell BK439.out 3).trans rfl; have hcz56_4 : w51.cell? ⟨gb439, 4, none⟩ = some (.string (⟨#[]⟩ : ByteArray)) := (blk_cell BK439.out 4).trans rfl; have hcz56_5 : w51.cell? ⟨gb439, 5, none⟩ = some (.int .i64 0) := (blk_cell BK439.out 5).trans rfl; have hfz56_0 := blk_frozen BK439.out 0; have hfz56_1 := blk_frozen BK439.out 1; have hfz56_2 := blk_frozen BK439.out 2; have hfz56_3 := blk_frozen BK439.out 3; have hfz56_4 := blk_frozen BK439.out 4; have hfz56_5 := blk_frozen BK439.out 5))
      (try simp only [Act.put, List.setIfInBounds_toArray, List.set_cons_zero, List.set_cons_succ])
      go_cut [] (fun wc => ∃ (kq : Nat), Aside0 (laws_FnGlobals.j8 kq t404 t405 t406 t408 t409 t413 t414 t426 t427 t428 t429 t430 t431 t433 t434 t435 t436 t437 t438 = some r) ∧ Aside0 (kq ≤ kj7) ∧ Aside0 (Kd.R k33 33 wc w.heap.size (fun k_ => some k_ ≠ ((.slice Ao24 t414.length co24) : Value).ownBlock) (.slice Ao17 t409.length co17) t409) ∧ Aside0 (Kd.R k33 33 wc w.heap.size (fun k_ => some k_ ≠ ((.slice Ao17 t409.length co17) : Value).ownBlock) (.slice Ao24 t414.length co24) t414) ∧ Aside0 (wc.heap[gb407]? = some (.cells #[.int .i64 t404, .int .i64 t405, .string t406] 26 (0, 0))) ∧ Aside0 (wc.heap[gb412]? = some (.cells #[.int .i64 t408, (.slice Ao17 t409.length co17)] 30 (0, 0))) ∧ Aside0 (wc.heap[gb417]? = some (.cells #[.int .i64 t413, (.slice Ao24 t414.length co24)] 30 (0, 0))) ∧ Aside0 (wc.heap[gb432]? = some (.cells #[.int .i64 t426, .string t427, .int .i64 t428, .int .i64 t429, .string t430, .int .i64 t431] 35 (0, 0))) ∧ Aside0 (wc.heap[gb439]? = some (.cells #[.int .i64 t433, .string t434, .int .i64 t435, .int .i64 t436, .string t437, .int .i64 t438] 35 (0, 0))) ∧ Aside0 (Below w.heap.size w wc))
      case first =>
       have H := HC40.out; clear HC40; have H' := ak H; clear H; go_wp2
       go_loopg [10] kj7 (fun kq v10 w' => ∃ (x10_3 : Int), v10 = .int .i64 x10_3 ∧ Aside0 (laws_FnGlobals.l0 kq t400 t403 x10_3 t404 t405 t406 t408 t409 t413 t414 t426 t427 t428 t429 t430 t431 t433 t434 t435 t436 t437 t438 = some r) ∧ Aside0 (kq ≤ kj7) ∧ Aside0 (Kd.R k33 33 w' w.heap.size (fun k_ => some k_ ≠ ((.slice Ao17 t409.length co17) : Value).ownBlock ∧ some k_ ≠ ((.slice Ao24 t414.length co24) : Value).ownBlock) (.slice Ao12 t400.length co12) t400) ∧ Aside0 (Kd.R k33 33 w' w.heap.size (fun k_ => some k_ ≠ ((.slice Ao12 t400.length co12) : Value).ownBlock ∧ some k_ ≠ ((.slice Ao24 t414.length co24) : Value).ownBlock) (.slice Ao17 t409.length co17) t409) ∧ Aside0 (Kd.R k33 33 w' w.heap.size (fun k_ => some k_ ≠ ((.slice Ao12 t400.length co12) : Value).ownBlock ∧ some k_ ≠ ((.slice Ao17 t409.length co17) : Value).ownBlock) (.slice Ao24 t414.length co24) t414) ∧ Aside0 (w'.heap[gb407]? = some (.cells #[.int .i64 t404, .int .i64 t405, .string t406] 26 (0, 0))) ∧ Aside0 (w'.heap[gb412]? = some (.cells #[.int .i64 t408, (.slice Ao17 t409.length co17)] 30 (0, 0))) ∧ Aside0 (w'.heap[gb417]? = some (.cells #[.int .i64 t413, (.slice Ao24 t414.length co24)] 30 (0, 0))) ∧ Aside0 (w'.heap[gb432]? = some (.cells #[.int .i64 t426, .string t427, .int .i64 t428, .int .i64 t429, .string t430, .int .i64 t431] 35 (0, 0))) ∧ Aside0 (w'.heap[gb439]? = some (.cells #[.int .i64 t433, .string t434, .int .i64 t435, .int .i64 t436, .string t437, .int .i64 t438] 35 (0, 0))) ∧ Aside0 (Below w.heap.size w w'))
       case atStart => exact ⟨(0), d11_12, H', ⟨Nat.le_refl _⟩, ⟨by (with_reducible repeat (first | apply Kd.R_alloc | apply Kd.R_drewN | apply Kd.R_drew)); exact Kd.R_mono (Kd.R_far (p := ⟨gb439, 5, none⟩) (Kd.R_far (p := ⟨gb439, 4, none⟩) (Kd.R_far (p := ⟨gb439, 3, none⟩) (Kd.R_far (p := ⟨gb439, 2, none⟩) (Kd.R_far (p := ⟨gb439, 1, none⟩) (Kd.R_far (p := ⟨gb439, 0, none⟩) (Kd.R_types HO_3.out BK439.out (by decide)) (fun _ hk => hk.2) (.int .i64 t433)) (fun _ hk => hk.2) (.string t434)) (fun _ hk => hk.2) (.int .i64 t435)) (fun _ hk => hk.2) (.int .i64 t436)) (fun _ hk => hk.2) (.string t437)) (fun _ hk => hk.2) (.int .i64 t438)) (fun _ hk => ⟨hk.1.1, hk.1.2⟩)⟩, ⟨by (with_reducible repeat (first | apply Kd.R_alloc | apply Kd.R_drewN | apply Kd.R_drew)); exact Kd.R_mono (Kd.R_far (p := ⟨gb439, 5, none⟩) (Kd.R_far (p := ⟨gb439, 4, none⟩) (Kd.R_far (p := ⟨gb439, 3, none⟩) (Kd.R_far (p := ⟨gb439, 2, none⟩) (Kd.R_far (p := ⟨gb439, 1, none⟩) (Kd.R_far (p := ⟨gb439, 0, none⟩) (Kd.R_types HO_413001.out BK439.out (by decide)) (fun _ hk => hk.2) (.int .i64 t433)) (fun _ hk => hk.2) (.string t434)) (fun _ hk => hk.2) (.int .i64 t435)) (fun _ hk => hk.2) (.int .i64 t436)) (fun _ hk => hk.2) (.string t437)) (fun _ hk => hk.2) (.int .i64 t438)) (fun _ hk => ⟨hk.1.1, hk.1.2⟩)⟩, ⟨by (with_reducible repeat (first | apply Kd.R_alloc | apply Kd.R_drewN | apply Kd.R_drew)); exact Kd.R_mono (Kd.R_far (p := ⟨gb439, 5, none⟩) (Kd.R_far (p := ⟨gb439, 4, none⟩) (Kd.R_far (p := ⟨gb439, 3, none⟩) (Kd.R_far (p := ⟨gb439, 2, none⟩) (Kd.R_far (p := ⟨gb439, 1, none⟩) (Kd.R_far (p := ⟨gb439, 0, none⟩) (Kd.R_types HO_418001.out BK439.out (by decide)) (fun _ hk => hk.2) (.int .i64 t433)) (fun _ hk => hk.2) (.string t434)) (fun _ hk => hk.2) (.int .i64 t435)) (fun _ hk => hk.2) (.int .i64 t436)) (fun _ hk => hk.2) (.string t437)) (fun _ hk => hk.2) (.int .i64 t438)) (fun _ hk => ⟨hk.1.1, hk.1.2⟩)⟩, ⟨by (with_reducible repeat first | apply b11N | apply b11D | apply b11L); refine blk_far ?_ NB407_439.out _; (with_reducible repeat first | apply b11N | apply b11D | apply b11L); refine blk_far ?_ NB407_439.out _; (with_reducible repeat first | apply b11N | apply b11D | apply b11L); refine blk_far ?_ NB407_439.out _; (with_reducible repeat first | apply b11N | apply b11D | apply b11L); refine blk_far ?_ NB407_439.out _; (with_reducible repeat first | apply b11N | apply b11D | apply b11L); refine blk_far ?_ NB407_439.out _; (with_reducible repeat first | apply b11N | apply b11D | apply b11L); refine blk_far ?_ NB407_439.out _; (with_reducible repeat first | apply b11N | apply b11D | apply b11L); exact BK407.out⟩, ⟨by (with_reducible repeat first | apply b11N | apply b11D | apply b11L); refine blk_far ?_ NB412_439.out _; (with_reducible repeat first | apply b11N | apply b11D | apply b11L); refine blk_far ?_ NB412_439.out _; (with_reducible repeat first | apply b11N | apply b11D | apply b11L); refine blk_far ?_ NB412_439.out _; (with_reducible repeat first | apply b11N | apply b11D | apply b11L); refine blk_far ?_ NB412_439.out _; (with_reducible repeat first | apply b11N | apply b11D | apply b11L); refine blk_far ?_ NB412_439.out _; (with_reducible repeat first | apply b11N | apply b11D | apply b11L); refine blk_far ?_ NB412_439.out _; (with_reducible repeat first | apply b11N | apply b11D | apply b11L); exact BK412.out⟩, ⟨by (with_reducible repeat first | apply b11N | apply b11D | apply b11L); refine blk_far ?_ NB417_439.out _; (with_reducible repeat first | apply b11N | apply b11D | apply b11L); refine blk_far ?_ NB417_439.out _; (with_reducible repeat first | apply b11N | apply b11D | apply b11L); refine blk_far ?_ NB417_439.out _; (with_reducible repeat first | apply b11N | apply b11D | apply b11L); refine blk_far ?_ NB417_439.out _; (with_reducible repeat first | apply b11N | apply b11D | apply b11L); refine blk_far ?_ NB417_439.out _; (with_reducible repeat first | apply b11N | apply b11D | apply b11L); refine blk_far ?_ NB417_439.out _; (with_reducible repeat first | apply b11N | apply b11D | apply b11L); exact BK417.out⟩, ⟨by (with_reducible repeat first | apply b11N | apply b11D | apply b11L); refine blk_far ?_ NB432_439.out _; (with_reducible repeat first | apply b11N | apply b11D | apply b11L); refine blk_far ?_ NB432_439.out _; (with_reducible repeat first | apply b11N | apply b11D | apply b11L); refine blk_far ?_ NB432_439.out _; (with_reducible repeat first | apply b11N | apply b11D | apply b11L); refine blk_far ?_ NB432_439.out _; (with_reducible repeat first | apply b11N | apply b11D | apply b11L); refine blk_far ?_ NB432_439.out _; (with_reducible repeat first | apply b11N | apply b11D | apply b11L); refine blk_far ?_ NB432_439.out _; (with_reducible repeat first | apply b11N | apply b11D | apply b11L); exact BK432.out⟩, ⟨by (with_reducible repeat first | apply b11N | apply b11D | apply b11L); refine blk_put (cs := #[.int .i64 t433, .string t434, .int .i64 t435, .int .i64 t436, .string t437, .int .i64 0]) ?_ 5 _ rfl; (with_reducible repeat first | apply b11N | apply b11D | apply b11L); refine blk_put (cs := #[.int .i64 t433, .string t434, .int .i64 t435, .int .i64 t436, .string (⟨#[]⟩ : ByteArray), .int .i64 0]) ?_ 4 _ rfl; (with_reducible repeat first | apply b11N | apply b11D | apply b11L); refine blk_put (cs := #[.int .i64 t433, .string t434, .int .i64 t435, .int .i64 0, .string (⟨#[]⟩ : ByteArray), .int .i64 0]) ?_ 3 _ rfl; (with_reducible repeat first | apply b11N | apply b11D | apply b11L); refine blk_put (cs := #[.int .i64 t433, .string t434, .int .i64 0, .int .i64 0, .string (⟨#[]⟩ : ByteArray), .int .i64 0]) ?_ 2 _ rfl; (with_reducible repeat first | apply b11N | apply b11D | apply b11L); refine blk_put (cs := #[.int .i64 t433, .string (⟨#[]⟩ : ByteArray), .int .i64 0, .int .i64 0, .string (⟨#[]⟩ : ByteArray), .int .i64 0]) ?_ 1 _ rfl; (with_reducible repeat first | apply b11N | apply b11D | apply b11L); refine blk_put (cs := #[.int .i64 0, .string (⟨#[]⟩ : ByteArray), .int .i64 0, .int .i64 0, .string (⟨#[]⟩ : ByteArray), .int .i64 0]) ?_ 0 _ rfl; (with_reducible repeat first | apply b11N | apply b11D | apply b11L); exact BK439.out⟩, ⟨c11_1⟩⟩
       case round =>
        clear H'
        try clear c1
        try clear c2
        try clear p2
        try clear c3
        try clear c4
        try clear c5
        try clear c6
        try clear c7
        try clear c8
        try clear c9
        try clear c10
        try clear c15
        try clear c21
        try clear c22
        try clear c26
        try clear c26b0
        try clear c26b1
        try clear c29
        try clear c29b0
        try clear c29b1
        try clear c43
        try clear c44
        try clear c45
        try clear c47
        try clear c48
        try clear c52
        try clear c53
        try clear c54
        try clear c55
        try clear hcz11_0
        try clear hcz11_1
        try clear hcz11_2
        try clear hcz16_0
        try clear hcz16_1
        try clear hcz18_0
        try clear hcz18_1
        try clear hcz18_2
        try clear hcz23_0
        try clear hcz23_1
        try clear hcz25_0
        try clear hcz25_1
        try clear hcz46_0
        try clear hcz46_1
        try clear hcz46_2
        try clear hcz46_3
        try clear hcz46_4
        try clear hcz46_5
        try clear hcz49_0
        try clear hcz49_1
        try clear hcz56_0
        try clear hcz56_1
        try clear hcz56_2
        try clear hcz56_3
        try clear hcz56_4
        try clear hcz56_5
        try clear hfz11_0
        try clear hfz11_1
        try clear hfz11_2
        try clear hfz16_0
        try clear hfz16_1
        try clear hfz18_0
        try clear hfz18_1
        try clear hfz18_2
        try clear hfz23_0
        try clear hfz23_1
        try clear hfz25_0
        try clear hfz25_1
        try clear hfz46_0
        try clear hfz46_1
        try clear hfz46_2
        try clear hfz46_3
        try clear hfz46_4
        try clear hfz46_5
        try clear hfz49_0
        try clear hfz49_1
        try clear hfz56_0
        try clear hfz56_1
        try clear hfz56_2
        try clear hfz56_3
        try clear hfz56_4
        try clear hfz56_5
        try clear p2
        obtain ⟨x10_3, rfl, HA, HK3, HO_3, HO_413001, HO_418001, BK407, BK412, BK417, BK432, BK439, HB⟩ := hrel
        cases gk with
        | zero => exact absurd HA.out (by simp [laws_FnGlobals.l0])
        | succ k3 =>
         have H := HA.out; clear HA; simp only [laws_FnGlobals.l0] at H; have HC57 := ak H; clear H; go_upto_if 59 with (fail)
         go_cut [] (fun wc => ∃ (kq : Nat), Aside0 (laws_FnGlobals.j4 kq t400 t403 x10_3 t404 t405 t406 t408 t409 t413 t414 t426 t427 t428 t429 t430 t431 t433 t434 t435 t436 t437 t438 = some r) ∧ Aside0 (kq ≤ k3) ∧ Aside0 (Kd.R k33 33 wc w.heap.size (fun k_ => some k_ ≠ ((.slice Ao17 t409.length co17) : Value).ownBlock ∧ some k_ ≠ ((.slice Ao24 t414.length co24) : Value).ownBlock) (.slice Ao12 t400.length co12) t400) ∧ Aside0 (Kd.R k33 33 wc w.heap.size (fun k_ => some k_ ≠ ((.slice Ao12 t400.length co12) : Value).ownBlock ∧ some k_ ≠ ((.slice Ao24 t414.length co24) : Value).ownBlock) (.slice Ao17 t409.length co17) t409) ∧ Aside0 (Kd.R k33 33 wc w.heap.size (fun k_ => some k_ ≠ ((.slice Ao12 t400.length co12) : Value).ownBlock ∧ some k_ ≠ ((.slice Ao17 t409.length co17) : Value).ownBlock) (.slice Ao24 t414.length co24) t414) ∧ Aside0 (wc.heap[gb407]? = some (.cells #[.int .i64 t404, .int .i64 t405, .string t406] 26 (0, 0))) ∧ Aside0 (wc.heap[gb412]? = some (.cells #[.int .i64 t408, (.slice Ao17 t409.length co17)] 30 (0, 0))) ∧ Aside0 (wc.heap[gb417]? = some (.cells #[.int .i64 t413, (.slice Ao24 t414.length co24)] 30 (0, 0))) ∧ Aside0 (wc.heap[gb432]? = some (.cells #[.int .i64 t426, .string t427, .int .i64 t428, .int .i64 t429, .string t430, .int .i64 t431] 35 (0, 0))) ∧ Aside0 (wc.heap[gb439]? = some (.cells #[.int .i64 t433, .string t434, .int .i64 t435, .int .i64 t436, .string t437, .int .i64 t438] 35 (0, 0))) ∧ Aside0 (Below w.heap.size w wc))
         case first =>
          have H := HC57.out; clear HC57; by_cases c58 : x10_3 < (t400.length : Int)
          ·rw [if_pos c58] at H
           have c58b0 : decide (x10_3 < (t400.length : Int)) = true := decide_eq_true c58; clear c58
           (first | rw [c58b0] | (simp only [i64_w, i32_w]; rw [c58b0]) | skip)
           have H' := ak H; clear H; go_wp2; go_meet
           case rel => exact ⟨_, H', ⟨by have := HJ2.out; have := HJ7.out; have := HK3.out; first | omega | exact Nat.le_refl _⟩, ⟨c11_19⟩, ⟨c11_8⟩, ⟨c11_9⟩, ⟨c11_3⟩, ⟨c11_4⟩, ⟨c11_5⟩, ⟨c11_6⟩, ⟨c11_7⟩, ⟨c11_1⟩⟩
          ·rw [if_neg c58] at H
           have c58b0 : decide (x10_3 < (t400.length : Int)) = false := decide_eq_false c58; clear c58
           (first | rw [c58b0] | (simp only [i64_w, i32_w]; rw [c58b0]) | skip)
           have H' := ak H; clear H; go_wp2; go_meet
           case rel => exact ⟨_, H', ⟨by have := HJ2.out; have := HJ7.out; have := HK3.out; first | omega | exact Nat.le_refl _⟩, ⟨by (with_reducible repeat (first | apply Kd.R_alloc | apply Kd.R_drewN | apply Kd.R_drew)); exact Kd.R_mono HO_413001.out (fun _ hk => hk.2)⟩, ⟨by (with_reducible repeat (first | apply Kd.R_alloc | apply Kd.R_drewN | apply Kd.R_drew)); exact Kd.R_mono HO_418001.out (fun _ hk => hk.2)⟩, ⟨c11_3⟩, ⟨c11_4⟩, ⟨c11_5⟩, ⟨c11_6⟩, ⟨c11_7⟩, ⟨c11_1⟩⟩
         case rest =>
          clear HC57
          try clear c1
          try clear c2
          try clear p2
          try clear c3
          try clear c4
          try clear c5
          try clear c6
          try clear c7
          try clear c8
          try clear c9
          try clear c10
          try clear c15
          try clear c21
          try clear c22
          try clear c26
          try clear c26b0
          try clear c26b1
          try clear c29
          try clear c29b0
          try clear c29b1
          try clear c43
          try clear c44
          try clear c45
          try clear c47
          try clear c48
          try clear c52
          try clear c53
          try clear c54
          try clear c55
          try clear hcz11_0
          try clear hcz11_1
          try clear hcz11_2
          try clear hcz16_0
          try clear hcz16_1
          try clear hcz18_0
          try clear hcz18_1
          try clear hcz18_2
          try clear hcz23_0
          try clear hcz23_1
          try clear hcz25_0
          try clear hcz25_1
          try clear hcz46_0
          try clear hcz46_1
          try clear hcz46_2
          try clear hcz46_3
          try clear hcz46_4
          try clear hcz46_5
          try clear hcz49_0
          try clear hcz49_1
          try clear hcz56_0
          try clear hcz56_1
          try clear hcz56_2
          try clear hcz56_3
          try clear hcz56_4
          try clear hcz56_5
          try clear hfz11_0
          try clear hfz11_1
          try clear hfz11_2
          try clear hfz16_0
          try clear hfz16_1
          try clear hfz18_0
          try clear hfz18_1
          try clear hfz18_2
          try clear hfz23_0
          try clear hfz23_1
          try clear hfz25_0
          try clear hfz25_1
          try clear hfz46_0
          try clear hfz46_1
          try clear hfz46_2
          try clear hfz46_3
          try clear hfz46_4
          try clear hfz46_5
          try clear hfz49_0
          try clear hfz49_1
          try clear hfz56_0
          try clear hfz56_1
          try clear hfz56_2
          try clear hfz56_3
          try clear hfz56_4
          try clear hfz56_5
          try clear p2
          obtain ⟨kq, HA, HJ56, HO_3, HO_413001, HO_418001, BK407, BK412, BK417, BK432, BK439, HB⟩ := hcut
          cases kq with
          | zero => exact absurd HA.out (by simp [laws_FnGlobals.j4])
          | succ kj56 =>
           have H := HA.out; clear HA; simp only [laws_FnGlobals.j4] at H; have HC59 := ak H; clear H; go_upto_block 1 with (fail)
           go_cut [] (fun wc => ∃ (kq : Nat), Aside0 (laws_FnGlobals.j7 kq t400 t403 x10_3 t404 t405 t406 t408 t409 t413 t414 t426 t427 t428 t429 t430 t431 t433 t434 t435 t436 t437 t438 = some r) ∧ Aside0 (kq ≤ kj56) ∧ Aside0 (Kd.R k33 33 wc w.heap.size (fun k_ => some k_ ≠ ((.slice Ao17 t409.length co17) : Value).ownBlock ∧ some k_ ≠ ((.slice Ao24 t414.length co24) : Value).ownBlock) (.slice Ao12 t400.length co12) t400) ∧ Aside0 (Kd.R k33 33 wc w.heap.size (fun k_ => some k_ ≠ ((.slice Ao12 t400.length co12) : Value).ownBlock ∧ some k_ ≠ ((.slice Ao24 t414.length co24) : Value).ownBlock) (.slice Ao17 t409.length co17) t409) ∧ Aside0 (Kd.R k33 33 wc w.heap.size (fun k_ => some k_ ≠ ((.slice Ao12 t400.length co12) : Value).ownBlock ∧ some k_ ≠ ((.slice Ao17 t409.length co17) : Value).ownBlock) (.slice Ao24 t414.length co24) t414) ∧ Aside0 (wc.heap[gb407]? = some (.cells #[.int .i64 t404, .int .i64 t405, .string t406] 26 (0, 0))) ∧ Aside0 (wc.heap[gb412]? = some (.cells #[.int .i64 t408, (.slice Ao17 t409.length co17)] 30 (0, 0))) ∧ Aside0 (wc.heap[gb417]? = some (.cells #[.int .i64 t413, (.slice Ao24 t414.length co24)] 30 (0, 0))) ∧ Aside0 (wc.heap[gb432]? = some (.cells #[.int .i64 t426, .string t427, .int .i64 t428, .int .i64 t429, .string t430, .int .i64 t431] 35 (0, 0))) ∧ Aside0 (wc.heap[gb439]? = some (.cells #[.int .i64 t433, .string t434, .int .i64 t435, .int .i64 t436, .string t437, .int .i64 t438] 35 (0, 0))) ∧ Aside0 (Below w.heap.size w wc))
           case first =>
            have H := HC59.out; clear HC59; by_cases c60 : 0 ≤ x10_3
            ·rw [if_pos c60] at H
             have c60b0 : decide (0 ≤ x10_3) = true := decide_eq_true c60; clear c60
             (first | rw [c60b0] | (simp only [i64_w, i32_w]; rw [c60b0]) | skip)
             by_cases c61 : x10_3 < (t400.length : Int)
             ·rw [if_pos c61] at H
              have c61b0 : decide (x10_3 < (t400.length : Int)) = true := decide_eq_true c61; clear c61; replace H := Option.bind_eq_some_iff.mp H; obtain ⟨⟨t441, t442, t443, t444, t445, t446⟩, A620, H⟩ := H; replace H : (if ((rd_T33 t400 x10_3).f0).toList = t403.toList then (laws_FnGlobals.j5 kj56 t400 t403 x10_3 false t404 t405 t406 t408 t409 t413 t414 t426 t427 t428 t429 t430 t431 t433 t434 t435 t436 t437 t438) else (laws_FnGlobals.j5 kj56 t400 t403 x10_3 (!(t442.toList == (((rd_T33 t400 x10_3).f0).toList)) || ((!(t443 == ((rd_T33 t400 x10_3).f1.f0)) || (!(t444 == ((rd_T33 t400 x10_3).f1.f1)) || (!(t445.toList == (((rd_T33 t400 x10_3).f1.f2).toList))))) || (!(t446 == ((rd_T33 t400 x10_3).f2))))) t404 t405 t406 t408 t409 t413 t414 t426 t427 t428 t429 t430 t431 t433 t434 t435 t436 t437 t438)) = some r := H; have A62 := ak A620; clear A620; have HC63 := ak H; clear H
              try go_wp2
              have n0_ := ak (Kd.R_drew HO_3.out); have n1_ := ak (Kd.R_drew HO_413001.out); have n2_ := ak (Kd.R_drew HO_418001.out); have n3_ := ak (blk_drew BK407.out); have n4_ := ak (blk_drew BK412.out); have n5_ := ak (blk_drew BK417.out); have n6_ := ak (blk_drew BK432.out); have n7_ := ak (blk_drew BK439.out); have n8_ := ak (below_drew1 HB.out); clear HO_3; clear HO_413001; clear HO_418001; clear BK407; clear BK412; clear BK417; clear BK432; clear BK439; clear HB; have HO_3 := n0_; have HO_413001 := n1_; have HO_418001 := n2_; have BK407 := n3_; have BK412 := n4_; have BK417 := n5_; have BK432 := n6_; have BK439 := n7_; have HB := n8_; clear n0_ n1_ n2_ n3_ n4_ n5_ n6_ n7_ n8_; have p440 : 0 ≤ (x10_3 : Int) := of_decide_eq_true d11_22; have q440 : x10_3 < (t400.length : Int) := of_decide_eq_true d11_22; obtain ⟨ad440, e440, hx440_0, hx440_1, hx440_2, hx440_3, hx440_4⟩ := at_T33 (Kd.R_reads' HO_3.out).2.2 x10_3 p440 q440
              cases e440
              replace p440 := eq_true p440; replace q440 := eq_true q440; refine start_ (n := 10) (S := fun w' => w'.cell? ⟨gb412, 0, none⟩ = some (.int .i64 t408) ∧ w'.cell? ⟨gb412, 1, none⟩ = some (.slice Ao17 t409.length co17) ∧ w'.cell? (ad440.add ((x10_3).toNat * 5)) = some (.string ((rd_T33 t400 x10_3).f0)) ∧ w'.cell? ⟨(ad440.add ((x10_3).toNat * 5)).block, (ad440.add ((x10_3).toNat * 5)).off + 1, none⟩ = some (.int .i64 ((rd_T33 t400 x10_3).f1.f0)) ∧ w'.cell? ⟨(ad440.add ((x10_3).toNat * 5)).block, (ad440.add ((x10_3).toNat * 5)).off + 2, none⟩ = some (.int .i64 ((rd_T33 t400 x10_3).f1.f1)) ∧ w'.cell? ⟨(ad440.add ((x10_3).toNat * 5)).block, (ad440.add ((x10_3).toNat * 5)).off + 3, none⟩ = some (.string ((rd_T33 t400 x10_3).f1.f2)) ∧ w'.cell? ⟨(ad440.add ((x10_3).toNat * 5)).block, (ad440.add ((x10_3).toNat * 5)).off + 4, none⟩ = some (.int .i64 ((rd_T33 t400 x10_3).f2))) (ds := []) #[false, false, false, false, false, false, false, false, false, false] (by kernel_rfl) rfl rfl ⟨(blk_cell BK412.out 0).trans rfl, (blk_cell BK412.out 1).trans rfl, hx440_0, hx440_1, hx440_2, hx440_3, hx440_4⟩ (fun hHeld => ?_); refine with_tabW laws_FnGlobals.tab13 laws_FnGlobals.bits13 (fun HT_ HW_ => ?_); generalize wc.drew = w64 at HO_3 HO_413001 HO_418001 BK407 BK412 BK417 BK432 BK439 HB hx440_0 hx440_1 hx440_2 hx440_3 hx440_4 hHeld ⊢
              refine pure_ (i := 0) (N := some 62) (v := ?_) (a' := ?_) #[true, false, false, false, false, false, false, false, false, false] rfl rfl (any_of HT_.out (by kernel_rfl)) (fun _ _ _ h => h) (Or.inl ⟨by rfl, ?_⟩) ?_ ?_; rotate_left
              · intro w'
                go_simp; with_reducible rfl
              rotate_left
              · simp only [Act.put, List.setIfInBounds_toArray, List.set_cons_zero, List.set_cons_succ, i64_w, i32_w]
                rfl
              refine pure_ (i := 2) (N := some 64) (v := ?_) (a' := ?_) #[true, false, true, false, false, false, false, false, false, false] rfl rfl (any_of HT_.out (by kernel_rfl)) (fun _ _ _ h => h) (Or.inl ⟨by rfl, ?_⟩) ?_ ?_; rotate_left
              · intro w'
                go_simp; with_reducible rfl
              rotate_left
              · simp only [Act.put, List.setIfInBounds_toArray, List.set_cons_zero, List.set_cons_succ, i64_w, i32_w]
                rfl
              refine pure_ (i := 3) (N := some 65) (v := ?_) (a' := ?_) #[true, false, true, true, false, false, false, false, false, false] rfl rfl (any_of HT_.out (by kernel_rfl)) (fun _ _ _ h => h) (Or.inl ⟨by rfl, ?_⟩) ?_ ?_; rotate_left
              · intro w'
                go_simp; with_reducible rfl
              rotate_left
              · simp only [Act.put, List.setIfInBounds_toArray, List.set_cons_zero, List.set_cons_succ, i64_w, i32_w]
                rfl
              refine pure_ (i := 4) (N := some 66) (v := ?_) (a' := ?_) #[true, false, true, true, true, false, false, false, false, false] rfl rfl (any_of HT_.out (by kernel_rfl)) (fun _ _ _ h => h) (Or.inl ⟨by rfl, ?_⟩) ?_ ?_; rotate_left
              · intro w'
                go_simp; with_reducible rfl
              rotate_left
              · simp only [Act.put, List.setIfInBounds_toArray, List.set_cons_zero, List.set_cons_succ, i64_w, i32_w]
                rfl
              refine pure_ (i := 5) (N := some 67) (v := ?_) (a' := ?_) #[true, false, true, true, true, true, false, false, false, false] rfl rfl (any_of HT_.out (by kernel_rfl)) (fun _ _ _ h => h) (Or.inl ⟨by rfl, ?_⟩) ?_ ?_; rotate_left
              · intro w'
                go_simp; with_reducible rfl
              rotate_left
              · simp only [Act.put, List.setIfInBounds_toArray, List.set_cons_zero, List.set_cons_succ, i64_w, i32_w]
                rfl
              refine take_ (i := 1) (N := some 63) (v := ?_) (a' := ?_) #[true, true, true, true, true, true, false, false, false, false] rfl rfl (take_ofW HT_.out HW_.out (by kernel_rfl)) (fun _ _ _ h => h) (Or.inl ⟨by rfl, ?_⟩) hHeld ?_ ?_; rotate_left
              · rintro w' ⟨s0, s1, s2, s3, s4, s5, s6⟩
                go_simp; with_reducible rfl
              rotate_left
              · simp only [Act.put, List.setIfInBounds_toArray, List.set_cons_zero, List.set_cons_succ, i64_w, i32_w]
                rfl
              refine take_ (i := 6) (N := some 68) (v := ?_) (a' := ?_) #[true, true, true, true, true, true, true, false, false, false] rfl rfl (take_ofW HT_.out HW_.out (by kernel_rfl)) (fun _ _ _ h => h) (Or.inl ⟨by rfl, ?_⟩) hHeld ?_ ?_; rotate_left
              · rintro w' ⟨s0, s1, s2, s3, s4, s5, s6⟩
                go_simp; with_reducible rfl
              rotate_left
              · simp only [Act.put, List.setIfInBounds_toArray, List.set_cons_zero, List.set_cons_succ, i64_w, i32_w]
                rfl
              refine join_ (σ := Nat) 1 #[true, true, true, true, true, true, true, true, true, false] (fun s_ => [(69, .agg #[.int .i64 t441, .string t442, .int .i64 t443, .int .i64 t444, .string t445, .int .i64 t446]), (11, .pointer (some ⟨s_, 0, none⟩))]) (fun s_ w' => (w'.cell? ⟨gb412, 0, none⟩ = some (.int .i64 t408) ∧ w'.cell? ⟨gb412, 1, none⟩ = some (.slice Ao17 t409.length co17) ∧ w'.cell? (ad440.add ((x10_3).toNat * 5)) = some (.string ((rd_T33 t400 x10_3).f0)) ∧ w'.cell? ⟨(ad440.add ((x10_3).toNat * 5)).block, (ad440.add ((x10_3).toNat * 5)).off + 1, none⟩ = some (.int .i64 ((rd_T33 t400 x10_3).f1.f0)) ∧ w'.cell? ⟨(ad440.add ((x10_3).toNat * 5)).block, (ad440.add ((x10_3).toNat * 5)).off + 2, none⟩ = some (.int .i64 ((rd_T33 t400 x10_3).f1.f1)) ∧ w'.cell? ⟨(ad440.add ((x10_3).toNat * 5)).block, (ad440.add ((x10_3).toNat * 5)).off + 3, none⟩ = some (.string ((rd_T33 t400 x10_3).f1.f2)) ∧ w'.cell? ⟨(ad440.add ((x10_3).toNat * 5)).block, (ad440.add ((x10_3).toNat * 5)).off + 4, none⟩ = some (.int .i64 ((rd_T33 t400 x10_3).f2))) ∧ (Kd.R k33 33 w' w.heap.size (fun k_ => some k_ ≠ (.slice Ao17 t409.length co17 : Value).ownBlock ∧ some k_ ≠ (.slice Ao24 t414.length co24 : Value).ownBlock) (.slice (some ad440) t400.length co12) t400) ∧ (Kd.R k33 33 w' w.heap.size (fun k_ => some k_ ≠ (.slice (some ad440) t400.length co12 : Value).ownBlock ∧ some k_ ≠ (.slice Ao24 t414.length co24 : Value).ownBlock) (.slice Ao17 t409.length co17) t409) ∧ (Kd.R k33 33 w' w.heap.size (fun k_ => some k_ ≠ (.slice (some ad440) t400.length co12 : Value).ownBlock ∧ some k_ ≠ (.slice Ao17 t409.length co17 : Value).ownBlock) (.slice Ao24 t414.length co24) t414) ∧ (w'.heap[gb407]? = some (.cells #[.int .i64 t404, .int .i64 t405, .string t406] 26 (0, 0))) ∧ (w'.heap[gb412]? = some (.cells #[.int .i64 t408, .slice Ao17 t409.length co17] 30 (0, 0))) ∧ (w'.heap[gb417]? = some (.cells #[.int .i64 t413, .slice Ao24 t414.length co24] 30 (0, 0))) ∧ (w'.heap[gb432]? = some (.cells #[.int .i64 t426, .string t427, .int .i64 t428, .int .i64 t429, .string t430, .int .i64 t431] 35 (0, 0))) ∧ (w'.heap[gb439]? = some (.cells #[.int .i64 t433, .string t434, .int .i64 t435, .int .i64 t436, .string t437, .int .i64 t438] 35 (0, 0))) ∧ (w'.heap[s_]? = some (.cells #[.int .i64 0, .string (⟨#[]⟩ : ByteArray), .int .i64 0, .int .i64 0, .string (⟨#[]⟩ : ByteArray), .int .i64 0] 35 (0, 0))) ∧ (w.heap.size ≤ s_) ∧ (w.heap.size ≤ s_) ∧ (gb407 ≠ s_) ∧ (s_ ≠ gb407) ∧ (gb412 ≠ s_) ∧ (s_ ≠ gb412) ∧ (gb417 ≠ s_) ∧ (s_ ≠ gb417) ∧ (gb432 ≠ s_) ∧ (s_ ≠ gb432) ∧ (gb439 ≠ s_) ∧ (s_ ≠ gb439) ∧ (Below w.heap.size w w')) ?_ ?_
              rotate_left
              · intro hCont
                refine two_ (i := 7) (j := 8) (Ni := some 69) (Nj := some 11) #[true, true, true, true, true, true, true, true, false, false] #[true, true, true, true, true, true, true, false, true, false] rfl rfl rfl rfl (two_of HT_.out (by kernel_rfl)) (by decide) (by decide) (fun K hK => ?_) (fun K hK => ?_)
                · skip
                  refine goes_ Tryd.func10 (by kernel_rfl) rfl #[.slice Ao17 t409.length co17, .string ((rd_T33 t400 x10_3).f0)] (by rfl) rfl rfl d11_8 ?_; with_reducible refine (impl_LookGlobal.calls kj56 _ _ t409 ((rd_T33 t400 x10_3).f0) t441 t442 t443 t444 t445 t446 _ ?side1 ?side2 A62.out).mono ?_
                  (case side1 => exact c11_18)
                  (case side2 => exact (Kd.R_reads' HO_413001.out).2.1)
                  rintro e w65 ⟨rfl, hb⟩; have HS2_ := (hb.cell (World.block_lt_of_cell? _ _ (hHeld.2.2.1))).trans (hHeld.2.2.1); have HS3_ := (hb.cell (World.block_lt_of_cell? _ _ (hHeld.2.2.2.1))).trans (hHeld.2.2.2.1); have HS4_ := (hb.cell (World.block_lt_of_cell? _ _ (hHeld.2.2.2.2.1))).trans (hHeld.2.2.2.2.1); have HS5_ := (hb.cell (World.block_lt_of_cell? _ _ (hHeld.2.2.2.2.2.1))).trans (hHeld.2.2.2.2.2.1); have HS6_ := (hb.cell (World.block_lt_of_cell? _ _ (hHeld.2.2.2.2.2.2))).trans (hHeld.2.2.2.2.2.2); refine ⟨_, rfl, ?_⟩; have n0_ := ak (Kd.R_below d11_14 hb); have n1_ := ak (Kd.R_below d11_10 hb); have n2_ := ak (Kd.R_below d11_11 hb); have n3_ := ak (blk_below (g := gb407) (o := .cells #[.int .i64 t404, .int .i64 t405, .string t406] 26 (0, 0)) d11_2 hb); have n4_ := ak (blk_below (g := gb412) (o := .cells #[.int .i64 t408, .slice Ao17 t409.length co17] 30 (0, 0)) d11_3 hb); have n5_ := ak (blk_below (g := gb417) (o := .cells #[.int .i64 t413, .slice Ao24 t414.length co24] 30 (0, 0)) d11_4 hb); have n6_ := ak (blk_below (g := gb432) (o := .cells #[.int .i64 t426, .string t427, .int .i64 t428, .int .i64 t429, .string t430, .int .i64 t431] 35 (0, 0)) d11_7 hb); have n7_ := ak (blk_below (g := gb439) (o := .cells #[.int .i64 t433, .string t434, .int .i64 t435, .int .i64 t436, .string t437, .int .i64 t438] 35 (0, 0)) d11_9 hb); have n8_ := ak (below_step d11_5 hb); clear HO_3; clear HO_413001; clear HO_418001; clear BK407; clear BK412; clear BK417
                  clear BK432; clear BK439; clear HB; have HO_3 := n0_; have HO_413001 := n1_; have HO_418001 := n2_; have BK407 := n3_; have BK412 := n4_; have BK417 := n5_; have BK432 := n6_; have BK439 := n7_; have HB := n8_; clear n0_ n1_ n2_ n3_ n4_ n5_ n6_ n7_ n8_
                  (try clear hb)
                  (try clear hb2)
                  (try clear hk)
                  (try clear hi)
                  refine hK.out _ _ ⟨(blk_cell BK412.out 0).trans rfl, (blk_cell BK412.out 1).trans rfl, HS2_, HS3_, HS4_, HS5_, HS6_⟩ (fun hHeld => ?_); clear hK K; refine norm_ (a' := ?_) ?_ ?_; rotate_left
                  · show Act.put _ (some 69) _ = _
                    simp only [Act.put, List.setIfInBounds_toArray, List.set_cons_zero, List.set_cons_succ, i64_w, i32_w]; rfl
                  refine one_ (i := 8) (N := some 11) #[true, true, true, true, true, true, true, true, true, false] rfl rfl (one_of HT_.out (by kernel_rfl)) (by decide) (fun K hK => ?_); refine box_step ?hg (N := 11) ?hd (cs := #[.int .i64 0, .string (⟨#[]⟩ : ByteArray), .int .i64 0, .int .i64 0, .string (⟨#[]⟩ : ByteArray), .int .i64 0]) (t := 35) ?hr ?_; (case hd => rfl); (case hg => rfl); (case hr => first | (go_simp; done) | (go_simp; rfl)); intro gb447 hg w66 hbox hb; have HS2_ := (hb.cell (World.block_lt_of_cell? _ _ (hHeld.2.2.1))).trans (hHeld.2.2.1); have HS3_ := (hb.cell (World.block_lt_of_cell? _ _ (hHeld.2.2.2.1))).trans (hHeld.2.2.2.1); have HS4_ := (hb.cell (World.block_lt_of_cell? _ _ (hHeld.2.2.2.2.1))).trans (hHeld.2.2.2.2.1); have HS5_ := (hb.cell (World.block_lt_of_cell? _ _ (hHeld.2.2.2.2.2.1))).trans (hHeld.2.2.2.2.2.1); have HS6_ := (hb.cell (World.block_lt_of_cell? _ _ (hHeld.2.2.2.2.2.2))).trans (hHeld.2.2.2.2.2.2); have n0_ := ak (Kd.R_below d11_14 hb); have n1_ := ak (Kd.R_below d11_10 hb); have n2_ := ak (Kd.R_below d11_11 hb); have n3_ := ak (blk_below (g := gb407) (o := .cells #[.int .i64 t404, .int .i64 t405, .string t406] 26 (0, 0)) d11_2 hb); have n4_ := ak (blk_below (g := gb412) (o := .cells #[.int .i64 t408, .slice Ao17 t409.length co17] 30 (0, 0)) d11_3 hb); have n5_ := ak (blk_below (g := gb417) (o := .cells #[.int .i64 t413, .slice Ao24 t414.length co24] 30 (0, 0)) d11_4 hb)
                  have n6_ := ak (blk_below (g := gb432) (o := .cells #[.int .i64 t426, .string t427, .int .i64 t428, .int .i64 t429, .string t430, .int .i64 t431] 35 (0, 0)) d11_7 hb); have n7_ := ak (blk_below (g := gb439) (o := .cells #[.int .i64 t433, .string t434, .int .i64 t435, .int .i64 t436, .string t437, .int .i64 t438] 35 (0, 0)) d11_9 hb); have n8_ := ak (below_step d11_5 hb); have n9_ := ak (hbox); have n10_ := ak ((by rw [hg]; exact (below_size d11_5) : w.heap.size ≤ gb447)); have n11_ := ak ((by rw [hg]; exact (below_size d11_5) : w.heap.size ≤ gb447)); have n12_ := ak ((by rw [hg]; exact Nat.ne_of_lt (blk_lt (g := gb407) (o := .cells #[.int .i64 t404, .int .i64 t405, .string t406] 26 (0, 0)) d11_2) : gb407 ≠ gb447)); have n13_ := ak ((by rw [hg]; exact Nat.ne_of_gt (blk_lt (g := gb407) (o := .cells #[.int .i64 t404, .int .i64 t405, .string t406] 26 (0, 0)) d11_2) : gb447 ≠ gb407)); have n14_ := ak ((by rw [hg]; exact Nat.ne_of_lt (blk_lt (g := gb412) (o := .cells #[.int .i64 t408, .slice Ao17 t409.length co17] 30 (0, 0)) d11_3) : gb412 ≠ gb447)); have n15_ := ak ((by rw [hg]; exact Nat.ne_of_gt (blk_lt (g := gb412) (o := .cells #[.int .i64 t408, .slice Ao17 t409.length co17] 30 (0, 0)) d11_3) : gb447 ≠ gb412)); have n16_ := ak ((by rw [hg]; exact Nat.ne_of_lt (blk_lt (g := gb417) (o := .cells #[.int .i64 t413, .slice Ao24 t414.length co24] 30 (0, 0)) d11_4) : gb417 ≠ gb447))
                  have n17_ := ak ((by rw [hg]; exact Nat.ne_of_gt (blk_lt (g := gb417) (o := .cells #[.int .i64 t413, .slice Ao24 t414.length co24] 30 (0, 0)) d11_4) : gb447 ≠ gb417)); have n18_ := ak ((by rw [hg]; exact Nat.ne_of_lt (blk_lt (g := gb432) (o := .cells #[.int .i64 t426, .string t427, .int .i64 t428, .int .i64 t429, .string t430, .int .i64 t431] 35 (0, 0)) d11_7) : gb432 ≠ gb447)); have n19_ := ak ((by rw [hg]; exact Nat.ne_of_gt (blk_lt (g := gb432) (o := .cells #[.int .i64 t426, .string t427, .int .i64 t428, .int .i64 t429, .string t430, .int .i64 t431] 35 (0, 0)) d11_7) : gb447 ≠ gb432)); have n20_ := ak ((by rw [hg]; exact Nat.ne_of_lt (blk_lt (g := gb439) (o := .cells #[.int .i64 t433, .string t434, .int .i64 t435, .int .i64 t436, .string t437, .int .i64 t438] 35 (0, 0)) d11_9) : gb439 ≠ gb447)); have n21_ := ak ((by rw [hg]; exact Nat.ne_of_gt (blk_lt (g := gb439) (o := .cells #[.int .i64 t433, .string t434, .int .i64 t435, .int .i64 t436, .string t437, .int .i64 t438] 35 (0, 0)) d11_9) : gb447 ≠ gb439)); clear HO_3; clear HO_413001; clear HO_418001; clear BK407; clear BK412; clear BK417; clear BK432; clear BK439; clear HB; have HO_3 := n0_; have HO_413001 := n1_; have HO_418001 := n2_; have BK407 := n3_; have BK412 := n4_; have BK417 := n5_; have BK432 := n6_; have BK439 := n7_; have HB := n8_; have BK447 := n9_; have GW447 := n10_; have GE447 := n11_; have NB407_447 := n12_; have NB447_407 := n13_; have NB412_447 := n14_
                  have NB447_412 := n15_; have NB417_447 := n16_; have NB447_417 := n17_; have NB432_447 := n18_; have NB447_432 := n19_; have NB439_447 := n20_; have NB447_439 := n21_; clear n0_ n1_ n2_ n3_ n4_ n5_ n6_ n7_ n8_ n9_ n10_ n11_ n12_ n13_ n14_ n15_ n16_ n17_ n18_ n19_ n20_ n21_; clear hb hbox hg; refine hK.out _ _ ⟨(blk_cell BK412.out 0).trans rfl, (blk_cell BK412.out 1).trans rfl, HS2_, HS3_, HS4_, HS5_, HS6_⟩ (fun hHeld => ?_); clear hK K; refine norm_ (a' := ?_) ?_ ?_; rotate_left
                  · show Act.put _ (some 11) _ = _
                    simp only [Act.put, List.setIfInBounds_toArray, List.set_cons_zero, List.set_cons_succ, i64_w, i32_w]; rfl
                  exact norm_ (by simp only [putAll, Act.put, List.setIfInBounds_toArray, List.set_cons_zero, List.set_cons_succ]) (hCont (gb447) _ ⟨hHeld, d11_14, d11_10, d11_11, d11_2, d11_3, d11_4, d11_7, d11_9, (by (with_reducible repeat first | apply b11N | apply b11D | apply b11L); exact BK447.out), GW447.out, GE447.out, NB407_447.out, NB447_407.out, NB412_447.out, NB447_412.out, NB417_447.out, NB447_417.out, NB432_447.out, NB447_432.out, NB439_447.out, NB447_439.out, d11_19⟩)
                · skip
                  refine box_step ?hg (N := 11) ?hd (cs := #[.int .i64 0, .string (⟨#[]⟩ : ByteArray), .int .i64 0, .int .i64 0, .string (⟨#[]⟩ : ByteArray), .int .i64 0]) (t := 35) ?hr ?_; (case hd => rfl); (case hg => rfl); (case hr => first | (go_simp; done) | (go_simp; rfl)); intro gb447 hg w65 hbox hb; have HS2_ := (hb.cell (World.block_lt_of_cell? _ _ (hHeld.2.2.1))).trans (hHeld.2.2.1); have HS3_ := (hb.cell (World.block_lt_of_cell? _ _ (hHeld.2.2.2.1))).trans (hHeld.2.2.2.1); have HS4_ := (hb.cell (World.block_lt_of_cell? _ _ (hHeld.2.2.2.2.1))).trans (hHeld.2.2.2.2.1); have HS5_ := (hb.cell (World.block_lt_of_cell? _ _ (hHeld.2.2.2.2.2.1))).trans (hHeld.2.2.2.2.2.1); have HS6_ := (hb.cell (World.block_lt_of_cell? _ _ (hHeld.2.2.2.2.2.2))).trans (hHeld.2.2.2.2.2.2); have n0_ := ak (Kd.R_below d11_14 hb); have n1_ := ak (Kd.R_below d11_10 hb); have n2_ := ak (Kd.R_below d11_11 hb); have n3_ := ak (blk_below (g := gb407) (o := .cells #[.int .i64 t404, .int .i64 t405, .string t406] 26 (0, 0)) d11_2 hb); have n4_ := ak (blk_below (g := gb412) (o := .cells #[.int .i64 t408, .slice Ao17 t409.length co17] 30 (0, 0)) d11_3 hb); have n5_ := ak (blk_below (g := gb417) (o := .cells #[.int .i64 t413, .slice Ao24 t414.length co24] 30 (0, 0)) d11_4 hb); have n6_ := ak (blk_below (g := gb432) (o := .cells #[.int .i64 t426, .string t427, .int .i64 t428, .int .i64 t429, .string t430, .int .i64 t431] 35 (0, 0)) d11_7 hb)
                  have n7_ := ak (blk_below (g := gb439) (o := .cells #[.int .i64 t433, .string t434, .int .i64 t435, .int .i64 t436, .string t437, .int .i64 t438] 35 (0, 0)) d11_9 hb); have n8_ := ak (below_step d11_5 hb); have n9_ := ak (hbox); have n10_ := ak ((by rw [hg]; exact (below_size d11_5) : w.heap.size ≤ gb447)); have n11_ := ak ((by rw [hg]; exact (below_size d11_5) : w.heap.size ≤ gb447)); have n12_ := ak ((by rw [hg]; exact Nat.ne_of_lt (blk_lt (g := gb407) (o := .cells #[.int .i64 t404, .int .i64 t405, .string t406] 26 (0, 0)) d11_2) : gb407 ≠ gb447)); have n13_ := ak ((by rw [hg]; exact Nat.ne_of_gt (blk_lt (g := gb407) (o := .cells #[.int .i64 t404, .int .i64 t405, .string t406] 26 (0, 0)) d11_2) : gb447 ≠ gb407)); have n14_ := ak ((by rw [hg]; exact Nat.ne_of_lt (blk_lt (g := gb412) (o := .cells #[.int .i64 t408, .slice Ao17 t409.length co17] 30 (0, 0)) d11_3) : gb412 ≠ gb447)); have n15_ := ak ((by rw [hg]; exact Nat.ne_of_gt (blk_lt (g := gb412) (o := .cells #[.int .i64 t408, .slice Ao17 t409.length co17] 30 (0, 0)) d11_3) : gb447 ≠ gb412)); have n16_ := ak ((by rw [hg]; exact Nat.ne_of_lt (blk_lt (g := gb417) (o := .cells #[.int .i64 t413, .slice Ao24 t414.length co24] 30 (0, 0)) d11_4) : gb417 ≠ gb447)); have n17_ := ak ((by rw [hg]; exact Nat.ne_of_gt (blk_lt (g := gb417) (o := .cells #[.int .i64 t413, .slice Ao24 t414.length co24] 30 (0, 0)) d11_4) : gb447 ≠ gb417))
                  have n18_ := ak ((by rw [hg]; exact Nat.ne_of_lt (blk_lt (g := gb432) (o := .cells #[.int .i64 t426, .string t427, .int .i64 t428, .int .i64 t429, .string t430, .int .i64 t431] 35 (0, 0)) d11_7) : gb432 ≠ gb447)); have n19_ := ak ((by rw [hg]; exact Nat.ne_of_gt (blk_lt (g := gb432) (o := .cells #[.int .i64 t426, .string t427, .int .i64 t428, .int .i64 t429, .string t430, .int .i64 t431] 35 (0, 0)) d11_7) : gb447 ≠ gb432)); have n20_ := ak ((by rw [hg]; exact Nat.ne_of_lt (blk_lt (g := gb439) (o := .cells #[.int .i64 t433, .string t434, .int .i64 t435, .int .i64 t436, .string t437, .int .i64 t438] 35 (0, 0)) d11_9) : gb439 ≠ gb447)); have n21_ := ak ((by rw [hg]; exact Nat.ne_of_gt (blk_lt (g := gb439) (o := .cells #[.int .i64 t433, .string t434, .int .i64 t435, .int .i64 t436, .string t437, .int .i64 t438] 35 (0, 0)) d11_9) : gb447 ≠ gb439)); clear HO_3; clear HO_413001; clear HO_418001; clear BK407; clear BK412; clear BK417; clear BK432; clear BK439; clear HB; have HO_3 := n0_; have HO_413001 := n1_; have HO_418001 := n2_; have BK407 := n3_; have BK412 := n4_; have BK417 := n5_; have BK432 := n6_; have BK439 := n7_; have HB := n8_; have BK447 := n9_; have GW447 := n10_; have GE447 := n11_; have NB407_447 := n12_; have NB447_407 := n13_; have NB412_447 := n14_; have NB447_412 := n15_; have NB417_447 := n16_; have NB447_417 := n17_; have NB432_447 := n18_; have NB447_432 := n19_; have NB439_447 := n20_; have NB447_439 := n21_
                  clear n0_ n1_ n2_ n3_ n4_ n5_ n6_ n7_ n8_ n9_ n10_ n11_ n12_ n13_ n14_ n15_ n16_ n17_ n18_ n19_ n20_ n21_; clear hb hbox hg; refine hK.out _ _ ⟨(blk_cell BK412.out 0).trans rfl, (blk_cell BK412.out 1).trans rfl, HS2_, HS3_, HS4_, HS5_, HS6_⟩ (fun hHeld => ?_); clear hK K; refine norm_ (a' := ?_) ?_ ?_; rotate_left
                  · show Act.put _ (some 11) _ = _
                    simp only [Act.put, List.setIfInBounds_toArray, List.set_cons_zero, List.set_cons_succ, i64_w, i32_w]; rfl
                  refine one_ (i := 7) (N := some 69) #[true, true, true, true, true, true, true, true, true, false] rfl rfl (one_of HT_.out (by kernel_rfl)) (by decide) (fun K hK => ?_); refine goes_ Tryd.func10 (by kernel_rfl) rfl #[.slice Ao17 t409.length co17, .string ((rd_T33 t400 x10_3).f0)] (by rfl) rfl rfl d11_8 ?_; with_reducible refine (impl_LookGlobal.calls kj56 _ _ t409 ((rd_T33 t400 x10_3).f0) t441 t442 t443 t444 t445 t446 _ ?side1 ?side2 A62.out).mono ?_
                  (case side1 => exact c11_18)
                  (case side2 => exact (Kd.R_reads' HO_413001.out).2.1)
                  rintro e w66 ⟨rfl, hb⟩; have HS2_ := (hb.cell (World.block_lt_of_cell? _ _ (hHeld.2.2.1))).trans (hHeld.2.2.1); have HS3_ := (hb.cell (World.block_lt_of_cell? _ _ (hHeld.2.2.2.1))).trans (hHeld.2.2.2.1); have HS4_ := (hb.cell (World.block_lt_of_cell? _ _ (hHeld.2.2.2.2.1))).trans (hHeld.2.2.2.2.1); have HS5_ := (hb.cell (World.block_lt_of_cell? _ _ (hHeld.2.2.2.2.2.1))).trans (hHeld.2.2.2.2.2.1); have HS6_ := (hb.cell (World.block_lt_of_cell? _ _ (hHeld.2.2.2.2.2.2))).trans (hHeld.2.2.2.2.2.2); refine ⟨_, rfl, ?_⟩; have n0_ := ak (Kd.R_below d11_14 hb); have n1_ := ak (Kd.R_below d11_10 hb); have n2_ := ak (Kd.R_below d11_11 hb); have n3_ := ak (blk_below (g := gb407) (o := .cells #[.int .i64 t404, .int .i64 t405, .string t406] 26 (0, 0)) d11_2 hb); have n4_ := ak (blk_below (g := gb412) (o := .cells #[.int .i64 t408, .slice Ao17 t409.length co17] 30 (0, 0)) d11_3 hb); have n5_ := ak (blk_below (g := gb417) (o := .cells #[.int .i64 t413, .slice Ao24 t414.length co24] 30 (0, 0)) d11_4 hb); have n6_ := ak (blk_below (g := gb432) (o := .cells #[.int .i64 t426, .string t427, .int .i64 t428, .int .i64 t429, .string t430, .int .i64 t431] 35 (0, 0)) d11_7 hb); have n7_ := ak (blk_below (g := gb439) (o := .cells #[.int .i64 t433, .string t434, .int .i64 t435, .int .i64 t436, .string t437, .int .i64 t438] 35 (0, 0)) d11_9 hb)
                  have n8_ := ak (blk_below (g := gb447) (o := .cells #[.int .i64 0, .string (⟨#[]⟩ : ByteArray), .int .i64 0, .int .i64 0, .string (⟨#[]⟩ : ByteArray), .int .i64 0] 35 (0, 0)) (by (with_reducible repeat first | apply b11N | apply b11D | apply b11L); exact BK447.out) hb); have n9_ := ak (below_step d11_19 hb); clear HO_3; clear HO_413001; clear HO_418001; clear BK407; clear BK412; clear BK417; clear BK432; clear BK439; clear BK447; clear HB; have HO_3 := n0_; have HO_413001 := n1_; have HO_418001 := n2_; have BK407 := n3_; have BK412 := n4_; have BK417 := n5_; have BK432 := n6_; have BK439 := n7_; have BK447 := n8_; have HB := n9_; clear n0_ n1_ n2_ n3_ n4_ n5_ n6_ n7_ n8_ n9_
                  (try clear hb)
                  (try clear hb2)
                  (try clear hk)
                  (try clear hi)
                  refine hK.out _ _ ⟨(blk_cell BK412.out 0).trans rfl, (blk_cell BK412.out 1).trans rfl, HS2_, HS3_, HS4_, HS5_, HS6_⟩ (fun hHeld => ?_); clear hK K; refine norm_ (a' := ?_) ?_ ?_; rotate_left
                  · show Act.put _ (some 69) _ = _
                    simp only [Act.put, List.setIfInBounds_toArray, List.set_cons_zero, List.set_cons_succ, i64_w, i32_w]; rfl
                  exact norm_ (by simp only [putAll, Act.put, List.setIfInBounds_toArray, List.set_cons_zero, List.set_cons_succ]) (hCont (gb447) _ ⟨hHeld, d11_14, d11_10, d11_11, d11_2, d11_3, d11_4, d11_7, d11_9, (by (with_reducible repeat first | apply b11N | apply b11D | apply b11L); exact BK447.out), GW447.out, GE447.out, NB407_447.out, NB447_407.out, NB412_447.out, NB447_412.out, NB417_447.out, NB447_417.out, NB432_447.out, NB447_432.out, NB439_447.out, NB447_439.out, d11_19⟩)
              rintro gb447 w67 ⟨hS_, h0_, h1_, h2_, h3_, h4_, h5_, h6_, h7_, h8_, h9_, h10_, h11_, h12_, h13_, h14_, h15_, h16_, h17_, h18_, h19_, h20_, h21_⟩; have n0_ : Aside0 (Kd.R k33 33 w67 w.heap.size (fun k_ => some k_ ≠ (.slice Ao17 t409.length co17 : Value).ownBlock ∧ some k_ ≠ (.slice Ao24 t414.length co24 : Value).ownBlock) (.slice (some ad440) t400.length co12) t400) := ⟨h0_⟩; have n1_ : Aside0 (Kd.R k33 33 w67 w.heap.size (fun k_ => some k_ ≠ (.slice (some ad440) t400.length co12 : Value).ownBlock ∧ some k_ ≠ (.slice Ao24 t414.length co24 : Value).ownBlock) (.slice Ao17 t409.length co17) t409) := ⟨h1_⟩; have n2_ : Aside0 (Kd.R k33 33 w67 w.heap.size (fun k_ => some k_ ≠ (.slice (some ad440) t400.length co12 : Value).ownBlock ∧ some k_ ≠ (.slice Ao17 t409.length co17 : Value).ownBlock) (.slice Ao24 t414.length co24) t414) := ⟨h2_⟩; have n3_ : Aside0 (w67.heap[gb407]? = some (.cells #[.int .i64 t404, .int .i64 t405, .string t406] 26 (0, 0))) := ⟨h3_⟩; have n4_ : Aside0 (w67.heap[gb412]? = some (.cells #[.int .i64 t408, .slice Ao17 t409.length co17] 30 (0, 0))) := ⟨h4_⟩; have n5_ : Aside0 (w67.heap[gb417]? = some (.cells #[.int .i64 t413, .slice Ao24 t414.length co24] 30 (0, 0))) := ⟨h5_⟩; have n6_ : Aside0 (w67.heap[gb432]? = some (.cells #[.int .i64 t426, .string t427, .int .i64 t428, .int .i64 t429, .string t430, .int .i64 t431] 35 (0, 0))) := ⟨h6_⟩
              have n7_ : Aside0 (w67.heap[gb439]? = some (.cells #[.int .i64 t433, .string t434, .int .i64 t435, .int .i64 t436, .string t437, .int .i64 t438] 35 (0, 0))) := ⟨h7_⟩; have n8_ : Aside0 (w67.heap[gb447]? = some (.cells #[.int .i64 0, .string (⟨#[]⟩ : ByteArray), .int .i64 0, .int .i64 0, .string (⟨#[]⟩ : ByteArray), .int .i64 0] 35 (0, 0))) := ⟨h8_⟩; have n9_ : Aside0 (w.heap.size ≤ gb447) := ⟨h9_⟩; have n10_ : Aside0 (w.heap.size ≤ gb447) := ⟨h10_⟩; have n11_ : Aside0 (gb407 ≠ gb447) := ⟨h11_⟩; have n12_ : Aside0 (gb447 ≠ gb407) := ⟨h12_⟩; have n13_ : Aside0 (gb412 ≠ gb447) := ⟨h13_⟩; have n14_ : Aside0 (gb447 ≠ gb412) := ⟨h14_⟩; have n15_ : Aside0 (gb417 ≠ gb447) := ⟨h15_⟩; have n16_ : Aside0 (gb447 ≠ gb417) := ⟨h16_⟩; have n17_ : Aside0 (gb432 ≠ gb447) := ⟨h17_⟩; have n18_ : Aside0 (gb447 ≠ gb432) := ⟨h18_⟩; have n19_ : Aside0 (gb439 ≠ gb447) := ⟨h19_⟩; have n20_ : Aside0 (gb447 ≠ gb439) := ⟨h20_⟩; have n21_ : Aside0 (Below w.heap.size w w67) := ⟨h21_⟩; clear HO_3; clear HO_413001; clear HO_418001; clear BK407; clear BK412; clear BK417; clear BK432; clear BK439; clear HB; clear h0_ h1_ h2_ h3_ h4_ h5_ h6_ h7_ h8_ h9_ h10_ h11_ h12_ h13_ h14_ h15_ h16_ h17_ h18_ h19_ h20_ h21_; have HO_3 := n0_; have HO_413001 := n1_; have HO_418001 := n2_; have BK407 := n3_; have BK412 := n4_; have BK417 := n5_; have BK432 := n6_; have BK439 := n7_; have BK447 := n8_; have GW447 := n9_; have GE447 := n10_; have NB407_447 := n11_; have NB447_407 := n12_
              have NB412_447 := n13_; have NB447_412 := n14_; have NB417_447 := n15_; have NB447_417 := n16_; have NB432_447 := n17_; have NB447_432 := n18_; have NB439_447 := n19_; have NB447_439 := n20_; have HB := n21_; clear n0_ n1_ n2_ n3_ n4_ n5_ n6_ n7_ n8_ n9_ n10_ n11_ n12_ n13_ n14_ n15_ n16_ n17_ n18_ n19_ n20_ n21_; have hHeld : w67.cell? ⟨gb412, 0, none⟩ = some (.int .i64 t408) ∧ w67.cell? ⟨gb412, 1, none⟩ = some (.slice Ao17 t409.length co17) ∧ w67.cell? (ad440.add ((x10_3).toNat * 5)) = some (.string ((rd_T33 t400 x10_3).f0)) ∧ w67.cell? ⟨(ad440.add ((x10_3).toNat * 5)).block, (ad440.add ((x10_3).toNat * 5)).off + 1, none⟩ = some (.int .i64 ((rd_T33 t400 x10_3).f1.f0)) ∧ w67.cell? ⟨(ad440.add ((x10_3).toNat * 5)).block, (ad440.add ((x10_3).toNat * 5)).off + 2, none⟩ = some (.int .i64 ((rd_T33 t400 x10_3).f1.f1)) ∧ w67.cell? ⟨(ad440.add ((x10_3).toNat * 5)).block, (ad440.add ((x10_3).toNat * 5)).off + 3, none⟩ = some (.string ((rd_T33 t400 x10_3).f1.f2)) ∧ w67.cell? ⟨(ad440.add ((x10_3).toNat * 5)).block, (ad440.add ((x10_3).toNat * 5)).off + 4, none⟩ = some (.int .i64 ((rd_T33 t400 x10_3).f2)) := hS_; refine norm_ (a' := ?_) ?_ ?_; rotate_left
              · simp only [putAll, Act.put, List.setIfInBounds_toArray, List.set_cons_zero, List.set_cons_succ]
                rfl
              refine one_ (i := 9) (N := none) #[true, true, true, true, true, true, true, true, true, true] rfl rfl (one_of HT_.out (by kernel_rfl)) (by decide) (fun K hK => ?_); have hs68 : w67.cell? ⟨gb447, 0, none⟩ = some (.int .i64 0) := (blk_cell BK447.out 0).trans rfl; have hfs68 := blk_frozen BK447.out 0; have hns68_0 := NB407_447.out; have hns68_1 := NB412_447.out; have hns68_2 := NB417_447.out; have hns68_3 := NB432_447.out; have hns68_4 := NB439_447.out; have hms68_0 := NB447_407.out; have hms68_1 := NB447_412.out; have hms68_2 := NB447_417.out; have hms68_3 := NB447_432.out; have hms68_4 := NB447_439.out; have hs69 : w67.cell? ⟨gb447, 1, none⟩ = some (.string (⟨#[]⟩ : ByteArray)) := (blk_cell BK447.out 1).trans rfl; have hfs69 := blk_frozen BK447.out 1; have hns69_0 := NB407_447.out; have hns69_1 := NB412_447.out; have hns69_2 := NB417_447.out; have hns69_3 := NB432_447.out; have hns69_4 := NB439_447.out; have hms69_0 := NB447_407.out; have hms69_1 := NB447_412.out; have hms69_2 := NB447_417.out; have hms69_3 := NB447_432.out; have hms69_4 := NB447_439.out; have hs70 : w67.cell? ⟨gb447, 2, none⟩ = some (.int .i64 0) := (blk_cell BK447.out 2).trans rfl; have hfs70 := blk_frozen BK447.out 2; have hns70_0 := NB407_447.out; have hns70_1 := NB412_447.out; have hns70_2 := NB417_447.out; have hns70_3 := NB432_447.out; have hns70_4 := NB439_447.out; have hms70_0 := NB447_407.out; have hms70_1 := NB447_412.out; have hms70_2 := NB447_417.out
              have hms70_3 := NB447_432.out; have hms70_4 := NB447_439.out; have hs71 : w67.cell? ⟨gb447, 3, none⟩ = some (.int .i64 0) := (blk_cell BK447.out 3).trans rfl; have hfs71 := blk_frozen BK447.out 3; have hns71_0 := NB407_447.out; have hns71_1 := NB412_447.out; have hns71_2 := NB417_447.out; have hns71_3 := NB432_447.out; have hns71_4 := NB439_447.out; have hms71_0 := NB447_407.out; have hms71_1 := NB447_412.out; have hms71_2 := NB447_417.out; have hms71_3 := NB447_432.out; have hms71_4 := NB447_439.out; have hs72 : w67.cell? ⟨gb447, 4, none⟩ = some (.string (⟨#[]⟩ : ByteArray)) := (blk_cell BK447.out 4).trans rfl; have hfs72 := blk_frozen BK447.out 4; have hns72_0 := NB407_447.out; have hns72_1 := NB412_447.out; have hns72_2 := NB417_447.out; have hns72_3 := NB432_447.out; have hns72_4 := NB439_447.out; have hms72_0 := NB447_407.out; have hms72_1 := NB447_412.out; have hms72_2 := NB447_417.out; have hms72_3 := NB447_432.out; have hms72_4 := NB447_439.out; have hs73 : w67.cell? ⟨gb447, 5, none⟩ = some (.int .i64 0) := (blk_cell BK447.out 5).trans rfl; have hfs73 := blk_frozen BK447.out 5; have hns73_0 := NB407_447.out; have hns73_1 := NB412_447.out; have hns73_2 := NB417_447.out; have hns73_3 := NB432_447.out; have hns73_4 := NB439_447.out; have hms73_0 := NB447_407.out; have hms73_1 := NB447_412.out; have hms73_2 := NB447_417.out; have hms73_3 := NB447_432.out; have hms73_4 := NB447_439.out; refine skip_ (w1 := ?_) (by rfl) rfl ?_ ?_; rotate_left
              · go_simp
                rfl
              refine hK.out _ _ ⟨((cell_far (p := ⟨gb447, _, none⟩) NB412_447.out _).trans (((cell_far (p := ⟨gb447, _, none⟩) NB412_447.out _).trans (((cell_far (p := ⟨gb447, _, none⟩) NB412_447.out _).trans (((cell_far (p := ⟨gb447, _, none⟩) NB412_447.out _).trans (((cell_far (p := ⟨gb447, _, none⟩) NB412_447.out _).trans (((cell_far (p := ⟨gb447, _, none⟩) NB412_447.out _).trans (hHeld.1)))))))))))), ((cell_far (p := ⟨gb447, _, none⟩) NB412_447.out _).trans (((cell_far (p := ⟨gb447, _, none⟩) NB412_447.out _).trans (((cell_far (p := ⟨gb447, _, none⟩) NB412_447.out _).trans (((cell_far (p := ⟨gb447, _, none⟩) NB412_447.out _).trans (((cell_far (p := ⟨gb447, _, none⟩) NB412_447.out _).trans (((cell_far (p := ⟨gb447, _, none⟩) NB412_447.out _).trans (hHeld.2.1)))))))))))), ((cell_far (p := ⟨gb447, _, none⟩) d11_1 _).trans (((cell_far (p := ⟨gb447, _, none⟩) d11_1 _).trans (((cell_far (p := ⟨gb447, _, none⟩) d11_1 _).trans (((cell_far (p := ⟨gb447, _, none⟩) d11_1 _).trans (((cell_far (p := ⟨gb447, _, none⟩) d11_1 _).trans (((cell_far (p := ⟨gb447, _, none⟩) d11_1 _).trans (hHeld.2.2.1)))))))))))), ((cell_far (p := ⟨gb447, _, none⟩) d11_1 _).trans (((cell_far (p := ⟨gb447, _, none⟩) d11_1 _).trans (((cell_far (p := ⟨gb447, _, none⟩) d11_1 _).trans (((cell_far (p := ⟨gb447, _, none⟩) d11_1 _).trans (((cell_far (p := ⟨gb447, _, none⟩) d11_1 _).trans (((cell_far (p := ⟨gb447, _, none⟩) d11_1 _).trans (hHeld.2.2.2.1)))))))))))), ((cell_far (p := ⟨gb447, _, none⟩) d11_1 _).trans (((cell_far (p := ⟨gb447, _, none⟩) d11_1 _).trans (((cell_far (p := ⟨gb447, _, none⟩) d11_1 _).trans (((cell_far (p := ⟨gb447, _, none⟩) d11_1 _).trans (((cell_far (p := ⟨gb447, _, none⟩) d11_1 _).trans (((cell_far (p := ⟨gb447, _, none⟩) d11_1 _).trans (hHeld.2.2.2.2.1)))))))))))), ((cell_far (p := ⟨gb447, _, none⟩) d11_1 _).trans (((cell_far (p := ⟨gb447, _, none⟩) d11_1 _).trans (((cell_far (p := ⟨gb447, _, none⟩) d11_1 _).trans (((cell_far (p := ⟨gb447, _, none⟩) d11_1 _).trans (((cell_far (p := ⟨gb447, _, none⟩) d11_1 _).trans (((cell_far (p := ⟨gb447, _, none⟩) d11_1 _).trans (hHeld.2.2.2.2.2.1)))))))))))), ((cell_far (p := ⟨gb447, _, none⟩) d11_1 _).trans (((cell_far (p := ⟨gb447, _, none⟩) d11_1 _).trans (((cell_far (p := ⟨gb447, _, none⟩) d11_1 _).trans (((cell_far (p := ⟨gb447, _, none⟩) d11_1 _).trans (((cell_far (p := ⟨gb447, _, none⟩) d11_1 _).trans (((cell_far (p := ⟨gb447, _, none⟩) d11_1 _).trans (hHeld.2.2.2.2.2.2))))))))))))⟩ (fun hHeld => ?_)
              clear hK K; refine done_ (done_of HT_.out (by kernel_rfl)) ?_; go_upto_region 14 with (fail)
              go_cut [85] (fun v85 wc => ∃ (kq : Nat) (x85_62 : Bool), v85 = .bool x85_62 ∧ Aside0 (laws_FnGlobals.j5 kq t400 t403 x10_3 x85_62 t404 t405 t406 t408 t409 t413 t414 t426 t427 t428 t429 t430 t431 t433 t434 t435 t436 t437 t438 = some r) ∧ Aside0 (kq ≤ kj56) ∧ Aside0 (Kd.R k33 33 wc w.heap.size (fun k_ => some k_ ≠ ((.slice Ao17 t409.length co17) : Value).ownBlock ∧ some k_ ≠ ((.slice Ao24 t414.length co24) : Value).ownBlock) (.slice (some ad440) t400.length co12) t400) ∧ Aside0 (Kd.R k33 33 wc w.heap.size (fun k_ => some k_ ≠ ((.slice (some ad440) t400.length co12) : Value).ownBlock ∧ some k_ ≠ ((.slice Ao24 t414.length co24) : Value).ownBlock) (.slice Ao17 t409.length co17) t409) ∧ Aside0 (Kd.R k33 33 wc w.heap.size (fun k_ => some k_ ≠ ((.slice (some ad440) t400.length co12) : Value).ownBlock ∧ some k_ ≠ ((.slice Ao17 t409.length co17) : Value).ownBlock) (.slice Ao24 t414.length co24) t414) ∧ Aside0 (wc.heap[gb407]? = some (.cells #[.int .i64 t404, .int .i64 t405, .string t406] 26 (0, 0))) ∧ Aside0 (wc.heap[gb412]? = some (.cells #[.int .i64 t408, (.slice Ao17 t409.length co17)] 30 (0, 0))) ∧ Aside0 (wc.heap[gb417]? = some (.cells #[.int .i64 t413, (.slice Ao24 t414.length co24)] 30 (0, 0))) ∧ Aside0 (wc.heap[gb432]? = some (.cells #[.int .i64 t426, .string t427, .int .i64 t428, .int .i64 t429, .string t430, .int .i64 t431] 35 (0, 0))) ∧ Aside0 (wc.heap[gb439]? = some (.cells #[.int .i64 t433, .string t434, .int .i64 t435, .int .i64 t436, .string t437, .int .i64 t438] 35 (0, 0))) ∧ Aside0 (wc.heap[gb447]? = some (.cells #[.int .i64 t441, .string t442, .int .i64 t443, .int .i64 t444, .string t445, .int .i64 t446] 35 (0, 0))) ∧ Aside0 (Below w.heap.size w wc))
              case first =>
               have H := HC63.out; clear HC63; by_cases c74 : ((rd_T33 t400 x10_3).f0).toList = t403.toList
               ·rw [if_pos c74] at H
                have c74b0 : (((rd_T33 t400 x10_3).f0).toList == t403.toList) = true := beq_iff_eq.mpr c74; have c74b1 : (((rd_T33 t400 x10_3).f0).toList != t403.toList) = false := bne_eq_false_iff_eq.mpr c74; clear c74
                (first | rw [c74b0] | (simp only [i64_w, i32_w]; rw [c74b0]) | skip)
                have H' := ak H; clear H
                try go_wp2
                have n0_ : Aside0 (Kd.R k33 33 ((((((w67.setCell ⟨gb447, 0, none⟩ (.int .i64 t441)).setCell ⟨gb447, 1, none⟩ (.string t442)).setCell ⟨gb447, 2, none⟩ (.int .i64 t443)).setCell ⟨gb447, 3, none⟩ (.int .i64 t444)).setCell ⟨gb447, 4, none⟩ (.string t445)).setCell ⟨gb447, 5, none⟩ (.int .i64 t446)) w.heap.size (fun k_ => some k_ ≠ (.slice Ao17 t409.length co17 : Value).ownBlock ∧ some k_ ≠ (.slice Ao24 t414.length co24 : Value).ownBlock) (.slice (some ad440) t400.length co12) t400) := ⟨by (with_reducible repeat (first | apply Kd.R_alloc | apply Kd.R_drewN | apply Kd.R_drew)); exact Kd.R_mono (Kd.R_far (p := ⟨gb447, 5, none⟩) (Kd.R_far (p := ⟨gb447, 4, none⟩) (Kd.R_far (p := ⟨gb447, 3, none⟩) (Kd.R_far (p := ⟨gb447, 2, none⟩) (Kd.R_far (p := ⟨gb447, 1, none⟩) (Kd.R_far (p := ⟨gb447, 0, none⟩) (Kd.R_types HO_3.out BK447.out (by decide)) (fun _ hk => hk.2) (.int .i64 t441)) (fun _ hk => hk.2) (.string t442)) (fun _ hk => hk.2) (.int .i64 t443)) (fun _ hk => hk.2) (.int .i64 t444)) (fun _ hk => hk.2) (.string t445)) (fun _ hk => hk.2) (.int .i64 t446)) (fun _ hk => ⟨hk.1.1, hk.1.2⟩)⟩
                have n1_ : Aside0 (Kd.R k33 33 ((((((w67.setCell ⟨gb447, 0, none⟩ (.int .i64 t441)).setCell ⟨gb447, 1, none⟩ (.string t442)).setCell ⟨gb447, 2, none⟩ (.int .i64 t443)).setCell ⟨gb447, 3, none⟩ (.int .i64 t444)).setCell ⟨gb447, 4, none⟩ (.string t445)).setCell ⟨gb447, 5, none⟩ (.int .i64 t446)) w.heap.size (fun k_ => some k_ ≠ (.slice (some ad440) t400.length co12 : Value).ownBlock ∧ some k_ ≠ (.slice Ao24 t414.length co24 : Value).ownBlock) (.slice Ao17 t409.length co17) t409) := ⟨by (with_reducible repeat (first | apply Kd.R_alloc | apply Kd.R_drewN | apply Kd.R_drew)); exact Kd.R_mono (Kd.R_far (p := ⟨gb447, 5, none⟩) (Kd.R_far (p := ⟨gb447, 4, none⟩) (Kd.R_far (p := ⟨gb447, 3, none⟩) (Kd.R_far (p := ⟨gb447, 2, none⟩) (Kd.R_far (p := ⟨gb447, 1, none⟩) (Kd.R_far (p := ⟨gb447, 0, none⟩) (Kd.R_types HO_413001.out BK447.out (by decide)) (fun _ hk => hk.2) (.int .i64 t441)) (fun _ hk => hk.2) (.string t442)) (fun _ hk => hk.2) (.int .i64 t443)) (fun _ hk => hk.2) (.int .i64 t444)) (fun _ hk => hk.2) (.string t445)) (fun _ hk => hk.2) (.int .i64 t446)) (fun _ hk => ⟨hk.1.1, hk.1.2⟩)⟩
                have n2_ : Aside0 (Kd.R k33 33 ((((((w67.setCell ⟨gb447, 0, none⟩ (.int .i64 t441)).setCell ⟨gb447, 1, none⟩ (.string t442)).setCell ⟨gb447, 2, none⟩ (.int .i64 t443)).setCell ⟨gb447, 3, none⟩ (.int .i64 t444)).setCell ⟨gb447, 4, none⟩ (.string t445)).setCell ⟨gb447, 5, none⟩ (.int .i64 t446)) w.heap.size (fun k_ => some k_ ≠ (.slice (some ad440) t400.length co12 : Value).ownBlock ∧ some k_ ≠ (.slice Ao17 t409.length co17 : Value).ownBlock) (.slice Ao24 t414.length co24) t414) := ⟨by (with_reducible repeat (first | apply Kd.R_alloc | apply Kd.R_drewN | apply Kd.R_drew)); exact Kd.R_mono (Kd.R_far (p := ⟨gb447, 5, none⟩) (Kd.R_far (p := ⟨gb447, 4, none⟩) (Kd.R_far (p := ⟨gb447, 3, none⟩) (Kd.R_far (p := ⟨gb447, 2, none⟩) (Kd.R_far (p := ⟨gb447, 1, none⟩) (Kd.R_far (p := ⟨gb447, 0, none⟩) (Kd.R_types HO_418001.out BK447.out (by decide)) (fun _ hk => hk.2) (.int .i64 t441)) (fun _ hk => hk.2) (.string t442)) (fun _ hk => hk.2) (.int .i64 t443)) (fun _ hk => hk.2) (.int .i64 t444)) (fun _ hk => hk.2) (.string t445)) (fun _ hk => hk.2) (.int .i64 t446)) (fun _ hk => ⟨hk.1.1, hk.1.2⟩)⟩
                have n3_ : Aside0 (((((((w67.setCell ⟨gb447, 0, none⟩ (.int .i64 t441)).setCell ⟨gb447, 1, none⟩ (.string t442)).setCell ⟨gb447, 2, none⟩ (.int .i64 t443)).setCell ⟨gb447, 3, none⟩ (.int .i64 t444)).setCell ⟨gb447, 4, none⟩ (.string t445)).setCell ⟨gb447, 5, none⟩ (.int .i64 t446)).heap[gb407]? = some (.cells #[.int .i64 t404, .int .i64 t405, .string t406] 26 (0, 0))) := ⟨c11_11⟩
                have n4_ : Aside0 (((((((w67.setCell ⟨gb447, 0, none⟩ (.int .i64 t441)).setCell ⟨gb447, 1, none⟩ (.string t442)).setCell ⟨gb447, 2, none⟩ (.int .i64 t443)).setCell ⟨gb447, 3, none⟩ (.int .i64 t444)).setCell ⟨gb447, 4, none⟩ (.string t445)).setCell ⟨gb447, 5, none⟩ (.int .i64 t446)).heap[gb412]? = some (.cells #[.int .i64 t408, .slice Ao17 t409.length co17] 30 (0, 0))) := ⟨c11_12⟩
                have n5_ : Aside0 (((((((w67.setCell ⟨gb447, 0, none⟩ (.int .i64 t441)).setCell ⟨gb447, 1, none⟩ (.string t442)).setCell ⟨gb447, 2, none⟩ (.int .i64 t443)).setCell ⟨gb447, 3, none⟩ (.int .i64 t444)).setCell ⟨gb447, 4, none⟩ (.string t445)).setCell ⟨gb447, 5, none⟩ (.int .i64 t446)).heap[gb417]? = some (.cells #[.int .i64 t413, .slice Ao24 t414.length co24] 30 (0, 0))) := ⟨c11_13⟩
                have n6_ : Aside0 (((((((w67.setCell ⟨gb447, 0, none⟩ (.int .i64 t441)).setCell ⟨gb447, 1, none⟩ (.string t442)).setCell ⟨gb447, 2, none⟩ (.int .i64 t443)).setCell ⟨gb447, 3, none⟩ (.int .i64 t444)).setCell ⟨gb447, 4, none⟩ (.string t445)).setCell ⟨gb447, 5, none⟩ (.int .i64 t446)).heap[gb432]? = some (.cells #[.int .i64 t426, .string t427, .int .i64 t428, .int .i64 t429, .string t430, .int .i64 t431] 35 (0, 0))) := ⟨c11_14⟩
                have n7_ : Aside0 (((((((w67.setCell ⟨gb447, 0, none⟩ (.int .i64 t441)).setCell ⟨gb447, 1, none⟩ (.string t442)).setCell ⟨gb447, 2, none⟩ (.int .i64 t443)).setCell ⟨gb447, 3, none⟩ (.int .i64 t444)).setCell ⟨gb447, 4, none⟩ (.string t445)).setCell ⟨gb447, 5, none⟩ (.int .i64 t446)).heap[gb439]? = some (.cells #[.int .i64 t433, .string t434, .int .i64 t435, .int .i64 t436, .string t437, .int .i64 t438] 35 (0, 0))) := ⟨c11_15⟩
                have n8_ : Aside0 (((((((w67.setCell ⟨gb447, 0, none⟩ (.int .i64 t441)).setCell ⟨gb447, 1, none⟩ (.string t442)).setCell ⟨gb447, 2, none⟩ (.int .i64 t443)).setCell ⟨gb447, 3, none⟩ (.int .i64 t444)).setCell ⟨gb447, 4, none⟩ (.string t445)).setCell ⟨gb447, 5, none⟩ (.int .i64 t446)).heap[gb447]? = some (.cells #[.int .i64 t441, .string t442, .int .i64 t443, .int .i64 t444, .string t445, .int .i64 t446] 35 (0, 0))) := ⟨by (with_reducible repeat first | apply b11N | apply b11D | apply b11L); refine blk_put (cs := #[.int .i64 t441, .string t442, .int .i64 t443, .int .i64 t444, .string t445, .int .i64 0]) ?_ 5 _ rfl; (with_reducible repeat first | apply b11N | apply b11D | apply b11L); refine blk_put (cs := #[.int .i64 t441, .string t442, .int .i64 t443, .int .i64 t444, .string (⟨#[]⟩ : ByteArray), .int .i64 0]) ?_ 4 _ rfl; (with_reducible repeat first | apply b11N | apply b11D | apply b11L); refine blk_put (cs := #[.int .i64 t441, .string t442, .int .i64 t443, .int .i64 0, .string (⟨#[]⟩ : ByteArray), .int .i64 0]) ?_ 3 _ rfl; (with_reducible repeat first | apply b11N | apply b11D | apply b11L); refine blk_put (cs := #[.int .i64 t441, .string t442, .int .i64 0, .int .i64 0, .string (⟨#[]⟩ : ByteArray), .int .i64 0]) ?_ 2 _ rfl; (with_reducible repeat first | apply b11N | apply b11D | apply b11L); refine blk_put (cs := #[.int .i64 t441, .string (⟨#[]⟩ : ByteArray), .int .i64 0, .int .i64 0, .string (⟨#[]⟩ : ByteArray), .int .i64 0]) ?_ 1 _ rfl; (with_reducible repeat first | apply b11N | apply b11D | apply b11L); refine blk_put (cs := #[.int .i64 0, .string (⟨#[]⟩ : ByteArray), .int .i64 0, .int .i64 0, .string (⟨#[]⟩ : ByteArray), .int .i64 0]) ?_ 0 _ rfl; (with_reducible repeat first | apply b11N | apply b11D | apply b11L); exact BK447.out⟩
                have n9_ : Aside0 (Below w.heap.size w ((((((w67.setCell ⟨gb447, 0, none⟩ (.int .i64 t441)).setCell ⟨gb447, 1, none⟩ (.string t442)).setCell ⟨gb447, 2, none⟩ (.int .i64 t443)).setCell ⟨gb447, 3, none⟩ (.int .i64 t444)).setCell ⟨gb447, 4, none⟩ (.string t445)).setCell ⟨gb447, 5, none⟩ (.int .i64 t446))) := ⟨c11_2⟩
                (try clear HO_3)
                (try clear HO_413001)
                (try clear HO_418001)
                (try clear BK407)
                (try clear BK412)
                (try clear BK417)
                (try clear BK432)
                (try clear BK439)
                (try clear BK447)
                (try clear HB)
                generalize ((((((w67.setCell ⟨gb447, 0, none⟩ (.int .i64 t441)).setCell ⟨gb447, 1, none⟩ (.string t442)).setCell ⟨gb447, 2, none⟩ (.int .i64 t443)).setCell ⟨gb447, 3, none⟩ (.int .i64 t444)).setCell ⟨gb447, 4, none⟩ (.string t445)).setCell ⟨gb447, 5, none⟩ (.int .i64 t446)) = w75 at n0_ n1_ n2_ n3_ n4_ n5_ n6_ n7_ n8_ n9_ ⊢; have HO_3 := n0_; have HO_413001 := n1_; have HO_418001 := n2_; have BK407 := n3_; have BK412 := n4_; have BK417 := n5_; have BK432 := n6_; have BK439 := n7_; have BK447 := n8_; have HB := n9_; clear n0_ n1_ n2_ n3_ n4_ n5_ n6_ n7_ n8_ n9_; have n0_ := ak (Kd.R_drew HO_3.out); have n1_ := ak (Kd.R_drew HO_413001.out); have n2_ := ak (Kd.R_drew HO_418001.out); have n3_ := ak (blk_drew BK407.out); have n4_ := ak (blk_drew BK412.out); have n5_ := ak (blk_drew BK417.out); have n6_ := ak (blk_drew BK432.out); have n7_ := ak (blk_drew BK439.out); have n8_ := ak (blk_drew BK447.out); have n9_ := ak (below_drew1 HB.out); clear HO_3; clear HO_413001; clear HO_418001; clear BK407; clear BK412; clear BK417; clear BK432; clear BK439; clear BK447; clear HB; have HO_3 := n0_; have HO_413001 := n1_; have HO_418001 := n2_; have BK407 := n3_; have BK412 := n4_; have BK417 := n5_; have BK432 := n6_; have BK439 := n7_; have BK447 := n8_; have HB := n9_; clear n0_ n1_ n2_ n3_ n4_ n5_ n6_ n7_ n8_ n9_; have p448 : 0 ≤ (x10_3 : Int) := of_decide_eq_true d11_22; have q448 : x10_3 < (t400.length : Int) := of_decide_eq_true d11_22
                obtain ⟨ad448, e448, hx448_0, hx448_1, hx448_2, hx448_3, hx448_4⟩ := at_T33 (Kd.R_reads' HO_3.out).2.2 x10_3 p448 q448; obtain rfl : ad440 = ad448 := (by injection e448); replace p448 := eq_true p448; replace q448 := eq_true q448; refine start_ (n := 16) (S := fun w' => w'.cell? (ad440.add ((x10_3).toNat * 5)) = some (.string ((rd_T33 t400 x10_3).f0)) ∧ w'.cell? ⟨(ad440.add ((x10_3).toNat * 5)).block, (ad440.add ((x10_3).toNat * 5)).off + 1, none⟩ = some (.int .i64 ((rd_T33 t400 x10_3).f1.f0)) ∧ w'.cell? ⟨(ad440.add ((x10_3).toNat * 5)).block, (ad440.add ((x10_3).toNat * 5)).off + 2, none⟩ = some (.int .i64 ((rd_T33 t400 x10_3).f1.f1)) ∧ w'.cell? ⟨(ad440.add ((x10_3).toNat * 5)).block, (ad440.add ((x10_3).toNat * 5)).off + 3, none⟩ = some (.string ((rd_T33 t400 x10_3).f1.f2)) ∧ w'.cell? ⟨(ad440.add ((x10_3).toNat * 5)).block, (ad440.add ((x10_3).toNat * 5)).off + 4, none⟩ = some (.int .i64 ((rd_T33 t400 x10_3).f2))) (ds := []) #[false, false, false, false, false, false, false, false, false, false, false, false, false, false, false, false] (by kernel_rfl) rfl rfl ⟨hx448_0, hx448_1, hx448_2, hx448_3, hx448_4⟩ (fun hHeld => ?_); refine with_tabW laws_FnGlobals.tab14 laws_FnGlobals.bits14 (fun HT_ HW_ => ?_); generalize w75.drew = w76 at HO_3 HO_413001 HO_418001 BK407 BK412 BK417 BK432 BK439 BK447 HB hx448_0 hx448_1 hx448_2 hx448_3 hx448_4 hHeld ⊢
                refine pure_ (i := 0) (N := some 70) (v := ?_) (a' := ?_) #[true, false, false, false, false, false, false, false, false, false, false, false, false, false, false, false] rfl rfl (any_of HT_.out (by kernel_rfl)) (fun _ _ _ h => h) (Or.inl ⟨by rfl, ?_⟩) ?_ ?_; rotate_left
                · intro w'
                  go_simp; with_reducible rfl
                rotate_left
                · simp only [Act.put, List.setIfInBounds_toArray, List.set_cons_zero, List.set_cons_succ, i64_w, i32_w]
                  rfl
                refine pure_ (i := 1) (N := some 71) (v := ?_) (a' := ?_) #[true, true, false, false, false, false, false, false, false, false, false, false, false, false, false, false] rfl rfl (any_of HT_.out (by kernel_rfl)) (fun _ _ _ h => h) (Or.inl ⟨by rfl, ?_⟩) ?_ ?_; rotate_left
                · intro w'
                  go_simp; with_reducible rfl
                rotate_left
                · simp only [Act.put, List.setIfInBounds_toArray, List.set_cons_zero, List.set_cons_succ, i64_w, i32_w]
                  rfl
                refine pure_ (i := 2) (N := some 72) (v := ?_) (a' := ?_) #[true, true, true, false, false, false, false, false, false, false, false, false, false, false, false, false] rfl rfl (any_of HT_.out (by kernel_rfl)) (fun _ _ _ h => h) (Or.inl ⟨by rfl, ?_⟩) ?_ ?_; rotate_left
                · intro w'
                  go_simp; with_reducible rfl
                rotate_left
                · simp only [Act.put, List.setIfInBounds_toArray, List.set_cons_zero, List.set_cons_succ, i64_w, i32_w]
                  rfl
                refine pure_ (i := 3) (N := some 73) (v := ?_) (a' := ?_) #[true, true, true, true, false, false, false, false, false, false, false, false, false, false, false, false] rfl rfl (any_of HT_.out (by kernel_rfl)) (fun _ _ _ h => h) (Or.inl ⟨by rfl, ?_⟩) ?_ ?_; rotate_left
                · intro w'
                  go_simp; with_reducible rfl
                rotate_left
                · simp only [Act.put, List.setIfInBounds_toArray, List.set_cons_zero, List.set_cons_succ, i64_w, i32_w]
                  rfl
                refine pure_ (i := 5) (N := some 75) (v := ?_) (a' := ?_) #[true, true, true, true, false, true, false, false, false, false, false, false, false, false, false, false] rfl rfl (any_of HT_.out (by kernel_rfl)) (fun _ _ _ h => h) (Or.inl ⟨by rfl, ?_⟩) ?_ ?_; rotate_left
                · intro w'
                  go_simp; with_reducible rfl
                rotate_left
                · simp only [Act.put, List.setIfInBounds_toArray, List.set_cons_zero, List.set_cons_succ, i64_w, i32_w]
                  rfl
                refine take_ (i := 4) (N := some 74) (v := ?_) (a' := ?_) #[true, true, true, true, true, true, false, false, false, false, false, false, false, false, false, false] rfl rfl (take_ofW HT_.out HW_.out (by kernel_rfl)) (fun _ _ _ h => h) (Or.inl ⟨by rfl, ?_⟩) hHeld ?_ ?_; rotate_left
                · rintro w' ⟨s0, s1, s2, s3, s4⟩
                  go_simp; with_reducible rfl
                rotate_left
                · simp only [Act.put, List.setIfInBounds_toArray, List.set_cons_zero, List.set_cons_succ, i64_w, i32_w]
                  rfl
                refine pure_ (i := 6) (N := some 76) (v := ?_) (a' := ?_) #[true, true, true, true, true, true, true, false, false, false, false, false, false, false, false, false] rfl rfl (any_of HT_.out (by kernel_rfl)) (fun _ _ _ h => h) (Or.inl ⟨by rfl, ?_⟩) ?_ ?_; rotate_left
                · intro w'
                  go_simp; with_reducible rfl
                rotate_left
                · simp only [Act.put, List.setIfInBounds_toArray, List.set_cons_zero, List.set_cons_succ, i64_w, i32_w]
                  rfl
                refine pure_ (i := 7) (N := some 77) (v := ?_) (a' := ?_) #[true, true, true, true, true, true, true, true, false, false, false, false, false, false, false, false] rfl rfl (any_of HT_.out (by kernel_rfl)) (fun _ _ _ h => h) (Or.inl ⟨by rfl, ?_⟩) ?_ ?_; rotate_left
                · intro w'
                  go_simp; with_reducible rfl
                rotate_left
                · simp only [Act.put, List.setIfInBounds_toArray, List.set_cons_zero, List.set_cons_succ, i64_w, i32_w]
                  rfl
                refine pure_ (i := 8) (N := some 78) (v := undef) (a' := ?_) #[true, true, true, true, true, true, true, true, true, false, false, false, false, false, false, false] rfl rfl (any_of HT_.out (by kernel_rfl)) (fun _ _ _ h => h) (Or.inr ⟨by rfl, rfl⟩) ?_ ?_; rotate_left
                · simp only [Act.put, List.setIfInBounds_toArray, List.set_cons_zero, List.set_cons_succ, i64_w, i32_w]
                  rfl
                refine pure_ (i := 9) (N := some 79) (v := undef) (a' := ?_) #[true, true, true, true, true, true, true, true, true, true, false, false, false, false, false, false] rfl rfl (any_of HT_.out (by kernel_rfl)) (fun _ _ _ h => h) (Or.inr ⟨by rfl, rfl⟩) ?_ ?_; rotate_left
                · simp only [Act.put, List.setIfInBounds_toArray, List.set_cons_zero, List.set_cons_succ, i64_w, i32_w]
                  rfl
                refine pure_ (i := 10) (N := some 80) (v := undef) (a' := ?_) #[true, true, true, true, true, true, true, true, true, true, true, false, false, false, false, false] rfl rfl (any_of HT_.out (by kernel_rfl)) (fun _ _ _ h => h) (Or.inr ⟨by rfl, rfl⟩) ?_ ?_; rotate_left
                · simp only [Act.put, List.setIfInBounds_toArray, List.set_cons_zero, List.set_cons_succ, i64_w, i32_w]
                  rfl
                refine pure_ (i := 11) (N := some 81) (v := undef) (a' := ?_) #[true, true, true, true, true, true, true, true, true, true, true, true, false, false, false, false] rfl rfl (any_of HT_.out (by kernel_rfl)) (fun _ _ _ h => h) (Or.inr ⟨by rfl, rfl⟩) ?_ ?_; rotate_left
                · simp only [Act.put, List.setIfInBounds_toArray, List.set_cons_zero, List.set_cons_succ, i64_w, i32_w]
                  rfl
                refine pure_ (i := 12) (N := some 82) (v := undef) (a' := ?_) #[true, true, true, true, true, true, true, true, true, true, true, true, true, false, false, false] rfl rfl (any_of HT_.out (by kernel_rfl)) (fun _ _ _ h => h) (Or.inr ⟨by rfl, rfl⟩) ?_ ?_; rotate_left
                · simp only [Act.put, List.setIfInBounds_toArray, List.set_cons_zero, List.set_cons_succ, i64_w, i32_w]
                  rfl
                refine pure_ (i := 13) (N := some 83) (v := undef) (a' := ?_) #[true, true, true, true, true, true, true, true, true, true, true, true, true, true, false, false] rfl rfl (any_of HT_.out (by kernel_rfl)) (fun _ _ _ h => h) (Or.inr ⟨by rfl, rfl⟩) ?_ ?_; rotate_left
                · simp only [Act.put, List.setIfInBounds_toArray, List.set_cons_zero, List.set_cons_succ, i64_w, i32_w]
                  rfl
                refine pure_ (i := 14) (N := some 84) (v := undef) (a' := ?_) #[true, true, true, true, true, true, true, true, true, true, true, true, true, true, true, false] rfl rfl (any_of HT_.out (by kernel_rfl)) (fun _ _ _ h => h) (Or.inr ⟨by rfl, rfl⟩) ?_ ?_; rotate_left
                · simp only [Act.put, List.setIfInBounds_toArray, List.set_cons_zero, List.set_cons_succ, i64_w, i32_w]
                  rfl
                refine pure_ (i := 15) (N := some 85) (v := ?_) (a' := ?_) #[true, true, true, true, true, true, true, true, true, true, true, true, true, true, true, true] rfl rfl (any_of HT_.out (by kernel_rfl)) (fun _ _ _ h => h) (Or.inl ⟨by rfl, ?_⟩) ?_ ?_; rotate_left
                · intro w'
                  go_simp; with_reducible rfl
                rotate_left
                · simp only [Act.put, List.setIfInBounds_toArray, List.set_cons_zero, List.set_cons_succ, i64_w, i32_w]
                  rfl
                refine done_ (done_of HT_.out (by kernel_rfl)) ?_
                try go_wp2
                go_meet
                case rel => exact ⟨_, (false), d11_12, H', ⟨by have := HJ2.out; have := HJ7.out; have := HK3.out; have := HJ56.out; first | omega | exact Nat.le_refl _⟩, ⟨c11_19⟩, ⟨c11_8⟩, ⟨c11_9⟩, ⟨c11_3⟩, ⟨c11_4⟩, ⟨c11_5⟩, ⟨c11_6⟩, ⟨c11_7⟩, ⟨by (with_reducible repeat first | apply b11N | apply b11D | apply b11L); exact BK447.out⟩, ⟨c11_2⟩⟩
               ·rw [if_neg c74] at H
                have c74b0 : (((rd_T33 t400 x10_3).f0).toList == t403.toList) = false := beq_eq_false_iff_ne.mpr c74; have c74b1 : (((rd_T33 t400 x10_3).f0).toList != t403.toList) = true := bne_iff_ne.mpr c74
                (first | rw [c74b0] | (simp only [i64_w, i32_w]; rw [c74b0]) | skip)
                have H' := ak H; clear H
                try go_wp2
                have n0_ : Aside0 (Kd.R k33 33 ((((((w67.setCell ⟨gb447, 0, none⟩ (.int .i64 t441)).setCell ⟨gb447, 1, none⟩ (.string t442)).setCell ⟨gb447, 2, none⟩ (.int .i64 t443)).setCell ⟨gb447, 3, none⟩ (.int .i64 t444)).setCell ⟨gb447, 4, none⟩ (.string t445)).setCell ⟨gb447, 5, none⟩ (.int .i64 t446)) w.heap.size (fun k_ => some k_ ≠ (.slice Ao17 t409.length co17 : Value).ownBlock ∧ some k_ ≠ (.slice Ao24 t414.length co24 : Value).ownBlock) (.slice (some ad440) t400.length co12) t400) := ⟨by (with_reducible repeat (first | apply Kd.R_alloc | apply Kd.R_drewN | apply Kd.R_drew)); exact Kd.R_mono (Kd.R_far (p := ⟨gb447, 5, none⟩) (Kd.R_far (p := ⟨gb447, 4, none⟩) (Kd.R_far (p := ⟨gb447, 3, none⟩) (Kd.R_far (p := ⟨gb447, 2, none⟩) (Kd.R_far (p := ⟨gb447, 1, none⟩) (Kd.R_far (p := ⟨gb447, 0, none⟩) (Kd.R_types HO_3.out BK447.out (by decide)) (fun _ hk => hk.2) (.int .i64 t441)) (fun _ hk => hk.2) (.string t442)) (fun _ hk => hk.2) (.int .i64 t443)) (fun _ hk => hk.2) (.int .i64 t444)) (fun _ hk => hk.2) (.string t445)) (fun _ hk => hk.2) (.int .i64 t446)) (fun _ hk => ⟨hk.1.1, hk.1.2⟩)⟩
                have n1_ : Aside0 (Kd.R k33 33 ((((((w67.setCell ⟨gb447, 0, none⟩ (.int .i64 t441)).setCell ⟨gb447, 1, none⟩ (.string t442)).setCell ⟨gb447, 2, none⟩ (.int .i64 t443)).setCell ⟨gb447, 3, none⟩ (.int .i64 t444)).setCell ⟨gb447, 4, none⟩ (.string t445)).setCell ⟨gb447, 5, none⟩ (.int .i64 t446)) w.heap.size (fun k_ => some k_ ≠ (.slice (some ad440) t400.length co12 : Value).ownBlock ∧ some k_ ≠ (.slice Ao24 t414.length co24 : Value).ownBlock) (.slice Ao17 t409.length co17) t409) := ⟨by (with_reducible repeat (first | apply Kd.R_alloc | apply Kd.R_drewN | apply Kd.R_drew)); exact Kd.R_mono (Kd.R_far (p := ⟨gb447, 5, none⟩) (Kd.R_far (p := ⟨gb447, 4, none⟩) (Kd.R_far (p := ⟨gb447, 3, none⟩) (Kd.R_far (p := ⟨gb447, 2, none⟩) (Kd.R_far (p := ⟨gb447, 1, none⟩) (Kd.R_far (p := ⟨gb447, 0, none⟩) (Kd.R_types HO_413001.out BK447.out (by decide)) (fun _ hk => hk.2) (.int .i64 t441)) (fun _ hk => hk.2) (.string t442)) (fun _ hk => hk.2) (.int .i64 t443)) (fun _ hk => hk.2) (.int .i64 t444)) (fun _ hk => hk.2) (.string t445)) (fun _ hk => hk.2) (.int .i64 t446)) (fun _ hk => ⟨hk.1.1, hk.1.2⟩)⟩
                have n2_ : Aside0 (Kd.R k33 33 ((((((w67.setCell ⟨gb447, 0, none⟩ (.int .i64 t441)).setCell ⟨gb447, 1, none⟩ (.string t442)).setCell ⟨gb447, 2, none⟩ (.int .i64 t443)).setCell ⟨gb447, 3, none⟩ (.int .i64 t444)).setCell ⟨gb447, 4, none⟩ (.string t445)).setCell ⟨gb447, 5, none⟩ (.int .i64 t446)) w.heap.size (fun k_ => some k_ ≠ (.slice (some ad440) t400.length co12 : Value).ownBlock ∧ some k_ ≠ (.slice Ao17 t409.length co17 : Value).ownBlock) (.slice Ao24 t414.length co24) t414) := ⟨by (with_reducible repeat (first | apply Kd.R_alloc | apply Kd.R_drewN | apply Kd.R_drew)); exact Kd.R_mono (Kd.R_far (p := ⟨gb447, 5, none⟩) (Kd.R_far (p := ⟨gb447, 4, none⟩) (Kd.R_far (p := ⟨gb447, 3, none⟩) (Kd.R_far (p := ⟨gb447, 2, none⟩) (Kd.R_far (p := ⟨gb447, 1, none⟩) (Kd.R_far (p := ⟨gb447, 0, none⟩) (Kd.R_types HO_418001.out BK447.out (by decide)) (fun _ hk => hk.2) (.int .i64 t441)) (fun _ hk => hk.2) (.string t442)) (fun _ hk => hk.2) (.int .i64 t443)) (fun _ hk => hk.2) (.int .i64 t444)) (fun _ hk => hk.2) (.string t445)) (fun _ hk => hk.2) (.int .i64 t446)) (fun _ hk => ⟨hk.1.1, hk.1.2⟩)⟩
                have n3_ : Aside0 (((((((w67.setCell ⟨gb447, 0, none⟩ (.int .i64 t441)).setCell ⟨gb447, 1, none⟩ (.string t442)).setCell ⟨gb447, 2, none⟩ (.int .i64 t443)).setCell ⟨gb447, 3, none⟩ (.int .i64 t444)).setCell ⟨gb447, 4, none⟩ (.string t445)).setCell ⟨gb447, 5, none⟩ (.int .i64 t446)).heap[gb407]? = some (.cells #[.int .i64 t404, .int .i64 t405, .string t406] 26 (0, 0))) := ⟨c11_11⟩
                have n4_ : Aside0 (((((((w67.setCell ⟨gb447, 0, none⟩ (.int .i64 t441)).setCell ⟨gb447, 1, none⟩ (.string t442)).setCell ⟨gb447, 2, none⟩ (.int .i64 t443)).setCell ⟨gb447, 3, none⟩ (.int .i64 t444)).setCell ⟨gb447, 4, none⟩ (.string t445)).setCell ⟨gb447, 5, none⟩ (.int .i64 t446)).heap[gb412]? = some (.cells #[.int .i64 t408, .slice Ao17 t409.length co17] 30 (0, 0))) := ⟨c11_12⟩
                have n5_ : Aside0 (((((((w67.setCell ⟨gb447, 0, none⟩ (.int .i64 t441)).setCell ⟨gb447, 1, none⟩ (.string t442)).setCell ⟨gb447, 2, none⟩ (.int .i64 t443)).setCell ⟨gb447, 3, none⟩ (.int .i64 t444)).setCell ⟨gb447, 4, none⟩ (.string t445)).setCell ⟨gb447, 5, none⟩ (.int .i64 t446)).heap[gb417]? = some (.cells #[.int .i64 t413, .slice Ao24 t414.length co24] 30 (0, 0))) := ⟨c11_13⟩
                have n6_ : Aside0 (((((((w67.setCell ⟨gb447, 0, none⟩ (.int .i64 t441)).setCell ⟨gb447, 1, none⟩ (.string t442)).setCell ⟨gb447, 2, none⟩ (.int .i64 t443)).setCell ⟨gb447, 3, none⟩ (.int .i64 t444)).setCell ⟨gb447, 4, none⟩ (.string t445)).setCell ⟨gb447, 5, none⟩ (.int .i64 t446)).heap[gb432]? = some (.cells #[.int .i64 t426, .string t427, .int .i64 t428, .int .i64 t429, .string t430, .int .i64 t431] 35 (0, 0))) := ⟨c11_14⟩
                have n7_ : Aside0 (((((((w67.setCell ⟨gb447, 0, none⟩ (.int .i64 t441)).setCell ⟨gb447, 1, none⟩ (.string t442)).setCell ⟨gb447, 2, none⟩ (.int .i64 t443)).setCell ⟨gb447, 3, none⟩ (.int .i64 t444)).setCell ⟨gb447, 4, none⟩ (.string t445)).setCell ⟨gb447, 5, none⟩ (.int .i64 t446)).heap[gb439]? = some (.cells #[.int .i64 t433, .string t434, .int .i64 t435, .int .i64 t436, .string t437, .int .i64 t438] 35 (0, 0))) := ⟨c11_15⟩
                have n8_ : Aside0 (((((((w67.setCell ⟨gb447, 0, none⟩ (.int .i64 t441)).setCell ⟨gb447, 1, none⟩ (.string t442)).setCell ⟨gb447, 2, none⟩ (.int .i64 t443)).setCell ⟨gb447, 3, none⟩ (.int .i64 t444)).setCell ⟨gb447, 4, none⟩ (.string t445)).setCell ⟨gb447, 5, none⟩ (.int .i64 t446)).heap[gb447]? = some (.cells #[.int .i64 t441, .string t442, .int .i64 t443, .int .i64 t444, .string t445, .int .i64 t446] 35 (0, 0))) := ⟨by (with_reducible repeat first | apply b11N | apply b11D | apply b11L); refine blk_put (cs := #[.int .i64 t441, .string t442, .int .i64 t443, .int .i64 t444, .string t445, .int .i64 0]) ?_ 5 _ rfl; (with_reducible repeat first | apply b11N | apply b11D | apply b11L); refine blk_put (cs := #[.int .i64 t441, .string t442, .int .i64 t443, .int .i64 t444, .string (⟨#[]⟩ : ByteArray), .int .i64 0]) ?_ 4 _ rfl; (with_reducible repeat first | apply b11N | apply b11D | apply b11L); refine blk_put (cs := #[.int .i64 t441, .string t442, .int .i64 t443, .int .i64 0, .string (⟨#[]⟩ : ByteArray), .int .i64 0]) ?_ 3 _ rfl; (with_reducible repeat first | apply b11N | apply b11D | apply b11L); refine blk_put (cs := #[.int .i64 t441, .string t442, .int .i64 0, .int .i64 0, .string (⟨#[]⟩ : ByteArray), .int .i64 0]) ?_ 2 _ rfl; (with_reducible repeat first | apply b11N | apply b11D | apply b11L); refine blk_put (cs := #[.int .i64 t441, .string (⟨#[]⟩ : ByteArray), .int .i64 0, .int .i64 0, .string (⟨#[]⟩ : ByteArray), .int .i64 0]) ?_ 1 _ rfl; (with_reducible repeat first | apply b11N | apply b11D | apply b11L); refine blk_put (cs := #[.int .i64 0, .string (⟨#[]⟩ : ByteArray), .int .i64 0, .int .i64 0, .string (⟨#[]⟩ : ByteArray), .int .i64 0]) ?_ 0 _ rfl; (with_reducible repeat first | apply b11N | apply b11D | apply b11L); exact BK447.out⟩
                have n9_ : Aside0 (Below w.heap.size w ((((((w67.setCell ⟨gb447, 0, none⟩ (.int .i64 t441)).setCell ⟨gb447, 1, none⟩ (.string t442)).setCell ⟨gb447, 2, none⟩ (.int .i64 t443)).setCell ⟨gb447, 3, none⟩ (.int .i64 t444)).setCell ⟨gb447, 4, none⟩ (.string t445)).setCell ⟨gb447, 5, none⟩ (.int .i64 t446))) := ⟨c11_2⟩
                (try clear HO_3)
                (try clear HO_413001)
                (try clear HO_418001)
                (try clear BK407)
                (try clear BK412)
                (try clear BK417)
                (try clear BK432)
                (try clear BK439)
                (try clear BK447)
                (try clear HB)
                generalize ((((((w67.setCell ⟨gb447, 0, none⟩ (.int .i64 t441)).setCell ⟨gb447, 1, none⟩ (.string t442)).setCell ⟨gb447, 2, none⟩ (.int .i64 t443)).setCell ⟨gb447, 3, none⟩ (.int .i64 t444)).setCell ⟨gb447, 4, none⟩ (.string t445)).setCell ⟨gb447, 5, none⟩ (.int .i64 t446)) = w77 at n0_ n1_ n2_ n3_ n4_ n5_ n6_ n7_ n8_ n9_ ⊢; have HO_3 := n0_; have HO_413001 := n1_; have HO_418001 := n2_; have BK407 := n3_; have BK412 := n4_; have BK417 := n5_; have BK432 := n6_; have BK439 := n7_; have BK447 := n8_; have HB := n9_; clear n0_ n1_ n2_ n3_ n4_ n5_ n6_ n7_ n8_ n9_; have n0_ := ak (Kd.R_drew HO_3.out); have n1_ := ak (Kd.R_drew HO_413001.out); have n2_ := ak (Kd.R_drew HO_418001.out); have n3_ := ak (blk_drew BK407.out); have n4_ := ak (blk_drew BK412.out); have n5_ := ak (blk_drew BK417.out); have n6_ := ak (blk_drew BK432.out); have n7_ := ak (blk_drew BK439.out); have n8_ := ak (blk_drew BK447.out); have n9_ := ak (below_drew1 HB.out); clear HO_3; clear HO_413001; clear HO_418001; clear BK407; clear BK412; clear BK417; clear BK432; clear BK439; clear BK447; clear HB; have HO_3 := n0_; have HO_413001 := n1_; have HO_418001 := n2_; have BK407 := n3_; have BK412 := n4_; have BK417 := n5_; have BK432 := n6_; have BK439 := n7_; have BK447 := n8_; have HB := n9_; clear n0_ n1_ n2_ n3_ n4_ n5_ n6_ n7_ n8_ n9_; have p448 : 0 ≤ (x10_3 : Int) := of_decide_eq_true d11_22; have q448 : x10_3 < (t400.length : Int) := of_decide_eq_true d11_22
                obtain ⟨ad448, e448, hx448_0, hx448_1, hx448_2, hx448_3, hx448_4⟩ := at_T33 (Kd.R_reads' HO_3.out).2.2 x10_3 p448 q448; obtain rfl : ad440 = ad448 := (by injection e448); replace p448 := eq_true p448; replace q448 := eq_true q448; have p449 : 0 ≤ (x10_3 : Int) := of_decide_eq_true d11_22; have q449 : x10_3 < (t400.length : Int) := of_decide_eq_true d11_22; obtain ⟨ad449, e449, hx449_0, hx449_1, hx449_2, hx449_3, hx449_4⟩ := at_T33 (Kd.R_reads' HO_3.out).2.2 x10_3 p449 q449; obtain rfl : ad440 = ad449 := (by injection e449); replace p449 := eq_true p449; replace q449 := eq_true q449
                refine start_ (n := 16) (S := fun w' => w'.cell? ⟨gb447, 0, none⟩ = some (.int .i64 t441) ∧ w'.cell? ⟨gb447, 1, none⟩ = some (.string t442) ∧ w'.cell? ⟨gb447, 2, none⟩ = some (.int .i64 t443) ∧ w'.cell? ⟨gb447, 3, none⟩ = some (.int .i64 t444) ∧ w'.cell? ⟨gb447, 4, none⟩ = some (.string t445) ∧ w'.cell? ⟨gb447, 5, none⟩ = some (.int .i64 t446) ∧ w'.cell? (ad440.add ((x10_3).toNat * 5)) = some (.string ((rd_T33 t400 x10_3).f0)) ∧ w'.cell? ⟨(ad440.add ((x10_3).toNat * 5)).block, (ad440.add ((x10_3).toNat * 5)).off + 1, none⟩ = some (.int .i64 ((rd_T33 t400 x10_3).f1.f0)) ∧ w'.cell? ⟨(ad440.add ((x10_3).toNat * 5)).block, (ad440.add ((x10_3).toNat * 5)).off + 2, none⟩ = some (.int .i64 ((rd_T33 t400 x10_3).f1.f1)) ∧ w'.cell? ⟨(ad440.add ((x10_3).toNat * 5)).block, (ad440.add ((x10_3).toNat * 5)).off + 3, none⟩ = some (.string ((rd_T33 t400 x10_3).f1.f2)) ∧ w'.cell? ⟨(ad440.add ((x10_3).toNat * 5)).block, (ad440.add ((x10_3).toNat * 5)).off + 4, none⟩ = some (.int .i64 ((rd_T33 t400 x10_3).f2)) ∧ w'.cell? (ad440.add ((x10_3).toNat * 5)) = some (.string ((rd_T33 t400 x10_3).f0)) ∧ w'.cell? ⟨(ad440.add ((x10_3).toNat * 5)).block, (ad440.add ((x10_3).toNat * 5)).off + 1, none⟩ = some (.int .i64 ((rd_T33 t400 x10_3).f1.f0)) ∧ w'.cell? ⟨(ad440.add ((x10_3).toNat * 5)).block, (ad440.add ((x10_3).toNat * 5)).off + 2, none⟩ = some (.int .i64 ((rd_T33 t400 x10_3).f1.f1)) ∧ w'.cell? ⟨(ad440.add ((x10_3).toNat * 5)).block, (ad440.add ((x10_3).toNat * 5)).off + 3, none⟩ = some (.string ((rd_T33 t400 x10_3).f1.f2)) ∧ w'.cell? ⟨(ad440.add ((x10_3).toNat * 5)).block, (ad440.add ((x10_3).toNat * 5)).off + 4, none⟩ = some (.int .i64 ((rd_T33 t400 x10_3).f2))) (ds := []) #[false, false, false, false, false, false, false, false, false, false, false, false, false, false, false, false] (by kernel_rfl) rfl rfl ⟨(blk_cell BK447.out 0).trans rfl, (blk_cell BK447.out 1).trans rfl, (blk_cell BK447.out 2).trans rfl, (blk_cell BK447.out 3).trans rfl, (blk_cell BK447.out 4).trans rfl, (blk_cell BK447.out 5).trans rfl, hx448_0, hx448_1, hx448_2, hx448_3, hx448_4, hx449_0, hx449_1, hx449_2, hx449_3, hx449_4⟩ (fun hHeld => ?_); refine with_tabW laws_FnGlobals.tab14 laws_FnGlobals.bits14 (fun HT_ HW_ => ?_)
                generalize w77.drew = w78 at HO_3 HO_413001 HO_418001 BK407 BK412 BK417 BK432 BK439 BK447 HB hx448_0 hx448_1 hx448_2 hx448_3 hx448_4 hx449_0 hx449_1 hx449_2 hx449_3 hx449_4 hHeld ⊢; refine pure_ (i := 0) (N := some 70) (v := ?_) (a' := ?_) #[true, false, false, false, false, false, false, false, false, false, false, false, false, false, false, false] rfl rfl (any_of HT_.out (by kernel_rfl)) (fun _ _ _ h => h) (Or.inl ⟨by rfl, ?_⟩) ?_ ?_; rotate_left
                · intro w'
                  go_simp; with_reducible rfl
                rotate_left
                · simp only [Act.put, List.setIfInBounds_toArray, List.set_cons_zero, List.set_cons_succ, i64_w, i32_w]
                  rfl
                refine pure_ (i := 1) (N := some 71) (v := ?_) (a' := ?_) #[true, true, false, false, false, false, false, false, false, false, false, false, false, false, false, false] rfl rfl (any_of HT_.out (by kernel_rfl)) (fun _ _ _ h => h) (Or.inl ⟨by rfl, ?_⟩) ?_ ?_; rotate_left
                · intro w'
                  go_simp; with_reducible rfl
                rotate_left
                · simp only [Act.put, List.setIfInBounds_toArray, List.set_cons_zero, List.set_cons_succ, i64_w, i32_w]
                  rfl
                refine pure_ (i := 2) (N := some 72) (v := ?_) (a' := ?_) #[true, true, true, false, false, false, false, false, false, false, false, false, false, false, false, false] rfl rfl (any_of HT_.out (by kernel_rfl)) (fun _ _ _ h => h) (Or.inl ⟨by rfl, ?_⟩) ?_ ?_; rotate_left
                · intro w'
                  go_simp; with_reducible rfl
                rotate_left
                · simp only [Act.put, List.setIfInBounds_toArray, List.set_cons_zero, List.set_cons_succ, i64_w, i32_w]
                  rfl
                refine pure_ (i := 3) (N := some 73) (v := ?_) (a' := ?_) #[true, true, true, true, false, false, false, false, false, false, false, false, false, false, false, false] rfl rfl (any_of HT_.out (by kernel_rfl)) (fun _ _ _ h => h) (Or.inl ⟨by rfl, ?_⟩) ?_ ?_; rotate_left
                · intro w'
                  go_simp; with_reducible rfl
                rotate_left
                · simp only [Act.put, List.setIfInBounds_toArray, List.set_cons_zero, List.set_cons_succ, i64_w, i32_w]
                  rfl
                refine pure_ (i := 5) (N := some 75) (v := ?_) (a' := ?_) #[true, true, true, true, false, true, false, false, false, false, false, false, false, false, false, false] rfl rfl (any_of HT_.out (by kernel_rfl)) (fun _ _ _ h => h) (Or.inl ⟨by rfl, ?_⟩) ?_ ?_; rotate_left
                · intro w'
                  go_simp; with_reducible rfl
                rotate_left
                · simp only [Act.put, List.setIfInBounds_toArray, List.set_cons_zero, List.set_cons_succ, i64_w, i32_w]
                  rfl
                refine take_ (i := 4) (N := some 74) (v := ?_) (a' := ?_) #[true, true, true, true, true, true, false, false, false, false, false, false, false, false, false, false] rfl rfl (take_ofW HT_.out HW_.out (by kernel_rfl)) (fun _ _ _ h => h) (Or.inl ⟨by rfl, ?_⟩) hHeld ?_ ?_; rotate_left
                · rintro w' ⟨s0, s1, s2, s3, s4, s5, s6, s7, s8, s9, s10, s11, s12, s13, s14, s15⟩
                  go_simp; with_reducible rfl
                rotate_left
                · simp only [Act.put, List.setIfInBounds_toArray, List.set_cons_zero, List.set_cons_succ, i64_w, i32_w]
                  rfl
                refine pure_ (i := 6) (N := some 76) (v := ?_) (a' := ?_) #[true, true, true, true, true, true, true, false, false, false, false, false, false, false, false, false] rfl rfl (any_of HT_.out (by kernel_rfl)) (fun _ _ _ h => h) (Or.inl ⟨by rfl, ?_⟩) ?_ ?_; rotate_left
                · intro w'
                  go_simp; with_reducible rfl
                rotate_left
                · simp only [Act.put, List.setIfInBounds_toArray, List.set_cons_zero, List.set_cons_succ, i64_w, i32_w]
                  rfl
                refine pure_ (i := 7) (N := some 77) (v := ?_) (a' := ?_) #[true, true, true, true, true, true, true, true, false, false, false, false, false, false, false, false] rfl rfl (any_of HT_.out (by kernel_rfl)) (fun _ _ _ h => h) (Or.inl ⟨by rfl, ?_⟩) ?_ ?_; rotate_left
                · intro w'
                  go_simp; with_reducible rfl
                rotate_left
                · simp only [Act.put, List.setIfInBounds_toArray, List.set_cons_zero, List.set_cons_succ, i64_w, i32_w]
                  rfl
                refine pure_ (i := 8) (N := some 78) (v := ?_) (a' := ?_) #[true, true, true, true, true, true, true, true, true, false, false, false, false, false, false, false] rfl rfl (any_of HT_.out (by kernel_rfl)) (fun _ _ _ h => h) (Or.inl ⟨by rfl, ?_⟩) ?_ ?_; rotate_left
                · intro w'
                  go_simp; with_reducible rfl
                rotate_left
                · simp only [Act.put, List.setIfInBounds_toArray, List.set_cons_zero, List.set_cons_succ, i64_w, i32_w]
                  rfl
                refine pure_ (i := 10) (N := some 80) (v := ?_) (a' := ?_) #[true, true, true, true, true, true, true, true, true, false, true, false, false, false, false, false] rfl rfl (any_of HT_.out (by kernel_rfl)) (fun _ _ _ h => h) (Or.inl ⟨by rfl, ?_⟩) ?_ ?_; rotate_left
                · intro w'
                  go_simp; with_reducible rfl
                rotate_left
                · simp only [Act.put, List.setIfInBounds_toArray, List.set_cons_zero, List.set_cons_succ, i64_w, i32_w]
                  rfl
                refine pure_ (i := 11) (N := some 81) (v := ?_) (a' := ?_) #[true, true, true, true, true, true, true, true, true, false, true, true, false, false, false, false] rfl rfl (any_of HT_.out (by kernel_rfl)) (fun _ _ _ h => h) (Or.inl ⟨by rfl, ?_⟩) ?_ ?_; rotate_left
                · intro w'
                  go_simp; with_reducible rfl
                rotate_left
                · simp only [Act.put, List.setIfInBounds_toArray, List.set_cons_zero, List.set_cons_succ, i64_w, i32_w]
                  rfl
                refine pure_ (i := 12) (N := some 82) (v := ?_) (a' := ?_) #[true, true, true, true, true, true, true, true, true, false, true, true, true, false, false, false] rfl rfl (any_of HT_.out (by kernel_rfl)) (fun _ _ _ h => h) (Or.inl ⟨by rfl, ?_⟩) ?_ ?_; rotate_left
                · intro w'
                  go_simp; with_reducible rfl
                rotate_left
                · simp only [Act.put, List.setIfInBounds_toArray, List.set_cons_zero, List.set_cons_succ, i64_w, i32_w]
                  rfl
                refine take_ (i := 9) (N := some 79) (v := ?_) (a' := ?_) #[true, true, true, true, true, true, true, true, true, true, true, true, true, false, false, false] rfl rfl (take_ofW HT_.out HW_.out (by kernel_rfl)) (fun _ _ _ h => h) (Or.inl ⟨by rfl, ?_⟩) hHeld ?_ ?_; rotate_left
                · rintro w' ⟨s0, s1, s2, s3, s4, s5, s6, s7, s8, s9, s10, s11, s12, s13, s14, s15⟩
                  go_simp; with_reducible rfl
                rotate_left
                · simp only [Act.put, List.setIfInBounds_toArray, List.set_cons_zero, List.set_cons_succ, i64_w, i32_w]
                  rfl
                refine take_ (i := 13) (N := some 83) (v := ?_) (a' := ?_) #[true, true, true, true, true, true, true, true, true, true, true, true, true, true, false, false] rfl rfl (take_ofW HT_.out HW_.out (by kernel_rfl)) (fun _ _ _ h => h) (Or.inl ⟨by rfl, ?_⟩) hHeld ?_ ?_; rotate_left
                · rintro w' ⟨s0, s1, s2, s3, s4, s5, s6, s7, s8, s9, s10, s11, s12, s13, s14, s15⟩
                  go_simp; with_reducible rfl
                rotate_left
                · simp only [Act.put, List.setIfInBounds_toArray, List.set_cons_zero, List.set_cons_succ, i64_w, i32_w]
                  rfl
                refine pure_ (i := 14) (N := some 84) (v := ?_) (a' := ?_) #[true, true, true, true, true, true, true, true, true, true, true, true, true, true, true, false] rfl rfl (any_of HT_.out (by kernel_rfl)) (fun _ _ _ h => h) (Or.inl ⟨by rfl, ?_⟩) ?_ ?_; rotate_left
                · intro w'
                  go_simp; with_reducible rfl
                rotate_left
                · simp only [Act.put, List.setIfInBounds_toArray, List.set_cons_zero, List.set_cons_succ, i64_w, i32_w]
                  rfl
                refine pure_ (i := 15) (N := some 85) (v := ?_) (a' := ?_) #[true, true, true, true, true, true, true, true, true, true, true, true, true, true, true, true] rfl rfl (any_of HT_.out (by kernel_rfl)) (fun _ _ _ h => h) (Or.inl ⟨by rfl, ?_⟩) ?_ ?_; rotate_left
                · intro w'
                  go_simp; with_reducible rfl
                rotate_left
                · simp only [Act.put, List.setIfInBounds_toArray, List.set_cons_zero, List.set_cons_succ, i64_w, i32_w]
                  rfl
                refine done_ (done_of HT_.out (by kernel_rfl)) ?_
                try go_wp2
                go_meet
                case rel => exact ⟨_, ((!(t442.toList == (((rd_T33 t400 x10_3).f0).toList)) || ((!(t443 == ((rd_T33 t400 x10_3).f1.f0)) || (!(t444 == ((rd_T33 t400 x10_3).f1.f1)) || (!(t445.toList == (((rd_T33 t400 x10_3).f1.f2).toList))))) || (!(t446 == ((rd_T33 t400 x10_3).f2)))))), d11_12, H', ⟨by have := HJ2.out; have := HJ7.out; have := HK3.out; have := HJ56.out; first | omega | exact Nat.le_refl _⟩, ⟨c11_19⟩, ⟨c11_8⟩, ⟨c11_9⟩, ⟨c11_3⟩, ⟨c11_4⟩, ⟨c11_5⟩, ⟨c11_6⟩, ⟨c11_7⟩, ⟨by (with_reducible repeat first | apply b11N | apply b11D | apply b11L); exact BK447.out⟩, ⟨c11_2⟩⟩
              case rest =>
               clear HC63
               try clear c1
               try clear c2
               try clear p2
               try clear c3
               try clear c4
               try clear p4
               try clear q4
               try clear hx4
               try clear c5
               try clear c6
               try clear c7
               try clear c8
               try clear c9
               try clear c10
               try clear c15
               try clear c21
               try clear c22
               try clear c26
               try clear c26b0
               try clear c26b1
               try clear c29
               try clear c29b0
               try clear c29b1
               try clear c43
               try clear c44
               try clear p44
               try clear q44
               try clear hx44
               try clear c45
               try clear c47
               try clear c48
               try clear c52
               try clear c53
               try clear c54
               try clear c55
               try clear c60
               try clear c60b0
               try clear c61
               try clear c61b0
               try clear hcz11_0
               try clear hcz11_1
               try clear hcz11_2
               try clear hcz16_0
               try clear hcz16_1
               try clear hcz18_0
               try clear hcz18_1
               try clear hcz18_2
               try clear hcz23_0
               try clear hcz23_1
               try clear hcz25_0
               try clear hcz25_1
               try clear hcz46_0
               try clear hcz46_1
               try clear hcz46_2
               try clear hcz46_3
               try clear hcz46_4
               try clear hcz46_5
               try clear hcz49_0
               try clear hcz49_1
               try clear hcz56_0
               try clear hcz56_1
               try clear hcz56_2
               try clear hcz56_3
               try clear hcz56_4
               try clear hcz56_5
               try clear hfz11_0
               try clear hfz11_1
               try clear hfz11_2
               try clear hfz16_0
               try clear hfz16_1
               try clear hfz18_0
               try clear hfz18_1
               try clear hfz18_2
               try clear hfz23_0
               try clear hfz23_1
               try clear hfz25_0
               try clear hfz25_1
               try clear hfz46_0
               try clear hfz46_1
               try clear hfz46_2
               try clear hfz46_3
               try clear hfz46_4
               try clear hfz46_5
               try clear hfz49_0
               try clear hfz49_1
               try clear hfz56_0
               try clear hfz56_1
               try clear hfz56_2
               try clear hfz56_3
               try clear hfz56_4
               try clear hfz56_5
               try clear hx440_0
               try clear hx440_1
               try clear hx440_2
               try clear hx440_3
               try clear hx440_4
               try clear p2
               try clear p440
               try clear q440
               obtain ⟨kq, x85_62, rfl, HA, HJ62, HO_3, HO_413001, HO_418001, BK407, BK412, BK417, BK432, BK439, BK447, HB⟩ := hcut
               cases kq with
               | zero => exact absurd HA.out (by simp [laws_FnGlobals.j5])
               | succ kj62 =>
                have H := HA.out; clear HA; simp only [laws_FnGlobals.j5] at H; have HC79 := ak H; clear H; go_upto_if 85 with (fail)
                have H := HC79.out; clear HC79; by_cases c80 : x85_62 = true
                ·subst c80
                 have H1 : (some false) = some r := by rw [if_pos rfl] at H; exact H
                 clear H; have H := H1; clear H1; obtain rfl := Option.some.inj H; go_wp2; go_ret; exact ⟨by first | rfl | (simp [errW_none, errW_some] <;> rfl) | (simp [*, errW_none, errW_some] <;> rfl), c11_2⟩
                ·replace c80 := Bool.eq_false_iff.mpr c80
                 subst c80
                 have H1 : (laws_FnGlobals.j6 kj62 t400 t403 x10_3 t404 t405 t406 t408 t409 t413 t414 t426 t427 t428 t429 t430 t431 t433 t434 t435 t436 t437 t438) = some r := by rw [if_neg (show ¬ (false = true) by decide)] at H; exact H
                 clear H; have H := H1; clear H1
                 cases kj62 with
                 | zero => exact absurd H (by simp [laws_FnGlobals.j6])
                 | succ kj78 =>
                  simp only [laws_FnGlobals.j6] at H; have H' := ak H; clear H; go_wp2; go_meet
                  case rel => exact ⟨_, H', ⟨by have := HJ2.out; have := HJ7.out; have := HK3.out; have := HJ56.out; have := HJ62.out; first | omega | exact Nat.le_refl _⟩, ⟨c11_19⟩, ⟨c11_8⟩, ⟨c11_9⟩, ⟨c11_3⟩, ⟨c11_4⟩, ⟨c11_5⟩, ⟨c11_6⟩, ⟨c11_7⟩, ⟨c11_2⟩⟩
             ·rw [if_neg c61] at H
              exact absurd H (by simp)
            ·rw [if_neg c60] at H
             exact absurd H (by simp)
           case rest =>
            clear HC59
            try clear c1
            try clear c2
            try clear p2
            try clear c3
            try clear c4
            try clear c5
            try clear c6
            try clear c7
            try clear c8
            try clear c9
            try clear c10
            try clear c15
            try clear c21
            try clear c22
            try clear c26
            try clear c26b0
            try clear c26b1
            try clear c29
            try clear c29b0
            try clear c29b1
            try clear c43
            try clear c44
            try clear c45
            try clear c47
            try clear c48
            try clear c52
            try clear c53
            try clear c54
            try clear c55
            try clear c58
            try clear c58b0
            try clear hcz11_0
            try clear hcz11_1
            try clear hcz11_2
            try clear hcz16_0
            try clear hcz16_1
            try clear hcz18_0
            try clear hcz18_1
            try clear hcz18_2
            try clear hcz23_0
            try clear hcz23_1
            try clear hcz25_0
            try clear hcz25_1
            try clear hcz46_0
            try clear hcz46_1
            try clear hcz46_2
            try clear hcz46_3
            try clear hcz46_4
            try clear hcz46_5
            try clear hcz49_0
            try clear hcz49_1
            try clear hcz56_0
            try clear hcz56_1
            try clear hcz56_2
            try clear hcz56_3
            try clear hcz56_4
            try clear hcz56_5
            try clear hfz11_0
            try clear hfz11_1
            try clear hfz11_2
            try clear hfz16_0
            try clear hfz16_1
            try clear hfz18_0
            try clear hfz18_1
            try clear hfz18_2
            try clear hfz23_0
            try clear hfz23_1
            try clear hfz25_0
            try clear hfz25_1
            try clear hfz46_0
            try clear hfz46_1
            try clear hfz46_2
            try clear hfz46_3
            try clear hfz46_4
            try clear hfz46_5
            try clear hfz49_0
            try clear hfz49_1
            try clear hfz56_0
            try clear hfz56_1
            try clear hfz56_2
            try clear hfz56_3
            try clear hfz56_4
            try clear hfz56_5
            try clear p2
            obtain ⟨kq, HA, HJ58, HO_3, HO_413001, HO_418001, BK407, BK412, BK417, BK432, BK439, HB⟩ := hcut
            cases kq with
            | zero => exact absurd HA.out (by simp [laws_FnGlobals.j7])
            | succ kj58 =>
             have H := HA.out; clear HA; simp only [laws_FnGlobals.j7] at H; have H' := ak H; clear H; go_wp2; go_roundg kj58
             case measure => have := HJ2.out; have := HJ7.out; have := HK3.out; have := HJ56.out; have := HJ58.out; omega
             case rel => exact ⟨(wrap64 (x10_3 + 1)), d11_12, H', ⟨by have := HJ2.out; have := HJ7.out; have := HK3.out; have := HJ56.out; have := HJ58.out; omega⟩, ⟨c11_19⟩, ⟨c11_8⟩, ⟨c11_9⟩, ⟨c11_3⟩, ⟨c11_4⟩, ⟨c11_5⟩, ⟨c11_6⟩, ⟨c11_7⟩, ⟨c11_1⟩⟩
      case rest =>
       clear HC40
       try clear c1
       try clear c2
       try clear p2
       try clear c3
       try clear c4
       try clear c5
       try clear c6
       try clear c7
       try clear c8
       try clear c9
       try clear c10
       try clear c15
       try clear c21
       try clear c22
       try clear c26
       try clear c26b0
       try clear c26b1
       try clear c29
       try clear c29b0
       try clear c29b1
       try clear c43
       try clear c44
       try clear c45
       try clear c47
       try clear c48
       try clear c52
       try clear c53
       try clear c54
       try clear c55
       try clear hcz11_0
       try clear hcz11_1
       try clear hcz11_2
       try clear hcz16_0
       try clear hcz16_1
       try clear hcz18_0
       try clear hcz18_1
       try clear hcz18_2
       try clear hcz23_0
       try clear hcz23_1
       try clear hcz25_0
       try clear hcz25_1
       try clear hcz46_0
       try clear hcz46_1
       try clear hcz46_2
       try clear hcz46_3
       try clear hcz46_4
       try clear hcz46_5
       try clear hcz49_0
       try clear hcz49_1
       try clear hcz56_0
       try clear hcz56_1
       try clear hcz56_2
       try clear hcz56_3
       try clear hcz56_4
       try clear hcz56_5
       try clear hfz11_0
       try clear hfz11_1
       try clear hfz11_2
       try clear hfz16_0
       try clear hfz16_1
       try clear hfz18_0
       try clear hfz18_1
       try clear hfz18_2
       try clear hfz23_0
       try clear hfz23_1
       try clear hfz25_0
       try clear hfz25_1
       try clear hfz46_0
       try clear hfz46_1
       try clear hfz46_2
       try clear hfz46_3
       try clear hfz46_4
       try clear hfz46_5
       try clear hfz49_0
       try clear hfz49_1
       try clear hfz56_0
       try clear hfz56_1
       try clear hfz56_2
       try clear hfz56_3
       try clear hfz56_4
       try clear hfz56_5
       try clear p2
       obtain ⟨kq, HA, HJ39, HO_413001, HO_418001, BK407, BK412, BK417, BK432, BK439, HB⟩ := hcut
       cases kq with
       | zero => exact absurd HA.out (by simp [laws_FnGlobals.j8])
       | succ kj39 =>
        have H := HA.out; clear HA; simp only [laws_FnGlobals.j8] at H; have HC81 := ak H; clear H; go_upto_region 16 with (fail); go_cut [2] (fun v2 wc => ∃ (kq : Nat) (x2_80 : Bool), v2 = .bool x2_80 ∧ Aside0 (laws_FnGlobals.j9 kq x2_80 = some r) ∧ Aside0 (kq ≤ kj39) ∧ Aside0 (Kd.R k33 33 wc w.heap.size (fun k_ => some k_ ≠ ((.slice Ao24 t414.length co24) : Value).ownBlock) (.slice Ao17 t409.length co17) t409) ∧ Aside0 (Kd.R k33 33 wc w.heap.size (fun k_ => some k_ ≠ ((.slice Ao17 t409.length co17) : Value).ownBlock) (.slice Ao24 t414.length co24) t414) ∧ Aside0 (wc.heap[gb407]? = some (.cells #[.int .i64 t404, .int .i64 t405, .string t406] 26 (0, 0))) ∧ Aside0 (wc.heap[gb412]? = some (.cells #[.int .i64 t408, (.slice Ao17 t409.length co17)] 30 (0, 0))) ∧ Aside0 (wc.heap[gb417]? = some (.cells #[.int .i64 t413, (.slice Ao24 t414.length co24)] 30 (0, 0))) ∧ Aside0 (wc.heap[gb432]? = some (.cells #[.int .i64 t426, .string t427, .int .i64 t428, .int .i64 t429, .string t430, .int .i64 t431] 35 (0, 0))) ∧ Aside0 (wc.heap[gb439]? = some (.cells #[.int .i64 t433, .string t434, .int .i64 t435, .int .i64 t436, .string t437, .int .i64 t438] 35 (0, 0))) ∧ Aside0 (Below w.heap.size w wc))
        case first =>
         have H := HC81.out; clear HC81; by_cases c82 : t433 = 0
         ·rw [if_pos c82] at H
          have c82b0 : (t433 == 0) = true := beq_iff_eq.mpr c82; have c82b1 : (t433 != 0) = false := bne_eq_false_iff_eq.mpr c82; clear c82
          (first | rw [c82b0] | (simp only [i64_w, i32_w]; rw [c82b0]) | skip)
          by_cases c83 : (t435 == t404 && (t436 == t405 && (t437.toList == t406.toList))) = true
          ·rw [if_pos c83] at H
           have c83b0 : (t435 == t404 && (t436 == t405 && (t437.toList == t406.toList))) = true := c83
           (try (have c83b1 : decide (t435 = t404 && (t436 == t405 && (t437.toList == t406.toList))) = true := by simpa using c83))
           (try (have c83b2 : (t435 == t404 && (t436 == t405 && (t437.toList == t406.toList))) = true := by simpa using c83))
           (try (have c83b3 : ((t435 == t404) = true ∧ (t436 == t405) = true ∧ (t437.toList == t406.toList) = true) := by simpa [eq_nil_b, ne_nil_b] using c83))
           (try (have c83b4 : ¬ ((t435 == t404) = false ∨ (t436 == t405) = false ∨ (t437.toList == t406.toList) = false) := by first | (intro hh; simp [eq_nil_b, ne_nil_b, hh] at c83; done) | simpa [eq_nil_b, ne_nil_b] using c83))
           clear c83; by_cases c84 : t426 = 0
           ·rw [if_pos c84] at H
            have c84b0 : (t426 == 0) = true := beq_iff_eq.mpr c84; have c84b1 : (t426 != 0) = false := bne_eq_false_iff_eq.mpr c84; clear c84; by_cases c85 : t438 = (wrap64 (t431 + 1))
            ·rw [if_pos c85] at H
             have c85b0 : (t438 == (wrap64 (t431 + 1))) = true := beq_iff_eq.mpr c85; have c85b1 : (t438 != (wrap64 (t431 + 1))) = false := bne_eq_false_iff_eq.mpr c85; clear c85; by_cases c86 : ((t413 == 4) == (t426 == 4)) = true
             ·rw [if_pos c86] at H
              have c86b0 : ((t413 == 4) == (t426 == 4)) = true := c86
              (try (have c86b1 : decide ((t413 == 4) = (t426 == 4)) = true := by simpa using c86))
              (try (have c86b2 : ((t413 == 4) == (t426 == 4)) = true := by simpa using c86))
              clear c86; replace H := Option.bind_eq_some_iff.mp H; obtain ⟨t450, A870, H⟩ := H; replace H : (laws_FnGlobals.j9 kj39 (t450 == 0)) = some r := H; have A87 := ak A870; clear A870; have H' := ak H; clear H; have hnb88 := NB439_407.out; have hnc88 := NB407_439.out; have hnb89 := NB439_412.out; have hnc89 := NB412_439.out; have hnb90 := NB439_417.out; have hnc90 := NB417_439.out; have hnb91 := NB439_432.out; have hnc91 := NB432_439.out; have hcz92_0 : wc.cell? ⟨gb439, 0, none⟩ = some (.int .i64 t433) := (blk_cell BK439.out 0).trans rfl; have hcz92_1 : wc.cell? ⟨gb439, 1, none⟩ = some (.string t434) := (blk_cell BK439.out 1).trans rfl; have hcz92_2 : wc.cell? ⟨gb439, 2, none⟩ = some (.int .i64 t435) := (blk_cell BK439.out 2).trans rfl; have hcz92_3 : wc.cell? ⟨gb439, 3, none⟩ = some (.int .i64 t436) := (blk_cell BK439.out 3).trans rfl; have hcz92_4 : wc.cell? ⟨gb439, 4, none⟩ = some (.string t437) := (blk_cell BK439.out 4).trans rfl; have hcz92_5 : wc.cell? ⟨gb439, 5, none⟩ = some (.int .i64 t438) := (blk_cell BK439.out 5).trans rfl; have hfz92_0 := blk_frozen BK439.out 0; have hfz92_1 := blk_frozen BK439.out 1; have hfz92_2 := blk_frozen BK439.out 2; have hfz92_3 := blk_frozen BK439.out 3; have hfz92_4 := blk_frozen BK439.out 4; have hfz92_5 := blk_frozen BK439.out 5; have hnb93 := NB407_412.out; have hnc93 := NB412_407.out; have hnb94 := NB407_417.out; have hnc94 := NB417_407.out; have hnb95 := NB407_432.out; have hnc95 := NB432_407.out
              have hcz96_0 : wc.cell? ⟨gb407, 0, none⟩ = some (.int .i64 t404) := (blk_cell BK407.out 0).trans rfl; have hcz96_1 : wc.cell? ⟨gb407, 1, none⟩ = some (.int .i64 t405) := (blk_cell BK407.out 1).trans rfl; have hcz96_2 : wc.cell? ⟨gb407, 2, none⟩ = some (.string t406) := (blk_cell BK407.out 2).trans rfl; have hfz96_0 := blk_frozen BK407.out 0; have hfz96_1 := blk_frozen BK407.out 1; have hfz96_2 := blk_frozen BK407.out 2; have hnb97 := NB432_412.out; have hnc97 := NB412_432.out; have hnb98 := NB432_417.out; have hnc98 := NB417_432.out; have hcz99_0 : wc.cell? ⟨gb432, 0, none⟩ = some (.int .i64 t426) := (blk_cell BK432.out 0).trans rfl; have hcz99_1 : wc.cell? ⟨gb432, 1, none⟩ = some (.string t427) := (blk_cell BK432.out 1).trans rfl; have hcz99_2 : wc.cell? ⟨gb432, 2, none⟩ = some (.int .i64 t428) := (blk_cell BK432.out 2).trans rfl; have hcz99_3 : wc.cell? ⟨gb432, 3, none⟩ = some (.int .i64 t429) := (blk_cell BK432.out 3).trans rfl; have hcz99_4 : wc.cell? ⟨gb432, 4, none⟩ = some (.string t430) := (blk_cell BK432.out 4).trans rfl; have hcz99_5 : wc.cell? ⟨gb432, 5, none⟩ = some (.int .i64 t431) := (blk_cell BK432.out 5).trans rfl; have hfz99_0 := blk_frozen BK432.out 0; have hfz99_1 := blk_frozen BK432.out 1; have hfz99_2 := blk_frozen BK432.out 2; have hfz99_3 := blk_frozen BK432.out 3; have hfz99_4 := blk_frozen BK432.out 4; have hfz99_5 := blk_frozen BK432.out 5; have hnb100 := NB417_412.out; have hnc100 := NB412_417.out
              have hcz101_0 : wc.cell? ⟨gb417, 0, none⟩ = some (.int .i64 t413) := (blk_cell BK417.out 0).trans rfl; have hcz101_1 : wc.cell? ⟨gb417, 1, none⟩ = some (.slice Ao24 t414.length co24) := (blk_cell BK417.out 1).trans rfl; have hfz101_0 := blk_frozen BK417.out 0; have hfz101_1 := blk_frozen BK417.out 1; have hcz102_0 : wc.cell? ⟨gb412, 0, none⟩ = some (.int .i64 t408) := (blk_cell BK412.out 0).trans rfl; have hcz102_1 : wc.cell? ⟨gb412, 1, none⟩ = some (.slice Ao17 t409.length co17) := (blk_cell BK412.out 1).trans rfl; have hfz102_0 := blk_frozen BK412.out 0; have hfz102_1 := blk_frozen BK412.out 1
              go_wp2_with (first | (go_at_call 11; (with_reducible refine (impl_GlobalsFault.calls kj39 _ _ t409 t450 _ ?side1 ?side2 A87.out).mono ?_); (case side1 => exact c11_18); (case side2 => exact (Kd.R_reads' HO_413001.out).2.1); rintro e w103 ⟨rfl, hb⟩; have n0_ := ak (Kd.R_below d11_10 hb); have n1_ := ak (Kd.R_below d11_11 hb); have n2_ := ak (blk_below (g := gb407) (o := .cells #[.int .i64 t404, .int .i64 t405, .string t406] 26 (0, 0)) d11_2 hb); have n3_ := ak (blk_below (g := gb412) (o := .cells #[.int .i64 t408, .slice Ao17 t409.length co17] 30 (0, 0)) d11_3 hb); have n4_ := ak (blk_below (g := gb417) (o := .cells #[.int .i64 t413, .slice Ao24 t414.length co24] 30 (0, 0)) d11_4 hb); have n5_ := ak (blk_below (g := gb432) (o := .cells #[.int .i64 t426, .string t427, .int .i64 t428, .int .i64 t429, .string t430, .int .i64 t431] 35 (0, 0)) d11_7 hb); have n6_ := ak (blk_below (g := gb439) (o := .cells #[.int .i64 t433, .string t434, .int .i64 t435, .int .i64 t436, .string t437, .int .i64 t438] 35 (0, 0)) d11_9 hb); have n7_ := ak (below_step d11_5 hb); clear HO_413001 HO_418001 BK407 BK412 BK417 BK432 BK439 HB; have HO_413001 := n0_; have HO_418001 := n1_; have BK407 := n2_; have BK412 := n3_; have BK417 := n4_; have BK432 := n5_; have BK439 := n6_; have HB := n7_; clear n0_ n1_ n2_ n3_ n4_ n5_ n6_ n7_; (try clear hb)))
              go_meet
              case rel => exact ⟨_, ((t450 == 0)), d11_12, H', ⟨by have := HJ2.out; have := HJ7.out; have := HJ39.out; first | omega | exact Nat.le_refl _⟩, ⟨c11_8⟩, ⟨c11_9⟩, ⟨c11_3⟩, ⟨c11_4⟩, ⟨c11_5⟩, ⟨c11_6⟩, ⟨c11_7⟩, ⟨c11_1⟩⟩
             ·rw [if_neg c86] at H
              have c86b0 : ((t413 == 4) == (t426 == 4)) = false := by simpa using c86
              (try (have c86b1 : decide ((t413 == 4) = (t426 == 4)) = false := by simpa using c86))
              (try (have c86b2 : ((t413 == 4) == (t426 == 4)) = false := by simpa using c86))
              (try (have c86b3 : ¬ ((t413 == 4) = (t426 == 4)) := by simpa using c86))
              clear c86; have H' := ak H; clear H; have hnb104 := NB439_407.out; have hnc104 := NB407_439.out; have hnb105 := NB439_412.out; have hnc105 := NB412_439.out; have hnb106 := NB439_417.out; have hnc106 := NB417_439.out; have hnb107 := NB439_432.out; have hnc107 := NB432_439.out; have hcz108_0 : wc.cell? ⟨gb439, 0, none⟩ = some (.int .i64 t433) := (blk_cell BK439.out 0).trans rfl; have hcz108_1 : wc.cell? ⟨gb439, 1, none⟩ = some (.string t434) := (blk_cell BK439.out 1).trans rfl; have hcz108_2 : wc.cell? ⟨gb439, 2, none⟩ = some (.int .i64 t435) := (blk_cell BK439.out 2).trans rfl; have hcz108_3 : wc.cell? ⟨gb439, 3, none⟩ = some (.int .i64 t436) := (blk_cell BK439.out 3).trans rfl; have hcz108_4 : wc.cell? ⟨gb439, 4, none⟩ = some (.string t437) := (blk_cell BK439.out 4).trans rfl; have hcz108_5 : wc.cell? ⟨gb439, 5, none⟩ = some (.int .i64 t438) := (blk_cell BK439.out 5).trans rfl; have hfz108_0 := blk_frozen BK439.out 0; have hfz108_1 := blk_frozen BK439.out 1; have hfz108_2 := blk_frozen BK439.out 2; have hfz108_3 := blk_frozen BK439.out 3; have hfz108_4 := blk_frozen BK439.out 4; have hfz108_5 := blk_frozen BK439.out 5; have hnb109 := NB407_412.out; have hnc109 := NB412_407.out; have hnb110 := NB407_417.out; have hnc110 := NB417_407.out; have hnb111 := NB407_432.out; have hnc111 := NB432_407.out; have hcz112_0 : wc.cell? ⟨gb407, 0, none⟩ = some (.int .i64 t404) := (blk_cell BK407.out 0).trans rfl
              have hcz112_1 : wc.cell? ⟨gb407, 1, none⟩ = some (.int .i64 t405) := (blk_cell BK407.out 1).trans rfl; have hcz112_2 : wc.cell? ⟨gb407, 2, none⟩ = some (.string t406) := (blk_cell BK407.out 2).trans rfl; have hfz112_0 := blk_frozen BK407.out 0; have hfz112_1 := blk_frozen BK407.out 1; have hfz112_2 := blk_frozen BK407.out 2; have hnb113 := NB432_412.out; have hnc113 := NB412_432.out; have hnb114 := NB432_417.out; have hnc114 := NB417_432.out; have hcz115_0 : wc.cell? ⟨gb432, 0, none⟩ = some (.int .i64 t426) := (blk_cell BK432.out 0).trans rfl; have hcz115_1 : wc.cell? ⟨gb432, 1, none⟩ = some (.string t427) := (blk_cell BK432.out 1).trans rfl; have hcz115_2 : wc.cell? ⟨gb432, 2, none⟩ = some (.int .i64 t428) := (blk_cell BK432.out 2).trans rfl; have hcz115_3 : wc.cell? ⟨gb432, 3, none⟩ = some (.int .i64 t429) := (blk_cell BK432.out 3).trans rfl; have hcz115_4 : wc.cell? ⟨gb432, 4, none⟩ = some (.string t430) := (blk_cell BK432.out 4).trans rfl; have hcz115_5 : wc.cell? ⟨gb432, 5, none⟩ = some (.int .i64 t431) := (blk_cell BK432.out 5).trans rfl; have hfz115_0 := blk_frozen BK432.out 0; have hfz115_1 := blk_frozen BK432.out 1; have hfz115_2 := blk_frozen BK432.out 2; have hfz115_3 := blk_frozen BK432.out 3; have hfz115_4 := blk_frozen BK432.out 4; have hfz115_5 := blk_frozen BK432.out 5; have hnb116 := NB417_412.out; have hnc116 := NB412_417.out; have hcz117_0 : wc.cell? ⟨gb417, 0, none⟩ = some (.int .i64 t413) := (blk_cell BK417.out 0).trans rfl
              have hcz117_1 : wc.cell? ⟨gb417, 1, none⟩ = some (.slice Ao24 t414.length co24) := (blk_cell BK417.out 1).trans rfl; have hfz117_0 := blk_frozen BK417.out 0; have hfz117_1 := blk_frozen BK417.out 1; go_wp2; go_meet
              case rel => exact ⟨_, (false), d11_12, H', ⟨by have := HJ2.out; have := HJ7.out; have := HJ39.out; first | omega | exact Nat.le_refl _⟩, ⟨c11_8⟩, ⟨c11_9⟩, ⟨c11_3⟩, ⟨c11_4⟩, ⟨c11_5⟩, ⟨c11_6⟩, ⟨c11_7⟩, ⟨c11_1⟩⟩
            ·rw [if_neg c85] at H
             have c85b0 : (t438 == (wrap64 (t431 + 1))) = false := beq_eq_false_iff_ne.mpr c85; have c85b1 : (t438 != (wrap64 (t431 + 1))) = true := bne_iff_ne.mpr c85; have H' := ak H; clear H; have hnb118 := NB439_407.out; have hnc118 := NB407_439.out; have hnb119 := NB439_412.out; have hnc119 := NB412_439.out; have hnb120 := NB439_417.out; have hnc120 := NB417_439.out; have hnb121 := NB439_432.out; have hnc121 := NB432_439.out; have hcz122_0 : wc.cell? ⟨gb439, 0, none⟩ = some (.int .i64 t433) := (blk_cell BK439.out 0).trans rfl; have hcz122_1 : wc.cell? ⟨gb439, 1, none⟩ = some (.string t434) := (blk_cell BK439.out 1).trans rfl; have hcz122_2 : wc.cell? ⟨gb439, 2, none⟩ = some (.int .i64 t435) := (blk_cell BK439.out 2).trans rfl; have hcz122_3 : wc.cell? ⟨gb439, 3, none⟩ = some (.int .i64 t436) := (blk_cell BK439.out 3).trans rfl; have hcz122_4 : wc.cell? ⟨gb439, 4, none⟩ = some (.string t437) := (blk_cell BK439.out 4).trans rfl; have hcz122_5 : wc.cell? ⟨gb439, 5, none⟩ = some (.int .i64 t438) := (blk_cell BK439.out 5).trans rfl; have hfz122_0 := blk_frozen BK439.out 0; have hfz122_1 := blk_frozen BK439.out 1; have hfz122_2 := blk_frozen BK439.out 2; have hfz122_3 := blk_frozen BK439.out 3; have hfz122_4 := blk_frozen BK439.out 4; have hfz122_5 := blk_frozen BK439.out 5; have hnb123 := NB407_412.out; have hnc123 := NB412_407.out; have hnb124 := NB407_417.out; have hnc124 := NB417_407.out; have hnb125 := NB407_432.out; have hnc125 := NB432_407.out
             have hcz126_0 : wc.cell? ⟨gb407, 0, none⟩ = some (.int .i64 t404) := (blk_cell BK407.out 0).trans rfl; have hcz126_1 : wc.cell? ⟨gb407, 1, none⟩ = some (.int .i64 t405) := (blk_cell BK407.out 1).trans rfl; have hcz126_2 : wc.cell? ⟨gb407, 2, none⟩ = some (.string t406) := (blk_cell BK407.out 2).trans rfl; have hfz126_0 := blk_frozen BK407.out 0; have hfz126_1 := blk_frozen BK407.out 1; have hfz126_2 := blk_frozen BK407.out 2; have hnb127 := NB432_412.out; have hnc127 := NB412_432.out; have hnb128 := NB432_417.out; have hnc128 := NB417_432.out; have hcz129_0 : wc.cell? ⟨gb432, 0, none⟩ = some (.int .i64 t426) := (blk_cell BK432.out 0).trans rfl; have hcz129_1 : wc.cell? ⟨gb432, 1, none⟩ = some (.string t427) := (blk_cell BK432.out 1).trans rfl; have hcz129_2 : wc.cell? ⟨gb432, 2, none⟩ = some (.int .i64 t428) := (blk_cell BK432.out 2).trans rfl; have hcz129_3 : wc.cell? ⟨gb432, 3, none⟩ = some (.int .i64 t429) := (blk_cell BK432.out 3).trans rfl; have hcz129_4 : wc.cell? ⟨gb432, 4, none⟩ = some (.string t430) := (blk_cell BK432.out 4).trans rfl; have hcz129_5 : wc.cell? ⟨gb432, 5, none⟩ = some (.int .i64 t431) := (blk_cell BK432.out 5).trans rfl; have hfz129_0 := blk_frozen BK432.out 0; have hfz129_1 := blk_frozen BK432.out 1; have hfz129_2 := blk_frozen BK432.out 2; have hfz129_3 := blk_frozen BK432.out 3; have hfz129_4 := blk_frozen BK432.out 4; have hfz129_5 := blk_frozen BK432.out 5; go_wp2; go_meet
             case rel => exact ⟨_, (false), d11_12, H', ⟨by have := HJ2.out; have := HJ7.out; have := HJ39.out; first | omega | exact Nat.le_refl _⟩, ⟨c11_8⟩, ⟨c11_9⟩, ⟨c11_3⟩, ⟨c11_4⟩, ⟨c11_5⟩, ⟨c11_6⟩, ⟨c11_7⟩, ⟨c11_1⟩⟩
           ·rw [if_neg c84] at H
            have c84b0 : (t426 == 0) = false := beq_eq_false_iff_ne.mpr c84; have c84b1 : (t426 != 0) = true := bne_iff_ne.mpr c84; by_cases c130 : t438 = 1
            ·rw [if_pos c130] at H
             have c130b0 : (t438 == 1) = true := beq_iff_eq.mpr c130; have c130b1 : (t438 != 1) = false := bne_eq_false_iff_eq.mpr c130; clear c130; by_cases c131 : ((t413 == 4) == (t426 == 4)) = true
             ·rw [if_pos c131] at H
              have c131b0 : ((t413 == 4) == (t426 == 4)) = true := c131
              (try (have c131b1 : decide ((t413 == 4) = (t426 == 4)) = true := by simpa using c131))
              (try (have c131b2 : ((t413 == 4) == (t426 == 4)) = true := by simpa using c131))
              clear c131; replace H := Option.bind_eq_some_iff.mp H; obtain ⟨t451, A1320, H⟩ := H; replace H : (laws_FnGlobals.j9 kj39 (t451 == 0)) = some r := H; have A132 := ak A1320; clear A1320; have H' := ak H; clear H; have hnb133 := NB439_407.out; have hnc133 := NB407_439.out; have hnb134 := NB439_412.out; have hnc134 := NB412_439.out; have hnb135 := NB439_417.out; have hnc135 := NB417_439.out; have hnb136 := NB439_432.out; have hnc136 := NB432_439.out; have hcz137_0 : wc.cell? ⟨gb439, 0, none⟩ = some (.int .i64 t433) := (blk_cell BK439.out 0).trans rfl; have hcz137_1 : wc.cell? ⟨gb439, 1, none⟩ = some (.string t434) := (blk_cell BK439.out 1).trans rfl; have hcz137_2 : wc.cell? ⟨gb439, 2, none⟩ = some (.int .i64 t435) := (blk_cell BK439.out 2).trans rfl; have hcz137_3 : wc.cell? ⟨gb439, 3, none⟩ = some (.int .i64 t436) := (blk_cell BK439.out 3).trans rfl; have hcz137_4 : wc.cell? ⟨gb439, 4, none⟩ = some (.string t437) := (blk_cell BK439.out 4).trans rfl; have hcz137_5 : wc.cell? ⟨gb439, 5, none⟩ = some (.int .i64 t438) := (blk_cell BK439.out 5).trans rfl; have hfz137_0 := blk_frozen BK439.out 0; have hfz137_1 := blk_frozen BK439.out 1; have hfz137_2 := blk_frozen BK439.out 2; have hfz137_3 := blk_frozen BK439.out 3; have hfz137_4 := blk_frozen BK439.out 4; have hfz137_5 := blk_frozen BK439.out 5; have hnb138 := NB407_412.out; have hnc138 := NB412_407.out; have hnb139 := NB407_417.out; have hnc139 := NB417_407.out; have hnb140 := NB407_432.out
              have hnc140 := NB432_407.out; have hcz141_0 : wc.cell? ⟨gb407, 0, none⟩ = some (.int .i64 t404) := (blk_cell BK407.out 0).trans rfl; have hcz141_1 : wc.cell? ⟨gb407, 1, none⟩ = some (.int .i64 t405) := (blk_cell BK407.out 1).trans rfl; have hcz141_2 : wc.cell? ⟨gb407, 2, none⟩ = some (.string t406) := (blk_cell BK407.out 2).trans rfl; have hfz141_0 := blk_frozen BK407.out 0; have hfz141_1 := blk_frozen BK407.out 1; have hfz141_2 := blk_frozen BK407.out 2; have hnb142 := NB432_412.out; have hnc142 := NB412_432.out; have hnb143 := NB432_417.out; have hnc143 := NB417_432.out; have hcz144_0 : wc.cell? ⟨gb432, 0, none⟩ = some (.int .i64 t426) := (blk_cell BK432.out 0).trans rfl; have hcz144_1 : wc.cell? ⟨gb432, 1, none⟩ = some (.string t427) := (blk_cell BK432.out 1).trans rfl; have hcz144_2 : wc.cell? ⟨gb432, 2, none⟩ = some (.int .i64 t428) := (blk_cell BK432.out 2).trans rfl; have hcz144_3 : wc.cell? ⟨gb432, 3, none⟩ = some (.int .i64 t429) := (blk_cell BK432.out 3).trans rfl; have hcz144_4 : wc.cell? ⟨gb432, 4, none⟩ = some (.string t430) := (blk_cell BK432.out 4).trans rfl; have hcz144_5 : wc.cell? ⟨gb432, 5, none⟩ = some (.int .i64 t431) := (blk_cell BK432.out 5).trans rfl; have hfz144_0 := blk_frozen BK432.out 0; have hfz144_1 := blk_frozen BK432.out 1; have hfz144_2 := blk_frozen BK432.out 2; have hfz144_3 := blk_frozen BK432.out 3; have hfz144_4 := blk_frozen BK432.out 4; have hfz144_5 := blk_frozen BK432.out 5; have hnb145 := NB417_412.out
              have hnc145 := NB412_417.out; have hcz146_0 : wc.cell? ⟨gb417, 0, none⟩ = some (.int .i64 t413) := (blk_cell BK417.out 0).trans rfl; have hcz146_1 : wc.cell? ⟨gb417, 1, none⟩ = some (.slice Ao24 t414.length co24) := (blk_cell BK417.out 1).trans rfl; have hfz146_0 := blk_frozen BK417.out 0; have hfz146_1 := blk_frozen BK417.out 1; have hcz147_0 : wc.cell? ⟨gb412, 0, none⟩ = some (.int .i64 t408) := (blk_cell BK412.out 0).trans rfl; have hcz147_1 : wc.cell? ⟨gb412, 1, none⟩ = some (.slice Ao17 t409.length co17) := (blk_cell BK412.out 1).trans rfl; have hfz147_0 := blk_frozen BK412.out 0; have hfz147_1 := blk_frozen BK412.out 1
              go_wp2_with (first | (go_at_call 11; (with_reducible refine (impl_GlobalsFault.calls kj39 _ _ t409 t451 _ ?side1 ?side2 A132.out).mono ?_); (case side1 => exact c11_18); (case side2 => exact (Kd.R_reads' HO_413001.out).2.1); rintro e w148 ⟨rfl, hb⟩; have n0_ := ak (Kd.R_below d11_10 hb); have n1_ := ak (Kd.R_below d11_11 hb); have n2_ := ak (blk_below (g := gb407) (o := .cells #[.int .i64 t404, .int .i64 t405, .string t406] 26 (0, 0)) d11_2 hb); have n3_ := ak (blk_below (g := gb412) (o := .cells #[.int .i64 t408, .slice Ao17 t409.length co17] 30 (0, 0)) d11_3 hb); have n4_ := ak (blk_below (g := gb417) (o := .cells #[.int .i64 t413, .slice Ao24 t414.length co24] 30 (0, 0)) d11_4 hb); have n5_ := ak (blk_below (g := gb432) (o := .cells #[.int .i64 t426, .string t427, .int .i64 t428, .int .i64 t429, .string t430, .int .i64 t431] 35 (0, 0)) d11_7 hb); have n6_ := ak (blk_below (g := gb439) (o := .cells #[.int .i64 t433, .string t434, .int .i64 t435, .int .i64 t436, .string t437, .int .i64 t438] 35 (0, 0)) d11_9 hb); have n7_ := ak (below_step d11_5 hb); clear HO_413001 HO_418001 BK407 BK412 BK417 BK432 BK439 HB; have HO_413001 := n0_; have HO_418001 := n1_; have BK407 := n2_; have BK412 := n3_; have BK417 := n4_; have BK432 := n5_; have BK439 := n6_; have HB := n7_; clear n0_ n1_ n2_ n3_ n4_ n5_ n6_ n7_; (try clear hb)))
              go_meet
              case rel => exact ⟨_, ((t451 == 0)), d11_12, H', ⟨by have := HJ2.out; have := HJ7.out; have := HJ39.out; first | omega | exact Nat.le_refl _⟩, ⟨c11_8⟩, ⟨c11_9⟩, ⟨c11_3⟩, ⟨c11_4⟩, ⟨c11_5⟩, ⟨c11_6⟩, ⟨c11_7⟩, ⟨c11_1⟩⟩
             ·rw [if_neg c131] at H
              have c131b0 : ((t413 == 4) == (t426 == 4)) = false := by simpa using c131
              (try (have c131b1 : decide ((t413 == 4) = (t426 == 4)) = false := by simpa using c131))
              (try (have c131b2 : ((t413 == 4) == (t426 == 4)) = false := by simpa using c131))
              (try (have c131b3 : ¬ ((t413 == 4) = (t426 == 4)) := by simpa using c131))
              clear c131; have H' := ak H; clear H; have hnb149 := NB439_407.out; have hnc149 := NB407_439.out; have hnb150 := NB439_412.out; have hnc150 := NB412_439.out; have hnb151 := NB439_417.out; have hnc151 := NB417_439.out; have hnb152 := NB439_432.out; have hnc152 := NB432_439.out; have hcz153_0 : wc.cell? ⟨gb439, 0, none⟩ = some (.int .i64 t433) := (blk_cell BK439.out 0).trans rfl; have hcz153_1 : wc.cell? ⟨gb439, 1, none⟩ = some (.string t434) := (blk_cell BK439.out 1).trans rfl; have hcz153_2 : wc.cell? ⟨gb439, 2, none⟩ = some (.int .i64 t435) := (blk_cell BK439.out 2).trans rfl; have hcz153_3 : wc.cell? ⟨gb439, 3, none⟩ = some (.int .i64 t436) := (blk_cell BK439.out 3).trans rfl; have hcz153_4 : wc.cell? ⟨gb439, 4, none⟩ = some (.string t437) := (blk_cell BK439.out 4).trans rfl; have hcz153_5 : wc.cell? ⟨gb439, 5, none⟩ = some (.int .i64 t438) := (blk_cell BK439.out 5).trans rfl; have hfz153_0 := blk_frozen BK439.out 0; have hfz153_1 := blk_frozen BK439.out 1; have hfz153_2 := blk_frozen BK439.out 2; have hfz153_3 := blk_frozen BK439.out 3; have hfz153_4 := blk_frozen BK439.out 4; have hfz153_5 := blk_frozen BK439.out 5; have hnb154 := NB407_412.out; have hnc154 := NB412_407.out; have hnb155 := NB407_417.out; have hnc155 := NB417_407.out; have hnb156 := NB407_432.out; have hnc156 := NB432_407.out; have hcz157_0 : wc.cell? ⟨gb407, 0, none⟩ = some (.int .i64 t404) := (blk_cell BK407.out 0).trans rfl
              have hcz157_1 : wc.cell? ⟨gb407, 1, none⟩ = some (.int .i64 t405) := (blk_cell BK407.out 1).trans rfl; have hcz157_2 : wc.cell? ⟨gb407, 2, none⟩ = some (.string t406) := (blk_cell BK407.out 2).trans rfl; have hfz157_0 := blk_frozen BK407.out 0; have hfz157_1 := blk_frozen BK407.out 1; have hfz157_2 := blk_frozen BK407.out 2; have hnb158 := NB432_412.out; have hnc158 := NB412_432.out; have hnb159 := NB432_417.out; have hnc159 := NB417_432.out; have hcz160_0 : wc.cell? ⟨gb432, 0, none⟩ = some (.int .i64 t426) := (blk_cell BK432.out 0).trans rfl; have hcz160_1 : wc.cell? ⟨gb432, 1, none⟩ = some (.string t427) := (blk_cell BK432.out 1).trans rfl; have hcz160_2 : wc.cell? ⟨gb432, 2, none⟩ = some (.int .i64 t428) := (blk_cell BK432.out 2).trans rfl; have hcz160_3 : wc.cell? ⟨gb432, 3, none⟩ = some (.int .i64 t429) := (blk_cell BK432.out 3).trans rfl; have hcz160_4 : wc.cell? ⟨gb432, 4, none⟩ = some (.string t430) := (blk_cell BK432.out 4).trans rfl; have hcz160_5 : wc.cell? ⟨gb432, 5, none⟩ = some (.int .i64 t431) := (blk_cell BK432.out 5).trans rfl; have hfz160_0 := blk_frozen BK432.out 0; have hfz160_1 := blk_frozen BK432.out 1; have hfz160_2 := blk_frozen BK432.out 2; have hfz160_3 := blk_frozen BK432.out 3; have hfz160_4 := blk_frozen BK432.out 4; have hfz160_5 := blk_frozen BK432.out 5; have hnb161 := NB417_412.out; have hnc161 := NB412_417.out; have hcz162_0 : wc.cell? ⟨gb417, 0, none⟩ = some (.int .i64 t413) := (blk_cell BK417.out 0).trans rfl
              have hcz162_1 : wc.cell? ⟨gb417, 1, none⟩ = some (.slice Ao24 t414.length co24) := (blk_cell BK417.out 1).trans rfl; have hfz162_0 := blk_frozen BK417.out 0; have hfz162_1 := blk_frozen BK417.out 1; go_wp2; go_meet
              case rel => exact ⟨_, (false), d11_12, H', ⟨by have := HJ2.out; have := HJ7.out; have := HJ39.out; first | omega | exact Nat.le_refl _⟩, ⟨c11_8⟩, ⟨c11_9⟩, ⟨c11_3⟩, ⟨c11_4⟩, ⟨c11_5⟩, ⟨c11_6⟩, ⟨c11_7⟩, ⟨c11_1⟩⟩
            ·rw [if_neg c130] at H
             have c130b0 : (t438 == 1) = false := beq_eq_false_iff_ne.mpr c130; have c130b1 : (t438 != 1) = true := bne_iff_ne.mpr c130; have H' := ak H; clear H; have hnb163 := NB439_407.out; have hnc163 := NB407_439.out; have hnb164 := NB439_412.out; have hnc164 := NB412_439.out; have hnb165 := NB439_417.out; have hnc165 := NB417_439.out; have hnb166 := NB439_432.out; have hnc166 := NB432_439.out; have hcz167_0 : wc.cell? ⟨gb439, 0, none⟩ = some (.int .i64 t433) := (blk_cell BK439.out 0).trans rfl; have hcz167_1 : wc.cell? ⟨gb439, 1, none⟩ = some (.string t434) := (blk_cell BK439.out 1).trans rfl; have hcz167_2 : wc.cell? ⟨gb439, 2, none⟩ = some (.int .i64 t435) := (blk_cell BK439.out 2).trans rfl; have hcz167_3 : wc.cell? ⟨gb439, 3, none⟩ = some (.int .i64 t436) := (blk_cell BK439.out 3).trans rfl; have hcz167_4 : wc.cell? ⟨gb439, 4, none⟩ = some (.string t437) := (blk_cell BK439.out 4).trans rfl; have hcz167_5 : wc.cell? ⟨gb439, 5, none⟩ = some (.int .i64 t438) := (blk_cell BK439.out 5).trans rfl; have hfz167_0 := blk_frozen BK439.out 0; have hfz167_1 := blk_frozen BK439.out 1; have hfz167_2 := blk_frozen BK439.out 2; have hfz167_3 := blk_frozen BK439.out 3; have hfz167_4 := blk_frozen BK439.out 4; have hfz167_5 := blk_frozen BK439.out 5; have hnb168 := NB407_412.out; have hnc168 := NB412_407.out; have hnb169 := NB407_417.out; have hnc169 := NB417_407.out; have hnb170 := NB407_432.out; have hnc170 := NB432_407.out
             have hcz171_0 : wc.cell? ⟨gb407, 0, none⟩ = some (.int .i64 t404) := (blk_cell BK407.out 0).trans rfl; have hcz171_1 : wc.cell? ⟨gb407, 1, none⟩ = some (.int .i64 t405) := (blk_cell BK407.out 1).trans rfl; have hcz171_2 : wc.cell? ⟨gb407, 2, none⟩ = some (.string t406) := (blk_cell BK407.out 2).trans rfl; have hfz171_0 := blk_frozen BK407.out 0; have hfz171_1 := blk_frozen BK407.out 1; have hfz171_2 := blk_frozen BK407.out 2; have hnb172 := NB432_412.out; have hnc172 := NB412_432.out; have hnb173 := NB432_417.out; have hnc173 := NB417_432.out; have hcz174_0 : wc.cell? ⟨gb432, 0, none⟩ = some (.int .i64 t426) := (blk_cell BK432.out 0).trans rfl; have hcz174_1 : wc.cell? ⟨gb432, 1, none⟩ = some (.string t427) := (blk_cell BK432.out 1).trans rfl; have hcz174_2 : wc.cell? ⟨gb432, 2, none⟩ = some (.int .i64 t428) := (blk_cell BK432.out 2).trans rfl; have hcz174_3 : wc.cell? ⟨gb432, 3, none⟩ = some (.int .i64 t429) := (blk_cell BK432.out 3).trans rfl; have hcz174_4 : wc.cell? ⟨gb432, 4, none⟩ = some (.string t430) := (blk_cell BK432.out 4).trans rfl; have hcz174_5 : wc.cell? ⟨gb432, 5, none⟩ = some (.int .i64 t431) := (blk_cell BK432.out 5).trans rfl; have hfz174_0 := blk_frozen BK432.out 0; have hfz174_1 := blk_frozen BK432.out 1; have hfz174_2 := blk_frozen BK432.out 2; have hfz174_3 := blk_frozen BK432.out 3; have hfz174_4 := blk_frozen BK432.out 4; have hfz174_5 := blk_frozen BK432.out 5; go_wp2; go_meet
             case rel => exact ⟨_, (false), d11_12, H', ⟨by have := HJ2.out; have := HJ7.out; have := HJ39.out; first | omega | exact Nat.le_refl _⟩, ⟨c11_8⟩, ⟨c11_9⟩, ⟨c11_3⟩, ⟨c11_4⟩, ⟨c11_5⟩, ⟨c11_6⟩, ⟨c11_7⟩, ⟨c11_1⟩⟩
          ·rw [if_neg c83] at H
           have c83b0 : (t435 == t404 && (t436 == t405 && (t437.toList == t406.toList))) = false := by simpa using c83
           (try (have c83b1 : decide (t435 = t404 && (t436 == t405 && (t437.toList == t406.toList))) = false := by simpa using c83))
           (try (have c83b2 : (t435 == t404 && (t436 == t405 && (t437.toList == t406.toList))) = false := by simpa using c83))
           (try (have c83b3 : ¬ (t435 = t404 && (t436 == t405 && (t437.toList == t406.toList))) := by simpa using c83))
           (try (have c83b4 : ¬ ((t435 == t404) = true ∧ (t436 == t405) = true ∧ (t437.toList == t406.toList) = true) := by simpa [eq_nil_b, ne_nil_b] using c83))
           (try (have c83b5 : ((t435 == t404) = false ∨ (t436 == t405) = false ∨ (t437.toList == t406.toList) = false) := by first | (intro hh; simp [eq_nil_b, ne_nil_b, hh] at c83; done) | simpa [eq_nil_b, ne_nil_b] using c83))
           clear c83; have H' := ak H; clear H; have hnb175 := NB439_407.out; have hnc175 := NB407_439.out; have hnb176 := NB439_412.out; have hnc176 := NB412_439.out; have hnb177 := NB439_417.out; have hnc177 := NB417_439.out; have hnb178 := NB439_432.out; have hnc178 := NB432_439.out; have hcz179_0 : wc.cell? ⟨gb439, 0, none⟩ = some (.int .i64 t433) := (blk_cell BK439.out 0).trans rfl; have hcz179_1 : wc.cell? ⟨gb439, 1, none⟩ = some (.string t434) := (blk_cell BK439.out 1).trans rfl; have hcz179_2 : wc.cell? ⟨gb439, 2, none⟩ = some (.int .i64 t435) := (blk_cell BK439.out 2).trans rfl; have hcz179_3 : wc.cell? ⟨gb439, 3, none⟩ = some (.int .i64 t436) := (blk_cell BK439.out 3).trans rfl; have hcz179_4 : wc.cell? ⟨gb439, 4, none⟩ = some (.string t437) := (blk_cell BK439.out 4).trans rfl; have hcz179_5 : wc.cell? ⟨gb439, 5, none⟩ = some (.int .i64 t438) := (blk_cell BK439.out 5).trans rfl; have hfz179_0 := blk_frozen BK439.out 0; have hfz179_1 := blk_frozen BK439.out 1; have hfz179_2 := blk_frozen BK439.out 2; have hfz179_3 := blk_frozen BK439.out 3; have hfz179_4 := blk_frozen BK439.out 4; have hfz179_5 := blk_frozen BK439.out 5; have hnb180 := NB407_412.out; have hnc180 := NB412_407.out; have hnb181 := NB407_417.out; have hnc181 := NB417_407.out; have hnb182 := NB407_432.out; have hnc182 := NB432_407.out; have hcz183_0 : wc.cell? ⟨gb407, 0, none⟩ = some (.int .i64 t404) := (blk_cell BK407.out 0).trans rfl
           have hcz183_1 : wc.cell? ⟨gb407, 1, none⟩ = some (.int .i64 t405) := (blk_cell BK407.out 1).trans rfl; have hcz183_2 : wc.cell? ⟨gb407, 2, none⟩ = some (.string t406) := (blk_cell BK407.out 2).trans rfl; have hfz183_0 := blk_frozen BK407.out 0; have hfz183_1 := blk_frozen BK407.out 1; have hfz183_2 := blk_frozen BK407.out 2; go_wp2; go_meet
           case rel => exact ⟨_, (false), d11_12, H', ⟨by have := HJ2.out; have := HJ7.out; have := HJ39.out; first | omega | exact Nat.le_refl _⟩, ⟨c11_8⟩, ⟨c11_9⟩, ⟨c11_3⟩, ⟨c11_4⟩, ⟨c11_5⟩, ⟨c11_6⟩, ⟨c11_7⟩, ⟨c11_1⟩⟩
         ·rw [if_neg c82] at H
          have c82b0 : (t433 == 0) = false := beq_eq_false_iff_ne.mpr c82; have c82b1 : (t433 != 0) = true := bne_iff_ne.mpr c82
          (first | rw [c82b0] | (simp only [i64_w, i32_w]; rw [c82b0]) | skip)
          have H' := ak H; clear H; have hnb184 := NB439_407.out; have hnc184 := NB407_439.out; have hnb185 := NB439_412.out; have hnc185 := NB412_439.out; have hnb186 := NB439_417.out; have hnc186 := NB417_439.out; have hnb187 := NB439_432.out; have hnc187 := NB432_439.out; have hcz188_0 : wc.cell? ⟨gb439, 0, none⟩ = some (.int .i64 t433) := (blk_cell BK439.out 0).trans rfl; have hcz188_1 : wc.cell? ⟨gb439, 1, none⟩ = some (.string t434) := (blk_cell BK439.out 1).trans rfl; have hcz188_2 : wc.cell? ⟨gb439, 2, none⟩ = some (.int .i64 t435) := (blk_cell BK439.out 2).trans rfl; have hcz188_3 : wc.cell? ⟨gb439, 3, none⟩ = some (.int .i64 t436) := (blk_cell BK439.out 3).trans rfl; have hcz188_4 : wc.cell? ⟨gb439, 4, none⟩ = some (.string t437) := (blk_cell BK439.out 4).trans rfl; have hcz188_5 : wc.cell? ⟨gb439, 5, none⟩ = some (.int .i64 t438) := (blk_cell BK439.out 5).trans rfl; have hfz188_0 := blk_frozen BK439.out 0; have hfz188_1 := blk_frozen BK439.out 1; have hfz188_2 := blk_frozen BK439.out 2; have hfz188_3 := blk_frozen BK439.out 3; have hfz188_4 := blk_frozen BK439.out 4; have hfz188_5 := blk_frozen BK439.out 5; go_wp2; go_meet
          case rel => exact ⟨_, (false), d11_12, H', ⟨by have := HJ2.out; have := HJ7.out; have := HJ39.out; first | omega | exact Nat.le_refl _⟩, ⟨c11_8⟩, ⟨c11_9⟩, ⟨c11_3⟩, ⟨c11_4⟩, ⟨c11_5⟩, ⟨c11_6⟩, ⟨c11_7⟩, ⟨c11_1⟩⟩
        case rest =>
         clear HC81
         try clear c1
         try clear c2
         try clear p2
         try clear c3
         try clear c4
         try clear p4
         try clear q4
         try clear hx4
         try clear c5
         try clear c6
         try clear p6
         try clear c7
         try clear c8
         try clear c9
         try clear c10
         try clear c15
         try clear c21
         try clear c22
         try clear c26
         try clear c26b0
         try clear c26b1
         try clear c29
         try clear c29b0
         try clear c29b1
         try clear c43
         try clear c44
         try clear p44
         try clear q44
         try clear hx44
         try clear c45
         try clear c47
         try clear c48
         try clear c52
         try clear c53
         try clear c54
         try clear c55
         try clear c58
         try clear c58b0
         try clear c60
         try clear c60b0
         try clear c61
         try clear c61b0
         try clear p64
         try clear c74
         try clear c74b0
         try clear c74b1
         try clear c80
         try clear hcz11_0
         try clear hcz11_1
         try clear hcz11_2
         try clear hcz16_0
         try clear hcz16_1
         try clear hcz18_0
         try clear hcz18_1
         try clear hcz18_2
         try clear hcz23_0
         try clear hcz23_1
         try clear hcz25_0
         try clear hcz25_1
         try clear hcz46_0
         try clear hcz46_1
         try clear hcz46_2
         try clear hcz46_3
         try clear hcz46_4
         try clear hcz46_5
         try clear hcz49_0
         try clear hcz49_1
         try clear hcz56_0
         try clear hcz56_1
         try clear hcz56_2
         try clear hcz56_3
         try clear hcz56_4
         try clear hcz56_5
         try clear hfz11_0
         try clear hfz11_1
         try clear hfz11_2
         try clear hfz16_0
         try clear hfz16_1
         try clear hfz18_0
         try clear hfz18_1
         try clear hfz18_2
         try clear hfz23_0
         try clear hfz23_1
         try clear hfz25_0
         try clear hfz25_1
         try clear hfz46_0
         try clear hfz46_1
         try clear hfz46_2
         try clear hfz46_3
         try clear hfz46_4
         try clear hfz46_5
         try clear hfz49_0
         try clear hfz49_1
         try clear hfz56_0
         try clear hfz56_1
         try clear hfz56_2
         try clear hfz56_3
         try clear hfz56_4
         try clear hfz56_5
         try clear hx440_0
         try clear hx440_1
         try clear hx440_2
         try clear hx440_3
         try clear hx440_4
         try clear hx448_0
         try clear hx448_1
         try clear hx448_2
         try clear hx448_3
         try clear hx448_4
         try clear hx449_0
         try clear hx449_1
         try clear hx449_2
         try clear hx449_3
         try clear hx449_4
         try clear p2
         try clear p4
         try clear p44
         try clear p440
         try clear p448
         try clear p449
         try clear q4
         try clear q44
         try clear q440
         try clear q448
         try clear q449
         obtain ⟨kq, x2_80, rfl, HA, HJ80, HO_413001, HO_418001, BK407, BK412, BK417, BK432, BK439, HB⟩ := hcut
         cases kq with
         | zero => exact absurd HA.out (by simp [laws_FnGlobals.j9])
         | succ kj80 =>
          have H := HA.out; clear HA; simp only [laws_FnGlobals.j9] at H; obtain rfl := Option.some.inj H; go_wp2; go_ret; exact ⟨by first | rfl | (simp [errW_none, errW_some] <;> rfl) | (simp [*, errW_none, errW_some] <;> rfl), c11_1⟩

end Go.Proofs.YteoccmbphmiaaaaDoor.B
