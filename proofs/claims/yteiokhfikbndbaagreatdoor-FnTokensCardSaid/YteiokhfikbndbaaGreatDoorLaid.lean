/- Proved: that what the listed variables hold, they hold behind whatever leaves the elder blocks as they are. Conditions: those in each head. -/
import Derived.Test.YteiokhfikbndbaaGreatDoorProg
import Derived.Lib.LaidTab
import Derived.Shelf.Strconv.Itoa4
import Derived.Shelf.Strconv.ErrVarParseInt
import Derived.Lib.AtoiErrMem
import Derived.Below
namespace Go.Proofs.YteiokhfikbndbaaGreatDoor
open Go.RowKit
/-- The library's table of tens and its two errors of numbers read as they are laid. -/
def Lz (w : World) : Prop := Lib.TabIs Tryz.prog w "internal/strconv.uint64pow10" .u64 Lib.pow10Tab ∧ (∃ tp p, w.var? Tryz.prog "strconv.ErrSyntax" = some #[.iface tp p]) ∧ ∃ tp p, w.var? Tryz.prog "strconv.ErrRange" = some #[.iface tp p]
theorem var_below {P : Program} {w w' : World} {n : String} {cs : Array Value} (h : w.var? P n = some cs) (hb : Below w.heap.size w w') : w'.var? P n = some cs := by
  unfold World.var? at h ⊢
  cases hg : P.globalNamed n with
  | none => rw [hg] at h; cases h
  | some g =>
    rw [hg] at h
    simp only [Option.bind_some] at h ⊢
    have hlt : g < w.heap.size := by
      cases hh : w.heap[g]? with
      | none => rw [hh] at h; cases h
      | some o => exact (Array.getElem?_eq_some_iff.1 hh).1
    rw [hb.block g hlt]
    exact h
theorem Lz.below {w w' : World} (h : Lz w) (hb : Below w.heap.size w w') : Lz w' := ⟨var_below h.1 hb, ⟨_, _, var_below h.2.1.choose_spec.choose_spec hb⟩, ⟨_, _, var_below h.2.2.choose_spec.choose_spec hb⟩⟩
theorem Lz.tab {w : World} (h : Lz w) : Lib.TabIs Tryz.prog w "internal/strconv.uint64pow10" .u64 Lib.pow10Tab := h.1
theorem Lz.syn {w : World} (h : Lz w) : ∃ tp p, w.var? Tryz.prog "strconv.ErrSyntax" = some #[.iface tp p] := h.2.1
theorem Lz.rng {w : World} (h : Lz w) : ∃ tp p, w.var? Tryz.prog "strconv.ErrRange" = some #[.iface tp p] := h.2.2
theorem below_grow (w : World) (k : Nat) (os : Array Obj) : Below w.heap.size w (Sort.grow (w.drewN k) os) :=
  ⟨rfl, rfl, rfl, by simp [Sort.grow], fun i hi => by
    show ((w.drewN k).heap ++ os)[i]? = _
    rw [Array.getElem?_append_left (by show i < w.heap.size; omega)]
    rfl⟩
end Go.Proofs.YteiokhfikbndbaaGreatDoor
