/- Proved: what the program's and the reference's new globals come to: the same. Conditions: those in each head. -/
import Derived.Test.YteoccmbphmiaaaaDoorInLib
import Derived.Test.YteoccmbphmiaaaaDoorB6
namespace Go.Proofs.YteoccmbphmiaaaaDoor.B
open Go.RowKit Go.Proofs.YteoccmbphmiaaaaDoorW.PrintWords Go.Proofs.YteoccmbphmiaaaaDoorW.PrintLast Go.Proofs.YteoccmbphmiaaaaDoor.PL
set_option linter.unusedSimpArgs false

/-- The globals of names, from a place on. -/
def newU (v : Int) (ns : List ByteArray) : Nat → Nat → List S33
  | 0, _ => []
  | d + 1, i => ⟨rdOf ByteArray.empty ns (i : Int), ⟨8, (i : Int), ⟨#[]⟩⟩, v⟩ :: newU v ns d (i + 1)
theorem newU_length (v : Int) (ns : List ByteArray) : ∀ d i, (newU v ns d i).length = d
  | 0, _ => rfl
  | d + 1, i => by simp [newU, newU_length v ns d]
theorem l7New_loop (v : Int) (ns : List ByteArray) (hn : ns.length ≤ 1048576) : ∀ d i acc, i + d = ns.length → acc.length + d ≤ 1048576 → Ev (fun k => spec_l7New.l0 k v acc ns (i : Int)) (acc ++ newU v ns d i)
  | 0, i, acc, hd, ha => Ev.step (fun k => spec_l7New.l0.eq_2 _ _ _ _ k) (Ev.ifn (by omega) (Ev.leaf (by simp [newU])))
  | d + 1, i, acc, hd, ha => by
    have hi : i < ns.length := by omega
    refine Ev.step (fun k => spec_l7New.l0.eq_2 _ _ _ _ k) (Ev.ifp (by omega) (Ev.ifp (by omega) (Ev.ifp (by omega) ?_)))
    rw [wrap_succ hi (by omega)]
    exact Ev.cast (l7New_loop v ns hn d (i + 1) _ (by omega) (by simp; omega)) (by simp [newU])
/-- The names of the primitives. -/
def primN : List ByteArray := [⟨#[43]⟩, ⟨#[45]⟩, ⟨#[42]⟩, ⟨#[113, 117, 111]⟩, ⟨#[114, 101, 109]⟩, ⟨#[60]⟩, ⟨#[61]⟩, ⟨#[99, 111, 110, 115]⟩, ⟨#[99, 97, 114]⟩, ⟨#[99, 100, 114]⟩, ⟨#[110, 117, 108, 108, 63]⟩, ⟨#[112, 97, 105, 114, 63]⟩, ⟨#[101, 113, 63]⟩, ⟨#[110, 111, 116]⟩, ⟨#[108, 105, 115, 116]⟩, ⟨#[99, 97, 108, 108, 47, 99, 99]⟩]
def newM (v : Int) : List S33 := newU v primN 16 0
theorem l7New_ev (v : Int) : Ev (fun k => spec_l7New.f k v) (newM v) :=
  Ev.congr (fun k => spec_l7New.f.eq_1 k _) (Ev.bind0 (a := primN) rfl (l7New_loop v primN (by decide) 16 0 [] rfl (by decide)))
/-- The new globals, or the fault of a version. -/
def newR (v : Int) : Int × List S33 := if inB v 1 99999 = true then (0, newM v) else (3, [])
theorem newR_len (v : Int) : (newR v).2.length ≤ 16 := by
  unfold newR
  split
  · simp [newM, newU_length]
  · simp
end Go.Proofs.YteoccmbphmiaaaaDoor.B
