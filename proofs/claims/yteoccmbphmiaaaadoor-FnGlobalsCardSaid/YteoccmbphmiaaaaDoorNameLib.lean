/- Proved: what the program's and the reference's tests of globals and a name come to. Conditions: those in each head. -/
import Derived.Test.YteoccmbphmiaaaaDoorGlobLib
import Derived.Test.YteoccmbphmiaaaaDoorB6
import Derived.Test.YteoccmbphmiaaaaDoorB9
namespace Go.Proofs.YteoccmbphmiaaaaDoor.B
open Go.RowKit Go.Proofs.YteoccmbphmiaaaaDoorW.PrintWords Go.Proofs.YteoccmbphmiaaaaDoorW.PrintLast Go.Proofs.YteoccmbphmiaaaaDoor.PL
set_option linter.unusedSimpArgs false

/-- The fault of globals and of a name. -/
def nameM (xs : List S33) (nm : ByteArray) : Int := if globM xs = 0 then symM nm else globM xs
theorem nameFault_ev (xs : List S33) (nm : ByteArray) (hx : okG xs) (hn : nm.size ≤ 9223372036854775807) : Ev (fun k => impl_nameFault.f k xs nm) (nameM xs nm) := by
  refine Ev.congr (fun k => impl_nameFault.f.eq_1 k _ _) (Ev.bind (implGlob_ev xs hx) (Ev.iff (fun c => Ev.bind0 (SymFault_eq nm hn) (Ev.leaf (by unfold nameM; rw [if_pos c]))) (fun c => Ev.leaf (by unfold nameM; rw [if_neg c]))))
theorem l7Asked_ev (xs : List S33) (nm : ByteArray) (hx : okG xs) (hn : nm.size ≤ 9223372036854775807) : Ev (fun k => spec_l7Asked.f k xs nm) (nameM xs nm) := by
  refine Ev.congr (fun k => spec_l7Asked.f.eq_1 k _ _) (Ev.bind (l7Fault_ev xs hx) (Ev.iff (fun c => Ev.bind (specSymFault_ev nm hn) (Ev.leaf (by unfold nameM; rw [if_pos c]))) (fun c => Ev.leaf (by unfold nameM; rw [if_neg c]))))
end Go.Proofs.YteoccmbphmiaaaaDoor.B
