/- Proved: what the program's and the reference's look-up of a global comes to. Conditions: those in each head. -/
import Derived.Test.YtigkkgikdpjdnaaDoorGlobLib
import Derived.Test.YtigkkgikdpjdnaaDoorA21
import Derived.Test.YtigkkgikdpjdnaaDoorA21
namespace Go.Proofs.YtigkkgikdpjdnaaDoor.A
open Go.RowKit Go.Proofs.YtigkkgikdpjdnaaDoorW.PrintWords Go.Proofs.YtigkkgikdpjdnaaDoorW.PrintLast Go.Proofs.YtigkkgikdpjdnaaDoor.PL
set_option linter.unusedSimpArgs false

/-- The fault of globals and of a name. -/
def nameM (xs : List S53) (nm : ByteArray) : Int := if globM xs = 0 then symM nm else globM xs
theorem nameFault_ev (xs : List S53) (nm : ByteArray) (hx : okG xs) (hn : nm.size ≤ 9223372036854775807) : Ev (fun k => impl_nameFault.f k xs nm) (nameM xs nm) := by
  refine Ev.congr (fun k => impl_nameFault.f.eq_1 k _ _) (Ev.bind (implGlob_ev xs hx) (Ev.iff (fun c => Ev.bind0 (SymFault_eq nm hn) (Ev.leaf (by unfold nameM; rw [if_pos c]))) (fun c => Ev.leaf (by unfold nameM; rw [if_neg c]))))
theorem l7Asked_ev (xs : List S53) (nm : ByteArray) (hx : okG xs) (hn : nm.size ≤ 9223372036854775807) : Ev (fun k => spec_l7Asked.f k xs nm) (nameM xs nm) := by
  refine Ev.congr (fun k => spec_l7Asked.f.eq_1 k _ _) (Ev.bind (l7Fault_ev xs hx) (Ev.iff (fun c => Ev.bind (specSymFault_ev nm hn) (Ev.leaf (by unfold nameM; rw [if_pos c]))) (fun c => Ev.leaf (by unfold nameM; rw [if_neg c]))))
theorem look_ev (xs : List S53) (nm : ByteArray) (hx : okG xs) (hn : nm.size ≤ 9223372036854775807) (hl : xs.length ≤ 1048576) : ∃ r, Ev (fun k => impl_LookGlobal.f k xs nm) r ∧ Ev (fun k => spec_LookGlobal.f k xs nm) r := by
  have a := nameFault_ev xs nm hx hn
  have b := l7Asked_ev xs nm hx hn
  by_cases c : nameM xs nm = 0
  · have g := globalAt_ev xs nm (by omega)
    have s := l7At_ev xs nm (by omega)
    rcases atM_lt xs nm with d | ⟨d0, d1⟩
    · exact ⟨_, Ev.congr (fun k => impl_LookGlobal.f.eq_1 k _ _) (Ev.bind a (Ev.ifp c (Ev.bind g (Ev.ifp d (Ev.now _))))), Ev.congr (fun k => spec_LookGlobal.f.eq_1 k _ _) (Ev.bind b (Ev.ifp c (Ev.bind s (Ev.ifp d (Ev.now _)))))⟩
    · exact ⟨_, Ev.congr (fun k => impl_LookGlobal.f.eq_1 k _ _) (Ev.bind a (Ev.ifp c (Ev.bind g (Ev.ifn (by omega) (Ev.ifp d0 (Ev.ifp d1 (Ev.now _))))))), Ev.congr (fun k => spec_LookGlobal.f.eq_1 k _ _) (Ev.bind b (Ev.ifp c (Ev.bind s (Ev.ifn (by omega) (Ev.ifp d0 (Ev.ifp d1 (Ev.now _)))))))⟩
  · exact ⟨_, Ev.congr (fun k => impl_LookGlobal.f.eq_1 k _ _) (Ev.bind a (Ev.ifn c (Ev.now _))), Ev.congr (fun k => spec_LookGlobal.f.eq_1 k _ _) (Ev.bind b (Ev.ifn c (Ev.now _)))⟩
end Go.Proofs.YtigkkgikdpjdnaaDoor.A
