/- Proved: what the laws' small helpers over lists of instructions come to. Conditions: those in each head. -/
import Derived.Test.YthjfdohcdkpdnaaDoorPL2Lib
import Derived.Test.YthjfdohcdkpdnaaDoorDatumLib
import Derived.Test.YthjfdohcdkpdnaaDoorAOk
import Derived.Test.YthjfdohcdkpdnaaDoorA15
namespace Go.Proofs.YthjfdohcdkpdnaaDoor.A
open Go.RowKit Go.Proofs.YthjfdohcdkpdnaaDoorW.PrintWords Go.Proofs.YthjfdohcdkpdnaaDoorW.PrintLast Go.Proofs.YthjfdohcdkpdnaaDoor.PL
set_option linter.unusedSimpArgs false

theorem rdLO_at {xs : List S64} {i : Nat} (h : i < xs.length) : rd_T64 xs (i : Int) = xs[i] := by simp [rd_T64, h]
theorem szOp_ev (x : S64) (left : Int) (hx : ok64 x) (h0 : 0 ≤ left) (h1 : left ≤ 1048576) : ∃ r, Ev (fun k => laws_szOp.f k x.f0 x.f1 x.f2 x.f3 x.f4 x.f5 x.f6 left) r ∧ r ≤ left ∧ (r < 0 → r = -1) ∧ (r < 0 ∨ x.f6.length ≤ 1048576) := by
  have hn := hx.2.2.2.2.2.1
  have hd := hx.2.2.2.2.2.2
  unfold maxLen at hn
  have hw : wrap64 (left - (x.f5.size : Int)) = left - (x.f5.size : Int) := wrap_id (by omega) (by omega)
  by_cases c : left - (x.f5.size : Int) < 0
  · exact ⟨-1, Ev.congr (fun k => laws_szOp.f.eq_1 k _ _ _ _ _ _ _ _) (by rw [hw]; exact Ev.ifp c (Ev.now _)), by omega, fun _ => rfl, .inl (by omega)⟩
  · obtain ⟨q, hq, hq1, hq2⟩ := szDatumS_ev x.f6 hd.2 hd.1 (left - (x.f5.size : Int)) (by omega) (by omega)
    by_cases d : q < 0
    · exact ⟨-1, Ev.congr (fun k => laws_szOp.f.eq_1 k _ _ _ _ _ _ _ _) (by rw [hw]; exact Ev.ifn c (Ev.bind hq (Ev.ifp d (Ev.now _)))), by omega, fun _ => rfl, .inl (by omega)⟩
    · exact ⟨q, Ev.congr (fun k => laws_szOp.f.eq_1 k _ _ _ _ _ _ _ _) (by rw [hw]; exact Ev.ifn c (Ev.bind hq (Ev.ifn d (Ev.now _)))), by omega, fun h => absurd h d, hq2⟩
end Go.Proofs.YthjfdohcdkpdnaaDoor.A
