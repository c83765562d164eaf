/- Proved: the pure statement behind the law FnExactWriteData: whatever its argument, the law's plain function answers true. Conditions: the argument is a well formed value of its type. -/
import Derived.Test.YtgnenhehcdekkacDoorWriteLib
import Derived.Test.YtgnenhehcdekkacDoorDatumLib
import Derived.Test.YtgnenhehcdekkacDoorA8
import Derived.Test.YtgnenhehcdekkacDoorA4
import Derived.Test.YtgnenhehcdekkacDoorA7
namespace Go.Proofs.YtgnenhehcdekkacDoor.Pure
open Go.RowKit Go.Proofs.YtgnenhehcdekkacDoor.A Go.Proofs.YtgnenhehcdekkacDoorW.PrintWords Go.Proofs.YtgnenhehcdekkacDoorW.PrintLast Go.Proofs.YtgnenhehcdekkacDoor.PL

theorem okDw_conv (l0 : List S34) (h : ∀ y ∈ l0, ok34 y) : okD (l0.map convD) := by
  intro x hx
  obtain ⟨y, hy, rfl⟩ := List.mem_map.mp hx
  have := (h y hy).2.2.2
  unfold maxLen at this
  exact this
theorem data_lenW {xs : List S37} (h : dataM xs = 0) : 1 ≤ xs.length ∧ xs.length ≤ 80 := by
  unfold dataM at h
  split at h
  · rename_i c
    have := inB_iff.mp c
    omega
  · omega
theorem writeData_ev (xs : List S37) (hx : okD xs) : ∃ r : Int × ByteArray, Ev (fun k => impl_WriteData.f k xs) r ∧ Ev (fun k => spec_WriteData.f k xs) r := by
  have p := implData_ev xs hx
  have q := l3Fault_ev xs hx
  by_cases c : dataM xs = 0
  · have hn := data_lenW c
    obtain ⟨h1, h2⟩ := both_ev xs (data_ahead c) (data_good c) hn.2 xs.length 0 (by omega) (by omega)
    by_cases z : ((txt xs xs.length ((0 : Nat) : Int)).size : Int) > 400
    · exact ⟨(2, ⟨#[]⟩), Ev.congr (fun k => impl_WriteData.f.eq_1 k _) (Ev.bind p (Ev.ifp c (Ev.bind h1 (Ev.ifp z (Ev.now _))))), Ev.congr (fun k => spec_WriteData.f.eq_1 k _) (Ev.bind q (Ev.ifp c (Ev.bind h2 (Ev.ifp z (Ev.now _)))))⟩
    · exact ⟨_, Ev.congr (fun k => impl_WriteData.f.eq_1 k _) (Ev.bind p (Ev.ifp c (Ev.bind h1 (Ev.ifn z (Ev.now _))))), Ev.congr (fun k => spec_WriteData.f.eq_1 k _) (Ev.bind q (Ev.ifp c (Ev.bind h2 (Ev.ifn z (Ev.now _)))))⟩
  · exact ⟨(dataM xs, ⟨#[]⟩), Ev.congr (fun k => impl_WriteData.f.eq_1 k _) (Ev.bind p (Ev.ifn c (Ev.now _))), Ev.congr (fun k => spec_WriteData.f.eq_1 k _) (Ev.bind q (Ev.ifn c (Ev.now _)))⟩
theorem FnExactWriteData : ∀ (l0 : List S34), (l0.length ≤ maxLen ∧ ∀ y ∈ l0, ok34 y) → ∃ k, laws_FnExactWriteData.f k l0 = some true := by
  intro l0 h
  obtain ⟨r, hr, _, hr2⟩ := szDatumS_ev l0 h.2 h.1 1048576 (by omega) (by omega)
  refine Ev.rounds (r := true) (Ev.congr (fun k => laws_FnExactWriteData.f.eq_1 k _) (Ev.bind hr (Ev.iff (fun _ => Ev.now _) (fun c => ?_))))
  have t := toDatumS_ev l0 (by omega)
  have hl : (l0.map convD).length ≤ 1048576 := by rw [List.length_map]; omega
  obtain ⟨x, hi, hs⟩ := writeData_ev (l0.map convD) (okDw_conv l0 h.2)
  have eqr : laws_eqTextResult.f x.1 x.2 x.1 x.2 = some true := by unfold laws_eqTextResult.f; rw [if_pos rfl, if_pos rfl]
  exact Ev.bind t (Ev.bind hs (Ev.bind t (Ev.bind hi (Ev.bind0 eqr (Ev.ifp rfl (Ev.bind t (Ev.bind (eqDatumS_ev _ hl) (Ev.ifp rfl (Ev.now _)))))))))
end Go.Proofs.YtgnenhehcdekkacDoor.Pure
