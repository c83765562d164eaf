/- Proved: the pure statement behind the law FnExactSubData: whatever its arguments, the law's plain function answers true. Conditions: the arguments are well formed values of their types. -/
import Derived.Test.YtaeeoljihmndfaaDoorSubLib
import Derived.Test.YtaeeoljihmndfaaDoorDatumLib
import Derived.Test.YtaeeoljihmndfaaDoorMarkDatum2Lib
import Derived.Test.YtaeeoljihmndfaaDoorB10
import Derived.Test.YtaeeoljihmndfaaDoorB5
import Derived.Test.YtaeeoljihmndfaaDoorB8
import Derived.Test.YtaeeoljihmndfaaDoorB9
namespace Go.Proofs.YtaeeoljihmndfaaDoor.Pure
open Go.RowKit Go.Proofs.YtaeeoljihmndfaaDoor.B Go.Proofs.YtaeeoljihmndfaaDoorW.PrintWords Go.Proofs.YtaeeoljihmndfaaDoorW.PrintLast Go.Proofs.YtaeeoljihmndfaaDoor.PL

theorem okDs_conv (l0 : List S96) (h : ∀ y ∈ l0, ok96 y) : okD (l0.map convD) := by
  intro x hx
  obtain ⟨y, hy, rfl⟩ := List.mem_map.mp hx
  have := (h y hy).2.2.2
  unfold maxLen at this
  exact this
theorem subData_ev (xs : List S99) (a : Int) (hx : okD xs) (hl : xs.length ≤ 1048576) : ∃ c l, Ev (fun k => impl_SubData.f k xs a) (c, 0, l) ∧ Ev (fun k => spec_SubData.f k xs a) (c, 0, l) ∧ l.length ≤ 1048576 := by
  have p := placeFault_ev xs a hx hl
  have q := l3Asked_ev xs a hx hl
  by_cases c : placeM xs a = 0
  · obtain ⟨h, h0, h1⟩ := place_in c
    obtain ⟨j, rfl⟩ : ∃ j : Nat, (j : Int) = a := ⟨a.toNat, Int.toNat_of_nonneg h0⟩
    have hn := data_len h
    have hj : j < xs.length := by omega
    refine ⟨0, subM xs j, Ev.congr (fun k => impl_SubData.f.eq_1 k _ _) (Ev.bind p (Ev.ifp c (Ev.bind (implSub_ev xs j hj hn.2) (Ev.now _)))), Ev.congr (fun k => spec_SubData.f.eq_1 k _ _) (Ev.bind q (Ev.ifp c (Ev.bind (specSub_ev xs j h hj) (Ev.now _)))), ?_⟩
    have := subU_length xs j (xs.length - (j + 1)) (j + 1)
    simp only [subM, List.length_cons]
    omega
  · exact ⟨placeM xs a, [], Ev.congr (fun k => impl_SubData.f.eq_1 k _ _) (Ev.bind p (Ev.ifn c (Ev.now _))), Ev.congr (fun k => spec_SubData.f.eq_1 k _ _) (Ev.bind q (Ev.ifn c (Ev.now _))), by simp⟩
theorem FnExactSubData : ∀ (l0 : List S96) (a1 : Int), (l0.length ≤ maxLen ∧ ∀ y ∈ l0, ok96 y) → ((Lit.int .i64 a1).wf = true) → ∃ k, laws_FnExactSubData.f k l0 a1 = some true := by
  intro l0 a1 h _
  obtain ⟨r, hr, _, hr2⟩ := szDatumS_ev l0 h.2 h.1 1048576 (by omega) (by omega)
  refine Ev.rounds (r := true) (Ev.congr (fun k => laws_FnExactSubData.f.eq_1 k _ _) (Ev.bind hr (Ev.iff (fun _ => Ev.now _) (fun c => ?_))))
  have t := toDatumS_ev l0 (by omega)
  have hl : (l0.map convD).length ≤ 1048576 := by rw [List.length_map]; omega
  obtain ⟨cc, l, hi, hs, hl2⟩ := subData_ev (l0.map convD) a1 (okDs_conv l0 h.2) hl
  have eqr : Ev (fun k => laws_eqDataResult.f k cc 0 l cc 0 l) true := Ev.congr (fun k => laws_eqDataResult.f.eq_1 k _ _ _ _ _ _) (Ev.ifp rfl (Ev.ifp rfl (Ev.bind (eqDatumS_ev l hl2) (Ev.ifp rfl (Ev.now _)))))
  have held : Ev (fun k => laws_heldDataResult.f k cc 0 (markL markD 4 l.length 1) 1) (1 + 4 * l.length) := Ev.congr (fun k => laws_heldDataResult.f.eq_1 k _ _ _ _) (Ev.bind (heldDatumS_ev l.length hl2 1 (by omega) (by omega)) (Ev.ifn (by omega) (Ev.now _)))
  refine Ev.step (fun k => laws_FnExactSubData.j0.eq_2 _ _ k) (Ev.bind t (Ev.bind hs (Ev.bind t (Ev.bind hi (Ev.bind eqr (Ev.ifp rfl ?_))))))
  refine Ev.step (fun k => laws_FnExactSubData.j1.eq_2 _ _ _ _ _ _ _ _ _ k) (Ev.bind t (Ev.bind (eqDatumS_ev _ hl) (Ev.ifp rfl ?_)))
  refine Ev.step (fun k => laws_FnExactSubData.j2.eq_2 _ _ _ _ _ _ _ _ _ k) (Ev.bind (markDatumS_ev _ hl 1 (by omega) (by omega)) (Ev.ifn (by show ¬ (1 + 4 * ((l0.map convD).length : Int) < 0); omega) (Ev.bind eqr ?_)))
  refine Ev.step (fun k => laws_FnExactSubData.j3.eq_2 _ _ _ _ _ _ _ _ _ k) (Ev.ifn (by decide) ?_)
  refine Ev.step (fun k => laws_FnExactSubData.j4.eq_2 _ _ _ _ _ _ _ _ k) (Ev.bind (Ev.congr (fun k => laws_markDataResult.f.eq_1 k _ _ _ _) (Ev.bind (markDatumS_ev l hl2 1 (by omega) (by omega)) (Ev.now _))) (Ev.bind held (Ev.ifn (by omega) ?_)))
  refine Ev.step (fun k => laws_FnExactSubData.j5.eq_2 _ _ _ _ _ _ _ _ _ _ k) (Ev.ifp rfl ?_)
  refine Ev.step (fun k => laws_FnExactSubData.j6.eq_2 _ _ _ _ _ _ _ _ _ k) (Ev.bind t (Ev.bind hi (Ev.bind eqr (Ev.ifp rfl ?_))))
  exact Ev.step (fun k => laws_FnExactSubData.j7.eq_2 _ _ _ _ k) (Ev.bind held (Ev.ifn (by omega) (Ev.ifp rfl (Ev.now _))))
end Go.Proofs.YtaeeoljihmndfaaDoor.Pure
