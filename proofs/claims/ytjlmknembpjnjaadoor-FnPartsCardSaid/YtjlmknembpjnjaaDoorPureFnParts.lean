/- Proved: the pure statement behind the law FnParts: whatever its arguments, the law's plain function answers true. Conditions: the arguments are well formed values of their types. -/
import Derived.Test.YtjlmknembpjnjaaDoorMLib
import Derived.Test.YtjlmknembpjnjaaDoorA5
import Derived.Test.YtjlmknembpjnjaaDoorA8
import Derived.Test.YtjlmknembpjnjaaDoorA11
import Derived.Test.YtjlmknembpjnjaaDoorA10
import Derived.Test.YtjlmknembpjnjaaDoorA9
namespace Go.Proofs.YtjlmknembpjnjaaDoor.Pure
open Go.RowKit Go.Proofs.YtjlmknembpjnjaaDoor.A Go.Proofs.YtjlmknembpjnjaaDoorW.PrintWords Go.Proofs.YtjlmknembpjnjaaDoorW.PrintLast Go.Proofs.YtjlmknembpjnjaaDoor.PL
set_option linter.unusedSimpArgs false

/-- The law's loop over the parts. -/
theorem parts_sumloop (xs : List S45) (h : dataM xs = 0) (hx : okD xs) (a : Int) (c t : Int) (S : List S45) (p : Int) (ps : List Int) (hp : ∀ q ∈ ps, 0 ≤ q ∧ q < (xs.length : Int)) (hl : ps.length ≤ 80) (tot : Int) (hf : Ev (fun k => laws_FnParts.j6 k xs a tot c t S p ps) true) : ∀ (d i : Nat) (x : Int), i + d = ps.length → 0 ≤ x → x ≤ 1 + 80 * (i : Int) → x + (((ps.drop i).map (cntD xs)).sum : Nat) = tot → Ev (fun k => laws_FnParts.l0 k xs a x (i : Int) c t S p ps) true
  | 0, i, x, hd, h0, h1, ht => by
    have e : ps.drop i = [] := List.drop_eq_nil_of_le (by omega)
    rw [e] at ht
    have : x = tot := by simpa using ht
    subst this
    exact Ev.step (fun k => laws_FnParts.l0.eq_2 _ _ _ _ _ _ _ _ _ k) (Ev.ifn (by omega) hf)
  | d + 1, i, x, hd, h0, h1, ht => by
    have hi : i < ps.length := by omega
    have hr : rd ps (i : Int) = ps[i] := by simp [rd, hi]
    obtain ⟨q0, q1⟩ := hp ps[i] (List.getElem_mem hi)
    obtain ⟨q, hq⟩ : ∃ q : Nat, (q : Int) = ps[i] := ⟨ps[i].toNat, Int.toNat_of_nonneg q0⟩
    have hn := data_len80' h
    have hc := subM_cnt h q (by omega)
    have hle := sub_len_le xs q (by omega)
    rw [List.drop_eq_getElem_cons hi, List.map_cons, List.sum_cons, ← hq, ← hc] at ht
    have hz : placeM xs (q : Int) = 0 := by unfold placeM; rw [if_pos h, if_pos (inB_iff.mpr (by omega))]
    have hs : Ev (fun k => impl_SubData.f k xs (q : Int)) (0, 0, subM xs q) := Ev.congr (fun k => impl_SubData.f.eq_1 k _ _) (Ev.bind (placeFault_ev xs (q : Int) hx (by omega)) (Ev.ifp hz (Ev.bind (implSub_ev xs q (by omega) hn.2) (Ev.now _))))
    refine Ev.step (fun k => laws_FnParts.l0.eq_2 _ _ _ _ _ _ _ _ _ k) (Ev.ifp (by omega) (Ev.step (fun k => laws_FnParts.j4.eq_2 _ _ _ _ _ _ _ _ _ k) (Ev.ifp (by omega) (Ev.ifp (by omega) ?_))))
    rw [hr, ← hq]
    refine Ev.bind hs (Ev.step (fun k => laws_FnParts.j5.eq_2 _ _ _ _ _ _ _ _ _ k) ?_)
    have w : wrap64 (x + ((subM xs q).length : Int)) = x + ((subM xs q).length : Int) := wrap_id (by omega) (by omega)
    rw [w, wrap_succ hi (by omega)]
    exact parts_sumloop xs h hx a c t S p ps hp hl tot hf d (i + 1) _ (by omega) (by omega) (by omega) (by omega)
theorem write_both (xs : List S45) (hx : okD xs) (c : dataM xs = 0) : ∃ r : Int × ByteArray, Ev (fun k => impl_WriteData.f k xs) r ∧ Ev (fun k => spec_WriteData.f k xs) r := by
  have p := implData_ev xs hx
  have q := l3Fault_ev xs hx
  have hn := data_len80' c
  obtain ⟨h1, h2⟩ := both_ev xs (data_ahead c) (data_good c) hn.2 xs.length 0 (by omega) (by omega)
  by_cases z : ((txt xs xs.length ((0 : Nat) : Int)).size : Int) > 400
  · exact ⟨(2, ⟨#[]⟩), Ev.congr (fun k => impl_WriteData.f.eq_1 k _) (Ev.bind p (Ev.ifp c (Ev.bind h1 (Ev.ifp z (Ev.now _))))), Ev.congr (fun k => spec_WriteData.f.eq_1 k _) (Ev.bind q (Ev.ifp c (Ev.bind h2 (Ev.ifp z (Ev.now _)))))⟩
  · exact ⟨_, Ev.congr (fun k => impl_WriteData.f.eq_1 k _) (Ev.bind p (Ev.ifp c (Ev.bind h1 (Ev.ifn z (Ev.now _))))), Ev.congr (fun k => spec_WriteData.f.eq_1 k _) (Ev.bind q (Ev.ifp c (Ev.bind h2 (Ev.ifn z (Ev.now _)))))⟩
theorem FnParts : ∀ (l0 : List Int), (l0.length ≤ maxLen ∧ ∀ y ∈ l0, (Lit.int .u8 y).wf = true) → ∃ k, laws_FnParts.f k l0 = some true := by
  intro l0 h
  refine Ev.rounds (r := true) (Ev.congr (fun k => laws_FnParts.f.eq_1 k _) (Ev.bind0 rfl (Ev.iff (fun _ => Ev.now _) (fun c => ?_))))
  have hl : okB l0 := okB_of l0 (by have z := c; simp at z; omega) h.2
  obtain ⟨xs, a, hd, hsm, hn⟩ := drawSub_ev l0 hl
  have hx := smallD_ok hsm
  have p := placeFault_ev xs a hx hn
  have q := l3Asked_ev xs a hx hn
  by_cases cp : placeM xs a = 0
  · obtain ⟨h0, a0, a1⟩ := place_in cp
    obtain ⟨j, rfl⟩ : ∃ j : Nat, (j : Int) = a := ⟨a.toNat, Int.toNat_of_nonneg a0⟩
    have hj : j < xs.length := by omega
    have hn8 := data_len80' h0
    have hi : Ev (fun k => impl_SubData.f k xs (j : Int)) (0, 0, subM xs j) := Ev.congr (fun k => impl_SubData.f.eq_1 k _ _) (Ev.bind p (Ev.ifp cp (Ev.bind (implSub_ev xs j hj hn8.2) (Ev.now _))))
    have hs : Ev (fun k => spec_SubData.f k xs (j : Int)) (0, 0, subM xs j) := Ev.congr (fun k => spec_SubData.f.eq_1 k _ _) (Ev.bind q (Ev.ifp cp (Ev.bind (specSub_ev xs j h0 hj) (Ev.now _))))
    have hp : Ev (fun k => impl_PartsOf.f k xs (j : Int)) (0, partsM xs (j : Int)) := Ev.congr (fun k => impl_PartsOf.f.eq_1 k _ _) (Ev.bind p (Ev.ifp cp (Ev.bind (implParts_ev xs (j : Int) hn) (Ev.now _))))
    have hok := sub_ok h0 j hj
    have hsl := sub_len_le xs j hj
    have hxs : okD (subM xs j) := by
      intro x hxm
      obtain ⟨t, ht, rfl⟩ := List.getElem_of_mem hxm
      have e : (subM xs j)[t] = rd_T45 (subM xs j) (t : Int) := (rdDf_at ht).symm
      by_cases t0 : t = 0
      · subst t0
        show (firstS xs (j : Int)).f3.size ≤ _
        have : (firstS xs (j : Int)).f3 = (rd_T45 xs (j : Int)).f3 := rfl
        rw [this, rdDf_at hj]
        exact hx _ (List.getElem_mem _)
      · rw [e, (sub_at h0 j hj t (by omega) ht).1]
        show (rd_T45 xs ((j + t : Nat) : Int)).f3.size ≤ _
        rw [rdDf_at (by omega)]
        exact hx _ (List.getElem_mem _)
    obtain ⟨r, hw1, hw2⟩ := write_both (subM xs j) hxs hok
    have hsame : Ev (fun k => impl_SameData.f k (subM xs j) (subM xs j)) true := Ev.cast (implSameData_ev _ _ (by omega)) (sameD_self _)
    have hpl := partsU_length xs (j : Int) xs.length 0
    have hcnt := cnt_parts (data_ahead h0) j hj
    have hsc := subM_cnt h0 j hj
    have fin : Ev (fun k => laws_FnParts.j6 k xs (j : Int) ((subM xs j).length : Int) 0 0 (subM xs j) 0 (partsM xs (j : Int))) true :=
      Ev.step (fun k => laws_FnParts.j6.eq_2 _ _ _ _ _ _ _ _ k) (Ev.ifp rfl (Ev.ifp rfl (Ev.bind (implData_ev _ hxs) (Ev.ifp hok (Ev.bind hs (Ev.bind hsame (Ev.ifp rfl (Ev.bind hw1 (Ev.bind hw2 (Ev.step (fun k => laws_FnParts.j7.eq_2 _ k) (Ev.leaf (by simp))))))))))))
    have lo := parts_sumloop xs h0 hx (j : Int) 0 0 (subM xs j) 0 (partsM xs (j : Int)) (fun q hq => by
      obtain ⟨i, e, _, i1, _⟩ := parts_mem xs (j : Int) xs.length 0 q hq
      omega) (by unfold partsM; omega) _ fin (partsM xs (j : Int)).length 0 1 (by omega) (by omega) (by omega) (by rw [List.drop_zero]; omega)
    refine Ev.step (fun k => laws_FnParts.j0.eq_2 _ k) (Ev.bind hd (Ev.bind hi (Ev.ifp rfl (Ev.step (fun k => laws_FnParts.j2.eq_2 _ _ _ _ _ k) (Ev.bind hp lo)))))
  · have hi : Ev (fun k => impl_SubData.f k xs a) (placeM xs a, 0, []) := Ev.congr (fun k => impl_SubData.f.eq_1 k _ _) (Ev.bind p (Ev.ifn cp (Ev.now _)))
    have hs : Ev (fun k => spec_SubData.f k xs a) (placeM xs a, 0, []) := Ev.congr (fun k => spec_SubData.f.eq_1 k _ _) (Ev.bind q (Ev.ifn cp (Ev.now _)))
    have hp : Ev (fun k => impl_PartsOf.f k xs a) (placeM xs a, []) := Ev.congr (fun k => impl_PartsOf.f.eq_1 k _ _) (Ev.bind p (Ev.ifn cp (Ev.now _)))
    exact Ev.step (fun k => laws_FnParts.j0.eq_2 _ k) (Ev.bind hd (Ev.bind hi (Ev.ifn cp (Ev.bind hs (Ev.ifp rfl (Ev.bind hp (Ev.step (fun k => laws_FnParts.j1.eq_2 _ k) (Ev.leaf (by simp)))))))))
end Go.Proofs.YtjlmknembpjnjaaDoor.Pure
