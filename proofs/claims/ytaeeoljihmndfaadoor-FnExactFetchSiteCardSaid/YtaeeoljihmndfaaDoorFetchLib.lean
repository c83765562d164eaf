/- Proved: what the program's and the reference's fetch by a site come to: the same. Conditions: those in each head. -/
import Derived.Test.YtaeeoljihmndfaaDoorSiteLib
import Derived.Test.YtaeeoljihmndfaaDoorA29
import Derived.Test.YtaeeoljihmndfaaDoorA29
namespace Go.Proofs.YtaeeoljihmndfaaDoor.A
open Go.RowKit Go.Proofs.YtaeeoljihmndfaaDoorW.PrintWords Go.Proofs.YtaeeoljihmndfaaDoorW.PrintLast Go.Proofs.YtaeeoljihmndfaaDoor.PL
set_option linter.unusedSimpArgs false

theorem globAt_ne0 {xs : List S88} (j : Nat) (v : Int) (h : globAt xs j = some v) : v ≠ 0 := by
  unfold globAt at h
  split at h
  · unfold globStep at h
    repeat' split at h
    all_goals first | (cases h; done) | (obtain rfl := Option.some.inj h; first | omega | assumption)
  · cases h
/-- Globals without a fault: each version is at least 1. -/
theorem glob_version {xs : List S88} (h : globM xs = 0) (j : Nat) (hj : j < xs.length) : 1 ≤ (xs[j]).f2 := by
  unfold globM at h
  split at h
  · omega
  · have hn := runU_none (globAt_ne0 (xs := xs)) xs.length 0 h j (by omega) (by omega)
    unfold globAt at hn
    rw [dif_pos hj] at hn
    unfold globStep at hn
    repeat' split at hn
    all_goals first | (cases hn; done) | (have z := inB_iff.mp (by assumption : inB _ 1 99999 = true); omega)
theorem name_glob {xs : List S88} {nm : ByteArray} (h : nameM xs nm = 0) : globM xs = 0 := by
  unfold nameM at h
  split at h
  · assumption
  · exact h
theorem bytes_eq {a b : ByteArray} (h : a.toList = b.toList) : a = b := by
  rw [ByteArray.toList_eq, ByteArray.toList_eq] at h
  exact Go.WideShapes.bytes_inj h
theorem fetch_ev (xs : List S88) (nm : ByteArray) (v K M : Int) (s : ByteArray) (hx : okG xs) (hn : nm.size ≤ 9223372036854775807) (hl : xs.length ≤ 1048576) (hs : s.size ≤ 9223372036854775807) : ∃ r, Ev (fun k => impl_FetchSite.f k xs nm v K M s) r ∧ Ev (fun k => spec_FetchSite.f k xs nm v K M s) r := by
  have a := implSite_ev xs nm v K M s hx hn hl hs
  have b := specSite_ev xs nm v K M s hx hn hl hs
  have g := globalAt_ev xs nm (by omega)
  have t := l7At_ev xs nm (by omega)
  by_cases c : siteF xs nm v K M s = 0
  · rcases atM_lt xs nm with d | ⟨d0, d1⟩
    · exact ⟨_, Ev.congr (fun k => impl_FetchSite.f.eq_1 k _ _ _ _ _ _) (Ev.bind a (Ev.ifp c (Ev.bind g (Ev.ifp d (Ev.now _))))), Ev.congr (fun k => spec_FetchSite.f.eq_1 k _ _ _ _ _ _) (Ev.bind b (Ev.ifp c (Ev.bind t (Ev.ifp d (Ev.now _)))))⟩
    · refine ⟨_, Ev.congr (fun k => impl_FetchSite.f.eq_1 k _ _ _ _ _ _) (Ev.bind a (Ev.ifp c (Ev.bind g (Ev.ifn (by omega) (Ev.ifp d0 (Ev.ifp d1 (Ev.now _))))))), Ev.congr (fun k => spec_FetchSite.f.eq_1 k _ _ _ _ _ _) (Ev.bind b (Ev.ifp c (Ev.bind t (Ev.ifn (by omega) (Ev.ifp d0 (Ev.ifp d1 (Ev.iff (fun e => Ev.leaf ?_) (fun e => Ev.leaf ?_))))))))⟩
      · unfold siteF at c
        by_cases cn : nameM xs nm = 0
        · rw [if_pos cn] at c
          have hv : 1 ≤ v := by
            obtain ⟨j, hj⟩ : ∃ j : Nat, (j : Int) = atM xs nm := ⟨(atM xs nm).toNat, Int.toNat_of_nonneg d0⟩
            have hj' : j < xs.length := by omega
            have := glob_version (name_glob cn) j hj'
            rw [← hj, rdG_at hj'] at e
            omega
          unfold siteM at c
          by_cases z : inB v 0 99999 = true
          · rw [if_pos z, if_neg (by omega)] at c
            by_cases z1 : valueM K M s = 0
            · rw [if_pos z1, if_pos d0, if_pos e] at c
              by_cases z2 : neqB xs (atM xs nm) K M s = true
              · rw [if_pos z2] at c; omega
              · unfold neqB at z2
                simp only [Bool.or_eq_true, Bool.not_eq_true', beq_eq_false_iff_ne, ne_eq, not_or, Decidable.not_not] at z2
                rw [z2.1, z2.2.1, bytes_eq z2.2.2, e]
                simp
            · rw [if_neg z1] at c; omega
          · rw [if_neg z] at c; omega
        · rw [if_neg cn] at c; omega
      · have e' : (v == (rd_T88 xs (atM xs nm)).f2) = false := by
          rw [beq_eq_false_iff_ne]
          exact fun h => e h.symm
        rw [e']
  · exact ⟨_, Ev.congr (fun k => impl_FetchSite.f.eq_1 k _ _ _ _ _ _) (Ev.bind a (Ev.ifn c (Ev.now _))), Ev.congr (fun k => spec_FetchSite.f.eq_1 k _ _ _ _ _ _) (Ev.bind b (Ev.ifn c (Ev.now _)))⟩
end Go.Proofs.YtaeeoljihmndfaaDoor.A
