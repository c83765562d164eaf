/- Proved: the pure statement behind the law FnSites: whatever its arguments, the law's plain function answers true. Conditions: the arguments are well formed values of their types. -/
import Derived.Test.YtolhanigjmhkgaaDoorBaseLib
import Derived.Test.YtolhanigjmhkgaaDoorA13
import Derived.Test.YtolhanigjmhkgaaDoorA10
import Derived.Test.YtolhanigjmhkgaaDoorA11
import Derived.Test.YtolhanigjmhkgaaDoorA12
import Derived.Test.YtolhanigjmhkgaaDoorA7
import Derived.Test.YtolhanigjmhkgaaDoorA8
namespace Go.Proofs.YtolhanigjmhkgaaDoor.Pure
open Go.RowKit Go.Proofs.YtolhanigjmhkgaaDoor.A Go.Proofs.YtolhanigjmhkgaaDoorW.PrintWords Go.Proofs.YtolhanigjmhkgaaDoorW.PrintLast Go.Proofs.YtolhanigjmhkgaaDoor.PL
set_option linter.unusedSimpArgs false

theorem ev_unique {α : Type} {g : Nat → Option α} {a b : α} (h : Ev g a) (h' : Ev g b) : a = b := by
  obtain ⟨n, h⟩ := h
  obtain ⟨m, h'⟩ := h'
  have e := h (max n m) (by omega)
  rw [h' (max n m) (by omega)] at e
  exact (Option.some.inj e).symm
/-- What is fetched by a site. -/
def fetchM (xs : List S35) (nm : ByteArray) (v K M : Int) (s : ByteArray) : Int × Bool × Int × Int × ByteArray × Int × Int × Int × ByteArray :=
  if siteF xs nm v K M s = 0 then (if atM xs nm < 0 then (4, false, 0, 0, ⟨#[]⟩, 0, 0, 0, ⟨#[]⟩) else (0, v == (rd_T35 xs (atM xs nm)).f2, (rd_T35 xs (atM xs nm)).f1.f0, (rd_T35 xs (atM xs nm)).f1.f1, (rd_T35 xs (atM xs nm)).f1.f2, (rd_T35 xs (atM xs nm)).f2, (rd_T35 xs (atM xs nm)).f1.f0, (rd_T35 xs (atM xs nm)).f1.f1, (rd_T35 xs (atM xs nm)).f1.f2))
  else (siteF xs nm v K M s, false, 0, 0, ⟨#[]⟩, 0, 0, 0, ⟨#[]⟩)
theorem implFetch_ev (xs : List S35) (nm : ByteArray) (v K M : Int) (s : ByteArray) (hx : okG xs) (hn : nm.size ≤ 9223372036854775807) (hl : xs.length ≤ 1048576) (hs : s.size ≤ 9223372036854775807) : Ev (fun k => impl_FetchSite.f k xs nm v K M s) (fetchM xs nm v K M s) := by
  refine Ev.congr (fun k => impl_FetchSite.f.eq_1 k _ _ _ _ _ _) (Ev.bind (implSite_ev xs nm v K M s hx hn hl hs) (Ev.iff (fun c => ?_) (fun c => Ev.leaf (by unfold fetchM; rw [if_neg c]))))
  unfold fetchM
  rw [if_pos c]
  refine Ev.bind (globalAt_ev xs nm (by omega)) (Ev.iff (fun d => Ev.leaf (by rw [if_pos d])) (fun d => ?_))
  rw [if_neg d]
  have := atM_lt xs nm
  exact Ev.ifp (by omega) (Ev.ifp (by omega) (Ev.now _))
/-- A global's own site has no fault. -/
theorem site_own {xs : List S35} (h : GoodG xs) (hs : ∀ i (hi : i < xs.length), symB xs[i].f0 = true) (j : Nat) (hj : j < xs.length) : siteF xs xs[j].f0 xs[j].f2 xs[j].f1.f0 xs[j].f1.f1 xs[j].f1.f2 = 0 := by
  have hb := inB_iff.mp (h.2.1 j hj).2.2
  unfold siteF
  rw [if_pos (nameM_0.mpr ⟨of_good h, hs j hj⟩)]
  unfold siteM
  rw [if_pos (inB_t (by omega) (by omega)), if_neg (by omega), if_pos (h.2.1 j hj).2.1, good_at h j hj, if_pos (by omega), rdGm hj, if_pos rfl, if_neg]
  unfold neqB
  rw [rdGm hj]
  simp
/-- An elder site of a global has no fault, too. -/
theorem site_elder {xs : List S35} (h : GoodG xs) (j : Nat) (hj : j < xs.length) (v K M : Int) (s : ByteArray) (h0 : 1 ≤ v) (h1 : v ≤ 99999) (hn : xs[j].f2 ≠ v) (hv : valueM K M s = 0) : siteF xs xs[j].f0 v K M s = 0 := by
  unfold siteF
  rw [if_pos (nameM_0.mpr ⟨of_good h, (h.2.1 j hj).1⟩)]
  unfold siteM
  rw [if_pos (inB_t (by omega) (by omega)), if_neg (by omega), if_pos hv, good_at h j hj, if_pos (by omega), rdGm hj, if_neg hn]
theorem fetch_at {xs : List S35} (h : GoodG xs) (j : Nat) (hj : j < xs.length) (v K M : Int) (s : ByteArray) (hz : siteF xs xs[j].f0 v K M s = 0) : fetchM xs xs[j].f0 v K M s = (0, v == xs[j].f2, xs[j].f1.f0, xs[j].f1.f1, xs[j].f1.f2, xs[j].f2, xs[j].f1.f0, xs[j].f1.f1, xs[j].f1.f2) := by
  unfold fetchM
  rw [if_pos hz, good_at h j hj, if_neg (by omega), rdGm hj]
theorem drawFetch_ev (l : List Int) (hl : okB l) : ∃ xs nm v K M s, Ev (fun k => spec_DrawFetchSite.f k l) (xs, nm, v, K, M, s) ∧ smallG xs ∧ nm.size ≤ 12 ∧ s.size ≤ 12 := by
  obtain ⟨xs, s1, h1, hx, f0, f1⟩ := bent_ev l hl 0 (by omega) (by omega)
  obtain ⟨nm, h2, hz⟩ := l7Name_eq l hl s1 (by omega) (by omega)
  have hlen := hx.1
  have ha := l7At_ev xs nm (by omega)
  have last : ∀ (p : Int) (v K M : Int) (s : ByteArray), 0 ≤ p → p ≤ 500000000 → s.size ≤ 12 → ∃ v' K' M' s', Ev (fun k => spec_DrawFetchSite.j1 k xs nm l p v K M s) (xs, nm, v', K', M', s') ∧ s'.size ≤ 12 := by
    intro p v K M s p0 p1 hs
    obtain ⟨r, hr, _⟩ := next_eq l hl p 6 p0 (by omega) (by omega)
    obtain ⟨q, hq, _⟩ := pick_eq l hl (p + 1) [1, 3, 100000] (by omega) (by omega) (by simp) (by simp)
    obtain ⟨a, c, n, s2, he, hn, _, _⟩ := bentValue_ev l hl (p + 1) (by omega) (by omega)
    by_cases c0 : r = 0
    · exact ⟨_, _, _, _, Ev.step (fun k => spec_DrawFetchSite.j1.eq_2 _ _ _ _ _ _ _ _ k) (Ev.bind0 hr (Ev.ifp c0 (Ev.bind0 hq (Ev.now _)))), hs⟩
    by_cases c1 : r = 1
    · exact ⟨_, _, _, _, Ev.step (fun k => spec_DrawFetchSite.j1.eq_2 _ _ _ _ _ _ _ _ k) (Ev.bind0 hr (Ev.ifn c0 (Ev.ifp c1 (Ev.bind he (Ev.now _))))), hn⟩
    · exact ⟨_, _, _, _, Ev.step (fun k => spec_DrawFetchSite.j1.eq_2 _ _ _ _ _ _ _ _ k) (Ev.bind0 hr (Ev.ifn c0 (Ev.ifn c1 (Ev.now _)))), hs⟩
  rcases atM_lt xs nm with d | ⟨d0, d1⟩
  · obtain ⟨v, K, M, s, hj, hs⟩ := last (s1 + 2) 0 0 0 ⟨#[]⟩ (by omega) (by omega) (by decide)
    exact ⟨xs, nm, v, K, M, s, Ev.congr (fun k => spec_DrawFetchSite.f.eq_1 k _) (Ev.bind0 rfl (Ev.bind h1 (Ev.bind0 h2 (Ev.bind ha (Ev.ifn (by omega) (Ev.step (fun k => spec_DrawFetchSite.j0.eq_2 _ _ _ _ _ _ _ _ _ _ k) (Ev.ifn (by simp) hj))))))), hx, hz, hs⟩
  · obtain ⟨r, hr, _⟩ := next_eq l hl (s1 + 2) 2 (by omega) (by omega) (by omega)
    have hc : spec_l1Chance.f l (s1 + 2) 2 = some (r == 0, s1 + 2 + 1) := by
      unfold spec_l1Chance.f
      rw [hr, Option.bind_some]
    have hm : rd_T35 xs (atM xs nm) ∈ xs := by
      obtain ⟨j, e⟩ : ∃ j : Nat, (j : Int) = atM xs nm := ⟨(atM xs nm).toNat, Int.toNat_of_nonneg d0⟩
      have hj : j < xs.length := by omega
      rw [← e, rdGm hj]
      exact List.getElem_mem hj
    by_cases c : (r == 0) = true
    · obtain ⟨v, K, M, s, hj, hs⟩ := last (s1 + 2 + 1) (rd_T35 xs (atM xs nm)).f2 (rd_T35 xs (atM xs nm)).f1.f0 (rd_T35 xs (atM xs nm)).f1.f1 (rd_T35 xs (atM xs nm)).f1.f2 (by omega) (by omega) (hx.2 _ hm).2
      exact ⟨xs, nm, v, K, M, s, Ev.congr (fun k => spec_DrawFetchSite.f.eq_1 k _) (Ev.bind0 rfl (Ev.bind h1 (Ev.bind0 h2 (Ev.bind ha (Ev.ifp (by omega) (Ev.bind0 hc (Ev.step (fun k => spec_DrawFetchSite.j0.eq_2 _ _ _ _ _ _ _ _ _ _ k) (Ev.ifp c (Ev.ifp d0 (Ev.ifp d1 hj)))))))))), hx, hz, hs⟩
    · obtain ⟨v, K, M, s, hj, hs⟩ := last (s1 + 2 + 1) 0 0 0 ⟨#[]⟩ (by omega) (by omega) (by decide)
      exact ⟨xs, nm, v, K, M, s, Ev.congr (fun k => spec_DrawFetchSite.f.eq_1 k _) (Ev.bind0 rfl (Ev.bind h1 (Ev.bind0 h2 (Ev.bind ha (Ev.ifp (by omega) (Ev.bind0 hc (Ev.step (fun k => spec_DrawFetchSite.j0.eq_2 _ _ _ _ _ _ _ _ _ _ k) (Ev.ifn c hj)))))))), hx, hz, hs⟩
theorem FnSites : ∀ (l0 : List Int), (l0.length ≤ maxLen ∧ ∀ y ∈ l0, (Lit.int .u8 y).wf = true) → ∃ k, laws_FnSites.f k l0 = some true := by
  intro l0 h
  refine Ev.rounds (r := true) (Ev.congr (fun k => laws_FnSites.f.eq_1 k _) (Ev.bind0 rfl (Ev.iff (fun _ => Ev.now _) (fun c => ?_))))
  have hl : okB l0 := okB_of l0 (by have z := c; simp at z; omega) h.2
  obtain ⟨xs, nm, v, K, M, s, hd, hx, hn, hs⟩ := drawFetch_ev l0 hl
  have ho := smallG_ok hx
  have hn' : nm.size ≤ 9223372036854775807 := by omega
  have hs' : s.size ≤ 9223372036854775807 := by omega
  have hl1 : xs.length ≤ 1048576 := by have := hx.1; omega
  have hf := implFetch_ev xs nm v K M s ho hn' hl1 hs'
  have hsp : Ev (fun k => spec_FetchSite.f k xs nm v K M s) (fetchM xs nm v K M s) := by
    obtain ⟨r, a, b⟩ := fetch_ev xs nm v K M s ho hn' hl1 hs'
    rw [ev_unique hf a]
    exact b
  refine Ev.step (fun k => laws_FnSites.j0.eq_2 _ k) (Ev.bind hd (Ev.bind hf (Ev.iff (fun z => ?_) (fun z => ?_))))
  case refine_2 => exact Ev.bind hsp (Ev.leaf (by simp))
  have cz : siteF xs nm v K M s = 0 := by
    by_cases y : siteF xs nm v K M s = 0
    · exact y
    · unfold fetchM at z; rw [if_neg y] at z; exact absurd z y
  have ca : 0 ≤ atM xs nm := by
    by_cases y : atM xs nm < 0
    · unfold fetchM at z; rw [if_pos cz, if_pos y] at z; exact absurd z (by decide)
    · omega
  have cn : nameM xs nm = 0 := by
    by_cases y : nameM xs nm = 0
    · exact y
    · unfold siteF at cz; rw [if_neg y] at cz; exact absurd cz y
  obtain ⟨cg, cs⟩ := nameM_0.mp cn
  have hG := good_of cg
  obtain ⟨j, hj, ea, rfl⟩ := atM_found ca
  rw [fetch_at hG j hj v K M s cz]
  have hb := inB_iff.mp (hG.2.1 j hj).2.2
  have hok := ho xs[j] (List.getElem_mem hj)
  have so := site_own hG (fun i hi => (hG.2.1 i hi).1) j hj
  have again := implFetch_ev xs xs[j].f0 xs[j].f2 xs[j].f1.f0 xs[j].f1.f1 xs[j].f1.f2 ho hn' hl1 hok.2
  rw [fetch_at hG j hj _ _ _ _ so] at again
  have hv77 : valueM (⟨1, 77, ⟨#[]⟩⟩ : S26).f0 (⟨1, 77, ⟨#[]⟩⟩ : S26).f1 (⟨1, 77, ⟨#[]⟩⟩ : S26).f2 = 0 := by decide +kernel
  have hdef : Ev (fun k => impl_DefineGlobal.f k xs xs[j].f0 1 77 ⟨#[]⟩) (turnM xs xs[j].f0 ⟨1, 77, ⟨#[]⟩⟩ false) := Ev.congr (fun k => impl_DefineGlobal.f.eq_1 k _ _ _ _ _) (Ev.bind (turn_ev xs xs[j].f0 ⟨1, 77, ⟨#[]⟩⟩ false ho hn' (by decide)) (Ev.now _))
  have hsf := implSite_ev xs xs[j].f0 xs[j].f2 xs[j].f1.f0 xs[j].f1.f1 xs[j].f1.f2 ho hn' hl1 hok.2
  rw [so] at hsf
  refine Ev.step (fun k => laws_FnSites.j1.eq_2 _ _ _ _ _ _ _ _ _ _ _ k) (Ev.bind (look_hit hG ho hl1 j hj) (Ev.bind again (Ev.bind hdef ?_)))
  by_cases cf : xs[j].f2 < 99999
  · obtain ⟨e, hU⟩ := good_up hG j hj ⟨1, 77, ⟨#[]⟩⟩ hv77 cf
    rw [e] at hU
    have t0 : turnM xs xs[j].f0 ⟨1, 77, ⟨#[]⟩⟩ false = (0, xs.set j ⟨xs[j].f0, ⟨1, 77, ⟨#[]⟩⟩, xs[j].f2 + 1⟩) := by
      unfold turnM putG
      rw [if_pos cn, if_pos hv77, if_neg (by simp), if_pos ca, ea, rdGm hj, if_neg (by omega)]
      simp only [Int.toNat_natCast, e]
    rw [t0]
    have hjn : j < (xs.set j (⟨xs[j].f0, ⟨1, 77, ⟨#[]⟩⟩, xs[j].f2 + 1⟩ : S35)).length := by rw [List.length_set]; exact hj
    have hO : okG (xs.set j ⟨xs[j].f0, ⟨1, 77, ⟨#[]⟩⟩, xs[j].f2 + 1⟩) := by
      intro x hx
      rcases List.mem_or_eq_of_mem_set hx with hm | rfl
      · exact ho x hm
      · exact ⟨hok.1, (by decide : (⟨#[]⟩ : ByteArray).size ≤ 9223372036854775807)⟩
    have en : (xs.set j (⟨xs[j].f0, ⟨1, 77, ⟨#[]⟩⟩, xs[j].f2 + 1⟩ : S35))[j]'hjn = ⟨xs[j].f0, ⟨1, 77, ⟨#[]⟩⟩, xs[j].f2 + 1⟩ := List.getElem_set_self ..
    have late := implFetch_ev (xs.set j ⟨xs[j].f0, ⟨1, 77, ⟨#[]⟩⟩, xs[j].f2 + 1⟩) xs[j].f0 xs[j].f2 xs[j].f1.f0 xs[j].f1.f1 xs[j].f1.f2 hO hn' (by rw [List.length_set]; exact hl1) hok.2
    have se := site_elder hU j hjn xs[j].f2 xs[j].f1.f0 xs[j].f1.f1 xs[j].f1.f2 (by omega) (by omega) (by rw [en]; show xs[j].f2 + 1 ≠ xs[j].f2; omega) (hG.2.1 j hj).2.1
    have fe := fetch_at hU j hjn _ _ _ _ se
    rw [en] at se fe
    rw [fe] at late
    refine Ev.ifp rfl (Ev.step (fun k => laws_FnSites.j2.eq_2 _ _ _ _ _ _ _ _ _ _ _ _ _ _ _ _ _ _ _ _ _ _ _ _ _ _ _ _ k) (Ev.bind late (Ev.ifp (by simp) (Ev.ifp (by simp) (Ev.ifp (by simp) (Ev.bind hsf (Ev.ifp rfl (Ev.ifp rfl (Ev.ifn ?_ (Ev.step (fun k => laws_FnSites.j3.eq_2 _ k) (Ev.leaf rfl)))))))))))
    show ¬ (xs[j].f2 == xs[j].f2 + 1) = true
    simp only [beq_iff_eq]
    omega
  · have t0 : turnM xs xs[j].f0 ⟨1, 77, ⟨#[]⟩⟩ false = (3, []) := by
      unfold turnM putG
      rw [if_pos cn, if_pos hv77, if_neg (by simp), if_pos ca, ea, rdGm hj, if_pos (by omega)]
    rw [t0]
    exact Ev.ifn (by decide) (Ev.leaf (by decide))
end Go.Proofs.YtolhanigjmhkgaaDoor.Pure
