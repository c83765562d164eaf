/- Proved: what the laws' small helpers over values and lists of pairs come to. Conditions: those in each head. -/
import Derived.Test.YthlgmdbfhkcghaaDoorPL
import Derived.Test.YthlgmdbfhkcghaaDoorS1
import Derived.Test.YthlgmdbfhkcghaaDoorS1
import Derived.Test.YthlgmdbfhkcghaaDoorS2
import Derived.Test.YthlgmdbfhkcghaaDoorSOk
namespace Go.Proofs.YthlgmdbfhkcghaaDoor.S
open Go.RowKit Go.Proofs.YthlgmdbfhkcghaaDoorW.PrintWords Go.Proofs.YthlgmdbfhkcghaaDoorW.PrintLast
set_option linter.unusedSimpArgs false

theorem rdLP_at {xs : List S86} {i : Nat} (h : i < xs.length) : rd_T86 xs (i : Int) = xs[i] := by simp [rd_T86, h]
theorem rdP_at {xs : List S70} {i : Nat} (h : i < xs.length) : rd_T70 xs (i : Int) = xs[i] := by simp [rd_T70, h]
/-- Values and pairs of the laws as the program's. -/
def convV (x : S24) : S28 := ⟨x.f0, x.f1, x.f2⟩
def convP (x : S86) : S70 := ⟨convV x.f0, convV x.f1⟩
theorem szValue_eq (K M : Int) (s : ByteArray) (left : Int) (hs : s.size ≤ maxLen) (h0 : 0 ≤ left) (h1 : left ≤ 1048576) : ∃ r, laws_szValue.f K M s left = some r ∧ r ≤ left ∧ -1 ≤ r := by
  unfold maxLen at hs
  unfold laws_szValue.f
  rw [PL.wrap_id (x := left - (s.size : Int)) (by omega) (by omega)]
  by_cases c : left - (s.size : Int) < 0
  · exact ⟨-1, by rw [if_pos c], by omega, by omega⟩
  · exact ⟨left - (s.size : Int), by rw [if_neg c], by omega, by omega⟩
theorem szPair_eq (x : S86) (left : Int) (hx : ok86 x) (h0 : 0 ≤ left) (h1 : left ≤ 1048576) : ∃ r, laws_szPair.f x.f0.f0 x.f0.f1 x.f0.f2 x.f1.f0 x.f1.f1 x.f1.f2 left = some r ∧ r ≤ left ∧ -1 ≤ r := by
  obtain ⟨r, hr, hr1, hr2⟩ := szValue_eq x.f0.f0 x.f0.f1 x.f0.f2 left hx.1.2.2 h0 h1
  unfold laws_szPair.f
  rw [hr, Option.bind_some]
  by_cases c : r < 0
  · exact ⟨-1, by rw [if_pos c], by omega, by omega⟩
  · obtain ⟨q, hq, hq1, hq2⟩ := szValue_eq x.f1.f0 x.f1.f1 x.f1.f2 r hx.2.2.2 (by omega) (by omega)
    rw [if_neg c, hq, Option.bind_some]
    by_cases d : q < 0
    · exact ⟨-1, by rw [if_pos d], by omega, by omega⟩
    · exact ⟨q, by rw [if_neg d], by omega, by omega⟩
theorem szPairS_ev (xs : List S86) (hx : ∀ y ∈ xs, ok86 y) (hl : xs.length ≤ maxLen) (left : Int) (h0 : 0 ≤ left) (h1 : left ≤ 1048576) :
    ∃ r, Ev (fun k => laws_szPairS.f k xs left) r ∧ r ≤ left ∧ (r < 0 ∨ xs.length ≤ 1048576) := by
  unfold maxLen at hl
  have hw : wrap64 (left - (xs.length : Int)) = left - (xs.length : Int) := PL.wrap_id (by omega) (by omega)
  by_cases c : left - (xs.length : Int) < 0
  · refine ⟨-1, Ev.congr (f := fun _ => some (-1)) (fun k => ?_) (Ev.now _), by omega, .inl (by omega)⟩
    unfold laws_szPairS.f
    rw [hw, if_pos c]
  · obtain ⟨r, hr, hr1⟩ := PL.sz_ev xs (fun k left i => laws_szPairS.l0 k xs left i) (fun left i hi h0 h1 => by
      obtain ⟨r, hr, hr1, hr2⟩ := szPair_eq xs[i] left (hx xs[i] (List.getElem_mem hi)) h0 h1
      refine ⟨r, hr1, ?_⟩
      by_cases c : r < 0
      · refine .inl ⟨c, fun k => ?_⟩
        simp only [laws_szPairS.l0]
        rw [if_pos (by omega), if_pos (by omega), rdLP_at hi, hr, Option.bind_some, if_pos c]
      · refine .inr ⟨by omega, fun k => ?_⟩
        simp only [laws_szPairS.l0]
        rw [if_pos (by omega), if_pos (by omega), rdLP_at hi, hr, Option.bind_some, if_neg c, PL.wrap_succ hi (by omega)])
      (fun k left => by simp only [laws_szPairS.l0]; rw [if_neg (by omega)]) xs.length 0 (left - (xs.length : Int)) (by omega) (by omega) (by omega)
    refine ⟨r, Ev.congr (fun k => ?_) hr, by omega, .inr (by omega)⟩
    unfold laws_szPairS.f
    rw [hw, if_neg c]
    rfl
theorem toPairS_ev (xs : List S86) (hl : xs.length ≤ 1048576) : Ev (fun k => laws_toPairS.f k xs) (xs.map convP) := by
  refine Ev.congr (fun k => ?_) (PL.to_ev xs convP z70 (fun k out i => laws_toPairS.l0 k xs out i) (fun k out i hi ho => by
    simp only [laws_toPairS.l0, laws_toPair.f, laws_toValue.f]
    rw [if_pos (by omega), if_pos (by omega), Option.bind_some, Option.bind_some, Option.bind_some, if_pos (by omega), rdLP_at hi, PL.wrap_succ hi (by omega)]
    rfl) (fun k out ho => by simp only [laws_toPairS.l0]; rw [if_neg (by omega)]))
  unfold laws_toPairS.f
  rw [if_pos (by omega), if_pos (by omega)]
  rfl
theorem eqValue_self (K M : Int) (s : ByteArray) : laws_eqValue.f K M s K M s = some true := by
  unfold laws_eqValue.f
  rw [if_pos rfl, if_pos rfl, if_pos rfl]
theorem eqPairS_ev (xs : List S70) (hl : xs.length ≤ 1048576) : Ev (fun k => laws_eqPairS.f k xs xs) true := by
  refine Ev.congr (fun k => ?_) (PL.all_ev xs.length (fun k i => laws_eqPairS.l0 k xs xs i) true (fun k i hi => by
    simp only [laws_eqPairS.l0, laws_eqPair.f]
    rw [if_pos (by omega), if_pos (by omega), if_pos (by omega), eqValue_self, Option.bind_some, if_pos rfl, eqValue_self, Option.bind_some, if_pos rfl, Option.bind_some, if_pos rfl, PL.wrap_succ hi (by omega)]) (fun k => by simp only [laws_eqPairS.l0]; rw [if_neg (by omega)]) xs.length 0 (by omega))
  unfold laws_eqPairS.f
  rw [if_pos rfl]
  rfl
theorem okP_sizes {x : S86} (h : ok86 x) : x.f0.f2.size ≤ 9223372036854775807 ∧ x.f1.f2.size ≤ 9223372036854775807 := by
  have h1 := h.1.2.2
  have h2 := h.2.2.2
  unfold maxLen at h1 h2
  exact ⟨h1, h2⟩
end Go.Proofs.YthlgmdbfhkcghaaDoor.S
