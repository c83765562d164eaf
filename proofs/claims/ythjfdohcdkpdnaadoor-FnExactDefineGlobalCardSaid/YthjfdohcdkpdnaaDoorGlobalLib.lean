/- Proved: what the laws' small helpers over globals come to. Conditions: those in each head. -/
import Derived.Test.YthjfdohcdkpdnaaDoorPL
import Derived.Test.YthjfdohcdkpdnaaDoorEqGlobalLib
import Derived.Test.YthjfdohcdkpdnaaDoorA2
import Derived.Test.YthjfdohcdkpdnaaDoorA4
import Derived.Test.YthjfdohcdkpdnaaDoorA8
import Derived.Test.YthjfdohcdkpdnaaDoorAOk
namespace Go.Proofs.YthjfdohcdkpdnaaDoor.A
open Go.RowKit Go.Proofs.YthjfdohcdkpdnaaDoorW.PrintWords Go.Proofs.YthjfdohcdkpdnaaDoorW.PrintLast
set_option linter.unusedSimpArgs false

theorem rdLG_at {xs : List S91} {i : Nat} (h : i < xs.length) : rd_T91 xs (i : Int) = xs[i] := by simp [rd_T91, h]
/-- Values and globals of the laws as the program's. -/
def convGV (x : S47) : S55 := ⟨x.f0, x.f1, x.f2⟩
def convG (x : S91) : S98 := ⟨x.f0, convGV x.f1, x.f2⟩
theorem szGValue_eq (K M : Int) (s : ByteArray) (left : Int) (hs : s.size ≤ maxLen) (h0 : 0 ≤ left) (h1 : left ≤ 1048576) : ∃ r, laws_szValue.f K M s left = some r ∧ r ≤ left ∧ -1 ≤ r := by
  unfold maxLen at hs
  unfold laws_szValue.f
  rw [PL.wrap_id (x := left - (s.size : Int)) (by omega) (by omega)]
  by_cases c : left - (s.size : Int) < 0
  · exact ⟨-1, by rw [if_pos c], by omega, by omega⟩
  · exact ⟨left - (s.size : Int), by rw [if_neg c], by omega, by omega⟩
theorem szGlobal_eq (x : S91) (left : Int) (hx : ok91 x) (h0 : 0 ≤ left) (h1 : left ≤ 1048576) : ∃ r, laws_szGlobal.f x.f0 x.f1.f0 x.f1.f1 x.f1.f2 x.f2 left = some r ∧ r ≤ left ∧ -1 ≤ r := by
  have hn := hx.1
  unfold maxLen at hn
  unfold laws_szGlobal.f
  rw [PL.wrap_id (x := left - (x.f0.size : Int)) (by omega) (by omega)]
  by_cases c : left - (x.f0.size : Int) < 0
  · exact ⟨-1, by rw [if_pos c], by omega, by omega⟩
  · obtain ⟨q, hq, hq1, hq2⟩ := szGValue_eq x.f1.f0 x.f1.f1 x.f1.f2 (left - (x.f0.size : Int)) hx.2.1.2.2 (by omega) (by omega)
    rw [if_neg c, hq, Option.bind_some]
    by_cases d : q < 0
    · exact ⟨-1, by rw [if_pos d], by omega, by omega⟩
    · exact ⟨q, by rw [if_neg d], by omega, by omega⟩
theorem szGlobalS_ev (xs : List S91) (hx : ∀ y ∈ xs, ok91 y) (hl : xs.length ≤ maxLen) (left : Int) (h0 : 0 ≤ left) (h1 : left ≤ 1048576) :
    ∃ r, Ev (fun k => laws_szGlobalS.f k xs left) r ∧ r ≤ left ∧ (r < 0 ∨ xs.length ≤ 1048576) := by
  unfold maxLen at hl
  have hw : wrap64 (left - (xs.length : Int)) = left - (xs.length : Int) := PL.wrap_id (by omega) (by omega)
  by_cases c : left - (xs.length : Int) < 0
  · refine ⟨-1, Ev.congr (f := fun _ => some (-1)) (fun k => ?_) (Ev.now _), by omega, .inl (by omega)⟩
    unfold laws_szGlobalS.f
    rw [hw, if_pos c]
  · obtain ⟨r, hr, hr1⟩ := PL.sz_ev xs (fun k left i => laws_szGlobalS.l0 k xs left i) (fun left i hi h0 h1 => by
      obtain ⟨r, hr, hr1, hr2⟩ := szGlobal_eq xs[i] left (hx xs[i] (List.getElem_mem hi)) h0 h1
      refine ⟨r, hr1, ?_⟩
      by_cases c : r < 0
      · refine .inl ⟨c, fun k => ?_⟩
        simp only [laws_szGlobalS.l0]
        rw [if_pos (by omega), if_pos (by omega), rdLG_at hi, hr, Option.bind_some, if_pos c]
      · refine .inr ⟨by omega, fun k => ?_⟩
        simp only [laws_szGlobalS.l0]
        rw [if_pos (by omega), if_pos (by omega), rdLG_at hi, hr, Option.bind_some, if_neg c, PL.wrap_succ hi (by omega)])
      (fun k left => by simp only [laws_szGlobalS.l0]; rw [if_neg (by omega)]) xs.length 0 (left - (xs.length : Int)) (by omega) (by omega) (by omega)
    refine ⟨r, Ev.congr (fun k => ?_) hr, by omega, .inr (by omega)⟩
    unfold laws_szGlobalS.f
    rw [hw, if_neg c]
    rfl
theorem toGlobalS_ev (xs : List S91) (hl : xs.length ≤ 1048576) : Ev (fun k => laws_toGlobalS.f k xs) (xs.map convG) := by
  refine Ev.congr (fun k => ?_) (PL.to_ev xs convG z98 (fun k out i => laws_toGlobalS.l0 k xs out i) (fun k out i hi ho => by
    simp only [laws_toGlobalS.l0, laws_toGlobal.f, laws_toValue.f]
    rw [if_pos (by omega), if_pos (by omega), Option.bind_some, Option.bind_some, if_pos (by omega), rdLG_at hi, PL.wrap_succ hi (by omega)]
    rfl) (fun k out ho => by simp only [laws_toGlobalS.l0]; rw [if_neg (by omega)]))
  unfold laws_toGlobalS.f
  rw [if_pos (by omega), if_pos (by omega)]
  rfl
theorem okG_sizes {x : S91} (h : ok91 x) : x.f0.size ≤ 9223372036854775807 ∧ x.f1.f2.size ≤ 9223372036854775807 := by
  have h1 := h.1
  have h2 := h.2.1.2.2
  unfold maxLen at h1 h2
  exact ⟨h1, h2⟩
end Go.Proofs.YthjfdohcdkpdnaaDoor.A
