/- Proved: the pure statement behind the law FnExactIsKeyword. Conditions: none beyond the statement's own. -/
import Derived.Test.YtdnegjmdahmlfaaPFnExactIsKeywordx1
namespace Go.Proofs.Ytdnegjmdahmlfaa.Pure
open Go.RowKit Go.Proofs.Ytdnegjmdahmlfaa.PFnExactIsKeyword Go.Proofs.YtdnegjmdahmlfaaW.PrintWords Go.Proofs.YtdnegjmdahmlfaaW.PrintLast

/-- The two loops look at the same places in the same order. -/
theorem loops (a : ByteArray) (ws : List ByteArray) (hn : ws.length ≤ 1000) (d : Nat) : ∀ (k : Nat) (i : Int), 0 ≤ i → i ≤ ws.length → (ws.length : Int) - i = d → d < k →
    ∃ r, slices_Index_string_string.l0 k ws a (ws.length : Int) i = some r ∧ spec_IsKeyword.l0 k a ws i = some (decide (r ≥ 0)) := by
  induction d with
  | zero =>
    intro k i h0 h1 hd hk
    obtain ⟨k, rfl⟩ : ∃ m, k = m + 1 := ⟨k - 1, by omega⟩
    refine ⟨-1, ?_, ?_⟩
    · simp only [slices_Index_string_string.l0]; rw [if_neg (by omega)]
    · simp only [spec_IsKeyword.l0]; rw [if_neg (by omega)]; rfl
  | succ d ih =>
    intro k i h0 h1 hd hk
    obtain ⟨k, rfl⟩ : ∃ m, k = m + 1 := ⟨k - 1, by omega⟩
    have hlt : i < (ws.length : Int) := by omega
    simp only [slices_Index_string_string.l0, spec_IsKeyword.l0]
    rw [if_pos hlt, if_pos h0, if_pos hlt, if_pos hlt, if_pos h0]
    by_cases e : (rdOf ByteArray.empty ws i).toList = a.toList
    · exact ⟨i, by rw [if_pos e.symm], by rw [if_pos e, decide_eq_true h0]⟩
    · obtain ⟨r, hr, hs⟩ := ih k (i + 1) (by omega) (by omega) (by omega) (by omega)
      have hw : wrap64 (i + 1) = i + 1 := by unfold wrap64; omega
      exact ⟨r, by rw [if_neg (fun h => e h.symm), hw]; exact hr, by rw [if_neg e, hw]; exact hs⟩

theorem FnExactIsKeyword : laws_FnExactIsKeyword.Pure := by
  intro a0 _
  refine ⟨10, ?_⟩
  unfold laws_FnExactIsKeyword.f
  by_cases hb : (a0.size : Int) > 1048576
  · rw [if_pos hb]
  · rw [if_neg hb]
    unfold spec_IsKeyword.f impl_IsKeyword.f slices_Contains_string_string.f slices_Index_string_string.f
    generalize hws : ([(⟨#[113, 117, 111, 116, 101]⟩ : ByteArray), (⟨#[105, 102]⟩ : ByteArray), (⟨#[108, 97, 109, 98, 100, 97]⟩ : ByteArray), (⟨#[108, 101, 116]⟩ : ByteArray), (⟨#[98, 101, 103, 105, 110]⟩ : ByteArray), (⟨#[100, 101, 102, 105, 110, 101]⟩ : ByteArray), (⟨#[115, 101, 116, 33]⟩ : ByteArray)] : List ByteArray) = ws
    have hl : ws.length = 7 := by rw [← hws]; rfl
    obtain ⟨r, hr, hs⟩ := loops a0 ws (by omega) 7 10 0 (by omega) (by omega) (by omega) (by omega)
    rw [hs, hr]
    simp

end Go.Proofs.Ytdnegjmdahmlfaa.Pure
