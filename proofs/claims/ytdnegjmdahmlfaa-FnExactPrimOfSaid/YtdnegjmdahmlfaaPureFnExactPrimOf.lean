/- Proved: the pure statement behind the law FnExactPrimOf. Conditions: none beyond the statement's own. -/
import Derived.Test.YtdnegjmdahmlfaaPFnExactPrimOfx1
namespace Go.Proofs.Ytdnegjmdahmlfaa.Pure
open Go.RowKit Go.Proofs.Ytdnegjmdahmlfaa.PFnExactPrimOf Go.Proofs.YtdnegjmdahmlfaaW.PrintWords Go.Proofs.YtdnegjmdahmlfaaW.PrintLast

/-- The two loops look at the same places in the same order. -/
theorem loops (a : ByteArray) (ws : List ByteArray) (hn : ws.length ≤ 1000) (d : Nat) : ∀ (k : Nat) (i : Int), 0 ≤ i → i ≤ ws.length → (ws.length : Int) - i = d → d < k →
    ∃ r, slices_Index_string_string.l0 k ws a (ws.length : Int) i = some r ∧ spec_PrimOf.l0 k a ws i = some (if r < 0 then (4, 0) else (0, r)) := by
  induction d with
  | zero =>
    intro k i h0 h1 hd hk
    obtain ⟨k, rfl⟩ : ∃ m, k = m + 1 := ⟨k - 1, by omega⟩
    refine ⟨-1, ?_, ?_⟩
    · simp only [slices_Index_string_string.l0]; rw [if_neg (by omega)]
    · simp only [spec_PrimOf.l0]; rw [if_neg (by omega)]; rfl
  | succ d ih =>
    intro k i h0 h1 hd hk
    obtain ⟨k, rfl⟩ : ∃ m, k = m + 1 := ⟨k - 1, by omega⟩
    have hlt : i < (ws.length : Int) := by omega
    simp only [slices_Index_string_string.l0, spec_PrimOf.l0]
    rw [if_pos hlt, if_pos h0, if_pos hlt, if_pos hlt, if_pos h0]
    by_cases e : (rdOf ByteArray.empty ws i).toList = a.toList
    · exact ⟨i, by rw [if_pos e.symm], by rw [if_pos e, if_neg (by omega)]⟩
    · obtain ⟨r, hr, hs⟩ := ih k (i + 1) (by omega) (by omega) (by omega) (by omega)
      have hw : wrap64 (i + 1) = i + 1 := by unfold wrap64; omega
      exact ⟨r, by rw [if_neg (fun h => e h.symm), hw]; exact hr, by rw [if_neg e, hw]; exact hs⟩

theorem FnExactPrimOf : laws_FnExactPrimOf.Pure := by
  intro a0 _
  refine ⟨20, ?_⟩
  unfold laws_FnExactPrimOf.f
  by_cases hb : (a0.size : Int) > 1048576
  · rw [if_pos hb]
  · rw [if_neg hb]
    unfold spec_PrimOf.f impl_PrimOf.f slices_Index_string_string.f
    have ew : impl_primNames.f = spec_l6Names.f := by unfold impl_primNames.f spec_l6Names.f; rfl
    rw [ew]
    obtain ⟨ws, hw, hl⟩ : ∃ ws, spec_l6Names.f = some ws ∧ ws.length = 16 := by unfold spec_l6Names.f; exact ⟨_, rfl, rfl⟩
    rw [hw]
    obtain ⟨r, hr, hs⟩ := loops a0 ws (by omega) 16 20 0 (by omega) (by omega) (by omega) (by omega)
    simp only [Option.bind_some]
    rw [hs, hr]
    simp only [Option.bind_some]
    by_cases h : r < 0 <;> simp [h, laws_eqIntResult.f]

end Go.Proofs.Ytdnegjmdahmlfaa.Pure
