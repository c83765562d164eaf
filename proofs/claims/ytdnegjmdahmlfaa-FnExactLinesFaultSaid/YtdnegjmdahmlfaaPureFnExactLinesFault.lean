/- Proved: the pure statement behind the law FnExactLinesFault: whatever its arguments, the law's plain function answers true. Conditions: the arguments are well formed values of their types. -/
import Derived.Test.YtdnegjmdahmlfaaPL
import Derived.Test.YtdnegjmdahmlfaaA6
import Derived.Test.YtdnegjmdahmlfaaAOk
namespace Go.Proofs.Ytdnegjmdahmlfaa.Pure
open Go.RowKit Go.Proofs.Ytdnegjmdahmlfaa.A Go.Proofs.YtdnegjmdahmlfaaW.PrintWords Go.Proofs.YtdnegjmdahmlfaaW.PrintLast
set_option linter.unusedSimpArgs false

/-- PRE -/
theorem rd_at {xs : List ByteArray} {i : Nat} (h : i < xs.length) : rdOf ByteArray.empty xs (i : Int) = xs[i] := by
  simp [rdOf, h]
/-- The room that is left behind a list of texts. -/
theorem sz_loop (xs : List ByteArray) (hx : ∀ y ∈ xs, y.size ≤ maxLen) (hl : xs.length ≤ 1048576) : ∀ (d i : Nat) (left : Int), i + d = xs.length → 0 ≤ left → left ≤ 1048576 →
    ∃ r, Ev (fun k => laws_szStringS.l0 k xs left (i : Int)) r ∧ r ≤ 1048576
  | 0, i, left, hd, h0, h1 => ⟨left, Ev.step (f := fun _ => some left) (fun k => by simp only [laws_szStringS.l0]; rw [if_neg (by omega)]) (Ev.now _), h1⟩
  | d + 1, i, left, hd, h0, h1 => by
    have hi : i < xs.length := by omega
    have hs := hx xs[i] (List.getElem_mem hi)
    unfold maxLen at hs
    have hw : wrap64 (left - (xs[i].size : Int)) = left - (xs[i].size : Int) := PL.wrap_id (by omega) (by omega)
    by_cases c : left - (xs[i].size : Int) < 0
    · refine ⟨-1, Ev.step (f := fun _ => some (-1)) (fun k => ?_) (Ev.now _), by omega⟩
      simp only [laws_szStringS.l0]
      rw [if_pos (by omega), if_pos (by omega), rd_at hi, hw, if_pos c]
    · obtain ⟨r, hr, hr1⟩ := sz_loop xs hx hl d (i + 1) (left - (xs[i].size : Int)) (by omega) (by omega) (by omega)
      refine ⟨r, Ev.step (fun k => ?_) hr, hr1⟩
      simp only [laws_szStringS.l0]
      rw [if_pos (by omega), if_pos (by omega), rd_at hi, hw, if_neg c, PL.wrap_succ hi (by omega)]
theorem sz_ev (xs : List ByteArray) (hx : ∀ y ∈ xs, y.size ≤ maxLen) (hl : xs.length ≤ maxLen) (left : Int) (h0 : 0 ≤ left) (h1 : left ≤ 1048576) :
    ∃ r, Ev (fun k => laws_szStringS.f k xs left) r ∧ r ≤ 1048576 ∧ (r < 0 ∨ xs.length ≤ 1048576) := by
  unfold maxLen at hl
  have hw : wrap64 (left - (xs.length : Int)) = left - (xs.length : Int) := PL.wrap_id (by omega) (by omega)
  by_cases c : left - (xs.length : Int) < 0
  · refine ⟨-1, Ev.congr (f := fun _ => some (-1)) (fun k => ?_) (Ev.now _), by omega, .inl (by omega)⟩
    unfold laws_szStringS.f
    rw [hw, if_pos c]
  · obtain ⟨r, hr, hr1⟩ := sz_loop xs hx (by omega) xs.length 0 (left - (xs.length : Int)) (by omega) (by omega) (by omega)
    refine ⟨r, Ev.congr (fun k => ?_) hr, hr1, .inr (by omega)⟩
    unfold laws_szStringS.f
    rw [hw, if_neg c]
    rfl
/-- A copy of a list of texts. -/
theorem to_loop (xs : List ByteArray) (hl : xs.length ≤ 1048576) : ∀ (d i : Nat) (out : List ByteArray), i + d = xs.length → out.length = xs.length → out.take i = xs.take i →
    Ev (fun k => laws_toStringS.l0 k xs out (i : Int)) xs
  | 0, i, out, hd, ho, he => Ev.step (f := fun _ => some xs) (fun k => by
      have e : out = xs := by
        rw [List.take_of_length_le (by omega), List.take_of_length_le (by omega)] at he
        exact he
      simp only [laws_toStringS.l0]
      rw [if_neg (by omega), e]) (Ev.now _)
  | d + 1, i, out, hd, ho, he => by
    have hi : i < xs.length := by omega
    have h := to_loop xs hl d (i + 1) (out.set i xs[i]) (by omega) (by rw [List.length_set]; exact ho) (by
      rw [List.take_succ_eq_append_getElem (by rw [List.length_set]; omega), List.take_succ_eq_append_getElem hi, List.getElem_set_self, List.take_set_of_le (Nat.le_refl i), he])
    refine Ev.step (fun k => ?_) h
    simp only [laws_toStringS.l0]
    rw [if_pos (by omega), if_pos (by omega), if_pos (by omega), rd_at hi, PL.wrap_succ hi (by omega)]
    rfl
theorem to_ev (xs : List ByteArray) (hl : xs.length ≤ 1048576) : Ev (fun k => laws_toStringS.f k xs) xs := by
  refine Ev.congr (fun k => ?_) (to_loop xs hl xs.length 0 (List.replicate xs.length (⟨#[]⟩ : ByteArray)) (by omega) (by simp) rfl)
  unfold laws_toStringS.f
  rw [if_pos (by omega), if_pos (by omega)]
  rfl
/-- A list of texts is itself. -/
theorem eq_loop (xs : List ByteArray) (hl : xs.length ≤ 1048576) : ∀ (d i : Nat), i + d = xs.length → Ev (fun k => laws_eqStringS.l0 k xs xs (i : Int)) true
  | 0, i, hd => Ev.step (f := fun _ => some true) (fun k => by simp only [laws_eqStringS.l0]; rw [if_neg (by omega)]) (Ev.now _)
  | d + 1, i, hd => by
    have hi : i < xs.length := by omega
    refine Ev.step (fun k => ?_) (eq_loop xs hl d (i + 1) (by omega))
    simp only [laws_eqStringS.l0]
    rw [if_pos (by omega), if_pos (by omega), if_pos (by omega), if_pos trivial, PL.wrap_succ hi (by omega)]
theorem eq_ev (xs : List ByteArray) (hl : xs.length ≤ 1048576) : Ev (fun k => laws_eqStringS.f k xs xs) true := by
  refine Ev.congr (fun k => ?_) (eq_loop xs hl xs.length 0 (by omega))
  unfold laws_eqStringS.f
  rw [if_pos rfl]
  rfl
/-- The two loops look at the same places. -/
theorem lines_loop (xs : List ByteArray) (hl : xs.length ≤ 1048576) : ∀ (d i : Nat), i + d = xs.length →
    ∃ r, Ev (fun k => slices_IndexFunc_string_string__impl_LinesFault_1.l0 k xs (xs.length : Int) (i : Int)) r ∧ Ev (fun k => spec_LinesFault.l0 k xs (i : Int)) (if decide (r ≥ 0) = true then 2 else 0)
  | 0, i, hd => ⟨-1, Ev.step (f := fun _ => some (-1)) (fun k => by simp only [slices_IndexFunc_string_string__impl_LinesFault_1.l0]; rw [if_neg (by omega)]) (Ev.now _),
      Ev.step (f := fun _ => some 0) (fun k => by simp only [spec_LinesFault.l0]; rw [if_neg (by omega)]) (Ev.now _)⟩
  | d + 1, i, hd => by
    have hi : i < xs.length := by omega
    by_cases c : (xs[i].size : Int) > 400
    · refine ⟨(i : Int), Ev.step (f := fun _ => some (i : Int)) (fun k => ?_) (Ev.now _), ?_⟩
      · simp only [slices_IndexFunc_string_string__impl_LinesFault_1.l0, impl_LinesFault_1.f]
        rw [if_pos (by omega), if_pos (by omega), if_pos (by omega), rd_at hi, Option.bind_some, if_pos (decide_eq_true c)]
      · rw [if_pos (decide_eq_true (by omega))]
        refine Ev.step (f := fun _ => some 2) (fun k => ?_) (Ev.now _)
        simp only [spec_LinesFault.l0]
        rw [if_pos (by omega), if_pos (by omega), rd_at hi, if_pos c]
    · obtain ⟨r, h1, h2⟩ := lines_loop xs hl d (i + 1) (by omega)
      refine ⟨r, Ev.step (fun k => ?_) h1, Ev.step (fun k => ?_) h2⟩
      · simp only [slices_IndexFunc_string_string__impl_LinesFault_1.l0, impl_LinesFault_1.f]
        rw [if_pos (by omega), if_pos (by omega), if_pos (by omega), rd_at hi, Option.bind_some, if_neg (by simp only [decide_eq_true_eq]; exact c), PL.wrap_succ hi (by omega)]
      · simp only [spec_LinesFault.l0]
        rw [if_pos (by omega), if_pos (by omega), rd_at hi, if_neg c, PL.wrap_succ hi (by omega)]
theorem fault_ev (xs : List ByteArray) (hl : xs.length ≤ 1048576) (a : Int) : ∃ r, Ev (fun k => impl_LinesFault.f k xs a) r ∧ Ev (fun k => spec_LinesFault.f k xs a) r := by
  by_cases c : (xs.length : Int) > 12
  · exact ⟨2, Ev.congr (f := fun _ => some 2) (fun k => by unfold impl_LinesFault.f; rw [if_pos c]) (Ev.now _), Ev.congr (f := fun _ => some 2) (fun k => by unfold spec_LinesFault.f; rw [if_pos c]) (Ev.now _)⟩
  · by_cases c2 : 0 ≤ a ∧ a ≤ 400
    · obtain ⟨r, h1, h2⟩ := lines_loop xs hl xs.length 0 (by omega)
      refine ⟨if decide (r ≥ 0) = true then 2 else 0, ?_, Ev.congr (fun k => ?_) h2⟩
      · refine Ev.congr (f := fun k => (slices_ContainsFunc_string_string__impl_LinesFault_1.f k xs).bind fun t => if t = true then some 2 else some 0) (fun k => ?_) ?_
        · unfold impl_LinesFault.f impl_in.f
          rw [if_neg c, if_pos c2.1, decide_eq_true c2.2]
          rfl
        · refine Ev.bind (a := decide (r ≥ 0)) (f := fun _ t => if t = true then some 2 else some 0) ?_ ?_
          · unfold slices_ContainsFunc_string_string__impl_LinesFault_1.f slices_IndexFunc_string_string__impl_LinesFault_1.f
            exact Ev.bind (f := fun _ t => some (decide (t ≥ 0))) h1 (Ev.now _)
          · by_cases hr : decide (r ≥ 0) = true
            · rw [if_pos hr]; exact Ev.congr (fun _ => by rw [if_pos hr]) (Ev.now _)
            · rw [if_neg hr]; exact Ev.congr (fun _ => by rw [if_neg hr]) (Ev.now _)
      · unfold spec_LinesFault.f spec_l1In.f
        rw [if_neg c, if_pos c2.1, decide_eq_true c2.2]
        rfl
    · refine ⟨3, Ev.congr (f := fun _ => some 3) (fun k => ?_) (Ev.now _), Ev.congr (f := fun _ => some 3) (fun k => ?_) (Ev.now _)⟩
      · unfold impl_LinesFault.f impl_in.f
        rw [if_neg c]
        by_cases h1 : 0 ≤ a
        · rw [if_pos h1, decide_eq_false (fun h2 => c2 ⟨h1, h2⟩)]; rfl
        · rw [if_neg h1]; rfl
      · unfold spec_LinesFault.f spec_l1In.f
        rw [if_neg c]
        by_cases h1 : a ≥ 0
        · rw [if_pos h1, decide_eq_false (fun h2 => c2 ⟨h1, h2⟩)]; rfl
        · rw [if_neg h1]; rfl
theorem FnExactLinesFault : ∀ (l0 : List ByteArray) (a1 : Int), (l0.length ≤ maxLen ∧ ∀ y ∈ l0, y.size ≤ maxLen) → ((Lit.int .i64 a1).wf = true) → ∃ k, laws_FnExactLinesFault.f k l0 a1 = some true := by
  intro l0 a1 h0 _
  obtain ⟨r, hr, hr1, hr2⟩ := sz_ev l0 h0.2 h0.1 1048576 (by omega) (by omega)
  refine Ev.rounds (r := true) ?_
  unfold laws_FnExactLinesFault.f
  refine Ev.bind hr ?_
  by_cases c : r < 0
  · exact Ev.congr (fun _ => by rw [if_pos c]) (Ev.now _)
  · have hl : l0.length ≤ 1048576 := by omega
    refine Ev.congr (fun _ => by rw [if_neg c]) ?_
    obtain ⟨v, hi, hs⟩ := fault_ev l0 hl a1
    refine Ev.bind (to_ev l0 hl) (Ev.bind hs (Ev.bind (to_ev l0 hl) (Ev.bind hi ?_)))
    refine Ev.congr (fun _ => by rw [if_pos rfl]) ?_
    refine Ev.bind (to_ev l0 hl) (Ev.bind (eq_ev l0 hl) ?_)
    exact Ev.now _

end Go.Proofs.Ytdnegjmdahmlfaa.Pure
