/- Proved: small laws on loops whose steps have loops of their own. Conditions: those in each head. -/
import Derived.Test.YtgbgioodifcdbaaPL
namespace Go.Proofs.Ytgbgioodifcdbaa.PL
open Go.RowKit Go.Proofs.YtgbgioodifcdbaaW.PrintWords

/-- A loop that takes off what each element needs, and what is known of each element where enough is left. -/
theorem sz_ev2 {α : Type} (xs : List α) (Q : α → Prop) (l : Nat → Int → Int → Option Int)
    (hs : ∀ (left : Int) (i : Nat) (hi : i < xs.length), 0 ≤ left → left ≤ 1048576 → ∃ r, r ≤ left ∧ ((r < 0 ∧ Ev (fun k => l k left (i : Int)) (-1)) ∨ (0 ≤ r ∧ Q xs[i] ∧ ∀ q, Ev (fun k => l k r ((i + 1 : Nat) : Int)) q → Ev (fun k => l k left (i : Int)) q)))
    (he : ∀ left, Ev (fun k => l k left (xs.length : Int)) left) : ∀ (d i : Nat) (left : Int), i + d = xs.length → 0 ≤ left → left ≤ 1048576 → ∃ r, Ev (fun k => l k left (i : Int)) r ∧ r ≤ left ∧ (r < 0 ∨ ∀ (j : Nat) (h : j < xs.length), i ≤ j → Q xs[j])
  | 0, i, left, hd, h0, h1 => by
    have e : i = xs.length := by omega
    subst e
    exact ⟨left, he left, Int.le_refl _, .inr (fun j h hj => by omega)⟩
  | d + 1, i, left, hd, h0, h1 => by
    obtain ⟨r, hr, h⟩ := hs left i (by omega) h0 h1
    rcases h with ⟨hn, h⟩ | ⟨hp, hQ, h⟩
    · exact ⟨-1, h, by omega, .inl (by omega)⟩
    · obtain ⟨q, hq, hql, hqQ⟩ := sz_ev2 xs Q l hs he d (i + 1) r (by omega) hp (by omega)
      refine ⟨q, h q hq, by omega, hqQ.imp id (fun hz j hj hij => ?_)⟩
      by_cases e : j = i
      · subst e; exact hQ
      · exact hz j hj (by omega)
theorem to_ev20 {α β : Type} (xs : List α) (conv : α → β) (l : Nat → List β → Int → Option (List β))
    (hs : ∀ (out : List β) (i : Nat) (hi : i < xs.length), out.length = xs.length → ∀ r, Ev (fun k => l k (out.set i (conv xs[i])) ((i + 1 : Nat) : Int)) r → Ev (fun k => l k out (i : Int)) r)
    (he : ∀ out, out.length = xs.length → Ev (fun k => l k out (xs.length : Int)) out) : ∀ d i out, i + d = xs.length → out.length = xs.length → out.take i = (xs.take i).map conv → Ev (fun k => l k out (i : Int)) (xs.map conv)
  | 0, i, out, hd, ho, ht => by
    have e : i = xs.length := by omega
    subst e
    rw [List.take_of_length_le (by omega), List.take_of_length_le (Nat.le_refl _)] at ht
    rw [← ht]
    exact he out ho
  | d + 1, i, out, hd, ho, ht => by
    have hi : i < xs.length := by omega
    refine hs out i hi ho _ (to_ev20 xs conv l hs he d (i + 1) _ (by omega) (by rw [List.length_set]; exact ho) ?_)
    rw [List.take_succ_eq_append_getElem (by rw [List.length_set]; omega), List.take_succ_eq_append_getElem hi, List.getElem_set_self, List.take_set_of_le (Nat.le_refl i), ht, List.map_append]
    rfl
/-- A loop that copies a list, element by element, by a call each. -/
theorem to_ev2 {α β : Type} (xs : List α) (conv : α → β) (z : β) (l : Nat → List β → Int → Option (List β))
    (hs : ∀ (out : List β) (i : Nat) (hi : i < xs.length), out.length = xs.length → ∀ r, Ev (fun k => l k (out.set i (conv xs[i])) ((i + 1 : Nat) : Int)) r → Ev (fun k => l k out (i : Int)) r)
    (he : ∀ out, out.length = xs.length → Ev (fun k => l k out (xs.length : Int)) out) : Ev (fun k => l k (List.replicate xs.length z) 0) (xs.map conv) :=
  to_ev20 xs conv l hs he xs.length 0 _ (by omega) (by simp) rfl
/-- A loop that only goes on, by a call each. -/
theorem all_ev2 {ρ : Type} (n : Nat) (l : Nat → Int → Option ρ) (r : ρ) (hs : ∀ (i : Nat), i < n → ∀ q, Ev (fun k => l k ((i + 1 : Nat) : Int)) q → Ev (fun k => l k (i : Int)) q) (he : Ev (fun k => l k (n : Int)) r) : ∀ d i, i + d = n → Ev (fun k => l k (i : Int)) r
  | 0, i, hd => by
    have e : i = n := by omega
    subst e
    exact he
  | d + 1, i, hd => hs i (by omega) _ (all_ev2 n l r hs he d (i + 1) (by omega))
/-- Does something hold at each place? -/
def allB (P : Nat → Bool) (n : Nat) : Bool := runU (fun i => if P i = true then none else some false) true n 0
/-- A loop that compares place by place. -/
theorem cmp_ev (n : Nat) (l : Nat → Int → Option Bool) (P : Nat → Bool)
    (hs : ∀ i, i < n → ∀ r, Ev (elimB (if P i = true then none else some false) (fun k => l k ((i + 1 : Nat) : Int))) r → Ev (fun k => l k (i : Int)) r)
    (he : Ev (fun k => l k (n : Int)) true) : Ev (fun k => l k 0) (allB P n) :=
  loopO n l (fun i => if P i = true then none else some false) true hs he n 0 (by omega)
theorem allB_true_of {P : Nat → Bool} : ∀ d i, (∀ j, i ≤ j → j < i + d → P j = true) → runU (fun i => if P i = true then none else some false) true d i = true
  | 0, _, _ => rfl
  | d + 1, i, h => by
    simp only [runU]
    rw [if_pos (h i (by omega) (by omega))]
    exact allB_true_of d (i + 1) (fun j h0 h1 => h j (by omega) (by omega))
theorem allB_true {P : Nat → Bool} {n : Nat} (h : ∀ j, j < n → P j = true) : allB P n = true := allB_true_of n 0 (fun j _ h1 => h j (by omega))
theorem allB_of {P : Nat → Bool} : ∀ d i, runU (fun i => if P i = true then none else some false) true d i = true → ∀ j, i ≤ j → j < i + d → P j = true
  | 0, i, _, j, h0, h1 => by omega
  | d + 1, i, h, j, h0, h1 => by
    simp only [runU] at h
    by_cases c : P i = true
    · rw [if_pos c] at h
      by_cases e : j = i
      · subst e; exact c
      · exact allB_of d (i + 1) h j (by omega) (by omega)
    · rw [if_neg c] at h
      simp at h
end Go.Proofs.Ytgbgioodifcdbaa.PL
