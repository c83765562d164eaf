/- Proved: small laws on loops that count their rounds, and on integers that wrap. Conditions: those in each head. -/
import Derived.Test.YtnlaigphajiijaaWWords
namespace Go.Proofs.Ytnlaigphajiijaa.PL
open Go.RowKit Go.Proofs.YtnlaigphajiijaaW.PrintWords

theorem wrap_id {x : Int} (h0 : -9223372036854775808 ≤ x) (h1 : x ≤ 9223372036854775807) : wrap64 x = x := by unfold wrap64; omega
theorem wrap_succ {i n : Nat} (h : i < n) (hn : n ≤ 9223372036854775807) : wrap64 ((i : Int) + 1) = ((i + 1 : Nat) : Int) := by unfold wrap64; omega

/-- What a loop over places comes to. -/
def runB {σ ρ : Type} (B : Nat → σ → σ ⊕ ρ) (E : σ → ρ) : Nat → Nat → σ → ρ
  | 0, _, s => E s
  | d + 1, i, s => match B i s with
    | .inl s' => runB B E d (i + 1) s'
    | .inr r => r
/-- A loop over places i .. n-1. -/
theorem loop_ev {σ ρ : Type} (n : Nat) (l : Nat → σ → Int → Option ρ) (B : Nat → σ → σ ⊕ ρ) (E : σ → ρ) (Inv : Nat → σ → Prop)
    (hs : ∀ i s, i < n → Inv i s → ∀ k, l (k + 1) s (i : Int) = match B i s with
      | .inl s' => l k s' ((i + 1 : Nat) : Int)
      | .inr r => some r)
    (hi : ∀ i s s', i < n → Inv i s → B i s = .inl s' → Inv (i + 1) s')
    (he : ∀ s, Inv n s → ∀ k, l (k + 1) s (n : Int) = some (E s)) : ∀ d i s, i + d = n → Inv i s → Ev (fun k => l k s (i : Int)) (runB B E d i s)
  | 0, i, s, hd, hI => by
    have e : i = n := by omega
    subst e
    exact Ev.step (he s hI) (Ev.now _)
  | d + 1, i, s, hd, hI => by
    have hlt : i < n := by omega
    cases hB : B i s with
    | inl s' =>
      have h1 := loop_ev n l B E Inv hs hi he d (i + 1) s' (by omega) (hi i s s' hlt hI hB)
      refine Ev.step (f := fun k => l k s' ((i + 1 : Nat) : Int)) (fun k => by rw [hs i s hlt hI k, hB]) ?_
      simp only [runB, hB]
      exact h1
    | inr r =>
      refine Ev.step (f := fun _ => some r) (fun k => by rw [hs i s hlt hI k, hB]) ?_
      simp only [runB, hB]
      exact Ev.now _
/-- A result that does not depend on the rounds. -/
theorem Ev.const {α : Type} {x : Option α} {r : α} (h : x = some r) : Ev (fun _ => x) r := ⟨0, fun _ _ => h⟩
/-- Behind a first step whose value is known. -/
theorem Ev.bind0 {α β : Type} {x : Option α} {f : Nat → α → Option β} {a : α} {r : β} (h : x = some a) (k : Ev (fun n => f n a) r) : Ev (fun n => x.bind (f n)) r := by
  subst h
  exact k
/-- A loop that only goes on. -/
theorem all_ev {ρ : Type} (n : Nat) (l : Nat → Int → Option ρ) (r : ρ) (hs : ∀ k i, i < n → l (k + 1) (i : Int) = l k ((i + 1 : Nat) : Int)) (he : ∀ k, l (k + 1) (n : Int) = some r) : ∀ d i, i + d = n → Ev (fun k => l k (i : Int)) r
  | 0, i, hd => by
    have e : i = n := by omega
    subst e
    exact Ev.step he (Ev.now _)
  | d + 1, i, hd => Ev.step (fun k => hs k i (by omega)) (all_ev n l r hs he d (i + 1) (by omega))
/-- A loop that copies a list, element by element. -/
theorem to_ev0 {α β : Type} (xs : List α) (conv : α → β) (l : Nat → List β → Int → Option (List β))
    (hs : ∀ k out i (hi : i < xs.length), out.length = xs.length → l (k + 1) out (i : Int) = l k (out.set i (conv xs[i])) ((i + 1 : Nat) : Int))
    (he : ∀ k out, out.length = xs.length → l (k + 1) out (xs.length : Int) = some out) : ∀ d i out, i + d = xs.length → out.length = xs.length → out.take i = (xs.take i).map conv → Ev (fun k => l k out (i : Int)) (xs.map conv)
  | 0, i, out, hd, ho, ht => by
    have e : i = xs.length := by omega
    subst e
    rw [List.take_of_length_le (by omega), List.take_of_length_le (Nat.le_refl _)] at ht
    rw [← ht]
    exact Ev.step (fun k => he k out ho) (Ev.now _)
  | d + 1, i, out, hd, ho, ht => by
    have hi : i < xs.length := by omega
    refine Ev.step (fun k => hs k out i hi ho) (to_ev0 xs conv l hs he d (i + 1) _ (by omega) (by rw [List.length_set]; exact ho) ?_)
    rw [List.take_succ_eq_append_getElem (by rw [List.length_set]; omega), List.take_succ_eq_append_getElem hi, List.getElem_set_self, List.take_set_of_le (Nat.le_refl i), ht, List.map_append]
    rfl
theorem to_ev {α β : Type} (xs : List α) (conv : α → β) (z : β) (l : Nat → List β → Int → Option (List β))
    (hs : ∀ k out i (hi : i < xs.length), out.length = xs.length → l (k + 1) out (i : Int) = l k (out.set i (conv xs[i])) ((i + 1 : Nat) : Int))
    (he : ∀ k out, out.length = xs.length → l (k + 1) out (xs.length : Int) = some out) : Ev (fun k => l k (List.replicate xs.length z) 0) (xs.map conv) :=
  to_ev0 xs conv l hs he xs.length 0 _ (by omega) (by simp) rfl
/-- A loop that takes off what each element needs. -/
theorem sz_ev {α : Type} (xs : List α) (l : Nat → Int → Int → Option Int)
    (hs : ∀ left i (_ : i < xs.length), 0 ≤ left → left ≤ 1048576 → ∃ r, r ≤ left ∧ ((r < 0 ∧ ∀ k, l (k + 1) left (i : Int) = some (-1)) ∨ (0 ≤ r ∧ ∀ k, l (k + 1) left (i : Int) = l k r ((i + 1 : Nat) : Int))))
    (he : ∀ k left, l (k + 1) left (xs.length : Int) = some left) : ∀ d i left, i + d = xs.length → 0 ≤ left → left ≤ 1048576 → ∃ r, Ev (fun k => l k left (i : Int)) r ∧ r ≤ left
  | 0, i, left, hd, h0, h1 => by
    have e : i = xs.length := by omega
    subst e
    exact ⟨left, Ev.step (fun k => he k left) (Ev.now _), Int.le_refl _⟩
  | d + 1, i, left, hd, h0, h1 => by
    obtain ⟨r, hr, h⟩ := hs left i (by omega) h0 h1
    rcases h with ⟨hn, h⟩ | ⟨hp, h⟩
    · exact ⟨-1, Ev.step h (Ev.now _), by omega⟩
    · obtain ⟨q, hq, hql⟩ := sz_ev xs l hs he d (i + 1) r (by omega) hp (by omega)
      exact ⟨q, Ev.step h hq, by omega⟩
end Go.Proofs.Ytnlaigphajiijaa.PL
