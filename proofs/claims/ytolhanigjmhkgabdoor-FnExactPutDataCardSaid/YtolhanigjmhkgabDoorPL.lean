/- Proved: small laws on loops that count their rounds, and on integers that wrap. Conditions: those in each head. -/
import Derived.Test.YtolhanigjmhkgabDoorVWords
namespace Go.Proofs.YtolhanigjmhkgabDoor.PL
open Go.RowKit Go.Proofs.YtolhanigjmhkgabDoorW.PrintWords

theorem wrap_id {x : Int} (h0 : -9223372036854775808 ≤ x) (h1 : x ≤ 9223372036854775807) : wrap64 x = x := by unfold wrap64; omega
theorem wrap_succ {i n : Nat} (h : i < n) (hn : n ≤ 9223372036854775807) : wrap64 ((i : Int) + 1) = ((i + 1 : Nat) : Int) := by unfold wrap64; omega

/-- What a loop over places comes to. -/
def runB {σ ρ : Type} (B : Nat → σ → σ ⊕ ρ) (E : σ → ρ) : Nat → Nat → σ → ρ
  | 0, _, s => E s
  | d + 1, i, s => match B i s with
    | .inl s' => runB B E d (i + 1) s'
    | .inr r => r
/-- A loop over places i .. n-1. -/
theorem loop_ev {σ ρ : Type} (n : Nat) (l : Nat → σ → Int → Option ρ) (B : Nat → σ → σ ⊕ ρ) (E : σ → ρ) (Inv : Nat → σ → Prop)
    (hs : ∀ i s, i < n → Inv i s → ∀ k, l (k + 1) s (i : Int) = match B i s with
      | .inl s' => l k s' ((i + 1 : Nat) : Int)
      | .inr r => some r)
    (hi : ∀ i s s', i < n → Inv i s → B i s = .inl s' → Inv (i + 1) s')
    (he : ∀ s, Inv n s → ∀ k, l (k + 1) s (n : Int) = some (E s)) : ∀ d i s, i + d = n → Inv i s → Ev (fun k => l k s (i : Int)) (runB B E d i s)
  | 0, i, s, hd, hI => by
    have e : i = n := by omega
    subst e
    exact Ev.step (he s hI) (Ev.now _)
  | d + 1, i, s, hd, hI => by
    have hlt : i < n := by omega
    cases hB : B i s with
    | inl s' =>
      have h1 := loop_ev n l B E Inv hs hi he d (i + 1) s' (by omega) (hi i s s' hlt hI hB)
      refine Ev.step (f := fun k => l k s' ((i + 1 : Nat) : Int)) (fun k => by rw [hs i s hlt hI k, hB]) ?_
      simp only [runB, hB]
      exact h1
    | inr r =>
      refine Ev.step (f := fun _ => some r) (fun k => by rw [hs i s hlt hI k, hB]) ?_
      simp only [runB, hB]
      exact Ev.now _
/-- A result that does not depend on the rounds. -/
theorem Ev.const {α : Type} {x : Option α} {r : α} (h : x = some r) : Ev (fun _ => x) r := ⟨0, fun _ _ => h⟩
/-- Behind a first step whose value is known. -/
theorem Ev.bind0 {α β : Type} {x : Option α} {f : Nat → α → Option β} {a : α} {r : β} (h : x = some a) (k : Ev (fun n => f n a) r) : Ev (fun n => x.bind (f n)) r := by
  subst h
  exact k
/-- A loop that only goes on. -/
theorem all_ev {ρ : Type} (n : Nat) (l : Nat → Int → Option ρ) (r : ρ) (hs : ∀ k i, i < n → l (k + 1) (i : Int) = l k ((i + 1 : Nat) : Int)) (he : ∀ k, l (k + 1) (n : Int) = some r) : ∀ d i, i + d = n → Ev (fun k => l k (i : Int)) r
  | 0, i, hd => by
    have e : i = n := by omega
    subst e
    exact Ev.step he (Ev.now _)
  | d + 1, i, hd => Ev.step (fun k => hs k i (by omega)) (all_ev n l r hs he d (i + 1) (by omega))
/-- A loop that copies a list, element by element. -/
theorem to_ev0 {α β : Type} (xs : List α) (conv : α → β) (l : Nat → List β → Int → Option (List β))
    (hs : ∀ k out i (hi : i < xs.length), out.length = xs.length → l (k + 1) out (i : Int) = l k (out.set i (conv xs[i])) ((i + 1 : Nat) : Int))
    (he : ∀ k out, out.length = xs.length → l (k + 1) out (xs.length : Int) = some out) : ∀ d i out, i + d = xs.length → out.length = xs.length → out.take i = (xs.take i).map conv → Ev (fun k => l k out (i : Int)) (xs.map conv)
  | 0, i, out, hd, ho, ht => by
    have e : i = xs.length := by omega
    subst e
    rw [List.take_of_length_le (by omega), List.take_of_length_le (Nat.le_refl _)] at ht
    rw [← ht]
    exact Ev.step (fun k => he k out ho) (Ev.now _)
  | d + 1, i, out, hd, ho, ht => by
    have hi : i < xs.length := by omega
    refine Ev.step (fun k => hs k out i hi ho) (to_ev0 xs conv l hs he d (i + 1) _ (by omega) (by rw [List.length_set]; exact ho) ?_)
    rw [List.take_succ_eq_append_getElem (by rw [List.length_set]; omega), List.take_succ_eq_append_getElem hi, List.getElem_set_self, List.take_set_of_le (Nat.le_refl i), ht, List.map_append]
    rfl
theorem to_ev {α β : Type} (xs : List α) (conv : α → β) (z : β) (l : Nat → List β → Int → Option (List β))
    (hs : ∀ k out i (hi : i < xs.length), out.length = xs.length → l (k + 1) out (i : Int) = l k (out.set i (conv xs[i])) ((i + 1 : Nat) : Int))
    (he : ∀ k out, out.length = xs.length → l (k + 1) out (xs.length : Int) = some out) : Ev (fun k => l k (List.replicate xs.length z) 0) (xs.map conv) :=
  to_ev0 xs conv l hs he xs.length 0 _ (by omega) (by simp) rfl
/-- A loop that takes off what each element needs. -/
theorem sz_ev {α : Type} (xs : List α) (l : Nat → Int → Int → Option Int)
    (hs : ∀ left i (_ : i < xs.length), 0 ≤ left → left ≤ 1048576 → ∃ r, r ≤ left ∧ ((r < 0 ∧ ∀ k, l (k + 1) left (i : Int) = some (-1)) ∨ (0 ≤ r ∧ ∀ k, l (k + 1) left (i : Int) = l k r ((i + 1 : Nat) : Int))))
    (he : ∀ k left, l (k + 1) left (xs.length : Int) = some left) : ∀ d i left, i + d = xs.length → 0 ≤ left → left ≤ 1048576 → ∃ r, Ev (fun k => l k left (i : Int)) r ∧ r ≤ left
  | 0, i, left, hd, h0, h1 => by
    have e : i = xs.length := by omega
    subst e
    exact ⟨left, Ev.step (fun k => he k left) (Ev.now _), Int.le_refl _⟩
  | d + 1, i, left, hd, h0, h1 => by
    obtain ⟨r, hr, h⟩ := hs left i (by omega) h0 h1
    rcases h with ⟨hn, h⟩ | ⟨hp, h⟩
    · exact ⟨-1, Ev.step h (Ev.now _), by omega⟩
    · obtain ⟨q, hq, hql⟩ := sz_ev xs l hs he d (i + 1) r (by omega) hp (by omega)
      exact ⟨q, Ev.step h hq, by omega⟩
/-! ### Branches, steps and loops under enough rounds -/
theorem Ev.ifp {α : Type} {c : Prop} [Decidable c] {f g : Nat → Option α} {r : α} (hc : c) (h : Ev f r) : Ev (fun k => if c then f k else g k) r := Ev.congr (fun _ => if_pos hc) h
theorem Ev.ifn {α : Type} {c : Prop} [Decidable c] {f g : Nat → Option α} {r : α} (hc : ¬ c) (h : Ev g r) : Ev (fun k => if c then f k else g k) r := Ev.congr (fun _ => if_neg hc) h
theorem Ev.iff {α : Type} {c : Prop} [Decidable c] {f g : Nat → Option α} {r : α} (hp : c → Ev f r) (hn : ¬ c → Ev g r) : Ev (fun k => if c then f k else g k) r := by
  by_cases hc : c
  · exact Ev.ifp hc (hp hc)
  · exact Ev.ifn hc (hn hc)
theorem Ev.leaf {α : Type} {v r : α} (h : v = r) : Ev (fun _ => some v) r := by subst h; exact Ev.now _
theorem Ev.cast {α : Type} {g : Nat → Option α} {a r : α} (h : Ev g a) (e : a = r) : Ev g r := e ▸ h
/-- A loop over places, told step by step: what the next place comes to, this one comes to. -/
theorem loop2 {σ ρ : Type} (n : Nat) (l : Nat → σ → Int → Option ρ) (B : Nat → σ → σ ⊕ ρ) (E : σ → ρ) (Inv : Nat → σ → Prop)
    (hs : ∀ i s, i < n → Inv i s → match B i s with
      | .inl s' => Inv (i + 1) s' ∧ ∀ r, Ev (fun k => l k s' ((i + 1 : Nat) : Int)) r → Ev (fun k => l k s (i : Int)) r
      | .inr r => Ev (fun k => l k s (i : Int)) r)
    (he : ∀ s, Inv n s → Ev (fun k => l k s (n : Int)) (E s)) : ∀ d i s, i + d = n → Inv i s → Ev (fun k => l k s (i : Int)) (runB B E d i s)
  | 0, i, s, hd, hI => by
    have e : i = n := by omega
    subst e
    exact he s hI
  | d + 1, i, s, hd, hI => by
    have h := hs i s (by omega) hI
    cases hB : B i s with
    | inl s' =>
      rw [hB] at h
      simp only [runB, hB]
      exact h.2 _ (loop2 n l B E Inv hs he d (i + 1) s' (by omega) h.1)
    | inr r =>
      rw [hB] at h
      simp only [runB, hB]
      exact h
/-- The first place whose answer is not to go on. -/
def runU {ρ : Type} (B : Nat → Option ρ) (e : ρ) : Nat → Nat → ρ
  | 0, _ => e
  | d + 1, i => match B i with
    | none => runU B e d (i + 1)
    | some r => r
/-- The same for a loop without a state. -/
theorem loopU {ρ : Type} (n : Nat) (l : Nat → Int → Option ρ) (B : Nat → Option ρ) (e : ρ)
    (hs : ∀ i, i < n → match B i with
      | none => ∀ r, Ev (fun k => l k ((i + 1 : Nat) : Int)) r → Ev (fun k => l k (i : Int)) r
      | some r => Ev (fun k => l k (i : Int)) r)
    (he : Ev (fun k => l k (n : Int)) e) : ∀ d i, i + d = n → Ev (fun k => l k (i : Int)) (runU B e d i)
  | 0, i, hd => by
    have h : i = n := by omega
    subst h
    exact he
  | d + 1, i, hd => by
    have h := hs i (by omega)
    cases hB : B i with
    | none =>
      rw [hB] at h
      simp only [runU, hB]
      exact h _ (loopU n l B e hs he d (i + 1) (by omega))
    | some r =>
      rw [hB] at h
      simp only [runU, hB]
      exact h
theorem runU_congr {ρ : Type} {B B' : Nat → Option ρ} {e : ρ} : ∀ d i, (∀ j, i ≤ j → j < i + d → B j = B' j) → runU B e d i = runU B' e d i
  | 0, _, _ => rfl
  | d + 1, i, h => by
    simp only [runU]
    rw [h i (by omega) (by omega), runU_congr d (i + 1) (fun j h0 h1 => h j (by omega) (by omega))]
theorem bt_data (s : ByteArray) (i : Nat) (h : i < s.size) : bt s (i : Int) = ((s.data.toList[i]'(by rw [data_length]; exact h)).toNat : Int) := by
  rw [← bt_at s i (by simpa using h)]
  rfl
/-- A loop without a state, told by what a place stops with. -/
def elimB {ρ : Type} (B : Option ρ) (g : Nat → Option ρ) (k : Nat) : Option ρ := match B with
  | none => g k
  | some v => some v
theorem Ev.stop {ρ : Type} {B : Option ρ} {g : Nat → Option ρ} {v r : ρ} (hr : Ev (elimB B g) r) (e : B = some v) : Ev (fun _ => some v) r := by subst e; exact hr
theorem Ev.go {ρ : Type} {B : Option ρ} {g : Nat → Option ρ} {r : ρ} (hr : Ev (elimB B g) r) (e : B = none) : Ev g r := by subst e; exact hr
theorem loopO {ρ : Type} (n : Nat) (l : Nat → Int → Option ρ) (B : Nat → Option ρ) (e : ρ)
    (hs : ∀ i, i < n → ∀ r, Ev (elimB (B i) (fun k => l k ((i + 1 : Nat) : Int))) r → Ev (fun k => l k (i : Int)) r)
    (he : Ev (fun k => l k (n : Int)) e) : ∀ d i, i + d = n → Ev (fun k => l k (i : Int)) (runU B e d i)
  | 0, i, hd => by
    have h : i = n := by omega
    subst h
    exact he
  | d + 1, i, hd => by
    refine hs i (by omega) _ ?_
    cases hB : B i with
    | none =>
      simp only [runU, hB]
      exact loopO n l B e hs he d (i + 1) (by omega)
    | some r =>
      simp only [runU, hB]
      exact Ev.now _
/-- The same, where what is behind a place tells of what follows. -/
theorem loopI {ρ : Type} (n : Nat) (l : Nat → Int → Option ρ) (B : Nat → Option ρ) (e : ρ) (Inv : Nat → Prop)
    (hs : ∀ i, i < n → Inv i → ∀ r, Ev (elimB (B i) (fun k => l k ((i + 1 : Nat) : Int))) r → Ev (fun k => l k (i : Int)) r)
    (hi : ∀ i, i < n → Inv i → B i = none → Inv (i + 1))
    (he : Inv n → Ev (fun k => l k (n : Int)) e) : ∀ d i, i + d = n → Inv i → Ev (fun k => l k (i : Int)) (runU B e d i)
  | 0, i, hd, hI => by
    have h : i = n := by omega
    subst h
    exact he hI
  | d + 1, i, hd, hI => by
    refine hs i (by omega) hI _ ?_
    cases hB : B i with
    | none =>
      simp only [runU, hB]
      exact loopI n l B e Inv hs hi he d (i + 1) (by omega) (hi i (by omega) hI hB)
    | some r =>
      simp only [runU, hB]
      exact Ev.now _
/-- A run that comes to its end has stopped nowhere, where no stop says the same. -/
theorem runU_none {ρ : Type} {B : Nat → Option ρ} {e : ρ} (hB : ∀ i v, B i = some v → v ≠ e) : ∀ d i, runU B e d i = e → ∀ j, i ≤ j → j < i + d → B j = none
  | 0, i, _, j, h0, h1 => by omega
  | d + 1, i, h, j, h0, h1 => by
    simp only [runU] at h
    cases hb : B i with
    | none =>
      rw [hb] at h
      by_cases e : j = i
      · subst e; exact hb
      · exact runU_none hB d (i + 1) h j (by omega) (by omega)
    | some v =>
      rw [hb] at h
      exact absurd h (hB i v hb)
end Go.Proofs.YtolhanigjmhkgabDoor.PL
