/- Proved: small laws on loops that count their rounds, and on integers that wrap. Conditions: those in each head. -/
import Derived.Test.YtdnegjmdahmlfaaWWords
namespace Go.Proofs.Ytdnegjmdahmlfaa.PL
open Go.RowKit Go.Proofs.YtdnegjmdahmlfaaW.PrintWords

theorem wrap_id {x : Int} (h0 : -9223372036854775808 ≤ x) (h1 : x ≤ 9223372036854775807) : wrap64 x = x := by unfold wrap64; omega
theorem wrap_succ {i n : Nat} (h : i < n) (hn : n ≤ 9223372036854775807) : wrap64 ((i : Int) + 1) = ((i + 1 : Nat) : Int) := by unfold wrap64; omega

/-- What a loop over places comes to. -/
def runB {σ ρ : Type} (B : Nat → σ → σ ⊕ ρ) (E : σ → ρ) : Nat → Nat → σ → ρ
  | 0, _, s => E s
  | d + 1, i, s => match B i s with
    | .inl s' => runB B E d (i + 1) s'
    | .inr r => r
/-- A loop over places i .. n-1. -/
theorem loop_ev {σ ρ : Type} (n : Nat) (l : Nat → σ → Int → Option ρ) (B : Nat → σ → σ ⊕ ρ) (E : σ → ρ) (Inv : Nat → σ → Prop)
    (hs : ∀ i s, i < n → Inv i s → ∀ k, l (k + 1) s (i : Int) = match B i s with
      | .inl s' => l k s' ((i + 1 : Nat) : Int)
      | .inr r => some r)
    (hi : ∀ i s s', i < n → Inv i s → B i s = .inl s' → Inv (i + 1) s')
    (he : ∀ s, Inv n s → ∀ k, l (k + 1) s (n : Int) = some (E s)) : ∀ d i s, i + d = n → Inv i s → Ev (fun k => l k s (i : Int)) (runB B E d i s)
  | 0, i, s, hd, hI => by
    have e : i = n := by omega
    subst e
    exact Ev.step (he s hI) (Ev.now _)
  | d + 1, i, s, hd, hI => by
    have hlt : i < n := by omega
    cases hB : B i s with
    | inl s' =>
      have h1 := loop_ev n l B E Inv hs hi he d (i + 1) s' (by omega) (hi i s s' hlt hI hB)
      refine Ev.step (f := fun k => l k s' ((i + 1 : Nat) : Int)) (fun k => by rw [hs i s hlt hI k, hB]) ?_
      simp only [runB, hB]
      exact h1
    | inr r =>
      refine Ev.step (f := fun _ => some r) (fun k => by rw [hs i s hlt hI k, hB]) ?_
      simp only [runB, hB]
      exact Ev.now _
/-- A result that does not depend on the rounds. -/
theorem Ev.const {α : Type} {x : Option α} {r : α} (h : x = some r) : Ev (fun _ => x) r := ⟨0, fun _ _ => h⟩
/-- Behind a first step whose value is known. -/
theorem Ev.bind0 {α β : Type} {x : Option α} {f : Nat → α → Option β} {a : α} {r : β} (h : x = some a) (k : Ev (fun n => f n a) r) : Ev (fun n => x.bind (f n)) r := by
  subst h
  exact k
end Go.Proofs.Ytdnegjmdahmlfaa.PL
