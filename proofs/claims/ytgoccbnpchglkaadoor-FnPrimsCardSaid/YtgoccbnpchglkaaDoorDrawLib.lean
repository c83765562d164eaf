/- Proved: what is drawn from bytes is told at each place. Conditions: those in each head. -/
import Derived.Test.YtgoccbnpchglkaaDoorPL
import Derived.Test.YtgoccbnpchglkaaDoorP8
namespace Go.Proofs.YtgoccbnpchglkaaDoor.P
open Go.RowKit Go.Proofs.YtgoccbnpchglkaaDoorW.PrintWords Go.Proofs.YtgoccbnpchglkaaDoorW.PrintLast Go.Proofs.YtgoccbnpchglkaaDoor.PL
set_option linter.unusedSimpArgs false

/-- Bytes, each in its range. -/
def okB (l : List Int) : Prop := l.length ≤ 1048576 ∧ ∀ y ∈ l, 0 ≤ y ∧ y ≤ 255
theorem rdb (l : List Int) (h : okB l) (i : Int) : 0 ≤ rd l i ∧ rd l i ≤ 255 := by
  unfold rd
  by_cases c : i.toNat < l.length
  · have := h.2 (l.getD i.toNat 0) (by simp [List.getD, c])
    exact this
  · simp [List.getD, c]
theorem tmod_lt' {a b : Int} (ha : 0 ≤ a) (hb : 0 < b) : 0 ≤ Int.tmod a b ∧ Int.tmod a b < b := ⟨Int.tmod_nonneg b ha, Int.tmod_lt_of_pos a hb⟩
theorem next_eq (l : List Int) (hl : okB l) (s n : Int) (h0 : 0 ≤ s) (h1 : s ≤ 1000000000) (hn : n ≤ 1000000000) : ∃ v, spec_l1Next.f l s n = some (v, s + 1) ∧ 0 ≤ v ∧ (1 ≤ n → v < n) ∧ (n < 1 → v = 0) := by
  have hlen := hl.1
  unfold spec_l1Next.f
  rw [wrap_id (x := s + 1) (by omega) (by omega)]
  by_cases c : n < 1
  · exact ⟨0, by rw [if_pos c], by omega, by omega, fun _ => rfl⟩
  · rw [if_neg c, show s + 1 - 1 = s from by omega, wrap_id (x := s) (by omega) (by omega)]
    by_cases c1 : (l.length : Int) = 0
    · rw [if_pos c1, if_neg (by omega), wrap_id (x := s * 7) (by omega) (by omega)]
      have := tmod_lt' (a := s * 7) (b := n) (by omega) (by omega)
      exact ⟨_, rfl, this.1, fun _ => this.2, fun h => absurd h c⟩
    · have hp : (0 : Int) < l.length := by omega
      have m1 := tmod_lt' h0 hp
      have m2 := tmod_lt' (a := s + 1) (b := (l.length : Int)) (by omega) hp
      have d1 : 0 ≤ Int.tdiv s (l.length : Int) ∧ Int.tdiv s (l.length : Int) ≤ s := by
        rw [Int.tdiv_eq_ediv_of_nonneg h0]
        exact ⟨Int.ediv_nonneg h0 (by omega), Int.ediv_le_self _ h0⟩
      have r1 := rdb l hl (Int.tmod s (l.length : Int))
      have r2 := rdb l hl (Int.tmod (s + 1) (l.length : Int))
      rw [if_neg c1, if_pos m1.1, if_pos m1.2]
      by_cases c2 : n > 200
      · rw [if_pos c2, wrap_id (x := s + 1) (by omega) (by omega), if_pos m2.1, if_pos m2.2, if_neg (by omega)]
        generalize hq : Int.tdiv s (l.length : Int) = q at d1
        generalize ha : rd l (Int.tmod s (l.length : Int)) = a at r1
        generalize hb : rd l (Int.tmod (s + 1) (l.length : Int)) = b at r2
        rw [wrap_id (x := a) (by omega) (by omega), wrap_id (x := q) (by omega) (by omega), wrap_id (x := q * 37) (by omega) (by omega), wrap_id (x := a + q * 37) (by omega) (by omega), wrap_id (x := b) (by omega) (by omega), wrap_id (x := b * 13) (by omega) (by omega), wrap_id (x := (a + q * 37) * 251) (by omega) (by omega), wrap_id (x := (a + q * 37) * 251 + b * 13) (by omega) (by omega), wrap_id (x := (a + q * 37) * 251 + b * 13 + s) (by omega) (by omega)]
        have := tmod_lt' (a := (a + q * 37) * 251 + b * 13 + s) (b := n) (by omega) (by omega)
        exact ⟨_, rfl, this.1, fun _ => this.2, fun h => absurd h c⟩
      · rw [if_neg c2, if_neg (by omega)]
        generalize hq : Int.tdiv s (l.length : Int) = q at d1
        generalize ha : rd l (Int.tmod s (l.length : Int)) = a at r1
        rw [wrap_id (x := a) (by omega) (by omega), wrap_id (x := q) (by omega) (by omega), wrap_id (x := q * 37) (by omega) (by omega), wrap_id (x := a + q * 37) (by omega) (by omega)]
        have := tmod_lt' (a := a + q * 37) (b := n) (by omega) (by omega)
        exact ⟨_, rfl, this.1, fun _ => this.2, fun h => absurd h c⟩
theorem okB_of (l : List Int) (h : l.length ≤ 1048576) (hw : ∀ y ∈ l, (Lit.int .u8 y).wf = true) : okB l := by
  refine ⟨h, fun y hy => ?_⟩
  have := hw y hy
  simp [Lit.wf, IntKind.min, IntKind.max, IntKind.signed, IntKind.bits] at this
  exact this
end Go.Proofs.YtgoccbnpchglkaaDoor.P
