/- Proved: tokens and texts that are drawn: what is known of them. Conditions: those in each head. -/
import Derived.Test.YteiokhfikbndbaaGreatDoorBaseLib
import Derived.Test.YteiokhfikbndbaaGreatDoorA2
import Derived.Test.YteiokhfikbndbaaGreatDoorA7
import Derived.Test.YteiokhfikbndbaaGreatDoorA6
namespace Go.Proofs.YteiokhfikbndbaaGreatDoor.A
open Go.RowKit Go.Proofs.YteiokhfikbndbaaGreatDoorW.PrintWords Go.Proofs.YteiokhfikbndbaaGreatDoorW.PrintLast Go.Proofs.YteiokhfikbndbaaGreatDoor.PL
set_option linter.unusedSimpArgs false

theorem rdOf_memT {α : Type} {d : α} {xs : List α} {i : Int} (h0 : 0 ≤ i) (h1 : i < (xs.length : Int)) : rdOf d xs i ∈ xs := by
  unfold rdOf
  have hi : i.toNat < xs.length := by omega
  simp [List.getD, hi]
theorem l2NameT_eq (l : List Int) (hl : okB l) (s : Int) (h0 : 0 ≤ s) (h1 : s ≤ 900000000) : ∃ n, spec_l2Name.f l s = some (n, s + 1) ∧ n.size ≤ 12 := by
  obtain ⟨v, hv, v0, v1, _⟩ := next_eq l hl s 8 h0 (by omega) (by omega)
  have v2 := v1 (by omega)
  unfold spec_l2Name.f
  rw [Option.bind_some]
  rw [hv, Option.bind_some, if_pos v0, if_pos (by simp; omega)]
  refine ⟨_, rfl, ?_⟩
  have hm := rdOf_memT (d := ByteArray.empty) (xs := [(⟨#[120]⟩ : ByteArray), (⟨#[121]⟩ : ByteArray), (⟨#[102]⟩ : ByteArray), (⟨#[43]⟩ : ByteArray), (⟨#[99, 97, 114]⟩ : ByteArray), (⟨#[105, 102]⟩ : ByteArray), (⟨#[110, 117, 108, 108, 63]⟩ : ByteArray), (⟨#[97]⟩ : ByteArray)]) v0 (by simp; omega)
  exact (by decide +kernel : ∀ m ∈ [(⟨#[120]⟩ : ByteArray), (⟨#[121]⟩ : ByteArray), (⟨#[102]⟩ : ByteArray), (⟨#[43]⟩ : ByteArray), (⟨#[99, 97, 114]⟩ : ByteArray), (⟨#[105, 102]⟩ : ByteArray), (⟨#[110, 117, 108, 108, 63]⟩ : ByteArray), (⟨#[97]⟩ : ByteArray)], m.size ≤ 12) _ hm
theorem drawTok_eq (l : List Int) (hl : okB l) (s : Int) (h0 : 0 ≤ s) (h1 : s ≤ 1000000) : ∃ K N n s', spec_l2Draw.f l s = some (K, N, n, s') ∧ n.size ≤ 12 ∧ s ≤ s' ∧ s' ≤ s + 4 := by
  obtain ⟨v, hv, _⟩ := next_eq l hl s 6 h0 (by omega) (by omega)
  obtain ⟨a, ha, _⟩ := draw_eq l hl (s + 1) (by omega) (by omega)
  obtain ⟨b, hb, _⟩ := next_eq l hl (s + 1) 2 (by omega) (by omega) (by omega)
  obtain ⟨m, hm, hz⟩ := l2NameT_eq l hl (s + 1) (by omega) (by omega)
  have z : (⟨#[]⟩ : ByteArray).size ≤ 12 := by decide
  unfold spec_l2Draw.f
  rw [hv, Option.bind_some]
  by_cases c0 : v = 0
  · exact ⟨1, 0, _, s + 1, by simp only [if_pos c0], z, by omega, by omega⟩
  by_cases c1 : v = 1
  · exact ⟨2, 0, _, s + 1, by simp only [if_neg c0, if_pos c1], z, by omega, by omega⟩
  by_cases c2 : v = 2
  · exact ⟨3, 0, _, s + 1, by simp only [if_neg c0, if_neg c1, if_pos c2], z, by omega, by omega⟩
  by_cases c3 : v = 3
  · exact ⟨4, a, _, s + 1 + 3, by simp only [if_neg c0, if_neg c1, if_neg c2, if_pos c3, ha, Option.bind_some], z, by omega, by omega⟩
  by_cases c4 : v = 4
  · exact ⟨5, b, _, s + 1 + 1, by simp only [if_neg c0, if_neg c1, if_neg c2, if_neg c3, if_pos c4, hb, Option.bind_some], z, by omega, by omega⟩
  · exact ⟨6, 0, m, s + 1 + 1, by simp only [if_neg c0, if_neg c1, if_neg c2, if_neg c3, if_neg c4, hm, Option.bind_some], hz, by omega, by omega⟩
theorem bentTok_eq (l : List Int) (hl : okB l) (s : Int) (h0 : 0 ≤ s) (h1 : s ≤ 100000) : ∃ K N n s', spec_l2Bent.f l s = some (K, N, n, s') ∧ n.size ≤ 12 := by
  obtain ⟨K, N, n, s1, hd, hn, e0, e1⟩ := drawTok_eq l hl s h0 (by omega)
  obtain ⟨v, hv, _⟩ := next_eq l hl s1 12 (by omega) (by omega) (by omega)
  obtain ⟨p, hp, _⟩ := pick_eq l hl (s1 + 1) [0, 7, 1, 4] (by omega) (by omega) (by simp) (by simp)
  obtain ⟨q, hq, _⟩ := pick_eq l hl (s1 + 1) [1, 2, 1000000001] (by omega) (by omega) (by simp) (by simp)
  obtain ⟨u, hu, u0, u1, _⟩ := next_eq l hl (s1 + 1) 3 (by omega) (by omega) (by omega)
  have u2 := u1 (by omega)
  have hm : (rdOf ByteArray.empty [(⟨#[]⟩ : ByteArray), (⟨#[65]⟩ : ByteArray), (⟨#[120]⟩ : ByteArray)] u).size ≤ 12 := (by decide +kernel : ∀ m ∈ [(⟨#[]⟩ : ByteArray), (⟨#[65]⟩ : ByteArray), (⟨#[120]⟩ : ByteArray)], m.size ≤ 12) _ (rdOf_memT u0 (by simp; omega))
  unfold spec_l2Bent.f
  rw [hd, Option.bind_some]
  simp only []
  rw [hv, Option.bind_some]
  simp only []
  by_cases c0 : v = 0
  · exact ⟨p, N, n, _, by rw [if_pos c0, hp, Option.bind_some], hn⟩
  by_cases c1 : v = 1
  · exact ⟨K, q, n, _, by rw [if_neg c0, if_pos c1, hq, Option.bind_some], hn⟩
  by_cases c2 : v = 2
  · exact ⟨K, N, _, _, by rw [if_neg c0, if_neg c1, if_pos c2, Option.bind_some, hu, Option.bind_some, if_pos u0, if_pos (by simp; omega)], hm⟩
  · exact ⟨K, N, n, _, by rw [if_neg c0, if_neg c1, if_neg c2], hn⟩
theorem okT_snoc {xs : List S37} (h : okT xs) {x : S37} (hx : x.f2.size ≤ 12) : okT (xs ++ [x]) := by
  intro y hy
  rcases List.mem_append.mp hy with hm | hm
  · exact h y hm
  · rw [List.mem_singleton] at hm; subst hm; omega
theorem drawTexts_loop (l : List Int) (hl : okB l) : ∀ (c : Nat) (xs : List S37) (s : Int), okT xs → c ≤ 10 → xs.length + c ≤ 20 → 0 ≤ s → s + 4 * (c : Int) ≤ 1000 → ∃ ys, Ev (fun k => spec_DrawTokensText.l0 k xs (c : Int) l s) ys ∧ okT ys ∧ ys.length ≤ 121
  | 0, xs, s, hx, _, hn, h0, h1 => by
    obtain ⟨v, hv, _⟩ := next_eq l hl s 10 h0 (by omega) (by omega)
    obtain ⟨K, N, n, s', hb, hm⟩ := bentTok_eq l hl (s + 1) (by omega) (by omega)
    by_cases c0 : v = 0
    · exact ⟨_, Ev.step (fun k => spec_DrawTokensText.l0.eq_2 _ _ _ _ k) (Ev.ifn (by omega) (Ev.bind0 hv (Ev.ifp c0 (Ev.bind0 hb (Ev.ifp (by omega) (Ev.now _)))))), okT_snoc hx hm, by simp; omega⟩
    by_cases c1 : v = 1
    · refine ⟨_, Ev.step (fun k => spec_DrawTokensText.l0.eq_2 _ _ _ _ k) (Ev.ifn (by omega) (Ev.bind0 hv (Ev.ifn c0 (Ev.ifp c1 (Ev.ifp (by omega) (Ev.now _)))))), fun x hx => ?_, by simp⟩
      obtain rfl := List.eq_of_mem_replicate hx
      exact (by decide : (⟨#[]⟩ : ByteArray).size ≤ 9223372036854775807)
    · exact ⟨xs, Ev.step (fun k => spec_DrawTokensText.l0.eq_2 _ _ _ _ k) (Ev.ifn (by omega) (Ev.bind0 hv (Ev.ifn c0 (Ev.ifn c1 (Ev.now _))))), hx, by omega⟩
  | c + 1, xs, s, hx, hc, hn, h0, h1 => by
    obtain ⟨K, N, n, s', hd, hm, e0, e1⟩ := drawTok_eq l hl s h0 (by omega)
    obtain ⟨ys, hy, r⟩ := drawTexts_loop l hl c (xs ++ [⟨K, N, n⟩]) s' (okT_snoc hx hm) (by omega) (by simp; omega) (by omega) (by omega)
    refine ⟨ys, Ev.step (fun k => spec_DrawTokensText.l0.eq_2 _ _ _ _ k) (Ev.ifp (by omega) (Ev.bind0 hd (Ev.ifp (by omega) ?_))), r⟩
    rw [show wrap64 (((c + 1 : Nat) : Int) - 1) = (c : Int) by rw [wrap_id (by omega) (by omega)]; omega]
    exact hy
theorem drawTexts_ev (l : List Int) (hl : okB l) : ∃ ys, Ev (fun k => spec_DrawTokensText.f k l) ys ∧ okT ys ∧ ys.length ≤ 121 := by
  obtain ⟨v, hv, v0, v1, _⟩ := next_eq l hl 0 10 (by omega) (by omega) (by omega)
  have v2 := v1 (by omega)
  obtain ⟨c, rfl⟩ : ∃ c : Nat, (c : Int) = v := ⟨v.toNat, Int.toNat_of_nonneg v0⟩
  obtain ⟨ys, hy, r⟩ := drawTexts_loop l hl c [] (0 + 1) (fun x hx => by cases hx) (by omega) (by simp; omega) (by omega) (by omega)
  exact ⟨ys, Ev.congr (fun k => spec_DrawTokensText.f.eq_1 k _) (Ev.bind0 rfl (Ev.bind0 hv hy)), r⟩
theorem chance_eq (l : List Int) (hl : okB l) (s n : Int) (h0 : 0 ≤ s) (h1 : s ≤ 1000000) (h2 : n ≤ 1000) : ∃ b, spec_l1Chance.f l s n = some (b, s + 1) := by
  obtain ⟨v, hv, _⟩ := next_eq l hl s n h0 (by omega) (by omega)
  exact ⟨(v == 0), by unfold spec_l1Chance.f; rw [hv, Option.bind_some]⟩
theorem drawOf_l1 (l : List Int) (hl : okB l) (s : Int) (h0 : 0 ≤ s) (h1 : s ≤ 1000) : ∀ (d i : Nat) (x : ByteArray), i + d = 121 → x.size ≤ 1000 + 2 * i → ∃ t, Ev (fun k => spec_DrawTokensOf.l1 k x (i : Int) l s) t
  | 0, i, x, hd, hx => by
    obtain ⟨b, hb⟩ := chance_eq l hl s 60 h0 (by omega) (by omega)
    by_cases c : b = true
    · exact ⟨_, Ev.step (fun k => spec_DrawTokensOf.l1.eq_2 _ _ _ _ k) (Ev.ifn (by omega) (Ev.bind0 hb (Ev.ifp c (Ev.ifp (by omega) (Ev.now _)))))⟩
    · exact ⟨_, Ev.step (fun k => spec_DrawTokensOf.l1.eq_2 _ _ _ _ k) (Ev.ifn (by omega) (Ev.bind0 hb (Ev.ifn c (Ev.now _))))⟩
  | d + 1, i, x, hd, hx => by
    obtain ⟨t, ht⟩ := drawOf_l1 l hl s h0 h1 d (i + 1) (x ++ ⟨#[40, 32]⟩) (by omega) (by rw [ByteArray.size_append]; show x.size + 2 ≤ _; omega)
    refine ⟨t, Ev.step (fun k => spec_DrawTokensOf.l1.eq_2 _ _ _ _ k) (Ev.ifp (by omega) (Ev.ifp (by omega) ?_))⟩
    rw [wrap_succ (n := 121) (by omega) (by omega)]
    exact ht
theorem drawOf_l0 (l : List Int) (hl : okB l) : ∀ (c : Nat) (x : ByteArray) (s : Int), c ≤ 12 → x.size + 10 * c ≤ 1000 → 0 ≤ s → s + 2 * (c : Int) ≤ 100 → ∃ t, Ev (fun k => spec_DrawTokensOf.l0 k x (c : Int) l s) t
  | 0, x, s, _, hx, h0, h1 => by
    obtain ⟨b, hb⟩ := chance_eq l hl s 40 h0 (by omega) (by omega)
    by_cases c : b = true
    · obtain ⟨t, ht⟩ := drawOf_l1 l hl (s + 1) (by omega) (by omega) 121 0 x (by omega) (by omega)
      exact ⟨t, Ev.step (fun k => spec_DrawTokensOf.l0.eq_2 _ _ _ _ k) (Ev.ifn (by omega) (Ev.bind0 hb (Ev.ifp c ht)))⟩
    · obtain ⟨e, he⟩ := chance_eq l hl (s + 1) 60 (by omega) (by omega) (by omega)
      by_cases f : e = true
      · exact ⟨_, Ev.step (fun k => spec_DrawTokensOf.l0.eq_2 _ _ _ _ k) (Ev.ifn (by omega) (Ev.bind0 hb (Ev.ifn c (Ev.bind0 he (Ev.ifp f (Ev.ifp (by omega) (Ev.now _)))))))⟩
      · exact ⟨_, Ev.step (fun k => spec_DrawTokensOf.l0.eq_2 _ _ _ _ k) (Ev.ifn (by omega) (Ev.bind0 hb (Ev.ifn c (Ev.bind0 he (Ev.ifn f (Ev.now _))))))⟩
  | c + 1, x, s, hc, hx, h0, h1 => by
    obtain ⟨a, ha, a0, a1, _⟩ := next_eq l hl s 16 h0 (by omega) (by omega)
    have a2 := a1 (by omega)
    obtain ⟨v, hv, hm⟩ := pick_eq l hl (s + 1) [0, 1, 2, 3, 4, 5, 6, 7, 8, 9, 10, 11, 0, 1, 3, a] (by omega) (by omega) (by simp) (by simp)
    have v0 : 0 ≤ v ∧ v < 16 := by
      simp only [List.mem_cons, List.not_mem_nil, or_false] at hm
      omega
    have hz := (by decide +kernel : ∀ m ∈ [(⟨#[40]⟩ : ByteArray), (⟨#[41]⟩ : ByteArray), (⟨#[39]⟩ : ByteArray), (⟨#[32]⟩ : ByteArray), (⟨#[10]⟩ : ByteArray), (⟨#[49, 50, 32]⟩ : ByteArray), (⟨#[45, 51]⟩ : ByteArray), (⟨#[32, 120]⟩ : ByteArray), (⟨#[99, 97, 114, 32]⟩ : ByteArray), (⟨#[35, 116]⟩ : ByteArray), (⟨#[59, 32, 97, 10]⟩ : ByteArray), (⟨#[40, 102, 32, 49, 41]⟩ : ByteArray), (⟨#[35, 120]⟩ : ByteArray), (⟨#[65]⟩ : ByteArray), (⟨#[49, 97]⟩ : ByteArray), (⟨#[59]⟩ : ByteArray)], m.size ≤ 10) _ (rdOf_memT (d := ByteArray.empty) v0.1 (by simp; omega))
    obtain ⟨t, ht⟩ := drawOf_l0 l hl c (x ++ rdOf ByteArray.empty [(⟨#[40]⟩ : ByteArray), (⟨#[41]⟩ : ByteArray), (⟨#[39]⟩ : ByteArray), (⟨#[32]⟩ : ByteArray), (⟨#[10]⟩ : ByteArray), (⟨#[49, 50, 32]⟩ : ByteArray), (⟨#[45, 51]⟩ : ByteArray), (⟨#[32, 120]⟩ : ByteArray), (⟨#[99, 97, 114, 32]⟩ : ByteArray), (⟨#[35, 116]⟩ : ByteArray), (⟨#[59, 32, 97, 10]⟩ : ByteArray), (⟨#[40, 102, 32, 49, 41]⟩ : ByteArray), (⟨#[35, 120]⟩ : ByteArray), (⟨#[65]⟩ : ByteArray), (⟨#[49, 97]⟩ : ByteArray), (⟨#[59]⟩ : ByteArray)] v) (s + 1 + 1) (by omega) (by rw [ByteArray.size_append]; omega) (by omega) (by omega)
    refine ⟨t, Ev.step (fun k => spec_DrawTokensOf.l0.eq_2 _ _ _ _ k) (Ev.ifp (by omega) (Ev.bind0 rfl (Ev.bind0 ha (Ev.bind0 hv (Ev.ifp v0.1 (Ev.ifp (by simp; omega) (Ev.ifp (Nat.le_trans (Nat.add_le_add_left hz x.size) (by omega)) ?_)))))))⟩
    rw [show wrap64 (((c + 1 : Nat) : Int) - 1) = (c : Int) by rw [wrap_id (by omega) (by omega)]; omega]
    exact ht
theorem drawOf_ev (l : List Int) (hl : okB l) : ∃ t, Ev (fun k => spec_DrawTokensOf.f k l) t := by
  obtain ⟨v, hv, v0, v1, _⟩ := next_eq l hl 0 12 (by omega) (by omega) (by omega)
  have v2 := v1 (by omega)
  obtain ⟨c, rfl⟩ : ∃ c : Nat, (c : Int) = v := ⟨v.toNat, Int.toNat_of_nonneg v0⟩
  obtain ⟨t, ht⟩ := drawOf_l0 l hl c ⟨#[]⟩ (0 + 1) (by omega) (by show 0 + 10 * c ≤ _; omega) (by omega) (by omega)
  exact ⟨t, Ev.congr (fun k => spec_DrawTokensOf.f.eq_1 k _) (Ev.bind0 rfl (Ev.bind0 hv ht))⟩
end Go.Proofs.YteiokhfikbndbaaGreatDoor.A
