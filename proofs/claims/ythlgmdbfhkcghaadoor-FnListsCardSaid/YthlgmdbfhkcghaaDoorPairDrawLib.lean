/- Proved: pairs and values that are drawn: what is known of them. Conditions: those in each head. -/
import Derived.Test.YthlgmdbfhkcghaaDoorHeapLib
import Derived.Test.YthlgmdbfhkcghaaDoorDrawLib
import Derived.Test.YthlgmdbfhkcghaaDoorL7
import Derived.Test.YthlgmdbfhkcghaaDoorL8
namespace Go.Proofs.YthlgmdbfhkcghaaDoor.L
open Go.RowKit Go.Proofs.YthlgmdbfhkcghaaDoorW.PrintWords Go.Proofs.YthlgmdbfhkcghaaDoorW.PrintLast Go.Proofs.YthlgmdbfhkcghaaDoor.PL
set_option linter.unusedSimpArgs false

theorem rdOf_memP {α : Type} {d : α} {xs : List α} {i : Int} (h0 : 0 ≤ i) (h1 : i < (xs.length : Int)) : rdOf d xs i ∈ xs := by
  unfold rdOf
  have hi : i.toNat < xs.length := by omega
  simp [List.getD, hi]
theorem l2NameP_eq (l : List Int) (hl : okB l) (s : Int) (h0 : 0 ≤ s) (h1 : s ≤ 900000000) : ∃ n, spec_l2Name.f l s = some (n, s + 1) ∧ n.size ≤ 12 := by
  obtain ⟨v, hv, v0, v1, _⟩ := next_eq l hl s 8 h0 (by omega) (by omega)
  have v2 := v1 (by omega)
  unfold spec_l2Name.f
  rw [Option.bind_some]
  rw [hv, Option.bind_some, if_pos v0, if_pos (by simp; omega)]
  refine ⟨_, rfl, ?_⟩
  have hm := rdOf_memP (d := ByteArray.empty) (xs := [(⟨#[120]⟩ : ByteArray), (⟨#[121]⟩ : ByteArray), (⟨#[102]⟩ : ByteArray), (⟨#[43]⟩ : ByteArray), (⟨#[99, 97, 114]⟩ : ByteArray), (⟨#[105, 102]⟩ : ByteArray), (⟨#[110, 117, 108, 108, 63]⟩ : ByteArray), (⟨#[97]⟩ : ByteArray)]) v0 (by simp; omega)
  exact (by decide +kernel : ∀ m ∈ [(⟨#[120]⟩ : ByteArray), (⟨#[121]⟩ : ByteArray), (⟨#[102]⟩ : ByteArray), (⟨#[43]⟩ : ByteArray), (⟨#[99, 97, 114]⟩ : ByteArray), (⟨#[105, 102]⟩ : ByteArray), (⟨#[110, 117, 108, 108, 63]⟩ : ByteArray), (⟨#[97]⟩ : ByteArray)], m.size ≤ 12) _ hm
theorem e12 : (⟨#[]⟩ : ByteArray).size ≤ 12 := by decide
/-- A value that is drawn. -/
theorem l5Draw_ev (l : List Int) (hl : okB l) (s m : Int) (h0 : 0 ≤ s) (h1 : s ≤ 800000000) (hm : m ≤ 1000000000) : ∃ a b n s', Ev (fun k => spec_l5Draw.f k l s m) (a, b, n, s') ∧ n.size ≤ 12 ∧ s ≤ s' ∧ s' ≤ s + 4 := by
  obtain ⟨v, hv, v0, v1, _⟩ := next_eq l hl s 7 h0 (by omega) (by omega)
  have tail : ∀ b : Bool, ∃ a c n s', Ev (fun k => spec_l5Draw.j0 k m v b l (s + 1)) (a, c, n, s') ∧ n.size ≤ 12 ∧ s ≤ s' ∧ s' ≤ s + 4 := by
    intro b
    obtain ⟨d, hd, _⟩ := draw_eq l hl (s + 1) (by omega) (by omega)
    by_cases hb : b = true
    · by_cases c : m > 0
      · obtain ⟨u, hu, _⟩ := next_eq l hl (s + 1) m (by omega) (by omega) (by omega)
        exact ⟨5, u, _, s + 1 + 1, Ev.step (fun k => spec_l5Draw.j0.eq_2 _ _ _ _ _ k) (Ev.ifp hb (Ev.ifp c (Ev.bind0 hu (Ev.now _)))), e12, by omega, by omega⟩
      · exact ⟨1, d, _, s + 1 + 3, Ev.step (fun k => spec_l5Draw.j0.eq_2 _ _ _ _ _ k) (Ev.ifp hb (Ev.ifn c (Ev.bind0 hd (Ev.now _)))), e12, by omega, by omega⟩
    · by_cases c : v = 5
      · obtain ⟨u, hu, _⟩ := pick_eq l hl (s + 1) [6, 7, 8] (by omega) (by omega) (by simp) (by simp)
        obtain ⟨w, hw, _⟩ := next_eq l hl (s + 1 + 1) 9 (by omega) (by omega) (by omega)
        exact ⟨u, w, _, s + 1 + 1 + 1, Ev.step (fun k => spec_l5Draw.j0.eq_2 _ _ _ _ _ k) (Ev.ifn hb (Ev.ifp c (Ev.bind0 hu (Ev.bind0 hw (Ev.now _))))), e12, by omega, by omega⟩
      · exact ⟨1, d, _, s + 1 + 3, Ev.step (fun k => spec_l5Draw.j0.eq_2 _ _ _ _ _ k) (Ev.ifn hb (Ev.ifn c (Ev.bind0 hd (Ev.now _)))), e12, by omega, by omega⟩
  by_cases c0 : v = 0
  · obtain ⟨u, hu, _⟩ := next_eq l hl (s + 1) 2 (by omega) (by omega) (by omega)
    exact ⟨2, u, _, s + 1 + 1, Ev.congr (fun k => spec_l5Draw.f.eq_1 k _ _ _) (Ev.bind0 hv (Ev.ifp c0 (Ev.bind0 hu (Ev.now _)))), e12, by omega, by omega⟩
  by_cases c1 : v = 1
  · exact ⟨3, 0, _, s + 1, Ev.congr (fun k => spec_l5Draw.f.eq_1 k _ _ _) (Ev.bind0 hv (Ev.ifn c0 (Ev.ifp c1 (Ev.now _)))), e12, by omega, by omega⟩
  by_cases c2 : v = 2
  · obtain ⟨n, hn, hz⟩ := l2NameP_eq l hl (s + 1) (by omega) (by omega)
    exact ⟨4, 0, n, s + 1 + 1, Ev.congr (fun k => spec_l5Draw.f.eq_1 k _ _ _) (Ev.bind0 hv (Ev.ifn c0 (Ev.ifn c1 (Ev.ifp c2 (Ev.bind0 hn (Ev.now _)))))), hz, by omega, by omega⟩
  by_cases c3 : v = 3
  · obtain ⟨a, b, n, s', he, r⟩ := tail (v == 3)
    exact ⟨a, b, n, s', Ev.congr (fun k => spec_l5Draw.f.eq_1 k _ _ _) (Ev.bind0 hv (Ev.ifn c0 (Ev.ifn c1 (Ev.ifn c2 (Ev.ifp c3 he))))), r⟩
  · obtain ⟨a, b, n, s', he, r⟩ := tail (v == 4)
    exact ⟨a, b, n, s', Ev.congr (fun k => spec_l5Draw.f.eq_1 k _ _ _) (Ev.bind0 hv (Ev.ifn c0 (Ev.ifn c1 (Ev.ifn c2 (Ev.ifn c3 he))))), r⟩
/-- Pairs with short names. -/
def smallP (xs : List S70) : Prop := ∀ x ∈ xs, x.f0.f2.size ≤ 12 ∧ x.f1.f2.size ≤ 12
theorem smallP_ok {xs : List S70} (h : smallP xs) : okP xs := fun x hx => by have := h x hx; unfold okS; omega
theorem smallP_add {xs : List S70} (h : smallP xs) (x : S70) (h0 : x.f0.f2.size ≤ 12) (h1 : x.f1.f2.size ≤ 12) : smallP (xs ++ [x]) := by
  intro y hy
  rcases List.mem_append.mp hy with hm | hm
  · exact h y hm
  · rw [List.mem_singleton] at hm; subst hm; exact ⟨h0, h1⟩
theorem rightP_loop (l : List Int) (hl : okB l) : ∀ (c : Nat) (xs : List S70) (s : Int), c ≤ 1000 → smallP xs → xs.length + c ≤ 1000 → 0 ≤ s → s + 8 * (c : Int) ≤ 100000 → ∃ ys s', Ev (fun k => spec_l5Right.l0 k xs (c : Int) l s) (ys, s') ∧ smallP ys ∧ ys.length ≤ xs.length + c ∧ s ≤ s' ∧ s' ≤ s + 8 * (c : Int) := by
  intro c
  induction c with
  | zero =>
    intro xs s _ hx _ h0 h1
    exact ⟨xs, s, Ev.step (fun k => spec_l5Right.l0.eq_2 _ _ _ _ k) (Ev.ifn (by omega) (Ev.now _)), hx, by omega, by omega, by omega⟩
  | succ c ih =>
    intro xs s hc hx hn h0 h1
    obtain ⟨a, b, n, s1, he, hz, e0, e1⟩ := l5Draw_ev l hl s (xs.length : Int) h0 (by omega) (by omega)
    obtain ⟨a', b', n', s2, he', hz', e0', e1'⟩ := l5Draw_ev l hl s1 (xs.length : Int) (by omega) (by omega) (by omega)
    obtain ⟨ys, s', hr, hy, hy1, f0, f1⟩ := ih (xs ++ [⟨⟨a, b, n⟩, ⟨a', b', n'⟩⟩]) s2 (by omega) (smallP_add hx _ hz hz') (by simp; omega) (by omega) (by omega)
    rw [List.length_append, List.length_singleton] at hy1
    refine ⟨ys, s', Ev.step (fun k => spec_l5Right.l0.eq_2 _ _ _ _ k) (Ev.ifp (by omega) (Ev.bind he (Ev.bind he' (Ev.ifp (by omega) ?_)))), hy, by omega, by omega, by omega⟩
    rw [show wrap64 (((c + 1 : Nat) : Int) - 1) = (c : Int) from by rw [wrap_id (by omega) (by omega)]; omega]
    exact hr
theorem bentValueP_ev (l : List Int) (hl : okB l) (s m : Int) (h0 : 0 ≤ s) (h1 : s ≤ 700000000) (hm : m ≤ 1000000000) : ∃ a b n s', Ev (fun k => spec_l5BentValue.f k l s m) (a, b, n, s') ∧ n.size ≤ 12 ∧ s ≤ s' ∧ s' ≤ s + 6 := by
  obtain ⟨a, b, n, s1, he, hz, e0, e1⟩ := l5Draw_ev l hl s m h0 (by omega) hm
  obtain ⟨v, hv, _⟩ := next_eq l hl s1 12 (by omega) (by omega) (by omega)
  by_cases c0 : v = 0
  · obtain ⟨u, hu, _⟩ := pick_eq l hl (s1 + 1) [0, 10, 5, 1] (by omega) (by omega) (by simp) (by simp)
    exact ⟨u, b, n, s1 + 1 + 1, Ev.congr (fun k => spec_l5BentValue.f.eq_1 k _ _ _) (Ev.bind he (Ev.bind0 hv (Ev.ifp c0 (Ev.bind0 hu (Ev.now _))))), hz, by omega, by omega⟩
  by_cases c1 : v = 1
  · obtain ⟨u, hu, _⟩ := pick_eq l hl (s1 + 1) [(-1), 2, 100000, 1000000001] (by omega) (by omega) (by simp) (by simp)
    exact ⟨a, u, n, s1 + 1 + 1, Ev.congr (fun k => spec_l5BentValue.f.eq_1 k _ _ _) (Ev.bind he (Ev.bind0 hv (Ev.ifn c0 (Ev.ifp c1 (Ev.bind0 hu (Ev.now _)))))), hz, by omega, by omega⟩
  by_cases c2 : v = 2
  · obtain ⟨u, hu, u0, u1, _⟩ := next_eq l hl (s1 + 1) 3 (by omega) (by omega) (by omega)
    have u2 := u1 (by omega)
    have hm := (by decide +kernel : ∀ m ∈ [(⟨#[]⟩ : ByteArray), (⟨#[65]⟩ : ByteArray), (⟨#[113]⟩ : ByteArray)], m.size ≤ 12) _ (rdOf_memP (d := ByteArray.empty) (xs := [(⟨#[]⟩ : ByteArray), (⟨#[65]⟩ : ByteArray), (⟨#[113]⟩ : ByteArray)]) u0 (by simp; omega))
    exact ⟨a, b, _, s1 + 1 + 1, Ev.congr (fun k => spec_l5BentValue.f.eq_1 k _ _ _) (Ev.bind he (Ev.bind0 hv (Ev.ifn c0 (Ev.ifn c1 (Ev.ifp c2 (Ev.bind0 rfl (Ev.bind0 hu (Ev.ifp u0 (Ev.ifp (by simp; omega) (Ev.now _)))))))))), hm, by omega, by omega⟩
  · exact ⟨a, b, n, s1 + 1, Ev.congr (fun k => spec_l5BentValue.f.eq_1 k _ _ _) (Ev.bind he (Ev.bind0 hv (Ev.ifn c0 (Ev.ifn c1 (Ev.ifn c2 (Ev.now _)))))), hz, by omega, by omega⟩
theorem bentP_ev (l : List Int) (hl : okB l) : ∃ ys s', Ev (fun k => spec_l5Bent.f k l 0) (ys, s') ∧ smallP ys ∧ ys.length ≤ 5000 ∧ 0 ≤ s' ∧ s' ≤ 200000 := by
  obtain ⟨n, hn, n0, n1, _⟩ := next_eq l hl 0 10 (by omega) (by omega) (by omega)
  have n2 := n1 (by omega)
  obtain ⟨c, rfl⟩ : ∃ c : Nat, (c : Int) = n := ⟨n.toNat, Int.toNat_of_nonneg n0⟩
  obtain ⟨xs, s, hr, hx, hy, f0, f1⟩ := rightP_loop l hl c [] (0 + 1) (by omega) (fun x hx => by cases hx) (by rw [List.length_nil]; omega) (by omega) (by omega)
  simp only [List.length_nil] at hy
  have hR : Ev (fun k => spec_l5Right.f k l 0) (xs, s) := Ev.congr (fun k => spec_l5Right.f.eq_1 k _ _) (Ev.bind0 hn hr)
  obtain ⟨v, hv, _⟩ := next_eq l hl s 14 (by omega) (by omega) (by omega)
  by_cases c0 : v = 0
  · obtain ⟨a, b, m, s1, he, hz, e0, e1⟩ := bentValueP_ev l hl (s + 1) 20 (by omega) (by omega) (by omega)
    obtain ⟨a', b', m', s2, he', hz', e0', e1'⟩ := bentValueP_ev l hl s1 3 (by omega) (by omega) (by omega)
    exact ⟨_, s2, Ev.congr (fun k => spec_l5Bent.f.eq_1 k _ _) (Ev.bind hR (Ev.bind0 hv (Ev.ifp c0 (Ev.bind he (Ev.bind he' (Ev.ifp (show xs.length < 2199023255552 by omega) (Ev.now _))))))), smallP_add hx _ hz hz', by simp; omega, by omega, by omega⟩
  by_cases c1 : v = 1
  · refine ⟨_, s + 1, Ev.congr (fun k => spec_l5Bent.f.eq_1 k _ _) (Ev.bind hR (Ev.bind0 hv (Ev.ifn c0 (Ev.ifp c1 (Ev.ifp (by omega) (Ev.now _)))))), fun x hx => ?_, by rw [List.length_replicate]; omega, by omega, by omega⟩
    obtain rfl := List.eq_of_mem_replicate hx
    exact ⟨e12, e12⟩
  · exact ⟨xs, s + 1, Ev.congr (fun k => spec_l5Bent.f.eq_1 k _ _) (Ev.bind hR (Ev.bind0 hv (Ev.ifn c0 (Ev.ifn c1 (Ev.now _))))), hx, by omega, by omega, by omega⟩
theorem drawCons_ev (l : List Int) (hl : okB l) : ∃ (xs : List S70) (h t : S28), Ev (fun k => spec_DrawConsTo.f k l) (xs, h.f0, h.f1, h.f2, t.f0, t.f1, t.f2) ∧ okP xs ∧ okS h.f2 ∧ okS t.f2 := by
  obtain ⟨xs, s, hr, hx, hy, f0, f1⟩ := bentP_ev l hl
  obtain ⟨a, b, m, s1, he, hz, e0, e1⟩ := bentValueP_ev l hl s (xs.length : Int) (by omega) (by omega) (by omega)
  obtain ⟨a', b', m', s2, he', hz', e0', e1'⟩ := bentValueP_ev l hl s1 (xs.length : Int) (by omega) (by omega) (by omega)
  exact ⟨xs, ⟨a, b, m⟩, ⟨a', b', m'⟩, Ev.congr (fun k => spec_DrawConsTo.f.eq_1 k _) (Ev.bind0 rfl (Ev.bind hr (Ev.bind he (Ev.bind he' (Ev.now _))))), smallP_ok hx, by show m.size ≤ _; omega, by show m'.size ≤ _; omega⟩
end Go.Proofs.YthlgmdbfhkcghaaDoor.L
