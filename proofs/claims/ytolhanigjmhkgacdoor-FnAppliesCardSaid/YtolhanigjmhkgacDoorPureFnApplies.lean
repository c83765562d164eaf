/- Proved: the pure statement behind the law FnApplies: whatever its arguments, the law's plain function answers true. Conditions: the arguments are well formed values of their types. -/
import Derived.Test.YtolhanigjmhkgacDoorBaseLib
import Derived.Test.YtolhanigjmhkgacDoorA18
import Derived.Test.YtolhanigjmhkgacDoorA11
import Derived.Test.YtolhanigjmhkgacDoorA4
import Derived.Test.YtolhanigjmhkgacDoorA5
namespace Go.Proofs.YtolhanigjmhkgacDoor.Pure
open Go.RowKit Go.Proofs.YtolhanigjmhkgacDoor.A Go.Proofs.YtolhanigjmhkgacDoorW.PrintWords Go.Proofs.YtolhanigjmhkgacDoorW.PrintLast Go.Proofs.YtolhanigjmhkgacDoor.PL
set_option linter.unusedSimpArgs false

theorem runU_endA {ρ : Type} {B : Nat → Option ρ} {e : ρ} : ∀ d i, (∀ q, i ≤ q → q < i + d → B q = none) → runU B e d i = e
  | 0, i, _ => rfl
  | d + 1, i, h => by
    simp only [runU]
    rw [h i (Nat.le_refl i) (by omega)]
    exact runU_endA d (i + 1) (fun q h0 h1 => h q (by omega) (by omega))
/-- Pairs that hold good values have no fault. -/
theorem heap_of {xs : List S34} (hl : xs.length ≤ 4000) (h : ∀ j (hj : j < xs.length), goodV j xs[j].f0 ∧ goodV j xs[j].f1) : heapM xs = 0 := by
  unfold heapM
  rw [if_neg (by omega)]
  refine runU_endA _ _ (fun q _ hq => ?_)
  obtain ⟨a, b⟩ := h q (by omega)
  unfold heapAt heapStep
  rw [dif_pos (by omega), if_pos a.1, if_pos b.1, if_neg (by rw [a.2]; simp), if_neg (by rw [b.2]; simp)]
theorem heap_add {xs : List S34} (h : heapM xs = 0) (hl : xs.length < 4000) {u v : S29} (hu : goodV xs.length u) (hv : goodV xs.length v) : heapM (xs ++ [⟨u, v⟩]) = 0 := by
  refine heap_of (by simp; omega) (fun j hj => ?_)
  rw [List.length_append, List.length_singleton] at hj
  by_cases c : j < xs.length
  · rw [List.getElem_append_left c]
    exact heap_good h j c
  · obtain rfl : j = xs.length := by omega
    simp only [List.getElem_concat_length]
    exact ⟨hu, hv⟩
theorem val_pair (n : Int) (h0 : 0 ≤ n) (h1 : n ≤ 99999) : valueM 5 n ⟨#[]⟩ = 0 := by
  unfold valueM formB rangeB
  have e : inB n 0 99999 = true := inB_t h0 h1
  rw [e]
  simp [inB]
theorem val_num (n : Int) (h : numB n = true) : valueM 1 n ⟨#[]⟩ = 0 := by
  unfold valueM formB rangeB
  rw [h]
  simp [inB]
theorem val_bool (b : Bool) : valueM (boolM b).1 (boolM b).2.1 (boolM b).2.2 = 0 := by cases b <;> decide +kernel
theorem val_nil : valueM 3 0 ⟨#[]⟩ = 0 := by decide +kernel
theorem good_pair (n : Nat) (h : n ≤ 4000) : goodV ((n + 1 : Nat) : Int) (⟨5, (n : Int), ⟨#[]⟩⟩ : S29) := by
  refine ⟨val_pair n (by omega) (by omega), ?_⟩
  unfold beyB
  simp only [Bool.and_eq_false_iff]
  right
  exact decide_eq_false (by show ¬ (((n + 1 : Nat) : Int) ≤ (n : Int)); omega)
theorem good_plain {v : S29} (n : Int) (h : valM v = 0) (hk : v.f0 ≠ 5) : goodV n v := by
  refine ⟨h, ?_⟩
  unfold beyB
  rw [beq_eq_false_iff_ne.mpr hk]
  rfl
/-- What a heap has become: it has no fault, begins as it was, and holds the value. -/
def after (xs ys : List S34) (v : S29) : Prop := heapM ys = 0 ∧ (∃ e, ys = xs ++ e) ∧ goodV ys.length v ∧ (okP xs → okP ys) ∧ okS v.f2
theorem okS_nil : okS ⟨#[]⟩ := by unfold okS; decide
theorem put_good : ∀ (r : List S29) (K M : Int) (s : ByteArray) (xs : List S34), heapM xs = 0 → xs.length + r.length ≤ 4000 → (∀ v ∈ r, goodV xs.length v ∧ okS v.f2) → goodV xs.length (⟨K, M, s⟩ : S29) → okS s → after xs (putL r K M s xs).2.2.2 ⟨(putL r K M s xs).1, (putL r K M s xs).2.1, (putL r K M s xs).2.2.1⟩
  | [], K, M, s, xs, h, _, _, hg, hs => ⟨h, ⟨[], by simp [putL]⟩, hg, fun z => z, hs⟩
  | v :: r, K, M, s, xs, h, hl, hv, hg, hs => by
    simp only [List.length_cons] at hl
    have hv0 := hv v (by simp)
    have h1 := heap_add h (by omega) hv0.1 hg
    have hn : (xs ++ [(⟨v, ⟨K, M, s⟩⟩ : S34)]).length = xs.length + 1 := by simp
    obtain ⟨a, ⟨e, he⟩, b, c, d⟩ := put_good r 5 xs.length ⟨#[]⟩ (xs ++ [⟨v, ⟨K, M, s⟩⟩]) h1 (by omega) (fun u hu => ⟨goodV_mono (hv u (by simp [hu])).1 (by rw [hn]; omega), (hv u (by simp [hu])).2⟩) (by rw [hn]; exact good_pair xs.length (by omega)) okS_nil
    rw [putL]
    refine ⟨a, ⟨[⟨v, ⟨K, M, s⟩⟩] ++ e, by rw [he]; simp⟩, b, fun z => c (fun x hx => ?_), d⟩
    rcases List.mem_append.mp hx with hm | hm
    · exact z x hm
    · rw [List.mem_singleton] at hm
      subst hm
      exact ⟨hv0.2, hs⟩
theorem bool_out (b : Bool) : (boolM b).1 = 2 ∧ (boolM b).2.2 = ⟨#[]⟩ := by cases b <;> exact ⟨rfl, rfl⟩
theorem good_bool (n : Int) (b : Bool) : goodV n (⟨(boolM b).1, (boolM b).2.1, (boolM b).2.2⟩ : S29) ∧ okS (boolM b).2.2 := ⟨good_plain n (val_bool b) (by show (boolM b).1 ≠ 5; rw [(bool_out b).1]; decide), by rw [(bool_out b).2]; exact okS_nil⟩
theorem do_after {xs : List S34} {p : Int} {vs : List S29} (h : heapM xs = 0) (hp : 0 ≤ p ∧ p ≤ 14) (hv : ∀ v ∈ vs, goodV xs.length v ∧ okS v.f2) (ho : okP xs) (hz : (doM xs p vs).2.2.2.1 = 0) : after xs (doM xs p vs).2.2.2.2 ⟨(doM xs p vs).1, (doM xs p vs).2.1, (doM xs p vs).2.2.1⟩ := by
  have hl := heap_len h
  have same : ∀ v : S29, goodV xs.length v → okS v.f2 → after xs xs v := fun v hg hs => ⟨h, ⟨[], by simp⟩, hg, fun z => z, hs⟩
  unfold doM at hz ⊢
  by_cases a : (vs.length : Int) < (takes p).1 ∨ (takes p).2 < (vs.length : Int)
  · rw [if_pos a] at hz; exact absurd hz (by simp)
  rw [if_neg a] at hz ⊢
  obtain ⟨t2, t14, t1⟩ := takes_len (p := p) (n := vs.length) (by omega) (by omega)
  have mem : ∀ i : Nat, i < vs.length → goodV xs.length (rd_T29 vs (i : Int)) ∧ okS (rd_T29 vs (i : Int)).f2 := fun i hi => by rw [rdV_at hi]; exact hv _ (List.getElem_mem hi)
  have rdp : ∀ v : S29, goodV xs.length v → v.f0 = 5 → (goodV xs.length (rd_T34 xs v.f1).f0 ∧ okS (rd_T34 xs v.f1).f0.f2) ∧ (goodV xs.length (rd_T34 xs v.f1).f1 ∧ okS (rd_T34 xs v.f1).f1.f2) := fun v hg hk => by
    obtain ⟨g0, g1⟩ := goodV_pair hg hk
    obtain ⟨j, hj⟩ : ∃ j : Nat, (j : Int) = v.f1 := ⟨v.f1.toNat, Int.toNat_of_nonneg g0⟩
    have hj' : j < xs.length := by omega
    rw [← hj, rdQ_at hj']
    have q := heap_good h j hj'
    have o := ho _ (List.getElem_mem hj')
    exact ⟨⟨goodV_mono q.1 (by omega), o.1⟩, goodV_mono q.2 (by omega), o.2⟩
  unfold doR at hz ⊢
  by_cases c6 : p ≤ 6
  · rw [if_pos c6] at hz ⊢
    unfold countM at hz ⊢
    split at hz
    · rename_i c1
      rw [if_pos c1]
      split at hz
      · rename_i c2; rw [if_pos c2]
        obtain ⟨g, o⟩ := good_bool xs.length (decide ((rd_T29 vs 0).f1 < (rd_T29 vs 1).f1))
        exact same _ g o
      · rename_i c2; rw [if_neg c2]
        split at hz
        · rename_i c3; rw [if_pos c3]
          split at hz
          · rename_i c4; rw [if_pos c4]
            refine same _ (good_plain _ (val_num _ ?_) (by show (1 : Int) ≠ 5; decide)) okS_nil
            unfold calcM at c4 ⊢
            split at c4
            · rename_i d1; rw [if_pos d1]
              split at c4
              · rename_i d2; rw [if_pos d2]
                unfold ofA at c4 ⊢
                split at c4
                · rename_i d3; rw [if_pos d3]; exact d3
                · exact absurd c4 (by decide)
              · exact absurd c4 (by decide)
            · exact absurd c4 (by decide)
          · rename_i c4; exact absurd hz c4
        · rename_i c3; rw [if_neg c3]
          obtain ⟨g, o⟩ := good_bool xs.length ((rd_T29 vs 0).f1 == (rd_T29 vs 1).f1)
          exact same _ g o
    · exact absurd hz (by simp)
  rw [if_neg c6] at hz ⊢
  by_cases c14 : p = 14
  · rw [if_pos c14] at hz ⊢
    by_cases c4 : 4000 < xs.length + vs.length
    · rw [if_pos c4] at hz; exact absurd hz (by simp)
    rw [if_neg c4]
    exact put_good vs.reverse 3 0 ⟨#[]⟩ xs h (by simp; omega) (fun v hm => hv v (List.mem_reverse.mp hm)) (good_plain _ val_nil (by decide)) okS_nil
  rw [if_neg c14] at hz ⊢
  by_cases c7 : p = 7
  · rw [if_pos c7] at hz ⊢
    by_cases c4 : 4000 ≤ xs.length
    · rw [if_pos c4] at hz; exact absurd hz (by simp)
    rw [if_neg c4]
    have n2 := t2 (.inl (by omega))
    have m0 := mem 0 (by omega)
    have m1 := mem 1 (by omega)
    refine ⟨heap_add h (by omega) m0.1 m1.1, ⟨_, rfl⟩, ?_, fun z x hx => ?_, okS_nil⟩
    · show goodV (((xs ++ [_]).length : Nat) : Int) _
      rw [List.length_append, List.length_singleton]
      exact good_pair xs.length (by omega)
    · rcases List.mem_append.mp hx with hm | hm
      · exact z x hm
      · rw [List.mem_singleton] at hm
        subst hm
        exact ⟨m0.2, m1.2⟩
  rw [if_neg c7] at hz ⊢
  have n1 : 0 < vs.length := by
    by_cases q : p = 12
    · have := t2 (.inr q); omega
    · have := t1 (by omega) c14; omega
  have m0 := mem 0 n1
  by_cases c8 : p = 8
  · rw [if_pos c8] at hz ⊢
    by_cases c5 : (rd_T29 vs 0).f0 = 5
    · rw [if_pos c5]
      have q := rdp _ m0.1 c5
      exact same _ q.1.1 q.1.2
    · rw [if_neg c5] at hz; exact absurd hz (by simp)
  rw [if_neg c8] at hz ⊢
  by_cases c9 : p = 9
  · rw [if_pos c9] at hz ⊢
    by_cases c5 : (rd_T29 vs 0).f0 = 5
    · rw [if_pos c5]
      have q := rdp _ m0.1 c5
      exact same _ q.2.1 q.2.2
    · rw [if_neg c5] at hz; exact absurd hz (by simp)
  rw [if_neg c9]
  obtain ⟨g, o⟩ := good_bool xs.length (testB p vs)
  exact same _ g o
/-- A primitive of one value, applied to one that is right. -/
theorem apply_one {xs : List S34} {p : Int} {v : S29} (h : heapM xs = 0) (hg : goodV xs.length v) (hp : 8 ≤ p ∧ p ≤ 13 ∧ p ≠ 12) : applyM xs p [v] = fin (doR xs p [v]) := by
  have e : inM xs.length [v] = 0 := by
    unfold inM
    refine runU_endA _ _ (fun q _ hq => ?_)
    obtain rfl : q = 0 := by simp at hq; omega
    unfold inAt inStep
    rw [dif_pos (by simp)]
    simp only [List.getElem_cons_zero]
    rw [if_pos hg.1, if_neg (by rw [hg.2]; simp)]
  have t : takes p = (1, 1) := by unfold takes; rw [if_neg (by omega), if_neg (by omega)]
  unfold applyM
  rw [if_pos h, if_neg (by simp), if_pos e, if_pos (inB_t (by omega) (by omega)), if_neg (by omega)]
  unfold doM
  rw [t, if_neg (by simp)]
theorem drawArgs (l : List Int) (hl : okB l) (xs : List S34) (p : Int) (hx : xs.length ≤ 5000) (c : Nat) : ∀ (d i : Nat) (vs : List S29) (s : Int), i + d = c → c ≤ 3 → vs.length = i → (∀ v ∈ vs, v.f2.size ≤ 12) → 0 ≤ s → s ≤ 300000 + 10 * (i : Int) → ∃ p' ws, Ev (fun k => spec_DrawApplyPrim.l0 k xs p (c : Int) vs (i : Int) l s) (xs, p', ws) ∧ ∀ v ∈ ws, v.f2.size ≤ 12
  | 0, i, vs, s, hi, hc, hn, hv, h0, h1 => by
    obtain ⟨r, hr, _⟩ := next_eq l hl s 12 h0 (by omega) (by omega)
    obtain ⟨a, b, n, s2, he, hz, _, _⟩ := bentValueP_ev l hl (s + 1) 9 (by omega) (by omega) (by omega)
    obtain ⟨q, hq, _⟩ := pick_eq l hl (s + 1) [(-1), 16] (by omega) (by omega) (by simp) (by simp)
    by_cases c0 : r = 0
    · refine ⟨p, vs ++ [⟨a, b, n⟩], Ev.step (fun k => spec_DrawApplyPrim.l0.eq_2 _ _ _ _ _ _ _ k) (Ev.ifn (by omega) (Ev.bind0 hr (Ev.ifp c0 (Ev.bind he (Ev.ifp (by omega) (Ev.now _)))))), fun v hm => ?_⟩
      rcases List.mem_append.mp hm with hm | hm
      · exact hv v hm
      · rw [List.mem_singleton] at hm; subst hm; exact hz
    by_cases c1 : r = 1
    · refine ⟨p, List.replicate 4 z29, Ev.step (fun k => spec_DrawApplyPrim.l0.eq_2 _ _ _ _ _ _ _ k) (Ev.ifn (by omega) (Ev.bind0 hr (Ev.ifn c0 (Ev.ifp c1 (Ev.ifp (by omega) (Ev.now _)))))), fun v hm => ?_⟩
      rw [List.eq_of_mem_replicate hm]
      decide
    by_cases c2 : r = 2
    · exact ⟨q, vs, Ev.step (fun k => spec_DrawApplyPrim.l0.eq_2 _ _ _ _ _ _ _ k) (Ev.ifn (by omega) (Ev.bind0 hr (Ev.ifn c0 (Ev.ifn c1 (Ev.ifp c2 (Ev.bind0 hq (Ev.now _))))))), hv⟩
    · exact ⟨p, vs, Ev.step (fun k => spec_DrawApplyPrim.l0.eq_2 _ _ _ _ _ _ _ k) (Ev.ifn (by omega) (Ev.bind0 hr (Ev.ifn c0 (Ev.ifn c1 (Ev.ifn c2 (Ev.now _)))))), hv⟩
  | d + 1, i, vs, s, hi, hc, hn, hv, h0, h1 => by
    obtain ⟨a, b, n, s1, he, hz, e0, e1⟩ := l5Draw_ev l hl s (xs.length : Int) h0 (by omega) (by omega)
    obtain ⟨r, hr, _⟩ := next_eq l hl s1 6 (by omega) (by omega) (by omega)
    obtain ⟨u, hu, _⟩ := draw_eq l hl (s1 + 1) (by omega) (by omega)
    have hch : spec_l1Chance.f l s1 6 = some (r == 0, s1 + 1) := by
      unfold spec_l1Chance.f
      rw [hr, Option.bind_some]
    have more : ∀ (w : S29) (s' : Int), w.f2.size ≤ 12 → 0 ≤ s' → s' ≤ 300000 + 10 * ((i + 1 : Nat) : Int) → ∃ p' ws, Ev (fun k => spec_DrawApplyPrim.l0 k xs p (c : Int) (vs ++ [w]) (wrap64 ((i : Int) + 1)) l s') (xs, p', ws) ∧ ∀ v ∈ ws, v.f2.size ≤ 12 := fun w s' hw q0 q1 => by
      rw [wrap_id (by omega) (by omega), show (i : Int) + 1 = ((i + 1 : Nat) : Int) from by omega]
      refine drawArgs l hl xs p hx c d (i + 1) (vs ++ [w]) s' (by omega) hc (by simp; omega) (fun v hm => ?_) q0 q1
      rcases List.mem_append.mp hm with hm | hm
      · exact hv v hm
      · rw [List.mem_singleton] at hm; subst hm; exact hw
    by_cases c6 : p ≤ 6
    · by_cases cb : (r == 0) = true
      · obtain ⟨p', ws, hw, hs⟩ := more ⟨a, b, n⟩ (s1 + 1) hz (by omega) (by omega)
        exact ⟨p', ws, Ev.step (fun k => spec_DrawApplyPrim.l0.eq_2 _ _ _ _ _ _ _ k) (Ev.ifp (by omega) (Ev.bind he (Ev.ifp c6 (Ev.bind0 hch (Ev.ifp cb (Ev.ifp (by omega) hw)))))), hs⟩
      · obtain ⟨p', ws, hw, hs⟩ := more ⟨1, u, ⟨#[]⟩⟩ (s1 + 1 + 3) (by show (⟨#[]⟩ : ByteArray).size ≤ 12; decide) (by omega) (by omega)
        exact ⟨p', ws, Ev.step (fun k => spec_DrawApplyPrim.l0.eq_2 _ _ _ _ _ _ _ k) (Ev.ifp (by omega) (Ev.bind he (Ev.ifp c6 (Ev.bind0 hch (Ev.ifn cb (Ev.bind0 hu (Ev.ifp (by omega) hw))))))), hs⟩
    · obtain ⟨p', ws, hw, hs⟩ := more ⟨a, b, n⟩ s1 hz (by omega) (by omega)
      exact ⟨p', ws, Ev.step (fun k => spec_DrawApplyPrim.l0.eq_2 _ _ _ _ _ _ _ k) (Ev.ifp (by omega) (Ev.bind he (Ev.ifn c6 (Ev.ifp (by omega) hw)))), hs⟩
theorem takes_vals (p : Int) : takes p = (2, 2) ∨ takes p = (0, 3) ∨ takes p = (1, 1) := by
  unfold takes
  split
  · exact .inl rfl
  · split
    · exact .inr (.inl rfl)
    · exact .inr (.inr rfl)
theorem drawApply_ev (l : List Int) (hl : okB l) : ∃ xs p ws, Ev (fun k => spec_DrawApplyPrim.f k l) (xs, p, ws) ∧ okP xs ∧ ∀ v ∈ ws, v.f2.size ≤ 12 := by
  obtain ⟨xs, s1, h1, hx, hx1, f0, f1⟩ := bentP_ev l hl
  obtain ⟨p, hp, _⟩ := next_eq l hl s1 16 (by omega) (by omega) (by omega)
  have ht := l6Takes_ev p
  have go : ∀ (a b : Int), takes p = (a, b) → 0 ≤ a → a ≤ b → b ≤ 3 → ∃ xs' p' ws, Ev (fun k => spec_DrawApplyPrim.f k l) (xs', p', ws) ∧ okP xs' ∧ ∀ v ∈ ws, v.f2.size ≤ 12 := fun a b e a0 ab b3 => by
    rw [e] at ht
    obtain ⟨r, hr, r0, r1, _⟩ := next_eq l hl (s1 + 1) (b - a + 1) (by omega) (by omega) (by omega)
    have r2 := r1 (by omega)
    obtain ⟨c, hc⟩ : ∃ c : Nat, (c : Int) = a + r := ⟨(a + r).toNat, Int.toNat_of_nonneg (by omega)⟩
    obtain ⟨p', ws, hw, hs⟩ := drawArgs l hl xs p hx1 c c 0 [] (s1 + 1 + 1) (by omega) (by omega) rfl (fun v hv => by cases hv) (by omega) (by omega)
    refine ⟨xs, p', ws, Ev.congr (fun k => spec_DrawApplyPrim.f.eq_1 k _) (Ev.bind0 rfl (Ev.bind h1 (Ev.bind0 hp (Ev.bind ht ?_)))), smallP_ok hx, hs⟩
    rw [wrap_id (x := b - a) (by omega) (by omega), wrap_id (x := b - a + 1) (by omega) (by omega)]
    refine Ev.bind0 hr ?_
    rw [wrap_id (x := a + r) (by omega) (by omega), ← hc]
    exact hw
  rcases takes_vals p with e | e | e
  · exact go 2 2 e (by omega) (by omega) (by omega)
  · exact go 0 3 e (by omega) (by omega) (by omega)
  · exact go 1 1 e (by omega) (by omega) (by omega)
theorem prefix_rd (xs e : List S34) (i : Nat) (h : i < xs.length) : rd_T34 (xs ++ e) (i : Int) = rd_T34 xs (i : Int) := by
  rw [rdQ_at (xs := xs ++ e) (by simp; omega), rdQ_at h, List.getElem_append_left h]
/-- The law's loop over the pairs there were. -/
theorem were_loop (xs e : List S34) (p : Int) (vs : List S29) (c K M : Int) (s : ByteArray) (hl : (xs ++ e).length ≤ 1048576) (h7 : Ev (fun k => laws_FnApplies.j7 k p vs c (xs ++ e) K M s) true) : ∀ (d i : Nat), i + d = xs.length → Ev (fun k => laws_FnApplies.l0 k xs p vs (i : Int) c (xs ++ e) K M s) true
  | 0, i, h => Ev.step (fun k => laws_FnApplies.l0.eq_2 _ _ _ _ _ _ _ _ _ k) (Ev.ifn (by omega) h7)
  | d + 1, i, h => by
    have hi : i < xs.length := by omega
    have hn : xs.length ≤ (xs ++ e).length := by simp
    refine Ev.step (fun k => laws_FnApplies.l0.eq_2 _ _ _ _ _ _ _ _ _ k) (Ev.ifp (by omega) (Ev.step (fun k => laws_FnApplies.j5.eq_2 _ _ _ _ _ _ _ _ _ k) (Ev.ifp (by omega) (Ev.ifp (by omega) (Ev.ifp (by omega) (Ev.ifn ?_ (Ev.step (fun k => laws_FnApplies.j6.eq_2 _ _ _ _ _ _ _ _ _ k) ?_)))))))
    · rw [prefix_rd xs e i hi]
      simp
    · rw [wrap_succ hi (by omega)]
      exact were_loop xs e p vs c K M s hl h7 d (i + 1) (by omega)
theorem isTrue_eq (v : S29) : impl_IsTrue.f v.f0 v.f1 v.f2 = some (if v.f0 = 2 then v.f1 != 0 else true) := by
  unfold impl_IsTrue.f
  split <;> rfl
set_option maxHeartbeats 4000000 in
theorem FnApplies : ∀ (l0 : List Int), (l0.length ≤ maxLen ∧ ∀ y ∈ l0, (Lit.int .u8 y).wf = true) → ∃ k, laws_FnApplies.f k l0 = some true := by
  intro l0 h
  refine Ev.rounds (r := true) (Ev.congr (fun k => laws_FnApplies.f.eq_1 k _) (Ev.bind0 rfl (Ev.iff (fun _ => Ev.now _) (fun c => ?_))))
  have hl : okB l0 := okB_of l0 (by have z := c; simp at z; omega) h.2
  obtain ⟨xs, p, vs, hd, ho, hs⟩ := drawApply_ev l0 hl
  have hv : ∀ v ∈ vs, okS v.f2 := fun v hm => by have := hs v hm; unfold okS; omega
  have hi := implApply_ev xs p vs ho hv
  have hsp := specApply_ev xs p vs ho hv
  refine Ev.step (fun k => laws_FnApplies.j0.eq_2 _ k) (Ev.bind hd (Ev.bind hi (Ev.bind hsp (Ev.iff (fun z => ?_) (fun z => Ev.leaf (by simp))))))
  -- what must hold where there was no fault
  have ch : heapM xs = 0 := by
    by_cases y : heapM xs = 0
    · exact y
    · unfold applyM at z; rw [if_neg y] at z; exact absurd z y
  have hlx := heap_len ch
  have c3 : ¬ 3 < vs.length := fun y => by unfold applyM at z; rw [if_pos ch, if_pos y] at z; exact absurd z (by decide)
  have ci : inM xs.length vs = 0 := by
    by_cases y : inM xs.length vs = 0
    · exact y
    · unfold applyM at z; rw [if_pos ch, if_neg c3, if_neg y] at z; exact absurd z y
  have cp : inB p 0 15 = true := by
    by_cases y : inB p 0 15 = true
    · exact y
    · unfold applyM at z; rw [if_pos ch, if_neg c3, if_pos ci, if_neg y] at z; exact absurd z (by decide)
  have c15 : p ≠ 15 := fun y => by unfold applyM at z; rw [if_pos ch, if_neg c3, if_pos ci, if_pos cp, if_pos y] at z; exact absurd z (by decide)
  have e : applyM xs p vs = fin (doM xs p vs) := by unfold applyM; rw [if_pos ch, if_neg c3, if_pos ci, if_pos cp, if_neg c15]
  have hp := inB_iff.mp cp
  have cz : (doM xs p vs).2.2.2.1 = 0 := by
    by_cases y : (doM xs p vs).2.2.2.1 = 0
    · exact y
    · rw [e] at z; unfold fin at z; rw [if_neg y] at z; exact absurd z y
  have hgood := in_good ci
  obtain ⟨a1, ⟨ext, a2⟩, a3, a4, a5⟩ := do_after ch ⟨hp.1, by omega⟩ (fun v hm => ⟨hgood v hm, hv v hm⟩) ho cz
  have hcons : p = 7 → (doM xs p vs).2.2.2.2 = xs ++ [⟨rd_T29 vs 0, rd_T29 vs 1⟩] ∧ (doM xs p vs).1 = 5 ∧ (doM xs p vs).2.1 = (xs.length : Int) ∧ (vs.length : Int) = 2 := fun q => by
    unfold doM at cz ⊢
    by_cases a : (vs.length : Int) < (takes p).1 ∨ (takes p).2 < (vs.length : Int)
    · rw [if_pos a] at cz; exact absurd cz (by simp)
    rw [if_neg a] at cz ⊢
    have t2 := (takes_len (p := p) (n := vs.length) (by omega) (by omega)).1 (.inl (by omega))
    unfold doR at cz ⊢
    rw [if_neg (by omega), if_neg (by omega), if_pos q] at cz ⊢
    by_cases c4 : 4000 ≤ xs.length
    · rw [if_pos c4] at cz; exact absurd cz (by simp)
    · rw [if_neg c4]; exact ⟨rfl, rfl, rfl, t2⟩
  rw [e]
  unfold fin
  rw [if_pos cz]
  generalize doM xs p vs = R at a1 a2 a3 a4 a5 hcons cz
  obtain ⟨K, M, s, cc, ys⟩ := R
  simp only at a1 a2 a3 a4 a5 hcons cz ⊢
  subst cz
  have oy := a4 ho
  have ly := heap_len a1
  have hn : xs.length ≤ ys.length := by rw [a2]; simp
  refine Ev.step (fun k => laws_FnApplies.j1.eq_2 _ _ _ _ _ _ _ _ _ _ _ _ _ k) (Ev.ifn (by omega) (Ev.ifn (by simp) ?_))
  rw [bne_self_eq_false]
  refine Ev.step (fun k => laws_FnApplies.j2.eq_2 _ _ _ _ _ _ _ _ _ k) (Ev.ifn (by simp) (Ev.step (fun k => laws_FnApplies.j3.eq_2 _ _ _ _ _ _ _ _ k) ?_))
  have one : ∀ q : Int, Ev (fun k => impl_ApplyPrim.f k ys q [⟨K, M, s⟩]) (applyM ys q [⟨K, M, s⟩]) := fun q => implApply_ev ys q [⟨K, M, s⟩] oy (fun v hm => by rw [List.mem_singleton] at hm; subst hm; exact a5)
  have last : Ev (fun k => laws_FnApplies.j7 k p vs 0 ys K M s) true := by
    refine Ev.step (fun k => laws_FnApplies.j7.eq_2 _ _ _ _ _ _ _ k) (Ev.iff (fun q => ?_) (fun q => ?_))
    · obtain ⟨b1, b2, b3, b4⟩ := hcons q
      subst b2 b3
      have r8 : applyM ys 8 [⟨5, (xs.length : Int), s⟩] = (0, ys, (rd_T29 vs 0).f0, (rd_T29 vs 0).f1, (rd_T29 vs 0).f2) := by
        rw [apply_one a1 a3 (by omega)]
        unfold doR
        rw [if_neg (by omega), if_neg (by omega), if_neg (by omega), if_pos rfl]
        show fin (if (5 : Int) = 5 then ((rd_T34 ys (xs.length : Int)).f0.f0, (rd_T34 ys (xs.length : Int)).f0.f1, (rd_T34 ys (xs.length : Int)).f0.f2, 0, ys) else (0, 0, ⟨#[]⟩, 6, ys)) = _
        rw [if_pos rfl, b1, rdQ_at (by simp)]
        simp [fin]
      have r9 : applyM ys 9 [⟨5, (xs.length : Int), s⟩] = (0, ys, (rd_T29 vs 1).f0, (rd_T29 vs 1).f1, (rd_T29 vs 1).f2) := by
        rw [apply_one a1 a3 (by omega)]
        unfold doR
        rw [if_neg (by omega), if_neg (by omega), if_neg (by omega), if_neg (by omega), if_pos rfl]
        show fin (if (5 : Int) = 5 then ((rd_T34 ys (xs.length : Int)).f1.f0, (rd_T34 ys (xs.length : Int)).f1.f1, (rd_T34 ys (xs.length : Int)).f1.f2, 0, ys) else (0, 0, ⟨#[]⟩, 6, ys)) = _
        rw [if_pos rfl, b1, rdQ_at (by simp)]
        simp [fin]
      have o8 := one 8
      have o9 := one 9
      rw [r8] at o8
      rw [r9] at o9
      exact Ev.bind o8 (Ev.bind o9 (Ev.ifp (by omega) (Ev.ifp (by simp) (Ev.ifp (by omega) (Ev.ifp (by simp) (Ev.ifp rfl (Ev.step (fun k => laws_FnApplies.j8.eq_2 _ k) (Ev.leaf rfl))))))))
    · have r13 : applyM ys 13 [⟨K, M, s⟩] = (0, ys, (boolM (!(if K = 2 then M != 0 else true))).1, (boolM (!(if K = 2 then M != 0 else true))).2.1, (boolM (!(if K = 2 then M != 0 else true))).2.2) := by
        rw [apply_one a1 a3 (by omega)]
        unfold doR
        rw [if_neg (by omega), if_neg (by omega), if_neg (by omega), if_neg (by omega), if_neg (by omega)]
        rfl
      have o13 := one 13
      rw [r13] at o13
      refine Ev.step (fun k => laws_FnApplies.j9.eq_2 _ _ _ _ _ k) (Ev.bind o13 (Ev.bind (Ev.cast (implHeap_ev ys oy) a1) (Ev.ifp rfl (Ev.bind (Ev.cast (implValue_ev K M s a5) a3.1) (Ev.ifp rfl (Ev.ifp rfl (Ev.bind0 (isTrue_eq ⟨_, _, _⟩) (Ev.bind0 (isTrue_eq ⟨K, M, s⟩) (Ev.step (fun k => laws_FnApplies.j10.eq_2 _ k) (Ev.leaf ?_))))))))))
      simp only
      generalize (if K = 2 then M != 0 else true) = b
      cases b <;> rfl
  have w := were_loop xs ext p vs 0 K M s (by rw [← a2]; omega) (by rw [← a2]; exact last) xs.length 0 (by omega)
  rw [← a2] at w
  exact w
end Go.Proofs.YtolhanigjmhkgacDoor.Pure
