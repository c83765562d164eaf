/- Proved: the pure statement behind the law FnLists: whatever its arguments, the law's plain function answers true. Conditions: the arguments are well formed values of their types. -/
import Derived.Test.YthlgmdbfhkcghaaDoorConsLib
import Derived.Test.YthlgmdbfhkcghaaDoorListLib
import Derived.Test.YthlgmdbfhkcghaaDoorPairDrawLib
import Derived.Test.YthlgmdbfhkcghaaDoorL9
import Derived.Test.YthlgmdbfhkcghaaDoorL5
import Derived.Test.YthlgmdbfhkcghaaDoorL8
namespace Go.Proofs.YthlgmdbfhkcghaaDoor.Pure
open Go.RowKit Go.Proofs.YthlgmdbfhkcghaaDoor.L Go.Proofs.YthlgmdbfhkcghaaDoorW.PrintWords Go.Proofs.YthlgmdbfhkcghaaDoorW.PrintLast Go.Proofs.YthlgmdbfhkcghaaDoor.PL
set_option linter.unusedSimpArgs false

theorem runU_nones {ρ : Type} {B : Nat → Option ρ} {e : ρ} : ∀ d i, (∀ j, i ≤ j → j < i + d → B j = none) → runU B e d i = e
  | 0, _, _ => rfl
  | d + 1, i, h => by
    simp only [runU]
    rw [h i (by omega) (by omega)]
    exact runU_nones d (i + 1) (fun j h0 h1 => h j (by omega) (by omega))
theorem heapM_good {xs : List S70} (hl : xs.length ≤ 4000) (h : ∀ j (hj : j < xs.length), goodV j xs[j].f0 ∧ goodV j xs[j].f1) : heapM xs = 0 := by
  unfold heapM
  rw [if_neg (by omega)]
  refine runU_nones _ _ (fun j _ hj => ?_)
  have hj' : j < xs.length := by omega
  obtain ⟨⟨a, c⟩, ⟨b, d⟩⟩ := h j hj'
  unfold heapAt heapStep
  rw [dif_pos hj', if_pos a, if_pos b, if_neg (by rw [c]; decide), if_neg (by rw [d]; decide)]
theorem cons_heap {xs : List S70} {h t : S28} (hh : heapM xs = 0) (g0 : goodV xs.length h) (g1 : goodV xs.length t) (hl : xs.length < 4000) : heapM (xs ++ [⟨h, t⟩]) = 0 := by
  refine heapM_good (by simp; omega) (fun j hj => ?_)
  by_cases c : j < xs.length
  · rw [List.getElem_append_left c]; exact heap_good hh j c
  · have : j = xs.length := by simp at hj; omega
    subst this
    simpa using ⟨g0, g1⟩
theorem rd_app {xs : List S70} (p : S70) {q : Int} (h0 : 0 ≤ q) (h1 : q < xs.length) : rd_T70 (xs ++ [p]) q = rd_T70 xs q := by
  obtain ⟨j, rfl⟩ : ∃ j : Nat, (j : Int) = q := ⟨q.toNat, Int.toNat_of_nonneg h0⟩
  rw [rdQ_at (by simp; omega), rdQ_at (by omega), List.getElem_append_left (by omega)]
/-- A list with one more ahead of it. -/
theorem list_cons (xs : List S70) (p : S70) (h : S28) (hh : heapM xs = 0) : ∀ (d : Nat) (out : List S28) (v : S28), goodV xs.length v → out.length + d = 200 → (listM (xs ++ [p]) d (h :: out) v).1 = 2 ∨ ∃ L a b s, listM (xs ++ [p]) d (h :: out) v = (0, h :: L, a, b, s) ∧ listM xs (d + 1) out v = (0, L, a, b, s) ∧ L.length ≤ 200
  | 0, out, v, hg, ho => .inl rfl
  | d + 1, out, v, hg, ho => by
    by_cases c : v.f0 = 5
    · obtain ⟨q0, q1⟩ := goodV_pair hg c
      by_cases e : ((h :: out).length : Int) + 1 > 200
      · left
        simp only [listM]
        rw [if_pos c, if_pos e]
      · have e' : ¬ (out.length : Int) + 1 > 200 := by simp only [List.length_cons] at e; omega
        have r1 : listM (xs ++ [p]) (d + 1) (h :: out) v = listM (xs ++ [p]) d (h :: (out ++ [(rd_T70 xs v.f1).f0])) (rd_T70 xs v.f1).f1 := by
          conv => lhs; simp only [listM]
          rw [if_pos c, if_neg e, rd_app p q0 q1]
          rfl
        have r2 : listM xs (d + 1 + 1) out v = listM xs (d + 1) (out ++ [(rd_T70 xs v.f1).f0]) (rd_T70 xs v.f1).f1 := by
          conv => lhs; unfold listM
          rw [if_pos c, if_neg e']
        rw [r1, r2]
        exact list_cons xs p h hh d _ _ (tail_good hh hg c).2 (by simp; omega)
    · right
      refine ⟨out, v.f0, v.f1, v.f2, ?_, ?_, by omega⟩
      · simp only [listM]; rw [if_neg c]
      · conv => lhs; unfold listM
        rw [if_neg c]
theorem asked_ok {xs : List S70} {v : S28} (hh : heapM xs = 0) (hv : goodV xs.length v) : askedM xs v = 0 := by
  unfold askedM
  rw [if_pos hh, if_pos hv.1, if_neg (by rw [hv.2]; decide)]
theorem new_good (n : Nat) (hn : n ≤ 4000) : goodV ((n + 1 : Nat) : Int) ⟨5, (n : Int), ⟨#[]⟩⟩ := by
  constructor
  · show valueM 5 (n : Int) ⟨#[]⟩ = 0
    have h1 : formB 5 (n : Int) ⟨#[]⟩ = false := by simp [formB, inB, ByteArray.toList_eq]
    have h2 : rangeB 5 (n : Int) = false := by simp [rangeB, inB]; omega
    unfold valueM
    rw [h1, h2]
    simp
  · unfold beyB
    simp
    omega
theorem same_self (a b : Int) (s : ByteArray) : impl_SameValues.f a b s a b s = some true := by unfold impl_SameValues.f; simp
theorem rdW_at {xs : List S28} {i : Nat} (h : i < xs.length) : rd_T28 xs (i : Int) = xs[i] := by simp [rd_T28, h]
theorem lists_loop (h : S28) (c a1 b1 : Int) (s1 : ByteArray) (X : List S70) (z0 z1 : Int) (L : List S28) (a b : Int) (s : ByteArray) (hL : L.length ≤ 200)
    (hX : Ev (fun k => impl_HeapFault.f k X) 0) : ∀ (d i : Nat), i + d = L.length → Ev (fun k => laws_FnLists.l0 k (i : Int) h.f0 h.f1 h.f2 c X a1 b1 s1 z0 (h :: L) a b s z1 L a b s) true
  | 0, i, hd => by
    refine Ev.step (fun k => laws_FnLists.l0.eq_2 _ _ _ _ _ _ _ _ _ _ _ _ _ _ _ _ _ _ _ k) (Ev.ifn (by omega) (Ev.step (fun k => laws_FnLists.j7.eq_2 _ _ _ _ _ _ _ _ _ _ _ _ _ _ _ _ _ _ k) (Ev.ifp ?_ (Ev.ifp (by simp) ?_))))
    · rw [wrap_id (by omega) (by omega)]; simp
    · refine Ev.bind0 (same_self h.f0 h.f1 h.f2) (Ev.ifp rfl (Ev.bind0 (same_self a b s) (Ev.ifp rfl (Ev.bind hX ?_))))
      exact Ev.step (fun k => laws_FnLists.j8.eq_2 _ k) (Ev.now _)
  | d + 1, i, hd => by
    have hi : i < L.length := by omega
    have w : wrap64 ((i : Int) + 1) = ((i + 1 : Nat) : Int) := by rw [wrap_id (by omega) (by omega)]; omega
    refine Ev.step (fun k => laws_FnLists.l0.eq_2 _ _ _ _ _ _ _ _ _ _ _ _ _ _ _ _ _ _ _ k) (Ev.ifp (by omega) (Ev.step (fun k => laws_FnLists.j5.eq_2 _ _ _ _ _ _ _ _ _ _ _ _ _ _ _ _ _ _ _ k) ?_))
    rw [w, rdW_at (xs := h :: L) (i := i + 1) (by simp; omega), rdW_at hi, List.getElem_cons_succ]
    refine Ev.ifp (by omega) (Ev.ifp (by simp; omega) (Ev.ifp (by omega) (Ev.ifp (by omega) (Ev.bind0 (same_self _ _ _) (Ev.ifp rfl ?_)))))
    refine Ev.step (fun k => laws_FnLists.j6.eq_2 _ _ _ _ _ _ _ _ _ _ _ _ _ _ _ _ _ _ _ k) ?_
    rw [w]
    exact lists_loop h c a1 b1 s1 X z0 z1 L a b s hL hX d (i + 1) (by omega)
theorem FnLists : ∀ (l0 : List Int), (l0.length ≤ maxLen ∧ ∀ y ∈ l0, (Lit.int .u8 y).wf = true) → ∃ k, laws_FnLists.f k l0 = some true := by
  intro l0 h
  refine Ev.rounds (r := true) (Ev.congr (fun k => laws_FnLists.f.eq_1 k _) (Ev.bind0 rfl (Ev.iff (fun _ => Ev.now _) (fun c => ?_))))
  have hl : okB l0 := okB_of l0 (by have z := c; simp at z; omega) h.2
  obtain ⟨xs, hd, tl, hdraw, hx, hs, ht⟩ := drawCons_ev l0 hl
  have hi := implConsTo_ev xs hd tl hx hs ht
  have hsp := specConsTo_ev xs hd tl hx hs ht
  refine Ev.step (fun k => laws_FnLists.j0.eq_2 _ k) (Ev.bind hdraw (Ev.bind hi (Ev.iff (fun c0 => ?_) (fun _ => Ev.bind hsp (Ev.leaf (by simp))))))
  have ha : askL xs [hd, tl] = 0 := by
    by_cases z : askL xs [hd, tl] = 0
    · exact z
    · exfalso; unfold consM at c0; rw [if_neg z] at c0; exact z c0
  have hlt : ¬ 4000 ≤ xs.length := by
    intro z
    unfold consM at c0; rw [if_pos ha, if_pos z] at c0
    exact absurd c0 (by decide)
  have hM : consM xs hd tl = (0, xs ++ [⟨hd, tl⟩], 5, (xs.length : Int), ⟨#[]⟩) := by unfold consM; rw [if_pos ha, if_neg hlt]
  rw [hM]
  have h2 := askL_two xs hd tl
  rw [ha] at h2
  have a1 : askedM xs hd = 0 := by
    by_cases z : askedM xs hd = 0
    · exact z
    · rw [if_neg z] at h2; exact h2.symm
  rw [if_pos a1] at h2
  obtain ⟨hh, g0⟩ := asked_good a1
  obtain ⟨_, g1⟩ := asked_good h2.symm
  have hH := cons_heap hh g0 g1 (by omega)
  have hP : okP (xs ++ [⟨hd, tl⟩]) := by
    intro y hy
    rcases List.mem_append.mp hy with hm | hm
    · exact hx y hm
    · rw [List.mem_singleton] at hm; subst hm; exact ⟨hs, ht⟩
  have n1 := implListFrom_ev (xs ++ [⟨hd, tl⟩]) ⟨5, (xs.length : Int), ⟨#[]⟩⟩ hP (by show (⟨#[]⟩ : ByteArray).size ≤ _; decide)
  have n2 := implListFrom_ev xs tl hx ht
  have gN : goodV (xs ++ [(⟨hd, tl⟩ : S70)]).length ⟨5, (xs.length : Int), ⟨#[]⟩⟩ := by
    have := new_good xs.length (by omega)
    simpa using this
  have e1 : listFromM (xs ++ [⟨hd, tl⟩]) ⟨5, (xs.length : Int), ⟨#[]⟩⟩ = listM (xs ++ [⟨hd, tl⟩]) 200 [hd] tl := by
    unfold listFromM
    rw [if_pos (asked_ok hH gN)]
    have hr : rd_T70 (xs ++ [⟨hd, tl⟩]) (xs.length : Int) = ⟨hd, tl⟩ := by rw [rdQ_at (by simp)]; simp
    conv => lhs; unfold listM
    rw [if_pos rfl, if_neg (by simp)]
    show listM _ 200 ([] ++ [(rd_T70 (xs ++ [⟨hd, tl⟩]) (xs.length : Int)).f0]) (rd_T70 (xs ++ [⟨hd, tl⟩]) (xs.length : Int)).f1 = _
    rw [hr]
    rfl
  have e2 : listFromM xs tl = listM xs 201 [] tl := by unfold listFromM; rw [if_pos h2.symm]
  rw [e1] at n1
  rw [e2] at n2
  have hF := implHeap_ev _ hP
  rw [hH] at hF
  refine Ev.step (fun k => laws_FnLists.j1.eq_2 _ _ _ _ _ _ _ _ _ _ _ _ k) ?_
  rcases list_cons xs ⟨hd, tl⟩ hd hh 200 [] tl g1 rfl with r | ⟨L, a, b, s, r1, r2, hL⟩
  · refine Ev.bind n1 (Ev.bind n2 (Ev.ifn (by rw [r]; decide) ?_))
    refine Ev.step (fun k => laws_FnLists.j2.eq_2 _ _ _ _ _ _ _ _ _ _ _ _ _ _ _ _ _ _ _ k) (Ev.ifp rfl (Ev.leaf ?_))
    rw [r]; rfl
  · rw [r1] at n1
    rw [r2] at n2
    refine Ev.bind n1 (Ev.bind n2 (Ev.ifp rfl ?_))
    refine Ev.step (fun k => laws_FnLists.j2.eq_2 _ _ _ _ _ _ _ _ _ _ _ _ _ _ _ _ _ _ _ k) (Ev.ifn (by simp) (Ev.step (fun k => laws_FnLists.j3.eq_2 _ _ _ _ _ _ _ _ _ _ _ _ _ _ _ _ _ _ k) ?_))
    exact lists_loop hd 0 5 (xs.length : Int) ⟨#[]⟩ (xs ++ [⟨hd, tl⟩]) 0 0 L a b s hL hF L.length 0 (by omega)
end Go.Proofs.YthlgmdbfhkcghaaDoor.Pure
