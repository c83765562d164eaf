/- Proved: what the laws' marks come to: each cell of a list is written with a count, and read back. Conditions: those in each head. -/
import Derived.Test.YteiokhfikbndbaaDoorPL
import Derived.Test.YteiokhfikbndbaaDoorR12
namespace Go.Proofs.YteiokhfikbndbaaDoor.R
open Go.RowKit Go.Proofs.YteiokhfikbndbaaDoorW.PrintWords Go.Proofs.YteiokhfikbndbaaDoorW.PrintLast Go.Proofs.YteiokhfikbndbaaDoor.PL
set_option linter.unusedSimpArgs false

theorem one_size (a : Int) : (strOfNums [a]).size = 1 := by simp [strOfNums, ByteArray.size]
theorem mt_loop : ∀ (d : Nat) (x : Int) (s : ByteArray), x ≤ d → 0 ≤ x → x + s.size ≤ 4611686018427387904 → ∃ t, Ev (fun k => laws_markText.l0 k x s) t
  | 0, x, s, h0, h1, h2 => ⟨_, Ev.step (fun k => laws_markText.l0.eq_2 _ _ k) (Ev.ifn (by omega) (Ev.ifp (by omega) (Ev.now _)))⟩
  | d + 1, x, s, h0, h1, h2 => by
    by_cases c : x > 0
    · have hq : Int.tdiv x 10 = x / 10 := Int.tdiv_eq_ediv_of_nonneg h1
      have hs := one_size ((wrap64 (48 + (Int.tmod x 10))) % 256)
      have hsz : (strOfNums [(wrap64 (48 + (Int.tmod x 10))) % 256] ++ s).size = 1 + s.size := by rw [ByteArray.size_append, hs]
      obtain ⟨t, ht⟩ := mt_loop d (x / 10) (strOfNums [(wrap64 (48 + (Int.tmod x 10))) % 256] ++ s) (by omega) (by omega) (by rw [hsz]; omega)
      refine ⟨t, Ev.step (fun k => laws_markText.l0.eq_2 _ _ k) (Ev.ifp c (Ev.bind0 rfl (Ev.ifp (by rw [hs]; omega) ?_)))⟩
      rw [hq, wrap_id (by omega) (by omega)]
      exact ht
    · exact ⟨_, Ev.step (fun k => laws_markText.l0.eq_2 _ _ k) (Ev.ifn c (Ev.ifp (by omega) (Ev.now _)))⟩
theorem markText_some (n : Int) (h : n ≤ 1152921504606846976) : ∃ t, Ev (fun k => laws_markText.f k n) t := by
  by_cases c : n ≤ 0
  · exact ⟨_, Ev.congr (fun k => laws_markText.f.eq_1 k _) (Ev.ifp c (Ev.now _))⟩
  · obtain ⟨t, ht⟩ := mt_loop n.toNat n ⟨#[]⟩ (by omega) (by omega) (by
      have : (⟨#[]⟩ : ByteArray).size = 0 := rfl
      rw [this]; omega)
    exact ⟨t, Ev.congr (fun k => laws_markText.f.eq_1 k _) (Ev.ifn c ht)⟩
open Classical in
/-- The text of a count. -/
noncomputable def mtxt (n : Int) : ByteArray := if h : ∃ t, Ev (fun k => laws_markText.f k n) t then Classical.choose h else ByteArray.empty
theorem mtxt_ev (n : Int) (h : n ≤ 1152921504606846976) : Ev (fun k => laws_markText.f k n) (mtxt n) := by
  have hs := markText_some n h
  unfold mtxt
  rw [dif_pos hs]
  exact Classical.choose_spec hs
/-- Marks, one behind the other. -/
def markL {α : Type} (F : Int → α) (m : Nat) : Nat → Int → List α
  | 0, _ => []
  | d + 1, c => F c :: markL F m d (c + m)
theorem markL_length {α : Type} (F : Int → α) (m : Nat) : ∀ d c, (markL F m d c).length = d
  | 0, _ => rfl
  | d + 1, c => by simp [markL, markL_length F m d]
theorem mark_ev {α : Type} (F : Int → α) (m : Nat) (l : Nat → List α → Int → Int → Option (Int × List α))
    (hs : ∀ (xs : List α) (c : Int) (i : Nat), i < xs.length → xs.length ≤ 1048576 → 0 ≤ c → c ≤ 1000000000000 → ∀ r, Ev (fun k => l k (xs.set i (F c)) (c + (m : Int)) ((i + 1 : Nat) : Int)) r → Ev (fun k => l k xs c (i : Int)) r)
    (he : ∀ (k : Nat) (xs : List α) (c : Int), l (k + 1) xs c (xs.length : Int) = some (c, xs)) : ∀ (d i : Nat) (xs : List α) (c : Int), i + d = xs.length → xs.length ≤ 1048576 → 0 ≤ c → c + (m : Int) * (d : Int) ≤ 1000000000000 → Ev (fun k => l k xs c (i : Int)) (c + (m : Int) * (d : Int), xs.take i ++ markL F m d c)
  | 0, i, xs, c, hd, hl, h0, h1 => by
    have e : i = xs.length := by omega
    subst e
    refine Ev.step (fun k => he k xs c) (Ev.leaf ?_)
    simp [markL]
  | d + 1, i, xs, c, hd, hl, h0, h1 => by
    have hi : i < xs.length := by omega
    have hm : (m : Int) * ((d + 1 : Nat) : Int) = m + m * (d : Int) := by rw [Int.natCast_add, Int.mul_add]; simp; omega
    have hmd : (0 : Int) ≤ (m : Int) * (d : Int) := Int.mul_nonneg (by omega) (by omega)
    refine hs xs c i hi hl h0 (by omega) _ (Ev.cast (mark_ev F m l hs he d (i + 1) (xs.set i (F c)) (c + m) (by rw [List.length_set]; omega) (by rw [List.length_set]; exact hl) (by omega) (by omega)) ?_)
    refine Prod.ext (by simp only; omega) ?_
    simp only [markL]
    rw [List.take_succ_eq_append_getElem (by rw [List.length_set]; omega), List.getElem_set_self, List.take_set_of_le (Nat.le_refl i), List.append_assoc]
    rfl
theorem held_ev {α : Type} (F : Int → α) (m : Nat) (l : Nat → List α → Int → Int → Option Int)
    (hs : ∀ (xs : List α) (c : Int) (i : Nat) (hi : i < xs.length), xs.length ≤ 1048576 → 0 ≤ c → c ≤ 1000000000000 → xs[i] = F c → ∀ r, Ev (fun k => l k xs (c + (m : Int)) ((i + 1 : Nat) : Int)) r → Ev (fun k => l k xs c (i : Int)) r)
    (he : ∀ (k : Nat) (xs : List α) (c : Int), l (k + 1) xs c (xs.length : Int) = some c) (xs : List α) : ∀ (d i : Nat) (c : Int), i + d = xs.length → xs.length ≤ 1048576 → 0 ≤ c → c + (m : Int) * (d : Int) ≤ 1000000000000 → xs.drop i = markL F m d c → Ev (fun k => l k xs c (i : Int)) (c + (m : Int) * (d : Int))
  | 0, i, c, hd, hl, h0, h1, hx => by
    have e : i = xs.length := by omega
    subst e
    refine Ev.step (fun k => he k xs c) (Ev.leaf (by simp))
  | d + 1, i, c, hd, hl, h0, h1, hx => by
    have hi : i < xs.length := by omega
    have hm : (m : Int) * ((d + 1 : Nat) : Int) = m + m * (d : Int) := by rw [Int.natCast_add, Int.mul_add]; simp; omega
    have hmd : (0 : Int) ≤ (m : Int) * (d : Int) := Int.mul_nonneg (by omega) (by omega)
    rw [List.drop_eq_getElem_cons hi] at hx
    simp only [markL, List.cons.injEq] at hx
    exact hs xs c i hi hl h0 (by omega) hx.1 _ (Ev.cast (held_ev F m l hs he xs d (i + 1) (c + m) (by omega) hl (by omega) (by omega) hx.2) (by omega))
end Go.Proofs.YteiokhfikbndbaaDoor.R
