/- Proved: what the program's and the reference's texts of data come to: the same. Conditions: those in each head. -/
import Derived.Test.YtgnenhehcdekkacDoorSubLib
import Derived.Test.YtgnenhehcdekkacDoorDigLib
import Derived.Lib.Join
import Derived.Test.YtgnenhehcdekkacDoorA7
import Derived.Test.YtgnenhehcdekkacDoorA4
namespace Go.Proofs.YtgnenhehcdekkacDoor.A
open Go.RowKit Go.Proofs.YtgnenhehcdekkacDoorW.PrintWords Go.Proofs.YtgnenhehcdekkacDoorW.PrintLast Go.Proofs.YtgnenhehcdekkacDoor.PL
set_option linter.unusedSimpArgs false

/-! ### Sums over places -/
def sumU (g : Nat → Nat) : Nat → Nat → Nat
  | 0, _ => 0
  | d + 1, i => g i + sumU g d (i + 1)
theorem sumU_le {g1 g2 g3 : Nat → Nat} {i w : Nat} (h : ∀ j, g1 j + g2 j ≤ g3 j + (if j = i then w else 0)) : ∀ d s, sumU g1 d s + sumU g2 d s ≤ sumU g3 d s + (if s ≤ i ∧ i < s + d then w else 0)
  | 0, s => by simp [sumU]
  | d + 1, s => by
    have ih := sumU_le h d (s + 1)
    have h0 := h s
    simp only [sumU]
    by_cases c : s = i
    · rw [if_pos c] at h0
      rw [if_neg (by omega)] at ih
      rw [if_pos (by omega)]
      omega
    · rw [if_neg c] at h0
      by_cases c2 : s + 1 ≤ i ∧ i < s + 1 + d
      · rw [if_pos c2] at ih
        rw [if_pos (by omega)]
        omega
      · rw [if_neg c2] at ih
        rw [if_neg (by omega)]
        omega
theorem sumU_at {g : Nat → Nat} {i : Nat} : ∀ d s, s ≤ i → i < s + d → g i ≤ sumU g d s
  | 0, s, h0, h1 => by omega
  | d + 1, s, h0, h1 => by
    simp only [sumU]
    by_cases c : s = i
    · subst c; omega
    · have := sumU_at (g := g) (i := i) d (s + 1) (by omega) (by omega)
      omega
theorem sumU_zero {g : Nat → Nat} : ∀ d s, (∀ j, s ≤ j → j < s + d → g j = 0) → sumU g d s = 0
  | 0, s, h => rfl
  | d + 1, s, h => by
    simp only [sumU]
    rw [h s (by omega) (by omega), sumU_zero d (s + 1) (fun j h0 h1 => h j (by omega) (by omega))]
theorem sumU_same {g1 g2 : Nat → Nat} : ∀ {d s : Nat}, (∀ j, s ≤ j → j < s + d → g1 j = g2 j) → sumU g1 d s = sumU g2 d s
  | 0, s, h => rfl
  | d + 1, s, h => by
    simp only [sumU]
    rw [h s (by omega) (by omega), sumU_same (fun j h0 h1 => h j (by omega) (by omega))]
theorem sumU_mono {g1 g2 : Nat → Nat} (h : ∀ j, g1 j ≤ g2 j) : ∀ d s, sumU g1 d s ≤ sumU g2 d s
  | 0, s => Nat.le_refl _
  | d + 1, s => by
    have := sumU_mono h d (s + 1)
    have := h s
    simp only [sumU]
    omega
/-- What the parts of a datum weigh together. -/
theorem parts_sum (xs : List S37) (a : Int) (g : Int → Nat) : ∀ d i, ((partsU xs a d i).map g).sum = sumU (fun j => if parD xs (j : Int) = a then g (j : Int) else 0) d i
  | 0, i => rfl
  | d + 1, i => by
    have ih := parts_sum xs a g d (i + 1)
    simp only [partsU, sumU, List.map_append, List.sum_append, ih]
    split <;> simp
theorem parts_mem (xs : List S37) (a : Int) : ∀ d i p, p ∈ partsU xs a d i → ∃ j : Nat, (j : Int) = p ∧ i ≤ j ∧ j < i + d ∧ parD xs p = a
  | 0, i, p, h => by simp [partsU] at h
  | d + 1, i, p, h => by
    simp only [partsU, List.mem_append] at h
    rcases h with h | h
    · split at h
      · rename_i c
        rw [List.mem_singleton] at h
        subst h
        exact ⟨i, rfl, by omega, by omega, c⟩
      · simp at h
    · obtain ⟨j, e, h0, h1, h2⟩ := parts_mem xs a d (i + 1) p h
      exact ⟨j, e, by omega, by omega, h2⟩
/-- How many data a datum is, so deep. -/
def wt (xs : List S37) : Nat → Int → Nat
  | 0, _ => 1
  | d + 1, a => 1 + ((partsM xs a).map (wt xs d)).sum
theorem wt_succ (xs : List S37) (d : Nat) (a : Int) : wt xs (d + 1) a = 1 + sumU (fun j => if parD xs (j : Int) = a then wt xs d (j : Int) else 0) xs.length 0 := by
  simp only [wt, partsM, parts_sum]
theorem wt_mono (xs : List S37) : ∀ d a, wt xs d a ≤ wt xs (d + 1) a
  | 0, a => by rw [wt_succ]; simp only [wt]; omega
  | d + 1, a => by
    rw [wt_succ, wt_succ]
    have := sumU_mono (g1 := fun j => if parD xs (j : Int) = a then wt xs d (j : Int) else 0) (g2 := fun j => if parD xs (j : Int) = a then wt xs (d + 1) (j : Int) else 0) (fun j => by
      have := wt_mono xs d (j : Int)
      show (if _ then _ else _) ≤ (if _ then _ else _)
      split <;> omega) xs.length 0
    omega
theorem wt_rec (xs : List S37) (d : Nat) (a : Int) : wt xs d a ≤ 1 + sumU (fun j => if parD xs (j : Int) = a then wt xs d (j : Int) else 0) xs.length 0 := by
  have h1 := wt_mono xs d a
  rw [wt_succ] at h1
  exact h1
/-- A datum is at most all that lies behind its place. -/
theorem wt_le (xs : List S37) (hA : Ahead xs xs.length) (d : Nat) : ∀ (m i : Nat), i + m = xs.length → sumU (fun j => if i ≤ j ∧ parD xs (j : Int) < (i : Int) then wt xs d (j : Int) else 0) xs.length 0 ≤ m
  | 0, i, h => by
    rw [sumU_zero _ _ (fun j h0 h1 => if_neg (by omega))]
    exact Nat.le_refl _
  | m + 1, i, h => by
    have ih := wt_le xs hA d m (i + 1) (by omega)
    have hr := wt_rec xs d (i : Int)
    have hs := sumU_le (g1 := fun j => if i ≤ j ∧ parD xs (j : Int) < (i : Int) then wt xs d (j : Int) else 0) (g2 := fun j => if parD xs (j : Int) = (i : Int) ∧ j < xs.length then wt xs d (j : Int) else 0) (g3 := fun j => if i + 1 ≤ j ∧ parD xs (j : Int) < ((i + 1 : Nat) : Int) then wt xs d (j : Int) else 0) (i := i) (w := wt xs d (i : Int)) (fun j => by
      show (if _ then _ else _) + (if _ then _ else _) ≤ (if _ then _ else _) + _
      by_cases c : j = i
      · subst c
        rw [if_pos rfl]
        have hi := hA j (by omega)
        rw [if_neg (show ¬ (parD xs (j : Int) = (j : Int) ∧ j < xs.length) by omega)]
        split <;> omega
      · rw [if_neg c]
        by_cases c2 : j < xs.length
        · have hj := hA j c2
          by_cases c3 : parD xs (j : Int) = (i : Int)
          · rw [if_neg (show ¬ (i ≤ j ∧ parD xs (j : Int) < (i : Int)) by omega), if_pos (show parD xs (j : Int) = (i : Int) ∧ j < xs.length from ⟨c3, c2⟩), if_pos (show i + 1 ≤ j ∧ parD xs (j : Int) < ((i + 1 : Nat) : Int) by omega)]
            omega
          · rw [if_neg (show ¬ (parD xs (j : Int) = (i : Int) ∧ j < xs.length) by omega)]
            by_cases c4 : i ≤ j ∧ parD xs (j : Int) < (i : Int)
            · rw [if_pos c4, if_pos (by omega)]
              omega
            · rw [if_neg c4]
              omega
        · rw [if_neg (show ¬ (parD xs (j : Int) = (i : Int) ∧ j < xs.length) by omega)]
          by_cases c4 : i ≤ j ∧ parD xs (j : Int) < (i : Int)
          · rw [if_pos c4, if_pos (by omega)]
            omega
          · rw [if_neg c4]
            omega) xs.length 0
    rw [if_pos (by omega)] at hs
    have he : sumU (fun j => if parD xs (j : Int) = (i : Int) then wt xs d (j : Int) else 0) xs.length 0 = sumU (fun j => if parD xs (j : Int) = (i : Int) ∧ j < xs.length then wt xs d (j : Int) else 0) xs.length 0 := sumU_same (fun j h0 h1 => by
      show (if _ then _ else _) = (if _ then _ else _)
      by_cases c : parD xs (j : Int) = (i : Int)
      · rw [if_pos c, if_pos ⟨c, by omega⟩]
      · rw [if_neg c, if_neg (fun z => c z.1)])
    omega
theorem wt_at (xs : List S37) (hA : Ahead xs xs.length) (d a : Nat) (ha : a < xs.length) : wt xs d (a : Int) ≤ xs.length - a := by
  have h := wt_le xs hA d (xs.length - a) a (by omega)
  have h2 := sumU_at (g := fun j => if a ≤ j ∧ parD xs (j : Int) < (a : Int) then wt xs d (j : Int) else 0) (i := a) xs.length 0 (by omega) (by omega)
  have h3 : (if a ≤ a ∧ parD xs (a : Int) < (a : Int) then wt xs d (a : Int) else 0) = wt xs d (a : Int) := if_pos ⟨Nat.le_refl _, hA a ha⟩
  have h4 : wt xs d (a : Int) ≤ sumU (fun j => if a ≤ j ∧ parD xs (j : Int) < (a : Int) then wt xs d (j : Int) else 0) xs.length 0 := by
    rw [← h3]
    exact h2
  omega

/-! ### Texts -/
def boolL (N : Int) : List UInt8 := if N = 1 then [35, 116] else [35, 102]
/-- The text of a datum, so deep. -/
def wr (xs : List S37) : Nat → Int → List UInt8
  | 0, _ => []
  | d + 1, a => if kindD xs a = 1 then Lib.itoa (rd_T37 xs a).f2 else if kindD xs a = 2 then boolL (rd_T37 xs a).f2 else if kindD xs a = 3 then (rd_T37 xs a).f3.data.toList else 40 :: (Lib.join ((partsM xs a).map (wr xs d)) [32] ++ [41])
/-- Each datum by itself has no fault. -/
def GoodD (xs : List S37) : Prop := ∀ j : Nat, j < xs.length → (kindD xs j = 1 → numB (rd_T37 xs j).f2 = true) ∧ (kindD xs j = 2 → 0 ≤ (rd_T37 xs j).f2 ∧ (rd_T37 xs j).f2 ≤ 1) ∧ (kindD xs j = 3 → (rd_T37 xs j).f3.size ≤ 12)
theorem data_good {xs : List S37} (h : dataM xs = 0) : GoodD xs := by
  intro j hj
  have hn := data_none h j hj
  unfold datAt at hn
  rw [dif_pos hj] at hn
  unfold datStep at hn
  have hk : kindM xs[j].f0 1 3 2 xs[j].f2 xs[j].f3 = 0 := by
    repeat' split at hn
    all_goals first | (cases hn; done) | assumption
  unfold kindD
  rw [rdDf_at hj]
  unfold kindM at hk
  refine ⟨fun c => ?_, fun c => ?_, fun c => ?_⟩
  · rw [if_pos c] at hk
    exact numM_0.mp hk
  · rw [if_neg (by omega), if_pos c] at hk
    split at hk
    · rename_i z
      exact inB_iff.mp z
    · omega
  · rw [if_neg (by omega), if_neg (by omega), if_pos c] at hk
    unfold symM at hk
    split at hk
    · rename_i z
      unfold symB at z
      rw [Bool.and_eq_true] at z
      have := inB_iff.mp z.2
      omega
    · omega
theorem itoa_len' {n : Int} (h : numB n = true) : (Lib.itoa n).length ≤ 12 := by
  have h2 := numB_iff.mp h
  have hl : ∀ (k u : Nat), u < 10 ^ (k + 1) → (Lib.decDigits u).length ≤ k + 1 := by
    intro k
    induction k with
    | zero => intro u hu; rw [Lib.decDigits, dif_pos (by omega)]; simp
    | succ k ih =>
      intro u hu
      rw [Lib.decDigits]
      by_cases c : u < 10
      · rw [dif_pos c]; simp
      · rw [dif_neg c]
        have := ih (u / 10) (by rw [Nat.pow_succ] at hu; omega)
        simp
        omega
  have h3 := hl 9 n.natAbs (by simp; omega)
  unfold Lib.itoa
  by_cases c : n < 0
  · rw [if_pos c]; simp; omega
  · rw [if_neg c, show n.toNat = n.natAbs from by omega]; omega
theorem join_len (l : List (List UInt8)) : (Lib.join l [32]).length ≤ (l.map (fun x => x.length + 1)).sum := by
  cases l with
  | nil => simp [Lib.join_nil]
  | cons x r =>
    rw [Lib.join_cons, List.length_append]
    have : ∀ r : List (List UInt8), (Lib.joinTail [32] r).length = (r.map (fun x => x.length + 1)).sum := by
      intro r
      induction r with
      | nil => rfl
      | cons y r ih =>
        simp only [Lib.joinTail, List.map_cons, List.flatten_cons, List.length_append, List.sum_cons] at ih ⊢
        rw [ih]
        simp
        omega
    rw [this]
    simp
theorem wr_len (xs : List S37) (hg : GoodD xs) : ∀ (d a : Nat), a < xs.length → (wr xs d (a : Int)).length + 1 ≤ 14 * wt xs d (a : Int)
  | 0, a, ha => by simp [wr, wt]
  | d + 1, a, ha => by
    obtain ⟨g1, g2, g3⟩ := hg a ha
    have hw : wt xs (d + 1) (a : Int) = 1 + ((partsM xs (a : Int)).map (wt xs d)).sum := rfl
    simp only [wr]
    by_cases c1 : kindD xs (a : Int) = 1
    · rw [if_pos c1]
      have := itoa_len' (g1 c1)
      omega
    rw [if_neg c1]
    by_cases c2 : kindD xs (a : Int) = 2
    · rw [if_pos c2]
      unfold boolL
      split <;> simp <;> omega
    rw [if_neg c2]
    by_cases c3 : kindD xs (a : Int) = 3
    · rw [if_pos c3]
      have := g3 c3
      rw [data_length]
      omega
    rw [if_neg c3]
    have hj := join_len ((partsM xs (a : Int)).map (wr xs d))
    have hs : ∀ l : List Int, (∀ p ∈ l, ∃ j : Nat, (j : Int) = p ∧ j < xs.length) → ((l.map (wr xs d)).map (fun x => x.length + 1)).sum ≤ 14 * (l.map (wt xs d)).sum := by
      intro l
      induction l with
      | nil => intro _; simp
      | cons p l ih =>
        intro hp
        have h1 := ih (fun q hq => hp q (List.mem_cons_of_mem _ hq))
        obtain ⟨j, e, hj⟩ := hp p (by simp)
        have h2 := wr_len xs hg d j hj
        rw [e] at h2
        simp only [List.map_cons, List.sum_cons]
        omega
    have h4 := hs (partsM xs (a : Int)) (fun p hp => by
      obtain ⟨j, e, h0, h1, _⟩ := parts_mem xs (a : Int) xs.length 0 p hp
      exact ⟨j, e, by omega⟩)
    simp only [List.length_cons, List.length_append, List.length_nil]
    omega
theorem ba_size (l : List UInt8) : (⟨l.toArray⟩ : ByteArray).size = l.length := by simp [ByteArray.size]
theorem ba_eta (s : ByteArray) : (⟨s.data.toList.toArray⟩ : ByteArray) = s := by simp
def txt (xs : List S37) (d : Nat) (p : Int) : ByteArray := ⟨(wr xs d p).toArray⟩
theorem txt_size (xs : List S37) (d : Nat) (p : Int) : (txt xs d p).size = (wr xs d p).length := ba_size _
theorem txt_lists (xs : List S37) (d : Nat) (l : List Int) : (l.map (txt xs d)).map (fun x : ByteArray => x.data.toList) = l.map (wr xs d) := by
  simp [txt]
/-- The program's loop over the parts. -/
theorem written_loop (xs : List S37) (d : Nat) (ps : List Int) (hp : ∀ p ∈ ps, Ev (fun k => impl_written.f k xs p) (txt xs d p)) (hl : ps.length ≤ 1048576) (hj : (Lib.join (ps.map (wr xs d)) [32]).length ≤ 1000000) : ∀ (m i : Nat) (acc : List ByteArray), i + m = ps.length → acc = (ps.take i).map (txt xs d) → Ev (fun k => impl_written.l0 k xs acc ps (ps.length : Int) (i : Int)) ⟨(40 :: (Lib.join (ps.map (wr xs d)) [32] ++ [41])).toArray⟩
  | 0, i, acc, h, ha => by
    have e : i = ps.length := by omega
    subst e
    rw [List.take_length] at ha
    have hs : acc.map (fun x : ByteArray => x.data.toList) = ps.map (wr xs d) := by rw [ha, txt_lists]
    have hJ : strings_Join.f acc (⟨#[32]⟩ : ByteArray) = some ⟨(Lib.join (ps.map (wr xs d)) [32]).toArray⟩ := by
      unfold strings_Join.f
      have hs' : acc.map (fun x => x.data.toList) = ps.map (wr xs d) := hs
      rw [hs', if_pos ⟨by rw [ha, List.length_map]; omega, by show (Lib.join _ [32]).length ≤ _; omega⟩]
    have e1 : (⟨#[40]⟩ : ByteArray) ++ ⟨(Lib.join (ps.map (wr xs d)) [32]).toArray⟩ = ⟨(40 :: Lib.join (ps.map (wr xs d)) [32]).toArray⟩ := ba_append [40] _
    have e2 : (⟨(40 :: Lib.join (ps.map (wr xs d)) [32]).toArray⟩ : ByteArray) ++ ⟨#[41]⟩ = ⟨(40 :: Lib.join (ps.map (wr xs d)) [32] ++ [41]).toArray⟩ := ba_append _ [41]
    refine Ev.step (fun k => impl_written.l0.eq_2 _ _ _ _ _ k) (Ev.ifn (by omega) (Ev.bind0 hJ (Ev.ifp (by rw [ba_size]; omega) ?_)))
    rw [e1]
    refine Ev.ifp (by rw [ba_size]; simp; omega) (Ev.leaf ?_)
    rw [e2]
    rfl
  | m + 1, i, acc, h, ha => by
    have hi : i < ps.length := by omega
    have hr : rd ps (i : Int) = ps[i] := by simp [rd, hi]
    refine Ev.step (fun k => impl_written.l0.eq_2 _ _ _ _ _ k) (Ev.ifp (by omega) (Ev.ifp (by omega) (Ev.ifp (by omega) ?_)))
    rw [hr]
    refine Ev.bind (hp _ (List.getElem_mem hi)) (Ev.ifp (by rw [ha, List.length_map, List.length_take]; omega) ?_)
    rw [wrap_succ hi (by omega)]
    refine written_loop xs d ps hp hl hj m (i + 1) _ (by omega) ?_
    rw [ha, List.take_succ_eq_append_getElem hi, List.map_append]
    rfl
/-- The reference's loop over the parts behind the first. -/
theorem write_tail (xs : List S37) (d : Nat) (ps : List Int) (hp : ∀ p ∈ ps, Ev (fun k => spec_l3Write.f k xs p) (txt xs d p)) (hl : ps.length ≤ 1048576) : ∀ (m i : Nat) (A : List UInt8), i + m = ps.length → 1 ≤ i → (A ++ Lib.joinTail [32] ((ps.drop i).map (wr xs d))).length ≤ 1000000 → Ev (fun k => spec_l3Write.l0 k xs ⟨A.toArray⟩ ps (i : Int)) ⟨(A ++ Lib.joinTail [32] ((ps.drop i).map (wr xs d)) ++ [41]).toArray⟩
  | 0, i, A, h, h1, hb => by
    have e : ps.drop i = [] := List.drop_eq_nil_of_le (by omega)
    rw [e] at hb ⊢
    have e0 : Lib.joinTail [32] (List.map (wr xs d) []) = [] := rfl
    rw [e0, List.append_nil] at hb ⊢
    exact Ev.step (fun k => spec_l3Write.l0.eq_2 _ _ _ _ k) (Ev.ifn (by omega) (Ev.ifp (by rw [ba_size]; omega) (Ev.leaf (ba_append A [41]))))
  | m + 1, i, A, h, h1, hb => by
    have hi : i < ps.length := by omega
    have hr : rd ps (i : Int) = ps[i] := by simp [rd, hi]
    rw [List.drop_eq_getElem_cons hi] at hb ⊢
    have e0 : Lib.joinTail [32] (List.map (wr xs d) (ps[i] :: ps.drop (i + 1))) = [32] ++ wr xs d ps[i] ++ Lib.joinTail [32] (List.map (wr xs d) (ps.drop (i + 1))) := rfl
    rw [e0] at hb ⊢
    have e1 : (⟨A.toArray⟩ : ByteArray) ++ ⟨#[32]⟩ = ⟨(A ++ [32]).toArray⟩ := ba_append A [32]
    have e2 : (⟨(A ++ [32]).toArray⟩ : ByteArray) ++ txt xs d ps[i] = ⟨(A ++ [32] ++ wr xs d ps[i]).toArray⟩ := ba_append _ _
    have e3 : A ++ ([32] ++ wr xs d ps[i] ++ Lib.joinTail [32] (List.map (wr xs d) (ps.drop (i + 1)))) = A ++ [32] ++ wr xs d ps[i] ++ Lib.joinTail [32] (List.map (wr xs d) (ps.drop (i + 1))) := by simp
    rw [e3] at hb ⊢
    have hb2 := hb
    simp only [List.length_append, List.length_cons, List.length_nil] at hb2
    refine Ev.step (fun k => spec_l3Write.l0.eq_2 _ _ _ _ k) (Ev.ifp (by omega) (Ev.ifp (by omega) (Ev.ifp (by rw [ba_size]; omega) (Ev.ifp (by omega) ?_))))
    rw [hr, e1]
    refine Ev.bind (hp _ (List.getElem_mem hi)) (Ev.ifp (by rw [txt_size, ba_size]; simp; omega) ?_)
    rw [e2, wrap_succ hi (by omega)]
    exact write_tail xs d ps hp hl m (i + 1) _ (by omega) (by omega) hb
theorem write_loop (xs : List S37) (d : Nat) (ps : List Int) (hp : ∀ p ∈ ps, Ev (fun k => spec_l3Write.f k xs p) (txt xs d p)) (hl : ps.length ≤ 1048576) (hj : (Lib.join (ps.map (wr xs d)) [32]).length ≤ 100000) : Ev (fun k => spec_l3Write.l0 k xs (⟨#[40]⟩ : ByteArray) ps 0) ⟨(40 :: (Lib.join (ps.map (wr xs d)) [32] ++ [41])).toArray⟩ := by
  cases ps with
  | nil => exact Ev.step (fun k => spec_l3Write.l0.eq_2 _ _ _ _ k) (Ev.ifn (by simp) (Ev.ifp (by decide) (Ev.leaf (ba_append [40] [41]))))
  | cons p r =>
    rw [List.map_cons, Lib.join_cons] at hj ⊢
    have hr : rd (p :: r) 0 = p := rfl
    have e1 : (⟨#[40]⟩ : ByteArray) ++ txt xs d p = ⟨([40] ++ wr xs d p).toArray⟩ := ba_append [40] _
    have hj2 := hj
    simp only [List.length_append] at hj2
    have ht := write_tail xs d (p :: r) hp hl r.length 1 ([40] ++ wr xs d p) (by rw [List.length_cons]; omega) (by omega) (by
      show ([40] ++ wr xs d p ++ Lib.joinTail [32] (r.map (wr xs d))).length ≤ 1000000
      simp only [List.length_append, List.length_cons, List.length_nil]
      omega)
    refine Ev.step (fun k => spec_l3Write.l0.eq_2 _ _ _ _ k) (Ev.ifp (by rw [List.length_cons]; omega) (Ev.ifn (by omega) (Ev.ifp (by omega) ?_)))
    rw [hr]
    refine Ev.bind (hp p (by simp)) (Ev.ifp (by rw [txt_size]; have : (⟨#[40]⟩ : ByteArray).size = 1 := rfl; omega) ?_)
    rw [e1, show wrap64 (0 + 1) = ((1 : Nat) : Int) from by rw [wrap_id (by omega) (by omega)]; rfl]
    refine Ev.cast ht ?_
    show _ = (⟨_⟩ : ByteArray)
    congr 2
theorem join_bound (xs : List S37) (hA : Ahead xs xs.length) (hg : GoodD xs) (d a : Nat) (ha : a < xs.length) (hn : xs.length ≤ 80) (h3 : ¬ (kindD xs (a : Int) = 1 ∨ kindD xs (a : Int) = 2 ∨ kindD xs (a : Int) = 3)) : (Lib.join ((partsM xs (a : Int)).map (wr xs d)) [32]).length ≤ 1120 := by
  have h1 := wr_len xs hg (d + 1) a ha
  have h2 := wt_at xs hA (d + 1) a ha
  simp only [wr] at h1
  rw [if_neg (fun z => h3 (.inl z)), if_neg (fun z => h3 (.inr (.inl z))), if_neg (fun z => h3 (.inr (.inr z)))] at h1
  simp only [List.length_cons, List.length_append, List.length_nil] at h1
  omega
theorem both_ev (xs : List S37) (hA : Ahead xs xs.length) (hg : GoodD xs) (hn : xs.length ≤ 80) : ∀ (d a : Nat), a < xs.length → xs.length - a ≤ d → Ev (fun k => impl_written.f k xs (a : Int)) (txt xs d (a : Int)) ∧ Ev (fun k => spec_l3Write.f k xs (a : Int)) (txt xs d (a : Int))
  | 0, a, ha, hd => by omega
  | d + 1, a, ha, hd => by
    obtain ⟨g1, g2, g3⟩ := hg a ha
    by_cases c1 : kindD xs (a : Int) = 1
    · have e : txt xs (d + 1) (a : Int) = dig (rd_T37 xs (a : Int)).f2 := by unfold txt; simp only [wr]; rw [if_pos c1]; rfl
      rw [e]
      exact ⟨Ev.step (fun k => impl_written.f.eq_2 _ _ k) (Ev.ifp (by omega) (Ev.ifp (by omega) (Ev.ifp c1 (Ev.bind0 (dec_eq (g1 c1)) (Ev.now _))))),
        Ev.step (fun k => spec_l3Write.f.eq_2 _ _ k) (Ev.ifp (by omega) (Ev.ifp (by omega) (Ev.ifp c1 (Ev.bind (digits_ev (g1 c1)) (Ev.now _)))))⟩
    by_cases c2 : kindD xs (a : Int) = 2
    · have e : txt xs (d + 1) (a : Int) = ⟨(boolL (rd_T37 xs (a : Int)).f2).toArray⟩ := by unfold txt; simp only [wr]; rw [if_neg c1, if_pos c2]
      rw [e]
      have hb := g2 c2
      generalize hN : (rd_T37 xs (a : Int)).f2 = N at hb
      refine ⟨Ev.step (fun k => impl_written.f.eq_2 _ _ k) (Ev.ifp (by omega) (Ev.ifp (by omega) (Ev.ifn c1 (Ev.ifp c2 (Ev.bind0 (a := ⟨(boolL N).toArray⟩) ?_ (Ev.now _)))))),
        Ev.step (fun k => spec_l3Write.f.eq_2 _ _ k) (Ev.ifp (by omega) (Ev.ifp (by omega) (Ev.ifn c1 (Ev.ifp c2 (Ev.bind0 rfl ?_)))))⟩
      · rw [hN]
        unfold impl_boolText.f boolL
        split <;> rfl
      · rw [hN]
        refine Ev.ifp hb.1 (Ev.ifp (by simp; omega) (Ev.leaf ?_))
        by_cases z : N = 1
        · subst z; rfl
        · obtain rfl : N = 0 := by omega
          rfl
    by_cases c3 : kindD xs (a : Int) = 3
    · have e : txt xs (d + 1) (a : Int) = (rd_T37 xs (a : Int)).f3 := by unfold txt; simp only [wr]; rw [if_neg c1, if_neg c2, if_pos c3, ba_eta]
      rw [e]
      exact ⟨Ev.step (fun k => impl_written.f.eq_2 _ _ k) (Ev.ifp (by omega) (Ev.ifp (by omega) (Ev.ifn c1 (Ev.ifn c2 (Ev.ifp c3 (Ev.now _)))))),
        Ev.step (fun k => spec_l3Write.f.eq_2 _ _ k) (Ev.ifp (by omega) (Ev.ifp (by omega) (Ev.ifn c1 (Ev.ifn c2 (Ev.ifp c3 (Ev.now _))))))⟩
    have e : txt xs (d + 1) (a : Int) = ⟨(40 :: (Lib.join ((partsM xs (a : Int)).map (wr xs d)) [32] ++ [41])).toArray⟩ := by unfold txt; simp only [wr]; rw [if_neg c1, if_neg c2, if_neg c3]
    rw [e]
    have hj := join_bound xs hA hg d a ha hn (by rintro (z | z | z) <;> contradiction)
    have hpl : (partsM xs (a : Int)).length ≤ 1048576 := by
      have := partsU_length xs (a : Int) xs.length 0
      unfold partsM
      omega
    have hp : ∀ p ∈ partsM xs (a : Int), Ev (fun k => impl_written.f k xs p) (txt xs d p) ∧ Ev (fun k => spec_l3Write.f k xs p) (txt xs d p) := by
      intro p hp
      obtain ⟨j, rfl, h0, h1, h2⟩ := parts_mem xs (a : Int) xs.length 0 p hp
      have hj := hA j (by omega)
      exact both_ev xs hA hg hn d j (by omega) (by omega)
    exact ⟨Ev.step (fun k => impl_written.f.eq_2 _ _ k) (Ev.ifp (by omega) (Ev.ifp (by omega) (Ev.ifn c1 (Ev.ifn c2 (Ev.ifn c3 (Ev.bind (implParts_ev xs (a : Int) (by omega)) (written_loop xs d _ (fun p z => (hp p z).1) hpl (by omega) (partsM xs (a : Int)).length 0 [] (by omega) rfl))))))),
      Ev.step (fun k => spec_l3Write.f.eq_2 _ _ k) (Ev.ifp (by omega) (Ev.ifp (by omega) (Ev.ifn c1 (Ev.ifn c2 (Ev.ifn c3 (Ev.bind (specParts_ev xs (a : Int) (by omega)) (write_loop xs d _ (fun p z => (hp p z).2) hpl (by omega))))))))⟩
end Go.Proofs.YtgnenhehcdekkacDoor.A
