/- Proved: what the program's and the reference's texts of tokens come to: the same. Conditions: those in each head. -/
import Derived.Test.YthjfdohcdkpdnaaDoorTokLib
import Derived.Test.YthjfdohcdkpdnaaDoorJ3
import Derived.Test.YthjfdohcdkpdnaaDoorJ4
import Derived.Lib.Join
namespace Go.Proofs.YthjfdohcdkpdnaaDoor.J
open Go.RowKit Go.Proofs.YthjfdohcdkpdnaaDoorW.PrintWords Go.Proofs.YthjfdohcdkpdnaaDoorW.PrintLast Go.Proofs.YthjfdohcdkpdnaaDoor.PL
set_option linter.unusedSimpArgs false

theorem rdTk_at {xs : List S36} {i : Nat} (h : i < xs.length) : rd_T36 xs (i : Int) = xs[i] := by simp [rd_T36, h]
def tT (x : S36) : ByteArray := tokT x.f0 x.f1 x.f2
def tF (x : S36) : Int := tokM x.f0 x.f1 x.f2
theorem itoa_len {n : Int} (h : numB n = true) : (Lib.itoa n).length ≤ 1000000002 := by
  have h2 := numB_iff.mp h
  unfold Lib.itoa
  split
  · have := decDigits_len n.natAbs n.natAbs (Nat.le_refl _)
    simp only [List.length_cons]
    omega
  · have := decDigits_len n.toNat n.toNat (Nat.le_refl _)
    omega
theorem tT_len {x : S36} (h : tF x = 0) : (tT x).data.toList.length ≤ 1000000002 := by
  obtain ⟨hk, h4, h5, h6⟩ := tok_ok h
  unfold tT tokT
  split
  · simp
  · split
    · simp
    · split
      · simp
      · split
        · rename_i c
          exact itoa_len (h4 c)
        · split
          · unfold boolT; split <;> simp
          · have hs := h6 (by omega)
            unfold symB at hs
            simp only [Bool.and_eq_true] at hs
            have := inB_iff.mp hs.2
            rw [data_length]
            omega
/-- Texts with a blank between. -/
def jn (l : List ByteArray) : List UInt8 := Lib.join (l.map (·.data.toList)) [32]
theorem jn_snoc (l : List ByteArray) (x : ByteArray) : jn (l ++ [x]) = if l = [] then x.data.toList else jn l ++ [32] ++ x.data.toList := by
  unfold jn
  cases l with
  | nil => simp [Lib.join, List.intercalate]
  | cons a r =>
    rw [if_neg (by simp)]
    simp only [List.cons_append, List.map_cons, List.map_append, List.map_nil, Lib.join_cons, Lib.joinTail, List.flatten_append, List.append_assoc]
    simp
theorem jn_len (xs : List S36) : ∀ i, i ≤ xs.length → (∀ j (h : j < xs.length), j < i → tF xs[j] = 0) → (jn ((xs.take i).map tT)).length ≤ i * 1000000003
  | 0, _, _ => by simp [jn, Lib.join]
  | i + 1, h, hv => by
    have ih := jn_len xs i (by omega) (fun j hj hji => hv j hj (by omega))
    have hi : i < xs.length := by omega
    have hx := tT_len (hv i hi (by omega))
    rw [List.take_succ_eq_append_getElem hi, List.map_append, List.map_cons, List.map_nil, jn_snoc]
    split
    · omega
    · simp only [List.length_append, List.length_cons, List.length_nil]
      omega
def tokAt (xs : List S36) (i : Nat) : Option (Int × ByteArray) := if h : i < xs.length then (if tF xs[i] = 0 then none else some (tF xs[i], ⟨#[]⟩)) else none
/-- The text of tokens, or the first fault. -/
def toksM (xs : List S36) : Int × ByteArray := if (xs.length : Int) > 120 then (2, ⟨#[]⟩) else runU (tokAt xs) (0, ⟨(jn (xs.map tT)).toArray⟩) xs.length 0
def okT (xs : List S36) : Prop := ∀ x ∈ xs, x.f2.size ≤ 9223372036854775807
theorem implToks_loop (xs : List S36) (hx : okT xs) (hl : xs.length ≤ 120) : ∀ d i, i + d = xs.length → (∀ j (h : j < xs.length), j < i → tF xs[j] = 0) → Ev (fun k => impl_TokensText.l0 k ((xs.take i).map tT) xs (xs.length : Int) (i : Int)) (runU (tokAt xs) (0, ⟨(jn (xs.map tT)).toArray⟩) d i)
  | 0, i, hd, hv => by
    have e : i = xs.length := by omega
    subst e
    have hj := jn_len xs xs.length (Nat.le_refl _) hv
    rw [List.take_length] at hj ⊢
    refine Ev.step (fun k => impl_TokensText.l0.eq_2 _ _ _ _ k) (Ev.ifn (by omega) (Ev.bind0 (a := ⟨(jn (xs.map tT)).toArray⟩) ?_ (Ev.now _)))
    have h1 : (xs.map tT).length ≤ 140737488355328 := by rw [List.length_map]; omega
    have h2 : (jn (xs.map tT)).length ≤ 140737488355328 := by omega
    unfold strings_Join.f
    exact if_pos ⟨h1, h2⟩
  | d + 1, i, hd, hv => by
    have hi : i < xs.length := by omega
    refine Ev.step (fun k => impl_TokensText.l0.eq_2 _ _ _ _ k) (Ev.ifp (by omega) (Ev.ifp (by omega) (Ev.ifp (by omega) ?_)))
    rw [rdTk_at hi, wrap_succ hi (by omega)]
    refine Ev.bind (implTokenText_ev _ _ _ (hx _ (List.getElem_mem hi))) ?_
    simp only [runU, tokAt, dif_pos hi]
    by_cases c : tF xs[i] = 0
    · rw [if_pos c]
      have hr : tokR xs[i].f0 xs[i].f1 xs[i].f2 = (0, tT xs[i]) := by unfold tokR; rw [if_pos (show tokM xs[i].f0 xs[i].f1 xs[i].f2 = 0 from c)]; rfl
      rw [hr]
      refine Ev.ifp rfl (Ev.ifp (by rw [List.length_map, List.length_take]; omega) ?_)
      have ih := implToks_loop xs hx hl d (i + 1) (by omega) (fun j hj hji => by
        by_cases e : j = i
        · subst e; exact c
        · exact hv j hj (by omega))
      rw [List.take_succ_eq_append_getElem hi, List.map_append] at ih
      exact ih
    · rw [if_neg c]
      have hr : tokR xs[i].f0 xs[i].f1 xs[i].f2 = (tF xs[i], ⟨#[]⟩) := by unfold tokR; rw [if_neg (show ¬ tokM xs[i].f0 xs[i].f1 xs[i].f2 = 0 from c)]; rfl
      rw [hr]
      exact Ev.ifn c (Ev.now _)
theorem implTokens_ev (xs : List S36) (hx : okT xs) : Ev (fun k => impl_TokensText.f k xs) (toksM xs) := by
  refine Ev.congr (fun k => impl_TokensText.f.eq_1 k _) (Ev.iff (fun c => Ev.leaf (by unfold toksM; rw [if_pos c])) (fun c => ?_))
  unfold toksM
  rw [if_neg c]
  exact implToks_loop xs hx (by omega) xs.length 0 (by omega) (fun j _ hj => by omega)
theorem ba_size (l : List UInt8) : (⟨l.toArray⟩ : ByteArray).size = l.length := by simp [ByteArray.size]
theorem ba_data (b : ByteArray) : (⟨b.data.toList.toArray⟩ : ByteArray) = b := by simp
theorem specToks_loop (xs : List S36) (hx : okT xs) (hl : xs.length ≤ 120) : ∀ d i, i + d = xs.length → (∀ j (h : j < xs.length), j < i → tF xs[j] = 0) → Ev (fun k => spec_TokensText.l0 k xs ⟨(jn ((xs.take i).map tT)).toArray⟩ (i : Int)) (runU (tokAt xs) (0, ⟨(jn (xs.map tT)).toArray⟩) d i)
  | 0, i, hd, hv => by
    have e : i = xs.length := by omega
    subst e
    rw [List.take_length]
    exact Ev.step (fun k => spec_TokensText.l0.eq_2 _ _ _ k) (Ev.ifn (by omega) (Ev.now _))
  | d + 1, i, hd, hv => by
    have hi : i < xs.length := by omega
    have hj := jn_len xs i (by omega) hv
    refine Ev.step (fun k => spec_TokensText.l0.eq_2 _ _ _ k) (Ev.ifp (by omega) (Ev.ifp (by omega) ?_))
    rw [rdTk_at hi, wrap_succ hi (by omega)]
    refine Ev.bind (l2Fault_ev _ _ _ (hx _ (List.getElem_mem hi))) ?_
    simp only [runU, tokAt, dif_pos hi]
    by_cases c : tF xs[i] = 0
    · rw [if_pos c]
      have ht := tT_len c
      have hts : (tT xs[i]).size = (tT xs[i]).data.toList.length := (data_length _).symm
      have ih := specToks_loop xs hx hl d (i + 1) (by omega) (fun j hj hji => by
        by_cases e : j = i
        · subst e; exact c
        · exact hv j hj (by omega))
      rw [List.take_succ_eq_append_getElem hi, List.map_append, List.map_cons, List.map_nil, jn_snoc] at ih
      refine Ev.ifp c (Ev.iff (fun p => ?_) (fun p => ?_))
      · have hne : (xs.take i).map tT ≠ [] := by
          intro z
          have := congrArg List.length z
          rw [List.length_map, List.length_take, List.length_nil] at this
          omega
        rw [if_neg hne] at ih
        refine Ev.ifp (by rw [ba_size]; omega) (Ev.bind (l2Text_ev c) ?_)
        have e1 : (⟨(jn ((xs.take i).map tT)).toArray⟩ : ByteArray) ++ ⟨#[32]⟩ = ⟨(jn ((xs.take i).map tT) ++ [32]).toArray⟩ := ba_append _ [32]
        rw [e1]
        refine Ev.ifp (by rw [ba_size, List.length_append]; show (_ + 1) + (tT xs[i]).size ≤ _; omega) ?_
        have e2 : (⟨(jn ((xs.take i).map tT) ++ [32]).toArray⟩ : ByteArray) ++ tT xs[i] = ⟨(jn ((xs.take i).map tT) ++ [32] ++ (tT xs[i]).data.toList).toArray⟩ := by
          have z := ba_append (jn ((xs.take i).map tT) ++ [32]) (tT xs[i]).data.toList
          rw [ba_data] at z
          exact z
        rw [← e2] at ih
        exact ih
      · obtain rfl : i = 0 := by omega
        rw [List.take_zero, List.map_nil, if_pos rfl] at ih
        refine Ev.bind (l2Text_ev c) (Ev.ifp ?_ ?_)
        · show (0 : Nat) + (tT xs[0]).size ≤ _
          omega
        · have e3 : (⟨(jn ((xs.take 0).map tT)).toArray⟩ : ByteArray) ++ tT xs[0] = ⟨((tT xs[0]).data.toList).toArray⟩ := by
            rw [ba_data]
            simp [jn, Lib.join, ByteArray.ext_iff]
          rw [← e3] at ih
          exact ih
    · rw [if_neg c]
      exact Ev.ifn c (Ev.now _)
theorem specTokens_ev (xs : List S36) (hx : okT xs) : Ev (fun k => spec_TokensText.f k xs) (toksM xs) := by
  refine Ev.congr (fun k => spec_TokensText.f.eq_1 k _) (Ev.iff (fun c => Ev.leaf (by unfold toksM; rw [if_pos c])) (fun c => ?_))
  unfold toksM
  rw [if_neg c]
  exact specToks_loop xs hx (by omega) xs.length 0 (by omega) (fun j _ hj => by omega)
end Go.Proofs.YthjfdohcdkpdnaaDoor.J
