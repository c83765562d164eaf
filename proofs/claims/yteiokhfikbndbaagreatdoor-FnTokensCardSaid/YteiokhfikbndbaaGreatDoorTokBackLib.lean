/- Proved: tokens are read back from what is written of them. Conditions: those in each head. -/
import Derived.Test.YteiokhfikbndbaaGreatDoorLexBackLib
import Derived.Test.YteiokhfikbndbaaGreatDoorBaseLib
namespace Go.Proofs.YteiokhfikbndbaaGreatDoor.A
open Go.RowKit Go.Proofs.YteiokhfikbndbaaGreatDoorW.PrintWords Go.Proofs.YteiokhfikbndbaaGreatDoorW.PrintLast Go.Proofs.YteiokhfikbndbaaGreatDoor.PL
set_option linter.unusedSimpArgs false

theorem empty_of {s : ByteArray} (h : s.toList.isEmpty = true) : s = ⟨#[]⟩ := by
  apply bytes_eqP
  rw [List.isEmpty_iff] at h
  rw [h, toList_data]
/-- A token without fault has nothing that its kind has not. -/
theorem tok_bare {x : S37} (h : tF x = 0) : (x.f0 ≠ 4 → x.f0 ≠ 5 → x.f1 = 0) ∧ (x.f0 ≠ 6 → x.f2 = ⟨#[]⟩) := by
  unfold tF tokM at h
  by_cases c : tokBad x.f0 x.f1 x.f2 = true
  · rw [if_pos c] at h; omega
  · unfold tokBad at c
    simp only [Bool.not_eq_true, Bool.or_eq_false_iff, Bool.and_eq_false_iff] at c
    refine ⟨fun h4 h5 => ?_, fun h6 => ?_⟩
    · rcases c.1.2 with (h1 | h1) | h1
      · simpa using h1
      · exact absurd (by simpa using h1) h4
      · exact absurd (by simpa using h1) h5
    · rcases c.2 with h1 | h1
      · exact empty_of (by simpa using h1)
      · exact absurd (by simpa using h1) h6
theorem tok_eta {x : S37} {K N : Int} {s : ByteArray} (h0 : x.f0 = K) (h1 : x.f1 = N) (h2 : x.f2 = s) : (⟨K, N, s⟩ : S37) = x := by subst h0 h1 h2; rfl
/-- One token, and what follows. -/
theorem lexM_tok {s : ByteArray} {i f : Nat} {x : S37} {r : List UInt8} (out : List S37) (hx : tF x = 0) (h : s.data.toList.drop i = (tT x).data.toList ++ r) (hr : r = [] ∨ ∃ t, r = 32 :: t) (ho : out.length < 120) :
    ∃ e, lexM s (f + 1) out i = lexM s f (out ++ [x]) e ∧ s.data.toList.drop e = r ∧ i < e ∧ e ≤ s.size := by
  obtain ⟨hk, h4, h5, h6⟩ := tok_ok (show tokM x.f0 x.f1 x.f2 = 0 from hx)
  obtain ⟨b1, b2⟩ := tok_bare hx
  have hr' : r = [] ∨ ∃ c t, r = c :: t ∧ endC.contains c = true := by
    rcases hr with e | ⟨t, e⟩
    · exact .inl e
    · exact .inr ⟨32, t, e, by decide⟩
  have mark : ∀ (b : UInt8) (K : Int), (tT x).data.toList = [b] → mkT (b.toNat : Int) = K → K ≠ 0 → x.f0 = K → x.f0 ≠ 4 → x.f0 ≠ 5 → x.f0 ≠ 6 → ∃ e, lexM s (f + 1) out i = lexM s f (out ++ [x]) e ∧ s.data.toList.drop e = r ∧ i < e ∧ e ≤ s.size := by
    intro b K hT hK hK0 e0 n4 n5 n6
    rw [hT] at h
    obtain ⟨h1, h2⟩ := lexM_mark (f := f) out (b := b) (t := r) h (by rw [hK]; exact hK0) ho
    rw [hK, tok_eta e0 (b1 n4 n5) (b2 n6)] at h1
    have := (bt_drop (t := r) h).1
    exact ⟨i + 1, h1, h2, by omega, by omega⟩
  have word : ∀ (K N : Int) (n : ByteArray), (∃ b w, (tT x).data.toList = b :: w ∧ ∀ y ∈ b :: w, endC.contains y = false) → wordT (tT x) = (K, N, n, true) → x.f0 = K → x.f1 = N → x.f2 = n → ∃ e, lexM s (f + 1) out i = lexM s f (out ++ [x]) e ∧ s.data.toList.drop e = r ∧ i < e ∧ e ≤ s.size := by
    intro K N n hw hT e0 e1 e2
    obtain ⟨b, w, hl, hw⟩ := hw
    have hT2 : (⟨(b :: w).toArray⟩ : ByteArray) = tT x := by rw [← hl, ba_eta]
    rw [hl] at h
    have hz := lexM_word (f := f) out h hw hr' ho (by rw [hT2, hT])
    rw [hT2, hT] at hz
    simp only at hz
    rw [tok_eta e0 e1 e2] at hz
    exact ⟨_, hz.1, hz.2.1, by simp, hz.2.2⟩
  by_cases k1 : x.f0 = 1
  · exact mark 40 1 (by unfold tT tokT; rw [if_pos k1]) rfl (by decide) k1 (by omega) (by omega) (by omega)
  by_cases k2 : x.f0 = 2
  · exact mark 41 2 (by unfold tT tokT; rw [if_neg k1, if_pos k2]) rfl (by decide) k2 (by omega) (by omega) (by omega)
  by_cases k3 : x.f0 = 3
  · exact mark 39 3 (by unfold tT tokT; rw [if_neg k1, if_neg k2, if_pos k3]) rfl (by decide) k3 (by omega) (by omega) (by omega)
  by_cases k4 : x.f0 = 4
  · have e : tT x = dig x.f1 := by unfold tT tokT; rw [if_neg k1, if_neg k2, if_neg k3, if_pos k4]
    refine word 4 x.f1 ⟨#[]⟩ ?_ (by rw [e]; exact wordT_dig (h4 k4)) k4 rfl (b2 (by omega))
    rw [e, dig_list]
    cases hl : Lib.itoa x.f1 with
    | nil => exact absurd hl (itoa_ne _)
    | cons b w => exact ⟨b, w, rfl, fun y hy => itoa_endC y (by rw [hl]; exact hy)⟩
  by_cases k5 : x.f0 = 5
  · have e : tT x = boolT x.f1 := by unfold tT tokT; rw [if_neg k1, if_neg k2, if_neg k3, if_neg k4, if_pos k5]
    have hb := h5 k5
    refine word 5 x.f1 ⟨#[]⟩ ?_ (by rw [e]; exact wordT_bool hb.1 hb.2) k5 rfl (b2 (by omega))
    rw [e]
    unfold boolT
    split
    · exact ⟨35, [116], rfl, by decide⟩
    · exact ⟨35, [102], rfl, by decide⟩
  · have k6 : x.f0 = 6 := by omega
    have e : tT x = x.f2 := by unfold tT tokT; rw [if_neg k1, if_neg k2, if_neg k3, if_neg k4, if_neg k5]
    refine word 6 0 x.f2 ?_ (by rw [e]; exact wordT_sym (h6 k6)) k6 (b1 k4 k5) rfl
    rw [e]
    exact symB_word (h6 k6)
/-- All tokens, with a blank ahead of each but the first. -/
theorem lexM_toks {s : ByteArray} : ∀ (xs : List S37) (x : S37) (f i : Nat) (out : List S37), (∀ y ∈ x :: xs, tF y = 0) → s.data.toList.drop i = (tT x).data.toList ++ Lib.joinTail [32] (xs.map fun y => (tT y).data.toList) → out.length + (x :: xs).length ≤ 120 → s.size - i < f → i ≤ s.size → lexM s f out i = (0, 0, out ++ x :: xs)
  | [], x, 0, i, out, _, _, _, hf, _ => by omega
  | [], x, 1, i, out, hx, h, hl, hf, hi => by
    exfalso
    have hn : s.data.toList.drop i = [] := List.drop_of_length_le (by rw [data_length]; omega)
    obtain ⟨e, _, _, h1, h2⟩ := lexM_tok (f := 0) out (hx x (List.mem_cons_self ..)) h (.inl rfl) (by simp at hl; omega)
    omega
  | [], x, f + 2, i, out, hx, h, hl, hf, hi => by
    obtain ⟨e, h1, h2, h3, h4⟩ := lexM_tok (f := f + 1) out (hx x (List.mem_cons_self ..)) h (.inl rfl) (by simp at hl; omega)
    rw [h1, lexM_end _ h2 h4]
  | y :: ys, x, 0, i, out, _, _, _, hf, _ => by omega
  | y :: ys, x, f + 1, i, out, hx, h, hl, hf, hi => by
    have e : Lib.joinTail [32] ((y :: ys).map fun y => (tT y).data.toList) = 32 :: ((tT y).data.toList ++ Lib.joinTail [32] (ys.map fun y => (tT y).data.toList)) := by simp [Lib.joinTail]
    rw [e] at h
    obtain ⟨j, h1, h2, h3, h4⟩ := lexM_tok (f := f) out (hx x (List.mem_cons_self ..)) h (.inr ⟨_, rfl⟩) (by simp at hl; omega)
    obtain ⟨hj, hb, ht⟩ := bt_drop h2
    have hsk := skp_blank hj hb
    rw [h1, lexM_skp hsk, lexM_toks ys y f (j + 1) (out ++ [x]) (fun z hz => hx z (List.mem_cons_of_mem _ hz)) ht (by simp at hl ⊢; omega) (by omega) (by omega)]
    simp
theorem toksM_back {xs : List S37} {t : ByteArray} (h : toksM xs = (0, t)) (hs : t.size ≤ 400) : (∀ y ∈ xs, tF y = 0) ∧ toksOf t = (0, 0, xs) := by
  unfold toksM at h
  by_cases c : (xs.length : Int) > 120
  · rw [if_pos c] at h; exact absurd (congrArg Prod.fst h) (show ¬ (2 : Int) = 0 by decide)
  rw [if_neg c] at h
  have hall : ∀ i, i < xs.length → tokAt xs i = none := by
    have key : ∀ n i, i + n = xs.length → (runU (tokAt xs) (0, ⟨(jn (xs.map tT)).toArray⟩) n i).1 = 0 → ∀ j, i ≤ j → j < xs.length → tokAt xs j = none := by
      intro n
      induction n with
      | zero => intro i hi _ j h1 h2; omega
      | succ n ih =>
        intro i hi h0 j h1 h2
        simp only [runU] at h0
        cases hv : tokAt xs i with
        | none =>
          rw [hv] at h0
          by_cases e : j = i
          · subst e; exact hv
          · exact ih (i + 1) (by omega) h0 j (by omega) h2
        | some v =>
          rw [hv] at h0
          exfalso
          unfold tokAt at hv
          rw [dif_pos (show i < xs.length by omega)] at hv
          by_cases z : tF xs[i] = 0
          · rw [if_pos z] at hv; exact absurd hv (by simp)
          · rw [if_neg z] at hv
            have e := Option.some.inj hv
            rw [← e] at h0
            exact z h0
    exact fun i hi => key xs.length 0 (by omega) (by rw [h]) i (by omega) hi
  have hF : ∀ y ∈ xs, tF y = 0 := by
    intro y hy
    obtain ⟨i, hi, rfl⟩ := List.getElem_of_mem hy
    have := hall i hi
    unfold tokAt at this
    rw [dif_pos hi] at this
    by_cases z : tF xs[i] = 0
    · exact z
    · rw [if_neg z] at this; exact absurd this (by simp)
  refine ⟨hF, ?_⟩
  have ht : t = ⟨(jn (xs.map tT)).toArray⟩ := by
    have e := runU_congr (e := (0, ⟨(jn (xs.map tT)).toArray⟩)) (B := tokAt xs) (B' := fun _ => none) xs.length 0 (fun j _ hj => hall j (by omega))
    have e2 : ∀ d i, runU (fun _ => (none : Option (Int × ByteArray))) (0, ⟨(jn (xs.map tT)).toArray⟩) d i = (0, ⟨(jn (xs.map tT)).toArray⟩) := by
      intro d
      induction d with
      | zero => intro i; rfl
      | succ d ih => intro i; exact ih (i + 1)
    rw [e, e2] at h
    exact (Prod.mk.inj h).2.symm
  have hd : t.data.toList = jn (xs.map tT) := by rw [ht]
  unfold toksOf
  rw [if_neg (by omega)]
  cases xs with
  | nil =>
    have hn : t.data.toList.drop 0 = [] := by rw [hd]; simp [jn, Lib.join]
    rw [lexM_end _ hn (by omega)]
  | cons x xs =>
    have hj : t.data.toList.drop 0 = (tT x).data.toList ++ Lib.joinTail [32] (xs.map fun y => (tT y).data.toList) := by
      rw [List.drop_zero, hd]
      unfold jn
      rw [List.map_cons, List.map_cons, Lib.join_cons, List.map_map]
      rfl
    rw [lexM_toks xs x (t.size + 1) 0 [] hF hj (by simp at c ⊢; omega) (by omega) (by omega)]
    rfl
end Go.Proofs.YteiokhfikbndbaaGreatDoor.A
