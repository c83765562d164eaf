/- Proved: words are read back from a text in which they stand. Conditions: those in each head. -/
import Derived.Test.YteiokhfikbndbaaGreatDoorLexLib
namespace Go.Proofs.YteiokhfikbndbaaGreatDoor.A
open Go.RowKit Go.Proofs.YteiokhfikbndbaaGreatDoorW.PrintWords Go.Proofs.YteiokhfikbndbaaGreatDoorW.PrintLast Go.Proofs.YteiokhfikbndbaaGreatDoor.PL
set_option linter.unusedSimpArgs false

theorem bt_drop {s : ByteArray} {i : Nat} {b : UInt8} {t : List UInt8} (h : s.data.toList.drop i = b :: t) : i < s.size ∧ bt s (i : Int) = (b.toNat : Int) ∧ s.data.toList.drop (i + 1) = t := by
  have hi : i < s.data.toList.length := by
    have := congrArg List.length h
    rw [List.length_drop, List.length_cons] at this
    omega
  have hb := bt_data s i (by rw [← data_length]; exact hi)
  rw [List.drop_eq_getElem_cons hi] at h
  obtain ⟨h1, h2⟩ := List.cons.inj h
  exact ⟨by rw [← data_length]; exact hi, by rw [hb, h1], h2⟩
theorem skp_self {s : ByteArray} {i : Nat} (h : i < s.size) (h59 : bt s (i : Int) ≠ 59) (h32 : bt s (i : Int) ≠ 32) (h10 : bt s (i : Int) ≠ 10) : skp s i = i := by
  unfold skp
  obtain ⟨d, hd⟩ : ∃ d, s.size - i = d + 1 := ⟨s.size - i - 1, by omega⟩
  rw [hd]
  simp only [sk, Bool.false_eq_true, if_false]
  rw [if_neg h59, if_neg h32, if_neg h10]
theorem skp_blank {s : ByteArray} {i : Nat} (h : i < s.size) (h32 : bt s (i : Int) = 32) : skp s i = skp s (i + 1) := by
  unfold skp
  obtain ⟨d, hd⟩ : ∃ d, s.size - i = d + 1 := ⟨s.size - i - 1, by omega⟩
  rw [hd, show s.size - (i + 1) = d by omega]
  simp only [sk, Bool.false_eq_true, if_false]
  rw [if_neg (by omega), if_pos h32]
theorem skp_end {s : ByteArray} {i : Nat} (h : s.data.toList.drop i = []) (hi : i ≤ s.size) : i = s.size ∧ skp s i = i := by
  have := congrArg List.length h
  rw [List.length_drop, List.length_nil, data_length] at this
  have e : i = s.size := by omega
  refine ⟨e, ?_⟩
  unfold skp
  rw [show s.size - i = 0 by omega]
  rfl
theorem lexM_skp {s : ByteArray} {i j : Nat} (h : skp s i = skp s j) : ∀ f (out : List S37), lexM s f out i = lexM s f out j
  | 0, _ => rfl
  | f + 1, out => by simp only [lexM, h]
theorem lexM_end {s : ByteArray} {i f : Nat} (out : List S37) (h : s.data.toList.drop i = []) (hi : i ≤ s.size) : lexM s (f + 1) out i = (0, 0, out) := by
  obtain ⟨e, h2⟩ := skp_end h hi
  simp only [lexM]
  rw [if_neg (by omega)]
/-- A byte that is a token by itself. -/
theorem lexM_mark {s : ByteArray} {i f : Nat} {b : UInt8} {t : List UInt8} (out : List S37) (h : s.data.toList.drop i = b :: t) (hm : mkT (b.toNat : Int) ≠ 0) (ho : out.length < 120) : lexM s (f + 1) out i = lexM s f (out ++ [⟨mkT (b.toNat : Int), 0, ⟨#[]⟩⟩]) (i + 1) ∧ s.data.toList.drop (i + 1) = t := by
  obtain ⟨hi, hb, ht⟩ := bt_drop h
  have n59 : bt s (i : Int) ≠ 59 := fun e => by rw [← hb, e] at hm; exact hm (by decide)
  have n32 : bt s (i : Int) ≠ 32 := fun e => by rw [← hb, e] at hm; exact hm (by decide)
  have n10 : bt s (i : Int) ≠ 10 := fun e => by rw [← hb, e] at hm; exact hm (by decide)
  refine ⟨?_, ht⟩
  simp only [lexM]
  rw [skp_self hi n59 n32 n10, if_pos hi, hb, if_neg hm, if_neg (by omega)]
theorem endC_facts {b : UInt8} (h : endC.contains b = false) : (b.toNat : Int) ≠ 59 ∧ (b.toNat : Int) ≠ 32 ∧ (b.toNat : Int) ≠ 10 ∧ mkT (b.toNat : Int) = 0 := by
  rw [← endB_byte] at h
  unfold endB at h
  simp only [Bool.or_eq_false_iff, beq_eq_false_iff_ne, bne_eq_false_iff_eq] at h
  exact ⟨h.1.2, h.1.1.1, h.1.1.2, h.2⟩
theorem take_word {s : ByteArray} {i : Nat} {w r : List UInt8} (h : s.data.toList.drop i = w ++ r) : s.extract i (i + w.length) = ⟨w.toArray⟩ := by
  have e : (s.extract i (i + w.length)).data.toList = w := by
    have e1 : (s.extract i (i + w.length)).data.toList = (s.data.toList.drop i).take (i + w.length - i) := by simp
    rw [e1, h, show i + w.length - i = w.length by omega, List.take_left]
  rw [← ba_eta (s.extract i (i + w.length)), e]
theorem takeWhile_word {p : UInt8 → Bool} : ∀ (w r : List UInt8), (∀ b ∈ w, p b = true) → (r = [] ∨ ∃ c t, r = c :: t ∧ p c = false) → (w ++ r).takeWhile p = w
  | [], r, _, hr => by
    rcases hr with rfl | ⟨c, t, rfl, hc⟩
    · rfl
    · rw [List.nil_append, List.takeWhile_cons, if_neg (by rw [hc]; decide)]
  | b :: w, r, hw, hr => by
    rw [List.cons_append, List.takeWhile_cons, if_pos (hw b (List.mem_cons_self ..)), takeWhile_word w r (fun x hx => hw x (List.mem_cons_of_mem _ hx)) hr]
/-- A word: bytes none of which ends a word, and behind them nothing, or what ends a word. -/
theorem lexM_word {s : ByteArray} {i f : Nat} {b : UInt8} {w r : List UInt8} (out : List S37) (h : s.data.toList.drop i = (b :: w) ++ r) (hw : ∀ x ∈ b :: w, endC.contains x = false) (hr : r = [] ∨ ∃ c t, r = c :: t ∧ endC.contains c = true) (ho : out.length < 120)
    (hok : (wordT ⟨(b :: w).toArray⟩).2.2.2 = true) :
    lexM s (f + 1) out i = lexM s f (out ++ [⟨(wordT ⟨(b :: w).toArray⟩).1, (wordT ⟨(b :: w).toArray⟩).2.1, (wordT ⟨(b :: w).toArray⟩).2.2.1⟩]) (i + (b :: w).length) ∧ s.data.toList.drop (i + (b :: w).length) = r ∧ i + (b :: w).length ≤ s.size := by
  obtain ⟨hi, hb, _⟩ := bt_drop (t := w ++ r) h
  obtain ⟨n59, n32, n10, hm⟩ := endC_facts (hw b (List.mem_cons_self ..))
  have hd : s.data.toList.drop (i + (b :: w).length) = r := by rw [← List.drop_drop, h, List.drop_left]
  have hsz : i + (b :: w).length ≤ s.size := by
    have := congrArg List.length h
    rw [List.length_drop, List.length_append, data_length] at this
    have h2 : 0 < (b :: w).length := by simp
    omega
  have he : en s (s.size - i) i = i + (b :: w).length := by
    rw [en_tw s _ i (by omega), h, takeWhile_word (b :: w) r (fun x hx => by rw [hw x hx]; rfl)]
    rcases hr with e | ⟨c, t, e, hc⟩
    · exact .inl e
    · exact .inr ⟨c, t, e, by rw [hc]; rfl⟩
  refine ⟨?_, hd, hsz⟩
  simp only [lexM]
  rw [skp_self hi (by rw [hb]; exact n59) (by rw [hb]; exact n32) (by rw [hb]; exact n10), if_pos hi, hb, if_pos hm, he, take_word h, if_pos hok, if_neg (by omega)]
/-! ### Which words give which tokens -/
theorem symC_endC : ∀ b ∈ symC, endC.contains b = false := by decide
theorem itoa_bytes {n : Int} : ∀ b ∈ Lib.itoa n, b = 45 ∨ (48 ≤ b.toNat ∧ b.toNat ≤ 57) := by
  intro b hb
  unfold Lib.itoa at hb
  split at hb
  · rcases List.mem_cons.mp hb with h | h
    · exact .inl h
    · exact .inr (digits_byte _ _ (Nat.le_refl _) b h)
  · exact .inr (digits_byte _ _ (Nat.le_refl _) b hb)
theorem digit_endC : ∀ n : Fin 256, (n.val = 45 ∨ (48 ≤ n.val ∧ n.val ≤ 57)) → endC.contains (UInt8.ofNat n.val) = false := by decide +kernel
theorem itoa_endC {n : Int} : ∀ b ∈ Lib.itoa n, endC.contains b = false := by
  intro b hb
  have h := digit_endC ⟨b.toNat, b.toNat_lt⟩
  rw [UInt8.ofNat_toNat] at h
  refine h ?_
  rcases itoa_bytes b hb with h1 | h1
  · exact .inl (by rw [h1]; rfl)
  · exact .inr h1
theorem itoa_ne (n : Int) : Lib.itoa n ≠ [] := by
  unfold Lib.itoa
  split
  · simp
  · exact digits_ne _
theorem wordT_dig {n : Int} (hn : numB n = true) : wordT (dig n) = (4, n, ⟨#[]⟩, true) := by
  have hd : isDig (dig n) := ⟨n, hn, rfl⟩
  unfold wordT
  rw [dif_pos hd]
  obtain ⟨c1, c2⟩ := Classical.choose_spec hd
  rw [dig_inj c1 hn c2.symm]
theorem toList_data (s : ByteArray) : s.toList = s.data.toList := ByteArray.toList_eq ..
theorem wordT_bool {n : Int} (h0 : 0 ≤ n) (h1 : n ≤ 1) : wordT (if n = 1 then ⟨#[35, 116]⟩ else ⟨#[35, 102]⟩) = (5, n, ⟨#[]⟩, true) := by
  rcases (show n = 0 ∨ n = 1 by omega) with rfl | rfl
  · have e : (if (0 : Int) = 1 then (⟨#[35, 116]⟩ : ByteArray) else ⟨#[35, 102]⟩) = ⟨#[35, 102]⟩ := rfl
    have l : (⟨#[35, 102]⟩ : ByteArray).toList = [35, 102] := by rw [toList_data]
    rw [e]
    unfold wordT
    rw [dif_neg (not_dig l), if_neg (by rw [l]; decide), if_pos l]
  · have e : (if (1 : Int) = 1 then (⟨#[35, 116]⟩ : ByteArray) else ⟨#[35, 102]⟩) = ⟨#[35, 116]⟩ := rfl
    have l : (⟨#[35, 116]⟩ : ByteArray).toList = [35, 116] := by rw [toList_data]
    rw [e]
    unfold wordT
    rw [dif_neg (not_dig l), if_pos l]
theorem symC_digit : ∀ n : Fin 256, (48 ≤ n.val ∧ n.val ≤ 57) → symC.contains (UInt8.ofNat n.val) = false := by decide +kernel
theorem symB_all {w : ByteArray} (h : symB w = true) : (∀ b ∈ w.data.toList, symC.contains b = true) ∧ 1 ≤ w.size ∧ w.size ≤ 12 := by
  unfold symB at h
  rw [Bool.and_eq_true] at h
  have h2 := inB_iff.mp h.2
  exact ⟨List.all_eq_true.mp h.1, by omega, by omega⟩
theorem symB_not_dig {w : ByteArray} (h : symB w = true) : ¬ isDig w := by
  rintro ⟨n, hn, e⟩
  obtain ⟨h1, _, _⟩ := symB_all h
  have hd : ∃ b ∈ Lib.itoa n, 48 ≤ b.toNat ∧ b.toNat ≤ 57 := by
    unfold Lib.itoa
    split
    · cases hl : Lib.decDigits n.natAbs with
      | nil => exact absurd hl (digits_ne _)
      | cons b r => exact ⟨b, by simp, digits_byte n.natAbs _ (Nat.le_refl _) b (by rw [hl]; simp)⟩
    · cases hl : Lib.decDigits n.toNat with
      | nil => exact absurd hl (digits_ne _)
      | cons b r => exact ⟨b, by simp, digits_byte n.toNat _ (Nat.le_refl _) b (by rw [hl]; simp)⟩
  obtain ⟨b, hb, hb2⟩ := hd
  have hm := h1 b (by rw [e, dig_list]; exact hb)
  have hc := symC_digit ⟨b.toNat, b.toNat_lt⟩ hb2
  rw [UInt8.ofNat_toNat] at hc
  rw [hc] at hm
  exact absurd hm (by decide)
theorem wordT_sym {w : ByteArray} (h : symB w = true) : wordT w = (6, 0, w, true) := by
  obtain ⟨h1, _, _⟩ := symB_all h
  have hne : ∀ r, w.toList ≠ 35 :: r := fun r e => by
    have := h1 35 (by rw [← toList_data, e]; simp)
    exact absurd this (by decide)
  unfold wordT
  rw [dif_neg (symB_not_dig h), if_neg (hne _), if_neg (hne _), h]
theorem symB_word {w : ByteArray} (h : symB w = true) : ∃ b r, w.data.toList = b :: r ∧ ∀ x ∈ b :: r, endC.contains x = false := by
  obtain ⟨h1, h2, _⟩ := symB_all h
  cases hl : w.data.toList with
  | nil =>
    rw [← data_length, hl] at h2
    exact absurd h2 (by simp)
  | cons b r => exact ⟨b, r, rfl, fun x hx => symC_endC x (by have := h1 x (by rw [hl]; exact hx); simpa using this)⟩
end Go.Proofs.YteiokhfikbndbaaGreatDoor.A
