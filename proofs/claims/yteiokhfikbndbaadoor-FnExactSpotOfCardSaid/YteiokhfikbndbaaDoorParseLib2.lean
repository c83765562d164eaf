/- Proved: what the program's and the reference's reading of a decimal text come to. Conditions: those in each head. -/
import Derived.Test.YteiokhfikbndbaaDoorParseLib
import Derived.Test.YteiokhfikbndbaaDoorA4
import Derived.Test.YteiokhfikbndbaaDoorA2
import Derived.Test.YteiokhfikbndbaaDoorA3
namespace Go.Proofs.YteiokhfikbndbaaDoor.A
open Go.RowKit Go.Proofs.YteiokhfikbndbaaDoorW.PrintWords Go.Proofs.YteiokhfikbndbaaDoorW.PrintLast Go.Proofs.YteiokhfikbndbaaDoor.PL
set_option linter.unusedSimpArgs false

theorem bytes_eqP {a b : ByteArray} (h : a.toList = b.toList) : a = b := by
  rw [ByteArray.toList_eq, ByteArray.toList_eq] at h
  exact Go.WideShapes.bytes_inj h
/-- What the reference's loop ends with. -/
def finV (f : Int) (m : Nat) : Int := if f = 1 then -(m : Int) else m
def finM (t : ByteArray) (f : Int) (m : Nat) : Int × Bool := (finV f m, if numB (finV f m) = true then ((dig (finV f m)).toList == t.toList) else false)
theorem parse_loop (t : ByteArray) (ht : t.size ≤ 1048576) (f : Int) : ∀ (d i e n : Nat), i + d = t.size → e + d ≤ 10 → n < 10 ^ e → Ev (fun k => spec_l1Parse.l0 k t f (n : Int) (i : Int)) (match Lib.decFrom n (t.data.toList.drop i) with | some m => finM t f m | none => (0, false))
  | 0, i, e, n, hd, he, hn => by
    have hl : t.data.toList.drop i = [] := List.drop_eq_nil_of_le (by rw [data_length]; omega)
    rw [hl]
    have h10 : (10 : Nat) ^ e ≤ 10 ^ 10 := Nat.pow_le_pow_right (by omega) (by omega)
    have hn2 : n < 10000000000 := by
      have : (10 : Nat) ^ 10 = 10000000000 := by decide
      omega
    simp only [Lib.decFrom]
    refine Ev.step (fun k => spec_l1Parse.l0.eq_2 _ _ _ _ k) (Ev.ifn (by omega) (Ev.iff (fun c => ?_) (fun c => ?_)))
    · rw [wrap_id (x := -(n : Int)) (by omega) (by omega)]
      have hv : finV f n = -(n : Int) := by unfold finV; rw [if_pos c]
      unfold finM
      rw [hv]
      refine Ev.bind0 (l1Num_eq _) (Ev.iff (fun z => Ev.bind (digits_ev z) (Ev.leaf ?_)) (fun z => Ev.leaf ?_))
      · rw [if_pos z]
      · rw [if_neg z]
    · have hv : finV f n = (n : Int) := by unfold finV; rw [if_neg c]
      unfold finM
      rw [hv]
      refine Ev.bind0 (l1Num_eq _) (Ev.iff (fun z => Ev.bind (digits_ev z) (Ev.leaf ?_)) (fun z => Ev.leaf ?_))
      · rw [if_pos z]
      · rw [if_neg z]
  | d + 1, i, e, n, hd, he, hn => by
    have hi : i < t.size := by omega
    have hi' : i < t.data.toList.length := by rw [data_length]; exact hi
    have hb := bt_data t i hi
    have h10 : (10 : Nat) ^ e ≤ 10 ^ 9 := Nat.pow_le_pow_right (by omega) (by omega)
    have hn2 : n < 1000000000 := by
      have : (10 : Nat) ^ 9 = 1000000000 := by decide
      omega
    rw [List.drop_eq_getElem_cons hi']
    generalize hB : t.data.toList[i] = b at hb
    have hb2 : b.toNat < 256 := b.toNat_lt
    simp only [Lib.decFrom, Lib.digitVal]
    refine Ev.step (fun k => spec_l1Parse.l0.eq_2 _ _ _ _ k) (Ev.ifp (by omega) (Ev.ifp (by omega) (Ev.iff (fun c => Ev.leaf ?_) (fun c => Ev.iff (fun c2 => Ev.leaf ?_) (fun c2 => ?_)))))
    · rw [if_neg (by omega)]
    · rw [if_neg (by omega)]
    · rw [if_pos (show 48 ≤ b.toNat ∧ b.toNat ≤ 57 by omega), hb]
      have e1 : wrap64 (wrap64 ((n : Int) * 10) + ((b.toNat : Int) - 48) % 256) = ((n * 10 + (b.toNat - 48) : Nat) : Int) := by
        rw [wrap_id (x := (n : Int) * 10) (by omega) (by omega), wrap_id (by omega) (by omega)]
        omega
      rw [e1, wrap_succ hi (by omega)]
      exact parse_loop t ht f d (i + 1) (e + 1) _ (by omega) (by omega) (by rw [Nat.pow_succ]; omega)
theorem fin_true {t : ByteArray} {f : Int} {m : Nat} (h : (finM t f m).2 = true) : numB (finM t f m).1 = true ∧ t = dig (finM t f m).1 := by
  unfold finM at h ⊢
  simp only [] at h ⊢
  split at h
  · rename_i c
    exact ⟨c, (bytes_eqP (beq_iff_eq.mp h)).symm⟩
  · cases h
theorem fin_of {n : Int} (hn : numB n = true) {f : Int} {m : Nat} (h : finV f m = n) : finM (dig n) f m = (n, true) := by
  unfold finM
  rw [h, if_pos hn]
  simp
theorem parse_from (t : ByteArray) (ht : t.size ≤ 1048576) (f : Nat) (hf : f ≤ 1) (hs : f ≤ t.size) : Ev (fun k => spec_l1Parse.j1 k t (f : Int)) (if 1 ≤ t.size - f ∧ t.size - f ≤ 10 then (match Lib.decFrom 0 (t.data.toList.drop f) with | some m => finM t (f : Int) m | none => (0, false)) else (0, false)) := by
  have hw : wrap64 ((t.size : Int) - (f : Int)) = ((t.size - f : Nat) : Int) := by rw [wrap_id (by omega) (by omega)]; omega
  refine Ev.step (fun k => spec_l1Parse.j1.eq_2 _ _ k) ?_
  rw [hw]
  refine Ev.iff (fun c => Ev.step (fun k => spec_l1Parse.j2.eq_2 _ _ _ k) (Ev.ifp rfl (Ev.leaf ?_))) (fun c => Ev.step (fun k => spec_l1Parse.j2.eq_2 _ _ _ k) (Ev.iff (fun c2 => Ev.leaf ?_) (fun c2 => ?_)))
  · rw [if_neg (by omega)]
  · have c3 := of_decide_eq_true c2
    rw [if_neg (by omega)]
  · have c3 := of_decide_eq_false (by simpa using c2 : decide (((t.size - f : Nat) : Int) > 10) = false)
    rw [if_pos (by omega)]
    exact parse_loop t ht f (t.size - f) f 0 0 (by omega) (by omega) (by decide)
/-- The reference reads a text: it takes just the decimal texts of numbers. -/
theorem specParse_ev (t : ByteArray) (ht : t.size ≤ 1048576) : ∃ v b, Ev (fun k => spec_l1Parse.f k t) (v, b) ∧ (b = true → numB v = true ∧ t = dig v) ∧ ∀ n, numB n = true → t = dig n → (v, b) = (n, true) := by
  have hsz : t.data.toList.length = t.size := data_length t
  have key : ∀ f : Nat, f ≤ 1 → f ≤ t.size → (∀ n, numB n = true → t = dig n → 1 ≤ t.size - f ∧ t.size - f ≤ 10 ∧ ∃ m, Lib.decFrom 0 (t.data.toList.drop f) = some m ∧ finV (f : Int) m = n) → ∃ v b, Ev (fun k => spec_l1Parse.j1 k t (f : Int)) (v, b) ∧ (b = true → numB v = true ∧ t = dig v) ∧ ∀ n, numB n = true → t = dig n → (v, b) = (n, true) := by
    intro f hf hs hk
    have h := parse_from t ht f hf hs
    by_cases c : 1 ≤ t.size - f ∧ t.size - f ≤ 10
    · rw [if_pos c] at h
      cases hd : Lib.decFrom 0 (t.data.toList.drop f) with
      | none =>
        rw [hd] at h
        refine ⟨0, false, h, fun z => absurd z (by simp), fun n hn e => ?_⟩
        obtain ⟨_, _, m, hm, _⟩ := hk n hn e
        rw [hd] at hm
        cases hm
      | some m =>
        rw [hd] at h
        refine ⟨(finM t f m).1, (finM t f m).2, h, fun z => fin_true z, fun n hn e => ?_⟩
        obtain ⟨_, _, m', hm, hv⟩ := hk n hn e
        rw [hd] at hm
        obtain rfl := Option.some.inj hm
        subst e
        exact fin_of hn hv
    · rw [if_neg c] at h
      refine ⟨0, false, h, fun z => absurd z (by simp), fun n hn e => ?_⟩
      obtain ⟨c1, c2, _⟩ := hk n hn e
      exact absurd ⟨c1, c2⟩ c
  have hdl : ∀ n, numB n = true → t = dig n → t.data.toList = Lib.itoa n := fun n _ e => by rw [e, dig_list]
  have hlen : ∀ n, numB n = true → (Lib.decDigits n.natAbs).length ≤ 10 := fun n hn => by
    have h2 := numB_iff.mp hn
    exact digits_len 9 n.natAbs (by simp; omega)
  have hpos : ∀ u, 1 ≤ (Lib.decDigits u).length := fun u => by
    have := digits_ne u
    cases h : Lib.decDigits u with
    | nil => exact absurd h this
    | cons a r => simp
  -- a text whose first byte is '-', or another
  have neg1 : ∀ n, numB n = true → t = dig n → ∀ (h0 : 0 < t.size), bt t 0 = 45 → n < 0 := by
    intro n hn e h0 hb
    have hl := hdl n hn e
    have hb' := bt_data t 0 h0
    have hb2 : bt t 0 = ((t.data.toList[0]'(by omega)).toNat : Int) := hb'
    rw [hb] at hb2
    by_cases c : n < 0
    · exact c
    · exfalso
      have hi : Lib.itoa n = Lib.decDigits n.toNat := by unfold Lib.itoa; rw [if_neg c]
      rw [hi] at hl
      have hm : t.data.toList[0]'(by omega) ∈ Lib.decDigits n.toNat := by rw [← hl]; exact List.getElem_mem _
      have := digits_byte n.toNat n.toNat (Nat.le_refl _) _ hm
      omega
  have pos1 : ∀ n, numB n = true → t = dig n → ¬ (0 < t.size ∧ bt t 0 = 45) → ¬ n < 0 := by
    intro n hn e hb c
    have hl := hdl n hn e
    have hi : Lib.itoa n = 45 :: Lib.decDigits n.natAbs := by unfold Lib.itoa; rw [if_pos c]
    rw [hi] at hl
    have h0 : 0 < t.size := by rw [← hsz, hl]; simp
    refine hb ⟨h0, ?_⟩
    have hb' := bt_data t 0 h0
    have hb2 : bt t 0 = ((t.data.toList[0]'(by omega)).toNat : Int) := hb'
    rw [hb2]
    have : t.data.toList[0]'(by omega) = 45 := by simp [hl]
    rw [this]
    rfl
  have minus : 0 < t.size → bt t 0 = 45 → ∃ v b, Ev (fun k => spec_l1Parse.j1 k t 1) (v, b) ∧ (b = true → numB v = true ∧ t = dig v) ∧ ∀ n, numB n = true → t = dig n → (v, b) = (n, true) := by
    intro h0 hb
    refine key 1 (by omega) h0 (fun n hn e => ?_)
    have c := neg1 n hn e h0 hb
    have hl := hdl n hn e
    have hi : Lib.itoa n = 45 :: Lib.decDigits n.natAbs := by unfold Lib.itoa; rw [if_pos c]
    rw [hi] at hl
    have hs : t.size = (Lib.decDigits n.natAbs).length + 1 := by rw [← hsz, hl]; simp
    have h1 := hlen n hn
    have h2 := hpos n.natAbs
    refine ⟨by omega, by omega, n.natAbs, ?_, ?_⟩
    · rw [hl]
      exact decFrom_digits _ _ (Nat.le_refl _)
    · unfold finV; rw [if_pos (show ((1 : Nat) : Int) = 1 from rfl)]; omega
  have plus : ¬ (0 < t.size ∧ bt t 0 = 45) → ∃ v b, Ev (fun k => spec_l1Parse.j1 k t 0) (v, b) ∧ (b = true → numB v = true ∧ t = dig v) ∧ ∀ n, numB n = true → t = dig n → (v, b) = (n, true) := by
    intro hb
    refine key 0 (by omega) (by omega) (fun n hn e => ?_)
    have c := pos1 n hn e hb
    have hl := hdl n hn e
    have hi : Lib.itoa n = Lib.decDigits n.natAbs := by unfold Lib.itoa; rw [if_neg c, show n.toNat = n.natAbs from by omega]
    rw [hi] at hl
    have hs : t.size = (Lib.decDigits n.natAbs).length := by rw [← hsz, hl]
    have h1 := hlen n hn
    have h2 := hpos n.natAbs
    refine ⟨by omega, by omega, n.natAbs, ?_, ?_⟩
    · rw [hl]
      exact decFrom_digits _ _ (Nat.le_refl _)
    · unfold finV; rw [if_neg (by omega)]; omega
  by_cases h0 : 0 < t.size
  · by_cases hb : bt t 0 = 45
    · obtain ⟨v, b, h, r⟩ := minus h0 hb
      refine ⟨v, b, Ev.congr (fun k => spec_l1Parse.f.eq_1 k _) (Ev.ifp (by omega) (Ev.ifp (by omega) (Ev.step (fun k => spec_l1Parse.j0.eq_2 _ _ _ k) (Ev.ifp (by rw [hb]; rfl) h)))), r⟩
    · obtain ⟨v, b, h, r⟩ := plus (fun z => hb z.2)
      refine ⟨v, b, Ev.congr (fun k => spec_l1Parse.f.eq_1 k _) (Ev.ifp (by omega) (Ev.ifp (by omega) (Ev.step (fun k => spec_l1Parse.j0.eq_2 _ _ _ k) (Ev.ifn (by simpa using hb) h)))), r⟩
  · obtain ⟨v, b, h, r⟩ := plus (fun z => h0 z.1)
    exact ⟨v, b, Ev.congr (fun k => spec_l1Parse.f.eq_1 k _) (Ev.ifn (by omega) (Ev.step (fun k => spec_l1Parse.j0.eq_2 _ _ _ k) (Ev.ifn (by simp) h))), r⟩
/-- Is it the decimal text of a number? -/
def isDig (t : ByteArray) : Prop := ∃ n, numB n = true ∧ t = dig n
theorem implParseNum_eq (t : ByteArray) (ht : t.size ≤ 1048576) : (∀ n, numB n = true → t = dig n → impl_ParseNum.f t = some (0, n)) ∧ (¬ isDig t → impl_ParseNum.f t = some (5, 0)) := by
  have h0 : t.size ≤ 281474976710656 ∧ (10 : Int) = 10 ∧ (64 : Int) = 64 := ⟨by omega, rfl, rfl⟩
  constructor
  · intro n hn e
    have hp : Lib.parseIntB 64 t.data.toList = .ok n := by rw [e, dig_list]; exact parse_itoa hn
    unfold impl_ParseNum.f strconv_ParseInt.f
    rw [if_pos h0, hp]
    simp only [Option.bind_some]
    rw [if_pos (show (none : Option Int).isNone = true from rfl), NumFault_eq, Option.bind_some, if_pos (numM_0.mpr hn), dec_eq hn, Option.bind_some, if_pos (by rw [e])]
  · intro hn
    unfold impl_ParseNum.f strconv_ParseInt.f
    rw [if_pos h0]
    cases hp : Lib.parseIntB 64 t.data.toList with
    | ok v =>
      simp only [Option.bind_some]
      rw [if_pos (show (none : Option Int).isNone = true from rfl), NumFault_eq, Option.bind_some]
      by_cases c : numM v = 0
      · rw [if_pos c, dec_eq (numM_0.mp c), Option.bind_some, if_neg (fun z => hn ⟨v, numM_0.mp c, (bytes_eqP z).symm⟩)]
      · rw [if_neg c]
    | «syntax» => simp
    | range => simp
end Go.Proofs.YteiokhfikbndbaaDoor.A
