/- Proved: what the program's and the reference's lexers come to: the same. Conditions: those in each head. -/
import Derived.Test.YteiokhfikbndbaaGreatDoorBaseLib
import Derived.Test.YteiokhfikbndbaaGreatDoorA6
import Derived.Test.YteiokhfikbndbaaGreatDoorA3
import Derived.Test.YteiokhfikbndbaaGreatDoorA2
import Derived.Test.YteiokhfikbndbaaGreatDoorA4
namespace Go.Proofs.YteiokhfikbndbaaGreatDoor.A
open Go.RowKit Go.Proofs.YteiokhfikbndbaaGreatDoorW.PrintWords Go.Proofs.YteiokhfikbndbaaGreatDoorW.PrintLast Go.Proofs.YteiokhfikbndbaaGreatDoor.PL
set_option linter.unusedSimpArgs false

/-! ### What is passed over -/
/-- The place behind blanks and remarks. -/
def sk (s : ByteArray) : Nat → Nat → Bool → Nat
  | 0, i, _ => i
  | d + 1, i, c => if c = true then (if bt s (i : Int) = 10 then sk s d (i + 1) false else sk s d (i + 1) true) else if bt s (i : Int) = 59 then sk s d (i + 1) true else if bt s (i : Int) = 32 then sk s d (i + 1) false else if bt s (i : Int) = 10 then sk s d (i + 1) false else i
def skp (s : ByteArray) (i : Nat) : Nat := sk s (s.size - i) i false
theorem sk_le (s : ByteArray) : ∀ d i c, i ≤ sk s d i c ∧ sk s d i c ≤ i + d
  | 0, i, c => by simp [sk]
  | d + 1, i, c => by
    have h1 := sk_le s d (i + 1) false
    have h2 := sk_le s d (i + 1) true
    simp only [sk]
    repeat' split
    all_goals omega
theorem sk_stop (s : ByteArray) : ∀ d i c, i + d = s.size → sk s d i c < s.size → bt s ((sk s d i c : Nat) : Int) ≠ 59 ∧ bt s ((sk s d i c : Nat) : Int) ≠ 32 ∧ bt s ((sk s d i c : Nat) : Int) ≠ 10
  | 0, i, c, h, hl => by simp only [sk] at hl; omega
  | d + 1, i, c, h, hl => by
    have h1 := sk_stop s d (i + 1) false (by omega)
    have h2 := sk_stop s d (i + 1) true (by omega)
    simp only [sk] at hl ⊢
    by_cases a : c = true
    · rw [if_pos a] at hl ⊢
      by_cases b : bt s (i : Int) = 10
      · rw [if_pos b] at hl ⊢; exact h1 hl
      · rw [if_neg b] at hl ⊢; exact h2 hl
    · rw [if_neg a] at hl ⊢
      by_cases b : bt s (i : Int) = 59
      · rw [if_pos b] at hl ⊢; exact h2 hl
      · rw [if_neg b] at hl ⊢
        by_cases e : bt s (i : Int) = 32
        · rw [if_pos e] at hl ⊢; exact h1 hl
        · rw [if_neg e] at hl ⊢
          by_cases f : bt s (i : Int) = 10
          · rw [if_pos f] at hl ⊢; exact h1 hl
          · rw [if_neg f]; exact ⟨b, e, f⟩
theorem skip_ev (s : ByteArray) (hs : s.size ≤ 1048576) : ∀ d i, i + d = s.size → Ev (fun k => spec_l2Skip.l0 k s (i : Int)) ((sk s d i false : Nat) : Int) ∧ Ev (fun k => spec_l2Skip.l1 k s (i : Int)) ((sk s d i true : Nat) : Int)
  | 0, i, h => by
    have h0 : Ev (fun k => spec_l2Skip.l0 k s (i : Int)) ((sk s 0 i false : Nat) : Int) := Ev.step (fun k => spec_l2Skip.l0.eq_2 _ _ k) (Ev.ifn (by omega) (Ev.now _))
    exact ⟨h0, Ev.step (fun k => spec_l2Skip.l1.eq_2 _ _ k) (Ev.ifn (by omega) h0)⟩
  | d + 1, i, h => by
    obtain ⟨h1, h2⟩ := skip_ev s hs d (i + 1) (by omega)
    have hi : i < s.size := by omega
    have h10 : bt s (i : Int) = 10 → ∀ c, Ev (fun k => spec_l2Skip.l0 k s (i : Int)) ((if c = true then sk s d (i + 1) false else sk s d (i + 1) false : Nat) : Int) := by
      intro e c
      refine Ev.step (fun k => spec_l2Skip.l0.eq_2 _ _ k) (Ev.ifp (by omega) (Ev.ifp (by omega) (Ev.ifn (by omega) (Ev.ifn (by omega) (Ev.ifp e ?_)))))
      rw [wrap_succ hi (by omega), ite_self]
      exact h1
    have hc : Ev (fun k => spec_l2Skip.l1 k s (i : Int)) ((sk s (d + 1) i true : Nat) : Int) := by
      simp only [sk, if_true]
      refine Ev.step (fun k => spec_l2Skip.l1.eq_2 _ _ k) (Ev.ifp (by omega) (Ev.ifp (by omega) (Ev.iff (fun e => ?_) (fun e => ?_))))
      · rw [if_pos e]
        have := h10 e true
        rw [if_pos rfl] at this
        exact this
      · rw [if_neg e, wrap_succ hi (by omega)]
        exact h2
    refine ⟨?_, hc⟩
    refine Ev.step (fun k => spec_l2Skip.l0.eq_2 _ _ k) (Ev.ifp (by omega) (Ev.ifp (by omega) (Ev.iff (fun e => ?_) (fun e => ?_))))
    · have e2 : sk s (d + 1) i true = sk s (d + 1) i false := by
        simp only [sk, if_true, Bool.false_eq_true, if_false]
        rw [if_neg (by omega), if_pos e]
      rw [← e2]
      exact hc
    · simp only [sk, Bool.false_eq_true, if_false]
      rw [if_neg e]
      refine Ev.iff (fun f => ?_) (fun f => ?_)
      · rw [if_pos f, wrap_succ hi (by omega)]; exact h1
      · rw [if_neg f]
        refine Ev.iff (fun g => ?_) (fun g => ?_)
        · rw [if_pos g, wrap_succ hi (by omega)]; exact h1
        · rw [if_neg g]; exact Ev.now _
theorem specSkip_ev (s : ByteArray) (hs : s.size ≤ 1048576) (i : Nat) (h : i ≤ s.size) : Ev (fun k => spec_l2Skip.f k s (i : Int)) ((skp s i : Nat) : Int) :=
  Ev.congr (fun k => spec_l2Skip.f.eq_1 k _ _) (skip_ev s hs (s.size - i) i (by omega)).1
/-! ### The end of a line -/
theorem ext_tail (s : ByteArray) (i : Nat) : (s.extract i s.size).data.toList = s.data.toList.drop i := by
  have e : (s.extract i s.size).data.toList = List.take (s.size - i) (s.data.toList.drop i) := by simp
  rw [e, List.take_of_length_le (by rw [List.length_drop, data_length]; exact Nat.le_refl _)]
theorem index_tw : ∀ l : List UInt8, (Lib.index l [10] = -1 ∧ l.takeWhile (fun b => b != 10) = l) ∨ (Lib.index l [10] = (((l.takeWhile (fun b => b != 10)).length : Nat) : Int) ∧ (l.takeWhile (fun b => b != 10)).length ≤ l.length)
  | [] => .inl ⟨rfl, rfl⟩
  | b :: l => by
    by_cases c : b = 10
    · subst c
      right
      simp [Lib.index]
    · have hb : (b != 10) = true := by simp [c]
      have hp : ([10] : List UInt8).isPrefixOf (b :: l) = false := by
        simp [List.isPrefixOf]
        exact fun e => c e.symm
      rcases index_tw l with ⟨h1, h2⟩ | ⟨h1, h2⟩
      · left
        refine ⟨?_, by rw [List.takeWhile_cons, if_pos hb, h2]⟩
        unfold Lib.index
        rw [hp, h1]
        rfl
      · right
        rw [List.takeWhile_cons, if_pos hb]
        refine ⟨?_, by simp; omega⟩
        unfold Lib.index
        rw [hp, h1]
        have : ((((l.takeWhile (fun b => b != 10)).length : Nat) : Int) == -1) = false := by rw [beq_eq_false_iff_ne]; omega
        simp [this]
theorem cut_tw (l : List UInt8) : (Lib.cut l [10]).1 = l.takeWhile (fun b => b != 10) := by
  unfold Lib.cut
  rcases index_tw l with ⟨h1, h2⟩ | ⟨h1, h2⟩
  · rw [h1, if_neg (by omega), h2]
  · rw [h1, if_pos (by omega)]
    show l.take _ = _
    rw [Int.toNat_natCast]
    conv => lhs; arg 2; rw [← List.takeWhile_append_dropWhile (p := fun b => b != 10) (l := l)]
    rw [List.take_left]
theorem sk_nl (s : ByteArray) : ∀ d i, i + d = s.size → ∃ m, m = ((s.data.toList.drop i).takeWhile (fun b => b != 10)).length ∧ i + m ≤ s.size ∧ sk s d i true = skp s (i + m)
  | 0, i, h => by
    have : s.data.toList.drop i = [] := List.drop_of_length_le (by rw [data_length]; omega)
    rw [this]
    refine ⟨0, rfl, by omega, ?_⟩
    unfold skp
    rw [show s.size - (i + 0) = 0 by omega]
    rfl
  | d + 1, i, h => by
    have hi : i < s.data.toList.length := by rw [data_length]; omega
    have hb := bt_data s i (by omega)
    rw [List.drop_eq_getElem_cons hi, List.takeWhile_cons]
    by_cases c : s.data.toList[i] = 10
    · refine ⟨0, by simp [c], by omega, ?_⟩
      rw [c] at hb
      have hb' : bt s (i : Int) = 10 := hb
      unfold skp
      rw [show s.size - (i + 0) = d + 1 by omega]
      simp only [sk, if_true, Nat.add_zero, Bool.false_eq_true, if_false]
      rw [if_pos hb', if_neg (by omega), if_neg (by omega), if_pos hb']
    · obtain ⟨m, h1, h2, h3⟩ := sk_nl s d (i + 1) (by omega)
      refine ⟨m + 1, by rw [if_pos (bne_iff_ne.mpr c), h1]; simp, by omega, ?_⟩
      have hb' : ¬ bt s (i : Int) = 10 := by
        rw [hb]
        intro e
        apply c
        apply UInt8.toNat_inj.mp
        show s.data.toList[i].toNat = 10
        omega
      simp only [sk, if_true]
      rw [if_neg hb', h3]
      congr 1
      omega
/-! ### The end of a word -/
def endC : List UInt8 := [32, 10, 40, 41, 39, 59]
def mkT (x : Int) : Int := if x = 40 then 1 else if x = 41 then 2 else if x = 39 then 3 else 0
def endB (x : Int) : Bool := x == 32 || x == 10 || x == 59 || mkT x != 0
theorem endB_256 : ∀ n : Fin 256, endB (n.val : Int) = endC.contains (UInt8.ofNat n.val) := by decide +kernel
theorem endB_byte (c : UInt8) : endB (c.toNat : Int) = endC.contains c := by
  have h := endB_256 ⟨c.toNat, c.toNat_lt⟩
  rw [UInt8.ofNat_toNat] at h
  exact h
theorem mk_256 : ∀ n : Fin 256, Lib.indexByte [40, 41, 39] (UInt8.ofNat n.val) = mkT (n.val : Int) - 1 := by decide +kernel
theorem mk_byte (c : UInt8) : Lib.indexByte [40, 41, 39] c = mkT (c.toNat : Int) - 1 := by
  have h := mk_256 ⟨c.toNat, c.toNat_lt⟩
  rw [UInt8.ofNat_toNat] at h
  exact h
theorem mk_range (x : Int) : 0 ≤ mkT x ∧ mkT x ≤ 3 := by unfold mkT; repeat' split <;> try omega
theorem mark_eq (x : Int) : spec_l2Mark.f x = some (mkT x) := by
  unfold spec_l2Mark.f mkT
  repeat' split
  all_goals rfl
def en (s : ByteArray) : Nat → Nat → Nat
  | 0, i => i
  | d + 1, i => if endB (bt s (i : Int)) = true then i else en s d (i + 1)
theorem en_le (s : ByteArray) : ∀ d i, i ≤ en s d i ∧ en s d i ≤ i + d
  | 0, i => by simp [en]
  | d + 1, i => by
    have h1 := en_le s d (i + 1)
    simp only [en]
    split <;> omega
theorem end_ev (s : ByteArray) (hs : s.size ≤ 1048576) : ∀ d i, i + d = s.size → Ev (fun k => spec_l2End.l0 k s (i : Int)) ((en s d i : Nat) : Int)
  | 0, i, h => Ev.step (fun k => spec_l2End.l0.eq_2 _ _ k) (Ev.ifn (by omega) (Ev.now _))
  | d + 1, i, h => by
    have h1 := end_ev s hs d (i + 1) (by omega)
    have hi : i < s.size := by omega
    simp only [en]
    refine Ev.step (fun k => spec_l2End.l0.eq_2 _ _ k) (Ev.ifp (by omega) (Ev.ifp (by omega) (Ev.iff (fun e => ?_) (fun e => Ev.iff (fun f => ?_) (fun f => Ev.iff (fun g => ?_) (fun g => Ev.bind0 (mark_eq _) (Ev.iff (fun m => ?_) (fun m => ?_))))))))
    · rw [if_pos (by unfold endB; simp [e])]; exact Ev.now _
    · rw [if_pos (by unfold endB; simp [f])]; exact Ev.now _
    · rw [if_pos (by unfold endB; simp [g])]; exact Ev.now _
    · rw [if_neg (by unfold endB; simp [e, f, g, m]), wrap_succ hi (by omega)]; exact h1
    · rw [if_pos (by unfold endB; simp [m])]; exact Ev.now _
theorem specEnd_ev (s : ByteArray) (hs : s.size ≤ 1048576) (i : Nat) (h : i ≤ s.size) : Ev (fun k => spec_l2End.f k s (i : Int)) ((en s (s.size - i) i : Nat) : Int) :=
  Ev.congr (fun k => spec_l2End.f.eq_1 k _ _) (end_ev s hs (s.size - i) i (by omega))
theorem any_tw (cs : List UInt8) (h32 : cs.contains 32 = true) : ∀ l : List UInt8, Lib.indexAny (l ++ [32]) cs = (((l.takeWhile (fun b => !cs.contains b)).length : Nat) : Int)
  | [] => by rw [List.nil_append, Lib.indexAny, if_pos h32]; rfl
  | b :: l => by
    have ih := any_tw cs h32 l
    rw [List.cons_append, Lib.indexAny, ih, List.takeWhile_cons]
    by_cases c : cs.contains b = true
    · rw [if_pos c, if_neg (by rw [c]; decide)]; rfl
    · rw [if_neg c, if_neg (by rw [beq_iff_eq]; omega), if_pos (by rw [Bool.not_eq_true] at c; rw [c]; rfl)]
      simp
theorem en_tw (s : ByteArray) : ∀ d i, i + d = s.size → en s d i = i + ((s.data.toList.drop i).takeWhile (fun b => !endC.contains b)).length
  | 0, i, h => by
    have : s.data.toList.drop i = [] := List.drop_of_length_le (by rw [data_length]; omega)
    rw [this]
    rfl
  | d + 1, i, h => by
    have hi : i < s.data.toList.length := by rw [data_length]; omega
    have hb := bt_data s i (by omega)
    rw [List.drop_eq_getElem_cons hi, List.takeWhile_cons]
    simp only [en]
    rw [hb, endB_byte]
    by_cases c : endC.contains s.data.toList[i] = true
    · rw [if_pos c, if_neg (by rw [c]; decide)]; rfl
    · rw [if_neg c, if_pos (by rw [Bool.not_eq_true] at c; rw [c]; rfl), en_tw s d (i + 1) (by omega), List.length_cons]
      omega
/-! ### A word -/
open Classical in
/-- The token of a word, and whether it is one. -/
noncomputable def wordT (w : ByteArray) : Int × Int × ByteArray × Bool := if h : isDig w then (4, Classical.choose h, ⟨#[]⟩, true) else if w.toList = [35, 116] then (5, 1, ⟨#[]⟩, true) else if w.toList = [35, 102] then (5, 0, ⟨#[]⟩, true) else (6, 0, w, symB w)
theorem not_dig {w : ByteArray} {r : List UInt8} (h : w.toList = 35 :: r) : ¬ isDig w := by
  rintro ⟨n, hn, e⟩
  have h2 : Lib.itoa n = 35 :: r := by rw [← h, e, ByteArray.toList_eq]; simp [dig]
  unfold Lib.itoa at h2
  split at h2
  · exact absurd (List.cons.inj h2).1 (by decide)
  · have := digits_byte n.toNat n.toNat (Nat.le_refl _) 35 (by rw [h2]; simp)
    exact absurd this.1 (by decide)
theorem specWord_ev (w : ByteArray) (hw : w.size ≤ 1048576) : Ev (fun k => spec_l2Word.f k w) (wordT w) := by
  obtain ⟨v, b, hv, h1, h2⟩ := specParse_ev w hw
  refine Ev.congr (fun k => spec_l2Word.f.eq_1 k _) (Ev.bind hv ?_)
  by_cases h : isDig w
  · obtain ⟨c1, c2⟩ := Classical.choose_spec h
    have e := h2 _ c1 c2
    unfold wordT
    rw [dif_pos h]
    cases e
    exact Ev.ifp rfl (Ev.now _)
  · have hb : b = false := by
      cases b
      · rfl
      · exact absurd ⟨v, (h1 rfl).1, (h1 rfl).2⟩ h
    subst hb
    unfold wordT
    rw [dif_neg h]
    refine Ev.ifn (by simp) (Ev.iff (fun e => Ev.leaf (by rw [if_pos e])) (fun e => ?_))
    rw [if_neg e]
    refine Ev.iff (fun f => Ev.leaf (by rw [if_pos f])) (fun f => ?_)
    rw [if_neg f]
    exact Ev.bind (l2Sym_ev w (by omega)) (Ev.now _)
theorem implWord_eq (w : ByteArray) (hw : w.size ≤ 1048576) : impl_wordToken.f w = some (wordT w) := by
  unfold impl_wordToken.f wordT
  by_cases e : w.toList = [35, 116]
  · rw [if_pos e, dif_neg (not_dig e), if_pos e]
  · rw [if_neg e]
    by_cases f : w.toList = [35, 102]
    · rw [if_pos f, dif_neg (not_dig f), if_neg e, if_pos f]
    · rw [if_neg f]
      by_cases h : isDig w
      · obtain ⟨c1, c2⟩ := Classical.choose_spec h
        rw [(implParseNum_eq w hw).1 _ c1 c2, dif_pos h]
        rfl
      · rw [(implParseNum_eq w hw).2 h, dif_neg h, if_neg e, if_neg f, SymFault_eq w (by omega)]
        unfold symM
        cases hb : symB w <;> rfl
theorem wordT_size (w : ByteArray) : (wordT w).2.2.1.size ≤ w.size := by
  unfold wordT
  repeat' split
  all_goals first | exact Nat.zero_le _ | exact Nat.le_refl _
/-! ### The tokens of a text -/
/-- The lexer: what has been read, and a place. -/
noncomputable def lexM (s : ByteArray) : Nat → List S37 → Nat → Int × Int × List S37
  | 0, _, _ => (0, 0, [])
  | f + 1, out, i =>
    if skp s i < s.size then
      (if mkT (bt s ((skp s i : Nat) : Int)) = 0 then
        (if (wordT (s.extract (skp s i) (en s (s.size - skp s i) (skp s i)))).2.2.2 = true then
          (if 120 ≤ out.length then (2, ((skp s i : Nat) : Int), []) else lexM s f (out ++ [⟨(wordT (s.extract (skp s i) (en s (s.size - skp s i) (skp s i)))).1, (wordT (s.extract (skp s i) (en s (s.size - skp s i) (skp s i)))).2.1, (wordT (s.extract (skp s i) (en s (s.size - skp s i) (skp s i)))).2.2.1⟩]) (en s (s.size - skp s i) (skp s i)))
        else (5, ((skp s i : Nat) : Int), []))
      else if 120 ≤ out.length then (2, ((skp s i : Nat) : Int), []) else lexM s f (out ++ [⟨mkT (bt s ((skp s i : Nat) : Int)), 0, ⟨#[]⟩⟩]) (skp s i + 1))
    else (0, 0, out)
theorem skp_le (s : ByteArray) {i : Nat} (h : i ≤ s.size) : i ≤ skp s i ∧ skp s i ≤ s.size := by
  have := sk_le s (s.size - i) i false
  unfold skp
  omega
theorem skp_stop (s : ByteArray) {i : Nat} (h : i ≤ s.size) (hl : skp s i < s.size) : bt s ((skp s i : Nat) : Int) ≠ 59 ∧ bt s ((skp s i : Nat) : Int) ≠ 32 ∧ bt s ((skp s i : Nat) : Int) ≠ 10 :=
  sk_stop s (s.size - i) i false (by omega) hl
theorem en_gt (s : ByteArray) {j : Nat} (hl : j < s.size) (h : bt s (j : Int) ≠ 59 ∧ bt s (j : Int) ≠ 32 ∧ bt s (j : Int) ≠ 10) (hm : mkT (bt s (j : Int)) = 0) : j < en s (s.size - j) j ∧ en s (s.size - j) j ≤ s.size := by
  obtain ⟨d, hd⟩ : ∃ d, s.size - j = d + 1 := ⟨s.size - j - 1, by omega⟩
  have := en_le s d (j + 1)
  rw [hd]
  simp only [en]
  rw [if_neg (by unfold endB; simp [h, hm])]
  omega
/-- The reference's order of results. -/
def swp (x : Int × Int × List S37) : List S37 × Int × Int := (x.2.2, x.1, x.2.1)
theorem specLex_ev (s : ByteArray) (hs : s.size ≤ 1048576) : ∀ f out i, i ≤ s.size → s.size - i < f → out.length ≤ 120 → Ev (fun k => spec_l2Tokens.l0 k s out ((skp s i : Nat) : Int)) (swp (lexM s f out i))
  | 0, out, i, h, hf, ho => by omega
  | f + 1, out, i, h, hf, ho => by
    have hj := skp_le s h
    have hst := skp_stop s h
    simp only [lexM]
    generalize skp s i = j at hj hst ⊢
    by_cases c : j < s.size
    · have hst := hst c
      rw [if_pos c]
      refine Ev.step (fun k => spec_l2Tokens.l0.eq_2 _ _ _ k) (Ev.ifp (by omega) (Ev.ifp (by omega) (Ev.bind0 (mark_eq _) (Ev.iff (fun m => ?_) (fun m => ?_)))))
      · rw [if_pos m]
        have he := en_gt s c hst m
        refine Ev.bind (specEnd_ev s hs j (by omega)) (Ev.ifp (by omega) (Ev.ifp (by omega) ?_))
        simp only [Int.toNat_natCast]
        have hw := specWord_ev (s.extract j (en s (s.size - j) j)) (by rw [ByteArray.size_extract]; omega)
        refine Ev.bind hw (Ev.iff (fun b => ?_) (fun b => Ev.leaf (by rw [if_neg b]; rfl)))
        rw [if_pos b]
        refine Ev.iff (fun l => Ev.leaf (by rw [if_pos (by omega)]; rfl)) (fun l => Ev.ifp (by omega) ?_)
        rw [if_neg (by omega)]
        refine Ev.bind (specSkip_ev s hs _ he.2) ?_
        exact specLex_ev s hs f _ _ he.2 (by omega) (by simp; omega)
      · rw [if_neg m]
        refine Ev.iff (fun l => Ev.leaf (by rw [if_pos (by omega)]; rfl)) (fun l => Ev.ifp (by omega) ?_)
        rw [if_neg (by omega), wrap_succ c (by omega)]
        refine Ev.bind (specSkip_ev s hs _ (by omega)) ?_
        exact specLex_ev s hs f _ _ (by omega) (by omega) (by simp; omega)
    · rw [if_neg c]
      exact Ev.step (fun k => spec_l2Tokens.l0.eq_2 _ _ _ k) (Ev.ifn (by omega) (Ev.now _))
theorem implSkip_ev (s : ByteArray) (hs : s.size ≤ 1048576) (out : List S37) (r : Int × Int × List S37) : ∀ n i, s.size - i ≤ n → i ≤ s.size → Ev (fun k => impl_TokensOf.l0 k s out ((skp s i : Nat) : Int)) r → Ev (fun k => impl_TokensOf.l0 k s out (i : Int)) r
  | 0, i, hn, h, hr => by
    have := skp_le s h
    rw [show skp s i = i by omega] at hr
    exact hr
  | n + 1, i, hn, h, hr => by
    by_cases hi : i < s.size
    · obtain ⟨d, hd⟩ : ∃ d, s.size - i = d + 1 := ⟨s.size - i - 1, by omega⟩
      have e0 : skp s i = sk s (d + 1) i false := by unfold skp; rw [hd]
      have e1 : skp s (i + 1) = sk s d (i + 1) false := by unfold skp; rw [show s.size - (i + 1) = d by omega]
      simp only [sk, Bool.false_eq_true, if_false] at e0
      have one : skp s i = skp s (i + 1) → Ev (fun k => impl_TokensOf.l0 k s out ((i + 1 : Nat) : Int)) r := fun e => by
        rw [e] at hr
        exact implSkip_ev s hs out r n (i + 1) (by omega) (by omega) hr
      by_cases c32 : bt s (i : Int) = 32
      · refine Ev.step (fun k => impl_TokensOf.l0.eq_2 _ _ _ k) (Ev.ifp (by omega) (Ev.ifp (by omega) (Ev.ifp c32 (Ev.step (fun k => impl_TokensOf.j1.eq_2 _ _ _ _ _ k) (Ev.ifp rfl ?_)))))
        rw [wrap_succ hi (by omega)]
        exact one (by rw [e0, e1, if_neg (by omega), if_pos c32])
      by_cases c10 : bt s (i : Int) = 10
      · refine Ev.step (fun k => impl_TokensOf.l0.eq_2 _ _ _ k) (Ev.ifp (by omega) (Ev.ifp (by omega) (Ev.ifn c32 (Ev.step (fun k => impl_TokensOf.j1.eq_2 _ _ _ _ _ k) (Ev.ifp (by simp [c10]) ?_)))))
        rw [wrap_succ hi (by omega)]
        exact one (by rw [e0, e1, if_neg (by omega), if_neg (by omega), if_pos c10])
      by_cases c59 : bt s (i : Int) = 59
      · refine Ev.step (fun k => impl_TokensOf.l0.eq_2 _ _ _ k) (Ev.ifp (by omega) (Ev.ifp (by omega) (Ev.ifn c32 (Ev.step (fun k => impl_TokensOf.j1.eq_2 _ _ _ _ _ k) (Ev.ifn (by simp [c10]) (Ev.ifp c59 (Ev.ifp (by omega) (Ev.ifp (by omega) ?_))))))))
        rw [if_pos c59] at e0
        obtain ⟨m, hm, hm2, hm3⟩ := sk_nl s (d + 1) i (by omega)
        have hx : ∃ y z, strings_Cut.f (s.extract (i : Int).toNat s.size) ⟨#[10]⟩ = some (⟨((s.data.toList.drop i).takeWhile (fun b => b != 10)).toArray⟩, y, z) := by
          refine ⟨⟨(Lib.cut (s.extract (i : Int).toNat s.size).data.toList (⟨#[10]⟩ : ByteArray).data.toList).2.1.toArray⟩, (Lib.cut (s.extract (i : Int).toNat s.size).data.toList (⟨#[10]⟩ : ByteArray).data.toList).2.2, ?_⟩
          unfold strings_Cut.f
          rw [if_pos ⟨rfl, by rw [ByteArray.size_extract]; omega⟩]
          have e : (Lib.cut (s.extract (i : Int).toNat s.size).data.toList (⟨#[10]⟩ : ByteArray).data.toList).1 = (s.data.toList.drop i).takeWhile (fun b => b != 10) := by
            rw [show (s.extract (i : Int).toNat s.size).data.toList = s.data.toList.drop i from ext_tail s i]
            exact cut_tw _
          rw [e]
        obtain ⟨y, z, hx⟩ := hx
        refine Ev.bind0 hx ?_
        have hsz : (⟨((s.data.toList.drop i).takeWhile (fun b => b != 10)).toArray⟩ : ByteArray).size = m := by rw [hm, ba_size]
        show Ev (fun k => impl_TokensOf.l0 k s out (wrap64 ((i : Int) + (((⟨((s.data.toList.drop i).takeWhile (fun b => b != 10)).toArray⟩ : ByteArray).size : Nat) : Int)))) r
        rw [hsz, wrap_id (by omega) (by omega), show (i : Int) + (m : Int) = ((i + m : Nat) : Int) by omega]
        have hm0 : 0 < m := by
          rw [hm]
          have hi' : i < s.data.toList.length := by rw [data_length]; omega
          have hb := bt_data s i (by omega)
          rw [List.drop_eq_getElem_cons hi', List.takeWhile_cons, if_pos]
          · simp
          · rw [bne_iff_ne]
            intro e
            rw [e] at hb
            have : bt s (i : Int) = 10 := hb
            omega
        have e3 : skp s i = skp s (i + m) := by
          rw [← hm3, e0]
          simp only [sk, if_true]
          rw [if_neg c10]
        rw [e3] at hr
        exact implSkip_ev s hs out r n (i + m) (by omega) hm2 hr
      · rw [if_neg c59, if_neg c32, if_neg c10] at e0
        rw [e0] at hr
        exact hr
    · have := skp_le s h
      rw [show skp s i = i by omega] at hr
      exact hr
theorem implLex_ev (s : ByteArray) (hs : s.size ≤ 1048576) : ∀ f out i, i ≤ s.size → s.size - i < f → out.length ≤ 120 → Ev (fun k => impl_TokensOf.l0 k s out (i : Int)) (lexM s f out i)
  | 0, out, i, h, hf, ho => by omega
  | f + 1, out, i, h, hf, ho => by
    refine implSkip_ev s hs out _ s.size i (by omega) h ?_
    have hj := skp_le s h
    have hst := skp_stop s h
    simp only [lexM]
    generalize skp s i = j at hj hst ⊢
    by_cases c : j < s.size
    · have hst := hst c
      have hb := bt_data s j c
      have hjl : j < s.data.toList.length := by rw [data_length]; exact c
      rw [if_pos c]
      have push : ∀ (e : Nat) (sz K N : Int) (t : ByteArray) (b : Bool) (R : Int × Int × List S37), (j : Int) + sz = (e : Int) → e ≤ s.size → (b = true → ¬ 120 ≤ out.length → Ev (fun k => impl_TokensOf.l0 k s (out ++ [⟨K, N, t⟩]) (e : Int)) R) → Ev (fun k => impl_TokensOf.j2 k s out (j : Int) sz b K N t) (if b = true then (if 120 ≤ out.length then (2, (j : Int), []) else R) else (5, (j : Int), [])) := by
        intro e sz K N t b R he hes hR
        refine Ev.step (fun k => impl_TokensOf.j2.eq_2 _ _ _ _ _ _ _ _ k) (Ev.iff (fun hb => ?_) (fun hb => Ev.leaf (by rw [if_neg hb])))
        rw [if_pos hb]
        refine Ev.iff (fun l => Ev.leaf (by rw [if_pos (by omega)])) (fun l => Ev.ifp (by omega) ?_)
        rw [if_neg (by omega), he, wrap_id (by omega) (by omega)]
        exact hR hb (by omega)
      refine Ev.step (fun k => impl_TokensOf.l0.eq_2 _ _ _ k) (Ev.ifp (by omega) (Ev.ifp (by omega) (Ev.ifn hst.2.1 (Ev.step (fun k => impl_TokensOf.j1.eq_2 _ _ _ _ _ k) (Ev.ifn (by simp [hst.2.2]) (Ev.ifn hst.1 (Ev.ifp (by omega) (Ev.ifp (by omega) ?_))))))))
      have hix : strings_IndexByte.f ⟨#[40, 41, 39]⟩ (bt s (j : Int)) = some (mkT (bt s (j : Int)) - 1) := by
        unfold strings_IndexByte.f
        rw [hb, ← mk_byte]
        congr 2
        rw [Int.toNat_natCast]
        exact UInt8.ofNat_toNat
      have hmr := mk_range (bt s (j : Int))
      refine Ev.bind0 hix (Ev.iff (fun m => ?_) (fun m => ?_))
      · rw [if_neg (by omega), wrap_id (x := 1 + (mkT (bt s (j : Int)) - 1)) (by omega) (by omega), show 1 + (mkT (bt s (j : Int)) - 1) = mkT (bt s (j : Int)) by omega]
        have := push (j + 1) 1 (mkT (bt s (j : Int))) 0 ⟨#[]⟩ true _ (by omega) (by omega) (fun _ hl => implLex_ev s hs f _ (j + 1) (by omega) (by omega) (by simp; omega))
        rw [if_pos rfl] at this
        exact this
      · have m0 : mkT (bt s (j : Int)) = 0 := by omega
        rw [if_pos m0]
        have he := en_gt s c hst m0
        have hn := en_tw s (s.size - j) j (by omega)
        have hxl : (s.extract (j : Int).toNat s.size).data.toList = s.data.toList.drop j := ext_tail s j
        have hia : strings_IndexAny.f (s.extract (j : Int).toNat s.size ++ ⟨#[32]⟩) ⟨#[32, 10, 40, 41, 39, 59]⟩ = some ((en s (s.size - j) j : Int) - (j : Int)) := by
          unfold strings_IndexAny.f
          rw [if_pos ⟨by decide, by decide, by rw [ByteArray.size_append, ByteArray.size_extract]; show _ + 1 < _; omega, by decide⟩]
          congr 1
          have : (s.extract (j : Int).toNat s.size ++ (⟨#[32]⟩ : ByteArray)).data.toList = s.data.toList.drop j ++ [32] := by
            rw [← hxl]
            simp
          rw [this]
          rw [show (⟨#[32, 10, 40, 41, 39, 59]⟩ : ByteArray).data.toList = endC from rfl, any_tw endC (by decide), hn]
          omega
        refine Ev.ifp (by omega) (Ev.ifp (by rw [ByteArray.size_extract]; omega) (Ev.bind0 hia ?_))
        rw [wrap_id (x := (j : Int) + ((en s (s.size - j) j : Int) - (j : Int))) (by omega) (by omega), show (j : Int) + ((en s (s.size - j) j : Int) - (j : Int)) = (en s (s.size - j) j : Int) by omega]
        refine Ev.ifp (by omega) (Ev.ifp (by omega) ?_)
        simp only [Int.toNat_natCast]
        refine Ev.bind0 (implWord_eq (s.extract j (en s (s.size - j) j)) (by rw [ByteArray.size_extract]; omega)) ?_
        exact push (en s (s.size - j) j) _ _ _ _ _ _ (by omega) he.2 (fun _ hl => implLex_ev s hs f _ _ he.2 (by omega) (by simp; omega))
    · rw [if_neg c]
      exact Ev.step (fun k => impl_TokensOf.l0.eq_2 _ _ _ k) (Ev.ifn (by omega) (Ev.now _))
/-- The tokens of a text, or what is wrong. -/
noncomputable def toksOf (s : ByteArray) : Int × Int × List S37 := if (s.size : Int) > 400 then (2, 0, []) else lexM s (s.size + 1) [] 0
theorem specTokensOf_ev (s : ByteArray) : Ev (fun k => spec_TokensOf.f k s) (toksOf s) := by
  refine Ev.congr (fun k => spec_TokensOf.f.eq_1 k _) (Ev.iff (fun c => Ev.leaf (by unfold toksOf; rw [if_pos c])) (fun c => ?_))
  have hs : s.size ≤ 1048576 := by omega
  unfold toksOf
  rw [if_neg c]
  refine Ev.bind (Ev.congr (fun k => spec_l2Tokens.f.eq_1 k _) (Ev.bind (specSkip_ev s hs 0 (by omega)) (specLex_ev s hs (s.size + 1) [] 0 (by omega) (by omega) (by simp)))) (Ev.now _)
theorem implTokensOf_ev (s : ByteArray) : Ev (fun k => impl_TokensOf.f k s) (toksOf s) := by
  refine Ev.congr (fun k => impl_TokensOf.f.eq_1 k _) (Ev.iff (fun c => Ev.leaf (by unfold toksOf; rw [if_pos c])) (fun c => ?_))
  have hs : s.size ≤ 1048576 := by omega
  unfold toksOf
  rw [if_neg c]
  exact implLex_ev s hs (s.size + 1) [] 0 (by omega) (by omega) (by simp)
theorem lexM_len (s : ByteArray) : ∀ f out i, out.length ≤ 120 → (lexM s f out i).2.2.length ≤ 120
  | 0, out, i, h => by simp [lexM]
  | f + 1, out, i, h => by
    simp only [lexM]
    by_cases a : skp s i < s.size
    · rw [if_pos a]
      by_cases b : mkT (bt s ((skp s i : Nat) : Int)) = 0
      · rw [if_pos b]
        split
        · split
          · simp
          · exact lexM_len s f _ _ (by simp; omega)
        · simp
      · rw [if_neg b]
        split
        · simp
        · exact lexM_len s f _ _ (by simp; omega)
    · rw [if_neg a]; exact h
theorem toksOf_len (s : ByteArray) : (toksOf s).2.2.length ≤ 120 := by
  unfold toksOf
  split
  · simp
  · exact lexM_len s _ [] 0 (by simp)
end Go.Proofs.YteiokhfikbndbaaGreatDoor.A
