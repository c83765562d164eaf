/- Proved: what the program's and the reference's readers of data come to: the same. Conditions: those in each head. -/
import Derived.Test.YteiokhfikbndbaaDoorLexLib
import Derived.Test.YteiokhfikbndbaaDoorR8
import Derived.Test.YteiokhfikbndbaaDoorR11
import Derived.Test.YteiokhfikbndbaaDoorR10
import Derived.Test.YteiokhfikbndbaaDoorR4
import Derived.Test.YteiokhfikbndbaaDoorR5
import Derived.Test.YteiokhfikbndbaaDoorR6
import Derived.Test.YteiokhfikbndbaaDoorR7
import Derived.Test.YteiokhfikbndbaaDoorR9
namespace Go.Proofs.YteiokhfikbndbaaDoor.R
open Go.RowKit Go.Proofs.YteiokhfikbndbaaDoorW.PrintWords Go.Proofs.YteiokhfikbndbaaDoorW.PrintLast Go.Proofs.YteiokhfikbndbaaDoor.PL
set_option linter.unusedSimpArgs false

/-! ### The lists that are open: the innermost first -/
def oS (st : List (Int × Bool)) : List Int := (st.map (·.1)).reverse
def qS (st : List (Int × Bool)) : List Bool := (st.map (·.2)).reverse
def encO (e : Int × Bool) : Int := if e.2 = true then -1 - e.1 else e.1
def eS (st : List (Int × Bool)) : List Int := (st.map encO).reverse
theorem oS_cons (a : Int × Bool) (r : List (Int × Bool)) : oS (a :: r) = oS r ++ [a.1] := by simp [oS]
theorem qS_cons (a : Int × Bool) (r : List (Int × Bool)) : qS (a :: r) = qS r ++ [a.2] := by simp [qS]
theorem eS_cons (a : Int × Bool) (r : List (Int × Bool)) : eS (a :: r) = eS r ++ [encO a] := by simp [eS]
theorem oS_len (r : List (Int × Bool)) : (oS r).length = r.length := by simp [oS]
theorem qS_len (r : List (Int × Bool)) : (qS r).length = r.length := by simp [qS]
theorem eS_len (r : List (Int × Bool)) : (eS r).length = r.length := by simp [eS]
theorem snoc_len {α : Type} {X : List α} {n : Nat} (h : X.length = n) (v : α) : (X ++ [v]).length = n + 1 := by simp [h]
theorem rd_last {X : List Int} {n : Nat} (h : X.length = n) (v : Int) : rd (X ++ [v]) (n : Int) = v := by subst h; simp [rd]
theorem rdB_last {X : List Bool} {n : Nat} (h : X.length = n) (v : Bool) : rdOf false (X ++ [v]) (n : Int) = v := by subst h; simp [rdOf]
theorem take_last {α : Type} {X : List α} {n : Nat} (h : X.length = n) (v : α) : (X ++ [v]).take ((n : Int)).toNat = X := by subst h; simp
theorem wrap_last {n : Nat} (h : n ≤ 100000) : wrap64 (((n + 1 : Nat) : Int) - 1) = (n : Int) := by rw [wrap_id (by omega) (by omega)]; omega
/-- The innermost list that is open. -/
def topO : List (Int × Bool) → Int
  | [] => -1
  | a :: _ => a.1
/-- Behind a datum that is whole. -/
def whO : List (Int × Bool) → List (Int × Bool)
  | [] => []
  | a :: r => if a.2 = true then whO r else a :: r
theorem whO_len : ∀ st : List (Int × Bool), (whO st).length ≤ st.length
  | [] => Nat.le_refl _
  | a :: r => by
    have := whO_len r
    simp only [whO]
    split <;> simp <;> omega
theorem whO_mem : ∀ (st : List (Int × Bool)) e, e ∈ whO st → e ∈ st
  | a :: r, e, h => by
    simp only [whO] at h
    split at h
    · exact List.mem_cons_of_mem _ (whO_mem r e h)
    · exact h
/-- Places of lists that are open. -/
def okO (st : List (Int × Bool)) : Prop := ∀ e ∈ st, 0 ≤ e.1 ∧ e.1 ≤ 100000
theorem okO_tail {a : Int × Bool} {r : List (Int × Bool)} (h : okO (a :: r)) : okO r := fun e he => h e (List.mem_cons_of_mem _ he)
theorem okO_whO {st : List (Int × Bool)} (h : okO st) : okO (whO st) := fun e he => h e (whO_mem st e he)
theorem specWhole_ev (D : List S80) : ∀ st : List (Int × Bool), st.length ≤ 100000 → Ev (fun k => spec_l3Whole.l0 k D (oS st) (qS st)) (D, oS (whO st), qS (whO st))
  | [], _ => Ev.step (fun k => spec_l3Whole.l0.eq_2 _ _ _ k) (Ev.ifn (by decide) (Ev.now _))
  | (p, q) :: r, h => by
    have h' : r.length ≤ 100000 := by simp at h; omega
    have ih := specWhole_ev D r h'
    rw [oS_cons, qS_cons]
    refine Ev.step (fun k => spec_l3Whole.l0.eq_2 _ _ _ k) ?_
    rw [snoc_len (oS_len r), snoc_len (qS_len r), wrap_last h', rdB_last (qS_len r), take_last (oS_len r), take_last (qS_len r)]
    refine Ev.ifp (by omega) (Ev.ifp (by omega) (Ev.ifp (by omega) (Ev.iff (fun c => ?_) (fun c => ?_))))
    · have e : whO ((p, q) :: r) = whO r := if_pos c
      rw [e]
      exact Ev.ifp (by omega) (Ev.ifp (by omega) (Ev.ifp (by omega) ih))
    · have e : whO ((p, q) :: r) = (p, q) :: r := if_neg c
      rw [e, oS_cons, qS_cons]
      exact Ev.now _
theorem implWhole_ev (D : List S80) : ∀ st : List (Int × Bool), st.length ≤ 100000 → okO st → Ev (fun k => impl_dataReader_whole.l0 k D (eS st)) (D, eS (whO st))
  | [], _, _ => Ev.step (fun k => impl_dataReader_whole.l0.eq_2 _ _ k) (Ev.ifn (by decide) (Ev.now _))
  | (p, q) :: r, h, ho => by
    have h' : r.length ≤ 100000 := by simp at h; omega
    have ih := implWhole_ev D r h' (okO_tail ho)
    have hp := ho (p, q) (List.mem_cons_self ..)
    rw [eS_cons]
    refine Ev.step (fun k => impl_dataReader_whole.l0.eq_2 _ _ k) ?_
    rw [snoc_len (eS_len r), wrap_last h', rd_last (eS_len r), take_last (eS_len r)]
    refine Ev.ifp (by omega) (Ev.ifp (by omega) (Ev.ifp (by omega) ?_))
    by_cases c : q = true
    · have e : whO ((p, q) :: r) = whO r := if_pos c
      have e2 : encO (p, q) = -1 - p := if_pos c
      rw [e, e2]
      exact Ev.ifp (by omega) (Ev.ifp (by omega) ih)
    · have e : whO ((p, q) :: r) = (p, q) :: r := if_neg c
      have e2 : encO (p, q) = p := if_neg c
      rw [e, eS_cons, e2]
      exact Ev.ifn (by omega) (Ev.now _)
/-! ### A datum put behind the others -/
theorem two_ne : ¬ (2 : Int) = 0 := by decide
theorem one_ne : ¬ (1 : Int) = 0 := by decide
theorem ff_ne : ¬ (false = true) := by decide
theorem specPut_ev (D : List S80) (st : List (Int × Bool)) (hD : D.length ≤ 1000) (hs : st.length ≤ 1000) (K P N : Int) (s : ByteArray) :
    Ev (fun k => spec_l3Put.f k D (oS st) (qS st) K P N s) (if 80 ≤ D.length ∨ 12 ≤ st.length then (2, D, oS st, qS st) else (0, D ++ [⟨K, topO st, N, s⟩], oS st, qS st)) := by
  have j : ∀ b : Bool, Ev (fun k => spec_l3Put.j0 k b D (oS st) (qS st) K P N s) (if b = true then (2, D, oS st, qS st) else (0, D ++ [⟨K, topO st, N, s⟩], oS st, qS st)) := by
    intro b
    refine Ev.step (fun k => spec_l3Put.j0.eq_2 _ _ _ _ _ _ _ _ k) (Ev.iff (fun c => Ev.leaf (by rw [if_pos c])) (fun c => ?_))
    rw [if_neg c]
    cases st with
    | nil => exact Ev.ifn (by decide) (Ev.ifp (by omega) (Ev.now _))
    | cons a r =>
      have h' : r.length ≤ 100000 := by simp at hs; omega
      rw [oS_cons, snoc_len (oS_len r), wrap_last h', rd_last (oS_len r)]
      exact Ev.ifp (by omega) (Ev.ifp (by omega) (Ev.ifp (by omega) (Ev.ifp (by omega) (Ev.now _))))
  refine Ev.congr (fun k => spec_l3Put.f.eq_1 k _ _ _ _ _ _ _) (Ev.iff (fun c => ?_) (fun c => ?_))
  · rw [if_pos (.inl (by omega))]
    have := j true
    rw [if_pos rfl] at this
    exact this
  · refine Ev.cast (j _) ?_
    rw [oS_len]
    by_cases d : 12 ≤ st.length
    · rw [if_pos (by rw [decide_eq_true_eq]; omega), if_pos (.inr d)]
    · rw [if_neg (by rw [decide_eq_true_eq]; omega), if_neg (by omega)]
theorem implTop_eq (D : List S80) (st : List (Int × Bool)) (hs : st.length ≤ 1000) (ho : okO st) : ∃ b, impl_dataReader_top.f D (eS st) = some (topO st, b) ∧ (b = true ↔ ∃ p r, st = (p, true) :: r) := by
  unfold impl_dataReader_top.f
  cases st with
  | nil => exact ⟨false, if_pos rfl, by simp⟩
  | cons a r =>
    obtain ⟨p, q⟩ := a
    have hp := ho (p, q) (List.mem_cons_self ..)
    have h' : r.length ≤ 100000 := by simp at hs; omega
    rw [eS_cons, snoc_len (eS_len r), wrap_last h', rd_last (eS_len r), if_neg (by omega), if_pos (by omega), if_pos (by omega)]
    cases q with
    | true =>
      have e2 : encO (p, true) = -1 - p := if_pos rfl
      rw [e2, if_pos (by simp only at hp; omega), wrap_id (by simp only at hp; omega) (by simp only at hp; omega)]
      refine ⟨true, ?_, by simp⟩
      congr 2
      show -1 - (-1 - p) = p
      omega
    | false =>
      have e2 : encO (p, false) = p := rfl
      rw [e2, if_neg (by simp only at hp; omega)]
      exact ⟨false, rfl, by simp⟩
theorem implAdd_eq (D : List S80) (st : List (Int × Bool)) (hD : D.length ≤ 1000) (hs : st.length ≤ 1000) (ho : okO st) (K P N : Int) (s : ByteArray) (m : Int) (hm : 0 ≤ m) (hm2 : m ≤ 1) :
    impl_dataReader_add.f D (eS st) K P N s m = some (if 80 < (D.length : Int) + 1 + m ∨ 12 < (st.length : Int) + 1 + m then (false, D, eS st) else (true, D ++ [⟨K, topO st, N, s⟩], eS st)) := by
  unfold impl_dataReader_add.f
  obtain ⟨b, hb, _⟩ := implTop_eq D st hs ho
  rw [eS_len, hb]
  have w1 : wrap64 ((D.length : Int) + 1) = (D.length : Int) + 1 := wrap_id (by omega) (by omega)
  have w2 : wrap64 ((st.length : Int) + 1) = (st.length : Int) + 1 := wrap_id (by omega) (by omega)
  rw [w1, w2, wrap_id (x := (D.length : Int) + 1 + m) (by omega) (by omega), wrap_id (x := (st.length : Int) + 1 + m) (by omega) (by omega)]
  by_cases c : 80 < (D.length : Int) + 1 + m
  · rw [if_pos (by omega), if_pos (.inl c)]
  · rw [if_neg (by omega)]
    by_cases d : 12 < (st.length : Int) + 1 + m
    · rw [if_pos (by omega), if_pos (.inr d)]
    · rw [if_neg (by omega), if_neg (by omega), Option.bind_some, if_pos (by omega)]
/-! ### A token -/
def quoteT : ByteArray := ⟨#[113, 117, 111, 116, 101]⟩
/-- What a token does: a code, the data, the lists that are open. -/
def tokenR (D : List S80) (st : List (Int × Bool)) (t : S44) : Int × List S80 × List (Int × Bool) :=
  if t.f0 = 1 then (if 80 ≤ D.length ∨ 12 ≤ st.length then (2, D, st) else (0, D ++ [⟨4, topO st, 0, ⟨#[]⟩⟩], ((D.length : Int), false) :: st))
  else if t.f0 = 2 then (match st with
    | [] => (1, D, st)
    | a :: r => if a.2 = true then (1, D, st) else (0, D, whO r))
  else if t.f0 = 3 then (if 79 ≤ D.length ∨ 11 ≤ st.length then (2, D, st) else (0, (D ++ [⟨4, topO st, 0, ⟨#[]⟩⟩]) ++ [⟨3, (D.length : Int), 0, quoteT⟩], ((D.length : Int), true) :: st))
  else (if 80 ≤ D.length ∨ 12 ≤ st.length then (2, D, st) else (0, D ++ [⟨wrap64 (t.f0 - 3), topO st, t.f1, t.f2⟩], whO st))
theorem specBegin_ev (D : List S80) (st : List (Int × Bool)) (hD : D.length ≤ 900) (hs : st.length ≤ 900) (b : Bool) :
    ∃ D' O' Q', Ev (fun k => spec_l3Begin.f k D (oS st) (qS st) b) ((if (80 ≤ D.length ∨ 12 ≤ st.length) ∨ (b = true ∧ (79 ≤ D.length ∨ 11 ≤ st.length)) then 2 else 0), D', O', Q') ∧
      (¬ ((80 ≤ D.length ∨ 12 ≤ st.length) ∨ (b = true ∧ (79 ≤ D.length ∨ 11 ≤ st.length))) → D' = (D ++ [⟨4, topO st, 0, ⟨#[]⟩⟩]) ++ (if b = true then [⟨3, (D.length : Int), 0, quoteT⟩] else []) ∧ O' = oS (((D.length : Int), b) :: st) ∧ Q' = qS (((D.length : Int), b) :: st)) := by
  have h1 := specPut_ev D st (by omega) (by omega) 4 0 0 ⟨#[]⟩
  by_cases c : 80 ≤ D.length ∨ 12 ≤ st.length
  · rw [if_pos c] at h1
    refine ⟨D, oS st, qS st, ?_, fun h => absurd (.inl c) h⟩
    rw [if_pos (.inl c)]
    exact Ev.congr (fun k => spec_l3Begin.f.eq_1 k _ _ _ _) (Ev.bind h1 (Ev.ifn two_ne (Ev.now _)))
  · rw [if_neg c] at h1
    have wl : wrap64 (((D ++ [(⟨4, topO st, 0, ⟨#[]⟩⟩ : S80)]).length : Int) - 1) = (D.length : Int) := by rw [List.length_append, List.length_singleton]; exact wrap_last (by omega)
    have pre : ∀ r, Ev (fun k => if b = true then (spec_l3Put.f k (D ++ [⟨4, topO st, 0, ⟨#[]⟩⟩]) (oS (((D.length : Int), b) :: st)) (qS (((D.length : Int), b) :: st)) 3 0 0 quoteT).bind fun x => some (x.1, x.2.1, x.2.2.1, x.2.2.2) else some (0, D ++ [⟨4, topO st, 0, ⟨#[]⟩⟩], oS (((D.length : Int), b) :: st), qS (((D.length : Int), b) :: st))) r → Ev (fun k => spec_l3Begin.f k D (oS st) (qS st) b) r := by
      intro r hr
      refine Ev.congr (fun k => spec_l3Begin.f.eq_1 k _ _ _ _) (Ev.bind h1 (Ev.ifp rfl (Ev.ifp (by show (oS st).length < _; rw [oS_len]; omega) (Ev.bind0 rfl (Ev.ifp (by show (qS st).length < _; rw [qS_len]; omega) (Ev.bind0 rfl ?_))))))
      show Ev (fun k => if b = true then (spec_l3Put.f k (D ++ [⟨4, topO st, 0, ⟨#[]⟩⟩]) (oS st ++ [wrap64 (((D ++ [(⟨4, topO st, 0, ⟨#[]⟩⟩ : S80)]).length : Int) - 1)]) (qS st ++ [b]) 3 0 0 quoteT).bind fun x => some (x.1, x.2.1, x.2.2.1, x.2.2.2) else some (0, D ++ [⟨4, topO st, 0, ⟨#[]⟩⟩], oS st ++ [wrap64 (((D ++ [(⟨4, topO st, 0, ⟨#[]⟩⟩ : S80)]).length : Int) - 1)], qS st ++ [b])) r
      rw [wl]
      rw [oS_cons, qS_cons] at hr
      exact hr
    cases b with
    | false =>
      refine ⟨D ++ [⟨4, topO st, 0, ⟨#[]⟩⟩], oS (((D.length : Int), false) :: st), qS (((D.length : Int), false) :: st), pre _ (Ev.ifn ff_ne (Ev.leaf ?_)), fun _ => ⟨?_, rfl, rfl⟩⟩
      · rw [if_neg (by simp; omega)]
      · simp
    | true =>
      have h2 := specPut_ev (D ++ [⟨4, topO st, 0, ⟨#[]⟩⟩]) (((D.length : Int), true) :: st) (by simp; omega) (by simp; omega) 3 0 0 quoteT
      rw [List.length_append, List.length_singleton, List.length_cons] at h2
      by_cases d : 79 ≤ D.length ∨ 11 ≤ st.length
      · rw [if_pos (by omega)] at h2
        refine ⟨D ++ [⟨4, topO st, 0, ⟨#[]⟩⟩], oS (((D.length : Int), true) :: st), qS (((D.length : Int), true) :: st), pre _ (Ev.ifp rfl (Ev.bind h2 (Ev.leaf ?_))), fun h => absurd (.inr ⟨rfl, d⟩) h⟩
        rw [if_pos (.inr ⟨rfl, d⟩)]
      · rw [if_neg (by omega)] at h2
        refine ⟨(D ++ [⟨4, topO st, 0, ⟨#[]⟩⟩]) ++ [⟨3, (D.length : Int), 0, quoteT⟩], oS (((D.length : Int), true) :: st), qS (((D.length : Int), true) :: st), pre _ (Ev.ifp rfl (Ev.bind h2 (Ev.leaf ?_))), fun _ => ⟨?_, rfl, rfl⟩⟩
        · rw [if_neg (by simp; omega)]; rfl
        · rfl
theorem specToken_ev (D : List S80) (st : List (Int × Bool)) (t : S44) (hD : D.length ≤ 900) (hs : st.length ≤ 900) :
    ∃ D' O' Q', Ev (fun k => spec_l3Token.f k D (oS st) (qS st) t.f0 t.f1 t.f2) ((tokenR D st t).1, D', O', Q') ∧ ((tokenR D st t).1 = 0 → D' = (tokenR D st t).2.1 ∧ O' = oS (tokenR D st t).2.2 ∧ Q' = qS (tokenR D st t).2.2) := by
  unfold tokenR
  by_cases c1 : t.f0 = 1
  · simp only [if_pos c1]
    obtain ⟨D', O', Q', h, h2⟩ := specBegin_ev D st hD hs false
    refine ⟨D', O', Q', Ev.congr (fun k => spec_l3Token.f.eq_1 k _ _ _ _ _ _) (Ev.ifp c1 (Ev.bind h (Ev.leaf ?_))), fun h3 => ?_⟩
    · by_cases d : 80 ≤ D.length ∨ 12 ≤ st.length
      · rw [if_pos (.inl d), if_pos d]
      · rw [if_neg (by simp; omega), if_neg d]
    · by_cases d : 80 ≤ D.length ∨ 12 ≤ st.length
      · rw [if_pos d] at h3; exact absurd h3 two_ne
      · rw [if_neg d]
        obtain ⟨e1, e2, e3⟩ := h2 (by simp; omega)
        exact ⟨by rw [e1]; simp, e2, e3⟩
  · by_cases c3 : t.f0 = 3
    · simp only [if_neg c1, if_neg (show ¬ t.f0 = 2 by omega), if_pos c3]
      obtain ⟨D', O', Q', h, h2⟩ := specBegin_ev D st hD hs true
      refine ⟨D', O', Q', Ev.congr (fun k => spec_l3Token.f.eq_1 k _ _ _ _ _ _) (Ev.ifn c1 (Ev.ifp c3 (Ev.bind h (Ev.leaf ?_)))), fun h3 => ?_⟩
      · by_cases d : 79 ≤ D.length ∨ 11 ≤ st.length
        · rw [if_pos (.inr ⟨rfl, d⟩), if_pos d]
        · rw [if_neg (by simp; omega), if_neg d]
      · by_cases d : 79 ≤ D.length ∨ 11 ≤ st.length
        · rw [if_pos d] at h3; exact absurd h3 two_ne
        · rw [if_neg d]
          obtain ⟨e1, e2, e3⟩ := h2 (by simp; omega)
          exact ⟨by rw [e1]; rfl, e2, e3⟩
    · by_cases c2 : t.f0 = 2
      · simp only [if_neg c1, if_pos c2]
        cases st with
        | nil => exact ⟨D, [], [], Ev.congr (fun k => spec_l3Token.f.eq_1 k _ _ _ _ _ _) (Ev.ifn c1 (Ev.ifn c3 (Ev.ifp c2 (Ev.ifp (by decide) (Ev.now _))))), fun h => absurd h (by show ¬ (_ : Int) = 0; first | exact two_ne | exact one_ne)⟩
        | cons a r =>
          have h' : r.length ≤ 100000 := by simp at hs; omega
          rw [oS_cons, qS_cons]
          by_cases q : a.2 = true
          · simp only [if_pos q]
            refine ⟨D, oS r ++ [a.1], qS r ++ [a.2], ?_, fun h => absurd h (by show ¬ (_ : Int) = 0; first | exact two_ne | exact one_ne)⟩
            refine Ev.congr (fun k => spec_l3Token.f.eq_1 k _ _ _ _ _ _) ?_
            rw [snoc_len (oS_len r), snoc_len (qS_len r), wrap_last h', rdB_last (qS_len r)]
            exact Ev.ifn c1 (Ev.ifn c3 (Ev.ifp c2 (Ev.ifn (by omega) (Ev.ifp (by omega) (Ev.ifp (by omega) (Ev.ifp q (Ev.now _)))))))
          · simp only [if_neg q]
            refine ⟨D, oS (whO r), qS (whO r), ?_, fun _ => ⟨rfl, rfl, rfl⟩⟩
            refine Ev.congr (fun k => spec_l3Token.f.eq_1 k _ _ _ _ _ _) ?_
            rw [snoc_len (oS_len r), snoc_len (qS_len r), wrap_last h', rdB_last (qS_len r), take_last (oS_len r), take_last (qS_len r)]
            exact Ev.ifn c1 (Ev.ifn c3 (Ev.ifp c2 (Ev.ifn (by omega) (Ev.ifp (by omega) (Ev.ifp (by omega) (Ev.ifn q (Ev.ifp (by omega) (Ev.ifp (by omega) (Ev.bind (Ev.congr (fun k => spec_l3Whole.f.eq_1 k _ _ _) (specWhole_ev D r h')) (Ev.now _))))))))))
      · simp only [if_neg c1, if_neg c2, if_neg c3]
        have h1 := specPut_ev D st (by omega) (by omega) (wrap64 (t.f0 - 3)) 0 t.f1 t.f2
        by_cases d : 80 ≤ D.length ∨ 12 ≤ st.length
        · rw [if_pos d] at h1
          simp only [if_pos d]
          exact ⟨D, oS st, qS st, Ev.congr (fun k => spec_l3Token.f.eq_1 k _ _ _ _ _ _) (Ev.ifn c1 (Ev.ifn c3 (Ev.ifn c2 (Ev.bind h1 (Ev.ifn two_ne (Ev.now _)))))), fun h => absurd h (by show ¬ (_ : Int) = 0; first | exact two_ne | exact one_ne)⟩
        · rw [if_neg d] at h1
          simp only [if_neg d]
          exact ⟨_, _, _, Ev.congr (fun k => spec_l3Token.f.eq_1 k _ _ _ _ _ _) (Ev.ifn c1 (Ev.ifn c3 (Ev.ifn c2 (Ev.bind h1 (Ev.ifp rfl (Ev.bind (Ev.congr (fun k => spec_l3Whole.f.eq_1 k _ _ _) (specWhole_ev _ st (by omega))) (Ev.now _))))))), fun _ => ⟨rfl, rfl, rfl⟩⟩
theorem wrap_two (x : Int) : wrap64 (wrap64 (x - 4) + 1) = wrap64 (x - 3) := by unfold wrap64; omega
theorem implToken_ev (D : List S80) (st : List (Int × Bool)) (t : S44) (hD : D.length ≤ 900) (hs : st.length ≤ 900) (ho : okO st) :
    ∃ D' O', Ev (fun k => impl_dataReader_token.f k D (eS st) t.f0 t.f1 t.f2) ((tokenR D st t).1, D', O') ∧ ((tokenR D st t).1 = 0 → D' = (tokenR D st t).2.1 ∧ O' = eS (tokenR D st t).2.2) := by
  unfold tokenR
  by_cases c1 : t.f0 = 1
  · simp only [if_pos c1]
    have h := implAdd_eq D st (by omega) (by omega) ho 4 0 0 ⟨#[]⟩ 0 (by omega) (by omega)
    by_cases d : 80 ≤ D.length ∨ 12 ≤ st.length
    · rw [if_pos (by omega)] at h
      simp only [if_pos d]
      exact ⟨_, _, Ev.congr (fun k => impl_dataReader_token.f.eq_1 k _ _ _ _ _) (Ev.ifp c1 (Ev.bind0 h (Ev.ifn ff_ne (Ev.now _)))), fun h => absurd h (by show ¬ (_ : Int) = 0; first | exact two_ne | exact one_ne)⟩
    · rw [if_neg (by omega)] at h
      simp only [if_neg d]
      refine ⟨_, _, Ev.congr (fun k => impl_dataReader_token.f.eq_1 k _ _ _ _ _) (Ev.ifp c1 (Ev.bind0 h (Ev.ifp rfl (Ev.ifp (by show (eS st).length < _; rw [eS_len]; omega) (Ev.now _))))), fun _ => ⟨rfl, ?_⟩⟩
      rw [eS_cons]
      rfl
  · by_cases c2 : t.f0 = 2
    · simp only [if_neg c1, if_pos c2]
      obtain ⟨b, hb, hb2⟩ := implTop_eq D st (by omega) ho
      cases st with
      | nil =>
        exact ⟨_, _, Ev.congr (fun k => impl_dataReader_token.f.eq_1 k _ _ _ _ _) (Ev.ifn c1 (Ev.ifp c2 (Ev.bind0 hb (Ev.ifp (show (-1 : Int) < 0 by decide) (Ev.now _))))), fun h => absurd h (by show ¬ (_ : Int) = 0; first | exact two_ne | exact one_ne)⟩
      | cons a r =>
        obtain ⟨p, q⟩ := a
        have hp := ho (p, q) (List.mem_cons_self ..)
        have h' : r.length ≤ 100000 := by simp at hs; omega
        have hn : ¬ (topO ((p, q) :: r) < 0) := by show ¬ p < 0; simp only at hp; omega
        by_cases q1 : q = true
        · simp only [if_pos q1]
          have hbt : b = true := hb2.mpr ⟨p, r, by rw [q1]⟩
          exact ⟨_, _, Ev.congr (fun k => impl_dataReader_token.f.eq_1 k _ _ _ _ _) (Ev.ifn c1 (Ev.ifp c2 (Ev.bind0 hb (Ev.ifn hn (Ev.ifp hbt (Ev.now _)))))), fun h => absurd h (by show ¬ (_ : Int) = 0; first | exact two_ne | exact one_ne)⟩
        · simp only [if_neg q1]
          have hbf : ¬ b = true := fun e => by
            obtain ⟨p', r', e'⟩ := hb2.mp e
            simp only [List.cons.injEq, Prod.mk.injEq] at e'
            exact q1 e'.1.2
          refine ⟨_, _, Ev.congr (fun k => impl_dataReader_token.f.eq_1 k _ _ _ _ _) (Ev.ifn c1 (Ev.ifp c2 (Ev.bind0 hb (Ev.ifn hn (Ev.ifn hbf ?_))))), fun _ => ⟨rfl, rfl⟩⟩
          rw [eS_cons, snoc_len (eS_len r), wrap_last h', take_last (eS_len r)]
          exact Ev.ifp (by omega) (Ev.ifp (by omega) (Ev.bind (Ev.congr (fun k => impl_dataReader_whole.f.eq_1 k _ _) (implWhole_ev D r h' (okO_tail ho))) (Ev.now _)))
    · by_cases c3 : t.f0 = 3
      · simp only [if_neg c1, if_neg c2, if_pos c3]
        have h := implAdd_eq D st (by omega) (by omega) ho 4 0 0 ⟨#[]⟩ 1 (by omega) (by omega)
        by_cases d : 79 ≤ D.length ∨ 11 ≤ st.length
        · rw [if_pos (by omega)] at h
          simp only [if_pos d]
          exact ⟨_, _, Ev.congr (fun k => impl_dataReader_token.f.eq_1 k _ _ _ _ _) (Ev.ifn c1 (Ev.ifn c2 (Ev.ifp c3 (Ev.bind0 h (Ev.ifn ff_ne (Ev.now _)))))), fun h => absurd h (by show ¬ (_ : Int) = 0; first | exact two_ne | exact one_ne)⟩
        · rw [if_neg (by omega)] at h
          simp only [if_neg d]
          refine ⟨_, _, Ev.congr (fun k => impl_dataReader_token.f.eq_1 k _ _ _ _ _) (Ev.ifn c1 (Ev.ifn c2 (Ev.ifp c3 (Ev.bind0 h (Ev.ifp rfl (Ev.ifp (by show (eS st).length < _; rw [eS_len]; omega) (Ev.ifp (by show (D ++ [_]).length < _; rw [List.length_append, List.length_singleton]; omega) (Ev.now _)))))))), fun _ => ⟨rfl, ?_⟩⟩
          rw [eS_cons, wrap_id (by omega) (by omega)]
          rfl
      · simp only [if_neg c1, if_neg c2, if_neg c3]
        have h := implAdd_eq D st (by omega) (by omega) ho (wrap64 (t.f0 - 3)) 0 t.f1 t.f2 0 (by omega) (by omega)
        by_cases d : 80 ≤ D.length ∨ 12 ≤ st.length
        · rw [if_pos (by omega)] at h
          simp only [if_pos d]
          refine ⟨D, eS st, Ev.congr (fun k => impl_dataReader_token.f.eq_1 k _ _ _ _ _) (Ev.ifn c1 (Ev.ifn c2 (Ev.ifn c3 ?_))), fun h => absurd h (by show ¬ (_ : Int) = 0; first | exact two_ne | exact one_ne)⟩
          rw [wrap_two]
          exact Ev.bind0 h (Ev.ifn ff_ne (Ev.now _))
        · rw [if_neg (by omega)] at h
          simp only [if_neg d]
          refine ⟨D ++ [⟨wrap64 (t.f0 - 3), topO st, t.f1, t.f2⟩], eS (whO st), Ev.congr (fun k => impl_dataReader_token.f.eq_1 k _ _ _ _ _) (Ev.ifn c1 (Ev.ifn c2 (Ev.ifn c3 ?_))), fun _ => ⟨rfl, rfl⟩⟩
          rw [wrap_two]
          exact Ev.bind0 h (Ev.ifp rfl (Ev.bind (Ev.congr (fun k => impl_dataReader_whole.f.eq_1 k _ _) (implWhole_ev _ st (by omega) ho)) (Ev.now _)))
/-! ### All tokens -/
/-- The data of tokens from a place on: a code, a place, data. -/
def readR (ts : List S44) : Nat → Nat → List S80 → List (Int × Bool) → Int × Int × List S80
  | 0, i, D, st => if i = 0 ∨ 0 < st.length then (1, (i : Int), []) else (0, 0, D)
  | d + 1, i, D, st => if 0 < i ∧ st.length = 0 then (1, (i : Int), []) else if (tokenR D st (rd_T44 ts (i : Int))).1 = 0 then readR ts d (i + 1) (tokenR D st (rd_T44 ts (i : Int))).2.1 (tokenR D st (rd_T44 ts (i : Int))).2.2 else ((tokenR D st (rd_T44 ts (i : Int))).1, (i : Int), [])
/-- What holds behind so many tokens. -/
structure InvR (i : Nat) (D : List S80) (st : List (Int × Bool)) : Prop where
  hD : D.length ≤ 80
  hs : st.length ≤ 12
  ho : okO st
  h0 : i = 0 → st = [] ∧ D = []
  h1 : 0 < i → D ≠ []
theorem InvR.next {i : Nat} {D : List S80} {st : List (Int × Bool)} (h : InvR i D st) (t : S44) (hc : (tokenR D st t).1 = 0) : InvR (i + 1) (tokenR D st t).2.1 (tokenR D st t).2.2 := by
  obtain ⟨hD, hs, ho, h0, h1⟩ := h
  unfold tokenR at hc ⊢
  by_cases c1 : t.f0 = 1
  · simp only [if_pos c1] at hc ⊢
    by_cases d : 80 ≤ D.length ∨ 12 ≤ st.length
    · rw [if_pos d] at hc; exact absurd hc (by first | exact two_ne | exact one_ne)
    · simp only [if_neg d]
      exact ⟨by simp; omega, by simp; omega, fun e he => by
        rcases List.mem_cons.mp he with rfl | he
        · exact ⟨by simp, by simp only; omega⟩
        · exact ho e he, fun e => by omega, fun _ => by simp⟩
  · simp only [if_neg c1] at hc ⊢
    by_cases c2 : t.f0 = 2
    · simp only [if_pos c2] at hc ⊢
      cases st with
      | nil => exact absurd hc (by first | exact two_ne | exact one_ne)
      | cons a r =>
        simp only at hc ⊢
        by_cases q : a.2 = true
        · simp only [if_pos q] at hc; exact absurd hc (by first | exact two_ne | exact one_ne)
        · simp only [if_neg q]
          have hl := whO_len r
          refine ⟨hD, by simp at hs; omega, okO_whO (okO_tail ho), fun e => by omega, fun _ => h1 ?_⟩
          rcases Nat.eq_zero_or_pos i with e | e
          · exact absurd (h0 e).1 (by simp)
          · exact e
    · simp only [if_neg c2] at hc ⊢
      by_cases c3 : t.f0 = 3
      · simp only [if_pos c3] at hc ⊢
        by_cases d : 79 ≤ D.length ∨ 11 ≤ st.length
        · rw [if_pos d] at hc; exact absurd hc (by first | exact two_ne | exact one_ne)
        · simp only [if_neg d]
          exact ⟨by simp; omega, by simp; omega, fun e he => by
            rcases List.mem_cons.mp he with rfl | he
            · exact ⟨by simp, by simp only; omega⟩
            · exact ho e he, fun e => by omega, fun _ => by simp⟩
      · simp only [if_neg c3] at hc ⊢
        by_cases d : 80 ≤ D.length ∨ 12 ≤ st.length
        · rw [if_pos d] at hc; exact absurd hc (by first | exact two_ne | exact one_ne)
        · simp only [if_neg d]
          have hl := whO_len st
          exact ⟨by simp; omega, by omega, okO_whO ho, fun e => by omega, fun _ => by simp⟩
def swpD (x : Int × Int × List S80) : List S80 × Int × Int := (x.2.2, x.1, x.2.1)
theorem specRead_ev (ts : List S44) (hl : ts.length ≤ 1048576) : ∀ d i D st, i + d = ts.length → InvR i D st → Ev (fun k => spec_l3Read.l0 k ts (i : Int) D (oS st) (qS st)) (swpD (readR ts d i D st))
  | 0, i, D, st, hd, hI => by
    have e : (i : Int) = (ts.length : Int) := by omega
    refine Ev.step (fun k => spec_l3Read.l0.eq_2 _ _ _ _ _ k) (Ev.ifn (by omega) ?_)
    rw [oS_len]
    simp only [readR]
    by_cases z : i = 0
    · have e2 : (if i = 0 ∨ 0 < st.length then ((1 : Int), (i : Int), ([] : List S80)) else (0, 0, D)) = (1, (i : Int), []) := if_pos (.inl z)
      have hn : D.length = 0 := by rw [(hI.h0 z).2]; rfl
      rw [e2]
      exact Ev.ifp (by omega) (Ev.leaf (show (([] : List S80), (1 : Int), (ts.length : Int)) = ([], 1, (i : Int)) by rw [e]))
    · have hn := hI.h1 (by omega)
      have hp : 0 < D.length := List.length_pos_iff.mpr hn
      refine Ev.ifn (by omega) (Ev.iff (fun c => Ev.leaf ?_) (fun c => Ev.leaf ?_))
      · rw [if_pos (.inr (by omega)), ← e]; rfl
      · rw [if_neg (by omega)]; rfl
  | d + 1, i, D, st, hd, hI => by
    have hi : i < ts.length := by omega
    simp only [readR]
    by_cases a : 0 < i ∧ st.length = 0
    · rw [if_pos a]
      refine Ev.step (fun k => spec_l3Read.l0.eq_2 _ _ _ _ _ k) (Ev.ifp (by omega) (Ev.ifp (by omega) (Ev.step (fun k => spec_l3Read.j1.eq_2 _ _ _ _ _ _ k) (Ev.ifp ?_ (Ev.now _)))))
      rw [oS_len, a.2]
      rfl
    · rw [if_neg a]
      obtain ⟨D', O', Q', h1, h2⟩ := specToken_ev D st (rd_T44 ts (i : Int)) (by have := hI.hD; omega) (by have := hI.hs; omega)
      have go : Ev (fun k => spec_l3Read.j1 k ts (i : Int) false D (oS st) (qS st)) (swpD (if (tokenR D st (rd_T44 ts (i : Int))).1 = 0 then readR ts d (i + 1) (tokenR D st (rd_T44 ts (i : Int))).2.1 (tokenR D st (rd_T44 ts (i : Int))).2.2 else ((tokenR D st (rd_T44 ts (i : Int))).1, (i : Int), []))) := by
        refine Ev.step (fun k => spec_l3Read.j1.eq_2 _ _ _ _ _ _ k) (Ev.ifn (by decide) (Ev.ifp (by omega) (Ev.ifp (by omega) (Ev.bind h1 ?_))))
        by_cases c : (tokenR D st (rd_T44 ts (i : Int))).1 = 0
        · obtain ⟨e1, e2, e3⟩ := h2 c
          rw [if_pos c, e1, e2, e3, wrap_succ hi (by omega)]
          exact Ev.ifp c (specRead_ev ts hl d (i + 1) _ _ (by omega) (hI.next _ c))
        · rw [if_neg c]
          exact Ev.ifn c (Ev.now _)
      refine Ev.step (fun k => spec_l3Read.l0.eq_2 _ _ _ _ _ k) (Ev.ifp (by omega) (Ev.iff (fun c => ?_) (fun c => go)))
      have e : (((oS st).length : Int) == 0) = false := by rw [oS_len, beq_eq_false_iff_ne]; omega
      rw [e]
      exact go
theorem implRead_ev (ts : List S44) (hl : ts.length ≤ 1048576) (X Y : Int) : ∀ d i D st, i + d = ts.length → InvR i D st → Ev (fun k => impl_ReadData.l0 k (i : Int) X Y ts D (eS st)) (readR ts d i D st)
  | 0, i, D, st, hd, hI => by
    refine Ev.step (fun k => impl_ReadData.l0.eq_2 _ _ _ _ _ _ k) (Ev.ifn (by omega) (Ev.step (fun k => impl_ReadData.j1.eq_2 _ _ _ _ _ _ _ k) (Ev.ifn (by decide) ?_)))
    rw [eS_len]
    simp only [readR]
    refine Ev.iff (fun c => Ev.leaf (by rw [if_pos (.inl (by omega))])) (fun c => Ev.iff (fun c2 => Ev.leaf (by rw [if_pos (.inr (by omega))])) (fun c2 => Ev.ifn (by omega) (Ev.leaf (by rw [if_neg (by omega)]))))
  | d + 1, i, D, st, hd, hI => by
    have hi : i < ts.length := by omega
    simp only [readR]
    by_cases a : 0 < i ∧ st.length = 0
    · rw [if_pos a]
      refine Ev.step (fun k => impl_ReadData.l0.eq_2 _ _ _ _ _ _ k) (Ev.ifp (by omega) (Ev.ifn (by omega) (Ev.step (fun k => impl_ReadData.j1.eq_2 _ _ _ _ _ _ _ k) (Ev.ifn ?_ (Ev.ifn (by omega) (Ev.ifn ?_ (Ev.ifp (by omega) (Ev.now _))))))))
      · rw [eS_len, a.2]; decide
      · rw [eS_len, a.2]; decide
    · rw [if_neg a]
      obtain ⟨D', O', h1, h2⟩ := implToken_ev D st (rd_T44 ts (i : Int)) (by have := hI.hD; omega) (by have := hI.hs; omega) hI.ho
      have go : Ev (fun k => impl_ReadData.j1 k (i : Int) true X Y ts D (eS st)) (if (tokenR D st (rd_T44 ts (i : Int))).1 = 0 then readR ts d (i + 1) (tokenR D st (rd_T44 ts (i : Int))).2.1 (tokenR D st (rd_T44 ts (i : Int))).2.2 else ((tokenR D st (rd_T44 ts (i : Int))).1, (i : Int), [])) := by
        refine Ev.step (fun k => impl_ReadData.j1.eq_2 _ _ _ _ _ _ _ k) (Ev.ifp rfl (Ev.ifp (by omega) (Ev.ifp (by omega) (Ev.bind h1 ?_))))
        by_cases c : (tokenR D st (rd_T44 ts (i : Int))).1 = 0
        · obtain ⟨e1, e2⟩ := h2 c
          rw [if_pos c, e1, e2, wrap_succ hi (by omega)]
          exact Ev.ifp c (implRead_ev ts hl X Y d (i + 1) _ _ (by omega) (hI.next _ c))
        · rw [if_neg c]
          exact Ev.ifn c (Ev.now _)
      refine Ev.step (fun k => impl_ReadData.l0.eq_2 _ _ _ _ _ _ k) (Ev.ifp (by omega) (Ev.iff (fun c => go) (fun c => ?_)))
      have e : decide (((eS st).length : Int) > 0) = true := by rw [eS_len, decide_eq_true_eq]; omega
      rw [e]
      exact go
theorem readR_len (ts : List S44) : ∀ d i D st, InvR i D st → (readR ts d i D st).2.2.length ≤ 80
  | 0, i, D, st, h => by
    simp only [readR]
    split
    · simp
    · exact h.hD
  | d + 1, i, D, st, h => by
    simp only [readR]
    by_cases a : 0 < i ∧ st.length = 0
    · rw [if_pos a]; simp
    · rw [if_neg a]
      by_cases c : (tokenR D st (rd_T44 ts (i : Int))).1 = 0
      · rw [if_pos c]; exact readR_len ts d (i + 1) _ _ (h.next _ c)
      · rw [if_neg c]; simp
/-- The data of a text, or what is wrong. -/
noncomputable def readM (s : ByteArray) : Int × Int × List S80 := if (toksOf s).1 = 0 then readR (toksOf s).2.2 (toksOf s).2.2.length 0 [] [] else ((toksOf s).1, (toksOf s).2.1, [])
theorem InvR.zero : InvR 0 [] [] := ⟨by simp, by simp, fun e he => by simp at he, fun _ => ⟨rfl, rfl⟩, fun h => by omega⟩
theorem specReadData_ev (s : ByteArray) : Ev (fun k => spec_ReadData.f k s) (readM s) := by
  have hl := toksOf_len s
  refine Ev.congr (fun k => spec_ReadData.f.eq_1 k _) (Ev.bind (specTokensOf_ev s) ?_)
  unfold readM
  refine Ev.iff (fun c => ?_) (fun c => Ev.leaf (by rw [if_neg c]))
  rw [if_pos c]
  exact Ev.bind (Ev.congr (fun k => spec_l3Read.f.eq_1 k _) (specRead_ev _ (by omega) _ 0 [] [] (by omega) InvR.zero)) (Ev.now _)
theorem implReadData_ev (s : ByteArray) : Ev (fun k => impl_ReadData.f k s) (readM s) := by
  have hl := toksOf_len s
  refine Ev.congr (fun k => impl_ReadData.f.eq_1 k _) (Ev.bind (implTokensOf_ev s) ?_)
  unfold readM
  refine Ev.iff (fun c => ?_) (fun c => Ev.leaf (by rw [if_neg c]))
  rw [if_pos c]
  exact implRead_ev _ (by omega) _ _ _ 0 [] [] (by omega) InvR.zero
theorem readM_len (s : ByteArray) : (readM s).2.2.length ≤ 80 := by
  unfold readM
  split
  · exact readR_len _ _ 0 [] [] InvR.zero
  · simp
end Go.Proofs.YteiokhfikbndbaaDoor.R
