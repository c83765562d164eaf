/- Proved: globals that are drawn, the right ones: what is known of them. Conditions: those in each head.  -/
import Derived.Test.YteoccmbphmiaaaaDoorGlobSem2Lib
import Derived.Test.YteoccmbphmiaaaaDoorNewGLib
import Derived.Test.YteoccmbphmiaaaaDoorDrawLib
import Derived.Test.YteoccmbphmiaaaaDoorB7
import Derived.Test.YteoccmbphmiaaaaDoorB6
import Derived.Test.YteoccmbphmiaaaaDoorB3
import Derived.Test.YteoccmbphmiaaaaDoorB3
import Derived.Test.YteoccmbphmiaaaaDoorB3
import Derived.Test.YteoccmbphmiaaaaDoorB8
import Derived.Test.YteoccmbphmiaaaaDoorB8
import Derived.Test.YteoccmbphmiaaaaDoorB8
namespace Go.Proofs.YteoccmbphmiaaaaDoor.B
open Go.RowKit Go.Proofs.YteoccmbphmiaaaaDoorW.PrintWords Go.Proofs.YteoccmbphmiaaaaDoorW.PrintLast Go.Proofs.YteoccmbphmiaaaaDoor.PL
set_option linter.unusedSimpArgs false

theorem specDefine_ev (xs : List S33) (nm : ByteArray) (v : S26) (hx : okG xs) (hn : nm.size ≤ 9223372036854775807) (hv : v.f2.size ≤ 9223372036854775807) (hl : xs.length ≤ 1048576) : Ev (fun k => spec_DefineGlobal.f k xs nm v.f0 v.f1 v.f2) (turnM xs nm v false) := by
  refine Ev.congr (fun k => spec_DefineGlobal.f.eq_1 k _ _ _ _ _) (Ev.bind (l7Asked_ev xs nm hx hn) (Ev.iff (fun c => Ev.bind (l5Fault_ev _ _ _ hv) (Ev.iff (fun d => Ev.bind (l7Put_ev xs nm v hl) (Ev.leaf ?_)) (fun d => Ev.leaf ?_))) (fun c => Ev.leaf ?_)))
  · unfold turnM; rw [if_pos c, if_pos d, if_neg (by simp)]
  · unfold turnM; rw [if_pos c, if_neg d]
  · unfold turnM; rw [if_neg c]
/-- A small value: one that may be drawn. -/
def smallV (v : S26) : Prop := v.f2.size ≤ 12
/-- Globals that may be drawn: few, one at least, with short texts. -/
def drawG (xs : List S33) : Prop := 1 ≤ xs.length ∧ xs.length ≤ 61 ∧ ∀ x ∈ xs, x.f0.size ≤ 12 ∧ x.f1.f2.size ≤ 12
theorem drawG_ok {xs : List S33} (h : drawG xs) : okG xs := fun x hx => ⟨by have := (h.2.2 x hx).1; omega, by have := (h.2.2 x hx).2; omega⟩
/-- What a definition that is taken leaves may be drawn again. -/
theorem drawG_turn {xs : List S33} {nm : ByteArray} {v : S26} (h : drawG xs) (hn : nm.size ≤ 12) (hv : smallV v) (c : (turnM xs nm v false).1 = 0) : drawG (turnM xs nm v false).2 := by
  have hl := turnM_len2 xs nm v false
  unfold turnM at c hl ⊢
  by_cases c0 : nameM xs nm = 0
  · rw [if_pos c0] at c hl ⊢
    by_cases c1 : valueM v.f0 v.f1 v.f2 = 0
    · rw [if_pos c1, if_neg (by simp)] at c hl ⊢
      unfold putG at c hl ⊢
      by_cases c2 : 0 ≤ atM xs nm
      · rw [if_pos c2] at c hl ⊢
        split at c
        · simp at c
        · rename_i c3
          rw [if_neg c3] at hl ⊢
          have d := atM_lt xs nm
          refine ⟨by simp only [upG, List.length_set]; exact h.1, hl, fun x hx => ?_⟩
          simp only [upG] at hx
          rcases List.mem_or_eq_of_mem_set hx with hm | rfl
          · exact h.2.2 x hm
          · refine ⟨?_, hv⟩
            have hj : (atM xs nm).toNat < xs.length := by omega
            have := (h.2.2 xs[(atM xs nm).toNat] (List.getElem_mem hj)).1
            rw [rdGm hj]
            exact this
      · rw [if_neg c2] at c hl ⊢
        split at c
        · simp at c
        · rename_i c3
          rw [if_neg c3] at hl ⊢
          refine ⟨by simp, hl, fun x hx => ?_⟩
          rcases List.mem_append.mp hx with hm | hm
          · exact h.2.2 x hm
          · rw [List.mem_singleton] at hm
            subst hm
            exact ⟨hn, hv⟩
    · rw [if_neg c1] at c; exact absurd c c1
  · rw [if_neg c0] at c; exact absurd c c0
theorem rdOf_mem {α : Type} {d : α} {xs : List α} {i : Int} (h0 : 0 ≤ i) (h1 : i < (xs.length : Int)) : rdOf d xs i ∈ xs := by
  unfold rdOf
  have hi : i.toNat < xs.length := by omega
  simp [List.getD, hi]
theorem l2Name_eq (l : List Int) (hl : okB l) (s : Int) (h0 : 0 ≤ s) (h1 : s ≤ 900000000) : ∃ n, spec_l2Name.f l s = some (n, s + 1) ∧ n.size ≤ 12 := by
  obtain ⟨v, hv, v0, v1, _⟩ := next_eq l hl s 8 h0 (by omega) (by omega)
  have v2 := v1 (by omega)
  unfold spec_l2Name.f
  rw [Option.bind_some]
  rw [hv, Option.bind_some, if_pos v0, if_pos (by simp; omega)]
  refine ⟨_, rfl, ?_⟩
  have hm := rdOf_mem (d := ByteArray.empty) (xs := [(⟨#[120]⟩ : ByteArray), (⟨#[121]⟩ : ByteArray), (⟨#[102]⟩ : ByteArray), (⟨#[43]⟩ : ByteArray), (⟨#[99, 97, 114]⟩ : ByteArray), (⟨#[105, 102]⟩ : ByteArray), (⟨#[110, 117, 108, 108, 63]⟩ : ByteArray), (⟨#[97]⟩ : ByteArray)]) v0 (by simp; omega)
  exact (by decide +kernel : ∀ m ∈ [(⟨#[120]⟩ : ByteArray), (⟨#[121]⟩ : ByteArray), (⟨#[102]⟩ : ByteArray), (⟨#[43]⟩ : ByteArray), (⟨#[99, 97, 114]⟩ : ByteArray), (⟨#[105, 102]⟩ : ByteArray), (⟨#[110, 117, 108, 108, 63]⟩ : ByteArray), (⟨#[97]⟩ : ByteArray)], m.size ≤ 12) _ hm
theorem pick3_ev (l : List Int) (hl : okB l) (s x : Int) (b : Bool) (h0 : 0 ≤ s) (h1 : s ≤ 900000000) : ∃ a c n s', Ev (fun k => spec_l5Draw.j0 k 3 x b l s) (a, c, n, s') ∧ n.size ≤ 12 ∧ s ≤ s' ∧ s' ≤ s + 4 := by
  obtain ⟨v, hv, _⟩ := next_eq l hl s 3 h0 (by omega) (by omega)
  obtain ⟨d, hd, _⟩ := draw_eq l hl s h0 (by omega)
  obtain ⟨p, hp, _⟩ := pick_eq l hl s [6, 7, 8] h0 (by omega) (by simp) (by simp)
  obtain ⟨q, hq, _⟩ := next_eq l hl (s + 1) 9 (by omega) (by omega) (by omega)
  have hz : (⟨#[]⟩ : ByteArray).size ≤ 12 := by decide
  by_cases c : b = true
  · exact ⟨5, v, _, s + 1, Ev.step (fun k => spec_l5Draw.j0.eq_2 _ _ _ _ _ k) (Ev.ifp c (Ev.ifp (by omega) (Ev.bind0 hv (Ev.now _)))), hz, by omega, by omega⟩
  · by_cases c2 : x = 5
    · exact ⟨p, q, _, s + 1 + 1, Ev.step (fun k => spec_l5Draw.j0.eq_2 _ _ _ _ _ k) (Ev.ifn c (Ev.ifp c2 (Ev.bind0 hp (Ev.bind0 hq (Ev.now _))))), hz, by omega, by omega⟩
    · exact ⟨1, d, _, s + 3, Ev.step (fun k => spec_l5Draw.j0.eq_2 _ _ _ _ _ k) (Ev.ifn c (Ev.ifn c2 (Ev.bind0 hd (Ev.now _)))), hz, by omega, by omega⟩
theorem value_ev (l : List Int) (hl : okB l) (s : Int) (h0 : 0 ≤ s) (h1 : s ≤ 800000000) : ∃ a c n s', Ev (fun k => spec_l5Draw.f k l s 3) (a, c, n, s') ∧ n.size ≤ 12 ∧ s ≤ s' ∧ s' ≤ s + 5 := by
  obtain ⟨v, hv, _⟩ := next_eq l hl s 7 h0 (by omega) (by omega)
  obtain ⟨b, hb, _⟩ := next_eq l hl (s + 1) 2 (by omega) (by omega) (by omega)
  obtain ⟨m, hm, hmz⟩ := l2Name_eq l hl (s + 1) (by omega) (by omega)
  have hz : (⟨#[]⟩ : ByteArray).size ≤ 12 := by decide
  by_cases c0 : v = 0
  · exact ⟨2, b, _, s + 1 + 1, Ev.congr (fun k => spec_l5Draw.f.eq_1 k _ _ _) (Ev.bind0 hv (Ev.ifp c0 (Ev.bind0 hb (Ev.now _)))), hz, by omega, by omega⟩
  by_cases c1 : v = 1
  · exact ⟨3, 0, _, s + 1, Ev.congr (fun k => spec_l5Draw.f.eq_1 k _ _ _) (Ev.bind0 hv (Ev.ifn c0 (Ev.ifp c1 (Ev.now _)))), hz, by omega, by omega⟩
  by_cases c2 : v = 2
  · exact ⟨4, 0, m, s + 1 + 1, Ev.congr (fun k => spec_l5Draw.f.eq_1 k _ _ _) (Ev.bind0 hv (Ev.ifn c0 (Ev.ifn c1 (Ev.ifp c2 (Ev.bind0 hm (Ev.now _)))))), hmz, by omega, by omega⟩
  by_cases c3 : v = 3
  · obtain ⟨a, c, n, s', he, hn, e0, e1⟩ := pick3_ev l hl (s + 1) v (v == 3) (by omega) (by omega)
    exact ⟨a, c, n, s', Ev.congr (fun k => spec_l5Draw.f.eq_1 k _ _ _) (Ev.bind0 hv (Ev.ifn c0 (Ev.ifn c1 (Ev.ifn c2 (Ev.ifp c3 he))))), hn, by omega, by omega⟩
  · obtain ⟨a, c, n, s', he, hn, e0, e1⟩ := pick3_ev l hl (s + 1) v (v == 4) (by omega) (by omega)
    exact ⟨a, c, n, s', Ev.congr (fun k => spec_l5Draw.f.eq_1 k _ _ _) (Ev.bind0 hv (Ev.ifn c0 (Ev.ifn c1 (Ev.ifn c2 (Ev.ifn c3 he))))), hn, by omega, by omega⟩
theorem bentValue_ev (l : List Int) (hl : okB l) (s : Int) (h0 : 0 ≤ s) (h1 : s ≤ 700000000) : ∃ a c n s', Ev (fun k => spec_l5BentValue.f k l s 3) (a, c, n, s') ∧ n.size ≤ 12 ∧ s ≤ s' ∧ s' ≤ s + 7 := by
  obtain ⟨a, c, n, s', he, hn, e0, e1⟩ := value_ev l hl s h0 (by omega)
  obtain ⟨v, hv, _⟩ := next_eq l hl s' 12 (by omega) (by omega) (by omega)
  obtain ⟨p, hp, _⟩ := pick_eq l hl (s' + 1) [0, 10, 5, 1] (by omega) (by omega) (by simp) (by simp)
  obtain ⟨q, hq, _⟩ := pick_eq l hl (s' + 1) [(-1), 2, 100000, 1000000001] (by omega) (by omega) (by simp) (by simp)
  obtain ⟨r, hr, r0, r1, _⟩ := next_eq l hl (s' + 1) 3 (by omega) (by omega) (by omega)
  have r2 := r1 (by omega)
  by_cases c0 : v = 0
  · exact ⟨p, c, n, s' + 1 + 1, Ev.congr (fun k => spec_l5BentValue.f.eq_1 k _ _ _) (Ev.bind he (Ev.bind0 hv (Ev.ifp c0 (Ev.bind0 hp (Ev.now _))))), hn, by omega, by omega⟩
  by_cases c1 : v = 1
  · exact ⟨a, q, n, s' + 1 + 1, Ev.congr (fun k => spec_l5BentValue.f.eq_1 k _ _ _) (Ev.bind he (Ev.bind0 hv (Ev.ifn c0 (Ev.ifp c1 (Ev.bind0 hq (Ev.now _)))))), hn, by omega, by omega⟩
  by_cases c2 : v = 2
  · refine ⟨a, c, _, s' + 1 + 1, Ev.congr (fun k => spec_l5BentValue.f.eq_1 k _ _ _) (Ev.bind he (Ev.bind0 hv (Ev.ifn c0 (Ev.ifn c1 (Ev.ifp c2 (Ev.bind0 rfl (Ev.bind0 hr (Ev.ifp r0 (Ev.ifp (by simp; omega) (Ev.now _)))))))))), ?_, by omega, by omega⟩
    have hm := rdOf_mem (d := ByteArray.empty) (xs := [(⟨#[]⟩ : ByteArray), (⟨#[65]⟩ : ByteArray), (⟨#[113]⟩ : ByteArray)]) r0 (by simp; omega)
    exact (by decide +kernel : ∀ m ∈ [(⟨#[]⟩ : ByteArray), (⟨#[65]⟩ : ByteArray), (⟨#[113]⟩ : ByteArray)], m.size ≤ 12) _ hm
  · exact ⟨a, c, n, s' + 1, Ev.congr (fun k => spec_l5BentValue.f.eq_1 k _ _ _) (Ev.bind he (Ev.bind0 hv (Ev.ifn c0 (Ev.ifn c1 (Ev.ifn c2 (Ev.now _)))))), hn, by omega, by omega⟩
theorem l7Name_eq (l : List Int) (hl : okB l) (s : Int) (h0 : 0 ≤ s) (h1 : s ≤ 900000000) : ∃ n, spec_l7Name.f l s = some (n, s + 2) ∧ n.size ≤ 12 := by
  obtain ⟨v, hv, v0, v1, _⟩ := next_eq l hl s 7 h0 (by omega) (by omega)
  have v2 := v1 (by omega)
  obtain ⟨p, hp, pm⟩ := pick_eq l hl (s + 1) [0, 1, 2, 3, 0, 1, 4, v] (by omega) (by omega) (by simp) (by simp)
  have pb : 0 ≤ p ∧ p < 7 := by
    simp only [List.mem_cons, List.not_mem_nil, or_false] at pm
    omega
  unfold spec_l7Name.f
  rw [Option.bind_some]
  rw [hv, Option.bind_some]
  simp only []
  rw [hp, Option.bind_some]
  simp only []
  rw [if_pos pb.1, if_pos (by simp; omega)]
  refine ⟨_, by rw [show s + 1 + 1 = s + 2 from by omega], ?_⟩
  have hm := rdOf_mem (d := ByteArray.empty) (xs := [(⟨#[103]⟩ : ByteArray), (⟨#[104]⟩ : ByteArray), (⟨#[99, 97, 114]⟩ : ByteArray), (⟨#[43]⟩ : ByteArray), (⟨#[113]⟩ : ByteArray), (⟨#[65]⟩ : ByteArray), (⟨#[]⟩ : ByteArray)]) pb.1 (by simp; omega)
  exact (by decide +kernel : ∀ m ∈ [(⟨#[103]⟩ : ByteArray), (⟨#[104]⟩ : ByteArray), (⟨#[99, 97, 114]⟩ : ByteArray), (⟨#[43]⟩ : ByteArray), (⟨#[113]⟩ : ByteArray), (⟨#[65]⟩ : ByteArray), (⟨#[]⟩ : ByteArray)], m.size ≤ 12) _ hm
theorem right_loop (l : List Int) (hl : okB l) : ∀ (d : Nat) (xs : List S33) (s : Int), drawG xs → 0 ≤ s → s + 6 * d ≤ 500000000 → ∃ ys s', Ev (fun k => spec_l7Right.l0 k xs (d : Int) l s) (ys, s') ∧ drawG ys ∧ s ≤ s' ∧ s' ≤ s + 6 * d
  | 0, xs, s, hx, h0, h1 => ⟨xs, s, Ev.step (fun k => spec_l7Right.l0.eq_2 _ _ _ _ k) (Ev.ifn (by omega) (Ev.now _)), hx, by omega, by omega⟩
  | d + 1, xs, s, hx, h0, h1 => by
    obtain ⟨v, hv, v0, v1, _⟩ := next_eq l hl s 4 h0 (by omega) (by omega)
    have v2 := v1 (by omega)
    obtain ⟨a, c, n, s1, he, hn, e0, e1⟩ := value_ev l hl (s + 1) (by omega) (by omega)
    have hm := rdOf_mem (d := ByteArray.empty) (xs := [(⟨#[103]⟩ : ByteArray), (⟨#[104]⟩ : ByteArray), (⟨#[99, 97, 114]⟩ : ByteArray), (⟨#[43]⟩ : ByteArray)]) v0 (by simp; omega)
    have hz := (by decide +kernel : ∀ m ∈ [(⟨#[103]⟩ : ByteArray), (⟨#[104]⟩ : ByteArray), (⟨#[99, 97, 114]⟩ : ByteArray), (⟨#[43]⟩ : ByteArray)], m.size ≤ 12) _ hm
    generalize hN : rdOf ByteArray.empty [(⟨#[103]⟩ : ByteArray), (⟨#[104]⟩ : ByteArray), (⟨#[99, 97, 114]⟩ : ByteArray), (⟨#[43]⟩ : ByteArray)] v = N at hz
    have hd := specDefine_ev xs N ⟨a, c, n⟩ (drawG_ok hx) (by omega) (by show n.size ≤ _; omega) (by have := hx.2.1; omega)
    have ht : drawG xs → (turnM xs N ⟨a, c, n⟩ false).1 = 0 → drawG (turnM xs N ⟨a, c, n⟩ false).2 := fun hx c0 => drawG_turn hx hz hn c0
    generalize turnM xs N ⟨a, c, n⟩ false = R at hd ht
    have hw : wrap64 (((d + 1 : Nat) : Int) - 1) = (d : Int) := by rw [wrap_id (by omega) (by omega)]; omega
    by_cases c0 : R.1 = 0
    · obtain ⟨ys, s', hr, hy, f0, f1⟩ := right_loop l hl d R.2 s1 (ht hx c0) (by omega) (by omega)
      refine ⟨ys, s', Ev.step (fun k => spec_l7Right.l0.eq_2 _ _ _ _ k) (Ev.ifp (by omega) (Ev.bind0 rfl (Ev.bind0 hv (Ev.ifp v0 (Ev.ifp (by simp; omega) (Ev.bind he ?_)))))), hy, by omega, by omega⟩
      simp only [hN]
      refine Ev.bind hd (Ev.ifp c0 ?_)
      rw [hw]
      exact hr
    · obtain ⟨ys, s', hr, hy, f0, f1⟩ := right_loop l hl d xs s1 hx (by omega) (by omega)
      refine ⟨ys, s', Ev.step (fun k => spec_l7Right.l0.eq_2 _ _ _ _ k) (Ev.ifp (by omega) (Ev.bind0 rfl (Ev.bind0 hv (Ev.ifp v0 (Ev.ifp (by simp; omega) (Ev.bind he ?_)))))), hy, by omega, by omega⟩
      simp only [hN]
      refine Ev.bind hd (Ev.ifn c0 ?_)
      rw [hw]
      exact hr
theorem newU_get (v : Int) (ns : List ByteArray) : ∀ d i j (h : j < (newU v ns d i).length), (newU v ns d i)[j] = ⟨rdOf ByteArray.empty ns ((i + j : Nat) : Int), ⟨8, ((i + j : Nat) : Int), ⟨#[]⟩⟩, v⟩
  | 0, _, _, h => by simp [newU] at h
  | d + 1, i, 0, h => by simp [newU]
  | d + 1, i, j + 1, h => by
    have h' : j < (newU v ns d (i + 1)).length := by rw [newU_length] at h ⊢; omega
    have := newU_get v ns d (i + 1) j h'
    rw [show i + 1 + j = i + (j + 1) from by omega] at this
    simpa [newU] using this
theorem newM_draw (v : Int) : drawG (newM v) := by
  have hl : (newM v).length = 16 := newU_length _ _ _ _
  refine ⟨by omega, by omega, fun x hx => ?_⟩
  obtain ⟨i, hi, rfl⟩ := List.getElem_of_mem hx
  have he := newU_get v primN 16 0 i hi
  rw [Nat.zero_add] at he
  have he' : (newM v)[i] = _ := he
  rw [he']
  have hi' : i < 16 := by omega
  exact ⟨(by decide +kernel : ∀ j : Fin 16, (rdOf ByteArray.empty primN (j.val : Int)).size ≤ 12) ⟨i, hi'⟩, (by decide : (⟨#[]⟩ : ByteArray).size ≤ 12)⟩
theorem right_ev (l : List Int) (hl : okB l) (s : Int) (h0 : 0 ≤ s) (h1 : s ≤ 400000000) : ∃ ys s', Ev (fun k => spec_l7Right.f k l s) (ys, s') ∧ drawG ys ∧ s ≤ s' ∧ s' ≤ s + 40 := by
  obtain ⟨v, hv, v0, v1, _⟩ := next_eq l hl s 6 h0 (by omega) (by omega)
  have v2 := v1 (by omega)
  obtain ⟨n, rfl⟩ : ∃ n : Nat, (n : Int) = v := ⟨v.toNat, Int.toNat_of_nonneg v0⟩
  obtain ⟨ys, s', hr, hy, f0, f1⟩ := right_loop l hl n (newM 1) (s + 1) (newM_draw 1) (by omega) (by omega)
  exact ⟨ys, s', Ev.congr (fun k => spec_l7Right.f.eq_1 k _ _) (Ev.bind (l7New_ev 1) (Ev.bind0 hv hr)), hy, by omega, by omega⟩
/-- Globals with short texts. -/
def smallG (xs : List S33) : Prop := xs.length ≤ 61 ∧ ∀ x ∈ xs, x.f0.size ≤ 12 ∧ x.f1.f2.size ≤ 12
theorem smallG_ok {xs : List S33} (h : smallG xs) : okG xs := fun x hx => ⟨by have := (h.2 x hx).1; omega, by have := (h.2 x hx).2; omega⟩
theorem smallG_set {xs : List S33} (h : drawG xs) (g : S33) (h0 : g.f0.size ≤ 12) (h1 : g.f1.f2.size ≤ 12) : smallG (xs.set 0 g) := by
  refine ⟨by rw [List.length_set]; exact h.2.1, fun x hx => ?_⟩
  rcases List.mem_or_eq_of_mem_set hx with hm | rfl
  · exact h.2.2 x hm
  · exact ⟨h0, h1⟩
theorem bent_ev (l : List Int) (hl : okB l) (s : Int) (h0 : 0 ≤ s) (h1 : s ≤ 300000000) : ∃ ys s', Ev (fun k => spec_l7Bent.f k l s) (ys, s') ∧ smallG ys ∧ s ≤ s' ∧ s' ≤ s + 60 := by
  obtain ⟨ys, s1, hr, hy, f0, f1⟩ := right_ev l hl s h0 (by omega)
  obtain ⟨v, hv, _⟩ := next_eq l hl s1 12 (by omega) (by omega) (by omega)
  obtain ⟨p, hp, _⟩ := pick_eq l hl (s1 + 1) [0, 99999, 100000] (by omega) (by omega) (by simp) (by simp)
  obtain ⟨r, hr2, r0, r1, _⟩ := next_eq l hl (s1 + 1) 3 (by omega) (by omega) (by omega)
  obtain ⟨a, c, n, s2, he, hn, e0, e1⟩ := bentValue_ev l hl (s1 + 1) (by omega) (by omega)
  have r2 := r1 (by omega)
  have hz := hy.1
  have hz0 : (0 : Int) < (ys.length : Int) := by omega
  have hf : rd_T33 ys 0 ∈ ys := by
    have : 0 < ys.length := by omega
    have e := rdGm this
    have e' : rd_T33 ys 0 = ys[0] := e
    rw [e']
    exact List.getElem_mem _
  have hf1 := hy.2.2 _ hf
  by_cases c0 : v = 0
  · exact ⟨_, s1 + 1 + 1, Ev.congr (fun k => spec_l7Bent.f.eq_1 k _ _) (Ev.bind hr (Ev.bind0 hv (Ev.ifp c0 (Ev.bind0 hp (Ev.ifp hz0 (Ev.now _)))))), smallG_set hy _ hf1.1 hf1.2, by omega, by omega⟩
  by_cases c1 : v = 1
  · refine ⟨_, s1 + 1 + 1, Ev.congr (fun k => spec_l7Bent.f.eq_1 k _ _) (Ev.bind hr (Ev.bind0 hv (Ev.ifn c0 (Ev.ifp c1 (Ev.bind0 rfl (Ev.bind0 hr2 (Ev.ifp r0 (Ev.ifp (by simp; omega) (Ev.ifp hz0 (Ev.now _)))))))))), smallG_set hy _ ?_ hf1.2, by omega, by omega⟩
    have hm := rdOf_mem (d := ByteArray.empty) (xs := [(⟨#[]⟩ : ByteArray), (⟨#[99, 97, 114]⟩ : ByteArray), (⟨#[65]⟩ : ByteArray)]) r0 (by simp; omega)
    exact (by decide +kernel : ∀ m ∈ [(⟨#[]⟩ : ByteArray), (⟨#[99, 97, 114]⟩ : ByteArray), (⟨#[65]⟩ : ByteArray)], m.size ≤ 12) _ hm
  by_cases c2 : v = 2
  · exact ⟨_, s2, Ev.congr (fun k => spec_l7Bent.f.eq_1 k _ _) (Ev.bind hr (Ev.bind0 hv (Ev.ifn c0 (Ev.ifn c1 (Ev.ifp c2 (Ev.bind he (Ev.ifp hz0 (Ev.now _)))))))), smallG_set hy _ hf1.1 hn, by omega, by omega⟩
  by_cases c3 : v = 3
  · refine ⟨_, s1 + 1, Ev.congr (fun k => spec_l7Bent.f.eq_1 k _ _) (Ev.bind hr (Ev.bind0 hv (Ev.ifn c0 (Ev.ifn c1 (Ev.ifn c2 (Ev.ifp c3 (Ev.ifp (by omega) (Ev.now _)))))))), ⟨by rw [List.length_replicate]; omega, fun x hx => ?_⟩, by omega, by omega⟩
    obtain rfl := List.eq_of_mem_replicate hx
    exact ⟨by decide, by decide⟩
  · exact ⟨ys, s1 + 1, Ev.congr (fun k => spec_l7Bent.f.eq_1 k _ _) (Ev.bind hr (Ev.bind0 hv (Ev.ifn c0 (Ev.ifn c1 (Ev.ifn c2 (Ev.ifn c3 (Ev.now _))))))), ⟨hy.2.1, hy.2.2⟩, by omega, by omega⟩
theorem drawDefine_ev (l : List Int) (hl : okB l) : ∃ xs nm a c n, Ev (fun k => spec_DrawDefineGlobal.f k l) (xs, nm, a, c, n) ∧ smallG xs ∧ nm.size ≤ 12 ∧ n.size ≤ 12 := by
  obtain ⟨xs, s1, h1, hx, f0, f1⟩ := bent_ev l hl 0 (by omega) (by omega)
  obtain ⟨nm, h2, hz⟩ := l7Name_eq l hl s1 (by omega) (by omega)
  obtain ⟨a, c, n, s2, h3, hn, e0, e1⟩ := bentValue_ev l hl (s1 + 2) (by omega) (by omega)
  exact ⟨xs, nm, a, c, n, Ev.congr (fun k => spec_DrawDefineGlobal.f.eq_1 k _) (Ev.bind0 rfl (Ev.bind h1 (Ev.bind0 h2 (Ev.bind h3 (Ev.now _))))), hx, hz, hn⟩
end Go.Proofs.YteoccmbphmiaaaaDoor.B
