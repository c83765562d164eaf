/- Proved: what globals without a fault are, where a name's global lies, and what a definition leaves. Conditions: those in each head. -/
import Derived.Test.YteoccmbphmiaaaaDoorGlobOkLib
import Derived.Test.YteoccmbphmiaaaaDoorB10
namespace Go.Proofs.YteoccmbphmiaaaaDoor.B
open Go.RowKit Go.Proofs.YteoccmbphmiaaaaDoorW.PrintWords Go.Proofs.YteoccmbphmiaaaaDoorW.PrintLast Go.Proofs.YteoccmbphmiaaaaDoor.PL
set_option linter.unusedSimpArgs false

theorem bytes_eq' {a b : ByteArray} (h : a.toList = b.toList) : a = b := by
  rw [ByteArray.toList_eq, ByteArray.toList_eq] at h
  exact Go.WideShapes.bytes_inj h
theorem runU_first {ρ : Type} {B : Nat → Option ρ} {e v : ρ} : ∀ d i j, i ≤ j → j < i + d → (∀ q, i ≤ q → q < j → B q = none) → B j = some v → runU B e d i = v
  | 0, i, j, h0, h1, _, _ => by omega
  | d + 1, i, j, h0, h1, hn, hj => by
    simp only [runU]
    by_cases c : i = j
    · subst c; rw [hj]
    · rw [hn i (Nat.le_refl _) (by omega)]
      exact runU_first d (i + 1) j (by omega) (by omega) (fun q hq hq2 => hn q (by omega) hq2) hj
theorem runU_end {ρ : Type} {B : Nat → Option ρ} {e : ρ} : ∀ d i, (∀ q, i ≤ q → q < i + d → B q = none) → runU B e d i = e
  | 0, _, _ => rfl
  | d + 1, i, h => by
    simp only [runU]
    rw [h i (Nat.le_refl _) (by omega)]
    exact runU_end d (i + 1) (fun q h0 h1 => h q (by omega) (by omega))
theorem atB_some {xs : List S33} {nm : ByteArray} {j : Nat} (hj : j < xs.length) (h : xs[j].f0 = nm) : atB xs nm j = some (j : Int) := by
  unfold atB; rw [dif_pos hj, if_pos (by rw [h])]
theorem atB_none {xs : List S33} {nm : ByteArray} {j : Nat} (h : ∀ (hj : j < xs.length), xs[j].f0 ≠ nm) : atB xs nm j = none := by
  unfold atB
  split
  · rename_i hj
    rw [if_neg (fun z => h hj (bytes_eq' z))]
  · rfl
theorem atM_eq {xs : List S33} {nm : ByteArray} {j : Nat} (hj : j < xs.length) (h : xs[j].f0 = nm) (hn : ∀ i (hi : i < xs.length), i < j → xs[i].f0 ≠ nm) : atM xs nm = (j : Int) := by
  unfold atM
  exact runU_first xs.length 0 j (by omega) (by omega) (fun q _ hq => atB_none (fun hq2 => hn q hq2 hq)) (atB_some hj h)
theorem atM_none {xs : List S33} {nm : ByteArray} (h : ∀ i (hi : i < xs.length), xs[i].f0 ≠ nm) : atM xs nm = -1 := by
  unfold atM
  exact runU_end xs.length 0 (fun q _ _ => atB_none (fun hq => h q hq))
theorem atM_found {xs : List S33} {nm : ByteArray} (h : 0 ≤ atM xs nm) : ∃ (j : Nat) (hj : j < xs.length), atM xs nm = (j : Int) ∧ xs[j].f0 = nm := by
  by_cases c : ∃ (j : Nat) (hj : j < xs.length), xs[j].f0 = nm
  · obtain ⟨j, hj, hm⟩ := c
    have : ∃ (q : Nat) (hq : q < xs.length), xs[q].f0 = nm ∧ ∀ i (hi : i < xs.length), i < q → xs[i].f0 ≠ nm := by
      clear h
      induction j using Nat.strongRecOn with
      | _ j ih =>
        by_cases z : ∃ (i : Nat) (hi : i < xs.length), i < j ∧ xs[i].f0 = nm
        · obtain ⟨i, hi, hij, hz⟩ := z
          exact ih i hij hi hz
        · exact ⟨j, hj, hm, fun i hi hij hz => z ⟨i, hi, hij, hz⟩⟩
    obtain ⟨q, hq, hqm, hqn⟩ := this
    exact ⟨q, hq, atM_eq hq hqm hqn, hqm⟩
  · have := atM_none (xs := xs) (nm := nm) (fun i hi hz => c ⟨i, hi, hz⟩)
    omega
theorem atM_missing {xs : List S33} {nm : ByteArray} (h : atM xs nm < 0) : ∀ i (hi : i < xs.length), xs[i].f0 ≠ nm := by
  intro i hi hz
  have : ∃ (q : Nat) (hq : q < xs.length), xs[q].f0 = nm ∧ ∀ i (hi : i < xs.length), i < q → xs[i].f0 ≠ nm := by
    clear h
    induction i using Nat.strongRecOn with
    | _ j ih =>
      by_cases z : ∃ (i : Nat) (hi : i < xs.length), i < j ∧ xs[i].f0 = nm
      · obtain ⟨i, hi2, hij, hz2⟩ := z
        exact ih i hij hi2 hz2
      · exact ⟨j, hi, hz, fun i hi hij hz => z ⟨i, hi, hij, hz⟩⟩
  obtain ⟨q, hq, hqm, hqn⟩ := this
  have := atM_eq hq hqm hqn
  omega
/-- A global by itself has no fault. -/
def okOne (g : S33) : Prop := symB g.f0 = true ∧ valueM g.f1.f0 g.f1.f1 g.f1.f2 = 0 ∧ inB g.f2 1 99999 = true
/-- Globals without a fault, told place by place. -/
def GoodG (xs : List S33) : Prop := xs.length ≤ 60 ∧ (∀ i (h : i < xs.length), okOne xs[i]) ∧ ∀ i j (hi : i < xs.length) (hj : j < xs.length), i < j → xs[i].f0 ≠ xs[j].f0
theorem good_of {xs : List S33} (h : globM xs = 0) : GoodG xs := by
  have hl := glob_len h
  have hs : ∀ j (hj : j < xs.length), globStep xs xs[j] j = none := by
    intro j hj
    unfold globM at h
    rw [if_neg (by omega)] at h
    have hn := runU_none (globAt_ne0 (xs := xs)) xs.length 0 h j (by omega) (by omega)
    unfold globAt at hn
    rw [dif_pos hj] at hn
    exact hn
  have hp : ∀ j (hj : j < xs.length), okOne xs[j] ∧ ¬ 0 ≤ atM (xs.take j) xs[j].f0 := by
    intro j hj
    have h1 := hs j hj
    unfold globStep at h1
    repeat' split at h1
    all_goals first | (cases h1; done) | skip
    exact ⟨⟨by assumption, by assumption, by assumption⟩, by assumption⟩
  refine ⟨hl, fun i hi => (hp i hi).1, fun i j hi hj hij hz => ?_⟩
  have h2 := (hp j hj).2
  have h3 := atM_missing (xs := xs.take j) (nm := xs[j].f0) (by omega) i (by rw [List.length_take]; omega)
  rw [List.getElem_take] at h3
  exact h3 hz
theorem of_good {xs : List S33} (h : GoodG xs) : globM xs = 0 := by
  unfold globM
  rw [if_neg (by have := h.1; omega)]
  refine runU_end xs.length 0 (fun j _ hj => ?_)
  have hj' : j < xs.length := by omega
  have ho := h.2.1 j hj'
  have hm : atM (xs.take j) xs[j].f0 = -1 := atM_none (fun i hi => by
    rw [List.length_take] at hi
    rw [List.getElem_take]
    exact h.2.2 i j (by omega) hj' (by omega))
  unfold globAt globStep
  rw [dif_pos hj', if_pos ho.1, if_pos ho.2.1, if_pos ho.2.2, if_neg (by omega)]
theorem good_at {xs : List S33} (h : GoodG xs) (j : Nat) (hj : j < xs.length) : atM xs xs[j].f0 = (j : Int) :=
  atM_eq hj rfl (fun i hi hij => h.2.2 i j hi hj hij)
theorem rdGm {xs : List S33} {j : Nat} (h : j < xs.length) : rd_T33 xs (j : Int) = xs[j] := by simp [rd_T33, h]
/-- A new global behind the others. -/
theorem good_new {xs : List S33} (h : GoodG xs) (nm : ByteArray) (v : S26) (hs : symB nm = true) (hv : valueM v.f0 v.f1 v.f2 = 0) (hl : xs.length < 60) (hm : ∀ i (hi : i < xs.length), xs[i].f0 ≠ nm) : GoodG (xs ++ [⟨nm, v, 1⟩]) := by
  refine ⟨by simp; omega, fun i hi => ?_, fun i q hi hq hiq => ?_⟩
  · by_cases c : i < xs.length
    · rw [List.getElem_append_left c]; exact h.2.1 i c
    · rw [List.getElem_append_right (by omega)]
      simp only [List.getElem_singleton]
      exact ⟨hs, hv, (by decide : inB 1 1 99999 = true)⟩
  · rw [List.length_append, List.length_singleton] at hi hq
    have ci : i < xs.length := by omega
    rw [List.getElem_append_left ci]
    by_cases c : q < xs.length
    · rw [List.getElem_append_left c]; exact h.2.2 i q ci c hiq
    · rw [List.getElem_append_right (by omega)]
      simp only [List.getElem_singleton]
      exact hm i ci
theorem nameM_0 {xs : List S33} {nm : ByteArray} : nameM xs nm = 0 ↔ globM xs = 0 ∧ symB nm = true := by
  unfold nameM symM
  constructor
  · intro h
    split at h
    · rename_i a
      split at h
      · rename_i b; exact ⟨a, b⟩
      · omega
    · rename_i a; exact absurd h a
  · rintro ⟨a, b⟩
    rw [if_pos a, if_pos b]
/-- The look-up of a name that is there. -/
theorem look_hit {xs : List S33} (h : GoodG xs) (hx : okG xs) (hl : xs.length ≤ 1048576) (j : Nat) (hj : j < xs.length) : Ev (fun k => impl_LookGlobal.f k xs xs[j].f0) (0, xs[j].f0, xs[j].f1.f0, xs[j].f1.f1, xs[j].f1.f2, xs[j].f2) := by
  have hm := hx xs[j] (List.getElem_mem hj)
  have a := nameFault_ev xs xs[j].f0 hx hm.1
  have c : nameM xs xs[j].f0 = 0 := nameM_0.mpr ⟨of_good h, (h.2.1 j hj).1⟩
  have g := globalAt_ev xs xs[j].f0 (by omega)
  rw [good_at h j hj] at g
  exact Ev.congr (fun k => impl_LookGlobal.f.eq_1 k _ _) (Ev.bind a (Ev.ifp c (Ev.bind g (Ev.ifn (by omega) (Ev.ifp (by omega) (Ev.ifp (by omega) (Ev.leaf (by rw [rdGm hj]))))))))
/-- The look-up of a name that is not there. -/
theorem look_miss {xs : List S33} {nm : ByteArray} (h : GoodG xs) (hx : okG xs) (hl : xs.length ≤ 1048576) (hs : symB nm = true) (hn : nm.size ≤ 9223372036854775807) (hm : ∀ i (hi : i < xs.length), xs[i].f0 ≠ nm) : Ev (fun k => impl_LookGlobal.f k xs nm) (4, ⟨#[]⟩, 0, 0, ⟨#[]⟩, 0) := by
  have a := nameFault_ev xs nm hx hn
  have c : nameM xs nm = 0 := nameM_0.mpr ⟨of_good h, hs⟩
  have g := globalAt_ev xs nm (by omega)
  rw [atM_none hm] at g
  exact Ev.congr (fun k => impl_LookGlobal.f.eq_1 k _ _) (Ev.bind a (Ev.ifp c (Ev.bind g (Ev.ifp (by omega) (Ev.now _)))))
end Go.Proofs.YteoccmbphmiaaaaDoor.B
