/- Proved: whatever reads as data at a type of the program is a value of the matching kind, and well formed; it is used to open a law's arguments. Conditions: those that each lemma names. -/
import Derived.Test.YtolhanigjmhkgabDoorVWords
import Derived.ChangeArms
import Derived.ChangeSlices
import Derived.Deep.Slices
import Derived.WideShapes
namespace Go.Proofs.YtolhanigjmhkgabDoor.Opens
open Go.RowKit Go.WideShapes Go.Proofs.YtolhanigjmhkgabDoorW.PrintWords

/-- A kind opens a type. -/
def Opens {α : Type} (P : Program) (d : Kd α) (t : TypeId) (ok : α → Prop) : Prop :=
  d.sz = P.cellsOf t ∧ ∀ {H : Type} (enc : TypeId × Value → H) (w : World) (base : Nat) (spare : Nat → Bool) (held : Bool) (fuel : Nat) (cs : List Value) (x : DataW H × List MemPlace),
    DataW.trod enc P w base spare held fuel t cs = some x → ∃ y, d.K w y cs ∧ ok y

theorem opens_int {P : Program} {t : TypeId} {k : IntKind} (ht : P.underlying t = some (.int k)) (hc : P.cellsOf t = 1) : Opens P (Kd.int k) t (fun n => (Lit.int k n).wf = true) :=
  ⟨hc.symm, fun enc w base spare held fuel cs x h => by
    obtain ⟨n, rfl, _, hw⟩ := DataW.trod_int ht h
    exact ⟨n, rfl, hw⟩⟩
theorem opens_string {P : Program} {t : TypeId} (ht : P.underlying t = some .string) (hc : P.cellsOf t = 1) : Opens P Kd.string t (fun s => s.size ≤ maxLen) :=
  ⟨hc.symm, fun enc w base spare held fuel cs x h => by
    obtain ⟨s, rfl, _, hw⟩ := DataW.trod_string ht h
    exact ⟨s, rfl, hw⟩⟩
theorem opens_bool {P : Program} {t : TypeId} (ht : P.underlying t = some .bool) (hc : P.cellsOf t = 1) : Opens P Kd.bool t (fun _ => True) :=
  ⟨hc.symm, fun enc w base spare held fuel cs x h => by
    obtain ⟨b, rfl, _⟩ := DataW.trod_bool ht h
    exact ⟨b, rfl, trivial⟩⟩

/-- From 'for every i < n there is one' to a list. -/
theorem list_of {α : Type} {p : Nat → α → Prop} (n : Nat) (h : ∀ i, i < n → ∃ y, p i y) : ∃ l : List α, l.length = n ∧ ∀ i y, l[i]? = some y → p i y := by
  induction n with
  | zero => exact ⟨[], rfl, fun i y hy => by simp at hy⟩
  | succ n ih =>
    obtain ⟨l, hl, hp⟩ := ih (fun i hi => h i (Nat.lt_succ_of_lt hi))
    obtain ⟨y, hy⟩ := h n (Nat.lt_succ_self n)
    refine ⟨l ++ [y], by simp [hl], fun i z hz => ?_⟩
    by_cases hi : i < l.length
    · rw [List.getElem?_append_left hi] at hz
      exact hp i z hz
    · have hlt := (List.getElem?_eq_some_iff.1 hz).1
      rw [List.length_append, List.length_singleton] at hlt
      have hin : i = n := by omega
      subst hin
      rw [List.getElem?_append_right (by omega), hl] at hz
      simp at hz
      exact hz ▸ hy

theorem opens_slice {α : Type} {P : Program} {t e : TypeId} {d : Kd α} {ok : α → Prop} (ht : P.underlying t = some (.slice e)) (hc : P.cellsOf t = 1) (he : Opens P d e ok) : Opens P (Kd.slice e d) t (fun l => l.length ≤ maxLen ∧ ∀ x ∈ l, ok x) :=
  ⟨hc.symm, fun enc w base spare held fuel cs x h => by
    rcases DataW.trod_slice ht h with ⟨rfl, _⟩ | ⟨a, len, cap, elems, rest, n, _, rfl, _, _, hl, hm, hlen, hel, _, _⟩
    · exact ⟨[], ⟨none, 0, rfl, Nat.le_refl _, Kd.C_nil d w⟩, Nat.zero_le _, by simp⟩
    · have H : ∀ i, i < len → ∃ y, (∃ c, w.cells? base (a.add (i * P.cellsOf e)) (P.cellsOf e) = some c ∧ d.K w y c) ∧ ok y := fun i hi => by
        have h1 := hel i hi
        rw [List.getElem?_eq_getElem (by omega)] at h1
        obtain ⟨c, hc1, hc2⟩ := Option.bind_eq_some_iff.1 h1
        obtain ⟨y, hy, hok⟩ := he.2 _ _ _ _ _ _ _ _ hc2
        exact ⟨y, ⟨c, hc1, hy⟩, hok⟩
      obtain ⟨l, hll, hlp⟩ := list_of len H
      refine ⟨l, ⟨some a, cap, by rw [hll], by omega, rfl, by have := hm; unfold maxLen at this; omega, fun _ => ⟨a, rfl, fun j p hj => ?_⟩⟩, by omega, fun x hx => ?_⟩
      · obtain ⟨⟨c, hc1, hk⟩, _⟩ := hlp j p hj
        obtain ⟨_, hcl, hcc⟩ := World.cells?_some hc1
        refine ⟨c, by rw [hcl, he.1], hk, fun i u hu => ?_⟩
        have hi : i < P.cellsOf e := by
          have := (List.getElem?_eq_some_iff.1 hu).1
          omega
        have h2 := hcc i hi
        rw [Go.Deep.add_add] at h2
        rw [he.1, h2, hu]
      · obtain ⟨i, hi⟩ := List.mem_iff_getElem?.1 hx
        exact (hlp i x hi).2⟩

/-- A struct's fields from one on, in line. -/
def OpensF {α : Type} (P : Program) (d : Kd α) (o : Nat) (fs : List Field) (ok : α → Prop) : Prop :=
  ∀ {H : Type} (enc : TypeId × Value → H) (w : World) (base : Nat) (spare : Nat → Bool) (held : Bool) (n : Nat) (cs : List Value),
    (∀ f ∈ fs, ∃ x, DataW.trod enc P w base spare held n f.type ((cs.drop f.offset).take (P.cellsOf f.type)) = some x) → ∃ y, d.K w y ((cs.drop o).take d.sz) ∧ ok y

theorem opensF_one {α : Type} {P : Program} {d : Kd α} {ok : α → Prop} (f : Field) (h : Opens P d f.type ok) : OpensF P d f.offset [f] ok := fun enc w base spare held n cs hx => by
  obtain ⟨x, hx⟩ := hx f (List.mem_singleton.2 rfl)
  obtain ⟨y, hy, hok⟩ := h.2 _ _ _ _ _ _ _ _ hx
  exact ⟨y, by rw [h.1]; exact hy, hok⟩
theorem opensF_cons {α β : Type} {P : Program} {a : Kd α} {b : Kd β} {oka : α → Prop} {okb : β → Prop} {fs : List Field} (f : Field) (h : Opens P a f.type oka) (hb : OpensF P b (f.offset + a.sz) fs okb) :
    OpensF P (Kd.pair a b) f.offset (f :: fs) (fun p => oka p.1 ∧ okb p.2) := fun enc w base spare held n cs hx => by
  obtain ⟨x, hx1⟩ := hx f (List.mem_cons_self ..)
  obtain ⟨y, hy, hok⟩ := h.2 _ _ _ _ _ _ _ _ hx1
  obtain ⟨z, hz, hokz⟩ := hb enc w base spare held n cs (fun g hg => hx g (List.mem_cons_of_mem _ hg))
  refine ⟨(y, z), ⟨_, _, ?_, by rw [← h.1] at hy; exact hy, hz⟩, hok, hokz⟩
  show (cs.drop f.offset).take (a.sz + b.sz) = _
  rw [List.take_add, List.drop_drop]
theorem opens_struct {α β : Type} {P : Program} {t : TypeId} {fs : List Field} {d : Kd α} {ok : α → Prop} (ht : P.underlying t = some (.struct fs.toArray)) (hc : d.sz = P.cellsOf t) (f : β → α) (g : α → β) (hg : ∀ x, f (g x) = x) (h : OpensF P d 0 fs ok) :
    Opens P (Kd.iso d f) t (fun y => ok (f y)) :=
  ⟨hc, fun enc w base spare held fuel cs x hx => by
    obtain ⟨xs, n, _, _, hl, hlen, hf⟩ := DataW.trod_struct ht hx
    obtain ⟨y, hy, hok⟩ := h enc w base spare held n cs (fun f' hf' => by
      obtain ⟨i, hi⟩ := List.mem_iff_getElem?.1 hf'
      have h1 := hf i f' (by simpa using hi)
      have hlt := (List.getElem?_eq_some_iff.1 hi).1
      rw [List.getElem?_eq_getElem (by simpa [hlen] using hlt)] at h1
      exact ⟨_, h1⟩)
    refine ⟨g y, ?_, by show ok (f (g y)); rw [hg]; exact hok⟩
    show d.K w (f (g y)) cs
    rw [hg]
    rw [List.drop_zero, hc, ← hl, List.take_length] at hy
    exact hy⟩
theorem opens_imp {α : Type} {P : Program} {d : Kd α} {t : TypeId} {ok ok' : α → Prop} (h : Opens P d t ok) (hi : ∀ x, ok x → ok' x) : Opens P d t ok' :=
  ⟨h.1, fun enc w base spare held fuel cs x hx => by
    obtain ⟨y, hy, hok⟩ := h.2 enc w base spare held fuel cs x hx
    exact ⟨y, hy, hi _ hok⟩⟩

/-- An argument that is a slice, opened. -/
theorem arg_slice {α H : Type} {P : Program} {t e : TypeId} {d : Kd α} {ok : List α → Prop} {enc : TypeId × Value → H} {W : World} {spare : Nat → Bool} {held : Bool} {base b0 : Nat} {r : Reach} {v : Value} {dt : DataW H} {p : List MemPlace}
    (ht : P.underlying t = some (.slice e)) (he : Opens P (Kd.slice e d) t ok) (hv : Value.okWide P W r b0 t v) (h : DataW.Trod enc P W base spare held t v dt p) :
    ∃ (A : Option Addr) (l : List α) (c : Nat), v = .slice A l.length c ∧ Kd.C d W A l.length l ∧ l.length ≤ c ∧ ok l := by
  obtain ⟨a0, len, cap, rfl⟩ := okWide_slice ht hv
  obtain ⟨fuel, hf⟩ := h
  obtain ⟨l, ⟨A, c, hcs, hlc, hC⟩, hok⟩ := he.2 _ _ _ _ _ _ _ _ hf
  simp [Value.cells] at hcs
  obtain ⟨rfl, rfl, rfl⟩ := hcs
  exact ⟨a0, l, cap, rfl, hC, hlc, hok⟩
/-- An argument that is a struct, opened. -/
theorem arg_struct {α H : Type} {P : Program} {t : TypeId} {fs : Array Field} {d : Kd α} {ok : α → Prop} {enc : TypeId × Value → H} {W : World} {spare : Nat → Bool} {held : Bool} {base b0 : Nat} {r : Reach} {v : Value} {dt : DataW H} {p : List MemPlace}
    (ht : P.underlying t = some (.struct fs)) (he : Opens P d t ok) (hv : Value.okWide P W r b0 t v) (h : DataW.Trod enc P W base spare held t v dt p) :
    ∃ (y : α) (cs : List Value), v = .agg cs.toArray ∧ d.K W y cs ∧ ok y := by
  obtain ⟨cs, rfl, _⟩ := okWide_struct ht hv
  obtain ⟨fuel, hf⟩ := h
  obtain ⟨y, hk, hok⟩ := he.2 _ _ _ _ _ _ _ _ hf
  exact ⟨y, cs.toList, by simp, by simpa [Value.cells] using hk, hok⟩
end Go.Proofs.YtolhanigjmhkgabDoor.Opens
